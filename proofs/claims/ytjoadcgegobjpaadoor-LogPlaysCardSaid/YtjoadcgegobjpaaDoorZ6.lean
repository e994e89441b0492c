/-
  The walk of record.Scan.
-/
import Derived.Test.YtjoadcgegobjpaaDoorZ5
import Derived.Maps.AppendAt
import Derived.LaidEql
import Derived.Stop.Asserts
namespace Go.Proofs.YtjoadcgegobjpaaDoor
open Go.RowKit Go.Shelf
attribute [local go_sem] Oper.semAt_some

/-- All rows of cells lie as they lay. -/
def CellsKept (A C : World) : Prop := ∀ (k : Nat) (cs : Array Value) (t : TypeId) (fz : Nat × Nat), A.heap[k]? = some (.cells cs t fz) → C.heap[k]? = some (.cells cs t fz)
theorem soft_of {B : Nat} {I : World → Prop} (h : ∀ A C, I A → CellsKept A C → Mod (fun b => B ≤ b) A C → I C) : Soft B I where
  below := fun {A C} hi hb => h A C hi (fun k cs t fz hk => (hb.block k (Array.getElem?_eq_some_iff.1 hk).1).trans hk) (Mod.of_below hb)
  put := fun {A l o} o' hi hl hk ho => h A _ hi (fun k cs t fz hk2 => by
    by_cases e : k = l
    · subst e
      rw [hk] at hk2
      injection hk2 with hk2
      rw [hk2] at ho
      simp [Obj.isCells] at ho
    · exact (World.putObj_heap_other e).trans hk2) (mod_put (by exact hl) o')
theorem Box.ck {w w' : World} {b : Nat} {cs : Array Value} {t : TypeId} (h : Box w b cs t) (hc : CellsKept w w') : Box w' b cs t := hc _ _ _ _ h
theorem own_ck {w w' : World} {base : Nat} {e : TypeId} {size n : Nat} {v : Value} {xs : List Value} (h : w.ownsRow base e size v n xs) (hc : CellsKept w w') : w'.ownsRow base e size v n xs := by
  refine ⟨h.1, ?_⟩
  rcases h.2 with hn | ⟨g, cap, cur, hv, hb, hg, rest⟩
  · exact .inl hn
  · exact .inr ⟨g, cap, cur, hv, hb, hc _ _ _ _ hg, rest⟩
theorem OwnM.ck {w w' : World} {base : Nat} {e : TypeId} {v : Value} {n : Nat} {xs : List Value} (h : OwnM w base e v n xs) (hc : CellsKept w w') : OwnM w' base e v n xs := by
  refine ⟨h.1, ?_⟩
  rcases h.2 with hn | ⟨g, cap, cur, fz, hv, hb, hg, rest⟩
  · exact .inl hn
  · exact .inr ⟨g, cap, cur, fz, hv, hb, hc _ _ _ _ hg, rest⟩
theorem info_row : (Tryd.prog.info? 46).map (fun i => (i.zero, i.size, i.bytes)) = some (some (.slice none 0 0), 1, 24) := by kernel_rfl
/-- What has been found so far. -/
structure Found (e : UInt32) (bl : List (List UInt8)) (B : Nat) (pre : List (Nat × Value)) (W : World) : Prop where
  row : ∀ i x, pre[i]? = some x → x.1 = posM e bl i ∧ ∃ p k, payM e bl i = some (p, k) ∧ OwnM W B 5 x.2 p.length (p.map V8)
  apart : ∀ (i j : Nat) (x y : Nat × Value), i < j → pre[i]? = some x → pre[j]? = some y → Apart x.2 y.2
theorem Found.nil (e : UInt32) (bl : List (List UInt8)) (B : Nat) (W : World) : Found e bl B [] W := ⟨fun i x h => by simp at h, fun i j x y _ h => by simp at h⟩
theorem Found.ck {e : UInt32} {bl : List (List UInt8)} {B : Nat} {pre : List (Nat × Value)} {W W' : World} (h : Found e bl B pre W) (hc : CellsKept W W') : Found e bl B pre W' :=
  ⟨fun i x hx => by obtain ⟨h1, p, k, h2, h3⟩ := h.row i x hx; exact ⟨h1, p, k, h2, h3.ck hc⟩, h.apart⟩
theorem Found.keep {e : UInt32} {bl : List (List UInt8)} {B : Nat} {pre : List (Nat × Value)} {W W' : World} (h : Found e bl B pre W) (hk : ∀ x ∈ pre, ∀ k, x.2.ownBlock = some k → k < W.heap.size → W'.heap[k]? = W.heap[k]?) : Found e bl B pre W' :=
  ⟨fun i x hx => by obtain ⟨h1, p, k, h2, h3⟩ := h.row i x hx; exact ⟨h1, p, k, h2, h3.keep (hk x (List.mem_of_getElem? hx))⟩, h.apart⟩
theorem Found.snoc {e : UInt32} {bl : List (List UInt8)} {B : Nat} {pre : List (Nat × Value)} {x : Nat × Value} {W : World} (h : Found e bl B pre W) (hx : NextR B e bl pre x W) : Found e bl B (pre ++ [x]) W := by
  obtain ⟨h1, h2, h3⟩ := hx
  refine ⟨fun i y hy => ?_, fun i j y z hij hy hz => ?_⟩
  · rcases Nat.lt_or_ge i pre.length with hi | hi
    · rw [List.getElem?_append_left hi] at hy
      exact h.row i y hy
    · rw [List.getElem?_append_right hi] at hy
      have hi0 : i - pre.length = 0 := by
        rcases Nat.eq_zero_or_pos (i - pre.length) with h0 | h0
        · exact h0
        · rw [List.getElem?_eq_none (by simp; omega)] at hy; cases hy
      rw [hi0] at hy
      obtain rfl : x = y := by simpa using hy
      rw [show i = pre.length by omega]
      exact ⟨h1, h2⟩
  · have hjl : j < (pre ++ [x]).length := (List.getElem?_eq_some_iff.1 hz).1
    rw [List.length_append, List.length_singleton] at hjl
    rw [List.getElem?_append_left (by omega)] at hy
    rcases Nat.lt_or_ge j pre.length with hj | hj
    · rw [List.getElem?_append_left hj] at hz
      exact h.apart i j y z hij hy hz
    · rw [List.getElem?_append_right hj, show j - pre.length = 0 by omega] at hz
      obtain rfl : x = z := by simpa using hz
      exact h3 y (List.mem_of_getElem? hy)
theorem Found.len {e : UInt32} {bl : List (List UInt8)} {B : Nat} {pre : List (Nat × Value)} {W : World} (h : Found e bl B pre W) : pre.length ≤ bl.length := by
  have : ∀ n, n ≤ pre.length → n ≤ posM e bl n := by
    intro n
    induction n with
    | zero => intro _; exact Nat.zero_le _
    | succ n ih =>
      intro hn
      obtain ⟨_, p, k, h2, _⟩ := h.row n pre[n] (List.getElem?_eq_getElem (by omega))
      rw [posM_succ h2]
      have := (oneM_pos h2).1
      have := ih (by omega)
      omega
  exact Nat.le_trans (this _ (Nat.le_refl _)) (posM_le _ _ _)
theorem Found.lower {e : UInt32} {bl : List (List UInt8)} {B B' : Nat} {pre : List (Nat × Value)} {W : World} (h : Found e bl B pre W) (hb : B' ≤ B) : Found e bl B' pre W :=
  ⟨fun i x hx => by obtain ⟨h1, p, k, h2, h3⟩ := h.row i x hx; exact ⟨h1, p, k, h2, h3.lower hb⟩, h.apart⟩
/-- Between two rounds of Scan. -/
structure ScanI (e : UInt32) (bl : List (List UInt8)) (lv : Value) (w w5 : World) (pre : List (Nat × Value)) (W : World) : Prop where
  found : Found e bl w5.heap.size pre W
  out : ∃ ov, Box W (w.heap.size + 1 + 1) #[ov] 39 ∧ W.ownsRow w5.heap.size 46 1 ov pre.length (pre.map (·.2))
  used : Box W (w.heap.size + 1 + 1 + 1) #[.int .i64 ((posM e bl pre.length : Nat) : Int)] 3
  ep : Box W w.heap.size #[.int .u32 (e.toNat : Int)] 22
  li : Box W (w.heap.size + 1) #[lv] 59
  below : Below w.heap.size w W
  mod : Mod (fun b => b < w.heap.size + 4 ∨ w5.heap.size ≤ b) w5 W
theorem ScanI.soft {e : UInt32} {bl : List (List UInt8)} {lv : Value} {w w5 : World} (hs : w.heap.size ≤ w5.heap.size) (pre : List (Nat × Value)) : Soft w5.heap.size (ScanI e bl lv w w5 pre) := soft_of (fun A C h hc hm => by
  obtain ⟨ov, h1, h2⟩ := h.out
  refine ⟨h.found.ck hc, ⟨ov, h1.ck hc, own_ck h2 hc⟩, h.used.ck hc, h.ep.ck hc, h.li.ck hc, h.below.trans (hm.below h.below.size (fun i hi => Nat.le_trans hs hi)), h.mod.trans (hm.mono (fun i hi => .inr hi))⟩)
theorem NextR.soft {e : UInt32} {bl : List (List UInt8)} {n : Nat} (B : Nat) (pre : List (Nat × Value)) (x : Nat × Value) : Soft n (NextR B e bl pre x) := soft_of (fun A C h hc _ => by
  obtain ⟨h1, ⟨p, k, h2, h3⟩, h4⟩ := h
  exact ⟨h1, ⟨p, k, h2, h3.ck hc⟩, h4⟩)
/-- Rows of other elements lie apart. -/
theorem apart_types {W : World} {b b' : Nat} {e e' : TypeId} {s n n' : Nat} {v v' : Value} {xs xs' : List Value} (h : W.ownsRow b e s v n xs) (h' : OwnM W b' e' v' n' xs') (hne : e ≠ e') : Apart v v' := by
  intro k hk hk'
  rcases h.2 with ⟨rfl, _⟩ | ⟨g, cap, cur, rfl, _, hg, _⟩
  · simp [Value.ownBlock] at hk
  · rcases h'.2 with ⟨rfl, _⟩ | ⟨g', cap', cur', fz, rfl, _, hg', _⟩
    · simp [Value.ownBlock] at hk'
    · simp [Value.ownBlock] at hk hk'
      subst hk; subst hk'
      rw [hg] at hg'
      injection hg' with h1; injection h1 with h2 h3 h4
      exact hne h3
theorem own_cells {W : World} {b : Nat} {e : TypeId} {s n : Nat} {v : Value} {xs : List Value} (h : W.ownsRow b e s v n xs) {k : Nat} (hk : v.ownBlock = some k) : ∃ cs t fz, W.heap[k]? = some (.cells cs t fz) := by
  rcases h.2 with ⟨rfl, _⟩ | ⟨g, cap, cur, rfl, _, hg, _⟩
  · simp [Value.ownBlock] at hk
  · simp [Value.ownBlock] at hk
    subst hk
    exact ⟨_, _, _, hg⟩
theorem ScanI.next {e : UInt32} {bl : List (List UInt8)} {lv : Value} {w w5 W w6 w7 : World} {pre : List (Nat × Value)} {x : Nat × Value} {p : List UInt8} {k : Nat} {ov v' : Value} {o : Obj} (h : ScanI e bl lv w w5 pre W) (hs : w.heap.size + 4 ≤ w5.heap.size) (hx : NextR w5.heap.size e bl pre x W) (hk : payM e bl pre.length = some (p, k))
    (hb6 : Below W.heap.size W w6) (ho1 : Box W (w.heap.size + 1 + 1) #[ov] 39) (ho2 : W.ownsRow w5.heap.size 46 1 ov pre.length (pre.map (·.2))) (hown : w7.ownsRow w5.heap.size 46 1 v' (pre.length + 1) (pre.map (·.2) ++ [x.2])) (hg : (w6.alloc o).grownBy w7 ov.ownBlock) (z : Int) (hz : z = ((posM e bl pre.length + k : Nat) : Int)) :
    KeepsOthers W ((w7.setCell ⟨w.heap.size + 1 + 1, 0, none⟩ v').setCell ⟨w.heap.size + 1 + 1 + 1, 0, none⟩ (.int .i64 z)) ∧ Mod (fun b => b < w.heap.size + 4 ∨ w5.heap.size ≤ b) W ((w7.setCell ⟨w.heap.size + 1 + 1, 0, none⟩ v').setCell ⟨w.heap.size + 1 + 1 + 1, 0, none⟩ (.int .i64 z)) ∧
      ScanI e bl lv w w5 (pre ++ [x]) ((w7.setCell ⟨w.heap.size + 1 + 1, 0, none⟩ v').setCell ⟨w.heap.size + 1 + 1 + 1, 0, none⟩ (.int .i64 z)) := by
  obtain ⟨G, hG⟩ : ∃ G : Nat → Prop, G = fun b => b = w.heap.size + 1 + 1 ∨ b = w.heap.size + 1 + 1 + 1 ∨ ov.ownBlock = some b := ⟨_, rfl⟩
  have hbo : Below W.heap.size W (w6.alloc o) := below_trans hb6 (below_alloc w6 o)
  have hm7 : Mod (fun b => ov.ownBlock = some b) W w7 := (Mod.of_below hbo).trans (Mod.of_grown hg (fun k hk => hk))
  have hm8 : Mod (fun b => b = w.heap.size + 1 + 1 ∨ b = w.heap.size + 1 + 1 + 1) w7 ((w7.setCell ⟨w.heap.size + 1 + 1, 0, none⟩ v').setCell ⟨w.heap.size + 1 + 1 + 1, 0, none⟩ (.int .i64 z)) := (Mod.set _ w7 ⟨w.heap.size + 1 + 1, 0, none⟩ v' (.inl rfl)).trans (Mod.set _ _ ⟨w.heap.size + 1 + 1 + 1, 0, none⟩ _ (.inr rfl))
  obtain ⟨w9, hw9⟩ : ∃ w9, w9 = (w7.setCell ⟨w.heap.size + 1 + 1, 0, none⟩ v').setCell ⟨w.heap.size + 1 + 1 + 1, 0, none⟩ (.int .i64 z) := ⟨_, rfl⟩
  have hm : Mod G W w9 := by rw [hw9, hG]; exact (hm7.mono (fun i hi => .inr (.inr hi))).trans (hm8.mono (fun i hi => by rcases hi with h | h; exact .inl h; exact .inr (.inl h)))
  rw [← hw9]
  have hol := fun k hk => (ho2.lt k hk).1
  have hGf : ∀ b, G b → b < w.heap.size + 4 ∨ w5.heap.size ≤ b := by
    rw [hG]; rintro b (h | h | h)
    · left; omega
    · left; omega
    · exact .inr (hol b h)
  have hrow : ∀ y ∈ pre ++ [x], ∀ k, y.2.ownBlock = some k → ¬ G k := by
    have hmem : ∀ y ∈ pre ++ [x], ∃ n xs, OwnM W w5.heap.size 5 y.2 n xs := by
      intro y hy
      rcases List.mem_append.1 hy with hy | hy
      · obtain ⟨i, hi⟩ := List.getElem?_of_mem hy
        obtain ⟨_, p, k, _, h3⟩ := h.found.row i y hi
        exact ⟨_, _, h3⟩
      · obtain rfl : y = x := by simpa using hy
        obtain ⟨_, ⟨p, k, _, h3⟩, _⟩ := hx
        exact ⟨_, _, h3⟩
    intro y hy k hk
    obtain ⟨n, xs, h3⟩ := hmem y hy
    have h4 := (h3.lt k hk).1
    rw [hG]; rintro (h | h | h)
    · omega
    · omega
    · exact apart_types ho2 h3 (by decide) k h hk
  have hpos : posM e bl (pre ++ [x]).length = posM e bl pre.length + k := by rw [List.length_append, List.length_singleton, posM_succ hk]
  refine ⟨⟨hm.size, fun k o hk ho => (hm.block k (Array.getElem?_eq_some_iff.1 hk).1 ?_).trans hk⟩, hm.mono hGf, ?_⟩
  · rw [hG]
    have hcell : ∀ cs t fz, W.heap[k]? ≠ some (.cells cs t fz) := fun cs t fz h => by
      rw [hk] at h; injection h with h; rw [h] at ho; simp [Obj.isCells] at ho
    rintro (h1 | h1 | h1)
    · subst h1; exact hcell _ _ _ ho1
    · subst h1; exact hcell _ _ _ h.used
    · obtain ⟨cs, t, fz, h2⟩ := own_cells ho2 h1
      exact hcell _ _ _ h2
  · have hv' := fun k hk => (hown.lt k hk).1
    have hox : Box w7 (w.heap.size + 1 + 1) #[ov] 39 := ho1.mod hm7 (fun h => by have := hol _ h; omega)
    have hux : Box w7 (w.heap.size + 1 + 1 + 1) #[.int .i64 ((posM e bl pre.length : Nat) : Int)] 3 := h.used.mod hm7 (fun h => by have := hol _ h; omega)
    have hmF := hm
    rw [hG] at hmF
    refine ⟨(h.found.keep (fun y hy k hk hl => hm.block k hl (hrow y (List.mem_append.2 (.inl hy)) k hk))).snoc ?_, ⟨v', ?_, ?_⟩, ?_, h.ep.mod hmF ?_, h.li.mod hmF ?_, h.below.trans (hm.below h.below.size ?_), h.mod.trans (hm.mono hGf)⟩
    · obtain ⟨h1, ⟨p, k, h2, h3⟩, h4⟩ := hx
      exact ⟨h1, ⟨p, k, h2, h3.mod hm (hrow x (List.mem_append.2 (.inr (List.mem_singleton.2 rfl))))⟩, h4⟩
    · rw [hw9]; exact (hox.set 0 v').set_other (by simp) _
    · rw [hw9, List.length_append, List.length_singleton, List.map_append]
      exact own_mod hown hm8 (fun k hk h => by have := hv' k hk; rcases h with h | h <;> omega)
    · rw [hw9, hpos, ← hz]; exact (hux.set_other (by simp) v').set 0 _
    · rintro (h1 | h1 | h1)
      · omega
      · omega
      · have := hol _ h1; omega
    · rintro (h1 | h1 | h1)
      · omega
      · omega
      · have := hol _ h1; omega
    · rw [hG]; rintro i (h1 | h1 | h1)
      · omega
      · omega
      · have := hol _ h1; omega
set_option maxRecDepth 100000 in
set_option maxHeartbeats 2000000 in
theorem scan_calls (e : UInt32) (lv : Value) (bl : List (List UInt8)) (w : World) (hl : Rd w lv bl.length (bl.map SV)) (hn : bl.length ≤ 5000000000000) (hbig : ∀ b ∈ bl, b.length ≤ 9223372036854775807) :
    Calls Tryd.prog 17 #[.int .u32 (e.toNat : Int), lv] w fun r w' => ∃ (ov : Value) (pre : List (Nat × Value)), payM e bl pre.length = none ∧ r = .returned (.tuple #[ov, .int .i64 ((posM e bl pre.length : Nat) : Int)]) ∧
      Found e bl w.heap.size pre w' ∧ w'.ownsRow w.heap.size 46 1 ov pre.length (pre.map (·.2)) ∧ Below w.heap.size w w' := by
  refine (callsIn_wide (n := 9)).1 ?_
  refine callsIn_of_wp_marks Tryd.func17 rfl trivial ?_ rfl
  simp only [Tryd.ntmps17, List.size_toArray, List.length_cons, List.length_nil, Nat.reduceAdd, Nat.reduceSub, Array.replicate_succ, Array.replicate_zero, List.push_toArray, List.append_toArray, List.nil_append, List.cons_append]
  obtain ⟨la, lc, rfl⟩ : ∃ a c, lv = .slice a bl.length c := by obtain ⟨a, c, h, _⟩ := hl; exact ⟨a, c, h⟩
  have hb1 := below_alloc w (.cells #[.int .u32 (e.toNat : Int)] 22)
  have hb2 := below_alloc (w.alloc (.cells #[.int .u32 (e.toNat : Int)] 22)) (.cells #[.slice la bl.length lc] 59)
  have hb3 := below_alloc ((w.alloc (.cells #[.int .u32 (e.toNat : Int)] 22)).alloc (.cells #[.slice la bl.length lc] 59)) (.cells #[.slice none 0 0] 39)
  have hb4 := below_alloc (((w.alloc (.cells #[.int .u32 (e.toNat : Int)] 22)).alloc (.cells #[.slice la bl.length lc] 59)).alloc (.cells #[.slice none 0 0] 39)) (.cells #[.int .i64 0] 3)
  have hx1 := (((Box.new w #[.int .u32 (e.toNat : Int)] 22).below hb2).below hb3).below hb4
  have hx2 := ((Box.new (w.alloc (.cells #[.int .u32 (e.toNat : Int)] 22)) #[.slice la bl.length lc] 59).below hb3).below hb4
  have hx3 := (Box.new ((w.alloc (.cells #[.int .u32 (e.toNat : Int)] 22)).alloc (.cells #[.slice la bl.length lc] 59)) #[.slice none 0 0] 39).below hb4
  have hx4 := Box.new (((w.alloc (.cells #[.int .u32 (e.toNat : Int)] 22)).alloc (.cells #[.slice la bl.length lc] 59)).alloc (.cells #[.slice none 0 0] 39)) #[.int .i64 0] 3
  have hbw := hb1.trans ((hb2.trans ((hb3.trans (hb4.mono (by simp))).mono (by simp))).mono (by simp))
  rw [World.size_alloc] at hx2
  rw [World.size_alloc, World.size_alloc] at hx3
  rw [World.size_alloc, World.size_alloc, World.size_alloc] at hx4
  have HX1 := Lib.hid hx1
  have HX2 := Lib.hid hx2
  have HX3 := Lib.hid hx3
  have HX4 := Lib.hid hx4
  have HBW := Lib.hid hbw
  have HLW := Lib.hid (hl.below hbw)
  have HL := Lib.hid hl
  clear hl hb1 hb2 hb3 hb4 hx1 hx2 hx3 hx4 hbw
  gi_wp2_with (gi_at_call 36; fail)
  refine ⟨trivial, ?_⟩
  refine (callsIn_wide.2 (all_calls e _ bl _ HLW.out (by omega))).mono ?_
  rintro r w5 ⟨E, B, rfl, hA, hb5⟩
  have HX1 := Lib.hid (HX1.out.below hb5)
  have HX2 := Lib.hid (HX2.out.below hb5)
  have HX3 := Lib.hid (HX3.out.below hb5)
  have HX4 := Lib.hid (HX4.out.below hb5)
  have HB5 := Lib.hid (HBW.out.trans (hb5.mono HBW.out.size))
  have hs5 := HB5.out.size
  have hA : AllAt (w.heap.size + 4) e bl E B w5 := by
    have e1 : ((((w.alloc (.cells #[.int .u32 (e.toNat : Int)] 22)).alloc (.cells #[.slice la bl.length lc] 59)).alloc (.cells #[.slice none 0 0] 39)).alloc (.cells #[.int .i64 0] 3)).heap.size = w.heap.size + 4 := by simp
    rw [e1] at hA; exact hA
  have hs54 : w.heap.size + 4 ≤ w5.heap.size := by have := hb5.size; simp only [World.size_alloc] at this; omega
  have HA := Lib.hid hA
  clear hb5 hA HBW HLW
  gi_wp2
  refine wpIn_rangeFunc_R rfl (by omega) (gf := 55) (lb := #[.pointer (some ⟨E, 0, none⟩), .pointer (some ⟨B, 0, none⟩)]) rfl trivial (enters_of Tryd.func55 (by kernel_rfl) rfl)
    (allIt e bl hbig E B (w.heap.size + 4) w5 HA.out (9 - 1) (by omega)) (fun b hb => .inr hb) (fun _ => rfl)
    (ScanI e bl (.slice la bl.length lc) w w5) (fun _ _ _ => False) (fun s => ScanI.soft hs5 s) (fun _ _ => soft_of (fun _ _ h _ _ => h)) (fun s x => NextR.soft _ s x)
    ⟨Found.nil _ _ _ _, ⟨_, HX3.out, World.ownsRow_nil _ _ _ _⟩, HX4.out, HX1.out, HX2.out, HB5.out, Mod.refl _ _⟩
    (fun x => { tmps := #[.int .u32 (e.toNat : Int), .slice la bl.length lc, .pointer (some ⟨w.heap.size, 0, none⟩), .pointer (some ⟨w.heap.size + 1, 0, none⟩), .slice none 0 0, .int .i64 0, .pointer (some ⟨w.heap.size + 1 + 1, 0, none⟩), .pointer (some ⟨w.heap.size + 1 + 1 + 1, 0, none⟩), .int .i64 (x.1 : Int), x.2, undef, undef, .int .u32 (e.toNat : Int), .slice la bl.length lc, .func (.func 55) #[] #[.pointer (some ⟨E, 0, none⟩), .pointer (some ⟨B, 0, none⟩)], .int .i64 (x.1 : Int), x.2, undef, undef, undef, undef, undef, undef, undef, undef, undef, undef, undef, undef, undef, undef, undef, undef, undef], defers := [] })
    ?assign ?body ?done ?stop
  case assign =>
    intro l x W K hK
    gi_wp2
    exact hK
  case done =>
    rintro D pre W hS hI hD hK
    obtain ⟨ov, ho1, ho2⟩ := hI.out
    have hc1 := ho1.cell 0 _ rfl
    have hc2 := hI.used.cell 0 _ rfl
    have HI := Lib.hid hI
    have HO2 := Lib.hid ho2
    have HS := Lib.hid hS
    clear hI ho1 ho2 hS
    gi_wp2
    refine wpIn_wide.2 ?_
    go_quiet (fail)
    gi_wp2
    have hdn : Below W.heap.size W (W.drewN nq) := ⟨rfl, rfl, rfl, Nat.le_refl _, fun _ _ => rfl⟩
    obtain ⟨W9, hW9⟩ : ∃ W9, W9 = W.drewN nq := ⟨_, rfl⟩
    rw [← hW9] at hdn ⊢
    have hK9 : W9.heap[D]? = some (.deferred (some [])) := (hdn.block D (Array.getElem?_eq_some_iff.1 hK).1).trans hK
    refine ⟨by simp, .inl ⟨_, _, rfl, run_takeDeferred hK9, ?_⟩⟩
    have hI10 := (ScanI.soft hs5 pre).put (.deferred none) ((ScanI.soft hs5 pre).below HI.out hdn) hD hK9 rfl
    have hso : Soft w5.heap.size (fun W => W.ownsRow w5.heap.size 46 1 ov pre.length (pre.map (·.2))) := soft_of (fun A C h hc _ => own_ck h hc)
    have ho10 := hso.put (.deferred none) (hso.below HO2.out hdn) hD hK9 rfl
    exact ⟨_, results_tmp2 rfl _ _ _, ov, pre, HS.out, rfl, hI10.found.lower hs5, own_base ho10 hs5, hI10.below⟩
  case stop =>
    rintro D c pre W _ h _ _
    exact h.elim
  case body =>
    rintro l pre x W hI hT
    obtain ⟨xa, xv⟩ := x
    obtain ⟨hxa, ⟨p, k, hp, hown⟩, hap⟩ := hT
    simp only at hxa hown hap
    obtain ⟨pa, pc, rfl, hpl⟩ := hown.slice
    obtain ⟨ov, ho1, ho2⟩ := hI.out
    obtain ⟨oa, oc, rfl, _⟩ := own_slice ho2
    have hxl : xa ≤ bl.length := by rw [hxa]; exact posM_le _ _ _
    have hLW := HL.out.below hI.below
    have hsl := run_tail (P := Tryd.prog) (t := 59) Tryd.underlying59 (by kernel_rfl) la bl.length lc xa hxl
    have hrt := tailV_rd hLW (k := xa) hxl (by simp)
    rw [← List.map_drop, ← List.length_drop] at hrt
    obtain ⟨tv, htv⟩ : ∃ t, t = tailV la bl.length lc xa := ⟨_, rfl⟩
    rw [← htv] at hsl hrt
    have hone : ∀ w', Below W.heap.size W w' → Calls Tryd.prog 37 #[.int .u32 (e.toNat : Int), tv] w' fun r w'' => ∃ v, r = .returned (.tuple #[v, .int .i64 (k : Int)]) ∧ Below W.heap.size W w'' ∧
        w''.cell? ⟨w.heap.size + 1 + 1, 0, none⟩ = some (.slice oa pre.length oc) ∧ w''.frozen? ⟨w.heap.size + 1 + 1, 0, none⟩ = false ∧ (∃ y, w''.cell? ⟨w.heap.size + 1 + 1 + 1, 0, none⟩ = some y) ∧ w''.frozen? ⟨w.heap.size + 1 + 1 + 1, 0, none⟩ = false := fun w' hb =>
      (one_calls e tv (bl.drop xa) w' (hrt.below hb) (fun b hb => hbig b (List.mem_of_mem_drop hb))).mono (fun r w'' ⟨hb2, h⟩ => by
        have hb3 := below_trans hb hb2
        rcases h with ⟨h, _⟩ | ⟨p', k', v, h, h1, h2⟩
        · rw [hxa] at h
          unfold payM at hp
          rw [hp] at h; cases h
        · rw [hxa] at h
          unfold payM at hp
          rw [hp] at h
          injection h with h; injection h with h3 h4
          subst h3; subst h4
          exact ⟨v, h1, hb3, (ho1.below hb3).cell 0 _ rfl, (ho1.below hb3).free 0, ⟨_, (hI.used.below hb3).cell 0 _ rfl⟩, (hI.used.below hb3).free 0⟩)
    have hc2 := hI.ep.cell 0 _ rfl
    have hc3 := hI.li.cell 0 _ rfl
    have HI := Lib.hid hI
    have Hone := Lib.hid hone
    have HO1 := Lib.hid ho1
    have HO2 := Lib.hid ho2
    have HXa := Lib.hid hxa
    have HP := Lib.hid hp
    have HOw := Lib.hid hown
    have HAp := Lib.hid hap
    have hd9 : 1 ≤ 9 - 1 - 1 := by omega
    have hmx : Tryd.prog.follows .mixedOrders = true := by kernel_rfl
    clear hI hone ho1 ho2 hxa hp hown hap hrt hLW htv
    obtain ⟨i0, hi, hz0, hz1, hz2⟩ := info_parts info_row
    have hlen := HI.out.found.len
    have Hr1 := Lib.hid (show pre.length + 1 ≤ maxLen by unfold maxLen; omega)
    have Hr2 := Lib.hid (show (pre.length + 1) * 24 ≤ 140737488355328 by omega)
    have HsW := Lib.hid HI.out.mod.size
    have hxk : xa + k ≤ bl.length := by
      have := posM_le e bl (pre.length + 1)
      rw [posM_succ HP.out, ← HXa.out] at this; exact this
    have hwr : wrap64 ((xa : Int) + (k : Int)) = (xa : Int) + (k : Int) := by unfold wrap64; omega
    gi_wp2
    refine wpIn_mono (Q := fun ex a' w6 => ex = Exit.normal ∧ ∃ v, a' = { tmps := #[.int .u32 (e.toNat : Int), .slice la bl.length lc, .pointer (some ⟨w.heap.size, 0, none⟩), .pointer (some ⟨w.heap.size + 1, 0, none⟩), .slice none 0 0, .int .i64 0, .pointer (some ⟨w.heap.size + 1 + 1, 0, none⟩), .pointer (some ⟨w.heap.size + 1 + 1 + 1, 0, none⟩), .int .i64 (xa : Int), .slice pa p.length pc, v, .int .i64 (k : Int), .int .u32 (e.toNat : Int), .slice la bl.length lc, .func (.func 55) #[] #[.pointer (some ⟨E, 0, none⟩), .pointer (some ⟨B, 0, none⟩)], .int .i64 (xa : Int), .slice pa p.length pc, .tuple #[v, .int .i64 (k : Int)], .int .u32 (e.toNat : Int), .slice la bl.length lc, .int .i64 (xa : Int), tv, .tuple #[v, .int .i64 (k : Int)], v, .int .i64 (k : Int), undef, undef, undef, undef, undef, undef, undef, undef, undef], defers := [] } ∧ Below W.heap.size W w6 ∧
        w6.cell? ⟨w.heap.size + 1 + 1, 0, none⟩ = some (.slice oa pre.length oc) ∧ w6.frozen? ⟨w.heap.size + 1 + 1, 0, none⟩ = false ∧ (∃ y, w6.cell? ⟨w.heap.size + 1 + 1 + 1, 0, none⟩ = some y) ∧ w6.frozen? ⟨w.heap.size + 1 + 1 + 1, 0, none⟩ = false) ?_ ?_
    · gi_region_with_o (first | (gi_at_call 37; refine (CallsIn.inRound l (callsIn_wide.2 (Hone.out _ (below_drew _)))).mono ?_; rintro r w6 ⟨v, rfl, hb6, hco, hfo, ⟨y, hcu⟩, hfu⟩) | (refine ⟨trivial, ?_⟩; refine (CallsIn.inRound l (callsIn_wide.2 (Hone.out _ (below_drew _)))).mono ?_; rintro r w6 ⟨v, rfl, hb6, hco, hfo, ⟨y, hcu⟩, hfu⟩))
      all_goals exact ⟨rfl, v, rfl, hb6, hco, hfo, ⟨y, hcu⟩, hfu⟩
    rintro ex a' w6 ⟨rfl, v, rfl, hb6, hco, hfo, ⟨y, hcu⟩, hfu⟩
    have HB6 := Lib.hid hb6
    clear hb6
    gi_wp2_with (gi_at_builtin; refine wpListIn_append_own _ rfl _ _ 39 rfl w5.heap.size 46 i0 (.slice none 0 0) 1 24 Tryd.underlying39 hi hz0 hz1 hz2 rfl (by decide) _ _ _ rfl ((own_below HO2.out HB6.out).alloc _) ⟨w6.heap.size, 0, none⟩ 1 1 [.slice pa p.length pc] rfl rfl (cell_one_new _ _ _) (by simp [Value.oneCell']) Hr1.out Hr2.out (Nat.le_trans HsW.out (Nat.le_trans HB6.out.size (by simp))) ?_)
    intro v' w7 hown' hgrow _
    obtain ⟨ga, gc, rfl, _⟩ := own_slice hown'
    have hol : ∀ k, (Value.slice oa pre.length oc).ownBlock = some k → w5.heap.size ≤ k := fun k hk => (HO2.out.lt k hk).1
    have hm7 : Mod (fun b => (Value.slice oa pre.length oc).ownBlock = some b) W w7 := (Mod.of_below (below_trans HB6.out (below_alloc w6 _))).trans (Mod.of_grown hgrow (fun k hk => hk))
    have hox := HO1.out.mod hm7 (fun h => by have := hol _ h; omega)
    have hux := HI.out.used.mod hm7 (fun h => by have := hol _ h; omega)
    have a1 := hox.cell 0 _ rfl
    have a2 := hox.free 0
    have a3 := hux.cell 0 _ rfl
    have a4 := hux.free 0
    have HN := Lib.hid (fun z hz => HI.out.next (x := (xa, .slice pa p.length pc)) hs54 ⟨HXa.out, ⟨p, k, HP.out, HOw.out⟩, HAp.out⟩ HP.out HB6.out HO1.out HO2.out hown' hgrow z hz)
    clear hol hm7 hox hux hown' hgrow hco hfo hcu hfu
    gi_wp2
    exact HN.out _ (by rw [← HXa.out]; omega)
end Go.Proofs.YtjoadcgegobjpaaDoor
/-
  Of records that are laid one behind the other just they are found.
-/
namespace Go.Proofs.YtjoadcgegobjpaaDoor
open Go.RowKit

theorem pay_lt {e : UInt32} {bl : List (List UInt8)} {n m : Nat} (hn : payM e bl n = none) (hm : ∀ i, i < m → payM e bl i ≠ none) : m ≤ n := by
  rcases Nat.lt_or_ge n m with h | h
  · exact absurd hn (hm n h)
  · exact h
/-- Of records that are laid one behind the other just they are found. -/
theorem found_laid {e : UInt32} {ps : List (List UInt8)} {t : List (List UInt8)} (hp : ∀ p ∈ ps, p.length ≤ 512) (ht : oneM e t = none) {B : Nat} {pre : List (Nat × Value)} {W : World} (h : Found e (laidM e ps ++ t) B pre W)
    (hn : payM e (laidM e ps ++ t) pre.length = none) :
    pre.length = ps.length ∧ posM e (laidM e ps ++ t) pre.length = (laidM e ps).length ∧ ∀ i, i < ps.length → OwnM W B 5 ((pre.map (·.2)).getD i undef) (ps.getD i []).length ((ps.getD i []).map V8) := by
  have hend := laid_end e ps t hp ht
  have h1 : ps.length ≤ pre.length := pay_lt hn (fun i hi hc => by
    have := (laid_pos e ps t hp i (by omega)).2 hi
    rw [this] at hc; cases hc)
  have h2 : pre.length ≤ ps.length := pay_lt hend.2 (fun i hi hc => by
    obtain ⟨_, p, k, hk, _⟩ := h.row i pre[i] (List.getElem?_eq_getElem hi)
    rw [hk] at hc; cases hc)
  have hl : pre.length = ps.length := by omega
  refine ⟨hl, by rw [hl]; exact hend.1, fun i hi => ?_⟩
  obtain ⟨_, p, k, hk, hown⟩ := h.row i pre[i] (List.getElem?_eq_getElem (by omega))
  have := (laid_pos e ps t hp i (by omega)).2 hi
  rw [this] at hk
  injection hk with hk; injection hk with hk1 hk2
  subst hk1
  have e1 : (pre.map (·.2)).getD i undef = pre[i].2 := by simp [List.getD, show i < pre.length by omega]
  have e2 : ps.getD i [] = ps[i] := by simp [List.getD, hi]
  rw [e1, e2]; exact hown
end Go.Proofs.YtjoadcgegobjpaaDoor
/-
  A log on a disk: what Append does, and what stands on the blocks.
-/
namespace Go.Proofs.YtjoadcgegobjpaaDoor
open Go.RowKit

theorem frameM_le4 (e : UInt32) (p : List UInt8) : (frameM e p).length ≤ 4 := by
  have : ∀ f q, (restM f q).length ≤ f := by
    intro f
    induction f with
    | zero => intro q; simp [restM]
    | succ f ih => intro q; rw [restM]; split
                   · simp
                   · have := ih (q.drop 255); simp only [List.length_cons]; omega
  unfold frameM
  rw [List.length_cons]
  have := this 3 (p.drop 245)
  omega
theorem laidM_append1 (e : UInt32) (ps : List (List UInt8)) (p : List UInt8) : laidM e (ps ++ [p]) = laidM e ps ++ frameM e p := by simp [laidM]
/-- Blocks are written from the last one on; the first error ends it. -/
def DiskM.back (d : DiskM) : Nat → List (List UInt8) → DiskM × Int
  | _, [] => (d, 0)
  | a, b :: r => if (DiskM.back d (a + 1) r).2 ≠ 0 then DiskM.back d (a + 1) r else (DiskM.back d (a + 1) r).1.write (a : Int) (SB b)
structure LogM where
  base : Nat
  n : Nat
  epoch : UInt32
  used : Nat
  records : Nat
  dead : Bool
/-- Append: the log, the disk, the error's number. -/
def LogM.append (l : LogM) (d : DiskM) (p : List UInt8) : LogM × DiskM × Int :=
  if l.dead = true then (l, d, 22)
  else if 512 < p.length then (l, d, 3)
  else if l.n - l.used < (frameM l.epoch p).length then (l, d, 19)
  else if (d.back (l.base + l.used) (frameM l.epoch p)).2 ≠ 0 then ({ l with dead := true }, (d.back (l.base + l.used) (frameM l.epoch p)).1, 22)
  else ({ l with used := l.used + (frameM l.epoch p).length, records := l.records + 1 }, (d.back (l.base + l.used) (frameM l.epoch p)).1, 0)
theorem back_cons (d : DiskM) (a : Nat) (b : List UInt8) (r : List (List UInt8)) : d.back a (b :: r) = if (d.back (a + 1) r).2 ≠ 0 then d.back (a + 1) r else (d.back (a + 1) r).1.write (a : Int) (SB b) := rfl
theorem back_len (d : DiskM) : ∀ (bs : List (List UInt8)) (a : Nat), (d.back a bs).1.strs.length = d.strs.length ∧ (d.back a bs).1.trail.length ≤ d.trail.length + bs.length
  | [], a => ⟨rfl, Nat.le_refl _⟩
  | b :: r, a => by
    obtain ⟨h1, h2⟩ := back_len d r (a + 1)
    rw [back_cons]
    split
    · exact ⟨h1, by rw [List.length_cons]; omega⟩
    · have h3 := (d.back (a + 1) r).1.write_len (a : Int) (SB b)
      have h4 := (d.back (a + 1) r).1.write_trail (a : Int) (SB b)
      exact ⟨by rw [h3, h1], by rw [List.length_cons]; omega⟩
theorem back_wf {d : DiskM} (h : d.Wf) : ∀ (bs : List (List UInt8)) (a : Nat), (d.back a bs).1.Wf
  | [], _ => h
  | b :: r, a => by
    rw [back_cons]
    split
    · exact back_wf h r (a + 1)
    · exact (back_wf h r (a + 1)).write _ _
/-- The error is 'the power fails', or none. -/
theorem back_err (d : DiskM) : ∀ (bs : List (List UInt8)) (a : Nat), (∀ b ∈ bs, b.length ≤ 256) → a + bs.length ≤ d.strs.length → (d.back a bs).2 = 0 ∨ (d.back a bs).2 = 22
  | [], _, _, _ => .inl rfl
  | b :: r, a, hb, ha => by
    rw [List.length_cons] at ha
    have ih := back_err d r (a + 1) (fun x hx => hb x (List.mem_cons_of_mem _ hx)) (by omega)
    rw [back_cons]
    split
    · exact ih
    · have h1 := (back_len d r (a + 1)).1
      have h2 := hb b (List.mem_cons_self ..)
      unfold DiskM.write
      rw [if_neg (by rw [h1]; omega), if_neg (by rw [SB_size]; omega)]
      split
      · exact .inr rfl
      · exact .inl rfl
theorem write_get (d : DiskM) (i : Nat) (s : ByteArray) (j : Nat) : (d.write (i : Int) s).1.strs[j]? = if (d.write (i : Int) s).2 = 0 ∧ j = i then some s else d.strs[j]? := by
  unfold DiskM.write
  split
  · rw [if_neg (by simp)]
  split
  · rw [if_neg (by simp)]
  split
  · rw [if_neg (by simp)]
  · rename_i h1 _ _
    have h1 : i < d.strs.length := by omega
    by_cases hj : j = i
    · subst hj; simp [h1]
    · rw [if_neg (by simp [hj])]
      simp only [Int.toNat_natCast]
      rw [List.getElem?_set_ne (by omega)]
/-- What stands on the blocks behind such writes: a block that was written, or what stood there. -/
theorem back_get (d : DiskM) : ∀ (bs : List (List UInt8)) (a j : Nat), ((d.back a bs).1.strs[j]? = d.strs[j]? ∧ ((d.back a bs).2 = 0 → j < a ∨ a + bs.length ≤ j)) ∨ (a ≤ j ∧ j < a + bs.length ∧ (d.back a bs).1.strs[j]? = some (SB (bs.getD (j - a) [])) ∧ ((d.back a bs).2 ≠ 0 → a < j))
  | [], a, j => .inl ⟨rfl, fun _ => by simp only [List.length_nil]; omega⟩
  | b :: r, a, j => by
    have ih := back_get d r (a + 1) j
    rw [back_cons, List.length_cons]
    by_cases he : (d.back (a + 1) r).2 ≠ 0
    · rw [if_pos he]
      rcases ih with ⟨h1, _⟩ | ⟨h1, h2, h3, h4⟩
      · exact .inl ⟨h1, fun h => absurd h he⟩
      · refine .inr ⟨by omega, by omega, ?_, fun _ => by omega⟩
        rw [h3, show j - a = j - (a + 1) + 1 by omega, List.getD_cons_succ]
    · rw [if_neg he, write_get]
      have he : (d.back (a + 1) r).2 = 0 := by simpa using he
      by_cases hw : ((d.back (a + 1) r).1.write (a : Int) (SB b)).2 = 0
      · by_cases hj : j = a
        · rw [if_pos ⟨hw, hj⟩]
          refine .inr ⟨by omega, by omega, ?_, fun h => absurd hw h⟩
          rw [hj, Nat.sub_self]; rfl
        · rw [if_neg (by simp [hj])]
          rcases ih with ⟨h1, h2⟩ | ⟨h1, h2, h3, h4⟩
          · exact .inl ⟨h1, fun _ => by have := h2 he; omega⟩
          · refine .inr ⟨by omega, by omega, ?_, fun _ => by omega⟩
            rw [h3, show j - a = j - (a + 1) + 1 by omega, List.getD_cons_succ]
      · rw [if_neg (by simp [hw])]
        rcases ih with ⟨h1, h2⟩ | ⟨h1, h2, h3, h4⟩
        · exact .inl ⟨h1, fun h => absurd h hw⟩
        · refine .inr ⟨by omega, by omega, ?_, fun _ => by omega⟩
          rw [h3, show j - a = j - (a + 1) + 1 by omega, List.getD_cons_succ]
/-- A block that does not begin as a record of an epoch. -/
def NoB (e : UInt32) (s : ByteArray) : Prop := ¬ s.data.toList.take 5 = 104 :: le e.toNat 4
theorem le_inj4 {a b : UInt32} (h : le a.toNat 4 = le b.toNat 4) : a = b := by
  have ha := a.toNat_lt; have hb := b.toNat_lt
  have h2 : ∀ v : Nat, v < 4294967296 → ((le v 4).getD 0 0).toNat + 256 * ((le v 4).getD 1 0).toNat + 65536 * ((le v 4).getD 2 0).toNat + 16777216 * ((le v 4).getD 3 0).toNat = v := fun v hv => by
    simp only [le, List.getD_cons_zero, List.getD_cons_succ, UInt8.toNat_ofNat']
    omega
  have h3 := h2 a.toNat (by omega)
  rw [h, h2 b.toNat (by omega)] at h3
  exact UInt32.toNat_inj.1 h3.symm
theorem restM_head : ∀ (f : Nat) (q : List UInt8) (b : List UInt8), b ∈ restM f q → ∃ r, b = 99 :: r ∧ r.length ≤ 255
  | 0, q, b, h => by simp [restM] at h
  | f + 1, q, b, h => by
    rw [restM] at h
    split at h
    · simp at h
    · rcases List.mem_cons.1 h with rfl | h
      · exact ⟨_, rfl, by rw [List.length_take]; omega⟩
      · exact restM_head f _ b h
theorem frameM_le256 {e : UInt32} {p b : List UInt8} (h : b ∈ frameM e p) : b.length ≤ 256 := by
  unfold frameM at h
  rcases List.mem_cons.1 h with rfl | h
  · rw [List.length_append, headM_length, List.length_take]; omega
  · obtain ⟨r, rfl, hr⟩ := restM_head _ _ _ h
    rw [List.length_cons]; omega
theorem frame_noB {e e' : UInt32} (he : e ≠ e') {p b : List UInt8} (h : b ∈ frameM e p) : NoB e' (SB b) := by
  unfold NoB
  rw [SB_data]
  unfold frameM at h
  rcases List.mem_cons.1 h with rfl | h
  · intro h2
    rw [List.take_append_of_le_length (by rw [headM_length]; omega), headM, List.take_append_of_le_length (by rw [pre_length]; omega)] at h2
    have h3 : (pre e p.length).take 5 = 104 :: le e.toNat 4 := by
      unfold pre
      rw [List.take_succ_cons, List.take_append_of_le_length (by rw [le_length]; omega), List.take_of_length_le (by rw [le_length]; omega)]
    rw [h3] at h2
    injection h2 with _ h2
    exact he (le_inj4 h2)
  · obtain ⟨r, rfl, _⟩ := restM_head _ _ _ h
    intro h2
    rw [List.take_succ_cons] at h2
    injection h2 with h2 _
    revert h2; decide
/-- All but the first block of a record begin as none. -/
theorem frame_rest_noB {e e' : UInt32} {p : List UInt8} {i : Nat} (hi : 0 < i) (hl : i < (frameM e p).length) : NoB e' (SB ((frameM e p).getD i [])) := by
  unfold NoB
  rw [SB_data]
  obtain ⟨k, rfl⟩ : ∃ k, i = k + 1 := ⟨i - 1, by omega⟩
  unfold frameM at hl ⊢
  rw [List.length_cons] at hl
  rw [List.getD_cons_succ]
  have hm : (restM 3 (p.drop 245)).getD k [] ∈ restM 3 (p.drop 245) := by
    rw [List.getD, List.getElem?_eq_getElem (by omega)]; exact List.getElem_mem (by omega)
  obtain ⟨r, h, _⟩ := restM_head _ _ _ hm
  rw [h]
  intro h2
  rw [List.take_succ_cons] at h2
  injection h2 with h2 _
  revert h2; decide
theorem frame_getD_mem {e : UInt32} {p : List UInt8} {i : Nat} (hl : i < (frameM e p).length) : (frameM e p).getD i [] ∈ frameM e p := by
  rw [List.getD, List.getElem?_eq_getElem hl]; exact List.getElem_mem hl
/-- Between two calls: the records of an epoch that have been appended stand on the blocks; behind them none begins. -/
structure LogI (e : UInt32) (base n : Nat) (want : List (List UInt8)) (l : LogM) (d : DiskM) : Prop where
  same : l.base = base ∧ l.n = n ∧ l.epoch = e
  used : l.used = (laidM e want).length
  le : l.used ≤ n
  recs : l.records = want.length
  short : ∀ p ∈ want, p.length ≤ 512
  len : base + n ≤ d.strs.length
  stand : ∀ j, j < l.used → d.strs[base + j]? = some (SB ((laidM e want).getD j []))
  no : ∀ j, l.used ≤ j → j < n → ∀ s, d.strs[base + j]? = some s → NoB e s
theorem append_len (l : LogM) (d : DiskM) (p : List UInt8) : (l.append d p).2.1.strs.length = d.strs.length ∧ (l.append d p).2.1.trail.length ≤ d.trail.length + 4 := by
  unfold LogM.append
  split
  · exact ⟨rfl, Nat.le_add_right _ _⟩
  split
  · exact ⟨rfl, Nat.le_add_right _ _⟩
  split
  · exact ⟨rfl, Nat.le_add_right _ _⟩
  have h1 := back_len d (frameM l.epoch p) (l.base + l.used)
  have h2 := frameM_le4 l.epoch p
  split <;> exact ⟨h1.1, by have := h1.2; simp only; omega⟩
theorem append_same (l : LogM) (d : DiskM) (p : List UInt8) : (l.append d p).1.base = l.base ∧ (l.append d p).1.n = l.n ∧ (l.append d p).1.epoch = l.epoch ∧ l.used ≤ (l.append d p).1.used ∧ (l.used ≤ l.n → (l.append d p).1.used ≤ l.n) ∧ (l.append d p).1.records ≤ l.records + 1 := by
  unfold LogM.append
  split
  · exact ⟨rfl, rfl, rfl, Nat.le_refl _, id, Nat.le_succ _⟩
  split
  · exact ⟨rfl, rfl, rfl, Nat.le_refl _, id, Nat.le_succ _⟩
  split
  · exact ⟨rfl, rfl, rfl, Nat.le_refl _, id, Nat.le_succ _⟩
  split
  · exact ⟨rfl, rfl, rfl, Nat.le_refl _, id, Nat.le_succ _⟩
  · exact ⟨rfl, rfl, rfl, Nat.le_add_right _ _, fun h => by simp only; omega, Nat.le_refl _⟩
theorem append_wf (l : LogM) {d : DiskM} (h : d.Wf) (p : List UInt8) : (l.append d p).2.1.Wf := by
  unfold LogM.append
  split
  · exact h
  split
  · exact h
  split
  · exact h
  split <;> exact back_wf h _ _
/-- An Append of another epoch leaves none that begins. -/
theorem append_clean {e : UInt32} {l : LogM} {d : DiskM} (he : l.epoch ≠ e) (h : ∀ (j : Nat) (s : ByteArray), d.strs[j]? = some s → NoB e s) (p : List UInt8) : ∀ (j : Nat) (s : ByteArray), (l.append d p).2.1.strs[j]? = some s → NoB e s := by
  have hb : ∀ (j : Nat) (s : ByteArray), (d.back (l.base + l.used) (frameM l.epoch p)).1.strs[j]? = some s → NoB e s := fun j s hs => by
    rcases back_get d (frameM l.epoch p) (l.base + l.used) j with ⟨h1, _⟩ | ⟨h1, h2, h3, _⟩
    · exact h j s (h1 ▸ hs)
    · rw [h3] at hs
      injection hs with hs
      rw [← hs]
      exact frame_noB he (frame_getD_mem (by omega))
  unfold LogM.append
  split
  · exact h
  split
  · exact h
  split
  · exact h
  split <;> exact hb
theorem LogI.append {e : UInt32} {base n : Nat} {want : List (List UInt8)} {l : LogM} {d : DiskM} (h : LogI e base n want l d) (p : List UInt8) :
    ((l.append d p).2.2 = 0 ∧ l.dead = false ∧ (l.append d p).1.dead = false ∧ p.length ≤ 512 ∧ (l.append d p).1.used = l.used + (frameM e p).length ∧ LogI e base n (want ++ [p]) (l.append d p).1 (l.append d p).2.1) ∨
    ((l.append d p).2.2 = 22 ∧ (l.append d p).1.dead = true ∧ LogI e base n want (l.append d p).1 (l.append d p).2.1) ∨
    ((l.append d p).2.2 = 3 ∧ 512 < p.length ∧ l.dead = false ∧ (l.append d p).1 = l ∧ (l.append d p).2.1 = d) ∨ ((l.append d p).2.2 = 19 ∧ p.length ≤ 512 ∧ l.dead = false ∧ (l.append d p).1 = l ∧ (l.append d p).2.1 = d) := by
  unfold LogM.append
  split
  · rename_i hd; exact .inr (.inl ⟨rfl, hd, h⟩)
  rename_i hd
  have hd : l.dead = false := by simpa using hd
  split
  · rename_i h2; exact .inr (.inr (.inl ⟨rfl, h2, hd, rfl, rfl⟩))
  rename_i h2
  split
  · exact .inr (.inr (.inr ⟨rfl, by omega, hd, rfl, rfl⟩))
  rename_i h3
  obtain ⟨e1, e2, e3⟩ := h.same
  rw [e1, e3] at *
  rw [e2, h.same.2.2] at h3
  have hg := back_get d (frameM e p) (base + l.used)
  have hl := back_len d (frameM e p) (base + l.used)
  have hle := h.le
  by_cases he : (d.back (base + l.used) (frameM e p)).2 ≠ 0
  · rw [if_pos he]
    refine .inr (.inl ⟨rfl, rfl, ⟨e1, e2, e3⟩, h.used, h.le, h.recs, h.short, by rw [hl.1]; exact h.len, fun j hj => ?_, fun j hj hj2 s hs => ?_⟩)
    · rcases hg (base + j) with ⟨h1, _⟩ | ⟨h1, _⟩
      · rw [h1]; exact h.stand j hj
      · simp only at hj; omega
    · simp only at hj hs
      rcases hg (base + j) with ⟨h1, _⟩ | ⟨h1, h4, h5, h6⟩
      · exact h.no j hj hj2 s (h1 ▸ hs)
      · have h7 := h6 he
        rw [h5] at hs
        injection hs with hs
        rw [← hs]
        exact frame_rest_noB (by omega) (by omega)
  · have he : (d.back (base + l.used) (frameM e p)).2 = 0 := by simpa using he
    rw [if_neg (by simp [he])]
    have hu : (laidM e (want ++ [p])).length = l.used + (frameM e p).length := by rw [laidM_append1, List.length_append, h.used]
    refine .inl ⟨rfl, hd, hd, by omega, rfl, ⟨e1, e2, e3⟩, hu.symm, by simp only; omega, by simp only; rw [h.recs, List.length_append, List.length_singleton], fun q hq => ?_, by rw [hl.1]; exact h.len, fun j hj => ?_, fun j hj hj2 s hs => ?_⟩
    · rcases List.mem_append.1 hq with hq | hq
      · exact h.short q hq
      · have := List.mem_singleton.1 hq; subst this; omega
    · simp only at hj ⊢
      rw [laidM_append1]
      rcases hg (base + j) with ⟨h1, h4⟩ | ⟨h1, h4, h5, _⟩
      · have := h4 he
        rw [h1, h.stand j (by omega), List.getD, List.getD, List.getElem?_append_left (by have := h.used; omega)]
      · rw [h5]
        have e4 : base + j - (base + l.used) = j - l.used := by omega
        rw [e4, List.getD, List.getD, List.getElem?_append_right (by have := h.used; omega), h.used]
    · simp only at hj hs
      rcases hg (base + j) with ⟨h1, _⟩ | ⟨h1, h4, _⟩
      · exact h.no j (by omega) hj2 s (h1 ▸ hs)
      · omega
theorem LogI.le2 {e : UInt32} {base n : Nat} {want : List (List UInt8)} {l : LogM} {d : DiskM} (h : LogI e base n want l d) : l.used ≤ l.n := by rw [h.same.2.1]; exact h.le
/-- What is found on the blocks. -/
theorem LogI.blocks {e : UInt32} {base n : Nat} {want : List (List UInt8)} {l : LogM} {d : DiskM} (h : LogI e base n want l d) (bl : List (List UInt8)) (hl : bl.length = n) (hb : ∀ j, j < n → d.strs[base + j]? = some (SB (bl.getD j []))) :
    ∃ t, bl = laidM e want ++ t ∧ oneM e t = none := by
  have hu := h.used
  have hle := h.le
  refine ⟨bl.drop l.used, ?_, ?_⟩
  · refine List.ext_getElem (by rw [List.length_append, List.length_drop]; omega) (fun j h1 h2 => ?_)
    by_cases hj : j < l.used
    · have e1 := h.stand j hj
      rw [hb j (by omega)] at e1
      injection e1 with e1
      have e1 := SB_inj e1
      rw [List.getElem_append_left (by omega)]
      simpa [List.getD, h1, show j < (laidM e want).length by omega] using e1
    · rw [List.getElem_append_right (by omega), List.getElem_drop]
      congr 1; omega
  · cases hd : bl.drop l.used with
    | nil => rfl
    | cons b r =>
      have hlt : l.used < bl.length := by
        rcases Nat.lt_or_ge l.used bl.length with h1 | h1
        · exact h1
        · rw [List.drop_eq_nil_of_le h1] at hd; cases hd
      refine one_begins e b r (fun hc => ?_)
      have hbe : bl.getD l.used [] = b := by
        have : bl.drop l.used = bl[l.used] :: bl.drop (l.used + 1) := List.drop_eq_getElem_cons hlt
        rw [this] at hd
        injection hd with hd _
        simp [List.getD, hlt, hd]
      have := h.no l.used (Nat.le_refl _) (by omega) _ (hb l.used (by omega))
      unfold NoB at this
      rw [SB_data, hbe] at this
      exact this hc
/-- No text is longer than a block. -/
def DiskM.Small (d : DiskM) : Prop := ∀ s ∈ d.strs, s.size ≤ 256
theorem small_write {d : DiskM} (h : d.Small) (i : Int) (s : ByteArray) : (d.write i s).1.Small := by
  unfold DiskM.write
  split
  · exact h
  split
  · exact h
  split
  · exact h
  · intro x hx
    rcases List.mem_or_eq_of_mem_set hx with hx | rfl
    · exact h x hx
    · omega
theorem small_back {d : DiskM} (h : d.Small) : ∀ (bs : List (List UInt8)) (a : Nat), (d.back a bs).1.Small
  | [], _ => h
  | b :: r, a => by
    rw [back_cons]
    split
    · exact small_back h r (a + 1)
    · exact small_write (small_back h r (a + 1)) _ _
theorem small_append (l : LogM) {d : DiskM} (h : d.Small) (p : List UInt8) : (l.append d p).2.1.Small := by
  unfold LogM.append
  split
  · exact h
  split
  · exact h
  split
  · exact h
  split <;> exact small_back h _ _
/-- With power there is no error. -/
theorem back_none {d : DiskM} (h : d.left = none) : ∀ (bs : List (List UInt8)) (a : Nat), (∀ b ∈ bs, b.length ≤ 256) → a + bs.length ≤ d.strs.length → (d.back a bs).2 = 0 ∧ (d.back a bs).1.left = none
  | [], _, _, _ => ⟨rfl, h⟩
  | b :: r, a, hb, ha => by
    rw [List.length_cons] at ha
    have ih := back_none h r (a + 1) (fun x hx => hb x (List.mem_cons_of_mem _ hx)) (by omega)
    rw [back_cons, if_neg (by rw [ih.1]; simp)]
    have h1 := (back_len d r (a + 1)).1
    have h2 := hb b (List.mem_cons_self ..)
    refine ⟨?_, DiskM.write_left ih.2 _ _⟩
    unfold DiskM.write
    rw [if_neg (by rw [h1]; omega), if_neg (by rw [SB_size]; omega), if_neg (by rw [ih.2]; simp)]
theorem append_left (l : LogM) {d : DiskM} (h : d.left = none) (hl : l.base + l.n ≤ d.strs.length) (hu : l.used ≤ l.n) (p : List UInt8) : (l.append d p).2.1.left = none := by
  unfold LogM.append
  split
  · exact h
  split
  · exact h
  split
  · exact h
  have h1 := (back_none h (frameM l.epoch p) (l.base + l.used) (fun b hb => frameM_le256 hb) (by omega)).2
  split <;> exact h1
theorem append_ok {l : LogM} {d : DiskM} {p : List UInt8} (h : d.left = none) (hd : l.dead = false) (hp : p.length ≤ 512) (hl : l.base + l.n ≤ d.strs.length) (hu : l.used + (frameM l.epoch p).length ≤ l.n) : (l.append d p).2.2 = 0 := by
  unfold LogM.append
  have h1 := (back_none h (frameM l.epoch p) (l.base + l.used) (fun b hb => frameM_le256 hb) (by omega)).1
  rw [if_neg (by rw [hd]; simp), if_neg (by omega), if_neg (by omega), if_neg (by rw [h1]; simp)]
theorem frame_count (e : UInt32) (p : List UInt8) (h : p.length ≤ 512) : (frameM e p).length = if 245 < p.length then 1 + (p.length - 245 + 254) / 255 else 1 := by
  have hr : ∀ f (q : List UInt8), q.length ≤ 255 * f → (restM f q).length = (q.length + 254) / 255 := by
    intro f
    induction f with
    | zero => intro q hq; simp [restM]; omega
    | succ f ih =>
      intro q hq
      rw [restM]
      by_cases h0 : q.length = 0
      · rw [if_pos h0, h0]; rfl
      · rw [if_neg h0, List.length_cons, ih _ (by rw [List.length_drop]; omega), List.length_drop]; omega
  unfold frameM
  rw [List.length_cons, hr 3 _ (by rw [List.length_drop]; omega), List.length_drop]
  split <;> omega
/-- An empty log on a disk on which none of its epoch begins. -/
theorem LogI.new {e : UInt32} {base n : Nat} {d : DiskM} (hl : base + n ≤ d.strs.length) (hn : ∀ (j : Nat) (s : ByteArray), d.strs[j]? = some s → NoB e s) : LogI e base n [] ⟨base, n, e, 0, 0, false⟩ d :=
  ⟨⟨rfl, rfl, rfl⟩, rfl, Nat.zero_le _, rfl, fun _ h => by simp at h, hl, fun j hj => by simp at hj, fun j _ _ s hs => hn _ s hs⟩
theorem noB_new (e : UInt32) (n : Nat) (j : Nat) (s : ByteArray) (h : (List.replicate n ByteArray.empty)[j]? = some s) : NoB e s := by
  rw [List.getElem?_replicate] at h
  split at h
  · injection h with h; rw [← h]; unfold NoB; simp
  · cases h
theorem noB_empty (e : UInt32) : NoB e ByteArray.empty := by unfold NoB; simp
end Go.Proofs.YtjoadcgegobjpaaDoor
/-
  Errors that are numbers of package api: errors.Is, lineagekit.Num.
-/
namespace Go.Proofs.YtjoadcgegobjpaaDoor
open Go.RowKit Go.Extern.Stop Go.Stop Go.Extern

/-- An error of package api. -/
def errN (n : Int) : Value := .iface 58 (.int .i64 n)
theorem errno_comp : (Tryd.prog.info? 58).map (·.comparable) = some true := by kernel_rfl
theorem equalIn_err (w : World) (d : Nat) (a b : Int) : (Op.equalIn (d + 2) 30 (errN a) (errN b)).run Tryd.prog w = .ok (a == b) w := by
  obtain ⟨i, hi, hc⟩ := Option.map_eq_some_iff.1 errno_comp
  unfold errN
  simp [Op.equalIn, run_underlying Tryd.underlying30, run_underlying Tryd.underlying58, typeInfo, hi, hc]
theorem eql_err (w : World) (a b : Int) : (binOp .eql 30 (errN a) (errN b)).run Tryd.prog w = .ok (.bool (a == b)) w := by
  have h := equalIn_err w 9998 a b
  unfold errN at h ⊢
  simp only [binOp]
  simp [Op.equal, Op.maxDepth, h]
theorem err_typeOf (v : Value) (w : World) : (Extern.ReflectliteType.typeOf #[.iface 58 v]).run Tryd.prog w = .ok (.iface 126 (.agg #[.pointer (some ⟨1, 58, none⟩)])) w := by kernel_rfl
/-- What the model says of Comparable. -/
def cmpX : Array Value → Sem Value := Extern.ReflectliteType.method fun t => do Extern.Rtype.noPackHeld "Comparable" t; pure (.bool (← typeInfo t).comparable)
theorem err_comparable (w : World) : (cmpX #[.agg #[.pointer (some ⟨1, 58, none⟩)]]).run Tryd.prog w = .ok (.bool true) w := by kernel_rfl
theorem err_noIs (v : Value) (xT : TypeId) (w : World) : (Instr.typeAssert (.iface 58 v) xT 150 true).run Tryd.prog w = .ok (.tuple #[.nilIface, .bool false]) w := run_typeAssert_lacksB Tryd.underlying150 (by kernel_rfl) (by kernel_rfl) v xT w
theorem err_noUnwrap (v : Value) (xT : TypeId) (w : World) : (Instr.typeAssert (.iface 58 v) xT 133 true).run Tryd.prog w = .ok (.tuple #[.nilIface, .bool false]) w := run_typeAssert_lacksB Tryd.underlying133 (by kernel_rfl) (by kernel_rfl) v xT w
theorem err_noUnwraps (v : Value) (xT : TypeId) (w : World) : (Instr.typeAssert (.iface 58 v) xT 135 true).run Tryd.prog w = .ok (.tuple #[.nilIface, .bool false]) w := run_typeAssert_lacksB Tryd.underlying135 (by kernel_rfl) (by kernel_rfl) v xT w
theorem is0_calls (a b : Int) (w : World) : Calls Tryd.prog 58 #[errN a, errN b, .bool true] w fun e w' => e = .returned (.bool (a == b)) ∧ w' = w := by
  have nI := err_noIs
  have nU := err_noUnwrap
  have nV := err_noUnwraps
  have heq := eql_err w a b
  unfold errN at heq ⊢
  cases hab : (a == b) with
  | true =>
    rw [hab] at heq
    clear hab
    go_enter Tryd.func58, Tryd.ntmps58
    go_wp2
    refine wp_loop_rounds 1 ?_
    rw [rounds_succ]
    go_wp2
    go_ret
    exact ⟨rfl, rfl⟩
  | false =>
    rw [hab] at heq
    clear hab
    go_enter Tryd.func58, Tryd.ntmps58
    go_wp2
    refine wp_loop_rounds 1 ?_
    rw [rounds_succ]
    go_wp2
    go_ret
    exact ⟨rfl, rfl⟩
/-- errors.Is of two numbers. -/
theorem is_calls (a b : Int) (w : World) : Calls Tryd.prog 38 #[errN a, errN b] w fun e w' => e = .returned (.bool (a == b)) ∧ w' = w := by
  have h8 := @run_callFunc_extern Tryd.prog 57 _ Extern.ReflectliteType.typeOf Tryd.func57 (by kernel_rfl) (by kernel_rfl) (by kernel_rfl) (by kernel_rfl)
  have h32 := @run_callFunc_extern Tryd.prog 98 _ cmpX Tryd.func98 (by kernel_rfl) (by kernel_rfl) (by kernel_rfl) (by kernel_rfl)
  have tT := err_typeOf
  have cT := err_comparable
  have his := is0_calls a b w
  unfold errN at his ⊢
  have His := Lib.hid his
  clear his
  go_enter Tryd.func38, Tryd.ntmps38
  go_wp2_with fail
  refine His.out.mono ?_
  rintro e w' ⟨rfl, rfl⟩
  go_wp2_with fail
  go_ret
  exact ⟨rfl, rfl⟩
theorem num_nil (w : World) : Calls Tryd.prog 18 #[.nilIface] w fun e w' => e = .returned (.int .i64 0) ∧ w' = w := by
  go_enter Tryd.func18, Tryd.ntmps18
  go_wp2_with fail
  go_ret
  exact ⟨rfl, rfl⟩
theorem num_calls (n : Nat) (w : World) (h1 : 1 ≤ n) (h2 : n ≤ 24) : Calls Tryd.prog 18 #[errN n] w fun e w' => e = .returned (.int .i64 (n : Int)) ∧ w' = w := by
  have hi := fun b => is_calls (n : Int) b w
  unfold errN at hi ⊢
  have Hi := Lib.hid hi
  clear hi
  go_enter Tryd.func18, Tryd.ntmps18
  go_wp2_with fail
  go_loop [3, 4] (fun f i => ∃ k : Nat, 1 ≤ k ∧ k ≤ 25 ∧ i = .int .i64 k ∧ ((n < k ∧ f = .int .i64 n) ∨ (k ≤ n ∧ f = .int .i64 0))) (fun _ i => 25 - (intOf i).toNat)
  case atStart => exact ⟨1, by omega, by omega, rfl, .inr ⟨h1, rfl⟩⟩
  case round =>
    obtain ⟨k, hk1, hk2, rfl, hf⟩ := hrel
    by_cases hk : k < 25
    · have hk24 : k ≤ 24 := by omega
      have hc : (n < k ∧ ((n : Int) == (k : Int)) = false) ∨ (n = k) ∨ (k < n ∧ ((n : Int) == (k : Int)) = false) := by
        rcases Nat.lt_trichotomy n k with h | h | h
        · exact .inl ⟨h, by rw [beq_eq_false_iff_ne]; omega⟩
        · exact .inr (.inl h)
        · exact .inr (.inr ⟨h, by rw [beq_eq_false_iff_ne]; omega⟩)
      rcases hc with ⟨hlt, hb⟩ | rfl | ⟨hgt, hb⟩
      · rcases hf with ⟨_, rfl⟩ | ⟨h, rfl⟩
        · go_wp2_with fail
          refine (Hi.out (k : Int)).mono ?_
          rintro e w' ⟨rfl, rfl⟩
          go_wp2_with fail
          go_round
          case rel => exact ⟨k + 1, by omega, by omega, by go_num, .inl ⟨by omega, rfl⟩⟩
          case measure => simp [intOf]; omega
        · omega
      · rcases hf with ⟨h, rfl⟩ | ⟨_, rfl⟩
        · omega
        · have hb : ((n : Int) == (n : Int)) = true := by rw [beq_iff_eq]
          go_wp2_with fail
          refine (Hi.out (n : Int)).mono ?_
          rintro e w' ⟨rfl, rfl⟩
          go_wp2_with fail
          go_round
          case rel => exact ⟨n + 1, by omega, by omega, by go_num, .inl ⟨by omega, rfl⟩⟩
          case measure => simp [intOf]; omega
      · rcases hf with ⟨h, rfl⟩ | ⟨_, rfl⟩
        · omega
        · go_wp2_with fail
          refine (Hi.out (k : Int)).mono ?_
          rintro e w' ⟨rfl, rfl⟩
          go_wp2_with fail
          go_round
          case rel => exact ⟨k + 1, by omega, by omega, by go_num, .inr ⟨by omega, rfl⟩⟩
          case measure => simp [intOf]; omega
    · obtain rfl : k = 25 := by omega
      rcases hf with ⟨_, rfl⟩ | ⟨h, rfl⟩
      · have hn0 : ((n : Int) == 0) = false := by rw [beq_eq_false_iff_ne]; omega
        have hn1 : (n == 0) = false := by rw [beq_eq_false_iff_ne]; omega
        go_wp2_with fail
        refine (Hi.out 0).mono ?_
        rintro e w' ⟨rfl, rfl⟩
        go_wp2_with fail
        go_ret
        exact ⟨rfl, rfl⟩
      · omega
end Go.Proofs.YtjoadcgegobjpaaDoor
/-
  lineagelaw13.same: of two lists of the same payloads it says so.
-/
namespace Go.Proofs.YtjoadcgegobjpaaDoor
open Go.RowKit

theorem same12_calls (va vb : Value) (as_ bs : List Value) (ps : List (List UInt8)) (w : World) (ha : Rd w va ps.length as_) (hb : Rd w vb ps.length bs) (hal : as_.length = ps.length) (hbl : bs.length = ps.length)
    (har : ∀ i, i < ps.length → Rd w (as_.getD i undef) (ps.getD i []).length ((ps.getD i []).map V8)) (hbr : ∀ i, i < ps.length → Rd w (bs.getD i undef) (ps.getD i []).length ((ps.getD i []).map V8)) :
    Calls Tryd.prog 33 #[va, vb] w fun e w' => e = .returned (.bool true) ∧ ∃ k, w' = w.drewN k := by
  have hlen := ha.len
  obtain ⟨a, cap, rfl, hc1, hc2, _, hc⟩ := ha
  obtain ⟨a', cap', rfl, hd1, hd2, _, hd⟩ := hb
  have Hc := Lib.hid hc
  have Hd := Lib.hid hd
  have Hr := Lib.hid har
  have Hs := Lib.hid hbr
  have Hal := Lib.hid hal
  have Hbl := Lib.hid hbl
  clear hc hd har hbr hal hbl
  go_enter Tryd.func33, Tryd.ntmps33
  go_wp2
  go_loopw [5] (fun i wr => ∃ k : Nat, k ≤ ps.length ∧ i = .int .i64 k ∧ ∃ m, wr = w.drewN m) (fun i _ => ps.length - (intOf i).toNat)
  case atStart => exact ⟨0, by omega, rfl, 0, rfl⟩
  case round =>
    obtain ⟨k, hk, rfl, m, rfl⟩ := hrel
    by_cases hlt : k < ps.length
    · obtain ⟨b, off, rfl, hcell'⟩ := Hc.out k (by rw [Hal.out]; exact hlt)
      obtain ⟨b', off', rfl, hdell'⟩ := Hd.out k (by rw [Hbl.out]; exact hlt)
      have hr := Hr.out k hlt
      have hs := Hs.out k hlt
      obtain ⟨p, hp⟩ : ∃ p, p = ps.getD k [] := ⟨_, rfl⟩
      obtain ⟨x, hx⟩ : ∃ x, x = as_.getD k undef := ⟨_, rfl⟩
      obtain ⟨y, hy⟩ : ∃ y, y = bs.getD k undef := ⟨_, rfl⟩
      rw [← hx] at hcell' hr
      rw [← hy] at hdell' hs
      rw [← hp] at hr hs
      obtain ⟨xa, xc, hxe⟩ : ∃ xa xc, x = .slice xa p.length xc := by obtain ⟨p, q, e, _⟩ := hr; exact ⟨p, q, e⟩
      obtain ⟨ya, yc, hye⟩ : ∃ xa xc, y = .slice xa p.length xc := by obtain ⟨p, q, e, _⟩ := hs; exact ⟨p, q, e⟩
      rw [hxe] at hcell' hr
      rw [hye] at hdell' hs
      obtain ⟨W, hW⟩ : ∃ W, W = w.drewN m := ⟨_, rfl⟩
      have hcW : W.cell? ⟨b, off + k, none⟩ = some (.slice xa p.length xc) := by rw [hW]; exact hcell'
      have hdW : W.cell? ⟨b', off' + k, none⟩ = some (.slice ya p.length yc) := by rw [hW]; exact hdell'
      rw [← hW]
      have hsm : ∀ j, Calls Tryd.prog 53 #[.slice xa p.length xc, .slice ya p.length yc] (W.drewN j) fun e w' => e = .returned (.bool true) ∧ ∃ k, w' = (W.drewN j).drewN k := fun j => by
        rw [hW]; exact sameBytes_calls _ _ p _ hr hs
      have Hsm := Lib.hid hsm
      have HW := Lib.hid hW
      have h1 : (0 : Int) ≤ (k : Int) := by omega
      have h2 : (k : Int) < (ps.length : Int) := by omega
      clear Hc Hd Hr Hs Hal Hbl hx hy hxe hye hr hs hsm hp hW hcell' hdell'
      go_wp2
      go_quiet ((go_at_call 53; exact Calls.quiet_of (Hsm.out _)))
      go_wp2
      go_roundw
      case rel => exact ⟨k + 1, by omega, by go_num, m + nq, by rw [HW.out, World.drewN_drewN]⟩
      case measure => simp [intOf]; omega
    · obtain rfl : k = ps.length := by omega
      clear Hc Hd Hr Hs Hal Hbl
      go_wp2
      go_ret
      exact ⟨rfl, m, rfl⟩
end Go.Proofs.YtjoadcgegobjpaaDoor
