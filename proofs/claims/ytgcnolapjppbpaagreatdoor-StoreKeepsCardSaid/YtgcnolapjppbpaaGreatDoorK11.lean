/-
  Texts of one proof, one behind the other.
-/
import Derived.Test.YtgcnolapjppbpaaGreatDoorK10
import Derived.Maps.AppendAt
namespace Go.Proofs.YtgcnolapjppbpaaGreatDoor
open Go.RowKit Go.Shelf
attribute [local go_sem] Oper.semAt_some
def CellsKept (A C : World) : Prop := ∀ (k : Nat) (cs : Array Value) (t : TypeId) (fz : Nat × Nat), A.heap[k]? = some (.cells cs t fz) → C.heap[k]? = some (.cells cs t fz)
theorem soft_of {B : Nat} {I : World → Prop} (h : ∀ A C, I A → CellsKept A C → Mod (fun b => B ≤ b) A C → I C) : Soft B I where
  below := fun {A C} hi hb => h A C hi (fun k cs t fz hk => (hb.block k (Array.getElem?_eq_some_iff.1 hk).1).trans hk) (Mod.of_below hb)
  put := fun {A l o} o' hi hl hk ho => h A _ hi (fun k cs t fz hk2 => by
    by_cases e : k = l
    · subst e
      rw [hk] at hk2
      injection hk2 with hk2
      rw [hk2] at ho
      simp [Obj.isCells] at ho
    · exact (World.putObj_heap_other e).trans hk2) (mod_put (by exact hl) o')
theorem Box.ck {w w' : World} {b : Nat} {cs : Array Value} {t : TypeId} (h : Box w b cs t) (hc : CellsKept w w') : Box w' b cs t := hc _ _ _ _ h
theorem own_ck {w w' : World} {base : Nat} {e : TypeId} {size n : Nat} {v : Value} {xs : List Value} (h : w.ownsRow base e size v n xs) (hc : CellsKept w w') : w'.ownsRow base e size v n xs := by
  refine ⟨h.1, ?_⟩
  rcases h.2 with hn | ⟨g, cap, cur, hv, hb, hg, rest⟩
  · exact .inl hn
  · exact .inr ⟨g, cap, cur, hv, hb, hc _ _ _ _ hg, rest⟩
theorem OwnM.ck {w w' : World} {base : Nat} {e : TypeId} {v : Value} {n : Nat} {xs : List Value} (h : OwnM w base e v n xs) (hc : CellsKept w w') : OwnM w' base e v n xs := by
  refine ⟨h.1, ?_⟩
  rcases h.2 with hn | ⟨g, cap, cur, fz, hv, hb, hg, rest⟩
  · exact .inl hn
  · exact .inr ⟨g, cap, cur, fz, hv, hb, hc _ _ _ _ hg, rest⟩
theorem info_row : (Tryz.prog.info? 92).map (fun i => (i.zero, i.size, i.bytes)) = some (some (.slice none 0 0), 1, 24) := by kernel_rfl
structure Found (e : UInt32) (bl : List (List UInt8)) (B : Nat) (pre : List (Nat × Value)) (W : World) : Prop where
  row : ∀ i x, pre[i]? = some x → x.1 = posM e bl i ∧ ∃ p k, payM e bl i = some (p, k) ∧ OwnM W B 5 x.2 p.length (p.map V8)
  apart : ∀ (i j : Nat) (x y : Nat × Value), i < j → pre[i]? = some x → pre[j]? = some y → Apart x.2 y.2
theorem Found.nil (e : UInt32) (bl : List (List UInt8)) (B : Nat) (W : World) : Found e bl B [] W := ⟨fun i x h => by simp at h, fun i j x y _ h => by simp at h⟩
theorem Found.ck {e : UInt32} {bl : List (List UInt8)} {B : Nat} {pre : List (Nat × Value)} {W W' : World} (h : Found e bl B pre W) (hc : CellsKept W W') : Found e bl B pre W' :=
  ⟨fun i x hx => by obtain ⟨h1, p, k, h2, h3⟩ := h.row i x hx; exact ⟨h1, p, k, h2, h3.ck hc⟩, h.apart⟩
theorem Found.keep {e : UInt32} {bl : List (List UInt8)} {B : Nat} {pre : List (Nat × Value)} {W W' : World} (h : Found e bl B pre W) (hk : ∀ x ∈ pre, ∀ k, x.2.ownBlock = some k → k < W.heap.size → W'.heap[k]? = W.heap[k]?) : Found e bl B pre W' :=
  ⟨fun i x hx => by obtain ⟨h1, p, k, h2, h3⟩ := h.row i x hx; exact ⟨h1, p, k, h2, h3.keep (hk x (List.mem_of_getElem? hx))⟩, h.apart⟩
theorem Found.snoc {e : UInt32} {bl : List (List UInt8)} {B : Nat} {pre : List (Nat × Value)} {x : Nat × Value} {W : World} (h : Found e bl B pre W) (hx : NextR B e bl pre x W) : Found e bl B (pre ++ [x]) W := by
  obtain ⟨h1, h2, h3⟩ := hx
  refine ⟨fun i y hy => ?_, fun i j y z hij hy hz => ?_⟩
  · rcases Nat.lt_or_ge i pre.length with hi | hi
    · rw [List.getElem?_append_left hi] at hy
      exact h.row i y hy
    · rw [List.getElem?_append_right hi] at hy
      have hi0 : i - pre.length = 0 := by
        rcases Nat.eq_zero_or_pos (i - pre.length) with h0 | h0
        · exact h0
        · rw [List.getElem?_eq_none (by simp; omega)] at hy; cases hy
      rw [hi0] at hy
      obtain rfl : x = y := by simpa using hy
      rw [show i = pre.length by omega]
      exact ⟨h1, h2⟩
  · have hjl : j < (pre ++ [x]).length := (List.getElem?_eq_some_iff.1 hz).1
    rw [List.length_append, List.length_singleton] at hjl
    rw [List.getElem?_append_left (by omega)] at hy
    rcases Nat.lt_or_ge j pre.length with hj | hj
    · rw [List.getElem?_append_left hj] at hz
      exact h.apart i j y z hij hy hz
    · rw [List.getElem?_append_right hj, show j - pre.length = 0 by omega] at hz
      obtain rfl : x = z := by simpa using hz
      exact h3 y (List.mem_of_getElem? hy)
theorem Found.len {e : UInt32} {bl : List (List UInt8)} {B : Nat} {pre : List (Nat × Value)} {W : World} (h : Found e bl B pre W) : pre.length ≤ bl.length := by
  have : ∀ n, n ≤ pre.length → n ≤ posM e bl n := by
    intro n
    induction n with
    | zero => intro _; exact Nat.zero_le _
    | succ n ih =>
      intro hn
      obtain ⟨_, p, k, h2, _⟩ := h.row n pre[n] (List.getElem?_eq_getElem (by omega))
      rw [posM_succ h2]
      have := (oneM_pos h2).1
      have := ih (by omega)
      omega
  exact Nat.le_trans (this _ (Nat.le_refl _)) (posM_le _ _ _)
theorem Found.lower {e : UInt32} {bl : List (List UInt8)} {B B' : Nat} {pre : List (Nat × Value)} {W : World} (h : Found e bl B pre W) (hb : B' ≤ B) : Found e bl B' pre W :=
  ⟨fun i x hx => by obtain ⟨h1, p, k, h2, h3⟩ := h.row i x hx; exact ⟨h1, p, k, h2, h3.lower hb⟩, h.apart⟩
structure ScanI (e : UInt32) (bl : List (List UInt8)) (lv : Value) (w w5 : World) (pre : List (Nat × Value)) (W : World) : Prop where
  found : Found e bl w5.heap.size pre W
  out : ∃ ov, Box W (w.heap.size + 1 + 1) #[ov] 174 ∧ W.ownsRow w5.heap.size 92 1 ov pre.length (pre.map (·.2))
  used : Box W (w.heap.size + 1 + 1 + 1) #[.int .i64 ((posM e bl pre.length : Nat) : Int)] 3
  ep : Box W w.heap.size #[.int .u32 (e.toNat : Int)] 87
  li : Box W (w.heap.size + 1) #[lv] 81
  below : Below w.heap.size w W
  mod : Mod (fun b => b < w.heap.size + 4 ∨ w5.heap.size ≤ b) w5 W
theorem ScanI.soft {e : UInt32} {bl : List (List UInt8)} {lv : Value} {w w5 : World} (hs : w.heap.size ≤ w5.heap.size) (pre : List (Nat × Value)) : Soft w5.heap.size (ScanI e bl lv w w5 pre) := soft_of (fun A C h hc hm => by
  obtain ⟨ov, h1, h2⟩ := h.out
  refine ⟨h.found.ck hc, ⟨ov, h1.ck hc, own_ck h2 hc⟩, h.used.ck hc, h.ep.ck hc, h.li.ck hc, h.below.trans (hm.below h.below.size (fun i hi => Nat.le_trans hs hi)), h.mod.trans (hm.mono (fun i hi => .inr hi))⟩)
theorem NextR.soft {e : UInt32} {bl : List (List UInt8)} {n : Nat} (B : Nat) (pre : List (Nat × Value)) (x : Nat × Value) : Soft n (NextR B e bl pre x) := soft_of (fun A C h hc _ => by
  obtain ⟨h1, ⟨p, k, h2, h3⟩, h4⟩ := h
  exact ⟨h1, ⟨p, k, h2, h3.ck hc⟩, h4⟩)
theorem apart_types {W : World} {b b' : Nat} {e e' : TypeId} {s n n' : Nat} {v v' : Value} {xs xs' : List Value} (h : W.ownsRow b e s v n xs) (h' : OwnM W b' e' v' n' xs') (hne : e ≠ e') : Apart v v' := by
  intro k hk hk'
  rcases h.2 with ⟨rfl, _⟩ | ⟨g, cap, cur, rfl, _, hg, _⟩
  · simp [Value.ownBlock] at hk
  · rcases h'.2 with ⟨rfl, _⟩ | ⟨g', cap', cur', fz, rfl, _, hg', _⟩
    · simp [Value.ownBlock] at hk'
    · simp [Value.ownBlock] at hk hk'
      subst hk; subst hk'
      rw [hg] at hg'
      injection hg' with h1; injection h1 with h2 h3 h4
      exact hne h3
theorem own_cells {W : World} {b : Nat} {e : TypeId} {s n : Nat} {v : Value} {xs : List Value} (h : W.ownsRow b e s v n xs) {k : Nat} (hk : v.ownBlock = some k) : ∃ cs t fz, W.heap[k]? = some (.cells cs t fz) := by
  rcases h.2 with ⟨rfl, _⟩ | ⟨g, cap, cur, rfl, _, hg, _⟩
  · simp [Value.ownBlock] at hk
  · simp [Value.ownBlock] at hk
    subst hk
    exact ⟨_, _, _, hg⟩
theorem ScanI.next {e : UInt32} {bl : List (List UInt8)} {lv : Value} {w w5 W w6 w7 : World} {pre : List (Nat × Value)} {x : Nat × Value} {p : List UInt8} {k : Nat} {ov v' : Value} {o : Obj} (h : ScanI e bl lv w w5 pre W) (hs : w.heap.size + 4 ≤ w5.heap.size) (hx : NextR w5.heap.size e bl pre x W) (hk : payM e bl pre.length = some (p, k))
    (hb6 : Below W.heap.size W w6) (ho1 : Box W (w.heap.size + 1 + 1) #[ov] 174) (ho2 : W.ownsRow w5.heap.size 92 1 ov pre.length (pre.map (·.2))) (hown : w7.ownsRow w5.heap.size 92 1 v' (pre.length + 1) (pre.map (·.2) ++ [x.2])) (hg : (w6.alloc o).grownBy w7 ov.ownBlock) (z : Int) (hz : z = ((posM e bl pre.length + k : Nat) : Int)) :
    KeepsOthers W ((w7.setCell ⟨w.heap.size + 1 + 1, 0, none⟩ v').setCell ⟨w.heap.size + 1 + 1 + 1, 0, none⟩ (.int .i64 z)) ∧ Mod (fun b => b < w.heap.size + 4 ∨ w5.heap.size ≤ b) W ((w7.setCell ⟨w.heap.size + 1 + 1, 0, none⟩ v').setCell ⟨w.heap.size + 1 + 1 + 1, 0, none⟩ (.int .i64 z)) ∧
      ScanI e bl lv w w5 (pre ++ [x]) ((w7.setCell ⟨w.heap.size + 1 + 1, 0, none⟩ v').setCell ⟨w.heap.size + 1 + 1 + 1, 0, none⟩ (.int .i64 z)) := by
  obtain ⟨G, hG⟩ : ∃ G : Nat → Prop, G = fun b => b = w.heap.size + 1 + 1 ∨ b = w.heap.size + 1 + 1 + 1 ∨ ov.ownBlock = some b := ⟨_, rfl⟩
  have hbo : Below W.heap.size W (w6.alloc o) := below_trans hb6 (below_alloc w6 o)
  have hm7 : Mod (fun b => ov.ownBlock = some b) W w7 := (Mod.of_below hbo).trans (Mod.of_grown hg (fun k hk => hk))
  have hm8 : Mod (fun b => b = w.heap.size + 1 + 1 ∨ b = w.heap.size + 1 + 1 + 1) w7 ((w7.setCell ⟨w.heap.size + 1 + 1, 0, none⟩ v').setCell ⟨w.heap.size + 1 + 1 + 1, 0, none⟩ (.int .i64 z)) := (Mod.set _ w7 ⟨w.heap.size + 1 + 1, 0, none⟩ v' (.inl rfl)).trans (Mod.set _ _ ⟨w.heap.size + 1 + 1 + 1, 0, none⟩ _ (.inr rfl))
  obtain ⟨w9, hw9⟩ : ∃ w9, w9 = (w7.setCell ⟨w.heap.size + 1 + 1, 0, none⟩ v').setCell ⟨w.heap.size + 1 + 1 + 1, 0, none⟩ (.int .i64 z) := ⟨_, rfl⟩
  have hm : Mod G W w9 := by rw [hw9, hG]; exact (hm7.mono (fun i hi => .inr (.inr hi))).trans (hm8.mono (fun i hi => by rcases hi with h | h; exact .inl h; exact .inr (.inl h)))
  rw [← hw9]
  have hol := fun k hk => (ho2.lt k hk).1
  have hGf : ∀ b, G b → b < w.heap.size + 4 ∨ w5.heap.size ≤ b := by
    rw [hG]; rintro b (h | h | h)
    · left; omega
    · left; omega
    · exact .inr (hol b h)
  have hrow : ∀ y ∈ pre ++ [x], ∀ k, y.2.ownBlock = some k → ¬ G k := by
    have hmem : ∀ y ∈ pre ++ [x], ∃ n xs, OwnM W w5.heap.size 5 y.2 n xs := by
      intro y hy
      rcases List.mem_append.1 hy with hy | hy
      · obtain ⟨i, hi⟩ := List.getElem?_of_mem hy
        obtain ⟨_, p, k, _, h3⟩ := h.found.row i y hi
        exact ⟨_, _, h3⟩
      · obtain rfl : y = x := by simpa using hy
        obtain ⟨_, ⟨p, k, _, h3⟩, _⟩ := hx
        exact ⟨_, _, h3⟩
    intro y hy k hk
    obtain ⟨n, xs, h3⟩ := hmem y hy
    have h4 := (h3.lt k hk).1
    rw [hG]; rintro (h | h | h)
    · omega
    · omega
    · exact apart_types ho2 h3 (by decide) k h hk
  have hpos : posM e bl (pre ++ [x]).length = posM e bl pre.length + k := by rw [List.length_append, List.length_singleton, posM_succ hk]
  refine ⟨⟨hm.size, fun k o hk ho => (hm.block k (Array.getElem?_eq_some_iff.1 hk).1 ?_).trans hk⟩, hm.mono hGf, ?_⟩
  · rw [hG]
    have hcell : ∀ cs t fz, W.heap[k]? ≠ some (.cells cs t fz) := fun cs t fz h => by
      rw [hk] at h; injection h with h; rw [h] at ho; simp [Obj.isCells] at ho
    rintro (h1 | h1 | h1)
    · subst h1; exact hcell _ _ _ ho1
    · subst h1; exact hcell _ _ _ h.used
    · obtain ⟨cs, t, fz, h2⟩ := own_cells ho2 h1
      exact hcell _ _ _ h2
  · have hv' := fun k hk => (hown.lt k hk).1
    have hox : Box w7 (w.heap.size + 1 + 1) #[ov] 174 := ho1.mod hm7 (fun h => by have := hol _ h; omega)
    have hux : Box w7 (w.heap.size + 1 + 1 + 1) #[.int .i64 ((posM e bl pre.length : Nat) : Int)] 3 := h.used.mod hm7 (fun h => by have := hol _ h; omega)
    have hmF := hm
    rw [hG] at hmF
    refine ⟨(h.found.keep (fun y hy k hk hl => hm.block k hl (hrow y (List.mem_append.2 (.inl hy)) k hk))).snoc ?_, ⟨v', ?_, ?_⟩, ?_, h.ep.mod hmF ?_, h.li.mod hmF ?_, h.below.trans (hm.below h.below.size ?_), h.mod.trans (hm.mono hGf)⟩
    · obtain ⟨h1, ⟨p, k, h2, h3⟩, h4⟩ := hx
      exact ⟨h1, ⟨p, k, h2, h3.mod hm (hrow x (List.mem_append.2 (.inr (List.mem_singleton.2 rfl))))⟩, h4⟩
    · rw [hw9]; exact (hox.set 0 v').set_other (by simp) _
    · rw [hw9, List.length_append, List.length_singleton, List.map_append]
      exact own_mod hown hm8 (fun k hk h => by have := hv' k hk; rcases h with h | h <;> omega)
    · rw [hw9, hpos, ← hz]; exact (hux.set_other (by simp) v').set 0 _
    · rintro (h1 | h1 | h1)
      · omega
      · omega
      · have := hol _ h1; omega
    · rintro (h1 | h1 | h1)
      · omega
      · omega
      · have := hol _ h1; omega
    · rw [hG]; rintro i (h1 | h1 | h1)
      · omega
      · omega
      · have := hol _ h1; omega
set_option maxRecDepth 100000 in
set_option maxHeartbeats 2000000 in
theorem scan_calls (e : UInt32) (lv : Value) (bl : List (List UInt8)) (w : World) (hl : Rd w lv bl.length (bl.map SV)) (hn : bl.length ≤ 5000000000000) (hbig : ∀ b ∈ bl, b.length ≤ 9223372036854775807) :
    Calls Tryz.prog 126 #[.int .u32 (e.toNat : Int), lv] w fun r w' => ∃ (ov : Value) (pre : List (Nat × Value)), payM e bl pre.length = none ∧ r = .returned (.tuple #[ov, .int .i64 ((posM e bl pre.length : Nat) : Int)]) ∧
      Found e bl w.heap.size pre w' ∧ w'.ownsRow w.heap.size 92 1 ov pre.length (pre.map (·.2)) ∧ Below w.heap.size w w' := by
  refine (callsIn_wide (n := 9)).1 ?_
  refine callsIn_of_wp_marks Tryz.func126 rfl trivial ?_ rfl
  simp only [Tryz.ntmps126, List.size_toArray, List.length_cons, List.length_nil, Nat.reduceAdd, Nat.reduceSub, Array.replicate_succ, Array.replicate_zero, List.push_toArray, List.append_toArray, List.nil_append, List.cons_append]
  obtain ⟨la, lc, rfl⟩ : ∃ a c, lv = .slice a bl.length c := by obtain ⟨a, c, h, _⟩ := hl; exact ⟨a, c, h⟩
  have hb1 := below_alloc w (.cells #[.int .u32 (e.toNat : Int)] 87)
  have hb2 := below_alloc (w.alloc (.cells #[.int .u32 (e.toNat : Int)] 87)) (.cells #[.slice la bl.length lc] 81)
  have hb3 := below_alloc ((w.alloc (.cells #[.int .u32 (e.toNat : Int)] 87)).alloc (.cells #[.slice la bl.length lc] 81)) (.cells #[.slice none 0 0] 174)
  have hb4 := below_alloc (((w.alloc (.cells #[.int .u32 (e.toNat : Int)] 87)).alloc (.cells #[.slice la bl.length lc] 81)).alloc (.cells #[.slice none 0 0] 174)) (.cells #[.int .i64 0] 3)
  have hx1 := (((Box.new w #[.int .u32 (e.toNat : Int)] 87).below hb2).below hb3).below hb4
  have hx2 := ((Box.new (w.alloc (.cells #[.int .u32 (e.toNat : Int)] 87)) #[.slice la bl.length lc] 81).below hb3).below hb4
  have hx3 := (Box.new ((w.alloc (.cells #[.int .u32 (e.toNat : Int)] 87)).alloc (.cells #[.slice la bl.length lc] 81)) #[.slice none 0 0] 174).below hb4
  have hx4 := Box.new (((w.alloc (.cells #[.int .u32 (e.toNat : Int)] 87)).alloc (.cells #[.slice la bl.length lc] 81)).alloc (.cells #[.slice none 0 0] 174)) #[.int .i64 0] 3
  have hbw := hb1.trans ((hb2.trans ((hb3.trans (hb4.mono (by simp))).mono (by simp))).mono (by simp))
  rw [World.size_alloc] at hx2
  rw [World.size_alloc, World.size_alloc] at hx3
  rw [World.size_alloc, World.size_alloc, World.size_alloc] at hx4
  have HX1 := Lib.hid hx1
  have HX2 := Lib.hid hx2
  have HX3 := Lib.hid hx3
  have HX4 := Lib.hid hx4
  have HBW := Lib.hid hbw
  have HLW := Lib.hid (hl.below hbw)
  have HL := Lib.hid hl
  clear hl hb1 hb2 hb3 hb4 hx1 hx2 hx3 hx4 hbw
  gi_wp2_with (gi_at_call 163; fail)
  refine ⟨trivial, ?_⟩
  refine (callsIn_wide.2 (all_calls e _ bl _ HLW.out (by omega))).mono ?_
  rintro r w5 ⟨E, B, rfl, hA, hb5⟩
  have HX1 := Lib.hid (HX1.out.below hb5)
  have HX2 := Lib.hid (HX2.out.below hb5)
  have HX3 := Lib.hid (HX3.out.below hb5)
  have HX4 := Lib.hid (HX4.out.below hb5)
  have HB5 := Lib.hid (HBW.out.trans (hb5.mono HBW.out.size))
  have hs5 := HB5.out.size
  have hA : AllAt (w.heap.size + 4) e bl E B w5 := by
    have e1 : ((((w.alloc (.cells #[.int .u32 (e.toNat : Int)] 87)).alloc (.cells #[.slice la bl.length lc] 81)).alloc (.cells #[.slice none 0 0] 174)).alloc (.cells #[.int .i64 0] 3)).heap.size = w.heap.size + 4 := by simp
    rw [e1] at hA; exact hA
  have hs54 : w.heap.size + 4 ≤ w5.heap.size := by have := hb5.size; simp only [World.size_alloc] at this; omega
  have HA := Lib.hid hA
  clear hb5 hA HBW HLW
  gi_wp2
  refine wpIn_rangeFunc_R rfl (by omega) (gf := 182) (lb := #[.pointer (some ⟨E, 0, none⟩), .pointer (some ⟨B, 0, none⟩)]) rfl trivial (enters_of Tryz.func182 (by kernel_rfl) rfl)
    (allIt e bl hbig E B (w.heap.size + 4) w5 HA.out (9 - 1) (by omega)) (fun b hb => .inr hb) (fun _ => rfl)
    (ScanI e bl (.slice la bl.length lc) w w5) (fun _ _ _ => False) (fun s => ScanI.soft hs5 s) (fun _ _ => soft_of (fun _ _ h _ _ => h)) (fun s x => NextR.soft _ s x)
    ⟨Found.nil _ _ _ _, ⟨_, HX3.out, World.ownsRow_nil _ _ _ _⟩, HX4.out, HX1.out, HX2.out, HB5.out, Mod.refl _ _⟩
    (fun x => { tmps := #[.int .u32 (e.toNat : Int), .slice la bl.length lc, .pointer (some ⟨w.heap.size, 0, none⟩), .pointer (some ⟨w.heap.size + 1, 0, none⟩), .slice none 0 0, .int .i64 0, .pointer (some ⟨w.heap.size + 1 + 1, 0, none⟩), .pointer (some ⟨w.heap.size + 1 + 1 + 1, 0, none⟩), .int .i64 (x.1 : Int), x.2, undef, undef, .int .u32 (e.toNat : Int), .slice la bl.length lc, .func (.func 182) #[] #[.pointer (some ⟨E, 0, none⟩), .pointer (some ⟨B, 0, none⟩)], .int .i64 (x.1 : Int), x.2, undef, undef, undef, undef, undef, undef, undef, undef, undef, undef, undef, undef, undef, undef, undef, undef, undef], defers := [] })
    ?assign ?body ?done ?stop
  case assign =>
    intro l x W K hK
    gi_wp2
    exact hK
  case done =>
    rintro D pre W hS hI hD hK
    obtain ⟨ov, ho1, ho2⟩ := hI.out
    have hc1 := ho1.cell 0 _ rfl
    have hc2 := hI.used.cell 0 _ rfl
    have HI := Lib.hid hI
    have HO2 := Lib.hid ho2
    have HS := Lib.hid hS
    clear hI ho1 ho2 hS
    gi_wp2
    refine wpIn_wide.2 ?_
    go_quiet (fail)
    gi_wp2
    have hdn : Below W.heap.size W (W.drewN nq) := ⟨rfl, rfl, rfl, Nat.le_refl _, fun _ _ => rfl⟩
    obtain ⟨W9, hW9⟩ : ∃ W9, W9 = W.drewN nq := ⟨_, rfl⟩
    rw [← hW9] at hdn ⊢
    have hK9 : W9.heap[D]? = some (.deferred (some [])) := (hdn.block D (Array.getElem?_eq_some_iff.1 hK).1).trans hK
    refine ⟨by simp, .inl ⟨_, _, rfl, run_takeDeferred hK9, ?_⟩⟩
    have hI10 := (ScanI.soft hs5 pre).put (.deferred none) ((ScanI.soft hs5 pre).below HI.out hdn) hD hK9 rfl
    have hso : Soft w5.heap.size (fun W => W.ownsRow w5.heap.size 92 1 ov pre.length (pre.map (·.2))) := soft_of (fun A C h hc _ => own_ck h hc)
    have ho10 := hso.put (.deferred none) (hso.below HO2.out hdn) hD hK9 rfl
    exact ⟨_, results_tmp2 rfl _ _ _, ov, pre, HS.out, rfl, hI10.found.lower hs5, own_base ho10 hs5, hI10.below⟩
  case stop =>
    rintro D c pre W _ h _ _
    exact h.elim
  case body =>
    rintro l pre x W hI hT
    obtain ⟨xa, xv⟩ := x
    obtain ⟨hxa, ⟨p, k, hp, hown⟩, hap⟩ := hT
    simp only at hxa hown hap
    obtain ⟨pa, pc, rfl, hpl⟩ := hown.slice
    obtain ⟨ov, ho1, ho2⟩ := hI.out
    obtain ⟨oa, oc, rfl, _⟩ := own_slice ho2
    have hxl : xa ≤ bl.length := by rw [hxa]; exact posM_le _ _ _
    have hLW := HL.out.below hI.below
    have hsl := run_tail (P := Tryz.prog) (t := 81) Tryz.underlying81 (by kernel_rfl) la bl.length lc xa hxl
    have hrt := tailV_rd hLW (k := xa) hxl (by simp)
    rw [← List.map_drop, ← List.length_drop] at hrt
    obtain ⟨tv, htv⟩ : ∃ t, t = tailV la bl.length lc xa := ⟨_, rfl⟩
    rw [← htv] at hsl hrt
    have hone : ∀ w', Below W.heap.size W w' → Calls Tryz.prog 164 #[.int .u32 (e.toNat : Int), tv] w' fun r w'' => ∃ v, r = .returned (.tuple #[v, .int .i64 (k : Int)]) ∧ Below W.heap.size W w'' ∧
        w''.cell? ⟨w.heap.size + 1 + 1, 0, none⟩ = some (.slice oa pre.length oc) ∧ w''.frozen? ⟨w.heap.size + 1 + 1, 0, none⟩ = false ∧ (∃ y, w''.cell? ⟨w.heap.size + 1 + 1 + 1, 0, none⟩ = some y) ∧ w''.frozen? ⟨w.heap.size + 1 + 1 + 1, 0, none⟩ = false := fun w' hb =>
      (one_calls e tv (bl.drop xa) w' (hrt.below hb) (fun b hb => hbig b (List.mem_of_mem_drop hb))).mono (fun r w'' ⟨hb2, h⟩ => by
        have hb3 := below_trans hb hb2
        rcases h with ⟨h, _⟩ | ⟨p', k', v, h, h1, h2⟩
        · rw [hxa] at h
          unfold payM at hp
          rw [hp] at h; cases h
        · rw [hxa] at h
          unfold payM at hp
          rw [hp] at h
          injection h with h; injection h with h3 h4
          subst h3; subst h4
          exact ⟨v, h1, hb3, (ho1.below hb3).cell 0 _ rfl, (ho1.below hb3).free 0, ⟨_, (hI.used.below hb3).cell 0 _ rfl⟩, (hI.used.below hb3).free 0⟩)
    have hc2 := hI.ep.cell 0 _ rfl
    have hc3 := hI.li.cell 0 _ rfl
    have HI := Lib.hid hI
    have Hone := Lib.hid hone
    have HO1 := Lib.hid ho1
    have HO2 := Lib.hid ho2
    have HXa := Lib.hid hxa
    have HP := Lib.hid hp
    have HOw := Lib.hid hown
    have HAp := Lib.hid hap
    have hd9 : 1 ≤ 9 - 1 - 1 := by omega
    have hmx : Tryz.prog.follows .mixedOrders = true := by kernel_rfl
    clear hI hone ho1 ho2 hxa hp hown hap hrt hLW htv
    obtain ⟨i0, hi, hz0, hz1, hz2⟩ := info_parts info_row
    have hlen := HI.out.found.len
    have Hr1 := Lib.hid (show pre.length + 1 ≤ maxLen by unfold maxLen; omega)
    have Hr2 := Lib.hid (show (pre.length + 1) * 24 ≤ 140737488355328 by omega)
    have HsW := Lib.hid HI.out.mod.size
    have hxk : xa + k ≤ bl.length := by
      have := posM_le e bl (pre.length + 1)
      rw [posM_succ HP.out, ← HXa.out] at this; exact this
    have hwr : wrap64 ((xa : Int) + (k : Int)) = (xa : Int) + (k : Int) := by unfold wrap64; omega
    gi_wp2
    refine wpIn_mono (Q := fun ex a' w6 => ex = Exit.normal ∧ ∃ v, a' = { tmps := #[.int .u32 (e.toNat : Int), .slice la bl.length lc, .pointer (some ⟨w.heap.size, 0, none⟩), .pointer (some ⟨w.heap.size + 1, 0, none⟩), .slice none 0 0, .int .i64 0, .pointer (some ⟨w.heap.size + 1 + 1, 0, none⟩), .pointer (some ⟨w.heap.size + 1 + 1 + 1, 0, none⟩), .int .i64 (xa : Int), .slice pa p.length pc, v, .int .i64 (k : Int), .int .u32 (e.toNat : Int), .slice la bl.length lc, .func (.func 182) #[] #[.pointer (some ⟨E, 0, none⟩), .pointer (some ⟨B, 0, none⟩)], .int .i64 (xa : Int), .slice pa p.length pc, .tuple #[v, .int .i64 (k : Int)], .int .u32 (e.toNat : Int), .slice la bl.length lc, .int .i64 (xa : Int), tv, .tuple #[v, .int .i64 (k : Int)], v, .int .i64 (k : Int), undef, undef, undef, undef, undef, undef, undef, undef, undef], defers := [] } ∧ Below W.heap.size W w6 ∧
        w6.cell? ⟨w.heap.size + 1 + 1, 0, none⟩ = some (.slice oa pre.length oc) ∧ w6.frozen? ⟨w.heap.size + 1 + 1, 0, none⟩ = false ∧ (∃ y, w6.cell? ⟨w.heap.size + 1 + 1 + 1, 0, none⟩ = some y) ∧ w6.frozen? ⟨w.heap.size + 1 + 1 + 1, 0, none⟩ = false) ?_ ?_
    · gi_region_with_o (first | (gi_at_call 164; refine (CallsIn.inRound l (callsIn_wide.2 (Hone.out _ (below_drew _)))).mono ?_; rintro r w6 ⟨v, rfl, hb6, hco, hfo, ⟨y, hcu⟩, hfu⟩) | (refine ⟨trivial, ?_⟩; refine (CallsIn.inRound l (callsIn_wide.2 (Hone.out _ (below_drew _)))).mono ?_; rintro r w6 ⟨v, rfl, hb6, hco, hfo, ⟨y, hcu⟩, hfu⟩))
      all_goals exact ⟨rfl, v, rfl, hb6, hco, hfo, ⟨y, hcu⟩, hfu⟩
    rintro ex a' w6 ⟨rfl, v, rfl, hb6, hco, hfo, ⟨y, hcu⟩, hfu⟩
    have HB6 := Lib.hid hb6
    clear hb6
    gi_wp2_with (gi_at_builtin; refine wpListIn_append_own _ rfl _ _ 174 rfl w5.heap.size 92 i0 (.slice none 0 0) 1 24 Tryz.underlying174 hi hz0 hz1 hz2 rfl (by decide) _ _ _ rfl ((own_below HO2.out HB6.out).alloc _) ⟨w6.heap.size, 0, none⟩ 1 1 [.slice pa p.length pc] rfl rfl (cell_one_new _ _ _) (by simp [Value.oneCell']) Hr1.out Hr2.out (Nat.le_trans HsW.out (Nat.le_trans HB6.out.size (by simp))) ?_)
    intro v' w7 hown' hgrow _
    obtain ⟨ga, gc, rfl, _⟩ := own_slice hown'
    have hol : ∀ k, (Value.slice oa pre.length oc).ownBlock = some k → w5.heap.size ≤ k := fun k hk => (HO2.out.lt k hk).1
    have hm7 : Mod (fun b => (Value.slice oa pre.length oc).ownBlock = some b) W w7 := (Mod.of_below (below_trans HB6.out (below_alloc w6 _))).trans (Mod.of_grown hgrow (fun k hk => hk))
    have hox := HO1.out.mod hm7 (fun h => by have := hol _ h; omega)
    have hux := HI.out.used.mod hm7 (fun h => by have := hol _ h; omega)
    have a1 := hox.cell 0 _ rfl
    have a2 := hox.free 0
    have a3 := hux.cell 0 _ rfl
    have a4 := hux.free 0
    have HN := Lib.hid (fun z hz => HI.out.next (x := (xa, .slice pa p.length pc)) hs54 ⟨HXa.out, ⟨p, k, HP.out, HOw.out⟩, HAp.out⟩ HP.out HB6.out HO1.out HO2.out hown' hgrow z hz)
    clear hol hm7 hox hux hown' hgrow hco hfo hcu hfu
    gi_wp2
    exact HN.out _ (by rw [← HXa.out]; omega)
end Go.Proofs.YtgcnolapjppbpaaGreatDoor
