/-
  Texts of one proof, one behind the other.
-/
import Derived.Test.YtgcnolapjppbpaaGreatDoorK03
import Derived.Deep.LoopGhost
namespace Go.Proofs.YtgcnolapjppbpaaGreatDoor
open Go.RowKit
theorem replicate_map (n : Nat) : ((List.replicate n ByteArray.empty).map Value.string).toArray = madeCells #[.string ByteArray.empty] n := by
  rw [List.map_replicate, ← toList_madeCells_one, Array.toArray_toList]
theorem make_str (n : Nat) (hn : n ≤ 4096) (w : World) : (Instr.makeSlice 81 (.int .i64 (n : Int)) (.int .i64 (n : Int))).run Tryz.prog w =
    .ok (.slice (some ⟨w.heap.size, 0, none⟩) n n) (w.alloc (.cells (madeCells #[.string ByteArray.empty] n) 9)) := by
  obtain ⟨i0, hi, hz0, hz1, hz2⟩ := info_parts info_str
  have h := run_make (P := Tryz.prog) w 81 9 i0 (.string ByteArray.empty) Tryz.underlying81 hi hz0 .i64 .i64 (n : Int) (n : Int) (by omega) (Int.le_refl _) (by rw [hz2]; omega) (by omega)
  simpa [hz1, Value.cells] using h
set_option maxHeartbeats 400000 in
theorem new_yes (n : Nat) (w : World) (h1 : 1 ≤ n) (h2 : n ≤ 4096) : Calls Tryz.prog 20 #[.int .i64 (n : Int)] w fun e w' => ∃ p F, e = .returned (.tuple #[.pointer (some ⟨p, 0, none⟩), errV 0]) ∧
    IsDisk w' { strs := List.replicate n ByteArray.empty, trail := [], left := none } p F ∧ Below w.heap.size w w' ∧ ∀ k, F k → w.heap.size ≤ k := by
  have hmk := make_str n h2
  go_enter Tryz.func20, Tryz.ntmps20
  go_wp2
  go_ret2
  refine ⟨w.heap.size + 1, _, rfl, ⟨w.heap.size, .slice none 0 0, _, none, ?_, ?_, World.ownsRow_nil _ _ _ _, ⟨rfl, rfl⟩, by simpa using h2, by simp, fun k hk => by simp [Value.ownBlock] at hk, fun k hk => by simp at hk, rfl⟩, by go_grown, ?_⟩
  · have := Box.new (w.alloc (.cells (madeCells #[.string ByteArray.empty] n) 9)) #[.slice (some ⟨w.heap.size, 0, none⟩) n n, .slice none 0 0, .func (.func 35) #[] #[]] 83
    simpa using this
  · have := (Box.new w (madeCells #[.string ByteArray.empty] n) 9)
    rw [replicate_map]
    exact this.below (below_alloc _ _)
  · rintro k (h | h | h | h)
    · omega
    · omega
    · simp [Value.ownBlock] at h
    · cases h
theorem IsDisk.power {w : World} {d : DiskM} {p : Nat} {F : Nat → Prop} (h : IsDisk w d p F) (pv : Value) (left : Option Nat) (q : Option Nat) (hP : PowerAt w pv left q) (hq : ∀ k, q = some k → ¬ F k) :
    ∃ F', IsDisk (w.setCell ⟨p, 2, none⟩ pv) { d with left := left } p F' ∧ Mod F w (w.setCell ⟨p, 2, none⟩ pv) ∧ ∀ k, F' k → F k ∨ q = some k := by
  obtain ⟨bb, tv, pv0, q0, h1, h2, h3, h4, h5, h6, h7, h8, rfl⟩ := h
  refine ⟨diskF p bb tv q, ⟨bb, tv, pv, q, by simpa using h1.set 2 pv, h2.set_other (fun e => h6 e.symm) pv, own_mod h3 (Mod.set (fun k => k = p) w ⟨p, 2, none⟩ pv rfl) (fun k hk e => (h7 k hk).1 e), hP.mod (Mod.set (fun k => k = p) w ⟨p, 2, none⟩ pv rfl) (fun k hk e => hq k hk (.inl e)), h5, h6, h7, fun k hk => ⟨fun e => hq k hk (.inl e), fun e => hq k hk (.inr (.inl e)), fun e => hq k hk (.inr (.inr (.inl e)))⟩, rfl⟩, Mod.set _ _ _ _ (.inl rfl), ?_⟩
  rintro k (h | h | h | h)
  · exact .inl (.inl h)
  · exact .inl (.inr (.inl h))
  · exact .inl (.inr (.inr (.inl h)))
  · exact .inr h
theorem IsDisk.cells {w : World} {d : DiskM} {p : Nat} {F : Nat → Prop} (h : IsDisk w d p F) : F p ∧ ∃ c0 c1 c2, Box w p #[c0, c1, c2] 83 := by
  obtain ⟨bb, tv, pv0, q0, h1, h2, h3, h4, h5, h6, h7, h8, rfl⟩ := h
  exact ⟨.inl rfl, _, _, _, h1⟩
theorem failing_calls (n : Nat) (w : World) : Calls Tryz.prog 36 #[.int .i64 (n : Int)] w fun e w' => e = .returned (.func (.func 57) #[] #[.pointer (some ⟨w.heap.size, 0, none⟩)]) ∧ w' = w.alloc (.cells #[.int .i64 (n : Int)] 3) := by
  have hmf : ∀ (fn : Fn) (first cap : Array Value) (w : World), (Instr.makeFunc fn first cap).run Tryz.prog w = .ok (.func fn first cap) w := fun _ _ _ _ => rfl
  go_enter Tryz.func36, Tryz.ntmps36
  go_wp2
  go_ret
  exact ⟨rfl, rfl⟩
set_option maxHeartbeats 400000 in
theorem cut_calls (d : DiskM) (p : Nat) (F : Nat → Prop) (n : Int) (w : World) (h : IsDisk w d p F) (hn : n ≤ 9223372036854775807) :
    Calls Tryz.prog 11 #[.pointer (some ⟨p, 0, none⟩), .int .i64 n] w fun e w' => e = .returned (.tuple #[]) ∧ ∃ F', IsDisk w' { d with left := if n < 0 then none else some n.toNat } p F' ∧ Mod F w w' ∧ ∀ k, F' k → F k ∨ w.heap.size ≤ k := by
  obtain ⟨F1, g1, g2, g3⟩ := h.power (.func (.func 35) #[] #[]) none none ⟨rfl, rfl⟩ (fun k hk => by cases hk)
  obtain ⟨_, c0, c1, c2, hb⟩ := h.cells
  have hc := hb.cell 2 _ rfl
  have hf := hb.free 2
  have hFlt := h.lt
  clear h hb
  by_cases h0 : n < 0
  · go_enter Tryz.func11, Tryz.ntmps11
    go_wp2
    go_end0
    refine ⟨rfl, F1, by simpa [h0] using g1, g2, fun k hk => ?_⟩
    rcases g3 k hk with h | h
    · exact .inl h
    · cases h
  · obtain ⟨m, rfl⟩ := Int.eq_ofNat_of_zero_le (show 0 ≤ n by omega)
    go_enter Tryz.func11, Tryz.ntmps11
    go_wp2_with fail
    refine (failing_calls m _).mono ?_
    rintro e w' ⟨rfl, rfl⟩
    have hsz : (w.setCell ⟨p, 2, none⟩ (.func (.func 35) #[] #[])).heap.size = w.heap.size := by simp
    have hnew := Box.new (w.setCell ⟨p, 2, none⟩ (.func (.func 35) #[] #[])) #[.int .i64 (m : Int)] 3
    have g4 := g1.mod (Mod.alloc (fun _ => False) _ (.cells #[.int .i64 (m : Int)] 3)) (fun _ _ h => h)
    obtain ⟨F2, k1, k2, k3⟩ := g4.power (.func (.func 57) #[] #[.pointer (some ⟨w.heap.size, 0, none⟩)]) (some m) (some w.heap.size) ⟨w.heap.size, rfl, rfl, by rw [← hsz]; exact hnew, by omega⟩ (fun k hk hF => by
      injection hk with hk; subst hk
      rcases g3 _ hF with h | h
      · have := hFlt _ h; omega
      · cases h)
    obtain ⟨_, d0, d1, d2, hb2⟩ := g4.cells
    have hd := hb2.cell 2 _ rfl
    have hfd := hb2.free 2
    have hsz2 : ((w.setCell ⟨p, 2, none⟩ (.func (.func 35) #[] #[])).alloc (.cells #[.int .i64 (m : Int)] 3)).heap.size = w.heap.size + 1 := by simp
    have m1 : Mod F w ((w.setCell ⟨p, 2, none⟩ (.func (.func 35) #[] #[])).alloc (.cells #[.int .i64 (m : Int)] 3)) := g2.trans (Mod.alloc _ _ _)
    have G1 := Lib.hid g1
    clear g1 g4 hnew hb2 hc hf
    rw [hsz]
    clear hsz
    obtain ⟨w2, hw2⟩ : ∃ w2, w2 = (w.setCell ⟨p, 2, none⟩ (.func (.func 35) #[] #[])).alloc (.cells #[.int .i64 (m : Int)] 3) := ⟨_, rfl⟩
    rw [← hw2] at k1 k2 hd hfd hsz2 m1 ⊢
    clear hw2
    have hsz3 : w.heap.size ≤ w2.heap.size := by omega
    clear hsz2
    go_wp2
    go_end0
    refine ⟨rfl, F2, by simpa [h0] using k1, ?_, fun k hk => ?_⟩
    · refine m1.then k2 (fun i hi => ?_)
      rcases g3 i hi with h | h
      · exact .inl h
      · cases h
    · rcases k3 k hk with h | h
      · rcases g3 k h with h | h
        · exact .inl h
        · cases h
      · injection h with h; right; omega
theorem playRaws_length (l : List (Int × ByteArray)) : ∀ strs : List ByteArray, (l.foldl (fun s r => s.set r.1.toNat r.2) strs).length = strs.length := by
  induction l with
  | nil => intro _; rfl
  | cons a l ih => intro strs; rw [List.foldl_cons, ih]; simp
def playRaws (strs : List ByteArray) (l : List (Int × ByteArray)) : List ByteArray := l.foldl (fun s r => s.set r.1.toNat r.2) strs
end Go.Proofs.YtgcnolapjppbpaaGreatDoor
namespace Go.Proofs.YtgcnolapjppbpaaGreatDoor
open Go.RowKit
structure DiskM.Wf (d : DiskM) : Prop where
  inr : ∀ r ∈ d.trail, 0 ≤ r.1 ∧ r.1 < d.strs.length
  short : ∀ r ∈ d.trail, r.2.size ≤ 256
  play : d.strs = playRaws (List.replicate d.strs.length ByteArray.empty) d.trail
theorem playRaws_snoc (s : List ByteArray) (l : List (Int × ByteArray)) (r : Int × ByteArray) : playRaws s (l ++ [r]) = (playRaws s l).set r.1.toNat r.2 := by simp [playRaws]
theorem playRaws_len (s : List ByteArray) (l : List (Int × ByteArray)) : (playRaws s l).length = s.length := playRaws_length l s
theorem DiskM.write_len (d : DiskM) (i : Int) (s : ByteArray) : (d.write i s).1.strs.length = d.strs.length := by
  unfold DiskM.write; split
  · rfl
  split
  · rfl
  split
  · rfl
  · simp
theorem DiskM.Wf.write {d : DiskM} (h : d.Wf) (i : Int) (s : ByteArray) : (d.write i s).1.Wf := by
  unfold DiskM.write; split
  · exact h
  rename_i h1
  split
  · exact h
  rename_i h2
  split
  · exact h
  refine ⟨fun r hr => ?_, fun r hr => ?_, ?_⟩
  · simp only [List.mem_append, List.mem_singleton, List.length_set] at hr ⊢
    rcases hr with hr | rfl
    · exact h.inr r hr
    · simp only; omega
  · simp only [List.mem_append, List.mem_singleton] at hr
    rcases hr with hr | rfl
    · exact h.short r hr
    · simp only; omega
  · simp only [List.length_set]
    rw [playRaws_snoc, ← h.play]
theorem DiskM.Wf.new (n : Nat) (left : Option Nat) : ({ strs := List.replicate n ByteArray.empty, trail := [], left := left } : DiskM).Wf :=
  ⟨fun r hr => by simp at hr, fun r hr => by simp at hr, by simp [playRaws]⟩
theorem DiskM.write_trail (d : DiskM) (i : Int) (s : ByteArray) : (d.write i s).1.trail.length ≤ d.trail.length + 1 ∧ d.trail.length ≤ (d.write i s).1.trail.length := by
  unfold DiskM.write
  split
  · exact ⟨Nat.le_succ _, Nat.le_refl _⟩
  split
  · exact ⟨Nat.le_succ _, Nat.le_refl _⟩
  split
  · exact ⟨Nat.le_succ _, Nat.le_refl _⟩
  · simp
theorem write_any (d : DiskM) (p : Nat) (F : Nat → Prop) (i : Int) (s : ByteArray) (w : World) (h : IsDisk w d p F) (ht : d.trail.length ≤ 100000000000) (hs : s.size ≤ 9223372036854775807) :
    Calls Tryz.prog 25 #[.pointer (some ⟨p, 0, none⟩), .int .i64 i, .string s] w fun e w' => e = .returned (errV (d.write i s).2) ∧
      ∃ F', IsDisk w' (d.write i s).1 p F' ∧ Mod F w w' ∧ ∀ k, F' k → F k ∨ w.heap.size ≤ k := by
  unfold DiskM.write
  by_cases h1 : 0 ≤ i ∧ i < d.strs.length
  · rw [if_neg (by simpa using h1)]
    by_cases h2 : 256 < s.size
    · rw [if_pos h2]
      refine (write_long d p F i s w h h1 h2).mono ?_
      rintro e w' ⟨rfl, rfl⟩
      exact ⟨rfl, F, h, Mod.refl _ _, fun k hk => .inl hk⟩
    · rw [if_neg h2]
      by_cases h3 : d.left = some 0
      · rw [if_pos h3]
        refine (write_power d p F i s w h h1 (by omega) h3).mono ?_
        rintro e w' ⟨rfl, rfl⟩
        exact ⟨rfl, F, h, Mod.refl _ _, fun k hk => .inl hk⟩
      · rw [if_neg h3]
        obtain ⟨n, rfl⟩ := Int.eq_ofNat_of_zero_le h1.1
        exact write_ok d p F n s w h (by omega) (by omega) h3 ht
  · rw [if_pos h1]
    refine (write_arg d p F i s w h h1).mono ?_
    rintro e w' ⟨rfl, rfl⟩
    exact ⟨rfl, F, h, Mod.refl _ _, fun k hk => .inl hk⟩
def DiskM.writes (d : DiskM) (l : List (Int × ByteArray)) : DiskM := l.foldl (fun d r => (d.write r.1 r.2).1) d
theorem DiskM.write_left {d : DiskM} (h : d.left = none) (i : Int) (s : ByteArray) : (d.write i s).1.left = none := by
  unfold DiskM.write
  split
  · exact h
  split
  · exact h
  split
  · exact h
  · simp [h]
end Go.Proofs.YtgcnolapjppbpaaGreatDoor
namespace Go.Proofs.YtgcnolapjppbpaaGreatDoor
open Go.RowKit
set_option maxRecDepth 100000
def leftI : Option Nat → Int
  | none => -1
  | some n => (n : Int)
def IsRef (w : World) (d : DiskM) (rp : Nat) (G : Nat → Prop) : Prop :=
  ∃ tv : Value, Box w rp #[.int .i64 (d.strs.length : Int), tv, .int .i64 (leftI d.left)] 74 ∧ w.ownsRow 0 111 2 tv d.trail.length (flatRaws d.trail) ∧ (∀ k, tv.ownBlock = some k → k ≠ rp) ∧ (∀ n, d.left = some n → n ≤ 9223372036854775807) ∧ G = fun k => k = rp ∨ tv.ownBlock = some k
theorem IsRef.mod {w w' : World} {d : DiskM} {rp : Nat} {G F : Nat → Prop} (h : IsRef w d rp G) (hm : Mod F w w') (hg : ∀ k, G k → ¬ F k) : IsRef w' d rp G := by
  obtain ⟨tv, h1, h2, h3, hlb, rfl⟩ := h
  exact ⟨tv, h1.mod hm (hg rp (.inl rfl)), own_mod h2 hm (fun k hk => hg k (.inr hk)), h3, hlb, rfl⟩
theorem IsRef.lt {w : World} {d : DiskM} {rp : Nat} {G : Nat → Prop} (h : IsRef w d rp G) : ∀ k, G k → k < w.heap.size := by
  obtain ⟨tv, h1, h2, h3, hlb, rfl⟩ := h
  rintro k (rfl | hk)
  · exact h1.lt
  · exact (h2.lt k hk).2
theorem IsRef.below {w w' : World} {d : DiskM} {rp : Nat} {G : Nat → Prop} (h : IsRef w d rp G) (hb : Below w.heap.size w w') : IsRef w' d rp G := h.mod (Mod.of_below (F := fun _ => False) hb) (fun _ _ h => h)
def DiskM.read (d : DiskM) (i : Int) : ByteArray × Int := if 0 ≤ i ∧ i < d.strs.length then (d.strs.getD i.toNat ByteArray.empty, 0) else (ByteArray.empty, 1)
theorem read_any (d : DiskM) (p : Nat) (F : Nat → Prop) (i : Int) (w : World) (h : IsDisk w d p F) :
    Calls Tryz.prog 119 #[.pointer (some ⟨p, 0, none⟩), .int .i64 i] w fun e w' => e = .returned (.tuple #[.string (d.read i).1, errV (d.read i).2]) ∧ w = w' := by
  unfold DiskM.read
  by_cases hi : 0 ≤ i ∧ i < d.strs.length
  · rw [if_pos hi]
    obtain ⟨n, rfl⟩ := Int.eq_ofNat_of_zero_le hi.1
    exact read_yes d p F n w h (by omega)
  · rw [if_neg hi]
    exact read_no d p F i w h hi
theorem play_skip (i : Nat) : ∀ (l : List (Int × ByteArray)) (s : List ByteArray), (∀ r ∈ l, 0 ≤ r.1 ∧ r.1 ≠ (i : Int)) → (playRaws s l).getD i ByteArray.empty = s.getD i ByteArray.empty
  | [], _, _ => rfl
  | r :: l, s, h => by
    have ih := play_skip i l (s.set r.1.toNat r.2) (fun x hx => h x (List.mem_cons_of_mem _ hx))
    have h0 := h r (List.mem_cons_self ..)
    show (playRaws (s.set r.1.toNat r.2) l).getD i ByteArray.empty = _
    rw [ih, List.getD, List.getD, List.getElem?_set_ne (by omega)]
theorem playRaws_append (s : List ByteArray) (l m : List (Int × ByteArray)) : playRaws s (l ++ m) = playRaws (playRaws s l) m := by simp [playRaws]
theorem DiskM.Wf.find {d : DiskM} (h : d.Wf) (i k : Nat) (hi : i < d.strs.length) (hk : k ≤ d.trail.length) (hn : ∀ r ∈ d.trail.drop k, r.1 ≠ (i : Int)) :
    d.strs.getD i ByteArray.empty = if k = 0 then ByteArray.empty else (if (d.trail.getD (k - 1) (0, ByteArray.empty)).1 = (i : Int) then (d.trail.getD (k - 1) (0, ByteArray.empty)).2 else d.strs.getD i ByteArray.empty) := by
  have e1 : d.strs.getD i ByteArray.empty = (playRaws (List.replicate d.strs.length ByteArray.empty) (d.trail.take k)).getD i ByteArray.empty := by
    conv => lhs; rw [h.play]
    conv => lhs; rw [← List.take_append_drop k d.trail, playRaws_append]
    exact play_skip i _ _ (fun r hr => ⟨(h.inr r (List.mem_of_mem_drop hr)).1, hn r hr⟩)
  by_cases h0 : k = 0
  · rw [if_pos h0, e1, h0]
    simp [playRaws, List.getD, hi]
  · rw [if_neg h0]
    by_cases hc : (d.trail.getD (k - 1) (0, ByteArray.empty)).1 = (i : Int)
    · rw [if_pos hc, e1]
      obtain ⟨m, rfl⟩ : ∃ m, k = m + 1 := ⟨k - 1, by omega⟩
      have hm : m < d.trail.length := by omega
      rw [Nat.add_sub_cancel] at hc ⊢
      have e2 : d.trail.getD m (0, ByteArray.empty) = d.trail[m] := by simp [List.getD, hm]
      rw [e2] at hc ⊢
      rw [List.take_succ_eq_append_getElem hm, playRaws_snoc, hc, Int.toNat_natCast, List.getD, List.getElem?_set_self (by rw [playRaws_len, List.length_replicate]; exact hi)]
      rfl
    · rw [if_neg hc]
end Go.Proofs.YtgcnolapjppbpaaGreatDoor
