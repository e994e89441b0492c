/-
  The walks of package disk, the rest.
-/
import Derived.Test.YtbmijamailfaeaaDoorDisk
namespace Go.Proofs.YtbmijamailfaeaaDoor
open Go.RowKit

theorem new_no (n : Int) (w : World) (h : n < 1 ∨ 4096 < n) : Calls Tryd.prog 16 #[.int .i64 n] w fun e w' => e = .returned (.tuple #[.pointer none, errV 1]) ∧ w = w' := by
  by_cases h1 : n < 1
  · go_enter Tryd.func16, Tryd.ntmps16
    go_wp2
    go_ret2
    exact ⟨rfl, rfl⟩
  · have h2 : 4096 < n := by omega
    go_enter Tryd.func16, Tryd.ntmps16
    go_wp2
    go_ret2
    exact ⟨rfl, rfl⟩
theorem replicate_map (n : Nat) : ((List.replicate n ByteArray.empty).map Value.string).toArray = madeCells #[.string ByteArray.empty] n := by
  rw [List.map_replicate, ← toList_madeCells_one, Array.toArray_toList]
theorem make_str (n : Nat) (hn : n ≤ 4096) (w : World) : (Instr.makeSlice 67 (.int .i64 (n : Int)) (.int .i64 (n : Int))).run Tryd.prog w =
    .ok (.slice (some ⟨w.heap.size, 0, none⟩) n n) (w.alloc (.cells (madeCells #[.string ByteArray.empty] n) 9)) := by
  obtain ⟨i0, hi, hz0, hz1, hz2⟩ := info_parts info_str
  have h := run_make (P := Tryd.prog) w 67 9 i0 (.string ByteArray.empty) Tryd.underlying67 hi hz0 .i64 .i64 (n : Int) (n : Int) (by omega) (Int.le_refl _) (by rw [hz2]; omega) (by omega)
  simpa [hz1, Value.cells] using h
set_option maxHeartbeats 400000 in
theorem new_yes (n : Nat) (w : World) (h1 : 1 ≤ n) (h2 : n ≤ 4096) : Calls Tryd.prog 16 #[.int .i64 (n : Int)] w fun e w' => ∃ p F, e = .returned (.tuple #[.pointer (some ⟨p, 0, none⟩), errV 0]) ∧
    IsDisk w' { strs := List.replicate n ByteArray.empty, trail := [], left := none } p F ∧ Below w.heap.size w w' ∧ ∀ k, F k → w.heap.size ≤ k := by
  have hmk := make_str n h2
  go_enter Tryd.func16, Tryd.ntmps16
  go_wp2
  go_ret2
  refine ⟨w.heap.size + 1, _, rfl, ⟨w.heap.size, .slice none 0 0, _, none, ?_, ?_, World.ownsRow_nil _ _ _ _, ⟨rfl, rfl⟩, by simpa using h2, by simp, fun k hk => by simp [Value.ownBlock] at hk, fun k hk => by simp at hk, rfl⟩, by go_grown, ?_⟩
  · have := Box.new (w.alloc (.cells (madeCells #[.string ByteArray.empty] n) 9)) #[.slice (some ⟨w.heap.size, 0, none⟩) n n, .slice none 0 0, .func (.func 36) #[] #[]] 69
    simpa using this
  · have := (Box.new w (madeCells #[.string ByteArray.empty] n) 9)
    rw [replicate_map]
    exact this.below (below_alloc _ _)
  · rintro k (h | h | h | h)
    · omega
    · omega
    · simp [Value.ownBlock] at h
    · cases h
/-- A disk whose power is another. -/
theorem IsDisk.power {w : World} {d : DiskM} {p : Nat} {F : Nat → Prop} (h : IsDisk w d p F) (pv : Value) (left : Option Nat) (q : Option Nat) (hP : PowerAt w pv left q) (hq : ∀ k, q = some k → ¬ F k) :
    ∃ F', IsDisk (w.setCell ⟨p, 2, none⟩ pv) { d with left := left } p F' ∧ Mod F w (w.setCell ⟨p, 2, none⟩ pv) ∧ ∀ k, F' k → F k ∨ q = some k := by
  obtain ⟨bb, tv, pv0, q0, h1, h2, h3, h4, h5, h6, h7, h8, rfl⟩ := h
  refine ⟨diskF p bb tv q, ⟨bb, tv, pv, q, by simpa using h1.set 2 pv, h2.set_other (fun e => h6 e.symm) pv, own_mod h3 (Mod.set (fun k => k = p) w ⟨p, 2, none⟩ pv rfl) (fun k hk e => (h7 k hk).1 e), hP.mod (Mod.set (fun k => k = p) w ⟨p, 2, none⟩ pv rfl) (fun k hk e => hq k hk (.inl e)), h5, h6, h7, fun k hk => ⟨fun e => hq k hk (.inl e), fun e => hq k hk (.inr (.inl e)), fun e => hq k hk (.inr (.inr (.inl e)))⟩, rfl⟩, Mod.set _ _ _ _ (.inl rfl), ?_⟩
  rintro k (h | h | h | h)
  · exact .inl (.inl h)
  · exact .inl (.inr (.inl h))
  · exact .inl (.inr (.inr (.inl h)))
  · exact .inr h
theorem IsDisk.cells {w : World} {d : DiskM} {p : Nat} {F : Nat → Prop} (h : IsDisk w d p F) : F p ∧ ∃ c0 c1 c2, Box w p #[c0, c1, c2] 69 := by
  obtain ⟨bb, tv, pv0, q0, h1, h2, h3, h4, h5, h6, h7, h8, rfl⟩ := h
  exact ⟨.inl rfl, _, _, _, h1⟩
theorem failing_calls (n : Nat) (w : World) : Calls Tryd.prog 37 #[.int .i64 (n : Int)] w fun e w' => e = .returned (.func (.func 55) #[] #[.pointer (some ⟨w.heap.size, 0, none⟩)]) ∧ w' = w.alloc (.cells #[.int .i64 (n : Int)] 3) := by
  have hmf : ∀ (fn : Fn) (first cap : Array Value) (w : World), (Instr.makeFunc fn first cap).run Tryd.prog w = .ok (.func fn first cap) w := fun _ _ _ _ => rfl
  go_enter Tryd.func37, Tryd.ntmps37
  go_wp2
  go_ret
  exact ⟨rfl, rfl⟩
set_option maxHeartbeats 400000 in
theorem cut_calls (d : DiskM) (p : Nat) (F : Nat → Prop) (n : Int) (w : World) (h : IsDisk w d p F) (hn : n ≤ 9223372036854775807) :
    Calls Tryd.prog 15 #[.pointer (some ⟨p, 0, none⟩), .int .i64 n] w fun e w' => e = .returned (.tuple #[]) ∧ ∃ F', IsDisk w' { d with left := if n < 0 then none else some n.toNat } p F' ∧ Mod F w w' ∧ ∀ k, F' k → F k ∨ w.heap.size ≤ k := by
  obtain ⟨F1, g1, g2, g3⟩ := h.power (.func (.func 36) #[] #[]) none none ⟨rfl, rfl⟩ (fun k hk => by cases hk)
  obtain ⟨_, c0, c1, c2, hb⟩ := h.cells
  have hc := hb.cell 2 _ rfl
  have hf := hb.free 2
  have hFlt := h.lt
  clear h hb
  by_cases h0 : n < 0
  · go_enter Tryd.func15, Tryd.ntmps15
    go_wp2
    go_end0
    refine ⟨rfl, F1, by simpa [h0] using g1, g2, fun k hk => ?_⟩
    rcases g3 k hk with h | h
    · exact .inl h
    · cases h
  · obtain ⟨m, rfl⟩ := Int.eq_ofNat_of_zero_le (show 0 ≤ n by omega)
    go_enter Tryd.func15, Tryd.ntmps15
    go_wp2_with fail
    refine (failing_calls m _).mono ?_
    rintro e w' ⟨rfl, rfl⟩
    have hsz : (w.setCell ⟨p, 2, none⟩ (.func (.func 36) #[] #[])).heap.size = w.heap.size := by simp
    have hnew := Box.new (w.setCell ⟨p, 2, none⟩ (.func (.func 36) #[] #[])) #[.int .i64 (m : Int)] 3
    have g4 := g1.mod (Mod.alloc (fun _ => False) _ (.cells #[.int .i64 (m : Int)] 3)) (fun _ _ h => h)
    obtain ⟨F2, k1, k2, k3⟩ := g4.power (.func (.func 55) #[] #[.pointer (some ⟨w.heap.size, 0, none⟩)]) (some m) (some w.heap.size) ⟨w.heap.size, rfl, rfl, by rw [← hsz]; exact hnew, by omega⟩ (fun k hk hF => by
      injection hk with hk; subst hk
      rcases g3 _ hF with h | h
      · have := hFlt _ h; omega
      · cases h)
    obtain ⟨_, d0, d1, d2, hb2⟩ := g4.cells
    have hd := hb2.cell 2 _ rfl
    have hfd := hb2.free 2
    have hsz2 : ((w.setCell ⟨p, 2, none⟩ (.func (.func 36) #[] #[])).alloc (.cells #[.int .i64 (m : Int)] 3)).heap.size = w.heap.size + 1 := by simp
    have m1 : Mod F w ((w.setCell ⟨p, 2, none⟩ (.func (.func 36) #[] #[])).alloc (.cells #[.int .i64 (m : Int)] 3)) := g2.trans (Mod.alloc _ _ _)
    have G1 := Lib.hid g1
    clear g1 g4 hnew hb2 hc hf
    rw [hsz]
    clear hsz
    obtain ⟨w2, hw2⟩ : ∃ w2, w2 = (w.setCell ⟨p, 2, none⟩ (.func (.func 36) #[] #[])).alloc (.cells #[.int .i64 (m : Int)] 3) := ⟨_, rfl⟩
    rw [← hw2] at k1 k2 hd hfd hsz2 m1 ⊢
    clear hw2
    have hsz3 : w.heap.size ≤ w2.heap.size := by omega
    clear hsz2
    go_wp2
    go_end0
    refine ⟨rfl, F2, by simpa [h0] using k1, ?_, fun k hk => ?_⟩
    · refine m1.then k2 (fun i hi => ?_)
      rcases g3 i hi with h | h
      · exact .inl h
      · cases h
    · rcases k3 k hk with h | h
      · rcases g3 k h with h | h
        · exact .inl h
        · cases h
      · injection h with h; right; omega
/-- slices.Clone of raw writes. -/
theorem clone_calls (src : Value) (n : Nat) (xs : List Value) (w : World) (hsrc : Rd w src n xs) (hl : xs.length = n * 2) (h1 : ∀ u ∈ xs, u.oneCell' = true) (hn : n ≤ 1000000000000) :
    Calls Tryd.prog 43 #[src] w fun e w' => ∃ a c, e = .returned (.slice a n c) ∧ w'.ownsRow w.heap.size 71 2 (.slice a n c) n xs ∧ Below w.heap.size w w' := by
  have hs0 := hsrc
  obtain ⟨a, cap, rfl, hc1, hc2, hnil, _⟩ := hsrc
  have hq := fun w => Lib.run_eql_slice_nil (P := Tryd.prog) w 52 71 a n cap 0 0 Tryd.underlying52
  cases a with
  | none =>
    have hc0 := hnil rfl
    have hn0 : n = 0 := by omega
    subst hn0; subst hc0
    have : xs = [] := List.eq_nil_of_length_eq_zero (by simpa using hl)
    subst this
    clear hnil
    go_enter Tryd.func43, Tryd.ntmps43
    go_wp2
    go_ret
    exact ⟨_, _, rfl, World.ownsRow_nil _ _ _ _, Below.refl _ _⟩
  | some a =>
    have hown : (w.alloc (.cells #[] 71)).ownsRow w.heap.size 71 2 (.slice (some ⟨w.heap.size, 0, none⟩) 0 0) 0 [] := World.ownsRow_made w #[] 0 (Nat.le_refl _) (by decide) rfl
    have Hown := Lib.hid hown
    clear hown hnil
    go_enter Tryd.func43, Tryd.ntmps43
    go_wp2_with (at_builtin; go_loud (refine appR rfl _ _ rfl w.heap.size _ _ _ rfl Hown.out _ n xs rfl (hs0.below (below_alloc _ _)) hl h1 (by omega) (by simp) ?_))
    intro v' w1 hv' hg' _
    obtain ⟨va, vc, rfl, _, _⟩ := own_form hv'
    go_wp2
    go_ret
    exact ⟨va, vc, by simp, by simpa using hv', (below_alloc _ _).trans (below_of_grown hg' (B := w.heap.size) (by simp) (fun k hk => (Hown.out.lt k hk).1))⟩
theorem flatRaws_one (l : List (Int × ByteArray)) : ∀ u ∈ flatRaws l, u.oneCell' = true := by
  intro u hu
  obtain ⟨r, _, hr⟩ := List.mem_flatMap.1 hu
  simp at hr
  rcases hr with rfl | rfl <;> simp [Value.oneCell']
theorem trail_calls (d : DiskM) (p : Nat) (F : Nat → Prop) (w : World) (h : IsDisk w d p F) (hn : d.trail.length ≤ 1000000000000) :
    Calls Tryd.prog 24 #[.pointer (some ⟨p, 0, none⟩)] w fun e w' => ∃ a c, e = .returned (.slice a d.trail.length c) ∧ w'.ownsRow w.heap.size 71 2 (.slice a d.trail.length c) d.trail.length (flatRaws d.trail) ∧ Below w.heap.size w w' := by
  obtain ⟨bb, tv, pv, q, h1, h2, h3, h4, h5, h6, h7, h8, rfl⟩ := h
  have hrd := rd_of_own h3
  obtain ⟨ta, tc, rfl, _, _⟩ := own_form h3
  have hc := h1.cell 1 _ rfl
  clear h1 h2 h3 h4 h7 h8
  go_enter Tryd.func24, Tryd.ntmps24
  go_wp2_with fail
  refine (clone_calls _ _ _ _ hrd (flatRaws_length _) (flatRaws_one _) hn).mono ?_
  rintro e w' ⟨oa, oc, rfl, hown, hb⟩
  go_wp2
  go_ret
  exact ⟨_, _, rfl, hown, hb⟩
theorem playRaws_length (l : List (Int × ByteArray)) : ∀ strs : List ByteArray, (l.foldl (fun s r => s.set r.1.toNat r.2) strs).length = strs.length := by
  induction l with
  | nil => intro _; rfl
  | cons a l ih => intro strs; rw [List.foldl_cons, ih]; simp
theorem flatRaws_get (l : List (Int × ByteArray)) (k : Nat) (h : k < l.length) : (flatRaws l)[k * 2]? = some (.int .i64 l[k].1) ∧ (flatRaws l)[k * 2 + 1]? = some (.string l[k].2) := by
  induction l generalizing k with
  | nil => simp at h
  | cons a l ih =>
    cases k with
    | zero => simp [flatRaws]
    | succ k =>
      have := ih k (by simpa using h)
      have e : flatRaws (a :: l) = .int .i64 a.1 :: .string a.2 :: flatRaws l := by simp [flatRaws]
      rw [e, show (k + 1) * 2 = k * 2 + 1 + 1 by omega, show (k * 2 + 1 + 1) + 1 = (k * 2 + 1) + 1 + 1 by omega]
      simpa using this
theorem raw_at (l : List (Int × ByteArray)) (k : Nat) (h : k < l.length) : ∃ (b : Int) (s : ByteArray), l.take (k + 1) = l.take k ++ [(b, s)] ∧ (flatRaws l)[k * 2]? = some (.int .i64 b) ∧ (flatRaws l)[k * 2 + 1]? = some (.string s) ∧ (b, s) ∈ l := by
  obtain ⟨h1, h2⟩ := flatRaws_get l k h
  exact ⟨l[k].1, l[k].2, by rw [List.take_succ_eq_append_getElem h], h1, h2, List.getElem_mem h⟩
/-- The texts behind raw writes. -/
def playRaws (strs : List ByteArray) (l : List (Int × ByteArray)) : List ByteArray := l.foldl (fun s r => s.set r.1.toNat r.2) strs
end Go.Proofs.YtbmijamailfaeaaDoor
