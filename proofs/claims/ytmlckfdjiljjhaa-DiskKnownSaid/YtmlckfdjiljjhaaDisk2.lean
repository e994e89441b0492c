/-
  The walks of package disk, the rest.
-/
import Derived.Test.YtmlckfdjiljjhaaDisk
namespace Go.Proofs.Ytmlckfdjiljjhaa
open Go.RowKit

theorem new_no (n : Int) (w : World) (h : n < 1 ∨ 4096 < n) : Calls Try.prog 7 #[.int .i64 n] w fun e w' => e = .returned (.tuple #[.pointer none, errV 1]) ∧ w = w' := by
  by_cases h1 : n < 1
  · go_enter Try.func7, Try.ntmps7
    go_wp2
    go_ret2
    exact ⟨rfl, rfl⟩
  · have h2 : 4096 < n := by omega
    go_enter Try.func7, Try.ntmps7
    go_wp2
    go_ret2
    exact ⟨rfl, rfl⟩
theorem replicate_map (n : Nat) : ((List.replicate n ByteArray.empty).map Value.string).toArray = madeCells #[.string ByteArray.empty] n := by
  rw [List.map_replicate, ← toList_madeCells_one, Array.toArray_toList]
theorem make_str (n : Nat) (hn : n ≤ 4096) (w : World) : (Instr.makeSlice 46 (.int .i64 (n : Int)) (.int .i64 (n : Int))).run Try.prog w =
    .ok (.slice (some ⟨w.heap.size, 0, none⟩) n n) (w.alloc (.cells (madeCells #[.string ByteArray.empty] n) 9)) := by
  obtain ⟨i0, hi, hz0, hz1, hz2⟩ := info_parts info_str
  have h := run_make (P := Try.prog) w 46 9 i0 (.string ByteArray.empty) Try.underlying46 hi hz0 .i64 .i64 (n : Int) (n : Int) (by omega) (Int.le_refl _) (by rw [hz2]; omega) (by omega)
  simpa [hz1, Value.cells] using h
set_option maxHeartbeats 400000 in
theorem new_yes (n : Nat) (w : World) (h1 : 1 ≤ n) (h2 : n ≤ 4096) : Calls Try.prog 7 #[.int .i64 (n : Int)] w fun e w' => ∃ p F, e = .returned (.tuple #[.pointer (some ⟨p, 0, none⟩), errV 0]) ∧
    IsDisk w' { strs := List.replicate n ByteArray.empty, trail := [], left := none } p F ∧ Below w.heap.size w w' ∧ ∀ k, F k → w.heap.size ≤ k := by
  have hmk := make_str n h2
  go_enter Try.func7, Try.ntmps7
  go_wp2
  go_ret2
  refine ⟨w.heap.size + 1, _, rfl, ⟨w.heap.size, .slice none 0 0, _, none, ?_, ?_, World.ownsRow_nil _ _ _ _, ⟨rfl, rfl⟩, by simpa using h2, by simp, fun k hk => by simp [Value.ownBlock] at hk, fun k hk => by simp at hk, rfl⟩, by go_grown, ?_⟩
  · have := Box.new (w.alloc (.cells (madeCells #[.string ByteArray.empty] n) 9)) #[.slice (some ⟨w.heap.size, 0, none⟩) n n, .slice none 0 0, .func (.func 20) #[] #[]] 48
    simpa using this
  · have := (Box.new w (madeCells #[.string ByteArray.empty] n) 9)
    rw [replicate_map]
    exact this.below (below_alloc _ _)
  · rintro k (h | h | h | h)
    · omega
    · omega
    · simp [Value.ownBlock] at h
    · cases h
/-- A disk whose power is another. -/
theorem IsDisk.power {w : World} {d : DiskM} {p : Nat} {F : Nat → Prop} (h : IsDisk w d p F) (pv : Value) (left : Option Nat) (q : Option Nat) (hP : PowerAt w pv left q) (hq : ∀ k, q = some k → ¬ F k) :
    ∃ F', IsDisk (w.setCell ⟨p, 2, none⟩ pv) { d with left := left } p F' ∧ Mod F w (w.setCell ⟨p, 2, none⟩ pv) ∧ ∀ k, F' k → F k ∨ q = some k := by
  obtain ⟨bb, tv, pv0, q0, h1, h2, h3, h4, h5, h6, h7, h8, rfl⟩ := h
  refine ⟨diskF p bb tv q, ⟨bb, tv, pv, q, by simpa using h1.set 2 pv, h2.set_other (fun e => h6 e.symm) pv, own_mod h3 (Mod.set (fun k => k = p) w ⟨p, 2, none⟩ pv rfl) (fun k hk e => (h7 k hk).1 e), hP.mod (Mod.set (fun k => k = p) w ⟨p, 2, none⟩ pv rfl) (fun k hk e => hq k hk (.inl e)), h5, h6, h7, fun k hk => ⟨fun e => hq k hk (.inl e), fun e => hq k hk (.inr (.inl e)), fun e => hq k hk (.inr (.inr (.inl e)))⟩, rfl⟩, Mod.set _ _ _ _ (.inl rfl), ?_⟩
  rintro k (h | h | h | h)
  · exact .inl (.inl h)
  · exact .inl (.inr (.inl h))
  · exact .inl (.inr (.inr (.inl h)))
  · exact .inr h
theorem IsDisk.cells {w : World} {d : DiskM} {p : Nat} {F : Nat → Prop} (h : IsDisk w d p F) : F p ∧ ∃ c0 c1 c2, Box w p #[c0, c1, c2] 48 := by
  obtain ⟨bb, tv, pv0, q0, h1, h2, h3, h4, h5, h6, h7, h8, rfl⟩ := h
  exact ⟨.inl rfl, _, _, _, h1⟩
theorem restore_calls (d : DiskM) (p : Nat) (F : Nat → Prop) (w : World) (h : IsDisk w d p F) :
    Calls Try.prog 17 #[.pointer (some ⟨p, 0, none⟩)] w fun e w' => e = .returned (.tuple #[]) ∧ ∃ F', IsDisk w' { d with left := none } p F' ∧ Mod F w w' ∧ ∀ k, F' k → F k := by
  obtain ⟨F', g1, g2, g3⟩ := h.power (.func (.func 20) #[] #[]) none none ⟨rfl, rfl⟩ (fun k hk => by cases hk)
  obtain ⟨_, c0, c1, c2, hb⟩ := h.cells
  have hc := hb.cell 2 _ rfl
  have hf := hb.free 2
  clear h hb
  go_enter Try.func17, Try.ntmps17
  go_wp2
  go_end0
  refine ⟨rfl, F', g1, g2, fun k hk => ?_⟩
  rcases g3 k hk with h | h
  · exact h
  · cases h
theorem failing_calls (n : Nat) (w : World) : Calls Try.prog 23 #[.int .i64 (n : Int)] w fun e w' => e = .returned (.func (.func 25) #[] #[.pointer (some ⟨w.heap.size, 0, none⟩)]) ∧ w' = w.alloc (.cells #[.int .i64 (n : Int)] 3) := by
  have hmf : ∀ (fn : Fn) (first cap : Array Value) (w : World), (Instr.makeFunc fn first cap).run Try.prog w = .ok (.func fn first cap) w := fun _ _ _ _ => rfl
  go_enter Try.func23, Try.ntmps23
  go_wp2
  go_ret
  exact ⟨rfl, rfl⟩
set_option maxHeartbeats 400000 in
theorem cut_calls (d : DiskM) (p : Nat) (F : Nat → Prop) (n : Int) (w : World) (h : IsDisk w d p F) (hn : n ≤ 9223372036854775807) :
    Calls Try.prog 14 #[.pointer (some ⟨p, 0, none⟩), .int .i64 n] w fun e w' => e = .returned (.tuple #[]) ∧ ∃ F', IsDisk w' { d with left := if n < 0 then none else some n.toNat } p F' ∧ Mod F w w' ∧ ∀ k, F' k → F k ∨ w.heap.size ≤ k := by
  obtain ⟨F1, g1, g2, g3⟩ := h.power (.func (.func 20) #[] #[]) none none ⟨rfl, rfl⟩ (fun k hk => by cases hk)
  obtain ⟨_, c0, c1, c2, hb⟩ := h.cells
  have hc := hb.cell 2 _ rfl
  have hf := hb.free 2
  have hFlt := h.lt
  clear h hb
  by_cases h0 : n < 0
  · go_enter Try.func14, Try.ntmps14
    go_wp2
    go_end0
    refine ⟨rfl, F1, by simpa [h0] using g1, g2, fun k hk => ?_⟩
    rcases g3 k hk with h | h
    · exact .inl h
    · cases h
  · obtain ⟨m, rfl⟩ := Int.eq_ofNat_of_zero_le (show 0 ≤ n by omega)
    go_enter Try.func14, Try.ntmps14
    go_wp2_with fail
    refine (failing_calls m _).mono ?_
    rintro e w' ⟨rfl, rfl⟩
    have hsz : (w.setCell ⟨p, 2, none⟩ (.func (.func 20) #[] #[])).heap.size = w.heap.size := by simp
    have hnew := Box.new (w.setCell ⟨p, 2, none⟩ (.func (.func 20) #[] #[])) #[.int .i64 (m : Int)] 3
    have g4 := g1.mod (Mod.alloc (fun _ => False) _ (.cells #[.int .i64 (m : Int)] 3)) (fun _ _ h => h)
    obtain ⟨F2, k1, k2, k3⟩ := g4.power (.func (.func 25) #[] #[.pointer (some ⟨w.heap.size, 0, none⟩)]) (some m) (some w.heap.size) ⟨w.heap.size, rfl, rfl, by rw [← hsz]; exact hnew, by omega⟩ (fun k hk hF => by
      injection hk with hk; subst hk
      rcases g3 _ hF with h | h
      · have := hFlt _ h; omega
      · cases h)
    obtain ⟨_, d0, d1, d2, hb2⟩ := g4.cells
    have hd := hb2.cell 2 _ rfl
    have hfd := hb2.free 2
    have hsz2 : ((w.setCell ⟨p, 2, none⟩ (.func (.func 20) #[] #[])).alloc (.cells #[.int .i64 (m : Int)] 3)).heap.size = w.heap.size + 1 := by simp
    have m1 : Mod F w ((w.setCell ⟨p, 2, none⟩ (.func (.func 20) #[] #[])).alloc (.cells #[.int .i64 (m : Int)] 3)) := g2.trans (Mod.alloc _ _ _)
    have G1 := Lib.hid g1
    clear g1 g4 hnew hb2 hc hf
    rw [hsz]
    clear hsz
    obtain ⟨w2, hw2⟩ : ∃ w2, w2 = (w.setCell ⟨p, 2, none⟩ (.func (.func 20) #[] #[])).alloc (.cells #[.int .i64 (m : Int)] 3) := ⟨_, rfl⟩
    rw [← hw2] at k1 k2 hd hfd hsz2 m1 ⊢
    clear hw2
    have hsz3 : w.heap.size ≤ w2.heap.size := by omega
    clear hsz2
    go_wp2
    go_end0
    refine ⟨rfl, F2, by simpa [h0] using k1, ?_, fun k hk => ?_⟩
    · refine m1.then k2 (fun i hi => ?_)
      rcases g3 i hi with h | h
      · exact .inl h
      · cases h
    · rcases k3 k hk with h | h
      · rcases g3 k h with h | h
        · exact .inl h
        · cases h
      · injection h with h; right; omega
/-- slices.Clone of raw writes. -/
theorem clone_calls (src : Value) (n : Nat) (xs : List Value) (w : World) (hsrc : Rd w src n xs) (hl : xs.length = n * 2) (h1 : ∀ u ∈ xs, u.oneCell' = true) (hn : n ≤ 1000000000000) :
    Calls Try.prog 22 #[src] w fun e w' => ∃ a c, e = .returned (.slice a n c) ∧ w'.ownsRow w.heap.size 31 2 (.slice a n c) n xs ∧ Below w.heap.size w w' := by
  have hs0 := hsrc
  obtain ⟨a, cap, rfl, hc1, hc2, hnil, _⟩ := hsrc
  have hq := fun w => Lib.run_eql_slice_nil (P := Try.prog) w 22 31 a n cap 0 0 Try.underlying22
  cases a with
  | none =>
    have hc0 := hnil rfl
    have hn0 : n = 0 := by omega
    subst hn0; subst hc0
    have : xs = [] := List.eq_nil_of_length_eq_zero (by simpa using hl)
    subst this
    clear hnil
    go_enter Try.func22, Try.ntmps22
    go_wp2
    go_ret
    exact ⟨_, _, rfl, World.ownsRow_nil _ _ _ _, Below.refl _ _⟩
  | some a =>
    have hown : (w.alloc (.cells #[] 31)).ownsRow w.heap.size 31 2 (.slice (some ⟨w.heap.size, 0, none⟩) 0 0) 0 [] := World.ownsRow_made w #[] 0 (Nat.le_refl _) (by decide) rfl
    have Hown := Lib.hid hown
    clear hown hnil
    go_enter Try.func22, Try.ntmps22
    go_wp2_with (at_builtin; go_loud (refine appR rfl _ _ rfl w.heap.size _ _ _ rfl Hown.out _ n xs rfl (hs0.below (below_alloc _ _)) hl h1 (by omega) (by simp) ?_))
    intro v' w1 hv' hg' _
    obtain ⟨va, vc, rfl, _, _⟩ := own_form hv'
    go_wp2
    go_ret
    exact ⟨va, vc, by simp, by simpa using hv', (below_alloc _ _).trans (below_of_grown hg' (B := w.heap.size) (by simp) (fun k hk => (Hown.out.lt k hk).1))⟩
theorem flatRaws_one (l : List (Int × ByteArray)) : ∀ u ∈ flatRaws l, u.oneCell' = true := by
  intro u hu
  obtain ⟨r, _, hr⟩ := List.mem_flatMap.1 hu
  simp at hr
  rcases hr with rfl | rfl <;> simp [Value.oneCell']
theorem trail_calls (d : DiskM) (p : Nat) (F : Nat → Prop) (w : World) (h : IsDisk w d p F) (hn : d.trail.length ≤ 1000000000000) :
    Calls Try.prog 9 #[.pointer (some ⟨p, 0, none⟩)] w fun e w' => ∃ a c, e = .returned (.slice a d.trail.length c) ∧ w'.ownsRow w.heap.size 31 2 (.slice a d.trail.length c) d.trail.length (flatRaws d.trail) ∧ Below w.heap.size w w' := by
  obtain ⟨bb, tv, pv, q, h1, h2, h3, h4, h5, h6, h7, h8, rfl⟩ := h
  have hrd := rd_of_own h3
  obtain ⟨ta, tc, rfl, _, _⟩ := own_form h3
  have hc := h1.cell 1 _ rfl
  clear h1 h2 h3 h4 h7 h8
  go_enter Try.func9, Try.ntmps9
  go_wp2_with fail
  refine (clone_calls _ _ _ _ hrd (flatRaws_length _) (flatRaws_one _) hn).mono ?_
  rintro e w' ⟨oa, oc, rfl, hown, hb⟩
  go_wp2
  go_ret
  exact ⟨_, _, rfl, hown, hb⟩
theorem after_no (d : DiskM) (p : Nat) (F : Nat → Prop) (n : Int) (w : World) (h : IsDisk w d p F) (hi : ¬ (0 ≤ n ∧ n ≤ d.trail.length)) :
    Calls Try.prog 10 #[.pointer (some ⟨p, 0, none⟩), .int .i64 n] w fun e w' => e = .returned (.tuple #[.pointer none, errV 1]) ∧ w = w' := by
  obtain ⟨bb, tv, pv, q, h1, h2, h3, h4, h5, h6, h7, h8, rfl⟩ := h
  obtain ⟨ta, tc, rfl, _, _⟩ := own_form h3
  have hc := h1.cell 1 _ rfl
  clear h1 h2 h3 h4 h7 h8
  by_cases h0 : n < 0
  · go_enter Try.func10, Try.ntmps10
    go_wp2
    go_ret2
    exact ⟨rfl, rfl⟩
  · have h9 : (d.trail.length : Int) < n := by omega
    clear hi
    go_enter Try.func10, Try.ntmps10
    go_wp2
    go_ret2
    exact ⟨rfl, rfl⟩
theorem playRaws_length (l : List (Int × ByteArray)) : ∀ strs : List ByteArray, (l.foldl (fun s r => s.set r.1.toNat r.2) strs).length = strs.length := by
  induction l with
  | nil => intro _; rfl
  | cons a l ih => intro strs; rw [List.foldl_cons, ih]; simp
theorem flatRaws_get (l : List (Int × ByteArray)) (k : Nat) (h : k < l.length) : (flatRaws l)[k * 2]? = some (.int .i64 l[k].1) ∧ (flatRaws l)[k * 2 + 1]? = some (.string l[k].2) := by
  induction l generalizing k with
  | nil => simp at h
  | cons a l ih =>
    cases k with
    | zero => simp [flatRaws]
    | succ k =>
      have := ih k (by simpa using h)
      have e : flatRaws (a :: l) = .int .i64 a.1 :: .string a.2 :: flatRaws l := by simp [flatRaws]
      rw [e, show (k + 1) * 2 = k * 2 + 1 + 1 by omega, show (k * 2 + 1 + 1) + 1 = (k * 2 + 1) + 1 + 1 by omega]
      simpa using this
theorem raw_at (l : List (Int × ByteArray)) (k : Nat) (h : k < l.length) : ∃ (b : Int) (s : ByteArray), l.take (k + 1) = l.take k ++ [(b, s)] ∧ (flatRaws l)[k * 2]? = some (.int .i64 b) ∧ (flatRaws l)[k * 2 + 1]? = some (.string s) ∧ (b, s) ∈ l := by
  obtain ⟨h1, h2⟩ := flatRaws_get l k h
  exact ⟨l[k].1, l[k].2, by rw [List.take_succ_eq_append_getElem h], h1, h2, List.getElem_mem h⟩
/-- The texts behind raw writes. -/
def playRaws (strs : List ByteArray) (l : List (Int × ByteArray)) : List ByteArray := l.foldl (fun s r => s.set r.1.toNat r.2) strs
set_option maxHeartbeats 800000 in
theorem after_yes (d : DiskM) (p : Nat) (F : Nat → Prop) (n : Nat) (w : World) (h : IsDisk w d p F) (hn : n ≤ d.trail.length) (ht : d.trail.length ≤ 1000000000000) (hin : ∀ r ∈ d.trail, 0 ≤ r.1 ∧ r.1 < d.strs.length) :
    Calls Try.prog 10 #[.pointer (some ⟨p, 0, none⟩), .int .i64 (n : Int)] w fun e w' => ∃ p' F', e = .returned (.tuple #[.pointer (some ⟨p', 0, none⟩), errV 0]) ∧
      IsDisk w' { strs := playRaws (List.replicate d.strs.length ByteArray.empty) (d.trail.take n), trail := d.trail.take n, left := none } p' F' ∧ Below w.heap.size w w' ∧ ∀ k, F' k → w.heap.size ≤ k := by
  have hd := h
  obtain ⟨bb, tv, pv, q, h1, h2, h3, h4, h5, h6, h7, h8, rfl⟩ := h
  have hrd := rd_of_own h3
  obtain ⟨ta, tc, rfl, htc, _⟩ := own_form h3
  have hc0 := h1.cell 0 _ rfl
  have hc1 := h1.cell 1 _ rfl
  have hmk := make_str d.strs.length h5
  have hhd := fun w => run_head (P := Try.prog) Try.underlying22 ⟨2, by kernel_rfl⟩ ta d.trail.length tc n (by omega) w
  have hp := h1.lt
  have hrd2 : Rd w (.slice ta n tc) n (flatRaws (d.trail.take n)) := by
    have := hrd.cut (m := n) (by omega) (n * 2)
    have e : (flatRaws d.trail).take (n * 2) = flatRaws (d.trail.take n) := by
      conv => lhs; rw [← List.take_append_drop n d.trail, flatRaws_append]
      rw [List.take_append_of_le_length (by rw [flatRaws_length, List.length_take]; omega), List.take_of_length_le (by rw [flatRaws_length, List.length_take]; omega)]
    rw [e] at this; exact this
  have Hrd := Lib.hid (fun w2 (hb : Below w.heap.size w w2) => hrd2.below hb)
  have hlen : (flatRaws (d.trail.take n)).length = n * 2 := by rw [flatRaws_length, List.length_take]; omega
  have Hlen := Lib.hid hlen
  have hn0 : (n : Int) ≤ (tc : Int) := by omega
  have hn1 : (0 : Int) ≤ (n : Int) := by omega
  clear h1 h2 h3 h4 h7 h8 hrd hrd2 hlen
  go_enter Try.func10, Try.ntmps10
  go_upto_region 3 with (fail)
  go_cut [6] (fun v w' => ∃ (p' bb' : Nat) (oa : Option Addr) (oc : Nat), v = .pointer (some ⟨p', 0, none⟩) ∧ Box w' p' #[.slice (some ⟨bb', 0, none⟩) d.strs.length d.strs.length, .slice oa n oc, .func (.func 20) #[] #[]] 48 ∧
      Box w' bb' (madeCells #[.string ByteArray.empty] d.strs.length) 9 ∧ w'.ownsRow w.heap.size 31 2 (.slice oa n oc) n (flatRaws (d.trail.take n)) ∧ Below w.heap.size w w' ∧ w.heap.size ≤ bb' ∧ w.heap.size ≤ p' ∧ p' ≠ bb' ∧
      (∀ k, (Value.slice oa n oc).ownBlock = some k → k ≠ p' ∧ k ≠ bb'))
  case first =>
    go_region_held3 (fun w' => w'.cell? ⟨p, 0, none⟩ = some (.slice (some ⟨bb, 0, none⟩) d.strs.length d.strs.length) ∧ w'.cell? ⟨p, 1, none⟩ = some (.slice ta d.trail.length tc)) (first | go_keep | (go_split_ands; refine ⟨?_, ?_⟩ <;> (apply below_heap hbc; (first | assumption | (simp [go_sem, World.cell?_alloc_past, hp]; assumption))))) (first | (go_at_call 22; refine (clone_calls _ n _ _ (Hrd.out _ (by go_grown)) Hlen.out (flatRaws_one _) (by omega)).mono ?_; rintro e w' ⟨oa, oc, rfl, hown, hbc⟩))
    all_goals (go_wp2_with fail; go_meet)
    · simp only [World.size_alloc, World.size_drew] at hown
      have hl := hbc.size
      simp only [World.size_alloc, World.size_drew] at hl
      refine ⟨w'.heap.size, w.heap.size, oa, oc, rfl, Box.new _ _ _, ?_, own_base (own_below hown (below_alloc _ _)) (by omega), ?_, Nat.le_refl _, by omega, by omega, fun k hk => ?_⟩
      · exact ((Box.new w.drew (madeCells #[.string ByteArray.empty] d.strs.length) 9).below hbc).below (below_alloc _ _)
      · exact ((below_drew w).trans (below_alloc w.drew _)).trans ((hbc.mono (by simp)).trans ((below_alloc w' _).mono (by omega)))
      · have := hown.lt k hk; omega
    · have hl : w.heap.size ≤ w'.heap.size := hbc.size
      have hl2 : w.drew.heap.size ≤ w'.heap.size := hbc.size
      have hown : w'.ownsRow w.heap.size 31 2 (.slice oa n oc) n (flatRaws (d.trail.take n)) := hown
      refine ⟨w'.heap.size + 1, w'.heap.size, oa, oc, rfl, ?_, ?_, own_below (own_below hown (below_alloc _ _)) (below_alloc _ _), ?_, by omega, by omega, by omega, fun k hk => ?_⟩
      · have := Box.new (w'.alloc (.cells (madeCells #[.string ByteArray.empty] d.strs.length) 9)) #[.slice (some ⟨w'.heap.size, 0, none⟩) d.strs.length d.strs.length, .slice oa n oc, .func (.func 20) #[] #[]] 48
        simpa using this
      · exact (Box.new w' (madeCells #[.string ByteArray.empty] d.strs.length) 9).below (below_alloc _ _)
      · exact (below_drew w).trans (hbc.trans (((below_alloc w' _).mono (by omega)).trans ((below_alloc _ _).mono (by simp; omega))))
      · have := hown.lt k hk; omega
  case rest =>
    obtain ⟨p', bb', oa, oc, rfl, hbp, hbb, hown, hbw, hbb0, hp0, hpb, hap⟩ := hcut
    have hcp := hbp.cell 1 _ rfl
    have hraws : ∃ raws : List (Int × ByteArray), raws = d.trail.take n := ⟨_, rfl⟩
    obtain ⟨raws, hraws⟩ := hraws
    have hrl : raws.length = n := by rw [hraws, List.length_take]; omega
    have hrin : ∀ r ∈ raws, 0 ≤ r.1 ∧ r.1 < d.strs.length := fun r hr => hin r (List.mem_of_mem_take (by rw [← hraws]; exact hr))
    rw [← hraws] at hown
    have Hraws := Lib.hid hraws
    have Hrl := Lib.hid hrl
    have Hrin := Lib.hid hrin
    clear hraws hrin hin hd Hrd Hlen hc0 hc1
    go_wp2_with fail
    go_loopw [41] (fun i wr => ∃ k : Nat, k ≤ n ∧ i = .int .i64 k ∧ Box wr p' #[.slice (some ⟨bb', 0, none⟩) d.strs.length d.strs.length, .slice oa n oc, .func (.func 20) #[] #[]] 48 ∧
        Box wr bb' ((playRaws (List.replicate d.strs.length ByteArray.empty) (raws.take k)).map Value.string).toArray 9 ∧ wr.ownsRow w.heap.size 31 2 (.slice oa n oc) n (flatRaws raws) ∧ Below w.heap.size w wr) (fun i _ => n - (intOf i).toNat)
    case atStart => exact ⟨0, by omega, rfl, hbp, by rw [← replicate_map] at hbb; exact hbb, hown, hbw⟩
    case round =>
      clear hbp hbb hown hbw hcp
      obtain ⟨k, hk, rfl, hbp, hbb, hown, hbw⟩ := hrel
      by_cases hlt : k < n
      · have hown0 := hown
        rcases hown.2 with ⟨_, h00⟩ | ⟨g, cap, cur, hge, hbg, hg, hn', hm, hs', ht'⟩
        · omega
        injection hge with e1 e2 e3
        subst e1; subst e3
        obtain ⟨bi, sx, q0, q1, q2, q3⟩ := raw_at raws k (by omega)
        have hca := hown0.cellAt (k * 2) (by omega)
        have hcb := hown0.cellAt (k * 2 + 1) (by omega)
        rw [q1] at hca; rw [q2] at hcb
        obtain ⟨hri0, hri⟩ := Hrin.out _ q3
        simp only at hri0 hri
        obtain ⟨bi, rfl⟩ := Int.eq_ofNat_of_zero_le hri0
        have Q0 := Lib.hid q0
        have Hown := Lib.hid hown0
        clear hown0 hown hg hs' ht' q0 q1 q2 q3 hm
        have hs := hbw.size
        have hx := Box.new wr #[.int .i64 (bi : Int), .string sx] 31
        have hbp1 := hbp.below (below_alloc wr (.cells #[.int .i64 (bi : Int), .string sx] 31))
        have hbb1 := hbb.below (below_alloc wr (.cells #[.int .i64 (bi : Int), .string sx] 31))
        have hbw1 := hbw.alloc hs (.cells #[.int .i64 (bi : Int), .string sx] 31)
        have Hown1 := Lib.hid (Hown.out.alloc (.cells #[.int .i64 (bi : Int), .string sx] 31))
        have c1 := hbp1.cell 0 _ rfl
        have hlp : (playRaws (List.replicate d.strs.length ByteArray.empty) (raws.take k)).length = d.strs.length := by unfold playRaws; rw [playRaws_length]; simp
        obtain ⟨L, hL⟩ : ∃ L, L = playRaws (List.replicate d.strs.length ByteArray.empty) (raws.take k) := ⟨_, rfl⟩
        rw [← hL] at hbb1 hlp
        have HL := Lib.hid hL
        clear hL
        have c2 := hbb1.cell bi (.string (L.getD bi ByteArray.empty)) (by simp [show bi < L.length by omega])
        have f2 := hbb1.free bi
        have hpl := hbp1.lt
        have hbl := hbb1.lt
        have Hlp := Lib.hid hlp
        have hbi0 : (0 : Int) ≤ (bi : Int) := by omega
        clear hbp hbb hbw hlp
        go_wp2_with fail
        obtain ⟨w1, hw1⟩ : ∃ w1, w1 = wr.alloc (.cells #[.int .i64 (bi : Int), .string sx] 31) := ⟨_, rfl⟩
        have hx1 : Box w1 wr.heap.size #[.int .i64 (bi : Int), .string sx] 31 := by rw [hw1]; exact hx
        rw [← hw1] at hbp1 hbb1 hbw1 Hown1 c1 c2 f2 ⊢
        clear hw1 hx
        have c3 := hx1.cell 0 _ rfl
        have c4 := hx1.cell 1 _ rfl
        go_still_tail 9, (by kernel_rfl)
        change wpList _ _ _ _ _ w1.drew
        go_wp2
        go_roundw
        case rel =>
          refine ⟨k + 1, by omega, by go_num, (hbp1.set_other (p := ⟨bb', bi, none⟩) (fun e => hpb e.symm) (.string sx)).drew, ?_, own_mod (own_mod Hown1.out (Mod.set (fun k => k = bb') w1 ⟨bb', bi, none⟩ (.string sx) rfl) (fun k hk e => (hap k hk).2 e)) (Mod.drew (fun _ => False) _) (fun _ _ h => h), (hbw1.setCell (p := ⟨bb', bi, none⟩) hbb0 (.string sx)).drew⟩
          rw [Q0.out]
          have := (hbb1.set bi (.string sx)).drew
          rw [HL.out] at this
          simpa [playRaws, List.map_set] using this
        case measure => simp [intOf]; omega
      · obtain rfl : k = n := by omega
        go_wp2
        go_ret2
        rw [List.take_of_length_le (by have := Hrl.out; omega)] at hbb
        rw [← Hraws.out]
        have hL : (playRaws (List.replicate d.strs.length ByteArray.empty) raws).length = d.strs.length := by unfold playRaws; rw [playRaws_length]; simp
        refine ⟨p', _, rfl, ⟨bb', _, _, none, by simpa [hL] using hbp, hbb, by simpa [Hrl.out] using own_base hown (Nat.zero_le _), ⟨rfl, rfl⟩, by simpa [hL] using h5, hpb.symm, hap, (fun k hk => by cases hk), rfl⟩, hbw, ?_⟩
        rintro k (h | h | h | h)
        · omega
        · omega
        · exact (hown.lt k h).1
        · cases h
end Go.Proofs.Ytmlckfdjiljjhaa
