/-
  The document's Check of a state.
-/
import Derived.Test.YtdaimaibnjkfbaaGreatDoorImChk
import Derived.Deep.DeepCutAuto
import Derived.Deep.RegionHeld3
namespace Go.Proofs.YtdaimaibnjkfbaaGreatDoor
open Go.RowKit
set_option maxRecDepth 100000

set_option maxHeartbeats 3200000 in
theorem refBelow_calls (s p : SesM) (w : World) (hd : 0 ≤ p.depth ∧ p.depth ≤ 6) :
    Calls Tryz.prog 65 #[.agg s.cells, .agg p.cells] w fun ev w' => ev = .returned (.bool (belowM s p)) ∧ Below w.heap.size w w' := by
  have hHB : ∀ o o2, Below w.heap.size w ((w.alloc o).alloc o2) := fun o o2 => below_two w o o2
  have HB := Lib.hid hHB
  have Hm := Lib.hid (show ∀ b, belowM s p = b → b = belowM s p from fun _ h => h.symm)
  obtain ⟨d0, d6⟩ := hd
  have hz := (show IntKind.i64.wrap (p.depth + 1) = p.depth + 1 by simp [IntKind.wrap, IntKind.bits, IntKind.signed]; omega)
  unfold SesM.cells
  clear hHB
  go_enter Tryz.func65, Tryz.ntmps65
  cases h1 : (s.depth == p.depth + 1)
  · have h1' : (s.depth != p.depth + 1) = true := by rw [bne, h1]; rfl
    go_wp2_with fail
    go_ret
    exact ⟨ret_eq (congrArg Value.bool (Hm.out _ (by unfold belowM; rw [h1]; rfl))), HB.out _ _⟩
  have h1' : (s.depth != p.depth + 1) = false := by rw [bne, h1]; rfl
  cases h2 : (s.user == p.user)
  · have h2' : ((SB s.user).toList == (SB p.user).toList) = false := by rw [SB_toList, SB_toList]; exact h2
    have h2'' : ((SB s.user).toList != (SB p.user).toList) = true := by rw [bne, h2']; rfl
    go_wp2_with fail
    go_ret
    exact ⟨ret_eq (congrArg Value.bool (Hm.out _ (by unfold belowM; rw [h1, h2]; rfl))), HB.out _ _⟩
  have h2' : ((SB s.user).toList == (SB p.user).toList) = true := by rw [SB_toList, SB_toList]; exact h2
  have h2'' : ((SB s.user).toList != (SB p.user).toList) = false := by rw [bne, h2']; rfl
  by_cases h3 : s.deadline ≤ p.deadline
  rotate_left
  · have h3' : p.deadline < s.deadline := by omega
    have H3 := Lib.hid h3
    clear h3
    go_wp2_with fail
    go_ret
    exact ⟨ret_eq (congrArg Value.bool (Hm.out _ (by unfold belowM; rw [h1, h2, decide_eq_false (show ¬ s.deadline ≤ p.deadline from by have := H3.out; omega)]; rfl))), HB.out _ _⟩
  have h3' : ¬ p.deadline < s.deadline := by omega
  have H3 := Lib.hid h3
  clear h3
  cases h4 : scIn s.scopes p.scopes
  · have h4' := h4
    unfold scIn at h4'
    have h4'' : (bits .andNot .u64 (s.scopes : Int) (p.scopes : Int) != 0) = true := by rw [bne, h4']; rfl
    go_wp2_with fail
    go_ret
    exact ⟨ret_eq (congrArg Value.bool (Hm.out _ (by unfold belowM; rw [h1, h2, decide_eq_true (show s.deadline ≤ p.deadline from by have := H3.out; omega), h4]; rfl))), HB.out _ _⟩
  have h4' := h4
  unfold scIn at h4'
  have h4'' : (bits .andNot .u64 (s.scopes : Int) (p.scopes : Int) != 0) = false := by rw [bne, h4']; rfl
  have HBM := Lib.hid (show belowM s p = (decide (p.level < s.level) == (s.kind == 2)) by unfold belowM; rw [h1, h2, decide_eq_true (show s.deadline ≤ p.deadline from by have := H3.out; omega), h4]; rfl)
  cases h5 : (s.kind == 2)
  · rw [h5] at HBM
    go_wp2_with fail
    go_ret
    refine ⟨ret_eq (congrArg Value.bool ?_), HB.out _ _⟩
    rw [HBM.out]
    by_cases h : p.level < s.level
    · rw [decide_eq_true h, decide_eq_false (by omega)]; rfl
    · rw [decide_eq_false h, decide_eq_true (by omega)]; rfl
  · rw [h5] at HBM
    go_wp2_with fail
    go_ret
    refine ⟨ret_eq (congrArg Value.bool ?_), HB.out _ _⟩
    rw [HBM.out]
    by_cases h : p.level < s.level
    · rw [decide_eq_true h]; rfl
    · rw [decide_eq_false h]; rfl
/-- The parent's index, among those ahead. -/
def parGo (s : SesM) : List SesM → Int → Int
  | [], _ => -1
  | p :: ps, i => if p.birth = s.upB ∧ p.slot = s.upS then i else parGo s ps (i + 1)
set_option maxHeartbeats 3200000 in
theorem refParent_calls (a : Option Addr) (n cap k : Nat) (l : List SesM) (w : World) (hn : n = l.length) (hr : RdS w (.slice a n cap) l) (hk : k < l.length) :
    Calls Tryz.prog 64 #[.slice a n cap, .int .i64 (k : Int)] w fun ev w' => ev = .returned (.int .i64 (parGo l[k] (l.take k) 0)) ∧ ∃ m, w' = w.drewN m := by
  obtain ⟨R, hR⟩ : ∃ R, R = parGo l[k] (l.take k) 0 := ⟨_, rfl⟩
  rw [← hR]
  have HRR := Lib.hid hR
  have HR := Lib.hid hr
  have HN := Lib.hid hn
  have hln : n ≤ 9223372036854775807 := by obtain ⟨_, _, e, h5, h6, _⟩ := hr; omega
  obtain ⟨s, hs⟩ : ∃ s, s = l[k] := ⟨_, rfl⟩
  obtain ⟨rb, ro, hra, hrow⟩ := hr.row k hk
  subst hra
  rw [← hs] at hrow HRR
  have s2 : w.cell? ⟨rb, ro + k * 12 + 2, none⟩ = some (.int .i64 s.upS) := hrow 2 _ rfl
  have s3 : w.cell? ⟨rb, ro + k * 12 + 3, none⟩ = some (.int .i64 s.upB) := hrow 3 _ rfl
  have s3' : w.cell? ⟨rb, ro + k * 12 + 2 + 1, none⟩ = some (.int .i64 s.upB) := s3
  have k0 : (0 : Int) ≤ (k : Int) := by omega
  have kn : (k : Int) < (n : Int) := by omega
  have HK := Lib.hid hk
  clear hs hrow hR hn hr hk
  go_enter Tryz.func64, Tryz.ntmps64
  go_wp2_with fail
  go_loopg [5] k (fun gk iv wr => ∃ j : Nat, gk + j = k ∧ iv = .int .i64 (j : Int) ∧ parGo s ((l.take k).drop j) (j : Int) = R ∧ ∃ m, wr = w.drewN m)
  case atStart => exact ⟨0, rfl, rfl, HRR.out.symm, 0, rfl⟩
  case round =>
    obtain ⟨j, hgj, rfl, hP, m, rfl⟩ := hrel
    have j0 : (0 : Int) ≤ (j : Int) := by omega
    have HGJ := Lib.hid hgj
    have HP := Lib.hid hP
    clear hgj hP
    by_cases hj : j < k
    · have j1 : (j : Int) < (k : Int) := by omega
      have j2 : (j : Int) < (n : Int) := by omega
      have hjl : j < l.length := by have := HK.out; omega
      obtain ⟨p, hp⟩ : ∃ p, p = l[j] := ⟨_, rfl⟩
      obtain ⟨rb', ro', hra, hrow⟩ := HR.out.row j hjl
      injection hra with hra
      injection hra with e5 e6
      subst e5
      subst e6
      rw [← hp] at hrow
      have r0 : w.cell? ⟨rb, ro + j * 12, none⟩ = some (.int .i64 p.slot) := hrow 0 _ rfl
      have r1 : w.cell? ⟨rb, ro + j * 12 + 1, none⟩ = some (.int .i64 p.birth) := hrow 1 _ rfl
      have HD := Lib.hid (show (if p.birth = s.upB ∧ p.slot = s.upS then (j : Int) else parGo s ((l.take k).drop (j + 1)) ((j : Int) + 1)) = R from by
        rw [← HP.out]
        have e : (l.take k).drop j = p :: (l.take k).drop (j + 1) := by
          rw [List.drop_eq_getElem_cons (by rw [List.length_take]; omega), List.getElem_take, hp]
        rw [e]; rfl)
      have HJ := Lib.hid hj
      clear hj hjl hp hrow HP
      cases t1 : (p.birth == s.upB)
      · rw [if_neg (by rintro ⟨h, _⟩; rw [h] at t1; simp at t1)] at HD
        go_wp2_with fail
        go_quiet (fail)
        go_wp2_with fail
        go_roundg (k - (j + 1))
        case measure => have := HGJ.out; have := HJ.out; omega
        case rel => exact ⟨j + 1, by have := HGJ.out; have := HJ.out; omega, by go_num, HD.out, _, rfl⟩
      cases t2 : (p.slot == s.upS)
      · rw [if_neg (by rintro ⟨_, h⟩; rw [h] at t2; simp at t2)] at HD
        go_wp2_with fail
        go_quiet (fail)
        go_wp2_with fail
        go_roundg (k - (j + 1))
        case measure => have := HGJ.out; have := HJ.out; omega
        case rel => exact ⟨j + 1, by have := HGJ.out; have := HJ.out; omega, by go_num, HD.out, _, rfl⟩
      rw [if_pos ⟨by simpa using t1, by simpa using t2⟩] at HD
      go_wp2_with fail
      go_quiet (fail)
      go_wp2_with fail
      go_ret
      rw [← HD.out]
      exact ⟨rfl, _, by first | rfl | exact World.drewN_drewN _ _ _⟩
    · have j1 : ¬ (j : Int) < (k : Int) := by omega
      have HD := Lib.hid (show R = -1 by
        have e := HP.out
        rw [List.drop_of_length_le (by rw [List.length_take]; omega)] at e
        exact e.symm)
      clear hj
      go_wp2_with fail
      go_ret
      rw [HD.out]
      exact ⟨rfl, _, by first | rfl | exact World.drewN_drewN _ _ _⟩

/-! The document's way to say what hangs. -/
def matchP (s p : SesM) : Bool := (p.birth == s.upB) && (p.slot == s.upS)
def dupM (s : SesM) (a : List SesM) : Bool := a.any (fun p => p.slot == s.slot)
theorem matchP_iff {s p : SesM} : matchP s p = true ↔ (s.upS = p.slot ∧ s.upB = p.birth) := by
  unfold matchP; rw [Bool.and_eq_true, beq_iff_eq, beq_iff_eq]; exact ⟨fun h => ⟨h.2.symm, h.1.symm⟩, fun h => ⟨h.2.symm, h.1.symm⟩⟩
theorem hang_find {s : SesM} : ∀ (a : List SesM) (h : Bool), dupM s a = false → (a.Pairwise (fun p q => p.birth < q.birth)) → hangM s a h = some (match a.find? (matchP s) with | none => h | some p => belowM s p)
  | [], h, _, _ => rfl
  | p :: ps, h, hd, hp => by
    unfold dupM at hd
    rw [List.any_cons, Bool.or_eq_false_iff] at hd
    have hps := List.pairwise_cons.1 hp
    unfold hangM
    rw [if_neg (by intro e; rw [e] at hd; simp at hd), hang_find ps _ hd.2 hps.2, List.find?_cons]
    cases hm : matchP s p
    · rw [if_neg (fun hh => by rw [matchP_iff.2 hh] at hm; cases hm)]
    · rw [if_pos (matchP_iff.1 hm)]
      have hn : ps.find? (matchP s) = none := by
        rw [List.find?_eq_none]
        intro q hq hmq
        have h1 := hps.1 q hq
        have h2 := (matchP_iff.1 hm).2
        have h3 := (matchP_iff.1 hmq).2
        omega
      rw [hn]
theorem hang_dup {s : SesM} : ∀ (a : List SesM) (h : Bool), dupM s a = true → hangM s a h = none
  | [], h, hd => by simp [dupM] at hd
  | p :: ps, h, hd => by
    unfold dupM at hd
    rw [List.any_cons, Bool.or_eq_true] at hd
    unfold hangM
    split
    · rfl
    · rename_i hne
      refine hang_dup ps _ (hd.resolve_left (fun e => hne (by simpa using e)))
theorem par_find (s : SesM) : ∀ (a : List SesM) (i : Int), (parGo s a i = -1 ∧ a.find? (matchP s) = none) ∨ ∃ (j : Nat) (hj : j < a.length), parGo s a i = i + (j : Int) ∧ a.find? (matchP s) = some a[j]
  | [], i => .inl ⟨rfl, rfl⟩
  | p :: ps, i => by
    unfold parGo
    rw [List.find?_cons]
    cases hm : matchP s p
    · rw [if_neg (fun hh => by have : matchP s p = true := matchP_iff.2 ⟨hh.2.symm, hh.1.symm⟩; rw [this] at hm; cases hm)]
      rcases par_find s ps (i + 1) with h | ⟨j, hj, h1, h2⟩
      · exact .inl h
      · exact .inr ⟨j + 1, by simpa using hj, by rw [h1]; push_cast; omega, by simpa using h2⟩
    · have h := matchP_iff.1 hm
      rw [if_pos ⟨h.2.symm, h.1.symm⟩]
      exact .inr ⟨0, by simp, by simp, rfl⟩
def condM (c b : Int) (s : SesM) (a : List SesM) : Bool := mayS s && (!(!a.isEmpty && decide (s.birth ≤ lastB a)) && (decide (s.birth ≤ b) && (decide (s.born ≤ c) && decide (c < s.deadline))))
theorem mayI_cond (c b : Int) (s : SesM) (a : List SesM) : mayI c b s a = (condM c b s a && (hangM s a (upNo s) == some true)) := by
  unfold mayI condM; simp only [Bool.and_assoc]
theorem up_none {s : SesM} {a : List SesM} (hu : upNo s = true) (ha : ∀ p ∈ a, mayS p = true) : a.find? (matchP s) = none := by
  rw [List.find?_eq_none]
  intro p hp hm
  have h1 := (matchP_iff.1 hm).2
  unfold upNo at hu
  rw [Bool.and_eq_true, beq_iff_eq, beq_iff_eq] at hu
  have h2 := ha p hp
  unfold mayS at h2
  simp only [Bool.and_eq_true] at h2
  have h3 := fromM_yes h2.2.1
  omega
end Go.Proofs.YtdaimaibnjkfbaaGreatDoor
