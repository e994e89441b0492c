/-
  Package image: which sessions, and which states, may be.
-/
import Derived.Test.YtdaimaibnjkfbaaDoorZ6
import Derived.BigQuiet
namespace Go.Proofs.YtdaimaibnjkfbaaDoor
open Go.RowKit
set_option maxRecDepth 100000

theorem mayE_birth (s : SesM) : mayE ⟨0, s, 0, 0⟩ = mayS s := by simp [mayE]
set_option maxHeartbeats 1600000 in
theorem alone_calls (s : SesM) (w : World) (ho : SesOk s) :
    Calls Tryd.prog 53 #[.agg s.cells] w fun ev w' => ev = .returned (.bool (mayS s)) ∧ Below w.heap.size w w' := by
  have Hen := Lib.hid (fun w => enc_calls ⟨0, s, 0, 0⟩ w ho.user ho.label ho.scopes)
  have hEC : EvtM.cells ⟨0, s, 0, 0⟩ = #[.int .i64 0, .int .i64 s.slot, .int .i64 s.birth, .int .i64 s.upS, .int .i64 s.upB, .int .i64 s.kind, .string (SB s.user), .string (SB s.label), .int .u64 (s.scopes : Int), .int .i64 s.level, .int .i64 s.born, .int .i64 s.deadline, .int .i64 s.depth, .int .i64 0, .int .i64 0] := rfl
  have HB0 := Lib.hid (below_alloc w (.cells s.cells 56))
  have hn : encN ⟨0, s, 0, 0⟩ = if mayS s = true then 0 else 1 := by unfold encN; rw [mayE_birth]
  rw [hEC, hn] at Hen
  generalize mayS s = m at Hen ⊢
  rw [show s.cells = #[.int .i64 s.slot, .int .i64 s.birth, .int .i64 s.upS, .int .i64 s.upB, .int .i64 s.kind, .string (SB s.user), .string (SB s.label), .int .u64 (s.scopes : Int), .int .i64 s.level, .int .i64 s.born, .int .i64 s.deadline, .int .i64 s.depth] from rfl] at HB0 ⊢
  clear hEC hn ho
  go_enter Tryd.func53, Tryd.ntmps53
  go_wp2_with fail
  refine (Hen.out _).mono ?_
  rintro ev w1 ⟨o, rfl, ho, hb1⟩
  have HB1 := Lib.hid (HB0.out.trans (hb1.mono (by simp)))
  obtain ⟨oa, oc, rfl, _⟩ := ho.slice
  clear ho hb1 Hen
  cases m
  · rw [show errV (if false = true then 0 else 1) = .iface 68 (.int .i64 1) from rfl]
    go_wp2_with fail
    go_ret
    exact ⟨rfl, HB1.out⟩
  · rw [show errV (if true = true then 0 else 1) = .nilIface from rfl]
    go_wp2_with fail
    go_ret
    exact ⟨rfl, HB1.out⟩
theorem mayS_depth {s : SesM} (h : mayS s = true) : 0 ≤ s.depth ∧ s.depth ≤ 6 := by
  unfold mayS at h
  simp only [Bool.and_eq_true] at h
  obtain ⟨h1, h2, h3, h4, h5, h6, h7⟩ := h
  have hc : childM s = true → 0 ≤ s.depth ∧ s.depth ≤ 6 := fun hc => by
    unfold childM at hc
    simp only [Bool.and_eq_true] at hc
    have := fromM_yes hc.2.2.2; omega
  split at h7
  · unfold loginM at h7
    simp only [Bool.and_eq_true, beq_iff_eq] at h7
    omega
  split at h7
  · exact hc h7
  split at h7
  · rw [Bool.and_eq_true] at h7; exact hc h7.1
  · cases h7
set_option maxHeartbeats 3200000 in
theorem below_calls (s p : SesM) (w : World) (hd : 0 ≤ p.depth ∧ p.depth ≤ 6) :
    Calls Tryd.prog 54 #[.agg s.cells, .agg p.cells] w fun ev w' => ev = .returned (.bool (belowM s p)) ∧ Below w.heap.size w w' := by
  have hHB : ∀ o o2, Below w.heap.size w ((w.alloc o).alloc o2) := fun o o2 => below_two w o o2
  have HB := Lib.hid hHB
  have Hm := Lib.hid (show ∀ b, belowM s p = b → b = belowM s p from fun _ h => h.symm)
  obtain ⟨d0, d6⟩ := hd
  have hz := (show IntKind.i64.wrap (p.depth + 1) = p.depth + 1 by simp [IntKind.wrap, IntKind.bits, IntKind.signed]; omega)
  unfold SesM.cells
  clear hHB
  go_enter Tryd.func54, Tryd.ntmps54
  cases h1 : (s.depth == p.depth + 1)
  · have h1' : (s.depth != p.depth + 1) = true := by rw [bne, h1]; rfl
    go_wp2_with fail
    go_ret
    exact ⟨ret_eq (congrArg Value.bool (Hm.out _ (by unfold belowM; rw [h1]; rfl))), HB.out _ _⟩
  have h1' : (s.depth != p.depth + 1) = false := by rw [bne, h1]; rfl
  cases h2 : (s.user == p.user)
  · have h2' : ((SB s.user).toList == (SB p.user).toList) = false := by rw [SB_toList, SB_toList]; exact h2
    have h2'' : ((SB s.user).toList != (SB p.user).toList) = true := by rw [bne, h2']; rfl
    go_wp2_with fail
    go_ret
    exact ⟨ret_eq (congrArg Value.bool (Hm.out _ (by unfold belowM; rw [h1, h2]; rfl))), HB.out _ _⟩
  have h2' : ((SB s.user).toList == (SB p.user).toList) = true := by rw [SB_toList, SB_toList]; exact h2
  have h2'' : ((SB s.user).toList != (SB p.user).toList) = false := by rw [bne, h2']; rfl
  by_cases h3 : s.deadline ≤ p.deadline
  rotate_left
  · have h3' : p.deadline < s.deadline := by omega
    have H3 := Lib.hid h3
    clear h3
    go_wp2_with fail
    go_ret
    exact ⟨ret_eq (congrArg Value.bool (Hm.out _ (by unfold belowM; rw [h1, h2, decide_eq_false (show ¬ s.deadline ≤ p.deadline from by have := H3.out; omega)]; rfl))), HB.out _ _⟩
  have h3' : ¬ p.deadline < s.deadline := by omega
  have H3 := Lib.hid h3
  clear h3
  cases h4 : scIn s.scopes p.scopes
  · have h4' := h4
    unfold scIn at h4'
    have h4'' : (bits .andNot .u64 (s.scopes : Int) (p.scopes : Int) != 0) = true := by rw [bne, h4']; rfl
    go_wp2_with fail
    go_ret
    exact ⟨ret_eq (congrArg Value.bool (Hm.out _ (by unfold belowM; rw [h1, h2, decide_eq_true (show s.deadline ≤ p.deadline from by have := H3.out; omega), h4]; rfl))), HB.out _ _⟩
  have h4' := h4
  unfold scIn at h4'
  have h4'' : (bits .andNot .u64 (s.scopes : Int) (p.scopes : Int) != 0) = false := by rw [bne, h4']; rfl
  go_wp2_with fail
  go_ret
  exact ⟨ret_eq (congrArg Value.bool (Hm.out _ (by unfold belowM; rw [h1, h2, decide_eq_true (show s.deadline ≤ p.deadline from by have := H3.out; omega), h4]; rfl))), HB.out _ _⟩
theorem fault_calls (n : Int) (w : World) : Calls Tryd.prog 29 #[.int .i64 n] w fun ev w' => ev = .returned (.iface 78 (.agg #[.int .i64 24, .int .i64 n])) ∧ w' = w := by
  go_enter Tryd.func29, Tryd.ntmps29
  go_wp2
  go_ret
  exact ⟨rfl, rfl⟩
theorem run_eqlL (a b c d : Int) (w : World) : (binOp .eql 52 (.agg #[.int .i64 a, .int .i64 b]) (.agg #[.int .i64 c, .int .i64 d])).run Tryd.prog w = .ok (.bool ((a == c) && (b == d))) w := by
  go_simp
  refine ite_step (Value.bool) bdec rfl ?_
  exact ite_last (Value.bool) bdec rfl rfl
set_option maxHeartbeats 6400000 in
theorem may_calls (c b : Int) (v : Value) (s : SesM) (a : Option Addr) (n cap : Nat) (l : List SesM) (w : World) (hs : SesOk s) (hn : n = l.length) (hr : RdS w (.slice a n cap) l) (hp : ∀ p ∈ l, mayS p = true) :
    Calls Tryd.prog 30 #[.agg #[.int .i64 c, .int .i64 b, v], .agg s.cells, .slice a n cap] w fun ev w' => ev = .returned (.bool (mayI c b s l)) ∧ Below w.heap.size w w' := by
  obtain ⟨M, hM⟩ : ∃ M, M = mayI c b s l := ⟨_, rfl⟩
  rw [← hM]
  unfold mayI at hM
  have HM := Lib.hid hM
  have Hal := Lib.hid (fun w => alone_calls s w hs)
  have HR := Lib.hid hr
  have HP := Lib.hid hp
  have HX0 := Lib.hid (Box.new w #[.int .i64 c, .int .i64 b, v] 24)
  have HX1 := Lib.hid (Box.new (w.alloc (.cells #[.int .i64 c, .int .i64 b, v] 24)) s.cells 56)
  have HB := Lib.hid (below_two w (.cells #[.int .i64 c, .int .i64 b, v] 24) (.cells s.cells 56))
  have hln : n ≤ 9223372036854775807 := by obtain ⟨_, _, e, h5, h6, _⟩ := hr; omega
  have HN := Lib.hid hn
  have HSC := Lib.hid (show s.cells = #[.int .i64 s.slot, .int .i64 s.birth, .int .i64 s.upS, .int .i64 s.upB, .int .i64 s.kind, .string (SB s.user), .string (SB s.label), .int .u64 (s.scopes : Int), .int .i64 s.level, .int .i64 s.born, .int .i64 s.deadline, .int .i64 s.depth] from rfl)
  rw [HSC.out] at HX1 HB Hal ⊢
  clear hs hr hp hM hn
  go_enter Tryd.func30, Tryd.ntmps30
  go_wp2_with fail
  refine (Hal.out _).mono ?_
  rintro ev w1 ⟨rfl, hb1⟩
  have hx0 := (HX0.out.below (below_alloc _ (.cells #[.int .i64 s.slot, .int .i64 s.birth, .int .i64 s.upS, .int .i64 s.upB, .int .i64 s.kind, .string (SB s.user), .string (SB s.label), .int .u64 (s.scopes : Int), .int .i64 s.level, .int .i64 s.born, .int .i64 s.deadline, .int .i64 s.depth] 56))).below hb1
  have hx1 := HX1.out.below hb1
  rw [World.size_alloc] at hx1
  have HBq := Lib.hid (HB.out.trans (hb1.mono HB.out.size))
  have HX0 := Lib.hid hx0
  have HX1 := Lib.hid hx1
  clear hb1 HB Hal
  have c0 := hx0.cell 0 _ rfl
  have c1 := hx0.cell 1 _ rfl
  have x0 := hx1.cell 0 _ rfl
  have x1 := hx1.cell 1 _ rfl
  have x2 := hx1.cell 2 _ rfl
  have x3 := hx1.cell 3 _ rfl
  have x8 := hx1.cell 9 _ rfl
  have x9 := hx1.cell 10 _ rfl
  clear hx0 hx1
  cases hm : mayS s
  · have HF := Lib.hid (show false = M by rw [HM.out, hm]; rfl)
    clear hm
    go_wp2_with fail
    go_ret
    exact ⟨ret_eq (congrArg Value.bool HF.out), HBq.out⟩
  rw [hm, Bool.true_and] at HM
  clear hm
  go_wp2_with fail
  have HXA := Lib.hid (fun n => show Box (w1.drewN n) w.heap.size _ _ from HX0.out)
  have HXB := Lib.hid (fun n => show Box (w1.drewN n) (w.heap.size + 1) _ _ from HX1.out)
  have HBA := Lib.hid (fun n => HBq.out.trans ((below_drewN w1 n).mono HBq.out.size))
  by_cases hl0 : n = 0
  · have d0 : decide ((0 : Int) < (n : Int)) = false := by rw [decide_eq_false_iff_not]; omega
    have d0n : decide (0 < n) = false := by rw [decide_eq_false_iff_not]; omega
    rw [show l.isEmpty = true by rw [List.isEmpty_iff]; exact List.eq_nil_of_length_eq_zero (by have := HN.out; omega)] at HM
    rw [show (!(!true && decide (s.birth ≤ lastB l))) = true from rfl, Bool.true_and] at HM
    clear hl0
    go_quiet (fail)
    have HXA := Lib.hid (HXA.out nq)
    have HXB := Lib.hid (HXB.out nq)
    have HBA := Lib.hid (HBA.out nq)
    clear HX0 HX1 c0 c1 x0 x1 x2 x3 x8 x9
    generalize hw2 : World.drewN w1 _ = w2 at HXA HXB HBA ⊢
    clear hw2
    have c0 := HXA.out.cell 0 _ rfl
    have c1 := HXA.out.cell 1 _ rfl
    have x0 := HXB.out.cell 0 _ rfl
    have x1 := HXB.out.cell 1 _ rfl
    have x2 := HXB.out.cell 2 _ rfl
    have x3 := HXB.out.cell 3 _ rfl
    have x8 := HXB.out.cell 9 _ rfl
    have x9 := HXB.out.cell 10 _ rfl
    by_cases g2 : b < s.birth
    · have HF := Lib.hid (show false = M by rw [HM.out, decide_eq_false (show ¬ s.birth ≤ b by omega)]; rfl)
      go_wp2_with fail
      go_ret
      exact ⟨ret_eq (congrArg Value.bool HF.out), HBA.out⟩
    rw [decide_eq_true (show s.birth ≤ b by omega), Bool.true_and] at HM
    by_cases g3 : c < s.born
    · have HF := Lib.hid (show false = M by rw [HM.out, decide_eq_false (show ¬ s.born ≤ c by omega)]; rfl)
      go_wp2_with fail
      go_ret
      exact ⟨ret_eq (congrArg Value.bool HF.out), HBA.out⟩
    rw [decide_eq_true (show s.born ≤ c by omega), Bool.true_and] at HM
    by_cases g4 : s.deadline ≤ c
    · have HF := Lib.hid (show false = M by rw [HM.out, decide_eq_false (show ¬ c < s.deadline by omega)]; rfl)
      go_wp2_with fail
      go_ret
      exact ⟨ret_eq (congrArg Value.bool HF.out), HBA.out⟩
    rw [decide_eq_true (show c < s.deadline by omega), Bool.true_and] at HM
    have e8 : ∀ w, (binOp .eql 52 (.agg #[.int .i64 s.upS, .int .i64 s.upB]) (.agg #[.int .i64 0, .int .i64 0])).run Tryd.prog w = .ok (.bool (upNo s)) w := fun w => run_eqlL _ _ _ _ w
    obtain ⟨h0, hh0⟩ : ∃ h0, h0 = upNo s := ⟨_, rfl⟩
    rw [← hh0] at e8 HM
    clear hh0
    go_wp2_with fail
    clear c0 c1 x0 x1 x2 x3 x8 x9 g2 g3 g4 e8
    obtain ⟨R, hR⟩ : ∃ R, R = hangM s l h0 := ⟨_, rfl⟩
    rw [← hR] at HM
    have HRR := Lib.hid hR
    clear hR
    go_loopg [8, 51] n (fun gk hv iv wr => ∃ (k : Nat) (h : Bool), gk + k = n ∧ iv = .int .i64 (k : Int) ∧ hv = .bool h ∧ hangM s (l.drop k) h = R ∧ Below w2.heap.size w2 wr)
    case atStart => exact ⟨0, h0, rfl, rfl, rfl, HRR.out.symm, Below.refl _ _⟩
    case round =>
      obtain ⟨k, h, hgk, rfl, rfl, hH, hb⟩ := hrel
      have HBr := Lib.hid hb
      have HH := Lib.hid hH
      have HGK := Lib.hid hgk
      have HXr := Lib.hid (HXB.out.below hb)
      have k0 : (0 : Int) ≤ (k : Int) := by omega
      clear hb hH hgk
      by_cases hk : k < n
      rotate_left
      · have k1 : ¬ (k : Int) < (n : Int) := by omega
        have HF := Lib.hid (show h = M by
          have e := HH.out
          rw [List.drop_of_length_le (by have := HN.out; omega)] at e
          unfold hangM at e
          rw [HM.out, ← e]; cases h <;> rfl)
        have HB9 := Lib.hid (HBA.out.trans (HBr.out.mono HBA.out.size))
        clear hk
        go_wp2_with fail
        go_ret
        exact ⟨ret_eq (congrArg Value.bool HF.out), HB9.out⟩
      have k1 : (k : Int) < (n : Int) := by omega
      have HRr := Lib.hid ((HR.out.below HBA.out).below HBr.out)
      have hkl : k < l.length := by have := HN.out; omega
      obtain ⟨p, hp⟩ : ∃ p, p = l[k] := ⟨_, rfl⟩
      obtain ⟨rb, ro, hra, hrow⟩ := HRr.out.row k hkl
      subst hra
      rw [← hp] at hrow
      have hpd := mayS_depth (HP.out p (by rw [hp]; exact List.getElem_mem hkl))
      have HD := Lib.hid (show hangM s (p :: l.drop (k + 1)) h = R by rw [← HH.out, List.drop_eq_getElem_cons hkl, hp])
      have HK := Lib.hid hk
      have HBE := Lib.hid (fun w => below_calls s p w hpd)
      have HROW := Lib.hid hrow
      clear hk hkl hp hrow hpd HH
      unfold hangM at HD
      go_wp2_with ((with_reducible refine wpList_load_k ?b01 56 (.tmp 53) ?b11 rb (ro + k * 12) ?b21 p.cells.toList _ HROW.out Tryd.underlying56 ?b31 ?b41 ?b81); (case b11 => rfl); (case b01 => rfl); (case b21 => rfl); (case b31 => rfl); (case b41 => kernel_rfl))
      intro cv hcv
      go_wp2_with ((with_reducible refine wpList_store_k ?a01 56 (.tmp 10) (.tmp 54) ?a11 wr.heap.size 0 p.cells.toList ?a21 cv ?a31 hcv ?a51 ?a61 ?a71 ?a81); (case a11 => rfl); (case a01 => rfl); (case a21 => rfl); (case a31 => rfl); (case a51 => exact thereZ _ _); (case a61 => kernel_rfl); (case a71 => exact SesM.oneS _))
      intro w3 hw3
      obtain ⟨hpx, hb3⟩ := putZ hw3
      have HPX := Lib.hid hpx
      have HX3 := Lib.hid (HXr.out.below hb3)
      have HB3 := Lib.hid (HBr.out.trans (hb3.mono HBr.out.size))
      have p0 : w3.cell? ⟨wr.heap.size, 0, none⟩ = some (.int .i64 p.slot) := hpx.cell 0 _ rfl
      have p1 : w3.cell? ⟨wr.heap.size, 1, none⟩ = some (.int .i64 p.birth) := hpx.cell 1 _ rfl
      have x0 := HX3.out.cell 0 _ rfl
      have x2 := HX3.out.cell 2 _ rfl
      have x3 := HX3.out.cell 3 _ rfl
      clear hcv hw3 hpx hb3 HBr HXr HROW HRr
      cases q1 : (p.slot == s.slot)
      rotate_left
      · rw [if_pos (by simpa using q1)] at HD
        have HF := Lib.hid (show false = M by rw [HM.out, ← HD.out]; rfl)
        have HB9 := Lib.hid (HBA.out.trans (HB3.out.mono HBA.out.size))
        go_wp2_with fail
        go_ret
        exact ⟨ret_eq (congrArg Value.bool HF.out), HB9.out⟩
      rw [if_neg (by simpa using q1)] at HD
      have e8 : ∀ w, (binOp .eql 52 (.agg #[.int .i64 s.upS, .int .i64 s.upB]) (.agg #[.int .i64 p.slot, .int .i64 p.birth])).run Tryd.prog w = .ok (.bool ((s.upS == p.slot) && (s.upB == p.birth))) w := fun w => run_eqlL _ _ _ _ w
      by_cases q2 : s.upS = p.slot ∧ s.upB = p.birth
      rotate_left
      · rw [if_neg q2] at HD
        rw [show ((s.upS == p.slot) && (s.upB == p.birth)) = false by rw [Bool.eq_false_iff]; simpa using q2] at e8
        clear q2
        go_wp2_with fail
        go_roundg (n - (k + 1))
        case measure => have := HGK.out; have := HK.out; omega
        case rel => exact ⟨k + 1, h, by have := HGK.out; have := HK.out; omega, by go_num, rfl, HD.out, HB3.out⟩
      rw [if_pos q2] at HD
      rw [show ((s.upS == p.slot) && (s.upB == p.birth)) = true by simpa using q2] at e8
      clear q2
      have HXS := Lib.hid (show Box w3 (w.heap.size + 1) s.cells 56 from HX3.out)
      go_wp2_with ((with_reducible refine wpList_load_k ?d01 56 (.tmp 4) ?d11 (w.heap.size + 1) 0 ?d21 s.cells.toList _ (Box.rangeS HXS.out) Tryd.underlying56 ?d31 ?d41 ?d81); (case d11 => rfl); (case d01 => rfl); (case d21 => rfl); (case d31 => rfl); (case d41 => kernel_rfl))
      intro cs hcs
      have ecs : cs = s.cells := by rw [hcs.out]
      subst ecs
      go_wp2_with ((with_reducible refine wpList_load_k ?f01 56 (.tmp 10) ?f11 wr.heap.size 0 ?f21 p.cells.toList _ (Box.rangeS HPX.out) Tryd.underlying56 ?f31 ?f41 ?f81); (case f11 => rfl); (case f01 => rfl); (case f21 => rfl); (case f31 => rfl); (case f41 => kernel_rfl))
      intro cp hcp
      have ecp : cp = p.cells := by rw [hcp.out]
      subst ecp
      clear hcs hcp e8 p0 p1 x0 x2 x3
      go_wp2_with fail
      refine (HBE.out _).mono ?_
      rintro ev w4 ⟨rfl, hb4⟩
      have HB4 := Lib.hid (HB3.out.trans (hb4.mono HB3.out.size))
      generalize belowM s p = hn at HD ⊢
      clear hb4
      go_wp2_with fail
      go_roundg (n - (k + 1))
      case measure => have := HGK.out; have := HK.out; omega
      case rel => exact ⟨k + 1, hn, by have := HGK.out; have := HK.out; omega, by go_num, rfl, HD.out, HB4.out⟩
  obtain ⟨m, hm⟩ : ∃ m, n = m + 1 := ⟨n - 1, by omega⟩
  have hml : m < l.length := by have := HN.out; omega
  have hmz : IntKind.i64.wrap ((n : Int) - 1) = (m : Int) := by
    rw [show (n : Int) - 1 = (m : Int) by omega]
    simp [IntKind.wrap, IntKind.bits, IntKind.signed]; omega
  obtain ⟨rb, ro, hra, hrow⟩ := (HR.out.below HBq.out).row m hml
  subst hra
  have hcb := hrow 1 _ rfl
  have hlast : lastB l = (l[m]'hml).birth := by
    have e : l = l.take m ++ [l[m]'hml] := by
      rw [← List.take_succ_eq_append_getElem hml, List.take_of_length_le (by have := HN.out; omega)]
    conv => lhs; rw [e]
    exact lastB_snoc _ _
  rw [show l.isEmpty = false by rw [← Bool.not_eq_true, List.isEmpty_iff]; intro h; rw [h] at hml; simp at hml, hlast] at HM
  generalize hbl : (l[m]'hml).birth = bl at hcb HM
  have d0 : decide ((0 : Int) < (n : Int)) = true := by rw [decide_eq_true_iff]; omega
  have d0n : decide (0 < n) = true := by rw [decide_eq_true_iff]; omega
  have m0 : (0 : Int) ≤ (m : Int) := by omega
  have m1 : (m : Int) < (n : Int) := by omega
  clear hlast hrow hbl hm hl0 hml
  by_cases hlt : s.birth ≤ bl
  · have d1 : decide (s.birth ≤ bl) = true := decide_eq_true hlt
    have HF := Lib.hid (show false = M by rw [HM.out, d1]; rfl)
    have HB8 := Lib.hid (fun n => HBq.out.trans ((below_drewN w1 n).mono HBq.out.size))
    clear hlt
    go_quiet (fail)
    have HB9 := Lib.hid (HBA.out nq)
    go_wp2_with fail
    go_ret
    exact ⟨ret_eq (congrArg Value.bool HF.out), HB9.out⟩
  have d1 : decide (s.birth ≤ bl) = false := decide_eq_false hlt
  rw [d1, show (!(!false && false)) = true from rfl, Bool.true_and] at HM
  clear hlt
  go_quiet (fail)
  have HXA := Lib.hid (HXA.out nq)
  have HXB := Lib.hid (HXB.out nq)
  have HBA := Lib.hid (HBA.out nq)
  clear d0 d0n d1 hcb hmz m0 m1
  clear HX0 HX1 c0 c1 x0 x1 x2 x3 x8 x9
  generalize hw2 : World.drewN w1 _ = w2 at HXA HXB HBA ⊢
  clear hw2
  have c0 := HXA.out.cell 0 _ rfl
  have c1 := HXA.out.cell 1 _ rfl
  have x0 := HXB.out.cell 0 _ rfl
  have x1 := HXB.out.cell 1 _ rfl
  have x2 := HXB.out.cell 2 _ rfl
  have x3 := HXB.out.cell 3 _ rfl
  have x8 := HXB.out.cell 9 _ rfl
  have x9 := HXB.out.cell 10 _ rfl
  by_cases g2 : b < s.birth
  · have HF := Lib.hid (show false = M by rw [HM.out, decide_eq_false (show ¬ s.birth ≤ b by omega)]; rfl)
    go_wp2_with fail
    go_ret
    exact ⟨ret_eq (congrArg Value.bool HF.out), HBA.out⟩
  rw [decide_eq_true (show s.birth ≤ b by omega), Bool.true_and] at HM
  by_cases g3 : c < s.born
  · have HF := Lib.hid (show false = M by rw [HM.out, decide_eq_false (show ¬ s.born ≤ c by omega)]; rfl)
    go_wp2_with fail
    go_ret
    exact ⟨ret_eq (congrArg Value.bool HF.out), HBA.out⟩
  rw [decide_eq_true (show s.born ≤ c by omega), Bool.true_and] at HM
  by_cases g4 : s.deadline ≤ c
  · have HF := Lib.hid (show false = M by rw [HM.out, decide_eq_false (show ¬ c < s.deadline by omega)]; rfl)
    go_wp2_with fail
    go_ret
    exact ⟨ret_eq (congrArg Value.bool HF.out), HBA.out⟩
  rw [decide_eq_true (show c < s.deadline by omega), Bool.true_and] at HM
  have e8 : ∀ w, (binOp .eql 52 (.agg #[.int .i64 s.upS, .int .i64 s.upB]) (.agg #[.int .i64 0, .int .i64 0])).run Tryd.prog w = .ok (.bool (upNo s)) w := fun w => run_eqlL _ _ _ _ w
  obtain ⟨h0, hh0⟩ : ∃ h0, h0 = upNo s := ⟨_, rfl⟩
  rw [← hh0] at e8 HM
  clear hh0
  go_wp2_with fail
  clear c0 c1 x0 x1 x2 x3 x8 x9 g2 g3 g4 e8
  obtain ⟨R, hR⟩ : ∃ R, R = hangM s l h0 := ⟨_, rfl⟩
  rw [← hR] at HM
  have HRR := Lib.hid hR
  clear hR
  go_loopg [8, 51] n (fun gk hv iv wr => ∃ (k : Nat) (h : Bool), gk + k = n ∧ iv = .int .i64 (k : Int) ∧ hv = .bool h ∧ hangM s (l.drop k) h = R ∧ Below w2.heap.size w2 wr)
  case atStart => exact ⟨0, h0, rfl, rfl, rfl, HRR.out.symm, Below.refl _ _⟩
  case round =>
    obtain ⟨k, h, hgk, rfl, rfl, hH, hb⟩ := hrel
    have HBr := Lib.hid hb
    have HH := Lib.hid hH
    have HGK := Lib.hid hgk
    have HXr := Lib.hid (HXB.out.below hb)
    have k0 : (0 : Int) ≤ (k : Int) := by omega
    clear hb hH hgk
    by_cases hk : k < n
    rotate_left
    · have k1 : ¬ (k : Int) < (n : Int) := by omega
      have HF := Lib.hid (show h = M by
        have e := HH.out
        rw [List.drop_of_length_le (by have := HN.out; omega)] at e
        unfold hangM at e
        rw [HM.out, ← e]; cases h <;> rfl)
      have HB9 := Lib.hid (HBA.out.trans (HBr.out.mono HBA.out.size))
      clear hk
      go_wp2_with fail
      go_ret
      exact ⟨ret_eq (congrArg Value.bool HF.out), HB9.out⟩
    have k1 : (k : Int) < (n : Int) := by omega
    have HRr := Lib.hid ((HR.out.below HBA.out).below HBr.out)
    have hkl : k < l.length := by have := HN.out; omega
    obtain ⟨p, hp⟩ : ∃ p, p = l[k] := ⟨_, rfl⟩
    obtain ⟨rb', ro', hra, hrow⟩ := HRr.out.row k hkl
    injection hra with hra
    injection hra with e5 e6
    subst e5
    subst e6
    rw [← hp] at hrow
    have hpd := mayS_depth (HP.out p (by rw [hp]; exact List.getElem_mem hkl))
    have HD := Lib.hid (show hangM s (p :: l.drop (k + 1)) h = R by rw [← HH.out, List.drop_eq_getElem_cons hkl, hp])
    have HK := Lib.hid hk
    have HBE := Lib.hid (fun w => below_calls s p w hpd)
    have HROW := Lib.hid hrow
    clear hk hkl hp hrow hpd HH
    unfold hangM at HD
    go_wp2_with ((with_reducible refine wpList_load_k ?b02 56 (.tmp 53) ?b12 rb (ro + k * 12) ?b22 p.cells.toList _ HROW.out Tryd.underlying56 ?b32 ?b42 ?b82); (case b12 => rfl); (case b02 => rfl); (case b22 => rfl); (case b32 => rfl); (case b42 => kernel_rfl))
    intro cv hcv
    go_wp2_with ((with_reducible refine wpList_store_k ?a02 56 (.tmp 10) (.tmp 54) ?a12 wr.heap.size 0 p.cells.toList ?a22 cv ?a32 hcv ?a52 ?a62 ?a72 ?a82); (case a12 => rfl); (case a02 => rfl); (case a22 => rfl); (case a32 => rfl); (case a52 => exact thereZ _ _); (case a62 => kernel_rfl); (case a72 => exact SesM.oneS _))
    intro w3 hw3
    obtain ⟨hpx, hb3⟩ := putZ hw3
    have HPX := Lib.hid hpx
    have HX3 := Lib.hid (HXr.out.below hb3)
    have HB3 := Lib.hid (HBr.out.trans (hb3.mono HBr.out.size))
    have p0 : w3.cell? ⟨wr.heap.size, 0, none⟩ = some (.int .i64 p.slot) := hpx.cell 0 _ rfl
    have p1 : w3.cell? ⟨wr.heap.size, 1, none⟩ = some (.int .i64 p.birth) := hpx.cell 1 _ rfl
    have x0 := HX3.out.cell 0 _ rfl
    have x2 := HX3.out.cell 2 _ rfl
    have x3 := HX3.out.cell 3 _ rfl
    clear hcv hw3 hpx hb3 HBr HXr HROW HRr
    cases q1 : (p.slot == s.slot)
    rotate_left
    · rw [if_pos (by simpa using q1)] at HD
      have HF := Lib.hid (show false = M by rw [HM.out, ← HD.out]; rfl)
      have HB9 := Lib.hid (HBA.out.trans (HB3.out.mono HBA.out.size))
      go_wp2_with fail
      go_ret
      exact ⟨ret_eq (congrArg Value.bool HF.out), HB9.out⟩
    rw [if_neg (by simpa using q1)] at HD
    have e8 : ∀ w, (binOp .eql 52 (.agg #[.int .i64 s.upS, .int .i64 s.upB]) (.agg #[.int .i64 p.slot, .int .i64 p.birth])).run Tryd.prog w = .ok (.bool ((s.upS == p.slot) && (s.upB == p.birth))) w := fun w => run_eqlL _ _ _ _ w
    by_cases q2 : s.upS = p.slot ∧ s.upB = p.birth
    rotate_left
    · rw [if_neg q2] at HD
      rw [show ((s.upS == p.slot) && (s.upB == p.birth)) = false by rw [Bool.eq_false_iff]; simpa using q2] at e8
      clear q2
      go_wp2_with fail
      go_roundg (n - (k + 1))
      case measure => have := HGK.out; have := HK.out; omega
      case rel => exact ⟨k + 1, h, by have := HGK.out; have := HK.out; omega, by go_num, rfl, HD.out, HB3.out⟩
    rw [if_pos q2] at HD
    rw [show ((s.upS == p.slot) && (s.upB == p.birth)) = true by simpa using q2] at e8
    clear q2
    have HXS := Lib.hid (show Box w3 (w.heap.size + 1) s.cells 56 from HX3.out)
    go_wp2_with ((with_reducible refine wpList_load_k ?d02 56 (.tmp 4) ?d12 (w.heap.size + 1) 0 ?d22 s.cells.toList _ (Box.rangeS HXS.out) Tryd.underlying56 ?d32 ?d42 ?d82); (case d12 => rfl); (case d02 => rfl); (case d22 => rfl); (case d32 => rfl); (case d42 => kernel_rfl))
    intro cs hcs
    have ecs : cs = s.cells := by rw [hcs.out]
    subst ecs
    go_wp2_with ((with_reducible refine wpList_load_k ?f02 56 (.tmp 10) ?f12 wr.heap.size 0 ?f22 p.cells.toList _ (Box.rangeS HPX.out) Tryd.underlying56 ?f32 ?f42 ?f82); (case f12 => rfl); (case f02 => rfl); (case f22 => rfl); (case f32 => rfl); (case f42 => kernel_rfl))
    intro cp hcp
    have ecp : cp = p.cells := by rw [hcp.out]
    subst ecp
    clear hcs hcp e8 p0 p1 x0 x2 x3
    go_wp2_with fail
    refine (HBE.out _).mono ?_
    rintro ev w4 ⟨rfl, hb4⟩
    have HB4 := Lib.hid (HB3.out.trans (hb4.mono HB3.out.size))
    generalize belowM s p = hn at HD ⊢
    clear hb4
    go_wp2_with fail
    go_roundg (n - (k + 1))
    case measure => have := HGK.out; have := HK.out; omega
    case rel => exact ⟨k + 1, hn, by have := HGK.out; have := HK.out; omega, by go_num, rfl, HD.out, HB4.out⟩
/-- What Check says. -/
def chkV : Option Int → Value
  | none => .nilIface
  | some n => .iface 78 (.agg #[.int .i64 24, .int .i64 n])
theorem headS (a : Option Addr) (n cap k : Nat) (hk : k ≤ cap) (w : World) : (Instr.slice 22 (.slice a n cap) none (some (.int .i64 (k : Int))) none).run Tryd.prog w = .ok (.slice a k cap) w :=
  run_head Tryd.underlying22 ⟨12, by kernel_rfl⟩ a n cap k hk w
theorem wpStill_slice {P : Program} {ops : Array Oper} {rest : List Oper} {op : Oper} {a : Act} {w : World} {Q : Act → Prop} (hw : Region.wanted op (yielded ops a.tmps) = true) (t : TypeId) (x y : Operand) (ho : op.op = .slice t x none (some y) none) {e : TypeId} (ht : P.underlying t = some (.slice e))
    (v u r : Value) (hx : a.eval x = v) (hy : a.eval y = u) (hr : (Instr.slice t v none (some u) none).run P w = .ok r w) (h : wpStill P ops w Q rest (a.put op.dst r)) : wpStill P ops w Q (op :: rest) a := by
  unfold wpStill
  rw [if_pos hw]
  unfold Oper.still execOp
  simp only [ho, hx, hy, Option.map_some, Option.map_none, Sem.run_bind, Sem.run_pure, Result.andThen_ok, Instr.sliceAt, run_underlying ht, hr]
  exact ⟨rfl, h⟩
set_option maxHeartbeats 6400000 in
theorem check_calls (st : StM) (v : Value) (w : World) (hr : RdS w v st.l) (ho : ∀ s ∈ st.l, SesOk s) :
    Calls Tryd.prog 10 #[.agg #[.int .i64 st.clock, .int .i64 st.births, v]] w fun ev w' => ev = .returned (chkV (checkM st)) ∧ Below w.heap.size w w' := by
  obtain ⟨a, cap, rfl, hc1, hc2⟩ := hr.slice
  obtain ⟨R, hR⟩ : ∃ R, R = checkM st := ⟨_, rfl⟩
  rw [← hR]
  have HR := Lib.hid hr
  have HO := Lib.hid ho
  have HX0 := Lib.hid (Box.new w #[.int .i64 st.clock, .int .i64 st.births, .slice a st.l.length cap] 24)
  have HB := Lib.hid (below_alloc w (.cells #[.int .i64 st.clock, .int .i64 st.births, .slice a st.l.length cap] 24))
  have hbd : boundsM st = decide (0 ≤ st.clock ∧ st.clock ≤ 1099511627776 ∧ 0 ≤ st.births ∧ st.births ≤ 1048576 ∧ st.l.length ≤ 32) := by
    unfold boundsM fromM; rw [Bool.eq_iff_iff]; simp [and_assoc]
  unfold checkM at hR
  rw [hbd] at hR
  have HRR := Lib.hid hR
  have HMY := Lib.hid (fun s a n cap l w hs hn hr hp => may_calls st.clock st.births (.slice a st.l.length cap) s a n cap l w hs hn hr hp)
  clear hbd hR hr ho
  obtain ⟨c, b, l⟩ := st
  simp only at HR HO HX0 HB HRR HMY hc1 hc2 ⊢
  obtain ⟨n, hn⟩ : ∃ n, n = l.length := ⟨_, rfl⟩
  rw [← hn] at HX0 HB HRR HMY hc1 ⊢
  have HN := Lib.hid hn
  have HCAP := Lib.hid hc1
  have hn2 : n ≤ 9223372036854775807 := by omega
  clear hn hc1 hc2
  go_enter Tryd.func10, Tryd.ntmps10
  by_cases g1 : c < 0
  · have HF := Lib.hid (show R = some (-1) by rw [HRR.out, decide_eq_false (by omega)]; rfl)
    go_wp2_with fail
    refine (fault_calls _ _).mono ?_
    rintro ev w1 ⟨rfl, rfl⟩
    go_wp2_with fail
    go_ret
    rw [HF.out]
    exact ⟨rfl, HB.out⟩
  by_cases g2 : 1099511627776 < c
  · have HF := Lib.hid (show R = some (-1) by rw [HRR.out, decide_eq_false (by omega)]; rfl)
    go_wp2_with fail
    refine (fault_calls _ _).mono ?_
    rintro ev w1 ⟨rfl, rfl⟩
    go_wp2_with fail
    go_ret
    rw [HF.out]
    exact ⟨rfl, HB.out⟩
  by_cases g3 : b < 0
  · have HF := Lib.hid (show R = some (-1) by rw [HRR.out, decide_eq_false (by omega)]; rfl)
    go_wp2_with fail
    refine (fault_calls _ _).mono ?_
    rintro ev w1 ⟨rfl, rfl⟩
    go_wp2_with fail
    go_ret
    rw [HF.out]
    exact ⟨rfl, HB.out⟩
  by_cases g4 : 1048576 < b
  · have HF := Lib.hid (show R = some (-1) by rw [HRR.out, decide_eq_false (by omega)]; rfl)
    go_wp2_with fail
    refine (fault_calls _ _).mono ?_
    rintro ev w1 ⟨rfl, rfl⟩
    go_wp2_with fail
    go_ret
    rw [HF.out]
    exact ⟨rfl, HB.out⟩
  by_cases g5 : (32 : Int) < (n : Int)
  · have HF := Lib.hid (show R = some (-1) by rw [HRR.out, decide_eq_false (by omega)]; rfl)
    go_wp2_with fail
    refine (fault_calls _ _).mono ?_
    rintro ev w1 ⟨rfl, rfl⟩
    go_wp2_with fail
    go_ret
    rw [HF.out]
    exact ⟨rfl, HB.out⟩
  have HF := Lib.hid (show checkGo c b [] 0 l = R by rw [HRR.out, decide_eq_true (by omega), if_pos rfl])
  clear HRR
  go_wp2_with fail
  clear g1 g2 g3 g4 g5
  generalize hw1 : World.alloc w _ = w1 at HX0 HB ⊢
  clear hw1
  go_loopg [33] n (fun gk iv wr => ∃ (k : Nat), gk + k = n ∧ iv = .int .i64 (k : Int) ∧ checkGo c b (l.take k) (k : Int) (l.drop k) = R ∧ (∀ p ∈ l.take k, mayS p = true) ∧ Below w1.heap.size w1 wr)
  case atStart => exact ⟨0, rfl, rfl, HF.out, by simp, Below.refl _ _⟩
  case round =>
    obtain ⟨k, hgk, rfl, hC, hP, hb⟩ := hrel
    have HBr := Lib.hid hb
    have HC := Lib.hid hC
    have HP := Lib.hid hP
    have HGK := Lib.hid hgk
    have HXr := Lib.hid (HX0.out.below hb)
    have k0 : (0 : Int) ≤ (k : Int) := by omega
    clear hb hC hP hgk
    by_cases hk : k < n
    rotate_left
    · have k1 : ¬ (k : Int) < (n : Int) := by omega
      have HF2 := Lib.hid (show R = none by
        have e := HC.out
        rw [List.drop_of_length_le (by have := HN.out; omega)] at e
        exact e.symm)
      have HB9 := Lib.hid (HB.out.trans (HBr.out.mono HB.out.size))
      clear hk
      go_wp2_with fail
      go_ret
      rw [HF2.out]
      exact ⟨rfl, HB9.out⟩
    have k1 : (k : Int) < (n : Int) := by omega
    have hkl : k < l.length := by have := HN.out; omega
    have HRr := Lib.hid ((HR.out.below HB.out).below HBr.out)
    obtain ⟨s, hs⟩ : ∃ s, s = l[k] := ⟨_, rfl⟩
    obtain ⟨rb, ro, hra, hrow⟩ := HRr.out.row k hkl
    subst hra
    rw [← hs] at hrow
    have HSO := Lib.hid (HO.out s (by rw [hs]; exact List.getElem_mem hkl))
    have HD := Lib.hid (show (if mayI c b s (l.take k) = true then checkGo c b (l.take (k + 1)) ((k : Int) + 1) (l.drop (k + 1)) else some (k : Int)) = R by
      rw [← HC.out, List.drop_eq_getElem_cons hkl, ← hs]
      conv => rhs; unfold checkGo
      rw [List.take_succ_eq_append_getElem hkl, ← hs])
    have HT := Lib.hid (show mayI c b s (l.take k) = true → ∀ p ∈ l.take (k + 1), mayS p = true from fun hm p hp => by
      rw [List.take_succ_eq_append_getElem hkl, ← hs] at hp
      rcases List.mem_append.1 hp with h | h
      · exact HP.out p h
      · rw [List.mem_singleton.1 h]; exact (mayI_iff.1 hm).may)
    have HKL := Lib.hid (show k = (l.take k).length by rw [List.length_take]; omega)
    have HROW := Lib.hid hrow
    have HK := Lib.hid hk
    have HCUT := Lib.hid (show ∀ w', Below wr.heap.size wr w' → RdS w' (.slice (some ⟨rb, ro, none⟩) k cap) (l.take k) from fun w' hb => by
      exact (HRr.out.below hb).cut k (by omega))
    clear hk hkl hs hrow HC
    go_wp2_with ((with_reducible refine wpList_load_k ?b0 56 (.tmp 36) ?b1 rb (ro + k * 12) ?b2 s.cells.toList _ HROW.out Tryd.underlying56 ?b3 ?b4 ?b8); (case b1 => rfl); (case b0 => rfl); (case b2 => rfl); (case b3 => rfl); (case b4 => kernel_rfl))
    intro cv hcv
    go_wp2_with ((with_reducible refine wpList_store_k ?a0 56 (.tmp 4) (.tmp 37) ?a1 wr.heap.size 0 s.cells.toList ?a2 cv ?a3 hcv ?a5 ?a6 ?a7 ?a8); (case a1 => rfl); (case a0 => rfl); (case a2 => rfl); (case a3 => rfl); (case a5 => exact thereZ _ _); (case a6 => kernel_rfl); (case a7 => exact SesM.oneS _))
    intro w3 hw3
    obtain ⟨hpx, hb3⟩ := putZ hw3
    have HPX := Lib.hid hpx.drew
    have HX3 := Lib.hid (HXr.out.below hb3).drew
    have HB3 := Lib.hid (show Below w1.heap.size w1 w3.drew from (HBr.out.trans (hb3.mono HBr.out.size)).drew)
    have HMC := Lib.hid (HMY.out s (some ⟨rb, ro, none⟩) k cap (l.take k) w3.drew HSO.out HKL.out (HCUT.out _ hb3.drew) HP.out)
    have c2 : w3.cell? ⟨w.heap.size, 2, none⟩ = some (.slice (some ⟨rb, ro, none⟩) n cap) := (HXr.out.below hb3).cell 2 _ rfl
    have HXR := Lib.hid (show w3.drew.rangeAt w.heap.size 0 [.int .i64 c, .int .i64 b, .slice (some ⟨rb, ro, none⟩) n cap] from fun j v hv => by rw [Nat.zero_add]; exact HX3.out.cell j v (by simpa using hv))
    have HCP := Lib.hid (show k ≤ cap by have := HCAP.out; have := HK.out; omega)
    clear hcv hw3 hpx hb3 HBr HXr HROW HRr HSO HCUT
    go_wp2_with fail
    go_still_tail 6, (by kernel_rfl)
    refine wpStill_load_k rfl 24 (.tmp 1) rfl w.heap.size 0 rfl _ _ HXR.out Tryd.underlying24 rfl (by kernel_rfl) ?_
    intro cs hcs
    have ecs : cs = #[.int .i64 c, .int .i64 b, .slice (some ⟨rb, ro, none⟩) n cap] := by rw [hcs.out]
    subst ecs
    clear hcs
    repeat still_step
    refine wpStill_load_k rfl 56 (.tmp 4) rfl wr.heap.size 0 rfl _ _ (Box.rangeS HPX.out) Tryd.underlying56 rfl (by kernel_rfl) ?_
    intro cp hcp
    have ecp : cp = s.cells := by rw [hcp.out]
    subst ecp
    clear hcp
    repeat still_step
    refine wpStill_slice rfl 22 (.tmp 41) (.tmp 42) rfl Tryd.underlying22 _ _ _ rfl rfl (headS _ n cap k HCP.out _) ?_
    repeat still_step
    refine wpStill_nil ?_
    change wpList _ _ _ _ _ w3.drew
    cases hm : mayI c b s (l.take k)
    · rw [hm, if_neg (by decide)] at HD
      rw [hm] at HMC
      clear hm
      go_wp2_with (go_at_call 30; refine HMC.out.mono ?_; rintro ev w4 ⟨rfl, hb4⟩)
      have HB9 := Lib.hid (HB.out.trans ((HB3.out.trans (hb4.mono HB3.out.size)).mono HB.out.size))
      clear hb4 HMC HXR HX3 HPX c2
      go_wp2_with fail
      refine (fault_calls _ _).mono ?_
      rintro ev w5 ⟨rfl, rfl⟩
      go_wp2_with fail
      go_ret
      rw [← HD.out]
      exact ⟨rfl, HB9.out⟩
    · rw [hm, if_pos rfl] at HD
      have HT2 := Lib.hid (HT.out hm)
      rw [hm] at HMC
      clear hm
      go_wp2_with (go_at_call 30; refine HMC.out.mono ?_; rintro ev w4 ⟨rfl, hb4⟩)
      have HB4 := Lib.hid (HB3.out.trans (hb4.mono HB3.out.size))
      clear hb4 HMC HXR HX3 HPX c2
      go_wp2_with fail
      go_roundg (n - (k + 1))
      case measure => have := HGK.out; have := HK.out; omega
      case rel => exact ⟨k + 1, by have := HGK.out; have := HK.out; omega, by go_num, HD.out, HT2.out, HB4.out⟩
end Go.Proofs.YtdaimaibnjkfbaaDoor
/-
  Package image: Encode.
-/
namespace Go.Proofs.YtdaimaibnjkfbaaDoor
open Go.RowKit
set_option maxRecDepth 100000

theorem numsB_le (ns : List Int) : (numsB ns).length ≤ 10 * ns.length := by
  induction ns with
  | nil => simp [numsB]
  | cons a l ih => have := numB_len a; simp only [numsB, List.flatMap_cons, List.length_append, List.length_cons] at ih ⊢; omega
set_option maxHeartbeats 1600000 in
theorem outInts_calls (B p r : Nat) (v0 : Value) (l0 : List UInt8) (ns : List Int) (w : World) (hw : IsW w B p v0 l0) (hr : Box w r (ns.map (fun n => Value.int .i64 n)).toArray 3)
    (hns : ∀ n ∈ ns, N63 n) (hrl : ¬ WF p v0 r) (hl0 : l0.length ≤ 100000) (hn : ns.length ≤ 100) (hB : B ≤ w.heap.size) :
    Calls Tryd.prog 37 #[.agg #[.pointer (some ⟨p, 0, none⟩)], .slice (some ⟨r, 0, none⟩) ns.length ns.length] w fun e w' => e = .returned (.tuple #[]) ∧ ∃ v', IsW w' B p v' (l0 ++ numsB ns) ∧ Mod (WF p v0) w w' ∧ Fresh w v0 v' := by
  have hb0 := below_alloc w (.cells #[.pointer (some ⟨p, 0, none⟩)] 72)
  have hq := Box.new w #[.pointer (some ⟨p, 0, none⟩)] 72
  have hql : ¬ WF p v0 w.heap.size := by
    have h1 := hw.box.lt
    rintro (e | e)
    · omega
    · have := (hw.own.lt _ e).2; omega
  have hw1 := hw.below hb0
  have hr1 := hr.below hb0
  have hm0 := Mod.of_below (F := WF p v0) hb0
  have hB1 : B ≤ (w.alloc (.cells #[.pointer (some ⟨p, 0, none⟩)] 72)).heap.size := Nat.le_trans hB hb0.size
  go_enter Tryd.func37, Tryd.ntmps37
  go_wp2_with fail
  generalize hwq : w.alloc (.cells #[.pointer (some ⟨p, 0, none⟩)] 72) = wa at hq hw1 hr1 hm0 hB1 ⊢
  have hfa : ∀ v', Fresh wa v0 v' → Fresh w v0 v' := fun v' h k hk => (h k hk).imp id (fun g => Nat.le_trans hm0.size g)
  have HFA := Lib.hid hfa
  have HM0 := Lib.hid hm0
  clear hwq hfa hm0 hb0 hw hr
  go_loopg [8] ns.length (fun gk iv wr => ∃ (k : Nat) (v1 : Value), gk + k = ns.length ∧ iv = .int .i64 (k : Int) ∧ IsW wr B p v1 (l0 ++ numsB (ns.take k)) ∧ Mod (WF p v0) wa wr ∧ Fresh wa v0 v1)
  case atStart => exact ⟨0, v0, rfl, rfl, by simpa [numsB] using hw1, Mod.refl _ _, Fresh.refl _ _⟩
  case round =>
    obtain ⟨k, v1, hgk, rfl, hW, hM, hF⟩ := hrel
    have hs := hM.size
    have HW := Lib.hid hW
    have HM := Lib.hid hM
    have HF := Lib.hid hF
    by_cases hk : k < ns.length
    · obtain ⟨n, hnn⟩ : ∃ n, n = ns[k] := ⟨_, rfl⟩
      have hz := mod_u64z (n := n) (hns n (by rw [hnn]; exact List.getElem_mem _))
      have Hn := Lib.hid (hns n (by rw [hnn]; exact List.getElem_mem _))
      have c0 : wr.cell? ⟨w.heap.size, 0, none⟩ = some (.pointer (some ⟨p, 0, none⟩)) := (hq.mod hM hql).cell 0 _ rfl
      have c1 : wr.cell? ⟨r, k, none⟩ = some (.int .i64 n) := (hr1.mod hM hrl).cell k _ (by simp [hk, hnn])
      have HT := Lib.hid (show numsB (ns.take (k + 1)) = numsB (ns.take k) ++ numB n from by rw [List.take_succ_eq_append_getElem hk, numsB_snoc, hnn])
      have HL := Lib.hid (show (l0 ++ numsB (ns.take k)).length ≤ 140737488350000 from by
        have h1 := numsB_le (ns.take k)
        have h2 : (ns.take k).length ≤ 100 := by rw [List.length_take]; omega
        rw [List.length_append]; omega)
      have k0 : (0 : Int) ≤ (k : Int) := by omega
      have k1 : (k : Int) < (ns.length : Int) := by omega
      have Hgk := Lib.hid hgk
      have Hk := Lib.hid hk
      clear hgk hnn hW hM hF hk
      go_wp2_with fail
      refine (wNumberZ_calls Hn.out B p v1 _ _ HW.out HL.out (by omega)).mono ?_
      rintro e w2 ⟨rfl, v2, s1, s2, s3⟩
      have HS1 := Lib.hid s1
      have HS2 := Lib.hid (WF.then HM.out HF.out s2)
      have HS3 := Lib.hid (HF.out.trans hs s3)
      clear s1 s2 s3 c0 c1
      go_wp2_with fail
      go_roundg (ns.length - (k + 1))
      case measure => have := Hgk.out; have := Hk.out; omega
      case rel => exact ⟨k + 1, v2, by have := Hgk.out; have := Hk.out; omega, by go_num, by rw [HT.out, ← List.append_assoc]; exact HS1.out, HS2.out, HS3.out⟩
    · have k1 : ¬ (k : Int) < (ns.length : Int) := by omega
      have ht : ns.take k = ns := List.take_of_length_le (by omega)
      rw [ht] at hW
      have HW2 := Lib.hid hW
      clear hgk hW hM hF ht HW
      go_wp2_with fail
      refine bodyPost_end (results_none rfl _ _ _) rfl ?_
      exact ⟨rfl, v1, HW2.out, HM0.out.trans HM.out, HFA.out v1 HF.out⟩
/-- What stands while fields are put: the writer, and boxes beside it. -/
structure WSt (w0 w : World) (p : Nat) (v : Value) (A : List UInt8) (xs : List (Nat × Array Value × TypeId)) : Prop where
  iw : IsW w w0.heap.size p v A
  bx : ∀ x ∈ xs, Box w x.1 x.2.1 x.2.2 ∧ ¬ WF p v x.1
  le : w0.heap.size ≤ p
  bel : Below w0.heap.size w0 w
theorem WSt.call {w0 w w' : World} {p : Nat} {v v' : Value} {A A' : List UInt8} {xs : List (Nat × Array Value × TypeId)} (h : WSt w0 w p v A xs) (hw : IsW w' w0.heap.size p v' A') (hm : Mod (WF p v) w w') (hf : Fresh w v v') : WSt w0 w' p v' A' xs := by
  refine ⟨hw, fun x hx => ?_, h.le, h.bel.trans (hm.below h.bel.size (fun i hi => ?_))⟩
  · obtain ⟨h1, h2⟩ := h.bx x hx
    refine ⟨h1.mod hm h2, ?_⟩
    have h3 := h1.lt
    rintro (e | e)
    · exact h2 (.inl e)
    · rcases hf _ e with e | e
      · exact h2 (.inr e)
      · omega
  · rcases hi with rfl | e
    · exact h.le
    · exact (h.iw.own.lt i e).1
theorem WSt.below {w0 w w' : World} {p : Nat} {v : Value} {A : List UInt8} {xs : List (Nat × Array Value × TypeId)} (h : WSt w0 w p v A xs) (hb : Below w.heap.size w w') : WSt w0 w' p v A xs :=
  ⟨h.iw.below hb, fun x hx => ⟨(h.bx x hx).1.below hb, (h.bx x hx).2⟩, h.le, h.bel.trans (hb.mono h.bel.size)⟩
theorem WSt.row {w0 w : World} {p : Nat} {v : Value} {A : List UInt8} {xs : List (Nat × Array Value × TypeId)} (h : WSt w0 w p v A xs) : ¬ WF p v w.heap.size := by
  have h1 := h.iw.box.lt
  rintro (e | e)
  · omega
  · have := (h.iw.own.lt _ e).2; omega
theorem WSt.push {w0 w w' : World} {p b : Nat} {v : Value} {A : List UInt8} {xs : List (Nat × Array Value × TypeId)} {cs : Array Value} {t : TypeId} (h : WSt w0 w p v A xs) (hb : Below w.heap.size w w') (e : b = w.heap.size) (hx : Box w' b cs t) : WSt w0 w' p v A ((b, cs, t) :: xs) := by
  subst e
  have h' := h.below hb
  refine ⟨h'.iw, fun x hx' => ?_, h'.le, h'.bel⟩
  rcases List.mem_cons.1 hx' with rfl | hx'
  · exact ⟨hx, h.row⟩
  · exact h'.bx x hx'
theorem WSt.drop {w0 w : World} {p : Nat} {v : Value} {A : List UInt8} {x : Nat × Array Value × TypeId} {xs : List (Nat × Array Value × TypeId)} (h : WSt w0 w p v A (x :: xs)) : WSt w0 w p v A xs := ⟨h.iw, fun y hy => h.bx y (by simp [hy]), h.le, h.bel⟩
theorem WSt.one {w0 w : World} {p : Nat} {v : Value} {A : List UInt8} {x : Nat × Array Value × TypeId} {xs : List (Nat × Array Value × TypeId)} (h : WSt w0 w p v A (x :: xs)) : Box w x.1 x.2.1 x.2.2 := (h.bx x (by simp)).1
theorem WSt.ints {w0 w : World} {p r : Nat} {v : Value} {A : List UInt8} {xs : List (Nat × Array Value × TypeId)} (h : WSt w0 w p v A xs) (hr : r = w.heap.size) (ns : List Int) (hns : ∀ n ∈ ns, N63 n) (hA : A.length ≤ 100000) (hn : ns.length ≤ 100) :
    Calls Tryd.prog 37 #[.agg #[.pointer (some ⟨p, 0, none⟩)], .slice (some ⟨r, 0, none⟩) ns.length ns.length] (w.alloc (.cells (ns.map (fun n => Value.int .i64 n)).toArray 3)) fun ev w' => ev = .returned (.tuple #[]) ∧ ∃ v', WSt w0 w' p v' (A ++ numsB ns) xs := by
  subst hr
  have h' := h.below (below_alloc w (.cells (ns.map (fun n => Value.int .i64 n)).toArray 3))
  refine (outInts_calls w0.heap.size p w.heap.size v A ns _ h'.iw (Box.new _ _ _) hns h.row hA hn h'.bel.size).mono ?_
  rintro ev w' ⟨rfl, v', s1, s2, s3⟩
  exact ⟨rfl, v', h'.call s1 s2 s3⟩
theorem WSt.text {w0 w : World} {p : Nat} {v : Value} {A : List UInt8} {xs : List (Nat × Array Value × TypeId)} (h : WSt w0 w p v A xs) (m : List UInt8) (hm : m.length ≤ 32) (hA : A.length ≤ 100000) :
    Calls Tryd.prog 38 #[.pointer (some ⟨p, 0, none⟩), .string (SB m)] w fun ev w' => ev = .returned (.tuple #[]) ∧ ∃ v', WSt w0 w' p v' (A ++ textB m) xs := by
  refine (wText_calls w0.heap.size p v A m w h.iw (by omega) (by omega) h.bel.size).mono ?_
  rintro ev w' ⟨rfl, v', s1, s2, s3⟩
  exact ⟨rfl, v', h.call s1 s2 s3⟩
theorem WSt.number {w0 w : World} {p : Nat} {v : Value} {A : List UInt8} {xs : List (Nat × Array Value × TypeId)} (h : WSt w0 w p v A xs) (n : Nat) (hn : n < 2 ^ 64) (hA : A.length ≤ 100000) :
    Calls Tryd.prog 39 #[.pointer (some ⟨p, 0, none⟩), .int .u64 (n : Int)] w fun ev w' => ev = .returned (.tuple #[]) ∧ ∃ v', WSt w0 w' p v' (A ++ sevM n) xs := by
  refine (wNumber_calls w0.heap.size p v A n w h.iw hn (by omega) h.bel.size).mono ?_
  rintro ev w' ⟨rfl, v', s1, s2, s3⟩
  exact ⟨rfl, v', h.call s1 s2 s3⟩
/-- A state's bytes. -/
def imgB (st : StM) : List UInt8 := numsB [st.clock, st.births, (st.l.length : Int)] ++ st.l.flatMap (sesOn [])
def imgM (st : StM) : List UInt8 := if checkM st = none then imgB st else []
def imgN (st : StM) : Int := if checkM st = none then 0 else 24
theorem sesOn_parts (q : SesM) : sesOn [] q = (((numsB [q.slot, q.birth, q.upS, q.upB, q.kind] ++ textB q.user) ++ textB q.label) ++ sevM q.scopes) ++ numsB [q.level, q.born, q.deadline, q.depth] := by
  unfold sesOn numsB; simp
theorem sesOn_len {q : SesM} (h : mayS q = true) : (sesOn [] q).length ≤ 200 := by
  have hs := SesN.of h
  unfold sesOn
  have h1 := fun n => numB_len n
  have h2 := fun n => sevM_len n
  have h3 := textB_len hs.user
  have h4 := textB_len hs.label
  simp only [List.length_append, List.length_nil]
  have := h1 q.slot; have := h1 q.birth; have := h1 q.upS; have := h1 q.upB; have := h1 q.kind; have := h2 q.scopes; have := h1 q.level; have := h1 q.born; have := h1 q.deadline; have := h1 q.depth
  omega
theorem sesOns_len : ∀ {l : List SesM}, (∀ s ∈ l, mayS s = true) → (l.flatMap (sesOn [])).length ≤ 200 * l.length
  | [], _ => by simp
  | s :: l, h => by
    have h1 := sesOn_len (h s (by simp))
    have h2 := sesOns_len (l := l) (fun q hq => h q (by simp [hq]))
    rw [List.flatMap_cons, List.length_append, List.length_cons]; omega
theorem numB_len3 (a b c : Int) : (numsB [a, b, c]).length ≤ 30 := numsB_le [a, b, c]
/-- What a state that may be says of its parts. -/
theorem check_parts {st : StM} (h : checkM st = none) : N63 st.clock ∧ N63 st.births ∧ st.l.length ≤ 32 ∧ ∀ s ∈ st.l, mayS s = true := by
  rw [checkM_none] at h
  obtain ⟨h1, h2⟩ := h
  unfold boundsM at h1
  simp only [Bool.and_eq_true, decide_eq_true_eq] at h1
  refine ⟨.of h1.1 (by omega) (by omega), .of h1.2.1 (by omega) (by omega), h1.2.2, fun s hs => ?_⟩
  obtain ⟨i, hi, rfl⟩ := List.getElem_of_mem hs
  exact (mayI_iff.1 (h2 i hi)).may
theorem imgB_len {st : StM} (h : checkM st = none) : (imgB st).length ≤ 7000 := by
  obtain ⟨_, _, h3, h4⟩ := check_parts h
  have h5 := sesOns_len h4
  have := numB_len3 st.clock st.births st.l.length
  unfold imgB
  rw [List.length_append]; omega
set_option maxHeartbeats 12800000 in
theorem encImg_calls (st : StM) (v : Value) (w : World) (hr : RdS w v st.l) (ho : ∀ s ∈ st.l, SesOk s) :
    Calls Tryd.prog 14 #[.agg #[.int .i64 st.clock, .int .i64 st.births, v]] w fun ev w' => ∃ o, ev = .returned (.tuple #[o, errV (imgN st)]) ∧ OwnM w' w.heap.size 5 o (imgM st).length ((imgM st).map V8) ∧ Below w.heap.size w w' := by
  obtain ⟨a, cap, rfl, hc1, hc2⟩ := hr.slice
  have HCK := Lib.hid (fun w' hb => check_calls st (.slice a st.l.length cap) w' (hr.below hb) ho)
  have HR := Lib.hid hr
  have HO := Lib.hid ho
  have HX0 := Lib.hid (Box.new w #[.int .i64 st.clock, .int .i64 st.births, .slice a st.l.length cap] 24)
  have HB := Lib.hid (below_alloc w (.cells #[.int .i64 st.clock, .int .i64 st.births, .slice a st.l.length cap] 24))
  have hln : st.l.length ≤ 9223372036854775807 := by omega
  clear hr ho hc1
  go_enter Tryd.func14, Tryd.ntmps14
  go_wp2_with fail
  refine (HCK.out _ HB.out).mono ?_
  rintro ev w1 ⟨rfl, hb1⟩
  have HB1 := Lib.hid (HB.out.trans (hb1.mono HB.out.size))
  have HX1 := Lib.hid (HX0.out.below hb1)
  clear hb1 HB HX0 HCK
  cases hck : checkM st with
  | some n =>
    have H1 := Lib.hid (show imgM st = [] by unfold imgM; rw [hck]; rfl)
    have H2 := Lib.hid (show imgN st = 24 by unfold imgN; rw [hck]; rfl)
    rw [show chkV (some n) = .iface 78 (.agg #[.int .i64 24, .int .i64 n]) from rfl]
    clear hck
    go_wp2_with fail
    refine bodyPost_ret (results_tmp2 rfl _ _ _) rfl ?_
    rw [H1.out, H2.out]
    exact ⟨_, rfl, OwnM.nil _ _ _, HB1.out⟩
  | none =>
  have H1 := Lib.hid (show imgM st = imgB st by unfold imgM; rw [hck]; rfl)
  have H2 := Lib.hid (show imgN st = 0 by unfold imgN; rw [hck]; rfl)
  have HPA := Lib.hid (check_parts hck)
  have HLB := Lib.hid (imgB_len hck)
  rw [show chkV none = .nilIface from rfl]
  clear hck
  go_wp2_with fail
  refine (new_calls w1).mono ?_
  rintro ev w2 ⟨rfl, hiw, hb2⟩
  have HX2 := Lib.hid (HX1.out.below hb2)
  have HB2 := Lib.hid (HB1.out.trans (hb2.mono HB1.out.size))
  have HIW := Lib.hid hiw
  have hlt1 : w1.heap.size < w2.heap.size := hiw.box.lt
  have hlt0 : w.heap.size < w1.heap.size := HX1.out.lt
  clear hb2 hiw HX1
  go_wp2_with fail
  go_region
  have hst : WSt w (w2.alloc (.cells #[.pointer (some ⟨w1.heap.size, 0, none⟩)] 72)) w1.heap.size (.slice none 0 0) [] [(w2.heap.size, #[.pointer (some ⟨w1.heap.size, 0, none⟩)], 72), (w.heap.size, #[.int .i64 st.clock, .int .i64 st.births, .slice a st.l.length cap], 24)] := by
    refine WSt.push (w := w2) ⟨⟨HIW.out.box, OwnM.nil _ _ _, HIW.out.ne⟩, fun x hx => ?_, HB1.out.size, HB2.out⟩ (below_alloc _ _) rfl (Box.new _ _ _)
    rw [List.mem_singleton.1 hx]
    exact ⟨HX2.out, wf_nil (by show w.heap.size ≠ w1.heap.size; omega)⟩
  have HST := Lib.hid (hst.below (below_drew _))
  clear hst HX2 HIW
  generalize hw3 : World.drew _ = w3 at HST ⊢
  clear hw3
  have c0 : w3.cell? ⟨w.heap.size, 0, none⟩ = some (.int .i64 st.clock) := HST.out.drop.one.cell 0 _ rfl
  have c1 : w3.cell? ⟨w.heap.size, 1, none⟩ = some (.int .i64 st.births) := HST.out.drop.one.cell 1 _ rfl
  have c2 : w3.cell? ⟨w.heap.size, 2, none⟩ = some (.slice a st.l.length cap) := HST.out.drop.one.cell 2 _ rfl
  have HC := Lib.hid (HST.out.ints rfl [st.clock, st.births, (st.l.length : Int)] (fun n hn => by
      simp only [List.mem_cons, List.not_mem_nil, or_false] at hn
      rcases hn with rfl | rfl | rfl
      · exact HPA.out.1
      · exact HPA.out.2.1
      · exact ⟨by omega, by have := HPA.out.2.2.1; omega⟩) (by simp) (by simp))
  clear HST hlt0 hlt1
  go_wp2_with fail
  refine HC.out.mono ?_
  rintro ev w4 ⟨rfl, v4, hst4⟩
  have HS4 := Lib.hid hst4
  have c2 : w4.cell? ⟨w.heap.size, 2, none⟩ = some (.slice a st.l.length cap) := hst4.drop.one.cell 2 _ rfl
  clear hst4 c0 c1 HC
  go_wp2_with fail
  clear c2
  obtain ⟨n, hn⟩ : ∃ n, n = st.l.length := ⟨_, rfl⟩
  have HN := Lib.hid hn
  have hn2 : n ≤ 9223372036854775807 := by omega
  obtain ⟨A0, hA0⟩ : ∃ A0, A0 = [] ++ numsB [st.clock, st.births, (st.l.length : Int)] := ⟨_, rfl⟩
  rw [← hA0] at HS4
  have HA := Lib.hid (show A0.length ≤ 30 by rw [hA0, List.nil_append]; exact numB_len3 _ _ _)
  have HEQ := Lib.hid (show imgB st = A0 ++ st.l.flatMap (sesOn []) by unfold imgB; rw [hA0]; rfl)
  have HLS := Lib.hid (fun k => show (A0 ++ (st.l.take k).flatMap (sesOn [])).length ≤ 7000 by
    have h1 := HA.out
    have h2 := sesOns_len (l := st.l.take k) (fun s hs => HPA.out.2.2.2 s (List.mem_of_mem_take hs))
    have h3 := HPA.out.2.2.1
    rw [List.length_take] at h2
    rw [List.length_append]; omega)
  rw [← hn] at HS4 ⊢
  clear hA0 hn hln
  generalize hxs : (w2.heap.size, (#[.pointer (some ⟨w1.heap.size, 0, none⟩)] : Array Value), 72) = x1 at HS4
  generalize hys : (w.heap.size, (#[.int .i64 st.clock, .int .i64 st.births, .slice a n cap] : Array Value), 24) = x2 at HS4
  have hxo : ∀ (w' : World) (v : Value) (A : List UInt8), WSt w w' w1.heap.size v A [x1, x2] → w'.cell? ⟨w2.heap.size, 0, none⟩ = some (.pointer (some ⟨w1.heap.size, 0, none⟩)) := fun _ _ _ h => by have := h.one; rw [← hxs] at this; exact this.cell 0 _ rfl
  have HXO := Lib.hid hxo
  clear hxs hys hxo
  go_loopg [37] n (fun gk iv wr => ∃ (k : Nat) (v1 : Value), gk + k = n ∧ iv = .int .i64 (k : Int) ∧ WSt w wr w1.heap.size v1 (A0 ++ (st.l.take k).flatMap (sesOn [])) [x1, x2])
  case atStart => exact ⟨0, v4, by omega, rfl, by have := HS4.out; simpa using this⟩
  case round =>
    obtain ⟨k, v1, hgk, rfl, hst⟩ := hrel
    have HST := Lib.hid hst
    have HGK := Lib.hid hgk
    have k0 : (0 : Int) ≤ (k : Int) := by omega
    clear hst hgk HS4
    by_cases hk : k < n
    rotate_left
    · have k1 : ¬ (k : Int) < (n : Int) := by omega
      have hT := HST.out
      rw [List.take_of_length_le (by have := HN.out; omega), ← HEQ.out] at hT
      have HT := Lib.hid hT
      have c0 := HXO.out _ _ _ hT
      clear hk hT HST
      go_wp2_with fail
      refine (wBytes_calls w.heap.size w1.heap.size _ _ _ HT.out.iw (by have := HLB.out; omega)).mono ?_
      rintro ev w9 ⟨o9, rfl, ho9, hb9⟩
      have HO9 := Lib.hid (ho9.lower HT.out.bel.size)
      have HB9 := Lib.hid (HT.out.bel.trans (hb9.mono HT.out.bel.size))
      clear ho9 hb9 c0
      go_wp2_with fail
      refine bodyPost_ret (results_tmp2 rfl _ _ _) rfl ?_
      rw [H1.out, H2.out]
      exact ⟨_, rfl, HO9.out, HB9.out⟩
    have k1 : (k : Int) < (n : Int) := by omega
    have hkl : k < st.l.length := by have := HN.out; omega
    have HRr := Lib.hid (HR.out.below HST.out.bel)
    obtain ⟨s, hs⟩ : ∃ s, s = st.l[k] := ⟨_, rfl⟩
    obtain ⟨rb, ro, hra, hrow⟩ := HRr.out.row k hkl
    subst hra
    rw [← hs] at hrow
    have HSN := Lib.hid (SesN.of (HPA.out.2.2.2 s (by rw [hs]; exact List.getElem_mem hkl)))
    have HSO := Lib.hid (HO.out s (by rw [hs]; exact List.getElem_mem hkl))
    have HTK := Lib.hid (show A0 ++ (st.l.take (k + 1)).flatMap (sesOn []) = ((((A0 ++ (st.l.take k).flatMap (sesOn [])) ++ numsB [s.slot, s.birth, s.upS, s.upB, s.kind]) ++ textB s.user) ++ textB s.label) ++ sevM s.scopes ++ numsB [s.level, s.born, s.deadline, s.depth] by
      rw [List.take_succ_eq_append_getElem hkl, List.flatMap_append, ← hs]
      simp only [List.flatMap_cons, List.flatMap_nil, List.append_nil]
      rw [sesOn_parts]; simp only [List.append_assoc])
    generalize hAk : A0 ++ (st.l.take k).flatMap (sesOn []) = Ak at HST HTK
    have hl1 := HLS.out (k + 1)
    rw [HTK.out] at hl1
    simp only [List.length_append] at hl1
    have HL1 := Lib.hid hl1
    have HROW := Lib.hid hrow
    have HK := Lib.hid hk
    clear hk hkl hs hrow hl1 hAk
    go_wp2_with ((with_reducible refine wpList_load_k ?b0 56 (.tmp 39) ?b1 rb (ro + k * 12) ?b2 s.cells.toList _ HROW.out Tryd.underlying56 ?b3 ?b4 ?b8); (case b1 => rfl); (case b0 => rfl); (case b2 => rfl); (case b3 => rfl); (case b4 => kernel_rfl))
    intro cv hcv
    go_wp2_with ((with_reducible refine wpList_store_k ?a0 56 (.tmp 9) (.tmp 40) ?a1 wr.heap.size 0 s.cells.toList ?a2 cv ?a3 hcv ?a5 ?a6 ?a7 ?a8); (case a1 => rfl); (case a0 => rfl); (case a2 => rfl); (case a3 => rfl); (case a5 => exact thereZ _ _); (case a6 => kernel_rfl); (case a7 => exact SesM.oneS _))
    intro w5 hw5
    obtain ⟨hpx, hb5⟩ := putZ hw5
    have HS5 := Lib.hid (HST.out.push hb5 rfl hpx)
    clear hcv hw5 hpx hb5 HST HROW HRr
    have c0 : w5.cell? ⟨wr.heap.size, 0, none⟩ = some (.int .i64 s.slot) := HS5.out.one.cell 0 _ rfl
    have c1 : w5.cell? ⟨wr.heap.size, 1, none⟩ = some (.int .i64 s.birth) := HS5.out.one.cell 1 _ rfl
    have c2 : w5.cell? ⟨wr.heap.size, 2, none⟩ = some (.int .i64 s.upS) := HS5.out.one.cell 2 _ rfl
    have c3 : w5.cell? ⟨wr.heap.size, 3, none⟩ = some (.int .i64 s.upB) := HS5.out.one.cell 3 _ rfl
    have c4 : w5.cell? ⟨wr.heap.size, 4, none⟩ = some (.int .i64 s.kind) := HS5.out.one.cell 4 _ rfl
    have HC := Lib.hid (HS5.out.ints rfl [s.slot, s.birth, s.upS, s.upB, s.kind] (fun n hn => by
      simp only [List.mem_cons, List.not_mem_nil, or_false] at hn
      rcases hn with rfl | rfl | rfl | rfl | rfl
      · exact HSN.out.slot
      · exact HSN.out.birth
      · exact HSN.out.upS
      · exact HSN.out.upB
      · exact HSN.out.kind) (by have := HL1.out; (try simp only [List.length_append]); omega) (by simp))
    go_wp2_with fail
    refine HC.out.mono ?_
    rintro ev w6 ⟨rfl, v6, hst⟩
    have HS6 := Lib.hid hst
    clear hst HC HS5 c0 c1 c2 c3 c4
    have c5 : w6.cell? ⟨wr.heap.size, 5, none⟩ = some (.string (SB s.user)) := HS6.out.one.cell 5 _ rfl
    have HC := Lib.hid (HS6.out.text s.user HSN.out.user (by have := HL1.out; (try simp only [List.length_append]); omega))
    go_wp2_with fail
    refine HC.out.mono ?_
    rintro ev w7 ⟨rfl, v7, hst⟩
    have HS7 := Lib.hid hst
    clear hst HC HS6 c5
    have c6 : w7.cell? ⟨wr.heap.size, 6, none⟩ = some (.string (SB s.label)) := HS7.out.one.cell 6 _ rfl
    have HC := Lib.hid (HS7.out.text s.label HSN.out.label (by have := HL1.out; (try simp only [List.length_append]); omega))
    go_wp2_with fail
    refine HC.out.mono ?_
    rintro ev w8 ⟨rfl, v8, hst⟩
    have HS8 := Lib.hid hst
    clear hst HC HS7 c6
    have c7 : w8.cell? ⟨wr.heap.size, 7, none⟩ = some (.int .u64 (s.scopes : Int)) := HS8.out.one.cell 7 _ rfl
    have HC := Lib.hid (HS8.out.number s.scopes HSO.out.scopes (by have := HL1.out; (try simp only [List.length_append]); omega))
    go_wp2_with fail
    refine HC.out.mono ?_
    rintro ev w9 ⟨rfl, v9, hst⟩
    have HS9 := Lib.hid hst
    clear hst HC HS8 c7
    have c8 : w9.cell? ⟨wr.heap.size, 8, none⟩ = some (.int .i64 s.level) := HS9.out.one.cell 8 _ rfl
    have c9 : w9.cell? ⟨wr.heap.size, 9, none⟩ = some (.int .i64 s.born) := HS9.out.one.cell 9 _ rfl
    have c10 : w9.cell? ⟨wr.heap.size, 10, none⟩ = some (.int .i64 s.deadline) := HS9.out.one.cell 10 _ rfl
    have c11 : w9.cell? ⟨wr.heap.size, 11, none⟩ = some (.int .i64 s.depth) := HS9.out.one.cell 11 _ rfl
    have HC := Lib.hid (HS9.out.ints rfl [s.level, s.born, s.deadline, s.depth] (fun n hn => by
      simp only [List.mem_cons, List.not_mem_nil, or_false] at hn
      rcases hn with rfl | rfl | rfl | rfl
      · exact HSN.out.level
      · exact HSN.out.born
      · exact HSN.out.deadline
      · exact HSN.out.depth) (by have := HL1.out; (try simp only [List.length_append]); omega) (by simp))
    go_wp2_with fail
    refine HC.out.mono ?_
    rintro ev w10 ⟨rfl, v10, hst⟩
    have HS10 := Lib.hid hst
    clear hst HC HS9 c8 c9 c10 c11
    have HS11 := Lib.hid HS10.out.drop
    clear HS10
    go_wp2_with fail
    go_roundg (n - (k + 1))
    case measure => have := HGK.out; have := HK.out; omega
    case rel => exact ⟨k + 1, v10, by have := HGK.out; have := HK.out; omega, by go_num, by rw [HTK.out]; exact HS11.out⟩
end Go.Proofs.YtdaimaibnjkfbaaDoor
/-
  What bytes tell: a state, or an error.
-/
namespace Go.Proofs.YtdaimaibnjkfbaaDoor
open Go.RowKit
set_option maxRecDepth 100000

/-- So many sessions, taken one behind the other. -/
def sesTs : Nat → TkM → List SesM × TkM
  | 0, s => ([], s)
  | n + 1, s => ((bornM s).1 :: (sesTs n (bornM s).2).1, (sesTs n (bornM s).2).2)
def finI (s : TkM) (st : StM) : Int × StM := if s.er = 0 then (if s.k < s.l.length then (3, noSt) else if s.big = true then (24, noSt) else if checkM st = none then (0, st) else (24, noSt)) else (s.er, noSt)
def decI (l : List UInt8) : Int × StM :=
  let c := (⟨l, 0, 0, false⟩ : TkM).int
  let b := c.2.int
  let p := b.2.num
  if p.2.er = 0 ∧ 32 < p.1 then (24, noSt) else finI (sesTs p.1 p.2).2 ⟨c.1, b.1, (sesTs p.1 p.2).1⟩
theorem sesTs_snoc : ∀ (n : Nat) (s : TkM), sesTs (n + 1) s = ((sesTs n s).1 ++ [(bornM (sesTs n s).2).1], (bornM (sesTs n s).2).2)
  | 0, s => rfl
  | n + 1, s => by
    have ih := sesTs_snoc n (bornM s).2
    show ((bornM s).1 :: (sesTs (n + 1) (bornM s).2).1, (sesTs (n + 1) (bornM s).2).2) = _
    rw [ih]
    rfl
theorem sesTs_len : ∀ (n : Nat) (s : TkM), (sesTs n s).1.length = n
  | 0, _ => rfl
  | n + 1, s => by show ((sesTs n (bornM s).2).1).length + 1 = n + 1; rw [sesTs_len n]
theorem num_er0 {s : TkM} (h : s.er ≠ 0) : s.num = (0, s) := by unfold TkM.num; rw [if_neg h]
theorem decI_cnt {l : List UInt8} (h : ¬ (((⟨l, 0, 0, false⟩ : TkM).int.2.int.2.num).2.er = 0 ∧ 32 < ((⟨l, 0, 0, false⟩ : TkM).int.2.int.2.num).1)) : ((⟨l, 0, 0, false⟩ : TkM).int.2.int.2.num).1 ≤ 32 := by
  generalize (⟨l, 0, 0, false⟩ : TkM).int.2.int.2 = s at h ⊢
  by_cases he : s.num.2.er = 0
  · rcases Nat.lt_or_ge 32 s.num.1 with h1 | h1
    · exact absurd ⟨he, h1⟩ h
    · exact h1
  · unfold TkM.num at he ⊢
    split
    · rename_i h0
      rw [if_pos h0] at he
      split
      · rename_i h1; rw [if_pos h1] at he; exact absurd rfl he
      · exact Nat.zero_le _
    · exact Nat.zero_le _
end Go.Proofs.YtdaimaibnjkfbaaDoor
