/-
  Texts of one proof, one behind the other.
-/
import Derived.Test.YtgcnolapjppbpaaGreatDoorK22
import Derived.Test.YtgcnolapjppbpaaGreatDoorK21
import Derived.BigQuiet
namespace Go.Proofs.YtgcnolapjppbpaaGreatDoor
open Go.RowKit
set_option maxRecDepth 100000
theorem mayE_birth (s : SesM) : mayE ⟨0, s, 0, 0⟩ = mayS s := by simp [mayE]
set_option maxHeartbeats 1600000 in
theorem alone_calls (s : SesM) (w : World) (ho : SesOk s) :
    Calls Tryz.prog 165 #[.agg s.cells] w fun ev w' => ev = .returned (.bool (mayS s)) ∧ Below w.heap.size w w' := by
  have Hen := Lib.hid (fun w => enc_calls ⟨0, s, 0, 0⟩ w ho.user ho.label ho.scopes)
  have hEC : EvtM.cells ⟨0, s, 0, 0⟩ = #[.int .i64 0, .int .i64 s.slot, .int .i64 s.birth, .int .i64 s.upS, .int .i64 s.upB, .int .i64 s.kind, .string (SB s.user), .string (SB s.label), .int .u64 (s.scopes : Int), .int .i64 s.level, .int .i64 s.born, .int .i64 s.deadline, .int .i64 s.depth, .int .i64 0, .int .i64 0] := rfl
  have HB0 := Lib.hid (below_alloc w (.cells s.cells 45))
  have hn : encN ⟨0, s, 0, 0⟩ = if mayS s = true then 0 else 1 := by unfold encN; rw [mayE_birth]
  rw [hEC, hn] at Hen
  generalize mayS s = m at Hen ⊢
  rw [show s.cells = #[.int .i64 s.slot, .int .i64 s.birth, .int .i64 s.upS, .int .i64 s.upB, .int .i64 s.kind, .string (SB s.user), .string (SB s.label), .int .u64 (s.scopes : Int), .int .i64 s.level, .int .i64 s.born, .int .i64 s.deadline, .int .i64 s.depth] from rfl] at HB0 ⊢
  clear hEC hn ho
  go_enter Tryz.func165, Tryz.ntmps165
  go_wp2_with fail
  refine (Hen.out _).mono ?_
  rintro ev w1 ⟨o, rfl, ho, hb1⟩
  have HB1 := Lib.hid (HB0.out.trans (hb1.mono (by simp)))
  obtain ⟨oa, oc, rfl, _⟩ := ho.slice
  clear ho hb1 Hen
  cases m
  · rw [show errV (if false = true then 0 else 1) = .iface 91 (.int .i64 1) from rfl]
    go_wp2_with fail
    go_ret
    exact ⟨rfl, HB1.out⟩
  · rw [show errV (if true = true then 0 else 1) = .nilIface from rfl]
    go_wp2_with fail
    go_ret
    exact ⟨rfl, HB1.out⟩
theorem mayS_depth {s : SesM} (h : mayS s = true) : 0 ≤ s.depth ∧ s.depth ≤ 6 := by
  unfold mayS at h
  simp only [Bool.and_eq_true] at h
  obtain ⟨h1, h2, h3, h4, h5, h6, h7⟩ := h
  have hc : childM s = true → 0 ≤ s.depth ∧ s.depth ≤ 6 := fun hc => by
    unfold childM at hc
    simp only [Bool.and_eq_true] at hc
    have := fromM_yes hc.2.2.2; omega
  split at h7
  · unfold loginM at h7
    simp only [Bool.and_eq_true, beq_iff_eq] at h7
    omega
  split at h7
  · exact hc h7
  split at h7
  · rw [Bool.and_eq_true] at h7; exact hc h7.1
  · cases h7
set_option maxHeartbeats 3200000 in
theorem below_calls (s p : SesM) (w : World) (hd : 0 ≤ p.depth ∧ p.depth ≤ 6) :
    Calls Tryz.prog 166 #[.agg s.cells, .agg p.cells] w fun ev w' => ev = .returned (.bool (belowM s p)) ∧ Below w.heap.size w w' := by
  have hHB : ∀ o o2, Below w.heap.size w ((w.alloc o).alloc o2) := fun o o2 => below_two w o o2
  have HB := Lib.hid hHB
  have Hm := Lib.hid (show ∀ b, belowM s p = b → b = belowM s p from fun _ h => h.symm)
  obtain ⟨d0, d6⟩ := hd
  have hz := (show IntKind.i64.wrap (p.depth + 1) = p.depth + 1 by simp [IntKind.wrap, IntKind.bits, IntKind.signed]; omega)
  unfold SesM.cells
  clear hHB
  go_enter Tryz.func166, Tryz.ntmps166
  cases h1 : (s.depth == p.depth + 1)
  · have h1' : (s.depth != p.depth + 1) = true := by rw [bne, h1]; rfl
    go_wp2_with fail
    go_ret
    exact ⟨ret_eq (congrArg Value.bool (Hm.out _ (by unfold belowM; rw [h1]; rfl))), HB.out _ _⟩
  have h1' : (s.depth != p.depth + 1) = false := by rw [bne, h1]; rfl
  cases h2 : (s.user == p.user)
  · have h2' : ((SB s.user).toList == (SB p.user).toList) = false := by rw [SB_toList, SB_toList]; exact h2
    have h2'' : ((SB s.user).toList != (SB p.user).toList) = true := by rw [bne, h2']; rfl
    go_wp2_with fail
    go_ret
    exact ⟨ret_eq (congrArg Value.bool (Hm.out _ (by unfold belowM; rw [h1, h2]; rfl))), HB.out _ _⟩
  have h2' : ((SB s.user).toList == (SB p.user).toList) = true := by rw [SB_toList, SB_toList]; exact h2
  have h2'' : ((SB s.user).toList != (SB p.user).toList) = false := by rw [bne, h2']; rfl
  by_cases h3 : s.deadline ≤ p.deadline
  rotate_left
  · have h3' : p.deadline < s.deadline := by omega
    have H3 := Lib.hid h3
    clear h3
    go_wp2_with fail
    go_ret
    exact ⟨ret_eq (congrArg Value.bool (Hm.out _ (by unfold belowM; rw [h1, h2, decide_eq_false (show ¬ s.deadline ≤ p.deadline from by have := H3.out; omega)]; rfl))), HB.out _ _⟩
  have h3' : ¬ p.deadline < s.deadline := by omega
  have H3 := Lib.hid h3
  clear h3
  cases h4 : scIn s.scopes p.scopes
  · have h4' := h4
    unfold scIn at h4'
    have h4'' : (bits .andNot .u64 (s.scopes : Int) (p.scopes : Int) != 0) = true := by rw [bne, h4']; rfl
    go_wp2_with fail
    go_ret
    exact ⟨ret_eq (congrArg Value.bool (Hm.out _ (by unfold belowM; rw [h1, h2, decide_eq_true (show s.deadline ≤ p.deadline from by have := H3.out; omega), h4]; rfl))), HB.out _ _⟩
  have h4' := h4
  unfold scIn at h4'
  have h4'' : (bits .andNot .u64 (s.scopes : Int) (p.scopes : Int) != 0) = false := by rw [bne, h4']; rfl
  go_wp2_with fail
  go_ret
  exact ⟨ret_eq (congrArg Value.bool (Hm.out _ (by unfold belowM; rw [h1, h2, decide_eq_true (show s.deadline ≤ p.deadline from by have := H3.out; omega), h4]; rfl))), HB.out _ _⟩
theorem fault_calls (n : Int) (w : World) : Calls Tryz.prog 134 #[.int .i64 n] w fun ev w' => ev = .returned (.iface 99 (.agg #[.int .i64 24, .int .i64 n])) ∧ w' = w := by
  go_enter Tryz.func134, Tryz.ntmps134
  go_wp2
  go_ret
  exact ⟨rfl, rfl⟩
theorem run_eqlL (a b c d : Int) (w : World) : (binOp .eql 41 (.agg #[.int .i64 a, .int .i64 b]) (.agg #[.int .i64 c, .int .i64 d])).run Tryz.prog w = .ok (.bool ((a == c) && (b == d))) w := by
  go_simp
  refine ite_step (Value.bool) bdec rfl ?_
  exact ite_last (Value.bool) bdec rfl rfl
set_option maxHeartbeats 6400000 in
theorem may_calls (c b : Int) (v : Value) (s : SesM) (a : Option Addr) (n cap : Nat) (l : List SesM) (w : World) (hs : SesOk s) (hn : n = l.length) (hr : RdS w (.slice a n cap) l) (hp : ∀ p ∈ l, mayS p = true) :
    Calls Tryz.prog 135 #[.agg #[.int .i64 c, .int .i64 b, v], .agg s.cells, .slice a n cap] w fun ev w' => ev = .returned (.bool (mayI c b s l)) ∧ Below w.heap.size w w' := by
  obtain ⟨M, hM⟩ : ∃ M, M = mayI c b s l := ⟨_, rfl⟩
  rw [← hM]
  unfold mayI at hM
  have HM := Lib.hid hM
  have Hal := Lib.hid (fun w => alone_calls s w hs)
  have HR := Lib.hid hr
  have HP := Lib.hid hp
  have HX0 := Lib.hid (Box.new w #[.int .i64 c, .int .i64 b, v] 30)
  have HX1 := Lib.hid (Box.new (w.alloc (.cells #[.int .i64 c, .int .i64 b, v] 30)) s.cells 45)
  have HB := Lib.hid (below_two w (.cells #[.int .i64 c, .int .i64 b, v] 30) (.cells s.cells 45))
  have hln : n ≤ 9223372036854775807 := by obtain ⟨_, _, e, h5, h6, _⟩ := hr; omega
  have HN := Lib.hid hn
  have HSC := Lib.hid (show s.cells = #[.int .i64 s.slot, .int .i64 s.birth, .int .i64 s.upS, .int .i64 s.upB, .int .i64 s.kind, .string (SB s.user), .string (SB s.label), .int .u64 (s.scopes : Int), .int .i64 s.level, .int .i64 s.born, .int .i64 s.deadline, .int .i64 s.depth] from rfl)
  rw [HSC.out] at HX1 HB Hal ⊢
  clear hs hr hp hM hn
  go_enter Tryz.func135, Tryz.ntmps135
  go_wp2_with fail
  refine (Hal.out _).mono ?_
  rintro ev w1 ⟨rfl, hb1⟩
  have hx0 := (HX0.out.below (below_alloc _ (.cells #[.int .i64 s.slot, .int .i64 s.birth, .int .i64 s.upS, .int .i64 s.upB, .int .i64 s.kind, .string (SB s.user), .string (SB s.label), .int .u64 (s.scopes : Int), .int .i64 s.level, .int .i64 s.born, .int .i64 s.deadline, .int .i64 s.depth] 45))).below hb1
  have hx1 := HX1.out.below hb1
  rw [World.size_alloc] at hx1
  have HBq := Lib.hid (HB.out.trans (hb1.mono HB.out.size))
  have HX0 := Lib.hid hx0
  have HX1 := Lib.hid hx1
  clear hb1 HB Hal
  have c0 := hx0.cell 0 _ rfl
  have c1 := hx0.cell 1 _ rfl
  have x0 := hx1.cell 0 _ rfl
  have x1 := hx1.cell 1 _ rfl
  have x2 := hx1.cell 2 _ rfl
  have x3 := hx1.cell 3 _ rfl
  have x8 := hx1.cell 9 _ rfl
  have x9 := hx1.cell 10 _ rfl
  clear hx0 hx1
  cases hm : mayS s
  · have HF := Lib.hid (show false = M by rw [HM.out, hm]; rfl)
    clear hm
    go_wp2_with fail
    go_ret
    exact ⟨ret_eq (congrArg Value.bool HF.out), HBq.out⟩
  rw [hm, Bool.true_and] at HM
  clear hm
  go_wp2_with fail
  have HXA := Lib.hid (fun n => show Box (w1.drewN n) w.heap.size _ _ from HX0.out)
  have HXB := Lib.hid (fun n => show Box (w1.drewN n) (w.heap.size + 1) _ _ from HX1.out)
  have HBA := Lib.hid (fun n => HBq.out.trans ((below_drewN w1 n).mono HBq.out.size))
  by_cases hl0 : n = 0
  · have d0 : decide ((0 : Int) < (n : Int)) = false := by rw [decide_eq_false_iff_not]; omega
    have d0n : decide (0 < n) = false := by rw [decide_eq_false_iff_not]; omega
    rw [show l.isEmpty = true by rw [List.isEmpty_iff]; exact List.eq_nil_of_length_eq_zero (by have := HN.out; omega)] at HM
    rw [show (!(!true && decide (s.birth ≤ lastB l))) = true from rfl, Bool.true_and] at HM
    clear hl0
    go_quiet (fail)
    have HXA := Lib.hid (HXA.out nq)
    have HXB := Lib.hid (HXB.out nq)
    have HBA := Lib.hid (HBA.out nq)
    clear HX0 HX1 c0 c1 x0 x1 x2 x3 x8 x9
    generalize hw2 : World.drewN w1 _ = w2 at HXA HXB HBA ⊢
    clear hw2
    have c0 := HXA.out.cell 0 _ rfl
    have c1 := HXA.out.cell 1 _ rfl
    have x0 := HXB.out.cell 0 _ rfl
    have x1 := HXB.out.cell 1 _ rfl
    have x2 := HXB.out.cell 2 _ rfl
    have x3 := HXB.out.cell 3 _ rfl
    have x8 := HXB.out.cell 9 _ rfl
    have x9 := HXB.out.cell 10 _ rfl
    by_cases g2 : b < s.birth
    · have HF := Lib.hid (show false = M by rw [HM.out, decide_eq_false (show ¬ s.birth ≤ b by omega)]; rfl)
      go_wp2_with fail
      go_ret
      exact ⟨ret_eq (congrArg Value.bool HF.out), HBA.out⟩
    rw [decide_eq_true (show s.birth ≤ b by omega), Bool.true_and] at HM
    by_cases g3 : c < s.born
    · have HF := Lib.hid (show false = M by rw [HM.out, decide_eq_false (show ¬ s.born ≤ c by omega)]; rfl)
      go_wp2_with fail
      go_ret
      exact ⟨ret_eq (congrArg Value.bool HF.out), HBA.out⟩
    rw [decide_eq_true (show s.born ≤ c by omega), Bool.true_and] at HM
    by_cases g4 : s.deadline ≤ c
    · have HF := Lib.hid (show false = M by rw [HM.out, decide_eq_false (show ¬ c < s.deadline by omega)]; rfl)
      go_wp2_with fail
      go_ret
      exact ⟨ret_eq (congrArg Value.bool HF.out), HBA.out⟩
    rw [decide_eq_true (show c < s.deadline by omega), Bool.true_and] at HM
    have e8 : ∀ w, (binOp .eql 41 (.agg #[.int .i64 s.upS, .int .i64 s.upB]) (.agg #[.int .i64 0, .int .i64 0])).run Tryz.prog w = .ok (.bool (upNo s)) w := fun w => run_eqlL _ _ _ _ w
    obtain ⟨h0, hh0⟩ : ∃ h0, h0 = upNo s := ⟨_, rfl⟩
    rw [← hh0] at e8 HM
    clear hh0
    go_wp2_with fail
    clear c0 c1 x0 x1 x2 x3 x8 x9 g2 g3 g4 e8
    obtain ⟨R, hR⟩ : ∃ R, R = hangM s l h0 := ⟨_, rfl⟩
    rw [← hR] at HM
    have HRR := Lib.hid hR
    clear hR
    go_loopg [8, 51] n (fun gk hv iv wr => ∃ (k : Nat) (h : Bool), gk + k = n ∧ iv = .int .i64 (k : Int) ∧ hv = .bool h ∧ hangM s (l.drop k) h = R ∧ Below w2.heap.size w2 wr)
    case atStart => exact ⟨0, h0, rfl, rfl, rfl, HRR.out.symm, Below.refl _ _⟩
    case round =>
      obtain ⟨k, h, hgk, rfl, rfl, hH, hb⟩ := hrel
      have HBr := Lib.hid hb
      have HH := Lib.hid hH
      have HGK := Lib.hid hgk
      have HXr := Lib.hid (HXB.out.below hb)
      have k0 : (0 : Int) ≤ (k : Int) := by omega
      clear hb hH hgk
      by_cases hk : k < n
      rotate_left
      · have k1 : ¬ (k : Int) < (n : Int) := by omega
        have HF := Lib.hid (show h = M by
          have e := HH.out
          rw [List.drop_of_length_le (by have := HN.out; omega)] at e
          unfold hangM at e
          rw [HM.out, ← e]; cases h <;> rfl)
        have HB9 := Lib.hid (HBA.out.trans (HBr.out.mono HBA.out.size))
        clear hk
        go_wp2_with fail
        go_ret
        exact ⟨ret_eq (congrArg Value.bool HF.out), HB9.out⟩
      have k1 : (k : Int) < (n : Int) := by omega
      have HRr := Lib.hid ((HR.out.below HBA.out).below HBr.out)
      have hkl : k < l.length := by have := HN.out; omega
      obtain ⟨p, hp⟩ : ∃ p, p = l[k] := ⟨_, rfl⟩
      obtain ⟨rb, ro, hra, hrow⟩ := HRr.out.row k hkl
      subst hra
      rw [← hp] at hrow
      have hpd := mayS_depth (HP.out p (by rw [hp]; exact List.getElem_mem hkl))
      have HD := Lib.hid (show hangM s (p :: l.drop (k + 1)) h = R by rw [← HH.out, List.drop_eq_getElem_cons hkl, hp])
      have HK := Lib.hid hk
      have HBE := Lib.hid (fun w => below_calls s p w hpd)
      have HROW := Lib.hid hrow
      clear hk hkl hp hrow hpd HH
      unfold hangM at HD
      go_wp2_with ((with_reducible refine wpList_load_k ?b01 45 (.tmp 53) ?b11 rb (ro + k * 12) ?b21 p.cells.toList _ HROW.out Tryz.underlying45 ?b31 ?b41 ?b81); (case b11 => rfl); (case b01 => rfl); (case b21 => rfl); (case b31 => rfl); (case b41 => kernel_rfl))
      intro cv hcv
      go_wp2_with ((with_reducible refine wpList_store_k ?a01 45 (.tmp 10) (.tmp 54) ?a11 wr.heap.size 0 p.cells.toList ?a21 cv ?a31 hcv ?a51 ?a61 ?a71 ?a81); (case a11 => rfl); (case a01 => rfl); (case a21 => rfl); (case a31 => rfl); (case a51 => exact thereZ _ _); (case a61 => kernel_rfl); (case a71 => exact SesM.oneS _))
      intro w3 hw3
      obtain ⟨hpx, hb3⟩ := putZ hw3
      have HPX := Lib.hid hpx
      have HX3 := Lib.hid (HXr.out.below hb3)
      have HB3 := Lib.hid (HBr.out.trans (hb3.mono HBr.out.size))
      have p0 : w3.cell? ⟨wr.heap.size, 0, none⟩ = some (.int .i64 p.slot) := hpx.cell 0 _ rfl
      have p1 : w3.cell? ⟨wr.heap.size, 1, none⟩ = some (.int .i64 p.birth) := hpx.cell 1 _ rfl
      have x0 := HX3.out.cell 0 _ rfl
      have x2 := HX3.out.cell 2 _ rfl
      have x3 := HX3.out.cell 3 _ rfl
      clear hcv hw3 hpx hb3 HBr HXr HROW HRr
      cases q1 : (p.slot == s.slot)
      rotate_left
      · rw [if_pos (by simpa using q1)] at HD
        have HF := Lib.hid (show false = M by rw [HM.out, ← HD.out]; rfl)
        have HB9 := Lib.hid (HBA.out.trans (HB3.out.mono HBA.out.size))
        go_wp2_with fail
        go_ret
        exact ⟨ret_eq (congrArg Value.bool HF.out), HB9.out⟩
      rw [if_neg (by simpa using q1)] at HD
      have e8 : ∀ w, (binOp .eql 41 (.agg #[.int .i64 s.upS, .int .i64 s.upB]) (.agg #[.int .i64 p.slot, .int .i64 p.birth])).run Tryz.prog w = .ok (.bool ((s.upS == p.slot) && (s.upB == p.birth))) w := fun w => run_eqlL _ _ _ _ w
      by_cases q2 : s.upS = p.slot ∧ s.upB = p.birth
      rotate_left
      · rw [if_neg q2] at HD
        rw [show ((s.upS == p.slot) && (s.upB == p.birth)) = false by rw [Bool.eq_false_iff]; simpa using q2] at e8
        clear q2
        go_wp2_with fail
        go_roundg (n - (k + 1))
        case measure => have := HGK.out; have := HK.out; omega
        case rel => exact ⟨k + 1, h, by have := HGK.out; have := HK.out; omega, by go_num, rfl, HD.out, HB3.out⟩
      rw [if_pos q2] at HD
      rw [show ((s.upS == p.slot) && (s.upB == p.birth)) = true by simpa using q2] at e8
      clear q2
      have HXS := Lib.hid (show Box w3 (w.heap.size + 1) s.cells 45 from HX3.out)
      go_wp2_with ((with_reducible refine wpList_load_k ?d01 45 (.tmp 4) ?d11 (w.heap.size + 1) 0 ?d21 s.cells.toList _ (Box.rangeS HXS.out) Tryz.underlying45 ?d31 ?d41 ?d81); (case d11 => rfl); (case d01 => rfl); (case d21 => rfl); (case d31 => rfl); (case d41 => kernel_rfl))
      intro cs hcs
      have ecs : cs = s.cells := by rw [hcs.out]
      subst ecs
      go_wp2_with ((with_reducible refine wpList_load_k ?f01 45 (.tmp 10) ?f11 wr.heap.size 0 ?f21 p.cells.toList _ (Box.rangeS HPX.out) Tryz.underlying45 ?f31 ?f41 ?f81); (case f11 => rfl); (case f01 => rfl); (case f21 => rfl); (case f31 => rfl); (case f41 => kernel_rfl))
      intro cp hcp
      have ecp : cp = p.cells := by rw [hcp.out]
      subst ecp
      clear hcs hcp e8 p0 p1 x0 x2 x3
      go_wp2_with fail
      refine (HBE.out _).mono ?_
      rintro ev w4 ⟨rfl, hb4⟩
      have HB4 := Lib.hid (HB3.out.trans (hb4.mono HB3.out.size))
      generalize belowM s p = hn at HD ⊢
      clear hb4
      go_wp2_with fail
      go_roundg (n - (k + 1))
      case measure => have := HGK.out; have := HK.out; omega
      case rel => exact ⟨k + 1, hn, by have := HGK.out; have := HK.out; omega, by go_num, rfl, HD.out, HB4.out⟩
  obtain ⟨m, hm⟩ : ∃ m, n = m + 1 := ⟨n - 1, by omega⟩
  have hml : m < l.length := by have := HN.out; omega
  have hmz : IntKind.i64.wrap ((n : Int) - 1) = (m : Int) := by
    rw [show (n : Int) - 1 = (m : Int) by omega]
    simp [IntKind.wrap, IntKind.bits, IntKind.signed]; omega
  obtain ⟨rb, ro, hra, hrow⟩ := (HR.out.below HBq.out).row m hml
  subst hra
  have hcb := hrow 1 _ rfl
  have hlast : lastB l = (l[m]'hml).birth := by
    have e : l = l.take m ++ [l[m]'hml] := by
      rw [← List.take_succ_eq_append_getElem hml, List.take_of_length_le (by have := HN.out; omega)]
    conv => lhs; rw [e]
    exact lastB_snoc _ _
  rw [show l.isEmpty = false by rw [← Bool.not_eq_true, List.isEmpty_iff]; intro h; rw [h] at hml; simp at hml, hlast] at HM
  generalize hbl : (l[m]'hml).birth = bl at hcb HM
  have d0 : decide ((0 : Int) < (n : Int)) = true := by rw [decide_eq_true_iff]; omega
  have d0n : decide (0 < n) = true := by rw [decide_eq_true_iff]; omega
  have m0 : (0 : Int) ≤ (m : Int) := by omega
  have m1 : (m : Int) < (n : Int) := by omega
  clear hlast hrow hbl hm hl0 hml
  by_cases hlt : s.birth ≤ bl
  · have d1 : decide (s.birth ≤ bl) = true := decide_eq_true hlt
    have HF := Lib.hid (show false = M by rw [HM.out, d1]; rfl)
    have HB8 := Lib.hid (fun n => HBq.out.trans ((below_drewN w1 n).mono HBq.out.size))
    clear hlt
    go_quiet (fail)
    have HB9 := Lib.hid (HBA.out nq)
    go_wp2_with fail
    go_ret
    exact ⟨ret_eq (congrArg Value.bool HF.out), HB9.out⟩
  have d1 : decide (s.birth ≤ bl) = false := decide_eq_false hlt
  rw [d1, show (!(!false && false)) = true from rfl, Bool.true_and] at HM
  clear hlt
  go_quiet (fail)
  have HXA := Lib.hid (HXA.out nq)
  have HXB := Lib.hid (HXB.out nq)
  have HBA := Lib.hid (HBA.out nq)
  clear d0 d0n d1 hcb hmz m0 m1
  clear HX0 HX1 c0 c1 x0 x1 x2 x3 x8 x9
  generalize hw2 : World.drewN w1 _ = w2 at HXA HXB HBA ⊢
  clear hw2
  have c0 := HXA.out.cell 0 _ rfl
  have c1 := HXA.out.cell 1 _ rfl
  have x0 := HXB.out.cell 0 _ rfl
  have x1 := HXB.out.cell 1 _ rfl
  have x2 := HXB.out.cell 2 _ rfl
  have x3 := HXB.out.cell 3 _ rfl
  have x8 := HXB.out.cell 9 _ rfl
  have x9 := HXB.out.cell 10 _ rfl
  by_cases g2 : b < s.birth
  · have HF := Lib.hid (show false = M by rw [HM.out, decide_eq_false (show ¬ s.birth ≤ b by omega)]; rfl)
    go_wp2_with fail
    go_ret
    exact ⟨ret_eq (congrArg Value.bool HF.out), HBA.out⟩
  rw [decide_eq_true (show s.birth ≤ b by omega), Bool.true_and] at HM
  by_cases g3 : c < s.born
  · have HF := Lib.hid (show false = M by rw [HM.out, decide_eq_false (show ¬ s.born ≤ c by omega)]; rfl)
    go_wp2_with fail
    go_ret
    exact ⟨ret_eq (congrArg Value.bool HF.out), HBA.out⟩
  rw [decide_eq_true (show s.born ≤ c by omega), Bool.true_and] at HM
  by_cases g4 : s.deadline ≤ c
  · have HF := Lib.hid (show false = M by rw [HM.out, decide_eq_false (show ¬ c < s.deadline by omega)]; rfl)
    go_wp2_with fail
    go_ret
    exact ⟨ret_eq (congrArg Value.bool HF.out), HBA.out⟩
  rw [decide_eq_true (show c < s.deadline by omega), Bool.true_and] at HM
  have e8 : ∀ w, (binOp .eql 41 (.agg #[.int .i64 s.upS, .int .i64 s.upB]) (.agg #[.int .i64 0, .int .i64 0])).run Tryz.prog w = .ok (.bool (upNo s)) w := fun w => run_eqlL _ _ _ _ w
  obtain ⟨h0, hh0⟩ : ∃ h0, h0 = upNo s := ⟨_, rfl⟩
  rw [← hh0] at e8 HM
  clear hh0
  go_wp2_with fail
  clear c0 c1 x0 x1 x2 x3 x8 x9 g2 g3 g4 e8
  obtain ⟨R, hR⟩ : ∃ R, R = hangM s l h0 := ⟨_, rfl⟩
  rw [← hR] at HM
  have HRR := Lib.hid hR
  clear hR
  go_loopg [8, 51] n (fun gk hv iv wr => ∃ (k : Nat) (h : Bool), gk + k = n ∧ iv = .int .i64 (k : Int) ∧ hv = .bool h ∧ hangM s (l.drop k) h = R ∧ Below w2.heap.size w2 wr)
  case atStart => exact ⟨0, h0, rfl, rfl, rfl, HRR.out.symm, Below.refl _ _⟩
  case round =>
    obtain ⟨k, h, hgk, rfl, rfl, hH, hb⟩ := hrel
    have HBr := Lib.hid hb
    have HH := Lib.hid hH
    have HGK := Lib.hid hgk
    have HXr := Lib.hid (HXB.out.below hb)
    have k0 : (0 : Int) ≤ (k : Int) := by omega
    clear hb hH hgk
    by_cases hk : k < n
    rotate_left
    · have k1 : ¬ (k : Int) < (n : Int) := by omega
      have HF := Lib.hid (show h = M by
        have e := HH.out
        rw [List.drop_of_length_le (by have := HN.out; omega)] at e
        unfold hangM at e
        rw [HM.out, ← e]; cases h <;> rfl)
      have HB9 := Lib.hid (HBA.out.trans (HBr.out.mono HBA.out.size))
      clear hk
      go_wp2_with fail
      go_ret
      exact ⟨ret_eq (congrArg Value.bool HF.out), HB9.out⟩
    have k1 : (k : Int) < (n : Int) := by omega
    have HRr := Lib.hid ((HR.out.below HBA.out).below HBr.out)
    have hkl : k < l.length := by have := HN.out; omega
    obtain ⟨p, hp⟩ : ∃ p, p = l[k] := ⟨_, rfl⟩
    obtain ⟨rb', ro', hra, hrow⟩ := HRr.out.row k hkl
    injection hra with hra
    injection hra with e5 e6
    subst e5
    subst e6
    rw [← hp] at hrow
    have hpd := mayS_depth (HP.out p (by rw [hp]; exact List.getElem_mem hkl))
    have HD := Lib.hid (show hangM s (p :: l.drop (k + 1)) h = R by rw [← HH.out, List.drop_eq_getElem_cons hkl, hp])
    have HK := Lib.hid hk
    have HBE := Lib.hid (fun w => below_calls s p w hpd)
    have HROW := Lib.hid hrow
    clear hk hkl hp hrow hpd HH
    unfold hangM at HD
    go_wp2_with ((with_reducible refine wpList_load_k ?b02 45 (.tmp 53) ?b12 rb (ro + k * 12) ?b22 p.cells.toList _ HROW.out Tryz.underlying45 ?b32 ?b42 ?b82); (case b12 => rfl); (case b02 => rfl); (case b22 => rfl); (case b32 => rfl); (case b42 => kernel_rfl))
    intro cv hcv
    go_wp2_with ((with_reducible refine wpList_store_k ?a02 45 (.tmp 10) (.tmp 54) ?a12 wr.heap.size 0 p.cells.toList ?a22 cv ?a32 hcv ?a52 ?a62 ?a72 ?a82); (case a12 => rfl); (case a02 => rfl); (case a22 => rfl); (case a32 => rfl); (case a52 => exact thereZ _ _); (case a62 => kernel_rfl); (case a72 => exact SesM.oneS _))
    intro w3 hw3
    obtain ⟨hpx, hb3⟩ := putZ hw3
    have HPX := Lib.hid hpx
    have HX3 := Lib.hid (HXr.out.below hb3)
    have HB3 := Lib.hid (HBr.out.trans (hb3.mono HBr.out.size))
    have p0 : w3.cell? ⟨wr.heap.size, 0, none⟩ = some (.int .i64 p.slot) := hpx.cell 0 _ rfl
    have p1 : w3.cell? ⟨wr.heap.size, 1, none⟩ = some (.int .i64 p.birth) := hpx.cell 1 _ rfl
    have x0 := HX3.out.cell 0 _ rfl
    have x2 := HX3.out.cell 2 _ rfl
    have x3 := HX3.out.cell 3 _ rfl
    clear hcv hw3 hpx hb3 HBr HXr HROW HRr
    cases q1 : (p.slot == s.slot)
    rotate_left
    · rw [if_pos (by simpa using q1)] at HD
      have HF := Lib.hid (show false = M by rw [HM.out, ← HD.out]; rfl)
      have HB9 := Lib.hid (HBA.out.trans (HB3.out.mono HBA.out.size))
      go_wp2_with fail
      go_ret
      exact ⟨ret_eq (congrArg Value.bool HF.out), HB9.out⟩
    rw [if_neg (by simpa using q1)] at HD
    have e8 : ∀ w, (binOp .eql 41 (.agg #[.int .i64 s.upS, .int .i64 s.upB]) (.agg #[.int .i64 p.slot, .int .i64 p.birth])).run Tryz.prog w = .ok (.bool ((s.upS == p.slot) && (s.upB == p.birth))) w := fun w => run_eqlL _ _ _ _ w
    by_cases q2 : s.upS = p.slot ∧ s.upB = p.birth
    rotate_left
    · rw [if_neg q2] at HD
      rw [show ((s.upS == p.slot) && (s.upB == p.birth)) = false by rw [Bool.eq_false_iff]; simpa using q2] at e8
      clear q2
      go_wp2_with fail
      go_roundg (n - (k + 1))
      case measure => have := HGK.out; have := HK.out; omega
      case rel => exact ⟨k + 1, h, by have := HGK.out; have := HK.out; omega, by go_num, rfl, HD.out, HB3.out⟩
    rw [if_pos q2] at HD
    rw [show ((s.upS == p.slot) && (s.upB == p.birth)) = true by simpa using q2] at e8
    clear q2
    have HXS := Lib.hid (show Box w3 (w.heap.size + 1) s.cells 45 from HX3.out)
    go_wp2_with ((with_reducible refine wpList_load_k ?d02 45 (.tmp 4) ?d12 (w.heap.size + 1) 0 ?d22 s.cells.toList _ (Box.rangeS HXS.out) Tryz.underlying45 ?d32 ?d42 ?d82); (case d12 => rfl); (case d02 => rfl); (case d22 => rfl); (case d32 => rfl); (case d42 => kernel_rfl))
    intro cs hcs
    have ecs : cs = s.cells := by rw [hcs.out]
    subst ecs
    go_wp2_with ((with_reducible refine wpList_load_k ?f02 45 (.tmp 10) ?f12 wr.heap.size 0 ?f22 p.cells.toList _ (Box.rangeS HPX.out) Tryz.underlying45 ?f32 ?f42 ?f82); (case f12 => rfl); (case f02 => rfl); (case f22 => rfl); (case f32 => rfl); (case f42 => kernel_rfl))
    intro cp hcp
    have ecp : cp = p.cells := by rw [hcp.out]
    subst ecp
    clear hcs hcp e8 p0 p1 x0 x2 x3
    go_wp2_with fail
    refine (HBE.out _).mono ?_
    rintro ev w4 ⟨rfl, hb4⟩
    have HB4 := Lib.hid (HB3.out.trans (hb4.mono HB3.out.size))
    generalize belowM s p = hn at HD ⊢
    clear hb4
    go_wp2_with fail
    go_roundg (n - (k + 1))
    case measure => have := HGK.out; have := HK.out; omega
    case rel => exact ⟨k + 1, hn, by have := HGK.out; have := HK.out; omega, by go_num, rfl, HD.out, HB4.out⟩
def chkV : Option Int → Value
  | none => .nilIface
  | some n => .iface 99 (.agg #[.int .i64 24, .int .i64 n])
theorem headS (a : Option Addr) (n cap k : Nat) (hk : k ≤ cap) (w : World) : (Instr.slice 28 (.slice a n cap) none (some (.int .i64 (k : Int))) none).run Tryz.prog w = .ok (.slice a k cap) w :=
  run_head Tryz.underlying28 ⟨12, by kernel_rfl⟩ a n cap k hk w
theorem wpStill_slice {P : Program} {ops : Array Oper} {rest : List Oper} {op : Oper} {a : Act} {w : World} {Q : Act → Prop} (hw : Region.wanted op (yielded ops a.tmps) = true) (t : TypeId) (x y : Operand) (ho : op.op = .slice t x none (some y) none) {e : TypeId} (ht : P.underlying t = some (.slice e))
    (v u r : Value) (hx : a.eval x = v) (hy : a.eval y = u) (hr : (Instr.slice t v none (some u) none).run P w = .ok r w) (h : wpStill P ops w Q rest (a.put op.dst r)) : wpStill P ops w Q (op :: rest) a := by
  unfold wpStill
  rw [if_pos hw]
  unfold Oper.still execOp
  simp only [ho, hx, hy, Option.map_some, Option.map_none, Sem.run_bind, Sem.run_pure, Result.andThen_ok, Instr.sliceAt, run_underlying ht, hr]
  exact ⟨rfl, h⟩
set_option maxHeartbeats 6400000 in
theorem check_calls (st : StM) (v : Value) (w : World) (hr : RdS w v st.l) (ho : ∀ s ∈ st.l, SesOk s) :
    Calls Tryz.prog 99 #[.agg #[.int .i64 st.clock, .int .i64 st.births, v]] w fun ev w' => ev = .returned (chkV (checkM st)) ∧ Below w.heap.size w w' := by
  obtain ⟨a, cap, rfl, hc1, hc2⟩ := hr.slice
  obtain ⟨R, hR⟩ : ∃ R, R = checkM st := ⟨_, rfl⟩
  rw [← hR]
  have HR := Lib.hid hr
  have HO := Lib.hid ho
  have HX0 := Lib.hid (Box.new w #[.int .i64 st.clock, .int .i64 st.births, .slice a st.l.length cap] 30)
  have HB := Lib.hid (below_alloc w (.cells #[.int .i64 st.clock, .int .i64 st.births, .slice a st.l.length cap] 30))
  have hbd : boundsM st = decide (0 ≤ st.clock ∧ st.clock ≤ 1099511627776 ∧ 0 ≤ st.births ∧ st.births ≤ 1048576 ∧ st.l.length ≤ 32) := by
    unfold boundsM fromM; rw [Bool.eq_iff_iff]; simp [and_assoc]
  unfold checkM at hR
  rw [hbd] at hR
  have HRR := Lib.hid hR
  have HMY := Lib.hid (fun s a n cap l w hs hn hr hp => may_calls st.clock st.births (.slice a st.l.length cap) s a n cap l w hs hn hr hp)
  clear hbd hR hr ho
  obtain ⟨c, b, l⟩ := st
  simp only at HR HO HX0 HB HRR HMY hc1 hc2 ⊢
  obtain ⟨n, hn⟩ : ∃ n, n = l.length := ⟨_, rfl⟩
  rw [← hn] at HX0 HB HRR HMY hc1 ⊢
  have HN := Lib.hid hn
  have HCAP := Lib.hid hc1
  have hn2 : n ≤ 9223372036854775807 := by omega
  clear hn hc1 hc2
  go_enter Tryz.func99, Tryz.ntmps99
  by_cases g1 : c < 0
  · have HF := Lib.hid (show R = some (-1) by rw [HRR.out, decide_eq_false (by omega)]; rfl)
    go_wp2_with fail
    refine (fault_calls _ _).mono ?_
    rintro ev w1 ⟨rfl, rfl⟩
    go_wp2_with fail
    go_ret
    rw [HF.out]
    exact ⟨rfl, HB.out⟩
  by_cases g2 : 1099511627776 < c
  · have HF := Lib.hid (show R = some (-1) by rw [HRR.out, decide_eq_false (by omega)]; rfl)
    go_wp2_with fail
    refine (fault_calls _ _).mono ?_
    rintro ev w1 ⟨rfl, rfl⟩
    go_wp2_with fail
    go_ret
    rw [HF.out]
    exact ⟨rfl, HB.out⟩
  by_cases g3 : b < 0
  · have HF := Lib.hid (show R = some (-1) by rw [HRR.out, decide_eq_false (by omega)]; rfl)
    go_wp2_with fail
    refine (fault_calls _ _).mono ?_
    rintro ev w1 ⟨rfl, rfl⟩
    go_wp2_with fail
    go_ret
    rw [HF.out]
    exact ⟨rfl, HB.out⟩
  by_cases g4 : 1048576 < b
  · have HF := Lib.hid (show R = some (-1) by rw [HRR.out, decide_eq_false (by omega)]; rfl)
    go_wp2_with fail
    refine (fault_calls _ _).mono ?_
    rintro ev w1 ⟨rfl, rfl⟩
    go_wp2_with fail
    go_ret
    rw [HF.out]
    exact ⟨rfl, HB.out⟩
  by_cases g5 : (32 : Int) < (n : Int)
  · have HF := Lib.hid (show R = some (-1) by rw [HRR.out, decide_eq_false (by omega)]; rfl)
    go_wp2_with fail
    refine (fault_calls _ _).mono ?_
    rintro ev w1 ⟨rfl, rfl⟩
    go_wp2_with fail
    go_ret
    rw [HF.out]
    exact ⟨rfl, HB.out⟩
  have HF := Lib.hid (show checkGo c b [] 0 l = R by rw [HRR.out, decide_eq_true (by omega), if_pos rfl])
  clear HRR
  go_wp2_with fail
  clear g1 g2 g3 g4 g5
  generalize hw1 : World.alloc w _ = w1 at HX0 HB ⊢
  clear hw1
  go_loopg [33] n (fun gk iv wr => ∃ (k : Nat), gk + k = n ∧ iv = .int .i64 (k : Int) ∧ checkGo c b (l.take k) (k : Int) (l.drop k) = R ∧ (∀ p ∈ l.take k, mayS p = true) ∧ Below w1.heap.size w1 wr)
  case atStart => exact ⟨0, rfl, rfl, HF.out, by simp, Below.refl _ _⟩
  case round =>
    obtain ⟨k, hgk, rfl, hC, hP, hb⟩ := hrel
    have HBr := Lib.hid hb
    have HC := Lib.hid hC
    have HP := Lib.hid hP
    have HGK := Lib.hid hgk
    have HXr := Lib.hid (HX0.out.below hb)
    have k0 : (0 : Int) ≤ (k : Int) := by omega
    clear hb hC hP hgk
    by_cases hk : k < n
    rotate_left
    · have k1 : ¬ (k : Int) < (n : Int) := by omega
      have HF2 := Lib.hid (show R = none by
        have e := HC.out
        rw [List.drop_of_length_le (by have := HN.out; omega)] at e
        exact e.symm)
      have HB9 := Lib.hid (HB.out.trans (HBr.out.mono HB.out.size))
      clear hk
      go_wp2_with fail
      go_ret
      rw [HF2.out]
      exact ⟨rfl, HB9.out⟩
    have k1 : (k : Int) < (n : Int) := by omega
    have hkl : k < l.length := by have := HN.out; omega
    have HRr := Lib.hid ((HR.out.below HB.out).below HBr.out)
    obtain ⟨s, hs⟩ : ∃ s, s = l[k] := ⟨_, rfl⟩
    obtain ⟨rb, ro, hra, hrow⟩ := HRr.out.row k hkl
    subst hra
    rw [← hs] at hrow
    have HSO := Lib.hid (HO.out s (by rw [hs]; exact List.getElem_mem hkl))
    have HD := Lib.hid (show (if mayI c b s (l.take k) = true then checkGo c b (l.take (k + 1)) ((k : Int) + 1) (l.drop (k + 1)) else some (k : Int)) = R by
      rw [← HC.out, List.drop_eq_getElem_cons hkl, ← hs]
      conv => rhs; unfold checkGo
      rw [List.take_succ_eq_append_getElem hkl, ← hs])
    have HT := Lib.hid (show mayI c b s (l.take k) = true → ∀ p ∈ l.take (k + 1), mayS p = true from fun hm p hp => by
      rw [List.take_succ_eq_append_getElem hkl, ← hs] at hp
      rcases List.mem_append.1 hp with h | h
      · exact HP.out p h
      · rw [List.mem_singleton.1 h]; exact (mayI_iff.1 hm).may)
    have HKL := Lib.hid (show k = (l.take k).length by rw [List.length_take]; omega)
    have HROW := Lib.hid hrow
    have HK := Lib.hid hk
    have HCUT := Lib.hid (show ∀ w', Below wr.heap.size wr w' → RdS w' (.slice (some ⟨rb, ro, none⟩) k cap) (l.take k) from fun w' hb => by
      exact (HRr.out.below hb).cut k (by omega))
    clear hk hkl hs hrow HC
    go_wp2_with ((with_reducible refine wpList_load_k ?b0 45 (.tmp 36) ?b1 rb (ro + k * 12) ?b2 s.cells.toList _ HROW.out Tryz.underlying45 ?b3 ?b4 ?b8); (case b1 => rfl); (case b0 => rfl); (case b2 => rfl); (case b3 => rfl); (case b4 => kernel_rfl))
    intro cv hcv
    go_wp2_with ((with_reducible refine wpList_store_k ?a0 45 (.tmp 4) (.tmp 37) ?a1 wr.heap.size 0 s.cells.toList ?a2 cv ?a3 hcv ?a5 ?a6 ?a7 ?a8); (case a1 => rfl); (case a0 => rfl); (case a2 => rfl); (case a3 => rfl); (case a5 => exact thereZ _ _); (case a6 => kernel_rfl); (case a7 => exact SesM.oneS _))
    intro w3 hw3
    obtain ⟨hpx, hb3⟩ := putZ hw3
    have HPX := Lib.hid hpx.drew
    have HX3 := Lib.hid (HXr.out.below hb3).drew
    have HB3 := Lib.hid (show Below w1.heap.size w1 w3.drew from (HBr.out.trans (hb3.mono HBr.out.size)).drew)
    have HMC := Lib.hid (HMY.out s (some ⟨rb, ro, none⟩) k cap (l.take k) w3.drew HSO.out HKL.out (HCUT.out _ hb3.drew) HP.out)
    have c2 : w3.cell? ⟨w.heap.size, 2, none⟩ = some (.slice (some ⟨rb, ro, none⟩) n cap) := (HXr.out.below hb3).cell 2 _ rfl
    have HXR := Lib.hid (show w3.drew.rangeAt w.heap.size 0 [.int .i64 c, .int .i64 b, .slice (some ⟨rb, ro, none⟩) n cap] from fun j v hv => by rw [Nat.zero_add]; exact HX3.out.cell j v (by simpa using hv))
    have HCP := Lib.hid (show k ≤ cap by have := HCAP.out; have := HK.out; omega)
    clear hcv hw3 hpx hb3 HBr HXr HROW HRr HSO HCUT
    go_wp2_with fail
    go_still_tail 6, (by kernel_rfl)
    refine wpStill_load_k rfl 30 (.tmp 1) rfl w.heap.size 0 rfl _ _ HXR.out Tryz.underlying30 rfl (by kernel_rfl) ?_
    intro cs hcs
    have ecs : cs = #[.int .i64 c, .int .i64 b, .slice (some ⟨rb, ro, none⟩) n cap] := by rw [hcs.out]
    subst ecs
    clear hcs
    repeat still_step
    refine wpStill_load_k rfl 45 (.tmp 4) rfl wr.heap.size 0 rfl _ _ (Box.rangeS HPX.out) Tryz.underlying45 rfl (by kernel_rfl) ?_
    intro cp hcp
    have ecp : cp = s.cells := by rw [hcp.out]
    subst ecp
    clear hcp
    repeat still_step
    refine wpStill_slice rfl 28 (.tmp 41) (.tmp 42) rfl Tryz.underlying28 _ _ _ rfl rfl (headS _ n cap k HCP.out _) ?_
    repeat still_step
    refine wpStill_nil ?_
    change wpList _ _ _ _ _ w3.drew
    cases hm : mayI c b s (l.take k)
    · rw [hm, if_neg (by decide)] at HD
      rw [hm] at HMC
      clear hm
      go_wp2_with (go_at_call 135; refine HMC.out.mono ?_; rintro ev w4 ⟨rfl, hb4⟩)
      have HB9 := Lib.hid (HB.out.trans ((HB3.out.trans (hb4.mono HB3.out.size)).mono HB.out.size))
      clear hb4 HMC HXR HX3 HPX c2
      go_wp2_with fail
      refine (fault_calls _ _).mono ?_
      rintro ev w5 ⟨rfl, rfl⟩
      go_wp2_with fail
      go_ret
      rw [← HD.out]
      exact ⟨rfl, HB9.out⟩
    · rw [hm, if_pos rfl] at HD
      have HT2 := Lib.hid (HT.out hm)
      rw [hm] at HMC
      clear hm
      go_wp2_with (go_at_call 135; refine HMC.out.mono ?_; rintro ev w4 ⟨rfl, hb4⟩)
      have HB4 := Lib.hid (HB3.out.trans (hb4.mono HB3.out.size))
      clear hb4 HMC HXR HX3 HPX c2
      go_wp2_with fail
      go_roundg (n - (k + 1))
      case measure => have := HGK.out; have := HK.out; omega
      case rel => exact ⟨k + 1, by have := HGK.out; have := HK.out; omega, by go_num, HD.out, HT2.out, HB4.out⟩
end Go.Proofs.YtgcnolapjppbpaaGreatDoor
