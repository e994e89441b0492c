
/-
  The law ImageNarrow.
-/
import Derived.Test.YtdaimaibnjkfbaaImWorks
namespace Go.Proofs.Ytdaimaibnjkfbaa
open Go.RowKit
set_option maxRecDepth 100000

set_option maxHeartbeats 12800000 in
theorem imageNarrow_calls (st : StM) (v : Value) (w : World) (hr : RdS w v st.l) (ho : ∀ s ∈ st.l, SesOk s) :
    Calls Try.prog 4 #[.agg #[.int .i64 st.clock, .int .i64 st.births, v]] w fun ev w' => ev = .returned (.bool true) ∧ Below w.heap.size w w' := by
  obtain ⟨a, cap, rfl, hc1, hc2⟩ := hr.slice
  have HWD := Lib.hid (fun w' hb => wide_calls st.clock st.births (.slice a st.l.length cap) st.l w' (hr.below hb))
  have HCK := Lib.hid (fun w' hb => check_calls st (.slice a st.l.length cap) w' (hr.below hb) ho)
  have HX0 := Lib.hid (Box.new w #[.int .i64 st.clock, .int .i64 st.births, .slice a st.l.length cap] 24)
  have HB := Lib.hid (below_alloc w (.cells #[.int .i64 st.clock, .int .i64 st.births, .slice a st.l.length cap] 24))
  have HR := Lib.hid hr
  have HCN := Lib.hid (@checkM_none st)
  clear hr ho
  obtain ⟨c, b, l⟩ := st
  simp only at HR HX0 HB HWD HCK HCN hc1 hc2 ⊢
  obtain ⟨n, hn⟩ : ∃ n, n = l.length := ⟨_, rfl⟩
  have hn2 : n ≤ 9223372036854775807 := by omega
  have HN := Lib.hid hn
  rw [← hn] at HX0 HB HWD HCK ⊢
  clear hn hc1 hc2
  go_enter Try.func4, Try.ntmps4
  go_wp2_with fail
  refine (worksIm_calls _).mono ?_
  rintro ev w1 ⟨rfl, hb1⟩
  have HB1 := Lib.hid (HB.out.trans (hb1.mono HB.out.size))
  have hx1 := HX0.out.below hb1
  have HX1 := Lib.hid hx1
  have c0 : w1.cell? ⟨w.heap.size, 0, none⟩ = some (.int .i64 c) := hx1.cell 0 _ rfl
  have c1 : w1.cell? ⟨w.heap.size, 1, none⟩ = some (.int .i64 b) := hx1.cell 1 _ rfl
  have c2 : w1.cell? ⟨w.heap.size, 2, none⟩ = some (.slice a n cap) := hx1.cell 2 _ rfl
  clear hb1 hx1 HB HX0
  go_wp2_with fail
  refine (HWD.out _ HB1.out).mono ?_
  rintro ev w2 ⟨r, rfl, hb2⟩
  have HB2 := Lib.hid (HB1.out.trans (hb2.mono HB1.out.size))
  have hx2 := HX1.out.below hb2
  have HX2 := Lib.hid hx2
  clear c0 c1 c2
  have c0 : w2.cell? ⟨w.heap.size, 0, none⟩ = some (.int .i64 c) := hx2.cell 0 _ rfl
  have c1 : w2.cell? ⟨w.heap.size, 1, none⟩ = some (.int .i64 b) := hx2.cell 1 _ rfl
  have c2 : w2.cell? ⟨w.heap.size, 2, none⟩ = some (.slice a n cap) := hx2.cell 2 _ rfl
  clear hb2 hx2 HB1 HX1 HWD
  cases r
  rotate_left
  · go_wp2_with fail
    go_ret
    exact ⟨rfl, HB2.out⟩
  go_wp2_with fail
  refine (HCK.out _ HB2.out).mono ?_
  rintro ev w3 ⟨rfl, hb3⟩
  have HB3 := Lib.hid (HB2.out.trans (hb3.mono HB2.out.size))
  have HX3 := Lib.hid (HX2.out.below hb3)
  clear hb3 HB2 HX2 HCK c0 c1 c2
  cases hck : checkM ⟨c, b, l⟩ with
  | some m =>
    rw [show chkV (some m) = .iface 57 (.agg #[.int .i64 24, .int .i64 m]) from rfl]
    clear hck
    go_wp2_with fail
    go_ret
    exact ⟨rfl, HB3.out⟩
  | none =>
  rw [show chkV none = .nilIface from rfl]
  have HMI := Lib.hid (fun i (hi : i < l.length) => mayI_iff.1 ((HCN.out.1 hck).2 i hi))
  have HASC := Lib.hid (asc_of HMI.out)
  clear hck HCN
  go_wp2_with fail
  go_loopg [3] n (fun gk iv wr => ∃ k : Nat, gk + k = n ∧ iv = .int .i64 (k : Int) ∧ Below w3.heap.size w3 wr)
  case atStart => exact ⟨0, rfl, rfl, Below.refl _ _⟩
  case round =>
    obtain ⟨k, hgk, rfl, hb⟩ := hrel
    have k0 : (0 : Int) ≤ (k : Int) := by omega
    have HGK := Lib.hid hgk
    have HBr := Lib.hid hb
    have hxr := HX3.out.below hb
    have HXr := Lib.hid hxr
    have c2 : wr.cell? ⟨w.heap.size, 2, none⟩ = some (.slice a n cap) := hxr.cell 2 _ rfl
    clear hgk hb hxr
    by_cases hk : k < n
    rotate_left
    · have k1 : ¬ (k : Int) < (n : Int) := by omega
      have HB9 := Lib.hid (HB3.out.trans (HBr.out.mono HB3.out.size))
      clear hk
      go_wp2_with fail
      go_ret
      exact ⟨rfl, HB9.out⟩
    have k1 : (k : Int) < (n : Int) := by omega
    have hkl : k < l.length := by have := HN.out; omega
    obtain ⟨s, hs⟩ : ∃ s, s = l[k] := ⟨_, rfl⟩
    obtain ⟨rb, ro, hra, hrow⟩ := ((HR.out.below HB3.out).below HBr.out).row k hkl
    subst hra
    rw [← hs] at hrow
    have hmi := HMI.out k hkl
    rw [← hs] at hmi
    have hborn := wrap_step (b := s.born) (by
      have h := hmi.may
      unfold mayS at h
      simp only [Bool.and_eq_true] at h
      exact h.2.2.2.2.1)
    have HZB := Lib.hid hborn
    have HPAR := Lib.hid (show s.upB ≠ 0 → ∃ j0, ∃ hj : j0 < l.length, j0 < k ∧ (s.upS = (l[j0]).slot ∧ s.upB = (l[j0]).birth) ∧ BelowM s (l[j0]) ∧ mayS (l[j0]) = true from fun hu => by
      obtain ⟨p, hp, h1, h2⟩ := hmi.parent hu
      obtain ⟨j0, hj, rfl⟩ := List.getElem_of_mem hp
      rw [List.length_take] at hj
      refine ⟨j0, by omega, by omega, ?_⟩
      rw [List.getElem_take] at h1 h2
      exact ⟨h1, belowM_iff.1 h2, (HMI.out j0 (by omega)).may⟩)
    have HROOT := Lib.hid (fun hu => mayS_root hmi.may hu)
    have HSTEP := Lib.hid (fun hk => mayS_step hmi.may hk)
    have g1 := hmi.dead
    have g2 := hmi.born
    have g3 := hmi.births
    have HROW1 := Lib.hid hrow
    have HK := Lib.hid hk
    clear hk hkl hs hrow hmi hborn
    go_wp2_with ((with_reducible refine wpList_load_k ?b01 37 (.tmp 27) ?b11 rb (ro + k * 12) ?b21 s.cells.toList _ HROW1.out Try.underlying37 ?b31 ?b41 ?b81); (case b11 => rfl); (case b01 => rfl); (case b21 => rfl); (case b31 => rfl); (case b41 => kernel_rfl))
    intro cv1 hcv1
    go_wp2_with ((with_reducible refine wpList_store_k ?a01 37 (.tmp 4) (.tmp 28) ?a11 wr.heap.size 0 s.cells.toList ?a21 cv1 ?a31 hcv1 ?a51 ?a61 ?a71 ?a81); (case a11 => rfl); (case a01 => rfl); (case a21 => rfl); (case a31 => rfl); (case a51 => exact thereZ _ _); (case a61 => kernel_rfl); (case a71 => exact SesM.oneS _))
    intro w4 hw4
    obtain ⟨hpx, hb4⟩ := putZ hw4
    have HSX := Lib.hid hpx
    have HX4 := Lib.hid (HXr.out.below hb4)
    have HB4 := Lib.hid (HBr.out.trans (hb4.mono HBr.out.size))
    have s1 : w4.cell? ⟨wr.heap.size, 1, none⟩ = some (.int .i64 s.birth) := hpx.cell 1 _ rfl
    have s3 : w4.cell? ⟨wr.heap.size, 3, none⟩ = some (.int .i64 s.upB) := hpx.cell 3 _ rfl
    have s4 : w4.cell? ⟨wr.heap.size, 4, none⟩ = some (.int .i64 s.kind) := hpx.cell 4 _ rfl
    have s9 : w4.cell? ⟨wr.heap.size, 9, none⟩ = some (.int .i64 s.born) := hpx.cell 9 _ rfl
    have s10 : w4.cell? ⟨wr.heap.size, 10, none⟩ = some (.int .i64 s.deadline) := hpx.cell 10 _ rfl
    have s11 : w4.cell? ⟨wr.heap.size, 11, none⟩ = some (.int .i64 s.depth) := hpx.cell 11 _ rfl
    have c0 : w4.cell? ⟨w.heap.size, 0, none⟩ = some (.int .i64 c) := HX4.out.cell 0 _ rfl
    have c1 : w4.cell? ⟨w.heap.size, 1, none⟩ = some (.int .i64 b) := HX4.out.cell 1 _ rfl
    clear hcv1 hw4 hpx hb4 c2 HBr HXr HROW1
    generalize wr.heap.size = sb at HSX s1 s3 s4 s9 s10 s11 ⊢
    by_cases hu : s.upB = 0
    · obtain ⟨h5, h6⟩ := HROOT.out hu
      have t1 : (s.upB == 0) = true := by rw [hu]; rfl
      have t2 : (s.depth != 0) = false := by rw [h6]; rfl
      have t3 : (s.kind != 0) = false := by rw [h5]; rfl
      clear hu h5 h6
      go_wp2_with fail
      go_roundg (n - (k + 1))
      case measure => have := HGK.out; have := HK.out; omega
      case rel => exact ⟨k + 1, by have := HGK.out; have := HK.out; omega, by go_num, HB4.out⟩
    have t1 : (s.upB == 0) = false := by rw [beq_eq_false_iff_ne]; exact hu
    obtain ⟨j0, hj0, hjk, hup, hbl, hmp⟩ := HPAR.out hu
    have HJ0 := Lib.hid (And.intro hj0 hjk)
    have HPJ := Lib.hid (And.intro hup (And.intro hbl hmp))
    clear hu hjk hup hbl hmp
    go_wp2_with fail
    clear t1 g1 g2 g3
    go_loopg [5, 6] k (fun gk fv iv wr => ∃ (j : Nat) (f : Bool), gk + j = k ∧ iv = .int .i64 (j : Int) ∧ fv = .bool f ∧ f = decide (j0 < j) ∧ Below w4.heap.size w4 wr)
    case atStart => exact ⟨0, false, rfl, rfl, rfl, by simp, Below.refl _ _⟩
    case round =>
      obtain ⟨j, f, hgj, rfl, rfl, hf, hb⟩ := hrel
      have j0' : (0 : Int) ≤ (j : Int) := by omega
      have HGJ := Lib.hid hgj
      have HF := Lib.hid hf
      have HBj := Lib.hid hb
      have HSj := Lib.hid (HSX.out.below hb)
      have hxj := HX4.out.below hb
      have HXj := Lib.hid hxj
      have c2 : wr.cell? ⟨w.heap.size, 2, none⟩ = some (.slice (some ⟨rb, ro, none⟩) n cap) := hxj.cell 2 _ rfl
      clear hgj hf hb hxj s1 s3 s4 s9 s10 s11 c0 c1
      by_cases hj : j < k
      rotate_left
      · have j1 : ¬ (j : Int) < (k : Int) := by omega
        have hft : f = true := by rw [HF.out]; have := HJ0.out.2; simp; omega
        subst hft
        have HB5 := Lib.hid (HB4.out.trans (HBj.out.mono HB4.out.size))
        clear hj
        go_wp2_with fail
        go_roundg (n - (k + 1))
        case measure => have := HGK.out; have := HK.out; omega
        case rel => exact ⟨k + 1, by have := HGK.out; have := HK.out; omega, by go_num, HB5.out⟩
      have j1 : (j : Int) < (k : Int) := by omega
      have j2 : (j : Int) < (n : Int) := by omega
      have hjl : j < l.length := by have := HN.out; omega
      obtain ⟨p, hp⟩ : ∃ p, p = l[j] := ⟨_, rfl⟩
      obtain ⟨rb', ro', hra, hrow⟩ := (((HR.out.below HB3.out).below HB4.out).below HBj.out).row j hjl
      injection hra with hra
      injection hra with e5 e6
      subst e5
      subst e6
      rw [← hp] at hrow
      have HROW2 := Lib.hid hrow
      have HJ := Lib.hid hj
      have HPE := Lib.hid (show (j = j0 ∧ (s.upS = p.slot ∧ s.upB = p.birth) ∧ BelowM s p ∧ mayS p = true) ∨ (j ≠ j0 ∧ p.birth ≠ s.upB) from by
        rcases Nat.lt_trichotomy j j0 with h | h | h
        · right
          have := HASC.out j0 HJ0.out.1 j h
          have h2 := HPJ.out.1.2
          rw [hp]
          exact ⟨by omega, by omega⟩
        · left
          subst h
          have h2 := HPJ.out
          rw [← hp] at h2
          exact ⟨rfl, h2⟩
        · right
          have := HASC.out j hjl j0 h
          have h2 := HPJ.out.1.2
          rw [hp]
          exact ⟨by omega, by omega⟩)
      clear hj hjl hp hrow
      go_wp2_with ((with_reducible refine wpList_load_k ?b02 37 (.tmp 68) ?b12 rb (ro + j * 12) ?b22 p.cells.toList _ HROW2.out Try.underlying37 ?b32 ?b42 ?b82); (case b12 => rfl); (case b02 => rfl); (case b22 => rfl); (case b32 => rfl); (case b42 => kernel_rfl))
      intro cv2 hcv2
      go_wp2_with ((with_reducible refine wpList_store_k ?a02 37 (.tmp 7) (.tmp 69) ?a12 wr.heap.size 0 p.cells.toList ?a22 cv2 ?a32 hcv2 ?a52 ?a62 ?a72 ?a82); (case a12 => rfl); (case a02 => rfl); (case a22 => rfl); (case a32 => rfl); (case a52 => exact thereZ _ _); (case a62 => kernel_rfl); (case a72 => exact SesM.oneS _))
      intro w5 hw5
      obtain ⟨hpx, hb5⟩ := putZ hw5
      have HS5 := Lib.hid (HSj.out.below hb5)
      have HB5 := Lib.hid (HBj.out.trans (hb5.mono HBj.out.size))
      have s2 : w5.cell? ⟨sb, 2, none⟩ = some (.int .i64 s.upS) := HS5.out.cell 2 _ rfl
      have s3 : w5.cell? ⟨sb, 3, none⟩ = some (.int .i64 s.upB) := HS5.out.cell 3 _ rfl
      have s4 : w5.cell? ⟨sb, 4, none⟩ = some (.int .i64 s.kind) := HS5.out.cell 4 _ rfl
      have s7 : w5.cell? ⟨sb, 7, none⟩ = some (.int .u64 (s.scopes : Int)) := HS5.out.cell 7 _ rfl
      have s8 : w5.cell? ⟨sb, 8, none⟩ = some (.int .i64 s.level) := HS5.out.cell 8 _ rfl
      have s9 : w5.cell? ⟨sb, 9, none⟩ = some (.int .i64 s.born) := HS5.out.cell 9 _ rfl
      have s10 : w5.cell? ⟨sb, 10, none⟩ = some (.int .i64 s.deadline) := HS5.out.cell 10 _ rfl
      have s11 : w5.cell? ⟨sb, 11, none⟩ = some (.int .i64 s.depth) := HS5.out.cell 11 _ rfl
      have p0 : w5.cell? ⟨wr.heap.size, 0, none⟩ = some (.int .i64 p.slot) := hpx.cell 0 _ rfl
      have p1 : w5.cell? ⟨wr.heap.size, 1, none⟩ = some (.int .i64 p.birth) := hpx.cell 1 _ rfl
      have p7 : w5.cell? ⟨wr.heap.size, 7, none⟩ = some (.int .u64 (p.scopes : Int)) := hpx.cell 7 _ rfl
      have p8 : w5.cell? ⟨wr.heap.size, 8, none⟩ = some (.int .i64 p.level) := hpx.cell 8 _ rfl
      have p10 : w5.cell? ⟨wr.heap.size, 10, none⟩ = some (.int .i64 p.deadline) := hpx.cell 10 _ rfl
      have p11 : w5.cell? ⟨wr.heap.size, 11, none⟩ = some (.int .i64 p.depth) := hpx.cell 11 _ rfl
      clear hcv2 hw5 hpx hb5 c2 HBj HXj HSj HROW2
      rcases HPE.out with ⟨hj, hu, hbl, hmp⟩ | ⟨hj, hu⟩
      rotate_left
      · have t4 : (p.birth != s.upB) = true := by rw [bne_iff_ne]; exact hu
        have HF2 := Lib.hid (show f = decide (j0 < j + 1) by rw [HF.out]; congr 1; rw [eq_iff_iff]; omega)
        clear hu hj
        go_wp2_with fail
        go_roundg (k - (j + 1))
        case measure => have := HGJ.out; have := HJ.out; omega
        case rel => exact ⟨j + 1, f, by have := HGJ.out; have := HJ.out; omega, by go_num, rfl, HF2.out, HB5.out⟩
      have t4 : (p.birth != s.upB) = false := by rw [bne, hu.2]; simp
      have t5 : (s.upS != p.slot) = false := by rw [bne, hu.1]; simp
      have t6 : (bits .andNot .u64 (s.scopes : Int) (p.scopes : Int) != 0) = false := by have := hbl.sc; unfold scIn at this; rw [bne, this]; rfl
      have t7 : ¬ p.deadline < s.deadline := by have := hbl.dead; omega
      have hdp := mayS_depth hmp
      have z1 : IntKind.i64.wrap (p.depth + 1) = p.depth + 1 := by simp [IntKind.wrap, IntKind.bits, IntKind.signed]; omega
      have d0 : 0 ≤ p.depth := hdp.1
      have d1 : p.depth ≤ 6 := hdp.2
      have t8 : (s.depth != p.depth + 1) = false := by rw [bne, hbl.depth]; simp
      have HF2 := Lib.hid (show true = decide (j0 < j + 1) by symm; rw [decide_eq_true_iff]; omega)
      have HLV := Lib.hid hbl.level
      clear hu hj hbl hmp hdp
      by_cases hlv : p.level < s.level
      · have hk2 := HLV.out.1 hlv
        have t9 : (s.kind != 2) = false := by rw [hk2]; rfl
        have t10 := HSTEP.out hk2
        have z2 := HZB.out
        have t11 : ¬ s.born + 300 < s.deadline := by omega
        clear hk2 t10
        go_wp2_with fail
        go_roundg (k - (j + 1))
        case measure => have := HGJ.out; have := HJ.out; omega
        case rel => exact ⟨j + 1, true, by have := HGJ.out; have := HJ.out; omega, by go_num, rfl, HF2.out, HB5.out⟩
      go_wp2_with fail
      go_roundg (k - (j + 1))
      case measure => have := HGJ.out; have := HJ.out; omega
      case rel => exact ⟨j + 1, true, by have := HGJ.out; have := HJ.out; omega, by go_num, rfl, HF2.out, HB5.out⟩
end Go.Proofs.Ytdaimaibnjkfbaa
