/-
  The document's bytes of sessions, of states.
-/
import Derived.Test.YtdaimaibnjkfbaaDoorImR3
import Derived.Test.YtdaimaibnjkfbaaDoorImEnc
namespace Go.Proofs.YtdaimaibnjkfbaaDoor
open Go.RowKit
set_option maxRecDepth 100000

theorem refBytes25_calls {n : Int} (h : N63 n) (w : World) :
    Calls Tryd.prog 34 #[.int .i64 n] w fun e w' => ∃ o, e = .returned o ∧ OwnM w' w.heap.size 5 o (numB n).length ((numB n).map V8) ∧ Below w.heap.size w w' := by
  obtain ⟨h1, h2⟩ := h
  obtain ⟨k, rfl⟩ : ∃ k : Nat, n = (k : Int) := ⟨n.toNat, by omega⟩
  have Hc := Lib.hid (refSevens_calls k w (by omega))
  have z1 := mod_u64n k (by omega)
  go_enter Tryd.func34, Tryd.ntmps34
  go_wp2_with fail
  refine Hc.out.mono ?_
  rintro e w1 ⟨o, rfl, ho, hb⟩
  have HO := Lib.hid ho
  have HB := Lib.hid hb
  clear ho hb
  go_wp2_with fail
  go_ret
  exact ⟨_, rfl, HO.out, HB.out⟩
set_option maxHeartbeats 6400000 in
theorem refSes25_calls (s : SesM) (w : World) (hs : SesN s) (hsc : s.scopes < 2 ^ 64) :
    Calls Tryd.prog 35 #[.agg s.cells] w fun ev w' => ∃ o, ev = .returned o ∧ OwnM w' w.heap.size 5 o (sesOn [] s).length ((sesOn [] s).map V8) ∧ Below w.heap.size w w' := by
  have HS := Lib.hid hs
  have HSC := Lib.hid hsc
  have Hbx0 := Lib.hid (Box.new w s.cells 56)
  have HB0 := Lib.hid (below_alloc w (.cells s.cells 56))
  have HE := Lib.hid (show s.cells = #[.int .i64 s.slot, .int .i64 s.birth, .int .i64 s.upS, .int .i64 s.upB, .int .i64 s.kind, .string (SB s.user), .string (SB s.label), .int .u64 (s.scopes : Int), .int .i64 s.level, .int .i64 s.born, .int .i64 s.deadline, .int .i64 s.depth] from rfl)
  have HQ := Lib.hid (show sesOn [] s = _ from by unfold sesOn; rw [List.nil_append])
  rw [HE.out] at Hbx0 HB0 ⊢
  have Hk := Lib.hid (refBytes25_calls hs.slot)
  clear hs hsc
  go_enter Tryd.func35, Tryd.ntmps35
  go_wp2_with fail
  refine (Hk.out _).mono ?_
  rintro ev w1 ⟨v0, rfl, ho, hb⟩
  have hp : PutSt w w1 w.heap.size #[.int .i64 s.slot, .int .i64 s.birth, .int .i64 s.upS, .int .i64 s.upB, .int .i64 s.kind, .string (SB s.user), .string (SB s.label), .int .u64 (s.scopes : Int), .int .i64 s.level, .int .i64 s.born, .int .i64 s.deadline, .int .i64 s.depth] 56 v0 (numB s.slot) := ⟨Hbx0.out.below hb, ho.lower (by simp), fun e2 => by have := (ho.lt _ e2).1; simp at this; omega, HB0.out.trans (hb.mono (by simp))⟩
  obtain ⟨A0, hA0⟩ : ∃ A0, A0 = numB s.slot := ⟨_, rfl⟩
  have HL0 := Lib.hid (numB_len s.slot)
  rw [← hA0] at hp HL0
  have HQ0 := Lib.hid hp
  have HA0 := Lib.hid hA0
  clear hp ho hb Hbx0 HB0 hA0
  have Hn := Lib.hid (refBytes25_calls HS.out.birth)
  have hd : (numB s.birth).length ≤ 10 := numB_len _
  have c1 := HQ0.out.bx.cell 1 _ rfl
  have HR := Lib.hid (show A0.length + (numB s.birth).length ≤ 140737488355328 by have := HL0.out; omega)
  have HL1 := Lib.hid (show (A0 ++ numB s.birth).length ≤ 20 by have := HL0.out; rw [List.length_append]; omega)
  clear hd
  go_wp2_with fail
  refine (Hn.out _).mono ?_
  rintro ev x0 ⟨o0, rfl, ho1, hb1⟩
  have HP1 := Lib.hid (HQ0.out.call hb1)
  have HO1 := Lib.hid ho1
  clear ho1 hb1 c1 Hn HQ0 HL0
  go_wp2_with (at_builtin; refine appMR rfl _ _ rfl w.heap.size _ _ _ rfl HP1.out.own _ (numB s.birth) rfl HO1.out.rd HR.out HP1.out.bel.size ?_)
  intro v1 y1 hown' hg' hm'
  have hP := HP1.out.app hown' hg' hm'
  obtain ⟨A1, hA⟩ : ∃ B, B = A0 ++ numB s.birth := ⟨_, rfl⟩
  rw [← hA] at hP HL1
  have HQ1 := Lib.hid hP
  have HA1 := Lib.hid hA
  clear hP hA hown' hg' hm' HP1 HO1 HR
  have Hn := Lib.hid (refBytes25_calls HS.out.upS)
  have hd : (numB s.upS).length ≤ 10 := numB_len _
  have c1 := HQ1.out.bx.cell 2 _ rfl
  have HR := Lib.hid (show A1.length + (numB s.upS).length ≤ 140737488355328 by have := HL1.out; omega)
  have HL2 := Lib.hid (show (A1 ++ numB s.upS).length ≤ 30 by have := HL1.out; rw [List.length_append]; omega)
  clear hd
  go_wp2_with fail
  refine (Hn.out _).mono ?_
  rintro ev x1 ⟨o1, rfl, ho1, hb1⟩
  have HP1 := Lib.hid (HQ1.out.call hb1)
  have HO1 := Lib.hid ho1
  clear ho1 hb1 c1 Hn HQ1 HL1
  go_wp2_with (at_builtin; refine appMR rfl _ _ rfl w.heap.size _ _ _ rfl HP1.out.own _ (numB s.upS) rfl HO1.out.rd HR.out HP1.out.bel.size ?_)
  intro v2 y2 hown' hg' hm'
  have hP := HP1.out.app hown' hg' hm'
  obtain ⟨A2, hA⟩ : ∃ B, B = A1 ++ numB s.upS := ⟨_, rfl⟩
  rw [← hA] at hP HL2
  have HQ2 := Lib.hid hP
  have HA2 := Lib.hid hA
  clear hP hA hown' hg' hm' HP1 HO1 HR
  have Hn := Lib.hid (refBytes25_calls HS.out.upB)
  have hd : (numB s.upB).length ≤ 10 := numB_len _
  have c1 := HQ2.out.bx.cell 3 _ rfl
  have HR := Lib.hid (show A2.length + (numB s.upB).length ≤ 140737488355328 by have := HL2.out; omega)
  have HL3 := Lib.hid (show (A2 ++ numB s.upB).length ≤ 40 by have := HL2.out; rw [List.length_append]; omega)
  clear hd
  go_wp2_with fail
  refine (Hn.out _).mono ?_
  rintro ev x2 ⟨o2, rfl, ho1, hb1⟩
  have HP1 := Lib.hid (HQ2.out.call hb1)
  have HO1 := Lib.hid ho1
  clear ho1 hb1 c1 Hn HQ2 HL2
  go_wp2_with (at_builtin; refine appMR rfl _ _ rfl w.heap.size _ _ _ rfl HP1.out.own _ (numB s.upB) rfl HO1.out.rd HR.out HP1.out.bel.size ?_)
  intro v3 y3 hown' hg' hm'
  have hP := HP1.out.app hown' hg' hm'
  obtain ⟨A3, hA⟩ : ∃ B, B = A2 ++ numB s.upB := ⟨_, rfl⟩
  rw [← hA] at hP HL3
  have HQ3 := Lib.hid hP
  have HA3 := Lib.hid hA
  clear hP hA hown' hg' hm' HP1 HO1 HR
  have Hn := Lib.hid (refBytes25_calls HS.out.kind)
  have hd : (numB s.kind).length ≤ 10 := numB_len _
  have c1 := HQ3.out.bx.cell 4 _ rfl
  have HR := Lib.hid (show A3.length + (numB s.kind).length ≤ 140737488355328 by have := HL3.out; omega)
  have HL4 := Lib.hid (show (A3 ++ numB s.kind).length ≤ 50 by have := HL3.out; rw [List.length_append]; omega)
  clear hd
  go_wp2_with fail
  refine (Hn.out _).mono ?_
  rintro ev x3 ⟨o3, rfl, ho1, hb1⟩
  have HP1 := Lib.hid (HQ3.out.call hb1)
  have HO1 := Lib.hid ho1
  clear ho1 hb1 c1 Hn HQ3 HL3
  go_wp2_with (at_builtin; refine appMR rfl _ _ rfl w.heap.size _ _ _ rfl HP1.out.own _ (numB s.kind) rfl HO1.out.rd HR.out HP1.out.bel.size ?_)
  intro v4 y4 hown' hg' hm'
  have hP := HP1.out.app hown' hg' hm'
  obtain ⟨A4, hA⟩ : ∃ B, B = A3 ++ numB s.kind := ⟨_, rfl⟩
  rw [← hA] at hP HL4
  have HQ4 := Lib.hid hP
  have HA4 := Lib.hid hA
  clear hP hA hown' hg' hm' HP1 HO1 HR
  have Hn := Lib.hid (fun w => refText_calls s.user w (by have := HS.out.user; omega))
  have hd : (textB s.user).length ≤ 42 := textB_len HS.out.user
  have c1 := HQ4.out.bx.cell 5 _ rfl
  have HR := Lib.hid (show A4.length + (textB s.user).length ≤ 140737488355328 by have := HL4.out; omega)
  have HL5 := Lib.hid (show (A4 ++ textB s.user).length ≤ 92 by have := HL4.out; rw [List.length_append]; omega)
  clear hd
  go_wp2_with fail
  refine (Hn.out _).mono ?_
  rintro ev x4 ⟨o4, rfl, ho1, hb1⟩
  have HP1 := Lib.hid (HQ4.out.call hb1)
  have HO1 := Lib.hid ho1
  clear ho1 hb1 c1 Hn HQ4 HL4
  go_wp2_with (at_builtin; refine appMR rfl _ _ rfl w.heap.size _ _ _ rfl HP1.out.own _ (textB s.user) rfl HO1.out.rd HR.out HP1.out.bel.size ?_)
  intro v5 y5 hown' hg' hm'
  have hP := HP1.out.app hown' hg' hm'
  obtain ⟨A5, hA⟩ : ∃ B, B = A4 ++ textB s.user := ⟨_, rfl⟩
  rw [← hA] at hP HL5
  have HQ5 := Lib.hid hP
  have HA5 := Lib.hid hA
  clear hP hA hown' hg' hm' HP1 HO1 HR
  have Hn := Lib.hid (fun w => refText_calls s.label w (by have := HS.out.label; omega))
  have hd : (textB s.label).length ≤ 42 := textB_len HS.out.label
  have c1 := HQ5.out.bx.cell 6 _ rfl
  have HR := Lib.hid (show A5.length + (textB s.label).length ≤ 140737488355328 by have := HL5.out; omega)
  have HL6 := Lib.hid (show (A5 ++ textB s.label).length ≤ 134 by have := HL5.out; rw [List.length_append]; omega)
  clear hd
  go_wp2_with fail
  refine (Hn.out _).mono ?_
  rintro ev x5 ⟨o5, rfl, ho1, hb1⟩
  have HP1 := Lib.hid (HQ5.out.call hb1)
  have HO1 := Lib.hid ho1
  clear ho1 hb1 c1 Hn HQ5 HL5
  go_wp2_with (at_builtin; refine appMR rfl _ _ rfl w.heap.size _ _ _ rfl HP1.out.own _ (textB s.label) rfl HO1.out.rd HR.out HP1.out.bel.size ?_)
  intro v6 y6 hown' hg' hm'
  have hP := HP1.out.app hown' hg' hm'
  obtain ⟨A6, hA⟩ : ∃ B, B = A5 ++ textB s.label := ⟨_, rfl⟩
  rw [← hA] at hP HL6
  have HQ6 := Lib.hid hP
  have HA6 := Lib.hid hA
  clear hP hA hown' hg' hm' HP1 HO1 HR
  have Hn := Lib.hid (fun w => refSevens_calls s.scopes w HSC.out)
  have hd : (sevM s.scopes).length ≤ 10 := sevM_len _
  have c1 := HQ6.out.bx.cell 7 _ rfl
  have HR := Lib.hid (show A6.length + (sevM s.scopes).length ≤ 140737488355328 by have := HL6.out; omega)
  have HL7 := Lib.hid (show (A6 ++ sevM s.scopes).length ≤ 144 by have := HL6.out; rw [List.length_append]; omega)
  clear hd
  go_wp2_with fail
  refine (Hn.out _).mono ?_
  rintro ev x6 ⟨o6, rfl, ho1, hb1⟩
  have HP1 := Lib.hid (HQ6.out.call hb1)
  have HO1 := Lib.hid ho1
  clear ho1 hb1 c1 Hn HQ6 HL6
  go_wp2_with (at_builtin; refine appMR rfl _ _ rfl w.heap.size _ _ _ rfl HP1.out.own _ (sevM s.scopes) rfl HO1.out.rd HR.out HP1.out.bel.size ?_)
  intro v7 y7 hown' hg' hm'
  have hP := HP1.out.app hown' hg' hm'
  obtain ⟨A7, hA⟩ : ∃ B, B = A6 ++ sevM s.scopes := ⟨_, rfl⟩
  rw [← hA] at hP HL7
  have HQ7 := Lib.hid hP
  have HA7 := Lib.hid hA
  clear hP hA hown' hg' hm' HP1 HO1 HR
  have Hn := Lib.hid (refBytes25_calls HS.out.level)
  have hd : (numB s.level).length ≤ 10 := numB_len _
  have c1 := HQ7.out.bx.cell 8 _ rfl
  have HR := Lib.hid (show A7.length + (numB s.level).length ≤ 140737488355328 by have := HL7.out; omega)
  have HL8 := Lib.hid (show (A7 ++ numB s.level).length ≤ 154 by have := HL7.out; rw [List.length_append]; omega)
  clear hd
  go_wp2_with fail
  refine (Hn.out _).mono ?_
  rintro ev x7 ⟨o7, rfl, ho1, hb1⟩
  have HP1 := Lib.hid (HQ7.out.call hb1)
  have HO1 := Lib.hid ho1
  clear ho1 hb1 c1 Hn HQ7 HL7
  go_wp2_with (at_builtin; refine appMR rfl _ _ rfl w.heap.size _ _ _ rfl HP1.out.own _ (numB s.level) rfl HO1.out.rd HR.out HP1.out.bel.size ?_)
  intro v8 y8 hown' hg' hm'
  have hP := HP1.out.app hown' hg' hm'
  obtain ⟨A8, hA⟩ : ∃ B, B = A7 ++ numB s.level := ⟨_, rfl⟩
  rw [← hA] at hP HL8
  have HQ8 := Lib.hid hP
  have HA8 := Lib.hid hA
  clear hP hA hown' hg' hm' HP1 HO1 HR
  have Hn := Lib.hid (refBytes25_calls HS.out.born)
  have hd : (numB s.born).length ≤ 10 := numB_len _
  have c1 := HQ8.out.bx.cell 9 _ rfl
  have HR := Lib.hid (show A8.length + (numB s.born).length ≤ 140737488355328 by have := HL8.out; omega)
  have HL9 := Lib.hid (show (A8 ++ numB s.born).length ≤ 164 by have := HL8.out; rw [List.length_append]; omega)
  clear hd
  go_wp2_with fail
  refine (Hn.out _).mono ?_
  rintro ev x8 ⟨o8, rfl, ho1, hb1⟩
  have HP1 := Lib.hid (HQ8.out.call hb1)
  have HO1 := Lib.hid ho1
  clear ho1 hb1 c1 Hn HQ8 HL8
  go_wp2_with (at_builtin; refine appMR rfl _ _ rfl w.heap.size _ _ _ rfl HP1.out.own _ (numB s.born) rfl HO1.out.rd HR.out HP1.out.bel.size ?_)
  intro v9 y9 hown' hg' hm'
  have hP := HP1.out.app hown' hg' hm'
  obtain ⟨A9, hA⟩ : ∃ B, B = A8 ++ numB s.born := ⟨_, rfl⟩
  rw [← hA] at hP HL9
  have HQ9 := Lib.hid hP
  have HA9 := Lib.hid hA
  clear hP hA hown' hg' hm' HP1 HO1 HR
  have Hn := Lib.hid (refBytes25_calls HS.out.deadline)
  have hd : (numB s.deadline).length ≤ 10 := numB_len _
  have c1 := HQ9.out.bx.cell 10 _ rfl
  have HR := Lib.hid (show A9.length + (numB s.deadline).length ≤ 140737488355328 by have := HL9.out; omega)
  have HL10 := Lib.hid (show (A9 ++ numB s.deadline).length ≤ 174 by have := HL9.out; rw [List.length_append]; omega)
  clear hd
  go_wp2_with fail
  refine (Hn.out _).mono ?_
  rintro ev x9 ⟨o9, rfl, ho1, hb1⟩
  have HP1 := Lib.hid (HQ9.out.call hb1)
  have HO1 := Lib.hid ho1
  clear ho1 hb1 c1 Hn HQ9 HL9
  go_wp2_with (at_builtin; refine appMR rfl _ _ rfl w.heap.size _ _ _ rfl HP1.out.own _ (numB s.deadline) rfl HO1.out.rd HR.out HP1.out.bel.size ?_)
  intro v10 y10 hown' hg' hm'
  have hP := HP1.out.app hown' hg' hm'
  obtain ⟨A10, hA⟩ : ∃ B, B = A9 ++ numB s.deadline := ⟨_, rfl⟩
  rw [← hA] at hP HL10
  have HQ10 := Lib.hid hP
  have HA10 := Lib.hid hA
  clear hP hA hown' hg' hm' HP1 HO1 HR
  have Hn := Lib.hid (refBytes25_calls HS.out.depth)
  have hd : (numB s.depth).length ≤ 10 := numB_len _
  have c1 := HQ10.out.bx.cell 11 _ rfl
  have HR := Lib.hid (show A10.length + (numB s.depth).length ≤ 140737488355328 by have := HL10.out; omega)
  have HL11 := Lib.hid (show (A10 ++ numB s.depth).length ≤ 184 by have := HL10.out; rw [List.length_append]; omega)
  clear hd
  go_wp2_with fail
  refine (Hn.out _).mono ?_
  rintro ev x10 ⟨o10, rfl, ho1, hb1⟩
  have HP1 := Lib.hid (HQ10.out.call hb1)
  have HO1 := Lib.hid ho1
  clear ho1 hb1 c1 Hn HQ10 HL10
  go_wp2_with (at_builtin; refine appMR rfl _ _ rfl w.heap.size _ _ _ rfl HP1.out.own _ (numB s.depth) rfl HO1.out.rd HR.out HP1.out.bel.size ?_)
  intro v11 y11 hown' hg' hm'
  have hP := HP1.out.app hown' hg' hm'
  obtain ⟨A11, hA⟩ : ∃ B, B = A10 ++ numB s.depth := ⟨_, rfl⟩
  rw [← hA] at hP HL11
  have HQ11 := Lib.hid hP
  have HA11 := Lib.hid hA
  clear hP hA hown' hg' hm' HP1 HO1 HR
  go_wp2_with fail
  go_ret
  rw [HQ.out, ← HA0.out, ← HA1.out, ← HA2.out, ← HA3.out, ← HA4.out, ← HA5.out, ← HA6.out, ← HA7.out, ← HA8.out, ← HA9.out, ← HA10.out, ← HA11.out]
  exact ⟨_, rfl, HQ11.out.own, HQ11.out.bel⟩
set_option maxHeartbeats 6400000 in
theorem refEnc25_calls (st : StM) (v : Value) (w : World) (hr : RdS w v st.l) (ho : ∀ s ∈ st.l, SesOk s) :
    Calls Tryd.prog 13 #[.agg #[.int .i64 st.clock, .int .i64 st.births, v]] w fun ev w' => ∃ o, ev = .returned (.tuple #[o, .int .i64 (imgN st)]) ∧ OwnM w' w.heap.size 5 o (imgM st).length ((imgM st).map V8) ∧ Below w.heap.size w w' := by
  obtain ⟨a, cap, rfl, hc1, hc2⟩ := hr.slice
  have HCK := Lib.hid (fun w' hb => refCheck_calls st (.slice a st.l.length cap) w' (hr.below hb) ho)
  have HR0 := Lib.hid hr
  have HO := Lib.hid ho
  have HX0 := Lib.hid (Box.new w #[.int .i64 st.clock, .int .i64 st.births, .slice a st.l.length cap] 24)
  have HB := Lib.hid (below_alloc w (.cells #[.int .i64 st.clock, .int .i64 st.births, .slice a st.l.length cap] 24))
  have hln : st.l.length ≤ 9223372036854775807 := by omega
  clear hr ho hc1
  go_enter Tryd.func13, Tryd.ntmps13
  go_wp2_with fail
  refine (HCK.out _ HB.out).mono ?_
  rintro ev w1 ⟨rfl, hb1⟩
  have HB1 := Lib.hid (HB.out.trans (hb1.mono HB.out.size))
  have HX1 := Lib.hid (HX0.out.below hb1)
  clear hb1 HB HX0 HCK
  cases hck : checkM st with
  | some n =>
    have H1 := Lib.hid (show imgM st = [] by unfold imgM; rw [hck]; rfl)
    have H2 := Lib.hid (show imgN st = 24 by unfold imgN; rw [hck]; rfl)
    rw [show (chkN (some n)).1 = 24 from rfl, show (chkN (some n)).2 = n from rfl]
    clear hck
    go_wp2_with fail
    refine bodyPost_ret (results_tmp2 rfl _ _ _) rfl ?_
    rw [H1.out, H2.out]
    exact ⟨_, rfl, OwnM.nil _ _ _, HB1.out⟩
  | none =>
  have H1 := Lib.hid (show imgM st = imgB st by unfold imgM; rw [hck]; rfl)
  have H2 := Lib.hid (show imgN st = 0 by unfold imgN; rw [hck]; rfl)
  have HPA := Lib.hid (check_parts hck)
  have HLB := Lib.hid (imgB_len hck)
  rw [show (chkN none).1 = 0 from rfl, show (chkN none).2 = 0 from rfl]
  clear hck
  have n3 : N63 (st.l.length : Int) := ⟨by omega, by have := HPA.out.2.2.1; omega⟩
  have HN3 := Lib.hid n3
  have Hk1 := Lib.hid (refBytes25_calls HPA.out.1)
  have Hk2 := Lib.hid (refBytes25_calls HPA.out.2.1)
  have Hk3 := Lib.hid (refBytes25_calls n3)
  have c0 : w1.cell? ⟨w.heap.size, 0, none⟩ = some (.int .i64 st.clock) := HX1.out.cell 0 _ rfl
  clear n3
  go_wp2_with fail
  refine (Hk1.out _).mono ?_
  rintro ev w2 ⟨v0, rfl, ho2, hb2⟩
  have HQ0 := Lib.hid (show PutSt w w2 w.heap.size #[.int .i64 st.clock, .int .i64 st.births, .slice a st.l.length cap] 24 v0 (numB st.clock) from ⟨HX1.out.below hb2, ho2.lower HB1.out.size, fun e2 => by have := (ho2.lt _ e2).1; have := HX1.out.lt; omega, HB1.out.trans (hb2.mono HB1.out.size)⟩)
  clear ho2 hb2 c0 HX1 HB1 Hk1
  have c1 : w2.cell? ⟨w.heap.size, 1, none⟩ = some (.int .i64 st.births) := HQ0.out.bx.cell 1 _ rfl
  go_wp2_with fail
  refine (Hk2.out _).mono ?_
  rintro ev w3 ⟨o1, rfl, ho1, hb1⟩
  have HP1 := Lib.hid (HQ0.out.call hb1)
  have HO1 := Lib.hid ho1
  have HR := Lib.hid (show (numB st.clock).length + (numB st.births).length ≤ 140737488355328 by have := numB_len st.clock; have := numB_len st.births; omega)
  clear ho1 hb1 c1 Hk2 HQ0
  go_wp2_with (at_builtin; refine appMR rfl _ _ rfl w.heap.size _ _ _ rfl HP1.out.own _ (numB st.births) rfl HO1.out.rd HR.out HP1.out.bel.size ?_)
  intro v1 y1 hown' hg' hm'
  have HQ1 := Lib.hid (HP1.out.app hown' hg' hm')
  clear hown' hg' hm' HP1 HO1 HR
  obtain ⟨A1, hA1⟩ : ∃ B, B = numB st.clock ++ numB st.births := ⟨_, rfl⟩
  have HL1 := Lib.hid (show A1.length ≤ 20 by rw [hA1, List.length_append]; have := numB_len st.clock; have := numB_len st.births; omega)
  rw [← hA1] at HQ1
  have HA1 := Lib.hid hA1
  clear hA1
  have c2 : y1.cell? ⟨w.heap.size, 2, none⟩ = some (.slice a st.l.length cap) := HQ1.out.bx.cell 2 _ rfl
  go_wp2_with fail
  refine (Hk3.out _).mono ?_
  rintro ev w4 ⟨o2, rfl, ho1, hb1⟩
  have HP1 := Lib.hid (HQ1.out.call hb1)
  have HO1 := Lib.hid ho1
  have HR := Lib.hid (show A1.length + (numB (st.l.length : Int)).length ≤ 140737488355328 by have := HL1.out; have := numB_len (st.l.length : Int); omega)
  clear ho1 hb1 c2 Hk3 HQ1
  go_wp2_with (at_builtin; refine appMR rfl _ _ rfl w.heap.size _ _ _ rfl HP1.out.own _ (numB (st.l.length : Int)) rfl HO1.out.rd HR.out HP1.out.bel.size ?_)
  intro v2 y2 hown' hg' hm'
  have HQ2 := Lib.hid (HP1.out.app hown' hg' hm')
  clear hown' hg' hm' HP1 HO1 HR
  obtain ⟨A0, hA0⟩ : ∃ A0, A0 = A1 ++ numB (st.l.length : Int) := ⟨_, rfl⟩
  rw [← hA0] at HQ2
  have HEQ := Lib.hid (show imgB st = A0 ++ st.l.flatMap (sesOn []) by unfold imgB numsB; rw [hA0, HA1.out]; simp)
  have HA := Lib.hid (show A0.length ≤ 30 by rw [hA0, List.length_append]; have := HL1.out; have := numB_len (st.l.length : Int); omega)
  have HLS := Lib.hid (fun k => show (A0 ++ (st.l.take k).flatMap (sesOn [])).length ≤ 7000 by
    have h1 := HA.out
    have h2 := sesOns_len (l := st.l.take k) (fun s hs => HPA.out.2.2.2 s (List.mem_of_mem_take hs))
    have h3 := HPA.out.2.2.1
    rw [List.length_take] at h2
    rw [List.length_append]; omega)
  obtain ⟨n, hn⟩ : ∃ n, n = st.l.length := ⟨_, rfl⟩
  have HN := Lib.hid hn
  have hn2 : n ≤ 9223372036854775807 := by omega
  rw [← hn] at HQ2 ⊢
  clear hA0 hn hln
  go_wp2_with fail
  go_loopg [6, 7] n (fun gk ov iv wr => ∃ (k : Nat), gk + k = n ∧ iv = .int .i64 (k : Int) ∧ PutSt w wr w.heap.size #[.int .i64 st.clock, .int .i64 st.births, .slice a n cap] 24 ov (A0 ++ (st.l.take k).flatMap (sesOn [])))
  case atStart => exact ⟨0, by omega, rfl, by have := HQ2.out; simpa using this⟩
  case round =>
    obtain ⟨k, hgk, rfl, hst⟩ := hrel
    have HST := Lib.hid hst
    have HGK := Lib.hid hgk
    have k0 : (0 : Int) ≤ (k : Int) := by omega
    have c2 : wr.cell? ⟨w.heap.size, 2, none⟩ = some (.slice a n cap) := hst.bx.cell 2 _ rfl
    clear hst hgk HQ2
    by_cases hk : k < n
    rotate_left
    · have k1 : ¬ (k : Int) < (n : Int) := by omega
      have hT := HST.out
      rw [List.take_of_length_le (by have := HN.out; omega), ← HEQ.out] at hT
      have HT := Lib.hid hT
      clear hk hT HST
      go_wp2_with fail
      refine bodyPost_ret (results_tmp2 rfl _ _ _) rfl ?_
      rw [H1.out, H2.out]
      exact ⟨_, rfl, HT.out.own, HT.out.bel⟩
    have k1 : (k : Int) < (n : Int) := by omega
    have hkl : k < st.l.length := by have := HN.out; omega
    have HRr := Lib.hid (HR0.out.below HST.out.bel)
    obtain ⟨s, hs⟩ : ∃ s, s = st.l[k] := ⟨_, rfl⟩
    obtain ⟨rb, ro, hra, hrow⟩ := HRr.out.row k hkl
    subst hra
    rw [← hs] at hrow
    have HSE := Lib.hid (fun w => refSes25_calls s w (SesN.of (HPA.out.2.2.2 s (by rw [hs]; exact List.getElem_mem hkl))) (HO.out s (by rw [hs]; exact List.getElem_mem hkl)).scopes)
    have HTK := Lib.hid (show A0 ++ (st.l.take (k + 1)).flatMap (sesOn []) = (A0 ++ (st.l.take k).flatMap (sesOn [])) ++ sesOn [] s by
      rw [List.take_succ_eq_append_getElem hkl, List.flatMap_append, ← hs]
      simp only [List.flatMap_cons, List.flatMap_nil, List.append_nil, List.append_assoc])
    have hl1 := HLS.out (k + 1)
    rw [HTK.out, List.length_append] at hl1
    generalize A0 ++ (st.l.take k).flatMap (sesOn []) = Ak at HST HTK hl1
    have HR := Lib.hid (show Ak.length + (sesOn [] s).length ≤ 140737488355328 by omega)
    have HROW := Lib.hid hrow
    have HK := Lib.hid hk
    clear hk hkl hs hrow hl1
    go_wp2_with ((with_reducible refine wpList_load_k ?b0 56 (.tmp 41) ?b1 rb (ro + k * 12) ?b2 s.cells.toList _ HROW.out Tryd.underlying56 ?b3 ?b4 ?b8); (case b1 => rfl); (case b0 => rfl); (case b2 => rfl); (case b3 => rfl); (case b4 => kernel_rfl))
    intro cv hcv
    have ecv : cv = s.cells := by rw [hcv.out]
    subst ecv
    clear hcv c2 HROW HRr
    go_wp2_with fail
    refine (HSE.out _).mono ?_
    rintro ev w6 ⟨o6, rfl, ho1, hb1⟩
    have HP1 := Lib.hid (HST.out.call hb1)
    have HO1 := Lib.hid ho1
    clear ho1 hb1 HST HSE
    go_wp2_with (at_builtin; refine appMR rfl _ _ rfl w.heap.size _ _ _ rfl HP1.out.own _ (sesOn [] s) rfl HO1.out.rd HR.out HP1.out.bel.size ?_)
    intro v3 y3 hown' hg' hm'
    have HQ3 := Lib.hid (HP1.out.app hown' hg' hm')
    clear hown' hg' hm' HP1 HO1 HR
    rw [← HTK.out] at HQ3
    go_wp2_with fail
    go_roundg (n - (k + 1))
    case measure => have := HGK.out; have := HK.out; omega
    case rel => exact ⟨k + 1, by have := HGK.out; have := HK.out; omega, by go_num, HQ3.out⟩
end Go.Proofs.YtdaimaibnjkfbaaDoor
