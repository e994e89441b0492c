
/-
  The law ImageLess.
-/
import Derived.Test.YtdaimaibnjkfbaaImWorks
import Derived.Test.YtdaimaibnjkfbaaPick
import Derived.Test.YtdaimaibnjkfbaaArgs
namespace Go.Proofs.Ytdaimaibnjkfbaa
open Go.RowKit
set_option maxRecDepth 100000

/-- The latest birth of some sessions. -/
def lateM (l : List SesM) (a : Int) : Int := l.foldl (fun x s => if x ≤ s.born then s.born else x) a
theorem lateM_snoc (l : List SesM) (s : SesM) (a : Int) : lateM (l ++ [s]) a = (if lateM l a ≤ s.born then s.born else lateM l a) := by unfold lateM; rw [List.foldl_append]; rfl
theorem lateM_le : ∀ (l : List SesM) (a c : Int), a ≤ c → (∀ s ∈ l, s.born ≤ c) → a ≤ lateM l a ∧ lateM l a ≤ c ∧ ∀ s ∈ l, s.born ≤ lateM l a
  | [], a, c, h, _ => ⟨Int.le_refl _, h, by simp⟩
  | s :: l, a, c, h, hl => by
    have hs := hl s (by simp)
    have key := lateM_le l (if a ≤ s.born then s.born else a) c (by split <;> assumption) (fun q hq => hl q (by simp [hq]))
    obtain ⟨k1, k2, k3⟩ := key
    have e : lateM (s :: l) a = lateM l (if a ≤ s.born then s.born else a) := rfl
    rw [e]
    have h1 : a ≤ (if a ≤ s.born then s.born else a) ∧ s.born ≤ (if a ≤ s.born then s.born else a) := by split <;> omega
    refine ⟨by omega, k2, fun q hq => ?_⟩
    rcases List.mem_cons.1 hq with rfl | hq
    · omega
    · exact k3 q hq
set_option maxHeartbeats 12800000 in
theorem imageLess_calls (st : StM) (v : Value) (more back : Int) (w : World) (hr : RdS w v st.l) (ho : ∀ s ∈ st.l, SesOk s) (hlen : st.l.length ≤ 1256584717457) (hmo : I64 more) (hba : I64 back) :
    Calls Try.prog 3 #[.agg #[.int .i64 st.clock, .int .i64 st.births, v], .int .i64 more, .int .i64 back] w fun ev w' => ev = .returned (.bool true) ∧ Below w.heap.size w w' := by
  obtain ⟨a, cap, rfl, hc1, hc2⟩ := hr.slice
  have HWD := Lib.hid (fun w' hb => wide_calls st.clock st.births (.slice a st.l.length cap) st.l w' (hr.below hb))
  have HCK := Lib.hid (fun w' hb => check_calls st (.slice a st.l.length cap) w' (hr.below hb) ho)
  have HCP := Lib.hid (fun w' hb => copyState_calls st.clock st.births (.slice a st.l.length cap) st.l w' (hr.below hb) hlen)
  have HX0 := Lib.hid (Box.new w #[.int .i64 st.clock, .int .i64 st.births, .slice a st.l.length cap] 24)
  have HB := Lib.hid (below_alloc w (.cells #[.int .i64 st.clock, .int .i64 st.births, .slice a st.l.length cap] 24))
  have HR := Lib.hid hr
  have HO := Lib.hid ho
  have HMO := Lib.hid hmo
  have HBA := Lib.hid hba
  have HMI := Lib.hid (@checkM_none st)
  have HLESS := Lib.hid (fun h c b => @checkM_less st h c b)
  clear hr ho hmo hba
  obtain ⟨c, b, l⟩ := st
  simp only at HR HO HX0 HB HWD HCK HCP HMI HLESS hc1 hc2 hlen ⊢
  obtain ⟨n, hn⟩ : ∃ n, n = l.length := ⟨_, rfl⟩
  have hn2 : n ≤ 9223372036854775807 := by omega
  have HN := Lib.hid hn
  rw [← hn] at HX0 HB HWD HCK HCP ⊢
  clear hn hc1 hc2 hlen
  go_enter Try.func3, Try.ntmps3
  go_wp2_with fail
  refine (worksIm_calls _).mono ?_
  rintro ev w1 ⟨rfl, hb1⟩
  have HB1 := Lib.hid (HB.out.trans (hb1.mono HB.out.size))
  have hx1 := HX0.out.below hb1
  have HX1 := Lib.hid hx1
  have c0 : w1.cell? ⟨w.heap.size, 0, none⟩ = some (.int .i64 c) := hx1.cell 0 _ rfl
  have c1 : w1.cell? ⟨w.heap.size, 1, none⟩ = some (.int .i64 b) := hx1.cell 1 _ rfl
  have c2 : w1.cell? ⟨w.heap.size, 2, none⟩ = some (.slice a n cap) := hx1.cell 2 _ rfl
  clear hb1 hx1 HB HX0
  go_wp2_with fail
  refine (HWD.out _ HB1.out).mono ?_
  rintro ev w2 ⟨r, rfl, hb2⟩
  have HB2 := Lib.hid (HB1.out.trans (hb2.mono HB1.out.size))
  have hx2 := HX1.out.below hb2
  have HX2 := Lib.hid hx2
  clear c0 c1 c2
  have c0 : w2.cell? ⟨w.heap.size, 0, none⟩ = some (.int .i64 c) := hx2.cell 0 _ rfl
  have c1 : w2.cell? ⟨w.heap.size, 1, none⟩ = some (.int .i64 b) := hx2.cell 1 _ rfl
  have c2 : w2.cell? ⟨w.heap.size, 2, none⟩ = some (.slice a n cap) := hx2.cell 2 _ rfl
  clear hb2 hx2 HB1 HX1 HWD
  cases r
  rotate_left
  · go_wp2_with fail
    go_ret
    exact ⟨rfl, HB2.out⟩
  go_wp2_with fail
  refine (HCK.out _ HB2.out).mono ?_
  rintro ev w3 ⟨rfl, hb3⟩
  have HB3 := Lib.hid (HB2.out.trans (hb3.mono HB2.out.size))
  have hx3 := HX2.out.below hb3
  have HX3 := Lib.hid hx3
  clear c0 c1 c2
  have c0 : w3.cell? ⟨w.heap.size, 0, none⟩ = some (.int .i64 c) := hx3.cell 0 _ rfl
  have c1 : w3.cell? ⟨w.heap.size, 1, none⟩ = some (.int .i64 b) := hx3.cell 1 _ rfl
  have c2 : w3.cell? ⟨w.heap.size, 2, none⟩ = some (.slice a n cap) := hx3.cell 2 _ rfl
  clear hb3 hx3 HB2 HX2 HCK
  cases hck : checkM ⟨c, b, l⟩ with
  | some m =>
    rw [show chkV (some m) = .iface 57 (.agg #[.int .i64 24, .int .i64 m]) from rfl]
    clear hck
    go_wp2_with fail
    go_ret
    exact ⟨rfl, HB3.out⟩
  | none =>
  rw [show chkV none = .nilIface from rfl]
  have hbd := (HMI.out.1 hck).1
  have HMA := Lib.hid (fun i (hi : i < l.length) => mayI_iff.1 ((HMI.out.1 hck).2 i hi))
  have HLESS := Lib.hid (HLESS.out hck)
  unfold boundsM at hbd
  simp only [Bool.and_eq_true] at hbd
  obtain ⟨q1, q2, q3⟩ := hbd
  clear q3
  obtain ⟨p1, p2⟩ := fromM_yes q1
  obtain ⟨p3, p4⟩ := fromM_yes q2
  clear q1 q2
  obtain ⟨LT, hLT⟩ : ∃ LT, LT = lateM l 0 := ⟨_, rfl⟩
  have hlm := lateM_le l 0 c p1 (fun s hs => by
    obtain ⟨i, hi, rfl⟩ := List.getElem_of_mem hs
    exact (HMA.out i hi).born)
  rw [← hLT] at hlm
  have HLT := Lib.hid hLT
  have HLM := Lib.hid hlm
  have l1 := hlm.1
  have l2 := hlm.2.1
  clear hck HMI hLT hlm HMA
  go_wp2_with fail
  refine (HCP.out _ HB3.out).mono ?_
  rintro ev w4 ⟨xo, rfl, hxo, hb4⟩
  have HXO := Lib.hid hxo
  have HB4 := Lib.hid (HB3.out.trans (hb4.mono HB3.out.size))
  have HX4 := Lib.hid (HX3.out.below hb4)
  obtain ⟨oa, oc, rfl, hoc⟩ := hxo.slice
  rw [← HN.out] at HXO hoc ⊢
  clear hxo hb4 HB3 HX3 HCP c0 c1 c2
  -- the sums of the two picks
  have hp1 := pickI_lt more (1048576 - b + 1) (by omega)
  obtain ⟨P, hP⟩ : ∃ P, P = pickI more (1048576 - b + 1) := ⟨_, rfl⟩
  have hpk := fun w => pick_calls more (1048576 - b + 1) w HMO.out.1 HMO.out.2 (by omega) (by omega)
  rw [← hP] at hp1 hpk
  have HPK := Lib.hid hpk
  obtain ⟨u1, u2⟩ := hp1
  clear hP hpk
  have hp2 := pickI_lt back (c - LT + 1) (by omega)
  obtain ⟨Q, hQ⟩ : ∃ Q, Q = pickI back (c - LT + 1) := ⟨_, rfl⟩
  have hpk := fun w => pick_calls back (c - LT + 1) w HBA.out.1 HBA.out.2 (by omega) (by omega)
  rw [← hQ] at hp2 hpk
  have HQK := Lib.hid hpk
  obtain ⟨u3, u4⟩ := hp2
  clear hQ hpk
  have HNEW := Lib.hid (show checkM ⟨c - Q, b + P, l⟩ = none from HLESS.out (c - Q) (b + P) (by omega) (by omega) (by omega) (by omega) (fun s hs => by have := HLM.out.2.2 s hs; omega))
  clear HLESS HLM
  have z1 : IntKind.i64.wrap (1048576 - b) = 1048576 - b := by simp [IntKind.wrap, IntKind.bits, IntKind.signed]; omega
  have z2 : IntKind.i64.wrap (1048576 - b + 1) = 1048576 - b + 1 := by simp [IntKind.wrap, IntKind.bits, IntKind.signed]; omega
  have z3 : IntKind.i64.wrap (b + P) = b + P := by simp [IntKind.wrap, IntKind.bits, IntKind.signed]; omega
  have z4 : IntKind.i64.wrap (c - LT) = c - LT := by simp [IntKind.wrap, IntKind.bits, IntKind.signed]; omega
  have z5 : IntKind.i64.wrap (c - LT + 1) = c - LT + 1 := by simp [IntKind.wrap, IntKind.bits, IntKind.signed]; omega
  have z6 : IntKind.i64.wrap (c - Q) = c - Q := by simp [IntKind.wrap, IntKind.bits, IntKind.signed]; omega
  have Z := Lib.hid (And.intro z1 (And.intro z2 (And.intro z3 (And.intro z4 (And.intro z5 z6)))))
  clear z1 z2 z3 z4 z5 z6 p1 p2 p3 p4 l1 l2 u1 u2 u3 u4
  go_wp2_with fail
  have hb5 := below_alloc w4 (.cells #[.int .i64 c, .int .i64 b, .slice oa n oc] 24)
  have hxx := Box.new w4 #[.int .i64 c, .int .i64 b, .slice oa n oc] 24
  generalize hw5 : World.alloc w4 _ = w5 at hb5 hxx ⊢
  clear hw5
  have HXO5 := Lib.hid (HXO.out.below hb5)
  have HX5 := Lib.hid (HX4.out.below hb5)
  have HXX := Lib.hid hxx
  have HB5 := Lib.hid (HB4.out.trans (hb5.mono HB4.out.size))
  have HNE := Lib.hid (show w.heap.size < w4.heap.size from HX4.out.lt)
  have HOX := Lib.hid (show ∀ q, (Value.slice oa n oc).ownBlock = some q → ¬ (fun i => i = w4.heap.size) q from fun q hq e => by have := (HXO.out.lt q hq).2; have e : q = w4.heap.size := e; omega)
  have c0 : w5.cell? ⟨w.heap.size, 0, none⟩ = some (.int .i64 c) := HX5.out.cell 0 _ rfl
  have c1 : w5.cell? ⟨w.heap.size, 1, none⟩ = some (.int .i64 b) := HX5.out.cell 1 _ rfl
  have d1 : w5.cell? ⟨w4.heap.size, 1, none⟩ = some (.int .i64 b) := HXX.out.cell 1 _ rfl
  have f1 : w5.frozen? ⟨w4.heap.size, 1, none⟩ = false := HXX.out.free 1
  clear hb5 hxx HXO HX4 HB4
  generalize w4.heap.size = xb at HXX HNE HOX d1 f1 ⊢
  have z1 := Z.out.1
  have z2 := Z.out.2.1
  have z3 := Z.out.2.2.1
  go_still_tail 10, (by kernel_rfl)
  still_call ((HPK.out _).mono (fun e w' h => ⟨h.1, h.2.symm⟩))
  repeat still_step
  refine wpStill_nil ?_
  change wpList _ _ _ _ _ w5.drew
  go_wp2_with fail
  have hm6 : Mod (fun i => i = xb) w5 (w5.setCell ⟨xb, 1, none⟩ (.int .i64 (b + P))).drew := (Mod.set (fun i => i = xb) w5 ⟨xb, 1, none⟩ (.int .i64 (b + P)) rfl).trans (Mod.drew _ _)
  have hx6 : Box (w5.setCell ⟨xb, 1, none⟩ (.int .i64 (b + P))).drew xb #[.int .i64 c, .int .i64 (b + P), .slice oa n oc] 24 := (HXX.out.set 1 (.int .i64 (b + P))).drew
  clear c0 c1 d1 f1 z1 z2 z3
  generalize hw6 : World.drew (w5.setCell ⟨xb, 1, none⟩ (.int .i64 (b + P))) = w6 at hm6 hx6 ⊢
  clear hw6
  have HXO6 := Lib.hid (HXO5.out.mod hm6 HOX.out)
  have HX6 := Lib.hid (HX5.out.mod hm6 (by have := HNE.out; omega))
  have HXX6 := Lib.hid hx6
  have HB6 := Lib.hid (HB5.out.trans (hm6.below HB5.out.size (fun i hi => by have := HNE.out; omega)))
  clear hm6 hx6 HXO5 HX5 HXX HB5
  have HR6 := Lib.hid (HR.out.below HB6.out)
  have c0 : w6.cell? ⟨w.heap.size, 0, none⟩ = some (.int .i64 c) := HX6.out.cell 0 _ rfl
  have c2 : w6.cell? ⟨w.heap.size, 2, none⟩ = some (.slice a n cap) := HX6.out.cell 2 _ rfl
  go_loopg [8, 9] n (fun gk lv iv wr => ∃ (k : Nat) (L : Int), gk + k = n ∧ iv = .int .i64 (k : Int) ∧ lv = .int .i64 L ∧ L = lateM (l.take k) 0 ∧ wr = w6)
  case atStart => exact ⟨0, 0, rfl, rfl, rfl, rfl, rfl⟩
  case round =>
    obtain ⟨k, L, hgk, rfl, rfl, hL, rfl⟩ := hrel
    have k0 : (0 : Int) ≤ (k : Int) := by omega
    have HGK := Lib.hid hgk
    have HLL := Lib.hid hL
    clear hgk hL
    by_cases hk : k < n
    · have k1 : (k : Int) < (n : Int) := by omega
      have hkl : k < l.length := by have := HN.out; omega
      obtain ⟨s, hs⟩ : ∃ s, s = l[k] := ⟨_, rfl⟩
      obtain ⟨rb, ro, hra, hrow⟩ := HR6.out.row k hkl
      subst hra
      rw [← hs] at hrow
      have r9 : wr.cell? ⟨rb, ro + k * 12 + 9, none⟩ = some (.int .i64 s.born) := hrow 9 _ rfl
      have HTK := Lib.hid (show lateM (l.take (k + 1)) 0 = (if L ≤ s.born then s.born else L) by rw [List.take_succ_eq_append_getElem hkl, lateM_snoc, ← hs, ← HLL.out])
      have HK := Lib.hid hk
      clear hk hkl hs hrow
      by_cases hlt : L < s.born
      · have hmx : ∀ ts t w', (Builtin.max_ ts t #[.int .i64 L, .int .i64 s.born]).run Try.prog w' = .ok (.int .i64 s.born) w' := fun ts t w' => by rw [run_max_int2, if_pos hlt]
        rw [if_pos (by omega)] at HTK
        clear hlt
        go_wp2_with fail
        go_roundg (n - (k + 1))
        case measure => have := HGK.out; have := HK.out; omega
        case rel => exact ⟨k + 1, s.born, by have := HGK.out; have := HK.out; omega, by go_num, rfl, HTK.out.symm, rfl⟩
      · have hmx : ∀ ts t w', (Builtin.max_ ts t #[.int .i64 L, .int .i64 s.born]).run Try.prog w' = .ok (.int .i64 L) w' := fun ts t w' => by rw [run_max_int2, if_neg hlt]
        have HTK2 := Lib.hid (show L = lateM (l.take (k + 1)) 0 by rw [HTK.out]; split <;> omega)
        clear hlt
        go_wp2_with fail
        go_roundg (n - (k + 1))
        case measure => have := HGK.out; have := HK.out; omega
        case rel => exact ⟨k + 1, L, by have := HGK.out; have := HK.out; omega, by go_num, rfl, HTK2.out, rfl⟩
    have k1 : ¬ (k : Int) < (n : Int) := by omega
    have hLL : L = LT := by rw [HLL.out, HLT.out, List.take_of_length_le (by have := HN.out; omega)]
    subst hLL
    have d0 : wr.cell? ⟨xb, 0, none⟩ = some (.int .i64 c) := HXX6.out.cell 0 _ rfl
    have d1 : wr.cell? ⟨xb, 1, none⟩ = some (.int .i64 (b + P)) := HXX6.out.cell 1 _ rfl
    have d2 : wr.cell? ⟨xb, 2, none⟩ = some (.slice oa n oc) := HXX6.out.cell 2 _ rfl
    have f0 : wr.frozen? ⟨xb, 0, none⟩ = false := HXX6.out.free 0
    have z4 := Z.out.2.2.2.1
    have z5 := Z.out.2.2.2.2.1
    have z6 := Z.out.2.2.2.2.2
    clear hk HLL HGK HLT
    go_wp2_with fail
    go_still_tail 11, (by kernel_rfl)
    still_call ((HQK.out _).mono (fun e w' h => ⟨h.1, h.2.symm⟩))
    repeat still_step
    refine wpStill_nil ?_
    change wpList _ _ _ _ _ wr.drew
    have hm7 : Mod (fun i => i = xb) wr (wr.setCell ⟨xb, 0, none⟩ (.int .i64 (c - Q))).drew := (Mod.set (fun i => i = xb) wr ⟨xb, 0, none⟩ (.int .i64 (c - Q)) rfl).trans (Mod.drew _ _)
    have hx7 : Box (wr.setCell ⟨xb, 0, none⟩ (.int .i64 (c - Q))).drew xb #[.int .i64 (c - Q), .int .i64 (b + P), .slice oa n oc] 24 := (HXX6.out.set 0 (.int .i64 (c - Q))).drew
    have HXO7 := Lib.hid (HXO6.out.mod hm7 HOX.out)
    have HXX7 := Lib.hid hx7
    have HB7 := Lib.hid (HB6.out.trans (hm7.below HB6.out.size (fun i hi => by have := HNE.out; omega)))
    have HC7 := Lib.hid (check_calls ⟨c - Q, b + P, l⟩ _ _ (by rw [HN.out] at HXO7; exact HXO7.out.rd) HO.out)
    rw [HNEW.out, ← HN.out, show chkV none = .nilIface from rfl] at HC7
    clear hm7 hx7 HX6 HXX6 HXO6 HB6 HR6 z4 z5 z6 c0 c2
    go_wp2_with fail
    refine HC7.out.mono ?_
    rintro ev w8 ⟨rfl, hb8⟩
    have HXO8 := Lib.hid (HXO7.out.below hb8)
    have hx8 := HXX7.out.below hb8
    have HXX8 := Lib.hid hx8
    have HB8 := Lib.hid (HB7.out.trans (hb8.mono HB7.out.size))
    have e0 : w8.cell? ⟨xb, 0, none⟩ = some (.int .i64 (c - Q)) := hx8.cell 0 _ rfl
    have e1 : w8.cell? ⟨xb, 1, none⟩ = some (.int .i64 (b + P)) := hx8.cell 1 _ rfl
    have e2 : w8.cell? ⟨xb, 2, none⟩ = some (.slice oa n oc) := hx8.cell 2 _ rfl
    have f2 : w8.frozen? ⟨xb, 2, none⟩ = false := hx8.free 2
    clear hb8 hx8 HC7 HB7 HXX7 HXO7 d0 d1 d2 f0
    by_cases hn0 : (0 : Int) < (n : Int)
    rotate_left
    · have HC8 := Lib.hid (check_calls ⟨c - Q, b + P, l⟩ _ w8 (by rw [HN.out] at HXO8; exact HXO8.out.rd) HO.out)
      rw [HNEW.out, ← HN.out, show chkV none = .nilIface from rfl] at HC8
      go_wp2_with fail
      refine HC8.out.mono ?_
      rintro ev w9 ⟨rfl, hb9⟩
      have HB9 := Lib.hid (HB8.out.trans (hb9.mono HB8.out.size))
      clear hb9
      go_wp2_with fail
      go_ret
      exact ⟨rfl, HB9.out⟩
    obtain ⟨m, hm⟩ : ∃ m, n = m + 1 := ⟨n - 1, by omega⟩
    have zn : IntKind.i64.wrap ((n : Int) - 1) = (m : Int) := by
      rw [show (n : Int) - 1 = (m : Int) by omega]; simp [IntKind.wrap, IntKind.bits, IntKind.signed]; omega
    have hnm : (n : Int) - 1 = (m : Int) := by omega
    have hhd := fun w => headS oa n oc m (by omega) w
    have hm9 : Mod (fun i => i = xb) w8 (w8.setCell ⟨xb, 2, none⟩ (.slice oa m oc)) := Mod.set (fun i => i = xb) w8 ⟨xb, 2, none⟩ (.slice oa m oc) rfl
    have HXO9 := Lib.hid (HXO8.out.mod hm9 HOX.out)
    have HB9 := Lib.hid (HB8.out.trans (hm9.below HB8.out.size (fun i hi => by have := HNE.out; omega)))
    have hrd : RdS (w8.setCell ⟨xb, 2, none⟩ (.slice oa m oc)) (.slice oa m oc) (l.take m) := by
      have h := HXO9.out.rd
      rw [HN.out] at h
      exact h.cut m (by have := HN.out; omega)
    have hlm : (l.take m).length = m := by rw [List.length_take]; have := HN.out; omega
    have HCD := Lib.hid (check_calls ⟨c - Q, b + P, l.take m⟩ _ _ hrd (fun s hs => HO.out s (List.mem_of_mem_take hs)))
    rw [checkM_drop HNEW.out m, show chkV none = .nilIface from rfl] at HCD
    clear hm9 hrd hlm hm HXO8 HXO9 HB8 HXX8
    go_wp2_with fail
    refine HCD.out.mono ?_
    rintro ev w10 ⟨rfl, hb10⟩
    have HB10 := Lib.hid (HB9.out.trans (hb10.mono HB9.out.size))
    clear hb10
    go_wp2_with fail
    go_ret
    exact ⟨rfl, HB10.out⟩
end Go.Proofs.Ytdaimaibnjkfbaa
