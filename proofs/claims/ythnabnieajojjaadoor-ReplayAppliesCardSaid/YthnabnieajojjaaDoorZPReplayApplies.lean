/-
  Lists of sessions, and states, that are the same.
-/
import Derived.Test.YthnabnieajojjaaDoorSesK
import Derived.Test.YthnabnieajojjaaDoorErr
import Derived.Test.YthnabnieajojjaaDoorErrV
import Derived.Test.YthnabnieajojjaaDoorRefAp
import Derived.Test.YthnabnieajojjaaDoorApartSes
import Derived.Test.YthnabnieajojjaaDoorRows
import Derived.WalkKit
import Derived.ProofKit
import Derived.SizedLaws
import Derived.JoinedCond
import Derived.Test.YthnabnieajojjaaDoorBase
import Derived.Test.YthnabnieajojjaaDoorStr
import Derived.Test.YthnabnieajojjaaDoorSesL
import Derived.Test.YthnabnieajojjaaDoorImM
import Derived.Test.YthnabnieajojjaaDoorEvEq
import Derived.LaidLaws
import Derived.LaidHandle
import Derived.ChangeSame
import Derived.ChangeVars
import Derived.JoinedOf
import Derived.RowKit
import Derived.RowKitTokens
import Derived.Stop.Joined
import Derived.Test.YthnabnieajojjaaDoorTie
import Derived.Test.YthnabnieajojjaaDoorCards
import Derived.SevenTiedAt
namespace Go.Proofs.YthnabnieajojjaaDoor
open Go.RowKit
set_option maxRecDepth 100000

def sameL : List SesM → List SesM → Bool
  | [], [] => true
  | a :: l, b :: m => sameS a b && sameL l m
  | _, _ => false
theorem sameL_iff : ∀ {l m : List SesM}, sameL l m = true ↔ l = m
  | [], [] => by simp [sameL]
  | [], b :: m => by simp [sameL]
  | a :: l, [] => by simp [sameL]
  | a :: l, b :: m => by
    unfold sameL
    rw [Bool.and_eq_true, sameS_iff, sameL_iff]
    simp
theorem sameL_no {l m : List SesM} (h : l ≠ m) : sameL l m = false := by
  cases e : sameL l m
  · rfl
  · exact absurd (sameL_iff.1 e) h
def sameSt (a b : StM) : Bool := (a.clock == b.clock) && ((a.births == b.births) && sameL a.l b.l)
theorem sameSt_iff {a b : StM} : sameSt a b = true ↔ a = b := by
  obtain ⟨c, x, l⟩ := a
  obtain ⟨d, y, m⟩ := b
  simp [sameSt, sameL_iff]
set_option maxHeartbeats 1600000 in
theorem sameSes_calls (v v' : Value) (l m : List SesM) (w : World) (hv : RdS w v l) (hv' : RdS w v' m) :
    Calls Tryd.prog 15 #[v, v'] w fun e w' => e = .returned (.bool (sameL l m)) ∧ Below w.heap.size w w' := by
  obtain ⟨a, cap, rfl, hc1, hc2⟩ := hv.slice
  obtain ⟨a2, cap2, rfl, hd1, hd2⟩ := hv'.slice
  have HV := Lib.hid hv
  have HV2 := Lib.hid hv'
  have hln : l.length ≤ 9223372036854775807 := by omega
  have hln2 : m.length ≤ 9223372036854775807 := by omega
  by_cases hlm : l.length = m.length
  rotate_left
  · have HR := Lib.hid (sameL_no (l := l) (m := m) (fun e => hlm (by rw [e])))
    have hne : ((l.length : Int) != (m.length : Int)) = true := by rw [bne_iff_ne]; omega
    clear hlm hv hv' hc1 hd1 HV HV2
    go_enter Tryd.func15, Tryd.ntmps15
    go_wp2_with fail
    go_ret
    rw [HR.out]
    exact ⟨rfl, Below.refl _ _⟩
  obtain ⟨n, hN⟩ : ∃ n, n = l.length := ⟨_, rfl⟩
  rw [← hlm] at HV2 hd1 ⊢
  rw [← hN] at HV HV2 hc1 hd1 hln ⊢
  have HN := Lib.hid hN
  have HLM := Lib.hid hlm
  have hne : ((n : Int) != (n : Int)) = false := by rw [bne_eq_false_iff_eq]
  clear hlm hv hv' hc1 hd1 hN hln2
  go_enter Tryd.func15, Tryd.ntmps15
  go_wp2_with fail
  go_loopg [5] n (fun gk iv wr => ∃ k : Nat, gk + k = n ∧ iv = .int .i64 (k : Int) ∧ Below w.heap.size w wr ∧ Hid (l.take k = m.take k))
  case atStart => exact ⟨0, rfl, rfl, Below.refl _ _, Lib.hid rfl⟩
  case round =>
    obtain ⟨k, hgk, rfl, hb, HT⟩ := hrel
    have k0 : (0 : Int) ≤ (k : Int) := by omega
    have HGK := Lib.hid hgk
    have HB := Lib.hid hb
    clear hgk
    by_cases hk : k < n
    · have k1 : (k : Int) < (n : Int) := by omega
      have hkl : k < l.length := by have := HN.out; omega
      have hkm : k < m.length := by have := HLM.out; omega
      obtain ⟨s, hs⟩ : ∃ s, s = l[k] := ⟨_, rfl⟩
      obtain ⟨u, hu⟩ : ∃ u, u = m[k] := ⟨_, rfl⟩
      obtain ⟨rb, ro, hra, hrow⟩ := (HV.out.below hb).row k hkl
      subst hra
      rw [← hs] at hrow
      obtain ⟨qb, qo, hqa, hqow⟩ := (HV2.out.below hb).row k hkm
      subst hqa
      rw [← hu] at hqow
      have HROW := Lib.hid (show ∀ wq, (∃ n, wq = wr.drewN n) → wq.rangeAt rb (ro + k * 12) s.cells.toList from fun wq hq => by
        obtain ⟨q, rfl⟩ := hq
        exact hrow)
      have HQOW := Lib.hid (show ∀ wq, (∃ n, wq = wr.drewN n) → wq.rangeAt qb (qo + k * 12) u.cells.toList from fun wq hq => by
        obtain ⟨q, rfl⟩ := hq
        exact hqow)
      have HLK := Lib.hid (show s = l[k] ∧ u = m[k] from ⟨hs, hu⟩)
      have HK := Lib.hid hk
      clear hrow hqow hs hu hk hb
      obtain ⟨r, hr⟩ : ∃ r, r = sameS s u := ⟨_, rfl⟩
      have HR := Lib.hid hr
      have hneq : ∀ w, (binOp .neq 30 (.agg s.cells) (.agg u.cells)).run Tryd.prog w = .ok (.bool (!r)) w := fun w => by rw [run_neqS, HR.out]
      clear hr
      go_wp2_with fail
      refine wp_region_quiet_lit (by kernel_rfl) (by kernel_rfl) ?_
      repeat (go_big_quiet_step (fail))
      refine wpQuiet_load_k rfl 30 (.tmp 19) rfl rb (ro + k * 12) rfl s.cells.toList _ HROW.out Tryd.underlying30 rfl (by kernel_rfl) ?_
      intro c1 hc1
      have ec1 : c1 = s.cells := by rw [hc1.out]
      subst ec1
      simp only [Act.put, List.setIfInBounds_toArray, List.set_cons_zero, List.set_cons_succ]
      repeat (go_big_quiet_step (fail))
      refine wpQuiet_load_k rfl 30 (.tmp 23) rfl qb (qo + k * 12) rfl u.cells.toList _ HQOW.out Tryd.underlying30 rfl (by kernel_rfl) ?_
      intro c2 hc2
      have ec2 : c2 = u.cells := by rw [hc2.out]
      subst ec2
      simp only [Act.put, List.setIfInBounds_toArray, List.set_cons_zero, List.set_cons_succ]
      repeat (go_big_quiet_step (fail))
      refine wpQuiet_nil ?_
      intro wq hwq
      obtain ⟨nq, rfl⟩ := hwq
      have HB4 := Lib.hid (HB.out.trans ((below_drewN _ nq).mono HB.out.size))
      clear hneq hc1 hc2 HROW HQOW
      cases r
      · have HF := Lib.hid (sameL_no (l := l) (m := m) (fun e => by
          obtain ⟨h1, h2⟩ := HLK.out
          have h3 := HR.out
          rw [h1, h2] at h3
          subst e
          rw [sameS_iff.2 rfl] at h3
          cases h3))
        clear HB HR HLK
        go_wp2_with fail
        go_ret
        rw [HF.out]
        exact ⟨rfl, HB4.out⟩
      · have HT2 := Lib.hid (show l.take (k + 1) = m.take (k + 1) by
          rw [List.take_succ_eq_append_getElem hkl, List.take_succ_eq_append_getElem hkm, HT.out, ← HLK.out.1, ← HLK.out.2, sameS_iff.1 HR.out.symm])
        clear HB HR HLK HT
        go_wp2_with fail
        go_roundg (n - (k + 1))
        case measure => have := HGK.out; have := HK.out; omega
        case rel => exact ⟨k + 1, by have := HGK.out; have := HK.out; omega, by go_num, HB4.out, HT2⟩
    · have k1 : ¬ (k : Int) < (n : Int) := by omega
      have HE := Lib.hid (show sameL l m = true from sameL_iff.2 (by
        have h := HT.out
        rw [List.take_of_length_le (by have := HN.out; omega), List.take_of_length_le (by have := HN.out; have := HLM.out; omega)] at h
        exact h))
      clear hk hb HT
      go_wp2_with fail
      go_ret
      rw [HE.out]
      exact ⟨rfl, HB.out⟩
set_option maxHeartbeats 1600000 in
theorem sameState_calls (a b : StM) (v v' : Value) (w : World) (hv : RdS w v a.l) (hv' : RdS w v' b.l) :
    Calls Tryd.prog 8 #[.agg #[.int .i64 a.clock, .int .i64 a.births, v], .agg #[.int .i64 b.clock, .int .i64 b.births, v']] w fun e w' => e = .returned (.bool (sameSt a b)) ∧ Below w.heap.size w w' := by
  have HB0 := Lib.hid (fun o o2 => below_two w o o2)
  have HK := Lib.hid (fun w' hb => sameSes_calls v v' a.l b.l w' (hv.below hb) (hv'.below hb))
  obtain ⟨xa, xc, rfl, _⟩ := hv.slice
  obtain ⟨ya, yc, rfl, _⟩ := hv'.slice
  unfold sameSt
  generalize sameL a.l b.l = r at HK ⊢
  clear hv hv'
  obtain ⟨c1, b1, l1⟩ := a
  obtain ⟨c2, b2, l2⟩ := b
  simp only at HK ⊢
  go_enter Tryd.func8, Tryd.ntmps8
  cases e1 : (c1 == c2)
  · go_wp2_with fail
    go_ret
    exact ⟨rfl, HB0.out _ _⟩
  cases e2 : (b1 == b2)
  · go_wp2_with fail
    go_ret
    exact ⟨rfl, HB0.out _ _⟩
  go_wp2_with fail
  refine (HK.out _ (HB0.out _ _)).mono ?_
  rintro e w1 ⟨rfl, hb⟩
  have HB := Lib.hid ((HB0.out _ _).trans (hb.mono (HB0.out (.cells #[.int .i64 c1, .int .i64 b1, .slice xa l1.length xc] 24) (.cells #[.int .i64 c2, .int .i64 b2, .slice ya l2.length yc] 24)).size))
  clear hb HK HB0
  go_wp2_with fail
  go_ret
  exact ⟨rfl, HB.out⟩
end Go.Proofs.YthnabnieajojjaaDoor
/-
  Lists of sessions and states that are lent and kept; that are the same.
-/
namespace Go.Proofs.YthnabnieajojjaaDoor
open Go.RowKit
set_option maxRecDepth 100000

theorem LentS.slice {w : World} {base : Nat} {v : Value} {l : List SesM} (h : LentS w base v l) : ∃ a cap, v = .slice a l.length cap ∧ l.length ≤ cap := by
  obtain ⟨a, cap, h1, h2⟩ := h
  obtain ⟨a', cap', e, h3⟩ := h2.slice
  injection e with e1 e2 e3
  exact ⟨a, cap, h1, by rw [full_len] at h3; omega⟩
theorem LentS.lt {w : World} {base : Nat} {v : Value} {l : List SesM} (h : LentS w base v l) : ∀ k, v.ownBlock = some k → base ≤ k ∧ k < w.heap.size := by
  obtain ⟨a, cap, rfl, h2⟩ := h
  exact fun k hk => h2.lt k (by cases a <;> exact hk)
theorem LentS.base {w : World} {base base' : Nat} {v : Value} {l : List SesM} (h : LentS w base v l) (hb : base' ≤ base) : LentS w base' v l := by
  obtain ⟨a, cap, rfl, h2⟩ := h; exact ⟨a, cap, rfl, h2.base hb⟩
set_option maxHeartbeats 1600000 in
theorem keptS_calls (v v' : Value) (base : Nat) (l : List SesM) (w : World) (hv : LentS w base v l) (hv' : RdS w v' l) (hn : l.length ≤ 1256584717457) :
    Calls Tryd.prog 33 #[v, v'] w fun e w' => e = .returned (.bool true) ∧ Below w.heap.size w w' := by
  obtain ⟨a, cap, rfl, h2⟩ := hv
  obtain ⟨a2, cap2, rfl, hd1, hd2⟩ := hv'.slice
  have hrd := h2.rd
  have hc : l.length + 16 ≤ cap := by
    obtain ⟨_, _, e, hc⟩ := h2.slice
    injection e with _ e2 e3
    rw [full_len] at hc
    omega
  have HK := Lib.hid (keptFullS_calls (.slice a (l.length + 16) cap) (.slice a2 l.length cap2) l w hrd hv' hn)
  obtain ⟨n, hN⟩ : ∃ n, n = l.length := ⟨_, rfl⟩
  rw [← hN] at HK hc hn hd1 ⊢
  have z1 : (n : Int) + 16 = ((n + 16 : Nat) : Int) := by omega
  have hhd : ∀ w, (Instr.slice 22 (.slice a n cap) none (some (.int .i64 ((n : Int) + 16))) none).run Tryd.prog w = .ok (.slice a (n + 16) cap) w := fun w => by rw [z1]; exact headS a n cap (n + 16) (by omega) w
  have n1 : (n : Int) + 16 ≤ 9223372036854775807 := by omega
  obtain ⟨N, hNN⟩ : ∃ N, N = n + 16 := ⟨_, rfl⟩
  rw [← hNN] at HK hhd
  clear hNN h2 hv' hrd hN hc hd1 hd2 hn z1
  go_enter Tryd.func33, Tryd.ntmps33
  go_wp2_with fail
  refine HK.out.mono ?_
  rintro e w1 ⟨rfl, hb⟩
  have HB := Lib.hid hb
  clear hb HK
  go_wp2_with fail
  go_ret
  exact ⟨rfl, HB.out⟩
set_option maxHeartbeats 1600000 in
theorem lentState_calls (c b : Int) (v : Value) (l : List SesM) (w : World) (hv : RdS w v l) (hn : l.length + 16 ≤ 1256584717457) :
    Calls Tryd.prog 5 #[.agg #[.int .i64 c, .int .i64 b, v]] w fun e w' => ∃ o, e = .returned (.agg #[.int .i64 c, .int .i64 b, o]) ∧ LentS w' w.heap.size o l ∧ Below w.heap.size w w' := by
  have HV := Lib.hid hv
  have HB0 := Lib.hid (fun o o2 o3 => ((below_alloc w o).trans ((below_alloc (w.alloc o) o2).mono (below_alloc w o).size)).trans ((below_alloc ((w.alloc o).alloc o2) o3).mono (Nat.le_trans (below_alloc w o).size (below_alloc _ o2).size)))
  obtain ⟨a, cap, rfl, _, _⟩ := hv.slice
  clear hv
  go_enter Tryd.func5, Tryd.ntmps5
  go_wp2_with fail
  refine (lentS_calls _ l _ (HV.out.below (HB0.out _ _ _)) hn).mono ?_
  rintro ev w1 ⟨o, rfl, hown, hb⟩
  have HO := Lib.hid hown
  have HB := Lib.hid ((HB0.out _ _ _).trans (hb.mono (HB0.out (.cells #[.int .i64 c, .int .i64 b, .slice a l.length cap] 24) (.cells #[.int .i64 0, .int .i64 0, .slice none 0 0] 24) (.cells #[.int .i64 c, .int .i64 b, .slice a l.length cap] 24)).size))
  have hx2 : Box w1 (w.heap.size + 1) #[.int .i64 0, .int .i64 0, .slice none 0 0] 24 := by
    have h := (Box.new (w.alloc (.cells #[.int .i64 c, .int .i64 b, .slice a l.length cap] 24)) #[.int .i64 0, .int .i64 0, .slice none 0 0] 24).below (below_alloc _ (.cells #[.int .i64 c, .int .i64 b, .slice a l.length cap] 24))
    rw [World.size_alloc] at h
    exact h.below hb
  have hx3 : Box w1 (w.heap.size + 1 + 1) #[.int .i64 c, .int .i64 b, .slice a l.length cap] 24 := by
    have h := Box.new ((w.alloc (.cells #[.int .i64 c, .int .i64 b, .slice a l.length cap] 24)).alloc (.cells #[.int .i64 0, .int .i64 0, .slice none 0 0] 24)) #[.int .i64 c, .int .i64 b, .slice a l.length cap] 24
    rw [World.size_alloc, World.size_alloc] at h
    exact h.below hb
  have HX2 := Lib.hid hx2
  have HX3 := Lib.hid hx3
  have c0 : w1.cell? ⟨w.heap.size + 1 + 1, 0, none⟩ = some (.int .i64 c) := hx3.cell 0 _ rfl
  have c1 : w1.cell? ⟨w.heap.size + 1 + 1, 1, none⟩ = some (.int .i64 b) := hx3.cell 1 _ rfl
  have c2 : w1.cell? ⟨w.heap.size + 1 + 1, 2, none⟩ = some (.slice a l.length cap) := hx3.cell 2 _ rfl
  have f2 := hx3.free 2
  have d0 : w1.cell? ⟨w.heap.size + 1, 0, none⟩ = some (.int .i64 0) := hx2.cell 0 _ rfl
  have d1 : w1.cell? ⟨w.heap.size + 1, 1, none⟩ = some (.int .i64 0) := hx2.cell 1 _ rfl
  have d2 : w1.cell? ⟨w.heap.size + 1, 2, none⟩ = some (.slice none 0 0) := hx2.cell 2 _ rfl
  have g0 := hx2.free 0
  have g1 := hx2.free 1
  have g2 := hx2.free 2
  have HLO := Lib.hid (fun q hq => (hown.lt q hq).1)
  clear hown hb hx2 hx3 HB0 HV
  obtain ⟨oa, oc, rfl, _⟩ := HO.out.slice
  go_wp2_with fail
  have hm : ∀ (W : World), Mod (fun q => q = w.heap.size + 1 ∨ q = w.heap.size + 1 + 1) w1 W → LentS W w.heap.size (.slice oa l.length oc) l ∧ Below w.heap.size w W := fun W hm => by
    refine ⟨(HO.out.base (by simp; omega)).mod hm (fun q hq e => ?_), HB.out.trans (hm.below HB.out.size (fun i hi => by omega))⟩
    have := HLO.out q hq
    simp at this
    omega
  have hset : ∀ (W : World) (q o : Nat) (v : Value), Mod (fun q => q = w.heap.size + 1 ∨ q = w.heap.size + 1 + 1) w1 W → (q = w.heap.size + 1 ∨ q = w.heap.size + 1 + 1) → Mod (fun q => q = w.heap.size + 1 ∨ q = w.heap.size + 1 + 1) w1 (W.setCell ⟨q, o, none⟩ v) := fun W q o v h hq => h.trans (Mod.set _ _ _ _ hq)
  refine ret_cell rfl rfl (w.heap.size + 1) 0 rfl [.int .i64 c, .int .i64 b, .slice oa l.length oc] _ ?_ Tryd.underlying24 rfl (by kernel_rfl) ⟨_, rfl, hm _ (by
    refine hset _ _ _ _ (hset _ _ _ _ (hset _ _ _ _ (hset _ _ _ _ (Mod.refl _ _) ?_) ?_) ?_) ?_ <;> simp)⟩
  have hb4 : Box ((((w1.setCell ⟨w.heap.size + 1 + 1, 2, none⟩ (.slice oa l.length oc)).setCell ⟨w.heap.size + 1, 0, none⟩ (.int .i64 c)).setCell ⟨w.heap.size + 1, 1, none⟩ (.int .i64 b)).setCell ⟨w.heap.size + 1, 2, none⟩ (.slice oa l.length oc)) (w.heap.size + 1) #[.int .i64 c, .int .i64 b, .slice oa l.length oc] 24 := by
    have h := (((HX2.out.set_other (p := ⟨w.heap.size + 1 + 1, 2, none⟩) (by simp) (.slice oa l.length oc)).set 0 (.int .i64 c)).set 1 (.int .i64 b)).set 2 (.slice oa l.length oc)
    exact h
  intro j v hv
  rw [Nat.zero_add]
  exact hb4.cell j v (by simpa using hv)
set_option maxHeartbeats 1600000 in
theorem keptState_calls (c b : Int) (v v' : Value) (base : Nat) (l : List SesM) (w : World) (hv : LentS w base v l) (hv' : RdS w v' l) (hn : l.length ≤ 1256584717457) :
    Calls Tryd.prog 11 #[.agg #[.int .i64 c, .int .i64 b, v], .agg #[.int .i64 c, .int .i64 b, v']] w fun e w' => e = .returned (.bool true) ∧ Below w.heap.size w w' := by
  have HB0 := Lib.hid (fun o o2 => below_two w o o2)
  have HK := Lib.hid (fun w' hb => keptS_calls v v' base l w' (hv.below hb) (hv'.below hb) hn)
  obtain ⟨a, cap, rfl, _⟩ := hv.slice
  obtain ⟨a2, cap2, rfl, _⟩ := hv'.slice
  have e1 : (c == c) = true := by rw [beq_iff_eq]
  have e2 : (b == b) = true := by rw [beq_iff_eq]
  clear hv hv' hn
  go_enter Tryd.func11, Tryd.ntmps11
  go_wp2_with fail
  refine (HK.out _ (HB0.out _ _)).mono ?_
  rintro e w1 ⟨rfl, hb⟩
  have HB := Lib.hid ((HB0.out _ _).trans (hb.mono (HB0.out (.cells #[.int .i64 c, .int .i64 b, .slice a l.length cap] 24) (.cells #[.int .i64 c, .int .i64 b, .slice a2 l.length cap2] 24)).size))
  clear hb HK HB0
  go_wp2_with fail
  go_ret
  exact ⟨rfl, HB.out⟩
end Go.Proofs.YthnabnieajojjaaDoor
/-
  errors.As, at a number of package api and a target of type *api.Fault: it is none; lineagekit.Plain.
-/
namespace Go.Proofs.YthnabnieajojjaaDoor
open Go.RowKit Go.Extern.Stop Go.Stop Go.Extern

theorem as_nil (t : Value) (w : World) :
    Calls Tryd.prog 31 #[.nilIface, t] w fun e w' => e = .returned (.bool false) ∧ w' = w := by
  go_enter Tryd.func31, Tryd.ntmps31
  go_wp2
  go_ret
  exact ⟨rfl, rfl⟩
theorem fp_valueOf (t : Addr) (w : World) : (ReflectliteValue.unpack (.iface 70 (.pointer (some t)))).run Tryd.prog w
    = .ok (.agg #[.pointer (some ⟨2, 70, none⟩), .pointer (some ⟨w.heap.size, 0, none⟩), .int .u64 150]) (w.alloc (.cells #[.pointer (some t)] 70)) := by kernel_rfl
theorem fp_type (a : Addr) (w : World) : (ReflectliteValue.methodAny (ReflectliteValue.valueError "reflectlite.Value.Type" 0) (fun t _ _ _ => ReflectliteType.toType t) #[.agg #[.pointer (some ⟨2, 70, none⟩), .pointer (some a), .int .u64 150]]).run Tryd.prog w
    = .ok (.iface 120 (.agg #[.pointer (some ⟨2, 70, none⟩)])) w := by kernel_rfl
theorem fp_methodKind (h : Value) (w : World) : (Go.method 272 120 (.agg #[h]) "Kind").run Tryd.prog w = .ok (79, h) w := by kernel_rfl
theorem fp_kind (w : World) : ((ReflectliteType.abiMethod fun t => (fun a : Nat => Value.int IntKind.u8 (a : Int)) <$> Rtype.kind t) #[.pointer (some ⟨2, 70, none⟩)]).run Tryd.prog w = .ok (.int .u8 22) w := by kernel_rfl
theorem fs_kind (w : World) : ((ReflectliteType.abiMethod fun t => (fun a : Nat => Value.int IntKind.u8 (a : Int)) <$> Rtype.kind t) #[.pointer (some ⟨2, 67, none⟩)]).run Tryd.prog w = .ok (.int .u8 25) w := by kernel_rfl
theorem rlm (z : Sem Value) (f : TypeId → Addr → Nat → Nat → Sem Value) (v : Value) :
    ReflectliteValue.method z f #[v] = (do match ← ReflectliteValue.parts v with | none => z | some (t, a, fl) => f t a fl (fl % 32)) := rfl
theorem fp_parts (a : Addr) (w : World) : (ReflectliteValue.parts (.agg #[.pointer (some ⟨2, 70, none⟩), .pointer (some a), .int .u64 150])).run Tryd.prog w = .ok (some (70, a, 150)) w := by kernel_rfl
theorem fp_isNil (a p : Addr) (W : World) (ha : W.cell? a = some (.pointer (some p))) :
    (ReflectliteValue.method (ReflectliteValue.valueError "reflectlite.Value.IsNil" 0) ReflectliteValue.isNil #[.agg #[.pointer (some ⟨2, 70, none⟩), .pointer (some a), .int .u64 150]]).run Tryd.prog W = .ok (.bool false) W := by
  rw [rlm]
  simp only [Sem.run_bind, fp_parts, Result.andThen]
  simp [ReflectliteValue.isNil, loadVar, isAgg, underlying, Tryd.underlying70, ha, Result.andThen]
theorem fp_methodElem (h : Value) (w : World) : (Go.method 272 120 (.agg #[h]) "Elem").run Tryd.prog w = .ok (104, .agg #[h]) w := by kernel_rfl
theorem fp_methodImplements (h : Value) (w : World) : (Go.method 272 120 (.agg #[h]) "Implements").run Tryd.prog w = .ok (105, .agg #[h]) w := by kernel_rfl
theorem fp_methodAssignableTo (h : Value) (w : World) : (Go.method 272 120 (.agg #[h]) "AssignableTo").run Tryd.prog w = .ok (102, .agg #[h]) w := by kernel_rfl
theorem fp_elem (w : World) : (ReflectliteType.method ReflectliteType.elem #[.agg #[.pointer (some ⟨2, 70, none⟩)]]).run Tryd.prog w = .ok (.iface 120 (.agg #[.pointer (some ⟨2, 67, none⟩)])) w := by kernel_rfl
theorem fs_implements (w : World) : (ReflectliteType.relation "Implements" ReflectliteType.implements_ #[.agg #[.pointer (some ⟨2, 67, none⟩)], .iface 120 (.agg #[.pointer (some ⟨2, 35, none⟩)])]).run Tryd.prog w = .ok (.bool true) w := by kernel_rfl
theorem en_typeOf (v : Value) (w : World) : (ReflectliteType.typeOf #[.iface 55 v]).run Tryd.prog w = .ok (.iface 120 (.agg #[.pointer (some ⟨2, 55, none⟩)])) w := by kernel_rfl
theorem en_assignable (w : World) : (ReflectliteType.relation "AssignableTo" ReflectliteType.assignableTo #[.agg #[.pointer (some ⟨2, 55, none⟩)], .iface 120 (.agg #[.pointer (some ⟨2, 67, none⟩)])]).run Tryd.prog w = .ok (.bool false) w := by kernel_rfl
theorem en_noAs (v : Value) (xT : TypeId) (w : World) : (Instr.typeAssert (.iface 55 v) xT 124 true).run Tryd.prog w = .ok (.tuple #[.nilIface, .bool false]) w := run_typeAssert_lacksB Tryd.underlying124 (by kernel_rfl) (by kernel_rfl) v xT w
/-- The variable of package errors that errors.As reads. -/
def ErrType (w : World) : Prop := w.cell? ⟨0, 0, none⟩ = some (.iface 120 (.agg #[.pointer (some ⟨2, 35, none⟩)]))
theorem ErrType.lt {w : World} (h : ErrType w) : 0 < w.heap.size := by
  rcases Nat.eq_zero_or_pos w.heap.size with h0 | h1
  · unfold ErrType at h; simp [World.cell?, h0] at h
  · exact h1
theorem ErrType.below {w w' : World} (h : ErrType w) (hb : Below w.heap.size w w') : ErrType w' := below_heap hb h
set_option maxHeartbeats 4000000 in
theorem as_miss (n : Int) (t : Addr) (w : World) (hg : ErrType w) :
    Calls Tryd.prog 31 #[errN n, .iface 70 (.pointer (some t))] w fun ev w' => ev = .returned (.bool false) ∧ Below w.heap.size w w' := by
  have h6 := @run_callFunc_extern Tryd.prog 51 _ (fun args => ReflectliteValue.unpack (args.getD 0 (.tuple #[]))) Tryd.func51 (by kernel_rfl) (by kernel_rfl) (by kernel_rfl) (by kernel_rfl)
  have h7 := @run_callFunc_extern Tryd.prog 52 _ (ReflectliteValue.methodAny (ReflectliteValue.valueError "reflectlite.Value.Type" 0) (fun t _ _ _ => ReflectliteType.toType t)) Tryd.func52 (by kernel_rfl) (by kernel_rfl) (by kernel_rfl) (by kernel_rfl)
  have h8 := @run_callFunc_extern Tryd.prog 53 _ (ReflectliteValue.method (ReflectliteValue.valueError "reflectlite.Value.IsNil" 0) ReflectliteValue.isNil) Tryd.func53 (by kernel_rfl) (by kernel_rfl) (by kernel_rfl) (by kernel_rfl)
  have h27 := @run_callFunc_extern Tryd.prog 79 _ (ReflectliteType.abiMethod fun t => do pure (.int .u8 (← Rtype.kind t))) Tryd.func79 (by kernel_rfl) (by kernel_rfl) (by kernel_rfl) (by kernel_rfl)
  have h37 := @run_callFunc_extern Tryd.prog 104 _ (ReflectliteType.method ReflectliteType.elem) Tryd.func104 (by kernel_rfl) (by kernel_rfl) (by kernel_rfl) (by kernel_rfl)
  have h38 := @run_callFunc_extern Tryd.prog 105 _ (ReflectliteType.relation "Implements" ReflectliteType.implements_) Tryd.func105 (by kernel_rfl) (by kernel_rfl) (by kernel_rfl) (by kernel_rfl)
  have h10 := @run_callFunc_extern Tryd.prog 60 _ ReflectliteType.typeOf Tryd.func60 (by kernel_rfl) (by kernel_rfl) (by kernel_rfl) (by kernel_rfl)
  have h35 := @run_callFunc_extern Tryd.prog 102 _ (ReflectliteType.relation "AssignableTo" ReflectliteType.assignableTo) Tryd.func102 (by kernel_rfl) (by kernel_rfl) (by kernel_rfl) (by kernel_rfl)
  have tO := en_typeOf
  have mA := fp_methodAssignableTo
  have a25 := en_assignable
  have f6 := fp_valueOf
  have f7 := fp_type
  have mK := fp_methodKind
  have mE := fp_methodElem
  have mI := fp_methodImplements
  have k27 := fp_kind
  have k25 := fs_kind
  have e27 := fp_elem
  have i25 := fs_implements
  have nA := en_noAs
  have nU := err_noUnwrap
  have nV := err_noUnwraps
  have n8 := fp_isNil ⟨w.heap.size, 0, none⟩ t ((w.alloc (.cells #[.pointer (some t)] 70)).alloc (.cells #[.pointer (some ⟨2, 70, none⟩), .pointer (some ⟨w.heap.size, 0, none⟩), .int .u64 150] 102)) (by simp)
  have hlt := hg.lt
  unfold ErrType at hg
  have hg2 : ((w.alloc (.cells #[.pointer (some t)] 70)).alloc (.cells #[.pointer (some ⟨2, 70, none⟩), .pointer (some ⟨w.heap.size, 0, none⟩), .int .u64 150] 102)).cell? ⟨0, 0, none⟩ = some (.iface 120 (.agg #[.pointer (some ⟨2, 35, none⟩)])) := by
    rw [World.cell?_alloc_lt _ _ ⟨0, 0, none⟩ (by simp), World.cell?_alloc_lt _ _ ⟨0, 0, none⟩ hlt]; exact hg
  unfold errN
  go_enter Tryd.func31, Tryd.ntmps31
  go_wp2
  refine wp_loop_rounds 1 ?_
  rw [rounds_succ]
  go_wp2
  go_ret
  refine ⟨rfl, ?_⟩
  repeat (refine Below.alloc ?_ (by simp <;> omega) _)
  exact Below.refl _ _
theorem plain_nil (w : World) : Calls Tryd.prog 9 #[.nilIface, .int .i64 0] w fun e w' => e = .returned (.bool true) ∧ Below w.heap.size w w' := by
  have hb := below_alloc w (.cells #[.int .i64 0, .int .i64 0] 67)
  have HB := Lib.hid hb
  clear hb
  go_enter Tryd.func9, Tryd.ntmps9
  go_wp2_with fail
  refine (num_nil _).mono ?_
  rintro e w' ⟨rfl, rfl⟩
  go_wp2_with fail
  go_ret
  exact ⟨rfl, HB.out⟩
theorem plain_calls (n : Nat) (w : World) (h1 : 1 ≤ n) (h2 : n ≤ 24) (hg : ErrType w) : Calls Tryd.prog 9 #[errN n, .int .i64 (n : Int)] w fun e w' => e = .returned (.bool true) ∧ Below w.heap.size w w' := by
  have hb := below_alloc w (.cells #[.int .i64 0, .int .i64 0] 67)
  have HB := Lib.hid hb
  have HA := Lib.hid (as_miss (n : Int) ⟨w.heap.size, 0, none⟩ _ (hg.below hb))
  have HN := Lib.hid (fun w => num_calls n w h1 h2)
  clear hb hg
  unfold errN at HA HN ⊢
  go_enter Tryd.func9, Tryd.ntmps9
  go_wp2_with fail
  refine (HN.out _).mono ?_
  rintro e w' ⟨rfl, rfl⟩
  go_wp2_with fail
  refine HA.out.mono ?_
  rintro e w' ⟨rfl, hb2⟩
  have HB2 := Lib.hid (below_trans HB.out hb2)
  clear hb2
  go_wp2_with fail
  go_ret
  exact ⟨rfl, HB2.out⟩
end Go.Proofs.YthnabnieajojjaaDoor
/-
  lineagekit.Plain: of an error of package api, or none.
-/
namespace Go.Proofs.YthnabnieajojjaaDoor
open Go.RowKit
set_option maxRecDepth 100000

theorem plain_any (er : Int) (w : World) (h1 : 0 ≤ er) (h2 : er ≤ 24) (hg : ErrType w) : Calls Tryd.prog 9 #[errV er, .int .i64 er] w fun e w' => e = .returned (.bool true) ∧ Below w.heap.size w w' := by
  by_cases h0 : er = 0
  · subst h0
    exact plain_nil w
  · obtain ⟨n, rfl⟩ := Int.eq_ofNat_of_zero_le h1
    have e : errV (n : Int) = errN n := by unfold errV; rw [if_neg h0]; rfl
    have := plain_calls n w (by omega) (by omega) hg
    rw [← e] at this
    exact this
end Go.Proofs.YthnabnieajojjaaDoor
/-
  The law ReplayApplies.
-/
namespace Go.Proofs.YthnabnieajojjaaDoor
open Go.RowKit
set_option maxRecDepth 100000

theorem upM_er (s : SesM) (l : List SesM) : 0 ≤ upM s l ∧ upM s l ≤ 24 := by
  unfold upM
  split
  · decide
  · split
    · decide
    · split
      · split <;> decide
      · decide
theorem refM_er (st : StM) (s : SesM) : 0 ≤ refM st s ∧ refM st s ≤ 24 := by
  have := upM_er s st.l
  unfold refM
  repeat' split
  all_goals first | decide | exact this
theorem applyM_er (st : StM) (e : EvtM) : 0 ≤ (applyM st e).1 ∧ (applyM st e).1 ≤ 24 := by
  have := refM_er st e.s
  unfold applyM
  repeat' split
  all_goals first | exact this | exact ⟨by decide, by decide⟩ | (show (0 : Int) ≤ 0 ∧ (0 : Int) ≤ 24; decide) | (simp; done)
theorem withoutM_len (f : SesM → Bool) (l : List SesM) : (withoutM f l).length ≤ l.length := List.length_filter_le _ _
theorem applyM_len (st : StM) (e : EvtM) : (applyM st e).2.l.length ≤ st.l.length + 1 := by
  have h1 := withoutM_len (fun s => s.birth == e.birth) st.l
  have h2 := withoutM_len (fun s => decide (s.deadline ≤ st.clock + e.ticks)) st.l
  unfold applyM
  repeat' split
  all_goals simp [noSt] <;> omega
/-- Two rows of sessions. -/
def rows2 (v1 v2 : Value) (n1 n2 B : Nat) : RowsS := ⟨2, fun i => if i = 0 then v1 else v2, fun i => if i = 0 then n1 else n2, B, 30, 12, by decide, mkSes, fun _ _ => rfl, fun _ _ => SesM.oneS _⟩
theorem two_turn {w : World} {B g : Nat} {v1 v2 : Value} {l1 l2 : List SesM} (h1 : OwnS w B v1 l1) (h2 : OwnS w B v2 l2) (hap : Apart v1 v2) (hx : Box w g #[v1, v2] 22) (hg1 : ∀ k, v1.ownBlock = some k → k ≠ g) (hg2 : ∀ k, v2.ownBlock = some k → k ≠ g) :
    Turn1S (rows2 v1 v2 l1.length l2.length B) (.slice (some ⟨g, 0, none⟩) 2 2) w 0 0 w := by
  refine ⟨⟨fun j => if j = 0 then flatS l1 else flatS l2, fun j hj => ?_, fun j hj _ => by omega, fun _ => by simp [marksS]⟩, fun j j' hj hj' hne => ?_, ?_, fun j hj => ?_, Mod.refl _ _⟩
  · by_cases h : j = 0
    · subst h; exact h1
    · simp only [rows2, if_neg h]; exact h2
  · have hj : j < 2 := hj
    have hj' : j' < 2 := hj'
    by_cases h : j = 0
    · have h' : j' ≠ 0 := by omega
      simp only [rows2, if_pos h, if_neg h']; exact hap
    · have h' : j' = 0 := by omega
      simp only [rows2, if_neg h, if_pos h']; exact hap.symm
  · exact ⟨some ⟨g, 0, none⟩, 2, rfl, by show 2 ≤ 2; omega, by omega, fun h => (by cases h), fun j hj => ⟨g, 0, rfl, by
      have hj : j < 2 := hj
      rw [Nat.zero_add]
      match j, hj with
      | 0, _ => exact hx.cell 0 _ rfl
      | 1, _ => exact hx.cell 1 _ rfl⟩⟩
  · intro k hk hk2
    have hk : some g = some k := hk
    injection hk with hk
    by_cases h : j = 0
    · simp only [rows2, if_pos h] at hk2; exact hg1 k hk2 hk.symm
    · simp only [rows2, if_neg h] at hk2; exact hg2 k hk2 hk.symm
theorem two_apart {w : World} {B g : Nat} {v1 v2 : Value} {l1 l2 : List SesM} (h1 : OwnS w B v1 l1) (h2 : OwnS w B v2 l2) (hap : Apart v1 v2) (hx : Box w g #[v1, v2] 22) (hg1 : ∀ k, v1.ownBlock = some k → k ≠ g) (hg2 : ∀ k, v2.ownBlock = some k → k ≠ g)
    (hl1 : l1.length ≤ 1000000000000) (hl2 : l2.length ≤ 1000000000000) (hB : B ≤ w.heap.size) :
    Calls Tryd.prog 10 #[.slice (some ⟨g, 0, none⟩) 2 2] w fun e w' => e = .returned (.bool true) ∧ Below B w w' :=
  (apartSes_calls (rows2 v1 v2 l1.length l2.length B) _ w rfl rfl rfl (two_turn h1 h2 hap hx hg1 hg2) (by show 2 ≤ 1000000; decide) (fun j _ => by
    by_cases h : j = 0
    · simp only [rows2, if_pos h]; exact hl1
    · simp only [rows2, if_neg h]; exact hl2) (fun b hb => by
      have hb : some g = some b := hb
      injection hb with hb
      subst hb; exact hx.lt) hB).mono (fun e w' ⟨e1, hm⟩ => ⟨e1, hm.below hB (fun i ⟨j, hj, hi⟩ => by
      by_cases h : j = 0
      · simp only [rows2, if_pos h] at hi; exact (h1.lt i hi).1
      · simp only [rows2, if_neg h] at hi; exact (h2.lt i hi).1)⟩)
/-- What stands through the law's calls. -/
structure ApL (w0 w : World) (p : Nat) (c b : Int) (v : Value) (e : EvtM) (l : List SesM) : Prop where
  bx : Box w p #[.int .i64 c, .int .i64 b, v] 24
  be : Box w (p + 1) e.cells 32
  rs : RdS w v l
  g : ErrType w
  bel : Below w0.heap.size w0 w
theorem ApL.below {w0 w w' : World} {p : Nat} {c b : Int} {v : Value} {e : EvtM} {l : List SesM} (h : ApL w0 w p c b v e l) (hb : Below w.heap.size w w') : ApL w0 w' p c b v e l :=
  ⟨h.bx.below hb, h.be.below hb, h.rs.below hb, h.g.below hb, h.bel.trans (hb.mono h.bel.size)⟩
/-- The lent state. -/
structure LnQ (w : World) (q base : Nat) (c b : Int) (v : Value) (l : List SesM) : Prop where
  bq : Box w q #[.int .i64 c, .int .i64 b, v] 24
  ln : LentS w base v l
theorem LnQ.below {w w' : World} {q base : Nat} {c b : Int} {v : Value} {l : List SesM} (h : LnQ w q base c b v l) (hb : Below w.heap.size w w') : LnQ w' q base c b v l := ⟨h.bq.below hb, h.ln.below hb⟩
/-- A state that was answered. -/
structure AnQ (w : World) (q base : Nat) (c b : Int) (v : Value) (l : List SesM) : Prop where
  bq : Box w q #[.int .i64 c, .int .i64 b, v] 24
  ow : OwnS w base v l
theorem AnQ.below {w w' : World} {q base : Nat} {c b : Int} {v : Value} {l : List SesM} (h : AnQ w q base c b v l) (hb : Below w.heap.size w w') : AnQ w' q base c b v l := ⟨h.bq.below hb, h.ow.below hb⟩
set_option maxHeartbeats 12800000 in
theorem replayApplies_calls (st : StM) (e : EvtM) (v : Value) (w : World) (hr : RdS w v st.l) (hoc : ∀ s ∈ st.l, SesOk s) (hu : e.s.user.length ≤ 9223372036854775807) (hl : e.s.label.length ≤ 9223372036854775807) (hsc : e.s.scopes < 2 ^ 64) (hg : ErrType w) :
    Calls Tryd.prog 3 #[.agg #[.int .i64 st.clock, .int .i64 st.births, v], .agg e.cells] w fun ev w' => ev = .returned (.bool true) ∧ Below w.heap.size w w' := by
  obtain ⟨a, cap, rfl, hc1, hc2⟩ := hr.slice
  have HA := Lib.hid (fun v w' h hn => apply_calls st e v w' h hn hu hl hsc)
  have HR := Lib.hid (fun v w' h hn => refApply_calls st e v w' h hn hu hl hsc (fun x hx => (hoc x hx).scopes))
  have HER := Lib.hid (applyM_er st e)
  have HDL := Lib.hid (applyM_len st e)
  obtain ⟨D, hD⟩ : ∃ D, D = applyM st e := ⟨_, rfl⟩
  rw [← hD] at HA HR HER HDL
  clear hD hoc hu hl hsc
  obtain ⟨c, b, l⟩ := st
  obtain ⟨er, C, B, L⟩ := D
  simp only at HA HR HER HDL hr hc1 ⊢
  have HEC := Lib.hid e.cellsE
  have h1 := Box.new w #[.int .i64 c, .int .i64 b, .slice a l.length cap] 24
  have h2 := Box.new (w.alloc (.cells #[.int .i64 c, .int .i64 b, .slice a l.length cap] 24)) e.cells 32
  rw [World.size_alloc] at h2
  have hb2 := below_two w (.cells #[.int .i64 c, .int .i64 b, .slice a l.length cap] 24) (.cells e.cells 32)
  have hap : ApL w ((w.alloc (.cells #[.int .i64 c, .int .i64 b, .slice a l.length cap] 24)).alloc (.cells e.cells 32)) w.heap.size c b (.slice a l.length cap) e l :=
    ⟨h1.below (below_alloc _ _), h2, hr.below hb2, hg.below hb2, hb2⟩
  obtain ⟨n, hN⟩ : ∃ n, n = l.length := ⟨_, rfl⟩
  rw [← hN] at hap hc1 ⊢
  have HN := Lib.hid hN
  obtain ⟨m, hM⟩ : ∃ m, m = L.length := ⟨_, rfl⟩
  have HM := Lib.hid hM
  have HAP := Lib.hid hap
  obtain ⟨X, hX⟩ : ∃ X, X = errV er := ⟨_, rfl⟩
  rw [← hX] at HA
  have HPL := Lib.hid (fun w h => plain_any er w HER.out.1 HER.out.2 h)
  rw [← hX] at HPL
  clear hr hN hM hap h1 h2 hb2 hg hX HER
  have hn63 : n ≤ 9223372036854775807 := by omega
  clear hc1 hc2
  rw [HEC.out]
  rw [show ((w.alloc (.cells #[.int .i64 c, .int .i64 b, .slice a n cap] 24)).alloc (.cells e.cells 32)) = ((w.alloc (.cells #[.int .i64 c, .int .i64 b, .slice a n cap] 24)).alloc (.cells #[.int .i64 e.kind, .int .i64 e.s.slot, .int .i64 e.s.birth, .int .i64 e.s.upS, .int .i64 e.s.upB, .int .i64 e.s.kind, .string (SB e.s.user), .string (SB e.s.label), .int .u64 (e.s.scopes : Int), .int .i64 e.s.level, .int .i64 e.s.born, .int .i64 e.s.deadline, .int .i64 e.s.depth, .int .i64 e.birth, .int .i64 e.ticks] 32)) by rw [HEC.out]] at HAP
  have c0 : ((w.alloc (.cells #[.int .i64 c, .int .i64 b, .slice a n cap] 24)).alloc (.cells #[.int .i64 e.kind, .int .i64 e.s.slot, .int .i64 e.s.birth, .int .i64 e.s.upS, .int .i64 e.s.upB, .int .i64 e.s.kind, .string (SB e.s.user), .string (SB e.s.label), .int .u64 (e.s.scopes : Int), .int .i64 e.s.level, .int .i64 e.s.born, .int .i64 e.s.deadline, .int .i64 e.s.depth, .int .i64 e.birth, .int .i64 e.ticks] 32)).cell? ⟨w.heap.size, 0, none⟩ = some (.int .i64 c) := HAP.out.bx.cell 0 _ rfl
  have c1 : ((w.alloc (.cells #[.int .i64 c, .int .i64 b, .slice a n cap] 24)).alloc (.cells #[.int .i64 e.kind, .int .i64 e.s.slot, .int .i64 e.s.birth, .int .i64 e.s.upS, .int .i64 e.s.upB, .int .i64 e.s.kind, .string (SB e.s.user), .string (SB e.s.label), .int .u64 (e.s.scopes : Int), .int .i64 e.s.level, .int .i64 e.s.born, .int .i64 e.s.deadline, .int .i64 e.s.depth, .int .i64 e.birth, .int .i64 e.ticks] 32)).cell? ⟨w.heap.size, 1, none⟩ = some (.int .i64 b) := HAP.out.bx.cell 1 _ rfl
  have c2 : ((w.alloc (.cells #[.int .i64 c, .int .i64 b, .slice a n cap] 24)).alloc (.cells #[.int .i64 e.kind, .int .i64 e.s.slot, .int .i64 e.s.birth, .int .i64 e.s.upS, .int .i64 e.s.upB, .int .i64 e.s.kind, .string (SB e.s.user), .string (SB e.s.label), .int .u64 (e.s.scopes : Int), .int .i64 e.s.level, .int .i64 e.s.born, .int .i64 e.s.deadline, .int .i64 e.s.depth, .int .i64 e.birth, .int .i64 e.ticks] 32)).cell? ⟨w.heap.size, 2, none⟩ = some (.slice a n cap) := HAP.out.bx.cell 2 _ rfl
  go_enter Tryd.func3, Tryd.ntmps3
  by_cases hlen : (200 : Int) < (n : Int)
  · go_wp2_with fail
    go_ret
    exact ⟨rfl, HAP.out.bel⟩
  have HL2 := Lib.hid (show n ≤ 200 by omega)
  go_wp2_with fail
  clear hlen
  refine (lentState_calls c b _ l _ HAP.out.rs (by have := HL2.out; have := HN.out; omega)).mono ?_
  rintro ev w2 ⟨o, rfl, ho, hb⟩
  have HA2 := Lib.hid (HAP.out.below hb)
  have HO2 := Lib.hid ho
  obtain ⟨oa, oc, rfl, _⟩ := ho.slice
  rw [← HN.out] at HO2 ⊢
  clear ho hb c0 c1 c2 HAP
  obtain ⟨base0, hbase0⟩ : ∃ base0 : Nat, LentS w2 base0 (.slice oa n oc) l := ⟨_, HO2.out⟩
  have hb3 := below_alloc w2 (.cells #[.int .i64 c, .int .i64 b, .slice oa n oc] 24)
  have HA3 := Lib.hid (HA2.out.below hb3)
  have HQ3 := Lib.hid (show LnQ (w2.alloc (.cells #[.int .i64 c, .int .i64 b, .slice oa n oc] 24)) w2.heap.size base0 c b (.slice oa n oc) l from ⟨Box.new _ _ _, hbase0.below hb3⟩)
  obtain ⟨q, hq⟩ : ∃ q, q = w2.heap.size := ⟨_, rfl⟩
  have HR3 := Lib.hid HA3.out.be.rangeV
  have d0 : (w2.alloc (.cells #[.int .i64 c, .int .i64 b, .slice oa n oc] 24)).cell? ⟨w2.heap.size, 0, none⟩ = some (.int .i64 c) := HQ3.out.bq.cell 0 _ rfl
  have d1 : (w2.alloc (.cells #[.int .i64 c, .int .i64 b, .slice oa n oc] 24)).cell? ⟨w2.heap.size, 1, none⟩ = some (.int .i64 b) := HQ3.out.bq.cell 1 _ rfl
  have d2 : (w2.alloc (.cells #[.int .i64 c, .int .i64 b, .slice oa n oc] 24)).cell? ⟨w2.heap.size, 2, none⟩ = some (.slice oa n oc) := HQ3.out.bq.cell 2 _ rfl
  clear hb3 hbase0 HA2 HO2
  go_wp2_with ((with_reducible refine wpList_load_k ?L1a 32 (.tmp 3) ?L1b (w.heap.size + 1) (0) ?L1c e.cells.toList _ (HR3.out) Tryd.underlying32 ?L1d ?L1e ?L1f); (case L1b => rfl); (case L1a => rfl); (case L1c => rfl); (case L1d => rfl); (case L1e => kernel_rfl))
  intro cv hcv
  have ecv : cv = e.cells := by rw [hcv.out]
  subst ecv
  clear hcv
  rw [← hq] at HQ3 ⊢
  generalize (w2.alloc (.cells #[.int .i64 c, .int .i64 b, .slice oa n oc] 24)) = w3 at HA3 HQ3 HR3 ⊢
  clear d0 d1 d2 hq HR3
  have HK3 := HA3
  have HQK := HQ3
  have HA3 := Lib.hid (show ApL w3 w3 w.heap.size c b (.slice a n cap) e l from ⟨HK3.out.bx, HK3.out.be, HK3.out.rs, HK3.out.g, Below.refl _ _⟩)
  go_wp2_with fail
  have hq3 : LentS w3 base0 (.slice oa n oc) l := HQ3.out.ln
  have hnl : l.length ≤ 1000000000 := by have := HL2.out; have := HN.out; omega
  have HNL := Lib.hid hnl
  clear hnl
  refine (HA.out (.slice oa n oc) w3 hq3.rd HNL.out).mono ?_
  rintro ev w4 ⟨o6, rfl, ho6, hb4⟩
  obtain ⟨B3, hB3⟩ : ∃ B3, B3 = w3.heap.size := ⟨_, rfl⟩
  have HB3 := Lib.hid hB3
  rw [← hB3] at ho6
  clear hB3 hq3
  obtain ⟨a6, c6, rfl, _⟩ := ho6.slice
  rw [← HM.out] at ho6 ⊢
  have hal := below_alloc w4 (.cells #[.int .i64 C, .int .i64 B, .slice a6 m c6] 24)
  have hnx := below_trans hb4 hal
  have HA5 := Lib.hid (HA3.out.below hnx)
  have HQ5 := Lib.hid (HQ3.out.below hnx)
  have HX5 := Lib.hid (show AnQ (w4.alloc (.cells #[.int .i64 C, .int .i64 B, .slice a6 m c6] 24)) w4.heap.size B3 C B (.slice a6 m c6) L from ⟨Box.new _ _ _, ho6.below hal⟩)
  have HS45 := Lib.hid (show B3 ≤ w4.heap.size by rw [HB3.out]; exact hb4.size)
  have HLT6 := Lib.hid (fun k hk => (ho6.lt k hk))
  have d0 : (w4.alloc (.cells #[.int .i64 C, .int .i64 B, .slice a6 m c6] 24)).cell? ⟨q, 0, none⟩ = some (.int .i64 c) := HQ5.out.bq.cell 0 _ rfl
  have d1 : (w4.alloc (.cells #[.int .i64 C, .int .i64 B, .slice a6 m c6] 24)).cell? ⟨q, 1, none⟩ = some (.int .i64 b) := HQ5.out.bq.cell 1 _ rfl
  have d2 : (w4.alloc (.cells #[.int .i64 C, .int .i64 B, .slice a6 m c6] 24)).cell? ⟨q, 2, none⟩ = some (.slice oa n oc) := HQ5.out.bq.cell 2 _ rfl
  have HR5 := Lib.hid HA5.out.be.rangeV
  clear hal hnx hb4 ho6 HA3 HQ3
  go_wp2_with ((with_reducible refine wpList_load_k ?L2a 32 (.tmp 3) ?L2b (w.heap.size + 1) (0) ?L2c e.cells.toList _ (HR5.out) Tryd.underlying32 ?L2d ?L2e ?L2f); (case L2b => rfl); (case L2a => rfl); (case L2c => rfl); (case L2d => rfl); (case L2e => kernel_rfl))
  intro cv hcv
  have ecv : cv = e.cells := by rw [hcv.out]
  subst ecv
  clear hcv
  obtain ⟨q6, hq6⟩ : ∃ q6, q6 = w4.heap.size := ⟨_, rfl⟩
  have HQ6 := Lib.hid hq6
  rw [← hq6] at HX5 HS45 HLT6 ⊢
  generalize (w4.alloc (.cells #[.int .i64 C, .int .i64 B, .slice a6 m c6] 24)) = w5 at HA5 HQ5 HR5 HX5 ⊢
  clear d0 d1 d2 HR5 hq6 HQ6
  go_wp2_with fail
  have hq5 : LentS w5 base0 (.slice oa n oc) l := HQ5.out.ln
  refine (HA.out (.slice oa n oc) w5 hq5.rd HNL.out).mono ?_
  rintro ev w6 ⟨o8, rfl, ho8, hb6⟩
  have hq6s : q6 < w5.heap.size := HX5.out.bq.lt
  have HS56 := Lib.hid hq6s
  obtain ⟨a8, c8, rfl, _⟩ := ho8.slice
  rw [← HM.out] at ho8 ⊢
  clear hq5 hq6s
  have HAPT := Lib.hid (show Apart (.slice a6 m c6) (.slice a8 m c8) from fun k h1 h2 => by have := (HLT6.out k h1).2; have := (ho8.lt k h2).1; have := HS56.out; omega)
  have ho8b := ho8.base (base' := B3) (by have := HS45.out; have := HS56.out; omega)
  have hal := below_alloc w6 (.cells #[.int .i64 C, .int .i64 B, .slice a8 m c8] 24)
  have hnx := below_trans hb6 hal
  have HA7 := Lib.hid (HA5.out.below hnx)
  have HQ7 := Lib.hid (HQ5.out.below hnx)
  have HX7 := Lib.hid (HX5.out.below hnx)
  have HY7 := Lib.hid (show AnQ (w6.alloc (.cells #[.int .i64 C, .int .i64 B, .slice a8 m c8] 24)) w6.heap.size B3 C B (.slice a8 m c8) L from ⟨Box.new _ _ _, ho8b.below hal⟩)
  have c0 : (w6.alloc (.cells #[.int .i64 C, .int .i64 B, .slice a8 m c8] 24)).cell? ⟨w.heap.size, 0, none⟩ = some (.int .i64 c) := HA7.out.bx.cell 0 _ rfl
  have c1 : (w6.alloc (.cells #[.int .i64 C, .int .i64 B, .slice a8 m c8] 24)).cell? ⟨w.heap.size, 1, none⟩ = some (.int .i64 b) := HA7.out.bx.cell 1 _ rfl
  have c2 : (w6.alloc (.cells #[.int .i64 C, .int .i64 B, .slice a8 m c8] 24)).cell? ⟨w.heap.size, 2, none⟩ = some (.slice a n cap) := HA7.out.bx.cell 2 _ rfl
  have HR7 := Lib.hid HA7.out.be.rangeV
  clear hal hnx hb6 ho8 ho8b HA5 HQ5 HX5 HLT6 HS56
  go_wp2_with ((with_reducible refine wpList_load_k ?L3a 32 (.tmp 3) ?L3b (w.heap.size + 1) (0) ?L3c e.cells.toList _ (HR7.out) Tryd.underlying32 ?L3d ?L3e ?L3f); (case L3b => rfl); (case L3a => rfl); (case L3c => rfl); (case L3d => rfl); (case L3e => kernel_rfl))
  intro cv hcv
  have ecv : cv = e.cells := by rw [hcv.out]
  subst ecv
  clear hcv
  obtain ⟨q8, hq8⟩ : ∃ q8, q8 = w6.heap.size := ⟨_, rfl⟩
  rw [← hq8] at HY7 ⊢
  generalize (w6.alloc (.cells #[.int .i64 C, .int .i64 B, .slice a8 m c8] 24)) = w7 at HA7 HQ7 HR7 HX7 HY7 ⊢
  clear c0 c1 c2 HR7 hq8
  go_wp2_with fail
  refine (HR.out (.slice a n cap) w7 HA7.out.rs HNL.out).mono ?_
  rintro ev w8 ⟨o10, rfl, ho10, hb8⟩
  obtain ⟨a10, c10, rfl, _⟩ := ho10.slice
  rw [← HM.out] at ho10 ⊢
  have hal := below_alloc w8 (.cells #[.int .i64 C, .int .i64 B, .slice a10 m c10] 24)
  have hnx := below_trans hb8 hal
  have HA9 := Lib.hid (HA7.out.below hnx)
  have HQ9 := Lib.hid (HQ7.out.below hnx)
  have HX9 := Lib.hid (HX7.out.below hnx)
  have HY9 := Lib.hid (HY7.out.below hnx)
  have HZ9 := Lib.hid (show AnQ (w8.alloc (.cells #[.int .i64 C, .int .i64 B, .slice a10 m c10] 24)) w8.heap.size w7.heap.size C B (.slice a10 m c10) L from ⟨Box.new _ _ _, ho10.below hal⟩)
  have x0 : (w8.alloc (.cells #[.int .i64 C, .int .i64 B, .slice a10 m c10] 24)).cell? ⟨q6, 0, none⟩ = some (.int .i64 C) := HX9.out.bq.cell 0 _ rfl
  have x1 : (w8.alloc (.cells #[.int .i64 C, .int .i64 B, .slice a10 m c10] 24)).cell? ⟨q6, 1, none⟩ = some (.int .i64 B) := HX9.out.bq.cell 1 _ rfl
  have x2 : (w8.alloc (.cells #[.int .i64 C, .int .i64 B, .slice a10 m c10] 24)).cell? ⟨q6, 2, none⟩ = some (.slice a6 m c6) := HX9.out.bq.cell 2 _ rfl
  have z0 : (w8.alloc (.cells #[.int .i64 C, .int .i64 B, .slice a10 m c10] 24)).cell? ⟨w8.heap.size, 0, none⟩ = some (.int .i64 C) := HZ9.out.bq.cell 0 _ rfl
  have z1 : (w8.alloc (.cells #[.int .i64 C, .int .i64 B, .slice a10 m c10] 24)).cell? ⟨w8.heap.size, 1, none⟩ = some (.int .i64 B) := HZ9.out.bq.cell 1 _ rfl
  have z2 : (w8.alloc (.cells #[.int .i64 C, .int .i64 B, .slice a10 m c10] 24)).cell? ⟨w8.heap.size, 2, none⟩ = some (.slice a10 m c10) := HZ9.out.bq.cell 2 _ rfl
  clear hal hnx hb8 ho10 HA7 HQ7 HX7 HY7 HA HR
  go_wp2_with fail
  obtain ⟨q10, hq10⟩ : ∃ q10, q10 = w8.heap.size := ⟨_, rfl⟩
  rw [← hq10] at HZ9 ⊢
  generalize (w8.alloc (.cells #[.int .i64 C, .int .i64 B, .slice a10 m c10] 24)) = w9 at HA9 HQ9 HX9 HY9 HZ9 ⊢
  clear x0 x1 x2 z0 z1 z2 hq10
  have hss : sameSt ⟨C, B, L⟩ ⟨C, B, L⟩ = true := sameSt_iff.2 rfl
  refine (show Calls _ _ #[.agg #[.int .i64 C, .int .i64 B, .slice a6 m c6], .agg #[.int .i64 C, .int .i64 B, .slice a10 m c10]] w9 _ from sameState_calls ⟨C, B, L⟩ ⟨C, B, L⟩ _ _ w9 HX9.out.ow.rd HZ9.out.ow.rd).mono ?_
  rintro ev wa ⟨rfl, hba⟩
  rw [hss]
  have HAa := Lib.hid (HA9.out.below hba)
  have HQa := Lib.hid (HQ9.out.below hba)
  have HXa := Lib.hid (HX9.out.below hba)
  have HYa := Lib.hid (HY9.out.below hba)
  have HZa := Lib.hid (HZ9.out.below hba)
  clear hba HA9 HQ9 HX9 HY9 HZ9 hss
  have y0 : wa.cell? ⟨q8, 0, none⟩ = some (.int .i64 C) := HYa.out.bq.cell 0 _ rfl
  have y1 : wa.cell? ⟨q8, 1, none⟩ = some (.int .i64 B) := HYa.out.bq.cell 1 _ rfl
  have y2 : wa.cell? ⟨q8, 2, none⟩ = some (.slice a8 m c8) := HYa.out.bq.cell 2 _ rfl
  have z0 : wa.cell? ⟨q10, 0, none⟩ = some (.int .i64 C) := HZa.out.bq.cell 0 _ rfl
  have z1 : wa.cell? ⟨q10, 1, none⟩ = some (.int .i64 B) := HZa.out.bq.cell 1 _ rfl
  have z2 : wa.cell? ⟨q10, 2, none⟩ = some (.slice a10 m c10) := HZa.out.bq.cell 2 _ rfl
  go_wp2_with fail
  have hss : sameSt ⟨C, B, L⟩ ⟨C, B, L⟩ = true := sameSt_iff.2 rfl
  refine (show Calls _ _ #[.agg #[.int .i64 C, .int .i64 B, .slice a8 m c8], .agg #[.int .i64 C, .int .i64 B, .slice a10 m c10]] wa _ from sameState_calls ⟨C, B, L⟩ ⟨C, B, L⟩ _ _ wa HYa.out.ow.rd HZa.out.ow.rd).mono ?_
  rintro ev wb ⟨rfl, hbb⟩
  rw [hss]
  have HAb := Lib.hid (HAa.out.below hbb)
  have HQb := Lib.hid (HQa.out.below hbb)
  have HXb := Lib.hid (HXa.out.below hbb)
  have HYb := Lib.hid (HYa.out.below hbb)
  clear hbb HAa HQa HXa HYa HZa hss y0 y1 y2 z0 z1 z2
  go_wp2_with fail
  refine (HPL.out wb HAb.out.g).mono ?_
  rintro ev wc ⟨rfl, hbc⟩
  have HAc := Lib.hid (HAb.out.below hbc)
  have HQc := Lib.hid (HQb.out.below hbc)
  have HXc := Lib.hid (HXb.out.below hbc)
  have HYc := Lib.hid (HYb.out.below hbc)
  clear hbc HAb HQb HXb HYb
  go_wp2_with fail
  refine (HPL.out wc HAc.out.g).mono ?_
  rintro ev wd ⟨rfl, hbd⟩
  have HAd := Lib.hid (HAc.out.below hbd)
  have HQd := Lib.hid (HQc.out.below hbd)
  have HXd := Lib.hid (HXc.out.below hbd)
  have HYd := Lib.hid (HYc.out.below hbd)
  clear hbd HAc HQc HXc HYc
  have x2 : wd.cell? ⟨q6, 2, none⟩ = some (.slice a6 m c6) := HXd.out.bq.cell 2 _ rfl
  have y2 : wd.cell? ⟨q8, 2, none⟩ = some (.slice a8 m c8) := HYd.out.bq.cell 2 _ rfl
  have hbe := below_alloc wd (.cells #[.slice a6 m c6, .slice a8 m c8] 22)
  have hXe := (HXd.out.below hbe).ow
  have hYe := (HYd.out.below hbe).ow
  have hB3 : B3 ≤ wd.heap.size := by have := HXd.out.bq.lt; have := HS45.out; omega
  have hL : L.length ≤ 1000000000000 := by have := HDL.out; have := HNL.out; omega
  have HTA := Lib.hid (two_apart hXe hYe HAPT.out (Box.new wd #[.slice a6 m c6, .slice a8 m c8] 22) (fun k hk => by have := (HXd.out.ow.lt k hk).2; omega) (fun k hk => by have := (HYd.out.ow.lt k hk).2; omega) hL hL (Nat.le_trans hB3 hbe.size))
  have HBE := Lib.hid (hbe.mono hB3)
  have HQ3S := Lib.hid hB3
  clear hbe hXe hYe hB3 hL HXd HYd
  go_wp2_with fail
  refine HTA.out.mono ?_
  rintro ev wf ⟨rfl, hbf⟩
  have hbf2 : Below w3.heap.size w3 wf := by
    have h1 := HAd.out.bel.trans ((below_alloc wd (.cells #[.slice a6 m c6, .slice a8 m c8] 22)).mono HAd.out.bel.size)
    have h2 := hbf
    rw [HB3.out] at h2
    exact h1.trans h2
  have HAf := Lib.hid (HK3.out.below hbf2)
  have HQf := Lib.hid (HQK.out.below hbf2)
  clear hbf hbf2 HTA HBE HAd HQd HK3 HQK x2 y2
  have c0 : wf.cell? ⟨w.heap.size, 0, none⟩ = some (.int .i64 c) := HAf.out.bx.cell 0 _ rfl
  have c1 : wf.cell? ⟨w.heap.size, 1, none⟩ = some (.int .i64 b) := HAf.out.bx.cell 1 _ rfl
  have c2 : wf.cell? ⟨w.heap.size, 2, none⟩ = some (.slice a n cap) := HAf.out.bx.cell 2 _ rfl
  have d0 : wf.cell? ⟨q, 0, none⟩ = some (.int .i64 c) := HQf.out.bq.cell 0 _ rfl
  have d1 : wf.cell? ⟨q, 1, none⟩ = some (.int .i64 b) := HQf.out.bq.cell 1 _ rfl
  have d2 : wf.cell? ⟨q, 2, none⟩ = some (.slice oa n oc) := HQf.out.bq.cell 2 _ rfl
  go_wp2_with fail
  refine (keptState_calls c b (.slice oa n oc) (.slice a n cap) base0 l wf HQf.out.ln HAf.out.rs (by have := HNL.out; omega)).mono ?_
  rintro ev wg ⟨rfl, hbg⟩
  have HBG := Lib.hid (HAf.out.bel.trans (hbg.mono HAf.out.bel.size))
  clear hbg HAf HQf c0 c1 c2 d0 d1 d2
  go_wp2_with fail
  go_ret
  exact ⟨rfl, HBG.out⟩
end Go.Proofs.YthnabnieajojjaaDoor
/-
  How a law's walk becomes its row: for any number of parameters; under the bound of 'uptoSmall', and under the form's own reach.
-/
namespace Go.Proofs.YthnabnieajojjaaDoor
set_option maxRecDepth 100000
open Go.ChangeShapes Go.WideShapes Go.ChangeAt Go.RowKit
theorem L.own : ownKnob Tryd.prog.godebug = none := by kernel_rfl
theorem L.laidOut : laidOutB Tryd.prog = true := by kernel_rfl

/-- How great what was read is: its bulk (up), or each piece within the form's reach. -/
def SizeOk (up : Bool) (N : Nat) (t : TypeId) {H : Type} (d : DataW H) : Prop :=
  match up with | true => Rows.uptoBulk d ≤ N | false => (DataW.weights Tryd.prog t d).all (· ≤ reachBytes) = true
/-- Cells that the form reads as a value of a type. -/
def ArgC (up : Bool) (N : Nat) (t : TypeId) (W : World) (cs : List Value) : Prop :=
  ∃ (H : Type) (enc : TypeId × Value → H) (d : DataW H) (ps : List MemPlace) (fuel : Nat), DataW.trod enc Tryd.prog W 0 (fun _ => true) true fuel t cs = some (d, ps) ∧ SizeOk up N t d
/-- An argument, as the form reads it; its size. -/
def Arg (up : Bool) (t : TypeId) (W : World) (v : Value) : Prop :=
  ArgC up 1048576 t W v.cells.toList ∧ ∃ base, Value.okWide Tryd.prog W .any base t v
def ArgAll (up : Bool) (W : World) : List TypeId → List Value → Prop
  | [], [] => True
  | t :: ts, v :: vs => Arg up t W v ∧ ArgAll up W ts vs
  | _, _ => False
/-- What a law's walk says. -/
def Walks (up : Bool) (f : FuncId) (ts : List TypeId) : Prop :=
  ∀ (W : World) (vs : List Value), ArgAll up W ts vs → Calls Tryd.prog f vs.toArray W fun e W' => e = .returned (.bool true) ∧ Below W.heap.size W W'

theorem bulk_all_le {H : Type} {d : DataW H} {l : List (DataW H)} (h : d ∈ l) : Rows.uptoBulk d ≤ Rows.uptoBulkAll l := by
  induction l with
  | nil => cases h
  | cons x r ih =>
    simp only [Rows.uptoBulkAll]
    cases List.mem_cons.1 h with
    | inl e => subst e; omega
    | inr e => have := ih e; omega
set_option maxRecDepth 100000 in
theorem argAll_mk {up : Bool} {H : Type} {enc : TypeId × Value → H} {W : World} {base : Nat} : ∀ {ts : List TypeId} {vs : List Value} {ds : List (DataW H)} {ps : List MemPlace},
    DataW.TrodAll enc Tryd.prog W 0 (fun _ => true) true ts vs ds ps → (∀ (j : Nat) t v, ts[j]? = some t → vs[j]? = some v → Value.okWide Tryd.prog W .any base t v) →
    (match up with | true => Rows.uptoBulkAll ds ≤ 1048576 | false => (DataW.weightsEach Tryd.prog ts ds).all (· ≤ reachBytes) = true) → ArgAll up W ts vs
  | [], [], [], _, _, _, _ => trivial
  | t :: ts, v :: vs, d :: ds, ps, h, hv, hs => by
    obtain ⟨p, q, h1, h2, rfl⟩ := h
    refine ⟨⟨⟨H, enc, d, p, h1.choose, h1.choose_spec, ?_⟩, base, hv 0 t v rfl rfl⟩, argAll_mk (base := base) h2 (fun j t v ht hv' => hv (j + 1) t v (by simpa using ht) (by simpa using hv')) ?_⟩
    · cases up with
      | true => simp only [Rows.uptoBulkAll] at hs; show Rows.uptoBulk d ≤ 1048576; omega
      | false => simp only [DataW.weightsEach, List.all_append, Bool.and_eq_true] at hs; exact hs.1
    · cases up with
      | true => simp only [Rows.uptoBulkAll] at hs ⊢; omega
      | false => simp only [DataW.weightsEach, List.all_append, Bool.and_eq_true] at hs; exact hs.2
  | [], [], _ :: _, _, h, _, _ => h.elim
  | [], _ :: _, _, _, h, _, _ => h.elim
  | _ :: _, [], _, _, h, _, _ => h.elim
  | _ :: _, _ :: _, [], _, h, _, _ => h.elim
theorem trodAll_below {H : Type} {enc : TypeId × Value → H} {W W' : World} (hb : Below W.heap.size W W') : ∀ {ts : List TypeId} {vs : List Value} {ds : List (DataW H)} {ps : List MemPlace},
    (∀ t ∈ ts, Tryd.prog.readableRec t = true ∧ t < Tryd.prog.types.size) → DataW.TrodAll enc Tryd.prog W 0 (fun _ => true) true ts vs ds ps → (∀ x ∈ ps, x.block < W.heap.size) →
    DataW.TrodAll enc Tryd.prog W' 0 (fun b => decide (b < W.heap.size)) true ts vs ds ps
  | [], [], [], _, _, h, _ => h
  | t :: ts, v :: vs, d :: ds, ps, hr, h, hlt => by
    obtain ⟨p, q, h1, h2, rfl⟩ := h
    refine ⟨p, q, Below.trod L.laidOut (hr t (by simp)).1 (hr t (by simp)).2 h1 hb (fun x hx => hlt x (by simp [hx])), trodAll_below hb (fun t ht => hr t (by simp [ht])) h2 (fun x hx => hlt x (by simp [hx])), rfl⟩
  | [], [], _ :: _, _, _, h, _ => h.elim
  | [], _ :: _, _, _, _, h, _ => h.elim
  | _ :: _, [], _, _, _, h, _ => h.elim
  | _ :: _, _ :: _, [], _, _, h, _ => h.elim

/-! What an argument's cells are, by its type. -/
theorem ArgC.int {up : Bool} {N : Nat} {t : TypeId} {W : World} {cs : List Value} {k : IntKind} (ht : Tryd.prog.underlying t = some (.int k)) (h : ArgC up N t W cs) : ∃ n, cs = [.int k n] ∧ (Lit.int k n).wf = true := by
  obtain ⟨H, enc, d, ps, fuel, h, _⟩ := h
  obtain ⟨n, h1, _, h2⟩ := DataW.trod_int ht h
  exact ⟨n, h1, h2⟩
theorem ArgC.bool {up : Bool} {N : Nat} {t : TypeId} {W : World} {cs : List Value} (ht : Tryd.prog.underlying t = some .bool) (h : ArgC up N t W cs) : ∃ b, cs = [.bool b] := by
  obtain ⟨H, enc, d, ps, fuel, h, _⟩ := h
  obtain ⟨n, h1, _⟩ := DataW.trod_bool ht h
  exact ⟨n, h1⟩
theorem ArgC.string {up : Bool} {N : Nat} {t : TypeId} {W : World} {cs : List Value} (ht : Tryd.prog.underlying t = some .string) (h : ArgC up N t W cs) : ∃ s : ByteArray, cs = [.string s] ∧ s.size ≤ 9223372036854775807 ∧ (up = true → s.size + 1 ≤ N) ∧ (up = false → s.size ≤ 140737488351232) := by
  obtain ⟨H, enc, d, ps, fuel, h, hs⟩ := h
  obtain ⟨s, h1, h2, h3⟩ := DataW.trod_string ht h
  simp only [Prod.mk.injEq] at h2
  obtain ⟨rfl, rfl⟩ := h2
  have e : s.data.toList.length = s.size := by rw [Array.length_toList]; rfl
  refine ⟨s, h1, h3, fun hu => ?_, fun hu => ?_⟩
  · subst hu; simp only [SizeOk, Rows.uptoBulk] at hs; omega
  · subst hu; simp only [SizeOk, DataW.weights, List.all_cons, List.all_nil, Bool.and_true, reachBytes] at hs; have := of_decide_eq_true hs; omega
theorem ArgC.struct {up : Bool} {N : Nat} {t : TypeId} {W : World} {cs : List Value} {fs : Array Field} (ht : Tryd.prog.underlying t = some (.struct fs)) (h : ArgC up N t W cs) :
    cs.length = Tryd.prog.cellsOf t ∧ ∃ Ns : List Nat, Ns.length = fs.size ∧ (up = true → Ns.sum + 1 ≤ N) ∧ ∀ (i : Nat) (f : Field), fs[i]? = some f → ArgC up (Ns.getD i 0) f.type W ((cs.drop f.offset).take (Tryd.prog.cellsOf f.type)) := by
  obtain ⟨H, enc, d, ps, fuel, h, hs⟩ := h
  obtain ⟨xs, n, rfl, h1, h2, h3, h4⟩ := DataW.trod_struct ht h
  simp only [Prod.mk.injEq] at h1
  obtain ⟨rfl, rfl⟩ := h1
  refine ⟨h2, xs.map (fun x => Rows.uptoBulk x.1), by simpa using h3, fun hu => ?_, fun i f hf => ?_⟩
  · subst hu
    simp only [SizeOk, Rows.uptoBulk] at hs
    have : ∀ l : List (DataW H × List MemPlace), (l.map (fun x => Rows.uptoBulk x.1)).sum = Rows.uptoBulkAll (l.map (·.1)) := by
      intro l; induction l with
      | nil => rfl
      | cons a l ih => simp [Rows.uptoBulkAll, ih]
    rw [this]; omega
  · have hi : i < xs.length := by rw [h3]; exact (Array.getElem?_eq_some_iff.1 hf).1
    have h5 := h4 i f hf
    rw [List.getElem?_eq_getElem hi] at h5
    refine ⟨H, enc, xs[i].1, xs[i].2, n, h5, ?_⟩
    cases up with
    | true => simp only [SizeOk]; rw [List.getD, List.getElem?_map, List.getElem?_eq_getElem hi]; exact Nat.le_refl _
    | false =>
      simp only [SizeOk, DataW.weights, ht] at hs ⊢
      refine List.all_eq_true.2 fun m hm => List.all_eq_true.1 hs m ?_
      exact DataW.weights_mem_each (j := i) (t := f.type) (d := xs[i].1) (by simpa using (congrArg (Option.map (·.type)) hf)) (by simp [List.getElem?_eq_getElem hi]) m hm
theorem cells_of {w : World} {a : Addr} {n : Nat} {cs : List Value} (h : w.cells? 0 a n = some cs) : cs.length = n ∧ ∀ j, j < n → w.cell? (a.add j) = some (cs.getD j undef) := by
  unfold World.cells? at h
  rw [if_pos (Nat.zero_le _)] at h
  have h1 := mapM_some_length h
  simp at h1
  refine ⟨h1, fun j hj => ?_⟩
  have := mapM_some_get h j j (by simp [hj])
  rw [this, List.getD, List.getElem?_eq_getElem (by omega)]; rfl
theorem ArgC.slice {up : Bool} {N : Nat} {t e : TypeId} {W : World} {cs : List Value} {size : Nat} (ht : Tryd.prog.underlying t = some (.slice e)) (hsz : Tryd.prog.cellsOf e = size) (hpos : 0 < size) (h : ArgC up N t W cs) :
    ∃ a n cap, cs = [.slice a n cap] ∧ n ≤ cap ∧ cap ≤ 9223372036854775807 ∧ (a = none → cap = 0) ∧ (up = false → cap * Tryd.prog.bytesOf e ≤ 140737488351232) ∧
      ∃ Ns : List Nat, Ns.length = n ∧ (up = true → Ns.sum + 1 ≤ N ∧ n + 1 ≤ N) ∧
      ∀ i, i < n → ∃ b off cs', a = some ⟨b, off, none⟩ ∧ cs'.length = size ∧ (∀ j, j < size → W.cell? ⟨b, off + (i * size + j), none⟩ = some (cs'.getD j undef)) ∧ ArgC up (Ns.getD i 0) e W cs' := by
  obtain ⟨H, enc, d, ps, fuel, h, hs⟩ := h
  rcases DataW.trod_slice ht h with ⟨h1, h2⟩ | ⟨a, len, cap, elems, rest, n, rfl, h1, h2, _, h3, h4, h5, h6, h7, _⟩
  · subst h1
    simp only [Prod.mk.injEq] at h2
    obtain ⟨rfl, rfl⟩ := h2
    refine ⟨none, 0, 0, rfl, by omega, by omega, fun _ => rfl, fun _ => by omega, [], rfl, fun hu => ?_, fun i hi => by omega⟩
    subst hu; simp only [SizeOk, Rows.uptoBulk] at hs; simp; omega
  · subst h1
    simp only [Prod.mk.injEq] at h2
    obtain ⟨rfl, rfl⟩ := h2
    obtain ⟨h7, _⟩ := h7 rfl
    refine ⟨some a, len, cap, rfl, h3, by unfold maxLen at h4; omega, fun h => by (cases h), fun hu => ?_, elems.map (fun x => Rows.uptoBulk x.1), by simpa using h5, fun hu => ?_, fun i hi => ?_⟩
    · subst hu
      simp only [SizeOk, DataW.weights, ht, List.all_cons, Bool.and_eq_true, List.length_map, reachBytes] at hs
      have : elems.length + rest.length = cap := by omega
      rw [this] at hs; exact of_decide_eq_true hs.1
    · subst hu
      simp only [SizeOk, Rows.uptoBulk] at hs
      have hb : ∀ l : List (DataW H × List MemPlace), (l.map (fun x => Rows.uptoBulk x.1)).sum = Rows.uptoBulkAll (l.map (·.1)) ∧ l.length ≤ Rows.uptoBulkAll (l.map (·.1)) := by
        intro l; induction l with
        | nil => exact ⟨rfl, by simp⟩
        | cons a l ih =>
          have h1 : 1 ≤ Rows.uptoBulk a.1 := by
            cases a.1 with
            | lit l => cases l <;> simp [Rows.uptoBulk]
            | _ => simp [Rows.uptoBulk]
          simp only [List.map_cons, List.sum_cons, Rows.uptoBulkAll, List.length_cons, ih.1, true_and]; omega
      have := hb elems
      rw [this.1]; omega
    · have hi' : i < elems.length := by omega
      have h8 := h6 i hi
      rw [List.getElem?_eq_getElem hi'] at h8
      simp only [Option.bind_eq_some_iff] at h8
      obtain ⟨cs', hc1, hc2⟩ := h8
      obtain ⟨hl, hcell⟩ := cells_of hc1
      rw [hsz] at hl
      have hspot : a.spot = none := by
        have h0 := h6 0 (by omega)
        rw [List.getElem?_eq_getElem (by omega), Nat.zero_mul] at h0
        simp only [Option.bind_eq_some_iff] at h0
        obtain ⟨cs0, hc0, _⟩ := h0
        have h9 := (cells_of hc0).2 0 (by rw [hsz]; omega)
        simpa [Addr.add] using World.cell?_spot h9
      obtain ⟨b, off, spot⟩ := a
      simp only at hspot; subst hspot
      refine ⟨b, off, cs', rfl, hl, fun j hj => ?_, H, enc, elems[i].1, elems[i].2, n, hc2, ?_⟩
      · have := hcell j (by omega)
        rw [hsz] at this
        rw [add_plain, add_plain, Nat.add_assoc] at this; exact this
      · cases up with
        | true => simp only [SizeOk]; rw [List.getD, List.getElem?_map, List.getElem?_eq_getElem hi']; exact Nat.le_refl _
        | false =>
          simp only [SizeOk, DataW.weights, ht, List.all_cons, Bool.and_eq_true, List.all_append] at hs ⊢
          have hall : ∀ (l : List (DataW H)) (d : DataW H), d ∈ l → (DataW.weightsAll Tryd.prog e l).all (· ≤ reachBytes) = true → (DataW.weights Tryd.prog e d).all (· ≤ reachBytes) = true := by
            intro l d hd
            induction l with
            | nil => cases hd
            | cons x l ih =>
              intro hw
              simp only [DataW.weightsAll, List.all_append, Bool.and_eq_true] at hw
              cases List.mem_cons.1 hd with
              | inl e => subst e; exact hw.1
              | inr e => exact ih e hw.2
          exact hall (elems.map (·.1)) _ (List.mem_map.2 ⟨_, List.getElem_mem hi', rfl⟩) hs.2.1
theorem law_contract {up : Bool} {vt : List TypeId} (hvt : vt = []) {f : FuncId} {fn : Func} {s : ChangeSpec} {ts : List TypeId} (hp : fn.params.toList = ts) (hres : fn.resultTypes = #[4]) (hvars : s.vars = [])
    (hr : ∀ t ∈ ts, Tryd.prog.readableRec t = true ∧ t < Tryd.prog.types.size) (hs : ∀ (H : Type) (ds : List (DataW H)), ds.length = ts.length → (s.fn H ds).results = [.lit (.bool true)] ∧ (s.fn H ds).args = ds ∧ (s.fn H ds).vars = []) (walk : Walks up f ts)
    (H : Type) (enc : TypeId × Value → H) (W : World) (base : Nat) (args : Array Value) (ds gs : List (DataW H)) (before : List MemPlace)
    (hval : ∀ (j : Nat) t v, fn.params[j]? = some t → args[j]? = some v → Value.okWide Tryd.prog W .any base t v)
    (hW : DataW.Whole enc Tryd.prog fn.params.toList s.vars false W args.toList ds gs before)
    (hsz : match up with | true => Rows.uptoSmall H (ds ++ gs) = true | false => (DataW.weightsEach Tryd.prog (fn.params.toList ++ vt) (ds ++ gs)).all (· ≤ reachBytes) = true) :
    Calls Tryd.prog f args W fun e W' => ∃ v, e = .returned v ∧ s.post enc Tryd.prog fn false true false false W args v W' := by
  have hW' := hW
  obtain ⟨p, q, hA, hV, rfl, _, _⟩ := hW
  rw [hvars] at hV
  have hg : gs = [] ∧ q = [] := by
    cases gs with
    | nil => exact ⟨rfl, hV⟩
    | cons g gs => exact hV.elim
  obtain ⟨rfl, rfl⟩ := hg
  have hlt : ∀ x ∈ p, x.block < W.heap.size := fun x hx => by simpa using hW'.lt x (by simpa using hx)
  have hlen : ds.length = ts.length := by
    have : ∀ {ts : List TypeId} {vs : List Value} {ds : List (DataW H)} {ps : List MemPlace}, DataW.TrodAll enc Tryd.prog W 0 (fun _ => true) true ts vs ds ps → ds.length = ts.length := by
      intro ts
      induction ts with
      | nil => intro vs ds ps h; cases vs with
        | nil => cases ds with
          | nil => rfl
          | cons _ _ => exact h.elim
        | cons _ _ => exact h.elim
      | cons t ts ih => intro vs ds ps h; cases vs with
        | nil => exact h.elim
        | cons v vs => cases ds with
          | nil => exact h.elim
          | cons d ds => obtain ⟨_, _, _, h2, _⟩ := h; simp [ih h2]
    rw [hp] at hA
    exact this hA
  have hall : ArgAll up W ts args.toList := by
    rw [← hp]
    refine argAll_mk (base := base) hA (fun j t v ht hv => hval j t v (by simpa using ht) (by simpa using hv)) ?_
    cases up with
    | true => have h : Rows.uptoBulkAll (ds ++ []) ≤ 1048576 := of_decide_eq_true hsz
              simpa using h
    | false => subst hvt; simpa using hsz
  have hwalk := walk W args.toList hall
  rw [Array.toArray_toList] at hwalk
  refine hwalk.mono fun e W' ⟨he, hb⟩ => ?_
  obtain ⟨s1, s2, s3⟩ := hs H (ds ++ []) (by simpa using hlen)
  refine ⟨_, he, _, _, _, [], p, [], hW', ?_, ?_, ?_, hb.frame _, fun h => by cases h⟩
  · rw [s1, hres]; exact ⟨[], [], shut_bool (by kernel_rfl) true, rfl, rfl⟩
  · rw [s2, List.append_nil]; exact trodAll_below hb (by rw [hp]; exact hr) hA hlt
  · rw [s3, hvars]; rfl
end Go.Proofs.YthnabnieajojjaaDoor
/-
  What arguments read as: numbers, structs, slices of structs, lists of numbers.
-/
namespace Go.Proofs.YthnabnieajojjaaDoor
set_option maxRecDepth 100000
open Go.RowKit

theorem list_of {α : Type} (z : α) (Q : Nat → α → Prop) : ∀ n : Nat, (∀ i, i < n → ∃ x, Q i x) → ∃ l : List α, l.length = n ∧ ∀ i, i < n → Q i (l.getD i z)
  | 0, _ => ⟨[], rfl, fun i h => by omega⟩
  | n + 1, h => by
    obtain ⟨l, h1, h2⟩ := list_of z Q n (fun i hi => h i (by omega))
    obtain ⟨x, hx⟩ := h n (by omega)
    refine ⟨l ++ [x], by simp [h1], fun i hi => ?_⟩
    by_cases hin : i < n
    · rw [List.getD, List.getElem?_append_left (by omega)]; exact h2 i hin
    · obtain rfl : i = n := by omega
      rw [List.getD, List.getElem?_append_right (by omega), h1]; simpa using hx
theorem getD_map_lt {α β : Type} (f : α → β) (l : List α) (i : Nat) (z : α) (y : β) (h : i < l.length) : (l.map f).getD i y = f (l.getD i z) := by
  simp [List.getD, h]
theorem flatMap_get {α : Type} (f : α → List Value) (size : Nat) (hs : ∀ x, (f x).length = size) (hp : 0 < size) (z : α) : ∀ (l : List α) (i j : Nat), i < l.length → j < size → (l.flatMap f).getD (i * size + j) undef = (f (l.getD i z)).getD j undef
  | [], i, j, hi, _ => by simp at hi
  | a :: l, 0, j, _, hj => by
    rw [List.flatMap_cons, List.getD, List.getElem?_append_left (by rw [hs]; omega)]; simp
  | a :: l, i + 1, j, hi, hj => by
    have := flatMap_get f size hs hp z l i j (by simpa using hi) hj
    rw [List.flatMap_cons, List.getD, List.getElem?_append_right (by rw [hs, Nat.add_mul]; omega), hs, show (i + 1) * size + j - size = i * size + j by rw [Nat.add_mul]; omega]
    simpa [List.getD] using this
theorem flatMap_len {α : Type} (f : α → List Value) (size : Nat) (hs : ∀ x, (f x).length = size) : ∀ l : List α, (l.flatMap f).length = l.length * size
  | [] => by simp
  | a :: l => by rw [List.flatMap_cons, List.length_append, hs, flatMap_len f size hs l, List.length_cons, Nat.add_mul]; omega
/-- A slice of elements of so many cells, each of which reads as something. -/
theorem ArgC.flat {up : Bool} {N : Nat} {t e : TypeId} {W : World} {v : Value} {size : Nat} {α : Type} (z : α) (f : α → List Value) (hf : ∀ x, (f x).length = size) (hp : 0 < size) (R : Nat → α → Prop) (ht : Tryd.prog.underlying t = some (.slice e)) (hsz : Tryd.prog.cellsOf e = size) (h : ArgC up N t W [v])
    (hel : ∀ N cs, cs.length = size → ArgC up N e W cs → ∃ x, cs = f x ∧ R N x) :
    ∃ l : List α, Rd W v l.length (l.flatMap f) ∧ (up = false → l.length * Tryd.prog.bytesOf e ≤ 140737488351232) ∧ ∃ Ns : List Nat, Ns.length = l.length ∧ (up = true → Ns.sum + 1 ≤ N ∧ l.length + 1 ≤ N) ∧ ∀ i, i < l.length → R (Ns.getD i 0) (l.getD i z) := by
  obtain ⟨a, n, cap, h1, h2, h3, h4, h5, Ns, h6, h7, h8⟩ := h.slice ht hsz hp
  simp only [List.cons.injEq, and_true] at h1
  subst h1
  obtain ⟨l, hl, hv⟩ := list_of z (fun i x => ∃ b off, a = some ⟨b, off, none⟩ ∧ (∀ j, j < size → W.cell? ⟨b, off + (i * size + j), none⟩ = some ((f x).getD j undef)) ∧ R (Ns.getD i 0) x) n (fun i hi => by
    obtain ⟨b, off, cs', g1, g2, g3, g4⟩ := h8 i hi
    obtain ⟨x, rfl, hx⟩ := hel _ cs' g2 g4
    exact ⟨x, b, off, g1, g3, hx⟩)
  subst hl
  refine ⟨l, ⟨a, cap, rfl, h2, h3, h4, fun j hj => ?_⟩, fun hu => Nat.le_trans (Nat.mul_le_mul_right _ h2) (h5 hu), Ns, h6, h7, fun i hi => ?_⟩
  · rw [flatMap_len f size hf] at hj
    have hq : j / size < l.length := (Nat.div_lt_iff_lt_mul hp).2 hj
    obtain ⟨b, off, g1, g2, _⟩ := hv (j / size) hq
    have hr : j % size < size := Nat.mod_lt _ hp
    have hj2 : j / size * size + j % size = j := by rw [Nat.mul_comm]; exact Nat.div_add_mod j size
    refine ⟨b, off, g1, ?_⟩
    have g3 := g2 (j % size) hr
    rw [hj2] at g3
    rw [g3, ← flatMap_get f size hf hp z l (j / size) (j % size) hq hr, hj2]
  · obtain ⟨_, _, _, _, g3⟩ := hv i hi
    exact g3
theorem i64_of_wf {n : Int} (h : (Lit.int .i64 n).wf = true) : -9223372036854775808 ≤ n ∧ n ≤ 9223372036854775807 := by
  simp [Lit.wf, IntKind.min, IntKind.max, IntKind.signed, IntKind.bits] at h; omega
theorem Arg.slice {up : Bool} {t e : TypeId} {W : World} {v : Value} (ht : Tryd.prog.underlying t = some (.slice e)) (h : Arg up t W v) : ArgC up 1048576 t W [v] := by
  obtain ⟨h, base, ho⟩ := h
  obtain ⟨a, n, c, rfl⟩ := Go.WideShapes.okWide_slice ht ho
  exact h
theorem Arg.int {up : Bool} {t : TypeId} {k : IntKind} {W : World} {v : Value} (ht : Tryd.prog.underlying t = some (.int k)) (h : Arg up t W v) : ∃ n, v = .int k n ∧ (Lit.int k n).wf = true := by
  obtain ⟨h, base, ho⟩ := h
  obtain ⟨n, rfl⟩ := Go.WideShapes.okWide_int ht ho
  obtain ⟨m, h1, h2⟩ := h.int ht
  simp [Value.cells] at h1
  subst h1
  exact ⟨n, rfl, h2⟩
theorem Arg.struct {up : Bool} {t : TypeId} {fs : Array Field} {W : World} {v : Value} (ht : Tryd.prog.underlying t = some (.struct fs)) (h : Arg up t W v) : ∃ cs : Array Value, v = .agg cs ∧ ArgC up 1048576 t W cs.toList := by
  obtain ⟨h, base, ho⟩ := h
  obtain ⟨cs, rfl, _⟩ := Go.WideShapes.okWide_struct ht ho
  exact ⟨cs, rfl, h⟩
theorem drop_take_one {cs : List Value} {o : Nat} {c : Value} (h : cs[o]? = some c) : (cs.drop o).take 1 = [c] := by
  have ho := (List.getElem?_eq_some_iff.1 h).1
  have hc := (List.getElem?_eq_some_iff.1 h).2
  rw [List.drop_eq_getElem_cons ho, hc]; rfl
/-- A field of a struct, by its cell. -/
theorem ArgC.fcell {up : Bool} {N : Nat} {t : TypeId} {fs : Array Field} {W : World} {cs : List Value} (h : ArgC up N t W cs) (ht : Tryd.prog.underlying t = some (.struct fs)) (i : Nat) (f : Field) (hf : fs[i]? = some f) (hc : Tryd.prog.cellsOf f.type = 1) (c : Value) (hcs : cs[f.offset]? = some c) :
    ∃ M, M ≤ N + (if up then 0 else M) ∧ ArgC up M f.type W [c] := by
  obtain ⟨_, Ns, h1, h2, h3⟩ := h.struct ht
  have g := h3 i f hf
  rw [hc, drop_take_one hcs] at g
  refine ⟨_, ?_, g⟩
  cases up with
  | false => simp
  | true =>
    have := h2 rfl
    have hle : ∀ (l : List Nat) (i : Nat), l.getD i 0 ≤ l.sum := by
      intro l
      induction l with
      | nil => intro i; simp
      | cons a l ih =>
        intro i
        cases i with
        | zero => simp
        | succ i => have := ih i; simp at this ⊢; omega
    have := hle Ns i
    rw [if_pos rfl]; omega
theorem ArgC.fint {up : Bool} {N : Nat} {t : TypeId} {fs : Array Field} {W : World} {cs : List Value} (h : ArgC up N t W cs) (ht : Tryd.prog.underlying t = some (.struct fs)) (i : Nat) (f : Field) (hf : fs[i]? = some f) (hc : Tryd.prog.cellsOf f.type = 1) (c : Value) (hcs : cs[f.offset]? = some c)
    (k : IntKind) (hk : Tryd.prog.underlying f.type = some (.int k)) : ∃ n, c = .int k n ∧ (Lit.int k n).wf = true := by
  obtain ⟨M, _, g⟩ := h.fcell ht i f hf hc c hcs
  obtain ⟨n, e, hw⟩ := g.int (k := k) hk
  simp only [List.cons.injEq, and_true] at e
  exact ⟨n, e, hw⟩
theorem ArgC.fbool {up : Bool} {N : Nat} {t : TypeId} {fs : Array Field} {W : World} {cs : List Value} (h : ArgC up N t W cs) (ht : Tryd.prog.underlying t = some (.struct fs)) (i : Nat) (f : Field) (hf : fs[i]? = some f) (hc : Tryd.prog.cellsOf f.type = 1) (c : Value) (hcs : cs[f.offset]? = some c)
    (hk : Tryd.prog.underlying f.type = some .bool) : ∃ b, c = .bool b := by
  obtain ⟨M, _, g⟩ := h.fcell ht i f hf hc c hcs
  obtain ⟨n, e⟩ := g.bool hk
  simp only [List.cons.injEq, and_true] at e
  exact ⟨n, e⟩
theorem ArgC.fstring {up : Bool} {N : Nat} {t : TypeId} {fs : Array Field} {W : World} {cs : List Value} (h : ArgC up N t W cs) (ht : Tryd.prog.underlying t = some (.struct fs)) (i : Nat) (f : Field) (hf : fs[i]? = some f) (hc : Tryd.prog.cellsOf f.type = 1) (c : Value) (hcs : cs[f.offset]? = some c)
    (hk : Tryd.prog.underlying f.type = some .string) : ∃ s : ByteArray, c = .string s ∧ s.size ≤ 9223372036854775807 ∧ (up = true → s.size + 1 ≤ N) ∧ (up = false → s.size ≤ 140737488351232) := by
  obtain ⟨M, hM, g⟩ := h.fcell ht i f hf hc c hcs
  obtain ⟨s, e, h1, h2, h3⟩ := g.string hk
  simp only [List.cons.injEq, and_true] at e
  refine ⟨s, e, h1, fun hu => ?_, h3⟩
  have := h2 hu
  subst hu
  simp at hM; omega
/-- A struct in a struct. -/
theorem ArgC.fstruct {up : Bool} {N : Nat} {t : TypeId} {fs : Array Field} {W : World} {cs : List Value} (h : ArgC up N t W cs) (ht : Tryd.prog.underlying t = some (.struct fs)) (i : Nat) (f : Field) (hf : fs[i]? = some f) (t' : TypeId) (o n : Nat) (e1 : f.type = t') (e2 : f.offset = o) (e3 : Tryd.prog.cellsOf t' = n) : ∃ M, M ≤ N + (if up then 0 else M) ∧ ArgC up M t' W ((cs.drop o).take n) := by
  subst e1; subst e2; subst e3
  obtain ⟨_, Ns, h1, h2, h3⟩ := h.struct ht
  refine ⟨_, ?_, h3 i f hf⟩
  cases up with
  | false => simp
  | true =>
    have := h2 rfl
    have hle : ∀ (l : List Nat) (i : Nat), l.getD i 0 ≤ l.sum := by
      intro l
      induction l with
      | nil => intro i; simp
      | cons a l ih =>
        intro i
        cases i with
        | zero => simp
        | succ i => have := ih i; simp at this ⊢; omega
    have := hle Ns i
    rw [if_pos rfl]; omega
/-- The numbers that Go's int holds. -/
def I64 (n : Int) : Prop := -9223372036854775808 ≤ n ∧ n ≤ 9223372036854775807
end Go.Proofs.YthnabnieajojjaaDoor
/-
  Arguments: lists of bytes, of lists of bytes.
-/
namespace Go.Proofs.YthnabnieajojjaaDoor
set_option maxRecDepth 100000
open Go.RowKit

theorem le_sum_mem : ∀ {l : List Nat} {x : Nat}, x ∈ l → x ≤ l.sum
  | a :: l, x, h => by
    rw [List.sum_cons]
    rcases List.mem_cons.1 h with rfl | h
    · omega
    · have := le_sum_mem h; omega
theorem u8_of_wf {n : Int} (h : (Lit.int .u8 n).wf = true) : ∃ c : UInt8, n = (c.toNat : Int) := by
  simp [Lit.wf, IntKind.min, IntKind.max, IntKind.signed, IntKind.bits] at h
  refine ⟨UInt8.ofNat n.toNat, ?_⟩
  have : (UInt8.ofNat n.toNat).toNat = n.toNat := by show n.toNat % 2 ^ 8 = _; omega
  rw [this]; omega
theorem u32_of_wf {n : Int} (h : (Lit.int .u32 n).wf = true) : ∃ c : UInt32, n = (c.toNat : Int) := by
  simp [Lit.wf, IntKind.min, IntKind.max, IntKind.signed, IntKind.bits] at h
  refine ⟨UInt32.ofNat n.toNat, ?_⟩
  have : (UInt32.ofNat n.toNat).toNat = n.toNat := by show n.toNat % 2 ^ 32 = _; omega
  rw [this]; omega
theorem Arg.u32 {up : Bool} {W : World} {v : Value} (h : Arg up 144 W v) : ∃ e : UInt32, v = .int .u32 (e.toNat : Int) := by
  obtain ⟨n, rfl, hw⟩ := h.int (k := .u32) Tryd.underlying144
  obtain ⟨c, rfl⟩ := u32_of_wf hw
  exact ⟨c, rfl⟩
theorem ArgC.bytes {up : Bool} {N : Nat} {W : World} {v : Value} (h : ArgC up N 52 W [v]) :
    ∃ l : List UInt8, Rd W v l.length (l.map V8) ∧ (up = true → l.length + 1 ≤ N) ∧ (up = false → l.length ≤ 140737488351232) := by
  obtain ⟨l, h1, h2, Ns, h3, h4, h5⟩ := h.flat 0 (fun n : UInt8 => [V8 n]) (fun _ => rfl) (by decide) (fun _ _ => True) Tryd.underlying52 (by kernel_rfl) (fun N cs hl hc => by
    match cs, hl with
    | [c0], _ =>
      obtain ⟨n, e1, hw⟩ := hc.int (k := .u8) Tryd.underlying5
      simp only [List.cons.injEq, and_true] at e1
      obtain ⟨c, hc⟩ := u8_of_wf hw
      exact ⟨c, by rw [e1, hc]; rfl, trivial⟩)
  refine ⟨l, ?_, fun hu => (h4 hu).2, fun hu => ?_⟩
  · have e : l.flatMap (fun n : UInt8 => [V8 n]) = l.map V8 := List.map_eq_flatMap.symm
    rw [e] at h1; exact h1
  · have := h2 hu
    rw [show Tryd.prog.bytesOf 5 = 1 by kernel_rfl] at this; omega
end Go.Proofs.YthnabnieajojjaaDoor
/-
  Arguments: sessions, states.
-/
namespace Go.Proofs.YthnabnieajojjaaDoor
open Go.RowKit
set_option maxRecDepth 100000

theorem u64_of_wfS {n : Int} (h : (Lit.int .u64 n).wf = true) : ∃ k : Nat, n = (k : Int) ∧ k < 2 ^ 64 := by
  have h1 : 0 ≤ n ∧ n ≤ 18446744073709551615 := by simpa [Lit.wf, IntKind.min, IntKind.max, IntKind.bits, IntKind.signed] using h
  exact ⟨n.toNat, by omega, by omega⟩
/-- The bounds of the numbers of a session that is handed in. -/
structure SesI (s : SesM) : Prop where
  ok : SesOk s
  slot : I64 s.slot
  birth : I64 s.birth
  upS : I64 s.upS
  upB : I64 s.upB
  kind : I64 s.kind
  level : I64 s.level
  born : I64 s.born
  deadline : I64 s.deadline
  depth : I64 s.depth
theorem ArgC.session {N : Nat} {W : World} {cs : List Value} (hl : cs.length = 12) (h : ArgC false N 30 W cs) : ∃ s : SesM, cs = s.cells.toList ∧ SesI s := by
  match cs, hl with
  | [c1, c2, c3, c4, c5, c6, c7, c8, c9, c10, c11, c12], _ =>
    have ci : Tryd.prog.cellsOf 3 = 1 := by kernel_rfl
    have cs' : Tryd.prog.cellsOf 9 = 1 := by kernel_rfl
    have cu : Tryd.prog.cellsOf 28 = 1 := by kernel_rfl
    have cl : Tryd.prog.cellsOf 26 = 2 := by kernel_rfl
    have hx := Tryd.underlying30
    obtain ⟨n1, rfl, b1⟩ := h.fint hx 0 _ rfl ci c1 rfl .i64 Tryd.underlying3
    obtain ⟨n2, rfl, b2⟩ := h.fint hx 1 _ rfl ci c2 rfl .i64 Tryd.underlying3
    obtain ⟨M2, _, k⟩ := h.fstruct hx 2 _ rfl 26 2 2 rfl rfl cl
    have k' : ArgC false M2 26 W [c3, c4] := k
    have hk := Tryd.underlying26
    obtain ⟨n3, rfl, b3⟩ := k'.fint hk 0 _ rfl ci c3 rfl .i64 Tryd.underlying3
    obtain ⟨n4, rfl, b4⟩ := k'.fint hk 1 _ rfl ci c4 rfl .i64 Tryd.underlying3
    obtain ⟨n5, rfl, b5⟩ := h.fint hx 3 _ rfl ci c5 rfl .i64 Tryd.underlying3
    obtain ⟨s6, rfl, _, _, b6⟩ := h.fstring hx 4 _ rfl cs' c6 rfl Tryd.underlying9
    obtain ⟨s7, rfl, _, _, b7⟩ := h.fstring hx 5 _ rfl cs' c7 rfl Tryd.underlying9
    obtain ⟨n8, rfl, b8⟩ := h.fint hx 6 _ rfl cu c8 rfl .u64 Tryd.underlying28
    obtain ⟨n9, rfl, b9⟩ := h.fint hx 7 _ rfl ci c9 rfl .i64 Tryd.underlying3
    obtain ⟨n10, rfl, b10⟩ := h.fint hx 8 _ rfl ci c10 rfl .i64 Tryd.underlying3
    obtain ⟨n11, rfl, b11⟩ := h.fint hx 9 _ rfl ci c11 rfl .i64 Tryd.underlying3
    obtain ⟨n12, rfl, b12⟩ := h.fint hx 10 _ rfl ci c12 rfl .i64 Tryd.underlying3
    obtain ⟨u, rfl, hu⟩ := SB_of s6
    obtain ⟨l, rfl, hl⟩ := SB_of s7
    obtain ⟨sc, rfl, hsc⟩ := u64_of_wfS b8
    refine ⟨⟨n1, n2, n3, n4, n5, u, l, sc, n9, n10, n11, n12⟩, rfl, ⟨?_, ?_, hsc⟩, i64_of_wf b1, i64_of_wf b2, i64_of_wf b3, i64_of_wf b4, i64_of_wf b5, i64_of_wf b9, i64_of_wf b10, i64_of_wf b11, i64_of_wf b12⟩
    · show u.length ≤ _; rw [hu]; exact Nat.le_trans (b6 rfl) (by decide)
    · show l.length ≤ _; rw [hl]; exact Nat.le_trans (b7 rfl) (by decide)
theorem ArgC.sessions {N : Nat} {W : World} {v : Value} (h : ArgC false N 22 W [v]) : ∃ l : List SesM, RdS W v l ∧ (∀ s ∈ l, SesI s) ∧ l.length ≤ 1256584717421 := by
  obtain ⟨l, h1, h2, Ns, _, _, h5⟩ := h.flat noSes (fun s : SesM => s.cells.toList) (fun _ => rfl) (by decide) (fun _ s => SesI s) Tryd.underlying22 (by kernel_rfl) (fun N cs hl hc => hc.session hl)
  refine ⟨l, h1, fun s hs => ?_, ?_⟩
  · obtain ⟨i, hi, rfl⟩ := List.getElem_of_mem hs
    have := h5 i hi
    simpa [List.getD, hi] using this
  · have := h2 rfl
    rw [show Tryd.prog.bytesOf 30 = 112 by kernel_rfl] at this; omega
/-- A state that came in. -/
theorem Arg.state {W : World} {v : Value} (h : Arg false 24 W v) : ∃ (st : StM) (x : Value), v = .agg #[.int .i64 st.clock, .int .i64 st.births, x] ∧ RdS W x st.l ∧ (∀ s ∈ st.l, SesI s) ∧ st.l.length ≤ 1256584717421 ∧ I64 st.clock ∧ I64 st.births := by
  obtain ⟨⟨cs⟩, rfl, hc⟩ := h.struct Tryd.underlying24
  have hl : cs.length = 3 := by
    have := (hc.struct Tryd.underlying24).1
    rw [show Tryd.prog.cellsOf 24 = 3 by kernel_rfl] at this; exact this
  match cs, hl, hc with
  | [c0, c1, c2], _, hc =>
    obtain ⟨a, rfl, hw⟩ := hc.fint Tryd.underlying24 0 _ rfl (by kernel_rfl) c0 rfl .i64 Tryd.underlying3
    obtain ⟨n, rfl, hw2⟩ := hc.fint Tryd.underlying24 1 _ rfl (by kernel_rfl) c1 rfl .i64 Tryd.underlying3
    obtain ⟨M, _, hd⟩ := hc.fcell Tryd.underlying24 2 _ rfl (by kernel_rfl) c2 rfl
    obtain ⟨l, h1, h2, h3⟩ := hd.sessions
    exact ⟨⟨a, n, l⟩, c2, rfl, h1, h2, h3, i64_of_wf hw, i64_of_wf hw2⟩
end Go.Proofs.YthnabnieajojjaaDoor
/-
  Arguments of the statements about events.
-/
namespace Go.Proofs.YthnabnieajojjaaDoor
open Go.RowKit

/-- The bounds of an event that is handed in. -/
structure EvOk (e : EvtM) : Prop where
  user : e.s.user.length ≤ 140737488351232
  label : e.s.label.length ≤ 140737488351232
  scopes : e.s.scopes < 2 ^ 64
  kind : I64 e.kind
  birth : I64 e.birth
  ticks : I64 e.ticks
  sSlot : I64 e.s.slot
  sBirth : I64 e.s.birth
  sUpS : I64 e.s.upS
  sUpB : I64 e.s.upB
  sKind : I64 e.s.kind
  sLevel : I64 e.s.level
  sBorn : I64 e.s.born
  sDeadline : I64 e.s.deadline
  sDepth : I64 e.s.depth
theorem u64_of_wf {n : Int} (h : (Lit.int .u64 n).wf = true) : ∃ k : Nat, n = (k : Int) ∧ k < 2 ^ 64 := by
  have h1 : 0 ≤ n ∧ n ≤ 18446744073709551615 := by simpa [Lit.wf, IntKind.min, IntKind.max, IntKind.bits, IntKind.signed] using h
  exact ⟨n.toNat, by omega, by omega⟩
set_option maxRecDepth 100000 in
theorem ArgC.event {N : Nat} {W : World} {cs : List Value} (hl : cs.length = 15) (h : ArgC false N 32 W cs) : ∃ e : EvtM, cs = e.cells.toList ∧ EvOk e := by
  match cs, hl with
  | [c0, c1, c2, c3, c4, c5, c6, c7, c8, c9, c10, c11, c12, c13, c14], _ =>
    have ci : Tryd.prog.cellsOf 3 = 1 := by kernel_rfl
    have cs' : Tryd.prog.cellsOf 9 = 1 := by kernel_rfl
    have cu : Tryd.prog.cellsOf 28 = 1 := by kernel_rfl
    have cl : Tryd.prog.cellsOf 26 = 2 := by kernel_rfl
    have cx : Tryd.prog.cellsOf 30 = 12 := by kernel_rfl
    have hs := Tryd.underlying32
    obtain ⟨n0, rfl, b0⟩ := h.fint hs 0 _ rfl ci c0 rfl .i64 Tryd.underlying3
    obtain ⟨M, _, g⟩ := h.fstruct hs 1 _ rfl 30 1 12 rfl rfl cx
    have g' : ArgC false M 30 W [c1, c2, c3, c4, c5, c6, c7, c8, c9, c10, c11, c12] := g
    have hx := Tryd.underlying30
    obtain ⟨n1, rfl, b1⟩ := g'.fint hx 0 _ rfl ci c1 rfl .i64 Tryd.underlying3
    obtain ⟨n2, rfl, b2⟩ := g'.fint hx 1 _ rfl ci c2 rfl .i64 Tryd.underlying3
    obtain ⟨M2, _, k⟩ := g'.fstruct hx 2 _ rfl 26 2 2 rfl rfl cl
    have k' : ArgC false M2 26 W [c3, c4] := k
    have hk := Tryd.underlying26
    obtain ⟨n3, rfl, b3⟩ := k'.fint hk 0 _ rfl ci c3 rfl .i64 Tryd.underlying3
    obtain ⟨n4, rfl, b4⟩ := k'.fint hk 1 _ rfl ci c4 rfl .i64 Tryd.underlying3
    obtain ⟨n5, rfl, b5⟩ := g'.fint hx 3 _ rfl ci c5 rfl .i64 Tryd.underlying3
    obtain ⟨s6, rfl, _, _, b6⟩ := g'.fstring hx 4 _ rfl cs' c6 rfl Tryd.underlying9
    obtain ⟨s7, rfl, _, _, b7⟩ := g'.fstring hx 5 _ rfl cs' c7 rfl Tryd.underlying9
    obtain ⟨n8, rfl, b8⟩ := g'.fint hx 6 _ rfl cu c8 rfl .u64 Tryd.underlying28
    obtain ⟨n9, rfl, b9⟩ := g'.fint hx 7 _ rfl ci c9 rfl .i64 Tryd.underlying3
    obtain ⟨n10, rfl, b10⟩ := g'.fint hx 8 _ rfl ci c10 rfl .i64 Tryd.underlying3
    obtain ⟨n11, rfl, b11⟩ := g'.fint hx 9 _ rfl ci c11 rfl .i64 Tryd.underlying3
    obtain ⟨n12, rfl, b12⟩ := g'.fint hx 10 _ rfl ci c12 rfl .i64 Tryd.underlying3
    obtain ⟨n13, rfl, b13⟩ := h.fint hs 2 _ rfl ci c13 rfl .i64 Tryd.underlying3
    obtain ⟨n14, rfl, b14⟩ := h.fint hs 3 _ rfl ci c14 rfl .i64 Tryd.underlying3
    obtain ⟨u, rfl, hu⟩ := SB_of s6
    obtain ⟨l, rfl, hl⟩ := SB_of s7
    obtain ⟨sc, rfl, hsc⟩ := u64_of_wf b8
    exact ⟨⟨n0, ⟨n1, n2, n3, n4, n5, u, l, sc, n9, n10, n11, n12⟩, n13, n14⟩, rfl, by rw [hu]; exact b6 rfl, by rw [hl]; exact b7 rfl, hsc, i64_of_wf b0, i64_of_wf b13, i64_of_wf b14, i64_of_wf b1, i64_of_wf b2, i64_of_wf b3, i64_of_wf b4, i64_of_wf b5, i64_of_wf b9, i64_of_wf b10, i64_of_wf b11, i64_of_wf b12⟩
set_option maxRecDepth 100000 in
theorem Arg.event {W : World} {v : Value} (h : Arg false 32 W v) : ∃ e : EvtM, v = .agg e.cells ∧ EvOk e := by
  obtain ⟨cs, rfl, h1⟩ := h.struct Tryd.underlying32
  have hl : cs.toList.length = 15 := by
    have := (h1.struct Tryd.underlying32).1
    rw [show Tryd.prog.cellsOf 32 = 15 by kernel_rfl] at this; exact this
  obtain ⟨e, he, hok⟩ := h1.event hl
  exact ⟨e, by rw [show cs = e.cells from Array.ext' he], hok⟩
end Go.Proofs.YthnabnieajojjaaDoor
/-
  What errors.As reads of package errors, out of the condition that the card ties; a law's row out of its walk at such a world.
-/
namespace Go.Proofs.YthnabnieajojjaaDoor
open Go.ChangeShapes Go.WideShapes Go.ChangeAt Go.RowKit
set_option maxRecDepth 100000

/-- The variables that are listed. -/
def laidL : List (String × DataW Unit) := [("errors.errorType", Rows.laid_errors_errorType)]
theorem L.et : Tryd.prog.globalNamed "errors.errorType" = some 0 := by kernel_rfl
theorem L.rt : (Tryd.prog.cutTypes.find? (·.1 == "internal/reflectlite.rtype")).map (·.2) = some 120 := by kernel_rfl
theorem L.oneRow : ((List.range 172).filter fun t => Tryd.prog.rowNamed t [101, 114, 114, 111, 114]) = [35] := by kernel_rfl
theorem L.size : Tryd.prog.types.size = 172 := by kernel_rfl
theorem errType_of_laid {W : World} (h : laidMetH Tryd.prog laidL W) : ErrType W := by
  have h' : laidMet Tryd.prog [] W ∧ handlesMet Tryd.prog laidL W := h
  obtain ⟨name, u, ty, e1, e2, e3, e4, e5⟩ := h'.2 _ (List.mem_singleton.2 rfl)
  have en : name = [101, 114, 114, 111, 114] := (Option.some.inj e1).symm
  subst en
  obtain rfl := Option.some.inj (L.rt.symm.trans e2)
  have hm : ty ∈ (List.range 172).filter fun t => Tryd.prog.rowNamed t [101, 114, 114, 111, 114] := List.mem_filter.2 ⟨List.mem_range.2 (by rw [← L.size]; exact e3), e4⟩
  rw [L.oneRow] at hm
  obtain rfl := List.mem_singleton.1 hm
  have hh : typeHandle Tryd.prog 35 = .pointer (some ⟨2, 35, none⟩) := by kernel_rfl
  rw [hh] at e5
  have := World.var?_cell L.et e5 0
  unfold ErrType
  simpa using this
/-- A world that meets the condition. -/
noncomputable def laidWorld (os : Os) : World :=
  let w0 := World.holding Tryd.prog os ⟨#[], #[], []⟩
  { w0 with heap := w0.heap.modify 0 fun
      | .cells _ t frozen => .cells #[.iface 120 (.agg #[.pointer (some ⟨2, 35, none⟩)])] t frozen
      | o => o }
theorem laidWorld_met (os : Os) (args : Array Value) : laidMetH Tryd.prog laidL ((laidWorld os).forCall (fun _ _ => 0) ⟨#[], args, []⟩).memory :=
  laidMetH_of_parts (laidMet_nil _ _) (by kernel_rfl)
theorem law_contract_at {up : Bool} {vt : List TypeId} (hvt : vt = []) {f : FuncId} {fn : Func} {s : ChangeSpec} {ts : List TypeId} (hp : fn.params.toList = ts) (hres : fn.resultTypes = #[4]) (hvars : s.vars = [])
    (hr : ∀ t ∈ ts, Tryd.prog.readableRec t = true ∧ t < Tryd.prog.types.size) (hs : ∀ (H : Type) (ds : List (DataW H)), ds.length = ts.length → (s.fn H ds).results = [.lit (.bool true)] ∧ (s.fn H ds).args = ds ∧ (s.fn H ds).vars = [])
    (H : Type) (enc : TypeId × Value → H) (W : World) (base : Nat) (args : Array Value) (ds gs : List (DataW H)) (before : List MemPlace)
    (hval : ∀ (j : Nat) t v, fn.params[j]? = some t → args[j]? = some v → Value.okWide Tryd.prog W .any base t v)
    (hW : DataW.Whole enc Tryd.prog fn.params.toList s.vars false W args.toList ds gs before)
    (hsz : match up with | true => Rows.uptoSmall H (ds ++ gs) = true | false => (DataW.weightsEach Tryd.prog (fn.params.toList ++ vt) (ds ++ gs)).all (· ≤ reachBytes) = true)
    (walkAt : ArgAll up W ts args.toList → Calls Tryd.prog f args W fun e W' => e = .returned (.bool true) ∧ Below W.heap.size W W') :
    Calls Tryd.prog f args W fun e W' => ∃ v, e = .returned v ∧ s.post enc Tryd.prog fn false true false false W args v W' := by
  have hW' := hW
  obtain ⟨p, q, hA, hV, rfl, _, _⟩ := hW
  rw [hvars] at hV
  have hg : gs = [] ∧ q = [] := by
    cases gs with
    | nil => exact ⟨rfl, hV⟩
    | cons g gs => exact hV.elim
  obtain ⟨rfl, rfl⟩ := hg
  have hlt : ∀ x ∈ p, x.block < W.heap.size := fun x hx => by simpa using hW'.lt x (by simpa using hx)
  have hlen : ds.length = ts.length := by
    have : ∀ {ts : List TypeId} {vs : List Value} {ds : List (DataW H)} {ps : List MemPlace}, DataW.TrodAll enc Tryd.prog W 0 (fun _ => true) true ts vs ds ps → ds.length = ts.length := by
      intro ts
      induction ts with
      | nil => intro vs ds ps h; cases vs with
        | nil => cases ds with
          | nil => rfl
          | cons _ _ => exact h.elim
        | cons _ _ => exact h.elim
      | cons t ts ih => intro vs ds ps h; cases vs with
        | nil => exact h.elim
        | cons v vs => cases ds with
          | nil => exact h.elim
          | cons d ds => obtain ⟨_, _, _, h2, _⟩ := h; simp [ih h2]
    rw [hp] at hA
    exact this hA
  have hall : ArgAll up W ts args.toList := by
    rw [← hp]
    refine argAll_mk (base := base) hA (fun j t v ht hv => hval j t v (by simpa using ht) (by simpa using hv)) ?_
    cases up with
    | true => have h : Rows.uptoBulkAll (ds ++ []) ≤ 1048576 := of_decide_eq_true hsz
              simpa using h
    | false => subst hvt; simpa using hsz
  have hwalk := walkAt hall
  refine hwalk.mono fun e W' ⟨he, hb⟩ => ?_
  obtain ⟨s1, s2, s3⟩ := hs H (ds ++ []) (by simpa using hlen)
  refine ⟨_, he, _, _, _, [], p, [], hW', ?_, ?_, ?_, hb.frame _, fun h => by cases h⟩
  · rw [s1, hres]; exact ⟨[], [], shut_bool (by kernel_rfl) true, rfl, rfl⟩
  · rw [s2, List.append_nil]; exact trodAll_below hb (by rw [hp]; exact hr) hA hlt
  · rw [s3, hvars]; rfl
end Go.Proofs.YthnabnieajojjaaDoor
/-
  The statement of layer, proved out of its walk: whatever the input, the law answers true and leaves its arguments as they were; package errors' variable errorType reads as the program's text lays it (the card ties it).
-/
namespace Go.Proofs.YthnabnieajojjaaDoor
open Go.ChangeShapes Go.WideShapes Go.ChangeAt Go.RowKit
set_option maxRecDepth 100000


theorem replayApplies_at (W : World) (vs : Array Value) (hg : ErrType W) (h : ArgAll false W [24, 32] vs.toList) : Calls Tryd.prog 3 vs W fun e W' => e = .returned (.bool true) ∧ Below W.heap.size W W' := by
  obtain ⟨vs⟩ := vs
  match vs, h with
  | [v, x], ⟨h1, h2, _⟩ =>
    obtain ⟨st, xs, rfl, g1, g2, g3, _⟩ := h1.state
    obtain ⟨e, rfl, hok⟩ := h2.event
    exact replayApplies_calls st e xs W g1 (fun s hs => (g2 s hs).ok) (Nat.le_trans hok.user (by decide)) (Nat.le_trans hok.label (by decide)) hok.scopes hg
theorem replayApplies_lifted (os : Os) (started : os.Started) (H : Type) (enc : TypeId × Value → H) :
    ReturnsInHanded {} Tryd.checked os 3 .any (fun w args => (Rows.replayAppliesSpec.pre enc Tryd.prog Tryd.f3 [] false w args ∧ laidMetH Tryd.prog laidL w) ∧ sizedMet enc Tryd.prog Tryd.f3 (OpenSpec.ofChange Rows.replayAppliesSpec) false w args)
      (Rows.replayAppliesSpec.post enc Tryd.prog Tryd.f3 false true false false) := by
  refine returnsInHanded_of_change_and (C := Tryd.checked) (X := fun w _ => laidMetH Tryd.prog laidL w) (fun _ _ _ hh h => h.of_heap hh) L.own started (by kernel_rfl) Tryd.func3
    (ChangeSpec.witness_at (enc := enc) (C := Tryd.checked) (os := os) (X := fun w _ => laidMetH Tryd.prog laidL w) false (laidWorld os) #[.agg #[.int .i64 0, .int .i64 0, .slice none 0 0], .agg #[.int .i64 0, .int .i64 0, .int .i64 0, .int .i64 0, .int .i64 0, .int .i64 0, .string ⟨#[]⟩, .string ⟨#[]⟩, .int .u64 0, .int .i64 0, .int .i64 0, .int .i64 0, .int .i64 0, .int .i64 0, .int .i64 0]] 8 rfl (by kernel_rfl) (by kernel_rfl) (by kernel_rfl) (by kernel_rfl) (by kernel_rfl) (laidWorld_met os _)) ?_
  intro W base args ds gs before hval hW _ hsz hL _
  exact law_contract_at (up := false) (vt := Rows.replayAppliesSpec.plain.varTypes Tryd.prog) rfl (ts := [24, 32]) rfl rfl rfl (by decide +kernel) (fun H ds h => by
      rcases ds with _ | ⟨d0, _ | ⟨d1, _ | ⟨d2, _ | ⟨d3, _ | ⟨d4, _ | ⟨d5, ds⟩⟩⟩⟩⟩⟩ <;> first | exact ⟨rfl, rfl, rfl⟩ | (exfalso; simp at h; done) | (exfalso; simp at h; omega)) H enc W base args ds gs before hval hW hsz (fun h => replayApplies_at W args (errType_of_laid hL) h)
theorem replayApplies_row : Rows.ReplayAppliesSaid :=
  OpenClaim.holds_of_wide 3 Tryd.f3 rfl rfl rfl rfl rfl rfl rfl ⟨rfl, rfl, rfl, rfl, rfl⟩ rfl rfl rfl rfl rfl (by kernel_rfl) Tryd.func3 (by kernel_rfl)
    (of_decide_eq_true (by kernel_rfl)) (by unfold Func.isWrapper; first | (rw [if_pos (by decide +kernel)]; kernel_rfl) | (rw [if_neg (by decide +kernel)]; exact ⟨rfl, rfl⟩))
    (fun os started H enc _ => replayApplies_lifted os started H enc)
theorem replayApplies_card : Rows.ReplayAppliesCardSaid :=
  Claim7.holds_tied_plain_at .later [] [.handle] true (true, "5b29275cdf6afb66332b3b5add7d637daada0551c67f9abebf87895f8c200930") true
    replayApplies_row (fun _ h => by cases h) (by kernel_rfl) (fun _ h => by cases h) replayApplies_row_tie rfl ⟨rfl, rfl⟩ (by kernel_rfl) rfl
    (fun f fn hf hfn => by
      obtain rfl : f = 3 := Option.some.inj ((show Tryd.prog.funcNamed "lineage/lineagelaw24.ReplayApplies" = some 3 by kernel_rfl).symm.trans hf) |>.symm
      obtain rfl : fn = Tryd.f3 := (Option.some.inj (Tryd.func3.symm.trans hfn)).symm
      exact ⟨by kernel_rfl, fun j t ht => by
        have hp : Tryd.f3.params = #[24, 32] := rfl
        rw [hp] at ht
        have h3 : t = 24 ∨ t = 32 := by
          rcases j with _ | _ | j
          · left; simpa using ht.symm
          · right; simpa using ht.symm
          · simp at ht
        rcases h3 with rfl | rfl
        · exact (show Tryd.prog.wantsStandIn 24 = false by kernel_rfl)
        · exact (show Tryd.prog.wantsStandIn 32 = false by kernel_rfl)⟩)
    (by kernel_rfl)
#print axioms replayApplies_card
end Go.Proofs.YthnabnieajojjaaDoor
