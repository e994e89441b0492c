/-
  Texts of one proof, one behind the other.
-/
import Derived.Test.YtgcnolapjppbpaaGreatDoorK47
import Derived.Test.YtgcnolapjppbpaaGreatDoorK30
import Derived.Test.YtgcnolapjppbpaaGreatDoorK46
import Derived.Test.YtgcnolapjppbpaaGreatDoorK22
import Derived.Test.YtgcnolapjppbpaaGreatDoorK06
import Derived.Deep.RegionHeld3
import Derived.Test.YtgcnolapjppbpaaGreatDoorK04
import Derived.Test.YtgcnolapjppbpaaGreatDoorK31
namespace Go.Proofs.YtgcnolapjppbpaaGreatDoor
open Go.RowKit
set_option maxRecDepth 100000
def MadeS (d : DiskM) (s : StoM) (r : StoM × DiskM × Int) : Prop :=
  (r.1.epoch = s.epoch ∧ r.1.log.records = s.log.records + 1 ∧ r.2.1.trail.length = d.trail.length + 1) ∨
  (r.1.epoch.toNat = s.epoch.toNat + 1 ∧ s.log.records = 16 ∧ r.1.log.records = 1 ∧ ∃ m, 1 ≤ m ∧ m ≤ 24 ∧ r.2.1.trail.length = d.trail.length + (m + 2))
theorem sto_append {d : DiskM} {s : StoM} {st next : StM} {e : EvtM} (h : StoI d s st) (hd : s.dead = false) (hld : s.log.dead = false) (hep : s.epoch.toNat < 4294967295) (ha : applyM st e = (0, next)) (hm : mayE e = true) (hsc : e.s.scopes < 2 ^ 64) :
    ((s.append d e st).2.2 = 0 ∧ (s.append d e st).1.dead = false ∧ (s.append d e st).1.log.dead = false ∧ StoI (s.append d e st).2.1 (s.append d e st).1 next ∧ (s.append d e st).1.epoch.toNat ≤ s.epoch.toNat + 1 ∧ MadeS d s (s.append d e st)) ∨
    ((s.append d e st).2.2 = 22 ∧ d.left ≠ none ∧ (s.append d e st).1.dead = true ∧ ∃ ep' : UInt32, ep'.toNat ≤ s.epoch.toNat + 1 ∧ KeptI (s.append d e st).2.1 st ep') := by
  obtain ⟨st0, evs, hi⟩ := h.img
  obtain ⟨n1, n2⟩ := epoch_next hep
  unfold MadeS StoM.append
  rw [if_neg (by rw [hd]; simp), if_pos hm]
  rcases append_ev hi h.wf h.len h.later hld ha hm hsc with ⟨h0, h1, h2, h3, h4⟩ | ⟨h0, h1, h2⟩ | ⟨h0, h1⟩
  · rw [if_neg (by rw [h0]; decide)]
    have hp : isP (s.log.append d (evB e)).2.2 = false := by rw [h0]; rfl
    exact .inl ⟨h0, hp, h1, by simp only [hp]; exact h2, Nat.le_succ _, .inl ⟨rfl, h3, h4⟩⟩
  · rw [if_neg (by rw [h0]; decide)]
    exact .inr ⟨h0, h1, by simp only; rw [h0]; rfl, s.epoch, Nat.le_succ _, h2⟩
  · rw [if_pos h0]
    rcases lay_cut h.kept hep with ⟨g0, g1, g2⟩ | ⟨g0, g1, g2⟩
    · rw [if_pos g0]
      obtain ⟨st1, evs1, hj⟩ := g1.img
      rcases append_ev hj g1.wf g1.len g1.later rfl ha hm hsc with ⟨k0, k1, k2, k3, k4⟩ | ⟨k0, k1, k2⟩ | ⟨k0, k1⟩
      · have hp : isP ((logN (s.epoch + 1)).append (layM s.epoch d st).1 (evB e)).2.2 = false := by rw [k0]; rfl
        have hb := blocks_img h.kept.d.snd.1.check
        refine .inl ⟨k0, hp, k1, by simp only [hp]; exact k2, by simp only; omega, .inr ⟨n1, h1, k3, _, hb.1, hb.2, ?_⟩⟩
        simp only
        have k4' : ((logN (s.epoch + 1)).append (layM s.epoch d st).1 (evB e)).2.1.trail.length = (layM s.epoch d st).1.trail.length + 1 := k4
        omega
      · refine .inr ⟨k0, fun hn => ?_, by simp only; rw [show ((logN (s.epoch + 1)).append (layM s.epoch d st).1 (evB e)).2.2 = 22 from k0]; rfl, s.epoch + 1, by omega, k2⟩
        exact k1 (lay_on h.kept.d hep hn).2.2.1
      · have k2 : (logN (s.epoch + 1)).records = 16 := k1
        cases k2
    · rw [if_neg (by rw [g0]; decide)]
      exact .inr ⟨g0, g1, by simp only; rw [g0]; rfl, s.epoch, Nat.le_succ _, g2⟩
theorem sto_left {d : DiskM} {s : StoM} {st : StM} (e : EvtM) (h : StoI d s st) (hep : s.epoch.toNat < 4294967295) (hn : d.left = none) : (s.append d e st).2.1.left = none := by
  obtain ⟨st0, evs, hi⟩ := h.img
  have hl : ∀ {d : DiskM} {l : LogM} {st st0 : StM} {ep : UInt32} {evs : List EvtM}, Img d l st ep st0 evs → d.left = none → (l.append d (evB e)).2.1.left = none := fun hi hn => append_left _ hn (by rw [hi.log.same.1, hi.log.same.2.1]; exact hi.log.len) hi.log.le2 _
  have h1 := lay_on h.kept.d hep hn
  unfold StoM.append
  split
  · exact hn
  split
  · split
    · split
      · obtain ⟨st1, evs1, hj⟩ := h1.2.1.img
        exact hl hj h1.2.2.1
      · exact h1.2.2.1
    · exact hl hi hn
  · exact hn
theorem open_cut {d : DiskM} {st : StM} {ep : UInt32} (h : KeptI d st ep) (hep : ep.toNat < 4294967295) :
    ((openM d).2.2.2 = 0 ∧ (openM d).2.2.1 = st ∧ (openM d).2.1 = ep + 1 ∧ StoI (openM d).1 ⟨ep + 1, logN (ep + 1), false⟩ st) ∨ ((openM d).2.2.2 = 22 ∧ KeptI (openM d).1 st ep) := by
  unfold openM
  rw [if_neg (by have := h.len; omega), h.d.kept]
  simp only [if_true]
  rcases lay_cut h hep with ⟨g0, g1, _⟩ | ⟨g0, _, g2⟩
  · rw [if_pos g0]; exact .inl ⟨rfl, rfl, rfl, g1⟩
  · rw [if_neg (by rw [g0]; decide)]; exact .inr ⟨g0, g2⟩
theorem open_on {d : DiskM} {st : StM} {ep : UInt32} (h : KeptD d st ep) (hep : ep.toNat < 4294967295) (hn : d.left = none) :
    (openM d).2.2.2 = 0 ∧ (openM d).2.2.1 = st ∧ (openM d).2.1 = ep + 1 ∧ StoI (openM d).1 ⟨ep + 1, logN (ep + 1), false⟩ st ∧ (openM d).1.left = none ∧ (openM d).1.trail.length = d.trail.length + (blocksA (imgB st).length + 1) := by
  obtain ⟨g0, g1, g2, g3⟩ := lay_on h hep hn
  unfold openM
  rw [if_neg (by have := h.len; omega), h.kept]
  simp only [if_true]
  rw [if_pos g0]
  exact ⟨rfl, rfl, rfl, g1, g2, g3⟩
theorem fresh_kept : KeptD ⟨List.replicate 65 ByteArray.empty, [], none⟩ noSt 0 := by
  refine ⟨DiskM.Wf.new 65 none, by simp, fun e _ j s _ _ hs => noB_new e 65 j s hs, .inl ⟨?_, rfl, rfl⟩⟩
  unfold readB DiskM.read LB
  simp
end Go.Proofs.YtgcnolapjppbpaaGreatDoor
namespace Go.Proofs.YtgcnolapjppbpaaGreatDoor
open Go.RowKit
set_option maxRecDepth 100000
theorem readB_short {d : DiskM} (h : d.Wf) (b : Int) : (readB d b).length ≤ 9223372036854775807 := by
  have : ∀ (l : List (Int × ByteArray)) (s : List ByteArray), (∀ r ∈ l, r.2.size ≤ 256) → (∀ x ∈ s, x.size ≤ 256) → ∀ x ∈ playRaws s l, x.size ≤ 256 := by
    intro l
    induction l with
    | nil => intro s _ h2; exact h2
    | cons r l ih =>
      intro s h1 h2
      have : playRaws s (r :: l) = playRaws (s.set r.1.toNat r.2) l := rfl
      rw [this]
      refine ih _ (fun r' hr => h1 r' (by simp [hr])) fun x hx => ?_
      rcases List.mem_or_eq_of_mem_set hx with h | rfl
      · exact h2 x h
      · exact h1 r (by simp)
  by_cases hb : 0 ≤ b ∧ b < d.strs.length
  · rw [readB_in _ _ hb, LB_len]
    have h1 := this d.trail (List.replicate d.strs.length ByteArray.empty) h.short (fun x hx => by rw [(List.mem_replicate.1 hx).2]; exact Nat.zero_le _)
    rw [← h.play] at h1
    have : d.strs.getD b.toNat ByteArray.empty ∈ d.strs := by
      have hi : b.toNat < d.strs.length := by omega
      simp [List.getD, hi]
    have := h1 _ this
    omega
  · rw [readB_out _ _ hb]; simp
end Go.Proofs.YtgcnolapjppbpaaGreatDoor
namespace Go.Proofs.YtgcnolapjppbpaaGreatDoor
open Go.RowKit
set_option maxRecDepth 100000
theorem restore_calls (d : DiskM) (p : Nat) (F : Nat → Prop) (w : World) (h : IsDisk w d p F) :
    Calls Tryz.prog 24 #[.pointer (some ⟨p, 0, none⟩)] w fun e w' => e = .returned (.tuple #[]) ∧ ∃ F', IsDisk w' { d with left := none } p F' ∧ Mod F w w' ∧ ∀ k, F' k → F k := by
  obtain ⟨F', g1, g2, g3⟩ := h.power (.func (.func 35) #[] #[]) none none ⟨rfl, rfl⟩ (fun k hk => by cases hk)
  obtain ⟨_, c0, c1, c2, hb⟩ := h.cells
  have hc := hb.cell 2 _ rfl
  have hf := hb.free 2
  clear h hb
  go_enter Tryz.func24, Tryz.ntmps24
  go_wp2
  go_end0
  refine ⟨rfl, F', g1, g2, fun k hk => ?_⟩
  rcases g3 k hk with h | h
  · exact h
  · cases h
end Go.Proofs.YtgcnolapjppbpaaGreatDoor
namespace Go.Proofs.YtgcnolapjppbpaaGreatDoor
open Go.RowKit
set_option maxRecDepth 100000
def sameL : List SesM → List SesM → Bool
  | [], [] => true
  | a :: l, b :: m => sameS a b && sameL l m
  | _, _ => false
theorem sameL_iff : ∀ {l m : List SesM}, sameL l m = true ↔ l = m
  | [], [] => by simp [sameL]
  | [], b :: m => by simp [sameL]
  | a :: l, [] => by simp [sameL]
  | a :: l, b :: m => by
    unfold sameL
    rw [Bool.and_eq_true, sameS_iff, sameL_iff]
    simp
theorem sameL_no {l m : List SesM} (h : l ≠ m) : sameL l m = false := by
  cases e : sameL l m
  · rfl
  · exact absurd (sameL_iff.1 e) h
def sameSt (a b : StM) : Bool := (a.clock == b.clock) && ((a.births == b.births) && sameL a.l b.l)
set_option maxHeartbeats 1600000 in
theorem sameSes_calls (v v' : Value) (l m : List SesM) (w : World) (hv : RdS w v l) (hv' : RdS w v' m) :
    Calls Tryz.prog 44 #[v, v'] w fun e w' => e = .returned (.bool (sameL l m)) ∧ Below w.heap.size w w' := by
  obtain ⟨a, cap, rfl, hc1, hc2⟩ := hv.slice
  obtain ⟨a2, cap2, rfl, hd1, hd2⟩ := hv'.slice
  have HV := Lib.hid hv
  have HV2 := Lib.hid hv'
  have hln : l.length ≤ 9223372036854775807 := by omega
  have hln2 : m.length ≤ 9223372036854775807 := by omega
  by_cases hlm : l.length = m.length
  rotate_left
  · have HR := Lib.hid (sameL_no (l := l) (m := m) (fun e => hlm (by rw [e])))
    have hne : ((l.length : Int) != (m.length : Int)) = true := by rw [bne_iff_ne]; omega
    clear hlm hv hv' hc1 hd1 HV HV2
    go_enter Tryz.func44, Tryz.ntmps44
    go_wp2_with fail
    go_ret
    rw [HR.out]
    exact ⟨rfl, Below.refl _ _⟩
  obtain ⟨n, hN⟩ : ∃ n, n = l.length := ⟨_, rfl⟩
  rw [← hlm] at HV2 hd1 ⊢
  rw [← hN] at HV HV2 hc1 hd1 hln ⊢
  have HN := Lib.hid hN
  have HLM := Lib.hid hlm
  have hne : ((n : Int) != (n : Int)) = false := by rw [bne_eq_false_iff_eq]
  clear hlm hv hv' hc1 hd1 hN hln2
  go_enter Tryz.func44, Tryz.ntmps44
  go_wp2_with fail
  go_loopg [5] n (fun gk iv wr => ∃ k : Nat, gk + k = n ∧ iv = .int .i64 (k : Int) ∧ Below w.heap.size w wr ∧ Hid (l.take k = m.take k))
  case atStart => exact ⟨0, rfl, rfl, Below.refl _ _, Lib.hid rfl⟩
  case round =>
    obtain ⟨k, hgk, rfl, hb, HT⟩ := hrel
    have k0 : (0 : Int) ≤ (k : Int) := by omega
    have HGK := Lib.hid hgk
    have HB := Lib.hid hb
    clear hgk
    by_cases hk : k < n
    · have k1 : (k : Int) < (n : Int) := by omega
      have hkl : k < l.length := by have := HN.out; omega
      have hkm : k < m.length := by have := HLM.out; omega
      obtain ⟨s, hs⟩ : ∃ s, s = l[k] := ⟨_, rfl⟩
      obtain ⟨u, hu⟩ : ∃ u, u = m[k] := ⟨_, rfl⟩
      obtain ⟨rb, ro, hra, hrow⟩ := (HV.out.below hb).row k hkl
      subst hra
      rw [← hs] at hrow
      obtain ⟨qb, qo, hqa, hqow⟩ := (HV2.out.below hb).row k hkm
      subst hqa
      rw [← hu] at hqow
      have HROW := Lib.hid (show ∀ wq, (∃ n, wq = wr.drewN n) → wq.rangeAt rb (ro + k * 12) s.cells.toList from fun wq hq => by
        obtain ⟨q, rfl⟩ := hq
        exact hrow)
      have HQOW := Lib.hid (show ∀ wq, (∃ n, wq = wr.drewN n) → wq.rangeAt qb (qo + k * 12) u.cells.toList from fun wq hq => by
        obtain ⟨q, rfl⟩ := hq
        exact hqow)
      have HLK := Lib.hid (show s = l[k] ∧ u = m[k] from ⟨hs, hu⟩)
      have HK := Lib.hid hk
      clear hrow hqow hs hu hk hb
      obtain ⟨r, hr⟩ : ∃ r, r = sameS s u := ⟨_, rfl⟩
      have HR := Lib.hid hr
      have hneq : ∀ w, (binOp .neq 45 (.agg s.cells) (.agg u.cells)).run Tryz.prog w = .ok (.bool (!r)) w := fun w => by rw [run_neqS, HR.out]
      clear hr
      go_wp2_with fail
      refine wp_region_quiet_lit (by kernel_rfl) (by kernel_rfl) ?_
      repeat (go_big_quiet_step (fail))
      refine wpQuiet_load_k rfl 45 (.tmp 19) rfl rb (ro + k * 12) rfl s.cells.toList _ HROW.out Tryz.underlying45 rfl (by kernel_rfl) ?_
      intro c1 hc1
      have ec1 : c1 = s.cells := by rw [hc1.out]
      subst ec1
      simp only [Act.put, List.setIfInBounds_toArray, List.set_cons_zero, List.set_cons_succ]
      repeat (go_big_quiet_step (fail))
      refine wpQuiet_load_k rfl 45 (.tmp 23) rfl qb (qo + k * 12) rfl u.cells.toList _ HQOW.out Tryz.underlying45 rfl (by kernel_rfl) ?_
      intro c2 hc2
      have ec2 : c2 = u.cells := by rw [hc2.out]
      subst ec2
      simp only [Act.put, List.setIfInBounds_toArray, List.set_cons_zero, List.set_cons_succ]
      repeat (go_big_quiet_step (fail))
      refine wpQuiet_nil ?_
      intro wq hwq
      obtain ⟨nq, rfl⟩ := hwq
      have HB4 := Lib.hid (HB.out.trans ((below_drewN _ nq).mono HB.out.size))
      clear hneq hc1 hc2 HROW HQOW
      cases r
      · have HF := Lib.hid (sameL_no (l := l) (m := m) (fun e => by
          obtain ⟨h1, h2⟩ := HLK.out
          have h3 := HR.out
          rw [h1, h2] at h3
          subst e
          rw [sameS_iff.2 rfl] at h3
          cases h3))
        clear HB HR HLK
        go_wp2_with fail
        go_ret
        rw [HF.out]
        exact ⟨rfl, HB4.out⟩
      · have HT2 := Lib.hid (show l.take (k + 1) = m.take (k + 1) by
          rw [List.take_succ_eq_append_getElem hkl, List.take_succ_eq_append_getElem hkm, HT.out, ← HLK.out.1, ← HLK.out.2, sameS_iff.1 HR.out.symm])
        clear HB HR HLK HT
        go_wp2_with fail
        go_roundg (n - (k + 1))
        case measure => have := HGK.out; have := HK.out; omega
        case rel => exact ⟨k + 1, by have := HGK.out; have := HK.out; omega, by go_num, HB4.out, HT2⟩
    · have k1 : ¬ (k : Int) < (n : Int) := by omega
      have HE := Lib.hid (show sameL l m = true from sameL_iff.2 (by
        have h := HT.out
        rw [List.take_of_length_le (by have := HN.out; omega), List.take_of_length_le (by have := HN.out; have := HLM.out; omega)] at h
        exact h))
      clear hk hb HT
      go_wp2_with fail
      go_ret
      rw [HE.out]
      exact ⟨rfl, HB.out⟩
set_option maxHeartbeats 1600000 in
theorem sameState_calls (a b : StM) (v v' : Value) (w : World) (hv : RdS w v a.l) (hv' : RdS w v' b.l) :
    Calls Tryz.prog 16 #[.agg #[.int .i64 a.clock, .int .i64 a.births, v], .agg #[.int .i64 b.clock, .int .i64 b.births, v']] w fun e w' => e = .returned (.bool (sameSt a b)) ∧ Below w.heap.size w w' := by
  have HB0 := Lib.hid (fun o o2 => below_two w o o2)
  have HK := Lib.hid (fun w' hb => sameSes_calls v v' a.l b.l w' (hv.below hb) (hv'.below hb))
  obtain ⟨xa, xc, rfl, _⟩ := hv.slice
  obtain ⟨ya, yc, rfl, _⟩ := hv'.slice
  unfold sameSt
  generalize sameL a.l b.l = r at HK ⊢
  clear hv hv'
  obtain ⟨c1, b1, l1⟩ := a
  obtain ⟨c2, b2, l2⟩ := b
  simp only at HK ⊢
  go_enter Tryz.func16, Tryz.ntmps16
  cases e1 : (c1 == c2)
  · go_wp2_with fail
    go_ret
    exact ⟨rfl, HB0.out _ _⟩
  cases e2 : (b1 == b2)
  · go_wp2_with fail
    go_ret
    exact ⟨rfl, HB0.out _ _⟩
  go_wp2_with fail
  refine (HK.out _ (HB0.out _ _)).mono ?_
  rintro e w1 ⟨rfl, hb⟩
  have HB := Lib.hid ((HB0.out _ _).trans (hb.mono (HB0.out (.cells #[.int .i64 c1, .int .i64 b1, .slice xa l1.length xc] 30) (.cells #[.int .i64 c2, .int .i64 b2, .slice ya l2.length yc] 30)).size))
  clear hb HK HB0
  go_wp2_with fail
  go_ret
  exact ⟨rfl, HB.out⟩
end Go.Proofs.YtgcnolapjppbpaaGreatDoor
