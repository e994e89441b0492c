/-
  Texts of one proof, one behind the other.
-/
import Derived.Test.YtgcnolapjppbpaaGreatDoorK50
namespace Go.Proofs.YtgcnolapjppbpaaGreatDoor
open Go.RowKit
set_option maxRecDepth 100000
theorem sto_trail (s : StoM) (d : DiskM) (e : EvtM) (st : StM) (h : d.strs.length ≤ 4096) : (s.append d e st).2.1.trail.length ≤ d.trail.length + 2060 := by
  have h1 := layM_trail s.epoch d st h
  have h2 := (append_len s.log d (evB e)).2
  have h3 := (append_len (logN (s.epoch + 1)) (layM s.epoch d st).1 (evB e)).2
  unfold StoM.append
  split
  · exact Nat.le_add_right _ _
  split
  · split
    · split
      · simp only; omega
      · simp only; omega
    · simp only; omega
  · exact Nat.le_add_right _ _
def firstM : StM := ⟨0, 1, [(loginS 1 0).s]⟩
theorem first_app : applyM noSt (loginS 1 0) = (0, firstM) := by kernel_rfl
theorem login_may : mayE (loginS 1 0) = true := by kernel_rfl
theorem loginS_small (bi sl : Int) : (loginS bi sl).s.user.length ≤ 9223372036854775807 ∧ (loginS bi sl).s.label.length ≤ 9223372036854775807 ∧ (loginS bi sl).s.scopes < 2 ^ 64 := ⟨show (3 : Nat) ≤ 9223372036854775807 by decide, show (0 : Nat) ≤ 9223372036854775807 by decide, show (7 : Nat) < 2 ^ 64 by decide⟩
set_option maxHeartbeats 12800000 in
theorem works26_calls (w : World) : Calls Tryz.prog 8 #[] w fun e w' => e = .returned (.bool true) ∧ Below w.heap.size w w' := by
  go_enter Tryz.func8, Tryz.ntmps8
  go_wp2_with fail
  refine (fresh26_calls w).mono ?_
  rintro ev w1 ⟨pd, F, rfl, hd, hb, hF⟩
  obtain ⟨d0, hd0⟩ : ∃ d : DiskM, d = { strs := List.replicate 65 ByteArray.empty, trail := [], left := none } := ⟨_, rfl⟩
  have hk0 : KeptD d0 noSt 0 := by rw [hd0]; exact fresh_kept
  have hl0 : d0.left = none := by rw [hd0]
  have ht0 : d0.trail.length = 0 := by rw [hd0]; rfl
  have hs0 : d0.strs.length = 65 := by rw [hd0]; simp
  rw [← hd0] at hd
  have hop := open_told hk0 pd F w1 hd (by omega)
  obtain ⟨z0, z1, z2, z3, z4, z5⟩ := open_on hk0 (show (0 : UInt32).toNat < 4294967295 by decide) hl0
  have hot := openM_trail d0 (by omega)
  obtain ⟨R, hR⟩ : ∃ R, R = openM d0 := ⟨_, rfl⟩
  rw [← hR] at hop z0 z1 z2 z3 z4 z5 hot
  obtain ⟨dN, eN, sN, er⟩ := R
  simp only at hop z0 z1 z2 z3 z4 z5 hot
  subst z0
  subst z1
  subst z2
  rw [show errV 0 = .nilIface from rfl, show noSt.clock = 0 from rfl, show noSt.births = 0 from rfl] at hop
  obtain ⟨e1, he1⟩ : ∃ e : UInt32, e = 0 + 1 := ⟨_, rfl⟩
  have hen : e1.toNat = 1 := by rw [he1]; rfl
  rw [← he1] at hop z3
  -- the first Append, plainly
  have hap := sto_append z3 rfl rfl (show e1.toNat < 4294967295 by omega) first_app login_may (loginS_small 1 0).2.2
  have hlf := sto_left (loginS 1 0) z3 (show e1.toNat < 4294967295 by omega) z4
  obtain ⟨A, hA⟩ : ∃ A, A = StoM.append ⟨e1, logN e1, false⟩ dN (loginS 1 0) noSt := ⟨_, rfl⟩
  rw [← hA] at hap hlf
  have hapc := fun (v : Value) ps pl (F2 : Nat → Prop) W h hlg hd hps hpl hne hr hvb => stoAppend_calls ⟨e1, logN e1, false⟩ dN (loginS 1 0) noSt v ps pl pd F2 W h hlg hd hps hpl hne hr hvb (fun s hs => by cases hs) (loginS_small 1 0).1 (loginS_small 1 0).2.1 (loginS_small 1 0).2.2 (by omega) z3.len.1 z3.len.1 (show 0 ≤ 16 by omega) (show 0 ≤ 1000000000 by omega)
  rw [← hA] at hapc
  obtain ⟨s1, d1, er1⟩ := A
  simp only at hap hlf hapc
  have hap := hap.resolve_right (fun h => h.2.1 z4)
  obtain ⟨y0, y1, y2, y3, y4, _⟩ := hap
  subst y0
  have hk1 := y3.kept
  have hep1 : s1.epoch.toNat < 4294967295 := by have : s1.epoch.toNat ≤ e1.toNat + 1 := y4; omega
  have hapt := sto_trail ⟨e1, logN e1, false⟩ dN (loginS 1 0) noSt z3.len.2
  rw [← hA] at hapt
  simp only at hapt
  have hop1 := fun F2 W hd => open_told hk1.d pd F2 W hd (by omega)
  obtain ⟨x0, x1, x2, x3, x4, x5⟩ := open_on hk1.d hep1 hlf
  obtain ⟨R1, hR1⟩ : ∃ R, R = openM d1 := ⟨_, rfl⟩
  rw [← hR1] at hop1 x0 x1
  obtain ⟨dM, eM, sM, erM⟩ := R1
  simp only at hop1 x0 x1
  subst x0
  subst x1
  rw [show errV 0 = .nilIface from rfl, show firstM.clock = 0 from rfl, show firstM.births = 1 from rfl] at hop1
  have HOP := Lib.hid hop
  have HAP := Lib.hid hapc
  have HOP1 := Lib.hid hop1
  have HB := Lib.hid hb
  have HF := Lib.hid hF
  have HD := Lib.hid hd
  clear hop hapc hop1 hb hF hd hk0 hl0 ht0 hs0 hd0 z3 z4 z5 hot hR hap hlf hA y1 y2 y3 y4 hk1 hep1 hapt x2 x3 x4 x5 hR1 hen he1
  go_wp2_with fail
  refine HOP.out.mono ?_
  rintro ev w2 ⟨pv, o, rfl, hop⟩
  obtain ⟨F2, q1, q2, q3, q4⟩ := hop.ex
  obtain ⟨ps, pl, rfl, b1, b2, n1, n2, nne, hsb, hlg, hob⟩ := q4 rfl
  have how := hop.ow
  have hmd := hop.md
  obtain ⟨oa, oc, rfl, _⟩ := how.slice
  rw [show noSt.l.length = 0 from rfl] at q3 hob how ⊢
  simp only at q1 hsb hlg how
  have hba := below_alloc w2 (.cells #[.int .i64 0, .int .i64 0, .slice oa 0 oc] 30)
  have HX0 := Lib.hid (Box.new w2 #[.int .i64 0, .int .i64 0, .slice oa 0 oc] 30)
  have HQ := Lib.hid (show ¬ F2 w2.heap.size ∧ w2.heap.size ≠ ps ∧ w2.heap.size ≠ pl from ⟨fun h => by have := q1.lt _ h; omega, by have := hsb.bx.lt; omega, by have := hlg.lt; omega⟩)
  have HD2 := Lib.hid (q1.grow hba)
  have HS2 := Lib.hid (hsb.below hba)
  have HL2 := Lib.hid (show IsLog _ (logN e1) pl pd from Box.below hlg hba)
  have HO2 := Lib.hid (how.rd.below hba)
  have HV2 := Lib.hid (show ∀ k, (Value.slice oa 0 oc).ownBlock = some k → ¬ F2 k ∧ k ≠ ps ∧ k ≠ pl ∧ k < w2.heap.size from fun k hk => ⟨(q3 k hk).2, (hob k hk).1, (hob k hk).2, (how.lt k hk).2⟩)
  have HN2 := Lib.hid (show ¬ F2 ps ∧ ¬ F2 pl ∧ ps ≠ pl ∧ w1.heap.size ≤ ps ∧ w1.heap.size ≤ pl from ⟨n1, n2, nne, b1, b2⟩)
  have hm2 : Mod F w1 w2 := hmd
  have HB2 := Lib.hid (show Below w.heap.size w (w2.alloc (.cells #[.int .i64 0, .int .i64 0, .slice oa 0 oc] 30)) from (HB.out.trans (hm2.below HB.out.size (fun k hk => HF.out k hk))).trans (hba.mono (HB.out.trans (hm2.below HB.out.size (fun k hk => HF.out k hk))).size))
  have HF2 := Lib.hid (show ∀ k, F2 k → w.heap.size ≤ k from fun k hk => by
    rcases q2 k hk with g | g
    · exact HF.out k g
    · have := HB.out.size; omega)
  have HB1 := Lib.hid HB.out.size
  have HQW0 := Lib.hid (show w.heap.size ≤ w2.heap.size from Nat.le_trans HB.out.size hm2.size)
  clear q1 q2 q3 q4 hop b1 b2 n1 n2 nne hsb hlg hob how hmd hm2 hba HOP HB HD HF
  go_wp2_with fail
  obtain ⟨q, hq⟩ : ∃ q, q = w2.heap.size := ⟨_, rfl⟩
  obtain ⟨wr, hwr⟩ : ∃ wr, wr = w2.alloc (.cells #[.int .i64 0, .int .i64 0, .slice oa 0 oc] 30) := ⟨_, rfl⟩
  rw [← hwr] at HX0 HD2 HS2 HL2 HO2 HB2 ⊢
  rw [← hq] at HX0 HQ HV2 HQW0 ⊢
  have HQL := Lib.hid (show q < wr.heap.size from HX0.out.lt)
  clear hq hwr
  refine wp_region_held_drew (S := fun W => Box W q #[.int .i64 0, .int .i64 0, .slice oa 0 oc] 30) (by kernel_rfl) (HX0.out.below (below_drew wr)) (fun hHeld => ?_)
  refine wpAnyH_take (i := 0) (oi := ⟨some 14, _, _, _, _, _⟩) (v := ?_) rfl (by kernel_rfl) (by kernel_rfl) (by kernel_rfl) (fun _ _ _ h => h) (Or.inl ⟨by kernel_rfl, ?_⟩) (by assumption) ?_
  rotate_left 1
  · intro w' hw'; clear hw'; go_simp; try with_reducible rfl
  try simp only [Act.put, List.setIfInBounds_toArray, List.set_cons_zero, List.set_cons_succ]
  refine wpAnyH_take (i := 1) (oi := ⟨some 15, _, _, _, _, _⟩) (v := ?_) rfl (by kernel_rfl) (by kernel_rfl) (by kernel_rfl) (fun _ _ _ h => h) (Or.inl ⟨by kernel_rfl, ?_⟩) (by assumption) ?_
  rotate_left 1
  · intro w' hw'; clear hw'; go_simp; try with_reducible rfl
  try simp only [Act.put, List.setIfInBounds_toArray, List.set_cons_zero, List.set_cons_succ]
  refine wpAnyH_take (i := 2) (oi := ⟨some 16, _, _, _, _, _⟩) (v := ?_) rfl (by kernel_rfl) (by kernel_rfl) (by kernel_rfl) (fun _ _ _ h => h) (Or.inl ⟨by kernel_rfl, ?_⟩) (by assumption) ?_
  rotate_left 1
  · intro w' hw'; clear hw'; go_simp; try with_reducible rfl
  try simp only [Act.put, List.setIfInBounds_toArray, List.set_cons_zero, List.set_cons_succ]
  refine wpAnyH_take (i := 3) (oi := ⟨some 17, _, _, _, _, _⟩) (v := ?_) rfl (by kernel_rfl) (by kernel_rfl) (by kernel_rfl) (fun _ _ _ h => h) (Or.inl ⟨by kernel_rfl, ?_⟩) (by assumption) ?_
  rotate_left 1
  · intro w' hw'; clear hw'; go_simp; try with_reducible rfl
  try simp only [Act.put, List.setIfInBounds_toArray, List.set_cons_zero, List.set_cons_succ]
  refine wpAnyH_take (i := 4) (oi := ⟨some 18, _, _, _, _, _⟩) (v := ?_) rfl (by kernel_rfl) (by kernel_rfl) (by kernel_rfl) (fun _ _ _ h => h) (Or.inl ⟨by kernel_rfl, ?_⟩) (by assumption) ?_
  rotate_left 1
  · intro w' hw'; clear hw'; go_simp; try with_reducible rfl
  try simp only [Act.put, List.setIfInBounds_toArray, List.set_cons_zero, List.set_cons_succ]
  refine wpAnyH_take (i := 5) (oi := ⟨some 19, _, _, _, _, _⟩) (v := ?_) rfl (by kernel_rfl) (by kernel_rfl) (by kernel_rfl) (fun _ _ _ h => h) (Or.inl ⟨by kernel_rfl, ?_⟩) (by assumption) ?_
  rotate_left 1
  · intro w' hw'; clear hw'; go_simp; try with_reducible rfl
  try simp only [Act.put, List.setIfInBounds_toArray, List.set_cons_zero, List.set_cons_succ]
  refine wpAnyH_take (i := 6) (oi := ⟨some 20, _, _, _, _, _⟩) (v := ?_) rfl (by kernel_rfl) (by kernel_rfl) (by kernel_rfl) (fun _ _ _ h => h) (Or.inl ⟨by kernel_rfl, ?_⟩) (by assumption) ?_
  rotate_left 1
  · intro w' hw'; clear hw'; go_simp; try with_reducible rfl
  try simp only [Act.put, List.setIfInBounds_toArray, List.set_cons_zero, List.set_cons_succ]
  refine wpAnyH_take (i := 7) (oi := ⟨some 21, _, _, _, _, _⟩) (v := ?_) rfl (by kernel_rfl) (by kernel_rfl) (by kernel_rfl) (fun _ _ _ h => h) (Or.inl ⟨by kernel_rfl, ?_⟩) (by assumption) ?_
  rotate_left 1
  · intro w' hw'; clear hw'; go_simp; try with_reducible rfl
  try simp only [Act.put, List.setIfInBounds_toArray, List.set_cons_zero, List.set_cons_succ]
  refine wpAnyH_take (i := 8) (oi := ⟨some 22, _, _, _, _, _⟩) (v := ?_) rfl (by kernel_rfl) (by kernel_rfl) (by kernel_rfl) (fun _ _ _ h => h) (Or.inl ⟨by kernel_rfl, ?_⟩) (by assumption) ?_
  rotate_left 1
  · intro w' hw'; have u1 := Box.cell hw' 2 _ rfl; clear hw'; go_simp; try with_reducible rfl
  try simp only [Act.put, List.setIfInBounds_toArray, List.set_cons_zero, List.set_cons_succ]
  refine wpAnyH_take (i := 9) (oi := ⟨some 23, _, _, _, _, _⟩) (v := ?_) rfl (by kernel_rfl) (by kernel_rfl) (by kernel_rfl) (fun _ _ _ h => h) (Or.inl ⟨by kernel_rfl, ?_⟩) (by assumption) ?_
  rotate_left 1
  · intro w' hw'; clear hw'; go_simp; try with_reducible rfl
  try simp only [Act.put, List.setIfInBounds_toArray, List.set_cons_zero, List.set_cons_succ]
  refine wpAnyH_take (i := 10) (oi := ⟨some 24, _, _, _, _, _⟩) (v := ?_) rfl (by kernel_rfl) (by kernel_rfl) (by kernel_rfl) (fun _ _ _ h => h) (Or.inl ⟨by kernel_rfl, ?_⟩) (by assumption) ?_
  rotate_left 1
  · intro w' hw'; clear hw'; go_simp; try with_reducible rfl
  try simp only [Act.put, List.setIfInBounds_toArray, List.set_cons_zero, List.set_cons_succ]
  refine wpAnyH_take (i := 11) (oi := ⟨some 25, _, _, _, _, _⟩) (v := ?_) rfl (by kernel_rfl) (by kernel_rfl) (by kernel_rfl) (fun _ _ _ h => h) (Or.inl ⟨by kernel_rfl, ?_⟩) (by assumption) ?_
  rotate_left 1
  · intro w' hw'; clear hw'; go_simp; try with_reducible rfl
  try simp only [Act.put, List.setIfInBounds_toArray, List.set_cons_zero, List.set_cons_succ]
  refine wpAnyH_take (i := 12) (oi := ⟨some 26, _, _, _, _, _⟩) (v := ?_) rfl (by kernel_rfl) (by kernel_rfl) (by kernel_rfl) (fun _ _ _ h => h) (Or.inl ⟨by kernel_rfl, ?_⟩) (by assumption) ?_
  rotate_left 1
  · intro w' hw'; clear hw'; go_simp; try with_reducible rfl
  try simp only [Act.put, List.setIfInBounds_toArray, List.set_cons_zero, List.set_cons_succ]
  refine wpAnyH_take (i := 13) (oi := ⟨some 27, _, _, _, _, _⟩) (v := ?_) rfl (by kernel_rfl) (by kernel_rfl) (by kernel_rfl) (fun _ _ _ h => h) (Or.inl ⟨by kernel_rfl, ?_⟩) (by assumption) ?_
  rotate_left 1
  · intro w' hw'; clear hw'; go_simp; try with_reducible rfl
  try simp only [Act.put, List.setIfInBounds_toArray, List.set_cons_zero, List.set_cons_succ]
  refine wpAnyH_take (i := 15) (oi := ⟨some 29, .load _ _, _, _, _, _⟩) (v := .agg #[.int .i64 0, .int .i64 0, .slice oa 0 oc]) rfl (by kernel_rfl) (by kernel_rfl) (by kernel_rfl) (fun _ _ _ h => h) (Or.inl ⟨by kernel_rfl, fun w' hw' => exec_load_m 30 (.tmp 3) rfl (q) (0) rfl (#[.int .i64 0, .int .i64 0, .slice oa 0 oc]).toList _ (zrangeS hw') Tryz.underlying30 rfl (by kernel_rfl)⟩) (by assumption) ?_
  try simp only [Act.put, List.setIfInBounds_toArray, List.set_cons_zero, List.set_cons_succ]
  refine wpAnyH_ready (rs := [14]) (by kernel_rfl) (by simp) (AllReadyH.cons (o := ⟨some 28, .call _, _, _, _, _⟩) rfl (fun K hK => ?_) AllReadyH.nil)
  go_simp
  refine (login26_calls 1 0 _).mono ?_
  rintro e3 w4 ⟨rfl, hb3⟩
  refine hK.out _ _ (hHeld.below hb3) (fun h4 => ?_)
  have HB4 := Lib.hid (show Below wr.heap.size wr w4 from below_trans (below_drew wr) hb3)
  clear hK K hb3 hHeld
  try simp only [Act.put, List.setIfInBounds_toArray, List.set_cons_zero, List.set_cons_succ]
  refine wpAnyH_ready (rs := [16]) (by kernel_rfl) (by simp) (AllReadyH.cons (o := ⟨some 30, .call _, _, _, _, _⟩) rfl (fun K hK => ?_) AllReadyH.nil)
  go_simp
  refine (show Calls _ _ #[.pointer (some ⟨ps, 0, none⟩), .agg (loginS 1 0).cells, .agg #[.int .i64 0, .int .i64 0, .slice oa 0 oc]] _ _ from HAP.out (.slice oa 0 oc) ps pl F2 w4 (HS2.out.below HB4.out) (Box.below HL2.out HB4.out) (HD2.out.grow HB4.out) HN2.out.1 HN2.out.2.1 HN2.out.2.2.1 (HO2.out.below HB4.out) (fun k hk => by have h1 := HV2.out k hk; have := HQL.out; have := HB4.out.size; exact ⟨h1.1, h1.2.1, h1.2.2.1, by omega⟩)).mono ?_
  rintro e3 w5 ⟨rfl, hpd⟩
  have hx5 := h4.mod hpd.md (fun h => by
    rcases h with h | h | h
    · exact HQ.out.2.1 h
    · exact HQ.out.2.2 h
    · exact HQ.out.1 h)
  refine hK.out _ _ hx5 (fun hS5 => ?_)
  obtain ⟨F5, pl5, q1, q2, q3, _⟩ := hpd.ex
  have HX5 := Lib.hid hx5
  have HD5 := Lib.hid (show IsDisk w5 d1 pd F5 from q1)
  have HQ5 := Lib.hid (show ¬ F5 q from fun h => by
    rcases q2 q h with g | g
    · exact HQ.out.1 g
    · have := HQL.out; have := HB4.out.size; omega)
  have hb4 := HB2.out.trans (HB4.out.mono HB2.out.size)
  have HB5 := Lib.hid (hb4.trans (hpd.md.below hb4.size (fun k hk => by
    rcases hk with hk | hk | hk
    · have := HN2.out; have := HB1.out; omega
    · have := HN2.out; have := HB1.out; omega
    · exact HF2.out k hk)))
  have HF5 := Lib.hid (show ∀ k, F5 k → w.heap.size ≤ k from fun k hk => by
    rcases q2 k hk with g | g
    · exact HF2.out k g
    · have := hb4.size; omega)
  have HQW := Lib.hid (show w.heap.size ≤ q by have := HQW0.out; omega)
  rw [show errV 0 = .nilIface from rfl]
  clear hK K hpd hx5 q1 q2 q3 hb4 HB4 HAP HS2 HL2 HD2 HO2 HV2 HN2 h4
  try simp only [Act.put, List.setIfInBounds_toArray, List.set_cons_zero, List.set_cons_succ]
  refine wpAnyH_take (i := 17) (oi := ⟨some 31, _, _, _, _, _⟩) (v := ?_) rfl (by kernel_rfl) (by kernel_rfl) (by kernel_rfl) (fun _ _ _ h => h) (Or.inl ⟨by kernel_rfl, ?_⟩) (by assumption) ?_
  rotate_left 1
  · intro w' hw'; clear hw'; go_simp; try with_reducible rfl
  try simp only [Act.put, List.setIfInBounds_toArray, List.set_cons_zero, List.set_cons_succ]
  refine wpAnyH_take (i := 18) (oi := ⟨some 32, _, _, _, _, _⟩) (v := ?_) rfl (by kernel_rfl) (by kernel_rfl) (by kernel_rfl) (fun _ _ _ h => h) (Or.inl ⟨by kernel_rfl, ?_⟩) (by assumption) ?_
  rotate_left 1
  · intro w' hw'; clear hw'; go_simp; try with_reducible rfl
  try simp only [Act.put, List.setIfInBounds_toArray, List.set_cons_zero, List.set_cons_succ]
  refine wpAnyH_done (by kernel_rfl) ?_ _
  clear hS5
  go_wp2_with fail
  refine (HOP1.out F5 w5 HD5.out).mono ?_
  rintro ev w6 ⟨pv, o, rfl, hop⟩
  obtain ⟨F6, q1, q2, q3, q4⟩ := hop.ex
  obtain ⟨ps6, pl6, rfl, b1, b2, n1, n2, nne, hsb, hlg, hob⟩ := q4 rfl
  have how := hop.ow
  obtain ⟨pa, pc, rfl, _⟩ := how.slice
  rw [show firstM.l.length = 1 from rfl] at how ⊢
  have hx6 := HX5.out.mod hop.md HQ5.out
  have HB6 := Lib.hid (HB5.out.trans (hop.md.below HB5.out.size (fun k hk => HF5.out k hk)))
  have HO6 := Lib.hid (show OwnS w6 w5.heap.size (.slice pa 1 pc) firstM.l from how)
  have HOL6 := Lib.hid (show ∀ k, (Value.slice pa 1 pc).ownBlock = some k → w5.heap.size ≤ k from fun k hk => (how.lt k hk).1)
  have c0 : w6.cell? ⟨q, 0, none⟩ = some (.int .i64 0) := hx6.cell 0 _ rfl
  have c1 : w6.cell? ⟨q, 1, none⟩ = some (.int .i64 0) := hx6.cell 1 _ rfl
  have c2 : w6.cell? ⟨q, 2, none⟩ = some (.slice oa 0 oc) := hx6.cell 2 _ rfl
  have f0 := hx6.free 0
  have f1 := hx6.free 1
  have f2 := hx6.free 2
  have hm7 := Mod.set3 q w6 (.int .i64 0) (.int .i64 1) (.slice pa 1 pc)
  have HX7 := Lib.hid (show Box (((w6.setCell ⟨q, 0, none⟩ (.int .i64 0)).setCell ⟨q, 1, none⟩ (.int .i64 1)).setCell ⟨q, 2, none⟩ (.slice pa 1 pc)) q #[.int .i64 0, .int .i64 1, .slice pa 1 pc] 30 from ((hx6.set 0 (.int .i64 0)).set 1 (.int .i64 1)).set 2 (.slice pa 1 pc))
  have HO7 := Lib.hid (HO6.out.mod hm7 (fun k hk e => by have := HOL6.out k hk; have := HX5.out.lt; omega))
  have HB7 := Lib.hid (HB6.out.trans (hm7.below HB6.out.size (fun k hk => by have := HQW.out; omega)))
  clear hop q1 q2 q3 q4 b1 b2 n1 n2 nne hsb hlg hob how hx6 hm7 HO6 HB6 HOP1 HD5
  go_wp2_with fail
  clear c0 c1 c2 f0 f1 f2
  generalize (((w6.setCell ⟨q, 0, none⟩ (.int .i64 0)).setCell ⟨q, 1, none⟩ (.int .i64 1)).setCell ⟨q, 2, none⟩ (.slice pa 1 pc)) = w7 at HX7 HO7 HB7 ⊢
  obtain ⟨rb, ro, hra, hrow⟩ := HO7.out.rd.row 0 (show 0 < firstM.l.length from by decide)
  subst hra
  have HROW := Lib.hid (show w7.rangeAt rb ro (loginS 1 0).s.cells.toList by rw [Nat.zero_mul, Nat.add_zero] at hrow; exact hrow)
  clear hrow
  refine wp_region_held_drew (S := fun W => Below w7.heap.size w7 W) (by kernel_rfl) (below_drew w7) (fun hHeld => ?_)
  refine wpAnyH_take (i := 0) (oi := ⟨some 39, _, _, _, _, _⟩) (v := ?_) rfl (by kernel_rfl) (by kernel_rfl) (by kernel_rfl) (fun _ _ _ h => h) (Or.inl ⟨by kernel_rfl, ?_⟩) (by assumption) ?_
  rotate_left 1
  · intro w' hw'; clear hw'; go_simp; try with_reducible rfl
  try simp only [Act.put, List.setIfInBounds_toArray, List.set_cons_zero, List.set_cons_succ]
  refine wpAnyH_take (i := 1) (oi := ⟨some 40, _, _, _, _, _⟩) (v := ?_) rfl (by kernel_rfl) (by kernel_rfl) (by kernel_rfl) (fun _ _ _ h => h) (Or.inl ⟨by kernel_rfl, ?_⟩) (by assumption) ?_
  rotate_left 1
  · intro w' hw'; clear hw'; go_simp; try with_reducible rfl
  try simp only [Act.put, List.setIfInBounds_toArray, List.set_cons_zero, List.set_cons_succ]
  refine wpAnyH_take (i := 2) (oi := ⟨some 41, _, _, _, _, _⟩) (v := ?_) rfl (by kernel_rfl) (by kernel_rfl) (by kernel_rfl) (fun _ _ _ h => h) (Or.inl ⟨by kernel_rfl, ?_⟩) (by assumption) ?_
  rotate_left 1
  · intro w' hw'; clear hw'; go_simp; try with_reducible rfl
  try simp only [Act.put, List.setIfInBounds_toArray, List.set_cons_zero, List.set_cons_succ]
  refine wpAnyH_take (i := 3) (oi := ⟨some 42, _, _, _, _, _⟩) (v := ?_) rfl (by kernel_rfl) (by kernel_rfl) (by kernel_rfl) (fun _ _ _ h => h) (Or.inl ⟨by kernel_rfl, ?_⟩) (by assumption) ?_
  rotate_left 1
  · intro w' hw'; clear hw'; go_simp; try with_reducible rfl
  try simp only [Act.put, List.setIfInBounds_toArray, List.set_cons_zero, List.set_cons_succ]
  refine wpAnyH_take (i := 4) (oi := ⟨some 43, _, _, _, _, _⟩) (v := ?_) rfl (by kernel_rfl) (by kernel_rfl) (by kernel_rfl) (fun _ _ _ h => h) (Or.inl ⟨by kernel_rfl, ?_⟩) (by assumption) ?_
  rotate_left 1
  · intro w' hw'; have u1 := Box.cell (HX7.out.below hw') 2 _ rfl; clear hw'; go_simp; try with_reducible rfl
  try simp only [Act.put, List.setIfInBounds_toArray, List.set_cons_zero, List.set_cons_succ]
  refine wpAnyH_take (i := 5) (oi := ⟨some 44, _, _, _, _, _⟩) (v := ?_) rfl (by kernel_rfl) (by kernel_rfl) (by kernel_rfl) (fun _ _ _ h => h) (Or.inl ⟨by kernel_rfl, ?_⟩) (by assumption) ?_
  rotate_left 1
  · intro w' hw'; clear hw'; go_simp; try with_reducible rfl
  try simp only [Act.put, List.setIfInBounds_toArray, List.set_cons_zero, List.set_cons_succ]
  refine wpAnyH_take (i := 6) (oi := ⟨some 45, _, _, _, _, _⟩) (v := ?_) rfl (by kernel_rfl) (by kernel_rfl) (by kernel_rfl) (fun _ _ _ h => h) (Or.inl ⟨by kernel_rfl, ?_⟩) (by assumption) ?_
  rotate_left 1
  · intro w' hw'; clear hw'; go_simp; try with_reducible rfl
  try simp only [Act.put, List.setIfInBounds_toArray, List.set_cons_zero, List.set_cons_succ]
  refine wpAnyH_take (i := 7) (oi := ⟨some 46, _, _, _, _, _⟩) (v := ?_) rfl (by kernel_rfl) (by kernel_rfl) (by kernel_rfl) (fun _ _ _ h => h) (Or.inl ⟨by kernel_rfl, ?_⟩) (by assumption) ?_
  rotate_left 1
  · intro w' hw'; clear hw'; go_simp; try with_reducible rfl
  try simp only [Act.put, List.setIfInBounds_toArray, List.set_cons_zero, List.set_cons_succ]
  refine wpAnyH_take (i := 8) (oi := ⟨some 47, _, _, _, _, _⟩) (v := ?_) rfl (by kernel_rfl) (by kernel_rfl) (by kernel_rfl) (fun _ _ _ h => h) (Or.inl ⟨by kernel_rfl, ?_⟩) (by assumption) ?_
  rotate_left 1
  · intro w' hw'; clear hw'; go_simp; try with_reducible rfl
  try simp only [Act.put, List.setIfInBounds_toArray, List.set_cons_zero, List.set_cons_succ]
  refine wpAnyH_take (i := 9) (oi := ⟨some 48, _, _, _, _, _⟩) (v := ?_) rfl (by kernel_rfl) (by kernel_rfl) (by kernel_rfl) (fun _ _ _ h => h) (Or.inl ⟨by kernel_rfl, ?_⟩) (by assumption) ?_
  rotate_left 1
  · intro w' hw'; clear hw'; go_simp; try with_reducible rfl
  try simp only [Act.put, List.setIfInBounds_toArray, List.set_cons_zero, List.set_cons_succ]
  refine wpAnyH_take (i := 10) (oi := ⟨some 49, _, _, _, _, _⟩) (v := ?_) rfl (by kernel_rfl) (by kernel_rfl) (by kernel_rfl) (fun _ _ _ h => h) (Or.inl ⟨by kernel_rfl, ?_⟩) (by assumption) ?_
  rotate_left 1
  · intro w' hw'; have u1 := Box.cell (HX7.out.below hw') 2 _ rfl; clear hw'; go_simp; try with_reducible rfl
  try simp only [Act.put, List.setIfInBounds_toArray, List.set_cons_zero, List.set_cons_succ]
  refine wpAnyH_take (i := 11) (oi := ⟨some 50, _, _, _, _, _⟩) (v := ?_) rfl (by kernel_rfl) (by kernel_rfl) (by kernel_rfl) (fun _ _ _ h => h) (Or.inl ⟨by kernel_rfl, ?_⟩) (by assumption) ?_
  rotate_left 1
  · intro w' hw'; clear hw'; go_simp; try with_reducible rfl
  try simp only [Act.put, List.setIfInBounds_toArray, List.set_cons_zero, List.set_cons_succ]
  refine wpAnyH_take (i := 12) (oi := ⟨some 51, .load _ _, _, _, _, _⟩) (v := .agg #[.int .i64 0, .int .i64 1, .int .i64 0, .int .i64 0, .int .i64 0, .string ⟨#[97, 110, 110]⟩, .string ⟨#[]⟩, .int .u64 7, .int .i64 1, .int .i64 0, .int .i64 1000, .int .i64 0]) rfl (by kernel_rfl) (by kernel_rfl) (by kernel_rfl) (fun _ _ _ h => h) (Or.inl ⟨by kernel_rfl, fun w' hw' => exec_load_m 45 (.tmp 50) rfl (rb) (ro) rfl (#[.int .i64 0, .int .i64 1, .int .i64 0, .int .i64 0, .int .i64 0, .string ⟨#[97, 110, 110]⟩, .string ⟨#[]⟩, .int .u64 7, .int .i64 1, .int .i64 0, .int .i64 1000, .int .i64 0]).toList _ (fun j v hv => below_heap hw' (HROW.out j v (by exact hv))) Tryz.underlying45 rfl (by kernel_rfl)⟩) (by assumption) ?_
  try simp only [Act.put, List.setIfInBounds_toArray, List.set_cons_zero, List.set_cons_succ]
  refine wpAnyH_ready (rs := [13]) (by kernel_rfl) (by simp) (AllReadyH.cons (o := ⟨some 52, .call _, _, _, _, _⟩) rfl (fun K hK => ?_) AllReadyH.nil)
  go_simp
  refine (login26_calls 1 0 _).mono ?_
  rintro e3 w9 ⟨rfl, hb3⟩
  have h9' := below_trans hHeld hb3
  refine hK.out _ _ h9' (fun h9 => ?_)
  rw [show (loginS 1 0).cells = #[.int .i64 0, .int .i64 0, .int .i64 1, .int .i64 0, .int .i64 0, .int .i64 0, .string ⟨#[97, 110, 110]⟩, .string ⟨#[]⟩, .int .u64 7, .int .i64 1, .int .i64 0, .int .i64 1000, .int .i64 0, .int .i64 0, .int .i64 0] from rfl]
  clear hK K hb3 h9' hHeld
  try simp only [Act.put, List.setIfInBounds_toArray, List.set_cons_zero, List.set_cons_succ]
  refine wpAnyH_take (i := 14) (oi := ⟨some 53, _, _, _, _, _⟩) (v := .agg #[.int .i64 0, .int .i64 1, .int .i64 0, .int .i64 0, .int .i64 0, .string ⟨#[97, 110, 110]⟩, .string ⟨#[]⟩, .int .u64 7, .int .i64 1, .int .i64 0, .int .i64 1000, .int .i64 0]) rfl (by kernel_rfl) (by kernel_rfl) (by kernel_rfl) (fun _ _ _ h => h) (Or.inl ⟨by kernel_rfl, fun w' hw' => ?_⟩) (by assumption) ?_
  · clear hw'; kernel_rfl
  try simp only [Act.put, List.setIfInBounds_toArray, List.set_cons_zero, List.set_cons_succ]
  refine wpAnyH_take (i := 15) (oi := ⟨some 54, _, _, _, _, _⟩) (v := .bool true) rfl (by kernel_rfl) (by kernel_rfl) (by kernel_rfl) (fun _ _ _ h => h) (Or.inl ⟨by kernel_rfl, fun w' hw' => ?_⟩) (by assumption) ?_
  · clear hw'; kernel_rfl
  try simp only [Act.put, List.setIfInBounds_toArray, List.set_cons_zero, List.set_cons_succ]
  refine wpAnyH_take (i := 16) (oi := ⟨some 55, _, _, _, _, _⟩) (v := ?_) rfl (by kernel_rfl) (by kernel_rfl) (by kernel_rfl) (fun _ _ _ h => h) (Or.inl ⟨by kernel_rfl, ?_⟩) (by assumption) ?_
  rotate_left 1
  · intro w' hw'; clear hw'; go_simp; try with_reducible rfl
  try simp only [Act.put, List.setIfInBounds_toArray, List.set_cons_zero, List.set_cons_succ]
  refine wpAnyH_take (i := 17) (oi := ⟨some 56, _, _, _, _, _⟩) (v := ?_) rfl (by kernel_rfl) (by kernel_rfl) (by kernel_rfl) (fun _ _ _ h => h) (Or.inl ⟨by kernel_rfl, ?_⟩) (by assumption) ?_
  rotate_left 1
  · intro w' hw'; clear hw'; go_simp; try with_reducible rfl
  try simp only [Act.put, List.setIfInBounds_toArray, List.set_cons_zero, List.set_cons_succ]
  refine wpAnyH_take (i := 18) (oi := ⟨some 57, _, _, _, _, _⟩) (v := ?_) rfl (by kernel_rfl) (by kernel_rfl) (by kernel_rfl) (fun _ _ _ h => h) (Or.inl ⟨by kernel_rfl, ?_⟩) (by assumption) ?_
  rotate_left 1
  · intro w' hw'; clear hw'; go_simp; try with_reducible rfl
  try simp only [Act.put, List.setIfInBounds_toArray, List.set_cons_zero, List.set_cons_succ]
  refine wpAnyH_take (i := 19) (oi := ⟨some 58, _, _, _, _, _⟩) (v := ?_) rfl (by kernel_rfl) (by kernel_rfl) (by kernel_rfl) (fun _ _ _ h => h) (Or.inl ⟨by kernel_rfl, ?_⟩) (by assumption) ?_
  rotate_left 1
  · intro w' hw'; have u1 := Box.cell (HX7.out.below hw') 1 _ rfl; clear hw'; go_simp; try with_reducible rfl
  try simp only [Act.put, List.setIfInBounds_toArray, List.set_cons_zero, List.set_cons_succ]
  refine wpAnyH_take (i := 20) (oi := ⟨some 59, _, _, _, _, _⟩) (v := ?_) rfl (by kernel_rfl) (by kernel_rfl) (by kernel_rfl) (fun _ _ _ h => h) (Or.inl ⟨by kernel_rfl, ?_⟩) (by assumption) ?_
  rotate_left 1
  · intro w' hw'; clear hw'; go_simp; try with_reducible rfl
  try simp only [Act.put, List.setIfInBounds_toArray, List.set_cons_zero, List.set_cons_succ]
  refine wpAnyH_take (i := 21) (oi := ⟨some 60, _, _, _, _, _⟩) (v := ?_) rfl (by kernel_rfl) (by kernel_rfl) (by kernel_rfl) (fun _ _ _ h => h) (Or.inl ⟨by kernel_rfl, ?_⟩) (by assumption) ?_
  rotate_left 1
  · intro w' hw'; clear hw'; go_simp; try with_reducible rfl
  try simp only [Act.put, List.setIfInBounds_toArray, List.set_cons_zero, List.set_cons_succ]
  refine wpAnyH_take (i := 22) (oi := ⟨some 0, _, _, _, _, _⟩) (v := ?_) rfl (by kernel_rfl) (by kernel_rfl) (by kernel_rfl) (fun _ _ _ h => h) (Or.inl ⟨by kernel_rfl, ?_⟩) (by assumption) ?_
  rotate_left 1
  · intro w' hw'; clear hw'; go_simp; try with_reducible rfl
  try simp only [Act.put, List.setIfInBounds_toArray, List.set_cons_zero]
  refine wpAnyH_done (by kernel_rfl) ?_ _
  have HBZ := Lib.hid (HB7.out.trans (h9.mono HB7.out.size))
  clear h9
  go_wp2_with fail
  go_ret
  exact ⟨rfl, HBZ.out⟩
end Go.Proofs.YtgcnolapjppbpaaGreatDoor
