/-
  The document's Apply of chapter 24.
-/
import Derived.Test.YthnabnieajojjaaGreatDoorRepA
import Derived.Test.YthnabnieajojjaaGreatDoorRefWo
import Derived.Test.YthnabnieajojjaaGreatDoorRefF
namespace Go.Proofs.YthnabnieajojjaaGreatDoor
open Go.RowKit
set_option maxRecDepth 100000

theorem info_boolB : (Tryz.prog.info? 4).map (fun i => (i.zero, i.size, i.bytes)) = some (some (.bool false), 1, 1) := by kernel_rfl
theorem wp_appB {op : Oper} {a : Act} {w : World} {K : Act → World → Prop} {Q : Exit → Act → World → Prop} (s x : Operand)
    (ho : op.op = .call { callee := .builtin .append, args := #[s, x], argTypes := #[105, 105] })
    (base : Nat) (v : Value) (g : List Bool) (hs : a.eval s = v) (hown : OwnB w base v g)
    (nb c : Nat) (y : Bool) (hx : a.eval x = .slice (some ⟨nb, 0, none⟩) 1 c) (hy : w.cell? ⟨nb, 0, none⟩ = some (.bool y))
    (hroom : g.length + 1 ≤ 1256584717458) (hbase : base ≤ w.heap.size)
    (h : ∀ v' w', OwnB w' base v' (g ++ [y]) → w.grownBy w' v.ownBlock → K (a.put op.dst v') w') : op.wp Tryz.prog a w K Q := by
  obtain ⟨i0, hi, hz0, hz1, hz2⟩ := info_parts info_boolB
  obtain ⟨v', w', hr, h2, h3, _⟩ := run_append_own2 (P := Tryz.prog) w base 105 op.type 4 i0 _ 1 1 Tryz.underlying105 hi hz0 hz1 hz2 rfl (by decide) v g.length (g.map Value.bool) hown ⟨nb, 0, none⟩ 1 c [.bool y] rfl (fun j u hj => by
    cases j with
    | zero => simp at hj; subst hj; exact hy
    | succ j => simp at hj) (by simp [Value.oneCell']) (by unfold maxLen; omega) (by omega) hbase
  unfold Oper.wp execOp
  simp only [ho, resolve, invoke, builtin, Sem.run_bind, Sem.run_pure, Result.andThen_ok, List.map_toArray, List.map_cons, List.map_nil, hs, hx, hr]
  refine h v' w' ?_ h3
  unfold OwnB
  rw [List.length_append, List.map_append]; exact h2
theorem OwnB.nil (w : World) (base : Nat) : OwnB w base (.slice none 0 0) [] := ⟨rfl, .inl ⟨rfl, rfl⟩⟩
theorem winv_map {goes : SesM → Bool} {l : List SesM} : WInv goes l (l.map goes) := by
  have hat : ∀ i (hi : i < l.length), gat (l.map goes) i = goes l[i] := fun i hi => by
    unfold gat; rw [List.getD, List.getElem?_map, List.getElem?_eq_getElem hi]; rfl
  exact ⟨List.length_map _, fun i hi h => by rw [hat i hi]; exact h, fun i hi h => .one (List.getElem_mem _) (by rw [← hat i hi]; exact h)⟩
theorem take_map {goes : SesM → Bool} {l : List SesM} {k : Nat} (hk : k < l.length) : (l.take (k + 1)).map goes = (l.take k).map goes ++ [goes l[k]] := by
  rw [List.take_succ_eq_append_getElem hk, List.map_append]; rfl
theorem find_any (k : Int) : ∀ l : List SesM, (findM k l).isSome = l.any (fun s => s.birth == k)
  | [] => rfl
  | x :: l => by
    simp only [findM, List.any_cons]
    by_cases h : x.birth = k
    · rw [if_pos h]; simp [h]
    · rw [if_neg h, find_any k l]
      have : (x.birth == k) = false := by rw [beq_eq_false_iff_ne]; exact h
      rw [this, Bool.false_or]
theorem mayE_ticks {e : EvtM} (h : mayE e = true) (k0 : (e.kind == 0) = false) (k1 : (e.kind == 1) = false) : 1 ≤ e.ticks ∧ e.ticks ≤ 1073741824 := by
  unfold mayE at h; rw [k0, k1] at h
  cases k2 : (e.kind == 2)
  · rw [k2] at h; simp at h
  · rw [k2] at h
    simp only [if_true, Bool.and_eq_true, Bool.false_eq_true, if_false] at h
    exact fromM_yes h.2.2
theorem mod_of_grownB {w w' : World} {q : Nat} {v : Value} (hg : w.grownBy w' v.ownBlock) (hv : ∀ k, v.ownBlock = some k → q ≤ k) (hq : q ≤ w.heap.size) : Mod (fun i => q ≤ i) w w' := mod_of_grown hg hv hq
theorem ApS.mod3 {w0 w w' : World} {p : Nat} {c b : Int} {v : Value} {e : EvtM} {l : List SesM} (h : ApS w0 w p c b v e l) (hm : Mod (fun i => p + 3 ≤ i) w w') (hv0 : RdS w0 v l) : ApS w0 w' p c b v e l := by
  have hbel := h.bel.trans (hm.below (by have := h.bx.lt; omega) (fun i hi => by omega))
  exact ⟨h.bx.mod hm (by omega), h.be.mod hm (by omega), h.bz.mod hm (by omega), hv0.below (by have h2 := hbel; rw [h.e0] at h2; exact h2), hbel, h.e0⟩
set_option maxHeartbeats 12800000 in
theorem refApply_calls (st : StM) (e : EvtM) (v : Value) (w : World) (hv : RdS w v st.l) (hn : st.l.length ≤ 1000000000) (hu : e.s.user.length ≤ 9223372036854775807) (hl : e.s.label.length ≤ 9223372036854775807) (hsc : e.s.scopes < 2 ^ 64) (ho : ∀ x ∈ st.l, x.scopes < 2 ^ 64) :
    Calls Tryz.prog 29 #[.agg #[.int .i64 st.clock, .int .i64 st.births, v], .agg e.cells] w fun ev w' => ∃ o, ev = .returned (.tuple #[.agg #[.int .i64 (applyM st e).2.clock, .int .i64 (applyM st e).2.births, o], .int .i64 (applyM st e).1]) ∧ OwnS w' w.heap.size o (applyM st e).2.l ∧ Below w.heap.size w w' := by
  have Hmy := Lib.hid (fun w => refMay_calls e w hu hl)
  obtain ⟨D, hD⟩ : ∃ D, D = applyM st e := ⟨_, rfl⟩
  rw [← hD]
  unfold applyM at hD
  have HRE := Lib.hid (fun v' w' h hs => refBorn24_calls st e.s v' w' h hs hsc ho)
  have HWO := Lib.hid (fun goes v' gv g base w' h1 h2 h3 h4 => refWithout_calls goes st v' gv g base w' h1 h2 h3 h4 hn)
  have HNN := Lib.hid hn
  obtain ⟨c, b, l⟩ := st
  simp only at hv hD HRE HNN HWO ⊢
  have HV0 := Lib.hid hv
  have HFI := Lib.hid (fun v' w' h => refFind_calls c b v' l e.birth w' h)
  have hn2 : l.length ≤ 1256584717457 := by have := HNN.out; omega
  have HCS := Lib.hid (fun v' w' h => copyState_calls c b v' l w' h hn2)
  obtain ⟨a, cap, rfl, hc1, hc2⟩ := hv.slice
  have hln : l.length ≤ 9223372036854775807 := by omega
  have HD := Lib.hid hD
  clear hD hc1 hn hu hl hsc ho hn2
  have HEC := Lib.hid e.cellsE
  have hap : ApS w (((w.alloc (.cells #[.int .i64 c, .int .i64 b, .slice a l.length cap] 25)).alloc (.cells e.cells 38)).alloc (.cells #[.int .i64 0, .int .i64 0, .slice none 0 0] 25)) w.heap.size c b (.slice a l.length cap) e l := by
    have h1 := Box.new w #[.int .i64 c, .int .i64 b, .slice a l.length cap] 25
    have h2 := Box.new (w.alloc (.cells #[.int .i64 c, .int .i64 b, .slice a l.length cap] 25)) e.cells 38
    have h3 := Box.new ((w.alloc (.cells #[.int .i64 c, .int .i64 b, .slice a l.length cap] 25)).alloc (.cells e.cells 38)) #[.int .i64 0, .int .i64 0, .slice none 0 0] 25
    rw [World.size_alloc] at h2
    rw [World.size_alloc, World.size_alloc] at h3
    have hb3 := (below_two w (.cells #[.int .i64 c, .int .i64 b, .slice a l.length cap] 25) (.cells e.cells 38)).trans ((below_alloc ((w.alloc (.cells #[.int .i64 c, .int .i64 b, .slice a l.length cap] 25)).alloc (.cells e.cells 38)) (.cells #[.int .i64 0, .int .i64 0, .slice none 0 0] 25)).mono (below_two w _ _).size)
    exact ⟨(h1.below (below_alloc _ _)).below (below_alloc _ _), h2.below (below_alloc _ _), h3, hv.below hb3, hb3, rfl⟩
  obtain ⟨n, hN⟩ : ∃ n, n = l.length := ⟨_, rfl⟩
  rw [← hN] at hln hap HV0 ⊢
  have HN := Lib.hid hN
  have HRG := Lib.hid hap.be.rangeV
  have HAP := Lib.hid hap
  clear hv hN hap
  rw [HEC.out]
  rw [show (((w.alloc (.cells #[.int .i64 c, .int .i64 b, .slice a n cap] 25)).alloc (.cells e.cells 38)).alloc (.cells #[.int .i64 0, .int .i64 0, .slice none 0 0] 25)) = ((w.alloc (.cells #[.int .i64 c, .int .i64 b, .slice a n cap] 25)).alloc (.cells #[.int .i64 e.kind, .int .i64 e.s.slot, .int .i64 e.s.birth, .int .i64 e.s.upS, .int .i64 e.s.upB, .int .i64 e.s.kind, .string (SB e.s.user), .string (SB e.s.label), .int .u64 (e.s.scopes : Int), .int .i64 e.s.level, .int .i64 e.s.born, .int .i64 e.s.deadline, .int .i64 e.s.depth, .int .i64 e.birth, .int .i64 e.ticks] 38)).alloc (.cells #[.int .i64 0, .int .i64 0, .slice none 0 0] 25) from rfl] at HAP HRG
  go_enter Tryz.func29, Tryz.ntmps29
  go_wp2_with ((with_reducible refine wpList_load_k ?L1a 38 (.tmp 3) ?L1b (w.heap.size + 1) (0) ?L1c e.cells.toList _ HRG.out Tryz.underlying38 ?L1d ?L1e ?L1f); (case L1b => rfl); (case L1a => rfl); (case L1c => rfl); (case L1d => rfl); (case L1e => kernel_rfl))
  intro cv hcv
  have ecv : cv = e.cells := by rw [hcv.out]
  subst ecv
  clear hcv HRG HEC
  generalize hw1 : World.alloc _ _ = w1 at HAP ⊢
  clear hw1
  obtain ⟨p, hp⟩ : ∃ p, p = w.heap.size := ⟨_, rfl⟩
  rw [← hp] at HAP ⊢
  have HP := Lib.hid hp
  clear hp
  go_wp2_with fail
  refine (Hmy.out _).mono ?_
  rintro ev w2 ⟨rfl, hb2⟩
  have HA2 := Lib.hid (HAP.out.below hb2)
  clear hb2 HAP Hmy
  cases hmay : mayE e
  · have HD1 := Lib.hid (show D = (1, noSt) by rw [HD.out, hmay]; rfl)
    clear HD hmay
    have z0 : w2.cell? ⟨p + 1 + 1, 0, none⟩ = some (.int .i64 0) := HA2.out.bz.cell 0 _ rfl
    have y0 := HA2.out.bz.free 0
    have z1 : w2.cell? ⟨p + 1 + 1, 1, none⟩ = some (.int .i64 0) := HA2.out.bz.cell 1 _ rfl
    have y1 := HA2.out.bz.free 1
    have z2 : w2.cell? ⟨p + 1 + 1, 2, none⟩ = some (.slice none 0 0) := HA2.out.bz.cell 2 _ rfl
    have y2 := HA2.out.bz.free 2
    have HZ := Lib.hid (HA2.out.fill 0 0 (.slice none 0 0))
    clear HA2
    go_wp2_with fail
    exact ret_cell_tmp rfl rfl (p + 1 + 1) 0 rfl [.int .i64 0, .int .i64 0, .slice none 0 0] _ (zrangeS HZ.out.1) Tryz.underlying25 rfl (by kernel_rfl) _ rfl ⟨_, by rw [HD1.out]; rfl, by rw [HD1.out]; exact OwnS.nil _ _, HZ.out.2.1⟩
  have HD2 := Lib.hid (HD.out.trans (by rw [hmay, if_pos rfl]))
  have HMAY := Lib.hid hmay
  clear hmay HD
  have k0 : w2.cell? ⟨p + 1, 0, none⟩ = some (.int .i64 e.kind) := HA2.out.be.cell 0 _ rfl
  cases hk0 : (e.kind == 0)
  rotate_left
  · have HD3 := Lib.hid (HD2.out.trans (if_pos (beq_iff_eq.1 hk0)))
    have HMS := Lib.hid (mayE_ses HMAY.out hk0)
    clear HD2 HMAY HWO HFI
    have HRB := Lib.hid HA2.out.be.rangeB
    have c0 : w2.cell? ⟨p, 0, none⟩ = some (.int .i64 c) := HA2.out.bx.cell 0 _ rfl
    have c1 : w2.cell? ⟨p, 1, none⟩ = some (.int .i64 b) := HA2.out.bx.cell 1 _ rfl
    have c2 : w2.cell? ⟨p, 2, none⟩ = some (.slice a n cap) := HA2.out.bx.cell 2 _ rfl
    go_wp2_with ((with_reducible refine wpList_load_k ?L2a 36 (.tmp 23) ?L2b (p + 1) (1) ?L2c e.s.cells.toList _ HRB.out Tryz.underlying36 ?L2d ?L2e ?L2f); (case L2b => rfl); (case L2a => rfl); (case L2c => rfl); (case L2d => rfl); (case L2e => kernel_rfl))
    intro cv hcv
    have ecv : cv = e.s.cells := by rw [hcv.out]
    subst ecv
    clear hcv
    go_wp2_with fail
    refine (HRE.out _ _ HA2.out.rs HMS.out).mono ?_
    rintro ev w3 ⟨rfl, hb3⟩
    have HA3 := Lib.hid (HA2.out.below hb3)
    clear hb3 HA2 HRB HRE c0 c1 c2 k0 hk0 HMS
    cases hr : (refM ⟨c, b, l⟩ e.s == 0)
    · have hrn : (refM ⟨c, b, l⟩ e.s != 0) = true := by rw [bne, hr]; rfl
      have HD4 := Lib.hid (HD3.out.trans (if_neg (fun h => by rw [h] at hr; cases hr)))
      generalize refM ⟨c, b, l⟩ e.s = er at *
      clear hr HD3
      have z0 : w3.cell? ⟨p + 1 + 1, 0, none⟩ = some (.int .i64 0) := HA3.out.bz.cell 0 _ rfl
      have y0 := HA3.out.bz.free 0
      have z1 : w3.cell? ⟨p + 1 + 1, 1, none⟩ = some (.int .i64 0) := HA3.out.bz.cell 1 _ rfl
      have y1 := HA3.out.bz.free 1
      have z2 : w3.cell? ⟨p + 1 + 1, 2, none⟩ = some (.slice none 0 0) := HA3.out.bz.cell 2 _ rfl
      have y2 := HA3.out.bz.free 2
      have HZ := Lib.hid (HA3.out.fill 0 0 (.slice none 0 0))
      clear HA3
      go_wp2_with fail
      exact ret_cell_tmp rfl rfl (p + 1 + 1) 0 rfl [.int .i64 0, .int .i64 0, .slice none 0 0] _ (zrangeS HZ.out.1) Tryz.underlying25 rfl (by kernel_rfl) _ rfl ⟨_, by rw [HD4.out]; rfl, by rw [HD4.out]; exact OwnS.nil _ _, HZ.out.2.1⟩
    have hrn : (refM ⟨c, b, l⟩ e.s != 0) = false := by rw [bne, hr]; rfl
    have HD4 := Lib.hid (HD3.out.trans (if_pos (beq_iff_eq.1 hr)))
    obtain ⟨W, hW⟩ : ∃ W, IntKind.i64.wrap (b + 1) = W := ⟨_, rfl⟩
    rw [hW] at HD4
    have HLL := Lib.hid (show l.length + 1 ≤ 1256584717458 by have := HNN.out; omega)
    clear hr HD3
    have c0 : w3.cell? ⟨p, 0, none⟩ = some (.int .i64 c) := HA3.out.bx.cell 0 _ rfl
    have c1 : w3.cell? ⟨p, 1, none⟩ = some (.int .i64 b) := HA3.out.bx.cell 1 _ rfl
    have c2 : w3.cell? ⟨p, 2, none⟩ = some (.slice a n cap) := HA3.out.bx.cell 2 _ rfl
    go_wp2_with fail
    refine (HCS.out _ _ HA3.out.rs).mono ?_
    rintro ev w4 ⟨o, rfl, ho4, hb4⟩
    have HA4 := Lib.hid ((HA3.out.below hb4))
    obtain ⟨oa, oc, rfl, _⟩ := ho4.slice
    have hbo := Box.new w4 #[.int .i64 c, .int .i64 b, .slice oa l.length oc] 25
    have hal := below_alloc w4 (.cells #[.int .i64 c, .int .i64 b, .slice oa l.length oc] 25)
    have HS3 := Lib.hid (show p + 1 + 1 < w3.heap.size from HA3.out.bz.lt)
    have HS4 := Lib.hid (Nat.lt_of_lt_of_le HS3.out hb4.size)
    have HQ := Lib.hid (show p + 1 + 1 < w4.heap.size ∧ w3.heap.size ≤ w4.heap.size by have := HS4.out; have := hb4.size; omega)
    have c1 : (w4.alloc (.cells #[.int .i64 c, .int .i64 b, .slice oa l.length oc] 25)).cell? ⟨p, 1, none⟩ = some (.int .i64 b) := (HA4.out.below hal).bx.cell 1 _ rfl
    have q1 : (w4.alloc (.cells #[.int .i64 c, .int .i64 b, .slice oa l.length oc] 25)).cell? ⟨w4.heap.size, 1, none⟩ = some (.int .i64 b) := hbo.cell 1 _ rfl
    have f1 := hbo.free 1
    have hal6 := below_alloc w4 (.cells #[.int .i64 c, .int .i64 W, .slice oa l.length oc] 25)
    have HO6 := Lib.hid (ho4.below hal6)
    have HA6 := Lib.hid (HA4.out.below hal6)
    have HX6 := Lib.hid (Box.new w4 #[.int .i64 c, .int .i64 W, .slice oa l.length oc] 25)
    have HOB := Lib.hid (fun k hk => (ho4.lt k hk))
    have HRB := Lib.hid HA6.out.be.rangeB
    have q2 : (w4.alloc (.cells #[.int .i64 c, .int .i64 W, .slice oa l.length oc] 25)).cell? ⟨w4.heap.size, 2, none⟩ = some (.slice oa l.length oc) := HX6.out.cell 2 _ rfl
    have HS3X := HS3
    clear ho4 hb4 hal hal6 hbo HA4 HS4 HS3 HCS hrn HA3
    go_wp2_with ((with_reducible refine wpList_load_k ?L3a 36 (.tmp 38) ?L3b (p + 1) (1) ?L3c e.s.cells.toList _ HRB.out Tryz.underlying36 ?L3d ?L3e ?L3f); (case L3b => rfl); (case L3a => rfl); (case L3c => rfl); (case L3d => rfl); (case L3e => kernel_rfl))
    intro cv hcv
    have ecv : cv = e.s.cells := by rw [hcv.out]
    subst ecv
    clear hcv HRB
    generalize w4.alloc (.cells #[.int .i64 c, .int .i64 W, .slice oa l.length oc] 25) = wb at HO6 HA6 HX6 q2 ⊢
    clear c1 q1 f1
    go_wp2_with (refine wpList_buildSlice_s (op := ⟨some 40, _, _, _, _, _⟩) (by rfl) 23 1 #[(0, .tmp 39)] rfl #[(0, .agg e.s.cells)] (by kernel_rfl) _ _ (buildS e.s wb) ?_)
    intro w7 hw7
    have hb7 : Below wb.heap.size wb w7 := by rw [hw7.out]; exact below_alloc _ _
    have HC7 := Lib.hid (show ∀ j u, e.s.cells.toList[j]? = some u → w7.cell? ((⟨wb.heap.size, 0, none⟩ : Addr).add j) = some u by rw [hw7.out]; exact newCells wb e.s _)
    have HO7 := Lib.hid ((HO6.out.below hb7))
    have HA7 := Lib.hid (HA6.out.below hb7)
    have HX7 := Lib.hid (HX6.out.below hb7)
    have HBS := Lib.hid (show w3.heap.size ≤ w7.heap.size by have := HX7.out.lt; have := HQ.out; omega)
    clear hw7 hb7 HO6 HA6 HX6 q2
    go_wp2_with (at_builtin; refine appSes rfl _ _ rfl w3.heap.size _ l rfl HO7.out ⟨wb.heap.size, 0, none⟩ 1 e.s rfl HC7.out HLL.out HBS.out ?_)
    intro v8 w8 hown8 hg8 hmv
    obtain ⟨va, vc, hve, _⟩ := hown8.slice
    rw [List.length_append, List.length_singleton] at hve
    subst hve
    have hx8 := HX7.out.grown hg8 (fun e => by have := (HOB.out _ e).2; omega)
    have hm8 := mod_of_grown hg8 (fun k hk => (HO7.out.lt k hk).1) HBS.out
    have hpq : p + 3 ≤ w3.heap.size := by have := HS3X.out; omega
    have hA8 := HA7.out.mod3 (hm8.mono (fun i hi => by omega)) HV0.out
    have hvq : ∀ k, (Value.slice va (l.length + 1) vc).ownBlock = some k → k ≠ w4.heap.size := fun k hk e => by
      have hl := HX7.out.lt
      rcases hmv with h | h
      · rw [h] at hk; have := (HOB.out k hk).2; omega
      · rw [h] at hk; injection hk with hk; omega
    have x0 : w8.cell? ⟨w4.heap.size, 0, none⟩ = some (.int .i64 c) := hx8.cell 0 _ rfl
    have x1 : w8.cell? ⟨w4.heap.size, 1, none⟩ = some (.int .i64 W) := hx8.cell 1 _ rfl
    have x2 : w8.cell? ⟨w4.heap.size, 2, none⟩ = some (.slice oa l.length oc) := hx8.cell 2 _ rfl
    have f2 := hx8.free 2
    have hms := Mod.set (fun i => i = w4.heap.size) w8 ⟨w4.heap.size, 2, none⟩ (.slice va (l.length + 1) vc) rfl
    have hA9 := hA8.mod3 (hms.mono (fun i hi => by have := HQ.out; omega)) HV0.out
    have ho9 := hown8.mod hms (fun k hk e => hvq k hk e)
    have HA9 := Lib.hid hA9
    have hfl := hA9.fill c W (.slice va (l.length + 1) vc)
    have hoF := (ho9.mod hfl.2.2 (fun k hk e => by have := (ho9.lt k hk).1; omega)).base (base' := w.heap.size) (by have := hA9.e0; omega)
    have HF := Lib.hid (And.intro hfl.1 (And.intro hoF hfl.2.1))
    have z0 : w8.cell? ⟨p + 1 + 1, 0, none⟩ = some (.int .i64 0) := hA8.bz.cell 0 _ rfl
    have z1 : w8.cell? ⟨p + 1 + 1, 1, none⟩ = some (.int .i64 0) := hA8.bz.cell 1 _ rfl
    have z2 : w8.cell? ⟨p + 1 + 1, 2, none⟩ = some (.slice none 0 0) := hA8.bz.cell 2 _ rfl
    have y0 := hA8.bz.free 0
    have y1 := hA8.bz.free 1
    have y2 := hA8.bz.free 2
    have z22 : (w8.setCell ⟨w4.heap.size, 2, none⟩ (.slice va (l.length + 1) vc)).cell? ⟨p + 1 + 1, 2, none⟩ = some (.slice none 0 0) := hA9.bz.cell 2 _ rfl
    have y22 := hA9.bz.free 2
    clear hx8 hm8 hA8 hvq hms hA9 ho9 hfl hoF hown8 hg8 hmv HO7 HX7 HA7 HOB HC7 HBS
    go_wp2_with fail
    exact ret_cell_tmp rfl rfl (p + 1 + 1) 0 rfl [.int .i64 c, .int .i64 W, .slice va (l.length + 1) vc] _ (zrangeS HF.out.1) Tryz.underlying25 rfl (by kernel_rfl) _ rfl ⟨_, by rw [HD4.out]; rfl, by rw [HD4.out]; exact HF.out.2.1, HF.out.2.2⟩
  cases hk1 : (e.kind == 1)
  rotate_left
  · have HD3 := Lib.hid ((HD2.out.trans (if_neg (fun h => by rw [h] at hk0; cases hk0))).trans (if_pos (beq_iff_eq.1 hk1)))
    clear HD2 HMAY HRE HCS
    have c0 : w2.cell? ⟨p, 0, none⟩ = some (.int .i64 c) := HA2.out.bx.cell 0 _ rfl
    have c1 : w2.cell? ⟨p, 1, none⟩ = some (.int .i64 b) := HA2.out.bx.cell 1 _ rfl
    have c2 : w2.cell? ⟨p, 2, none⟩ = some (.slice a n cap) := HA2.out.bx.cell 2 _ rfl
    have k13 : w2.cell? ⟨p + 1, 13, none⟩ = some (.int .i64 e.birth) := HA2.out.be.cell 13 _ rfl
    have hany := find_any e.birth l
    go_wp2_with fail
    refine (HFI.out _ _ HA2.out.rs).mono ?_
    rintro ev w3 ⟨rfl, hb3⟩
    have HA3 := Lib.hid (HA2.out.below hb3)
    rw [hany]
    obtain ⟨r, hr⟩ : ∃ r, r = l.any (fun s => s.birth == e.birth) := ⟨_, rfl⟩
    rw [← hr] at HD3 ⊢
    generalize (findM e.birth l).getD zSes = y
    clear hr hany hb3 HA2 c0 c1 c2 k13 k0 hk0 hk1 HFI
    go_wp2_with ((with_reducible refine wpList_store_k ?S4a 36 (.tmp 9) (.tmp 51) ?S4b (w3.heap.size) 0 y.cells.toList ?S4c y.cells ?S4d (SesM.listS _) ?S4e ?S4f ?S4g ?S4h); (case S4b => rfl); (case S4a => rfl); (case S4c => rfl); (case S4d => rfl); (case S4e => exact thereZ _ _); (case S4f => kernel_rfl); (case S4g => exact SesM.oneS _))
    intro w4 hw4
    obtain ⟨_, hb4⟩ := putZ hw4
    have HA4 := Lib.hid (HA3.out.below hb4)
    clear hw4 hb4 HA3
    cases r
    · have HD4 := Lib.hid (show D = (16, noSt) from HD3.out)
      clear HD3
      have z0 : w4.cell? ⟨p + 1 + 1, 0, none⟩ = some (.int .i64 0) := HA4.out.bz.cell 0 _ rfl
      have y0 := HA4.out.bz.free 0
      have z1 : w4.cell? ⟨p + 1 + 1, 1, none⟩ = some (.int .i64 0) := HA4.out.bz.cell 1 _ rfl
      have y1 := HA4.out.bz.free 1
      have z2 : w4.cell? ⟨p + 1 + 1, 2, none⟩ = some (.slice none 0 0) := HA4.out.bz.cell 2 _ rfl
      have y2 := HA4.out.bz.free 2
      have HZ := Lib.hid (HA4.out.fill 0 0 (.slice none 0 0))
      clear HA4
      go_wp2_with fail
      exact ret_cell_tmp rfl rfl (p + 1 + 1) 0 rfl [.int .i64 0, .int .i64 0, .slice none 0 0] _ (zrangeS HZ.out.1) Tryz.underlying25 rfl (by kernel_rfl) _ rfl ⟨_, by rw [HD4.out]; rfl, by rw [HD4.out]; exact OwnS.nil _ _, HZ.out.2.1⟩
    have HD4 := Lib.hid (show D = (0, ⟨c, b, withoutM (fun s => s.birth == e.birth) l⟩) from HD3.out)
    clear HD3
    have HP3 := Lib.hid (show p + 3 ≤ w4.heap.size from HA4.out.bz.lt)
    go_wp2_with fail
    go_loopg [6, 11] n (fun gk ov iv wr => ∃ (k : Nat) (gl : List Bool), gk + k = n ∧ iv = .int .i64 (k : Int) ∧ ((l.take k).map (fun s => s.birth == e.birth) = gl ∧ gl.length = k ∧ (k = 0 → ov = .slice none 0 0)) ∧ OwnB wr (p + 3) ov gl ∧ Mod (fun i => p + 3 ≤ i) w4 wr)
    case atStart => exact ⟨0, [], Nat.add_zero _, rfl, ⟨rfl, rfl, fun _ => rfl⟩, OwnB.nil _ _, Mod.refl _ _⟩
    case round =>
      obtain ⟨k, gl, hgk, rfl, hgl, hown, hmr⟩ := hrel
      have HGL := Lib.hid hgl
      have k0 : (0 : Int) ≤ (k : Int) := by omega
      have HGK := Lib.hid hgk
      have HAK := Lib.hid (HA4.out.mod3 hmr HV0.out)
      have HMR := Lib.hid hmr
      have HO := Lib.hid hown
      have HPR := Lib.hid (show p + 3 ≤ wr.heap.size from HAK.out.bz.lt)
      have c2 : wr.cell? ⟨p, 2, none⟩ = some (.slice a n cap) := HAK.out.bx.cell 2 _ rfl
      clear hgk hmr hown hgl
      by_cases hk : k < n
      · have k1 : (k : Int) < (n : Int) := by omega
        have hkl : k < l.length := by have := HN.out; omega
        obtain ⟨s, hs⟩ : ∃ s, s = l[k] := ⟨_, rfl⟩
        obtain ⟨rb, ro, hra, hrow0⟩ := HV0.out.row k hkl
        subst hra
        rw [← hs] at hrow0
        have hrp : rb < p := by rw [HP.out]; exact World.block_lt_of_cell? w _ (hrow0 0 _ rfl)
        have HTM := Lib.hid (show (l.take (k + 1)).map (fun s => s.birth == e.birth) = gl ++ [(fun s => s.birth == e.birth) s] by rw [hs, ← HGL.out.1]; exact take_map hkl)
        have HR := Lib.hid (And.intro (below_heap HAK.out.self (hrow0 1 _ rfl)) hrp)
        have HC2 := Lib.hid c2
        have HE8 := Lib.hid (show wr.cell? ⟨p + 1, 13, none⟩ = some (.int .i64 e.birth) from HAK.out.be.cell 13 _ rfl)
        have HK := Lib.hid hk
        have HLK := Lib.hid (show gl.length + 1 ≤ 1256584717458 by have := HNN.out; have := HGL.out.2.1; omega)
        obtain ⟨ga, gc, rfl, _⟩ := HO.out.slice
        clear hrow0 hrp hs hk hkl
        go_wp2_with fail
        clear c2
        refine wp_region_held_drew (S := fun W => Mod (fun i => p + 3 ≤ i) wr W) (by kernel_rfl) (Mod.drew _ wr) (fun hHeld => ?_)
        refine wpAnyH_take (i := 0) (oi := ⟨some 63, _, _, _, _, _⟩) (v := ?_) rfl (by kernel_rfl) (by kernel_rfl) (by kernel_rfl) (fun _ _ _ h => h) (Or.inl ⟨by kernel_rfl, ?_⟩) (by assumption) ?_
        rotate_left 1
        · intro w' hw'; clear hw'; go_simp; try with_reducible rfl
        try simp only [Act.put, List.setIfInBounds_toArray, List.set_cons_zero, List.set_cons_succ]
        refine wpAnyH_take (i := 1) (oi := ⟨some 64, _, _, _, _, _⟩) (v := ?_) rfl (by kernel_rfl) (by kernel_rfl) (by kernel_rfl) (fun _ _ _ h => h) (Or.inl ⟨by kernel_rfl, ?_⟩) (by assumption) ?_
        rotate_left 1
        · intro w' hw'; clear hw'; go_simp; try with_reducible rfl
        try simp only [Act.put, List.setIfInBounds_toArray, List.set_cons_zero, List.set_cons_succ]
        refine wpAnyH_take (i := 2) (oi := ⟨some 65, _, _, _, _, _⟩) (v := ?_) rfl (by kernel_rfl) (by kernel_rfl) (by kernel_rfl) (fun _ _ _ h => h) (Or.inl ⟨by kernel_rfl, ?_⟩) (by assumption) ?_
        rotate_left 1
        · intro w' hw'; have u1 := modCell hw' HC2.out (fun h => by have h3 : p + 3 ≤ p := h; omega); clear hw'; go_simp; try with_reducible rfl
        try simp only [Act.put, List.setIfInBounds_toArray, List.set_cons_zero, List.set_cons_succ]
        refine wpAnyH_take (i := 3) (oi := ⟨some 66, _, _, _, _, _⟩) (v := ?_) rfl (by kernel_rfl) (by kernel_rfl) (by kernel_rfl) (fun _ _ _ h => h) (Or.inl ⟨by kernel_rfl, ?_⟩) (by assumption) ?_
        rotate_left 1
        · intro w' hw'; clear hw'; go_simp; try with_reducible rfl
        try simp only [Act.put, List.setIfInBounds_toArray, List.set_cons_zero, List.set_cons_succ]
        refine wpAnyH_take (i := 4) (oi := ⟨some 67, _, _, _, _, _⟩) (v := ?_) rfl (by kernel_rfl) (by kernel_rfl) (by kernel_rfl) (fun _ _ _ h => h) (Or.inl ⟨by kernel_rfl, ?_⟩) (by assumption) ?_
        rotate_left 1
        · intro w' hw'; clear hw'; go_simp; try with_reducible rfl
        try simp only [Act.put, List.setIfInBounds_toArray, List.set_cons_zero, List.set_cons_succ]
        refine wpAnyH_take (i := 5) (oi := ⟨some 68, _, _, _, _, _⟩) (v := ?_) rfl (by kernel_rfl) (by kernel_rfl) (by kernel_rfl) (fun _ _ _ h => h) (Or.inl ⟨by kernel_rfl, ?_⟩) (by assumption) ?_
        rotate_left 1
        · intro w' hw'; clear hw'; go_simp; try with_reducible rfl
        try simp only [Act.put, List.setIfInBounds_toArray, List.set_cons_zero, List.set_cons_succ]
        refine wpAnyH_take (i := 6) (oi := ⟨some 69, _, _, _, _, _⟩) (v := ?_) rfl (by kernel_rfl) (by kernel_rfl) (by kernel_rfl) (fun _ _ _ h => h) (Or.inl ⟨by kernel_rfl, ?_⟩) (by assumption) ?_
        rotate_left 1
        · intro w' hw'; have u1 := modCell hw' HR.out.1 (fun h => by have h3 : p + 3 ≤ rb := h; have := HR.out.2; omega); clear hw'; go_simp; try with_reducible rfl
        try simp only [Act.put, List.setIfInBounds_toArray, List.set_cons_zero, List.set_cons_succ]
        refine wpAnyH_take (i := 7) (oi := ⟨some 70, _, _, _, _, _⟩) (v := ?_) rfl (by kernel_rfl) (by kernel_rfl) (by kernel_rfl) (fun _ _ _ h => h) (Or.inl ⟨by kernel_rfl, ?_⟩) (by assumption) ?_
        rotate_left 1
        · intro w' hw'; clear hw'; go_simp; try with_reducible rfl
        try simp only [Act.put, List.setIfInBounds_toArray, List.set_cons_zero, List.set_cons_succ]
        refine wpAnyH_take (i := 8) (oi := ⟨some 71, _, _, _, _, _⟩) (v := ?_) rfl (by kernel_rfl) (by kernel_rfl) (by kernel_rfl) (fun _ _ _ h => h) (Or.inl ⟨by kernel_rfl, ?_⟩) (by assumption) ?_
        rotate_left 1
        · intro w' hw'; have u1 := modCell hw' HE8.out (fun h => by have h3 : p + 3 ≤ p + 1 := h; omega); clear hw'; go_simp; try with_reducible rfl
        try simp only [Act.put, List.setIfInBounds_toArray, List.set_cons_zero, List.set_cons_succ]
        refine wpAnyH_take (i := 9) (oi := ⟨some 72, _, _, _, _, _⟩) (v := ?_) rfl (by kernel_rfl) (by kernel_rfl) (by kernel_rfl) (fun _ _ _ h => h) (Or.inl ⟨by kernel_rfl, ?_⟩) (by assumption) ?_
        rotate_left 1
        · intro w' hw'; clear hw'; go_simp; try with_reducible rfl
        try simp only [Act.put, List.setIfInBounds_toArray, List.set_cons_zero, List.set_cons_succ]
        refine wpAnyH_ready (rs := [10]) (by kernel_rfl) (by simp) (AllReadyH.cons (o := ⟨some 73, .buildSlice _ 1 _, _, _, _, _⟩) rfl (fun K hK => ?_) AllReadyH.nil)
        go_simp
        have hbA := (below_alloc wr (.cells #[.bool (s.birth == e.birth)] 4)).trans ((below_drew (wr.alloc (.cells #[.bool (s.birth == e.birth)] 4))).mono (below_alloc wr _).size)
        refine hK.out _ _ (Mod.of_below hbA) (fun hHeld2 => ?_)
        have HO2 := Lib.hid (HO.out.below hbA)
        have HCQ := Lib.hid (show (wr.alloc (.cells #[.bool (s.birth == e.birth)] 4)).drew.cell? ⟨wr.heap.size, 0, none⟩ = some (.bool (s.birth == e.birth)) from (Box.new wr #[.bool (s.birth == e.birth)] 4).cell 0 _ rfl)
        have HP4 := Lib.hid (Nat.le_trans HPR.out hHeld2.size)
        clear hK K hHeld hbA
        try simp only [Act.put, List.setIfInBounds_toArray, List.set_cons_zero, List.set_cons_succ]
        refine wpAnyH_ready (rs := [11]) (by kernel_rfl) (by simp) (AllReadyH.cons (o := ⟨some 74, .call _, _, _, _, _⟩) rfl (fun K hK => ?_) AllReadyH.nil)
        rw [if_pos (by kernel_rfl)]
        refine wp_appB (.tmp 63) (.tmp 73) rfl (p + 3) _ _ rfl HO2.out wr.heap.size 1 (s.birth == e.birth) rfl HCQ.out HLK.out HP4.out ?_
        intro v' w7 hown' hg'
        have hm7 := hHeld2.trans (mod_of_grown hg' (fun k hk => (HO2.out.lt k hk).1) HP4.out)
        refine hK.out _ _ hm7 (fun hHeld4 => ?_)
        have HO7 := Lib.hid hown'
        have HM7 := Lib.hid (HMR.out.trans hm7)
        obtain ⟨ga2, gc2, hve, _⟩ := hown'.slice
        rw [List.length_append, List.length_singleton] at hve
        subst hve
        clear hK K hown' hg' hm7 HO2 HCQ hHeld2
        try simp only [Act.put, List.setIfInBounds_toArray, List.set_cons_zero, List.set_cons_succ]
        refine wpAnyH_take (i := 12) (oi := ⟨some 6, _, _, _, _, _⟩) (v := ?_) rfl (by kernel_rfl) (by kernel_rfl) (by kernel_rfl) (fun _ _ _ h => h) (Or.inl ⟨by kernel_rfl, ?_⟩) (by assumption) ?_
        rotate_left 1
        · intro w' hw'; clear hw'; go_simp; try with_reducible rfl
        try simp only [Act.put, List.setIfInBounds_toArray, List.set_cons_zero, List.set_cons_succ]
        refine wpAnyH_done (by kernel_rfl) ?_ _
        clear hHeld4 HAK HMR HO HR HC2 HP4
        go_wp2_with fail
        go_roundg (n - (k + 1))
        case measure => have := HGK.out; have := HK.out; omega
        case rel => exact ⟨k + 1, _, by have := HGK.out; have := HK.out; omega, by go_num, ⟨HTM.out, by rw [List.length_append, List.length_singleton, HGL.out.2.1], fun h => by cases h⟩, HO7.out, HM7.out⟩
      · have k1 : ¬ (k : Int) < (n : Int) := by omega
        have HGE := Lib.hid (show gl = l.map (fun s => s.birth == e.birth) by
          have h := HGL.out.1
          rw [List.take_of_length_le (by have := HN.out; omega)] at h
          exact h.symm)
        have HOE := Lib.hid HO.out
        have c0 : wr.cell? ⟨p, 0, none⟩ = some (.int .i64 c) := HAK.out.bx.cell 0 _ rfl
        have c1 : wr.cell? ⟨p, 1, none⟩ = some (.int .i64 b) := HAK.out.bx.cell 1 _ rfl
        have HAP := Lib.hid (show ∀ k, (Value.slice a n cap).ownBlock = some k → (u6 : Value).ownBlock ≠ some k from fun k1 hk1 hk2 => by
          have h3 := (HOE.out.lt k1 hk2).1
          by_cases h0 : 0 < l.length
          · obtain ⟨rb, ro, hra, hrow0⟩ := HV0.out.row 0 h0
            have hrp : rb < p := by rw [HP.out]; exact World.block_lt_of_cell? w _ (hrow0 0 _ rfl)
            rw [hra] at hk1
            have e : rb = k1 := by injection hk1
            omega
          · rw [HGL.out.2.2 (by have := HN.out; have := HGK.out; omega)] at hk2
            cases hk2)
        obtain ⟨ga, gc, rfl, _⟩ := HOE.out.slice
        have HWC := Lib.hid (HWO.out (fun s => s.birth == e.birth) (.slice a n cap) _ _ (p + 3) wr HAK.out.rs HOE.out (by rw [HGE.out]; exact winv_map) HAP.out)
        clear hk HGK HMR HO HPR HGL
        go_wp2_with fail
        refine HWC.out.mono ?_
        rintro ev w5 ⟨o, rfl, ho, hm5⟩
        have hm53 : Mod (fun i => p + 3 ≤ i) wr w5 := hm5.mono (fun i hi => by
          rcases hi with h | h
          · have := HAK.out.bz.lt; omega
          · exact (HOE.out.lt i h).1)
        have HA5 := Lib.hid (HAK.out.mod3 hm53 HV0.out)
        obtain ⟨va, vc, rfl, _⟩ := ho.slice
        have HO5 := Lib.hid (ho.base (base' := p + 3) (show p + 3 ≤ wr.heap.size from HAK.out.bz.lt))
        clear ho hm5 hm53 HWC HAK c0 c1 c2 HOE HAP HGE
        have z0 : w5.cell? ⟨p + 1 + 1, 0, none⟩ = some (.int .i64 0) := HA5.out.bz.cell 0 _ rfl
        have y0 := HA5.out.bz.free 0
        have z1 : w5.cell? ⟨p + 1 + 1, 1, none⟩ = some (.int .i64 0) := HA5.out.bz.cell 1 _ rfl
        have y1 := HA5.out.bz.free 1
        have z2 : w5.cell? ⟨p + 1 + 1, 2, none⟩ = some (.slice none 0 0) := HA5.out.bz.cell 2 _ rfl
        have y2 := HA5.out.bz.free 2
        have hfl := HA5.out.fill c b (.slice va (withoutM (fun s => s.birth == e.birth) l).length vc)
        have hoB := (HO5.out.mod hfl.2.2 (fun k hk e => by have := (HO5.out.lt k hk).1; omega)).base (base' := w.heap.size) (by have := HA5.out.e0; omega)
        have HF := Lib.hid (And.intro hfl.1 (And.intro hoB hfl.2.1))
        clear hfl hoB HO5 HA5
        go_wp2_with fail
        exact ret_cell_tmp rfl rfl (p + 1 + 1) 0 rfl [.int .i64 c, .int .i64 b, .slice va (withoutM (fun s => s.birth == e.birth) l).length vc] _ (zrangeS HF.out.1) Tryz.underlying25 rfl (by kernel_rfl) _ rfl ⟨_, by rw [HD4.out]; rfl, by rw [HD4.out]; exact HF.out.2.1, HF.out.2.2⟩
  obtain ⟨ht1, ht2⟩ := mayE_ticks HMAY.out hk0 hk1
  have HD3 := Lib.hid ((HD2.out.trans (if_neg (fun h => by rw [h] at hk0; cases hk0))).trans (if_neg (fun h => by rw [h] at hk1; cases hk1)))
  clear HD2 HMAY HRE HCS HFI
  have c0 : w2.cell? ⟨p, 0, none⟩ = some (.int .i64 c) := HA2.out.bx.cell 0 _ rfl
  have c1 : w2.cell? ⟨p, 1, none⟩ = some (.int .i64 b) := HA2.out.bx.cell 1 _ rfl
  have c2 : w2.cell? ⟨p, 2, none⟩ = some (.slice a n cap) := HA2.out.bx.cell 2 _ rfl
  have e14 : w2.cell? ⟨p + 1, 14, none⟩ = some (.int .i64 e.ticks) := HA2.out.be.cell 14 _ rfl
  by_cases h1 : c < 0
  · have HD4 := Lib.hid (show D = (12, noSt) from HD3.out.trans (if_pos (.inl h1)))
    clear HD3
    have z0 : w2.cell? ⟨p + 1 + 1, 0, none⟩ = some (.int .i64 0) := HA2.out.bz.cell 0 _ rfl
    have y0 := HA2.out.bz.free 0
    have z1 : w2.cell? ⟨p + 1 + 1, 1, none⟩ = some (.int .i64 0) := HA2.out.bz.cell 1 _ rfl
    have y1 := HA2.out.bz.free 1
    have z2 : w2.cell? ⟨p + 1 + 1, 2, none⟩ = some (.slice none 0 0) := HA2.out.bz.cell 2 _ rfl
    have y2 := HA2.out.bz.free 2
    have HZ := Lib.hid (HA2.out.fill 0 0 (.slice none 0 0))
    clear HA2
    go_wp2_with fail
    exact ret_cell_tmp rfl rfl (p + 1 + 1) 0 rfl [.int .i64 0, .int .i64 0, .slice none 0 0] _ (zrangeS HZ.out.1) Tryz.underlying25 rfl (by kernel_rfl) _ rfl ⟨_, by rw [HD4.out]; rfl, by rw [HD4.out]; exact OwnS.nil _ _, HZ.out.2.1⟩
  by_cases h2 : 1099511627776 < c
  · have HD4 := Lib.hid (show D = (12, noSt) from HD3.out.trans (if_pos (.inr (by omega))))
    clear HD3
    have z0 : w2.cell? ⟨p + 1 + 1, 0, none⟩ = some (.int .i64 0) := HA2.out.bz.cell 0 _ rfl
    have y0 := HA2.out.bz.free 0
    have z1 : w2.cell? ⟨p + 1 + 1, 1, none⟩ = some (.int .i64 0) := HA2.out.bz.cell 1 _ rfl
    have y1 := HA2.out.bz.free 1
    have z2 : w2.cell? ⟨p + 1 + 1, 2, none⟩ = some (.slice none 0 0) := HA2.out.bz.cell 2 _ rfl
    have y2 := HA2.out.bz.free 2
    have HZ := Lib.hid (HA2.out.fill 0 0 (.slice none 0 0))
    clear HA2
    go_wp2_with fail
    exact ret_cell_tmp rfl rfl (p + 1 + 1) 0 rfl [.int .i64 0, .int .i64 0, .slice none 0 0] _ (zrangeS HZ.out.1) Tryz.underlying25 rfl (by kernel_rfl) _ rfl ⟨_, by rw [HD4.out]; rfl, by rw [HD4.out]; exact OwnS.nil _ _, HZ.out.2.1⟩
  obtain ⟨C, hC⟩ : ∃ C, C = c + e.ticks := ⟨_, rfl⟩
  have hz2 : IntKind.i64.wrap (c + e.ticks) = C := by rw [hC]; simp [IntKind.wrap, IntKind.bits, IntKind.signed]; omega
  have HC := Lib.hid hC
  have HZ2 := Lib.hid hz2
  clear hC
  by_cases h3 : 1099511627776 < C
  · have HD4 := Lib.hid (show D = (12, noSt) from HD3.out.trans (if_pos (.inr (by have := HC.out; omega))))
    clear HD3
    have z0 : w2.cell? ⟨p + 1 + 1, 0, none⟩ = some (.int .i64 0) := HA2.out.bz.cell 0 _ rfl
    have y0 := HA2.out.bz.free 0
    have z1 : w2.cell? ⟨p + 1 + 1, 1, none⟩ = some (.int .i64 0) := HA2.out.bz.cell 1 _ rfl
    have y1 := HA2.out.bz.free 1
    have z2 : w2.cell? ⟨p + 1 + 1, 2, none⟩ = some (.slice none 0 0) := HA2.out.bz.cell 2 _ rfl
    have y2 := HA2.out.bz.free 2
    have HZ := Lib.hid (HA2.out.fill 0 0 (.slice none 0 0))
    clear HA2
    go_wp2_with fail
    exact ret_cell_tmp rfl rfl (p + 1 + 1) 0 rfl [.int .i64 0, .int .i64 0, .slice none 0 0] _ (zrangeS HZ.out.1) Tryz.underlying25 rfl (by kernel_rfl) _ rfl ⟨_, by rw [HD4.out]; rfl, by rw [HD4.out]; exact OwnS.nil _ _, HZ.out.2.1⟩
  have HD4 := Lib.hid (show D = (0, ⟨C, b, withoutM (fun s => decide (s.deadline ≤ C)) l⟩) by
    rw [HC.out]; exact HD3.out.trans (if_neg (fun h => by have := HC.out; omega)))
  clear HD3 ht1 ht2
  have HP3 := Lib.hid (show p + 3 ≤ w2.heap.size from HA2.out.bz.lt)
  go_wp2_with fail
  clear hz2 h3 h1 h2 e14 c0 c1 c2 k0 hk0 hk1
  go_loopg [6, 12] n (fun gk ov iv wr => ∃ (k : Nat) (gl : List Bool), gk + k = n ∧ iv = .int .i64 (k : Int) ∧ ((l.take k).map (fun s => decide (s.deadline ≤ C)) = gl ∧ gl.length = k ∧ (k = 0 → ov = .slice none 0 0)) ∧ OwnB wr (p + 3) ov gl ∧ Mod (fun i => p + 3 ≤ i) w2 wr)
  case atStart => exact ⟨0, [], Nat.add_zero _, rfl, ⟨rfl, rfl, fun _ => rfl⟩, OwnB.nil _ _, Mod.refl _ _⟩
  case round =>
    obtain ⟨k, gl, hgk, rfl, hgl, hown, hmr⟩ := hrel
    have HGL := Lib.hid hgl
    have k0 : (0 : Int) ≤ (k : Int) := by omega
    have HGK := Lib.hid hgk
    have HAK := Lib.hid (HA2.out.mod3 hmr HV0.out)
    have HMR := Lib.hid hmr
    have HO := Lib.hid hown
    have HPR := Lib.hid (show p + 3 ≤ wr.heap.size from HAK.out.bz.lt)
    have c2 : wr.cell? ⟨p, 2, none⟩ = some (.slice a n cap) := HAK.out.bx.cell 2 _ rfl
    clear hgk hmr hown hgl
    by_cases hk : k < n
    · have k1 : (k : Int) < (n : Int) := by omega
      have hkl : k < l.length := by have := HN.out; omega
      obtain ⟨s, hs⟩ : ∃ s, s = l[k] := ⟨_, rfl⟩
      obtain ⟨rb, ro, hra, hrow0⟩ := HV0.out.row k hkl
      subst hra
      rw [← hs] at hrow0
      have hrp : rb < p := by rw [HP.out]; exact World.block_lt_of_cell? w _ (hrow0 0 _ rfl)
      have HTM := Lib.hid (show (l.take (k + 1)).map (fun s => decide (s.deadline ≤ C)) = gl ++ [(fun s => decide (s.deadline ≤ C)) s] by rw [hs, ← HGL.out.1]; exact take_map hkl)
      have HR := Lib.hid (And.intro (below_heap HAK.out.self (hrow0 10 _ rfl)) hrp)
      have HC2 := Lib.hid c2
      have HE8 := Lib.hid (show wr.cell? ⟨p, 0, none⟩ = some (.int .i64 c) from HAK.out.bx.cell 0 _ rfl)
      have HE10 := Lib.hid (show wr.cell? ⟨p + 1, 14, none⟩ = some (.int .i64 e.ticks) from HAK.out.be.cell 14 _ rfl)
      have HK := Lib.hid hk
      have HLK := Lib.hid (show gl.length + 1 ≤ 1256584717458 by have := HNN.out; have := HGL.out.2.1; omega)
      obtain ⟨ga, gc, rfl, _⟩ := HO.out.slice
      clear hrow0 hrp hs hk hkl
      go_wp2_with fail
      clear c2
      refine wp_region_held_drew (S := fun W => Mod (fun i => p + 3 ≤ i) wr W) (by kernel_rfl) (Mod.drew _ wr) (fun hHeld => ?_)
      refine wpAnyH_take (i := 0) (oi := ⟨some 102, _, _, _, _, _⟩) (v := ?_) rfl (by kernel_rfl) (by kernel_rfl) (by kernel_rfl) (fun _ _ _ h => h) (Or.inl ⟨by kernel_rfl, ?_⟩) (by assumption) ?_
      rotate_left 1
      · intro w' hw'; clear hw'; go_simp; try with_reducible rfl
      try simp only [Act.put, List.setIfInBounds_toArray, List.set_cons_zero, List.set_cons_succ]
      refine wpAnyH_take (i := 1) (oi := ⟨some 103, _, _, _, _, _⟩) (v := ?_) rfl (by kernel_rfl) (by kernel_rfl) (by kernel_rfl) (fun _ _ _ h => h) (Or.inl ⟨by kernel_rfl, ?_⟩) (by assumption) ?_
      rotate_left 1
      · intro w' hw'; clear hw'; go_simp; try with_reducible rfl
      try simp only [Act.put, List.setIfInBounds_toArray, List.set_cons_zero, List.set_cons_succ]
      refine wpAnyH_take (i := 2) (oi := ⟨some 104, _, _, _, _, _⟩) (v := ?_) rfl (by kernel_rfl) (by kernel_rfl) (by kernel_rfl) (fun _ _ _ h => h) (Or.inl ⟨by kernel_rfl, ?_⟩) (by assumption) ?_
      rotate_left 1
      · intro w' hw'; have u1 := modCell hw' HC2.out (fun h => by have h3 : p + 3 ≤ p := h; omega); clear hw'; go_simp; try with_reducible rfl
      try simp only [Act.put, List.setIfInBounds_toArray, List.set_cons_zero, List.set_cons_succ]
      refine wpAnyH_take (i := 3) (oi := ⟨some 105, _, _, _, _, _⟩) (v := ?_) rfl (by kernel_rfl) (by kernel_rfl) (by kernel_rfl) (fun _ _ _ h => h) (Or.inl ⟨by kernel_rfl, ?_⟩) (by assumption) ?_
      rotate_left 1
      · intro w' hw'; clear hw'; go_simp; try with_reducible rfl
      try simp only [Act.put, List.setIfInBounds_toArray, List.set_cons_zero, List.set_cons_succ]
      refine wpAnyH_take (i := 4) (oi := ⟨some 106, _, _, _, _, _⟩) (v := ?_) rfl (by kernel_rfl) (by kernel_rfl) (by kernel_rfl) (fun _ _ _ h => h) (Or.inl ⟨by kernel_rfl, ?_⟩) (by assumption) ?_
      rotate_left 1
      · intro w' hw'; clear hw'; go_simp; try with_reducible rfl
      try simp only [Act.put, List.setIfInBounds_toArray, List.set_cons_zero, List.set_cons_succ]
      refine wpAnyH_take (i := 5) (oi := ⟨some 107, _, _, _, _, _⟩) (v := ?_) rfl (by kernel_rfl) (by kernel_rfl) (by kernel_rfl) (fun _ _ _ h => h) (Or.inl ⟨by kernel_rfl, ?_⟩) (by assumption) ?_
      rotate_left 1
      · intro w' hw'; clear hw'; go_simp; try with_reducible rfl
      try simp only [Act.put, List.setIfInBounds_toArray, List.set_cons_zero, List.set_cons_succ]
      refine wpAnyH_take (i := 6) (oi := ⟨some 108, _, _, _, _, _⟩) (v := ?_) rfl (by kernel_rfl) (by kernel_rfl) (by kernel_rfl) (fun _ _ _ h => h) (Or.inl ⟨by kernel_rfl, ?_⟩) (by assumption) ?_
      rotate_left 1
      · intro w' hw'; have u1 := modCell hw' HR.out.1 (fun h => by have h3 : p + 3 ≤ rb := h; have := HR.out.2; omega); clear hw'; go_simp; try with_reducible rfl
      try simp only [Act.put, List.setIfInBounds_toArray, List.set_cons_zero, List.set_cons_succ]
      refine wpAnyH_take (i := 7) (oi := ⟨some 109, _, _, _, _, _⟩) (v := ?_) rfl (by kernel_rfl) (by kernel_rfl) (by kernel_rfl) (fun _ _ _ h => h) (Or.inl ⟨by kernel_rfl, ?_⟩) (by assumption) ?_
      rotate_left 1
      · intro w' hw'; clear hw'; go_simp; try with_reducible rfl
      try simp only [Act.put, List.setIfInBounds_toArray, List.set_cons_zero, List.set_cons_succ]
      refine wpAnyH_take (i := 8) (oi := ⟨some 110, _, _, _, _, _⟩) (v := ?_) rfl (by kernel_rfl) (by kernel_rfl) (by kernel_rfl) (fun _ _ _ h => h) (Or.inl ⟨by kernel_rfl, ?_⟩) (by assumption) ?_
      rotate_left 1
      · intro w' hw'; have u1 := modCell hw' HE8.out (fun h => by have h3 : p + 3 ≤ p + 0 := h; omega); clear hw'; go_simp; try with_reducible rfl
      try simp only [Act.put, List.setIfInBounds_toArray, List.set_cons_zero, List.set_cons_succ]
      refine wpAnyH_take (i := 9) (oi := ⟨some 111, _, _, _, _, _⟩) (v := ?_) rfl (by kernel_rfl) (by kernel_rfl) (by kernel_rfl) (fun _ _ _ h => h) (Or.inl ⟨by kernel_rfl, ?_⟩) (by assumption) ?_
      rotate_left 1
      · intro w' hw'; clear hw'; go_simp; try with_reducible rfl
      try simp only [Act.put, List.setIfInBounds_toArray, List.set_cons_zero, List.set_cons_succ]
      refine wpAnyH_take (i := 10) (oi := ⟨some 112, _, _, _, _, _⟩) (v := ?_) rfl (by kernel_rfl) (by kernel_rfl) (by kernel_rfl) (fun _ _ _ h => h) (Or.inl ⟨by kernel_rfl, ?_⟩) (by assumption) ?_
      rotate_left 1
      · intro w' hw'; have u1 := modCell hw' HE10.out (fun h => by have h3 : p + 3 ≤ p + 1 := h; omega); clear hw'; go_simp; try with_reducible rfl
      try simp only [Act.put, List.setIfInBounds_toArray, List.set_cons_zero, List.set_cons_succ]
      refine wpAnyH_take (i := 11) (oi := ⟨some 113, _, _, _, _, _⟩) (v := ?_) rfl (by kernel_rfl) (by kernel_rfl) (by kernel_rfl) (fun _ _ _ h => h) (Or.inl ⟨by kernel_rfl, ?_⟩) (by assumption) ?_
      rotate_left 1
      · intro w' hw'; have u1 := HZ2.out; clear hw'; go_simp; try with_reducible rfl
      try simp only [Act.put, List.setIfInBounds_toArray, List.set_cons_zero, List.set_cons_succ]
      refine wpAnyH_take (i := 12) (oi := ⟨some 114, _, _, _, _, _⟩) (v := ?_) rfl (by kernel_rfl) (by kernel_rfl) (by kernel_rfl) (fun _ _ _ h => h) (Or.inl ⟨by kernel_rfl, ?_⟩) (by assumption) ?_
      rotate_left 1
      · intro w' hw'; clear hw'; go_simp; try with_reducible rfl
      try simp only [Act.put, List.setIfInBounds_toArray, List.set_cons_zero, List.set_cons_succ]
      refine wpAnyH_ready (rs := [13]) (by kernel_rfl) (by simp) (AllReadyH.cons (o := ⟨some 115, .buildSlice _ 1 _, _, _, _, _⟩) rfl (fun K hK => ?_) AllReadyH.nil)
      go_simp
      have hbA := (below_alloc wr (.cells #[.bool (decide (s.deadline ≤ C))] 4)).trans ((below_drew (wr.alloc (.cells #[.bool (decide (s.deadline ≤ C))] 4))).mono (below_alloc wr _).size)
      refine hK.out _ _ (Mod.of_below hbA) (fun hHeld2 => ?_)
      have HO2 := Lib.hid (HO.out.below hbA)
      have HCQ := Lib.hid (show (wr.alloc (.cells #[.bool (decide (s.deadline ≤ C))] 4)).drew.cell? ⟨wr.heap.size, 0, none⟩ = some (.bool (decide (s.deadline ≤ C))) from (Box.new wr #[.bool (decide (s.deadline ≤ C))] 4).cell 0 _ rfl)
      have HP4 := Lib.hid (Nat.le_trans HPR.out hHeld2.size)
      clear hK K hHeld hbA
      try simp only [Act.put, List.setIfInBounds_toArray, List.set_cons_zero, List.set_cons_succ]
      refine wpAnyH_ready (rs := [14]) (by kernel_rfl) (by simp) (AllReadyH.cons (o := ⟨some 116, .call _, _, _, _, _⟩) rfl (fun K hK => ?_) AllReadyH.nil)
      rw [if_pos (by kernel_rfl)]
      refine wp_appB (.tmp 102) (.tmp 115) rfl (p + 3) _ _ rfl HO2.out wr.heap.size 1 (decide (s.deadline ≤ C)) rfl HCQ.out HLK.out HP4.out ?_
      intro v' w7 hown' hg'
      have hm7 := hHeld2.trans (mod_of_grown hg' (fun k hk => (HO2.out.lt k hk).1) HP4.out)
      refine hK.out _ _ hm7 (fun hHeld4 => ?_)
      have HO7 := Lib.hid hown'
      have HM7 := Lib.hid (HMR.out.trans hm7)
      obtain ⟨ga2, gc2, hve, _⟩ := hown'.slice
      rw [List.length_append, List.length_singleton] at hve
      subst hve
      clear hK K hown' hg' hm7 HO2 HCQ hHeld2
      try simp only [Act.put, List.setIfInBounds_toArray, List.set_cons_zero, List.set_cons_succ]
      refine wpAnyH_take (i := 15) (oi := ⟨some 6, _, _, _, _, _⟩) (v := ?_) rfl (by kernel_rfl) (by kernel_rfl) (by kernel_rfl) (fun _ _ _ h => h) (Or.inl ⟨by kernel_rfl, ?_⟩) (by assumption) ?_
      rotate_left 1
      · intro w' hw'; clear hw'; go_simp; try with_reducible rfl
      try simp only [Act.put, List.setIfInBounds_toArray, List.set_cons_zero, List.set_cons_succ]
      refine wpAnyH_done (by kernel_rfl) ?_ _
      clear hHeld4 HAK HMR HO HR HC2 HP4
      go_wp2_with fail
      go_roundg (n - (k + 1))
      case measure => have := HGK.out; have := HK.out; omega
      case rel => exact ⟨k + 1, _, by have := HGK.out; have := HK.out; omega, by go_num, ⟨HTM.out, by rw [List.length_append, List.length_singleton, HGL.out.2.1], fun h => by cases h⟩, HO7.out, HM7.out⟩
    · have k1 : ¬ (k : Int) < (n : Int) := by omega
      have HGE := Lib.hid (show gl = l.map (fun s => decide (s.deadline ≤ C)) by
        have h := HGL.out.1
        rw [List.take_of_length_le (by have := HN.out; omega)] at h
        exact h.symm)
      have HOE := Lib.hid HO.out
      have c0 : wr.cell? ⟨p, 0, none⟩ = some (.int .i64 c) := HAK.out.bx.cell 0 _ rfl
      have c1 : wr.cell? ⟨p, 1, none⟩ = some (.int .i64 b) := HAK.out.bx.cell 1 _ rfl
      have HAP := Lib.hid (show ∀ k, (Value.slice a n cap).ownBlock = some k → (u6 : Value).ownBlock ≠ some k from fun k1 hk1 hk2 => by
        have h3 := (HOE.out.lt k1 hk2).1
        by_cases h0 : 0 < l.length
        · obtain ⟨rb, ro, hra, hrow0⟩ := HV0.out.row 0 h0
          have hrp : rb < p := by rw [HP.out]; exact World.block_lt_of_cell? w _ (hrow0 0 _ rfl)
          rw [hra] at hk1
          have e : rb = k1 := by injection hk1
          omega
        · rw [HGL.out.2.2 (by have := HN.out; have := HGK.out; omega)] at hk2
          cases hk2)
      obtain ⟨ga, gc, rfl, _⟩ := HOE.out.slice
      have HWC := Lib.hid (HWO.out (fun s => decide (s.deadline ≤ C)) (.slice a n cap) _ _ (p + 3) wr HAK.out.rs HOE.out (by rw [HGE.out]; exact winv_map) HAP.out)
      clear hk HGK HMR HO HPR HGL
      go_wp2_with fail
      refine HWC.out.mono ?_
      rintro ev w5 ⟨o, rfl, ho, hm5⟩
      have hm53 : Mod (fun i => p + 3 ≤ i) wr w5 := hm5.mono (fun i hi => by
        rcases hi with h | h
        · have := HAK.out.bz.lt; omega
        · exact (HOE.out.lt i h).1)
      have HA5 := Lib.hid (HAK.out.mod3 hm53 HV0.out)
      obtain ⟨va, vc, rfl, _⟩ := ho.slice
      have HO5 := Lib.hid (ho.base (base' := p + 3) (show p + 3 ≤ wr.heap.size from HAK.out.bz.lt))
      clear ho hm5 hm53 HWC HAK c0 c1 c2 HOE HAP HGE
      obtain ⟨L, hL⟩ : ∃ L, L = (withoutM (fun s => decide (s.deadline ≤ C)) l).length := ⟨_, rfl⟩
      rw [← hL] at HO5 ⊢
      have hbo := Box.new w5 #[.int .i64 c, .int .i64 b, .slice va L vc] 25
      have hal := below_alloc w5 (.cells #[.int .i64 c, .int .i64 b, .slice va L vc] 25)
      have hal6 := below_alloc w5 (.cells #[.int .i64 C, .int .i64 b, .slice va L vc] 25)
      have c0 : (w5.alloc (.cells #[.int .i64 c, .int .i64 b, .slice va L vc] 25)).cell? ⟨p, 0, none⟩ = some (.int .i64 c) := (HA5.out.below hal).bx.cell 0 _ rfl
      have e14 : (w5.alloc (.cells #[.int .i64 c, .int .i64 b, .slice va L vc] 25)).cell? ⟨p + 1, 14, none⟩ = some (.int .i64 e.ticks) := (HA5.out.below hal).be.cell 14 _ rfl
      have q0 : (w5.alloc (.cells #[.int .i64 c, .int .i64 b, .slice va L vc] 25)).cell? ⟨w5.heap.size, 0, none⟩ = some (.int .i64 c) := hbo.cell 0 _ rfl
      have f0 := hbo.free 0
      have hX := Box.new w5 #[.int .i64 C, .int .i64 b, .slice va L vc] 25
      have HA6 := Lib.hid (HA5.out.below hal6)
      have HO6 := Lib.hid (HO5.out.below hal6)
      have x0 : (w5.alloc (.cells #[.int .i64 C, .int .i64 b, .slice va L vc] 25)).cell? ⟨w5.heap.size, 0, none⟩ = some (.int .i64 C) := hX.cell 0 _ rfl
      have x1 : (w5.alloc (.cells #[.int .i64 C, .int .i64 b, .slice va L vc] 25)).cell? ⟨w5.heap.size, 1, none⟩ = some (.int .i64 b) := hX.cell 1 _ rfl
      have x2 : (w5.alloc (.cells #[.int .i64 C, .int .i64 b, .slice va L vc] 25)).cell? ⟨w5.heap.size, 2, none⟩ = some (.slice va L vc) := hX.cell 2 _ rfl
      have z0 : (w5.alloc (.cells #[.int .i64 C, .int .i64 b, .slice va L vc] 25)).cell? ⟨p + 1 + 1, 0, none⟩ = some (.int .i64 0) := HA6.out.bz.cell 0 _ rfl
      have y0 := HA6.out.bz.free 0
      have z1 : (w5.alloc (.cells #[.int .i64 C, .int .i64 b, .slice va L vc] 25)).cell? ⟨p + 1 + 1, 1, none⟩ = some (.int .i64 0) := HA6.out.bz.cell 1 _ rfl
      have y1 := HA6.out.bz.free 1
      have z2 : (w5.alloc (.cells #[.int .i64 C, .int .i64 b, .slice va L vc] 25)).cell? ⟨p + 1 + 1, 2, none⟩ = some (.slice none 0 0) := HA6.out.bz.cell 2 _ rfl
      have y2 := HA6.out.bz.free 2
      have hz2 := HZ2.out
      have hfl := HA6.out.fill C b (.slice va L vc)
      have hoB := (HO6.out.mod hfl.2.2 (fun k hk e => by have := (HO6.out.lt k hk).1; omega)).base (base' := w.heap.size) (by have := HA6.out.e0; omega)
      have HF := Lib.hid (And.intro hfl.1 (And.intro hoB hfl.2.1))
      have HL := Lib.hid hL
      clear hfl hoB HO5 HA5 HO6 HA6 hbo hal hal6 hX hL
      go_wp2_with fail
      exact ret_cell_tmp rfl rfl (p + 1 + 1) 0 rfl [.int .i64 C, .int .i64 b, .slice va L vc] _ (zrangeS HF.out.1) Tryz.underlying25 rfl (by kernel_rfl) _ rfl ⟨_, by rw [HD4.out]; rfl, by rw [HD4.out]; exact HF.out.2.1, HF.out.2.2⟩
end Go.Proofs.YthnabnieajojjaaGreatDoor
