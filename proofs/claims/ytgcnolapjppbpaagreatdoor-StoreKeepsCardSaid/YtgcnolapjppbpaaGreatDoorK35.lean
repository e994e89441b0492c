/-
  Texts of one proof, one behind the other.
-/
import Derived.Test.YtgcnolapjppbpaaGreatDoorK32
import Derived.Test.YtgcnolapjppbpaaGreatDoorK33
import Derived.Test.YtgcnolapjppbpaaGreatDoorK34
namespace Go.Proofs.YtgcnolapjppbpaaGreatDoor
open Go.RowKit
set_option maxRecDepth 100000
theorem Mod.set3 (b : Nat) (w : World) (x y z : Value) : Mod (fun i => i = b) w (((w.setCell ⟨b, 0, none⟩ x).setCell ⟨b, 1, none⟩ y).setCell ⟨b, 2, none⟩ z) :=
  ((Mod.set (fun i => i = b) w ⟨b, 0, none⟩ x rfl).trans (Mod.set (fun i => i = b) _ ⟨b, 1, none⟩ y rfl)).trans (Mod.set (fun i => i = b) _ ⟨b, 2, none⟩ z rfl)
theorem errV_nz {n : Int} (h : n ≠ 0) : errV n = .iface 91 (.int .i64 n) := by unfold errV; rw [if_neg h]
theorem EvtM.cellsE (e : EvtM) : e.cells = #[.int .i64 e.kind, .int .i64 e.s.slot, .int .i64 e.s.birth, .int .i64 e.s.upS, .int .i64 e.s.upB, .int .i64 e.s.kind, .string (SB e.s.user), .string (SB e.s.label), .int .u64 (e.s.scopes : Int), .int .i64 e.s.level, .int .i64 e.s.born, .int .i64 e.s.deadline, .int .i64 e.s.depth, .int .i64 e.birth, .int .i64 e.ticks] := rfl
theorem Box.rangeV {w : World} {b : Nat} {e : EvtM} {t : TypeId} (h : Box w b e.cells t) : w.rangeAt b 0 e.cells.toList := h.range 0 _ (fun j v hv => by rw [Nat.zero_add]; simpa using hv)
theorem Box.rangeB {w : World} {b : Nat} {e : EvtM} {t : TypeId} (h : Box w b e.cells t) : w.rangeAt b 1 e.s.cells.toList := h.range 1 _ (fun j v hv => by
  have hj : j < 12 := (List.getElem?_eq_some_iff.1 hv).1
  have h1 : e.cells.toList[1 + j]? = e.s.cells.toList[j]? := by
    rcases j with _ | _ | _ | _ | _ | _ | _ | _ | _ | _ | _ | _ | j
    all_goals first | rfl | omega
  rw [← Array.getElem?_toList, h1]; exact hv)
structure ApS (w0 w : World) (p : Nat) (c b : Int) (v : Value) (e : EvtM) (l : List SesM) : Prop where
  bx : Box w p #[.int .i64 c, .int .i64 b, v] 30
  be : Box w (p + 1) e.cells 47
  bz : Box w (p + 1 + 1) #[.int .i64 0, .int .i64 0, .slice none 0 0] 30
  rs : RdS w v l
  bel : Below p w0 w
  e0 : p = w0.heap.size
theorem ApS.below {w0 w w' : World} {p : Nat} {c b : Int} {v : Value} {e : EvtM} {l : List SesM} (h : ApS w0 w p c b v e l) (hb : Below w.heap.size w w') : ApS w0 w' p c b v e l :=
  ⟨h.bx.below hb, h.be.below hb, h.bz.below hb, h.rs.below hb, h.bel.trans (hb.mono (by have := h.bx.lt; omega)), h.e0⟩
theorem ApS.self {w0 w : World} {p : Nat} {c b : Int} {v : Value} {e : EvtM} {l : List SesM} (h : ApS w0 w p c b v e l) : Below w0.heap.size w0 w := by have := h.bel; rwa [h.e0] at this
theorem ApS.fill {w0 w : World} {p : Nat} {c b : Int} {v : Value} {e : EvtM} {l : List SesM} (h : ApS w0 w p c b v e l) (c' b' : Int) (x : Value) :
    Box (((w.setCell ⟨p + 1 + 1, 0, none⟩ (.int .i64 c')).setCell ⟨p + 1 + 1, 1, none⟩ (.int .i64 b')).setCell ⟨p + 1 + 1, 2, none⟩ x) (p + 1 + 1) #[.int .i64 c', .int .i64 b', x] 30 ∧ Below w0.heap.size w0 (((w.setCell ⟨p + 1 + 1, 0, none⟩ (.int .i64 c')).setCell ⟨p + 1 + 1, 1, none⟩ (.int .i64 b')).setCell ⟨p + 1 + 1, 2, none⟩ x) ∧
    Mod (fun i => i = p + 1 + 1) w (((w.setCell ⟨p + 1 + 1, 0, none⟩ (.int .i64 c')).setCell ⟨p + 1 + 1, 1, none⟩ (.int .i64 b')).setCell ⟨p + 1 + 1, 2, none⟩ x) := by
  have hm : Mod (fun i => i = p + 1 + 1) w (((w.setCell ⟨p + 1 + 1, 0, none⟩ (.int .i64 c')).setCell ⟨p + 1 + 1, 1, none⟩ (.int .i64 b')).setCell ⟨p + 1 + 1, 2, none⟩ x) := Mod.set3 _ _ _ _ _
  exact ⟨((h.bz.set 0 (.int .i64 c')).set 1 (.int .i64 b')).set 2 x, h.self.trans (hm.below h.self.size (fun i hi => by have := h.e0; omega)), hm⟩
theorem zrangeS {w : World} {b : Nat} {c d : Int} {x : Value} {t : TypeId} (h : Box w b #[.int .i64 c, .int .i64 d, x] t) : w.rangeAt b 0 [.int .i64 c, .int .i64 d, x] := h.range 0 _ (fun j v hv => by rw [Nat.zero_add]; simpa using hv)
theorem test1 (eb : Nat) (b : Int) (w : World) (hc : w.cell? ⟨eb, 13, none⟩ = some (.int .i64 b)) : TestF 61 ⟨eb, 0, none⟩ (fun s => s.birth == b) w :=
  ⟨fun _ _ => by kernel_rfl, fun s w' hb => apply1_calls s eb b w' (below_heap hb hc)⟩
theorem test2 (eb : Nat) (b : Int) (w : World) (hc : w.cell? ⟨eb, 13, none⟩ = some (.int .i64 b)) : TestF 63 ⟨eb, 0, none⟩ (fun s => s.birth == b) w :=
  ⟨fun _ _ => by kernel_rfl, fun s w' hb => apply2_calls s eb b w' (below_heap hb hc)⟩
theorem test3 (eb : Nat) (b : Int) (w : World) (hc : w.cell? ⟨eb, 0, none⟩ = some (.int .i64 b)) : TestF 64 ⟨eb, 0, none⟩ (fun s => decide (s.deadline ≤ b)) w :=
  ⟨fun _ _ => by kernel_rfl, fun s w' hb => apply3_calls s eb b w' (below_heap hb hc)⟩
set_option maxHeartbeats 12800000 in
theorem apply_calls (st : StM) (e : EvtM) (v : Value) (w : World) (hv : RdS w v st.l) (hn : st.l.length ≤ 1000000000) (hu : e.s.user.length ≤ 9223372036854775807) (hl : e.s.label.length ≤ 9223372036854775807) (hsc : e.s.scopes < 2 ^ 64) :
    Calls Tryz.prog 37 #[.agg #[.int .i64 st.clock, .int .i64 st.births, v], .agg e.cells] w fun ev w' => ∃ o, ev = .returned (.tuple #[.agg #[.int .i64 (applyM st e).2.clock, .int .i64 (applyM st e).2.births, o], errV (applyM st e).1]) ∧ OwnS w' w.heap.size o (applyM st e).2.l ∧ Below w.heap.size w w' := by
  have Hen := Lib.hid (fun w => enc_calls e w hu hl hsc)
  obtain ⟨D, hD⟩ : ∃ D, D = applyM st e := ⟨_, rfl⟩
  rw [← hD]
  unfold applyM at hD
  have HRE := Lib.hid (fun v' w' h => refused_calls st e.s v' w' h)
  have HNN := Lib.hid hn
  obtain ⟨c, b, l⟩ := st
  simp only at hv hD HRE HNN ⊢
  have HV0 := Lib.hid hv
  obtain ⟨a, cap, rfl, hc1, hc2⟩ := hv.slice
  have hln : l.length ≤ 9223372036854775807 := by omega
  have HD := Lib.hid hD
  clear hD hc1 hn hu hl hsc
  have HEC := Lib.hid e.cellsE
  have hap : ApS w (((w.alloc (.cells #[.int .i64 c, .int .i64 b, .slice a l.length cap] 30)).alloc (.cells e.cells 47)).alloc (.cells #[.int .i64 0, .int .i64 0, .slice none 0 0] 30)) w.heap.size c b (.slice a l.length cap) e l := by
    have h1 := Box.new w #[.int .i64 c, .int .i64 b, .slice a l.length cap] 30
    have h2 := Box.new (w.alloc (.cells #[.int .i64 c, .int .i64 b, .slice a l.length cap] 30)) e.cells 47
    have h3 := Box.new ((w.alloc (.cells #[.int .i64 c, .int .i64 b, .slice a l.length cap] 30)).alloc (.cells e.cells 47)) #[.int .i64 0, .int .i64 0, .slice none 0 0] 30
    rw [World.size_alloc] at h2
    rw [World.size_alloc, World.size_alloc] at h3
    have hb3 := (below_two w (.cells #[.int .i64 c, .int .i64 b, .slice a l.length cap] 30) (.cells e.cells 47)).trans ((below_alloc ((w.alloc (.cells #[.int .i64 c, .int .i64 b, .slice a l.length cap] 30)).alloc (.cells e.cells 47)) (.cells #[.int .i64 0, .int .i64 0, .slice none 0 0] 30)).mono (below_two w _ _).size)
    exact ⟨(h1.below (below_alloc _ _)).below (below_alloc _ _), h2.below (below_alloc _ _), h3, hv.below hb3, hb3, rfl⟩
  obtain ⟨n, hN⟩ : ∃ n, n = l.length := ⟨_, rfl⟩
  rw [← hN] at hln hap HV0 ⊢
  have HN := Lib.hid hN
  have HRG := Lib.hid hap.be.rangeV
  have HAP := Lib.hid hap
  clear hv hN hap
  rw [HEC.out]
  rw [show (((w.alloc (.cells #[.int .i64 c, .int .i64 b, .slice a n cap] 30)).alloc (.cells e.cells 47)).alloc (.cells #[.int .i64 0, .int .i64 0, .slice none 0 0] 30)) = ((w.alloc (.cells #[.int .i64 c, .int .i64 b, .slice a n cap] 30)).alloc (.cells #[.int .i64 e.kind, .int .i64 e.s.slot, .int .i64 e.s.birth, .int .i64 e.s.upS, .int .i64 e.s.upB, .int .i64 e.s.kind, .string (SB e.s.user), .string (SB e.s.label), .int .u64 (e.s.scopes : Int), .int .i64 e.s.level, .int .i64 e.s.born, .int .i64 e.s.deadline, .int .i64 e.s.depth, .int .i64 e.birth, .int .i64 e.ticks] 47)).alloc (.cells #[.int .i64 0, .int .i64 0, .slice none 0 0] 30) from rfl] at HAP HRG
  go_enter Tryz.func37, Tryz.ntmps37
  go_wp2_with ((with_reducible refine wpList_load_k ?L1a 47 (.tmp 3) ?L1b (w.heap.size + 1) (0) ?L1c e.cells.toList _ HRG.out Tryz.underlying47 ?L1d ?L1e ?L1f); (case L1b => rfl); (case L1a => rfl); (case L1c => rfl); (case L1d => rfl); (case L1e => kernel_rfl))
  intro cv hcv
  have ecv : cv = e.cells := by rw [hcv.out]
  subst ecv
  clear hcv HRG HEC
  generalize hw1 : World.alloc _ _ = w1 at HAP ⊢
  clear hw1
  obtain ⟨p, hp⟩ : ∃ p, p = w.heap.size := ⟨_, rfl⟩
  rw [← hp] at HAP ⊢
  have HP := Lib.hid hp
  clear hp
  go_wp2_with fail
  refine (Hen.out _).mono ?_
  rintro ev w2 ⟨o, rfl, ho, hb2⟩
  have HA2 := Lib.hid (HAP.out.below hb2)
  obtain ⟨oa, oc, rfl, _⟩ := ho.slice
  clear ho hb2 HAP Hen
  cases hmay : mayE e
  · have hn : encN e = 1 := by unfold encN; rw [hmay]; rfl
    have HD1 := Lib.hid (show D = (1, noSt) by rw [HD.out, hmay]; rfl)
    rw [hn, show errV 1 = .iface 91 (.int .i64 1) from rfl]
    clear hn HD hmay
    have z0 : w2.cell? ⟨p + 1 + 1, 0, none⟩ = some (.int .i64 0) := HA2.out.bz.cell 0 _ rfl
    have y0 := HA2.out.bz.free 0
    have z1 : w2.cell? ⟨p + 1 + 1, 1, none⟩ = some (.int .i64 0) := HA2.out.bz.cell 1 _ rfl
    have y1 := HA2.out.bz.free 1
    have z2 : w2.cell? ⟨p + 1 + 1, 2, none⟩ = some (.slice none 0 0) := HA2.out.bz.cell 2 _ rfl
    have y2 := HA2.out.bz.free 2
    have HZ := Lib.hid (HA2.out.fill 0 0 (.slice none 0 0))
    clear HA2
    go_wp2_with fail
    exact ret_cell_tmp rfl rfl (p + 1 + 1) 0 rfl [.int .i64 0, .int .i64 0, .slice none 0 0] _ (zrangeS HZ.out.1) Tryz.underlying30 rfl (by kernel_rfl) _ rfl ⟨_, by rw [HD1.out]; rfl, by rw [HD1.out]; exact OwnS.nil _ _, HZ.out.2.1⟩
  have hn : encN e = 0 := by unfold encN; rw [hmay]; rfl
  rw [hn, show errV 0 = .nilIface from rfl]
  have HD2 := Lib.hid (HD.out.trans (by rw [hmay, if_pos rfl]))
  have HMAY := Lib.hid hmay
  clear hn hmay HD
  have k0 : w2.cell? ⟨p + 1, 0, none⟩ = some (.int .i64 e.kind) := HA2.out.be.cell 0 _ rfl
  cases hk0 : (e.kind == 0)
  rotate_left
  · have HD3 := Lib.hid (HD2.out.trans (if_pos (beq_iff_eq.1 hk0)))
    clear HD2 HMAY
    have c0 : w2.cell? ⟨p, 0, none⟩ = some (.int .i64 c) := HA2.out.bx.cell 0 _ rfl
    have c1 : w2.cell? ⟨p, 1, none⟩ = some (.int .i64 b) := HA2.out.bx.cell 1 _ rfl
    have c2 : w2.cell? ⟨p, 2, none⟩ = some (.slice a n cap) := HA2.out.bx.cell 2 _ rfl
    have HRB := Lib.hid HA2.out.be.rangeB
    go_wp2_with ((with_reducible refine wpList_load_k ?L2a 45 (.tmp 23) ?L2b (p + 1) (1) ?L2c e.s.cells.toList _ HRB.out Tryz.underlying45 ?L2d ?L2e ?L2f); (case L2b => rfl); (case L2a => rfl); (case L2c => rfl); (case L2d => rfl); (case L2e => kernel_rfl))
    intro cv hcv
    have ecv : cv = e.s.cells := by rw [hcv.out]
    subst ecv
    clear hcv
    go_wp2_with fail
    refine (HRE.out _ _ HA2.out.rs).mono ?_
    rintro ev w3 ⟨rfl, hb3⟩
    have HA3 := Lib.hid (HA2.out.below hb3)
    clear hb3 HA2 HRB HRE c0 c1 c2 k0
    by_cases hr : refM ⟨c, b, l⟩ e.s = 0
    rotate_left
    · rw [errV_nz hr]
      have HR := Lib.hid hr
      have HD4 := Lib.hid (HD3.out.trans (if_neg hr))
      generalize refM ⟨c, b, l⟩ e.s = er at *
      clear hr HD3
      have z0 : w3.cell? ⟨p + 1 + 1, 0, none⟩ = some (.int .i64 0) := HA3.out.bz.cell 0 _ rfl
      have y0 := HA3.out.bz.free 0
      have z1 : w3.cell? ⟨p + 1 + 1, 1, none⟩ = some (.int .i64 0) := HA3.out.bz.cell 1 _ rfl
      have y1 := HA3.out.bz.free 1
      have z2 : w3.cell? ⟨p + 1 + 1, 2, none⟩ = some (.slice none 0 0) := HA3.out.bz.cell 2 _ rfl
      have y2 := HA3.out.bz.free 2
      have HZ := Lib.hid (HA3.out.fill 0 0 (.slice none 0 0))
      clear HA3
      go_wp2_with fail
      exact ret_cell_tmp rfl rfl (p + 1 + 1) 0 rfl [.int .i64 0, .int .i64 0, .slice none 0 0] _ (zrangeS HZ.out.1) Tryz.underlying30 rfl (by kernel_rfl) _ rfl ⟨_, by rw [HD4.out, errV_nz HR.out]; rfl, by rw [HD4.out]; exact OwnS.nil _ _, HZ.out.2.1⟩
    have HD4 := Lib.hid (HD3.out.trans (if_pos hr))
    obtain ⟨W, hW⟩ : ∃ W, IntKind.i64.wrap (b + 1) = W := ⟨_, rfl⟩
    rw [hW] at HD4
    rw [hr, show errV 0 = .nilIface from rfl]
    have HLL := Lib.hid (show l.length + 1 ≤ 1256584717458 by have := HNN.out; omega)
    clear hr HD3 hk0
    have c2 : w3.cell? ⟨p, 2, none⟩ = some (.slice a n cap) := HA3.out.bx.cell 2 _ rfl
    have c1 : w3.cell? ⟨p, 1, none⟩ = some (.int .i64 b) := HA3.out.bx.cell 1 _ rfl
    have f1 := HA3.out.bx.free 1
    have f2 := HA3.out.bx.free 2
    have HC := Lib.hid (And.intro c2 f2)
    have HRB := Lib.hid HA3.out.be.rangeB
    clear c1 f1 c2 f2
    go_wp2_with fail
    refine wp_region_last 8 (F := fun W => Below w3.heap.size w3 W) (by kernel_rfl) (below_drew w3) (fun hHeld => ?_)
    refine wpAnyL_take (i := 0) (oi := ⟨some 30, _, _, _, _, _⟩) (v := ?_) rfl (by kernel_rfl) (by kernel_rfl) (by kernel_rfl) (by kernel_rfl) (fun _ _ _ h => h) (Or.inl ⟨by kernel_rfl, ?_⟩) (by assumption) ?_
    rotate_left 1
    · intro w' hw'; clear hw'; go_simp; try with_reducible rfl
    try simp only [Act.put, List.setIfInBounds_toArray, List.set_cons_zero, List.set_cons_succ]
    refine wpAnyL_take (i := 1) (oi := ⟨some 31, _, _, _, _, _⟩) (v := ?_) rfl (by kernel_rfl) (by kernel_rfl) (by kernel_rfl) (by kernel_rfl) (fun _ _ _ h => h) (Or.inl ⟨by kernel_rfl, ?_⟩) (by assumption) ?_
    rotate_left 1
    · intro w' hw'; have q2 := below_heap hw' HC.out.1; clear hw'; go_simp; try with_reducible rfl
    try simp only [Act.put, List.setIfInBounds_toArray, List.set_cons_zero, List.set_cons_succ]
    refine wpAnyL_take (i := 3) (oi := ⟨some 33, _, _, _, _, _⟩) (v := ?_) rfl (by kernel_rfl) (by kernel_rfl) (by kernel_rfl) (by kernel_rfl) (fun _ _ _ h => h) (Or.inl ⟨by kernel_rfl, ?_⟩) (by assumption) ?_
    rotate_left 1
    · intro w' hw'; clear hw'; go_simp; try with_reducible rfl
    try simp only [Act.put, List.setIfInBounds_toArray, List.set_cons_zero, List.set_cons_succ]
    refine wpAnyL_take (i := 4) (oi := ⟨some 34, .load _ _, _, _, _, _⟩) (v := .agg e.s.cells) rfl (by kernel_rfl) (by kernel_rfl) (by kernel_rfl) (by kernel_rfl) (fun _ _ _ h => h) (Or.inl ⟨by kernel_rfl, fun w' hw' => exec_load_m 45 (.tmp 33) rfl (p + 1) (1) rfl (e.s.cells).toList _ (fun j v hv => below_heap hw' (HRB.out j v hv)) Tryz.underlying45 rfl (by kernel_rfl)⟩) (by assumption) ?_
    try simp only [Act.put, List.setIfInBounds_toArray, List.set_cons_zero, List.set_cons_succ]
    refine wpAnyL_ready (rs := [2, 5]) (by kernel_rfl) (by simp) (AllReadyL.cons (o := ⟨some 32, .call _, _, _, _, _⟩) rfl (fun K hK => ?_) (AllReadyL.cons (o := ⟨some 35, .buildSlice _ 1 _, _, _, _, _⟩) rfl (fun K hK => ?_) AllReadyL.nil))
    · go_simp
      refine (cloneS_calls (.slice a n cap) l _ (HA3.out.rs.below hHeld) (by have := HLL.out; omega)).mono ?_
      rintro ev w5 ⟨o, rfl, ho, hb5⟩
      refine hK.out _ _ (hHeld.trans (hb5.mono hHeld.size)) (fun hHeld2 => ?_)
      have HO5 := Lib.hid (ho.base (base' := w3.heap.size) hHeld.size)
      clear hK K ho hb5 hHeld
      try simp only [Act.put, List.setIfInBounds_toArray, List.set_cons_zero, List.set_cons_succ]
      refine wpAnyL_ready (rs := [5]) (by kernel_rfl) (by simp) (AllReadyL.cons (o := ⟨some 35, .buildSlice _ 1 _, _, _, _, _⟩) rfl (fun K hK => ?_) AllReadyL.nil)
      rw [if_pos (by kernel_rfl)]
      refine wp_buildSes (.tmp 34) rfl e.s rfl ?_
      refine hK.out _ _ (hHeld2.trans ((below_alloc w5 _).mono hHeld2.size)) (fun hHeld3 => ?_)
      have HO := Lib.hid (HO5.out.below (below_alloc w5 (.cells e.s.cells 45)))
      have HCQ := Lib.hid (newCells w5 e.s 45)
      clear hK K hHeld2 HO5
      try simp only [Act.put, List.setIfInBounds_toArray, List.set_cons_zero, List.set_cons_succ]
      generalize w5.alloc (.cells e.s.cells 45) = w6 at HO HCQ hHeld3 ⊢
      generalize w5.heap.size = nb at HCQ ⊢
      refine wpAnyL_ready (rs := [6]) (by kernel_rfl) (by simp) (AllReadyL.cons (o := ⟨some 36, .call _, _, _, _, _⟩) rfl (fun K hK => ?_) AllReadyL.nil)
      rw [if_pos (by kernel_rfl)]
      refine wp_appSes (.tmp 32) (.tmp 35) rfl w3.heap.size _ l rfl HO.out ⟨nb, 0, none⟩ 1 e.s rfl HCQ.out HLL.out hHeld3.size ?_
      intro v' w7 hown' hg' _
      obtain ⟨va, vc, hve, _⟩ := hown'.slice
      rw [List.length_append, List.length_singleton] at hve
      subst hve
      have hb7 := hHeld3.trans (below_grown hg' hHeld3.size (fun q hq => (HO.out.lt q hq).1))
      refine hK.out _ _ hb7 (fun hHeld4 => ?_)
      have HO7 := Lib.hid hown'
      clear hK K hown' hg' hb7 HO HCQ hHeld3
      try simp only [Act.put, List.setIfInBounds_toArray, List.set_cons_zero, List.set_cons_succ]
      refine wpAnyL_take (i := 7) (oi := ⟨some 37, _, _, _, _, _⟩) (v := ?_) rfl (by kernel_rfl) (by kernel_rfl) (by kernel_rfl) (by kernel_rfl) (fun _ _ _ h => h) (Or.inl ⟨by kernel_rfl, ?_⟩) (by assumption) ?_
      rotate_left 1
      · intro w' hw'; clear hw'; go_simp; try with_reducible rfl
      try simp only [Act.put, List.setIfInBounds_toArray, List.set_cons_zero, List.set_cons_succ]
      have q2 := below_heap hHeld4 HC.out.1
      have HA7 := Lib.hid (HA3.out.below hHeld4)
      have r2 := HA7.out.bx.free 2
      refine wpAnyL_ready (rs := [8]) (by kernel_rfl) (by simp) (AllReadyL.last rfl (o := ⟨none, .store _ _ _, _, _, _, _⟩) rfl (fun K hK => ?_))
      go_simp
      refine hK.out _ _ ?_
      clear hK K hHeld4 q2 r2
      try simp only [Act.put, List.setIfInBounds_toArray, List.set_cons_zero, List.set_cons_succ]
      refine wpAnyL_done (by kernel_rfl) ?_ _
      have HS3 := Lib.hid HA3.out.bx.lt
      have hpx : p + 1 + 1 < w3.heap.size := HA3.out.bz.lt
      have hms := Mod.set (fun i => i = p) w7 ⟨p, 2, none⟩ (.slice va (l.length + 1) vc) rfl
      have hb8 := (HA7.out.bx).set 2 (.slice va (l.length + 1) vc)
      have hz8 := HA7.out.bz.mod hms (by omega)
      have ho8 := HO7.out.mod hms (fun k hk e => by have := (HO7.out.lt k hk).1; omega)
      have hl8 := HA7.out.self.trans (hms.below HA7.out.self.size (fun i hi => by have := HA7.out.e0; omega))
      generalize World.setCell w7 _ _ = w8 at hms hb8 hz8 ho8 hl8 ⊢
      have s0 : w8.cell? ⟨p, 0, none⟩ = some (.int .i64 c) := hb8.cell 0 _ rfl
      have s1 : w8.cell? ⟨p, 1, none⟩ = some (.int .i64 b) := hb8.cell 1 _ rfl
      have s2 : w8.cell? ⟨p, 2, none⟩ = some (.slice va (l.length + 1) vc) := hb8.cell 2 _ rfl
      have t1 := hb8.free 1
      have z0 : w8.cell? ⟨p + 1 + 1, 0, none⟩ = some (.int .i64 0) := hz8.cell 0 _ rfl
      have z1 : w8.cell? ⟨p + 1 + 1, 1, none⟩ = some (.int .i64 0) := hz8.cell 1 _ rfl
      have z2 : w8.cell? ⟨p + 1 + 1, 2, none⟩ = some (.slice none 0 0) := hz8.cell 2 _ rfl
      have y0 := hz8.free 0
      have y1 := hz8.free 1
      have y2 := hz8.free 2
      have hm9 := Mod.set (fun i => i = p) w8 ⟨p, 1, none⟩ (.int .i64 W) rfl
      have hz9 := hz8.mod hm9 (by omega)
      have ho9 := ho8.mod hm9 (fun k hk e => by have := (HO7.out.lt k hk).1; omega)
      have hl9 := hl8.trans (hm9.below hl8.size (fun i hi => by have := HA7.out.e0; omega))
      have hmA := Mod.set3 (p + 1 + 1) (w8.setCell ⟨p, 1, none⟩ (.int .i64 W)) (.int .i64 c) (.int .i64 W) (.slice va (l.length + 1) vc)
      have hzA := ((hz9.set 0 (.int .i64 c)).set 1 (.int .i64 W)).set 2 (.slice va (l.length + 1) vc)
      have hoA := ho9.mod hmA (fun k hk e => by have := (HO7.out.lt k hk).1; omega)
      have hlA := hl9.trans (hmA.below hl9.size (fun i hi => by have := HA7.out.e0; omega))
      have hoB := hoA.base (base' := w.heap.size) (by have := HA7.out.e0; omega)
      have HF := Lib.hid (And.intro hzA (And.intro hoB hlA))
      clear hms hb8 hz8 ho8 hl8 hm9 hz9 ho9 hl9 hpx HO7 HA7 hmA hzA hoA hlA hoB
      go_wp2_with fail
      exact ret_cell_tmp rfl rfl (p + 1 + 1) 0 rfl [.int .i64 c, .int .i64 W, .slice va (l.length + 1) vc] _ (zrangeS HF.out.1) Tryz.underlying30 rfl (by kernel_rfl) _ rfl ⟨_, by rw [HD4.out]; rfl, by rw [HD4.out]; exact HF.out.2.1, HF.out.2.2⟩
    rw [if_pos (by kernel_rfl)]
    refine wp_buildSes (.tmp 34) rfl e.s rfl ?_
    refine hK.out _ _ (hHeld.trans ((below_alloc w3.drew _).mono hHeld.size)) (fun hHeld2 => ?_)
    have HC5 := Lib.hid (show ∀ j u, e.s.cells.toList[j]? = some u → (w3.drew.alloc (.cells e.s.cells 45)).cell? ((⟨w3.heap.size, 0, none⟩ : Addr).add j) = some u from newCells w3.drew e.s 45)
    clear hK K hHeld
    try simp only [Act.put, List.setIfInBounds_toArray, List.set_cons_zero, List.set_cons_succ]
    refine wpAnyL_ready (rs := [2]) (by kernel_rfl) (by simp) (AllReadyL.cons (o := ⟨some 32, .call _, _, _, _, _⟩) rfl (fun K hK => ?_) AllReadyL.nil)
    go_simp
    refine (cloneS_calls (.slice a n cap) l _ (HA3.out.rs.below hHeld2) (by have := HLL.out; omega)).mono ?_
    rintro ev w6 ⟨o, rfl, ho, hb6⟩
    refine hK.out _ _ (hHeld2.trans (hb6.mono hHeld2.size)) (fun hHeld3 => ?_)
    have HO := Lib.hid (ho.base (base' := w3.heap.size) hHeld2.size)
    have HCQ := Lib.hid (fun j u hj => below_heap hb6 (HC5.out j u hj))
    clear hK K ho hb6 hHeld2 HC5
    try simp only [Act.put, List.setIfInBounds_toArray, List.set_cons_zero, List.set_cons_succ]
    refine wpAnyL_ready (rs := [6]) (by kernel_rfl) (by simp) (AllReadyL.cons (o := ⟨some 36, .call _, _, _, _, _⟩) rfl (fun K hK => ?_) AllReadyL.nil)
    rw [if_pos (by kernel_rfl)]
    refine wp_appSes (.tmp 32) (.tmp 35) rfl w3.heap.size _ l rfl HO.out ⟨w3.heap.size, 0, none⟩ 1 e.s rfl HCQ.out HLL.out hHeld3.size ?_
    intro v' w7 hown' hg' _
    obtain ⟨va, vc, hve, _⟩ := hown'.slice
    rw [List.length_append, List.length_singleton] at hve
    subst hve
    have hb7 := hHeld3.trans (below_grown hg' hHeld3.size (fun q hq => (HO.out.lt q hq).1))
    refine hK.out _ _ hb7 (fun hHeld4 => ?_)
    have HO7 := Lib.hid hown'
    clear hK K hown' hg' hb7 HO HCQ hHeld3
    try simp only [Act.put, List.setIfInBounds_toArray, List.set_cons_zero, List.set_cons_succ]
    refine wpAnyL_take (i := 7) (oi := ⟨some 37, _, _, _, _, _⟩) (v := ?_) rfl (by kernel_rfl) (by kernel_rfl) (by kernel_rfl) (by kernel_rfl) (fun _ _ _ h => h) (Or.inl ⟨by kernel_rfl, ?_⟩) (by assumption) ?_
    rotate_left 1
    · intro w' hw'; clear hw'; go_simp; try with_reducible rfl
    try simp only [Act.put, List.setIfInBounds_toArray, List.set_cons_zero, List.set_cons_succ]
    have q2 := below_heap hHeld4 HC.out.1
    have HA7 := Lib.hid (HA3.out.below hHeld4)
    have r2 := HA7.out.bx.free 2
    refine wpAnyL_ready (rs := [8]) (by kernel_rfl) (by simp) (AllReadyL.last rfl (o := ⟨none, .store _ _ _, _, _, _, _⟩) rfl (fun K hK => ?_))
    go_simp
    refine hK.out _ _ ?_
    clear hK K hHeld4 q2 r2
    try simp only [Act.put, List.setIfInBounds_toArray, List.set_cons_zero, List.set_cons_succ]
    refine wpAnyL_done (by kernel_rfl) ?_ _
    have HS3 := Lib.hid HA3.out.bx.lt
    have hpx : p + 1 + 1 < w3.heap.size := HA3.out.bz.lt
    have hms := Mod.set (fun i => i = p) w7 ⟨p, 2, none⟩ (.slice va (l.length + 1) vc) rfl
    have hb8 := (HA7.out.bx).set 2 (.slice va (l.length + 1) vc)
    have hz8 := HA7.out.bz.mod hms (by omega)
    have ho8 := HO7.out.mod hms (fun k hk e => by have := (HO7.out.lt k hk).1; omega)
    have hl8 := HA7.out.self.trans (hms.below HA7.out.self.size (fun i hi => by have := HA7.out.e0; omega))
    generalize World.setCell w7 _ _ = w8 at hms hb8 hz8 ho8 hl8 ⊢
    have s0 : w8.cell? ⟨p, 0, none⟩ = some (.int .i64 c) := hb8.cell 0 _ rfl
    have s1 : w8.cell? ⟨p, 1, none⟩ = some (.int .i64 b) := hb8.cell 1 _ rfl
    have s2 : w8.cell? ⟨p, 2, none⟩ = some (.slice va (l.length + 1) vc) := hb8.cell 2 _ rfl
    have t1 := hb8.free 1
    have z0 : w8.cell? ⟨p + 1 + 1, 0, none⟩ = some (.int .i64 0) := hz8.cell 0 _ rfl
    have z1 : w8.cell? ⟨p + 1 + 1, 1, none⟩ = some (.int .i64 0) := hz8.cell 1 _ rfl
    have z2 : w8.cell? ⟨p + 1 + 1, 2, none⟩ = some (.slice none 0 0) := hz8.cell 2 _ rfl
    have y0 := hz8.free 0
    have y1 := hz8.free 1
    have y2 := hz8.free 2
    have hm9 := Mod.set (fun i => i = p) w8 ⟨p, 1, none⟩ (.int .i64 W) rfl
    have hz9 := hz8.mod hm9 (by omega)
    have ho9 := ho8.mod hm9 (fun k hk e => by have := (HO7.out.lt k hk).1; omega)
    have hl9 := hl8.trans (hm9.below hl8.size (fun i hi => by have := HA7.out.e0; omega))
    have hmA := Mod.set3 (p + 1 + 1) (w8.setCell ⟨p, 1, none⟩ (.int .i64 W)) (.int .i64 c) (.int .i64 W) (.slice va (l.length + 1) vc)
    have hzA := ((hz9.set 0 (.int .i64 c)).set 1 (.int .i64 W)).set 2 (.slice va (l.length + 1) vc)
    have hoA := ho9.mod hmA (fun k hk e => by have := (HO7.out.lt k hk).1; omega)
    have hlA := hl9.trans (hmA.below hl9.size (fun i hi => by have := HA7.out.e0; omega))
    have hoB := hoA.base (base' := w.heap.size) (by have := HA7.out.e0; omega)
    have HF := Lib.hid (And.intro hzA (And.intro hoB hlA))
    clear hms hb8 hz8 ho8 hl8 hm9 hz9 ho9 hl9 hpx HO7 HA7 hmA hzA hoA hlA hoB
    go_wp2_with fail
    exact ret_cell_tmp rfl rfl (p + 1 + 1) 0 rfl [.int .i64 c, .int .i64 W, .slice va (l.length + 1) vc] _ (zrangeS HF.out.1) Tryz.underlying30 rfl (by kernel_rfl) _ rfl ⟨_, by rw [HD4.out]; rfl, by rw [HD4.out]; exact HF.out.2.1, HF.out.2.2⟩
  cases hk1 : (e.kind == 1)
  rotate_left
  · have HD3 := Lib.hid ((HD2.out.trans (if_neg (fun h => by rw [h] at hk0; cases hk0))).trans (if_pos (beq_iff_eq.1 hk1)))
    clear HD2 HMAY HRE
    have c2 : w2.cell? ⟨p, 2, none⟩ = some (.slice a n cap) := HA2.out.bx.cell 2 _ rfl
    have HCF := Lib.hid (containsF_calls 61 ⟨p + 1, 0, none⟩ (fun s => s.birth == e.birth) (.slice a n cap) l w2 HA2.out.rs (test1 (p + 1) e.birth w2 (HA2.out.be.cell 13 _ rfl)))
    obtain ⟨r, hr⟩ : ∃ r, r = l.any (fun s => s.birth == e.birth) := ⟨_, rfl⟩
    rw [← hr] at HCF HD3
    clear hr
    go_wp2_with fail
    refine HCF.out.mono ?_
    rintro ev w3 ⟨rfl, hb3⟩
    have HA3 := Lib.hid (HA2.out.below hb3)
    clear hb3 HA2 HCF c2 k0 hk0 hk1
    cases r
    · have HD4 := Lib.hid (show D = (16, noSt) from HD3.out)
      clear HD3
      have z0 : w3.cell? ⟨p + 1 + 1, 0, none⟩ = some (.int .i64 0) := HA3.out.bz.cell 0 _ rfl
      have y0 := HA3.out.bz.free 0
      have z1 : w3.cell? ⟨p + 1 + 1, 1, none⟩ = some (.int .i64 0) := HA3.out.bz.cell 1 _ rfl
      have y1 := HA3.out.bz.free 1
      have z2 : w3.cell? ⟨p + 1 + 1, 2, none⟩ = some (.slice none 0 0) := HA3.out.bz.cell 2 _ rfl
      have y2 := HA3.out.bz.free 2
      have HZ := Lib.hid (HA3.out.fill 0 0 (.slice none 0 0))
      clear HA3
      go_wp2_with fail
      exact ret_cell_tmp rfl rfl (p + 1 + 1) 0 rfl [.int .i64 0, .int .i64 0, .slice none 0 0] _ (zrangeS HZ.out.1) Tryz.underlying30 rfl (by kernel_rfl) _ rfl ⟨_, by rw [HD4.out]; rfl, by rw [HD4.out]; exact OwnS.nil _ _, HZ.out.2.1⟩
    have HD4 := Lib.hid (show D = (0, ⟨c, b, withoutM (fun s => s.birth == e.birth) l⟩) from HD3.out)
    clear HD3
    have c0 : w3.cell? ⟨p, 0, none⟩ = some (.int .i64 c) := HA3.out.bx.cell 0 _ rfl
    have c1 : w3.cell? ⟨p, 1, none⟩ = some (.int .i64 b) := HA3.out.bx.cell 1 _ rfl
    have c2 : w3.cell? ⟨p, 2, none⟩ = some (.slice a n cap) := HA3.out.bx.cell 2 _ rfl
    have HWC := Lib.hid (without_calls 63 ⟨p + 1, 0, none⟩ (fun s => s.birth == e.birth) ⟨c, b, l⟩ (.slice a n cap) w3 HA3.out.rs HNN.out (test2 (p + 1) e.birth w3 (HA3.out.be.cell 13 _ rfl)))
    go_wp2_with fail
    refine HWC.out.mono ?_
    rintro ev w5 ⟨o, rfl, ho, hb5⟩
    have HA5 := Lib.hid (HA3.out.below hb5)
    obtain ⟨va, vc, rfl, _⟩ := ho.slice
    have HO5 := Lib.hid ho
    have HSZ := Lib.hid (show p + 1 + 1 < w3.heap.size from HA3.out.bz.lt)
    clear ho hb5 HWC HA3 c0 c1 c2
    have z0 : w5.cell? ⟨p + 1 + 1, 0, none⟩ = some (.int .i64 0) := HA5.out.bz.cell 0 _ rfl
    have y0 := HA5.out.bz.free 0
    have z1 : w5.cell? ⟨p + 1 + 1, 1, none⟩ = some (.int .i64 0) := HA5.out.bz.cell 1 _ rfl
    have y1 := HA5.out.bz.free 1
    have z2 : w5.cell? ⟨p + 1 + 1, 2, none⟩ = some (.slice none 0 0) := HA5.out.bz.cell 2 _ rfl
    have y2 := HA5.out.bz.free 2
    have hfl := HA5.out.fill c b (.slice va (withoutM (fun s => s.birth == e.birth) l).length vc)
    have hoB := (HO5.out.mod hfl.2.2 (fun k hk e => by have := (HO5.out.lt k hk).1; have := HSZ.out; omega)).base (base' := w.heap.size) (by have := HA5.out.e0; have := HSZ.out; omega)
    have HF := Lib.hid (And.intro hfl.1 (And.intro hoB hfl.2.1))
    clear hfl hoB HO5 HA5
    go_wp2_with fail
    exact ret_cell_tmp rfl rfl (p + 1 + 1) 0 rfl [.int .i64 c, .int .i64 b, .slice va (withoutM (fun s => s.birth == e.birth) l).length vc] _ (zrangeS HF.out.1) Tryz.underlying30 rfl (by kernel_rfl) _ rfl ⟨_, by rw [HD4.out]; rfl, by rw [HD4.out]; exact HF.out.2.1, HF.out.2.2⟩
  obtain ⟨_, ht1, ht2⟩ := mayE_tick HMAY.out hk0 hk1
  have HD3 := Lib.hid ((HD2.out.trans (if_neg (fun h => by rw [h] at hk0; cases hk0))).trans (if_neg (fun h => by rw [h] at hk1; cases hk1)))
  clear HD2 HMAY HRE
  have c0 : w2.cell? ⟨p, 0, none⟩ = some (.int .i64 c) := HA2.out.bx.cell 0 _ rfl
  have e14 : w2.cell? ⟨p + 1, 14, none⟩ = some (.int .i64 e.ticks) := HA2.out.be.cell 14 _ rfl
  have f0 := HA2.out.bx.free 0
  by_cases h1 : c < 0
  · have HD4 := Lib.hid (show D = (12, noSt) from HD3.out.trans (if_pos (.inl h1)))
    clear HD3
    have z0 : w2.cell? ⟨p + 1 + 1, 0, none⟩ = some (.int .i64 0) := HA2.out.bz.cell 0 _ rfl
    have y0 := HA2.out.bz.free 0
    have z1 : w2.cell? ⟨p + 1 + 1, 1, none⟩ = some (.int .i64 0) := HA2.out.bz.cell 1 _ rfl
    have y1 := HA2.out.bz.free 1
    have z2 : w2.cell? ⟨p + 1 + 1, 2, none⟩ = some (.slice none 0 0) := HA2.out.bz.cell 2 _ rfl
    have y2 := HA2.out.bz.free 2
    have HZ := Lib.hid (HA2.out.fill 0 0 (.slice none 0 0))
    clear HA2
    go_wp2_with fail
    exact ret_cell_tmp rfl rfl (p + 1 + 1) 0 rfl [.int .i64 0, .int .i64 0, .slice none 0 0] _ (zrangeS HZ.out.1) Tryz.underlying30 rfl (by kernel_rfl) _ rfl ⟨_, by rw [HD4.out]; rfl, by rw [HD4.out]; exact OwnS.nil _ _, HZ.out.2.1⟩
  obtain ⟨M, hM⟩ : ∃ M, M = 1099511627776 - e.ticks := ⟨_, rfl⟩
  have hz1 : IntKind.i64.wrap (1099511627776 - e.ticks) = M := by rw [hM]; simp [IntKind.wrap, IntKind.bits, IntKind.signed]; omega
  rw [← hM] at HD3
  by_cases h2 : M < c
  · have HD4 := Lib.hid (show D = (12, noSt) from HD3.out.trans (if_pos (.inr h2)))
    clear HD3 hM
    have z0 : w2.cell? ⟨p + 1 + 1, 0, none⟩ = some (.int .i64 0) := HA2.out.bz.cell 0 _ rfl
    have y0 := HA2.out.bz.free 0
    have z1 : w2.cell? ⟨p + 1 + 1, 1, none⟩ = some (.int .i64 0) := HA2.out.bz.cell 1 _ rfl
    have y1 := HA2.out.bz.free 1
    have z2 : w2.cell? ⟨p + 1 + 1, 2, none⟩ = some (.slice none 0 0) := HA2.out.bz.cell 2 _ rfl
    have y2 := HA2.out.bz.free 2
    have HZ := Lib.hid (HA2.out.fill 0 0 (.slice none 0 0))
    clear HA2
    go_wp2_with fail
    exact ret_cell_tmp rfl rfl (p + 1 + 1) 0 rfl [.int .i64 0, .int .i64 0, .slice none 0 0] _ (zrangeS HZ.out.1) Tryz.underlying30 rfl (by kernel_rfl) _ rfl ⟨_, by rw [HD4.out]; rfl, by rw [HD4.out]; exact OwnS.nil _ _, HZ.out.2.1⟩
  obtain ⟨C, hC⟩ : ∃ C, C = c + e.ticks := ⟨_, rfl⟩
  have hz2 : IntKind.i64.wrap (c + e.ticks) = C := by rw [hC]; simp [IntKind.wrap, IntKind.bits, IntKind.signed]; omega
  have HD4 := Lib.hid (show D = (0, ⟨C, b, withoutM (fun s => decide (s.deadline ≤ C)) l⟩) by rw [hC]; exact HD3.out.trans (if_neg (fun h => h.elim h1 h2)))
  clear HD3 hM hC ht1 ht2
  have hms := Mod.set (fun i => i = p) w2 ⟨p, 0, none⟩ (.int .i64 C) rfl
  have HA3 := Lib.hid (show ApS w (w2.setCell ⟨p, 0, none⟩ (.int .i64 C)) p C b (.slice a n cap) e l from
    ⟨HA2.out.bx.set 0 (.int .i64 C), HA2.out.be.mod hms (by omega), HA2.out.bz.mod hms (by omega), HV0.out.below (HA2.out.self.trans (hms.below HA2.out.self.size (fun i hi => by have := HA2.out.e0; omega))), HA2.out.bel.trans (hms.below (by have := HA2.out.bx.lt; omega) (fun i hi => by omega)), HA2.out.e0⟩)
  clear hms
  have c0 : (w2.setCell ⟨p, 0, none⟩ (.int .i64 C)).cell? ⟨p, 0, none⟩ = some (.int .i64 C) := HA3.out.bx.cell 0 _ rfl
  have c1 : (w2.setCell ⟨p, 0, none⟩ (.int .i64 C)).cell? ⟨p, 1, none⟩ = some (.int .i64 b) := HA3.out.bx.cell 1 _ rfl
  have c2 : (w2.setCell ⟨p, 0, none⟩ (.int .i64 C)).cell? ⟨p, 2, none⟩ = some (.slice a n cap) := HA3.out.bx.cell 2 _ rfl
  have HWC := Lib.hid (without_calls 64 ⟨p, 0, none⟩ (fun s => decide (s.deadline ≤ C)) ⟨C, b, l⟩ (.slice a n cap) (w2.setCell ⟨p, 0, none⟩ (.int .i64 C)) HA3.out.rs HNN.out (test3 p C _ (HA3.out.bx.cell 0 _ rfl)))
  go_wp2_with fail
  refine HWC.out.mono ?_
  rintro ev w5 ⟨o, rfl, ho, hb5⟩
  have HA5 := Lib.hid (HA3.out.below hb5)
  obtain ⟨va, vc, rfl, _⟩ := ho.slice
  have HO5 := Lib.hid ho
  have HSZ := Lib.hid (show p + 1 + 1 < (w2.setCell ⟨p, 0, none⟩ (.int .i64 C)).heap.size from HA3.out.bz.lt)
  clear ho hb5 HWC HA3 c0 c1 c2
  have z0 : w5.cell? ⟨p + 1 + 1, 0, none⟩ = some (.int .i64 0) := HA5.out.bz.cell 0 _ rfl
  have y0 := HA5.out.bz.free 0
  have z1 : w5.cell? ⟨p + 1 + 1, 1, none⟩ = some (.int .i64 0) := HA5.out.bz.cell 1 _ rfl
  have y1 := HA5.out.bz.free 1
  have z2 : w5.cell? ⟨p + 1 + 1, 2, none⟩ = some (.slice none 0 0) := HA5.out.bz.cell 2 _ rfl
  have y2 := HA5.out.bz.free 2
  have hfl := HA5.out.fill C b (.slice va (withoutM (fun s => decide (s.deadline ≤ C)) l).length vc)
  have hoB := (HO5.out.mod hfl.2.2 (fun k hk e => by have := (HO5.out.lt k hk).1; have := HSZ.out; omega)).base (base' := w.heap.size) (by have := HA5.out.e0; have := HSZ.out; omega)
  have HF := Lib.hid (And.intro hfl.1 (And.intro hoB hfl.2.1))
  clear hfl hoB HO5 HA5
  go_wp2_with fail
  exact ret_cell_tmp rfl rfl (p + 1 + 1) 0 rfl [.int .i64 C, .int .i64 b, .slice va (withoutM (fun s => decide (s.deadline ≤ C)) l).length vc] _ (zrangeS HF.out.1) Tryz.underlying30 rfl (by kernel_rfl) _ rfl ⟨_, by rw [HD4.out]; rfl, by rw [HD4.out]; exact HF.out.2.1, HF.out.2.2⟩
end Go.Proofs.YtgcnolapjppbpaaGreatDoor
