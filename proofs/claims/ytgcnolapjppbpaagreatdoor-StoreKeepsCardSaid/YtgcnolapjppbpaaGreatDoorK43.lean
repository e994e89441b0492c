/-
  Texts of one proof, one behind the other.
-/
import Derived.Test.YtgcnolapjppbpaaGreatDoorK29
import Derived.Test.YtgcnolapjppbpaaGreatDoorK30
import Derived.Test.YtgcnolapjppbpaaGreatDoorK37
import Derived.Test.YtgcnolapjppbpaaGreatDoorK39
import Derived.Test.YtgcnolapjppbpaaGreatDoorK40
import Derived.Test.YtgcnolapjppbpaaGreatDoorK42
namespace Go.Proofs.YtgcnolapjppbpaaGreatDoor
open Go.RowKit
set_option maxRecDepth 100000
theorem ret_cell_tmp2 {P : Program} {fn : Func} {R : Ending → World → Prop} {a : Act} {w : World} {p u v : Tmp} {ty : TypeId} (h : fn.results = #[.cell p ty, .tmp u, .tmp v]) (hdf : a.defers = [])
    (b o : Nat) (hp : a.tmps.getD p undef = .pointer (some ⟨b, o, none⟩)) (cs : List Value) (d : TypeDesc) (hc : w.rangeAt b o cs)
    (hu : P.underlying ty = some d) (hd : d.isRow = true) (hi : (P.info? ty).map (·.size) = some cs.length)
    (x y : Value) (hx : a.tmps.getD u undef = x) (hy : a.tmps.getD v undef = y) (hR : R (.returned (.tuple #[.agg cs.toArray, x, y])) w) : bodyPost P fn R .ret a w := by
  refine bodyPost_ret (v := .tuple #[.agg cs.toArray, x, y]) ?_ hdf hR
  have hp2 : a.tmps[p]?.getD undef = .pointer (some ⟨b, o, none⟩) := by simpa using hp
  have hx2 : a.tmps[u]?.getD undef = x := by simpa using hx
  have hy2 : a.tmps[v]?.getD undef = y := by simpa using hy
  simp only [results, h]
  simp [hp2, hx2, hy2, asAddr, Result.andThen, run_loadVar_mid w b o ty cs d hc hu hd hi]
theorem evOk_of {e : EvtM} (h : mayE e = true) (hsc : e.s.scopes < 2 ^ 64) : EvOk e := by
  have i64 : ∀ {n : Int}, N63 n → I64 n := fun h => ⟨by have := h.1; omega, h.2⟩
  have lo : ∀ n : Int, 0 ≤ n → n ≤ 9223372036854775807 → I64 n := fun n a b => ⟨by omega, b⟩
  unfold mayE at h
  split at h
  · rename_i k
    simp only [Bool.and_eq_true, beq_iff_eq] at h k
    have s := SesN.of h.2.2
    exact ⟨Nat.le_trans s.user (by decide), Nat.le_trans s.label (by decide), hsc, by rw [k]; exact lo 0 (by decide) (by decide), by rw [h.1]; exact lo 0 (by decide) (by decide), by rw [h.2.1]; exact lo 0 (by decide) (by decide), i64 s.slot, i64 s.birth, i64 s.upS, i64 s.upB, i64 s.kind, i64 s.level, i64 s.born, i64 s.deadline, i64 s.depth⟩
  · have z : e.s = noSes → I64 e.kind → I64 e.birth → I64 e.ticks → EvOk e := fun hs h1 h2 h3 => by
      have z0 : I64 0 := lo 0 (by decide) (by decide)
      exact ⟨by rw [hs]; decide, by rw [hs]; decide, hsc, h1, h2, h3, by rw [hs]; exact z0, by rw [hs]; exact z0, by rw [hs]; exact z0, by rw [hs]; exact z0, by rw [hs]; exact z0, by rw [hs]; exact z0, by rw [hs]; exact z0, by rw [hs]; exact z0, by rw [hs]; exact z0⟩
    split at h
    · rename_i k
      simp only [Bool.and_eq_true, beq_iff_eq, sameS_iff] at h k
      have := fromM_yes h.2.2
      exact z h.1 (by rw [k]; exact lo 1 (by decide) (by decide)) (lo _ (by omega) (by omega)) (by rw [h.2.1]; exact lo 0 (by decide) (by decide))
    · split at h
      · rename_i k
        simp only [Bool.and_eq_true, beq_iff_eq, sameS_iff] at h k
        have := fromM_yes h.2.2
        exact z h.1 (by rw [k]; exact lo 2 (by decide) (by decide)) (by rw [h.2.1]; exact lo 0 (by decide) (by decide)) (lo _ (by omega) (by omega))
      · cases h
theorem decM_ok {b : List UInt8} (h : (decM b).1 = 0) : EvOk (decM b).2 := by
  have h1 : decM b = (0, (decM b).2) := by rw [← h]
  obtain ⟨h2, h3, _⟩ := decM_inv h1
  exact evOk_of h2 h3
theorem pos_ge {e : UInt32} {bl : List (List UInt8)} : ∀ (i : Nat), (∀ j, j < i → ∃ p k, payM e bl j = some (p, k)) → i ≤ posM e bl i
  | 0, _ => Nat.zero_le _
  | i + 1, h => by
    obtain ⟨p, k, h1⟩ := h i (by omega)
    have h2 := pos_ge i (fun j hj => h j (by omega))
    have h3 := ((oneM_isOne e _ p k).1 h1).2.1
    have h4 := frameM_pos e p
    rw [posM_succ h1]; omega
theorem IsPays.len {e : UInt32} {bl ps : List (List UInt8)} (h : IsPays e bl ps) : ps.length ≤ bl.length := by
  by_cases h0 : ps.length = 0
  · omega
  · have h1 := pos_ge (e := e) (bl := bl) (ps.length - 1) (fun j hj => by obtain ⟨k, h2⟩ := h.2 j (by omega); exact ⟨_, k, h2⟩)
    obtain ⟨k, h2⟩ := h.2 (ps.length - 1) (by omega)
    have h3 : posM e bl (ps.length - 1) < bl.length := by
      rcases Nat.lt_or_ge (posM e bl (ps.length - 1)) bl.length with g | g
      · exact g
      · unfold payM at h2
        rw [List.drop_of_length_le g] at h2
        cases h2
    omega
theorem decI_short {b : List UInt8} {C B : Int} {L : List SesM} (h : decI b = (0, ⟨C, B, L⟩)) : L.length ≤ 32 := by
  have h1 := (checkM_none.1 (decI_inv h).1).1
  unfold boundsM at h1
  simp only [Bool.and_eq_true, decide_eq_true_eq] at h1
  exact h1.2.2
theorem wants_at {w : World} {a : Option Addr} {n cap : Nat} {pre : List (Nat × Value)} (h : Rd w (.slice a n cap) n (pre.map (·.2))) (k : Nat) (hk : k < pre.length) : ∃ b off, a = some ⟨b, off, none⟩ ∧ w.cell? ⟨b, off + k, none⟩ = some pre[k].2 := by
  obtain ⟨a', cap', e, _, _, _, h3⟩ := h
  injection e with e1 e2 e3
  subst e1
  obtain ⟨b, off, h4, h5⟩ := h3 k (by rw [List.length_map]; exact hk)
  refine ⟨b, off, h4, ?_⟩
  rw [h5, List.getD, List.getElem?_map, List.getElem?_eq_getElem hk]; rfl
theorem Found.pays {e : UInt32} {bl : List (List UInt8)} {B : Nat} {pre : List (Nat × Value)} {W : World} (h : Found e bl B pre W) (hn : payM e bl pre.length = none) :
    (paysM e bl).length = pre.length ∧ pre.length ≤ bl.length ∧ ∀ i (hi : i < pre.length), ∃ p, (paysM e bl)[i]? = some p ∧ p.length ≤ 512 ∧ Rd W pre[i].2 p.length (p.map V8) := by
  have hall : ∀ i (hi : i < pre.length), ∃ p k, payM e bl i = some (p, k) ∧ OwnM W B 5 pre[i].2 p.length (p.map V8) := fun i hi => (h.row i pre[i] (List.getElem?_eq_getElem hi)).2
  obtain ⟨ps, hps⟩ : ∃ ps : List (List UInt8), ps = (List.range pre.length).map (fun i => ((payM e bl i).getD ([], 0)).1) := ⟨_, rfl⟩
  have hl : ps.length = pre.length := by rw [hps]; simp
  have hg : ∀ i (hi : i < ps.length), ps[i] = ((payM e bl i).getD ([], 0)).1 := fun i hi => by subst hps; simp
  have hip : IsPays e bl ps := ⟨by rw [hl]; exact hn, fun i hi => by
    obtain ⟨p, k, h1, _⟩ := hall i (by omega)
    exact ⟨k, by rw [hg i hi, h1]; rfl⟩⟩
  rw [hip.eq]
  refine ⟨hl, by have := hip.len; omega, fun i hi => ?_⟩
  obtain ⟨p, k, h1, h2⟩ := hall i hi
  have h3 := hg i (by omega)
  rw [h1] at h3
  refine ⟨p, by rw [List.getElem?_eq_getElem (by omega), h3]; rfl, ?_, h2.rd⟩
  exact ((oneM_isOne e _ p k).1 h1).1
theorem evsM_step {ps : List (List UInt8)} {k : Nat} {p : List UInt8} (h : ps[k]? = some p) : evsM (ps.drop k) = if (decM p).1 = 0 then (decM p).2 :: evsM (ps.drop (k + 1)) else [] := by
  obtain ⟨hk, rfl⟩ := List.getElem?_eq_some_iff.1 h
  rw [List.drop_eq_getElem_cons hk, evsM]
set_option maxHeartbeats 12800000 in
theorem kept_calls (d : DiskM) (pd : Nat) (F : Nat → Prop) (w : World) (hd : IsDisk w d pd F) (hsm : ∀ s ∈ d.strs, s.size ≤ 256) (hl : 65 ≤ d.strs.length) (hs : ∀ b, (readB d b).length ≤ 9223372036854775807) :
    Calls Tryz.prog 56 #[.pointer (some ⟨pd, 0, none⟩)] w fun e w' => ∃ o, e = .returned (.tuple #[.agg #[.int .i64 (keptM d).1.clock, .int .i64 (keptM d).1.births, o], .int .u32 (I32 (keptM d).2.1), errV (keptM d).2.2]) ∧ OwnS w' w.heap.size o (keptM d).1.l ∧ Below w.heap.size w w' := by
  have HLD := Lib.hid (fun W (hW : IsDisk W d pd F) => load_calls d pd F 0 24 W hW ⟨by decide, by decide⟩ ⟨by decide, by decide⟩ hs)
  have HEM := Lib.hid (loadM_err d 0 24)
  have HLT := Lib.hid (loadM_lt d 0 24)
  have HLL := Lib.hid (loadM_len d)
  have HOP := Lib.hid (fun e W (hW : IsDisk W d pd F) => log_open_yes d pd F 49 16 e W hW (by decide) hl hsm)
  have HBK := Lib.hid (fun bl (h1 : bl.length = 16) h2 => blks_uniq d hl bl h1 h2)
  obtain ⟨K, hK⟩ : ∃ K, K = keptM d := ⟨_, rfl⟩
  rw [← hK]
  unfold keptM at hK
  obtain ⟨LD, hLD⟩ : ∃ L, L = loadM d 0 24 := ⟨_, rfl⟩
  rw [← hLD] at HLD HEM HLT HLL hK
  obtain ⟨ep, bs, er⟩ := LD
  simp only at HEM HLT HLL hK
  obtain ⟨eu, heu⟩ : ∃ u, u = UInt32.ofNat ep := ⟨_, rfl⟩
  have hei : (ep : Int) = I32 eu := by
    rw [heu]; unfold I32
    rw [UInt32.toNat_ofNat']
    have := HLT.out
    omega
  rw [← heu] at hK
  have HK := Lib.hid hK
  have HD := Lib.hid hd
  have hba := below_alloc w (.cells #[.int .i64 0, .int .i64 0, .slice none 0 0] 30)
  have HZ := Lib.hid (Box.new w #[.int .i64 0, .int .i64 0, .slice none 0 0] 30)
  have HB := Lib.hid hba
  have HD1 := Lib.hid (hd.grow hba)
  have HEI := Lib.hid hei
  clear hd hsm hl hs hK hLD heu hba hei HLT
  go_enter Tryz.func56, Tryz.ntmps56
  go_wp2_with fail
  generalize (w.alloc (.cells #[.int .i64 0, .int .i64 0, .slice none 0 0] 30)) = w1 at HZ HB HD1 ⊢
  refine (HLD.out w1 HD1.out).mono ?_
  rintro ev w2 ⟨bv, rfl, ho, hb⟩
  simp only at ho ⊢
  rw [HEI.out]
  have HB2 := Lib.hid (HB.out.trans (hb.mono HB.out.size))
  have HD2 := Lib.hid (HD1.out.grow hb)
  have HZ2 := Lib.hid (HZ.out.below hb)
  have HR2 := Lib.hid ho.rd
  obtain ⟨ba, bc, rfl, _⟩ := ho.rd
  obtain ⟨bn, hbn⟩ : ∃ n, n = bs.length := ⟨_, rfl⟩
  rw [← hbn] at HR2 ⊢
  have HBN := Lib.hid hbn
  clear ho hb hbn HB HD1 HZ HLD HEI HD
  go_wp2_with fail
  refine (show Calls _ _ #[errV er, .iface 91 (.int .i64 10)] w2 _ from is_any er 10 (by decide) w2).mono ?_
  rintro ev w3 ⟨rfl, rfl⟩
  by_cases h10 : er = 10
  · rw [if_pos h10] at HK
    have hb10 : (er == 10) = true := by simpa using h10
    rw [hb10]
    clear h10 hb10
    have z0 : w3.cell? ⟨w.heap.size, 0, none⟩ = some (.int .i64 0) := HZ2.out.cell 0 _ rfl
    have y0 := HZ2.out.free 0
    have z1 : w3.cell? ⟨w.heap.size, 1, none⟩ = some (.int .i64 0) := HZ2.out.cell 1 _ rfl
    have y1 := HZ2.out.free 1
    have z2 : w3.cell? ⟨w.heap.size, 2, none⟩ = some (.slice none 0 0) := HZ2.out.cell 2 _ rfl
    have y2 := HZ2.out.free 2
    have HZF := Lib.hid (show Box (((w3.setCell ⟨w.heap.size, 0, none⟩ (.int .i64 0)).setCell ⟨w.heap.size, 1, none⟩ (.int .i64 0)).setCell ⟨w.heap.size, 2, none⟩ (.slice none 0 0)) w.heap.size #[.int .i64 0, .int .i64 0, .slice none 0 0] 30 ∧ Below w.heap.size w (((w3.setCell ⟨w.heap.size, 0, none⟩ (.int .i64 0)).setCell ⟨w.heap.size, 1, none⟩ (.int .i64 0)).setCell ⟨w.heap.size, 2, none⟩ (.slice none 0 0)) from
      ⟨((HZ2.out.set 0 (.int .i64 0)).set 1 (.int .i64 0)).set 2 (.slice none 0 0), HB2.out.trans ((Mod.set3 w.heap.size w3 (.int .i64 0) (.int .i64 0) (.slice none 0 0)).below HB2.out.size (fun i hi => Nat.le_of_eq hi.symm))⟩)
    obtain rfl : K = (noSt, 0, 0) := HK.out
    clear HB2 HD2 HZ2 HR2 HK HBN HOP HBK HLL
    go_wp2_with fail
    exact ret_cell_tmp2 rfl rfl w.heap.size 0 rfl [.int .i64 0, .int .i64 0, .slice none 0 0] _ (zrangeS (HZF.out.1)) Tryz.underlying30 rfl (by kernel_rfl) _ _ rfl rfl ⟨_, rfl, OwnS.nil _ _, HZF.out.2⟩
  rw [if_neg h10] at HK
  have hb10 : (er == 10) = false := by simpa using h10
  rw [hb10]
  clear h10 hb10
  by_cases h0 : er = 0
  rotate_left
  · rw [if_neg h0] at HK
    rw [show errV er = .iface 91 (.int .i64 er) from if_neg h0]
    have z0 : w3.cell? ⟨w.heap.size, 0, none⟩ = some (.int .i64 0) := HZ2.out.cell 0 _ rfl
    have y0 := HZ2.out.free 0
    have z1 : w3.cell? ⟨w.heap.size, 1, none⟩ = some (.int .i64 0) := HZ2.out.cell 1 _ rfl
    have y1 := HZ2.out.free 1
    have z2 : w3.cell? ⟨w.heap.size, 2, none⟩ = some (.slice none 0 0) := HZ2.out.cell 2 _ rfl
    have y2 := HZ2.out.free 2
    have HZF := Lib.hid (show Box (((w3.setCell ⟨w.heap.size, 0, none⟩ (.int .i64 0)).setCell ⟨w.heap.size, 1, none⟩ (.int .i64 0)).setCell ⟨w.heap.size, 2, none⟩ (.slice none 0 0)) w.heap.size #[.int .i64 0, .int .i64 0, .slice none 0 0] 30 ∧ Below w.heap.size w (((w3.setCell ⟨w.heap.size, 0, none⟩ (.int .i64 0)).setCell ⟨w.heap.size, 1, none⟩ (.int .i64 0)).setCell ⟨w.heap.size, 2, none⟩ (.slice none 0 0)) from
      ⟨((HZ2.out.set 0 (.int .i64 0)).set 1 (.int .i64 0)).set 2 (.slice none 0 0), HB2.out.trans ((Mod.set3 w.heap.size w3 (.int .i64 0) (.int .i64 0) (.slice none 0 0)).below HB2.out.size (fun i hi => Nat.le_of_eq hi.symm))⟩)
    obtain rfl : K = (noSt, 0, er) := HK.out
    have HH0 := Lib.hid h0
    clear HB2 HD2 HZ2 HR2 HK HBN HOP HBK HLL h0
    go_wp2_with fail
    exact ret_cell_tmp2 rfl rfl w.heap.size 0 rfl [.int .i64 0, .int .i64 0, .slice none 0 0] _ (zrangeS (HZF.out.1)) Tryz.underlying30 rfl (by kernel_rfl) _ _ rfl rfl ⟨_, by show Ending.returned _ = Ending.returned (.tuple #[_, _, errV er]); rw [show errV er = .iface 91 (.int .i64 er) from if_neg HH0.out]; rfl, OwnS.nil _ _, HZF.out.2⟩
  rw [if_pos h0] at HK
  rw [show errV er = .nilIface from if_pos h0]
  clear h0
  have HDC := Lib.hid (decI_calls (.slice ba bn bc) bs w3 (by rw [← HBN.out]; exact HR2.out) (Nat.le_trans HLL.out (by decide)))
  obtain ⟨I, hI⟩ : ∃ I, I = decI bs := ⟨_, rfl⟩
  rw [← hI] at HK HDC
  obtain ⟨ei, C, B, L⟩ := I
  simp only at HK HDC
  have hsh : ei = 0 → L.length ≤ 32 := fun h => decI_short (b := bs) (C := C) (B := B) (by rw [← hI, h])
  clear hI
  go_wp2_with fail
  refine HDC.out.mono ?_
  rintro ev w4 ⟨sv, rfl, ho, hb⟩
  obtain ⟨sa, sc, rfl, _⟩ := ho.slice
  obtain ⟨sn, hsn⟩ : ∃ n, n = L.length := ⟨_, rfl⟩
  rw [← hsn] at ho ⊢
  have hba := below_alloc w4 (.cells #[.int .i64 C, .int .i64 B, .slice sa sn sc] 30)
  have HB5 := Lib.hid ((HB2.out.trans (hb.mono HB2.out.size)).trans (hba.mono (HB2.out.trans (hb.mono HB2.out.size)).size))
  have HD5 := Lib.hid ((HD2.out.grow hb).grow hba)
  have HZ5 := Lib.hid ((HZ2.out.below hb).below hba)
  have HS5 := Lib.hid (ho.rd.below hba)
  have HQ4 := Lib.hid (show w.heap.size < w4.heap.size from (HZ2.out.below hb).lt)
  have HSH := Lib.hid hsh
  have HX5 := Lib.hid (Box.new w4 #[.int .i64 C, .int .i64 B, .slice sa sn sc] 30)
  clear ho hb hba hsn hsh HB2 HD2 HZ2 HR2 HDC HBN HLL
  by_cases h0 : ei = 0
  rotate_left
  · rw [if_neg h0] at HK
    rw [show errV ei = .iface 91 (.int .i64 ei) from if_neg h0]
    have z0 : (w4.alloc (.cells #[.int .i64 C, .int .i64 B, .slice sa sn sc] 30)).cell? ⟨w.heap.size, 0, none⟩ = some (.int .i64 0) := HZ5.out.cell 0 _ rfl
    have y0 := HZ5.out.free 0
    have z1 : (w4.alloc (.cells #[.int .i64 C, .int .i64 B, .slice sa sn sc] 30)).cell? ⟨w.heap.size, 1, none⟩ = some (.int .i64 0) := HZ5.out.cell 1 _ rfl
    have y1 := HZ5.out.free 1
    have z2 : (w4.alloc (.cells #[.int .i64 C, .int .i64 B, .slice sa sn sc] 30)).cell? ⟨w.heap.size, 2, none⟩ = some (.slice none 0 0) := HZ5.out.cell 2 _ rfl
    have y2 := HZ5.out.free 2
    have HZF := Lib.hid (show Box ((((w4.alloc (.cells #[.int .i64 C, .int .i64 B, .slice sa sn sc] 30)).setCell ⟨w.heap.size, 0, none⟩ (.int .i64 0)).setCell ⟨w.heap.size, 1, none⟩ (.int .i64 0)).setCell ⟨w.heap.size, 2, none⟩ (.slice none 0 0)) w.heap.size #[.int .i64 0, .int .i64 0, .slice none 0 0] 30 ∧ Below w.heap.size w ((((w4.alloc (.cells #[.int .i64 C, .int .i64 B, .slice sa sn sc] 30)).setCell ⟨w.heap.size, 0, none⟩ (.int .i64 0)).setCell ⟨w.heap.size, 1, none⟩ (.int .i64 0)).setCell ⟨w.heap.size, 2, none⟩ (.slice none 0 0)) from
      ⟨((HZ5.out.set 0 (.int .i64 0)).set 1 (.int .i64 0)).set 2 (.slice none 0 0), HB5.out.trans ((Mod.set3 w.heap.size (w4.alloc (.cells #[.int .i64 C, .int .i64 B, .slice sa sn sc] 30)) (.int .i64 0) (.int .i64 0) (.slice none 0 0)).below HB5.out.size (fun i hi => Nat.le_of_eq hi.symm))⟩)
    obtain rfl : K = (noSt, 0, 24) := HK.out
    clear HB5 HD5 HZ5 HS5 HX5 HK HOP HBK h0
    go_wp2_with fail
    exact ret_cell_tmp2 rfl rfl w.heap.size 0 rfl [.int .i64 0, .int .i64 0, .slice none 0 0] _ (zrangeS (HZF.out.1)) Tryz.underlying30 rfl (by kernel_rfl) _ _ rfl rfl ⟨_, rfl, OwnS.nil _ _, HZF.out.2⟩
  rw [if_pos h0] at HK
  rw [show errV ei = .nilIface from if_pos h0]
  have HLS := Lib.hid (HSH.out h0)
  clear h0
  go_wp2_with fail
  refine (show Calls _ _ #[.pointer (some ⟨pd, 0, none⟩), .int .i64 49, .int .i64 16, .int .u32 (I32 eu)] (w4.alloc (.cells #[.int .i64 C, .int .i64 B, .slice sa sn sc] 30)) _ from HOP.out eu (w4.alloc (.cells #[.int .i64 C, .int .i64 B, .slice sa sn sc] 30)) HD5.out).mono ?_
  rintro ev w6 ⟨pl, ov, pre, bl, hbl, hbs, hno, rfl, hfo, hown, hb6⟩
  have hbe := HBK.out bl hbl hbs
  rw [hbe] at hno hfo
  obtain ⟨hpl, hp16, hpr⟩ := hfo.pays hno
  obtain ⟨ps, hps⟩ : ∃ ps, ps = paysM eu (blksM d 49 16) := ⟨_, rfl⟩
  rw [← hps] at hpl hpr HK
  have hp16 : pre.length ≤ 16 := by rw [← hbe, hbl] at hp16; exact hp16
  obtain ⟨oa, oc, rfl, _⟩ := own_slice hown
  have hrl : Rd w6 (.slice oa pre.length oc) pre.length (pre.map (·.2)) := rd_of_own hown
  obtain ⟨np, hnp⟩ : ∃ n, n = pre.length := ⟨_, rfl⟩
  rw [← hnp] at hrl ⊢
  have HNP := Lib.hid hnp
  have HP16 := Lib.hid (show np ≤ 16 by omega)
  have np0 : (np : Int) ≤ 16 := by omega
  have HRL := Lib.hid hrl
  have HPR := Lib.hid hpr
  have HPL := Lib.hid hpl
  obtain ⟨q, hq⟩ : ∃ q, q = w4.heap.size := ⟨_, rfl⟩
  have HX6 := Lib.hid (HX5.out.below hb6)
  have HZ6 := Lib.hid (HZ5.out.below hb6)
  have HS6 := Lib.hid (HS5.out.below hb6)
  have HB6 := Lib.hid (HB5.out.trans (hb6.mono HB5.out.size))
  have HQ6 := Lib.hid (show w.heap.size < w4.heap.size from HQ4.out)
  rw [← hq] at HX6 HQ6 ⊢
  clear hbl hbs hno hfo hown hb6 hbe hpl hp16 hpr hps hrl hnp HX5 HZ5 HS5 HB5 HD5 HOP HBK hq HQ4 HSH
  go_wp2_with fail
  go_loopg [11, 54] np (fun gk ov iv wr => ∃ (k : Nat) (E : List EvtM), gk + k = np ∧ iv = .int .i64 (k : Int) ∧ OwnE wr w6.heap.size ov E ∧ E.length ≤ k ∧ evsM ps = E ++ evsM (ps.drop k) ∧ (∀ e ∈ E, EvOk e) ∧ Below w6.heap.size w6 wr)
  case atStart => exact ⟨0, [], Nat.add_zero _, rfl, OwnE.nil _ _, Nat.le_refl _, rfl, (fun e he => by cases he), Below.refl _ _⟩
  case round =>
    obtain ⟨k, E, hgk, rfl, hown, hel, hev, hok, hbr⟩ := hrel
    have k0 : (0 : Int) ≤ (k : Int) := by omega
    have HGK := Lib.hid hgk
    have HO := Lib.hid hown
    have HEL := Lib.hid hel
    have HEV := Lib.hid hev
    have HOK := Lib.hid hok
    have HBR := Lib.hid hbr
    clear hgk hown hel hev hok hbr
    by_cases hk : k < np
    rotate_left
    · have k1 : ¬ (k : Int) < (np : Int) := by omega
      have hde : evsM ps = E := by
        have h := HEV.out
        rw [List.drop_of_length_le (show ps.length ≤ k by have := HNP.out; have := HPL.out; omega)] at h
        rw [h]; exact List.append_nil E
      clear hk
      have hbx := HX6.out.below HBR.out
      have hbz := HZ6.out.below HBR.out
      have hpa := allP_calls ⟨C, B, L⟩ E (.slice sa sn sc) _ wr (HS6.out.below HBR.out) HO.out.rd (by have := HLS.out; have := HEL.out; have := HP16.out; have := HGK.out; show L.length + E.length ≤ _; omega) HOK.out
      rw [hde] at HK
      obtain ⟨R, hR⟩ : ∃ R, R = allM ⟨C, B, L⟩ E := ⟨_, rfl⟩
      rw [← hR] at hpa HK
      have HPA := Lib.hid hpa
      obtain ⟨es, ec, hes, _⟩ := HO.out.slice
      subst hes
      obtain ⟨en, hen⟩ : ∃ n, n = E.length := ⟨_, rfl⟩
      rw [← hen] at HPA ⊢
      have c0 : wr.cell? ⟨q, 0, none⟩ = some (.int .i64 C) := hbx.cell 0 _ rfl
      have c1 : wr.cell? ⟨q, 1, none⟩ = some (.int .i64 B) := hbx.cell 1 _ rfl
      have c2 : wr.cell? ⟨q, 2, none⟩ = some (.slice sa sn sc) := hbx.cell 2 _ rfl
      have HBX := Lib.hid hbx
      have HBZ := Lib.hid hbz
      have HBW := Lib.hid (HB6.out.trans (HBR.out.mono HB6.out.size))
      clear hbx hbz hpa hR hen hde HEV HPR
      go_wp2_with fail
      refine HPA.out.mono ?_
      rintro ev wm ⟨o, rfl, ho, hbm⟩
      obtain ⟨ra, rc, rfl, _⟩ := ho.slice
      obtain ⟨⟨RC, RB, RL⟩, rn⟩ := R
      simp only at ho ⊢
      obtain ⟨rl, hrl⟩ : ∃ n, n = RL.length := ⟨_, rfl⟩
      rw [← hrl] at ho ⊢
      have hx2 := HBX.out.below hbm
      have hz2 := HBZ.out.below hbm
      clear c0 c1 c2
      have c0 : wm.cell? ⟨q, 0, none⟩ = some (.int .i64 C) := hx2.cell 0 _ rfl
      have c1 : wm.cell? ⟨q, 1, none⟩ = some (.int .i64 B) := hx2.cell 1 _ rfl
      have c2 : wm.cell? ⟨q, 2, none⟩ = some (.slice sa sn sc) := hx2.cell 2 _ rfl
      have f0 := hx2.free 0
      have f1 := hx2.free 1
      have f2 := hx2.free 2
      have hm1 := Mod.set3 q wm (.int .i64 RC) (.int .i64 RB) (.slice ra rl rc)
      have z0 : wm.cell? ⟨w.heap.size, 0, none⟩ = some (.int .i64 0) := hz2.cell 0 _ rfl
      have z1 : wm.cell? ⟨w.heap.size, 1, none⟩ = some (.int .i64 0) := hz2.cell 1 _ rfl
      have z2 : wm.cell? ⟨w.heap.size, 2, none⟩ = some (.slice none 0 0) := hz2.cell 2 _ rfl
      have y0 := hz2.free 0
      have y1 := hz2.free 1
      have y2 := hz2.free 2
      have hqn : ¬ q = w.heap.size := by have := HQ6.out; omega
      have hqm : ¬ w.heap.size = q := by have := HQ6.out; omega
      have hb1 := HBW.out.trans (hbm.mono HBW.out.size)
      have hb2 := hb1.trans (hm1.below hb1.size (fun i hi => by have := HQ6.out; omega))
      have hm2 := Mod.set3 w.heap.size (((wm.setCell ⟨q, 0, none⟩ (.int .i64 RC)).setCell ⟨q, 1, none⟩ (.int .i64 RB)).setCell ⟨q, 2, none⟩ (.slice ra rl rc)) (.int .i64 RC) (.int .i64 RB) (.slice ra rl rc)
      have hz3 := hz2.mod hm1 (fun e => hqm e)
      have hw1 : w.heap.size ≤ wr.heap.size := Nat.le_trans (Nat.le_of_lt HQ6.out) (Nat.le_of_lt HBX.out.lt)
      have ho1 := (ho.base (base' := w.heap.size) hw1).mod hm1 (fun k hk e => by have := (ho.lt k hk).1; have := HBX.out.lt; omega)
      have ho2 := ho1.mod hm2 (fun k hk e => by have := (ho.lt k hk).1; have := HBX.out.lt; have := HQ6.out; omega)
      have hz4 := ((hz3.set 0 (.int .i64 RC)).set 1 (.int .i64 RB)).set 2 (.slice ra rl rc)
      have hb3 := hb2.trans (hm2.below hb2.size (fun i hi => Nat.le_of_eq hi.symm))
      have HF := Lib.hid (show Box ((((((wm.setCell ⟨q, 0, none⟩ (.int .i64 RC)).setCell ⟨q, 1, none⟩ (.int .i64 RB)).setCell ⟨q, 2, none⟩ (.slice ra rl rc)).setCell ⟨w.heap.size, 0, none⟩ (.int .i64 RC)).setCell ⟨w.heap.size, 1, none⟩ (.int .i64 RB)).setCell ⟨w.heap.size, 2, none⟩ (.slice ra rl rc)) w.heap.size #[.int .i64 RC, .int .i64 RB, .slice ra rl rc] 30 ∧ OwnS ((((((wm.setCell ⟨q, 0, none⟩ (.int .i64 RC)).setCell ⟨q, 1, none⟩ (.int .i64 RB)).setCell ⟨q, 2, none⟩ (.slice ra rl rc)).setCell ⟨w.heap.size, 0, none⟩ (.int .i64 RC)).setCell ⟨w.heap.size, 1, none⟩ (.int .i64 RB)).setCell ⟨w.heap.size, 2, none⟩ (.slice ra rl rc)) w.heap.size (.slice ra rl rc) RL ∧ Below w.heap.size w ((((((wm.setCell ⟨q, 0, none⟩ (.int .i64 RC)).setCell ⟨q, 1, none⟩ (.int .i64 RB)).setCell ⟨q, 2, none⟩ (.slice ra rl rc)).setCell ⟨w.heap.size, 0, none⟩ (.int .i64 RC)).setCell ⟨w.heap.size, 1, none⟩ (.int .i64 RB)).setCell ⟨w.heap.size, 2, none⟩ (.slice ra rl rc)) from ⟨hz4, ho2, hb3⟩)
      obtain rfl : K = (⟨RC, RB, RL⟩, eu, 0) := HK.out
      clear hm1 hm2 hz3 hx2 hz2 hb1 hb2 hw1 ho1 ho2 hz4 hb3 ho hbm HBX HBZ HBW HK HPA hrl
      go_wp2_with fail
      clear c0 c1 c2 f0 f1 f2 z0 z1 z2 y0 y1 y2 hqn hqm
      generalize ((((((wm.setCell ⟨q, 0, none⟩ (.int .i64 RC)).setCell ⟨q, 1, none⟩ (.int .i64 RB)).setCell ⟨q, 2, none⟩ (.slice ra rl rc)).setCell ⟨w.heap.size, 0, none⟩ (.int .i64 RC)).setCell ⟨w.heap.size, 1, none⟩ (.int .i64 RB)).setCell ⟨w.heap.size, 2, none⟩ (.slice ra rl rc)) = wz at HF ⊢
      refine ret_cell_tmp2 rfl rfl w.heap.size 0 rfl [.int .i64 RC, .int .i64 RB, .slice ra rl rc] _ (zrangeS HF.out.1) Tryz.underlying30 rfl (by kernel_rfl) _ _ rfl rfl ?_
      exact ⟨.slice ra rl rc, rfl, HF.out.2.1, HF.out.2.2⟩
    have k1 : (k : Int) < (np : Int) := by omega
    have hkl : k < pre.length := by have := HNP.out; omega
    have HK2 := Lib.hid hk
    obtain ⟨p, hp1, hp2, hp3⟩ := HPR.out k hkl
    obtain ⟨cb, co, hca, hcc⟩ := wants_at (HRL.out.below HBR.out) k hkl
    subst hca
    obtain ⟨x, hx⟩ : ∃ x, x = pre[k].2 := ⟨_, rfl⟩
    rw [← hx] at hp3 hcc
    obtain ⟨pn, hpn⟩ : ∃ n, n = p.length := ⟨_, rfl⟩
    obtain ⟨pa, pc, rfl⟩ : ∃ a c, x = .slice a pn c := by obtain ⟨a, c, h, _⟩ := hp3; exact ⟨a, c, by rw [hpn]; exact h⟩
    have hdc := dec_calls (.slice pa pn pc) p wr (hp3.below HBR.out) (Nat.le_trans hp2 (by decide))
    have hst := evsM_step hp1
    have hdk := fun h => decM_ok (b := p) h
    obtain ⟨D, hD⟩ : ∃ D, D = decM p := ⟨_, rfl⟩
    rw [← hD] at hdc hst hdk
    obtain ⟨de, dx⟩ := D
    simp only at hdc hst hdk
    have HDC := Lib.hid hdc
    have HST := Lib.hid hst
    have HDK := Lib.hid hdk
    clear hk hkl hp1 hp2 hp3 hx hpn hdc hst hdk hD
    go_wp2_with fail
    refine HDC.out.mono ?_
    rintro ev w8 ⟨rfl, hb8⟩
    have HO8 := Lib.hid (HO.out.below hb8)
    have HB8 := Lib.hid (HBR.out.trans (hb8.mono HBR.out.size))
    clear hb8 HO HBR hcc HDC
    go_wp2_with ((with_reducible refine wpList_store_k ?a0 47 (.tmp 14) (.tmp 61) ?a1 w8.heap.size 0 dx.cells.toList ?a2 dx.cells ?a3 (EvtM.listE _) ?a5 ?a6 ?a7 ?a8); (case a1 => rfl); (case a0 => rfl); (case a2 => rfl); (case a3 => rfl); (case a5 => exact thereZE _ _); (case a6 => kernel_rfl); (case a7 => exact EvtM.oneE _))
    intro w9 hw9
    obtain ⟨hpx, hb9⟩ := putZE hw9
    have HO9 := Lib.hid (HO8.out.below hb9)
    have HB9 := Lib.hid (HB8.out.trans (hb9.mono HB8.out.size))
    have HPX := Lib.hid hpx.rangeV
    clear hw9 hpx hb9 HO8 HB8
    by_cases h0 : de = 0
    rotate_left
    · rw [show errV de = .iface 91 (.int .i64 de) from if_neg h0]
      rw [if_neg h0] at HST
      have hde : evsM ps = E := by
        have h := HEV.out
        rw [HST.out] at h
        rw [h]; exact List.append_nil E
      clear h0 HPX HST HDK HEV
      have hbx := HX6.out.below HB9.out
      have hbz := HZ6.out.below HB9.out
      have hpa := allP_calls ⟨C, B, L⟩ E (.slice sa sn sc) _ w9 (HS6.out.below HB9.out) HO9.out.rd (by have := HLS.out; have := HEL.out; have := HP16.out; have := HGK.out; show L.length + E.length ≤ _; omega) HOK.out
      rw [hde] at HK
      obtain ⟨R, hR⟩ : ∃ R, R = allM ⟨C, B, L⟩ E := ⟨_, rfl⟩
      rw [← hR] at hpa HK
      have HPA := Lib.hid hpa
      obtain ⟨es, ec, hes, _⟩ := HO9.out.slice
      subst hes
      obtain ⟨en, hen⟩ : ∃ n, n = E.length := ⟨_, rfl⟩
      rw [← hen] at HPA ⊢
      have c0 : w9.cell? ⟨q, 0, none⟩ = some (.int .i64 C) := hbx.cell 0 _ rfl
      have c1 : w9.cell? ⟨q, 1, none⟩ = some (.int .i64 B) := hbx.cell 1 _ rfl
      have c2 : w9.cell? ⟨q, 2, none⟩ = some (.slice sa sn sc) := hbx.cell 2 _ rfl
      have HBX := Lib.hid hbx
      have HBZ := Lib.hid hbz
      have HBW := Lib.hid (HB6.out.trans (HB9.out.mono HB6.out.size))
      clear hbx hbz hpa hR hen hde HPR
      go_wp2_with fail
      refine HPA.out.mono ?_
      rintro ev wm ⟨o, rfl, ho, hbm⟩
      obtain ⟨ra, rc, rfl, _⟩ := ho.slice
      obtain ⟨⟨RC, RB, RL⟩, rn⟩ := R
      simp only at ho ⊢
      obtain ⟨rl, hrl⟩ : ∃ n, n = RL.length := ⟨_, rfl⟩
      rw [← hrl] at ho ⊢
      have hx2 := HBX.out.below hbm
      have hz2 := HBZ.out.below hbm
      clear c0 c1 c2
      have c0 : wm.cell? ⟨q, 0, none⟩ = some (.int .i64 C) := hx2.cell 0 _ rfl
      have c1 : wm.cell? ⟨q, 1, none⟩ = some (.int .i64 B) := hx2.cell 1 _ rfl
      have c2 : wm.cell? ⟨q, 2, none⟩ = some (.slice sa sn sc) := hx2.cell 2 _ rfl
      have f0 := hx2.free 0
      have f1 := hx2.free 1
      have f2 := hx2.free 2
      have hm1 := Mod.set3 q wm (.int .i64 RC) (.int .i64 RB) (.slice ra rl rc)
      have z0 : wm.cell? ⟨w.heap.size, 0, none⟩ = some (.int .i64 0) := hz2.cell 0 _ rfl
      have z1 : wm.cell? ⟨w.heap.size, 1, none⟩ = some (.int .i64 0) := hz2.cell 1 _ rfl
      have z2 : wm.cell? ⟨w.heap.size, 2, none⟩ = some (.slice none 0 0) := hz2.cell 2 _ rfl
      have y0 := hz2.free 0
      have y1 := hz2.free 1
      have y2 := hz2.free 2
      have hqn : ¬ q = w.heap.size := by have := HQ6.out; omega
      have hqm : ¬ w.heap.size = q := by have := HQ6.out; omega
      have hb1 := HBW.out.trans (hbm.mono HBW.out.size)
      have hb2 := hb1.trans (hm1.below hb1.size (fun i hi => by have := HQ6.out; omega))
      have hm2 := Mod.set3 w.heap.size (((wm.setCell ⟨q, 0, none⟩ (.int .i64 RC)).setCell ⟨q, 1, none⟩ (.int .i64 RB)).setCell ⟨q, 2, none⟩ (.slice ra rl rc)) (.int .i64 RC) (.int .i64 RB) (.slice ra rl rc)
      have hz3 := hz2.mod hm1 (fun e => hqm e)
      have hw1 : w.heap.size ≤ w9.heap.size := Nat.le_trans (Nat.le_of_lt HQ6.out) (Nat.le_of_lt HBX.out.lt)
      have ho1 := (ho.base (base' := w.heap.size) hw1).mod hm1 (fun k hk e => by have := (ho.lt k hk).1; have := HBX.out.lt; omega)
      have ho2 := ho1.mod hm2 (fun k hk e => by have := (ho.lt k hk).1; have := HBX.out.lt; have := HQ6.out; omega)
      have hz4 := ((hz3.set 0 (.int .i64 RC)).set 1 (.int .i64 RB)).set 2 (.slice ra rl rc)
      have hb3 := hb2.trans (hm2.below hb2.size (fun i hi => Nat.le_of_eq hi.symm))
      have HF := Lib.hid (show Box ((((((wm.setCell ⟨q, 0, none⟩ (.int .i64 RC)).setCell ⟨q, 1, none⟩ (.int .i64 RB)).setCell ⟨q, 2, none⟩ (.slice ra rl rc)).setCell ⟨w.heap.size, 0, none⟩ (.int .i64 RC)).setCell ⟨w.heap.size, 1, none⟩ (.int .i64 RB)).setCell ⟨w.heap.size, 2, none⟩ (.slice ra rl rc)) w.heap.size #[.int .i64 RC, .int .i64 RB, .slice ra rl rc] 30 ∧ OwnS ((((((wm.setCell ⟨q, 0, none⟩ (.int .i64 RC)).setCell ⟨q, 1, none⟩ (.int .i64 RB)).setCell ⟨q, 2, none⟩ (.slice ra rl rc)).setCell ⟨w.heap.size, 0, none⟩ (.int .i64 RC)).setCell ⟨w.heap.size, 1, none⟩ (.int .i64 RB)).setCell ⟨w.heap.size, 2, none⟩ (.slice ra rl rc)) w.heap.size (.slice ra rl rc) RL ∧ Below w.heap.size w ((((((wm.setCell ⟨q, 0, none⟩ (.int .i64 RC)).setCell ⟨q, 1, none⟩ (.int .i64 RB)).setCell ⟨q, 2, none⟩ (.slice ra rl rc)).setCell ⟨w.heap.size, 0, none⟩ (.int .i64 RC)).setCell ⟨w.heap.size, 1, none⟩ (.int .i64 RB)).setCell ⟨w.heap.size, 2, none⟩ (.slice ra rl rc)) from ⟨hz4, ho2, hb3⟩)
      obtain rfl : K = (⟨RC, RB, RL⟩, eu, 0) := HK.out
      clear hm1 hm2 hz3 hx2 hz2 hb1 hb2 hw1 ho1 ho2 hz4 hb3 ho hbm HBX HBZ HBW HK HPA hrl
      go_wp2_with fail
      clear c0 c1 c2 f0 f1 f2 z0 z1 z2 y0 y1 y2 hqn hqm
      generalize ((((((wm.setCell ⟨q, 0, none⟩ (.int .i64 RC)).setCell ⟨q, 1, none⟩ (.int .i64 RB)).setCell ⟨q, 2, none⟩ (.slice ra rl rc)).setCell ⟨w.heap.size, 0, none⟩ (.int .i64 RC)).setCell ⟨w.heap.size, 1, none⟩ (.int .i64 RB)).setCell ⟨w.heap.size, 2, none⟩ (.slice ra rl rc)) = wz at HF ⊢
      refine ret_cell_tmp2 rfl rfl w.heap.size 0 rfl [.int .i64 RC, .int .i64 RB, .slice ra rl rc] _ (zrangeS HF.out.1) Tryz.underlying30 rfl (by kernel_rfl) _ _ rfl rfl ?_
      exact ⟨.slice ra rl rc, rfl, HF.out.2.1, HF.out.2.2⟩
    rw [show errV de = .nilIface from if_pos h0]
    rw [if_pos h0] at HST
    have HDX := Lib.hid (HDK.out h0)
    clear h0 HDK
    go_wp2_with ((with_reducible refine wpList_load_k ?b01 47 (.tmp 14) ?b11 w8.heap.size 0 ?b21 dx.cells.toList _ HPX.out Tryz.underlying47 ?b31 ?b41 ?b81); (case b11 => rfl); (case b01 => rfl); (case b21 => rfl); (case b31 => rfl); (case b41 => kernel_rfl))
    intro cv hcv
    have ecv : cv = dx.cells := by rw [hcv.out]
    subst ecv
    clear hcv HPX
    go_wp2_with (refine wpList_buildSlice_s (op := ⟨some 67, _, _, _, _, _⟩) (by rfl) 22 1 #[(0, .tmp 66)] rfl #[(0, .agg dx.cells)] (by kernel_rfl) _ _ (buildE dx w9) ?_)
    intro wa hwa
    have hba : Below w9.heap.size w9 wa := by rw [hwa.out]; exact below_alloc _ _
    have HC2 := Lib.hid (show ∀ j u, dx.cells.toList[j]? = some u → wa.cell? ((⟨w9.heap.size, 0, none⟩ : Addr).add j) = some u by rw [hwa.out]; exact newCellsE w9 dx _)
    have HO2 := Lib.hid (HO9.out.below hba)
    have HB2 := Lib.hid (HB9.out.trans (hba.mono HB9.out.size))
    have HLK := Lib.hid (show E.length + 1 ≤ 1034834473200 by have := HEL.out; have := HK2.out; have := HP16.out; omega)
    clear hwa hba HO9 HB9
    go_wp2_with (at_builtin; refine appEvt rfl _ _ rfl w6.heap.size _ E rfl HO2.out ⟨w9.heap.size, 0, none⟩ 1 dx rfl HC2.out HLK.out (by have := HB2.out.size; omega) ?_)
    intro v' w3' hown' hg' _
    have HB3 := Lib.hid (HB2.out.trans (below_grown hg' HB2.out.size (fun q hq => (HO2.out.lt q hq).1)))
    have HO3 := Lib.hid hown'
    clear hg' hown' HO2 HB2 HC2
    go_wp2_with fail
    go_roundg (np - (k + 1))
    case measure => have := HGK.out; have := HK2.out; omega
    case rel => exact ⟨k + 1, E ++ [dx], by have := HGK.out; have := HK2.out; omega, by go_num, HO3.out, by rw [List.length_append, List.length_singleton]; have := HEL.out; omega, by rw [HEV.out, HST.out, List.append_assoc]; rfl, fun e he => by
      rcases List.mem_append.1 he with he | he
      · exact HOK.out e he
      · rw [List.mem_singleton.1 he]; exact HDX.out, HB3.out⟩
end Go.Proofs.YtgcnolapjppbpaaGreatDoor
