/-
  Texts of one proof, one behind the other.
-/
import Derived.Test.YtgcnolapjppbpaaGreatDoorK52
namespace Go.Proofs.YtgcnolapjppbpaaGreatDoor
open Go.RowKit
set_option maxRecDepth 100000
theorem sameSt_self (st : StM) : sameSt st st = true := by simp [sameSt, sameL_iff]
theorem LivI.cut {w wr w2 : World} {pd ps pl q : Nat} {F F2 : Nat → Prop} {d : DiskM} {s : StoM} {st : StM} {sv : Value} (h : LivI w wr pd ps pl q F d s st sv) (m : Nat) (hd : IsDisk w2 { d with left := some m } pd F2) (hm : Mod F wr w2) (hF : ∀ k, F2 k → F k ∨ wr.heap.size ≤ k) : LivI w w2 pd ps pl q F2 { d with left := some m } s st sv := by
  have hn : ∀ k, k < wr.heap.size → ¬ F k → ¬ F2 k := fun k hk hf h => (hF k h).elim hf (fun g => by omega)
  exact ⟨hd, h.sb.mod hm h.np.1, Box.mod h.lg hm h.np.2.1, ⟨hn _ h.sb.bx.lt h.np.1, hn _ h.lg.lt h.np.2.1, h.np.2.2⟩, ⟨hn _ h.bx.lt h.nq.1, h.nq.2⟩, ⟨fun k hk => (hF k hk).elim (h.lo.1 k) (fun g => Nat.le_trans h.bel.size g), h.lo.2⟩, h.si.left _, h.al, h.bx.mod hm h.nq.1, h.rs.mod hm (fun k hk => (h.nv k hk).1), fun k hk => by
    have h1 := h.nv k hk
    exact ⟨hn _ h1.2.2.2.2 h1.1, h1.2.1, h1.2.2.1, h1.2.2.2.1, Nat.lt_of_lt_of_le h1.2.2.2.2 hm.size⟩, h.bel.trans (hm.below h.bel.size (fun k hk => h.lo.1 k hk))⟩
set_option maxHeartbeats 25600000 in
theorem storeKeeps_calls (l : List EvtM) (ev : Value) (fs : List FailM) (fv : Value) (w : World) (hev : RdE w ev l) (hok : ∀ e ∈ l, EvOk e) (hfv : Rd w fv fs.length (fs.flatMap FailM.cells)) (hfk : ∀ f ∈ fs, f.Ok w) (hg : ErrType w) :
    Calls Tryz.prog 3 #[ev, fv] w fun e w' => e = .returned (.bool true) ∧ Below w.heap.size w w' := by
  have HOK := Lib.hid hok
  have HEV := Lib.hid hev
  have HG := Lib.hid hg
  have HG0 := Lib.hid hg.lt
  have HFK := Lib.hid hfk
  obtain ⟨ea, ec, rfl, _, he2⟩ := hev.slice
  have hln : l.length ≤ 9223372036854775807 := by omega
  obtain ⟨fa, fc, rfl⟩ : ∃ a c, fv = .slice a fs.length c := by obtain ⟨a, c, h, _⟩ := hfv; exact ⟨a, c, h⟩
  have hfl : fs.length ≤ 9223372036854775807 := by obtain ⟨_, _, e, h1, h2, _⟩ := hfv; injection e with _ e2 e3; omega
  clear hev hok he2 hg hfk
  obtain ⟨n, hN⟩ : ∃ n, n = l.length := ⟨_, rfl⟩
  obtain ⟨fn, hFN⟩ : ∃ n, n = fs.length := ⟨_, rfl⟩
  rw [← hN] at hln HEV ⊢
  rw [← hFN] at hfl hfv ⊢
  have HN := Lib.hid hN
  have HFN := Lib.hid hFN
  have HFV := Lib.hid hfv
  clear hN hFN hfv
  go_enter Tryz.func3, Tryz.ntmps3
  go_wp2_with fail
  refine (fresh26_calls w).mono ?_
  rintro e1 w1 ⟨pd, F, rfl, hd, hb, hF⟩
  have HB1 := Lib.hid hb
  have HF := Lib.hid hF
  have HD := Lib.hid hd
  clear hb hF hd
  go_wp2_with fail
  refine (works26_calls w1).mono ?_
  rintro e1 w2 ⟨rfl, hb⟩
  have HB2 := Lib.hid (HB1.out.trans (hb.mono HB1.out.size))
  have HD2 := Lib.hid (HD.out.grow hb)
  clear hb HD HB1
  by_cases hlen : (150 : Int) < (n : Int)
  · go_wp2_with fail
    refine (works26_calls w2).mono ?_
    rintro e1 w3 ⟨rfl, hb⟩
    have HB3 := Lib.hid (HB2.out.trans (hb.mono HB2.out.size))
    clear hb HB2
    go_wp2_with fail
    go_ret
    exact ⟨rfl, HB3.out⟩
  have HLN := Lib.hid (show n ≤ 150 by omega)
  have hag := again_calls _ pd F (.slice none 0 0) [] noSt 0 w2 HD2.out fresh_kept (.inl rfl) (by decide) (by decide) (Rd.nil w2) (fun x hx => by cases hx) (fun h => absurd h (by decide)) (HG.out.below HB2.out) (fun h => by have := HF.out 0 h; have := HG0.out; omega)
  have HAG := Lib.hid hag
  clear hag
  go_wp2_with fail
  refine (show Calls _ _ #[.pointer (some ⟨pd, 0, none⟩), .slice none 0 0] w2 _ from HAG.out).mono ?_
  rintro e1 w3 ⟨ps, o, rfl, hr⟩
  obtain ⟨F3, pl, d3, r1, r2, r3, r4, r5, r6, r7, r8, r9, r10, r11, r12, r13, r14⟩ := hr.ex
  have how := hr.ow
  obtain ⟨oa, oc, rfl, _⟩ := how.slice
  rw [show noSt.clock = 0 from rfl, show noSt.births = 0 from rfl, show noSt.l.length = 0 from rfl] at *
  have hba := below_alloc w3 (.cells #[.int .i64 0, .int .i64 0, .slice oa 0 oc] 30)
  have hbm : Below w.heap.size w w3 := HB2.out.trans (hr.md.below HB2.out.size (fun k hk => HF.out k hk))
  obtain ⟨e1, he1⟩ : ∃ e : UInt32, e = 0 + 1 := ⟨_, rfl⟩
  rw [← he1] at r8 r9 r10
  have HL0 := Lib.hid (show LivI w (w3.alloc (.cells #[.int .i64 0, .int .i64 0, .slice oa 0 oc] 30)) pd ps pl w3.heap.size F3 d3 ⟨e1, logN e1, false⟩ noSt (.slice oa 0 oc) from
    ⟨r1.grow hba, r8.below hba, Box.below r9 hba, ⟨r5, r6, r7⟩, ⟨fun h => by have := r1.lt _ h; omega, fun h => by have := r8.bx.lt; omega, fun h => by have := r9.lt; omega⟩, ⟨fun k hk => by
      rcases r2 k hk with g | g
      · exact HF.out k g
      · have := HB2.out.size; omega, by have := HB2.out.size; omega, by have := HB2.out.size; omega, hbm.size⟩, r10, ⟨rfl, rfl⟩, Box.new _ _ _, how.rd.below hba, fun k hk => ⟨(r12 k hk).2.1, (r12 k hk).2.2.1, (r12 k hk).2.2.2, by have := (how.lt k hk).2; omega, by have := (how.lt k hk).2; rw [World.size_alloc]; omega⟩, hbm.trans (hba.mono hbm.size)⟩)
  have HTR := Lib.hid (show d3.trail.length ≤ 20000 by simpa using r13)
  have HE1 := Lib.hid (show e1.toNat = 1 by rw [he1]; rfl)
  clear r1 r2 r3 r4 r5 r6 r7 r8 r9 r10 r11 r12 r13 r14 how hr hba hbm he1 HAG HD2 HB2 HF hlen
  go_wp2_with fail
  generalize (w3.alloc (.cells #[.int .i64 0, .int .i64 0, .slice oa 0 oc] 30)) = w4 at HL0 ⊢
  generalize w3.heap.size = q at HL0 ⊢
  go_loopg [6, 9] n (fun gk pv iv wr => ∃ (k : Nat) (F : Nat → Prop) (ps pl : Nat) (d : DiskM) (s : StoM) (st : StM) (sv : Value), gk + k = n ∧ pv = .pointer (some ⟨ps, 0, none⟩) ∧ iv = .int .i64 (k : Int) ∧ LivI w wr pd ps pl q F d s st sv ∧ d.trail.length ≤ 20000 + 30000 * k ∧ s.epoch.toNat ≤ 1 + 2 * k)
  case atStart => exact ⟨0, F3, ps, pl, d3, _, noSt, _, Nat.add_zero _, rfl, rfl, HL0.out, by have := HTR.out; omega, by have := HE1.out; show e1.toNat ≤ 1 + 2 * 0; omega⟩
  case round =>
    clear HL0 HTR HE1
    obtain ⟨k, F, ps, pl, d, s, st, sv, hgk, rfl, rfl, hI, htr, hep⟩ := hrel
    have k0 : (0 : Int) ≤ (k : Int) := by omega
    have HGK := Lib.hid hgk
    have HI := Lib.hid hI
    have HTR := Lib.hid htr
    have HEP := Lib.hid hep
    clear hgk hI htr hep
    by_cases hk : k < n
    rotate_left
    · have k1 : ¬ (k : Int) < (n : Int) := by omega
      have k2 : decide ((k : Int) < (n : Int)) = false := by simpa using k1
      clear hk
      have hag := again_calls d pd F (.slice none 0 0) [] st s.epoch wr HI.out.dk HI.out.si.kept.d (.inl rfl) (by have := HEP.out; have := HLN.out; have := HGK.out; omega) (by have := HTR.out; have := HLN.out; have := HGK.out; omega) (Rd.nil wr) (fun x hx => by cases hx) (fun h => absurd h (by decide)) (HG.out.below HI.out.bel) (fun h => by have := HI.out.lo.1 0 h; have := HG0.out; omega)
      obtain ⟨c, hcc⟩ : ∃ c, c = st.clock := ⟨_, rfl⟩
      obtain ⟨b, hbb⟩ : ∃ b, b = st.births := ⟨_, rfl⟩
      obtain ⟨sn, hsn⟩ : ∃ n, n = st.l.length := ⟨_, rfl⟩
      have hss := fun v v' W h h' => sameState_calls st st v v' W h h'
      rw [sameSt_self] at hss
      have hbx := HI.out.bx
      obtain ⟨sa, sc, rfl, _⟩ := HI.out.rs.slice
      have hrs := HI.out.rs
      rw [← hcc, ← hbb] at hag hss hbx
      rw [← hsn] at hbx hrs
      have hnv := HI.out.nv
      rw [← hsn] at hnv
      have HAG := Lib.hid hag
      have HSS := Lib.hid hss
      have HBX := Lib.hid hbx
      have HRS := Lib.hid hrs
      have HNV := Lib.hid hnv
      have HSN := Lib.hid hsn
      clear hag hss hbx hrs hnv hcc hbb hsn
      go_wp2_with fail
      refine (show Calls _ _ #[.pointer (some ⟨pd, 0, none⟩), .slice none 0 0] wr _ from HAG.out).mono ?_
      rintro ev w5 ⟨ps5, o, rfl, hr⟩
      obtain ⟨oa, oc, rfl, _⟩ := hr.ow.slice
      have how := hr.ow.rd
      rw [← HSN.out] at how ⊢
      have hba := below_alloc w5 (.cells #[.int .i64 c, .int .i64 b, .slice oa sn oc] 30)
      have hx := (HBX.out.mod hr.md HI.out.nq.1).below hba
      have c0 : (w5.alloc (.cells #[.int .i64 c, .int .i64 b, .slice oa sn oc] 30)).cell? ⟨q, 0, none⟩ = some (.int .i64 c) := hx.cell 0 _ rfl
      have c1 : (w5.alloc (.cells #[.int .i64 c, .int .i64 b, .slice oa sn oc] 30)).cell? ⟨q, 1, none⟩ = some (.int .i64 b) := hx.cell 1 _ rfl
      have c2 : (w5.alloc (.cells #[.int .i64 c, .int .i64 b, .slice oa sn oc] 30)).cell? ⟨q, 2, none⟩ = some (.slice sa sn sc) := hx.cell 2 _ rfl
      have HS6 := Lib.hid (HSS.out (.slice oa sn oc) (.slice sa sn sc) _ (how.below hba) ((HRS.out.mod hr.md (fun k hk => (HNV.out k hk).1)).below hba))
      have hb5 := HI.out.bel.trans (hr.md.below HI.out.bel.size (fun k hk => HI.out.lo.1 k hk))
      have HB6 := Lib.hid (hb5.trans (hba.mono hb5.size))
      clear how hba hx hb5 hr HBX HRS HNV HAG HSS HI
      go_wp2_with fail
      refine (show Calls _ _ #[.agg #[.int .i64 c, .int .i64 b, .slice oa sn oc], .agg #[.int .i64 c, .int .i64 b, .slice sa sn sc]] _ _ from HS6.out).mono ?_
      rintro ev w7 ⟨rfl, hb⟩
      have HB7 := Lib.hid (HB6.out.trans (hb.mono HB6.out.size))
      clear hb HB6 HS6
      go_wp2_with fail
      go_ret
      exact ⟨rfl, HB7.out⟩
    have k1 : (k : Int) < (n : Int) := by omega
    have k2 : decide ((k : Int) < (n : Int)) = true := by simpa using k1
    have HK := Lib.hid hk
    clear hk
    go_wp2_with fail
    go_loopg [10] fn (fun gj jv wr => ∃ (j : Nat) (F : Nat → Prop) (d : DiskM), gj + j = fn ∧ jv = .int .i64 (j : Int) ∧ LivI w wr pd ps pl q F d s st sv ∧ d.trail.length ≤ 20000 + 30000 * k)
    case atStart => exact ⟨0, F, d, Nat.add_zero _, rfl, HI.out, HTR.out⟩
    case round =>
      clear HI HTR
      obtain ⟨j, F, d, hgj, rfl, hI, htr⟩ := hrel
      have j0 : (0 : Int) ≤ (j : Int) := by omega
      have HGJ := Lib.hid hgj
      have HI := Lib.hid hI
      have HTR := Lib.hid htr
      clear hgj hI htr
      by_cases hj : j < fn
      rotate_left
      · have j1 : ¬ (j : Int) < (fn : Int) := by omega
        have j2 : decide ((j : Int) < (fn : Int)) = false := by simpa using j1
        clear hj
        have hkl : k < l.length := by have := HN.out; have := HK.out; omega
        obtain ⟨e, he⟩ : ∃ e, e = l[k] := ⟨_, rfl⟩
        obtain ⟨rb, ro, hra, hrow0⟩ := HEV.out.row k hkl
        subst hra
        rw [← he] at hrow0
        have hrow : wr.rangeAt rb (ro + k * 15) e.cells.toList := fun j v hv => below_heap HI.out.bel (hrow0 j v hv)
        have HROW := Lib.hid hrow
        have HROW0 := Lib.hid hrow0
        have hoe : EvOk e := by rw [he]; exact HOK.out _ (List.getElem_mem hkl)
        have HOE := Lib.hid hoe
        obtain ⟨sa, sc, rfl, _⟩ := HI.out.rs.slice
        obtain ⟨sn, hsn⟩ : ∃ n, n = st.l.length := ⟨_, rfl⟩
        obtain ⟨c, hcc⟩ : ∃ c, c = st.clock := ⟨_, rfl⟩
        obtain ⟨b, hbb⟩ : ∃ b, b = st.births := ⟨_, rfl⟩
        have HSN := Lib.hid (HI.out.si.kept.d.snd)
        have hapc := fun v' w' h => applied_calls st e v' w' h (by have := HSN.out.1.len; omega) (Nat.le_trans hoe.user (by decide)) (Nat.le_trans hoe.label (by decide)) hoe.scopes
        have hbx := HI.out.bx
        rw [← hsn, ← hcc, ← hbb] at hbx
        rw [← hcc, ← hbb] at hapc
        have HBX := Lib.hid hbx
        have HRS := Lib.hid HI.out.rs
        rw [← hsn] at HRS
        obtain ⟨A, hA⟩ : ∃ A, A = applyM st e := ⟨_, rfl⟩
        rw [← hA] at hapc
        obtain ⟨er, C2, B2, L2⟩ := A
        simp only at hapc
        have HA := Lib.hid hA.symm
        have HAP := Lib.hid hapc
        obtain ⟨m, hM⟩ : ∃ m, m = L2.length := ⟨_, rfl⟩
        have HM := Lib.hid hM
        have HSNL := Lib.hid (And.intro hsn (And.intro hcc hbb))
        have HI' := Lib.hid (show LivI w wr pd ps pl q F d s st (.slice sa sn sc) by rw [hsn]; exact HI.out)
        clear hkl he hrow hrow0 hoe hsn hcc hbb hapc hbx hA hM HI
        go_upto_region 13 with (fail)
        go_cut [11, 12] (fun s11 s12 wx => ∃ (q8 : Nat) (o : Value), s11 = .pointer (some ⟨q8, 0, none⟩) ∧ s12 = .bool (er == 0) ∧ LivI w wx pd ps pl q F d s st (.slice sa sn sc) ∧ NxtI wx q q8 ps pl F C2 B2 o L2)
        case first =>
          refine wp_region_held_drew (S := fun W => Below wr.heap.size wr W) (by kernel_rfl) (below_drew wr) (fun hHeld => ?_)
          refine wpAnyH_take (i := 0) (oi := ⟨some 77, .load _ _, _, _, _, _⟩) (v := .agg #[.int .i64 c, .int .i64 b, .slice sa sn sc]) rfl (by kernel_rfl) (by kernel_rfl) (by kernel_rfl) (fun _ _ _ h => h) (Or.inl ⟨by kernel_rfl, fun w' hw' => exec_load_m 30 (.tmp 7) rfl (q) (0) rfl (#[.int .i64 c, .int .i64 b, .slice sa sn sc]).toList _ (zrangeS (HBX.out.below hw')) Tryz.underlying30 rfl (by kernel_rfl)⟩) (by assumption) ?_
          try simp only [Act.put, List.setIfInBounds_toArray, List.set_cons_zero, List.set_cons_succ]
          refine wpAnyH_take (i := 1) (oi := ⟨some 78, _, _, _, _, _⟩) (v := ?_) rfl (by kernel_rfl) (by kernel_rfl) (by kernel_rfl) (fun _ _ _ h => h) (Or.inl ⟨by kernel_rfl, ?_⟩) (by assumption) ?_
          rotate_left 1
          · intro w' hw'; clear hw'; go_simp; try with_reducible rfl
          try simp only [Act.put, List.setIfInBounds_toArray, List.set_cons_zero, List.set_cons_succ]
          refine wpAnyH_take (i := 2) (oi := ⟨some 79, _, _, _, _, _⟩) (v := ?_) rfl (by kernel_rfl) (by kernel_rfl) (by kernel_rfl) (fun _ _ _ h => h) (Or.inl ⟨by kernel_rfl, ?_⟩) (by assumption) ?_
          rotate_left 1
          · intro w' hw'; clear hw'; go_simp; try with_reducible rfl
          try simp only [Act.put, List.setIfInBounds_toArray, List.set_cons_zero, List.set_cons_succ]
          refine wpAnyH_take (i := 3) (oi := ⟨some 80, _, _, _, _, _⟩) (v := ?_) rfl (by kernel_rfl) (by kernel_rfl) (by kernel_rfl) (fun _ _ _ h => h) (Or.inl ⟨by kernel_rfl, ?_⟩) (by assumption) ?_
          rotate_left 1
          · intro w' hw'; clear hw'; go_simp; try with_reducible rfl
          try simp only [Act.put, List.setIfInBounds_toArray, List.set_cons_zero, List.set_cons_succ]
          refine wpAnyH_take (i := 4) (oi := ⟨some 81, .load _ _, _, _, _, _⟩) (v := .agg e.cells) rfl (by kernel_rfl) (by kernel_rfl) (by kernel_rfl) (fun _ _ _ h => h) (Or.inl ⟨by kernel_rfl, fun w' hw' => exec_load_m 47 (.tmp 80) rfl (rb) (ro + k * 15) rfl (e.cells).toList _ (fun j v hv => below_heap hw' (HROW.out j v hv)) Tryz.underlying47 rfl (by kernel_rfl)⟩) (by assumption) ?_
          try simp only [Act.put, List.setIfInBounds_toArray, List.set_cons_zero, List.set_cons_succ]
          refine wpAnyH_ready (rs := [5, 9]) (by kernel_rfl) (by simp) (AllReadyH.cons (o := ⟨some 82, .call _, _, _, _, _⟩) rfl (fun K hK => ?_) (AllReadyH.cons (o := ⟨some 11, .alloc _, _, _, _, _⟩) rfl (fun K hK => ?_) AllReadyH.nil))
          · skip
            go_simp
            refine (HAP.out _ _ (HRS.out.below hHeld)).mono ?_
            rintro e3 w5 ⟨o, rfl, ho, hb3⟩
            have h5' := below_trans hHeld hb3
            refine hK.out _ _ h5' (fun h5 => ?_)
            obtain ⟨oa, oc, rfl, _⟩ := ho.slice
            rw [← HM.out] at ho ⊢
            have HO := Lib.hid ho
            clear ho
            clear hK K hb3 h5'
            try simp only [Act.put, List.setIfInBounds_toArray, List.set_cons_zero, List.set_cons_succ]
            refine wpAnyH_take (i := 6) (oi := ⟨some 76, _, _, _, _, _⟩) (v := ?_) rfl (by kernel_rfl) (by kernel_rfl) (by kernel_rfl) (fun _ _ _ h => h) (Or.inl ⟨by kernel_rfl, ?_⟩) (by assumption) ?_
            rotate_left 1
            · intro w' hw'; clear hw'; go_simp; try with_reducible rfl
            try simp only [Act.put, List.setIfInBounds_toArray, List.set_cons_zero, List.set_cons_succ]
            refine wpAnyH_take (i := 7) (oi := ⟨some 83, _, _, _, _, _⟩) (v := ?_) rfl (by kernel_rfl) (by kernel_rfl) (by kernel_rfl) (fun _ _ _ h => h) (Or.inl ⟨by kernel_rfl, ?_⟩) (by assumption) ?_
            rotate_left 1
            · intro w' hw'; clear hw'; go_simp; try with_reducible rfl
            try simp only [Act.put, List.setIfInBounds_toArray, List.set_cons_zero, List.set_cons_succ]
            refine wpAnyH_take (i := 8) (oi := ⟨some 84, _, _, _, _, _⟩) (v := ?_) rfl (by kernel_rfl) (by kernel_rfl) (by kernel_rfl) (fun _ _ _ h => h) (Or.inl ⟨by kernel_rfl, ?_⟩) (by assumption) ?_
            rotate_left 1
            · intro w' hw'; clear hw'; go_simp; try with_reducible rfl
            try simp only [Act.put, List.setIfInBounds_toArray, List.set_cons_zero, List.set_cons_succ]
            refine wpAnyH_ready (rs := [9]) (by kernel_rfl) (by simp) (AllReadyH.cons (o := ⟨some 11, .alloc _, _, _, _, _⟩) rfl (fun K hK => ?_) AllReadyH.nil)
            go_simp
            have hba := below_alloc w5 (.cells #[.int .i64 0, .int .i64 0, .slice none 0 0] 30)
            have h6' := below_trans h5 hba
            refine hK.out _ _ h6' (fun h6 => ?_)
            have HX8 := Lib.hid (Box.new w5 #[.int .i64 0, .int .i64 0, .slice none 0 0] 30)
            have HQ8 := Lib.hid (show wr.heap.size ≤ (w5).heap.size from (h5).size)
            have HO2 := Lib.hid (HO.out.below hba)
            have HNO := Lib.hid (show ∀ k, (Value.slice oa m oc).ownBlock = some k → k ≠ w5.heap.size from fun k hk => by have := (HO.out.lt k hk).2; omega)
            have HOB := Lib.hid (show wr.heap.size ≤ wr.drew.heap.size from Nat.le_refl _)
            clear HO
            have HO := HO2
            clear HO2
            clear hK K h6' hba
            try simp only [Act.put, List.setIfInBounds_toArray, List.set_cons_zero, List.set_cons_succ]
            refine wpAnyH_ready (rs := [10]) (by kernel_rfl) (by simp) (AllReadyH.cons (o := ⟨none, .store 30 (.tmp 11) (.tmp 83), _, _, _, none⟩) rfl (fun K hK => ?_) AllReadyH.nil)
            rw [if_pos (by kernel_rfl)]
            refine wp_store_kk 30 (.tmp 11) (.tmp 83) rfl (w5.heap.size) 0 [.int .i64 C2, .int .i64 B2, .slice oa m oc] rfl rfl HX8.out.there3 (by kernel_rfl) (one3 _ _ _ _ _) ?_
            obtain ⟨hx9, hm9⟩ := HX8.out.set3 (.int .i64 C2) (.int .i64 B2) (.slice oa m oc)
            have hw9 := (h6).trans (hm9.below (B := wr.heap.size) (h6).size (fun i hi => by have := HQ8.out; omega))
            refine hK.out _ _ hw9 (fun hS9 => ?_)
            have hli := HI'.out.below hw9
            have HF9 := Lib.hid (And.intro hli (show NxtI _ q (w5.heap.size) ps pl F C2 B2 (.slice oa m oc) L2 from
              ⟨hx9, ((HO.out).mod hm9 (fun k hk e => HNO.out k hk e)).rd, ⟨by have h1 := HI'.out.bx.lt; have h2 : wr.heap.size ≤ w5.heap.size := HQ8.out; omega, fun h => by have h1 := HI'.out.dk.lt _ h; have h2 : wr.heap.size ≤ w5.heap.size := HQ8.out; omega, by have h1 := HI'.out.sb.bx.lt; have h2 : wr.heap.size ≤ w5.heap.size := HQ8.out; omega, by have h1 := HI'.out.lg.lt; have h2 : wr.heap.size ≤ w5.heap.size := HQ8.out; omega⟩,
               fun k hk => by
                have h3 := HO.out.lt k hk
                have h4 : wr.heap.size ≤ k := Nat.le_trans HOB.out h3.1
                refine ⟨fun h => by have := HI'.out.dk.lt _ h; omega, by have := HI'.out.sb.bx.lt; omega, by have := HI'.out.lg.lt; omega, by have := HI'.out.bx.lt; omega, HNO.out k hk, ?_⟩
                exact Nat.lt_of_lt_of_le h3.2 hm9.size⟩))
            clear hK K hx9 hm9 hw9 hli HX8 HQ8 HO HNO HOB
            generalize (World.setCells _ _ _ _) = w9 at HF9 hS9 ⊢
            try simp only [Act.put]
            refine wpAnyH_take (i := 11) (oi := ⟨some 12, _, _, _, _, _⟩) (v := ?_) rfl (by kernel_rfl) (by kernel_rfl) (by kernel_rfl) (fun _ _ _ h => h) (Or.inl ⟨by kernel_rfl, ?_⟩) (by assumption) ?_
            rotate_left 1
            · intro w' hw'; clear hw'; go_simp; try with_reducible rfl
            try simp only [Act.put, List.setIfInBounds_toArray, List.set_cons_zero, List.set_cons_succ]
            refine wpAnyH_done (by kernel_rfl) ?_ _
            clear hHeld hS9
            go_wp2_with fail
            go_meet
            exact ⟨_, _, rfl, rfl, HF9.out.1, HF9.out.2⟩
          · skip
            go_simp
            have hba := below_alloc wr.drew (.cells #[.int .i64 0, .int .i64 0, .slice none 0 0] 30)
            have h5' := below_trans hHeld hba
            refine hK.out _ _ h5' (fun h5 => ?_)
            have HX8 := Lib.hid (Box.new wr.drew #[.int .i64 0, .int .i64 0, .slice none 0 0] 30)
            have HQ8 := Lib.hid (show wr.heap.size ≤ (wr.drew).heap.size from (hHeld).size)
            clear hK K h5' hba
            try simp only [Act.put, List.setIfInBounds_toArray, List.set_cons_zero, List.set_cons_succ]
            refine wpAnyH_ready (rs := [5]) (by kernel_rfl) (by simp) (AllReadyH.cons (o := ⟨some 82, .call _, _, _, _, _⟩) rfl (fun K hK => ?_) AllReadyH.nil)
            have HX9 := HX8
            clear HX8
            go_simp
            refine (HAP.out _ _ (HRS.out.below h5)).mono ?_
            rintro e3 w6 ⟨o, rfl, ho, hb3⟩
            have h6' := below_trans h5 hb3
            refine hK.out _ _ h6' (fun h6 => ?_)
            have HX8 := Lib.hid (HX9.out.below hb3)
            have HOB := Lib.hid (show wr.heap.size ≤ (wr.drew.alloc (.cells #[.int .i64 0, .int .i64 0, .slice none 0 0] 30)).heap.size from h5.size)
            have HNO := Lib.hid (show ∀ k, o.ownBlock = some k → k ≠ wr.drew.heap.size from fun k hk => by have h1 : (wr.drew.alloc (.cells #[.int .i64 0, .int .i64 0, .slice none 0 0] 30)).heap.size ≤ k := (ho.lt k hk).1; have h2 := HX9.out.lt; omega)
            clear HX9
            obtain ⟨oa, oc, rfl, _⟩ := ho.slice
            rw [← HM.out] at ho HNO ⊢
            have HO := Lib.hid ho
            clear ho
            clear hK K hb3 h6'
            try simp only [Act.put, List.setIfInBounds_toArray, List.set_cons_zero, List.set_cons_succ]
            refine wpAnyH_take (i := 6) (oi := ⟨some 76, _, _, _, _, _⟩) (v := ?_) rfl (by kernel_rfl) (by kernel_rfl) (by kernel_rfl) (fun _ _ _ h => h) (Or.inl ⟨by kernel_rfl, ?_⟩) (by assumption) ?_
            rotate_left 1
            · intro w' hw'; clear hw'; go_simp; try with_reducible rfl
            try simp only [Act.put, List.setIfInBounds_toArray, List.set_cons_zero, List.set_cons_succ]
            refine wpAnyH_take (i := 7) (oi := ⟨some 83, _, _, _, _, _⟩) (v := ?_) rfl (by kernel_rfl) (by kernel_rfl) (by kernel_rfl) (fun _ _ _ h => h) (Or.inl ⟨by kernel_rfl, ?_⟩) (by assumption) ?_
            rotate_left 1
            · intro w' hw'; clear hw'; go_simp; try with_reducible rfl
            try simp only [Act.put, List.setIfInBounds_toArray, List.set_cons_zero, List.set_cons_succ]
            refine wpAnyH_take (i := 8) (oi := ⟨some 84, _, _, _, _, _⟩) (v := ?_) rfl (by kernel_rfl) (by kernel_rfl) (by kernel_rfl) (fun _ _ _ h => h) (Or.inl ⟨by kernel_rfl, ?_⟩) (by assumption) ?_
            rotate_left 1
            · intro w' hw'; clear hw'; go_simp; try with_reducible rfl
            try simp only [Act.put, List.setIfInBounds_toArray, List.set_cons_zero, List.set_cons_succ]
            refine wpAnyH_ready (rs := [10]) (by kernel_rfl) (by simp) (AllReadyH.cons (o := ⟨none, .store 30 (.tmp 11) (.tmp 83), _, _, _, none⟩) rfl (fun K hK => ?_) AllReadyH.nil)
            rw [if_pos (by kernel_rfl)]
            refine wp_store_kk 30 (.tmp 11) (.tmp 83) rfl (wr.drew.heap.size) 0 [.int .i64 C2, .int .i64 B2, .slice oa m oc] rfl rfl HX8.out.there3 (by kernel_rfl) (one3 _ _ _ _ _) ?_
            obtain ⟨hx9, hm9⟩ := HX8.out.set3 (.int .i64 C2) (.int .i64 B2) (.slice oa m oc)
            have hw9 := (h6).trans (hm9.below (B := wr.heap.size) (h6).size (fun i hi => by have := HQ8.out; omega))
            refine hK.out _ _ hw9 (fun hS9 => ?_)
            have hli := HI'.out.below hw9
            have HF9 := Lib.hid (And.intro hli (show NxtI _ q (wr.drew.heap.size) ps pl F C2 B2 (.slice oa m oc) L2 from
              ⟨hx9, ((HO.out).mod hm9 (fun k hk e => HNO.out k hk e)).rd, ⟨by have h1 := HI'.out.bx.lt; have h2 : wr.heap.size ≤ wr.drew.heap.size := HQ8.out; omega, fun h => by have h1 := HI'.out.dk.lt _ h; have h2 : wr.heap.size ≤ wr.drew.heap.size := HQ8.out; omega, by have h1 := HI'.out.sb.bx.lt; have h2 : wr.heap.size ≤ wr.drew.heap.size := HQ8.out; omega, by have h1 := HI'.out.lg.lt; have h2 : wr.heap.size ≤ wr.drew.heap.size := HQ8.out; omega⟩,
               fun k hk => by
                have h3 := HO.out.lt k hk
                have h4 : wr.heap.size ≤ k := Nat.le_trans HOB.out h3.1
                refine ⟨fun h => by have := HI'.out.dk.lt _ h; omega, by have := HI'.out.sb.bx.lt; omega, by have := HI'.out.lg.lt; omega, by have := HI'.out.bx.lt; omega, HNO.out k hk, ?_⟩
                exact Nat.lt_of_lt_of_le h3.2 hm9.size⟩))
            clear hK K hx9 hm9 hw9 hli HX8 HQ8 HO HNO HOB
            generalize (World.setCells _ _ _ _) = w9 at HF9 hS9 ⊢
            try simp only [Act.put]
            refine wpAnyH_take (i := 11) (oi := ⟨some 12, _, _, _, _, _⟩) (v := ?_) rfl (by kernel_rfl) (by kernel_rfl) (by kernel_rfl) (fun _ _ _ h => h) (Or.inl ⟨by kernel_rfl, ?_⟩) (by assumption) ?_
            rotate_left 1
            · intro w' hw'; clear hw'; go_simp; try with_reducible rfl
            try simp only [Act.put, List.setIfInBounds_toArray, List.set_cons_zero, List.set_cons_succ]
            refine wpAnyH_done (by kernel_rfl) ?_ _
            clear hHeld hS9
            go_wp2_with fail
            go_meet
            exact ⟨_, _, rfl, rfl, HF9.out.1, HF9.out.2⟩
        case rest =>
          obtain ⟨q8, o, rfl, rfl, hli, hnx⟩ := hcut
          have HI := Lib.hid hli
          have HX8 := Lib.hid hnx
          clear HI' HBX HRS HAP hli hnx HROW
          by_cases h0 : er = 0
          rotate_left
          · rw [show (er == 0) = false by simpa using h0]
            clear h0 HX8
            go_wp2_with fail
            go_roundg (n - (k + 1))
            case measure => have := HGK.out; have := HK.out; omega
            case rel => exact ⟨k + 1, F, ps, pl, d, s, st, _, by have := HGK.out; have := HK.out; omega, rfl, by go_num, HI.out, by have := HTR.out; omega, by have := HEP.out; omega⟩
          subst h0
          rw [show ((0 : Int) == 0) = true from rfl]
          have hmay := applyM_may (show (applyM st e).1 = 0 by rw [HA.out])
          have hepb : s.epoch.toNat < 4294967290 := by have := HEP.out; have := HLN.out; have := HK.out; omega
          have hap := sto_append HI.out.si HI.out.al.1 HI.out.al.2 (by omega) HA.out hmay HOE.out.scopes
          have htr2 := sto_trail s d e st HI.out.si.len.2
          obtain ⟨st0, evs, himg⟩ := HI.out.si.img
          obtain ⟨g1, g2, g3⟩ := himg.log.same
          have hrec : s.log.records ≤ 16 := by rw [← himg.used]; exact himg.log.le
          have hapc := fun W h => stoAppend_calls s d e st (.slice sa sn sc) ps pl pd F W (LivI.sb h) (LivI.lg h) (LivI.dk (w := w) (q := q) (s := s) (st := st) (sv := .slice sa sn sc) h) HI.out.np.1 HI.out.np.2.1 HI.out.np.2.2 (LivI.rs h) (fun k hk => by have := LivI.nv h k hk; exact ⟨this.1, this.2.1, this.2.2.1, this.2.2.2.2⟩) (sesOk_of HSN.out.1 HSN.out.2) (Nat.le_trans HOE.out.user (by decide)) (Nat.le_trans HOE.out.label (by decide)) HOE.out.scopes (by have := HTR.out; have := HLN.out; have := HK.out; omega) HI.out.si.len.1 (by rw [g1, g2]; exact HI.out.si.len.1) himg.log.le2 (by omega)
          obtain ⟨R, hR⟩ : ∃ R, R = s.append d e st := ⟨_, rfl⟩
          rw [← hR] at hap htr2 hapc
          obtain ⟨s2, d2, er2⟩ := R
          simp only at hap htr2 hapc
          rw [← HSNL.out.2.1, ← HSNL.out.2.2] at hapc
          have HAPC := Lib.hid hapc
          have HA2 := Lib.hid hap
          have HT2 := Lib.hid (show d2.trail.length ≤ 20000 + 30000 * k + 2060 by have := HTR.out; omega)
          clear hmay hepb hap htr2 himg g1 g2 g3 hrec hapc hR
          obtain ⟨wd, hwd⟩ : ∃ wd, wd = wc := ⟨_, rfl⟩
          rw [← hwd] at HI HX8 ⊢
          clear hwd
          have HBX := Lib.hid (show Box wd q #[.int .i64 c, .int .i64 b, .slice sa sn sc] 30 by rw [HSNL.out.2.1, HSNL.out.2.2]; exact HI.out.bx)
          go_wp2_with fail
          refine wp_region_held_drew (S := fun W => Box W q #[.int .i64 c, .int .i64 b, .slice sa sn sc] 30 ∧ Below w.heap.size w W) (by kernel_rfl) ⟨HBX.out.below (below_drew wd), HI.out.bel.trans ((below_drew wd).mono HI.out.bel.size)⟩ (fun hHeld => ?_)
          refine wpAnyH_take (i := 0) (oi := ⟨some 87, _, _, _, _, _⟩) (v := ?_) rfl (by kernel_rfl) (by kernel_rfl) (by kernel_rfl) (fun _ _ _ h => h) (Or.inl ⟨by kernel_rfl, ?_⟩) (by assumption) ?_
          rotate_left 1
          · intro w' hw'; clear hw'; go_simp; try with_reducible rfl
          try simp only [Act.put, List.setIfInBounds_toArray, List.set_cons_zero, List.set_cons_succ]
          refine wpAnyH_take (i := 1) (oi := ⟨some 88, _, _, _, _, _⟩) (v := ?_) rfl (by kernel_rfl) (by kernel_rfl) (by kernel_rfl) (fun _ _ _ h => h) (Or.inl ⟨by kernel_rfl, ?_⟩) (by assumption) ?_
          rotate_left 1
          · intro w' hw'; clear hw'; go_simp; try with_reducible rfl
          try simp only [Act.put, List.setIfInBounds_toArray, List.set_cons_zero, List.set_cons_succ]
          refine wpAnyH_take (i := 2) (oi := ⟨some 89, _, _, _, _, _⟩) (v := ?_) rfl (by kernel_rfl) (by kernel_rfl) (by kernel_rfl) (fun _ _ _ h => h) (Or.inl ⟨by kernel_rfl, ?_⟩) (by assumption) ?_
          rotate_left 1
          · intro w' hw'; clear hw'; go_simp; try with_reducible rfl
          try simp only [Act.put, List.setIfInBounds_toArray, List.set_cons_zero, List.set_cons_succ]
          refine wpAnyH_take (i := 3) (oi := ⟨some 90, _, _, _, _, _⟩) (v := ?_) rfl (by kernel_rfl) (by kernel_rfl) (by kernel_rfl) (fun _ _ _ h => h) (Or.inl ⟨by kernel_rfl, ?_⟩) (by assumption) ?_
          rotate_left 1
          · intro w' hw'; clear hw'; go_simp; try with_reducible rfl
          try simp only [Act.put, List.setIfInBounds_toArray, List.set_cons_zero, List.set_cons_succ]
          refine wpAnyH_take (i := 4) (oi := ⟨some 91, .load _ _, _, _, _, _⟩) (v := .agg e.cells) rfl (by kernel_rfl) (by kernel_rfl) (by kernel_rfl) (fun _ _ _ h => h) (Or.inl ⟨by kernel_rfl, fun w' hw' => exec_load_m 47 (.tmp 90) rfl (rb) (ro + k * 15) rfl (e.cells).toList _ (fun j v hv => below_heap hw'.2 (HROW0.out j v hv)) Tryz.underlying47 rfl (by kernel_rfl)⟩) (by assumption) ?_
          try simp only [Act.put, List.setIfInBounds_toArray, List.set_cons_zero, List.set_cons_succ]
          refine wpAnyH_take (i := 5) (oi := ⟨some 92, .load _ _, _, _, _, _⟩) (v := .agg #[.int .i64 c, .int .i64 b, .slice sa sn sc]) rfl (by kernel_rfl) (by kernel_rfl) (by kernel_rfl) (fun _ _ _ h => h) (Or.inl ⟨by kernel_rfl, fun w' hw' => exec_load_m 30 (.tmp 7) rfl (q) (0) rfl (#[.int .i64 c, .int .i64 b, .slice sa sn sc]).toList _ (zrangeS hw'.1) Tryz.underlying30 rfl (by kernel_rfl)⟩) (by assumption) ?_
          try simp only [Act.put, List.setIfInBounds_toArray, List.set_cons_zero, List.set_cons_succ]
          refine wpAnyH_ready (rs := [6]) (by kernel_rfl) (by simp) (AllReadyH.cons (o := ⟨some 93, .call _, _, _, _, _⟩) rfl (fun K hK => ?_) AllReadyH.nil)
          go_simp
          have hI2 := HI.out.below (below_drew wd)
          refine (show Calls _ _ #[.pointer (some ⟨ps, 0, none⟩), .agg e.cells, .agg #[.int .i64 c, .int .i64 b, .slice sa sn sc]] wd.drew _ from HAPC.out wd.drew hI2).mono ?_
          rintro e3 w5 ⟨rfl, hpd⟩
          obtain ⟨p1, p2⟩ := hI2.apd hpd
          have p3 : Box w5 q #[.int .i64 c, .int .i64 b, .slice sa sn sc] 30 := by rw [HSNL.out.2.1, HSNL.out.2.2]; exact p2
          refine hK.out _ _ ⟨p3, p1⟩ (fun hS5 => ?_)
          have HPD := Lib.hid hpd
          clear hK K hI2 hpd p1 p2 p3 hHeld
          try simp only [Act.put, List.setIfInBounds_toArray, List.set_cons_zero, List.set_cons_succ]
          refine wpAnyH_take (i := 7) (oi := ⟨some 13, _, _, _, _, _⟩) (v := ?_) rfl (by kernel_rfl) (by kernel_rfl) (by kernel_rfl) (fun _ _ _ h => h) (Or.inl ⟨by kernel_rfl, ?_⟩) (by assumption) ?_
          rotate_left 1
          · intro w' hw'; clear hw'; go_simp; try with_reducible rfl
          try simp only [Act.put, List.setIfInBounds_toArray, List.set_cons_zero, List.set_cons_succ]
          refine wpAnyH_done (by kernel_rfl) ?_ _
          obtain ⟨F5, pl5, q1, q2, q3, q4, q5, q6, q7, q8n⟩ := HPD.out.ex
          have hqw := HI.out.bx.lt
          have HD5 := Lib.hid (show IsDisk w5 d2 pd F5 from q1)
          have HS5 := Lib.hid (show StoB w5 ps pd s2.epoch (.pointer (some ⟨pl5, 0, none⟩)) s2.dead from q4)
          have HL5 := Lib.hid (show IsLog w5 s2.log pl5 pd from q5)
          have HB8 := Lib.hid ((HX8.out.bx.below (below_drew wd)).mod HPD.out.md (fun h => by
            rcases h with h | h | h
            · exact HX8.out.nq.2.2.1 h
            · exact HX8.out.nq.2.2.2 h
            · exact HX8.out.nq.2.1 h))
          have HR8 := Lib.hid ((HX8.out.rs.below (below_drew wd)).mod HPD.out.md (fun k hk h => by
            have h1 := HX8.out.nv k hk
            rcases h with h | h | h
            · exact h1.2.1 h
            · exact h1.2.2.1 h
            · exact h1.1 h))
          have HRS5 := Lib.hid ((HI.out.rs.below (below_drew wd)).mod HPD.out.md (fun k hk h => by
            have h1 := HI.out.nv k hk
            rcases h with h | h | h
            · exact h1.2.1 h
            · exact h1.2.2.1 h
            · exact h1.1 h))
          obtain ⟨oa, oc, rfl, _⟩ := HX8.out.rs.slice
          rw [← HM.out] at HB8 HR8
          have HP := Lib.hid (show ¬ F5 q ∧ q ≠ ps ∧ q ≠ pl5 ∧ ¬ F5 ps ∧ ¬ F5 pl5 ∧ ps ≠ pl5 ∧ (∀ k, F5 k → w.heap.size ≤ k) ∧ w.heap.size ≤ ps ∧ w.heap.size ≤ pl5 ∧ w.heap.size ≤ q from
            ⟨fun h => by
              rcases q2 q h with g | g
              · exact HI.out.nq.1 g
              · have g : wd.heap.size ≤ q := g
                omega, HI.out.nq.2.1, fun h => by
              rcases q3 with g | g
              · exact HI.out.nq.2.2 (h.trans g)
              · have g : wd.heap.size ≤ pl5 := g
                omega, q6, q7, q8n, fun k hk => by
              rcases q2 k hk with g | g
              · exact HI.out.lo.1 k g
              · exact Nat.le_trans HI.out.bel.size g, HI.out.lo.2.1, by
              rcases q3 with g | g
              · rw [g]; exact HI.out.lo.2.2.1
              · exact Nat.le_trans HI.out.bel.size g, HI.out.lo.2.2.2⟩)
          have hout : ∀ k, k < wd.heap.size → ¬ F k → k ≠ pl → ¬ F5 k ∧ k ≠ pl5 := fun k h1 h2 h3 => ⟨fun h => by
              rcases q2 k h with g | g
              · exact h2 g
              · have g : wd.heap.size ≤ k := g
                omega, fun h => by
              rcases q3 with g | g
              · exact h3 (h.trans g)
              · have g : wd.heap.size ≤ pl5 := g
                omega⟩
          have HNV := Lib.hid (show ∀ k, (Value.slice oa m oc).ownBlock = some k → ¬ F5 k ∧ k ≠ ps ∧ k ≠ pl5 ∧ k ≠ q ∧ k < wd.heap.size from fun k hk => by
            rw [HM.out] at hk
            have h1 := HX8.out.nv k hk
            have h2 := hout k h1.2.2.2.2.2 h1.1 h1.2.2.1
            exact ⟨h2.1, h1.2.1, h2.2, h1.2.2.2.1, h1.2.2.2.2.2⟩)
          have HNVS := Lib.hid (show ∀ k, (Value.slice sa sn sc).ownBlock = some k → ¬ F5 k ∧ k < wd.heap.size from fun k hk => by
            have h1 := HI.out.nv k hk
            exact ⟨(hout k h1.2.2.2.2 h1.1 h1.2.2.1).1, h1.2.2.2.2⟩)
          have HNQ := Lib.hid (show q8 ≠ q from HX8.out.nq.1)
          have HBE := Lib.hid hS5
          have HSZ5 := Lib.hid (show wd.heap.size ≤ w5.heap.size ∧ q < wd.heap.size from ⟨HPD.out.md.size, hqw⟩)
          clear q1 q2 q3 q4 q5 q6 q7 q8n hqw hout HX8 HPD HI hS5 HAPC HBX
          rcases HA2.out with ⟨y0, y1, y2, y3, y4, _⟩ | ⟨y0, _, y1, ep', y2, y3⟩
          · subst y0
            rw [show errV 0 = .nilIface from rfl]
            have HNX := Lib.hid (show StoI d2 s2 ⟨C2, B2, L2⟩ ∧ s2.dead = false ∧ s2.log.dead = false ∧ s2.epoch.toNat ≤ 1 + 2 * (k + 1) from ⟨y3, y1, y2, by have := HEP.out; omega⟩)
            have hbx := HBE.out.1
            have c0 : w5.cell? ⟨q, 0, none⟩ = some (.int .i64 c) := hbx.cell 0 _ rfl
            have c1 : w5.cell? ⟨q, 1, none⟩ = some (.int .i64 b) := hbx.cell 1 _ rfl
            have c2 : w5.cell? ⟨q, 2, none⟩ = some (.slice sa sn sc) := hbx.cell 2 _ rfl
            have f0 := hbx.free 0
            have f1 := hbx.free 1
            have f2 := hbx.free 2
            have d0 : w5.cell? ⟨q8, 0, none⟩ = some (.int .i64 C2) := HB8.out.cell 0 _ rfl
            have d1 : w5.cell? ⟨q8, 1, none⟩ = some (.int .i64 B2) := HB8.out.cell 1 _ rfl
            have d2' : w5.cell? ⟨q8, 2, none⟩ = some (.slice oa m oc) := HB8.out.cell 2 _ rfl
            have hm9 := Mod.set3 q w5 (.int .i64 C2) (.int .i64 B2) (.slice oa m oc)
            have hbel := HBE.out.2
            have HFI := Lib.hid (show LivI w (((w5.setCell ⟨q, 0, none⟩ (.int .i64 C2)).setCell ⟨q, 1, none⟩ (.int .i64 B2)).setCell ⟨q, 2, none⟩ (.slice oa m oc)) pd ps pl5 q F5 d2 s2 ⟨C2, B2, L2⟩ (.slice oa m oc) from
              ⟨HD5.out.mod hm9 (fun k hk e => HP.out.1 (by rw [← e]; exact hk)), HS5.out.mod hm9 (fun e => HP.out.2.1 e.symm), Box.mod HL5.out hm9 (fun e => HP.out.2.2.1 e.symm), ⟨HP.out.2.2.2.1, HP.out.2.2.2.2.1, HP.out.2.2.2.2.2.1⟩, ⟨HP.out.1, HP.out.2.1, HP.out.2.2.1⟩, HP.out.2.2.2.2.2.2, HNX.out.1, ⟨HNX.out.2.1, HNX.out.2.2.1⟩, ((hbx.set 0 (.int .i64 C2)).set 1 (.int .i64 B2)).set 2 (.slice oa m oc), HR8.out.mod hm9 (fun k hk e => (HNV.out k hk).2.2.2.1 e), fun k hk => ⟨(HNV.out k hk).1, (HNV.out k hk).2.1, (HNV.out k hk).2.2.1, (HNV.out k hk).2.2.2.1, Nat.lt_of_lt_of_le (HNV.out k hk).2.2.2.2 (Nat.le_trans HSZ5.out.1 hm9.size)⟩, hbel.trans (hm9.below hbel.size (fun k hk => by have := HP.out.2.2.2.2.2.2.2.2.2; omega))⟩)
            have hq1 : ¬ q8 = q := HNQ.out
            have hq2 : ¬ q = q8 := fun e => HNQ.out e.symm
            clear hbx hm9 hbel HD5 HS5 HL5 HR8 HB8 HBE y1 y2 y3 y4 HRS5
            go_wp2_with fail
            go_roundg (n - (k + 1))
            case measure => have := HGK.out; have := HK.out; omega
            case rel => exact ⟨k + 1, F5, ps, pl5, d2, s2, ⟨C2, B2, L2⟩, _, by have := HGK.out; have := HK.out; omega, rfl, by go_num, HFI.out, by have := HT2.out; omega, HNX.out.2.2.2⟩
          subst y0
          rw [y1] at HS5
          rw [show errV 22 = .iface 91 (.int .i64 22) from rfl]
          have HKP := Lib.hid y3
          have HEP2 := Lib.hid y2
          clear y1 y2 y3 HB8 HR8 HNV HNQ HL5 HA2
          go_wp2_with fail
          refine wp_region_held_drew (S := fun W => Box W q #[.int .i64 c, .int .i64 b, .slice sa sn sc] 30 ∧ Below w.heap.size w W) (by kernel_rfl) ⟨HBE.out.1.below (below_drew w5), HBE.out.2.trans ((below_drew w5).mono HBE.out.2.size)⟩ (fun hHeld => ?_)
          refine wpAnyH_take (i := 0) (oi := ⟨some 97, _, _, _, _, _⟩) (v := ?_) rfl (by kernel_rfl) (by kernel_rfl) (by kernel_rfl) (fun _ _ _ h => h) (Or.inl ⟨by kernel_rfl, ?_⟩) (by assumption) ?_
          rotate_left 1
          · intro w' hw'; clear hw'; go_simp; try with_reducible rfl
          try simp only [Act.put, List.setIfInBounds_toArray, List.set_cons_zero, List.set_cons_succ]
          refine wpAnyH_ready (rs := [1]) (by kernel_rfl) (by simp) (AllReadyH.cons (o := ⟨some 98, .call _, _, _, _, _⟩) rfl (fun K hK => ?_) AllReadyH.nil)
          go_simp
          refine (show Calls _ _ #[.iface 91 (.int .i64 22), .int .i64 22] _ _ from plain_any 22 _ (by decide) (by decide) (HG.out.below hHeld.2)).mono ?_
          rintro e3 w6 ⟨rfl, hb3⟩
          have h6' : Box w6 q #[.int .i64 c, .int .i64 b, .slice sa sn sc] 30 ∧ Below w.heap.size w w6 := ⟨hHeld.1.below hb3, hHeld.2.trans (hb3.mono hHeld.2.size)⟩
          refine hK.out _ _ h6' (fun h6 => ?_)
          have HB6 := Lib.hid (below_trans (below_drew w5) hb3)
          clear hb3
          clear hK K h6'
          try simp only [Act.put, List.setIfInBounds_toArray, List.set_cons_zero, List.set_cons_succ]
          refine wpAnyH_take (i := 2) (oi := ⟨some 99, _, _, _, _, _⟩) (v := ?_) rfl (by kernel_rfl) (by kernel_rfl) (by kernel_rfl) (fun _ _ _ h => h) (Or.inl ⟨by kernel_rfl, ?_⟩) (by assumption) ?_
          rotate_left 1
          · intro w' hw'; clear hw'; go_simp; try with_reducible rfl
          try simp only [Act.put, List.setIfInBounds_toArray, List.set_cons_zero, List.set_cons_succ]
          refine wpAnyH_take (i := 3) (oi := ⟨some 100, _, _, _, _, _⟩) (v := ?_) rfl (by kernel_rfl) (by kernel_rfl) (by kernel_rfl) (fun _ _ _ h => h) (Or.inl ⟨by kernel_rfl, ?_⟩) (by assumption) ?_
          rotate_left 1
          · intro w' hw'; clear hw'; go_simp; try with_reducible rfl
          try simp only [Act.put, List.setIfInBounds_toArray, List.set_cons_zero, List.set_cons_succ]
          refine wpAnyH_take (i := 4) (oi := ⟨some 101, _, _, _, _, _⟩) (v := ?_) rfl (by kernel_rfl) (by kernel_rfl) (by kernel_rfl) (fun _ _ _ h => h) (Or.inl ⟨by kernel_rfl, ?_⟩) (by assumption) ?_
          rotate_left 1
          · intro w' hw'; clear hw'; go_simp; try with_reducible rfl
          try simp only [Act.put, List.setIfInBounds_toArray, List.set_cons_zero, List.set_cons_succ]
          refine wpAnyH_take (i := 5) (oi := ⟨some 102, _, _, _, _, _⟩) (v := ?_) rfl (by kernel_rfl) (by kernel_rfl) (by kernel_rfl) (fun _ _ _ h => h) (Or.inl ⟨by kernel_rfl, ?_⟩) (by assumption) ?_
          rotate_left 1
          · intro w' hw'; clear hw'; go_simp; try with_reducible rfl
          try simp only [Act.put, List.setIfInBounds_toArray, List.set_cons_zero, List.set_cons_succ]
          refine wpAnyH_take (i := 6) (oi := ⟨some 103, _, _, _, _, _⟩) (v := ?_) rfl (by kernel_rfl) (by kernel_rfl) (by kernel_rfl) (fun _ _ _ h => h) (Or.inl ⟨by kernel_rfl, ?_⟩) (by assumption) ?_
          rotate_left 1
          · intro w' hw'; clear hw'; go_simp; try with_reducible rfl
          try simp only [Act.put, List.setIfInBounds_toArray, List.set_cons_zero, List.set_cons_succ]
          refine wpAnyH_take (i := 7) (oi := ⟨some 104, _, _, _, _, _⟩) (v := ?_) rfl (by kernel_rfl) (by kernel_rfl) (by kernel_rfl) (fun _ _ _ h => h) (Or.inl ⟨by kernel_rfl, ?_⟩) (by assumption) ?_
          rotate_left 1
          · intro w' hw'; clear hw'; go_simp; try with_reducible rfl
          try simp only [Act.put, List.setIfInBounds_toArray, List.set_cons_zero, List.set_cons_succ]
          refine wpAnyH_take (i := 8) (oi := ⟨some 105, .load _ _, _, _, _, _⟩) (v := .agg e.cells) rfl (by kernel_rfl) (by kernel_rfl) (by kernel_rfl) (fun _ _ _ h => h) (Or.inl ⟨by kernel_rfl, fun w' hw' => exec_load_m 47 (.tmp 104) rfl (rb) (ro + k * 15) rfl (e.cells).toList _ (fun j v hv => below_heap hw'.2 (HROW0.out j v hv)) Tryz.underlying47 rfl (by kernel_rfl)⟩) (by assumption) ?_
          try simp only [Act.put, List.setIfInBounds_toArray, List.set_cons_zero, List.set_cons_succ]
          refine wpAnyH_take (i := 9) (oi := ⟨some 106, .load _ _, _, _, _, _⟩) (v := .agg #[.int .i64 c, .int .i64 b, .slice sa sn sc]) rfl (by kernel_rfl) (by kernel_rfl) (by kernel_rfl) (fun _ _ _ h => h) (Or.inl ⟨by kernel_rfl, fun w' hw' => exec_load_m 30 (.tmp 7) rfl (q) (0) rfl (#[.int .i64 c, .int .i64 b, .slice sa sn sc]).toList _ (zrangeS hw'.1) Tryz.underlying30 rfl (by kernel_rfl)⟩) (by assumption) ?_
          try simp only [Act.put, List.setIfInBounds_toArray, List.set_cons_zero, List.set_cons_succ]
          refine wpAnyH_ready (rs := [10]) (by kernel_rfl) (by simp) (AllReadyH.cons (o := ⟨some 107, .call _, _, _, _, _⟩) rfl (fun K hK => ?_) AllReadyH.nil)
          go_simp
          refine (show Calls _ _ #[.pointer (some ⟨ps, 0, none⟩), .agg e.cells, .agg #[.int .i64 c, .int .i64 b, .slice sa sn sc]] w6 _ from stoDead_calls e c b sa sn sc ps pd s2.epoch _ w6 ((show StoB w5 ps pd s2.epoch _ true from HS5.out).below HB6.out)).mono ?_
          rintro e3 w7 ⟨rfl, hb3⟩
          have h7' : Box w7 q #[.int .i64 c, .int .i64 b, .slice sa sn sc] 30 ∧ Below w.heap.size w w7 := ⟨h6.1.below hb3, h6.2.trans (hb3.mono h6.2.size)⟩
          refine hK.out _ _ h7' (fun h7 => ?_)
          have HB7 := Lib.hid (HB6.out.trans (hb3.mono HB6.out.size))
          clear hb3
          clear hK K h7'
          try simp only [Act.put, List.setIfInBounds_toArray, List.set_cons_zero, List.set_cons_succ]
          refine wpAnyH_ready (rs := [11]) (by kernel_rfl) (by simp) (AllReadyH.cons (o := ⟨some 108, .call _, _, _, _, _⟩) rfl (fun K hK => ?_) AllReadyH.nil)
          go_simp
          refine (show Calls _ _ #[.iface 91 (.int .i64 22), .int .i64 22] w7 _ from plain_any 22 w7 (by decide) (by decide) (HG.out.below h7.2)).mono ?_
          rintro e3 w8 ⟨rfl, hb3⟩
          have h8' : Box w8 q #[.int .i64 c, .int .i64 b, .slice sa sn sc] 30 ∧ Below w.heap.size w w8 := ⟨h7.1.below hb3, h7.2.trans (hb3.mono h7.2.size)⟩
          refine hK.out _ _ h8' (fun h8 => ?_)
          have HB8 := Lib.hid (HB7.out.trans (hb3.mono HB7.out.size))
          clear hb3
          clear hK K h8'
          try simp only [Act.put, List.setIfInBounds_toArray, List.set_cons_zero, List.set_cons_succ]
          refine wpAnyH_take (i := 12) (oi := ⟨some 109, _, _, _, _, _⟩) (v := ?_) rfl (by kernel_rfl) (by kernel_rfl) (by kernel_rfl) (fun _ _ _ h => h) (Or.inl ⟨by kernel_rfl, ?_⟩) (by assumption) ?_
          rotate_left 1
          · intro w' hw'; clear hw'; go_simp; try with_reducible rfl
          try simp only [Act.put, List.setIfInBounds_toArray, List.set_cons_zero, List.set_cons_succ]
          refine wpAnyH_take (i := 13) (oi := ⟨some 110, _, _, _, _, _⟩) (v := ?_) rfl (by kernel_rfl) (by kernel_rfl) (by kernel_rfl) (fun _ _ _ h => h) (Or.inl ⟨by kernel_rfl, ?_⟩) (by assumption) ?_
          rotate_left 1
          · intro w' hw'; clear hw'; go_simp; try with_reducible rfl
          try simp only [Act.put, List.setIfInBounds_toArray, List.set_cons_zero, List.set_cons_succ]
          refine wpAnyH_done (by kernel_rfl) ?_ _
          have HQ8 := Lib.hid h8
          clear h6 h7 h8 hHeld HB6 HB7 HBE HS5
          have hcu := cuts_calls fs (.slice fa fn fc) (k : Int) (n : Int) w8 (by rw [← HFN.out]; exact HFV.out.below HQ8.out.2) (fun f hf => ⟨(HFK.out f hf).at_, by obtain ⟨a, c, h, _⟩ := (HFK.out f hf).rd; exact ⟨a, c, h⟩⟩) (by omega) (by omega)
          have HCU := Lib.hid hcu
          clear hcu
          go_wp2_with fail
          refine HCU.out.mono ?_
          rintro ev w9 ⟨cv, rfl, ⟨cl, hcl⟩, kd, rfl⟩
          have hbd := below_drewN w8 kd
          have hb9 := HQ8.out.2.trans (hbd.mono HQ8.out.2.size)
          have hb59 := HB8.out.trans (hbd.mono HB8.out.size)
          have hcr : Rd (w8.drewN kd) cv cl.length (cl.map (Value.int .i64)) ∧ (∀ x ∈ cl, I64 x) ∧ (0 < cl.length → ∀ k, cv.ownBlock = some k → ¬ F5 k) := by
            rcases hcl with ⟨h1, h2⟩ | ⟨f, hf, h1, h2⟩
            · rw [h1, h2]; exact ⟨Rd.nil _, (fun x hx => by cases hx), fun h => absurd h (by decide)⟩
            · have h3 := HFK.out f hf
              rw [h1, h2]
              exact ⟨h3.rd.below hb9, h3.ok, fun h4 k hk h5 => by
                have h6 := Rd.blk h3.rd (by rw [List.length_map]; exact h4) k hk
                have := HP.out.2.2.2.2.2.2.1 k h5
                omega⟩
          have hag := again_calls d2 pd F5 cv cl st ep' _ (HD5.out.grow hb59) HKP.out.d (.inr HKP.out) (by have := HEP2.out; have := HEP.out; have := HLN.out; have := HK.out; omega) (by have := HT2.out; have := HLN.out; have := HK.out; omega) hcr.1 hcr.2.1 hcr.2.2 (HG.out.below hb9) (fun h => by have := HP.out.2.2.2.2.2.2.1 0 h; have := HG0.out; omega)
          rw [← HSNL.out.2.1, ← HSNL.out.2.2] at hag
          have HAG := Lib.hid hag
          have HBX9 := Lib.hid (HQ8.out.1.below hbd)
          have HB9 := Lib.hid hb9
          have HRS9 := Lib.hid (HRS5.out.below hb59)
          have HSZ9 := Lib.hid (show w5.heap.size ≤ (w8.drewN kd).heap.size from hb59.size)
          clear hbd hb9 hb59 hcr hag hcl HCU HQ8 HB8 HD5 HRS5
          generalize w8.drewN kd = w9 at HAG HBX9 HB9 HRS9 HSZ9 ⊢
          go_wp2_with fail
          refine HAG.out.mono ?_
          rintro ev wa ⟨ps6, o, rfl, hr⟩
          obtain ⟨F6, pl6, d6, r1, r2, r3, r4, r5, r6, r7, r8, r9, r10, r11, r12, r13, _⟩ := hr.ex
          have how := hr.ow
          obtain ⟨ga, gc, rfl, _⟩ := how.slice
          rw [← HSNL.out.1] at how r12 ⊢
          have hba := below_alloc wa (.cells #[.int .i64 c, .int .i64 b, .slice ga sn gc] 30)
          have hqx := (HBX9.out.mod hr.md HP.out.1).below hba
          have hbel := HB9.out.trans (hr.md.below HB9.out.size (fun k hk => HP.out.2.2.2.2.2.2.1 k hk))
          have hbel2 := hbel.trans (hba.mono hbel.size)
          have hss := sameState_calls st st (.slice ga sn gc) (.slice sa sn sc) _ (how.rd.below hba) ((HRS9.out.mod hr.md (fun k hk => (HNVS.out k hk).1)).below hba)
          rw [sameSt_self, ← HSNL.out.2.1, ← HSNL.out.2.2] at hss
          have HSS := Lib.hid hss
          have HQL := Lib.hid (show q < wa.heap.size by have := HSZ9.out; have := HSZ5.out; have := hr.md.size; omega)
          have HX15 := Lib.hid (Box.new wa #[.int .i64 c, .int .i64 b, .slice ga sn gc] 30)
          have HQX := Lib.hid hqx
          have hqs : q < w9.heap.size := by have := HSZ9.out; have := HSZ5.out; omega
          have HLV := Lib.hid (show IsDisk (wa.alloc (.cells #[.int .i64 c, .int .i64 b, .slice ga sn gc] 30)) d6 pd F6 ∧ StoB (wa.alloc (.cells #[.int .i64 c, .int .i64 b, .slice ga sn gc] 30)) ps6 pd (ep' + 1) (.pointer (some ⟨pl6, 0, none⟩)) false ∧ IsLog (wa.alloc (.cells #[.int .i64 c, .int .i64 b, .slice ga sn gc] 30)) (logN (ep' + 1)) pl6 pd ∧ RdS (wa.alloc (.cells #[.int .i64 c, .int .i64 b, .slice ga sn gc] 30)) (.slice ga sn gc) st.l ∧ Below w.heap.size w (wa.alloc (.cells #[.int .i64 c, .int .i64 b, .slice ga sn gc] 30)) from
            ⟨r1.grow hba, r8.below hba, Box.below r9 hba, how.rd.below hba, hbel2⟩)
          have HN6 := Lib.hid (show (¬ F6 ps6 ∧ ¬ F6 pl6 ∧ ps6 ≠ pl6) ∧ (¬ F6 q ∧ q ≠ ps6 ∧ q ≠ pl6) ∧ ((∀ k, F6 k → w.heap.size ≤ k) ∧ w.heap.size ≤ ps6 ∧ w.heap.size ≤ pl6 ∧ w.heap.size ≤ q) ∧ (∀ k, (Value.slice ga sn gc).ownBlock = some k → ¬ F6 k ∧ k ≠ ps6 ∧ k ≠ pl6 ∧ k ≠ q ∧ k < wa.heap.size) from
            ⟨⟨r5, r6, r7⟩, ⟨fun h => by
              rcases r2 q h with g | g
              · exact HP.out.1 g
              · omega, by omega, by omega⟩, ⟨fun k hk => by
              rcases r2 k hk with g | g
              · exact HP.out.2.2.2.2.2.2.1 k g
              · have := HB9.out.size; omega, by have := HB9.out.size; omega, by have := HB9.out.size; omega, HP.out.2.2.2.2.2.2.2.2.2⟩, fun k hk => ⟨(r12 k hk).2.1, (r12 k hk).2.2.1, (r12 k hk).2.2.2, by have := (r12 k hk).1; omega, (how.lt k hk).2⟩⟩)
          have HSI := Lib.hid r10
          have HT6 := Lib.hid (show d6.trail.length ≤ 20000 + 30000 * (k + 1) by have := HT2.out; omega)
          have HE6 := Lib.hid (show (ep' + 1).toNat ≤ 1 + 2 * (k + 1) by
            have h1 := HEP2.out
            have h2 := HEP.out
            have h3 := HLN.out
            have h4 := HK.out
            have h5 := (epoch_next (ep := ep') (by omega)).1
            omega)
          have c0 : (wa.alloc (.cells #[.int .i64 c, .int .i64 b, .slice ga sn gc] 30)).cell? ⟨q, 0, none⟩ = some (.int .i64 c) := hqx.cell 0 _ rfl
          have c1 : (wa.alloc (.cells #[.int .i64 c, .int .i64 b, .slice ga sn gc] 30)).cell? ⟨q, 1, none⟩ = some (.int .i64 b) := hqx.cell 1 _ rfl
          have c2 : (wa.alloc (.cells #[.int .i64 c, .int .i64 b, .slice ga sn gc] 30)).cell? ⟨q, 2, none⟩ = some (.slice sa sn sc) := hqx.cell 2 _ rfl
          clear r1 r2 r3 r4 r5 r6 r7 r8 r9 r10 r11 r12 r13 how hr hba hqx hbel hbel2 hss hqs HAG HBX9 HRS9
          go_wp2_with fail
          refine (show Calls _ _ #[.agg #[.int .i64 c, .int .i64 b, .slice ga sn gc], .agg #[.int .i64 c, .int .i64 b, .slice sa sn sc]] _ _ from HSS.out).mono ?_
          rintro ev wb ⟨rfl, hb⟩
          clear c0 c1 c2
          have hx15 := HX15.out.below hb
          have hqx := HQX.out.below hb
          have d0 : wb.cell? ⟨wa.heap.size, 0, none⟩ = some (.int .i64 c) := hx15.cell 0 _ rfl
          have d1 : wb.cell? ⟨wa.heap.size, 1, none⟩ = some (.int .i64 b) := hx15.cell 1 _ rfl
          have d2' : wb.cell? ⟨wa.heap.size, 2, none⟩ = some (.slice ga sn gc) := hx15.cell 2 _ rfl
          have c0 : wb.cell? ⟨q, 0, none⟩ = some (.int .i64 c) := hqx.cell 0 _ rfl
          have c1 : wb.cell? ⟨q, 1, none⟩ = some (.int .i64 b) := hqx.cell 1 _ rfl
          have c2 : wb.cell? ⟨q, 2, none⟩ = some (.slice sa sn sc) := hqx.cell 2 _ rfl
          have f0 := hqx.free 0
          have f1 := hqx.free 1
          have f2 := hqx.free 2
          have hq1 : ¬ wa.heap.size = q := by have := HQL.out; omega
          have hq2 : ¬ q = wa.heap.size := by have := HQL.out; omega
          have hm9 := Mod.set3 q wb (.int .i64 c) (.int .i64 b) (.slice ga sn gc)
          have hbel := HLV.out.2.2.2.2.trans (hb.mono HLV.out.2.2.2.2.size)
          have HFI := Lib.hid (show LivI w (((wb.setCell ⟨q, 0, none⟩ (.int .i64 c)).setCell ⟨q, 1, none⟩ (.int .i64 b)).setCell ⟨q, 2, none⟩ (.slice ga sn gc)) pd ps6 pl6 q F6 d6 ⟨ep' + 1, logN (ep' + 1), false⟩ st (.slice ga sn gc) from
            ⟨(HLV.out.1.grow hb).mod hm9 (fun k hk e => HN6.out.2.1.1 (by rw [← e]; exact hk)), (HLV.out.2.1.below hb).mod hm9 (fun e => HN6.out.2.1.2.1 e.symm), Box.mod (Box.below HLV.out.2.2.1 hb) hm9 (fun e => HN6.out.2.1.2.2 e.symm), HN6.out.1, HN6.out.2.1, HN6.out.2.2.1, HSI.out, ⟨rfl, rfl⟩, by rw [← HSNL.out.2.1, ← HSNL.out.2.2]; exact ((hqx.set 0 (.int .i64 c)).set 1 (.int .i64 b)).set 2 (.slice ga sn gc), (HLV.out.2.2.2.1.below hb).mod hm9 (fun k hk e => (HN6.out.2.2.2 k hk).2.2.2.1 e), fun k hk => ⟨(HN6.out.2.2.2 k hk).1, (HN6.out.2.2.2 k hk).2.1, (HN6.out.2.2.2 k hk).2.2.1, (HN6.out.2.2.2 k hk).2.2.2.1, by have h1 := (HN6.out.2.2.2 k hk).2.2.2.2; have h2 := hx15.lt; have h3 := hm9.size; omega⟩, hbel.trans (hm9.below hbel.size (fun k hk => by have := HN6.out.2.2.1.2.2.2; omega))⟩)
          clear hx15 hqx hb hm9 hbel HX15 HQX HLV HN6 HSI HSS
          go_wp2_with fail
          go_roundg (n - (k + 1))
          case measure => have := HGK.out; have := HK.out; omega
          case rel => exact ⟨k + 1, F6, ps6, pl6, d6, ⟨ep' + 1, logN (ep' + 1), false⟩, st, _, by have := HGK.out; have := HK.out; omega, rfl, by go_num, HFI.out, HT6.out, HE6.out⟩
      have j1 : (j : Int) < (fn : Int) := by omega
      have j2 : decide ((j : Int) < (fn : Int)) = true := by simpa using j1
      have HJ := Lib.hid hj
      by_cases h5 : j < 5
      rotate_left
      · have j3 : ¬ (j : Int) < 5 := by omega
        have j4 : decide ((j : Int) < 5) = false := by simpa using j3
        clear hj h5
        have hkl : k < l.length := by have := HN.out; have := HK.out; omega
        obtain ⟨e, he⟩ : ∃ e, e = l[k] := ⟨_, rfl⟩
        obtain ⟨rb, ro, hra, hrow0⟩ := HEV.out.row k hkl
        subst hra
        rw [← he] at hrow0
        have hrow : wr.rangeAt rb (ro + k * 15) e.cells.toList := fun j v hv => below_heap HI.out.bel (hrow0 j v hv)
        have HROW := Lib.hid hrow
        have HROW0 := Lib.hid hrow0
        have hoe : EvOk e := by rw [he]; exact HOK.out _ (List.getElem_mem hkl)
        have HOE := Lib.hid hoe
        obtain ⟨sa, sc, rfl, _⟩ := HI.out.rs.slice
        obtain ⟨sn, hsn⟩ : ∃ n, n = st.l.length := ⟨_, rfl⟩
        obtain ⟨c, hcc⟩ : ∃ c, c = st.clock := ⟨_, rfl⟩
        obtain ⟨b, hbb⟩ : ∃ b, b = st.births := ⟨_, rfl⟩
        have HSN := Lib.hid (HI.out.si.kept.d.snd)
        have hapc := fun v' w' h => applied_calls st e v' w' h (by have := HSN.out.1.len; omega) (Nat.le_trans hoe.user (by decide)) (Nat.le_trans hoe.label (by decide)) hoe.scopes
        have hbx := HI.out.bx
        rw [← hsn, ← hcc, ← hbb] at hbx
        rw [← hcc, ← hbb] at hapc
        have HBX := Lib.hid hbx
        have HRS := Lib.hid HI.out.rs
        rw [← hsn] at HRS
        obtain ⟨A, hA⟩ : ∃ A, A = applyM st e := ⟨_, rfl⟩
        rw [← hA] at hapc
        obtain ⟨er, C2, B2, L2⟩ := A
        simp only at hapc
        have HA := Lib.hid hA.symm
        have HAP := Lib.hid hapc
        obtain ⟨m, hM⟩ : ∃ m, m = L2.length := ⟨_, rfl⟩
        have HM := Lib.hid hM
        have HSNL := Lib.hid (And.intro hsn (And.intro hcc hbb))
        have HI' := Lib.hid (show LivI w wr pd ps pl q F d s st (.slice sa sn sc) by rw [hsn]; exact HI.out)
        clear hkl he hrow hrow0 hoe hsn hcc hbb hapc hbx hA hM HI
        go_upto_region 13 with (fail)
        go_cut [11, 12] (fun s11 s12 wx => ∃ (q8 : Nat) (o : Value), s11 = .pointer (some ⟨q8, 0, none⟩) ∧ s12 = .bool (er == 0) ∧ LivI w wx pd ps pl q F d s st (.slice sa sn sc) ∧ NxtI wx q q8 ps pl F C2 B2 o L2)
        case first =>
          refine wp_region_held_drew (S := fun W => Below wr.heap.size wr W) (by kernel_rfl) (below_drew wr) (fun hHeld => ?_)
          refine wpAnyH_take (i := 0) (oi := ⟨some 77, .load _ _, _, _, _, _⟩) (v := .agg #[.int .i64 c, .int .i64 b, .slice sa sn sc]) rfl (by kernel_rfl) (by kernel_rfl) (by kernel_rfl) (fun _ _ _ h => h) (Or.inl ⟨by kernel_rfl, fun w' hw' => exec_load_m 30 (.tmp 7) rfl (q) (0) rfl (#[.int .i64 c, .int .i64 b, .slice sa sn sc]).toList _ (zrangeS (HBX.out.below hw')) Tryz.underlying30 rfl (by kernel_rfl)⟩) (by assumption) ?_
          try simp only [Act.put, List.setIfInBounds_toArray, List.set_cons_zero, List.set_cons_succ]
          refine wpAnyH_take (i := 1) (oi := ⟨some 78, _, _, _, _, _⟩) (v := ?_) rfl (by kernel_rfl) (by kernel_rfl) (by kernel_rfl) (fun _ _ _ h => h) (Or.inl ⟨by kernel_rfl, ?_⟩) (by assumption) ?_
          rotate_left 1
          · intro w' hw'; clear hw'; go_simp; try with_reducible rfl
          try simp only [Act.put, List.setIfInBounds_toArray, List.set_cons_zero, List.set_cons_succ]
          refine wpAnyH_take (i := 2) (oi := ⟨some 79, _, _, _, _, _⟩) (v := ?_) rfl (by kernel_rfl) (by kernel_rfl) (by kernel_rfl) (fun _ _ _ h => h) (Or.inl ⟨by kernel_rfl, ?_⟩) (by assumption) ?_
          rotate_left 1
          · intro w' hw'; clear hw'; go_simp; try with_reducible rfl
          try simp only [Act.put, List.setIfInBounds_toArray, List.set_cons_zero, List.set_cons_succ]
          refine wpAnyH_take (i := 3) (oi := ⟨some 80, _, _, _, _, _⟩) (v := ?_) rfl (by kernel_rfl) (by kernel_rfl) (by kernel_rfl) (fun _ _ _ h => h) (Or.inl ⟨by kernel_rfl, ?_⟩) (by assumption) ?_
          rotate_left 1
          · intro w' hw'; clear hw'; go_simp; try with_reducible rfl
          try simp only [Act.put, List.setIfInBounds_toArray, List.set_cons_zero, List.set_cons_succ]
          refine wpAnyH_take (i := 4) (oi := ⟨some 81, .load _ _, _, _, _, _⟩) (v := .agg e.cells) rfl (by kernel_rfl) (by kernel_rfl) (by kernel_rfl) (fun _ _ _ h => h) (Or.inl ⟨by kernel_rfl, fun w' hw' => exec_load_m 47 (.tmp 80) rfl (rb) (ro + k * 15) rfl (e.cells).toList _ (fun j v hv => below_heap hw' (HROW.out j v hv)) Tryz.underlying47 rfl (by kernel_rfl)⟩) (by assumption) ?_
          try simp only [Act.put, List.setIfInBounds_toArray, List.set_cons_zero, List.set_cons_succ]
          refine wpAnyH_ready (rs := [5, 9]) (by kernel_rfl) (by simp) (AllReadyH.cons (o := ⟨some 82, .call _, _, _, _, _⟩) rfl (fun K hK => ?_) (AllReadyH.cons (o := ⟨some 11, .alloc _, _, _, _, _⟩) rfl (fun K hK => ?_) AllReadyH.nil))
          · skip
            go_simp
            refine (HAP.out _ _ (HRS.out.below hHeld)).mono ?_
            rintro e3 w5 ⟨o, rfl, ho, hb3⟩
            have h5' := below_trans hHeld hb3
            refine hK.out _ _ h5' (fun h5 => ?_)
            obtain ⟨oa, oc, rfl, _⟩ := ho.slice
            rw [← HM.out] at ho ⊢
            have HO := Lib.hid ho
            clear ho
            clear hK K hb3 h5'
            try simp only [Act.put, List.setIfInBounds_toArray, List.set_cons_zero, List.set_cons_succ]
            refine wpAnyH_take (i := 6) (oi := ⟨some 76, _, _, _, _, _⟩) (v := ?_) rfl (by kernel_rfl) (by kernel_rfl) (by kernel_rfl) (fun _ _ _ h => h) (Or.inl ⟨by kernel_rfl, ?_⟩) (by assumption) ?_
            rotate_left 1
            · intro w' hw'; clear hw'; go_simp; try with_reducible rfl
            try simp only [Act.put, List.setIfInBounds_toArray, List.set_cons_zero, List.set_cons_succ]
            refine wpAnyH_take (i := 7) (oi := ⟨some 83, _, _, _, _, _⟩) (v := ?_) rfl (by kernel_rfl) (by kernel_rfl) (by kernel_rfl) (fun _ _ _ h => h) (Or.inl ⟨by kernel_rfl, ?_⟩) (by assumption) ?_
            rotate_left 1
            · intro w' hw'; clear hw'; go_simp; try with_reducible rfl
            try simp only [Act.put, List.setIfInBounds_toArray, List.set_cons_zero, List.set_cons_succ]
            refine wpAnyH_take (i := 8) (oi := ⟨some 84, _, _, _, _, _⟩) (v := ?_) rfl (by kernel_rfl) (by kernel_rfl) (by kernel_rfl) (fun _ _ _ h => h) (Or.inl ⟨by kernel_rfl, ?_⟩) (by assumption) ?_
            rotate_left 1
            · intro w' hw'; clear hw'; go_simp; try with_reducible rfl
            try simp only [Act.put, List.setIfInBounds_toArray, List.set_cons_zero, List.set_cons_succ]
            refine wpAnyH_ready (rs := [9]) (by kernel_rfl) (by simp) (AllReadyH.cons (o := ⟨some 11, .alloc _, _, _, _, _⟩) rfl (fun K hK => ?_) AllReadyH.nil)
            go_simp
            have hba := below_alloc w5 (.cells #[.int .i64 0, .int .i64 0, .slice none 0 0] 30)
            have h6' := below_trans h5 hba
            refine hK.out _ _ h6' (fun h6 => ?_)
            have HX8 := Lib.hid (Box.new w5 #[.int .i64 0, .int .i64 0, .slice none 0 0] 30)
            have HQ8 := Lib.hid (show wr.heap.size ≤ (w5).heap.size from (h5).size)
            have HO2 := Lib.hid (HO.out.below hba)
            have HNO := Lib.hid (show ∀ k, (Value.slice oa m oc).ownBlock = some k → k ≠ w5.heap.size from fun k hk => by have := (HO.out.lt k hk).2; omega)
            have HOB := Lib.hid (show wr.heap.size ≤ wr.drew.heap.size from Nat.le_refl _)
            clear HO
            have HO := HO2
            clear HO2
            clear hK K h6' hba
            try simp only [Act.put, List.setIfInBounds_toArray, List.set_cons_zero, List.set_cons_succ]
            refine wpAnyH_ready (rs := [10]) (by kernel_rfl) (by simp) (AllReadyH.cons (o := ⟨none, .store 30 (.tmp 11) (.tmp 83), _, _, _, none⟩) rfl (fun K hK => ?_) AllReadyH.nil)
            rw [if_pos (by kernel_rfl)]
            refine wp_store_kk 30 (.tmp 11) (.tmp 83) rfl (w5.heap.size) 0 [.int .i64 C2, .int .i64 B2, .slice oa m oc] rfl rfl HX8.out.there3 (by kernel_rfl) (one3 _ _ _ _ _) ?_
            obtain ⟨hx9, hm9⟩ := HX8.out.set3 (.int .i64 C2) (.int .i64 B2) (.slice oa m oc)
            have hw9 := (h6).trans (hm9.below (B := wr.heap.size) (h6).size (fun i hi => by have := HQ8.out; omega))
            refine hK.out _ _ hw9 (fun hS9 => ?_)
            have hli := HI'.out.below hw9
            have HF9 := Lib.hid (And.intro hli (show NxtI _ q (w5.heap.size) ps pl F C2 B2 (.slice oa m oc) L2 from
              ⟨hx9, ((HO.out).mod hm9 (fun k hk e => HNO.out k hk e)).rd, ⟨by have h1 := HI'.out.bx.lt; have h2 : wr.heap.size ≤ w5.heap.size := HQ8.out; omega, fun h => by have h1 := HI'.out.dk.lt _ h; have h2 : wr.heap.size ≤ w5.heap.size := HQ8.out; omega, by have h1 := HI'.out.sb.bx.lt; have h2 : wr.heap.size ≤ w5.heap.size := HQ8.out; omega, by have h1 := HI'.out.lg.lt; have h2 : wr.heap.size ≤ w5.heap.size := HQ8.out; omega⟩,
               fun k hk => by
                have h3 := HO.out.lt k hk
                have h4 : wr.heap.size ≤ k := Nat.le_trans HOB.out h3.1
                refine ⟨fun h => by have := HI'.out.dk.lt _ h; omega, by have := HI'.out.sb.bx.lt; omega, by have := HI'.out.lg.lt; omega, by have := HI'.out.bx.lt; omega, HNO.out k hk, ?_⟩
                exact Nat.lt_of_lt_of_le h3.2 hm9.size⟩))
            clear hK K hx9 hm9 hw9 hli HX8 HQ8 HO HNO HOB
            generalize (World.setCells _ _ _ _) = w9 at HF9 hS9 ⊢
            try simp only [Act.put]
            refine wpAnyH_take (i := 11) (oi := ⟨some 12, _, _, _, _, _⟩) (v := ?_) rfl (by kernel_rfl) (by kernel_rfl) (by kernel_rfl) (fun _ _ _ h => h) (Or.inl ⟨by kernel_rfl, ?_⟩) (by assumption) ?_
            rotate_left 1
            · intro w' hw'; clear hw'; go_simp; try with_reducible rfl
            try simp only [Act.put, List.setIfInBounds_toArray, List.set_cons_zero, List.set_cons_succ]
            refine wpAnyH_done (by kernel_rfl) ?_ _
            clear hHeld hS9
            go_wp2_with fail
            go_meet
            exact ⟨_, _, rfl, rfl, HF9.out.1, HF9.out.2⟩
          · skip
            go_simp
            have hba := below_alloc wr.drew (.cells #[.int .i64 0, .int .i64 0, .slice none 0 0] 30)
            have h5' := below_trans hHeld hba
            refine hK.out _ _ h5' (fun h5 => ?_)
            have HX8 := Lib.hid (Box.new wr.drew #[.int .i64 0, .int .i64 0, .slice none 0 0] 30)
            have HQ8 := Lib.hid (show wr.heap.size ≤ (wr.drew).heap.size from (hHeld).size)
            clear hK K h5' hba
            try simp only [Act.put, List.setIfInBounds_toArray, List.set_cons_zero, List.set_cons_succ]
            refine wpAnyH_ready (rs := [5]) (by kernel_rfl) (by simp) (AllReadyH.cons (o := ⟨some 82, .call _, _, _, _, _⟩) rfl (fun K hK => ?_) AllReadyH.nil)
            have HX9 := HX8
            clear HX8
            go_simp
            refine (HAP.out _ _ (HRS.out.below h5)).mono ?_
            rintro e3 w6 ⟨o, rfl, ho, hb3⟩
            have h6' := below_trans h5 hb3
            refine hK.out _ _ h6' (fun h6 => ?_)
            have HX8 := Lib.hid (HX9.out.below hb3)
            have HOB := Lib.hid (show wr.heap.size ≤ (wr.drew.alloc (.cells #[.int .i64 0, .int .i64 0, .slice none 0 0] 30)).heap.size from h5.size)
            have HNO := Lib.hid (show ∀ k, o.ownBlock = some k → k ≠ wr.drew.heap.size from fun k hk => by have h1 : (wr.drew.alloc (.cells #[.int .i64 0, .int .i64 0, .slice none 0 0] 30)).heap.size ≤ k := (ho.lt k hk).1; have h2 := HX9.out.lt; omega)
            clear HX9
            obtain ⟨oa, oc, rfl, _⟩ := ho.slice
            rw [← HM.out] at ho HNO ⊢
            have HO := Lib.hid ho
            clear ho
            clear hK K hb3 h6'
            try simp only [Act.put, List.setIfInBounds_toArray, List.set_cons_zero, List.set_cons_succ]
            refine wpAnyH_take (i := 6) (oi := ⟨some 76, _, _, _, _, _⟩) (v := ?_) rfl (by kernel_rfl) (by kernel_rfl) (by kernel_rfl) (fun _ _ _ h => h) (Or.inl ⟨by kernel_rfl, ?_⟩) (by assumption) ?_
            rotate_left 1
            · intro w' hw'; clear hw'; go_simp; try with_reducible rfl
            try simp only [Act.put, List.setIfInBounds_toArray, List.set_cons_zero, List.set_cons_succ]
            refine wpAnyH_take (i := 7) (oi := ⟨some 83, _, _, _, _, _⟩) (v := ?_) rfl (by kernel_rfl) (by kernel_rfl) (by kernel_rfl) (fun _ _ _ h => h) (Or.inl ⟨by kernel_rfl, ?_⟩) (by assumption) ?_
            rotate_left 1
            · intro w' hw'; clear hw'; go_simp; try with_reducible rfl
            try simp only [Act.put, List.setIfInBounds_toArray, List.set_cons_zero, List.set_cons_succ]
            refine wpAnyH_take (i := 8) (oi := ⟨some 84, _, _, _, _, _⟩) (v := ?_) rfl (by kernel_rfl) (by kernel_rfl) (by kernel_rfl) (fun _ _ _ h => h) (Or.inl ⟨by kernel_rfl, ?_⟩) (by assumption) ?_
            rotate_left 1
            · intro w' hw'; clear hw'; go_simp; try with_reducible rfl
            try simp only [Act.put, List.setIfInBounds_toArray, List.set_cons_zero, List.set_cons_succ]
            refine wpAnyH_ready (rs := [10]) (by kernel_rfl) (by simp) (AllReadyH.cons (o := ⟨none, .store 30 (.tmp 11) (.tmp 83), _, _, _, none⟩) rfl (fun K hK => ?_) AllReadyH.nil)
            rw [if_pos (by kernel_rfl)]
            refine wp_store_kk 30 (.tmp 11) (.tmp 83) rfl (wr.drew.heap.size) 0 [.int .i64 C2, .int .i64 B2, .slice oa m oc] rfl rfl HX8.out.there3 (by kernel_rfl) (one3 _ _ _ _ _) ?_
            obtain ⟨hx9, hm9⟩ := HX8.out.set3 (.int .i64 C2) (.int .i64 B2) (.slice oa m oc)
            have hw9 := (h6).trans (hm9.below (B := wr.heap.size) (h6).size (fun i hi => by have := HQ8.out; omega))
            refine hK.out _ _ hw9 (fun hS9 => ?_)
            have hli := HI'.out.below hw9
            have HF9 := Lib.hid (And.intro hli (show NxtI _ q (wr.drew.heap.size) ps pl F C2 B2 (.slice oa m oc) L2 from
              ⟨hx9, ((HO.out).mod hm9 (fun k hk e => HNO.out k hk e)).rd, ⟨by have h1 := HI'.out.bx.lt; have h2 : wr.heap.size ≤ wr.drew.heap.size := HQ8.out; omega, fun h => by have h1 := HI'.out.dk.lt _ h; have h2 : wr.heap.size ≤ wr.drew.heap.size := HQ8.out; omega, by have h1 := HI'.out.sb.bx.lt; have h2 : wr.heap.size ≤ wr.drew.heap.size := HQ8.out; omega, by have h1 := HI'.out.lg.lt; have h2 : wr.heap.size ≤ wr.drew.heap.size := HQ8.out; omega⟩,
               fun k hk => by
                have h3 := HO.out.lt k hk
                have h4 : wr.heap.size ≤ k := Nat.le_trans HOB.out h3.1
                refine ⟨fun h => by have := HI'.out.dk.lt _ h; omega, by have := HI'.out.sb.bx.lt; omega, by have := HI'.out.lg.lt; omega, by have := HI'.out.bx.lt; omega, HNO.out k hk, ?_⟩
                exact Nat.lt_of_lt_of_le h3.2 hm9.size⟩))
            clear hK K hx9 hm9 hw9 hli HX8 HQ8 HO HNO HOB
            generalize (World.setCells _ _ _ _) = w9 at HF9 hS9 ⊢
            try simp only [Act.put]
            refine wpAnyH_take (i := 11) (oi := ⟨some 12, _, _, _, _, _⟩) (v := ?_) rfl (by kernel_rfl) (by kernel_rfl) (by kernel_rfl) (fun _ _ _ h => h) (Or.inl ⟨by kernel_rfl, ?_⟩) (by assumption) ?_
            rotate_left 1
            · intro w' hw'; clear hw'; go_simp; try with_reducible rfl
            try simp only [Act.put, List.setIfInBounds_toArray, List.set_cons_zero, List.set_cons_succ]
            refine wpAnyH_done (by kernel_rfl) ?_ _
            clear hHeld hS9
            go_wp2_with fail
            go_meet
            exact ⟨_, _, rfl, rfl, HF9.out.1, HF9.out.2⟩
        case rest =>
          obtain ⟨q8, o, rfl, rfl, hli, hnx⟩ := hcut
          have HI := Lib.hid hli
          have HX8 := Lib.hid hnx
          clear HI' HBX HRS HAP hli hnx HROW
          by_cases h0 : er = 0
          rotate_left
          · rw [show (er == 0) = false by simpa using h0]
            clear h0 HX8
            go_wp2_with fail
            go_roundg (n - (k + 1))
            case measure => have := HGK.out; have := HK.out; omega
            case rel => exact ⟨k + 1, F, ps, pl, d, s, st, _, by have := HGK.out; have := HK.out; omega, rfl, by go_num, HI.out, by have := HTR.out; omega, by have := HEP.out; omega⟩
          subst h0
          rw [show ((0 : Int) == 0) = true from rfl]
          have hmay := applyM_may (show (applyM st e).1 = 0 by rw [HA.out])
          have hepb : s.epoch.toNat < 4294967290 := by have := HEP.out; have := HLN.out; have := HK.out; omega
          have hap := sto_append HI.out.si HI.out.al.1 HI.out.al.2 (by omega) HA.out hmay HOE.out.scopes
          have htr2 := sto_trail s d e st HI.out.si.len.2
          obtain ⟨st0, evs, himg⟩ := HI.out.si.img
          obtain ⟨g1, g2, g3⟩ := himg.log.same
          have hrec : s.log.records ≤ 16 := by rw [← himg.used]; exact himg.log.le
          have hapc := fun W h => stoAppend_calls s d e st (.slice sa sn sc) ps pl pd F W (LivI.sb h) (LivI.lg h) (LivI.dk (w := w) (q := q) (s := s) (st := st) (sv := .slice sa sn sc) h) HI.out.np.1 HI.out.np.2.1 HI.out.np.2.2 (LivI.rs h) (fun k hk => by have := LivI.nv h k hk; exact ⟨this.1, this.2.1, this.2.2.1, this.2.2.2.2⟩) (sesOk_of HSN.out.1 HSN.out.2) (Nat.le_trans HOE.out.user (by decide)) (Nat.le_trans HOE.out.label (by decide)) HOE.out.scopes (by have := HTR.out; have := HLN.out; have := HK.out; omega) HI.out.si.len.1 (by rw [g1, g2]; exact HI.out.si.len.1) himg.log.le2 (by omega)
          obtain ⟨R, hR⟩ : ∃ R, R = s.append d e st := ⟨_, rfl⟩
          rw [← hR] at hap htr2 hapc
          obtain ⟨s2, d2, er2⟩ := R
          simp only at hap htr2 hapc
          rw [← HSNL.out.2.1, ← HSNL.out.2.2] at hapc
          have HAPC := Lib.hid hapc
          have HA2 := Lib.hid hap
          have HT2 := Lib.hid (show d2.trail.length ≤ 20000 + 30000 * k + 2060 by have := HTR.out; omega)
          clear hmay hepb hap htr2 himg g1 g2 g3 hrec hapc hR
          obtain ⟨wd, hwd⟩ : ∃ wd, wd = wc := ⟨_, rfl⟩
          rw [← hwd] at HI HX8 ⊢
          clear hwd
          have HBX := Lib.hid (show Box wd q #[.int .i64 c, .int .i64 b, .slice sa sn sc] 30 by rw [HSNL.out.2.1, HSNL.out.2.2]; exact HI.out.bx)
          go_wp2_with fail
          refine wp_region_held_drew (S := fun W => Box W q #[.int .i64 c, .int .i64 b, .slice sa sn sc] 30 ∧ Below w.heap.size w W) (by kernel_rfl) ⟨HBX.out.below (below_drew wd), HI.out.bel.trans ((below_drew wd).mono HI.out.bel.size)⟩ (fun hHeld => ?_)
          refine wpAnyH_take (i := 0) (oi := ⟨some 87, _, _, _, _, _⟩) (v := ?_) rfl (by kernel_rfl) (by kernel_rfl) (by kernel_rfl) (fun _ _ _ h => h) (Or.inl ⟨by kernel_rfl, ?_⟩) (by assumption) ?_
          rotate_left 1
          · intro w' hw'; clear hw'; go_simp; try with_reducible rfl
          try simp only [Act.put, List.setIfInBounds_toArray, List.set_cons_zero, List.set_cons_succ]
          refine wpAnyH_take (i := 1) (oi := ⟨some 88, _, _, _, _, _⟩) (v := ?_) rfl (by kernel_rfl) (by kernel_rfl) (by kernel_rfl) (fun _ _ _ h => h) (Or.inl ⟨by kernel_rfl, ?_⟩) (by assumption) ?_
          rotate_left 1
          · intro w' hw'; clear hw'; go_simp; try with_reducible rfl
          try simp only [Act.put, List.setIfInBounds_toArray, List.set_cons_zero, List.set_cons_succ]
          refine wpAnyH_take (i := 2) (oi := ⟨some 89, _, _, _, _, _⟩) (v := ?_) rfl (by kernel_rfl) (by kernel_rfl) (by kernel_rfl) (fun _ _ _ h => h) (Or.inl ⟨by kernel_rfl, ?_⟩) (by assumption) ?_
          rotate_left 1
          · intro w' hw'; clear hw'; go_simp; try with_reducible rfl
          try simp only [Act.put, List.setIfInBounds_toArray, List.set_cons_zero, List.set_cons_succ]
          refine wpAnyH_take (i := 3) (oi := ⟨some 90, _, _, _, _, _⟩) (v := ?_) rfl (by kernel_rfl) (by kernel_rfl) (by kernel_rfl) (fun _ _ _ h => h) (Or.inl ⟨by kernel_rfl, ?_⟩) (by assumption) ?_
          rotate_left 1
          · intro w' hw'; clear hw'; go_simp; try with_reducible rfl
          try simp only [Act.put, List.setIfInBounds_toArray, List.set_cons_zero, List.set_cons_succ]
          refine wpAnyH_take (i := 4) (oi := ⟨some 91, .load _ _, _, _, _, _⟩) (v := .agg e.cells) rfl (by kernel_rfl) (by kernel_rfl) (by kernel_rfl) (fun _ _ _ h => h) (Or.inl ⟨by kernel_rfl, fun w' hw' => exec_load_m 47 (.tmp 90) rfl (rb) (ro + k * 15) rfl (e.cells).toList _ (fun j v hv => below_heap hw'.2 (HROW0.out j v hv)) Tryz.underlying47 rfl (by kernel_rfl)⟩) (by assumption) ?_
          try simp only [Act.put, List.setIfInBounds_toArray, List.set_cons_zero, List.set_cons_succ]
          refine wpAnyH_take (i := 5) (oi := ⟨some 92, .load _ _, _, _, _, _⟩) (v := .agg #[.int .i64 c, .int .i64 b, .slice sa sn sc]) rfl (by kernel_rfl) (by kernel_rfl) (by kernel_rfl) (fun _ _ _ h => h) (Or.inl ⟨by kernel_rfl, fun w' hw' => exec_load_m 30 (.tmp 7) rfl (q) (0) rfl (#[.int .i64 c, .int .i64 b, .slice sa sn sc]).toList _ (zrangeS hw'.1) Tryz.underlying30 rfl (by kernel_rfl)⟩) (by assumption) ?_
          try simp only [Act.put, List.setIfInBounds_toArray, List.set_cons_zero, List.set_cons_succ]
          refine wpAnyH_ready (rs := [6]) (by kernel_rfl) (by simp) (AllReadyH.cons (o := ⟨some 93, .call _, _, _, _, _⟩) rfl (fun K hK => ?_) AllReadyH.nil)
          go_simp
          have hI2 := HI.out.below (below_drew wd)
          refine (show Calls _ _ #[.pointer (some ⟨ps, 0, none⟩), .agg e.cells, .agg #[.int .i64 c, .int .i64 b, .slice sa sn sc]] wd.drew _ from HAPC.out wd.drew hI2).mono ?_
          rintro e3 w5 ⟨rfl, hpd⟩
          obtain ⟨p1, p2⟩ := hI2.apd hpd
          have p3 : Box w5 q #[.int .i64 c, .int .i64 b, .slice sa sn sc] 30 := by rw [HSNL.out.2.1, HSNL.out.2.2]; exact p2
          refine hK.out _ _ ⟨p3, p1⟩ (fun hS5 => ?_)
          have HPD := Lib.hid hpd
          clear hK K hI2 hpd p1 p2 p3 hHeld
          try simp only [Act.put, List.setIfInBounds_toArray, List.set_cons_zero, List.set_cons_succ]
          refine wpAnyH_take (i := 7) (oi := ⟨some 13, _, _, _, _, _⟩) (v := ?_) rfl (by kernel_rfl) (by kernel_rfl) (by kernel_rfl) (fun _ _ _ h => h) (Or.inl ⟨by kernel_rfl, ?_⟩) (by assumption) ?_
          rotate_left 1
          · intro w' hw'; clear hw'; go_simp; try with_reducible rfl
          try simp only [Act.put, List.setIfInBounds_toArray, List.set_cons_zero, List.set_cons_succ]
          refine wpAnyH_done (by kernel_rfl) ?_ _
          obtain ⟨F5, pl5, q1, q2, q3, q4, q5, q6, q7, q8n⟩ := HPD.out.ex
          have hqw := HI.out.bx.lt
          have HD5 := Lib.hid (show IsDisk w5 d2 pd F5 from q1)
          have HS5 := Lib.hid (show StoB w5 ps pd s2.epoch (.pointer (some ⟨pl5, 0, none⟩)) s2.dead from q4)
          have HL5 := Lib.hid (show IsLog w5 s2.log pl5 pd from q5)
          have HB8 := Lib.hid ((HX8.out.bx.below (below_drew wd)).mod HPD.out.md (fun h => by
            rcases h with h | h | h
            · exact HX8.out.nq.2.2.1 h
            · exact HX8.out.nq.2.2.2 h
            · exact HX8.out.nq.2.1 h))
          have HR8 := Lib.hid ((HX8.out.rs.below (below_drew wd)).mod HPD.out.md (fun k hk h => by
            have h1 := HX8.out.nv k hk
            rcases h with h | h | h
            · exact h1.2.1 h
            · exact h1.2.2.1 h
            · exact h1.1 h))
          have HRS5 := Lib.hid ((HI.out.rs.below (below_drew wd)).mod HPD.out.md (fun k hk h => by
            have h1 := HI.out.nv k hk
            rcases h with h | h | h
            · exact h1.2.1 h
            · exact h1.2.2.1 h
            · exact h1.1 h))
          obtain ⟨oa, oc, rfl, _⟩ := HX8.out.rs.slice
          rw [← HM.out] at HB8 HR8
          have HP := Lib.hid (show ¬ F5 q ∧ q ≠ ps ∧ q ≠ pl5 ∧ ¬ F5 ps ∧ ¬ F5 pl5 ∧ ps ≠ pl5 ∧ (∀ k, F5 k → w.heap.size ≤ k) ∧ w.heap.size ≤ ps ∧ w.heap.size ≤ pl5 ∧ w.heap.size ≤ q from
            ⟨fun h => by
              rcases q2 q h with g | g
              · exact HI.out.nq.1 g
              · have g : wd.heap.size ≤ q := g
                omega, HI.out.nq.2.1, fun h => by
              rcases q3 with g | g
              · exact HI.out.nq.2.2 (h.trans g)
              · have g : wd.heap.size ≤ pl5 := g
                omega, q6, q7, q8n, fun k hk => by
              rcases q2 k hk with g | g
              · exact HI.out.lo.1 k g
              · exact Nat.le_trans HI.out.bel.size g, HI.out.lo.2.1, by
              rcases q3 with g | g
              · rw [g]; exact HI.out.lo.2.2.1
              · exact Nat.le_trans HI.out.bel.size g, HI.out.lo.2.2.2⟩)
          have hout : ∀ k, k < wd.heap.size → ¬ F k → k ≠ pl → ¬ F5 k ∧ k ≠ pl5 := fun k h1 h2 h3 => ⟨fun h => by
              rcases q2 k h with g | g
              · exact h2 g
              · have g : wd.heap.size ≤ k := g
                omega, fun h => by
              rcases q3 with g | g
              · exact h3 (h.trans g)
              · have g : wd.heap.size ≤ pl5 := g
                omega⟩
          have HNV := Lib.hid (show ∀ k, (Value.slice oa m oc).ownBlock = some k → ¬ F5 k ∧ k ≠ ps ∧ k ≠ pl5 ∧ k ≠ q ∧ k < wd.heap.size from fun k hk => by
            rw [HM.out] at hk
            have h1 := HX8.out.nv k hk
            have h2 := hout k h1.2.2.2.2.2 h1.1 h1.2.2.1
            exact ⟨h2.1, h1.2.1, h2.2, h1.2.2.2.1, h1.2.2.2.2.2⟩)
          have HNVS := Lib.hid (show ∀ k, (Value.slice sa sn sc).ownBlock = some k → ¬ F5 k ∧ k < wd.heap.size from fun k hk => by
            have h1 := HI.out.nv k hk
            exact ⟨(hout k h1.2.2.2.2 h1.1 h1.2.2.1).1, h1.2.2.2.2⟩)
          have HNQ := Lib.hid (show q8 ≠ q from HX8.out.nq.1)
          have HBE := Lib.hid hS5
          have HSZ5 := Lib.hid (show wd.heap.size ≤ w5.heap.size ∧ q < wd.heap.size from ⟨HPD.out.md.size, hqw⟩)
          clear q1 q2 q3 q4 q5 q6 q7 q8n hqw hout HX8 HPD HI hS5 HAPC HBX
          rcases HA2.out with ⟨y0, y1, y2, y3, y4, _⟩ | ⟨y0, _, y1, ep', y2, y3⟩
          · subst y0
            rw [show errV 0 = .nilIface from rfl]
            have HNX := Lib.hid (show StoI d2 s2 ⟨C2, B2, L2⟩ ∧ s2.dead = false ∧ s2.log.dead = false ∧ s2.epoch.toNat ≤ 1 + 2 * (k + 1) from ⟨y3, y1, y2, by have := HEP.out; omega⟩)
            have hbx := HBE.out.1
            have c0 : w5.cell? ⟨q, 0, none⟩ = some (.int .i64 c) := hbx.cell 0 _ rfl
            have c1 : w5.cell? ⟨q, 1, none⟩ = some (.int .i64 b) := hbx.cell 1 _ rfl
            have c2 : w5.cell? ⟨q, 2, none⟩ = some (.slice sa sn sc) := hbx.cell 2 _ rfl
            have f0 := hbx.free 0
            have f1 := hbx.free 1
            have f2 := hbx.free 2
            have d0 : w5.cell? ⟨q8, 0, none⟩ = some (.int .i64 C2) := HB8.out.cell 0 _ rfl
            have d1 : w5.cell? ⟨q8, 1, none⟩ = some (.int .i64 B2) := HB8.out.cell 1 _ rfl
            have d2' : w5.cell? ⟨q8, 2, none⟩ = some (.slice oa m oc) := HB8.out.cell 2 _ rfl
            have hm9 := Mod.set3 q w5 (.int .i64 C2) (.int .i64 B2) (.slice oa m oc)
            have hbel := HBE.out.2
            have HFI := Lib.hid (show LivI w (((w5.setCell ⟨q, 0, none⟩ (.int .i64 C2)).setCell ⟨q, 1, none⟩ (.int .i64 B2)).setCell ⟨q, 2, none⟩ (.slice oa m oc)) pd ps pl5 q F5 d2 s2 ⟨C2, B2, L2⟩ (.slice oa m oc) from
              ⟨HD5.out.mod hm9 (fun k hk e => HP.out.1 (by rw [← e]; exact hk)), HS5.out.mod hm9 (fun e => HP.out.2.1 e.symm), Box.mod HL5.out hm9 (fun e => HP.out.2.2.1 e.symm), ⟨HP.out.2.2.2.1, HP.out.2.2.2.2.1, HP.out.2.2.2.2.2.1⟩, ⟨HP.out.1, HP.out.2.1, HP.out.2.2.1⟩, HP.out.2.2.2.2.2.2, HNX.out.1, ⟨HNX.out.2.1, HNX.out.2.2.1⟩, ((hbx.set 0 (.int .i64 C2)).set 1 (.int .i64 B2)).set 2 (.slice oa m oc), HR8.out.mod hm9 (fun k hk e => (HNV.out k hk).2.2.2.1 e), fun k hk => ⟨(HNV.out k hk).1, (HNV.out k hk).2.1, (HNV.out k hk).2.2.1, (HNV.out k hk).2.2.2.1, Nat.lt_of_lt_of_le (HNV.out k hk).2.2.2.2 (Nat.le_trans HSZ5.out.1 hm9.size)⟩, hbel.trans (hm9.below hbel.size (fun k hk => by have := HP.out.2.2.2.2.2.2.2.2.2; omega))⟩)
            have hq1 : ¬ q8 = q := HNQ.out
            have hq2 : ¬ q = q8 := fun e => HNQ.out e.symm
            clear hbx hm9 hbel HD5 HS5 HL5 HR8 HB8 HBE y1 y2 y3 y4 HRS5
            go_wp2_with fail
            go_roundg (n - (k + 1))
            case measure => have := HGK.out; have := HK.out; omega
            case rel => exact ⟨k + 1, F5, ps, pl5, d2, s2, ⟨C2, B2, L2⟩, _, by have := HGK.out; have := HK.out; omega, rfl, by go_num, HFI.out, by have := HT2.out; omega, HNX.out.2.2.2⟩
          subst y0
          rw [y1] at HS5
          rw [show errV 22 = .iface 91 (.int .i64 22) from rfl]
          have HKP := Lib.hid y3
          have HEP2 := Lib.hid y2
          clear y1 y2 y3 HB8 HR8 HNV HNQ HL5 HA2
          go_wp2_with fail
          refine wp_region_held_drew (S := fun W => Box W q #[.int .i64 c, .int .i64 b, .slice sa sn sc] 30 ∧ Below w.heap.size w W) (by kernel_rfl) ⟨HBE.out.1.below (below_drew w5), HBE.out.2.trans ((below_drew w5).mono HBE.out.2.size)⟩ (fun hHeld => ?_)
          refine wpAnyH_take (i := 0) (oi := ⟨some 97, _, _, _, _, _⟩) (v := ?_) rfl (by kernel_rfl) (by kernel_rfl) (by kernel_rfl) (fun _ _ _ h => h) (Or.inl ⟨by kernel_rfl, ?_⟩) (by assumption) ?_
          rotate_left 1
          · intro w' hw'; clear hw'; go_simp; try with_reducible rfl
          try simp only [Act.put, List.setIfInBounds_toArray, List.set_cons_zero, List.set_cons_succ]
          refine wpAnyH_ready (rs := [1]) (by kernel_rfl) (by simp) (AllReadyH.cons (o := ⟨some 98, .call _, _, _, _, _⟩) rfl (fun K hK => ?_) AllReadyH.nil)
          go_simp
          refine (show Calls _ _ #[.iface 91 (.int .i64 22), .int .i64 22] _ _ from plain_any 22 _ (by decide) (by decide) (HG.out.below hHeld.2)).mono ?_
          rintro e3 w6 ⟨rfl, hb3⟩
          have h6' : Box w6 q #[.int .i64 c, .int .i64 b, .slice sa sn sc] 30 ∧ Below w.heap.size w w6 := ⟨hHeld.1.below hb3, hHeld.2.trans (hb3.mono hHeld.2.size)⟩
          refine hK.out _ _ h6' (fun h6 => ?_)
          have HB6 := Lib.hid (below_trans (below_drew w5) hb3)
          clear hb3
          clear hK K h6'
          try simp only [Act.put, List.setIfInBounds_toArray, List.set_cons_zero, List.set_cons_succ]
          refine wpAnyH_take (i := 2) (oi := ⟨some 99, _, _, _, _, _⟩) (v := ?_) rfl (by kernel_rfl) (by kernel_rfl) (by kernel_rfl) (fun _ _ _ h => h) (Or.inl ⟨by kernel_rfl, ?_⟩) (by assumption) ?_
          rotate_left 1
          · intro w' hw'; clear hw'; go_simp; try with_reducible rfl
          try simp only [Act.put, List.setIfInBounds_toArray, List.set_cons_zero, List.set_cons_succ]
          refine wpAnyH_take (i := 3) (oi := ⟨some 100, _, _, _, _, _⟩) (v := ?_) rfl (by kernel_rfl) (by kernel_rfl) (by kernel_rfl) (fun _ _ _ h => h) (Or.inl ⟨by kernel_rfl, ?_⟩) (by assumption) ?_
          rotate_left 1
          · intro w' hw'; clear hw'; go_simp; try with_reducible rfl
          try simp only [Act.put, List.setIfInBounds_toArray, List.set_cons_zero, List.set_cons_succ]
          refine wpAnyH_take (i := 4) (oi := ⟨some 101, _, _, _, _, _⟩) (v := ?_) rfl (by kernel_rfl) (by kernel_rfl) (by kernel_rfl) (fun _ _ _ h => h) (Or.inl ⟨by kernel_rfl, ?_⟩) (by assumption) ?_
          rotate_left 1
          · intro w' hw'; clear hw'; go_simp; try with_reducible rfl
          try simp only [Act.put, List.setIfInBounds_toArray, List.set_cons_zero, List.set_cons_succ]
          refine wpAnyH_take (i := 5) (oi := ⟨some 102, _, _, _, _, _⟩) (v := ?_) rfl (by kernel_rfl) (by kernel_rfl) (by kernel_rfl) (fun _ _ _ h => h) (Or.inl ⟨by kernel_rfl, ?_⟩) (by assumption) ?_
          rotate_left 1
          · intro w' hw'; clear hw'; go_simp; try with_reducible rfl
          try simp only [Act.put, List.setIfInBounds_toArray, List.set_cons_zero, List.set_cons_succ]
          refine wpAnyH_take (i := 6) (oi := ⟨some 103, _, _, _, _, _⟩) (v := ?_) rfl (by kernel_rfl) (by kernel_rfl) (by kernel_rfl) (fun _ _ _ h => h) (Or.inl ⟨by kernel_rfl, ?_⟩) (by assumption) ?_
          rotate_left 1
          · intro w' hw'; clear hw'; go_simp; try with_reducible rfl
          try simp only [Act.put, List.setIfInBounds_toArray, List.set_cons_zero, List.set_cons_succ]
          refine wpAnyH_take (i := 7) (oi := ⟨some 104, _, _, _, _, _⟩) (v := ?_) rfl (by kernel_rfl) (by kernel_rfl) (by kernel_rfl) (fun _ _ _ h => h) (Or.inl ⟨by kernel_rfl, ?_⟩) (by assumption) ?_
          rotate_left 1
          · intro w' hw'; clear hw'; go_simp; try with_reducible rfl
          try simp only [Act.put, List.setIfInBounds_toArray, List.set_cons_zero, List.set_cons_succ]
          refine wpAnyH_take (i := 8) (oi := ⟨some 105, .load _ _, _, _, _, _⟩) (v := .agg e.cells) rfl (by kernel_rfl) (by kernel_rfl) (by kernel_rfl) (fun _ _ _ h => h) (Or.inl ⟨by kernel_rfl, fun w' hw' => exec_load_m 47 (.tmp 104) rfl (rb) (ro + k * 15) rfl (e.cells).toList _ (fun j v hv => below_heap hw'.2 (HROW0.out j v hv)) Tryz.underlying47 rfl (by kernel_rfl)⟩) (by assumption) ?_
          try simp only [Act.put, List.setIfInBounds_toArray, List.set_cons_zero, List.set_cons_succ]
          refine wpAnyH_take (i := 9) (oi := ⟨some 106, .load _ _, _, _, _, _⟩) (v := .agg #[.int .i64 c, .int .i64 b, .slice sa sn sc]) rfl (by kernel_rfl) (by kernel_rfl) (by kernel_rfl) (fun _ _ _ h => h) (Or.inl ⟨by kernel_rfl, fun w' hw' => exec_load_m 30 (.tmp 7) rfl (q) (0) rfl (#[.int .i64 c, .int .i64 b, .slice sa sn sc]).toList _ (zrangeS hw'.1) Tryz.underlying30 rfl (by kernel_rfl)⟩) (by assumption) ?_
          try simp only [Act.put, List.setIfInBounds_toArray, List.set_cons_zero, List.set_cons_succ]
          refine wpAnyH_ready (rs := [10]) (by kernel_rfl) (by simp) (AllReadyH.cons (o := ⟨some 107, .call _, _, _, _, _⟩) rfl (fun K hK => ?_) AllReadyH.nil)
          go_simp
          refine (show Calls _ _ #[.pointer (some ⟨ps, 0, none⟩), .agg e.cells, .agg #[.int .i64 c, .int .i64 b, .slice sa sn sc]] w6 _ from stoDead_calls e c b sa sn sc ps pd s2.epoch _ w6 ((show StoB w5 ps pd s2.epoch _ true from HS5.out).below HB6.out)).mono ?_
          rintro e3 w7 ⟨rfl, hb3⟩
          have h7' : Box w7 q #[.int .i64 c, .int .i64 b, .slice sa sn sc] 30 ∧ Below w.heap.size w w7 := ⟨h6.1.below hb3, h6.2.trans (hb3.mono h6.2.size)⟩
          refine hK.out _ _ h7' (fun h7 => ?_)
          have HB7 := Lib.hid (HB6.out.trans (hb3.mono HB6.out.size))
          clear hb3
          clear hK K h7'
          try simp only [Act.put, List.setIfInBounds_toArray, List.set_cons_zero, List.set_cons_succ]
          refine wpAnyH_ready (rs := [11]) (by kernel_rfl) (by simp) (AllReadyH.cons (o := ⟨some 108, .call _, _, _, _, _⟩) rfl (fun K hK => ?_) AllReadyH.nil)
          go_simp
          refine (show Calls _ _ #[.iface 91 (.int .i64 22), .int .i64 22] w7 _ from plain_any 22 w7 (by decide) (by decide) (HG.out.below h7.2)).mono ?_
          rintro e3 w8 ⟨rfl, hb3⟩
          have h8' : Box w8 q #[.int .i64 c, .int .i64 b, .slice sa sn sc] 30 ∧ Below w.heap.size w w8 := ⟨h7.1.below hb3, h7.2.trans (hb3.mono h7.2.size)⟩
          refine hK.out _ _ h8' (fun h8 => ?_)
          have HB8 := Lib.hid (HB7.out.trans (hb3.mono HB7.out.size))
          clear hb3
          clear hK K h8'
          try simp only [Act.put, List.setIfInBounds_toArray, List.set_cons_zero, List.set_cons_succ]
          refine wpAnyH_take (i := 12) (oi := ⟨some 109, _, _, _, _, _⟩) (v := ?_) rfl (by kernel_rfl) (by kernel_rfl) (by kernel_rfl) (fun _ _ _ h => h) (Or.inl ⟨by kernel_rfl, ?_⟩) (by assumption) ?_
          rotate_left 1
          · intro w' hw'; clear hw'; go_simp; try with_reducible rfl
          try simp only [Act.put, List.setIfInBounds_toArray, List.set_cons_zero, List.set_cons_succ]
          refine wpAnyH_take (i := 13) (oi := ⟨some 110, _, _, _, _, _⟩) (v := ?_) rfl (by kernel_rfl) (by kernel_rfl) (by kernel_rfl) (fun _ _ _ h => h) (Or.inl ⟨by kernel_rfl, ?_⟩) (by assumption) ?_
          rotate_left 1
          · intro w' hw'; clear hw'; go_simp; try with_reducible rfl
          try simp only [Act.put, List.setIfInBounds_toArray, List.set_cons_zero, List.set_cons_succ]
          refine wpAnyH_done (by kernel_rfl) ?_ _
          have HQ8 := Lib.hid h8
          clear h6 h7 h8 hHeld HB6 HB7 HBE HS5
          have hcu := cuts_calls fs (.slice fa fn fc) (k : Int) (n : Int) w8 (by rw [← HFN.out]; exact HFV.out.below HQ8.out.2) (fun f hf => ⟨(HFK.out f hf).at_, by obtain ⟨a, c, h, _⟩ := (HFK.out f hf).rd; exact ⟨a, c, h⟩⟩) (by omega) (by omega)
          have HCU := Lib.hid hcu
          clear hcu
          go_wp2_with fail
          refine HCU.out.mono ?_
          rintro ev w9 ⟨cv, rfl, ⟨cl, hcl⟩, kd, rfl⟩
          have hbd := below_drewN w8 kd
          have hb9 := HQ8.out.2.trans (hbd.mono HQ8.out.2.size)
          have hb59 := HB8.out.trans (hbd.mono HB8.out.size)
          have hcr : Rd (w8.drewN kd) cv cl.length (cl.map (Value.int .i64)) ∧ (∀ x ∈ cl, I64 x) ∧ (0 < cl.length → ∀ k, cv.ownBlock = some k → ¬ F5 k) := by
            rcases hcl with ⟨h1, h2⟩ | ⟨f, hf, h1, h2⟩
            · rw [h1, h2]; exact ⟨Rd.nil _, (fun x hx => by cases hx), fun h => absurd h (by decide)⟩
            · have h3 := HFK.out f hf
              rw [h1, h2]
              exact ⟨h3.rd.below hb9, h3.ok, fun h4 k hk h5 => by
                have h6 := Rd.blk h3.rd (by rw [List.length_map]; exact h4) k hk
                have := HP.out.2.2.2.2.2.2.1 k h5
                omega⟩
          have hag := again_calls d2 pd F5 cv cl st ep' _ (HD5.out.grow hb59) HKP.out.d (.inr HKP.out) (by have := HEP2.out; have := HEP.out; have := HLN.out; have := HK.out; omega) (by have := HT2.out; have := HLN.out; have := HK.out; omega) hcr.1 hcr.2.1 hcr.2.2 (HG.out.below hb9) (fun h => by have := HP.out.2.2.2.2.2.2.1 0 h; have := HG0.out; omega)
          rw [← HSNL.out.2.1, ← HSNL.out.2.2] at hag
          have HAG := Lib.hid hag
          have HBX9 := Lib.hid (HQ8.out.1.below hbd)
          have HB9 := Lib.hid hb9
          have HRS9 := Lib.hid (HRS5.out.below hb59)
          have HSZ9 := Lib.hid (show w5.heap.size ≤ (w8.drewN kd).heap.size from hb59.size)
          clear hbd hb9 hb59 hcr hag hcl HCU HQ8 HB8 HD5 HRS5
          generalize w8.drewN kd = w9 at HAG HBX9 HB9 HRS9 HSZ9 ⊢
          go_wp2_with fail
          refine HAG.out.mono ?_
          rintro ev wa ⟨ps6, o, rfl, hr⟩
          obtain ⟨F6, pl6, d6, r1, r2, r3, r4, r5, r6, r7, r8, r9, r10, r11, r12, r13, _⟩ := hr.ex
          have how := hr.ow
          obtain ⟨ga, gc, rfl, _⟩ := how.slice
          rw [← HSNL.out.1] at how r12 ⊢
          have hba := below_alloc wa (.cells #[.int .i64 c, .int .i64 b, .slice ga sn gc] 30)
          have hqx := (HBX9.out.mod hr.md HP.out.1).below hba
          have hbel := HB9.out.trans (hr.md.below HB9.out.size (fun k hk => HP.out.2.2.2.2.2.2.1 k hk))
          have hbel2 := hbel.trans (hba.mono hbel.size)
          have hss := sameState_calls st st (.slice ga sn gc) (.slice sa sn sc) _ (how.rd.below hba) ((HRS9.out.mod hr.md (fun k hk => (HNVS.out k hk).1)).below hba)
          rw [sameSt_self, ← HSNL.out.2.1, ← HSNL.out.2.2] at hss
          have HSS := Lib.hid hss
          have HQL := Lib.hid (show q < wa.heap.size by have := HSZ9.out; have := HSZ5.out; have := hr.md.size; omega)
          have HX15 := Lib.hid (Box.new wa #[.int .i64 c, .int .i64 b, .slice ga sn gc] 30)
          have HQX := Lib.hid hqx
          have hqs : q < w9.heap.size := by have := HSZ9.out; have := HSZ5.out; omega
          have HLV := Lib.hid (show IsDisk (wa.alloc (.cells #[.int .i64 c, .int .i64 b, .slice ga sn gc] 30)) d6 pd F6 ∧ StoB (wa.alloc (.cells #[.int .i64 c, .int .i64 b, .slice ga sn gc] 30)) ps6 pd (ep' + 1) (.pointer (some ⟨pl6, 0, none⟩)) false ∧ IsLog (wa.alloc (.cells #[.int .i64 c, .int .i64 b, .slice ga sn gc] 30)) (logN (ep' + 1)) pl6 pd ∧ RdS (wa.alloc (.cells #[.int .i64 c, .int .i64 b, .slice ga sn gc] 30)) (.slice ga sn gc) st.l ∧ Below w.heap.size w (wa.alloc (.cells #[.int .i64 c, .int .i64 b, .slice ga sn gc] 30)) from
            ⟨r1.grow hba, r8.below hba, Box.below r9 hba, how.rd.below hba, hbel2⟩)
          have HN6 := Lib.hid (show (¬ F6 ps6 ∧ ¬ F6 pl6 ∧ ps6 ≠ pl6) ∧ (¬ F6 q ∧ q ≠ ps6 ∧ q ≠ pl6) ∧ ((∀ k, F6 k → w.heap.size ≤ k) ∧ w.heap.size ≤ ps6 ∧ w.heap.size ≤ pl6 ∧ w.heap.size ≤ q) ∧ (∀ k, (Value.slice ga sn gc).ownBlock = some k → ¬ F6 k ∧ k ≠ ps6 ∧ k ≠ pl6 ∧ k ≠ q ∧ k < wa.heap.size) from
            ⟨⟨r5, r6, r7⟩, ⟨fun h => by
              rcases r2 q h with g | g
              · exact HP.out.1 g
              · omega, by omega, by omega⟩, ⟨fun k hk => by
              rcases r2 k hk with g | g
              · exact HP.out.2.2.2.2.2.2.1 k g
              · have := HB9.out.size; omega, by have := HB9.out.size; omega, by have := HB9.out.size; omega, HP.out.2.2.2.2.2.2.2.2.2⟩, fun k hk => ⟨(r12 k hk).2.1, (r12 k hk).2.2.1, (r12 k hk).2.2.2, by have := (r12 k hk).1; omega, (how.lt k hk).2⟩⟩)
          have HSI := Lib.hid r10
          have HT6 := Lib.hid (show d6.trail.length ≤ 20000 + 30000 * (k + 1) by have := HT2.out; omega)
          have HE6 := Lib.hid (show (ep' + 1).toNat ≤ 1 + 2 * (k + 1) by
            have h1 := HEP2.out
            have h2 := HEP.out
            have h3 := HLN.out
            have h4 := HK.out
            have h5 := (epoch_next (ep := ep') (by omega)).1
            omega)
          have c0 : (wa.alloc (.cells #[.int .i64 c, .int .i64 b, .slice ga sn gc] 30)).cell? ⟨q, 0, none⟩ = some (.int .i64 c) := hqx.cell 0 _ rfl
          have c1 : (wa.alloc (.cells #[.int .i64 c, .int .i64 b, .slice ga sn gc] 30)).cell? ⟨q, 1, none⟩ = some (.int .i64 b) := hqx.cell 1 _ rfl
          have c2 : (wa.alloc (.cells #[.int .i64 c, .int .i64 b, .slice ga sn gc] 30)).cell? ⟨q, 2, none⟩ = some (.slice sa sn sc) := hqx.cell 2 _ rfl
          clear r1 r2 r3 r4 r5 r6 r7 r8 r9 r10 r11 r12 r13 how hr hba hqx hbel hbel2 hss hqs HAG HBX9 HRS9
          go_wp2_with fail
          refine (show Calls _ _ #[.agg #[.int .i64 c, .int .i64 b, .slice ga sn gc], .agg #[.int .i64 c, .int .i64 b, .slice sa sn sc]] _ _ from HSS.out).mono ?_
          rintro ev wb ⟨rfl, hb⟩
          clear c0 c1 c2
          have hx15 := HX15.out.below hb
          have hqx := HQX.out.below hb
          have d0 : wb.cell? ⟨wa.heap.size, 0, none⟩ = some (.int .i64 c) := hx15.cell 0 _ rfl
          have d1 : wb.cell? ⟨wa.heap.size, 1, none⟩ = some (.int .i64 b) := hx15.cell 1 _ rfl
          have d2' : wb.cell? ⟨wa.heap.size, 2, none⟩ = some (.slice ga sn gc) := hx15.cell 2 _ rfl
          have c0 : wb.cell? ⟨q, 0, none⟩ = some (.int .i64 c) := hqx.cell 0 _ rfl
          have c1 : wb.cell? ⟨q, 1, none⟩ = some (.int .i64 b) := hqx.cell 1 _ rfl
          have c2 : wb.cell? ⟨q, 2, none⟩ = some (.slice sa sn sc) := hqx.cell 2 _ rfl
          have f0 := hqx.free 0
          have f1 := hqx.free 1
          have f2 := hqx.free 2
          have hq1 : ¬ wa.heap.size = q := by have := HQL.out; omega
          have hq2 : ¬ q = wa.heap.size := by have := HQL.out; omega
          have hm9 := Mod.set3 q wb (.int .i64 c) (.int .i64 b) (.slice ga sn gc)
          have hbel := HLV.out.2.2.2.2.trans (hb.mono HLV.out.2.2.2.2.size)
          have HFI := Lib.hid (show LivI w (((wb.setCell ⟨q, 0, none⟩ (.int .i64 c)).setCell ⟨q, 1, none⟩ (.int .i64 b)).setCell ⟨q, 2, none⟩ (.slice ga sn gc)) pd ps6 pl6 q F6 d6 ⟨ep' + 1, logN (ep' + 1), false⟩ st (.slice ga sn gc) from
            ⟨(HLV.out.1.grow hb).mod hm9 (fun k hk e => HN6.out.2.1.1 (by rw [← e]; exact hk)), (HLV.out.2.1.below hb).mod hm9 (fun e => HN6.out.2.1.2.1 e.symm), Box.mod (Box.below HLV.out.2.2.1 hb) hm9 (fun e => HN6.out.2.1.2.2 e.symm), HN6.out.1, HN6.out.2.1, HN6.out.2.2.1, HSI.out, ⟨rfl, rfl⟩, by rw [← HSNL.out.2.1, ← HSNL.out.2.2]; exact ((hqx.set 0 (.int .i64 c)).set 1 (.int .i64 b)).set 2 (.slice ga sn gc), (HLV.out.2.2.2.1.below hb).mod hm9 (fun k hk e => (HN6.out.2.2.2 k hk).2.2.2.1 e), fun k hk => ⟨(HN6.out.2.2.2 k hk).1, (HN6.out.2.2.2 k hk).2.1, (HN6.out.2.2.2 k hk).2.2.1, (HN6.out.2.2.2 k hk).2.2.2.1, by have h1 := (HN6.out.2.2.2 k hk).2.2.2.2; have h2 := hx15.lt; have h3 := hm9.size; omega⟩, hbel.trans (hm9.below hbel.size (fun k hk => by have := HN6.out.2.2.1.2.2.2; omega))⟩)
          clear hx15 hqx hb hm9 hbel HX15 HQX HLV HN6 HSI HSS
          go_wp2_with fail
          go_roundg (n - (k + 1))
          case measure => have := HGK.out; have := HK.out; omega
          case rel => exact ⟨k + 1, F6, ps6, pl6, d6, ⟨ep' + 1, logN (ep' + 1), false⟩, st, _, by have := HGK.out; have := HK.out; omega, rfl, by go_num, HFI.out, HT6.out, HE6.out⟩
      have j3 : (j : Int) < 5 := by omega
      have j4 : decide ((j : Int) < 5) = true := by simpa using j3
      have hjl : j < fs.length := by have := HFN.out; omega
      obtain ⟨fb, fo, hfa, hc0, hc1, hc2⟩ := fail_at (HFV.out.below HI.out.bel) j hjl
      subst hfa
      obtain ⟨f, hf⟩ : ∃ f, f = fs[j] := ⟨_, rfl⟩
      rw [← hf] at hc0 hc1 hc2
      have hfo : f.Ok w := by rw [hf]; exact HFK.out _ (List.getElem_mem hjl)
      have HPK := Lib.hid (fun W => pick_calls f.at_ (n : Int) W hfo.at_.1 hfo.at_.2 (by omega) (by omega))
      have HPW := Lib.hid (fun W => pick_calls f.writes 6 W hfo.writes.1 hfo.writes.2 (by decide) (by decide))
      have hpv := pickI_lt f.writes 6 (by decide)
      obtain ⟨y, hy⟩ : ∃ y, y = pickI f.at_ (n : Int) := ⟨_, rfl⟩
      obtain ⟨y2, hy2⟩ : ∃ y, y = pickI f.writes 6 := ⟨_, rfl⟩
      rw [← hy] at HPK
      rw [← hy2] at HPW hpv
      have HCU := Lib.hid (fun W (hW : IsDisk W d pd F) => cut_calls d pd F y2 W hW (by omega))
      rw [if_neg (by omega)] at HCU
      obtain ⟨m, hm⟩ : ∃ m, m = y2.toNat := ⟨_, rfl⟩
      rw [← hm] at HCU
      clear hj h5 hjl hf hfo hpv hy hy2 hm hc2
      go_wp2_with fail
      refine (HPK.out _).mono ?_
      rintro ev w2' ⟨rfl, rfl⟩
      cases hq : (y == (k : Int))
      · clear HPW HCU hc0 hc1
        go_wp2_with fail
        go_roundg (fn - (j + 1))
        case measure => have := HGJ.out; have := HJ.out; omega
        case rel => exact ⟨j + 1, F, d, by have := HGJ.out; have := HJ.out; omega, by go_num, HI.out, HTR.out⟩
      · go_wp2_with fail
        refine (HPW.out _).mono ?_
        rintro ev w3' ⟨rfl, rfl⟩
        go_wp2_with fail
        refine (HCU.out _ HI.out.dk).mono ?_
        rintro ev w5 ⟨rfl, F2, hd2, hm2, hg2⟩
        have HI2 := Lib.hid (HI.out.cut m hd2 hm2 hg2)
        clear hd2 hm2 hg2 HI HPK HPW HCU hc0 hc1
        go_wp2_with fail
        go_roundg (fn - (j + 1))
        case measure => have := HGJ.out; have := HJ.out; omega
        case rel => exact ⟨j + 1, F2, _, by have := HGJ.out; have := HJ.out; omega, by go_num, HI2.out, HTR.out⟩
end Go.Proofs.YtgcnolapjppbpaaGreatDoor
