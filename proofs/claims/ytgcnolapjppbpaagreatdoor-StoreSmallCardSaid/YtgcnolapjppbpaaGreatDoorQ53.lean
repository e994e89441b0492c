/-
  Texts of one proof, one behind the other.
-/
import Derived.Test.YtgcnolapjppbpaaGreatDoorQ52
import Derived.Test.YtgcnolapjppbpaaGreatDoorQ37
namespace Go.Proofs.YtgcnolapjppbpaaGreatDoor
open Go.RowKit
set_option maxRecDepth 100000
structure LivI (w wr : World) (pd ps pl q : Nat) (F : Nat → Prop) (d : DiskM) (s : StoM) (st : StM) (sv : Value) : Prop where
  dk : IsDisk wr d pd F
  sb : StoB wr ps pd s.epoch (.pointer (some ⟨pl, 0, none⟩)) s.dead
  lg : IsLog wr s.log pl pd
  np : ¬ F ps ∧ ¬ F pl ∧ ps ≠ pl
  nq : ¬ F q ∧ q ≠ ps ∧ q ≠ pl
  lo : (∀ k, F k → w.heap.size ≤ k) ∧ w.heap.size ≤ ps ∧ w.heap.size ≤ pl ∧ w.heap.size ≤ q
  si : StoI d s st
  al : s.dead = false ∧ s.log.dead = false
  bx : Box wr q #[.int .i64 st.clock, .int .i64 st.births, sv] 30
  rs : RdS wr sv st.l
  nv : ∀ k, sv.ownBlock = some k → ¬ F k ∧ k ≠ ps ∧ k ≠ pl ∧ k ≠ q ∧ k < wr.heap.size
  bel : Below w.heap.size w wr
theorem LivI.below {w wr w2 : World} {pd ps pl q : Nat} {F : Nat → Prop} {d : DiskM} {s : StoM} {st : StM} {sv : Value} (h : LivI w wr pd ps pl q F d s st sv) (hb : Below wr.heap.size wr w2) : LivI w w2 pd ps pl q F d s st sv :=
  ⟨h.dk.grow hb, h.sb.below hb, Box.below h.lg hb, h.np, h.nq, h.lo, h.si, h.al, h.bx.below hb, h.rs.below hb, fun k hk => by have := h.nv k hk; exact ⟨this.1, this.2.1, this.2.2.1, this.2.2.2.1, Nat.lt_of_lt_of_le this.2.2.2.2 hb.size⟩, h.bel.trans (hb.mono h.bel.size)⟩
theorem LivI.apd {w wr w2 : World} {pd ps pl q : Nat} {F : Nat → Prop} {d : DiskM} {s : StoM} {st : StM} {sv : Value} {R : StoM × DiskM × Int} (h : LivI w wr pd ps pl q F d s st sv) (ha : Appd wr ps pl pd F R w2) : Below w.heap.size w w2 ∧ Box w2 q #[.int .i64 st.clock, .int .i64 st.births, sv] 30 :=
  ⟨h.bel.trans (ha.md.below h.bel.size (fun k hk => by
    rcases hk with hk | hk | hk
    · have := h.lo.2.1; omega
    · have := h.lo.2.2.1; omega
    · exact h.lo.1 k hk)), h.bx.mod ha.md (fun hk => by
    rcases hk with hk | hk | hk
    · exact h.nq.2.1 hk
    · exact h.nq.2.2 hk
    · exact h.nq.1 hk)⟩
structure NxtI (wr : World) (q q8 : Nat) (ps pl : Nat) (F : Nat → Prop) (C B : Int) (o : Value) (L : List SesM) : Prop where
  bx : Box wr q8 #[.int .i64 C, .int .i64 B, o] 30
  rs : RdS wr o L
  nq : q8 ≠ q ∧ ¬ F q8 ∧ q8 ≠ ps ∧ q8 ≠ pl
  nv : ∀ k, o.ownBlock = some k → ¬ F k ∧ k ≠ ps ∧ k ≠ pl ∧ k ≠ q ∧ k ≠ q8 ∧ k < wr.heap.size
theorem applyM_may {st : StM} {e : EvtM} (h : (applyM st e).1 = 0) : mayE e = true := by
  unfold applyM at h
  split at h
  · assumption
  · cases h
theorem img_none : blocksA (imgB noSt).length = 1 := by decide +kernel
set_option maxHeartbeats 25600000 in
theorem storeSmall_calls (l : List EvtM) (ev : Value) (w : World) (hev : RdE w ev l) (hok : ∀ e ∈ l, EvOk e) (hg : ErrType w) :
    Calls Tryz.prog 4 #[ev] w fun e w' => e = .returned (.bool true) ∧ Below w.heap.size w w' := by
  have HOK := Lib.hid hok
  have HEV := Lib.hid hev
  have HG := Lib.hid hg
  have HG0 := Lib.hid hg.lt
  obtain ⟨ea, ec, rfl, _, he2⟩ := hev.slice
  have hln : l.length ≤ 9223372036854775807 := by omega
  clear hev hok he2 hg
  obtain ⟨n, hN⟩ : ∃ n, n = l.length := ⟨_, rfl⟩
  rw [← hN] at hln HEV ⊢
  have HN := Lib.hid hN
  clear hN
  go_enter Tryz.func4, Tryz.ntmps4
  go_wp2_with fail
  refine (fresh26_calls w).mono ?_
  rintro e1 w1 ⟨pd, F, rfl, hd, hb, hF⟩
  have HB1 := Lib.hid hb
  have HF := Lib.hid hF
  have HD := Lib.hid hd
  clear hb hF hd
  go_wp2_with fail
  refine (works26_calls w1).mono ?_
  rintro e1 w2 ⟨rfl, hb⟩
  have HB2 := Lib.hid (HB1.out.trans (hb.mono HB1.out.size))
  have HD2 := Lib.hid (HD.out.grow hb)
  clear hb HD HB1
  by_cases hlen : (100 : Int) < (n : Int)
  · go_wp2_with fail
    refine (works26_calls w2).mono ?_
    rintro e1 w3 ⟨rfl, hb⟩
    have HB3 := Lib.hid (HB2.out.trans (hb.mono HB2.out.size))
    clear hb HB2
    go_wp2_with fail
    go_ret
    exact ⟨rfl, HB3.out⟩
  have HLN := Lib.hid (show n ≤ 100 by omega)
  have hag := again_calls _ pd F (.slice none 0 0) [] noSt 0 w2 HD2.out fresh_kept (.inl rfl) (by decide) (by decide) (Rd.nil w2) (fun x hx => by cases hx) (fun k hk => by cases hk) (HG.out.below HB2.out) (fun h => by have := HF.out 0 h; have := HG0.out; omega)
  have HAG := Lib.hid hag
  clear hag
  go_wp2_with fail
  refine (show Calls _ _ #[.pointer (some ⟨pd, 0, none⟩), .slice none 0 0] w2 _ from HAG.out).mono ?_
  rintro e1 w3 ⟨ps, o, rfl, hr⟩
  obtain ⟨F3, pl, d3, r1, r2, r3, r4, r5, r6, r7, r8, r9, r10, r11, r12, r13, r14⟩ := hr.ex
  have how := hr.ow
  obtain ⟨oa, oc, rfl, _⟩ := how.slice
  rw [show noSt.clock = 0 from rfl, show noSt.births = 0 from rfl, show noSt.l.length = 0 from rfl] at *
  have hba := below_alloc w3 (.cells #[.int .i64 0, .int .i64 0, .slice oa 0 oc] 30)
  have hbm : Below w.heap.size w w3 := HB2.out.trans (hr.md.below HB2.out.size (fun k hk => HF.out k hk))
  have r14 : d3.trail.length = 2 := by rw [r14 rfl, img_none]; rfl
  obtain ⟨e1, he1⟩ : ∃ e : UInt32, e = 0 + 1 := ⟨_, rfl⟩
  have hex : I32 e1 = 1 := by rw [he1]; rfl
  rw [← he1] at r8 r9 r10
  have HL0 := Lib.hid (show LivI w (w3.alloc (.cells #[.int .i64 0, .int .i64 0, .slice oa 0 oc] 30)) pd ps pl w3.heap.size F3 d3 ⟨e1, logN e1, false⟩ noSt (.slice oa 0 oc) from
    ⟨r1.grow hba, r8.below hba, Box.below r9 hba, ⟨r5, r6, r7⟩, ⟨fun h => by have := r1.lt _ h; omega, fun h => by have := r8.bx.lt; omega, fun h => by have := r9.lt; omega⟩, ⟨fun k hk => by
      rcases r2 k hk with g | g
      · exact HF.out k g
      · have := HB2.out.size; omega, by have := HB2.out.size; omega, by have := HB2.out.size; omega, hbm.size⟩, r10, ⟨rfl, rfl⟩, Box.new _ _ _, how.rd.below hba, fun k hk => ⟨(r12 k hk).2.1, (r12 k hk).2.2.1, (r12 k hk).2.2.2, by have := (how.lt k hk).2; omega, by have := (how.lt k hk).2; rw [World.size_alloc]; omega⟩, hbm.trans (hba.mono hbm.size)⟩)
  have HLF := Lib.hid r11
  have HTR := Lib.hid r14
  have HE1 := Lib.hid (show e1.toNat = 1 by rw [he1]; rfl)
  have HEP := Lib.hid (fun W (h : StoB W ps pd e1 (.pointer (some ⟨pl, 0, none⟩)) false) => epochS_calls ps pd e1 _ false W h)
  rw [hex] at HEP
  have HRC := Lib.hid (fun W h h2 => recordsS_calls ps pd pl e1 false (logN e1) W h h2)
  have HWR := Lib.hid (fun W (h : IsDisk W d3 pd F3) => writes_calls d3 pd F3 W h)
  rw [r14] at HWR
  clear r1 r2 r3 r4 r5 r6 r7 r8 r9 r10 r11 r12 r13 r14 how hr hba hbm he1 hex HAG HD2 HB2 HF hlen
  go_wp2_with fail
  generalize (w3.alloc (.cells #[.int .i64 0, .int .i64 0, .slice oa 0 oc] 30)) = w4 at HL0 ⊢
  generalize w3.heap.size = q at HL0 ⊢
  refine (HEP.out w4 HL0.out.sb).mono ?_
  rintro ev w5 ⟨rfl, rfl⟩
  go_wp2_with fail
  refine (HRC.out _ HL0.out.sb HL0.out.lg).mono ?_
  rintro ev w6 ⟨rfl, rfl⟩
  rw [show ((logN e1).records : Int) = 0 from rfl]
  go_wp2_with fail
  refine (HWR.out _ HL0.out.dk).mono ?_
  rintro ev w7 ⟨rfl, rfl⟩
  clear HEP HRC HWR
  go_wp2_with fail
  go_loopg [7] n (fun gk iv wr => ∃ (k : Nat) (F : Nat → Prop) (pl : Nat) (d : DiskM) (s : StoM) (st : StM) (sv : Value), gk + k = n ∧ iv = .int .i64 (k : Int) ∧ LivI w wr pd ps pl q F d s st sv ∧ d.left = none ∧ d.trail.length ≤ 2 + 2060 * k ∧ s.epoch.toNat ≤ 1 + k)
  case atStart => exact ⟨0, F3, pl, d3, _, noSt, _, Nat.add_zero _, rfl, HL0.out, HLF.out, by have := HTR.out; omega, by have := HE1.out; show e1.toNat ≤ 1 + 0; omega⟩
  case round =>
    clear HL0 HLF HTR HE1
    obtain ⟨k, F, pl, d, s, st, sv, hgk, rfl, hI, hlf, htr, hep⟩ := hrel
    have k0 : (0 : Int) ≤ (k : Int) := by omega
    have HGK := Lib.hid hgk
    have HI := Lib.hid hI
    have HLF := Lib.hid hlf
    have HTR := Lib.hid htr
    have HEP := Lib.hid hep
    clear hgk hI hlf htr hep
    by_cases hk : k < n
    rotate_left
    · have k1 : ¬ (k : Int) < (n : Int) := by omega
      clear hk
      go_wp2_with fail
      go_ret
      exact ⟨rfl, HI.out.bel⟩
    have k1 : (k : Int) < (n : Int) := by omega
    have hkl : k < l.length := by have := HN.out; omega
    obtain ⟨e, he⟩ : ∃ e, e = l[k] := ⟨_, rfl⟩
    obtain ⟨rb, ro, hra, hrow0⟩ := HEV.out.row k hkl
    subst hra
    rw [← he] at hrow0
    have hrow : wr.rangeAt rb (ro + k * 15) e.cells.toList := fun j v hv => below_heap HI.out.bel (hrow0 j v hv)
    have HROW := Lib.hid hrow
    have HROW0 := Lib.hid hrow0
    have HK := Lib.hid hk
    have hoe : EvOk e := by rw [he]; exact HOK.out _ (List.getElem_mem hkl)
    have HOE := Lib.hid hoe
    obtain ⟨sa, sc, rfl, _⟩ := HI.out.rs.slice
    obtain ⟨sn, hsn⟩ : ∃ n, n = st.l.length := ⟨_, rfl⟩
    obtain ⟨c, hcc⟩ : ∃ c, c = st.clock := ⟨_, rfl⟩
    obtain ⟨b, hbb⟩ : ∃ b, b = st.births := ⟨_, rfl⟩
    have HSN := Lib.hid (HI.out.si.kept.d.snd)
    have hapc := fun v' w' h => applied_calls st e v' w' h (by have := HSN.out.1.len; omega) (Nat.le_trans hoe.user (by decide)) (Nat.le_trans hoe.label (by decide)) hoe.scopes
    have hbx := HI.out.bx
    rw [← hsn, ← hcc, ← hbb] at hbx
    rw [← hcc, ← hbb] at hapc
    have HBX := Lib.hid hbx
    have HRS := Lib.hid HI.out.rs
    rw [← hsn] at HRS
    obtain ⟨A, hA⟩ : ∃ A, A = applyM st e := ⟨_, rfl⟩
    rw [← hA] at hapc
    obtain ⟨er, C2, B2, L2⟩ := A
    simp only at hapc
    have HA := Lib.hid hA.symm
    have HAP := Lib.hid hapc
    obtain ⟨m, hM⟩ : ∃ m, m = L2.length := ⟨_, rfl⟩
    have HM := Lib.hid hM
    have HSNL := Lib.hid (And.intro hsn (And.intro hcc hbb))
    have HI' := Lib.hid (show LivI w wr pd ps pl q F d s st (.slice sa sn sc) by rw [hsn]; exact HI.out)
    clear hk hkl he hrow hrow0 hoe hsn hcc hbb hapc hbx hA hM HI
    go_upto_region 10 with (fail)
    go_cut [8, 9] (fun s8 s9 wx => ∃ (q8 : Nat) (o : Value), s8 = .pointer (some ⟨q8, 0, none⟩) ∧ s9 = .bool (er == 0) ∧ LivI w wx pd ps pl q F d s st (.slice sa sn sc) ∧ NxtI wx q q8 ps pl F C2 B2 o L2)
    case first =>
      refine wp_region_held_drew (S := fun W => Below wr.heap.size wr W) (by kernel_rfl) (below_drew wr) (fun hHeld => ?_)
      refine wpAnyH_take (i := 0) (oi := ⟨some 57, .load _ _, _, _, _, _⟩) (v := .agg #[.int .i64 c, .int .i64 b, .slice sa sn sc]) rfl (by kernel_rfl) (by kernel_rfl) (by kernel_rfl) (fun _ _ _ h => h) (Or.inl ⟨by kernel_rfl, fun w' hw' => exec_load_m 30 (.tmp 5) rfl (q) (0) rfl (#[.int .i64 c, .int .i64 b, .slice sa sn sc]).toList _ (zrangeS (HBX.out.below hw')) Tryz.underlying30 rfl (by kernel_rfl)⟩) (by assumption) ?_
      try simp only [Act.put, List.setIfInBounds_toArray, List.set_cons_zero, List.set_cons_succ]
      refine wpAnyH_take (i := 1) (oi := ⟨some 58, _, _, _, _, _⟩) (v := ?_) rfl (by kernel_rfl) (by kernel_rfl) (by kernel_rfl) (fun _ _ _ h => h) (Or.inl ⟨by kernel_rfl, ?_⟩) (by assumption) ?_
      rotate_left 1
      · intro w' hw'; clear hw'; go_simp; try with_reducible rfl
      try simp only [Act.put, List.setIfInBounds_toArray, List.set_cons_zero, List.set_cons_succ]
      refine wpAnyH_take (i := 2) (oi := ⟨some 59, _, _, _, _, _⟩) (v := ?_) rfl (by kernel_rfl) (by kernel_rfl) (by kernel_rfl) (fun _ _ _ h => h) (Or.inl ⟨by kernel_rfl, ?_⟩) (by assumption) ?_
      rotate_left 1
      · intro w' hw'; clear hw'; go_simp; try with_reducible rfl
      try simp only [Act.put, List.setIfInBounds_toArray, List.set_cons_zero, List.set_cons_succ]
      refine wpAnyH_take (i := 3) (oi := ⟨some 60, _, _, _, _, _⟩) (v := ?_) rfl (by kernel_rfl) (by kernel_rfl) (by kernel_rfl) (fun _ _ _ h => h) (Or.inl ⟨by kernel_rfl, ?_⟩) (by assumption) ?_
      rotate_left 1
      · intro w' hw'; clear hw'; go_simp; try with_reducible rfl
      try simp only [Act.put, List.setIfInBounds_toArray, List.set_cons_zero, List.set_cons_succ]
      refine wpAnyH_take (i := 4) (oi := ⟨some 61, .load _ _, _, _, _, _⟩) (v := .agg e.cells) rfl (by kernel_rfl) (by kernel_rfl) (by kernel_rfl) (fun _ _ _ h => h) (Or.inl ⟨by kernel_rfl, fun w' hw' => exec_load_m 47 (.tmp 60) rfl (rb) (ro + k * 15) rfl (e.cells).toList _ (fun j v hv => below_heap hw' (HROW.out j v hv)) Tryz.underlying47 rfl (by kernel_rfl)⟩) (by assumption) ?_
      try simp only [Act.put, List.setIfInBounds_toArray, List.set_cons_zero, List.set_cons_succ]
      refine wpAnyH_ready (rs := [5, 9]) (by kernel_rfl) (by simp) (AllReadyH.cons (o := ⟨some 62, .call _, _, _, _, _⟩) rfl (fun K hK => ?_) (AllReadyH.cons (o := ⟨some 8, .alloc _, _, _, _, _⟩) rfl (fun K hK => ?_) AllReadyH.nil))
      · skip
        go_simp
        refine (HAP.out _ _ (HRS.out.below hHeld)).mono ?_
        rintro e3 w5 ⟨o, rfl, ho, hb3⟩
        have h5' := below_trans hHeld hb3
        refine hK.out _ _ h5' (fun h5 => ?_)
        obtain ⟨oa, oc, rfl, _⟩ := ho.slice
        rw [← HM.out] at ho ⊢
        have HO := Lib.hid ho
        clear ho
        clear hK K hb3 h5'
        try simp only [Act.put, List.setIfInBounds_toArray, List.set_cons_zero, List.set_cons_succ]
        refine wpAnyH_take (i := 6) (oi := ⟨some 56, _, _, _, _, _⟩) (v := ?_) rfl (by kernel_rfl) (by kernel_rfl) (by kernel_rfl) (fun _ _ _ h => h) (Or.inl ⟨by kernel_rfl, ?_⟩) (by assumption) ?_
        rotate_left 1
        · intro w' hw'; clear hw'; go_simp; try with_reducible rfl
        try simp only [Act.put, List.setIfInBounds_toArray, List.set_cons_zero, List.set_cons_succ]
        refine wpAnyH_take (i := 7) (oi := ⟨some 63, _, _, _, _, _⟩) (v := ?_) rfl (by kernel_rfl) (by kernel_rfl) (by kernel_rfl) (fun _ _ _ h => h) (Or.inl ⟨by kernel_rfl, ?_⟩) (by assumption) ?_
        rotate_left 1
        · intro w' hw'; clear hw'; go_simp; try with_reducible rfl
        try simp only [Act.put, List.setIfInBounds_toArray, List.set_cons_zero, List.set_cons_succ]
        refine wpAnyH_take (i := 8) (oi := ⟨some 64, _, _, _, _, _⟩) (v := ?_) rfl (by kernel_rfl) (by kernel_rfl) (by kernel_rfl) (fun _ _ _ h => h) (Or.inl ⟨by kernel_rfl, ?_⟩) (by assumption) ?_
        rotate_left 1
        · intro w' hw'; clear hw'; go_simp; try with_reducible rfl
        try simp only [Act.put, List.setIfInBounds_toArray, List.set_cons_zero, List.set_cons_succ]
        refine wpAnyH_ready (rs := [9]) (by kernel_rfl) (by simp) (AllReadyH.cons (o := ⟨some 8, .alloc _, _, _, _, _⟩) rfl (fun K hK => ?_) AllReadyH.nil)
        go_simp
        have hba := below_alloc w5 (.cells #[.int .i64 0, .int .i64 0, .slice none 0 0] 30)
        have h6' := below_trans h5 hba
        refine hK.out _ _ h6' (fun h6 => ?_)
        have HX8 := Lib.hid (Box.new w5 #[.int .i64 0, .int .i64 0, .slice none 0 0] 30)
        have HQ8 := Lib.hid (show wr.heap.size ≤ (w5).heap.size from (h5).size)
        have HO2 := Lib.hid (HO.out.below hba)
        have HNO := Lib.hid (show ∀ k, (Value.slice oa m oc).ownBlock = some k → k ≠ w5.heap.size from fun k hk => by have := (HO.out.lt k hk).2; omega)
        have HOB := Lib.hid (show wr.heap.size ≤ wr.drew.heap.size from Nat.le_refl _)
        clear HO
        have HO := HO2
        clear HO2
        clear hK K h6' hba
        try simp only [Act.put, List.setIfInBounds_toArray, List.set_cons_zero, List.set_cons_succ]
        refine wpAnyH_ready (rs := [10]) (by kernel_rfl) (by simp) (AllReadyH.cons (o := ⟨none, .store 30 (.tmp 8) (.tmp 63), _, _, _, none⟩) rfl (fun K hK => ?_) AllReadyH.nil)
        rw [if_pos (by kernel_rfl)]
        refine wp_store_kk 30 (.tmp 8) (.tmp 63) rfl (w5.heap.size) 0 [.int .i64 C2, .int .i64 B2, .slice oa m oc] rfl rfl HX8.out.there3 (by kernel_rfl) (one3 _ _ _ _ _) ?_
        obtain ⟨hx9, hm9⟩ := HX8.out.set3 (.int .i64 C2) (.int .i64 B2) (.slice oa m oc)
        have hw9 := (h6).trans (hm9.below (B := wr.heap.size) (h6).size (fun i hi => by have := HQ8.out; omega))
        refine hK.out _ _ hw9 (fun hS9 => ?_)
        have hli := HI'.out.below hw9
        have HF9 := Lib.hid (And.intro hli (show NxtI _ q (w5.heap.size) ps pl F C2 B2 (.slice oa m oc) L2 from
          ⟨hx9, ((HO.out).mod hm9 (fun k hk e => HNO.out k hk e)).rd, ⟨by have h1 := HI'.out.bx.lt; have h2 : wr.heap.size ≤ w5.heap.size := HQ8.out; omega, fun h => by have h1 := HI'.out.dk.lt _ h; have h2 : wr.heap.size ≤ w5.heap.size := HQ8.out; omega, by have h1 := HI'.out.sb.bx.lt; have h2 : wr.heap.size ≤ w5.heap.size := HQ8.out; omega, by have h1 := HI'.out.lg.lt; have h2 : wr.heap.size ≤ w5.heap.size := HQ8.out; omega⟩,
           fun k hk => by
            have h3 := HO.out.lt k hk
            have h4 : wr.heap.size ≤ k := Nat.le_trans HOB.out h3.1
            refine ⟨fun h => by have := HI'.out.dk.lt _ h; omega, by have := HI'.out.sb.bx.lt; omega, by have := HI'.out.lg.lt; omega, by have := HI'.out.bx.lt; omega, HNO.out k hk, ?_⟩
            exact Nat.lt_of_lt_of_le h3.2 hm9.size⟩))
        clear hK K hx9 hm9 hw9 hli HX8 HQ8 HO HNO HOB
        generalize (World.setCells _ _ _ _) = w9 at HF9 hS9 ⊢
        try simp only [Act.put]
        refine wpAnyH_take (i := 11) (oi := ⟨some 9, _, _, _, _, _⟩) (v := ?_) rfl (by kernel_rfl) (by kernel_rfl) (by kernel_rfl) (fun _ _ _ h => h) (Or.inl ⟨by kernel_rfl, ?_⟩) (by assumption) ?_
        rotate_left 1
        · intro w' hw'; clear hw'; go_simp; try with_reducible rfl
        try simp only [Act.put, List.setIfInBounds_toArray, List.set_cons_zero, List.set_cons_succ]
        refine wpAnyH_done (by kernel_rfl) ?_ _
        clear hHeld hS9
        go_wp2_with fail
        go_meet
        exact ⟨_, _, rfl, rfl, HF9.out.1, HF9.out.2⟩
      · skip
        go_simp
        have hba := below_alloc wr.drew (.cells #[.int .i64 0, .int .i64 0, .slice none 0 0] 30)
        have h5' := below_trans hHeld hba
        refine hK.out _ _ h5' (fun h5 => ?_)
        have HX8 := Lib.hid (Box.new wr.drew #[.int .i64 0, .int .i64 0, .slice none 0 0] 30)
        have HQ8 := Lib.hid (show wr.heap.size ≤ (wr.drew).heap.size from (hHeld).size)
        clear hK K h5' hba
        try simp only [Act.put, List.setIfInBounds_toArray, List.set_cons_zero, List.set_cons_succ]
        refine wpAnyH_ready (rs := [5]) (by kernel_rfl) (by simp) (AllReadyH.cons (o := ⟨some 62, .call _, _, _, _, _⟩) rfl (fun K hK => ?_) AllReadyH.nil)
        have HX9 := HX8
        clear HX8
        go_simp
        refine (HAP.out _ _ (HRS.out.below h5)).mono ?_
        rintro e3 w6 ⟨o, rfl, ho, hb3⟩
        have h6' := below_trans h5 hb3
        refine hK.out _ _ h6' (fun h6 => ?_)
        have HX8 := Lib.hid (HX9.out.below hb3)
        have HOB := Lib.hid (show wr.heap.size ≤ (wr.drew.alloc (.cells #[.int .i64 0, .int .i64 0, .slice none 0 0] 30)).heap.size from h5.size)
        have HNO := Lib.hid (show ∀ k, o.ownBlock = some k → k ≠ wr.drew.heap.size from fun k hk => by have h1 : (wr.drew.alloc (.cells #[.int .i64 0, .int .i64 0, .slice none 0 0] 30)).heap.size ≤ k := (ho.lt k hk).1; have h2 := HX9.out.lt; omega)
        clear HX9
        obtain ⟨oa, oc, rfl, _⟩ := ho.slice
        rw [← HM.out] at ho HNO ⊢
        have HO := Lib.hid ho
        clear ho
        clear hK K hb3 h6'
        try simp only [Act.put, List.setIfInBounds_toArray, List.set_cons_zero, List.set_cons_succ]
        refine wpAnyH_take (i := 6) (oi := ⟨some 56, _, _, _, _, _⟩) (v := ?_) rfl (by kernel_rfl) (by kernel_rfl) (by kernel_rfl) (fun _ _ _ h => h) (Or.inl ⟨by kernel_rfl, ?_⟩) (by assumption) ?_
        rotate_left 1
        · intro w' hw'; clear hw'; go_simp; try with_reducible rfl
        try simp only [Act.put, List.setIfInBounds_toArray, List.set_cons_zero, List.set_cons_succ]
        refine wpAnyH_take (i := 7) (oi := ⟨some 63, _, _, _, _, _⟩) (v := ?_) rfl (by kernel_rfl) (by kernel_rfl) (by kernel_rfl) (fun _ _ _ h => h) (Or.inl ⟨by kernel_rfl, ?_⟩) (by assumption) ?_
        rotate_left 1
        · intro w' hw'; clear hw'; go_simp; try with_reducible rfl
        try simp only [Act.put, List.setIfInBounds_toArray, List.set_cons_zero, List.set_cons_succ]
        refine wpAnyH_take (i := 8) (oi := ⟨some 64, _, _, _, _, _⟩) (v := ?_) rfl (by kernel_rfl) (by kernel_rfl) (by kernel_rfl) (fun _ _ _ h => h) (Or.inl ⟨by kernel_rfl, ?_⟩) (by assumption) ?_
        rotate_left 1
        · intro w' hw'; clear hw'; go_simp; try with_reducible rfl
        try simp only [Act.put, List.setIfInBounds_toArray, List.set_cons_zero, List.set_cons_succ]
        refine wpAnyH_ready (rs := [10]) (by kernel_rfl) (by simp) (AllReadyH.cons (o := ⟨none, .store 30 (.tmp 8) (.tmp 63), _, _, _, none⟩) rfl (fun K hK => ?_) AllReadyH.nil)
        rw [if_pos (by kernel_rfl)]
        refine wp_store_kk 30 (.tmp 8) (.tmp 63) rfl (wr.drew.heap.size) 0 [.int .i64 C2, .int .i64 B2, .slice oa m oc] rfl rfl HX8.out.there3 (by kernel_rfl) (one3 _ _ _ _ _) ?_
        obtain ⟨hx9, hm9⟩ := HX8.out.set3 (.int .i64 C2) (.int .i64 B2) (.slice oa m oc)
        have hw9 := (h6).trans (hm9.below (B := wr.heap.size) (h6).size (fun i hi => by have := HQ8.out; omega))
        refine hK.out _ _ hw9 (fun hS9 => ?_)
        have hli := HI'.out.below hw9
        have HF9 := Lib.hid (And.intro hli (show NxtI _ q (wr.drew.heap.size) ps pl F C2 B2 (.slice oa m oc) L2 from
          ⟨hx9, ((HO.out).mod hm9 (fun k hk e => HNO.out k hk e)).rd, ⟨by have h1 := HI'.out.bx.lt; have h2 : wr.heap.size ≤ wr.drew.heap.size := HQ8.out; omega, fun h => by have h1 := HI'.out.dk.lt _ h; have h2 : wr.heap.size ≤ wr.drew.heap.size := HQ8.out; omega, by have h1 := HI'.out.sb.bx.lt; have h2 : wr.heap.size ≤ wr.drew.heap.size := HQ8.out; omega, by have h1 := HI'.out.lg.lt; have h2 : wr.heap.size ≤ wr.drew.heap.size := HQ8.out; omega⟩,
           fun k hk => by
            have h3 := HO.out.lt k hk
            have h4 : wr.heap.size ≤ k := Nat.le_trans HOB.out h3.1
            refine ⟨fun h => by have := HI'.out.dk.lt _ h; omega, by have := HI'.out.sb.bx.lt; omega, by have := HI'.out.lg.lt; omega, by have := HI'.out.bx.lt; omega, HNO.out k hk, ?_⟩
            exact Nat.lt_of_lt_of_le h3.2 hm9.size⟩))
        clear hK K hx9 hm9 hw9 hli HX8 HQ8 HO HNO HOB
        generalize (World.setCells _ _ _ _) = w9 at HF9 hS9 ⊢
        try simp only [Act.put]
        refine wpAnyH_take (i := 11) (oi := ⟨some 9, _, _, _, _, _⟩) (v := ?_) rfl (by kernel_rfl) (by kernel_rfl) (by kernel_rfl) (fun _ _ _ h => h) (Or.inl ⟨by kernel_rfl, ?_⟩) (by assumption) ?_
        rotate_left 1
        · intro w' hw'; clear hw'; go_simp; try with_reducible rfl
        try simp only [Act.put, List.setIfInBounds_toArray, List.set_cons_zero, List.set_cons_succ]
        refine wpAnyH_done (by kernel_rfl) ?_ _
        clear hHeld hS9
        go_wp2_with fail
        go_meet
        exact ⟨_, _, rfl, rfl, HF9.out.1, HF9.out.2⟩
    case rest =>
      obtain ⟨q8, o, rfl, rfl, hli, hnx⟩ := hcut
      have HI := Lib.hid hli
      have HX8 := Lib.hid hnx
      clear HI' HBX HRS HAP hli hnx HROW
      by_cases h0 : er = 0
      rotate_left
      · rw [show (er == 0) = false by simpa using h0]
        clear h0 HX8
        have HI2 := Lib.hid (show LivI w wc pd ps pl q F d s st (.slice sa sn sc) from HI.out)
        go_wp2_with fail
        go_roundg (n - (k + 1))
        case measure => have := HGK.out; have := HK.out; omega
        case rel => exact ⟨k + 1, F, pl, d, s, st, _, by have := HGK.out; have := HK.out; omega, by go_num, HI2.out, HLF.out, by have := HTR.out; omega, by have := HEP.out; omega⟩
      subst h0
      rw [show ((0 : Int) == 0) = true from rfl]
      have hmay := applyM_may (show (applyM st e).1 = 0 by rw [HA.out])
      have hepb : s.epoch.toNat < 4294967295 := by have := HEP.out; have := HLN.out; have := HK.out; omega
      have hap := (sto_append HI.out.si HI.out.al.1 HI.out.al.2 hepb HA.out hmay HOE.out.scopes).resolve_right (fun h => h.2.1 HLF.out)
      have hlf2 := sto_left e HI.out.si hepb HLF.out
      have htr2 := sto_trail s d e st HI.out.si.len.2
      obtain ⟨st0, evs, himg⟩ := HI.out.si.img
      obtain ⟨g1, g2, g3⟩ := himg.log.same
      have hrec : s.log.records ≤ 16 := by rw [← himg.used]; exact himg.log.le
      have hapc := fun W h => stoAppend_calls s d e st (.slice sa sn sc) ps pl pd F W (LivI.sb h) (LivI.lg h) (LivI.dk (w := w) (q := q) (s := s) (st := st) (sv := .slice sa sn sc) h) HI.out.np.1 HI.out.np.2.1 HI.out.np.2.2 (LivI.rs h) (fun k hk => by have := LivI.nv h k hk; exact ⟨this.1, this.2.1, this.2.2.1, this.2.2.2.2⟩) (sesOk_of HSN.out.1 HSN.out.2) (Nat.le_trans HOE.out.user (by decide)) (Nat.le_trans HOE.out.label (by decide)) HOE.out.scopes (by have := HTR.out; have := HLN.out; have := HK.out; omega) HI.out.si.len.1 (by rw [g1, g2]; exact HI.out.si.len.1) himg.log.le2 (by omega)
      obtain ⟨R, hR⟩ : ∃ R, R = s.append d e st := ⟨_, rfl⟩
      rw [← hR] at hap hlf2 htr2 hapc
      obtain ⟨s2, d2, er2⟩ := R
      simp only at hap hlf2 htr2 hapc
      obtain ⟨y0, y1, y2, y3, y4, y5⟩ := hap
      subst y0
      rw [show errV 0 = .nilIface from rfl, ← HSNL.out.2.1, ← HSNL.out.2.2] at hapc
      -- the numbers
      obtain ⟨x, hx⟩ : ∃ x, x = I32 s.epoch := ⟨_, rfl⟩
      obtain ⟨x2, hx2⟩ : ∃ x, x = I32 s2.epoch := ⟨_, rfl⟩
      obtain ⟨tn, htn⟩ : ∃ t, t = d.trail.length := ⟨_, rfl⟩
      obtain ⟨tn2, htn2⟩ : ∃ t, t = d2.trail.length := ⟨_, rfl⟩
      obtain ⟨r, hr⟩ : ∃ r, r = s.log.records := ⟨_, rfl⟩
      obtain ⟨r2, hr2⟩ : ∃ r, r = s2.log.records := ⟨_, rfl⟩
      have hx0 := I32_lt s.epoch
      have HWR := Lib.hid (fun W (h : IsDisk W d pd F) => writes_calls d pd F W h)
      have HE1 := Lib.hid (fun W h => epochS_calls ps pd s.epoch (.pointer (some ⟨pl, 0, none⟩)) s.dead W h)
      have HR1 := Lib.hid (fun W h h2 => recordsS_calls ps pd pl s.epoch s.dead s.log W h h2)
      have HWR2 := Lib.hid (fun W (F : Nat → Prop) (h : IsDisk W d2 pd F) => writes_calls d2 pd F W h)
      have HE2 := Lib.hid (fun pl W h => epochS_calls ps pd s2.epoch (.pointer (some ⟨pl, 0, none⟩)) s2.dead W h)
      have HR2 := Lib.hid (fun pl W h h2 => recordsS_calls ps pd pl s2.epoch s2.dead s2.log W h h2)
      rw [← htn] at HWR
      rw [← hx] at HE1 hx0
      rw [← hr] at HR1
      rw [← htn2] at HWR2
      rw [← hx2] at HE2
      rw [← hr2] at HR2
      have hmade : (x2 = x ∧ r2 = r + 1 ∧ tn2 = tn + 1) ∨ (x2 = x + 1 ∧ r = 16 ∧ r2 = 1 ∧ ∃ m, 1 ≤ m ∧ m ≤ 24 ∧ tn2 = tn + (m + 2)) := by
        rcases y5 with ⟨a1, a2, a3⟩ | ⟨a1, a2, a3, m, a4, a5, a6⟩
        · left
          exact ⟨by rw [hx2, hx]; exact congrArg I32 a1, by rw [hr2, hr]; exact a2, by rw [htn2, htn]; exact a3⟩
        · right
          refine ⟨?_, by rw [hr]; exact a2, by rw [hr2]; exact a3, m, a4, a5, by rw [htn2, htn]; exact a6⟩
          rw [hx2, hx]
          unfold I32
          have a1 : s2.epoch.toNat = s.epoch.toNat + 1 := a1
          omega
      have HNX := Lib.hid (show StoI d2 s2 ⟨C2, B2, L2⟩ ∧ s2.dead = false ∧ s2.log.dead = false ∧ d2.left = none ∧ d2.trail.length ≤ 2 + 2060 * (k + 1) ∧ s2.epoch.toNat ≤ 1 + (k + 1) from ⟨y3, y1, y2, hlf2, by have := HTR.out; omega, by have := HEP.out; omega⟩)
      have HAPC := Lib.hid hapc
      have HM2 := Lib.hid hmade
      have tb : (tn : Int) ≤ 1000000 := by have := HTR.out; have := HLN.out; have := HK.out; omega
      have tb2 : (tn2 : Int) ≤ 1000000 := by have := HNX.out.2.2.2.2.1; have := HLN.out; have := HK.out; omega
      have rb1 : (r : Int) ≤ 16 := by omega
      clear hmay hepb hlf2 htr2 himg g1 g2 g3 hrec hapc hR y1 y2 y3 y4 y5 hx hx2 htn htn2 hr hr2 hmade
      obtain ⟨hx0, hx1⟩ := hx0
      go_wp2_with fail
      refine (HWR.out _ HI.out.dk).mono ?_
      rintro ev wa ⟨rfl, rfl⟩
      go_wp2_with fail
      refine (HE1.out _ HI.out.sb).mono ?_
      rintro ev wb ⟨rfl, rfl⟩
      go_wp2_with fail
      refine (HR1.out _ HI.out.sb HI.out.lg).mono ?_
      rintro ev wd ⟨rfl, rfl⟩
      have HBX := Lib.hid (show Box wd q #[.int .i64 c, .int .i64 b, .slice sa sn sc] 30 by rw [HSNL.out.2.1, HSNL.out.2.2]; exact HI.out.bx)
      clear HWR HE1 HR1
      go_wp2_with fail
      refine wp_region_held_drew (S := fun W => Box W q #[.int .i64 c, .int .i64 b, .slice sa sn sc] 30 ∧ Below w.heap.size w W) (by kernel_rfl) ⟨HBX.out.below (below_drew wd), HI.out.bel.trans ((below_drew wd).mono HI.out.bel.size)⟩ (fun hHeld => ?_)
      refine wpAnyH_take (i := 0) (oi := ⟨some 73, _, _, _, _, _⟩) (v := ?_) rfl (by kernel_rfl) (by kernel_rfl) (by kernel_rfl) (fun _ _ _ h => h) (Or.inl ⟨by kernel_rfl, ?_⟩) (by assumption) ?_
      rotate_left 1
      · intro w' hw'; clear hw'; go_simp; try with_reducible rfl
      try simp only [Act.put, List.setIfInBounds_toArray, List.set_cons_zero, List.set_cons_succ]
      refine wpAnyH_take (i := 1) (oi := ⟨some 74, _, _, _, _, _⟩) (v := ?_) rfl (by kernel_rfl) (by kernel_rfl) (by kernel_rfl) (fun _ _ _ h => h) (Or.inl ⟨by kernel_rfl, ?_⟩) (by assumption) ?_
      rotate_left 1
      · intro w' hw'; clear hw'; go_simp; try with_reducible rfl
      try simp only [Act.put, List.setIfInBounds_toArray, List.set_cons_zero, List.set_cons_succ]
      refine wpAnyH_take (i := 2) (oi := ⟨some 75, _, _, _, _, _⟩) (v := ?_) rfl (by kernel_rfl) (by kernel_rfl) (by kernel_rfl) (fun _ _ _ h => h) (Or.inl ⟨by kernel_rfl, ?_⟩) (by assumption) ?_
      rotate_left 1
      · intro w' hw'; clear hw'; go_simp; try with_reducible rfl
      try simp only [Act.put, List.setIfInBounds_toArray, List.set_cons_zero, List.set_cons_succ]
      refine wpAnyH_take (i := 3) (oi := ⟨some 76, _, _, _, _, _⟩) (v := ?_) rfl (by kernel_rfl) (by kernel_rfl) (by kernel_rfl) (fun _ _ _ h => h) (Or.inl ⟨by kernel_rfl, ?_⟩) (by assumption) ?_
      rotate_left 1
      · intro w' hw'; clear hw'; go_simp; try with_reducible rfl
      try simp only [Act.put, List.setIfInBounds_toArray, List.set_cons_zero, List.set_cons_succ]
      refine wpAnyH_take (i := 4) (oi := ⟨some 77, .load _ _, _, _, _, _⟩) (v := .agg e.cells) rfl (by kernel_rfl) (by kernel_rfl) (by kernel_rfl) (fun _ _ _ h => h) (Or.inl ⟨by kernel_rfl, fun w' hw' => exec_load_m 47 (.tmp 76) rfl (rb) (ro + k * 15) rfl (e.cells).toList _ (fun j v hv => below_heap hw'.2 (HROW0.out j v hv)) Tryz.underlying47 rfl (by kernel_rfl)⟩) (by assumption) ?_
      try simp only [Act.put, List.setIfInBounds_toArray, List.set_cons_zero, List.set_cons_succ]
      refine wpAnyH_take (i := 5) (oi := ⟨some 78, .load _ _, _, _, _, _⟩) (v := .agg #[.int .i64 c, .int .i64 b, .slice sa sn sc]) rfl (by kernel_rfl) (by kernel_rfl) (by kernel_rfl) (fun _ _ _ h => h) (Or.inl ⟨by kernel_rfl, fun w' hw' => exec_load_m 30 (.tmp 5) rfl (q) (0) rfl (#[.int .i64 c, .int .i64 b, .slice sa sn sc]).toList _ (zrangeS hw'.1) Tryz.underlying30 rfl (by kernel_rfl)⟩) (by assumption) ?_
      try simp only [Act.put, List.setIfInBounds_toArray, List.set_cons_zero, List.set_cons_succ]
      refine wpAnyH_ready (rs := [6]) (by kernel_rfl) (by simp) (AllReadyH.cons (o := ⟨some 79, .call _, _, _, _, _⟩) rfl (fun K hK => ?_) AllReadyH.nil)
      go_simp
      have hI2 := HI.out.below (below_drew wd)
      refine (show Calls _ _ #[.pointer (some ⟨ps, 0, none⟩), .agg e.cells, .agg #[.int .i64 c, .int .i64 b, .slice sa sn sc]] wd.drew _ from HAPC.out wd.drew hI2).mono ?_
      rintro e3 w5 ⟨rfl, hpd⟩
      obtain ⟨p1, p2⟩ := hI2.apd hpd
      have p3 : Box w5 q #[.int .i64 c, .int .i64 b, .slice sa sn sc] 30 := by rw [HSNL.out.2.1, HSNL.out.2.2]; exact p2
      refine hK.out _ _ ⟨p3, p1⟩ (fun hS5 => ?_)
      have HPD := Lib.hid hpd
      clear hK K hI2 hpd p1 p2 p3 hHeld
      try simp only [Act.put, List.setIfInBounds_toArray, List.set_cons_zero, List.set_cons_succ]
      refine wpAnyH_take (i := 7) (oi := ⟨some 80, _, _, _, _, _⟩) (v := ?_) rfl (by kernel_rfl) (by kernel_rfl) (by kernel_rfl) (fun _ _ _ h => h) (Or.inl ⟨by kernel_rfl, ?_⟩) (by assumption) ?_
      rotate_left 1
      · intro w' hw'; clear hw'; go_simp; try with_reducible rfl
      try simp only [Act.put, List.setIfInBounds_toArray, List.set_cons_zero, List.set_cons_succ]
      refine wpAnyH_done (by kernel_rfl) ?_ _
      obtain ⟨F5, pl5, q1, q2, q3, q4, q5, q6, q7, q8n⟩ := HPD.out.ex
      have hqw := HI.out.bx.lt
      have HSZ := Lib.hid (show q < wd.heap.size from hqw)
      have HD5 := Lib.hid (show IsDisk w5 d2 pd F5 from q1)
      have HS5 := Lib.hid (show StoB w5 ps pd s2.epoch (.pointer (some ⟨pl5, 0, none⟩)) s2.dead from q4)
      have HL5 := Lib.hid (show IsLog w5 s2.log pl5 pd from q5)
      have HB8 := Lib.hid ((HX8.out.bx.below (below_drew wd)).mod HPD.out.md (fun h => by
        rcases h with h | h | h
        · exact HX8.out.nq.2.2.1 h
        · exact HX8.out.nq.2.2.2 h
        · exact HX8.out.nq.2.1 h))
      have HR8 := Lib.hid ((HX8.out.rs.below (below_drew wd)).mod HPD.out.md (fun k hk h => by
        have h1 := HX8.out.nv k hk
        rcases h with h | h | h
        · exact h1.2.1 h
        · exact h1.2.2.1 h
        · exact h1.1 h))
      obtain ⟨oa, oc, rfl, _⟩ := HX8.out.rs.slice
      rw [← HM.out] at HB8 HR8
      have HX9 := HX8
      have HP := Lib.hid (show ¬ F5 q ∧ q ≠ ps ∧ q ≠ pl5 ∧ ¬ F5 ps ∧ ¬ F5 pl5 ∧ ps ≠ pl5 ∧ (∀ k, F5 k → w.heap.size ≤ k) ∧ w.heap.size ≤ ps ∧ w.heap.size ≤ pl5 ∧ w.heap.size ≤ q from
        ⟨fun h => by
          rcases q2 q h with g | g
          · exact HI.out.nq.1 g
          · have g : wd.heap.size ≤ q := g
            omega, HI.out.nq.2.1, fun h => by
          rcases q3 with g | g
          · exact HI.out.nq.2.2 (h.trans g)
          · have g : wd.heap.size ≤ pl5 := g
            omega, q6, q7, q8n, fun k hk => by
          rcases q2 k hk with g | g
          · exact HI.out.lo.1 k g
          · exact Nat.le_trans HI.out.bel.size g, HI.out.lo.2.1, by
          rcases q3 with g | g
          · rw [g]; exact HI.out.lo.2.2.1
          · exact Nat.le_trans HI.out.bel.size g, HI.out.lo.2.2.2⟩)
      have HNV := Lib.hid (show ∀ k, (Value.slice oa m oc).ownBlock = some k → ¬ F5 k ∧ k ≠ ps ∧ k ≠ pl5 ∧ k ≠ q ∧ k < wd.heap.size from fun k hk => by
        rw [HM.out] at hk
        have h1 := HX9.out.nv k hk
        refine ⟨fun h => ?_, h1.2.1, fun h => ?_, h1.2.2.2.1, h1.2.2.2.2.2⟩
        · rcases q2 k h with g | g
          · exact h1.1 g
          · have g : wd.heap.size ≤ k := g
            omega
        · rcases q3 with g | g
          · exact h1.2.2.1 (h.trans g)
          · have g : wd.heap.size ≤ pl5 := g
            omega)
      have HNQ := Lib.hid (show q8 ≠ q from HX9.out.nq.1)
      have HBE := Lib.hid hS5
      have HSZ5 := Lib.hid (show wd.heap.size ≤ w5.heap.size from HPD.out.md.size)
      clear q1 q2 q3 q4 q5 q6 q7 q8n hqw HX8 HX9 HPD HI hS5 HAPC HBX
      rcases HM2.out with ⟨a1, a2, a3⟩ | ⟨a1, a2, a3, mm, a4, a5, a6⟩
      · clear HM2
        subst a1
        subst a2
        have hs : (tn2 : Int) - (tn : Int) = 1 := by omega
        clear a3
        go_wp2_with fail
        refine (HWR2.out w5 F5 HD5.out).mono ?_
        rintro ev we ⟨rfl, rfl⟩
        go_wp2_with fail
        refine (HE2.out pl5 w5 HS5.out).mono ?_
        rintro ev wf ⟨rfl, rfl⟩
        go_wp2_with fail
        refine (HR2.out pl5 wf HS5.out HL5.out).mono ?_
        rintro ev wg ⟨rfl, rfl⟩
        go_wp2_with fail
        refine (HE2.out pl5 wg HS5.out).mono ?_
        rintro ev wh ⟨rfl, rfl⟩
        have hbx := HBE.out.1
        have c0 : wh.cell? ⟨q, 0, none⟩ = some (.int .i64 c) := hbx.cell 0 _ rfl
        have c1 : wh.cell? ⟨q, 1, none⟩ = some (.int .i64 b) := hbx.cell 1 _ rfl
        have c2 : wh.cell? ⟨q, 2, none⟩ = some (.slice sa sn sc) := hbx.cell 2 _ rfl
        have f0 := hbx.free 0
        have f1 := hbx.free 1
        have f2 := hbx.free 2
        have d0 : wh.cell? ⟨q8, 0, none⟩ = some (.int .i64 C2) := HB8.out.cell 0 _ rfl
        have d1 : wh.cell? ⟨q8, 1, none⟩ = some (.int .i64 B2) := HB8.out.cell 1 _ rfl
        have d2' : wh.cell? ⟨q8, 2, none⟩ = some (.slice oa m oc) := HB8.out.cell 2 _ rfl
        have hm9 := Mod.set3 q wh (.int .i64 C2) (.int .i64 B2) (.slice oa m oc)
        have hbel := HBE.out.2
        have HFI := Lib.hid (show LivI w (((wh.setCell ⟨q, 0, none⟩ (.int .i64 C2)).setCell ⟨q, 1, none⟩ (.int .i64 B2)).setCell ⟨q, 2, none⟩ (.slice oa m oc)) pd ps pl5 q F5 d2 s2 ⟨C2, B2, L2⟩ (.slice oa m oc) from
          ⟨HD5.out.mod hm9 (fun k hk e => HP.out.1 (by rw [← e]; exact hk)), HS5.out.mod hm9 (fun e => HP.out.2.1 e.symm), Box.mod HL5.out hm9 (fun e => HP.out.2.2.1 e.symm), ⟨HP.out.2.2.2.1, HP.out.2.2.2.2.1, HP.out.2.2.2.2.2.1⟩, ⟨HP.out.1, HP.out.2.1, HP.out.2.2.1⟩, HP.out.2.2.2.2.2.2, HNX.out.1, ⟨HNX.out.2.1, HNX.out.2.2.1⟩, ((hbx.set 0 (.int .i64 C2)).set 1 (.int .i64 B2)).set 2 (.slice oa m oc), HR8.out.mod hm9 (fun k hk e => (HNV.out k hk).2.2.2.1 e), fun k hk => ⟨(HNV.out k hk).1, (HNV.out k hk).2.1, (HNV.out k hk).2.2.1, (HNV.out k hk).2.2.2.1, Nat.lt_of_lt_of_le (HNV.out k hk).2.2.2.2 (Nat.le_trans HSZ5.out hm9.size)⟩, hbel.trans (hm9.below hbel.size (fun k hk => by have := HP.out.2.2.2.2.2.2.2.2.2; omega))⟩)
        have hq1 : ¬ q8 = q := HNQ.out
        have hq2 : ¬ q = q8 := fun e => HNQ.out e.symm
        clear hbx hm9 hbel HD5 HS5 HL5 HR8 HB8 HBE HWR2 HE2 HR2
        go_wp2_with fail
        go_roundg (n - (k + 1))
        case measure => have := HGK.out; have := HK.out; omega
        case rel => exact ⟨k + 1, F5, pl5, d2, s2, ⟨C2, B2, L2⟩, _, by have := HGK.out; have := HK.out; omega, by go_num, HFI.out, HNX.out.2.2.2.1, HNX.out.2.2.2.2.1, HNX.out.2.2.2.2.2⟩
      clear HM2
      subst a1
      subst a3
      have hs : (tn2 : Int) - (tn : Int) = ((mm + 2 : Nat) : Int) := by omega
      obtain ⟨m2, hm2⟩ : ∃ m, m = mm + 2 := ⟨_, rfl⟩
      rw [← hm2] at hs
      have b1 : decide ((m2 : Int) < 3) = false := by simp; omega
      have b2 : ¬ (m2 : Int) < 3 := by omega
      have b3 : decide ((26 : Int) < (m2 : Int)) = false := by simp; omega
      have b4 : ¬ (26 : Int) < (m2 : Int) := by omega
      have b5 : (x + 1 == x) = false := by simp; omega
      have hr16 : (r : Int) = 16 := by omega
      clear a2 a4 a5 a6 hm2
      go_wp2_with fail
      refine (HWR2.out w5 F5 HD5.out).mono ?_
      rintro ev we ⟨rfl, rfl⟩
      go_wp2_with fail
      refine (HE2.out pl5 w5 HS5.out).mono ?_
      rintro ev wf ⟨rfl, rfl⟩
      go_wp2_with fail
      refine (HE2.out pl5 wf HS5.out).mono ?_
      rintro ev wg ⟨rfl, rfl⟩
      go_wp2_with fail
      refine (HE2.out pl5 wg HS5.out).mono ?_
      rintro ev wg2 ⟨rfl, rfl⟩
      go_wp2_with fail
      refine (HR2.out pl5 wg2 HS5.out HL5.out).mono ?_
      rintro ev wh ⟨rfl, rfl⟩
      have hbx := HBE.out.1
      have c0 : wh.cell? ⟨q, 0, none⟩ = some (.int .i64 c) := hbx.cell 0 _ rfl
      have c1 : wh.cell? ⟨q, 1, none⟩ = some (.int .i64 b) := hbx.cell 1 _ rfl
      have c2 : wh.cell? ⟨q, 2, none⟩ = some (.slice sa sn sc) := hbx.cell 2 _ rfl
      have f0 := hbx.free 0
      have f1 := hbx.free 1
      have f2 := hbx.free 2
      have d0 : wh.cell? ⟨q8, 0, none⟩ = some (.int .i64 C2) := HB8.out.cell 0 _ rfl
      have d1 : wh.cell? ⟨q8, 1, none⟩ = some (.int .i64 B2) := HB8.out.cell 1 _ rfl
      have d2' : wh.cell? ⟨q8, 2, none⟩ = some (.slice oa m oc) := HB8.out.cell 2 _ rfl
      have hm9 := Mod.set3 q wh (.int .i64 C2) (.int .i64 B2) (.slice oa m oc)
      have hbel := HBE.out.2
      have HFI := Lib.hid (show LivI w (((wh.setCell ⟨q, 0, none⟩ (.int .i64 C2)).setCell ⟨q, 1, none⟩ (.int .i64 B2)).setCell ⟨q, 2, none⟩ (.slice oa m oc)) pd ps pl5 q F5 d2 s2 ⟨C2, B2, L2⟩ (.slice oa m oc) from
        ⟨HD5.out.mod hm9 (fun k hk e => HP.out.1 (by rw [← e]; exact hk)), HS5.out.mod hm9 (fun e => HP.out.2.1 e.symm), Box.mod HL5.out hm9 (fun e => HP.out.2.2.1 e.symm), ⟨HP.out.2.2.2.1, HP.out.2.2.2.2.1, HP.out.2.2.2.2.2.1⟩, ⟨HP.out.1, HP.out.2.1, HP.out.2.2.1⟩, HP.out.2.2.2.2.2.2, HNX.out.1, ⟨HNX.out.2.1, HNX.out.2.2.1⟩, ((hbx.set 0 (.int .i64 C2)).set 1 (.int .i64 B2)).set 2 (.slice oa m oc), HR8.out.mod hm9 (fun k hk e => (HNV.out k hk).2.2.2.1 e), fun k hk => ⟨(HNV.out k hk).1, (HNV.out k hk).2.1, (HNV.out k hk).2.2.1, (HNV.out k hk).2.2.2.1, Nat.lt_of_lt_of_le (HNV.out k hk).2.2.2.2 (Nat.le_trans HSZ5.out hm9.size)⟩, hbel.trans (hm9.below hbel.size (fun k hk => by have := HP.out.2.2.2.2.2.2.2.2.2; omega))⟩)
      have hq1 : ¬ q8 = q := HNQ.out
      have hq2 : ¬ q = q8 := fun e => HNQ.out e.symm
      clear hbx hm9 hbel HD5 HS5 HL5 HR8 HB8 HBE HWR2 HE2 HR2
      go_wp2_with fail
      go_roundg (n - (k + 1))
      case measure => have := HGK.out; have := HK.out; omega
      case rel => exact ⟨k + 1, F5, pl5, d2, s2, ⟨C2, B2, L2⟩, _, by have := HGK.out; have := HK.out; omega, by go_num, HFI.out, HNX.out.2.2.2.1, HNX.out.2.2.2.2.1, HNX.out.2.2.2.2.2⟩
end Go.Proofs.YtgcnolapjppbpaaGreatDoor
