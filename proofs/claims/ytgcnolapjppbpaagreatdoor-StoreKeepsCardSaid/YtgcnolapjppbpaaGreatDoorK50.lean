/-
  Texts of one proof, one behind the other.
-/
import Derived.Test.YtgcnolapjppbpaaGreatDoorK49
namespace Go.Proofs.YtgcnolapjppbpaaGreatDoor
open Go.RowKit
set_option maxRecDepth 100000
theorem sesOk_of {st : StM} (h : Snd st) (hs : ScOk st.l) : ∀ s ∈ st.l, SesOk s := fun s hm => by
  have := SesN.of (h.may s hm)
  exact ⟨Nat.le_trans this.user (by decide), Nat.le_trans this.label (by decide), hs s hm⟩
theorem openM_trail (d : DiskM) (h : d.strs.length ≤ 4096) : (openM d).1.trail.length ≤ d.trail.length + 2050 := by
  unfold openM
  split
  · exact Nat.le_add_right _ _
  split
  · split
    · exact layM_trail _ _ _ h
    · exact layM_trail _ _ _ h
  · exact Nat.le_add_right _ _
structure AgainR (w : World) (pd : Nat) (F : Nat → Prop) (t0 : Nat) (st : StM) (ep : UInt32) (cuts : List Int) (ps : Nat) (o : Value) (w' : World) : Prop where
  ex : ∃ (F' : Nat → Prop) (pl : Nat) (d' : DiskM), IsDisk w' d' pd F' ∧ (∀ k, F' k → F k ∨ w.heap.size < k) ∧ w.heap.size < ps ∧ w.heap.size < pl ∧ ¬ F' ps ∧ ¬ F' pl ∧ ps ≠ pl ∧ StoB w' ps pd (ep + 1) (.pointer (some ⟨pl, 0, none⟩)) false ∧ IsLog w' (logN (ep + 1)) pl pd ∧
    StoI d' ⟨ep + 1, logN (ep + 1), false⟩ st ∧ d'.left = none ∧ (∀ k, o.ownBlock = some k → w.heap.size < k ∧ ¬ F' k ∧ k ≠ ps ∧ k ≠ pl) ∧ d'.trail.length ≤ t0 + 20000 ∧ (cuts = [] → d'.trail.length = t0 + (blocksA (imgB st).length + 1))
  ow : OwnS w' w.heap.size o st.l
  md : Mod F w w'
theorem AgainR.res {w w1 w2 : World} {pd : Nat} {F : Nat → Prop} {t0 : Nat} {st : StM} {ep : UInt32} {cuts : List Int} {ps : Nat} {o : Value} (h : AgainR w pd F t0 st ep cuts ps o w1) (hm : Mod (fun k => k = w.heap.size) w1 w2) (hF : ¬ F w.heap.size) : AgainR w pd F t0 st ep cuts ps o w2 := by
  obtain ⟨F', pl, d', h1, h2, h3, h4, h5, h6, h7, h8, h9, h10, h11, h12, h13, h14⟩ := h.ex
  have hn : ¬ F' w.heap.size := fun hf => by
    rcases h2 _ hf with g | g
    · exact hF g
    · omega
  exact ⟨⟨F', pl, d', h1.mod hm (fun k hk e => hn (by rw [← e]; exact hk)), h2, h3, h4, h5, h6, h7, h8.mod hm (by omega), Box.mod h9 hm (by omega), h10, h11, h12, h13, h14⟩, h.ow.mod hm (fun k hk e => by have := (h12 k hk).1; omega), h.md.old hm (fun i hi e => by omega)⟩
theorem errType_mod {F : Nat → Prop} {w w' : World} (h : ErrType w) (hm : Mod F w w') (hn : ¬ F 0) : ErrType w' := by
  unfold ErrType at h ⊢
  rw [World.cell?_of_block (w := w) (hm.block 0 (World.block_lt_of_cell? w _ h) hn)]; exact h
structure AgI (w wr : World) (pd : Nat) (F : Nat → Prop) (t0 : Nat) (st : StM) (ep : UInt32) (i : Nat) (d : DiskM) (G : Nat → Prop) : Prop where
  dk : IsDisk wr d pd G
  lo : ∀ k, G k → F k ∨ w.heap.size < k
  bz : Box wr w.heap.size #[.int .i64 0, .int .i64 0, .slice none 0 0] 30
  tr : d.trail.length ≤ t0 + 2050 * i
  md : Mod F w wr
theorem open_told {d : DiskM} {st : StM} {ep : UInt32} (h : KeptD d st ep) (pd : Nat) (F : Nat → Prop) (w : World) (hd : IsDisk w d pd F) (ht : d.trail.length ≤ 9000000000) :
    Calls Tryz.prog 33 #[.pointer (some ⟨pd, 0, none⟩)] w fun e w' => ∃ pv o, e = .returned (.tuple #[pv, .agg #[.int .i64 (openM d).2.2.1.clock, .int .i64 (openM d).2.2.1.births, o], errV (openM d).2.2.2]) ∧ Opnd w pd F (openM d) pv o w' := by
  obtain ⟨h1, h2⟩ := h.snd
  exact stoOpen_calls d pd F w hd (wf_small h.wf) ht (readB_short h.wf) (by rw [h.kept]; exact sesOk_of h1 h2)
theorem ints_at {w : World} {a : Option Addr} {n cap : Nat} {l : List Int} (h : Rd w (.slice a n cap) n (l.map (Value.int .i64))) (i : Nat) (hi : i < l.length) : ∃ b off, a = some ⟨b, off, none⟩ ∧ w.cell? ⟨b, off + i, none⟩ = some (.int .i64 (l.getD i 0)) := by
  obtain ⟨a', cap', e, _, _, _, h3⟩ := h
  injection e with e1 e2 e3
  subst e1
  obtain ⟨b, off, h4, h5⟩ := h3 i (by rw [List.length_map]; exact hi)
  refine ⟨b, off, h4, ?_⟩
  rw [h5, List.getD, List.getD, List.getElem?_map, List.getElem?_eq_getElem hi]; rfl
set_option maxHeartbeats 12800000 in
theorem again_calls (d : DiskM) (pd : Nat) (F : Nat → Prop) (cv : Value) (cuts : List Int) (st : StM) (ep : UInt32) (w : World) (hd : IsDisk w d pd F) (hk : KeptD d st ep) (hc : cuts = [] ∨ KeptI d st ep) (hep : ep.toNat < 4294967295) (ht : d.trail.length ≤ 8000000000)
    (hr : Rd w cv cuts.length (cuts.map (Value.int .i64))) (h64 : ∀ x ∈ cuts, I64 x) (hcb : 0 < cuts.length → ∀ k, cv.ownBlock = some k → ¬ F k) (hg : ErrType w) (hg0 : ¬ F 0) :
    Calls Tryz.prog 9 #[.pointer (some ⟨pd, 0, none⟩), cv] w fun e w' => ∃ ps o, e = .returned (.tuple #[.pointer (some ⟨ps, 0, none⟩), .agg #[.int .i64 st.clock, .int .i64 st.births, o], .bool true]) ∧ AgainR w pd F d.trail.length st ep cuts ps o w' := by
  obtain ⟨ca, cc, hcv⟩ : ∃ a c, cv = .slice a cuts.length c := by obtain ⟨a, c, h, _⟩ := hr; exact ⟨a, c, h⟩
  subst hcv
  obtain ⟨cn, hcn⟩ : ∃ n, n = cuts.length := ⟨_, rfl⟩
  have hcl : (cuts.length : Int) ≤ 9223372036854775807 := by obtain ⟨_, _, e, h1, h2, _⟩ := hr; injection e with _ e2 e3; omega
  obtain ⟨t0, ht0⟩ : ∃ t, t = d.trail.length := ⟨_, rfl⟩
  rw [← hcn] at hr hcb hcl ⊢
  rw [← ht0] at ht ⊢
  have hba := below_alloc w (.cells #[.int .i64 0, .int .i64 0, .slice none 0 0] 30)
  have HI := Lib.hid (show AgI w (w.alloc (.cells #[.int .i64 0, .int .i64 0, .slice none 0 0] 30)) pd F t0 st ep 0 d F from ⟨hd.grow hba, fun k hk => .inl hk, Box.new _ _ _, by omega, Mod.of_below hba⟩)
  have HT := Lib.hid ht
  have HK := Lib.hid hk
  have HC := Lib.hid hc
  have HEP := Lib.hid hep
  have HR := Lib.hid hr
  have H64 := Lib.hid h64
  have HCB := Lib.hid hcb
  have HCN := Lib.hid hcn
  have HT0 := Lib.hid ht0
  have HG := Lib.hid (show ∀ W, Mod F w W → ErrType W from fun W hm => errType_mod hg hm hg0)
  have HFL := Lib.hid hd.lt
  obtain ⟨c, hcc⟩ : ∃ c, c = st.clock := ⟨_, rfl⟩
  obtain ⟨b, hbb⟩ : ∃ b, b = st.births := ⟨_, rfl⟩
  rw [← hcc, ← hbb]
  have HCC := Lib.hid (And.intro hcc.symm hbb.symm)
  clear hd hk hc hep ht hr h64 hcb hba hcn ht0 hg hg0 hcc hbb
  go_enter Tryz.func9, Tryz.ntmps9
  go_wp2_with fail
  generalize (w.alloc (.cells #[.int .i64 0, .int .i64 0, .slice none 0 0] 30)) = w1 at HI ⊢
  go_loopg [7] cn (fun gk iv wr => ∃ (i : Nat) (di : DiskM) (G : Nat → Prop), gk + i = cn ∧ iv = .int .i64 (i : Int) ∧ i ≤ 8 ∧ KeptD di st ep ∧ (cuts = [] ∨ KeptI di st ep) ∧ (i = 0 → di = d) ∧ AgI w wr pd F t0 st ep i di G)
  case atStart => exact ⟨0, d, F, Nat.add_zero _, rfl, by omega, HK.out, HC.out, fun _ => rfl, HI.out⟩
  case round =>
    clear HI
    obtain ⟨i, di, G, hgi, rfl, hi8, hki, hci, hdd, hI⟩ := hrel
    have i0 : (0 : Int) ≤ (i : Int) := by omega
    have HGI := Lib.hid hgi
    have HI8 := Lib.hid hi8
    have HKI := Lib.hid hki
    have HCI := Lib.hid hci
    have HDD := Lib.hid hdd
    have HI := Lib.hid hI
    clear hgi hki hci hI hdd hi8
    by_cases hin : i < cn
    rotate_left
    · have i1 : ¬ (i : Int) < (cn : Int) := by omega
      have i2 : decide ((i : Int) < (cn : Int)) = false := by simpa using i1
      clear hin
      go_wp2_with fail
      refine (restore_calls di pd G wr HI.out.dk).mono ?_
      rintro ev w2 ⟨rfl, G2, hd2, hm2, hg2⟩
      have hlt2 := HI.out.bz.lt
      have HL2 := Lib.hid (show ∀ k, G2 k → F k ∨ w.heap.size < k from fun k hk => HI.out.lo k (hg2 k hk))
      have HM2 := Lib.hid (HI.out.md.old hm2 (fun k hk g => (HI.out.lo k g).elim id (fun g => by omega)))
      have hnz : ¬ G w.heap.size := fun h => (HI.out.lo _ h).elim (fun g => by have := HFL.out _ g; omega) (fun g => by omega)
      have HZ2 := Lib.hid (HI.out.bz.mod hm2 hnz)
      have HW2 := Lib.hid (HZ2.out.lt)
      have HNZ := Lib.hid (show ¬ G2 w.heap.size from fun h => hnz (hg2 _ h))
      have hk2 := HKI.out.left none
      obtain ⟨d2, hd2e⟩ : ∃ d2 : DiskM, d2 = { di with left := none } := ⟨_, rfl⟩
      have hlen : d2.trail.length = di.trail.length := by rw [hd2e]
      have hln : d2.left = none := by rw [hd2e]
      rw [← hd2e] at hk2 hd2
      have HD2 := Lib.hid hd2
      have hop := open_told hk2 pd G2 w2 hd2 (by have := HI.out.tr; have := HT.out; have := HI8.out; omega)
      obtain ⟨z0, z1, z2, z3, z4, z5⟩ := open_on hk2 HEP.out hln
      have hot := openM_trail d2 hk2.len.2
      obtain ⟨R, hR⟩ : ∃ R, R = openM d2 := ⟨_, rfl⟩
      rw [← hR] at hop z0 z1 z2 z3 z4 z5 hot
      obtain ⟨dN, eN, sN, er⟩ := R
      simp only at hop z0 z1 z2 z3 z4 z5 hot
      subst z0
      have z1 := z1.symm
      subst z1
      subst z2
      rw [show errV 0 = .nilIface from rfl, HCC.out.1, HCC.out.2] at hop
      have HOPN := Lib.hid hop
      have HSI := Lib.hid z3
      have HLF := Lib.hid z4
      have HOT := Lib.hid (show dN.trail.length ≤ t0 + 20000 by have := HI.out.tr; have := HI8.out; omega)
      have HEX := Lib.hid (show cuts = [] → dN.trail.length = t0 + (blocksA (imgB st).length + 1) from fun h => by
        have h1 := HCN.out
        rw [h] at h1
        have h2 := HDD.out (by have := HGI.out; simp at h1; omega)
        rw [h2] at hlen
        rw [z5, hlen, ← HT0.out])
      clear hd2 hm2 hg2 hlt2 hnz hop z3 z4 z5 hot hR HI hlen hln hd2e hk2
      go_wp2_with fail
      refine HOPN.out.mono ?_
      rintro ev w5 ⟨pv, o, rfl, hop⟩
      obtain ⟨F5, q1, q2, q3, q4⟩ := hop.ex
      obtain ⟨ps, pl, rfl, b1, b2, n1, n2, nne, hsb, hlg, hob⟩ := q4 rfl
      have how := hop.ow
      have hmd := hop.md
      obtain ⟨oa, oc, rfl, _⟩ := how.slice
      obtain ⟨on, hon⟩ : ∃ n, n = st.l.length := ⟨_, rfl⟩
      simp only at q1 hsb hlg how hmd
      rw [← hon] at q3 hob how ⊢
      have hba := below_alloc w5 (.cells #[.int .i64 c, .int .i64 b, .slice oa on oc] 30)
      have HX0 := Lib.hid (Box.new w5 #[.int .i64 c, .int .i64 b, .slice oa on oc] 30)
      have HZ0 := Lib.hid ((HZ2.out.mod hmd HNZ.out).below hba)
      have HQ := Lib.hid (show w.heap.size < w5.heap.size from (HZ2.out.mod hmd HNZ.out).lt)
      have HXN := Lib.hid (show ¬ F5 w5.heap.size from fun h => by have := q1.lt _ h; omega)
      have HD5 := Lib.hid (q1.grow hba)
      have HS5 := Lib.hid (hsb.below hba)
      have HL5 := Lib.hid (show IsLog _ (logN (ep + 1)) pl pd from Box.below hlg hba)
      have HO5 := Lib.hid ((how.below hba).base (base' := w.heap.size) (Nat.le_of_lt HW2.out))
      have HM5 := Lib.hid ((HM2.out.old hmd (fun k hk g => (HL2.out k g).elim id (fun g => by omega))).trans (Mod.of_below hba))
      have HP := Lib.hid (show (∀ k, F5 k → F k ∨ w.heap.size < k) ∧ w.heap.size < ps ∧ w.heap.size < pl ∧ ¬ F5 ps ∧ ¬ F5 pl ∧ ps ≠ pl ∧ (∀ k, (Value.slice oa on oc).ownBlock = some k → w.heap.size < k ∧ ¬ F5 k ∧ k ≠ ps ∧ k ≠ pl) from
        ⟨fun k hk => by
          rcases q2 k hk with g | g
          · exact HL2.out k g
          · right; have := HW2.out; omega, by have := HW2.out; omega, by have := HW2.out; omega, n1, n2, nne, fun k hk => ⟨by have := (q3 k hk).1; have := HW2.out; omega, (q3 k hk).2, (hob k hk).1, (hob k hk).2⟩⟩)
      clear q1 q2 q3 q4 hop b1 b2 n1 n2 nne hsb hlg hob how hmd hon hba HOPN HM2

      have HD7 := HD5
      clear HD5
      have HS7 := HS5
      clear HS5
      have HL7 := HL5
      clear HL5
      have HO7 := HO5
      clear HO5
      have HM7 := HM5
      clear HM5
      have HX := HX0
      clear HX0
      have HZ := HZ0
      clear HZ0
      have HP7 := Lib.hid HP.out.1
      have HN7 := Lib.hid (And.intro HP.out.2.2.2.1 HP.out.2.2.2.2.1)
      have HOB7 := Lib.hid HP.out.2.2.2.2.2.2
      have HSI7 := HSI
      go_wp2_with fail
      have HAG := Lib.hid (fun W (hm : Mod (fun k => k = w.heap.size) (w5.alloc (.cells #[.int .i64 c, .int .i64 b, .slice oa on oc] 30)) W) => AgainR.res (cuts := cuts) (show AgainR w pd F t0 st ep cuts ps (.slice oa on oc) (w5.alloc (.cells #[.int .i64 c, .int .i64 b, .slice oa on oc] 30)) from
        ⟨⟨_, pl, _, HD7.out, HP7.out, HP.out.2.1, HP.out.2.2.1, HN7.out.1, HN7.out.2, HP.out.2.2.2.2.2.1, HS7.out, HL7.out, HSI7.out, HLF.out, HOB7.out, HOT.out, HEX.out⟩, HO7.out, HM7.out⟩) hm (fun h => by have := HFL.out _ h; omega))
      obtain ⟨q, hq⟩ : ∃ q, q = w5.heap.size := ⟨_, rfl⟩
      obtain ⟨wq, hwq⟩ : ∃ wq, wq = (w5.alloc (.cells #[.int .i64 c, .int .i64 b, .slice oa on oc] 30)) := ⟨_, rfl⟩
      rw [← hwq] at HAG HX HZ ⊢
      rw [← hq] at HX HQ ⊢
      clear hwq hq HD7 HP7 HN7 HS7 HL7 HSI7 HOB7 HO7 HM7 HP
      refine wp_region_held_drew (S := fun W => Box W q #[.int .i64 c, .int .i64 b, .slice oa on oc] 30) (by kernel_rfl) (HX.out.below (below_drew wq)) (fun hHeld => ?_)
      refine wpAnyH_take (i := 0) (oi := ⟨some 59, _, _, _, _, _⟩) (v := ?_) rfl (by kernel_rfl) (by kernel_rfl) (by kernel_rfl) (fun _ _ _ h => h) (Or.inl ⟨by kernel_rfl, ?_⟩) (by assumption) ?_
      rotate_left 1
      · intro w' hw'; clear hw'; go_simp; try with_reducible rfl
      try simp only [Act.put, List.setIfInBounds_toArray, List.set_cons_zero, List.set_cons_succ]
      refine wpAnyH_take (i := 1) (oi := ⟨some 60, .load _ _, _, _, _, _⟩) (v := .agg #[.int .i64 c, .int .i64 b, .slice oa on oc]) rfl (by kernel_rfl) (by kernel_rfl) (by kernel_rfl) (fun _ _ _ h => h) (Or.inl ⟨by kernel_rfl, fun w' hw' => exec_load_m 30 (.tmp 12) rfl (q) (0) rfl (#[.int .i64 c, .int .i64 b, .slice oa on oc]).toList _ (zrangeS hw') Tryz.underlying30 rfl (by kernel_rfl)⟩) (by assumption) ?_
      try simp only [Act.put, List.setIfInBounds_toArray, List.set_cons_zero, List.set_cons_succ]
      refine wpAnyH_take (i := 2) (oi := ⟨some 61, _, _, _, _, _⟩) (v := ?_) rfl (by kernel_rfl) (by kernel_rfl) (by kernel_rfl) (fun _ _ _ h => h) (Or.inl ⟨by kernel_rfl, ?_⟩) (by assumption) ?_
      rotate_left 1
      · intro w' hw'; clear hw'; go_simp; try with_reducible rfl
      try simp only [Act.put, List.setIfInBounds_toArray, List.set_cons_zero, List.set_cons_succ]
      refine wpAnyH_take (i := 3) (oi := ⟨some 62, _, _, _, _, _⟩) (v := ?_) rfl (by kernel_rfl) (by kernel_rfl) (by kernel_rfl) (fun _ _ _ h => h) (Or.inl ⟨by kernel_rfl, ?_⟩) (by assumption) ?_
      rotate_left 1
      · intro w' hw'; clear hw'; go_simp; try with_reducible rfl
      try simp only [Act.put, List.setIfInBounds_toArray, List.set_cons_zero, List.set_cons_succ]
      refine wpAnyH_take (i := 4) (oi := ⟨some 63, _, _, _, _, _⟩) (v := ?_) rfl (by kernel_rfl) (by kernel_rfl) (by kernel_rfl) (fun _ _ _ h => h) (Or.inl ⟨by kernel_rfl, ?_⟩) (by assumption) ?_
      rotate_left 1
      · intro w' hw'; clear hw'; go_simp; try with_reducible rfl
      try simp only [Act.put, List.setIfInBounds_toArray, List.set_cons_zero, List.set_cons_succ]
      refine wpAnyH_take (i := 5) (oi := ⟨some 64, _, _, _, _, _⟩) (v := ?_) rfl (by kernel_rfl) (by kernel_rfl) (by kernel_rfl) (fun _ _ _ h => h) (Or.inl ⟨by kernel_rfl, ?_⟩) (by assumption) ?_
      rotate_left 1
      · intro w' hw'; clear hw'; go_simp; try with_reducible rfl
      try simp only [Act.put, List.setIfInBounds_toArray, List.set_cons_zero, List.set_cons_succ]
      refine wpAnyH_take (i := 6) (oi := ⟨some 65, _, _, _, _, _⟩) (v := ?_) rfl (by kernel_rfl) (by kernel_rfl) (by kernel_rfl) (fun _ _ _ h => h) (Or.inl ⟨by kernel_rfl, ?_⟩) (by assumption) ?_
      rotate_left 1
      · intro w' hw'; clear hw'; go_simp; try with_reducible rfl
      try simp only [Act.put, List.setIfInBounds_toArray, List.set_cons_zero, List.set_cons_succ]
      refine wpAnyH_take (i := 7) (oi := ⟨some 66, _, _, _, _, _⟩) (v := ?_) rfl (by kernel_rfl) (by kernel_rfl) (by kernel_rfl) (fun _ _ _ h => h) (Or.inl ⟨by kernel_rfl, ?_⟩) (by assumption) ?_
      rotate_left 1
      · intro w' hw'; clear hw'; go_simp; try with_reducible rfl
      try simp only [Act.put, List.setIfInBounds_toArray, List.set_cons_zero, List.set_cons_succ]
      refine wpAnyH_take (i := 8) (oi := ⟨some 4, _, _, _, _, _⟩) (v := ?_) rfl (by kernel_rfl) (by kernel_rfl) (by kernel_rfl) (fun _ _ _ h => h) (Or.inl ⟨by kernel_rfl, ?_⟩) (by assumption) ?_
      rotate_left 1
      · intro w' hw'; clear hw'; go_simp; try with_reducible rfl
      try simp only [Act.put, List.setIfInBounds_toArray, List.set_cons_zero, List.set_cons_succ]
      refine wpAnyH_ready (rs := [9]) (by kernel_rfl) (by simp) (AllReadyH.cons (o := ⟨none, .store 30 (.tmp 5) (.tmp 60), _, _, _, none⟩) rfl (fun K hK => ?_) AllReadyH.nil)
      rw [if_pos (by kernel_rfl)]
      refine wp_store_kk 30 (.tmp 5) (.tmp 60) rfl w.heap.size 0 [.int .i64 c, .int .i64 b, .slice oa on oc] rfl rfl (HZ.out.below (below_drew wq)).there3 (by kernel_rfl) (one3 _ _ _ _ _) ?_
      obtain ⟨hx9, hm9⟩ := (HZ.out.below (below_drew wq)).set3 (.int .i64 c) (.int .i64 b) (.slice oa on oc)
      refine hK.out _ _ (hHeld.mod hm9 (by have := HQ.out; omega)) (fun hS9 => ?_)
      have HF := Lib.hid (And.intro hx9 (HAG.out _ ((Mod.of_below (F := fun k => k = w.heap.size) (below_drew wq)).trans hm9)))
      clear hK K hx9 hm9
      generalize (World.setCells _ _ _ _) = w9 at HF hS9 ⊢
      try simp only [Act.put]
      refine wpAnyH_take (i := 10) (oi := ⟨some 6, _, _, _, _, _⟩) (v := ?_) rfl (by kernel_rfl) (by kernel_rfl) (by kernel_rfl) (fun _ _ _ h => h) (Or.inl ⟨by kernel_rfl, ?_⟩) (by assumption) ?_
      rotate_left 1
      · intro w' hw'; clear hw'; go_simp; try with_reducible rfl
      try simp only [Act.put, List.setIfInBounds_toArray, List.set_cons_zero, List.set_cons_succ]
      refine wpAnyH_done (by kernel_rfl) ?_ _
      clear hHeld hS9
      go_wp2_with fail
      exact ret_tmp_cell_tmp rfl rfl w.heap.size 0 rfl [.int .i64 c, .int .i64 b, .slice oa on oc] _ (zrangeS HF.out.1) Tryz.underlying30 rfl (by kernel_rfl) _ _ rfl rfl ⟨_, _, rfl, HF.out.2⟩
    have i1 : (i : Int) < (cn : Int) := by omega
    have i2 : decide ((i : Int) < (cn : Int)) = true := by simpa using i1
    have HIN := Lib.hid hin
    by_cases hi9 : i < 8
    rotate_left
    · have i3 : ¬ (i : Int) < 8 := by omega
      have i4 : decide ((i : Int) < 8) = false := by simpa using i3
      clear hin hi9
      go_wp2_with fail
      refine (restore_calls di pd G wr HI.out.dk).mono ?_
      rintro ev w2 ⟨rfl, G2, hd2, hm2, hg2⟩
      have hlt2 := HI.out.bz.lt
      have HL2 := Lib.hid (show ∀ k, G2 k → F k ∨ w.heap.size < k from fun k hk => HI.out.lo k (hg2 k hk))
      have HM2 := Lib.hid (HI.out.md.old hm2 (fun k hk g => (HI.out.lo k g).elim id (fun g => by omega)))
      have hnz : ¬ G w.heap.size := fun h => (HI.out.lo _ h).elim (fun g => by have := HFL.out _ g; omega) (fun g => by omega)
      have HZ2 := Lib.hid (HI.out.bz.mod hm2 hnz)
      have HW2 := Lib.hid (HZ2.out.lt)
      have HNZ := Lib.hid (show ¬ G2 w.heap.size from fun h => hnz (hg2 _ h))
      have hk2 := HKI.out.left none
      obtain ⟨d2, hd2e⟩ : ∃ d2 : DiskM, d2 = { di with left := none } := ⟨_, rfl⟩
      have hlen : d2.trail.length = di.trail.length := by rw [hd2e]
      have hln : d2.left = none := by rw [hd2e]
      rw [← hd2e] at hk2 hd2
      have HD2 := Lib.hid hd2
      have hop := open_told hk2 pd G2 w2 hd2 (by have := HI.out.tr; have := HT.out; have := HI8.out; omega)
      obtain ⟨z0, z1, z2, z3, z4, z5⟩ := open_on hk2 HEP.out hln
      have hot := openM_trail d2 hk2.len.2
      obtain ⟨R, hR⟩ : ∃ R, R = openM d2 := ⟨_, rfl⟩
      rw [← hR] at hop z0 z1 z2 z3 z4 z5 hot
      obtain ⟨dN, eN, sN, er⟩ := R
      simp only at hop z0 z1 z2 z3 z4 z5 hot
      subst z0
      have z1 := z1.symm
      subst z1
      subst z2
      rw [show errV 0 = .nilIface from rfl, HCC.out.1, HCC.out.2] at hop
      have HOPN := Lib.hid hop
      have HSI := Lib.hid z3
      have HLF := Lib.hid z4
      have HOT := Lib.hid (show dN.trail.length ≤ t0 + 20000 by have := HI.out.tr; have := HI8.out; omega)
      have HEX := Lib.hid (show cuts = [] → dN.trail.length = t0 + (blocksA (imgB st).length + 1) from fun h => by
        have h1 := HCN.out
        rw [h] at h1
        have h2 := HDD.out (by have := HGI.out; simp at h1; omega)
        rw [h2] at hlen
        rw [z5, hlen, ← HT0.out])
      clear hd2 hm2 hg2 hlt2 hnz hop z3 z4 z5 hot hR HI hlen hln hd2e hk2
      go_wp2_with fail
      refine HOPN.out.mono ?_
      rintro ev w5 ⟨pv, o, rfl, hop⟩
      obtain ⟨F5, q1, q2, q3, q4⟩ := hop.ex
      obtain ⟨ps, pl, rfl, b1, b2, n1, n2, nne, hsb, hlg, hob⟩ := q4 rfl
      have how := hop.ow
      have hmd := hop.md
      obtain ⟨oa, oc, rfl, _⟩ := how.slice
      obtain ⟨on, hon⟩ : ∃ n, n = st.l.length := ⟨_, rfl⟩
      simp only at q1 hsb hlg how hmd
      rw [← hon] at q3 hob how ⊢
      have hba := below_alloc w5 (.cells #[.int .i64 c, .int .i64 b, .slice oa on oc] 30)
      have HX0 := Lib.hid (Box.new w5 #[.int .i64 c, .int .i64 b, .slice oa on oc] 30)
      have HZ0 := Lib.hid ((HZ2.out.mod hmd HNZ.out).below hba)
      have HQ := Lib.hid (show w.heap.size < w5.heap.size from (HZ2.out.mod hmd HNZ.out).lt)
      have HXN := Lib.hid (show ¬ F5 w5.heap.size from fun h => by have := q1.lt _ h; omega)
      have HD5 := Lib.hid (q1.grow hba)
      have HS5 := Lib.hid (hsb.below hba)
      have HL5 := Lib.hid (show IsLog _ (logN (ep + 1)) pl pd from Box.below hlg hba)
      have HO5 := Lib.hid ((how.below hba).base (base' := w.heap.size) (Nat.le_of_lt HW2.out))
      have HM5 := Lib.hid ((HM2.out.old hmd (fun k hk g => (HL2.out k g).elim id (fun g => by omega))).trans (Mod.of_below hba))
      have HP := Lib.hid (show (∀ k, F5 k → F k ∨ w.heap.size < k) ∧ w.heap.size < ps ∧ w.heap.size < pl ∧ ¬ F5 ps ∧ ¬ F5 pl ∧ ps ≠ pl ∧ (∀ k, (Value.slice oa on oc).ownBlock = some k → w.heap.size < k ∧ ¬ F5 k ∧ k ≠ ps ∧ k ≠ pl) from
        ⟨fun k hk => by
          rcases q2 k hk with g | g
          · exact HL2.out k g
          · right; have := HW2.out; omega, by have := HW2.out; omega, by have := HW2.out; omega, n1, n2, nne, fun k hk => ⟨by have := (q3 k hk).1; have := HW2.out; omega, (q3 k hk).2, (hob k hk).1, (hob k hk).2⟩⟩)
      clear q1 q2 q3 q4 hop b1 b2 n1 n2 nne hsb hlg hob how hmd hon hba HOPN HM2

      have HD7 := HD5
      clear HD5
      have HS7 := HS5
      clear HS5
      have HL7 := HL5
      clear HL5
      have HO7 := HO5
      clear HO5
      have HM7 := HM5
      clear HM5
      have HX := HX0
      clear HX0
      have HZ := HZ0
      clear HZ0
      have HP7 := Lib.hid HP.out.1
      have HN7 := Lib.hid (And.intro HP.out.2.2.2.1 HP.out.2.2.2.2.1)
      have HOB7 := Lib.hid HP.out.2.2.2.2.2.2
      have HSI7 := HSI
      go_wp2_with fail
      have HAG := Lib.hid (fun W (hm : Mod (fun k => k = w.heap.size) (w5.alloc (.cells #[.int .i64 c, .int .i64 b, .slice oa on oc] 30)) W) => AgainR.res (cuts := cuts) (show AgainR w pd F t0 st ep cuts ps (.slice oa on oc) (w5.alloc (.cells #[.int .i64 c, .int .i64 b, .slice oa on oc] 30)) from
        ⟨⟨_, pl, _, HD7.out, HP7.out, HP.out.2.1, HP.out.2.2.1, HN7.out.1, HN7.out.2, HP.out.2.2.2.2.2.1, HS7.out, HL7.out, HSI7.out, HLF.out, HOB7.out, HOT.out, HEX.out⟩, HO7.out, HM7.out⟩) hm (fun h => by have := HFL.out _ h; omega))
      obtain ⟨q, hq⟩ : ∃ q, q = w5.heap.size := ⟨_, rfl⟩
      obtain ⟨wq, hwq⟩ : ∃ wq, wq = (w5.alloc (.cells #[.int .i64 c, .int .i64 b, .slice oa on oc] 30)) := ⟨_, rfl⟩
      rw [← hwq] at HAG HX HZ ⊢
      rw [← hq] at HX HQ ⊢
      clear hwq hq HD7 HP7 HN7 HS7 HL7 HSI7 HOB7 HO7 HM7 HP
      refine wp_region_held_drew (S := fun W => Box W q #[.int .i64 c, .int .i64 b, .slice oa on oc] 30) (by kernel_rfl) (HX.out.below (below_drew wq)) (fun hHeld => ?_)
      refine wpAnyH_take (i := 0) (oi := ⟨some 59, _, _, _, _, _⟩) (v := ?_) rfl (by kernel_rfl) (by kernel_rfl) (by kernel_rfl) (fun _ _ _ h => h) (Or.inl ⟨by kernel_rfl, ?_⟩) (by assumption) ?_
      rotate_left 1
      · intro w' hw'; clear hw'; go_simp; try with_reducible rfl
      try simp only [Act.put, List.setIfInBounds_toArray, List.set_cons_zero, List.set_cons_succ]
      refine wpAnyH_take (i := 1) (oi := ⟨some 60, .load _ _, _, _, _, _⟩) (v := .agg #[.int .i64 c, .int .i64 b, .slice oa on oc]) rfl (by kernel_rfl) (by kernel_rfl) (by kernel_rfl) (fun _ _ _ h => h) (Or.inl ⟨by kernel_rfl, fun w' hw' => exec_load_m 30 (.tmp 12) rfl (q) (0) rfl (#[.int .i64 c, .int .i64 b, .slice oa on oc]).toList _ (zrangeS hw') Tryz.underlying30 rfl (by kernel_rfl)⟩) (by assumption) ?_
      try simp only [Act.put, List.setIfInBounds_toArray, List.set_cons_zero, List.set_cons_succ]
      refine wpAnyH_take (i := 2) (oi := ⟨some 61, _, _, _, _, _⟩) (v := ?_) rfl (by kernel_rfl) (by kernel_rfl) (by kernel_rfl) (fun _ _ _ h => h) (Or.inl ⟨by kernel_rfl, ?_⟩) (by assumption) ?_
      rotate_left 1
      · intro w' hw'; clear hw'; go_simp; try with_reducible rfl
      try simp only [Act.put, List.setIfInBounds_toArray, List.set_cons_zero, List.set_cons_succ]
      refine wpAnyH_take (i := 3) (oi := ⟨some 62, _, _, _, _, _⟩) (v := ?_) rfl (by kernel_rfl) (by kernel_rfl) (by kernel_rfl) (fun _ _ _ h => h) (Or.inl ⟨by kernel_rfl, ?_⟩) (by assumption) ?_
      rotate_left 1
      · intro w' hw'; clear hw'; go_simp; try with_reducible rfl
      try simp only [Act.put, List.setIfInBounds_toArray, List.set_cons_zero, List.set_cons_succ]
      refine wpAnyH_take (i := 4) (oi := ⟨some 63, _, _, _, _, _⟩) (v := ?_) rfl (by kernel_rfl) (by kernel_rfl) (by kernel_rfl) (fun _ _ _ h => h) (Or.inl ⟨by kernel_rfl, ?_⟩) (by assumption) ?_
      rotate_left 1
      · intro w' hw'; clear hw'; go_simp; try with_reducible rfl
      try simp only [Act.put, List.setIfInBounds_toArray, List.set_cons_zero, List.set_cons_succ]
      refine wpAnyH_take (i := 5) (oi := ⟨some 64, _, _, _, _, _⟩) (v := ?_) rfl (by kernel_rfl) (by kernel_rfl) (by kernel_rfl) (fun _ _ _ h => h) (Or.inl ⟨by kernel_rfl, ?_⟩) (by assumption) ?_
      rotate_left 1
      · intro w' hw'; clear hw'; go_simp; try with_reducible rfl
      try simp only [Act.put, List.setIfInBounds_toArray, List.set_cons_zero, List.set_cons_succ]
      refine wpAnyH_take (i := 6) (oi := ⟨some 65, _, _, _, _, _⟩) (v := ?_) rfl (by kernel_rfl) (by kernel_rfl) (by kernel_rfl) (fun _ _ _ h => h) (Or.inl ⟨by kernel_rfl, ?_⟩) (by assumption) ?_
      rotate_left 1
      · intro w' hw'; clear hw'; go_simp; try with_reducible rfl
      try simp only [Act.put, List.setIfInBounds_toArray, List.set_cons_zero, List.set_cons_succ]
      refine wpAnyH_take (i := 7) (oi := ⟨some 66, _, _, _, _, _⟩) (v := ?_) rfl (by kernel_rfl) (by kernel_rfl) (by kernel_rfl) (fun _ _ _ h => h) (Or.inl ⟨by kernel_rfl, ?_⟩) (by assumption) ?_
      rotate_left 1
      · intro w' hw'; clear hw'; go_simp; try with_reducible rfl
      try simp only [Act.put, List.setIfInBounds_toArray, List.set_cons_zero, List.set_cons_succ]
      refine wpAnyH_take (i := 8) (oi := ⟨some 4, _, _, _, _, _⟩) (v := ?_) rfl (by kernel_rfl) (by kernel_rfl) (by kernel_rfl) (fun _ _ _ h => h) (Or.inl ⟨by kernel_rfl, ?_⟩) (by assumption) ?_
      rotate_left 1
      · intro w' hw'; clear hw'; go_simp; try with_reducible rfl
      try simp only [Act.put, List.setIfInBounds_toArray, List.set_cons_zero, List.set_cons_succ]
      refine wpAnyH_ready (rs := [9]) (by kernel_rfl) (by simp) (AllReadyH.cons (o := ⟨none, .store 30 (.tmp 5) (.tmp 60), _, _, _, none⟩) rfl (fun K hK => ?_) AllReadyH.nil)
      rw [if_pos (by kernel_rfl)]
      refine wp_store_kk 30 (.tmp 5) (.tmp 60) rfl w.heap.size 0 [.int .i64 c, .int .i64 b, .slice oa on oc] rfl rfl (HZ.out.below (below_drew wq)).there3 (by kernel_rfl) (one3 _ _ _ _ _) ?_
      obtain ⟨hx9, hm9⟩ := (HZ.out.below (below_drew wq)).set3 (.int .i64 c) (.int .i64 b) (.slice oa on oc)
      refine hK.out _ _ (hHeld.mod hm9 (by have := HQ.out; omega)) (fun hS9 => ?_)
      have HF := Lib.hid (And.intro hx9 (HAG.out _ ((Mod.of_below (F := fun k => k = w.heap.size) (below_drew wq)).trans hm9)))
      clear hK K hx9 hm9
      generalize (World.setCells _ _ _ _) = w9 at HF hS9 ⊢
      try simp only [Act.put]
      refine wpAnyH_take (i := 10) (oi := ⟨some 6, _, _, _, _, _⟩) (v := ?_) rfl (by kernel_rfl) (by kernel_rfl) (by kernel_rfl) (fun _ _ _ h => h) (Or.inl ⟨by kernel_rfl, ?_⟩) (by assumption) ?_
      rotate_left 1
      · intro w' hw'; clear hw'; go_simp; try with_reducible rfl
      try simp only [Act.put, List.setIfInBounds_toArray, List.set_cons_zero, List.set_cons_succ]
      refine wpAnyH_done (by kernel_rfl) ?_ _
      clear hHeld hS9
      go_wp2_with fail
      exact ret_tmp_cell_tmp rfl rfl w.heap.size 0 rfl [.int .i64 c, .int .i64 b, .slice oa on oc] _ (zrangeS HF.out.1) Tryz.underlying30 rfl (by kernel_rfl) _ _ rfl rfl ⟨_, _, rfl, HF.out.2⟩
    have i3 : (i : Int) < 8 := by omega
    have i4 : decide ((i : Int) < 8) = true := by simpa using i3
    have HI9 := Lib.hid hi9
    have hki : KeptI di st ep := by
      rcases HCI.out with h | h
      · have := HCN.out; rw [h] at this; simp at this; omega
      · exact h
    have hrw := Rd.mod0 HR.out HI.out.md (fun hp k hk => HCB.out (by rw [List.length_map] at hp; have := HCN.out; omega) k hk)
    obtain ⟨cb, co, hca, hcc⟩ := ints_at hrw i (by have := HCN.out; omega)
    subst hca
    obtain ⟨x, hx⟩ : ∃ x, x = cuts.getD i 0 := ⟨_, rfl⟩
    rw [← hx] at hcc
    have hx64 : I64 x := by
      have hil : i < cuts.length := by have := HCN.out; omega
      rw [hx, List.getD, List.getElem?_eq_getElem hil]
      exact H64.out _ (List.getElem_mem hil)
    have HPK := Lib.hid (fun W => pick_calls x 20 W hx64.1 hx64.2 (by decide) (by decide))
    have hpv := pickI_lt x 20 (by decide)
    obtain ⟨y, hy⟩ : ∃ y, y = pickI x 20 := ⟨_, rfl⟩
    rw [← hy] at HPK hpv
    have HCU := Lib.hid (fun W (hW : IsDisk W di pd G) => cut_calls di pd G y W hW (by omega))
    have HPV := Lib.hid hpv
    rw [if_neg (by omega)] at HCU
    obtain ⟨m, hm⟩ : ∃ m, m = y.toNat := ⟨_, rfl⟩
    rw [← hm] at HCU
    have HKL := Lib.hid (hki.left (some m))
    obtain ⟨d2, hd2e⟩ : ∃ d2 : DiskM, d2 = { di with left := some m } := ⟨_, rfl⟩
    have hlen : d2.trail.length = di.trail.length := by rw [hd2e]
    rw [← hd2e] at HCU HKL
    clear hin hi9 hki hrw hx hx64 hpv hy hm hd2e
    go_wp2_with fail
    refine (HPK.out _).mono ?_
    rintro ev w2' ⟨rfl, rfl⟩
    go_wp2_with fail
    refine (HCU.out _ HI.out.dk).mono ?_
    rintro ev w2 ⟨rfl, G2, hd2, hm2, hg2⟩
    have hlt2 := HI.out.bz.lt
    have HL2 := Lib.hid (show ∀ k, G2 k → F k ∨ w.heap.size < k from fun k hk => by
      rcases hg2 k hk with g | g
      · exact HI.out.lo k g
      · right; omega)
    have HM2 := Lib.hid (HI.out.md.old hm2 (fun k hk g => (HI.out.lo k g).elim id (fun g => by omega)))
    have hnz : ¬ G w.heap.size := fun h => (HI.out.lo _ h).elim (fun g => by have := HFL.out _ g; omega) (fun g => by omega)
    have HZ2 := Lib.hid (HI.out.bz.mod hm2 hnz)
    have HW2 := Lib.hid (HZ2.out.lt)
    have HNZ := Lib.hid (show ¬ G2 w.heap.size from fun h => (HL2.out _ h).elim (fun g => by have := HFL.out _ g; omega) (fun g => by omega))
    have HTR := Lib.hid (show d2.trail.length ≤ t0 + 2050 * i by rw [hlen]; exact HI.out.tr)
    have HD2 := Lib.hid hd2
    have hop := open_told HKL.out.d pd G2 w2 hd2 (by have := HTR.out; have := HT.out; have := HI8.out; omega)
    have hct := open_cut HKL.out HEP.out
    have hot := openM_trail d2 HKL.out.len.2
    obtain ⟨R, hR⟩ : ∃ R, R = openM d2 := ⟨_, rfl⟩
    rw [← hR] at hop hct hot
    obtain ⟨dN, eN, sN, er⟩ := R
    simp only at hop hct hot
    have HOPN := Lib.hid hop
    have HCT := Lib.hid hct
    have HOT := Lib.hid (show dN.trail.length ≤ t0 + 2050 * (i + 1) by have := HTR.out; omega)
    clear hd2 hm2 hg2 hlt2 hnz hop hct hot hR HI HPK HCU hlen hcc
    by_cases h0 : er = 0
    · obtain ⟨_, z1, z2, z3⟩ : er = 0 ∧ sN = st ∧ eN = ep + 1 ∧ StoI dN ⟨ep + 1, logN (ep + 1), false⟩ st := by
        rcases HCT.out with h | h
        · exact h
        · exact absurd h0 (by rw [h.1]; decide)
      have z1 := z1.symm
      subst z1
      subst z2
      subst h0
      rw [show errV 0 = .nilIface from rfl, HCC.out.1, HCC.out.2] at HOPN
      have HSI := Lib.hid z3
      clear HCT z3 HKL HTR
      go_wp2_with fail
      refine HOPN.out.mono ?_
      rintro ev w5 ⟨pv, o, rfl, hop⟩
      obtain ⟨F5, q1, q2, q3, q4⟩ := hop.ex
      obtain ⟨ps, pl, rfl, b1, b2, n1, n2, nne, hsb, hlg, hob⟩ := q4 rfl
      have how := hop.ow
      have hmd := hop.md
      obtain ⟨oa, oc, rfl, _⟩ := how.slice
      obtain ⟨on, hon⟩ : ∃ n, n = st.l.length := ⟨_, rfl⟩
      simp only at q1 hsb hlg how hmd
      rw [← hon] at q3 hob how ⊢
      have hba := below_alloc w5 (.cells #[.int .i64 c, .int .i64 b, .slice oa on oc] 30)
      have HX0 := Lib.hid (Box.new w5 #[.int .i64 c, .int .i64 b, .slice oa on oc] 30)
      have HZ0 := Lib.hid ((HZ2.out.mod hmd HNZ.out).below hba)
      have HQ := Lib.hid (show w.heap.size < w5.heap.size from (HZ2.out.mod hmd HNZ.out).lt)
      have HXN := Lib.hid (show ¬ F5 w5.heap.size from fun h => by have := q1.lt _ h; omega)
      have HD5 := Lib.hid (q1.grow hba)
      have HS5 := Lib.hid (hsb.below hba)
      have HL5 := Lib.hid (show IsLog _ (logN (ep + 1)) pl pd from Box.below hlg hba)
      have HO5 := Lib.hid ((how.below hba).base (base' := w.heap.size) (Nat.le_of_lt HW2.out))
      have HM5 := Lib.hid ((HM2.out.old hmd (fun k hk g => (HL2.out k g).elim id (fun g => by omega))).trans (Mod.of_below hba))
      have HP := Lib.hid (show (∀ k, F5 k → F k ∨ w.heap.size < k) ∧ w.heap.size < ps ∧ w.heap.size < pl ∧ ¬ F5 ps ∧ ¬ F5 pl ∧ ps ≠ pl ∧ (∀ k, (Value.slice oa on oc).ownBlock = some k → w.heap.size < k ∧ ¬ F5 k ∧ k ≠ ps ∧ k ≠ pl) from
        ⟨fun k hk => by
          rcases q2 k hk with g | g
          · exact HL2.out k g
          · right; have := HW2.out; omega, by have := HW2.out; omega, by have := HW2.out; omega, n1, n2, nne, fun k hk => ⟨by have := (q3 k hk).1; have := HW2.out; omega, (q3 k hk).2, (hob k hk).1, (hob k hk).2⟩⟩)
      clear q1 q2 q3 q4 hop b1 b2 n1 n2 nne hsb hlg hob how hmd hon hba HOPN HM2

      go_wp2_with fail
      refine (restore_calls dN pd F5 _ HD5.out).mono ?_
      rintro ev w8 ⟨rfl, F8, hd8, hm8, hg8⟩
      have HX := Lib.hid (HX0.out.mod hm8 (fun h => by
        rcases HP.out.1 _ h with g | g
        · have := HFL.out _ g; have := HQ.out; omega
        · exact HXN.out h))
      have HZ := Lib.hid (HZ0.out.mod hm8 (fun h => (HP.out.1 _ h).elim (fun g => by have := HFL.out _ g; omega) (fun g => by omega)))
      have HD7 := Lib.hid hd8
      have HP7 := Lib.hid (show ∀ k, F8 k → F k ∨ w.heap.size < k from fun k hk => HP.out.1 k (hg8 k hk))
      have HN7 := Lib.hid (show ¬ F8 ps ∧ ¬ F8 pl from ⟨fun h => HP.out.2.2.2.1 (hg8 _ h), fun h => HP.out.2.2.2.2.1 (hg8 _ h)⟩)
      have HOB7 := Lib.hid (show ∀ k, (Value.slice oa on oc).ownBlock = some k → w.heap.size < k ∧ ¬ F8 k ∧ k ≠ ps ∧ k ≠ pl from fun k hk => by
        have := HP.out.2.2.2.2.2.2 k hk
        exact ⟨this.1, fun h => this.2.1 (hg8 _ h), this.2.2⟩)
      have HS7 := Lib.hid (HS5.out.mod hm8 HP.out.2.2.2.1)
      have HL7 := Lib.hid (show IsLog w8 (logN (ep + 1)) pl pd from Box.mod HL5.out hm8 HP.out.2.2.2.2.1)
      have HO7 := Lib.hid (HO5.out.mod hm8 (fun k hk h => (HP.out.2.2.2.2.2.2 k hk).2.1 h))
      have HM7 := Lib.hid (HM5.out.old hm8 (fun k hk h => (HP.out.1 _ h).elim id (fun g => by omega)))
      have HSI7 := Lib.hid (HSI.out.left none)
      clear hd8 hm8 hg8 HD5 HS5 HL5 HO5 HM5 HX0 HZ0 HSI HXN
      go_wp2_with fail
      have HAG := Lib.hid (fun W (hm : Mod (fun k => k = w.heap.size) w8 W) => AgainR.res (cuts := cuts) (show AgainR w pd F t0 st ep cuts ps (.slice oa on oc) w8 from
        ⟨⟨_, pl, _, HD7.out, HP7.out, HP.out.2.1, HP.out.2.2.1, HN7.out.1, HN7.out.2, HP.out.2.2.2.2.2.1, HS7.out, HL7.out, HSI7.out, rfl, HOB7.out, by have := HOT.out; have := HI9.out; show dN.trail.length ≤ _; omega, fun h => by have := HCN.out; rw [h] at this; have := HIN.out; simp at *; omega⟩, HO7.out, HM7.out⟩) hm (fun h => by have := HFL.out _ h; omega))
      obtain ⟨q, hq⟩ : ∃ q, q = w5.heap.size := ⟨_, rfl⟩
      obtain ⟨wq, hwq⟩ : ∃ wq, wq = w8 := ⟨_, rfl⟩
      rw [← hwq] at HAG HX HZ ⊢
      rw [← hq] at HX HQ ⊢
      clear hwq hq HD7 HP7 HN7 HS7 HL7 HSI7 HOB7 HO7 HM7 HP
      refine wp_region_held_drew (S := fun W => Box W q #[.int .i64 c, .int .i64 b, .slice oa on oc] 30) (by kernel_rfl) (HX.out.below (below_drew wq)) (fun hHeld => ?_)
      refine wpAnyH_take (i := 0) (oi := ⟨some 45, _, _, _, _, _⟩) (v := ?_) rfl (by kernel_rfl) (by kernel_rfl) (by kernel_rfl) (fun _ _ _ h => h) (Or.inl ⟨by kernel_rfl, ?_⟩) (by assumption) ?_
      rotate_left 1
      · intro w' hw'; clear hw'; go_simp; try with_reducible rfl
      try simp only [Act.put, List.setIfInBounds_toArray, List.set_cons_zero, List.set_cons_succ]
      refine wpAnyH_take (i := 1) (oi := ⟨some 46, .load _ _, _, _, _, _⟩) (v := .agg #[.int .i64 c, .int .i64 b, .slice oa on oc]) rfl (by kernel_rfl) (by kernel_rfl) (by kernel_rfl) (fun _ _ _ h => h) (Or.inl ⟨by kernel_rfl, fun w' hw' => exec_load_m 30 (.tmp 9) rfl (q) (0) rfl (#[.int .i64 c, .int .i64 b, .slice oa on oc]).toList _ (zrangeS hw') Tryz.underlying30 rfl (by kernel_rfl)⟩) (by assumption) ?_
      try simp only [Act.put, List.setIfInBounds_toArray, List.set_cons_zero, List.set_cons_succ]
      refine wpAnyH_take (i := 2) (oi := ⟨some 4, _, _, _, _, _⟩) (v := ?_) rfl (by kernel_rfl) (by kernel_rfl) (by kernel_rfl) (fun _ _ _ h => h) (Or.inl ⟨by kernel_rfl, ?_⟩) (by assumption) ?_
      rotate_left 1
      · intro w' hw'; clear hw'; go_simp; try with_reducible rfl
      try simp only [Act.put, List.setIfInBounds_toArray, List.set_cons_zero, List.set_cons_succ]
      refine wpAnyH_ready (rs := [3]) (by kernel_rfl) (by simp) (AllReadyH.cons (o := ⟨none, .store 30 (.tmp 5) (.tmp 46), _, _, _, none⟩) rfl (fun K hK => ?_) AllReadyH.nil)
      rw [if_pos (by kernel_rfl)]
      refine wp_store_kk 30 (.tmp 5) (.tmp 46) rfl w.heap.size 0 [.int .i64 c, .int .i64 b, .slice oa on oc] rfl rfl (HZ.out.below (below_drew wq)).there3 (by kernel_rfl) (one3 _ _ _ _ _) ?_
      obtain ⟨hx9, hm9⟩ := (HZ.out.below (below_drew wq)).set3 (.int .i64 c) (.int .i64 b) (.slice oa on oc)
      refine hK.out _ _ (hHeld.mod hm9 (by have := HQ.out; omega)) (fun hS9 => ?_)
      have HF := Lib.hid (And.intro hx9 (HAG.out _ ((Mod.of_below (F := fun k => k = w.heap.size) (below_drew wq)).trans hm9)))
      clear hK K hx9 hm9
      generalize (World.setCells _ _ _ _) = w9 at HF hS9 ⊢
      try simp only [Act.put]
      refine wpAnyH_take (i := 4) (oi := ⟨some 6, _, _, _, _, _⟩) (v := ?_) rfl (by kernel_rfl) (by kernel_rfl) (by kernel_rfl) (fun _ _ _ h => h) (Or.inl ⟨by kernel_rfl, ?_⟩) (by assumption) ?_
      rotate_left 1
      · intro w' hw'; clear hw'; go_simp; try with_reducible rfl
      try simp only [Act.put, List.setIfInBounds_toArray, List.set_cons_zero, List.set_cons_succ]
      refine wpAnyH_done (by kernel_rfl) ?_ _
      clear hHeld hS9
      go_wp2_with fail
      exact ret_tmp_cell_tmp rfl rfl w.heap.size 0 rfl [.int .i64 c, .int .i64 b, .slice oa on oc] _ (zrangeS HF.out.1) Tryz.underlying30 rfl (by kernel_rfl) _ _ rfl rfl ⟨_, _, rfl, HF.out.2⟩
    have h22 : er = 22 ∧ KeptI dN st ep := by
      rcases HCT.out with h | h
      · exact absurd h.1 h0
      · exact h
    obtain ⟨h22, hkn⟩ := h22
    subst h22
    have HKN := Lib.hid hkn
    clear HCT hkn h0 HKL HTR
    go_wp2_with fail
    refine HOPN.out.mono ?_
    rintro ev w5 ⟨pv, o, rfl, hop⟩
    obtain ⟨F5, q1, q2, q3, q4⟩ := hop.ex
    have hmd := hop.md
    obtain ⟨oa, oc, rfl, _⟩ := hop.ow.slice
    have hpv : pv = .pointer none := hop.no (show (22 : Int) ≠ 0 by decide)
    subst hpv
    simp only at q1
    obtain ⟨sc, hsc⟩ : ∃ c, c = sN.clock := ⟨_, rfl⟩
    obtain ⟨sb, hsb⟩ : ∃ b, b = sN.births := ⟨_, rfl⟩
    obtain ⟨on, hon⟩ : ∃ n, n = sN.l.length := ⟨_, rfl⟩
    rw [← hsc, ← hsb, ← hon]
    have hba := below_alloc w5 (.cells #[.int .i64 sc, .int .i64 sb, .slice oa on oc] 30)
    have hm5 := (HM2.out.old hmd (fun k hk g => (HL2.out k g).elim id (fun g => by omega))).trans (Mod.of_below (F := F) hba)
    have HPL := Lib.hid (plain_any 22 _ (by decide) (by decide) (HG.out _ hm5))
    have HI5 := Lib.hid (show AgI w (w5.alloc (.cells #[.int .i64 sc, .int .i64 sb, .slice oa on oc] 30)) pd F t0 st ep (i + 1) dN F5 from
      ⟨q1.grow hba, fun k hk => by
        rcases q2 k hk with g | g
        · exact HL2.out k g
        · right; have := HW2.out; omega, (HZ2.out.mod hmd HNZ.out).below hba, HOT.out, hm5⟩)
    rw [show errV 22 = .iface 91 (.int .i64 22) from rfl] at HPL ⊢
    clear hop q1 q2 q3 q4 hmd hba hm5 hsc hsb hon HOPN HM2 HL2 HZ2 HW2 HNZ HD2 HOT
    go_wp2_with fail
    refine HPL.out.mono ?_
    rintro ev w7 ⟨rfl, hb7⟩
    have HI7 := Lib.hid (show AgI w w7 pd F t0 st ep (i + 1) dN F5 from ⟨HI5.out.dk.grow hb7, HI5.out.lo, HI5.out.bz.below hb7, HI5.out.tr, HI5.out.md.trans (Mod.of_below hb7)⟩)
    clear hb7 HI5 HPL
    go_wp2_with fail
    go_roundg (cn - (i + 1))
    case measure => have := HGI.out; have := HIN.out; omega
    case rel => exact ⟨i + 1, dN, F5, by have := HGI.out; have := HIN.out; omega, by go_num, by have := HI9.out; omega, HKN.out.d, .inr HKN.out, fun h => by omega, HI7.out⟩
end Go.Proofs.YtgcnolapjppbpaaGreatDoor
