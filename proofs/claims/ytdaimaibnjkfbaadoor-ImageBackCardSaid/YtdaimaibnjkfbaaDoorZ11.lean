/-
  The law ImageBack.
-/
import Derived.Test.YtdaimaibnjkfbaaDoorZ10
import Derived.LaidLaws
import Derived.LaidHandle
import Derived.ChangeSame
import Derived.ChangeVars
import Derived.JoinedOf
import Derived.RowKit
import Derived.RowKitTokens
import Derived.Stop.Joined
namespace Go.Proofs.YtdaimaibnjkfbaaDoor
open Go.RowKit
set_option maxRecDepth 100000

theorem Mod.set3 (b : Nat) (w : World) (x y z : Value) : Mod (fun i => i = b) w (((w.setCell ⟨b, 0, none⟩ x).setCell ⟨b, 1, none⟩ y).setCell ⟨b, 2, none⟩ z) :=
  ((Mod.set (fun i => i = b) w ⟨b, 0, none⟩ x rfl).trans (Mod.set (fun i => i = b) _ ⟨b, 1, none⟩ y rfl)).trans (Mod.set (fun i => i = b) _ ⟨b, 2, none⟩ z rfl)
/-- What stands through the law's calls. -/
structure BkS (w0 w : World) (p : Nat) (c b : Int) (v xb : Value) (l : List SesM) (lb : List UInt8) : Prop where
  bx : Box w p #[.int .i64 c, .int .i64 b, v] 24
  rs : RdS w v l
  rb : Rd w xb lb.length (lb.map V8)
  g : ErrType w
  bel : Below w0.heap.size w0 w
theorem BkS.below {w0 w w' : World} {p : Nat} {c b : Int} {v xb : Value} {l : List SesM} {lb : List UInt8} (h : BkS w0 w p c b v xb l lb) (hb : Below w.heap.size w w') : BkS w0 w' p c b v xb l lb :=
  ⟨h.bx.below hb, h.rs.below hb, h.rb.below hb, h.g.below (hb.mono (Nat.le_refl _)), h.bel.trans (hb.mono h.bel.size)⟩
/-- What stands where the two tests are drawn. -/
structure CkD (w0 : World) (p : Nat) (c b : Int) (v xb : Value) (l : List SesM) (lb : List UInt8) (wq W : World) : Prop where
  bk : BkS w0 W p c b v xb l lb
  bel : Below wq.heap.size wq W
theorem byteOf (n : Int) : ∃ c : UInt8, IntKind.u8.wrap n = (c.toNat : Int) := by
  refine ⟨UInt8.ofNat (n % 256).toNat, ?_⟩
  have h1 : (UInt8.ofNat (n % 256).toNat).toNat = (n % 256).toNat % 256 := rfl
  rw [h1]
  simp [IntKind.wrap, IntKind.bits, IntKind.signed]; omega
set_option maxHeartbeats 12800000 in
theorem imageBack_calls (st : StM) (v xb : Value) (lb : List UInt8) (at_ : Int) (w : World) (hr : RdS w v st.l) (ho : ∀ s ∈ st.l, SesOk s) (hxb : Rd w xb lb.length (lb.map V8)) (hlb : lb.length ≤ 9223372036854775807) (hat : I64 at_) (hg : ErrType w) :
    Calls Tryd.prog 5 #[.agg #[.int .i64 st.clock, .int .i64 st.births, v], xb, .int .i64 at_] w fun ev w' => ev = .returned (.bool true) ∧ Below w.heap.size w w' := by
  obtain ⟨a, cap, rfl, hc1, hc2⟩ := hr.slice
  have hxb2 := hxb
  obtain ⟨xa, xc, rfl, _⟩ := hxb2
  have hb0 := below_alloc w (.cells #[.int .i64 st.clock, .int .i64 st.births, .slice a st.l.length cap] 24)
  have HS0 := Lib.hid (show BkS w (w.alloc (.cells #[.int .i64 st.clock, .int .i64 st.births, .slice a st.l.length cap] 24)) w.heap.size st.clock st.births (.slice a st.l.length cap) (.slice xa lb.length xc) st.l lb from
    ⟨Box.new _ _ _, hr.below hb0, hxb.below hb0, hg.below hb0, hb0⟩)
  have HOK := Lib.hid ho
  have HEN := Lib.hid (fun v w' h => encImg_calls st v w' h ho)
  have HCK := Lib.hid (fun v w' h => check_calls st v w' h ho)
  have HLB := Lib.hid hlb
  have HAT := Lib.hid hat
  have HSW := Lib.hid (fun h => check_w (st := st) h ho)
  have hnb : lb.length ≤ 9223372036854775807 := by omega
  clear hr ho hxb hlb hat hg hc1 hc2 hb0
  obtain ⟨c, b, l⟩ := st
  obtain ⟨n, hn⟩ : ∃ n, n = l.length := ⟨_, rfl⟩
  have HN := Lib.hid hn
  simp only at HS0 HEN HCK HOK HSW ⊢
  rw [← hn] at HS0 ⊢
  clear hn
  obtain ⟨m, hm⟩ : ∃ m, m = lb.length := ⟨_, rfl⟩
  have HM := Lib.hid hm
  rw [← hm] at HS0 hnb ⊢
  clear hm
  go_enter Tryd.func5, Tryd.ntmps5
  go_wp2_with fail
  refine (worksIm_calls _).mono ?_
  rintro ev w1 ⟨rfl, hb1⟩
  have HS1 := Lib.hid (HS0.out.below hb1)
  clear hb1 HS0
  have c0 : w1.cell? ⟨w.heap.size, 0, none⟩ = some (.int .i64 c) := HS1.out.bx.cell 0 _ rfl
  have c1 : w1.cell? ⟨w.heap.size, 1, none⟩ = some (.int .i64 b) := HS1.out.bx.cell 1 _ rfl
  have c2 : w1.cell? ⟨w.heap.size, 2, none⟩ = some (.slice a n cap) := HS1.out.bx.cell 2 _ rfl
  go_wp2_with fail
  have HW := Lib.hid (wide_calls c b (.slice a n cap) l w1 HS1.out.rs)
  refine HW.out.mono ?_
  rintro ev w2 ⟨q, rfl, hb2⟩
  have HS2 := Lib.hid (HS1.out.below hb2)
  clear hb2 HS1 HW c0 c1 c2
  have c0 : w2.cell? ⟨w.heap.size, 0, none⟩ = some (.int .i64 c) := HS2.out.bx.cell 0 _ rfl
  have c1 : w2.cell? ⟨w.heap.size, 1, none⟩ = some (.int .i64 b) := HS2.out.bx.cell 1 _ rfl
  have c2 : w2.cell? ⟨w.heap.size, 2, none⟩ = some (.slice a n cap) := HS2.out.bx.cell 2 _ rfl
  cases q
  rotate_left
  · go_wp2_with fail
    go_ret
    exact ⟨rfl, HS2.out.bel⟩
  by_cases hm : (65536 : Int) < (m : Int)
  · go_wp2_with fail
    go_ret
    exact ⟨rfl, HS2.out.bel⟩
  have HML := Lib.hid (show m ≤ 65536 by omega)
  go_wp2_with fail
  clear hm
  refine (HEN.out _ _ HS2.out.rs).mono ?_
  rintro ev w3 ⟨o, rfl, ho, hb3⟩
  have HS3 := Lib.hid (HS2.out.below hb3)
  have HO3 := Lib.hid ho
  obtain ⟨oa, oc, rfl, _⟩ := ho.slice
  clear hb3 ho HS2 c0 c1 c2
  have c0 : w3.cell? ⟨w.heap.size, 0, none⟩ = some (.int .i64 c) := HS3.out.bx.cell 0 _ rfl
  have c1 : w3.cell? ⟨w.heap.size, 1, none⟩ = some (.int .i64 b) := HS3.out.bx.cell 1 _ rfl
  have c2 : w3.cell? ⟨w.heap.size, 2, none⟩ = some (.slice a n cap) := HS3.out.bx.cell 2 _ rfl
  cases hck : checkM ⟨c, b, l⟩ with
  | some f =>
    have hn : imgN ⟨c, b, l⟩ = 24 := by unfold imgN; rw [hck]; rfl
    rw [hn, show errV 24 = .iface 68 (.int .i64 24) from rfl]
    clear hn
    have HO3X := HO3
    have HCD := Lib.hid (⟨HS3.out.below (below_drew _), below_drew _⟩ : CkD w w.heap.size c b (.slice a n cap) (.slice xa m xc) l lb w3 w3.drew)
    have HCQ := Lib.hid (HCK.out (.slice a n cap))
    rw [hck, show chkV (some f) = .iface 78 (.agg #[.int .i64 24, .int .i64 f]) from rfl] at HCQ
    clear c0 c1 c2 HS3 HO3X
    go_wp2_with fail
    refine wp_region_held_drew (S := CkD w w.heap.size c b (.slice a n cap) (.slice xa m xc) l lb w3) (by kernel_rfl) HCD.out (fun hHeld => ?_)
    refine wpAnyH_take (i := 0) (oi := ⟨some 33, _, _, _, _, _⟩) (v := ?_) rfl (by kernel_rfl) (by kernel_rfl) (by kernel_rfl) (fun _ _ _ h => h) (Or.inl ⟨by kernel_rfl, ?_⟩) (by assumption) ?_
    rotate_left 1
    · intro w' hw'; go_simp; try with_reducible rfl
    try simp only [Act.put, List.setIfInBounds_toArray, List.set_cons_zero, List.set_cons_succ]
    refine wpAnyH_take (i := 1) (oi := ⟨some 34, _, _, _, _, _⟩) (v := ?_) rfl (by kernel_rfl) (by kernel_rfl) (by kernel_rfl) (fun _ _ _ h => h) (Or.inl ⟨by kernel_rfl, ?_⟩) (by assumption) ?_
    rotate_left 1
    · intro w' hw'; go_simp; try with_reducible rfl
    try simp only [Act.put, List.setIfInBounds_toArray, List.set_cons_zero, List.set_cons_succ]
    refine wpAnyH_take (i := 2) (oi := ⟨some 35, _, _, _, _, _⟩) (v := ?_) rfl (by kernel_rfl) (by kernel_rfl) (by kernel_rfl) (fun _ _ _ h => h) (Or.inl ⟨by kernel_rfl, ?_⟩) (by assumption) ?_
    rotate_left 1
    · intro w' hw'; have q0 : w'.cell? ⟨w.heap.size, 0, none⟩ = some (.int .i64 c) := hw'.bk.bx.cell 0 _ rfl; have q1 : w'.cell? ⟨w.heap.size, 1, none⟩ = some (.int .i64 b) := hw'.bk.bx.cell 1 _ rfl; have q2 : w'.cell? ⟨w.heap.size, 2, none⟩ = some (.slice a n cap) := hw'.bk.bx.cell 2 _ rfl; clear hw'; go_simp; try with_reducible rfl
    try simp only [Act.put, List.setIfInBounds_toArray, List.set_cons_zero, List.set_cons_succ]
    refine wpAnyH_ready (rs := [3]) (by kernel_rfl) (by simp) (AllReadyH.cons (o := ⟨some 36, .call _, _, _, _, _⟩) rfl (fun K hK => ?_) AllReadyH.nil)
    go_simp
    refine (HCQ.out _ hHeld.bk.rs).mono ?_
    rintro ev w4 ⟨rfl, hb4⟩
    refine hK.out _ _ ⟨hHeld.bk.below hb4, hHeld.bel.trans (hb4.mono hHeld.bel.size)⟩ (fun hHeld2 => ?_)
    clear hK K hb4 hHeld
    try simp only [Act.put, List.setIfInBounds_toArray, List.set_cons_zero, List.set_cons_succ]
    refine wpAnyH_take (i := 4) (oi := ⟨some 37, _, _, _, _, _⟩) (v := ?_) rfl (by kernel_rfl) (by kernel_rfl) (by kernel_rfl) (fun _ _ _ h => h) (Or.inl ⟨by kernel_rfl, ?_⟩) (by assumption) ?_
    rotate_left 1
    · intro w' hw'; go_simp; try with_reducible rfl
    try simp only [Act.put, List.setIfInBounds_toArray, List.set_cons_zero, List.set_cons_succ]
    refine wpAnyH_take (i := 5) (oi := ⟨some 38, _, _, _, _, _⟩) (v := ?_) rfl (by kernel_rfl) (by kernel_rfl) (by kernel_rfl) (fun _ _ _ h => h) (Or.inl ⟨by kernel_rfl, ?_⟩) (by assumption) ?_
    rotate_left 1
    · intro w' hw'; go_simp; try with_reducible rfl
    try simp only [Act.put, List.setIfInBounds_toArray, List.set_cons_zero, List.set_cons_succ]
    refine wpAnyH_done (by kernel_rfl) ?_ _
    have HS4 := Lib.hid hHeld2.bk
    have HO4 := Lib.hid (HO3.out.below hHeld2.bel)
    clear hHeld2 HCD HCQ HO3
    clear HO4 HEN HCK hck HSW
    have HDC := Lib.hid (decI_calls (.slice xa m xc) lb _ HS4.out.rb (by have := HML.out; have := HM.out; omega))
    go_wp2_with fail
    refine HDC.out.mono ?_
    rintro ev w20 ⟨so, rfl, hso, hb20⟩
    have HS20 := Lib.hid (HS4.out.below hb20)
    have HSO := Lib.hid hso
    obtain ⟨sa, sc, rfl, _⟩ := hso.slice
    clear hb20 hso HS4 HDC
    cases hd : decI lb with
    | mk er r =>
      obtain ⟨rc, rbb, rl⟩ := r
      simp only [hd] at HSO ⊢
      have HDB := Lib.hid (fun h => decI_inv (b := lb) (st := ⟨rc, rbb, rl⟩) (hd.trans h))
      have HDN := Lib.hid (fun h => decI_no hd h)
      clear hd
      obtain ⟨rn, hrn⟩ : ∃ rn, rn = rl.length := ⟨_, rfl⟩
      rw [← hrn] at HSO ⊢
      have HRN := Lib.hid hrn
      clear hrn
      have hb21 := below_alloc w20 (.cells #[.int .i64 rc, .int .i64 rbb, .slice sa rn sc] 24)
      have HX21 := Lib.hid (Box.new w20 #[.int .i64 rc, .int .i64 rbb, .slice sa rn sc] 24)
      have HS21 := Lib.hid (HS20.out.below hb21)
      have HSO21 := Lib.hid (HSO.out.below hb21)
      clear hb21 HS20 HSO
      by_cases he : er = 0
      rotate_left
      · rw [errV_no he]
        have HZ := Lib.hid (HDN.out he)
        clear he HDB HDN
        go_wp2_with fail
        have hz := HZ.out
        simp only [noSt, StM.mk.injEq] at hz
        obtain ⟨rfl, rfl, rfl⟩ := hz
        generalize w20.alloc (.cells #[.int .i64 0, .int .i64 0, .slice sa rn sc] 24) = w21 at HX21 HS21 HSO21 ⊢
        refine (show Calls _ _ #[.agg #[.int .i64 0, .int .i64 0, .slice sa rn sc], .agg #[.int .i64 0, .int .i64 0, .slice none 0 0]] w21 _ from sameState_calls noSt noSt _ _ w21 HSO21.out.rd (OwnS.nil w21 0).rd).mono ?_
        rintro ev w22 ⟨rfl, hb22⟩
        have HB22 := Lib.hid (HS21.out.bel.trans (hb22.mono HS21.out.bel.size))
        have hsm : sameSt noSt noSt = true := rfl
        rw [hsm]
        clear hb22 HX21 HS21 HSO21 HZ hsm
        go_wp2_with fail
        go_ret
        exact ⟨rfl, HB22.out⟩
      rw [show errV er = .nilIface by unfold errV; rw [if_pos he]]
      have hin := HDB.out (by rw [he])
      have HIN := Lib.hid hin
      have HSOK := Lib.hid (show ∀ s ∈ rl, SesOk s from fun s hs => by
        have h1 := SesN.of ((check_parts hin.1).2.2.2 s hs)
        exact ⟨Nat.le_trans h1.user (by decide), Nat.le_trans h1.label (by decide), hin.2.1 s hs⟩)
      clear hin he HDB HDN
      go_wp2_with fail
      generalize w20.alloc (.cells #[.int .i64 rc, .int .i64 rbb, .slice sa rn sc] 24) = w21 at HX21 HS21 HSO21 ⊢
      have HE21 := Lib.hid (encImg_calls ⟨rc, rbb, rl⟩ (.slice sa rn sc) w21 (by have h := HSO21.out.rd; exact h) HSOK.out)
      rw [show imgN ⟨rc, rbb, rl⟩ = 0 by unfold imgN; rw [if_pos HIN.out.1], show imgM ⟨rc, rbb, rl⟩ = lb by unfold imgM; rw [if_pos HIN.out.1]; exact HIN.out.2.2, show errV 0 = .nilIface from rfl, ← HM.out] at HE21
      refine (show Calls _ _ #[.agg #[.int .i64 rc, .int .i64 rbb, .slice sa rn sc]] w21 _ from HE21.out).mono ?_
      rintro ev w22 ⟨o2, rfl, ho2, hb22⟩
      have HS22 := Lib.hid (HS21.out.below hb22)
      have HO2 := Lib.hid ho2
      obtain ⟨o2a, o2c, rfl, _⟩ := ho2.slice
      clear hb22 ho2 HX21 HS21 HSO21 HE21 HIN HSOK
      have HSB := Lib.hid (sameBytes_calls (.slice o2a m o2c) (.slice xa m xc) lb w22 (by have h := HO2.out.rd; rw [HM.out] at h ⊢; exact h) (by have h := HS22.out.rb; exact h))
      go_wp2_with fail
      refine HSB.out.mono ?_
      rintro ev w23 ⟨rfl, k23, rfl⟩
      have HB23 := Lib.hid (HS22.out.bel.trans ((below_drewN _ k23).mono HS22.out.bel.size))
      clear HSB HS22 HO2
      go_wp2_with fail
      go_ret
      exact ⟨rfl, HB23.out⟩
  | none =>
    have hn : imgN ⟨c, b, l⟩ = 0 := by unfold imgN; rw [hck]; rfl
    have him : imgM ⟨c, b, l⟩ = imgB ⟨c, b, l⟩ := by unfold imgM; rw [hck]; rfl
    rw [hn, show errV 0 = .nilIface from rfl]
    rw [him] at HO3 ⊢
    have HCN := Lib.hid hck
    have HO3X := HO3
    clear hn him
    have HCD := Lib.hid (⟨HS3.out.below (below_drew _), below_drew _⟩ : CkD w w.heap.size c b (.slice a n cap) (.slice xa m xc) l lb w3 w3.drew)
    have HCQ := Lib.hid (HCK.out (.slice a n cap))
    rw [hck, show chkV none = .nilIface from rfl] at HCQ
    clear c0 c1 c2 HS3 HO3X
    go_wp2_with fail
    refine wp_region_held_drew (S := CkD w w.heap.size c b (.slice a n cap) (.slice xa m xc) l lb w3) (by kernel_rfl) HCD.out (fun hHeld => ?_)
    refine wpAnyH_take (i := 0) (oi := ⟨some 33, _, _, _, _, _⟩) (v := ?_) rfl (by kernel_rfl) (by kernel_rfl) (by kernel_rfl) (fun _ _ _ h => h) (Or.inl ⟨by kernel_rfl, ?_⟩) (by assumption) ?_
    rotate_left 1
    · intro w' hw'; go_simp; try with_reducible rfl
    try simp only [Act.put, List.setIfInBounds_toArray, List.set_cons_zero, List.set_cons_succ]
    refine wpAnyH_take (i := 1) (oi := ⟨some 34, _, _, _, _, _⟩) (v := ?_) rfl (by kernel_rfl) (by kernel_rfl) (by kernel_rfl) (fun _ _ _ h => h) (Or.inl ⟨by kernel_rfl, ?_⟩) (by assumption) ?_
    rotate_left 1
    · intro w' hw'; go_simp; try with_reducible rfl
    try simp only [Act.put, List.setIfInBounds_toArray, List.set_cons_zero, List.set_cons_succ]
    refine wpAnyH_take (i := 2) (oi := ⟨some 35, _, _, _, _, _⟩) (v := ?_) rfl (by kernel_rfl) (by kernel_rfl) (by kernel_rfl) (fun _ _ _ h => h) (Or.inl ⟨by kernel_rfl, ?_⟩) (by assumption) ?_
    rotate_left 1
    · intro w' hw'; have q0 : w'.cell? ⟨w.heap.size, 0, none⟩ = some (.int .i64 c) := hw'.bk.bx.cell 0 _ rfl; have q1 : w'.cell? ⟨w.heap.size, 1, none⟩ = some (.int .i64 b) := hw'.bk.bx.cell 1 _ rfl; have q2 : w'.cell? ⟨w.heap.size, 2, none⟩ = some (.slice a n cap) := hw'.bk.bx.cell 2 _ rfl; clear hw'; go_simp; try with_reducible rfl
    try simp only [Act.put, List.setIfInBounds_toArray, List.set_cons_zero, List.set_cons_succ]
    refine wpAnyH_ready (rs := [3]) (by kernel_rfl) (by simp) (AllReadyH.cons (o := ⟨some 36, .call _, _, _, _, _⟩) rfl (fun K hK => ?_) AllReadyH.nil)
    go_simp
    refine (HCQ.out _ hHeld.bk.rs).mono ?_
    rintro ev w4 ⟨rfl, hb4⟩
    refine hK.out _ _ ⟨hHeld.bk.below hb4, hHeld.bel.trans (hb4.mono hHeld.bel.size)⟩ (fun hHeld2 => ?_)
    clear hK K hb4 hHeld
    try simp only [Act.put, List.setIfInBounds_toArray, List.set_cons_zero, List.set_cons_succ]
    refine wpAnyH_take (i := 4) (oi := ⟨some 37, _, _, _, _, _⟩) (v := ?_) rfl (by kernel_rfl) (by kernel_rfl) (by kernel_rfl) (fun _ _ _ h => h) (Or.inl ⟨by kernel_rfl, ?_⟩) (by assumption) ?_
    rotate_left 1
    · intro w' hw'; go_simp; try with_reducible rfl
    try simp only [Act.put, List.setIfInBounds_toArray, List.set_cons_zero, List.set_cons_succ]
    refine wpAnyH_take (i := 5) (oi := ⟨some 38, _, _, _, _, _⟩) (v := ?_) rfl (by kernel_rfl) (by kernel_rfl) (by kernel_rfl) (fun _ _ _ h => h) (Or.inl ⟨by kernel_rfl, ?_⟩) (by assumption) ?_
    rotate_left 1
    · intro w' hw'; go_simp; try with_reducible rfl
    try simp only [Act.put, List.setIfInBounds_toArray, List.set_cons_zero, List.set_cons_succ]
    refine wpAnyH_done (by kernel_rfl) ?_ _
    have HS4 := Lib.hid hHeld2.bk
    have HO4 := Lib.hid (HO3.out.below hHeld2.bel)
    clear hHeld2 HCD HCQ HO3
    have hpos := @imgB_pos ⟨c, b, l⟩
    have htight := imgB_tight HCN.out
    have HW := Lib.hid (HSW.out HCN.out)
    have HD0 := Lib.hid (decI_imgB HCN.out HW.out)
    have HDC := Lib.hid (fun p hp => decI_cut HCN.out HW.out p hp)
    have HDM := Lib.hid (fun x => decI_more HCN.out HW.out x)
    clear HSW HCN HW hck HEN HCK
    generalize imgB ⟨c, b, l⟩ = L at HO4 HD0 HDC HDM hpos htight ⊢
    obtain ⟨N, hN⟩ : ∃ N, N = L.length := ⟨_, rfl⟩
    have HNL := Lib.hid hN
    rw [← hN] at HO4 hpos htight ⊢
    clear hN
    have g0 : ((N : Int) == 0) = false := by rw [beq_eq_false_iff_ne]; omega
    have g1 : ¬ (6144 : Int) < (N : Int) := by omega
    have HNN := Lib.hid (And.intro hpos htight)
    clear hpos htight
    have HD4 := Lib.hid (decI_calls (.slice oa N oc) L _ (by have h := HO4.out.rd; rw [HNL.out] at h ⊢; exact h) (by have := HNN.out; have := HNL.out; omega))
    rw [HD0.out] at HD4
    go_wp2_with fail
    refine HD4.out.mono ?_
    rintro ev w5 ⟨so, rfl, hso, hb5⟩
    try simp only at hso ⊢
    obtain ⟨sa, sc, rfl, _⟩ := hso.slice
    rw [← HN.out] at hso ⊢
    rw [show errV 0 = .nilIface from rfl]
    have hb6 := below_alloc w5 (.cells #[.int .i64 c, .int .i64 b, .slice sa n sc] 24)
    have hbx6 := Box.new w5 #[.int .i64 c, .int .i64 b, .slice sa n sc] 24
    have HS6 := Lib.hid ((HS4.out.below hb5).below hb6)
    have HO6 := Lib.hid ((HO4.out.below hb5).below hb6)
    have HR6 := Lib.hid (hso.rd.below hb6)
    have HX6 := Lib.hid hbx6
    clear hb6 hb5 hso hbx6 HS4 HO4 HD4 HD0
    have hpick := pickI_lt at_ (N : Int) (by have := HNN.out; omega)
    obtain ⟨p, hp⟩ : ∃ p : Nat, pickI at_ (N : Int) = (p : Int) := ⟨(pickI at_ (N : Int)).toNat, by omega⟩
    have Hpick := Lib.hid (fun w => pick_calls at_ (N : Int) w HAT.out.1 HAT.out.2 (by omega) (by have := HNN.out; omega))
    rw [hp] at hpick Hpick
    have HPL := Lib.hid (show p < N by omega)
    clear hpick hp
    have c0 : (w5.alloc (.cells #[.int .i64 c, .int .i64 b, .slice sa n sc] 24)).cell? ⟨w.heap.size, 0, none⟩ = some (.int .i64 c) := HS6.out.bx.cell 0 _ rfl
    have c1 : (w5.alloc (.cells #[.int .i64 c, .int .i64 b, .slice sa n sc] 24)).cell? ⟨w.heap.size, 1, none⟩ = some (.int .i64 b) := HS6.out.bx.cell 1 _ rfl
    have c2 : (w5.alloc (.cells #[.int .i64 c, .int .i64 b, .slice sa n sc] 24)).cell? ⟨w.heap.size, 2, none⟩ = some (.slice a n cap) := HS6.out.bx.cell 2 _ rfl
    have d0 : (w5.alloc (.cells #[.int .i64 c, .int .i64 b, .slice sa n sc] 24)).cell? ⟨w5.heap.size, 0, none⟩ = some (.int .i64 c) := HX6.out.cell 0 _ rfl
    have d1 : (w5.alloc (.cells #[.int .i64 c, .int .i64 b, .slice sa n sc] 24)).cell? ⟨w5.heap.size, 1, none⟩ = some (.int .i64 b) := HX6.out.cell 1 _ rfl
    have d2 : (w5.alloc (.cells #[.int .i64 c, .int .i64 b, .slice sa n sc] 24)).cell? ⟨w5.heap.size, 2, none⟩ = some (.slice sa n sc) := HX6.out.cell 2 _ rfl
    go_wp2_with fail
    refine (show Calls _ _ #[.agg #[.int .i64 c, .int .i64 b, .slice sa n sc], .agg #[.int .i64 c, .int .i64 b, .slice a n cap]] _ _ from sameState_calls ⟨c, b, l⟩ ⟨c, b, l⟩ _ _ _ HR6.out HS6.out.rs).mono ?_
    rintro ev w7 ⟨rfl, hb7⟩
    have HS7 := Lib.hid (HS6.out.below hb7)
    have HO7 := Lib.hid (HO6.out.below hb7)
    have hss : sameSt ⟨c, b, l⟩ ⟨c, b, l⟩ = true := sameSt_iff.2 rfl
    rw [hss]
    have hcp : N ≤ oc := by obtain ⟨_, _, e2, h5, _⟩ := HO7.out.rd; injection e2 with _ _ e3; omega
    have hhd := fun w => headB oa N oc p (by have := HPL.out; omega) w
    clear hss hb7 HS6 HO6 HR6 HX6 c0 c1 c2 d0 d1 d2 hcp
    go_wp2_with fail
    refine (Hpick.out _).mono ?_
    rintro ev w8 ⟨rfl, rfl⟩
    have hrd8 := headRd (show Rd w7 (.slice oa N oc) N (L.map V8) by have h := HO7.out.rd; exact h) HNL.out.symm p (by have := HPL.out; omega)
    have Hd8 := Lib.hid (decI_calls _ (L.take p) w7 hrd8 (by rw [List.length_take]; have := HNN.out; have := HNL.out; omega))
    rw [HDC.out p (by have := HPL.out; have := HNL.out; omega)] at Hd8
    clear hrd8 HDC
    go_wp2_with fail
    refine Hd8.out.mono ?_
    rintro ev w9 ⟨o9, rfl, ho9, hb9⟩
    obtain ⟨a9, c9, rfl, _⟩ := ho9.slice
    have HS9 := Lib.hid (HS7.out.below hb9)
    have HO9 := Lib.hid (HO7.out.below hb9)
    rw [show errV ((2 : Int), noSt).1 = .iface 68 (.int .i64 2) from rfl]
    clear hb9 ho9 HS7 HO7 Hd8 hhd Hpick
    have hal := below_alloc w9 (.cells #[.int .i64 noSt.clock, .int .i64 noSt.births, .slice a9 noSt.l.length c9] 24)
    have HS10 := Lib.hid (HS9.out.below hal)
    have HO10 := Lib.hid (HO9.out.below hal)
    clear hal HS9 HO9
    obtain ⟨ch, hch⟩ := byteOf at_
    have HCP := Lib.hid (copyO_calls (.slice oa N oc) L (w9.alloc (.cells #[.int .i64 noSt.clock, .int .i64 noSt.births, .slice a9 noSt.l.length c9] 24)) (by have h := HO10.out.rd; rw [HNL.out] at h ⊢; exact h) (by have := HNN.out; have := HNL.out; omega))
    have HLL := Lib.hid (show L.length + 1 ≤ 20000 by have := HNN.out; have := HNL.out; omega)
    go_wp2_with fail
    refine HCP.out.mono ?_
    rintro ev w11 ⟨o2, rfl, ho11, hb11⟩
    obtain ⟨ya, yc, rfl, _⟩ := ho11.slice
    have HB11 := Lib.hid hb11
    have HO11 := Lib.hid ho11
    clear hb11 ho11 HO10 HCP
    go_wp2_with (at_builtin; refine appM1 rfl _ _ rfl (w9.alloc (.cells #[.int .i64 noSt.clock, .int .i64 noSt.births, .slice a9 noSt.l.length c9] 24)).heap.size _ _ _ rfl (HO11.out.below (below_alloc w11 _)) ⟨w11.heap.size, 0, none⟩ 1 (.int .u8 (ch.toNat : Int)) rfl (by exact cell_one_new _ _ _ 0 _ rfl) (by simp [Value.oneCell']) (by have := HLL.out; omega) (Nat.le_trans HB11.out.size (below_alloc w11 _).size) ?_)
    intro v7 w12 hown' hg' _ _
    have hbw : Below (w9.alloc (.cells #[.int .i64 noSt.clock, .int .i64 noSt.births, .slice a9 noSt.l.length c9] 24)).heap.size (w9.alloc (.cells #[.int .i64 noSt.clock, .int .i64 noSt.births, .slice a9 noSt.l.length c9] 24)) w12 := by
      have h1 := HB11.out.trans ((below_alloc w11 (.cells #[.int .u8 (ch.toNat : Int)] 5)).mono HB11.out.size)
      exact h1.trans (below_grown hg' h1.size (fun q hq => (HO11.out.lt q hq).1))
    have hrd12 : Rd w12 v7 (L ++ [ch]).length ((L ++ [ch]).map V8) := by
      have := hown'.rd
      rw [List.length_append, List.map_append]; exact this
    have HS12 := Lib.hid (HS10.out.below hbw)
    have Hd12 := Lib.hid (decI_calls v7 (L ++ [ch]) w12 hrd12 (by rw [List.length_append, List.length_singleton]; have := HLL.out; omega))
    rw [HDM.out ch] at Hd12
    obtain ⟨za, zc, rfl, _⟩ := hown'.slice
    clear hbw hrd12 hown' hg' HS10 HB11 HO11 HDM
    go_wp2_with fail
    refine Hd12.out.mono ?_
    rintro ev w13 ⟨o13, rfl, ho13, hb13⟩
    obtain ⟨a13, c13, rfl, _⟩ := ho13.slice
    have HS13 := Lib.hid ((HS12.out.below hb13).below (below_alloc w13 (.cells #[.int .i64 noSt.clock, .int .i64 noSt.births, .slice a13 noSt.l.length c13] 24)))
    rw [show errV ((3 : Int), noSt).1 = .iface 68 (.int .i64 3) from rfl]
    have Hp2 := Lib.hid (fun w h => plain_any 2 w (by decide) (by decide) h)
    have Hp3 := Lib.hid (fun w h => plain_any 3 w (by decide) (by decide) h)
    rw [show errV 2 = .iface 68 (.int .i64 2) from rfl] at Hp2
    rw [show errV 3 = .iface 68 (.int .i64 3) from rfl] at Hp3
    clear hb13 ho13 HS12 Hd12
    go_wp2_with fail
    refine (Hp2.out _ HS13.out.g).mono ?_
    rintro ev w14 ⟨rfl, hb14⟩
    have HS14 := Lib.hid (HS13.out.below hb14)
    clear hb14 HS13 Hp2
    go_wp2_with fail
    refine (Hp3.out _ HS14.out.g).mono ?_
    rintro ev w15 ⟨rfl, hb15⟩
    have HS15 := Lib.hid (HS14.out.below hb15)
    clear hb15 HS14 Hp3
    have HDC := Lib.hid (decI_calls (.slice xa m xc) lb w15 HS15.out.rb (by have := HML.out; have := HM.out; omega))
    go_wp2_with fail
    refine HDC.out.mono ?_
    rintro ev w20 ⟨so, rfl, hso, hb20⟩
    have HS20 := Lib.hid (HS15.out.below hb20)
    have HSO := Lib.hid hso
    obtain ⟨sa, sc, rfl, _⟩ := hso.slice
    clear hb20 hso HS15 HDC
    cases hd : decI lb with
    | mk er r =>
      obtain ⟨rc, rbb, rl⟩ := r
      simp only [hd] at HSO ⊢
      have HDB := Lib.hid (fun h => decI_inv (b := lb) (st := ⟨rc, rbb, rl⟩) (hd.trans h))
      have HDN := Lib.hid (fun h => decI_no hd h)
      clear hd
      obtain ⟨rn, hrn⟩ : ∃ rn, rn = rl.length := ⟨_, rfl⟩
      rw [← hrn] at HSO ⊢
      have HRN := Lib.hid hrn
      clear hrn
      have hb21 := below_alloc w20 (.cells #[.int .i64 rc, .int .i64 rbb, .slice sa rn sc] 24)
      have HX21 := Lib.hid (Box.new w20 #[.int .i64 rc, .int .i64 rbb, .slice sa rn sc] 24)
      have HS21 := Lib.hid (HS20.out.below hb21)
      have HSO21 := Lib.hid (HSO.out.below hb21)
      clear hb21 HS20 HSO
      by_cases he : er = 0
      rotate_left
      · rw [errV_no he]
        have HZ := Lib.hid (HDN.out he)
        clear he HDB HDN
        go_wp2_with fail
        have hz := HZ.out
        simp only [noSt, StM.mk.injEq] at hz
        obtain ⟨rfl, rfl, rfl⟩ := hz
        generalize w20.alloc (.cells #[.int .i64 0, .int .i64 0, .slice sa rn sc] 24) = w21 at HX21 HS21 HSO21 ⊢
        refine (show Calls _ _ #[.agg #[.int .i64 0, .int .i64 0, .slice sa rn sc], .agg #[.int .i64 0, .int .i64 0, .slice none 0 0]] w21 _ from sameState_calls noSt noSt _ _ w21 HSO21.out.rd (OwnS.nil w21 0).rd).mono ?_
        rintro ev w22 ⟨rfl, hb22⟩
        have HB22 := Lib.hid (HS21.out.bel.trans (hb22.mono HS21.out.bel.size))
        have hsm : sameSt noSt noSt = true := rfl
        rw [hsm]
        clear hb22 HX21 HS21 HSO21 HZ hsm
        go_wp2_with fail
        go_ret
        exact ⟨rfl, HB22.out⟩
      rw [show errV er = .nilIface by unfold errV; rw [if_pos he]]
      have hin := HDB.out (by rw [he])
      have HIN := Lib.hid hin
      have HSOK := Lib.hid (show ∀ s ∈ rl, SesOk s from fun s hs => by
        have h1 := SesN.of ((check_parts hin.1).2.2.2 s hs)
        exact ⟨Nat.le_trans h1.user (by decide), Nat.le_trans h1.label (by decide), hin.2.1 s hs⟩)
      clear hin he HDB HDN
      go_wp2_with fail
      generalize w20.alloc (.cells #[.int .i64 rc, .int .i64 rbb, .slice sa rn sc] 24) = w21 at HX21 HS21 HSO21 ⊢
      have HE21 := Lib.hid (encImg_calls ⟨rc, rbb, rl⟩ (.slice sa rn sc) w21 (by have h := HSO21.out.rd; exact h) HSOK.out)
      rw [show imgN ⟨rc, rbb, rl⟩ = 0 by unfold imgN; rw [if_pos HIN.out.1], show imgM ⟨rc, rbb, rl⟩ = lb by unfold imgM; rw [if_pos HIN.out.1]; exact HIN.out.2.2, show errV 0 = .nilIface from rfl, ← HM.out] at HE21
      refine (show Calls _ _ #[.agg #[.int .i64 rc, .int .i64 rbb, .slice sa rn sc]] w21 _ from HE21.out).mono ?_
      rintro ev w22 ⟨o2, rfl, ho2, hb22⟩
      have HS22 := Lib.hid (HS21.out.below hb22)
      have HO2 := Lib.hid ho2
      obtain ⟨o2a, o2c, rfl, _⟩ := ho2.slice
      clear hb22 ho2 HX21 HS21 HSO21 HE21 HIN HSOK
      have HSB := Lib.hid (sameBytes_calls (.slice o2a m o2c) (.slice xa m xc) lb w22 (by have h := HO2.out.rd; rw [HM.out] at h ⊢; exact h) (by have h := HS22.out.rb; exact h))
      go_wp2_with fail
      refine HSB.out.mono ?_
      rintro ev w23 ⟨rfl, k23, rfl⟩
      have HB23 := Lib.hid (HS22.out.bel.trans ((below_drewN _ k23).mono HS22.out.bel.size))
      clear HSB HS22 HO2
      go_wp2_with fail
      go_ret
      exact ⟨rfl, HB23.out⟩
end Go.Proofs.YtdaimaibnjkfbaaDoor
/-
  Arguments: sessions, states.
-/
namespace Go.Proofs.YtdaimaibnjkfbaaDoor
open Go.RowKit
set_option maxRecDepth 100000

theorem u64_of_wfS {n : Int} (h : (Lit.int .u64 n).wf = true) : ∃ k : Nat, n = (k : Int) ∧ k < 2 ^ 64 := by
  have h1 : 0 ≤ n ∧ n ≤ 18446744073709551615 := by simpa [Lit.wf, IntKind.min, IntKind.max, IntKind.bits, IntKind.signed] using h
  exact ⟨n.toNat, by omega, by omega⟩
/-- The bounds of the numbers of a session that is handed in. -/
structure SesI (s : SesM) : Prop where
  ok : SesOk s
  slot : I64 s.slot
  birth : I64 s.birth
  upS : I64 s.upS
  upB : I64 s.upB
  kind : I64 s.kind
  level : I64 s.level
  born : I64 s.born
  deadline : I64 s.deadline
  depth : I64 s.depth
theorem ArgC.session {N : Nat} {W : World} {cs : List Value} (hl : cs.length = 12) (h : ArgC false N 56 W cs) : ∃ s : SesM, cs = s.cells.toList ∧ SesI s := by
  match cs, hl with
  | [c1, c2, c3, c4, c5, c6, c7, c8, c9, c10, c11, c12], _ =>
    have ci : Tryd.prog.cellsOf 3 = 1 := by kernel_rfl
    have cs' : Tryd.prog.cellsOf 9 = 1 := by kernel_rfl
    have cu : Tryd.prog.cellsOf 54 = 1 := by kernel_rfl
    have cl : Tryd.prog.cellsOf 52 = 2 := by kernel_rfl
    have hx := Tryd.underlying56
    obtain ⟨n1, rfl, b1⟩ := h.fint hx 0 _ rfl ci c1 rfl .i64 Tryd.underlying3
    obtain ⟨n2, rfl, b2⟩ := h.fint hx 1 _ rfl ci c2 rfl .i64 Tryd.underlying3
    obtain ⟨M2, _, k⟩ := h.fstruct hx 2 _ rfl 52 2 2 rfl rfl cl
    have k' : ArgC false M2 52 W [c3, c4] := k
    have hk := Tryd.underlying52
    obtain ⟨n3, rfl, b3⟩ := k'.fint hk 0 _ rfl ci c3 rfl .i64 Tryd.underlying3
    obtain ⟨n4, rfl, b4⟩ := k'.fint hk 1 _ rfl ci c4 rfl .i64 Tryd.underlying3
    obtain ⟨n5, rfl, b5⟩ := h.fint hx 3 _ rfl ci c5 rfl .i64 Tryd.underlying3
    obtain ⟨s6, rfl, _, _, b6⟩ := h.fstring hx 4 _ rfl cs' c6 rfl Tryd.underlying9
    obtain ⟨s7, rfl, _, _, b7⟩ := h.fstring hx 5 _ rfl cs' c7 rfl Tryd.underlying9
    obtain ⟨n8, rfl, b8⟩ := h.fint hx 6 _ rfl cu c8 rfl .u64 Tryd.underlying54
    obtain ⟨n9, rfl, b9⟩ := h.fint hx 7 _ rfl ci c9 rfl .i64 Tryd.underlying3
    obtain ⟨n10, rfl, b10⟩ := h.fint hx 8 _ rfl ci c10 rfl .i64 Tryd.underlying3
    obtain ⟨n11, rfl, b11⟩ := h.fint hx 9 _ rfl ci c11 rfl .i64 Tryd.underlying3
    obtain ⟨n12, rfl, b12⟩ := h.fint hx 10 _ rfl ci c12 rfl .i64 Tryd.underlying3
    obtain ⟨u, rfl, hu⟩ := SB_of s6
    obtain ⟨l, rfl, hl⟩ := SB_of s7
    obtain ⟨sc, rfl, hsc⟩ := u64_of_wfS b8
    refine ⟨⟨n1, n2, n3, n4, n5, u, l, sc, n9, n10, n11, n12⟩, rfl, ⟨?_, ?_, hsc⟩, i64_of_wf b1, i64_of_wf b2, i64_of_wf b3, i64_of_wf b4, i64_of_wf b5, i64_of_wf b9, i64_of_wf b10, i64_of_wf b11, i64_of_wf b12⟩
    · show u.length ≤ _; rw [hu]; exact Nat.le_trans (b6 rfl) (by decide)
    · show l.length ≤ _; rw [hl]; exact Nat.le_trans (b7 rfl) (by decide)
theorem ArgC.sessions {N : Nat} {W : World} {v : Value} (h : ArgC false N 22 W [v]) : ∃ l : List SesM, RdS W v l ∧ (∀ s ∈ l, SesI s) ∧ l.length ≤ 1256584717421 := by
  obtain ⟨l, h1, h2, Ns, _, _, h5⟩ := h.flat noSes (fun s : SesM => s.cells.toList) (fun _ => rfl) (by decide) (fun _ s => SesI s) Tryd.underlying22 (by kernel_rfl) (fun N cs hl hc => hc.session hl)
  refine ⟨l, h1, fun s hs => ?_, ?_⟩
  · obtain ⟨i, hi, rfl⟩ := List.getElem_of_mem hs
    have := h5 i hi
    simpa [List.getD, hi] using this
  · have := h2 rfl
    rw [show Tryd.prog.bytesOf 56 = 112 by kernel_rfl] at this; omega
/-- A state that came in. -/
theorem Arg.state {W : World} {v : Value} (h : Arg false 24 W v) : ∃ (st : StM) (x : Value), v = .agg #[.int .i64 st.clock, .int .i64 st.births, x] ∧ RdS W x st.l ∧ (∀ s ∈ st.l, SesI s) ∧ st.l.length ≤ 1256584717421 ∧ I64 st.clock ∧ I64 st.births := by
  obtain ⟨⟨cs⟩, rfl, hc⟩ := h.struct Tryd.underlying24
  have hl : cs.length = 3 := by
    have := (hc.struct Tryd.underlying24).1
    rw [show Tryd.prog.cellsOf 24 = 3 by kernel_rfl] at this; exact this
  match cs, hl, hc with
  | [c0, c1, c2], _, hc =>
    obtain ⟨a, rfl, hw⟩ := hc.fint Tryd.underlying24 0 _ rfl (by kernel_rfl) c0 rfl .i64 Tryd.underlying3
    obtain ⟨n, rfl, hw2⟩ := hc.fint Tryd.underlying24 1 _ rfl (by kernel_rfl) c1 rfl .i64 Tryd.underlying3
    obtain ⟨M, _, hd⟩ := hc.fcell Tryd.underlying24 2 _ rfl (by kernel_rfl) c2 rfl
    obtain ⟨l, h1, h2, h3⟩ := hd.sessions
    exact ⟨⟨a, n, l⟩, c2, rfl, h1, h2, h3, i64_of_wf hw, i64_of_wf hw2⟩
end Go.Proofs.YtdaimaibnjkfbaaDoor
/-
  What errors.As reads of package errors, out of the condition that the card ties; a law's row out of its walk at such a world.
-/
namespace Go.Proofs.YtdaimaibnjkfbaaDoor
open Go.ChangeShapes Go.WideShapes Go.ChangeAt Go.RowKit
set_option maxRecDepth 100000

/-- The variables that are listed. -/
def laidL : List (String × DataW Unit) := [("errors.errorType", Rows.laid_errors_errorType)]
theorem L.et : Tryd.prog.globalNamed "errors.errorType" = some 0 := by kernel_rfl
theorem L.rt : (Tryd.prog.cutTypes.find? (·.1 == "internal/reflectlite.rtype")).map (·.2) = some 130 := by kernel_rfl
theorem L.oneRow : ((List.range 191).filter fun t => Tryd.prog.rowNamed t [101, 114, 114, 111, 114]) = [30] := by kernel_rfl
theorem L.size : Tryd.prog.types.size = 191 := by kernel_rfl
theorem errType_of_laid {W : World} (h : laidMetH Tryd.prog laidL W) : ErrType W := by
  have h' : laidMet Tryd.prog [] W ∧ handlesMet Tryd.prog laidL W := h
  obtain ⟨name, u, ty, e1, e2, e3, e4, e5⟩ := h'.2 _ (List.mem_singleton.2 rfl)
  have en : name = [101, 114, 114, 111, 114] := (Option.some.inj e1).symm
  subst en
  obtain rfl := Option.some.inj (L.rt.symm.trans e2)
  have hm : ty ∈ (List.range 191).filter fun t => Tryd.prog.rowNamed t [101, 114, 114, 111, 114] := List.mem_filter.2 ⟨List.mem_range.2 (by rw [← L.size]; exact e3), e4⟩
  rw [L.oneRow] at hm
  obtain rfl := List.mem_singleton.1 hm
  have hh : typeHandle Tryd.prog 30 = .pointer (some ⟨2, 30, none⟩) := by kernel_rfl
  rw [hh] at e5
  have := World.var?_cell L.et e5 0
  unfold ErrType
  simpa using this
/-- A world that meets the condition. -/
noncomputable def laidWorld (os : Os) : World :=
  let w0 := World.holding Tryd.prog os ⟨#[], #[], []⟩
  { w0 with heap := w0.heap.modify 0 fun
      | .cells _ t frozen => .cells #[.iface 130 (.agg #[.pointer (some ⟨2, 30, none⟩)])] t frozen
      | o => o }
theorem laidWorld_met (os : Os) (args : Array Value) : laidMetH Tryd.prog laidL ((laidWorld os).forCall (fun _ _ => 0) ⟨#[], args, []⟩).memory :=
  laidMetH_of_parts (laidMet_nil _ _) (by kernel_rfl)
theorem law_contract_at {up : Bool} {vt : List TypeId} (hvt : vt = []) {f : FuncId} {fn : Func} {s : ChangeSpec} {ts : List TypeId} (hp : fn.params.toList = ts) (hres : fn.resultTypes = #[4]) (hvars : s.vars = [])
    (hr : ∀ t ∈ ts, Tryd.prog.readableRec t = true ∧ t < Tryd.prog.types.size) (hs : ∀ (H : Type) (ds : List (DataW H)), ds.length = ts.length → (s.fn H ds).results = [.lit (.bool true)] ∧ (s.fn H ds).args = ds ∧ (s.fn H ds).vars = [])
    (H : Type) (enc : TypeId × Value → H) (W : World) (base : Nat) (args : Array Value) (ds gs : List (DataW H)) (before : List MemPlace)
    (hval : ∀ (j : Nat) t v, fn.params[j]? = some t → args[j]? = some v → Value.okWide Tryd.prog W .any base t v)
    (hW : DataW.Whole enc Tryd.prog fn.params.toList s.vars false W args.toList ds gs before)
    (hsz : match up with | true => Rows.uptoSmall H (ds ++ gs) = true | false => (DataW.weightsEach Tryd.prog (fn.params.toList ++ vt) (ds ++ gs)).all (· ≤ reachBytes) = true)
    (walkAt : ArgAll up W ts args.toList → Calls Tryd.prog f args W fun e W' => e = .returned (.bool true) ∧ Below W.heap.size W W') :
    Calls Tryd.prog f args W fun e W' => ∃ v, e = .returned v ∧ s.post enc Tryd.prog fn false true false false W args v W' := by
  have hW' := hW
  obtain ⟨p, q, hA, hV, rfl, _, _⟩ := hW
  rw [hvars] at hV
  have hg : gs = [] ∧ q = [] := by
    cases gs with
    | nil => exact ⟨rfl, hV⟩
    | cons g gs => exact hV.elim
  obtain ⟨rfl, rfl⟩ := hg
  have hlt : ∀ x ∈ p, x.block < W.heap.size := fun x hx => by simpa using hW'.lt x (by simpa using hx)
  have hlen : ds.length = ts.length := by
    have : ∀ {ts : List TypeId} {vs : List Value} {ds : List (DataW H)} {ps : List MemPlace}, DataW.TrodAll enc Tryd.prog W 0 (fun _ => true) true ts vs ds ps → ds.length = ts.length := by
      intro ts
      induction ts with
      | nil => intro vs ds ps h; cases vs with
        | nil => cases ds with
          | nil => rfl
          | cons _ _ => exact h.elim
        | cons _ _ => exact h.elim
      | cons t ts ih => intro vs ds ps h; cases vs with
        | nil => exact h.elim
        | cons v vs => cases ds with
          | nil => exact h.elim
          | cons d ds => obtain ⟨_, _, _, h2, _⟩ := h; simp [ih h2]
    rw [hp] at hA
    exact this hA
  have hall : ArgAll up W ts args.toList := by
    rw [← hp]
    refine argAll_mk (base := base) hA (fun j t v ht hv => hval j t v (by simpa using ht) (by simpa using hv)) ?_
    cases up with
    | true => have h : Rows.uptoBulkAll (ds ++ []) ≤ 1048576 := of_decide_eq_true hsz
              simpa using h
    | false => subst hvt; simpa using hsz
  have hwalk := walkAt hall
  refine hwalk.mono fun e W' ⟨he, hb⟩ => ?_
  obtain ⟨s1, s2, s3⟩ := hs H (ds ++ []) (by simpa using hlen)
  refine ⟨_, he, _, _, _, [], p, [], hW', ?_, ?_, ?_, hb.frame _, fun h => by cases h⟩
  · rw [s1, hres]; exact ⟨[], [], shut_bool (by kernel_rfl) true, rfl, rfl⟩
  · rw [s2, List.append_nil]; exact trodAll_below hb (by rw [hp]; exact hr) hA hlt
  · rw [s3, hvars]; rfl
end Go.Proofs.YtdaimaibnjkfbaaDoor
