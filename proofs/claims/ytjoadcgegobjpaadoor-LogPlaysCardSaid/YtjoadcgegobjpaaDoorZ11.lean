/-
  The walk of LogPlays.
-/
import Derived.Test.YtjoadcgegobjpaaDoorZ10
import Derived.LaidLaws
import Derived.LaidHandle
import Derived.ChangeSame
import Derived.ChangeVars
import Derived.JoinedOf
import Derived.RowKit
import Derived.RowKitTokens
import Derived.Stop.Joined
namespace Go.Proofs.YtjoadcgegobjpaaDoor
open Go.RowKit
set_option maxRecDepth 100000

structure ActP where
  kind : Int
  n : Int
  v : Value
  l : List UInt8
def ActP.cells (x : ActP) : List Value := [.int .i64 x.kind, .int .i64 x.n, x.v]
structure ActP.Ok (W : World) (x : ActP) : Prop where
  kind : I64 x.kind
  n : I64 x.n
  rd : Rd W x.v x.l.length (x.l.map V8)
def ActP.zero : ActP := ⟨0, 0, .slice none 0 0, []⟩
theorem flatActP_get (l : List ActP) (k j : Nat) (hk : k < l.length) (hj : j < 3) : (l.flatMap ActP.cells).getD (k * 3 + j) undef = (l[k]).cells.getD j undef := by
  have := flatMap_get ActP.cells 3 (fun _ => rfl) (by omega) ActP.zero l k j hk hj
  rw [this]; simp [List.getD, hk]
theorem actP_at {W : World} {a : Option Addr} {c : Nat} {l : List ActP} (h : Rd W (.slice a l.length c) l.length (l.flatMap ActP.cells)) (k : Nat) (hk : k < l.length) :
    ∃ b off, a = some ⟨b, off, none⟩ ∧ (W.cell? ⟨b, off + k * 3, none⟩ = some (.int .i64 l[k].kind) ∧ W.cell? ⟨b, off + k * 3 + 1, none⟩ = some (.int .i64 l[k].n) ∧ W.cell? ⟨b, off + k * 3 + 2, none⟩ = some l[k].v) := by
  have hlen : (l.flatMap ActP.cells).length = l.length * 3 := flatMap_len ActP.cells 3 (fun _ => rfl) l
  obtain ⟨a0, cap0, g1, _, _, _, g2⟩ := h
  injection g1 with g1 _ g3
  subst g1
  obtain ⟨b, off, f1, f2⟩ := g2 (k * 3 + 0) (by rw [hlen]; omega)
  have hc : ∀ j, j < 3 → W.cell? ⟨b, off + k * 3 + j, none⟩ = some ((l[k]).cells.getD j undef) := fun j hj => by
    obtain ⟨b1, off1, f3, f4⟩ := g2 (k * 3 + j) (by rw [hlen]; omega)
    rw [f1] at f3
    injection f3 with f3; injection f3 with f7 f8
    subst f7; subst f8
    rw [Nat.add_assoc, f4, flatActP_get l k j hk hj]
  exact ⟨b, off, f1, hc 0 (by omega), hc 1 (by omega), hc 2 (by omega)⟩
/-- On a new disk there is no record. -/
theorem pay_new (e : UInt32) (N base n : Nat) : payM e (DiskM.blks { strs := List.replicate N ByteArray.empty, trail := [], left := none } base n) 0 = none := by
  show oneM e (List.drop 0 _) = none
  rw [List.drop_zero]
  unfold DiskM.blks
  simp only [List.drop_replicate, List.take_replicate, List.map_replicate]
  cases min n (N - base) with
  | zero => rfl
  | succ k =>
    rw [List.replicate_succ, oneM, if_pos (by simp)]
theorem doesW_calls (W : World) (kind n : Int) (v : Value) (q : List UInt8) (pw p rp c : Nat) (l : LogM) (pl pm : Nat) (d : DiskM) (F G : Nat → Prop) (wr : World) (hk : I64 kind) (hn : I64 n) (hv : Rd W v q.length (q.map V8)) (hq : q.length ≤ 10000) (h : PlayW W pw p rp c l pl pm d F G wr) (hg : ErrType W) (hc : c ≤ 10000000) :
    Calls Tryd.prog 11 #[.pointer (some ⟨pw, 0, none⟩), .agg #[.int .i64 kind, .int .i64 n, v]] wr fun r w' => r = .returned (.bool true) ∧ ∃ (l' : LogM) (pl' pm' : Nat) (d' : DiskM) (F' G' : Nat → Prop), PlayW W pw p rp (c + 4) l' pl' pm' d' F' G' w' := by
  have hlt := pickI_lt kind 7 (by omega)
  have hcs : pickI kind 7 = 3 ∨ pickI kind 7 = 4 ∨ pickI kind 7 = 5 ∨ pickI kind 7 = 6 ∨ (pickI kind 7 = 0 ∨ pickI kind 7 = 1 ∨ pickI kind 7 = 2) := by omega
  rcases hcs with h3 | h4 | h5 | h6 | h0
  · exact doesW_cut W kind n v q pw p rp c l pl pm d F G wr hk hn hv hq h hg hc h3
  · exact doesW_open4 W kind n v q pw p rp c l pl pm d F G wr hk hn hv hq h hg hc h4
  · exact doesW_open5 W kind n v q pw p rp c l pl pm d F G wr hk hn hv hq h hg hc h5
  · exact doesW_new W kind n v q pw p rp c l pl pm d F G wr hk hn hv hq h hg hc h6
  · exact doesW_app W kind n v q pw p rp c l pl pm d F G wr hk hn hv hq h hg hc h0
set_option maxHeartbeats 3200000 in
theorem logPlays_calls (blocks from_ n : Int) (e : UInt32) (sv : Value) (acts : List ActP) (W : World) (hb : I64 blocks) (hf : I64 from_) (hn : I64 n) (hsv : Rd W sv acts.length (acts.flatMap ActP.cells)) (hok : ∀ a ∈ acts, a.Ok W) (hg : ErrType W) :
    Calls Tryd.prog 3 #[.int .i64 blocks, .int .i64 from_, .int .i64 n, .int .u32 (e.toNat : Int), sv] W fun r W' => r = .returned (.bool true) ∧ Below W.heap.size W W' := by
  obtain ⟨sa, sc, rfl⟩ : ∃ a c, sv = .slice a acts.length c := by obtain ⟨a, c, h, _⟩ := hsv; exact ⟨a, c, h⟩
  have HSV := Lib.hid hsv
  have Hok := Lib.hid hok
  have HG := Lib.hid hg
  have Hf := Lib.hid hf
  have Hn := Lib.hid hn
  have hpk := fun w => pick_calls blocks 64 w hb.1 hb.2 (by omega) (by omega)
  have hlt := pickI_lt blocks 64 (by omega)
  obtain ⟨m, hm⟩ : ∃ m : Nat, pickI blocks 64 = (m : Int) := ⟨(pickI blocks 64).toNat, by omega⟩
  rw [hm] at hpk hlt
  have hm64 : m < 64 := by omega
  have Hpk := Lib.hid hpk
  clear hsv hok hg hf hn hb hpk hlt hm
  by_cases h3 : 300 < acts.length
  · have h3' : (300 : Int) < (acts.length : Int) := by omega
    go_enter Tryd.func3, Tryd.ntmps3
    go_wp2_with fail
    go_ret
    exact ⟨rfl, Below.refl _ _⟩
  have h3' : ¬ (300 : Int) < (acts.length : Int) := by omega
  have H300 := Lib.hid (show acts.length ≤ 300 by omega)
  have h1 := fun w => refNew_yes (m + 1) w (by omega) (by omega)
  have h2 := fun w => new_yes (m + 1) w (by omega) (by omega)
  rw [show ((m + 1 : Nat) : Int) = 1 + (m : Int) by omega] at h1 h2
  have H1 := Lib.hid h1
  have H2 := Lib.hid h2
  clear h1 h2 h3
  go_enter Tryd.func3, Tryd.ntmps3
  go_wp2_with fail
  refine (Hpk.out _).mono ?_
  rintro r w0 ⟨rfl, rfl⟩
  clear h3' Hpk
  go_wp2_with fail
  refine (H1.out _).mono ?_
  rintro r w1 ⟨rfl, G, hr, hb1, hG⟩
  obtain ⟨rp, hrp⟩ : ∃ rp, rp = W.heap.size := ⟨_, rfl⟩
  rw [← hrp] at hr ⊢
  have HR := Lib.hid (And.intro hr (And.intro hb1 hG))
  have Hrp := Lib.hid hrp
  clear hr hb1 hG H1 hrp
  go_wp2_with fail
  refine (H2.out _).mono ?_
  rintro r w2 ⟨p, F, rfl, hd, hb2, hF⟩
  rw [show errV 0 = .nilIface from rfl]
  have hs1 := HR.out.2.1.size
  obtain ⟨d0, hd0⟩ : ∃ d0 : DiskM, d0 = { strs := List.replicate (m + 1) ByteArray.empty, trail := [], left := none } := ⟨_, rfl⟩
  have Hd0 := Lib.hid hd0
  have HRf := HR.out.1
  rw [← hd0] at hd HRf
  have h0 : DR W p rp 0 d0 F G w2 :=
    ⟨hd, HRf.below hb2, by rw [hd0]; exact DiskM.Wf.new (m + 1) none, by rw [hd0]; simp; omega, by rw [hd0]; exact Nat.le_refl _, fun k hf hg => by have := hF k hf; have := HR.out.1.lt k hg; omega, fun k hk => by
      rcases hk with hk | hk
      · have := hF k hk; omega
      · exact HR.out.2.2 k hk, HR.out.2.1.trans (hb2.mono hs1)⟩
  have hsm0 : d0.Small := by
    rw [hd0]; intro s hs
    rw [List.eq_of_mem_replicate hs]; decide
  have hlen0 : d0.strs.length = m + 1 := by rw [hd0]; simp
  have H0 := Lib.hid h0
  have Hsm := Lib.hid hsm0
  have Hl0 := Lib.hid hlen0
  clear hd hb2 hF hs1 hd0 HRf h0 hsm0 hlen0 H2 HR Hrp
  by_cases hfit : 0 ≤ from_ ∧ 1 ≤ n ∧ from_ + n ≤ (d0.strs.length : Int)
  rotate_left
  · have Hrn := Lib.hid (refLNew_no d0 rp G from_ n e w2 H0.out.ref H0.out.small Hf.out.1 Hf.out.2 hfit)
    have Hln := Lib.hid (log_new_no d0 p F from_ n e w2 H0.out.disk Hf.out.1 Hf.out.2 hfit)
    have Hlo := Lib.hid (log_open_no d0 p F from_ n e w2 H0.out.disk Hf.out.1 Hf.out.2 hfit)
    have Hpl := Lib.hid (fun w (hb : Below W.heap.size W w) => plain_any 1 w (by omega) (by omega) (HG.out.below hb))
    generalize errV 1 = ev at Hln Hlo Hpl
    clear hfit
    go_wp2_with fail
    refine Hrn.out.mono ?_
    rintro r w3 ⟨rfl, e3⟩
    obtain rfl := e3.symm
    go_wp2_with fail
    refine Hln.out.mono ?_
    rintro r w3 ⟨rfl, e3⟩
    obtain rfl := e3.symm
    go_wp2_with fail
    refine Hlo.out.mono ?_
    rintro r w3 ⟨rfl, e3⟩
    obtain rfl := e3.symm
    go_wp2_with fail
    refine (Hpl.out _ H0.out.below).mono ?_
    rintro r w4 ⟨rfl, hb4⟩
    have HP4 := Lib.hid (H0.out.to hb4)
    clear hb4
    go_wp2_with fail
    refine (Hpl.out _ HP4.out.below).mono ?_
    rintro r w5 ⟨rfl, hb5⟩
    have HP5 := Lib.hid (HP4.out.to hb5)
    clear hb5
    go_wp2_with fail
    go_ret
    exact ⟨rfl, HP5.out.below⟩
  · obtain ⟨base, rfl⟩ := Int.eq_ofNat_of_zero_le hfit.1
    obtain ⟨nn, rfl⟩ := Int.eq_ofNat_of_zero_le (show 0 ≤ n by omega)
    have hf1 : 1 ≤ nn := by omega
    have hf2 : base + nn ≤ d0.strs.length := by omega
    have Hrn := Lib.hid (refLNew_yes d0 rp G base nn e w2 H0.out.ref H0.out.small hf1 hf2)
    have Hln := Lib.hid (fun w (h : DR W p rp 0 d0 F G w) => log_new_yes d0 p F base nn e w h.disk hf1 hf2)
    have Hlo := Lib.hid (fun w (h : DR W p rp 0 d0 F G w) => log_open_full d0 p F base nn e w h.disk hf1 hf2 Hsm.out)
    have Hft := Lib.hid (And.intro hf1 hf2)
    clear hfit hf1 hf2
    go_wp2_with fail
    refine Hrn.out.mono ?_
    rintro r w3 ⟨rfl, hrl, hb3⟩
    obtain ⟨pm, hpm⟩ : ∃ pm, pm = w2.heap.size := ⟨_, rfl⟩
    rw [← hpm] at hrl ⊢
    have H3 := Lib.hid (H0.out.to hb3)
    have HM3 := Lib.hid hrl
    have Hpm := Lib.hid (show W.heap.size ≤ pm ∧ ∀ k, F k ∨ G k → k < pm from ⟨by rw [hpm]; exact H0.out.below.size, fun k hk => by
      rw [hpm]
      rcases hk with hk | hk
      · exact H0.out.disk.lt k hk
      · exact H0.out.ref.lt k hk⟩)
    clear hrl hb3 hpm Hrn H0
    go_wp2_with fail
    refine (Hln.out _ H3.out).mono ?_
    rintro r w4 ⟨rfl, hll, hb4⟩
    obtain ⟨pl, hpl⟩ : ∃ pl, pl = w3.heap.size := ⟨_, rfl⟩
    rw [← hpl] at hll ⊢
    have hpm3 : pm < pl := by rw [hpl]; exact Box.lt HM3.out
    have H4 := Lib.hid (H3.out.to hb4)
    have HM4 := Lib.hid (show IsRLog w4 _ pm rp from Box.below HM3.out hb4)
    have HL4 := Lib.hid hll
    have Hpl := Lib.hid hpm3
    clear hll hb4 hpl hpm3 H3 HM3
    go_wp2_with fail
    refine (Hlo.out _ H4.out).mono ?_
    rintro r w5 ⟨ov, pre, hno, rfl, hfo, hov, hb5, _⟩
    have hpn : payM e (d0.blks base nn) 0 = none := by rw [Hd0.out]; exact pay_new e (m + 1) base nn
    have hp0 : pre.length ≤ 0 := pay_lt hpn (fun i hi hc => by obtain ⟨_, p, c, x, _⟩ := hfo.row i pre[i] (List.getElem?_eq_getElem hi); rw [x] at hc; cases hc)
    have hp0 : pre.length = 0 := by omega
    rw [hp0] at hov
    obtain ⟨oa, oc, rfl, _⟩ := own_slice hov
    have H5 := Lib.hid (H4.out.to hb5)
    have HM5 := Lib.hid (show IsRLog w5 _ pm rp from Box.below HM4.out hb5)
    have HL5 := Lib.hid (show IsLog w5 _ pl p from Box.below HL4.out hb5)
    clear hno hfo hov hb5 hp0 hpn H4 HM4 HL4
    go_wp2_with fail
    refine (plain_nil _).mono ?_
    rintro r w6 ⟨rfl, hb6⟩
    have H6 := Lib.hid (H5.out.to hb6)
    have HM6 := Lib.hid (show IsRLog w6 _ pm rp from Box.below HM5.out hb6)
    have HL6 := Lib.hid (show IsLog w6 _ pl p from Box.below HL5.out hb6)
    clear hb6 H5 HM5 HL5
    go_wp2_with fail
    refine (plain_nil _).mono ?_
    rintro r w7 ⟨rfl, hb7⟩
    have H7 := Lib.hid (H6.out.to hb7)
    have HM7 := Lib.hid (show IsRLog w7 _ pm rp from Box.below HM6.out hb7)
    have HL7 := Lib.hid (show IsLog w7 _ pl p from Box.below HL6.out hb7)
    clear hb7 H6 HM6 HL6
    have hbA := below_alloc w7 (.cells #[.pointer (some ⟨p, 0, none⟩), .pointer (some ⟨pl, 0, none⟩), .pointer (some ⟨rp, 0, none⟩), .pointer (some ⟨pm, 0, none⟩)] 45)
    have hX := Box.new w7 #[.pointer (some ⟨p, 0, none⟩), .pointer (some ⟨pl, 0, none⟩), .pointer (some ⟨rp, 0, none⟩), .pointer (some ⟨pm, 0, none⟩)] 45
    obtain ⟨pw, hpw⟩ : ∃ pw, pw = w7.heap.size := ⟨_, rfl⟩
    rw [← hpw] at hX
    have hl7 := Box.lt HL7.out
    have hP0 := (show PlayW W pw p rp 0 ⟨base, nn, e, 0, 0, false⟩ pl pm d0 F G (w7.alloc (.cells #[.pointer (some ⟨p, 0, none⟩), .pointer (some ⟨pl, 0, none⟩), .pointer (some ⟨rp, 0, none⟩), .pointer (some ⟨pm, 0, none⟩)] 45)) from
      ⟨H7.out.to hbA, hX, Box.below HL7.out hbA, Box.below HM7.out hbA, Hsm.out, ⟨Hft.out.2, Hft.out.1, Nat.zero_le _, Nat.le_refl _⟩, fun k hk => by have := Hpm.out.2 k hk; have := Hpl.out; exact ⟨by omega, by omega, by omega⟩, by omega, by have := Hpl.out; omega, by have := Hpl.out; omega, by rw [hpw]; exact H7.out.below.size, by have := Hpl.out; have := Hpm.out.1; omega, Hpm.out.1⟩)
    have HP0 := Lib.hid hP0
    clear hbA hX hl7 hP0
    go_wp2_with fail
    rw [← hpw]
    clear hpw
    go_loopg [22] acts.length (fun gk iv wr => ∃ (k : Nat) (l : LogM) (pl pm : Nat) (d : DiskM) (F G : Nat → Prop), gk + k = acts.length ∧ iv = .int .i64 (k : Int) ∧ PlayW W pw p rp (k * 4) l pl pm d F G wr)
    case atStart => exact ⟨0, _, _, _, _, _, _, rfl, rfl, HP0.out⟩
    case round =>
      clear HP0 H7 HM7 HL7 Hpl Hpm Hft Hlo Hln Hsm Hl0 Hd0
      obtain ⟨k, l, pl', pm', d, F', G', hgk, rfl, hI⟩ := hrel
      have Hgk := Lib.hid hgk
      have HI := Lib.hid hI
      have hkc : k * 4 ≤ 10000000 := by have := H300.out; omega
      have Hkc := Lib.hid hkc
      have h300 := H300.out
      by_cases hk : k < acts.length
      · have hk1 : (k : Int) < (acts.length : Int) := by omega
        have hk0 : (0 : Int) ≤ (k : Int) := by omega
        obtain ⟨b, off, rfl, x0, x1, x2⟩ := actP_at (HSV.out.below hI.dr.below) k hk
        have ho := Hok.out acts[k] (List.getElem_mem hk)
        generalize acts[k] = act at x0 x1 x2 ho
        obtain ⟨kind, an, v, q⟩ := act
        simp only at x0 x1 x2
        obtain ⟨va, vc, rfl⟩ : ∃ a c, v = .slice a q.length c := by obtain ⟨a, c, h, _⟩ := ho.rd; exact ⟨a, c, h⟩
        by_cases hq : 10000 < q.length
        · have hq' : (10000 : Int) < (q.length : Int) := by omega
          have HN := Lib.hid hI.dr.below
          clear hI hgk hkc ho
          go_wp2_with fail
          go_ret
          exact ⟨rfl, HN.out⟩
        have hq' : ¬ (10000 : Int) < (q.length : Int) := by omega
        have Hdo := Lib.hid (doesW_calls W kind an (.slice va q.length vc) q pw p rp (k * 4) l pl' pm' d F' G' wr ho.kind ho.n ho.rd (by omega) hI HG.out hkc)
        clear hI hgk hkc ho hq
        go_wp2_with fail
        refine Hdo.out.mono ?_
        rintro r w8 ⟨rfl, l2, pl2, pm2, d2, F2, G2, hz⟩
        have HZ := Lib.hid hz
        have Has := Lib.hid (askedW_calls W pw p rp (k * 4 + 4) l2 pl2 pm2 d2 F2 G2 w8 hz (by have := Hkc.out; omega))
        clear hz x0 x1 x2 Hdo hq'
        go_wp2_with fail
        refine Has.out.mono ?_
        rintro r w9 ⟨rfl, hb9⟩
        have HN := Lib.hid (HZ.out.to hb9)
        clear hb9 HZ
        go_wp2_with fail
        go_roundg (acts.length - (k + 1))
        case measure => have := Hgk.out; omega
        case rel => exact ⟨k + 1, l2, pl2, pm2, d2, F2, G2, by have := Hgk.out; omega, by go_num, by rw [Nat.succ_mul]; exact HN.out⟩
      · have hk1 : ¬ (k : Int) < (acts.length : Int) := by omega
        have b3 := hI.box.cell 3 _ rfl
        have q3 := Box.cell hI.rlog 3 _ rfl
        have Hop := Lib.hid (openW_calls W pw p rp (k * 4) l pl' pm' d F' G' l.epoch wr hI hkc)
        clear hI hgk hkc
        go_wp2_with fail
        refine Hop.out.mono ?_
        rintro r w8 ⟨rfl, l2, pl2, pm2, d2, F2, G2, hz⟩
        have HZ := Lib.hid hz
        have Has := Lib.hid (askedW_calls W pw p rp (k * 4) l2 pl2 pm2 d2 F2 G2 w8 hz Hkc.out)
        clear hz Hop b3 q3
        go_wp2_with fail
        refine Has.out.mono ?_
        rintro r w9 ⟨rfl, hb9⟩
        have HN := Lib.hid (HZ.out.to hb9).dr.below
        clear hb9 HZ
        go_wp2_with fail
        go_ret
        exact ⟨rfl, HN.out⟩
end Go.Proofs.YtjoadcgegobjpaaDoor
/-
  Arguments: lists of bytes, of texts, of lists of bytes.
-/
namespace Go.Proofs.YtjoadcgegobjpaaDoor
set_option maxRecDepth 100000
open Go.RowKit

theorem le_sum_mem : ∀ {l : List Nat} {x : Nat}, x ∈ l → x ≤ l.sum
  | a :: l, x, h => by
    rw [List.sum_cons]
    rcases List.mem_cons.1 h with rfl | h
    · omega
    · have := le_sum_mem h; omega
theorem u8_of_wf {n : Int} (h : (Lit.int .u8 n).wf = true) : ∃ c : UInt8, n = (c.toNat : Int) := by
  simp [Lit.wf, IntKind.min, IntKind.max, IntKind.signed, IntKind.bits] at h
  refine ⟨UInt8.ofNat n.toNat, ?_⟩
  have : (UInt8.ofNat n.toNat).toNat = n.toNat := by show n.toNat % 2 ^ 8 = _; omega
  rw [this]; omega
theorem u32_of_wf {n : Int} (h : (Lit.int .u32 n).wf = true) : ∃ c : UInt32, n = (c.toNat : Int) := by
  simp [Lit.wf, IntKind.min, IntKind.max, IntKind.signed, IntKind.bits] at h
  refine ⟨UInt32.ofNat n.toNat, ?_⟩
  have : (UInt32.ofNat n.toNat).toNat = n.toNat := by show n.toNat % 2 ^ 32 = _; omega
  rw [this]; omega
theorem Arg.u32 {up : Bool} {W : World} {v : Value} (h : Arg up 22 W v) : ∃ e : UInt32, v = .int .u32 (e.toNat : Int) := by
  obtain ⟨n, rfl, hw⟩ := h.int (k := .u32) Tryd.underlying22
  obtain ⟨c, rfl⟩ := u32_of_wf hw
  exact ⟨c, rfl⟩
theorem ArgC.bytes {up : Bool} {N : Nat} {W : World} {v : Value} (h : ArgC up N 46 W [v]) :
    ∃ l : List UInt8, Rd W v l.length (l.map V8) ∧ (up = true → l.length + 1 ≤ N) ∧ (up = false → l.length ≤ 140737488351232) := by
  obtain ⟨l, h1, h2, Ns, h3, h4, h5⟩ := h.flat 0 (fun n : UInt8 => [V8 n]) (fun _ => rfl) (by decide) (fun _ _ => True) Tryd.underlying46 (by kernel_rfl) (fun N cs hl hc => by
    match cs, hl with
    | [c0], _ =>
      obtain ⟨n, e1, hw⟩ := hc.int (k := .u8) Tryd.underlying5
      simp only [List.cons.injEq, and_true] at e1
      obtain ⟨c, hc⟩ := u8_of_wf hw
      exact ⟨c, by rw [e1, hc]; rfl, trivial⟩)
  refine ⟨l, ?_, fun hu => (h4 hu).2, fun hu => ?_⟩
  · have e : l.flatMap (fun n : UInt8 => [V8 n]) = l.map V8 := List.map_eq_flatMap.symm
    rw [e] at h1; exact h1
  · have := h2 hu
    rw [show Tryd.prog.bytesOf 5 = 1 by kernel_rfl] at this; omega
theorem ArgC.texts {up : Bool} {N : Nat} {W : World} {v : Value} (h : ArgC up N 59 W [v]) :
    ∃ l : List (List UInt8), Rd W v l.length (l.map SV) ∧ (up = true → l.length + 1 ≤ N) ∧ (up = false → l.length ≤ 8796093022208) ∧ ∀ b ∈ l, b.length ≤ 9223372036854775807 ∧ (up = true → b.length ≤ N) ∧ (up = false → b.length ≤ 140737488351232) := by
  obtain ⟨l, h1, h2, Ns, h3, h4, h5⟩ := h.flat [] (fun n : List UInt8 => [SV n]) (fun _ => rfl) (by decide) (fun M b => b.length ≤ 9223372036854775807 ∧ (up = true → b.length + 1 ≤ M) ∧ (up = false → b.length ≤ 140737488351232)) Tryd.underlying59 (by kernel_rfl) (fun N cs hl hc => by
    match cs, hl with
    | [c0], _ =>
      obtain ⟨s, e1, hw, hu1, hu2⟩ := hc.string Tryd.underlying9
      simp only [List.cons.injEq, and_true] at e1
      obtain ⟨b, hb, hbl⟩ := SB_of s
      refine ⟨b, by rw [e1, hb]; rfl, by omega, fun hu => ?_, fun hu => ?_⟩
      · have := hu1 hu; omega
      · have := hu2 hu; omega)
  refine ⟨l, ?_, fun hu => (h4 hu).2, fun hu => ?_, fun b hb => ?_⟩
  · have e : l.flatMap (fun n : List UInt8 => [SV n]) = l.map SV := List.map_eq_flatMap.symm
    rw [e] at h1; exact h1
  · have := h2 hu
    rw [show Tryd.prog.bytesOf 9 = 16 by kernel_rfl] at this; omega
  · obtain ⟨i, hi, rfl⟩ := List.getElem_of_mem hb
    have e1 : l.getD i [] = l[i] := by simp [List.getD, hi]
    have := h5 i hi
    rw [e1] at this
    refine ⟨this.1, fun hu => ?_, this.2.2⟩
    have h6 := this.2.1 hu
    have h7 : Ns.getD i 0 ≤ Ns.sum := by
      have hi' : i < Ns.length := by omega
      have e2 : Ns.getD i 0 = Ns[i] := by simp [List.getD, hi']
      rw [e2]
      exact le_sum_mem (List.getElem_mem hi')
    have := (h4 hu).1; omega
theorem ArgC.rows {up : Bool} {N : Nat} {W : World} {v : Value} (h : ArgC up N 39 W [v]) :
    ∃ (vs : List Value) (ls : List (List UInt8)), Rd W v ls.length vs ∧ vs.length = ls.length ∧ (∀ i, i < ls.length → Rd W (vs.getD i undef) (ls.getD i []).length ((ls.getD i []).map V8)) ∧ (up = true → ls.length + 1 ≤ N) ∧ (up = false → ls.length ≤ 5864062014805) ∧ ∀ b ∈ ls, (up = true → b.length ≤ N) ∧ (up = false → b.length ≤ 140737488351232) := by
  obtain ⟨l, h1, h2, Ns, h3, h4, h5⟩ := h.flat (undef, []) (fun n : Value × List UInt8 => [n.1]) (fun _ => rfl) (by decide) (fun M b => Rd W b.1 b.2.length (b.2.map V8) ∧ (up = true → b.2.length + 1 ≤ M) ∧ (up = false → b.2.length ≤ 140737488351232)) Tryd.underlying39 (by kernel_rfl) (fun N cs hl hc => by
    match cs, hl with
    | [c0], _ =>
      obtain ⟨b, e1, hw⟩ := hc.bytes
      exact ⟨(c0, b), rfl, e1, hw⟩)
  refine ⟨l.map (·.1), l.map (·.2), ?_, by simp, fun i hi => ?_, fun hu => by have := (h4 hu).2; simpa using this, fun hu => ?_, fun b hb => ?_⟩
  · have e : l.flatMap (fun n : Value × List UInt8 => [n.1]) = l.map (·.1) := List.map_eq_flatMap.symm
    rw [e] at h1; rw [List.length_map]; exact h1
  · rw [List.length_map] at hi
    have := (h5 i hi).1
    simp only [List.getD, List.getElem?_map, List.getElem?_eq_getElem hi] at this ⊢
    exact this
  · have := h2 hu
    rw [show Tryd.prog.bytesOf 46 = 24 by kernel_rfl] at this
    rw [List.length_map]; omega
  · obtain ⟨x, hx, rfl⟩ := List.mem_map.1 hb
    obtain ⟨i, hi, rfl⟩ := List.getElem_of_mem hx
    have e1 : l.getD i (undef, []) = l[i] := by simp [List.getD, hi]
    have := h5 i hi
    rw [e1] at this
    refine ⟨fun hu => ?_, this.2.2⟩
    have h6 := this.2.1 hu
    have h7 : Ns.getD i 0 ≤ Ns.sum := by
      have hi' : i < Ns.length := by omega
      have e2 : Ns.getD i 0 = Ns[i] := by simp [List.getD, hi']
      rw [e2]
      exact le_sum_mem (List.getElem_mem hi')
    have := (h4 hu).1; omega
end Go.Proofs.YtjoadcgegobjpaaDoor
/-
  What errors.As reads of package errors, out of the condition that the card ties; a law's row out of its walk at such a world.
-/
namespace Go.Proofs.YtjoadcgegobjpaaDoor
open Go.ChangeShapes Go.WideShapes Go.ChangeAt Go.RowKit
set_option maxRecDepth 100000

/-- The variables that are listed. -/
def laidL : List (String × DataW Unit) := [("errors.errorType", Rows.laid_errors_errorType)]
theorem L.et : Tryd.prog.globalNamed "errors.errorType" = some 0 := by kernel_rfl
theorem L.rt : (Tryd.prog.cutTypes.find? (·.1 == "internal/reflectlite.rtype")).map (·.2) = some 126 := by kernel_rfl
theorem L.oneRow : ((List.range 187).filter fun t => Tryd.prog.rowNamed t [101, 114, 114, 111, 114]) = [30] := by kernel_rfl
theorem L.size : Tryd.prog.types.size = 187 := by kernel_rfl
theorem errType_of_laid {W : World} (h : laidMetH Tryd.prog laidL W) : ErrType W := by
  have h' : laidMet Tryd.prog [] W ∧ handlesMet Tryd.prog laidL W := h
  obtain ⟨name, u, ty, e1, e2, e3, e4, e5⟩ := h'.2 _ (List.mem_singleton.2 rfl)
  have en : name = [101, 114, 114, 111, 114] := (Option.some.inj e1).symm
  subst en
  obtain rfl := Option.some.inj (L.rt.symm.trans e2)
  have hm : ty ∈ (List.range 187).filter fun t => Tryd.prog.rowNamed t [101, 114, 114, 111, 114] := List.mem_filter.2 ⟨List.mem_range.2 (by rw [← L.size]; exact e3), e4⟩
  rw [L.oneRow] at hm
  obtain rfl := List.mem_singleton.1 hm
  have hh : typeHandle Tryd.prog 30 = .pointer (some ⟨1, 30, none⟩) := by kernel_rfl
  rw [hh] at e5
  have := World.var?_cell L.et e5 0
  unfold ErrType
  simpa using this
/-- A world that meets the condition. -/
noncomputable def laidWorld (os : Os) : World :=
  let w0 := World.holding Tryd.prog os ⟨#[], #[], []⟩
  { w0 with heap := w0.heap.modify 0 fun
      | .cells _ t frozen => .cells #[.iface 126 (.agg #[.pointer (some ⟨1, 30, none⟩)])] t frozen
      | o => o }
theorem laidWorld_met (os : Os) (args : Array Value) : laidMetH Tryd.prog laidL ((laidWorld os).forCall (fun _ _ => 0) ⟨#[], args, []⟩).memory :=
  laidMetH_of_parts (laidMet_nil _ _) (by kernel_rfl)
theorem law_contract_at {up : Bool} {vt : List TypeId} (hvt : vt = []) {f : FuncId} {fn : Func} {s : ChangeSpec} {ts : List TypeId} (hp : fn.params.toList = ts) (hres : fn.resultTypes = #[4]) (hvars : s.vars = [])
    (hr : ∀ t ∈ ts, Tryd.prog.readableRec t = true ∧ t < Tryd.prog.types.size) (hs : ∀ (H : Type) (ds : List (DataW H)), ds.length = ts.length → (s.fn H ds).results = [.lit (.bool true)] ∧ (s.fn H ds).args = ds ∧ (s.fn H ds).vars = [])
    (H : Type) (enc : TypeId × Value → H) (W : World) (base : Nat) (args : Array Value) (ds gs : List (DataW H)) (before : List MemPlace)
    (hval : ∀ (j : Nat) t v, fn.params[j]? = some t → args[j]? = some v → Value.okWide Tryd.prog W .any base t v)
    (hW : DataW.Whole enc Tryd.prog fn.params.toList s.vars false W args.toList ds gs before)
    (hsz : match up with | true => Rows.uptoSmall H (ds ++ gs) = true | false => (DataW.weightsEach Tryd.prog (fn.params.toList ++ vt) (ds ++ gs)).all (· ≤ reachBytes) = true)
    (walkAt : ArgAll up W ts args.toList → Calls Tryd.prog f args W fun e W' => e = .returned (.bool true) ∧ Below W.heap.size W W') :
    Calls Tryd.prog f args W fun e W' => ∃ v, e = .returned v ∧ s.post enc Tryd.prog fn false true false false W args v W' := by
  have hW' := hW
  obtain ⟨p, q, hA, hV, rfl, _, _⟩ := hW
  rw [hvars] at hV
  have hg : gs = [] ∧ q = [] := by
    cases gs with
    | nil => exact ⟨rfl, hV⟩
    | cons g gs => exact hV.elim
  obtain ⟨rfl, rfl⟩ := hg
  have hlt : ∀ x ∈ p, x.block < W.heap.size := fun x hx => by simpa using hW'.lt x (by simpa using hx)
  have hlen : ds.length = ts.length := by
    have : ∀ {ts : List TypeId} {vs : List Value} {ds : List (DataW H)} {ps : List MemPlace}, DataW.TrodAll enc Tryd.prog W 0 (fun _ => true) true ts vs ds ps → ds.length = ts.length := by
      intro ts
      induction ts with
      | nil => intro vs ds ps h; cases vs with
        | nil => cases ds with
          | nil => rfl
          | cons _ _ => exact h.elim
        | cons _ _ => exact h.elim
      | cons t ts ih => intro vs ds ps h; cases vs with
        | nil => exact h.elim
        | cons v vs => cases ds with
          | nil => exact h.elim
          | cons d ds => obtain ⟨_, _, _, h2, _⟩ := h; simp [ih h2]
    rw [hp] at hA
    exact this hA
  have hall : ArgAll up W ts args.toList := by
    rw [← hp]
    refine argAll_mk (base := base) hA (fun j t v ht hv => hval j t v (by simpa using ht) (by simpa using hv)) ?_
    cases up with
    | true => have h : Rows.uptoBulkAll (ds ++ []) ≤ 1048576 := of_decide_eq_true hsz
              simpa using h
    | false => subst hvt; simpa using hsz
  have hwalk := walkAt hall
  refine hwalk.mono fun e W' ⟨he, hb⟩ => ?_
  obtain ⟨s1, s2, s3⟩ := hs H (ds ++ []) (by simpa using hlen)
  refine ⟨_, he, _, _, _, [], p, [], hW', ?_, ?_, ?_, hb.frame _, fun h => by cases h⟩
  · rw [s1, hres]; exact ⟨[], [], shut_bool (by kernel_rfl) true, rfl, rfl⟩
  · rw [s2, List.append_nil]; exact trodAll_below hb (by rw [hp]; exact hr) hA hlt
  · rw [s3, hvars]; rfl
end Go.Proofs.YtjoadcgegobjpaaDoor
