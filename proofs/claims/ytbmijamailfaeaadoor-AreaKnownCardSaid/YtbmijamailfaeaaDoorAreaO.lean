/-
  The walk of AreaOne.
-/
import Derived.Test.YtbmijamailfaeaaDoorAreaW
import Derived.Test.YtbmijamailfaeaaDoorPlainA
namespace Go.Proofs.YtbmijamailfaeaaDoor
open Go.RowKit
set_option maxRecDepth 100000

theorem Holds.setLeft {d : DiskM} {at_ n : Int} {e : Nat} {p : List UInt8} (h : Holds d at_ n e p) (o : Option Nat) : Holds { d with left := o } at_ n e p := ⟨h.may, h.fits, h.small, h.head, h.body⟩
theorem wf_setLeft {d : DiskM} (h : d.Wf) (o : Option Nat) : DiskM.Wf { d with left := o } := ⟨h.inr, h.short, h.play⟩
theorem next_parity (e : UInt32) : (e + 1).toNat % 2 ≠ e.toNat % 2 := by
  rw [UInt32.toNat_add]
  have := e.toNat_lt
  show (e.toNat + 1) % 2 ^ 32 % 2 ≠ _
  omega
/-- A disk, a place's cells, the next image: since W nothing below its end has turned. -/
structure OneI (W : World) (xb p : Nat) (k1 k2 : Int) (e : UInt32) (xa : Option Addr) (xc : Nat) (q : List UInt8) (na : Option Addr) (nc : Nat) (nq : List UInt8) (d : DiskM) (F : Nat → Prop) (wr : World) : Prop where
  disk : IsDisk wr d p F
  wf : d.Wf
  box : Box wr xb #[.int .i64 k1, .int .i64 k2, .int .u32 (I32 e), .slice xa q.length xc] 25
  xbF : ¬ F xb
  rd : Rd wr (.slice xa q.length xc) q.length (q.map V8)
  rd2 : Rd wr (.slice na nq.length nc) nq.length (nq.map V8)
  lo : ∀ k, F k → W.heap.size ≤ k
  xblo : W.heap.size ≤ xb
  rlt : 0 < q.length → ∀ k, (Value.slice xa q.length xc).ownBlock = some k → k < W.heap.size
  rlt2 : 0 < nq.length → ∀ k, (Value.slice na nq.length nc).ownBlock = some k → k < W.heap.size
  below : Below W.heap.size W wr
theorem OneI.to {W : World} {xb p : Nat} {k1 k2 : Int} {e : UInt32} {xa : Option Addr} {xc : Nat} {q : List UInt8} {na : Option Addr} {nc : Nat} {nq : List UInt8} {d : DiskM} {F : Nat → Prop} {wr w2 : World} (h : OneI W xb p k1 k2 e xa xc q na nc nq d F wr) (hb : Below wr.heap.size wr w2) : OneI W xb p k1 k2 e xa xc q na nc nq d F w2 :=
  ⟨h.disk.grow hb, h.wf, Box.below h.box hb, h.xbF, h.rd.below hb, h.rd2.below hb, h.lo, h.xblo, h.rlt, h.rlt2, h.below.trans (hb.mono h.below.size)⟩
theorem OneI.turn {W : World} {xb p : Nat} {k1 k2 : Int} {e : UInt32} {xa : Option Addr} {xc : Nat} {q : List UInt8} {na : Option Addr} {nc : Nat} {nq : List UInt8} {d d' : DiskM} {F F' : Nat → Prop} {wr w2 : World} (h : OneI W xb p k1 k2 e xa xc q na nc nq d F wr)
    (hd : IsDisk w2 d' p F') (hw : d'.Wf) (hm : Mod F wr w2) (hF : ∀ k, F' k → F k ∨ wr.heap.size ≤ k) : OneI W xb p k1 k2 e xa xc q na nc nq d' F' w2 := by
  have hbl := h.box.lt
  have hsz := h.below.size
  refine ⟨hd, hw, Box.mod h.box hm h.xbF, fun hf => ?_, h.rd.mod0 hm (fun h0 k hk hf => ?_), h.rd2.mod0 hm (fun h0 k hk hf => ?_), fun k hk => ?_, h.xblo, h.rlt, h.rlt2, h.below.trans (hm.below hsz h.lo)⟩
  · rcases hF xb hf with h1 | h1
    · exact h.xbF h1
    · omega
  · have := h.rlt (by rw [List.length_map] at h0; exact h0) k hk
    have := h.lo k hf; omega
  · have := h.rlt2 (by rw [List.length_map] at h0; exact h0) k hk
    have := h.lo k hf; omega
  · rcases hF k hk with h1 | h1
    · exact h.lo k h1
    · omega
set_option maxHeartbeats 3200000 in
theorem areaOne_calls (at_ n : Int) (e : UInt32) (v : Value) (l : List UInt8) (sv : Value) (nl : List UInt8) (cut : Int) (W : World) (ha : I64 at_) (hn : I64 n) (hv : Rd W v l.length (l.map V8)) (hl : l.length ≤ 140737488351232) (hsv : Rd W sv nl.length (nl.map V8)) (hnl : nl.length ≤ 140737488351232) (hcut : I64 cut) (hg : ErrType W) :
    Calls Tryd.prog 4 #[.agg #[.int .i64 at_, .int .i64 n, .int .u32 (I32 e), v], sv, .int .i64 cut] W fun r W' => r = .returned (.bool true) ∧ Below W.heap.size W W' := by
  obtain ⟨sa, sc, rfl⟩ : ∃ a c, sv = .slice a nl.length c := by obtain ⟨a, c, h, _⟩ := hsv; exact ⟨a, c, h⟩
  obtain ⟨va, vc, rfl⟩ : ∃ a c, v = .slice a l.length c := by obtain ⟨a, c, h, _⟩ := hv; exact ⟨a, c, h⟩
  have hbA := below_alloc W (.cells #[.int .i64 at_, .int .i64 n, .int .u32 (I32 e), .slice va l.length vc] 25)
  have Hr := Lib.hid (right_calls at_ n e _ l _ (hv.below hbA) ha hn)
  have hp1 := pickI_lt at_ 8 (by omega)
  have hp2 := pickI_lt n 12 (by omega)
  obtain ⟨k1, hk1⟩ : ∃ k1, k1 = pickI at_ 8 := ⟨_, rfl⟩
  obtain ⟨k2, hk2⟩ : ∃ k2, k2 = 1 + pickI n 12 := ⟨_, rfl⟩
  rw [← hk1, ← hk2] at Hr
  have hk10 : 0 ≤ k1 ∧ k1 < 8 := by omega
  have hk20 : 1 ≤ k2 ∧ k2 ≤ 12 := by omega
  -- the next image
  obtain ⟨m2, hm2⟩ : ∃ m2, m2 = min nl.length (k2.toNat * 256) := ⟨_, rfl⟩
  have hmi : ∀ ts t w', (Builtin.min_ ts t #[.int .i64 (nl.length : Int), .int .i64 (k2 * 256)]).run Tryd.prog w' = .ok (.int .i64 (m2 : Int)) w' := fun ts t w' => by
    rw [run_min_int2]
    congr 2
    by_cases h : k2 * 256 < (nl.length : Int)
    · rw [if_pos h]; omega
    · rw [if_neg h]; omega
  have hsc : nl.length ≤ sc := by obtain ⟨_, _, g1, g2, _⟩ := hsv; injection g1 with _ _ g3; omega
  have hhd := headB sa nl.length sc m2 (by omega)
  have hm2c : (m2 : Int) ≤ (sc : Int) := by omega
  have hm20 : (0 : Int) ≤ (m2 : Int) := by omega
  have hrd2 := hsv.cut (m := m2) (by omega) m2
  rw [← List.map_take] at hrd2
  have hnqm : (nl.take m2).length = m2 := by rw [List.length_take]; omega
  have hnlt : 0 < (nl.take m2).length → ∀ k, (Value.slice sa m2 sc).ownBlock = some k → k < W.heap.size := fun h0 k hk => hsv.blk (by rw [List.length_map]; rw [List.length_take] at h0; omega) k (by cases sa <;> exact hk)
  have hnq256 : ((nl.take m2).length : Int) ≤ k2 * 256 := by rw [hnqm, hm2]; omega
  generalize nl.take m2 = nq at hrd2 hnqm hnlt hnq256
  subst hnqm
  have HRd2 := Lib.hid hrd2
  have HNlt := Lib.hid hnlt
  have HNq := Lib.hid hnq256
  have HBA := Lib.hid hbA
  have HV := Lib.hid hv
  have HG := Lib.hid hg
  have Hcut := Lib.hid hcut
  clear ha hn hp1 hp2 hk1 hk2 hv hsv hbA hg hrd2 hnlt hnq256 hm2 hcut hnl
  go_enter Tryd.func4, Tryd.ntmps4
  go_wp2_with fail
  refine Hr.out.mono ?_
  rintro r w1 ⟨xa, xc, m, hm, rfl, hrd, hbl, hb1⟩
  have hqm : (l.take m).length = m := by rw [List.length_take]; omega
  have hql : 0 < (l.take m).length → 0 < l.length := fun h => by rw [List.length_take] at h; omega
  have hq256 : ((l.take m).length : Int) ≤ k2 * 256 := by rw [hqm, hm]; omega
  generalize l.take m = q at hrd hqm hql hq256
  subst hqm
  have hbB := below_alloc w1 (.cells #[.int .i64 k1, .int .i64 k2, .int .u32 (I32 e), .slice xa q.length xc] 25)
  have hx := Box.new w1 #[.int .i64 k1, .int .i64 k2, .int .u32 (I32 e), .slice xa q.length xc] 25
  have HB := Lib.hid (below_trans (below_trans HBA.out hb1) hbB)
  have HRd := Lib.hid (hrd.below hbB)
  have hrlt : 0 < q.length → ∀ k, (Value.slice xa q.length xc).ownBlock = some k → k < W.heap.size := fun h0 k hk => HV.out.blk (by rw [List.length_map]; exact hql h0) k (hbl k hk)
  have HRlt := Lib.hid hrlt
  have Hq := Lib.hid hq256
  obtain ⟨xb, hxb⟩ : ∃ xb, xb = w1.heap.size := ⟨_, rfl⟩
  have Hxb := Lib.hid (show W.heap.size ≤ xb from by rw [hxb]; exact (below_trans HBA.out hb1).size)
  rw [← hxb] at hx
  have c1 := hx.cell 1 _ rfl
  have HX := Lib.hid hx
  have Hfr := Lib.hid (fun w => fresh_calls 40 w (by omega) (by omega))
  clear hm hrd hql hq256 hbl hb1 hbB hx hrlt Hr HBA hl
  go_wp2_with fail
  rw [← hxb]
  clear hxb c1
  generalize w1.alloc (.cells #[.int .i64 k1, .int .i64 k2, .int .u32 (I32 e), .slice xa q.length xc] 25) = w2 at HB HRd HX ⊢
  refine (Hfr.out _).mono ?_
  rintro r w3 ⟨p, F, rfl, hd, hb3, hF⟩
  have hxbl := HX.out.lt
  have hI3 : OneI W xb p k1 k2 e xa xc q sa sc nq (freshM 40) F w3 :=
    ⟨hd, freshM_wf 40, Box.below HX.out hb3, fun hf => (by have := hF xb hf; omega), HRd.out.below hb3, (HRd2.out.below HB.out).below hb3, fun k hk => Nat.le_trans HB.out.size (hF k hk), Hxb.out, HRlt.out, HNlt.out, below_trans HB.out hb3⟩
  have HI3 := Lib.hid hI3
  clear hd hb3 hF Hfr HX HB HRd hxbl hI3 HRd2
  go_wp2_with fail
  refine (works14_calls _).mono ?_
  rintro r w4 ⟨rfl, hb4⟩
  have hI4 := HI3.out.to hb4
  have hm40 : mayA (freshM 40).strs.length k1 k2 := by rw [show (freshM 40).strs.length = 40 by simp [freshM]]; unfold mayA; omega
  obtain ⟨s1, s2, s3⟩ := save_yes (freshM 40) k1 k2 e.toNat q hm40 (by simp [freshM]) Hq.out (fun k h => by cases h)
  have hwf := saveM_wf (freshM_wf 40) k1 k2 e.toNat q
  have htrl := saveM_trail (freshM 40) k1 k2 e.toNat q (by simp [freshM])
  have hqn : q.length ≤ 3072 := by have := Hq.out; omega
  have Hsv := Lib.hid (save_calls (freshM 40) p F k1 k2 e (.slice xa q.length xc) q w4 hI4.disk hI4.rd (fun h0 k hk hf => by have := hI4.rlt h0 k hk; have := hI4.lo k hf; omega) (by simp [freshM]) (by unfold I64; omega) (by unfold I64; omega) (by omega))
  obtain ⟨d1, hd1⟩ : ∃ d1, d1 = saveM (freshM 40) k1 k2 e.toNat q := ⟨_, rfl⟩
  rw [← hd1] at s1 s2 s3 hwf htrl Hsv
  rw [s1, show errV 0 = .nilIface from rfl] at Hsv
  have HS := Lib.hid (And.intro s2 (And.intro hwf (show d1.1.trail.length ≤ 2050 by simp [freshM] at htrl; omega)))
  have c0 := hI4.box.cell 0 _ rfl
  have c1 := hI4.box.cell 1 _ rfl
  have c2 := hI4.box.cell 2 _ rfl
  have c3 := hI4.box.cell 3 _ rfl
  have HI4 := Lib.hid hI4
  clear hb4 hm40 s1 s2 s3 hwf htrl hqn hd1 hI4 HI3 Hq
  go_wp2_with fail
  refine Hsv.out.mono ?_
  rintro r w5 ⟨rfl, F5, hd5, hm5, hF5⟩
  have HI5 := Lib.hid (HI4.out.turn hd5 HS.out.2.1 hm5 hF5)
  clear hd5 hm5 hF5 HI4 Hsv c0 c1 c2 c3
  generalize d1.1 = d5 at HI5 HS
  obtain ⟨B, hB⟩ : ∃ B, B = blocksA nq.length := ⟨_, rfl⟩
  have hnq := HNq.out
  have hB1 : ((nq.length : Int) + 256 - 1) / 256 = (B : Int) := by rw [hB]; unfold blocksA; omega
  have hB2 : ((nq.length : Int) + 256 - 1).tdiv 256 = (B : Int) := by rw [Int.tdiv_eq_ediv_of_nonneg (by omega)]; exact hB1
  have hB12 : B ≤ 12 := by rw [hB]; unfold blocksA; omega
  have HBe := Lib.hid hB
  have hadd : (I32 e + 1) % 4294967296 = I32 (e + 1) := by
    unfold I32; rw [UInt32.toNat_add]
    show ((e.toNat : Int) + 1) % 4294967296 = (((e.toNat + 1) % 2 ^ 32 : Nat) : Int)
    omega
  have Hadd := Lib.hid hadd
  clear hB hadd
  go_wp2_with fail
  have hpl := pickI_lt cut ((B : Int) + 1 + 1) (by omega)
  have hpk := pick_calls cut ((B : Int) + 1 + 1) w5 Hcut.out.1 Hcut.out.2 (by omega) (by omega)
  obtain ⟨k, hk⟩ := Int.eq_ofNat_of_zero_le hpl.1
  rw [hk] at hpk hpl
  refine hpk.mono ?_
  rintro r w6 ⟨rfl, rfl⟩
  have hkB : k ≤ B + 1 := by omega
  have hcc := cut_calls d5 p F5 (k : Int) w5 HI5.out.disk (by omega)
  rw [if_neg (by omega), Int.toNat_natCast] at hcc
  have Hcc := Lib.hid hcc
  clear hpk hpl hk hcc Hcut
  go_wp2_with fail
  refine Hcc.out.mono ?_
  rintro r w6 ⟨rfl, F6, hd6, hm6, hF6⟩
  have hI6 := HI5.out.turn hd6 (wf_setLeft HS.out.2.1 (some k)) hm6 hF6
  have hho : Holds { d5 with left := some k } k1 k2 e.toNat q := HS.out.1.setLeft _
  have htl : ({ d5 with left := some k } : DiskM).trail.length ≤ 2050 := HS.out.2.2
  have hle : ({ d5 with left := some k } : DiskM).left = some k := rfl
  generalize ({ d5 with left := some k } : DiskM) = d6 at hI6 hho htl hle
  have Hsv := Lib.hid (save_calls d6 p F6 k1 k2 (e + 1) (.slice sa nq.length sc) nq w6 hI6.disk hI6.rd2 (fun h0 k hk hf => by have := hI6.rlt2 h0 k hk; have := hI6.lo k hf; omega) (by omega) (by unfold I64; omega) (by unfold I64; omega) (by omega))
  rw [← Hadd.out] at Hsv
  have HI6 := Lib.hid hI6
  have hwf := saveM_wf hI6.wf k1 k2 (e + 1).toNat nq
  have c0 := hI6.box.cell 0 _ rfl
  have c1 := hI6.box.cell 1 _ rfl
  have c2 := hI6.box.cell 2 _ rfl
  have c3 := hI6.box.cell 3 _ rfl
  by_cases hkall : k = B + 1
  · obtain ⟨s1, s2, s3⟩ := save_yes d6 k1 k2 (e + 1).toNat nq hho.may hho.small HNq.out (fun k' h' => by rw [hle] at h'; injection h' with h'; have := HBe.out; omega)
    obtain ⟨d7, hd7⟩ : ∃ d7, d7 = saveM d6 k1 k2 (e + 1).toNat nq := ⟨_, rfl⟩
    rw [← hd7] at s1 s2 hwf Hsv
    rw [s1, show errV 0 = .nilIface from rfl] at Hsv
    have HS7 := Lib.hid (And.intro s2 hwf)
    have hka : (k : Int) = (B : Int) + 1 := by omega
    clear s1 s2 s3 hwf hd7 hI6 hho htl hle hd6 hm6 hF6 Hcc HI5 HS hkall hkB
    go_wp2_with fail
    refine Hsv.out.mono ?_
    rintro r w7 ⟨rfl, F7, hd7, hm7, hF7⟩
    have hI7 := HI6.out.turn hd7 HS7.out.2 hm7 hF7
    have his := is_yes d7.1 p F7 k1 k2 (e + 1) (.slice sa nq.length sc) nq w7 hI7.disk (by unfold I64; omega) (by unfold I64; omega) (readB_short hI7.wf) hI7.rd2 (HS7.out.1.load (e + 1).toNat_lt)
    rw [← Hadd.out] at his
    have His := Lib.hid his
    have d0 := hI7.box.cell 0 _ rfl
    have d1 := hI7.box.cell 1 _ rfl
    have d2 := hI7.box.cell 2 _ rfl
    have HI7 := Lib.hid hI7
    clear his hd7 hm7 hF7 hI7 HI6 Hsv c0 c1 c2 c3
    go_wp2_with fail
    refine His.out.mono ?_
    rintro r w8 ⟨rfl, hb8⟩
    have HN := Lib.hid (HI7.out.to hb8).below
    clear hb8
    go_wp2_with fail
    go_ret
    exact ⟨rfl, HN.out⟩
  · obtain ⟨s1, s2⟩ := save_cut d6 k1 k2 e.toNat (e + 1).toNat q nq hho HNq.out k hle (by have := HBe.out; omega) (next_parity e)
    obtain ⟨d7, hd7⟩ : ∃ d7, d7 = saveM d6 k1 k2 (e + 1).toNat nq := ⟨_, rfl⟩
    rw [← hd7] at s1 s2 hwf Hsv
    rw [s1, show errV 22 = .iface 61 (.int .i64 22) from rfl] at Hsv
    have HS7 := Lib.hid (And.intro s2 hwf)
    have hka : ¬ ((k : Int) = (B : Int) + 1) := by omega
    clear s1 s2 hwf hd7 hI6 hho htl hle hd6 hm6 hF6 Hcc HI5 HS hkall hkB
    go_wp2_with fail
    refine Hsv.out.mono ?_
    rintro r w7 ⟨rfl, F7, hd7, hm7, hF7⟩
    have hI7 := HI6.out.turn hd7 HS7.out.2 hm7 hF7
    have Hpl := Lib.hid (plain_any 22 w7 (by omega) (by omega) (HG.out.below hI7.below))
    rw [show errV 22 = .iface 61 (.int .i64 22) from rfl] at Hpl
    have HI7 := Lib.hid hI7
    clear hd7 hm7 hF7 hI7 HI6 Hsv c0 c1 c2 c3
    go_wp2_with fail
    refine Hpl.out.mono ?_
    rintro r w8 ⟨rfl, hb8⟩
    have hI8 := HI7.out.to hb8
    have His := Lib.hid (is_yes d7.1 p F7 k1 k2 e (.slice xa q.length xc) q w8 hI8.disk (by unfold I64; omega) (by unfold I64; omega) (readB_short hI8.wf) hI8.rd (HS7.out.1.load e.toNat_lt))
    have d0 := hI8.box.cell 0 _ rfl
    have d1 := hI8.box.cell 1 _ rfl
    have d2 := hI8.box.cell 2 _ rfl
    have d3 := hI8.box.cell 3 _ rfl
    have HI8 := Lib.hid hI8
    clear hb8 hI8 HI7 Hpl
    go_wp2_with fail
    refine His.out.mono ?_
    rintro r w9 ⟨rfl, hb9⟩
    have HN := Lib.hid (HI8.out.to hb9).below
    clear hb9
    go_wp2_with fail
    go_ret
    exact ⟨rfl, HN.out⟩
end Go.Proofs.YtbmijamailfaeaaDoor
