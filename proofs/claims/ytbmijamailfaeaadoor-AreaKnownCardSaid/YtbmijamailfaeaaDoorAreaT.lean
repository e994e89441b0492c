/-
  The walk of AreaThere.
-/
import Derived.Test.YtbmijamailfaeaaDoorAreaW
import Derived.Test.YtbmijamailfaeaaDoorPlainA
namespace Go.Proofs.YtbmijamailfaeaaDoor
open Go.RowKit
set_option maxRecDepth 100000

/-- An act that came in: kind, place, number, epoch, its data's slice and bytes. -/
structure ActA where
  kind : Int
  at_ : Int
  n : Int
  e : UInt32
  v : Value
  l : List UInt8
def ActA.cells (x : ActA) : List Value := [.int .i64 x.kind, .int .i64 x.at_, .int .i64 x.n, .int .u32 (I32 x.e), x.v]
structure ActA.Ok (W : World) (x : ActA) : Prop where
  kind : I64 x.kind
  at_ : I64 x.at_
  n : I64 x.n
  rd : Rd W x.v x.l.length (x.l.map V8)
  len : x.l.length ≤ 140737488351232
def ActA.zero : ActA := ⟨0, 0, 0, 0, .slice none 0 0, []⟩
theorem flatActA_get (l : List ActA) (k j : Nat) (hk : k < l.length) (hj : j < 5) : (l.flatMap ActA.cells).getD (k * 5 + j) undef = (l[k]).cells.getD j undef := by
  have := flatMap_get ActA.cells 5 (fun _ => rfl) (by omega) ActA.zero l k j hk hj
  rw [this]; simp [List.getD, hk]
theorem actA_at {W : World} {a : Option Addr} {c : Nat} {l : List ActA} (h : Rd W (.slice a l.length c) l.length (l.flatMap ActA.cells)) (k : Nat) (hk : k < l.length) :
    ∃ b off, a = some ⟨b, off, none⟩ ∧ (W.cell? ⟨b, off + k * 5, none⟩ = some (.int .i64 l[k].kind) ∧ W.cell? ⟨b, off + k * 5 + 1, none⟩ = some (.int .i64 l[k].at_) ∧ W.cell? ⟨b, off + k * 5 + 2, none⟩ = some (.int .i64 l[k].n) ∧ W.cell? ⟨b, off + k * 5 + 3, none⟩ = some (.int .u32 (I32 l[k].e)) ∧ W.cell? ⟨b, off + k * 5 + 4, none⟩ = some l[k].v) := by
  have hlen : (l.flatMap ActA.cells).length = l.length * 5 := flatMap_len ActA.cells 5 (fun _ => rfl) l
  obtain ⟨a0, cap0, g1, _, _, _, g2⟩ := h
  injection g1 with g1 _ g3
  subst g1
  obtain ⟨b, off, f1, f2⟩ := g2 (k * 5 + 0) (by rw [hlen]; omega)
  have hc : ∀ j, j < 5 → W.cell? ⟨b, off + k * 5 + j, none⟩ = some ((l[k]).cells.getD j undef) := fun j hj => by
    obtain ⟨b1, off1, f3, f4⟩ := g2 (k * 5 + j) (by rw [hlen]; omega)
    rw [f1] at f3
    injection f3 with f3; injection f3 with f7 f8
    subst f7; subst f8
    rw [Nat.add_assoc, f4, flatActA_get l k j hk hj]
  exact ⟨b, off, f1, hc 0 (by omega), hc 1 (by omega), hc 2 (by omega), hc 3 (by omega), hc 4 (by omega)⟩
/-- A disk on which an image lies, and a place's cells: since W nothing below its end has turned. -/
structure ThereI (W : World) (xb p : Nat) (k1 k2 : Int) (e : UInt32) (xa : Option Addr) (xc : Nat) (q : List UInt8) (c : Nat) (d : DiskM) (F : Nat → Prop) (wr : World) : Prop where
  disk : IsDisk wr d p F
  holds : Holds d k1 k2 e.toNat q
  wf : d.Wf
  left : d.left = none
  n40 : d.strs.length = 40
  trail : d.trail.length ≤ 3000 + c
  box : Box wr xb #[.int .i64 k1, .int .i64 k2, .int .u32 (I32 e), .slice xa q.length xc] 25
  xbF : ¬ F xb
  rd : Rd wr (.slice xa q.length xc) q.length (q.map V8)
  lo : ∀ k, F k → W.heap.size ≤ k
  xblo : W.heap.size ≤ xb
  rlt : 0 < q.length → ∀ k, (Value.slice xa q.length xc).ownBlock = some k → k < W.heap.size
  below : Below W.heap.size W wr
theorem ThereI.to {W : World} {xb p : Nat} {k1 k2 : Int} {e : UInt32} {xa : Option Addr} {xc : Nat} {q : List UInt8} {c : Nat} {d : DiskM} {F : Nat → Prop} {wr w2 : World} (h : ThereI W xb p k1 k2 e xa xc q c d F wr) (hb : Below wr.heap.size wr w2) : ThereI W xb p k1 k2 e xa xc q c d F w2 :=
  ⟨h.disk.grow hb, h.holds, h.wf, h.left, h.n40, h.trail, Box.below h.box hb, h.xbF, h.rd.below hb, h.lo, h.xblo, h.rlt, h.below.trans (hb.mono h.below.size)⟩
theorem ThereI.more {W : World} {xb p : Nat} {k1 k2 : Int} {e : UInt32} {xa : Option Addr} {xc : Nat} {q : List UInt8} {c c' : Nat} {d : DiskM} {F : Nat → Prop} {wr : World} (h : ThereI W xb p k1 k2 e xa xc q c d F wr) (hc : c ≤ c') : ThereI W xb p k1 k2 e xa xc q c' d F wr :=
  ⟨h.disk, h.holds, h.wf, h.left, h.n40, by have := h.trail; omega, h.box, h.xbF, h.rd, h.lo, h.xblo, h.rlt, h.below⟩
theorem ThereI.write {W : World} {xb p : Nat} {k1 k2 : Int} {e : UInt32} {xa : Option Addr} {xc : Nat} {q : List UInt8} {c : Nat} {d : DiskM} {F F' : Nat → Prop} {wr w2 : World} (h : ThereI W xb p k1 k2 e xa xc q c d F wr) (i : Int) (s : ByteArray) (hi : i < k1 ∨ k1 + 2 * k2 < i)
    (hd : IsDisk w2 (d.write i s).1 p F') (hm : Mod F wr w2) (hF : ∀ k, F' k → F k ∨ wr.heap.size ≤ k) : ThereI W xb p k1 k2 e xa xc q (c + 1) (d.write i s).1 F' w2 := by
  have hbl := h.box.lt
  have hsz := h.below.size
  refine ⟨hd, h.holds.write i s hi, h.wf.write i s, ?_, by rw [d.write_len]; exact h.n40, by have := (d.write_trail i s).1; have := h.trail; omega, Box.mod h.box hm h.xbF, fun hf => ?_, h.rd.mod0 hm (fun h0 k hk hf => ?_), fun k hk => ?_, h.xblo, h.rlt, h.below.trans (hm.below hsz h.lo)⟩
  · by_cases hw : (d.write i s).2 = 0
    · have := h.left
      unfold DiskM.write at *
      split
      · exact this
      split
      · exact this
      split
      · exact this
      · simp [this]
    · rw [write_same d i s hw]; exact h.left
  · rcases hF xb hf with h1 | h1
    · exact h.xbF h1
    · omega
  · have := h.rlt (by rw [List.length_map] at h0; exact h0) k hk
    have := h.lo k hf; omega
  · rcases hF k hk with h1 | h1
    · exact h.lo k h1
    · omega
set_option maxHeartbeats 3200000 in
theorem areaThere_calls (at_ n : Int) (e : UInt32) (v : Value) (l : List UInt8) (sv : Value) (acts : List ActA) (W : World) (ha : I64 at_) (hn : I64 n) (hv : Rd W v l.length (l.map V8)) (hl : l.length ≤ 140737488351232) (hsv : Rd W sv acts.length (acts.flatMap ActA.cells)) (hok : ∀ a ∈ acts, a.Ok W) (hg : ErrType W) :
    Calls Tryd.prog 3 #[.agg #[.int .i64 at_, .int .i64 n, .int .u32 (I32 e), v], sv] W fun r W' => r = .returned (.bool true) ∧ Below W.heap.size W W' := by
  obtain ⟨sa, sc, rfl⟩ : ∃ a c, sv = .slice a acts.length c := by obtain ⟨a, c, h, _⟩ := hsv; exact ⟨a, c, h⟩
  obtain ⟨va, vc, rfl⟩ : ∃ a c, v = .slice a l.length c := by obtain ⟨a, c, h, _⟩ := hv; exact ⟨a, c, h⟩
  have hbA := below_alloc W (.cells #[.int .i64 at_, .int .i64 n, .int .u32 (I32 e), .slice va l.length vc] 25)
  have Hr := Lib.hid (right_calls at_ n e _ l _ (hv.below hbA) ha hn)
  have hp1 := pickI_lt at_ 8 (by omega)
  have hp2 := pickI_lt n 12 (by omega)
  obtain ⟨k1, hk1⟩ : ∃ k1, k1 = pickI at_ 8 := ⟨_, rfl⟩
  obtain ⟨k2, hk2⟩ : ∃ k2, k2 = 1 + pickI n 12 := ⟨_, rfl⟩
  rw [← hk1, ← hk2] at Hr
  have hk10 : 0 ≤ k1 ∧ k1 < 8 := by omega
  have hk20 : 1 ≤ k2 ∧ k2 ≤ 12 := by omega
  have HBA := Lib.hid hbA
  have HV := Lib.hid hv
  have HSV := Lib.hid hsv
  have Hok := Lib.hid hok
  have HG := Lib.hid hg
  clear ha hn hp1 hp2 hk1 hk2 hv hsv hok hbA hg
  go_enter Tryd.func3, Tryd.ntmps3
  go_wp2_with fail
  refine Hr.out.mono ?_
  rintro r w1 ⟨xa, xc, m, hm, rfl, hrd, hbl, hb1⟩
  have hqm : (l.take m).length = m := by rw [List.length_take]; omega
  have hql : 0 < (l.take m).length → 0 < l.length := fun h => by rw [List.length_take] at h; omega
  have hq256 : ((l.take m).length : Int) ≤ k2 * 256 := by rw [hqm, hm]; omega
  generalize l.take m = q at hrd hqm hql hq256
  subst hqm
  have hbB := below_alloc w1 (.cells #[.int .i64 k1, .int .i64 k2, .int .u32 (I32 e), .slice xa q.length xc] 25)
  have hx := Box.new w1 #[.int .i64 k1, .int .i64 k2, .int .u32 (I32 e), .slice xa q.length xc] 25
  have HB := Lib.hid (below_trans (below_trans HBA.out hb1) hbB)
  have HRd := Lib.hid (hrd.below hbB)
  have hrlt : 0 < q.length → ∀ k, (Value.slice xa q.length xc).ownBlock = some k → k < W.heap.size := fun h0 k hk => HV.out.blk (by rw [List.length_map]; exact hql h0) k (hbl k hk)
  have HRlt := Lib.hid hrlt
  have Hq := Lib.hid hq256
  obtain ⟨xb, hxb⟩ : ∃ xb, xb = w1.heap.size := ⟨_, rfl⟩
  have Hxb := Lib.hid (show W.heap.size ≤ xb from by rw [hxb]; exact (below_trans HBA.out hb1).size)
  rw [← hxb] at hx
  have HX := Lib.hid hx
  have Hfr := Lib.hid (fun w => fresh_calls 40 w (by omega) (by omega))
  clear hm hrd hql hq256 hbl hb1 hbB hx hrlt Hr HBA hl
  go_wp2_with fail
  rw [← hxb]
  clear hxb
  generalize w1.alloc (.cells #[.int .i64 k1, .int .i64 k2, .int .u32 (I32 e), .slice xa q.length xc] 25) = w2 at HB HRd HX ⊢
  refine (Hfr.out _).mono ?_
  rintro r w3 ⟨p, F, rfl, hd, hb3, hF⟩
  have HD := Lib.hid hd
  have HX3 := Lib.hid (Box.below HX.out hb3)
  have HB3 := Lib.hid (below_trans HB.out hb3)
  have HRd3 := Lib.hid (HRd.out.below hb3)
  have hxbl := HX.out.lt
  have HFx := Lib.hid (show ¬ F xb ∧ ∀ k, F k → W.heap.size ≤ k from ⟨fun hf => by have := hF xb hf; omega, fun k hk => Nat.le_trans HB.out.size (hF k hk)⟩)
  clear hd hb3 hF Hfr HX HB HRd hxbl
  go_wp2_with fail
  refine (works14_calls _).mono ?_
  rintro r w4 ⟨rfl, hb4⟩
  have hm40 : mayA (freshM 40).strs.length k1 k2 := by rw [show (freshM 40).strs.length = 40 by simp [freshM]]; unfold mayA; omega
  obtain ⟨s1, s2, s3⟩ := save_yes (freshM 40) k1 k2 e.toNat q hm40 (by simp [freshM]) Hq.out (fun k h => by cases h)
  have hwf := saveM_wf (freshM_wf 40) k1 k2 e.toNat q
  have hlen := saveM_len (freshM 40) k1 k2 e.toNat q
  have htrl := saveM_trail (freshM 40) k1 k2 e.toNat q (by simp [freshM])
  have hqn : q.length ≤ 3072 := by have := Hq.out; omega
  have Hsv := Lib.hid (save_calls (freshM 40) p F k1 k2 e (.slice xa q.length xc) q w4 (HD.out.grow hb4) (HRd3.out.below hb4) (fun h0 k hk hf => by have := HRlt.out h0 k hk; have := HFx.out.2 k hf; omega) (by simp [freshM]) (by unfold I64; omega) (by unfold I64; omega) (by omega))
  obtain ⟨d1, hd1⟩ : ∃ d1, d1 = saveM (freshM 40) k1 k2 e.toNat q := ⟨_, rfl⟩
  rw [← hd1] at s1 s2 s3 hwf hlen htrl Hsv
  rw [s1, show errV 0 = .nilIface from rfl] at Hsv
  have HS := Lib.hid (And.intro s2 (And.intro s3 (And.intro hwf (And.intro hlen htrl))))
  have hx4 := Box.below HX3.out hb4
  have c0 := hx4.cell 0 _ rfl
  have c1 := hx4.cell 1 _ rfl
  have c2 := hx4.cell 2 _ rfl
  have c3 := hx4.cell 3 _ rfl
  have HX4 := Lib.hid hx4
  have HB4 := Lib.hid (below_trans HB3.out hb4)
  have HRd4 := Lib.hid (HRd3.out.below hb4)
  clear hb4 hm40 s1 s2 s3 hwf hlen htrl hqn hd1 hx4 HX3 HB3 HRd3 HD Hq
  go_wp2_with fail
  refine Hsv.out.mono ?_
  rintro r w5 ⟨rfl, F5, hd5, hm5, hF5⟩
  have hI : ThereI W xb p k1 k2 e xa xc q 0 d1.1 F5 w5 :=
    ⟨hd5, HS.out.1, HS.out.2.2.1, by rw [HS.out.2.1]; rfl, by rw [HS.out.2.2.2.1]; simp [freshM], by have := HS.out.2.2.2.2; simp [freshM] at this; omega, Box.mod HX4.out hm5 HFx.out.1, fun hf => by
      rcases hF5 xb hf with h1 | h1
      · exact HFx.out.1 h1
      · have := HX4.out.lt; omega, HRd4.out.mod0 hm5 (fun h0 k hk hf => by have := HRlt.out (by rw [List.length_map] at h0; exact h0) k hk; have := HFx.out.2 k hf; omega), fun k hk => by
      rcases hF5 k hk with h1 | h1
      · exact HFx.out.2 k h1
      · exact Nat.le_trans HB4.out.size h1, Hxb.out, HRlt.out, HB4.out.trans (hm5.below HB4.out.size HFx.out.2)⟩
  have His := Lib.hid (fun d F w c (h : ThereI W xb p k1 k2 e xa xc q c d F w) => is_yes d p F k1 k2 e (.slice xa q.length xc) q w h.disk (by unfold I64; omega) (by unfold I64; omega) (readB_short h.wf) h.rd (h.holds.load e.toNat_lt))
  have Hi5 := Lib.hid (His.out _ _ _ _ hI)
  have HI := Lib.hid hI
  have c0 := hI.box.cell 0 _ rfl
  have c1 := hI.box.cell 1 _ rfl
  have c2 := hI.box.cell 2 _ rfl
  have c3 := hI.box.cell 3 _ rfl
  clear hI hd5 hm5 hF5 HS HX4 HB4 HRd4 HFx HRlt Hxb Hsv
  go_wp2_with fail
  refine Hi5.out.mono ?_
  rintro r w6 ⟨rfl, hb6⟩
  have HI6 := Lib.hid (HI.out.to hb6)
  clear hb6 HI Hi5 c0 c1 c2 c3
  go_wp2_with fail
  generalize d1.1 = d6 at HI6
  obtain ⟨wo, hwo⟩ : ∃ wo : World, wo = w6 := ⟨_, rfl⟩
  rw [← hwo] at HI6 ⊢
  clear hwo
  go_loopg [7] acts.length (fun gk iv wr => ∃ (k : Nat) (d : DiskM) (F : Nat → Prop), gk + k = acts.length ∧ iv = .int .i64 (k : Int) ∧ k ≤ 100 ∧ ThereI W xb p k1 k2 e xa xc q k d F wr)
  case atStart => exact ⟨0, _, _, rfl, rfl, by omega, HI6.out⟩
  case round =>
    clear HI6
    obtain ⟨k, d, F, hgk, rfl, hk100, hI⟩ := hrel
    have Hgk := Lib.hid hgk
    have HI := Lib.hid hI
    by_cases hk : k < acts.length
    · have hk1 : (k : Int) < (acts.length : Int) := by omega
      by_cases hk2 : k < 100
      · have hk3 : (k : Int) < 100 := by omega
        obtain ⟨b, off, rfl, x0, x1, x2, x3, x4⟩ := actA_at (HSV.out.below hI.below) k hk
        have ho := Hok.out acts[k] (List.getElem_mem hk)
        generalize acts[k] = act at x0 x1 x2 x3 x4 ho
        have hpk := fun w => pick_calls act.at_ 40 w ho.at_.1 ho.at_.2 (by omega) (by omega)
        have hpl := pickI_lt act.at_ 40 (by omega)
        obtain ⟨a, ha⟩ : ∃ a, a = pickI act.at_ 40 := ⟨_, rfl⟩
        rw [← ha] at hpk hpl
        obtain ⟨pa, hpa⟩ : ∃ pa, pa = act.at_ := ⟨_, rfl⟩
        rw [← hpa] at hpk x1
        have hk0 : (0 : Int) ≤ (k : Int) := by omega
        have Hpk := Lib.hid hpk
        have c0 := hI.box.cell 0 _ rfl
        have c1 := hI.box.cell 1 _ rfl
        clear hpk ha hpa hI hgk x0 x2 x3
        go_wp2_with fail
        refine (Hpk.out _).mono ?_
        rintro r w7 ⟨rfl, rfl⟩
        by_cases hin : k1 ≤ a ∧ a ≤ k1 + 2 * k2
        · obtain ⟨hin1, hin2⟩ := hin
          clear x4 ho Hpk
          go_wp2_with fail
          go_roundg (acts.length - (k + 1))
          case measure => have := Hgk.out; omega
          case rel => exact ⟨k + 1, d, F, by have := Hgk.out; omega, by go_num, by omega, HI.out.more (Nat.le_succ _)⟩
        · obtain ⟨da, dc, hdv⟩ : ∃ da dc, act.v = .slice da act.l.length dc := by obtain ⟨a, c, e, _⟩ := ho.rd; exact ⟨a, c, e⟩
          have hrd := ho.rd.below HI.out.below
          have hsz := ho.len
          rw [hdv] at x4 hrd
          have kc := convS act.l hrd rfl
          obtain ⟨tx, htx⟩ : ∃ tx, tx = SB act.l := ⟨_, rfl⟩
          have htz : tx.size ≤ 140737488351232 := by rw [htx, SB_size]; exact hsz
          rw [← htx] at kc
          have Hw := Lib.hid (write_any d p F a tx wr HI.out.disk (by have := HI.out.trail; omega) (by omega))
          have her : (d.write a tx).2 = 0 ∨ (d.write a tx).2 = 3 := by
            have h40 := HI.out.n40
            unfold DiskM.write
            rw [if_neg (by omega)]
            split
            · exact .inr rfl
            · rw [if_neg (by rw [HI.out.left]; simp)]; exact .inl rfl
          have HN := Lib.hid (fun w2 F' => HI.out.write a tx (by omega) (w2 := w2) (F' := F'))
          obtain ⟨d2, hd2⟩ : ∃ d2, d2 = (d.write a tx).1 := ⟨_, rfl⟩
          obtain ⟨er, hre⟩ : ∃ er, er = (d.write a tx).2 := ⟨_, rfl⟩
          rw [← hd2, ← hre] at Hw
          rw [← hre] at her
          rw [← hd2] at HN
          generalize act.l.length = dl at x4 kc
          have hcase : (decide (k1 ≤ a) = false) ∨ (k1 ≤ a ∧ decide (a ≤ k1 + 2 * k2) = false) := by
            by_cases h1 : k1 ≤ a
            · right; refine ⟨h1, ?_⟩; rw [decide_eq_false_iff_not]; omega
            · left; rw [decide_eq_false_iff_not]; exact h1
          clear hdv hrd hsz htx htz hd2 hre ho Hpk hin HI
          rcases hcase with hA | ⟨hC1, hC2⟩
          all_goals rcases her with rfl | rfl
          · rw [show errV 0 = .nilIface from rfl] at Hw
            go_wp2_with fail
            refine Hw.out.mono ?_
            rintro r w8 ⟨rfl, F8, g1, g2, g3⟩
            have HI8 := Lib.hid (HN.out w8 F8 g1 g2 g3)
            clear g1 g2 g3 HN Hw
            go_wp2_with fail
            go_roundg (acts.length - (k + 1))
            case measure => have := Hgk.out; omega
            case rel => exact ⟨k + 1, _, _, by have := Hgk.out; omega, by go_num, by omega, HI8.out⟩
          · rw [show errV 3 = .iface 61 (.int .i64 3) from rfl] at Hw
            go_wp2_with fail
            refine Hw.out.mono ?_
            rintro r w8 ⟨rfl, F8, g1, g2, g3⟩
            have hI8 := HN.out w8 F8 g1 g2 g3
            have HI8 := Lib.hid hI8
            have Hpl := Lib.hid (plain_any 3 w8 (by omega) (by omega) (HG.out.below hI8.below))
            rw [show errV 3 = .iface 61 (.int .i64 3) from rfl] at Hpl
            clear g1 g2 g3 HN Hw hI8
            go_wp2_with fail
            refine Hpl.out.mono ?_
            rintro r w9 ⟨rfl, hb9⟩
            have HI9 := Lib.hid (HI8.out.to hb9)
            clear hb9 HI8 Hpl
            go_wp2_with fail
            go_roundg (acts.length - (k + 1))
            case measure => have := Hgk.out; omega
            case rel => exact ⟨k + 1, _, _, by have := Hgk.out; omega, by go_num, by omega, HI9.out⟩
          · rw [show errV 0 = .nilIface from rfl] at Hw
            go_wp2_with fail
            refine Hw.out.mono ?_
            rintro r w8 ⟨rfl, F8, g1, g2, g3⟩
            have HI8 := Lib.hid (HN.out w8 F8 g1 g2 g3)
            clear g1 g2 g3 HN Hw
            go_wp2_with fail
            go_roundg (acts.length - (k + 1))
            case measure => have := Hgk.out; omega
            case rel => exact ⟨k + 1, _, _, by have := Hgk.out; omega, by go_num, by omega, HI8.out⟩
          · rw [show errV 3 = .iface 61 (.int .i64 3) from rfl] at Hw
            go_wp2_with fail
            refine Hw.out.mono ?_
            rintro r w8 ⟨rfl, F8, g1, g2, g3⟩
            have hI8 := HN.out w8 F8 g1 g2 g3
            have HI8 := Lib.hid hI8
            have Hpl := Lib.hid (plain_any 3 w8 (by omega) (by omega) (HG.out.below hI8.below))
            rw [show errV 3 = .iface 61 (.int .i64 3) from rfl] at Hpl
            clear g1 g2 g3 HN Hw hI8
            go_wp2_with fail
            refine Hpl.out.mono ?_
            rintro r w9 ⟨rfl, hb9⟩
            have HI9 := Lib.hid (HI8.out.to hb9)
            clear hb9 HI8 Hpl
            go_wp2_with fail
            go_roundg (acts.length - (k + 1))
            case measure => have := Hgk.out; omega
            case rel => exact ⟨k + 1, _, _, by have := Hgk.out; omega, by go_num, by omega, HI9.out⟩
      · obtain rfl : k = 100 := by omega
        have c0 := hI.box.cell 0 _ rfl
        have c1 := hI.box.cell 1 _ rfl
        have c2 := hI.box.cell 2 _ rfl
        have c3 := hI.box.cell 3 _ rfl
        have Hi := Lib.hid (His.out _ _ _ _ hI)
        clear hI hgk hk2 hk100
        go_wp2_with fail
        refine Hi.out.mono ?_
        rintro r w7 ⟨rfl, hb7⟩
        have HN := Lib.hid (HI.out.to hb7).below
        clear hb7
        go_wp2_with fail
        go_ret
        exact ⟨rfl, HN.out⟩
    · have hk1 : ¬ (k : Int) < (acts.length : Int) := by omega
      have c0 := hI.box.cell 0 _ rfl
      have c1 := hI.box.cell 1 _ rfl
      have c2 := hI.box.cell 2 _ rfl
      have c3 := hI.box.cell 3 _ rfl
      have Hi := Lib.hid (His.out _ _ _ _ hI)
      clear hI hgk hk hk100
      go_wp2_with fail
      refine Hi.out.mono ?_
      rintro r w7 ⟨rfl, hb7⟩
      have HN := Lib.hid (HI.out.to hb7).below
      clear hb7
      go_wp2_with fail
      go_ret
      exact ⟨rfl, HN.out⟩
end Go.Proofs.YtbmijamailfaeaaDoor
