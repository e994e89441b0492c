/-
  The law EventCut.
-/
import Derived.Test.YtacponljnphbnaaDoorEvWorks
import Derived.Test.YtacponljnphbnaaDoorCutM
import Derived.Test.YtacponljnphbnaaDoorDec
import Derived.Test.YtacponljnphbnaaDoorEvEnc
import Derived.Test.YtacponljnphbnaaDoorPick
namespace Go.Proofs.YtacponljnphbnaaDoor
open Go.RowKit
set_option maxRecDepth 100000

set_option maxHeartbeats 800000 in
theorem copyO_calls (v : Value) (l : List UInt8) (w : World) (hv : Rd w v l.length (l.map V8)) (hn : l.length ≤ 140737488355000) :
    Calls Tryd.prog 18 #[v] w fun e w' => ∃ o, e = .returned o ∧ OwnM w' w.heap.size 5 o l.length (l.map V8) ∧ Below w.heap.size w w' := by
  obtain ⟨a, cap, rfl, hc1, hc2, _, hc⟩ := hv
  have Hc := Lib.hid hc
  clear hc
  go_enter Tryd.func18, Tryd.ntmps18
  go_wp2_with fail
  go_loopg [3, 4] l.length (fun gk o iv wr => ∃ k : Nat, gk + k = l.length ∧ iv = .int .i64 (k : Int) ∧ OwnM wr w.heap.size 5 o k ((l.take k).map V8) ∧ Below w.heap.size w wr)
  case atStart => exact ⟨0, rfl, rfl, OwnM.nil _ _ _, Below.refl _ _⟩
  case round =>
    obtain ⟨k, hgk, rfl, hown, hb⟩ := hrel
    have k0 : (0 : Int) ≤ (k : Int) := by omega
    by_cases hk : k < l.length
    · obtain ⟨b, off, rfl, hcell'⟩ := Hc.out k (by simpa using hk)
      obtain ⟨y, hy⟩ : ∃ y, y = l[k] := ⟨_, rfl⟩
      have hcell : wr.cell? ⟨b, off + k, none⟩ = some (.int .u8 (y.toNat : Int)) := below_heap hb (by rw [hcell', hy]; simp [hk, V8])
      have k1 : (k : Int) < (l.length : Int) := by omega
      have hs := hb.size
      have HG := Lib.hid hgk
      have HK := Lib.hid hk
      have HL := Lib.hid (show k + 1 ≤ 140737488355328 by omega)
      have HT := Lib.hid (show (l.take (k + 1)).map V8 = (l.take k).map V8 ++ [.int .u8 (y.toNat : Int)] by rw [List.take_succ_eq_append_getElem hk, List.map_append, hy]; rfl)
      clear hcell' hgk hk hy
      go_wp2_with (at_builtin; refine appM1 rfl _ _ rfl w.heap.size _ _ _ rfl (hown.below (below_alloc wr _)) ⟨wr.heap.size, 0, none⟩ 1 (.int .u8 (y.toNat : Int)) rfl (by exact cell_one_new _ _ _ 0 _ rfl) (by simp [Value.oneCell']) (by have := HL.out; omega) (by simp; omega) ?_)
      intro v' w1 hown' hg' _ _
      have hb' := hb.trans ((below_alloc wr (.cells #[.int .u8 (y.toNat : Int)] 5)).mono hs)
      have HB1 := Lib.hid (hb'.trans (below_grown hg' (by simp; omega) (fun q hq => (hown.lt q hq).1)))
      have HO1 := Lib.hid hown'
      clear hb' hg' hown' hown hb hcell
      go_wp2_with fail
      go_roundg (l.length - (k + 1))
      case measure => have := HG.out; have := HK.out; omega
      case rel => exact ⟨k + 1, by have := HG.out; have := HK.out; omega, by go_num, by rw [HT.out, List.map_take]; exact HO1.out, HB1.out⟩
    · have k1 : ¬ (k : Int) < (l.length : Int) := by omega
      obtain rfl : k = l.length := by omega
      rw [List.take_of_length_le (Nat.le_refl _)] at hown
      clear hk
      go_wp2_with fail
      go_ret
      exact ⟨_, rfl, hown, hb⟩
theorem headRd {w : World} {a : Option Addr} {n cap : Nat} {l : List UInt8} (h : Rd w (.slice a n cap) n (l.map V8)) (hl : l.length = n) (p : Nat) (hp : p ≤ n) : Rd w (.slice a p cap) (l.take p).length ((l.take p).map V8) := by
  have hc : n ≤ cap := by obtain ⟨_, _, e, h5, _⟩ := h; injection e with _ _ e3; omega
  have := h.cut (m := p) (by omega) p
  rw [List.length_take, Nat.min_eq_left (by omega), List.map_take]; exact this
set_option maxHeartbeats 3200000 in
theorem eventCut_calls (e : EvtM) (at_ : Int) (c : UInt8) (w : World) (hok : EvOk e) (hat : I64 at_) (hg : ErrType w) :
    Calls Tryd.prog 5 #[.agg e.cells, .int .i64 at_, .int .u8 (c.toNat : Int)] w fun ev w' => ev = .returned (.bool true) ∧ Below w.heap.size w w' := by
  have HE := Lib.hid (show e.cells = #[.int .i64 e.kind, .int .i64 e.s.slot, .int .i64 e.s.birth, .int .i64 e.s.upS, .int .i64 e.s.upB, .int .i64 e.s.kind, .string (SB e.s.user), .string (SB e.s.label), .int .u64 (e.s.scopes : Int), .int .i64 e.s.level, .int .i64 e.s.born, .int .i64 e.s.deadline, .int .i64 e.s.depth, .int .i64 e.birth, .int .i64 e.ticks] from rfl)
  have Hbx0 := Lib.hid (Box.new w e.cells 29)
  have HB0 := Lib.hid (below_alloc w (.cells e.cells 29))
  have Hen := Lib.hid (fun w => enc_calls e w (Nat.le_trans hok.user (by decide)) (Nat.le_trans hok.label (by decide)) hok.scopes)
  have HG := Lib.hid hg
  have HSC := Lib.hid hok.scopes
  have HAT := Lib.hid hat
  have hz1 : (SB e.s.user).size = e.s.user.length := SB_size _
  have hz2 : (SB e.s.label).size = e.s.label.length := SB_size _
  clear hg hok hat
  rw [HE.out] at Hbx0 HB0 Hen ⊢
  go_enter Tryd.func5, Tryd.ntmps5
  go_wp2_with fail
  refine (worksEv_calls _).mono ?_
  rintro ev w1 ⟨rfl, hb1⟩
  have hbx1 := Hbx0.out.below hb1
  have HB1 := Lib.hid (HB0.out.trans (hb1.mono (by simp)))
  have cu := hbx1.cell 6 _ rfl
  have cl := hbx1.cell 7 _ rfl
  have HX1 := Lib.hid hbx1
  clear hb1 hbx1 Hbx0 HB0
  by_cases hu : (65536 : Int) < (e.s.user.length : Int)
  · go_wp2_with fail
    go_ret
    exact ⟨rfl, HB1.out⟩
  by_cases hl : (65536 : Int) < (e.s.label.length : Int)
  · go_wp2_with fail
    go_ret
    exact ⟨rfl, HB1.out⟩
  have HR := Lib.hid (HX1.out.rangeE)
  go_wp2_with ((with_reducible refine wpList_load_k ?ga0 29 (.tmp 3) ?ga1 w.heap.size 0 ?ga2 e.cells.toList _ HR.out Tryd.underlying29 ?ga3 ?ga4 ?ga8); (case ga1 => rfl); (case ga0 => rfl); (case ga2 => rfl); (case ga3 => rfl); (case ga4 => kernel_rfl))
  intro cv hcv
  have ecv : cv = #[.int .i64 e.kind, .int .i64 e.s.slot, .int .i64 e.s.birth, .int .i64 e.s.upS, .int .i64 e.s.upB, .int .i64 e.s.kind, .string (SB e.s.user), .string (SB e.s.label), .int .u64 (e.s.scopes : Int), .int .i64 e.s.level, .int .i64 e.s.born, .int .i64 e.s.deadline, .int .i64 e.s.depth, .int .i64 e.birth, .int .i64 e.ticks] := by rw [hcv.out]; rfl
  rw [ecv]
  clear hcv ecv cv hu hl hz1 hz2 cu cl HR
  go_wp2_with fail
  refine (Hen.out _).mono ?_
  rintro ev w2 ⟨o, rfl, ho, hb2⟩
  have HB2 := Lib.hid (HB1.out.trans (hb2.mono HB1.out.size))
  have HO := Lib.hid ho
  clear ho hb2 HX1 Hen
  obtain ⟨oa, oc, rfl, _⟩ := HO.out.slice
  cases hmay : mayE e
  · have hn : encN e = 1 := by unfold encN; rw [hmay]; rfl
    rw [hn, show errV 1 = .iface 59 (.int .i64 1) from rfl]
    clear hn hmay HO
    go_wp2_with fail
    go_ret
    exact ⟨rfl, HB2.out⟩
  have hn : encN e = 0 := by unfold encN; rw [hmay]; rfl
  have hm : encM e = evB e := by unfold encM; rw [hmay]; rfl
  rw [hm] at HO ⊢
  rw [hn, show errV 0 = .nilIface from rfl]
  have hpos := @evB_pos e
  have hlen := encM_len e
  rw [hm] at hlen
  have hcut := fun p hp => decM_cut (e := e) hmay HSC.out p hp
  have hmore := decM_more (e := e) hmay HSC.out c
  clear hn hm hmay
  generalize evB e = L at HO hpos hlen hcut hmore ⊢
  have hrow := HO.out.rd
  have g0 : ((L.length : Int) == 0) = false := by rw [beq_eq_false_iff_ne]; omega
  have hpk := pickI_lt at_ (L.length : Int) (by omega)
  have Hpick := Lib.hid (fun w => pick_calls at_ (L.length : Int) w HAT.out.1 HAT.out.2 (by omega) (by omega))
  obtain ⟨p, hp⟩ : ∃ p : Nat, pickI at_ (L.length : Int) = (p : Int) := ⟨(pickI at_ (L.length : Int)).toNat, by omega⟩
  rw [hp] at hpk Hpick
  have hpl : p < L.length := by omega
  have hcp : L.length ≤ oc := by obtain ⟨_, _, e2, h5, _⟩ := hrow; cases e2; exact h5
  have hhd := fun w => headB oa L.length oc p (by omega) w
  have hrd2 := headRd hrow rfl p (by omega)
  have Hd1 := Lib.hid (dec_calls _ (L.take p) w2 hrd2 (by rw [List.length_take]; omega))
  rw [hcut p hpl] at Hd1
  have Hcp := Lib.hid (fun w h => copyO_calls (.slice oa L.length oc) L w h (by omega))
  have HLL := Lib.hid (show L.length + 1 ≤ 2000 by omega)
  have HMO := Lib.hid hmore
  clear hp hpk hpl hcut hmore hpos hlen hrow hrd2 hcp
  go_wp2_with fail
  refine (Hpick.out _).mono ?_
  rintro ev w3 ⟨rfl, rfl⟩
  go_wp2_with fail
  refine Hd1.out.mono ?_
  rintro ev w4 ⟨rfl, hb4⟩
  have hal := below_alloc w4 (.cells #[.int .i64 0, .int .i64 0, .int .i64 0, .int .i64 0, .int .i64 0, .int .i64 0, .string ⟨#[]⟩, .string ⟨#[]⟩, .int .u64 0, .int .i64 0, .int .i64 0, .int .i64 0, .int .i64 0, .int .i64 0, .int .i64 0] 29)
  have HO5 := Lib.hid ((HO.out.below hb4).below hal)
  have HB5 := Lib.hid ((HB2.out.trans (hb4.mono HB2.out.size)).trans (hal.mono (Nat.le_trans HB2.out.size hb4.size)))
  have hnv : noEvt.cells = #[.int .i64 0, .int .i64 0, .int .i64 0, .int .i64 0, .int .i64 0, .int .i64 0, .string ⟨#[]⟩, .string ⟨#[]⟩, .int .u64 0, .int .i64 0, .int .i64 0, .int .i64 0, .int .i64 0, .int .i64 0, .int .i64 0] := rfl
  rw [show ((2 : Int), noEvt).2.cells = #[.int .i64 0, .int .i64 0, .int .i64 0, .int .i64 0, .int .i64 0, .int .i64 0, .string ⟨#[]⟩, .string ⟨#[]⟩, .int .u64 0, .int .i64 0, .int .i64 0, .int .i64 0, .int .i64 0, .int .i64 0, .int .i64 0] from hnv, show errV ((2 : Int), noEvt).1 = .iface 59 (.int .i64 2) from rfl]
  clear hal hb4 hnv Hd1 Hpick HO HB2 hhd
  go_wp2_with fail
  refine (Hcp.out _ HO5.out.rd).mono ?_
  rintro ev w6 ⟨o2, rfl, ho6, hb6⟩
  have HB6 := Lib.hid (HB5.out.trans (hb6.mono HB5.out.size))
  obtain ⟨xa, xc, rfl, _⟩ := ho6.slice
  have hbase := hb6.size
  have HBA := Lib.hid HB5.out.size
  clear hb6 HO5 HB5 Hcp
  go_wp2_with (at_builtin; refine appM1 rfl _ _ rfl _ _ _ _ rfl (ho6.below (below_alloc w6 _)) ⟨w6.heap.size, 0, none⟩ 1 (.int .u8 (c.toNat : Int)) rfl (by exact cell_one_new _ _ _ 0 _ rfl) (by simp [Value.oneCell']) (by have := HLL.out; omega) (Nat.le_trans hbase (below_alloc w6 _).size) ?_)
  intro v7 w7 hown' hg' _ _
  have hbw : Below w.heap.size w w7 := by
    have h1 := HB6.out.trans ((below_alloc w6 (.cells #[.int .u8 (c.toNat : Int)] 5)).mono HB6.out.size)
    have h2 := HBA.out
    exact h1.trans (below_grown hg' h1.size (fun q hq => by have := (ho6.lt q hq).1; omega))
  have hrd7 : Rd w7 v7 (L ++ [c]).length ((L ++ [c]).map V8) := by
    have := hown'.rd
    rw [List.length_append, List.map_append]; exact this
  have Hd2 := Lib.hid (dec_calls v7 (L ++ [c]) w7 hrd7 (by rw [List.length_append, List.length_singleton]; have := HLL.out; omega))
  rw [HMO.out] at Hd2
  have HB7 := Lib.hid hbw
  obtain ⟨ya, yc, rfl, _⟩ := hown'.slice
  clear hbw hrd7 hown' hg' ho6 hbase HB6 HMO
  go_wp2_with fail
  refine Hd2.out.mono ?_
  rintro ev w8 ⟨rfl, hb8⟩
  have hal := below_alloc w8 (.cells #[.int .i64 0, .int .i64 0, .int .i64 0, .int .i64 0, .int .i64 0, .int .i64 0, .string ⟨#[]⟩, .string ⟨#[]⟩, .int .u64 0, .int .i64 0, .int .i64 0, .int .i64 0, .int .i64 0, .int .i64 0, .int .i64 0] 29)
  have HB9 := Lib.hid ((HB7.out.trans (hb8.mono HB7.out.size)).trans (hal.mono (Nat.le_trans HB7.out.size hb8.size)))
  rw [show ((3 : Int), noEvt).2.cells = #[.int .i64 0, .int .i64 0, .int .i64 0, .int .i64 0, .int .i64 0, .int .i64 0, .string ⟨#[]⟩, .string ⟨#[]⟩, .int .u64 0, .int .i64 0, .int .i64 0, .int .i64 0, .int .i64 0, .int .i64 0, .int .i64 0] from rfl, show errV ((3 : Int), noEvt).1 = .iface 59 (.int .i64 3) from rfl]
  clear hal hb8 Hd2 HB7
  have HG9 := Lib.hid (HG.out.below HB9.out)
  have Hp2 := Lib.hid (fun w h => plain_any 2 w (by decide) (by decide) h)
  have Hp3 := Lib.hid (fun w h => plain_any 3 w (by decide) (by decide) h)
  rw [show errV 2 = .iface 59 (.int .i64 2) from rfl] at Hp2
  rw [show errV 3 = .iface 59 (.int .i64 3) from rfl] at Hp3
  go_wp2_with fail
  refine (Hp2.out _ HG9.out).mono ?_
  rintro ev w10 ⟨rfl, hb10⟩
  have HB10 := Lib.hid (HB9.out.trans (hb10.mono HB9.out.size))
  have HG10 := Lib.hid (HG9.out.below hb10)
  clear hb10 HB9 HG9 Hp2
  go_wp2_with fail
  refine (Hp3.out _ HG10.out).mono ?_
  rintro ev w11 ⟨rfl, hb11⟩
  have HB11 := Lib.hid (HB10.out.trans (hb11.mono HB10.out.size))
  clear hb11 HB10 HG10 Hp3
  go_wp2_with fail
  go_ret
  exact ⟨rfl, HB11.out⟩
end Go.Proofs.YtacponljnphbnaaDoor
