/-
  The document's answer for chapter 14: lies, Load.
-/
import Derived.Test.YtbmijamailfaeaaDoorRefAreaS
namespace Go.Proofs.YtbmijamailfaeaaDoor
open Go.RowKit
set_option maxRecDepth 100000

set_option maxHeartbeats 1600000 in
theorem refLies_calls (d : DiskM) (rp : Nat) (G : Nat → Prop) (fb : Int) (z : Nat) (w : World) (h : IsRef w d rp G) (hwf : d.Wf) (ht : d.trail.length ≤ 100000000000) (hs : ∀ b, (readB d b).length ≤ 9223372036854775807) (hfb0 : 0 ≤ fb) (hfb1 : fb ≤ 10000) (hz : z ≤ 1048576) :
    Calls Tryd.prog 63 #[.pointer (some ⟨rp, 0, none⟩), .int .i64 fb, .int .i64 (z : Int)] w fun e w' => ∃ v, e = .returned (.tuple #[v, .bool (liesM d (z + 1) fb z []).isSome]) ∧ OwnM w' w.heap.size 5 v ((liesM d (z + 1) fb z []).getD []).length (((liesM d (z + 1) fb z []).getD []).map V8) ∧ Below w.heap.size w w' := by
  have HR := Lib.hid h
  have HW := Lib.hid hwf
  have Ht := Lib.hid ht
  have Hs := Lib.hid hs
  have HZ := Lib.hid hz
  have Hfb := Lib.hid hfb1
  have hz8 : (z : Int) ≤ 1048576 := by omega
  clear h hwf ht hs hz hfb1
  go_enter Tryd.func63, Tryd.ntmps63
  go_wp2_with fail
  go_loopg [8, 9] (z + 1) (fun gk dv iv wr => ∃ (acc : List UInt8) (i : Nat), gk = z + 1 - i ∧ iv = .int .i64 (i : Int) ∧ OwnM wr w.heap.size 5 dv acc.length (acc.map V8) ∧ Below w.heap.size w wr ∧ liesM d (z + 1) fb z [] = liesM d (z + 1 - i) (fb + i) z acc ∧ i ≤ acc.length ∧ acc.length ≤ z)
  case atStart => exact ⟨[], 0, rfl, rfl, OwnM.nil _ _ _, Below.refl _ _, by simp, Nat.zero_le _, Nat.zero_le _⟩
  case round =>
    obtain ⟨acc, i, hgk, rfl, hown, hbw, hlies, hia, hal⟩ := hrel
    obtain ⟨da, dc, rfl⟩ := hown.form
    have Hgk := Lib.hid hgk
    have HO := Lib.hid hown
    have HB := Lib.hid hbw
    have HLi := Lib.hid hlies
    clear hgk hown hbw hlies
    by_cases hlt : acc.length < z
    · have hlt1 : (acc.length : Int) < (z : Int) := by omega
      have hiz : (i : Int) ≤ (z : Int) := by omega
      obtain ⟨b, hb⟩ : ∃ b, b = fb + (i : Int) := ⟨_, rfl⟩
      have hrdb := refRead_any d rp G b wr (HR.out.below HB.out) HW.out Ht.out
      rw [readB_eq] at hrdb
      obtain ⟨k, hk⟩ : ∃ k, k = min (z - acc.length) 256 := ⟨_, rfl⟩
      have hmi : ∀ ts t w', (Builtin.min_ ts t #[.int .i64 ((z : Int) - (acc.length : Int)), .int .i64 256]).run Tryd.prog w' = .ok (.int .i64 (k : Int)) w' := fun ts t w' => by
        rw [run_min_int2]
        congr 2
        by_cases h : (256 : Int) < (z : Int) - (acc.length : Int)
        · rw [if_pos h]; omega
        · rw [if_neg h]; omega
      obtain ⟨t, htt⟩ : ∃ t, t = readB d b := ⟨_, rfl⟩
      have htl : t.length ≤ 9223372036854775807 := by rw [htt]; exact Hs.out b
      have hno : t.length < k → liesM d (z + 1) fb z [] = none := fun h => by
        rw [HLi.out]; exact liesM_no d _ _ z acc (by omega) hlt (by rw [← hb, ← htt, ← hk]; exact h)
      have hyes : ¬ t.length < k → liesM d (z + 1) fb z [] = liesM d (z + 1 - (i + 1)) (fb + ((i + 1 : Nat) : Int)) z (acc ++ t.take k) := fun h => by
        rw [HLi.out, show z + 1 - i = (z + 1 - (i + 1)) + 1 by omega, liesM_step d _ _ z acc hlt (by rw [← hb, ← htt, ← hk]; exact h), ← hb, ← htt, ← hk, show b + 1 = fb + ((i + 1 : Nat) : Int) by omega]
      rw [← htt] at hrdb
      obtain ⟨er, her⟩ : ∃ er, er = (d.read b).2 := ⟨_, rfl⟩
      rw [← her] at hrdb
      obtain ⟨tx, htx⟩ : ∃ tx, tx = SB t := ⟨_, rfl⟩
      have htsz : tx.size = t.length := by rw [htx, SB_size]
      rw [← htx] at hrdb
      have hk0 : 0 < k := by omega
      have hkz : acc.length + k ≤ z := by omega
      have hfi : fb + (i : Int) = b := hb.symm
      have hb9 : b < 1000000000 := by have := Hfb.out; omega
      have hi9 : (i : Int) ≤ 1048576 := by omega
      have Hrdb := Lib.hid hrdb
      have Hno := Lib.hid hno
      have Hyes := Lib.hid hyes
      have Htx := Lib.hid htx
      clear hrdb hno hyes htt htx her hk hb
      by_cases hlk : t.length < k
      · have Hl := Lib.hid (Hno.out hlk)
        have hlk1 : (t.length : Int) < (k : Int) := by omega
        clear Hno Hyes
        go_wp2_with fail
        refine Hrdb.out.mono ?_
        rintro r w3 ⟨rfl, rfl⟩
        go_wp2_with fail
        go_ret2
        rw [Hl.out]
        exact ⟨_, rfl, OwnM.nil _ _ _, HB.out⟩
      · have hlk1 : decide ((t.length : Int) < (k : Int)) = false := by simp; omega
        have hst := fun w => sliceTo w t k (by omega)
        rw [← Htx.out] at hst
        obtain ⟨tk, htk⟩ : ∃ tk, tk = SB (t.take k) := ⟨_, rfl⟩
        rw [← htk] at hst
        have Htk := Lib.hid htk
        have Hy := Lib.hid (Hyes.out hlk)
        have htkl : (t.take k).length = k := by rw [List.length_take]; omega
        have Htkl := Lib.hid htkl
        have hsz := HB.out.size
        clear htk htkl Hyes Hno
        go_wp2_with fail
        refine Hrdb.out.mono ?_
        rintro r w3 ⟨rfl, rfl⟩
        go_wp2_with (at_builtin; refine appMS rfl _ _ rfl w.heap.size _ _ _ rfl HO.out (t.take k) (by show Value.string tk = _; rw [Htk.out]) (by rw [Htkl.out]; have := HZ.out; omega) hsz ?_)
        intro v' w4 hown' hg' _
        have hb4 := HB.out.trans (below_grown hg' hsz (fun q hq => (HO.out.lt q hq).1))
        rw [← List.map_take, ← List.map_append, Nat.min_eq_left (by omega)] at hown'
        have HN := Lib.hid (And.intro hown' hb4)
        clear hown' hg' hb4
        go_wp2_with fail
        go_roundg (z + 1 - (i + 1))
        case measure => have := Hgk.out; omega
        case rel => exact ⟨acc ++ t.take k, i + 1, rfl, by go_num, by rw [List.length_append, Htkl.out]; exact HN.out.1, HN.out.2, Hy.out, by rw [List.length_append, Htkl.out]; omega, by rw [List.length_append, Htkl.out]; omega⟩
    · have hlt1 : ¬ ((acc.length : Int) < (z : Int)) := by omega
      have Hl := Lib.hid (show liesM d (z + 1) fb z [] = some acc by rw [HLi.out, liesM_done _ _ _ _ _ hlt])
      go_wp2_with fail
      go_ret2
      rw [Hl.out]
      exact ⟨_, rfl, HO.out, HB.out⟩
/-- What the document's Load tells. -/
def ToldR (W : World) (r : Nat × List UInt8 × Int) (e : Ending) (W' : World) : Prop :=
  ∃ v, e = .returned (.tuple #[.int .u32 (r.1 : Int), v, .int .i64 r.2.2]) ∧ OwnM W' W.heap.size 5 v r.2.1.length (r.2.1.map V8) ∧ Below W.heap.size W W'
set_option maxHeartbeats 1600000 in
theorem refLoad_calls (d : DiskM) (rp : Nat) (G : Nat → Prop) (at_ n : Int) (w : World) (h : IsRef w d rp G) (hwf : d.Wf) (hN : d.strs.length ≤ 4096) (ht : d.trail.length ≤ 100000000000) (ha : I64 at_) (hn : I64 n) (hs : ∀ b, (readB d b).length ≤ 9223372036854775807) :
    Calls Tryd.prog 41 #[.pointer (some ⟨rp, 0, none⟩), .int .i64 at_, .int .i64 n] w (ToldR w (loadM d at_ n)) := by
  have Hm := Lib.hid (refMay_calls d rp G at_ n w h hN ha hn)
  have HR := Lib.hid h
  have Hs := Lib.hid hs
  have Hlies := Lib.hid (fun fb z w (h : IsRef w d rp G) => refLies_calls d rp G fb z w h hwf ht hs)
  by_cases hm : mayA d.strs.length at_ n
  · rw [decide_eq_true hm] at Hm
    have hm0 := hm
    unfold mayA at hm0
    obtain ⟨m1, m2, m3⟩ := hm0
    have hn1 : n ≤ 4096 := by omega
    have ha1 : at_ ≤ 4096 := by omega
    have hld : loadM d at_ n = (if readB d at_ = [] then (0, [], 10)
      else if (readB d at_).length = 16 then
        if n * 256 < ((num4 (readB d at_) 4 : Nat) : Int) then (0, [], 21)
        else match liesM d (num4 (readB d at_) 4 + 1) (firstA at_ n (num4 (readB d at_) 0)) (num4 (readB d at_) 4) [] with
          | none => (0, [], 21)
          | some p => if hdrM (num4 (readB d at_) 0) p = readB d at_ then (num4 (readB d at_) 0, p, 0) else (0, [], 21)
      else (0, [], 21) : Nat × List UInt8 × Int) := by unfold loadM; rw [if_pos hm]; rfl
    have hrd := refRead_any d rp G at_ w h hwf ht
    rw [readB_eq] at hrd
    obtain ⟨s, hse⟩ : ∃ s, s = readB d at_ := ⟨_, rfl⟩
    obtain ⟨er, her⟩ : ∃ er, er = (d.read at_).2 := ⟨_, rfl⟩
    rw [← hse] at hld hrd
    rw [← her] at hrd
    have hsl : s.length ≤ 9223372036854775807 := by rw [hse]; exact hs at_
    have Hrd := Lib.hid hrd
    have Hld := Lib.hid hld
    clear h hs ha hn hN m3 hm hld hrd hse her hwf ht
    by_cases hs0 : s = []
    · have hl : loadM d at_ n = (0, [], 10) := by rw [Hld.out, if_pos hs0]
      rw [hl]
      obtain ⟨st, hst⟩ : ∃ st, st = SB s := ⟨_, rfl⟩
      have hem : st.toList.isEmpty = true := by rw [hst, SB_toList, hs0]; rfl
      rw [← hst] at Hrd
      clear hst hs0 hl Hld
      go_enter Tryd.func41, Tryd.ntmps41
      go_wp2_with fail
      refine Hm.out.mono ?_
      rintro r w1 ⟨rfl, rfl⟩
      go_wp2_with fail
      refine Hrd.out.mono ?_
      rintro r w2 ⟨rfl, rfl⟩
      go_wp2_with fail
      go_ret3
      exact ⟨_, rfl, OwnM.nil _ _ _, Below.refl _ _⟩
    · obtain ⟨st, hst⟩ : ∃ st, st = SB s := ⟨_, rfl⟩
      have hem : st.toList.isEmpty = false := by
        rw [hst, SB_toList]
        cases s with
        | nil => exact absurd rfl hs0
        | cons _ _ => rfl
      have hsz : st.size = s.length := by rw [hst, SB_size]
      rw [← hst] at Hrd
      by_cases h16 : s.length = 16
      · have hld2 : loadM d at_ n = (if n * 256 < ((num4 s 4 : Nat) : Int) then (0, [], 21)
          else match liesM d (num4 s 4 + 1) (firstA at_ n (num4 s 0)) (num4 s 4) [] with
            | none => (0, [], 21)
            | some p => if hdrM (num4 s 0) p = s then (num4 s 0, p, 0) else (0, [], 21) : Nat × List UInt8 × Int) := by rw [Hld.out, if_neg hs0, if_pos h16]
        have hw1 := fun w => refNumber_calls s 0 w (by omega) (by omega)
        have hw2 := fun w => refNumber_calls s 4 w (by omega) (by omega)
        obtain ⟨eu, heu⟩ : ∃ eu, eu = UInt32.ofNat (num4 s 0) := ⟨_, rfl⟩
        have hen : num4 s 0 = eu.toNat := by
          rw [heu]; show num4 s 0 = num4 s 0 % 2 ^ 32
          have := num4_lt s 0; omega
        obtain ⟨z, hz⟩ : ∃ z, z = num4 s 4 := ⟨_, rfl⟩
        have hzlt : z < 4294967296 := by rw [hz]; exact num4_lt s 4
        rw [← hst, hen] at hw1
        rw [← hst, ← hz] at hw2
        rw [hen, ← hz] at hld2
        replace hw1 : ∀ w, Calls Tryd.prog 62 #[.string st, .int .i64 0] w fun e w' => e = .returned (.int .u32 (I32 eu)) ∧ ∃ k, w' = w.drewN k := hw1
        replace hw2 : ∀ w, Calls Tryd.prog 62 #[.string st, .int .i64 4] w fun e w' => e = .returned (.int .u32 (z : Int)) ∧ ∃ k, w' = w.drewN k := hw2
        have Hw1 := Lib.hid hw1
        have Hw2 := Lib.hid hw2
        have Hld2 := Lib.hid hld2
        have Hst := Lib.hid hst
        have Hzl := Lib.hid hzlt
        have hcv2 : ∀ w, (convert 22 3 (.int .u32 (z : Int))).run Tryd.prog w = .ok (.int .i64 (z : Int)) w := fun w => by
          rw [run_convert_int (P := Tryd.prog) w 22 3 .u32 (z : Int) (by kernel_rfl) (by kernel_rfl), show Tryd.prog.intKind 3 = .i64 by kernel_rfl]
          have hwr : IntKind.i64.wrap (z : Int) = (z : Int) := by
            simp [IntKind.wrap, IntKind.bits, IntKind.signed]; omega
          rw [hwr]
        clear hst hs0 hw1 hw2 heu hen hz hld2 Hld hzlt
        go_enter Tryd.func41, Tryd.ntmps41
        go_wp2_with fail
        refine Hm.out.mono ?_
        rintro r w1 ⟨rfl, rfl⟩
        go_wp2_with fail
        refine Hrd.out.mono ?_
        rintro r w2 ⟨rfl, rfl⟩
        go_wp2_with fail
        refine (Hw1.out _).mono ?_
        rintro r w1 ⟨rfl, k1, rfl⟩
        go_wp2_with fail
        refine (Hw2.out _).mono ?_
        rintro r w3 ⟨rfl, k2, rfl⟩
        have hbq : Below w2.heap.size w2 ((w2.drewN k1).drewN k2) := ⟨rfl, rfl, rfl, Nat.le_refl _, fun _ _ => rfl⟩
        have HBq := Lib.hid hbq
        have HRq := Lib.hid (HR.out.below hbq)
        generalize (w2.drewN k1).drewN k2 = w4 at HBq HRq ⊢
        clear hbq Hw1 Hw2
        by_cases hz : n * 256 < (z : Int)
        · have Hl := Lib.hid (show loadM d at_ n = (0, [], 21) by rw [Hld2.out, if_pos hz])
          go_wp2_with fail
          go_ret3
          rw [Hl.out]
          exact ⟨_, rfl, OwnM.nil _ _ _, HBq.out⟩
        · obtain ⟨fb, hfb⟩ : ∃ fb, fb = firstA at_ n eu.toNat := ⟨_, rfl⟩
          have hld3 : loadM d at_ n = (match liesM d (z + 1) fb z [] with
            | none => (0, [], 21)
            | some p => if hdrM eu.toNat p = s then (eu.toNat, p, 0) else (0, [], 21) : Nat × List UInt8 × Int) := by rw [Hld2.out, if_neg hz, hfb]
          have hz' : decide (n * 256 < (z : Int)) = false := by simp; omega
          have HZ := Lib.hid (show z ≤ 1048576 by omega)
          have Hff := Lib.hid (refFirst_calls at_ n eu w4 (by omega) (by omega))
          rw [← hfb] at Hff
          have hfb01 : 0 ≤ fb ∧ fb ≤ 10000 := by
            rw [hfb]; unfold firstA
            have : eu.toNat % 2 = 0 ∨ eu.toNat % 2 = 1 := by omega
            rcases this with h2 | h2 <;> rw [h2] <;> simp <;> omega
          have Hli := Lib.hid (Hlies.out fb z w4 HRq.out hfb01.1 hfb01.2 HZ.out)
          have Hld3 := Lib.hid hld3
          clear hfb hfb01 hld3 Hld2 hz
          go_wp2_with fail
          refine Hff.out.mono ?_
          rintro r w5 ⟨rfl, rfl⟩
          go_wp2_with fail
          refine Hli.out.mono ?_
          rintro r w5 ⟨lv, rfl, hlo, hb5⟩
          obtain ⟨la, lc, rfl⟩ := hlo.form
          cases hli : liesM d (z + 1) fb z [] with
          | none =>
            have Hl := Lib.hid (show loadM d at_ n = (0, [], 21) by rw [Hld3.out, hli])
            rw [show (none : Option (List UInt8)).isSome = false from rfl]
            have HN := Lib.hid (below_trans HBq.out hb5)
            clear hlo hb5 Hli hli
            go_wp2_with fail
            go_ret3
            rw [Hl.out]
            exact ⟨_, rfl, OwnM.nil _ _ _, HN.out⟩
          | some acc =>
            rw [hli] at hlo
            replace hlo : OwnM w5 w4.heap.size 5 (.slice la acc.length lc) acc.length (acc.map V8) := hlo
            rw [show (some acc : Option (List UInt8)).isSome = true from rfl, show ((some acc : Option (List UInt8)).getD []).length = acc.length from rfl]
            have hld4 : loadM d at_ n = if hdrM eu.toNat acc = s then (eu.toNat, acc, 0) else (0, [], 21) := by rw [Hld3.out, hli]
            have Hh := Lib.hid (refHeader_calls eu (.slice la acc.length lc) acc w5 hlo.rd)
            have HO := Lib.hid (hlo.lower HBq.out.size)
            have HB5 := Lib.hid (below_trans HBq.out hb5)
            by_cases he : hdrM eu.toNat acc = s
            · rw [if_pos he] at hld4
              rw [he, ← Hst.out] at Hh
              have Hl := Lib.hid hld4
              have hself : ((st.toList == st.toList) = true) := by simp
              clear hld4 he hli hlo hb5 Hli
              go_wp2_with fail
              refine Hh.out.mono ?_
              rintro r w6 ⟨rfl, hb6⟩
              have HN := Lib.hid (And.intro (HO.out.below hb6) (below_trans HB5.out hb6))
              clear hb6
              go_wp2_with fail
              go_ret3
              rw [Hl.out]
              exact ⟨_, rfl, HN.out.1, HN.out.2⟩
            · rw [if_neg he] at hld4
              have hne : ((SB (hdrM eu.toNat acc)).toList == st.toList) = false := by rw [Hst.out, SB_toList, SB_toList, beq_eq_false_iff_ne]; exact he
              obtain ⟨hx, hhx⟩ : ∃ hx, hx = SB (hdrM eu.toNat acc) := ⟨_, rfl⟩
              rw [← hhx] at Hh hne
              have Hl := Lib.hid hld4
              clear hld4 he hli hlo hb5 Hli hhx
              go_wp2_with fail
              refine Hh.out.mono ?_
              rintro r w6 ⟨rfl, hb6⟩
              have HN := Lib.hid (below_trans HB5.out hb6)
              clear hb6
              go_wp2_with fail
              go_ret3
              rw [Hl.out]
              exact ⟨_, rfl, OwnM.nil _ _ _, HN.out⟩
      · have hl : loadM d at_ n = (0, [], 21) := by rw [Hld.out, if_neg hs0, if_neg h16]
        rw [hl]
        have hl16 : ¬ ((s.length : Int) = 16) := by omega
        clear hst hs0 hl Hld
        go_enter Tryd.func41, Tryd.ntmps41
        go_wp2_with fail
        refine Hm.out.mono ?_
        rintro r w1 ⟨rfl, rfl⟩
        go_wp2_with fail
        refine Hrd.out.mono ?_
        rintro r w2 ⟨rfl, rfl⟩
        go_wp2_with fail
        go_ret3
        exact ⟨_, rfl, OwnM.nil _ _ _, Below.refl _ _⟩
  · rw [decide_eq_false hm] at Hm
    have e1 : loadM d at_ n = (0, [], 1) := by unfold loadM; rw [if_neg hm]
    rw [e1]
    clear h hs ha hn hN hm e1 hwf ht
    go_enter Tryd.func41, Tryd.ntmps41
    go_wp2_with fail
    refine Hm.out.mono ?_
    rintro r w1 ⟨rfl, rfl⟩
    go_wp2_with fail
    go_ret3
    exact ⟨_, rfl, OwnM.nil _ _ _, Below.refl _ _⟩
end Go.Proofs.YtbmijamailfaeaaDoor
