/-
  lineagelaw13.works: it says yes.
-/
import Derived.Test.YtjoadcgegobjpaaLog
namespace Go.Proofs.Ytjoadcgegobjpaa
open Go.RowKit
set_option maxRecDepth 100000

theorem frame_small (e : UInt32) (p : List UInt8) (h : p.length ≤ 245) : (frameM e p).length = 1 := by
  rw [frame_count e p (by omega), if_neg (by omega)]
set_option maxHeartbeats 800000 in
theorem works13_calls (w : World) : Calls Try.prog 5 #[] w fun e w' => e = .returned (.bool true) ∧ Below w.heap.size w w' := by
  have H0 := Lib.hid (new_yes 4 w (by omega) (by omega))
  go_enter Try.func5, Try.ntmps5
  go_wp2_with fail
  refine H0.out.mono ?_
  rintro r w1 ⟨pd, F, rfl, hd, hb1, hF⟩
  rw [show errV 0 = .nilIface from rfl]
  obtain ⟨d0, hd0⟩ : ∃ d0 : DiskM, d0 = { strs := List.replicate 4 ByteArray.empty, trail := [], left := none } := ⟨_, rfl⟩
  rw [← hd0] at hd
  have hs0 : d0.strs = List.replicate 4 ByteArray.empty := by rw [hd0]
  have ht0 : d0.trail.length = 0 := by rw [hd0]; rfl
  have hl0 : d0.left = none := by rw [hd0]
  have hn0 : d0.strs.length = 4 := by rw [hs0]; rfl
  have hsm : d0.Small := by
    intro s hs
    rw [hs0] at hs
    rw [List.eq_of_mem_replicate hs]; decide
  have HD := Lib.hid hd
  have HB1 := Lib.hid hb1
  have HF := Lib.hid hF
  have Hno := Lib.hid (show ∀ (j : Nat) (s : ByteArray), d0.strs[j]? = some s → NoB 7 s from fun j s h => noB_new 7 4 j s (by rw [← hs0]; exact h))
  have hnw := log_new_yes d0 pd F 1 3 7 w1 hd (by omega) (by omega)
  rw [show (((7 : UInt32).toNat : Nat) : Int) = 7 from rfl, show ((1 : Nat) : Int) = 1 from rfl, show ((3 : Nat) : Int) = 3 from rfl] at hnw
  have Hnw := Lib.hid hnw
  clear hd hb1 hF hd0 hs0 hnw H0
  go_wp2_with fail
  refine Hnw.out.mono ?_
  rintro r w2 ⟨rfl, hl, hb2⟩
  obtain ⟨pl, hpl⟩ : ∃ pl, pl = w1.heap.size := ⟨_, rfl⟩
  rw [← hpl] at hl ⊢
  have HB2 := Lib.hid (HB1.out.trans (hb2.mono HB1.out.size))
  have HD2 := Lib.hid (HD.out.mod (Mod.of_below (F := fun _ => False) hb2) (fun _ _ h => h))
  have HL2 := Lib.hid hl
  have Hpl := Lib.hid (show w.heap.size ≤ pl ∧ ¬ F pl from ⟨by rw [hpl]; exact HB1.out.size, fun h => by have := HD.out.lt pl h; omega⟩)
  have Hro := Lib.hid (show Calls Try.prog 11 #[.pointer (some ⟨pl, 0, none⟩)] w2 fun r w' => r = .returned (.int .i64 3) ∧ ∃ k, w' = w2.drewN k from room_calls _ pl pd w2 hl (Nat.zero_le _) (by simp))
  clear hl hb2 hpl HD Hnw HB1
  go_wp2_with fail
  refine Hro.out.mono ?_
  rintro r w3 ⟨rfl, kd, rfl⟩
  have hbd := (below_trans (below_drewN w2 kd) (below_alloc _ (.cells #[.int .u8 1, .int .u8 2] 5)))
  have hrd := rd_lit (w2.drewN kd) #[.int .u8 1, .int .u8 2] 5 [1, 2] rfl (by decide)
  obtain ⟨l0, hl0e⟩ : ∃ l0 : LogM, l0 = ⟨1, 3, 7, 0, 0, false⟩ := ⟨_, rfl⟩
  have HLl := HL2.out
  rw [← hl0e] at HLl
  have q1 : l0.base = 1 := by rw [hl0e]
  have q2 : l0.n = 3 := by rw [hl0e]
  have q3 : l0.used = 0 := by rw [hl0e]
  have q4 : l0.records = 0 := by rw [hl0e]
  have q5 : l0.dead = false := by rw [hl0e]
  have q6 : l0.epoch = 7 := by rw [hl0e]
  have hI : LogI 7 1 3 [] l0 d0 := by rw [hl0e]; exact LogI.new (by omega) Hno.out
  have hlen : l0.used + (frameM l0.epoch [1, 2]).length ≤ l0.n := by rw [frame_small _ _ (by decide)]; omega
  have hok := append_ok (l := l0) (d := d0) (p := [1, 2]) hl0 q5 (by decide) (by omega) hlen
  have hI1 : (l0.append d0 [1, 2]).1.dead = false ∧ (l0.append d0 [1, 2]).1.used = 1 ∧ LogI 7 1 3 [[1, 2]] (l0.append d0 [1, 2]).1 (l0.append d0 [1, 2]).2.1 := by
    rcases hI.append [1, 2] with ⟨_, _, a1, _, a2, a3⟩ | ⟨a, _⟩ | ⟨a, _⟩ | ⟨a, _⟩
    · exact ⟨a1, by rw [a2, q3, frame_small _ _ (by decide)], a3⟩
    · rw [hok] at a; exact absurd a (by decide)
    · rw [hok] at a; exact absurd a (by decide)
    · rw [hok] at a; exact absurd a (by decide)
  have hap := append_calls l0 d0 [1, 2] pl pd F _ _ (Box.below HLl hbd) (HD2.out.mod (Mod.of_below (F := fun _ => False) hbd) (fun _ _ h => h)) Hpl.out.2 hrd (by omega) (by omega) (by omega) (by omega)
  rw [hok, show errV 0 = .nilIface from rfl] at hap
  have hsm1 := small_append l0 hsm [1, 2]
  have hn1 := (append_len l0 d0 [1, 2]).1
  have hrc := hI1.2.2.recs
  have hnn := hI1.2.2.same.2.1
  obtain ⟨l1, hl1⟩ : ∃ l1, l1 = (l0.append d0 [1, 2]).1 := ⟨_, rfl⟩
  obtain ⟨d1, hd1⟩ : ∃ d1, d1 = (l0.append d0 [1, 2]).2.1 := ⟨_, rfl⟩
  rw [← hl1, ← hd1] at hI1 hap
  rw [← hd1] at hsm1 hn1
  rw [← hl1] at hrc hnn
  have Hap := Lib.hid hap
  have HI1 := Lib.hid hI1
  have HB3 := Lib.hid (HB2.out.trans (hbd.mono HB2.out.size))
  have Hsm1 := Lib.hid hsm1
  clear hap hI1 hsm1 hok hlen hI HLl hrd hbd hl0e q1 q2 q3 q4 q5 q6 hl1 hd1 hsm ht0 hl0 HL2 HD2 Hro
  go_wp2_with fail
  refine Hap.out.mono ?_
  rintro r w4 ⟨rfl, hl4, hm4, F4, hd4, hF4⟩
  have hb4 : Below w.heap.size w w4 := HB3.out.trans (hm4.below HB3.out.size (fun b hb => by
    rcases hb with hb | hb
    · rw [hb]; exact Hpl.out.1
    · exact HF.out b hb))
  have hop := log_open_yes d1 pd F4 1 3 7 w4 hd4 (by omega) (by omega) Hsm1.out
  rw [show (((7 : UInt32).toNat : Nat) : Int) = 7 from rfl, show ((1 : Nat) : Int) = 1 from rfl, show ((3 : Nat) : Int) = 3 from rfl] at hop
  have Hop := Lib.hid hop
  have HL4 := Lib.hid hl4
  have HB4 := Lib.hid hb4
  clear hop hl4 hm4 hd4 hF4 hb4 Hap HB3 HB2
  go_wp2_with fail
  refine Hop.out.mono ?_
  rintro r w5 ⟨pl2, ov, pre, bl, hbl, hget, hno, rfl, hfo, hov, hb5⟩
  obtain ⟨t, rfl, htn⟩ := HI1.out.2.2.blocks bl hbl hget
  obtain ⟨f1, f2, f3⟩ := found_laid (ps := [[1, 2]]) (t := t) (by decide) htn hfo hno
  rw [f1] at hov
  have hv0 := f3 0 (by decide)
  have hrd := rd_of_own hov
  have hml : (pre.map (·.2)).length = 1 := by rw [List.length_map, f1]; rfl
  obtain ⟨b, off, cap, rfl, hcell⟩ := hrd.at 0 (by omega)
  obtain ⟨xa, xc, hxe, _⟩ := hv0.slice
  rw [hxe] at hcell hv0
  have hcell : w5.cell? ⟨b, off, none⟩ = some (.slice xa 2 xc) := hcell
  have HB5 := Lib.hid (HB4.out.trans (hb5.mono HB4.out.size))
  have HL5 := Lib.hid (Box.below HL4.out hb5)
  have Hv0 := Lib.hid hv0.rd
  clear hbl hget hno hfo hov hb5 f1 f2 f3 hv0 hrd hml hxe htn Hop HB4 HL4
  go_wp2_with fail
  have hbn := below_alloc w5 (.cells #[.int .u8 1, .int .u8 2] 5)
  have HB6 := Lib.hid (HB5.out.trans (hbn.mono HB5.out.size))
  have HL6 := Lib.hid (Box.below HL5.out hbn)
  refine (sameBytes_calls _ _ [1, 2] _ (Hv0.out.below hbn) (rd_lit w5 #[.int .u8 1, .int .u8 2] 5 [1, 2] rfl (by decide))).mono ?_
  rintro r w7 ⟨rfl, k7, rfl⟩
  clear hbn HB5 HL5 Hv0 hcell
  obtain ⟨w6, hw6⟩ : ∃ w6, w6 = (w5.alloc (.cells #[.int .u8 1, .int .u8 2] 5)).drewN k7 := ⟨_, rfl⟩
  have hb6 := below_drewN (w5.alloc (.cells #[.int .u8 1, .int .u8 2] 5)) k7
  rw [← hw6] at hb6 ⊢
  have HB7 := Lib.hid (HB6.out.trans (hb6.mono HB6.out.size))
  have hro := room_calls l1 pl pd w6 (Box.below HL6.out hb6) HI1.out.2.2.le2 (by omega)
  rw [hnn, HI1.out.2.1] at hro
  have Hro := Lib.hid hro
  have HL7 := Lib.hid (Box.below HL6.out hb6)
  clear hw6 hb6 HB6 HL6 hro
  go_wp2_with fail
  refine Hro.out.mono ?_
  rintro r w8 ⟨rfl, k8, rfl⟩
  have hb8 := below_drewN w6 k8
  obtain ⟨w8, hw8⟩ : ∃ w8, w8 = w6.drewN k8 := ⟨_, rfl⟩
  rw [← hw8] at hb8 ⊢
  have HB8 := Lib.hid (HB7.out.trans (hb8.mono HB7.out.size))
  have hrec := records_calls l1 pl pd w8 (Box.below HL7.out hb8)
  rw [hrc] at hrec
  have Hrec := Lib.hid hrec
  clear hw8 hb8 HB7 HL7 hrec Hro
  go_wp2_with fail
  refine Hrec.out.mono ?_
  rintro r w9 ⟨rfl, rfl⟩
  go_wp2_with fail
  go_ret
  exact ⟨rfl, HB8.out⟩
end Go.Proofs.Ytjoadcgegobjpaa
