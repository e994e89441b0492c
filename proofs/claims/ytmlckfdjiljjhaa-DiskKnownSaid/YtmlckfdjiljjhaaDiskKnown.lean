/-
  The walk of DiskKnown.
-/
import Derived.Test.YtmlckfdjiljjhaaDiskFirst
namespace Go.Proofs.Ytmlckfdjiljjhaa
open Go.RowKit

/-- Two disks that lie apart. -/
structure TwoD (W : World) (d : DiskM) (p : Nat) (D : DiskM) (p' : Nat) (F F' : Nat → Prop) (w : World) : Prop where
  one : IsDisk w d p F
  two : IsDisk w D p' F'
  ap : ∀ q, F q → ¬ F' q
  lo : ∀ q, F q ∨ F' q → W.heap.size ≤ q
  below : Below W.heap.size W w
theorem TwoD.left {W w w' : World} {d D d2 : DiskM} {p p' : Nat} {F F' F2 : Nat → Prop} (h : TwoD W d p D p' F F' w) (h2 : IsDisk w' d2 p F2) (hm : Mod F w w') (hF : ∀ k, F2 k → F k ∨ w.heap.size ≤ k) : TwoD W d2 p D p' F2 F' w' := by
  have hlt := h.two.lt
  refine ⟨h2, h.two.mod hm (fun q hq h1 => h.ap q h1 hq), fun q hq hq' => ?_, fun q hq => ?_, h.below.trans (hm.below h.below.size (fun q hq => h.lo q (.inl hq)))⟩
  · rcases hF q hq with h1 | h1
    · exact h.ap q h1 hq'
    · have := hlt q hq'; omega
  · rcases hq with hq | hq
    · rcases hF q hq with h1 | h1
      · exact h.lo q (.inl h1)
      · exact Nat.le_trans h.below.size h1
    · exact h.lo q (.inr hq)
theorem TwoD.swap {W w : World} {d D : DiskM} {p p' : Nat} {F F' : Nat → Prop} (h : TwoD W d p D p' F F' w) : TwoD W D p' d p F' F w :=
  ⟨h.two, h.one, fun q h1 h2 => h.ap q h2 h1, fun q hq => h.lo q hq.symm, h.below⟩
theorem TwoD.after {W w w' : World} {d D : DiskM} {p p' : Nat} {F F' : Nat → Prop} (h : TwoD W d p D p' F F' w) (hb : Below w.heap.size w w') : TwoD W d p D p' F F' w' :=
  ⟨h.one.mod (Mod.of_below (F := fun _ => False) hb) (fun _ _ h => h), h.two.mod (Mod.of_below (F := fun _ => False) hb) (fun _ _ h => h), h.ap, h.lo, h.below.trans (hb.mono h.below.size)⟩
theorem TwoD.new {W w w' : World} {d D o : DiskM} {p p' p2 : Nat} {F F' F2 : Nat → Prop} (h : TwoD W d p D p' F F' w) (ho : IsDisk w' o p2 F2) (hb : Below w.heap.size w w') (hF : ∀ k, F2 k → w.heap.size ≤ k) : TwoD W d p o p2 F F2 w' := by
  have h' := h.after hb
  have hlt := h.one.lt
  refine ⟨h'.one, ho, fun q h1 h2 => ?_, fun q hq => ?_, h'.below⟩
  · have := hlt q h1; have := hF q h2; omega
  · rcases hq with hq | hq
    · exact h.lo q (.inl hq)
    · exact Nat.le_trans h.below.size (hF q hq)
theorem sameRaws_calls (v v' : Value) (l : List (Int × ByteArray)) (w : World) (hv : Rd w v l.length (flatRaws l)) (hv' : Rd w v' l.length (flatRaws l)) :
    Calls Try.prog 19 #[v, v'] w fun e w' => e = .returned (.bool true) ∧ ∃ k, w' = w.drewN k := by
  have hlen := hv.len
  obtain ⟨a, cap, rfl, hc1, hc2, _, hc⟩ := hv
  obtain ⟨a', cap', rfl, hd1, hd2, _, hd⟩ := hv'
  have Hc := Lib.hid hc
  have Hd := Lib.hid hd
  clear hc hd
  go_enter Try.func19, Try.ntmps19
  go_wp2
  go_loopw [5] (fun i wr => ∃ k : Nat, k ≤ l.length ∧ i = .int .i64 k ∧ ∃ m, wr = w.drewN m) (fun i _ => l.length - (intOf i).toNat)
  case atStart => exact ⟨0, by omega, rfl, 0, rfl⟩
  case round =>
    obtain ⟨k, hk, rfl, m, rfl⟩ := hrel
    by_cases hlt : k < l.length
    · obtain ⟨fa, fb⟩ := flatRaws_at l k hlt
      obtain ⟨b, off, rfl, ha'⟩ := Hc.out (k * 2) (by rw [flatRaws_length]; omega)
      obtain ⟨b2, off2, e3, hb'⟩ := Hc.out (k * 2 + 1) (by rw [flatRaws_length]; omega)
      injection e3 with e3
      injection e3 with e4 e5
      subst e4; subst e5
      obtain ⟨c, ofc, rfl, hc'⟩ := Hd.out (k * 2) (by rw [flatRaws_length]; omega)
      obtain ⟨c2, ofc2, e3, hd'⟩ := Hd.out (k * 2 + 1) (by rw [flatRaws_length]; omega)
      injection e3 with e3
      injection e3 with e4 e5
      subst e4; subst e5
      rw [fa] at ha' hc'; rw [fb] at hb' hd'
      generalize l.getD k (0, ByteArray.empty) = r at *
      obtain ⟨ri, rs⟩ := r
      simp only at ha' hb' hc' hd'
      rw [← Nat.add_assoc] at hb' hd'
      have h1 : (0 : Int) ≤ (k : Int) := by omega
      have h2 : (k : Int) < (l.length : Int) := by omega
      clear Hc Hd fa fb
      go_wp2
      go_quiet (fail)
      go_wp2
      go_roundw
      case rel => exact ⟨k + 1, by omega, by go_num, _, rfl⟩
      case measure => simp [intOf]; omega
    · obtain rfl : k = l.length := by omega
      clear Hc Hd
      go_wp2
      go_ret
      exact ⟨rfl, m, rfl⟩
set_option maxRecDepth 100000 in
set_option maxHeartbeats 3200000 in
theorem diskKnown_calls (W : World) : Calls Try.prog 5 #[] W fun e W' => e = .returned (.bool true) ∧ Below W.heap.size W W' := by
  have e0 : errV 0 = .nilIface := rfl
  have e1 : errV 1 = .iface 45 (.int .i64 1) := rfl
  have e3 : errV 3 = .iface 45 (.int .i64 3) := rfl
  have e22 : errV 22 = .iface 45 (.int .i64 22) := rfl
  go_enter Try.func5, Try.ntmps5
  go_wp2_with fail
  refine (new_no 0 _ (by omega)).mono ?_
  try rw [e1]
  try rw [e3]
  try rw [e22]
  try rw [e0]
  rintro e w' ⟨rfl, rfl⟩
  go_wp2_with fail
  refine (new_no 4097 _ (by omega)).mono ?_
  try rw [e1]
  try rw [e3]
  try rw [e22]
  try rw [e0]
  rintro e w' ⟨rfl, rfl⟩
  go_wp2_with fail
  refine (new_yes 4096 _ (by omega) (by omega)).mono ?_
  rw [e0]
  rintro e w1 ⟨p', F', rfl, hd1, hb1, hF1⟩
  go_wp2_with fail
  refine (new_yes 2 _ (by omega) (by omega)).mono ?_
  rw [e0]
  rintro e w2 ⟨p, F, rfl, hd2, hb2, hF2⟩
  have hT : TwoD W { strs := [ByteArray.empty, ByteArray.empty], trail := [], left := none } p { strs := List.replicate 4096 ByteArray.empty, trail := [], left := none } p' F F' w2 :=
    ⟨hd2, hd1.mod (Mod.of_below (F := fun _ => False) hb2) (fun _ _ h => h), fun q h1 h2 => by have := hF2 q h1; have := hd1.lt q h2; omega, fun q hq => by rcases hq with hq | hq; exact Nat.le_trans hb1.size (hF2 q hq); exact hF1 q hq, below_trans hb1 hb2⟩
  have HT0 := Lib.hid hT
  clear hd1 hb1 hF1 hd2 hb2 hF2 hT
  go_wp2_with fail
  refine (num_calls 1 _ (by omega) (by omega)).mono ?_
  try rw [e1]
  try rw [e3]
  try rw [e22]
  try rw [e0]
  rintro e w' ⟨rfl, rfl⟩
  go_wp2_with fail
  refine (num_calls 1 _ (by omega) (by omega)).mono ?_
  try rw [e1]
  try rw [e3]
  try rw [e22]
  try rw [e0]
  rintro e w' ⟨rfl, rfl⟩
  have hbl := blocks_calls _ _ _ _ HT0.out.two
  rw [show (({ strs := List.replicate 4096 ByteArray.empty, trail := [], left := none } : DiskM).strs.length : Nat) = 4096 from List.length_replicate] at hbl
  have Hbl := Lib.hid hbl
  clear hbl
  go_wp2_with fail
  refine (Hbl.out).mono ?_
  try rw [e1]
  try rw [e3]
  try rw [e22]
  try rw [e0]
  rintro e w' ⟨rfl, rfl⟩
  go_wp2_with fail
  refine (blocks_calls _ _ _ _ HT0.out.one).mono ?_
  try rw [e1]
  try rw [e3]
  try rw [e22]
  try rw [e0]
  rintro e w' ⟨rfl, rfl⟩
  clear Hbl
  go_wp2_with fail
  go_loop [9, 10] (fun s i => ∃ (k : Nat) (lg : ByteArray), k ≤ 256 ∧ i = .int .i64 k ∧ s = .string lg ∧ lg.size = k) (fun _ i => 256 - (intOf i).toNat)
  case atStart => exact ⟨0, ⟨#[]⟩, by omega, rfl, rfl, rfl⟩
  case round =>
   obtain ⟨k, lg, hk, rfl, rfl, hlg⟩ := hrel
   by_cases hlt : k < 256
   · obtain ⟨l2, hl2⟩ : ∃ l2 : ByteArray, l2 = lg ++ ⟨#[120]⟩ := ⟨_, rfl⟩
     have hadd : ∀ w, (Op.stringOp .add lg ⟨#[120]⟩).run Try.prog w = .ok (.string l2) w := fun w => by
       rw [hl2]; exact run_string_add_sum (P := Try.prog) w lg ⟨#[120]⟩ (by rw [hlg]; show k + 1 ≤ _; omega)
     have hs2 : l2.size = k + 1 := by rw [hl2, ByteArray.size_append, hlg]; rfl
     have Hs2 := Lib.hid hs2
     clear hl2 hs2 hlg
     go_wp2_with fail
     go_round
     case rel => exact ⟨k + 1, l2, by omega, by go_num, rfl, Hs2.out⟩
     case measure => simp [intOf]; omega
   · obtain rfl : k = 256 := by omega
     have hle : lg.size ≤ 256 := by omega
     obtain ⟨l2, hl2⟩ : ∃ l2 : ByteArray, l2 = lg ++ ⟨#[120]⟩ := ⟨_, rfl⟩
     have hadd : ∀ w, (Op.stringOp .add lg ⟨#[120]⟩).run Try.prog w = .ok (.string l2) w := fun w => by
       rw [hl2]; exact run_string_add_sum (P := Try.prog) w lg ⟨#[120]⟩ (by rw [hlg]; decide)
     have hs2 : 256 < l2.size := by rw [hl2, ByteArray.size_append, hlg]; decide
     have hs3 : l2.size ≤ 9223372036854775807 := by rw [hl2, ByteArray.size_append, hlg]; decide
     clear hl2 hlg
     go_wp2_with fail
     refine (read_yes _ _ _ 1 _ HT0.out.one (by decide)).mono ?_
     try rw [e1]
     try rw [e3]
     try rw [e22]
     try rw [e0]
     rintro e w' ⟨rfl, rfl⟩
     go_wp2_with fail
     refine (read_no _ _ _ 2 _ HT0.out.one (by decide)).mono ?_
     try rw [e1]
     try rw [e3]
     try rw [e22]
     try rw [e0]
     rintro e w' ⟨rfl, rfl⟩
     go_wp2_with fail
     refine (read_no _ _ _ (-1) _ HT0.out.one (by decide)).mono ?_
     try rw [e1]
     try rw [e3]
     try rw [e22]
     try rw [e0]
     rintro e w' ⟨rfl, rfl⟩
     go_wp2_with fail
     refine (num_calls 1 _ (by omega) (by omega)).mono ?_
     try rw [e1]
     try rw [e3]
     try rw [e22]
     try rw [e0]
     rintro e w' ⟨rfl, rfl⟩
     go_wp2_with fail
     refine (num_calls 1 _ (by omega) (by omega)).mono ?_
     try rw [e1]
     try rw [e3]
     try rw [e22]
     try rw [e0]
     rintro e w' ⟨rfl, rfl⟩
     go_wp2_with fail
     refine (write_ok _ _ _ 1 ⟨#[97]⟩ _ HT0.out.one (by decide) (by decide) (by decide) (by decide)).mono ?_
     try rw [e0]
     rintro e w0 ⟨rfl, F0, hd, hm, hF⟩
     have HT1 := Lib.hid (HT0.out.left (d2 := { strs := [ByteArray.empty, ⟨#[97]⟩], trail := [(1, ⟨#[97]⟩)], left := none }) hd hm hF)
     clear hd hm hF HT0
     go_wp2_with fail
     refine (write_arg _ _ _ 2 ⟨#[97]⟩ _ HT1.out.one (by decide)).mono ?_
     try rw [e1]
     try rw [e3]
     try rw [e22]
     try rw [e0]
     rintro e w' ⟨rfl, rfl⟩
     go_wp2_with fail
     refine (num_calls 1 _ (by omega) (by omega)).mono ?_
     try rw [e1]
     try rw [e3]
     try rw [e22]
     try rw [e0]
     rintro e w' ⟨rfl, rfl⟩
     go_wp2_with fail
     refine (write_long _ _ _ 1 l2 _ HT1.out.one (by decide) hs2).mono ?_
     try rw [e1]
     try rw [e3]
     try rw [e22]
     try rw [e0]
     rintro e w' ⟨rfl, rfl⟩
     go_wp2_with fail
     refine (num_calls 3 _ (by omega) (by omega)).mono ?_
     try rw [e1]
     try rw [e3]
     try rw [e22]
     try rw [e0]
     rintro e w' ⟨rfl, rfl⟩
     go_wp2_with fail
     refine (write_ok _ _ _ 4095 lg _ HT1.out.two (by simp) (by omega) (by decide) (by decide)).mono ?_
     try rw [e0]
     rintro e w1 ⟨rfl, F1, hd, hm, hF⟩
     have HT2 := Lib.hid (HT1.out.swap.left hd hm hF).swap
     clear hd hm hF HT1
     go_wp2_with fail
     refine (cut_calls _ _ _ 1 _ HT2.out.one (by decide)).mono ?_
     rintro e w2 ⟨rfl, F2, hd, hm, hF⟩
     have HT3 := Lib.hid (HT2.out.left (d2 := { strs := [ByteArray.empty, ⟨#[97]⟩], trail := [(1, ⟨#[97]⟩)], left := some 1 }) hd hm hF)
     clear hd hm hF HT2
     go_wp2_with fail
     refine (write_ok _ _ _ 0 ⟨#[120]⟩ _ HT3.out.one (by decide) (by decide) (by decide) (by decide)).mono ?_
     try rw [e0]
     rintro e w3 ⟨rfl, F3, hd, hm, hF⟩
     have HT4 := Lib.hid (HT3.out.left (d2 := { strs := [⟨#[120]⟩, ⟨#[97]⟩], trail := [(1, ⟨#[97]⟩), (0, ⟨#[120]⟩)], left := some 0 }) hd hm hF)
     clear hd hm hF HT3
     go_wp2_with fail
     refine (write_power _ _ _ 0 ⟨#[121]⟩ _ HT4.out.one (by decide) (by decide) rfl).mono ?_
     try rw [e1]
     try rw [e3]
     try rw [e22]
     try rw [e0]
     rintro e w' ⟨rfl, rfl⟩
     go_wp2_with fail
     refine (num_calls 22 _ (by omega) (by omega)).mono ?_
     try rw [e1]
     try rw [e3]
     try rw [e22]
     try rw [e0]
     rintro e w' ⟨rfl, rfl⟩
     go_wp2_with fail
     refine (write_arg _ _ _ 5 ⟨#[121]⟩ _ HT4.out.one (by decide)).mono ?_
     try rw [e1]
     try rw [e3]
     try rw [e22]
     try rw [e0]
     rintro e w' ⟨rfl, rfl⟩
     go_wp2_with fail
     refine (num_calls 1 _ (by omega) (by omega)).mono ?_
     try rw [e1]
     try rw [e3]
     try rw [e22]
     try rw [e0]
     rintro e w' ⟨rfl, rfl⟩
     go_wp2_with fail
     refine (write_long _ _ _ 0 l2 _ HT4.out.one (by decide) hs2).mono ?_
     try rw [e1]
     try rw [e3]
     try rw [e22]
     try rw [e0]
     rintro e w' ⟨rfl, rfl⟩
     go_wp2_with fail
     refine (num_calls 3 _ (by omega) (by omega)).mono ?_
     try rw [e1]
     try rw [e3]
     try rw [e22]
     try rw [e0]
     rintro e w' ⟨rfl, rfl⟩
     go_wp2_with fail
     refine (writes_calls _ _ _ _ HT4.out.one).mono ?_
     try rw [e1]
     try rw [e3]
     try rw [e22]
     try rw [e0]
     rintro e w' ⟨rfl, rfl⟩
     go_wp2_with fail
     refine (read_yes _ _ _ 0 _ HT4.out.one (by decide)).mono ?_
     try rw [e1]
     try rw [e3]
     try rw [e22]
     try rw [e0]
     rintro e w' ⟨rfl, rfl⟩
     go_wp2_with fail
     refine (cut_calls _ _ _ (-1) _ HT4.out.one (by decide)).mono ?_
     rintro e w4 ⟨rfl, F4, hd, hm, hF⟩
     have HT5 := Lib.hid (HT4.out.left (d2 := { strs := [⟨#[120]⟩, ⟨#[97]⟩], trail := [(1, ⟨#[97]⟩), (0, ⟨#[120]⟩)], left := none }) hd hm hF)
     clear hd hm hF HT4
     go_wp2_with fail
     refine (write_ok _ _ _ 0 ⟨#[121]⟩ _ HT5.out.one (by decide) (by decide) (by decide) (by decide)).mono ?_
     try rw [e0]
     rintro e w5 ⟨rfl, F5, hd, hm, hF⟩
     have HT6 := Lib.hid (HT5.out.left (d2 := { strs := [⟨#[121]⟩, ⟨#[97]⟩], trail := [(1, ⟨#[97]⟩), (0, ⟨#[120]⟩), (0, ⟨#[121]⟩)], left := none }) hd hm hF)
     clear hd hm hF HT5
     go_wp2_with fail
     refine (trail_calls _ _ _ _ HT6.out.one (by decide)).mono ?_
     rintro e w6 ⟨ta, tc, rfl, ht, hb⟩
     have HTa := Lib.hid (HT6.out.after hb)
     have Hta := Lib.hid (rd_of_own ht)
     clear ht hb HT6
     go_wp2_with fail
     have hbl := below_alloc w6 (.cells #[.int .i64 1, .string ⟨#[97]⟩, .int .i64 0, .string ⟨#[120]⟩, .int .i64 0, .string ⟨#[121]⟩] 31)
     have hsr := sameRaws_calls _ (.slice (some ⟨w6.heap.size, 0, none⟩) 3 3) [(1, ⟨#[97]⟩), (0, ⟨#[120]⟩), (0, ⟨#[121]⟩)] _ (Hta.out.below hbl) (by
       refine ⟨_, 3, rfl, Nat.le_refl _, by omega, (fun h => by cases h), fun j hj => ⟨w6.heap.size, 0, rfl, ?_⟩⟩
       have hj : j < 6 := hj
       rw [Nat.zero_add]
       refine (Box.new w6 _ _).cell j _ ?_
       match j, hj with
       | 0, _ => rfl
       | 1, _ => rfl
       | 2, _ => rfl
       | 3, _ => rfl
       | 4, _ => rfl
       | 5, _ => rfl)
     refine hsr.mono ?_
     rintro e w'' ⟨rfl, kd, rfl⟩
     have HT7 := Lib.hid ((HTa.out.after hbl).after (w' := (w6.alloc (.cells #[.int .i64 1, .string ⟨#[97]⟩, .int .i64 0, .string ⟨#[120]⟩, .int .i64 0, .string ⟨#[121]⟩] 31)).drewN kd) ⟨rfl, rfl, rfl, Nat.le_refl _, fun _ _ => rfl⟩)
     clear hbl hsr HTa Hta
     go_wp2_with fail
     refine (cut_calls _ _ _ 0 _ HT7.out.one (by decide)).mono ?_
     rintro e w7 ⟨rfl, F7, hd, hm, hF⟩
     have HT8 := Lib.hid (HT7.out.left (d2 := { strs := [⟨#[121]⟩, ⟨#[97]⟩], trail := [(1, ⟨#[97]⟩), (0, ⟨#[120]⟩), (0, ⟨#[121]⟩)], left := some 0 }) hd hm hF)
     clear hd hm hF HT7
     go_wp2_with fail
     refine (after_yes _ _ _ 2 _ HT8.out.one (by decide) (by decide) (by decide)).mono ?_
     rw [e0]
     rintro e w8 ⟨p2, F8, rfl, ho, hb, hF⟩
     have HT9 := Lib.hid (HT8.out.new (o := { strs := [⟨#[120]⟩, ⟨#[97]⟩], trail := [(1, ⟨#[97]⟩), (0, ⟨#[120]⟩)], left := none }) ho hb hF)
     clear ho hb hF HT8
     go_wp2_with fail
     refine (after_no _ _ _ 4 _ HT9.out.one (by decide)).mono ?_
     try rw [e1]
     try rw [e3]
     try rw [e22]
     try rw [e0]
     rintro e w' ⟨rfl, rfl⟩
     go_wp2_with fail
     refine (after_no _ _ _ (-1) _ HT9.out.one (by decide)).mono ?_
     try rw [e1]
     try rw [e3]
     try rw [e22]
     try rw [e0]
     rintro e w' ⟨rfl, rfl⟩
     go_wp2_with fail
     refine (num_calls 1 _ (by omega) (by omega)).mono ?_
     try rw [e1]
     try rw [e3]
     try rw [e22]
     try rw [e0]
     rintro e w' ⟨rfl, rfl⟩
     go_wp2_with fail
     refine (num_calls 1 _ (by omega) (by omega)).mono ?_
     try rw [e1]
     try rw [e3]
     try rw [e22]
     try rw [e0]
     rintro e w' ⟨rfl, rfl⟩
     go_wp2_with fail
     refine (write_ok _ _ _ 1 ⟨#[113]⟩ _ HT9.out.two (by decide) (by decide) (by decide) (by decide)).mono ?_
     rw [e0]
     rintro e w9 ⟨rfl, F9, hd, hm, hF⟩
     have HT10 := Lib.hid (HT9.out.swap.left (d2 := { strs := [⟨#[120]⟩, ⟨#[113]⟩], trail := [(1, ⟨#[97]⟩), (0, ⟨#[120]⟩), (1, ⟨#[113]⟩)], left := none }) hd hm hF).swap
     clear hd hm hF HT9
     go_wp2_with fail
     refine (write_power _ _ _ 1 ⟨#[113]⟩ _ HT10.out.one (by decide) (by decide) rfl).mono ?_
     try rw [e1]
     try rw [e3]
     try rw [e22]
     try rw [e0]
     rintro e w' ⟨rfl, rfl⟩
     go_wp2_with fail
     refine (num_calls 22 _ (by omega) (by omega)).mono ?_
     try rw [e1]
     try rw [e3]
     try rw [e22]
     try rw [e0]
     rintro e w' ⟨rfl, rfl⟩
     go_wp2_with fail
     refine (read_yes _ _ _ 0 _ HT10.out.two (by decide)).mono ?_
     try rw [e1]
     try rw [e3]
     try rw [e22]
     try rw [e0]
     rintro e w' ⟨rfl, rfl⟩
     go_wp2_with fail
     refine (read_yes _ _ _ 1 _ HT10.out.one (by decide)).mono ?_
     try rw [e1]
     try rw [e3]
     try rw [e22]
     try rw [e0]
     rintro e w' ⟨rfl, rfl⟩
     go_wp2_with fail
     refine (writes_calls _ _ _ _ HT10.out.two).mono ?_
     try rw [e1]
     try rw [e3]
     try rw [e22]
     try rw [e0]
     rintro e w' ⟨rfl, rfl⟩
     go_wp2_with fail
     go_ret
     exact ⟨rfl, HT10.out.below⟩

theorem diskKnown_walk : Walks false 5 [] := by
  intro W vs h
  match vs, h with
  | [], _ => exact diskKnown_calls W
end Go.Proofs.Ytmlckfdjiljjhaa
