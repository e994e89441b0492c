/-
  The walks of the statements of layer 6.
-/
import Derived.Test.YtgikknkgpbgjaaaOpen
import Derived.Test.YtgikknkgpbgjaaaSum
namespace Go.Proofs.Ytgikknkgpbgjaaa
open Go.RowKit

set_option maxHeartbeats 400000 in
theorem sumOf_calls (v : Value) (l : List UInt8) (W : World) (hv : Rd W v l.length (l.map V8)) (hn : l.length ≤ 140737488351232) :
    Calls Try.prog 4 #[v] W fun e W' => e = .returned (.bool true) ∧ Below W.heap.size W W' := by
  go_enter Try.func4, Try.ntmps4
  go_wp2_with fail
  refine (lentB_calls v l _ hv (by omega)).mono ?_
  rintro e w1 ⟨o, rfl, hlent, hb1⟩
  go_wp2_with fail
  refine (of_calls o l _ hlent.rd).mono ?_
  rintro e w2 ⟨rfl, hb2⟩
  have hb12 := below_trans hb1 hb2
  go_wp2_with fail
  refine (refOf_calls v l _ (hv.below hb12)).mono ?_
  rintro e w3 ⟨rfl, rfl⟩
  go_wp2_with fail
  refine (keptB_calls o v _ l _ (hlent.below hb2) (hv.below hb12) (by omega)).mono ?_
  rintro e w3 ⟨rfl, rfl⟩
  go_wp2
  go_ret
  exact ⟨rfl, hb12⟩
theorem sumOf_walk : Walks false 4 [31] := by
  intro W vs h
  match vs, h with
  | [v], ⟨h, _⟩ =>
    obtain ⟨l, h1, _, h2⟩ := (h.slice Try.underlying31).bytes
    exact sumOf_calls v l W h1 (h2 rfl)

/-- The digits 1 to 9. -/
theorem works_calls (W : World) : Calls Try.prog 16 #[] W fun e W' => e = .returned (.bool true) ∧ Below W.heap.size W W' := by
  have hc : crc [49, 50, 51, 52, 53, 54, 55, 56, 57] = 0xcbf43926 := by decide +kernel
  have h0 : crc [] = 0 := by decide +kernel
  have e1 : I32 (crc [49, 50, 51, 52, 53, 54, 55, 56, 57]) = 3421780262 := by rw [hc]; rfl
  have e0 : I32 (crc []) = 0 := by rw [h0]; rfl
  clear hc h0
  go_enter Try.func16, Try.ntmps16
  go_wp2_with fail
  refine (bytes_calls _ _ (by decide)).mono ?_
  rintro e w1 ⟨o, rfl, hown, hb1⟩
  go_wp2_with fail
  refine (of_calls o [49, 50, 51, 52, 53, 54, 55, 56, 57] _ (rd_of_own hown)).mono ?_
  rintro e w2 ⟨rfl, hb2⟩
  have hb12 := below_trans hb1 hb2
  go_wp2_with fail
  refine (of_calls _ [] _ (Rd.nil _)).mono ?_
  rintro e w3 ⟨rfl, hb3⟩
  have hb13 := below_trans hb12 hb3
  go_wp2
  go_ret
  exact ⟨rfl, hb13⟩

theorem le32_vals (n : UInt32) : (le32 n).map V8 = [.int .u8 (I32 n % 256), .int .u8 (I32 n / 256 % 256), .int .u8 (I32 n / 65536 % 256), .int .u8 (I32 n / 16777216 % 256)] := by
  have h1 : (n.toUInt8.toNat : Int) = I32 n % 256 := by unfold I32; simp
  have h2 : ((n >>> 8).toUInt8.toNat : Int) = I32 n / 256 % 256 := by unfold I32; simp [Nat.shiftRight_eq_div_pow]
  have h3 : ((n >>> 16).toUInt8.toNat : Int) = I32 n / 65536 % 256 := by unfold I32; simp [Nat.shiftRight_eq_div_pow]
  have h4 : ((n >>> 24).toUInt8.toNat : Int) = I32 n / 16777216 % 256 := by unfold I32; simp [Nat.shiftRight_eq_div_pow]
  simp only [le32, List.map_cons, List.map_nil, V8, h1, h2, h3, h4]
set_option maxHeartbeats 400000 in
theorem sumCut_calls (v : Value) (l : List UInt8) (at_ : Int) (W : World) (hv : Rd W v l.length (l.map V8)) (hn : l.length ≤ 140737488351232) (ha : -9223372036854775808 ≤ at_ ∧ at_ ≤ 9223372036854775807) :
    Calls Try.prog 7 #[v, .int .i64 at_] W fun e W' => e = .returned (.bool true) ∧ Below W.heap.size W W' := by
  obtain ⟨ha1, ha2⟩ := ha
  have hv0 := hv
  obtain ⟨a, cap, rfl, hc1, hc2, _, hc⟩ := hv
  clear hc
  go_enter Try.func7, Try.ntmps7
  go_wp2_with fail
  refine (pick_calls _ _ _ (by omega) (by omega) (by omega) (by omega)).mono ?_
  rintro e w1 ⟨rfl, rfl⟩
  obtain ⟨k1, k2⟩ := pickI_lt at_ ((l.length : Int) + 1) (by omega)
  generalize pickI at_ ((l.length : Int) + 1) = kk at *
  obtain ⟨k, rfl⟩ := Int.eq_ofNat_of_zero_le k1
  have hk : k ≤ l.length := by omega
  have htl := fun w => tailB a l.length cap k hk w
  have hhd := fun w => headB a l.length cap k (by omega) w
  go_wp2_with fail
  refine (new_calls _).mono ?_
  rintro e w1 ⟨rfl, rfl⟩
  have hx0 := Box.new W #[.int .u32 (I32 0)] 30
  have hbl0 := below_alloc W (.cells #[.int .u32 (I32 0)] 30)
  obtain ⟨w0, hw0⟩ : ∃ w0, w0 = W.alloc (.cells #[.int .u32 (I32 0)] 30) := ⟨_, rfl⟩
  rw [← hw0] at hx0 hbl0 ⊢
  clear hw0
  go_wp2_with fail
  refine (works_calls _).mono ?_
  rintro e w1 ⟨rfl, hb1⟩
  have hx1 := hx0.below hb1
  have hbl1 := below_trans hbl0 hb1
  go_wp2_with fail
  go_still_tail 6, (by kernel_rfl)
  change wpList _ _ _ _ _ w1.drew
  go_wp2_with fail
  refine (add_calls _ 0 _ (l.take k) _ (hx1.drew.cell 0 _ rfl) (hx1.drew.free 0) ?_).mono ?_
  · have := (hv0.below hbl1).cut (m := k) (by omega) k
    rw [List.length_take, Nat.min_eq_left hk, List.map_take]; exact this.drew
  rintro e w2 ⟨rfl, rfl⟩
  have hx2 := hx1.drew.set 0 (.int .u32 (I32 (~~~(crcRun (~~~0) (l.take k)))))
  have hbl2 := hbl1.drew.setCell (p := ⟨W.heap.size, 0, none⟩) (Nat.le_refl _) (.int .u32 (I32 (~~~(crcRun (~~~0) (l.take k)))))
  obtain ⟨w2, hw2⟩ : ∃ w2, w2 = w1.drew.setCell ⟨W.heap.size, 0, none⟩ (.int .u32 (I32 (~~~(crcRun (~~~0) (l.take k))))) := ⟨_, rfl⟩
  rw [← hw2] at hx2 hbl2 ⊢
  clear hw2
  go_wp2_with fail
  go_still_tail 6, (by kernel_rfl)
  change wpList _ _ _ _ _ w2.drew
  go_wp2_with fail
  refine (add_calls _ (~~~(crcRun (~~~0) (l.take k))) _ (l.drop k) _ (hx2.drew.cell 0 _ rfl) (hx2.drew.free 0) ?_).mono ?_
  · have := tailV_rd (hv0.below hbl2) hk (by simp)
    rw [List.length_drop, List.map_drop]; exact this.drew
  rintro e w3 ⟨rfl, rfl⟩
  rw [UInt32.not_not, ← crcRun_append, List.take_append_drop, show ~~~(crcRun (~~~0) l) = crc l from rfl]
  have hx3 := hx2.drew.set 0 (.int .u32 (I32 (crc l)))
  have hbl3 := hbl2.drew.setCell (p := ⟨W.heap.size, 0, none⟩) (Nat.le_refl _) (.int .u32 (I32 (crc l)))
  obtain ⟨w3, hw3⟩ : ∃ w3, w3 = w2.drew.setCell ⟨W.heap.size, 0, none⟩ (.int .u32 (I32 (crc l))) := ⟨_, rfl⟩
  rw [← hw3] at hx3 hbl3 ⊢
  clear hw3
  go_wp2_with fail
  refine (value_calls _ _ _ (hx3.cell 0 _ rfl)).mono ?_
  rintro e w4 ⟨rfl, rfl⟩
  go_wp2_with fail
  have hx4 := hx3.below (below_alloc w3 (.cells #[.int .u8 (I32 (crc l) % 256), .int .u8 (I32 (crc l) / 256 % 256), .int .u8 (I32 (crc l) / 65536 % 256), .int .u8 (I32 (crc l) / 16777216 % 256)] 5))
  have hbl4 := below_trans hbl3 (below_alloc w3 (.cells #[.int .u8 (I32 (crc l) % 256), .int .u8 (I32 (crc l) / 256 % 256), .int .u8 (I32 (crc l) / 65536 % 256), .int .u8 (I32 (crc l) / 16777216 % 256)] 5))
  refine (add_calls _ (crc l) _ (le32 (crc l)) _ (hx4.cell 0 _ rfl) (hx4.free 0) ?_).mono ?_
  · refine ⟨_, 4, rfl, by simp [le32], by decide, (fun h => by cases h), fun j hj => ⟨w3.heap.size, 0, rfl, ?_⟩⟩
    rw [le32_vals]
    have hbx := Box.new w3 #[.int .u8 (I32 (crc l) % 256), .int .u8 (I32 (crc l) / 256 % 256), .int .u8 (I32 (crc l) / 65536 % 256), .int .u8 (I32 (crc l) / 16777216 % 256)] 5
    rw [le32_vals] at hj
    rw [Nat.zero_add]
    refine hbx.cell j _ ?_
    match j, hj with
    | 0, _ => rfl
    | 1, _ => rfl
    | 2, _ => rfl
    | 3, _ => rfl
  rintro e w4 ⟨rfl, rfl⟩
  rw [crc_own (crc l)]
  have hx5 := hx4.set 0 (.int .u32 (I32 0x2144df1c))
  have hbl5 := hbl4.setCell (p := ⟨W.heap.size, 0, none⟩) (Nat.le_refl _) (.int .u32 (I32 0x2144df1c))
  obtain ⟨w5, hw5⟩ : ∃ w5, w5 = (w3.alloc (.cells #[.int .u8 (I32 (crc l) % 256), .int .u8 (I32 (crc l) / 256 % 256), .int .u8 (I32 (crc l) / 65536 % 256), .int .u8 (I32 (crc l) / 16777216 % 256)] 5)).setCell ⟨W.heap.size, 0, none⟩ (.int .u32 (I32 0x2144df1c)) := ⟨_, rfl⟩
  rw [← hw5] at hx5 hbl5 ⊢
  clear hw5
  go_wp2_with fail
  refine (of_calls _ l _ (hv0.below hbl5)).mono ?_
  rintro e w6 ⟨rfl, hb6⟩
  have hx6 := hx5.below hb6
  have hbl6 := below_trans hbl5 hb6
  clear hx5 hx4 hx3 hx2 hx1 hx0
  have e1 : I32 0x2144df1c = 558161692 := rfl
  go_wp2_with fail
  refine (value_calls _ _ _ (hx6.cell 0 _ rfl)).mono ?_
  rintro e w7 ⟨rfl, rfl⟩
  go_wp2
  go_ret
  exact ⟨rfl, hbl6⟩
theorem sumCut_walk : Walks false 7 [31, 3] := by
  intro W vs h
  match vs, h with
  | [v, i], ⟨h, h', _⟩ =>
    obtain ⟨l, h1, _, h2⟩ := (h.slice Try.underlying31).bytes
    obtain ⟨n, rfl, hw⟩ := h'.int Try.underlying3
    exact sumCut_calls v l n W h1 (h2 rfl) (i64_of_wf hw)

end Go.Proofs.Ytgikknkgpbgjaaa
