/-
  The walk of SumKnown.
-/
import Derived.Test.YtgikknkgpbgjaaaSumThree
import Derived.Test.YtgikknkgpbgjaaaSumSeen
namespace Go.Proofs.Ytgikknkgpbgjaaa
open Go.RowKit

def squares (n : Nat) : List UInt8 := (List.range n).map fun i : Nat => B8 ((i : Int) * (i : Int))
theorem squares_succ (n : Nat) : (squares (n + 1)).map V8 = (squares n).map V8 ++ [.int .u8 ((n : Int) * (n : Int) % 256)] := by
  unfold squares; rw [List.range_succ]; simp [V8_B8]
theorem squares_length (n : Nat) : (squares n).length = n := by simp [squares]
set_option maxRecDepth 100000 in
set_option maxHeartbeats 1600000 in
theorem sumKnown_calls (W : World) : Calls Try.prog 8 #[] W fun e W' => e = .returned (.bool true) ∧ Below W.heap.size W W' := by
  have c0 : I32 (crc [0]) = 3523407757 := by rw [show crc [0] = 0xd202ef8d by decide +kernel]; rfl
  have c1 : I32 (crc [97]) = 3904355907 := by rw [show crc [97] = 0xe8b7be43 by decide +kernel]; rfl
  have c2 : I32 (crc [97, 98, 99]) = 891568578 := by rw [show crc [97, 98, 99] = 0x352441c2 by decide +kernel]; rfl
  go_enter Try.func8, Try.ntmps8
  go_wp2_with fail
  refine (works_calls _).mono ?_
  rintro e w1 ⟨rfl, hb1⟩
  go_wp2_with fail
  refine (of_calls _ [0] _ (rd_lit _ _ _ [0] rfl (by decide))).mono ?_
  rintro e w2 ⟨rfl, hb2⟩
  have hbl2 := below_trans (below_trans hb1 (below_alloc w1 _)) hb2
  clear hb1 hb2
  go_wp2_with fail
  refine (bytes_calls _ _ (by decide)).mono ?_
  rintro e w3 ⟨o, rfl, hown, hb3⟩
  go_wp2_with fail
  refine (of_calls o [97] _ (rd_of_own hown)).mono ?_
  rintro e w4 ⟨rfl, hb4⟩
  have hbl4 := below_trans (below_trans hbl2 hb3) hb4
  clear hbl2 hb3 hb4
  go_wp2_with fail
  refine (bytes_calls _ _ (by decide)).mono ?_
  rintro e w5 ⟨o', rfl, hown', hb5⟩
  go_wp2_with fail
  refine (of_calls o' [97, 98, 99] _ (rd_of_own hown')).mono ?_
  rintro e w6 ⟨rfl, hb6⟩
  have hbl6 := below_trans (below_trans hbl4 hb5) hb6
  clear hbl4 hb5 hb6 hown hown'
  go_wp2_with fail
  go_loopw [1] (fun i wr => ∃ j : Nat, j ≤ 256 ∧ i = .int .i64 j ∧ Below W.heap.size W wr) (fun i _ => 256 - (intOf i).toNat)
  case atStart => exact ⟨0, by omega, rfl, hbl6⟩
  case round =>
    clear hbl6 c0 c1 c2
    obtain ⟨j, hj, rfl, hb⟩ := hrel
    have hs := hb.size
    by_cases hlt : j < 256
    · go_wp2_with fail
      refine (sumOf_calls _ [B8 j] _ (rd_lit _ _ _ [B8 j] (by simp [V8_B8' (j : Int) (by omega)]) (by simp)) (by simp)).mono ?_
      rintro e w2 ⟨rfl, hb2⟩
      have hbl2 := hb.trans ((below_trans (below_alloc wr _) hb2).mono hs)
      have hs2 := hbl2.size
      go_wp2_with fail
      refine (sumOf_calls _ [B8 j, B8 (3 * j)] _ (rd_lit _ _ _ [B8 j, B8 (3 * j)] (by simp [V8_B8' (j : Int) (by omega), V8_B8]) (by simp)) (by simp)).mono ?_
      rintro e w3 ⟨rfl, hb3⟩
      have hbl3 := hbl2.trans ((below_trans (below_alloc w2 _) hb3).mono hs2)
      have hs3 := hbl3.size
      go_wp2_with fail
      refine (sumCut_calls _ [B8 j, 7, B8 j] _ _ (rd_lit _ _ _ [B8 j, 7, B8 j] (by simp [V8_B8' (j : Int) (by omega)]; rfl) (by simp)) (by simp) ⟨by omega, by omega⟩).mono ?_
      rintro e w4 ⟨rfl, hb4⟩
      have hbl4 := hbl3.trans ((below_trans (below_alloc w3 _) hb4).mono hs3)
      clear hb hb2 hb3 hb4 hbl2 hbl3
      go_wp2
      go_roundw
      case rel => exact ⟨j + 1, by omega, by go_num, hbl4⟩
      case measure => simp [intOf]; omega
    · obtain rfl : j = 256 := by omega
      rw [show ((256 : Nat) : Int) = 256 from rfl]
      go_wp2_with fail
      obtain ⟨wo, rfl⟩ : ∃ wo : World, wo = wr := ⟨_, rfl⟩
      go_loopw [2, 3] (fun o i wr => ∃ j : Nat, j ≤ 300 ∧ i = .int .i64 j ∧ wr.ownsRow W.heap.size 5 1 o j ((squares j).map V8) ∧ Below W.heap.size W wr) (fun _ i _ => 300 - (intOf i).toNat)
      case atStart => exact ⟨0, by omega, rfl, World.ownsRow_nil _ _ _ _, hb⟩
      case round =>
        clear hb
        obtain ⟨j, hj, rfl, hown, hb⟩ := hrel
        have hs := hb.size
        by_cases hlt : j < 300
        · have hq := Lib.hid (squares_succ j)
          have hj3 : (0 : Int) ≤ (j : Int) * (j : Int) := Int.mul_nonneg (by omega) (by omega)
          have hj4 : (j : Int) * (j : Int) ≤ 300 * 300 := Int.mul_le_mul (by omega) (by omega) (by omega) (by omega)
          go_wp2_with (at_builtin; go_loud (refine appB rfl _ _ rfl W.heap.size _ _ _ rfl (hown.alloc _) ⟨wr.heap.size, 0, none⟩ 1 1 [.int .u8 ((j : Int) * (j : Int) % 256)] rfl rfl (cell_one_new _ _ _) (oneC_int _ _) (by omega) (by simp; omega) ?_))
          intro v' w2 hown' hg' _
          have hb2 := below_step (hb.alloc hs (.cells #[.int .u8 ((j : Int) * (j : Int) % 256)] 5)) (by simp; omega) hg' (fun q hq => (hown.lt q hq).1)
          clear hg'
          go_wp2
          go_roundw
          case rel => exact ⟨j + 1, by omega, by go_num, by rw [hq.out]; exact hown', hb2⟩
          case measure => simp [intOf]; omega
        · obtain rfl : j = 300 := by omega
          rw [show ((300 : Nat) : Int) = 300 from rfl]
          have hrd := rd_of_own hown
          have hrd' : Rd wr u2 (squares 300).length ((squares 300).map V8) := by rw [squares_length]; exact hrd
          have hlq : (squares 300).length ≤ 1000 := by rw [squares_length]; decide
          clear hrd hown
          generalize squares 300 = sq at *
          go_wp2_with fail
          obtain ⟨wo, rfl⟩ : ∃ wo : World, wo = wr := ⟨_, rfl⟩
          go_loopw [4] (fun i wr => ∃ j : Nat, j ≤ 2406 ∧ i = .int .i64 j ∧ Rd wr u2 sq.length (sq.map V8) ∧ Below W.heap.size W wr) (fun i _ => 2406 - (intOf i).toNat)
          case atStart => exact ⟨0, by omega, rfl, hrd', hb⟩
          case round =>
            clear hrd' hb
            obtain ⟨j, hj, rfl, hrd, hb⟩ := hrel
            have hs := hb.size
            by_cases hlt : j < 2400
            · go_wp2_with fail
              refine (sumSeen_calls _ sq _ 1 _ hrd (by omega) (by omega) (by omega)).mono ?_
              rintro e w2 ⟨rfl, hb2⟩
              go_wp2_with fail
              refine (sumSeen_calls _ sq _ 0x80000001 _ (hrd.below hb2) (by omega) (by omega) (by omega)).mono ?_
              rintro e w3 ⟨rfl, hb3⟩
              go_wp2_with fail
              refine (sumSeen_calls _ sq _ 0xffffffff _ (hrd.below (below_trans hb2 hb3)) (by omega) (by omega) (by omega)).mono ?_
              rintro e w4 ⟨rfl, hb4⟩
              have hb24 := below_trans (below_trans hb2 hb3) hb4
              have hrd4 := hrd.below hb24
              clear hb2 hb3 hb4 hrd
              go_wp2
              go_roundw
              case rel => exact ⟨j + 7, by omega, by go_num, hrd4, hb.trans (hb24.mono hs)⟩
              case measure => simp [intOf]; omega
            · go_wp2_with fail
              refine (sumOf_calls _ sq _ hrd (by omega)).mono ?_
              rintro e w2 ⟨rfl, hb2⟩
              go_wp2
              go_ret
              exact ⟨rfl, hb.trans (hb2.mono hs)⟩
theorem sumKnown_walk : Walks false 8 [] := by
  intro W vs h
  match vs, h with
  | [], _ => exact sumKnown_calls W
end Go.Proofs.Ytgikknkgpbgjaaa
