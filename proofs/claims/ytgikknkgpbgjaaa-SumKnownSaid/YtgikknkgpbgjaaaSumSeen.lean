/-
  The walk of SumSeen.
-/
import Derived.Test.YtgikknkgpbgjaaaSumLaws
namespace Go.Proofs.Ytgikknkgpbgjaaa
open Go.RowKit

/-- Is a number above nought? -/
def nz (a : UInt32) : Bool := decide (a ≠ 0)
theorem I32_shr (x : UInt32) (i : Nat) (hi : i < 32) : I32 x / 2 ^ i = I32 (x >>> UInt32.ofNat i) := by
  unfold I32
  have h1 : (UInt32.ofNat i).toNat = i := by show i % 2 ^ 32 = i; omega
  have : (x >>> UInt32.ofNat i).toNat = x.toNat / 2 ^ i := by
    rw [UInt32.toNat_shiftRight, h1, Nat.mod_eq_of_lt hi, Nat.shiftRight_eq_div_pow]
  rw [this]; simp
theorem u8_flip_val (x : UInt8) (r : Nat) (hr : r < 8) : Value.int .u8 (bits .xor .u8 (x.toNat : Int) (2 ^ r % 256)) = V8 (x ^^^ UInt8.ofNat (2 ^ r)) := by
  have h1 : 2 ^ r < 2 ^ 8 := Nat.pow_lt_pow_right (by omega) hr
  have h2 : ((2 : Int) ^ r % 256) = ((2 ^ r : Nat) : Int) := by
    have : ((2 : Int) ^ r) = ((2 ^ r : Nat) : Int) := by simp
    rw [this]; generalize 2 ^ r = p at h1; omega
  have hx := x.toNat_lt
  rw [h2, u8_xor_nat _ _ (by omega) (by omega), V8]
  congr 2
  rw [UInt8.toNat_xor]
  congr 1
  show _ = 2 ^ r % 2 ^ 8
  rw [Nat.mod_eq_of_lt h1]
theorem list_set_map (l : List UInt8) (q : Nat) (x : UInt8) : (l.set q x).map V8 = (l.map V8).set q (V8 x) := List.map_set
set_option maxHeartbeats 800000 in
theorem sumSeen_calls (vb : Value) (b : List UInt8) (at_ : Int) (mask : UInt32) (W : World) (hvb : Rd W vb b.length (b.map V8)) (hn : b.length ≤ 140737488351232) (ha1 : -9223372036854775808 ≤ at_) (ha2 : at_ ≤ 9223372036854775807) :
    Calls Try.prog 6 #[vb, .int .i64 at_, .int .u32 (I32 mask)] W fun e W' => e = .returned (.bool true) ∧ Below W.heap.size W W' := by
  have hv0 := hvb
  obtain ⟨pa, ca, rfl, hc1, hc2, hc⟩ := hvb
  have Hc := Lib.hid hc
  clear hc
  by_cases h0 : b.length = 0
  · have hb0 : ((b.length : Int) * 8 == 0) = true := by simp [h0]
    go_enter Try.func6, Try.ntmps6
    go_wp2_with fail
    refine (works_calls _).mono ?_
    rintro e w1 ⟨rfl, hb1⟩
    go_wp2_with fail
    refine (works_calls _).mono ?_
    rintro e w2 ⟨rfl, hb2⟩
    go_wp2
    go_ret
    exact ⟨rfl, below_trans hb1 hb2⟩
  · go_enter Try.func6, Try.ntmps6
    go_wp2_with fail
    refine (works_calls _).mono ?_
    rintro e w1 ⟨rfl, hb1⟩
    go_wp2_with fail
    refine (pick_calls _ _ _ (by omega) (by omega) (by omega) (by omega)).mono ?_
    rintro e w2 ⟨rfl, rfl⟩
    obtain ⟨k1, k2⟩ := pickI_lt at_ (8 * (b.length : Int)) (by omega)
    generalize pickI at_ (8 * (b.length : Int)) = kk at *
    obtain ⟨k, rfl⟩ := Int.eq_ofNat_of_zero_le k1
    have hk : k < 8 * b.length := by omega
    go_wp2_with fail
    have hs1 := hb1.size
    go_loopw [9, 10] (fun o i wr => ∃ j : Nat, j ≤ b.length ∧ i = .int .i64 j ∧ wr.ownsRow W.heap.size 5 1 o j ((b.map V8).take j) ∧ Below W.heap.size W wr) (fun _ i _ => b.length - (intOf i).toNat)
    case atStart => exact ⟨0, by omega, rfl, World.ownsRow_nil _ _ _ _, hb1⟩
    case round =>
      obtain ⟨j, hj, rfl, hown, hb⟩ := hrel
      by_cases hlt : j < b.length
      · obtain ⟨p, off, rfl, hcell'⟩ := Hc.out j (by simpa using hlt)
        have hcell : wr.cell? ⟨p, off + j, none⟩ = some (.int .u8 (b[j].toNat : Int)) := below_heap hb (by rw [hcell']; simp [hlt, V8])
        clear hcell' Hc hv0 hb1
        have hs := hb.size
        have htk := Lib.hid (show (b.map V8).take (j + 1) = (b.map V8).take j ++ [.int .u8 (b[j].toNat : Int)] from by rw [List.take_succ_eq_append_getElem (by simpa using hlt)]; simp [V8])
        go_wp2_with (at_builtin; refine appB rfl _ _ rfl W.heap.size _ _ _ rfl (hown.alloc _) ⟨wr.heap.size, 0, none⟩ 1 1 [.int .u8 (b[j].toNat : Int)] rfl rfl (cell_one_new _ _ _) (oneC_int _ _) (by omega) (by simp; omega) ?_)
        intro v' w2 hown' hg' _
        have hb2 := below_step (hb.alloc hs (.cells #[.int .u8 (b[j].toNat : Int)] 5)) (by simp; omega) hg' (fun q hq => (hown.lt q hq).1)
        clear hg' hcell
        go_wp2
        go_roundw
        case rel => exact ⟨j + 1, by omega, by go_num, by rw [htk.out]; exact hown', hb2⟩
        case measure => simp [intOf]; omega
      · obtain rfl : j = b.length := by omega
        rw [List.take_of_length_le (by simp)] at hown
        clear Hc hb1
        rcases hown.2 with ⟨rfl, h00⟩ | ⟨g, cap, cur, rfl, hbg, hg, hn', hm, hs', ht⟩
        · omega
        have hgl := lt_of_block hg
        clear hg hs' ht
        unfold maxLen at hm
        have hr0 : ∃ l' : List UInt8, l'.length = b.length ∧ wr.ownsRow W.heap.size 5 1 (.slice (some ⟨g, 0, none⟩) b.length cap) b.length (l'.map V8) ∧ crcRun 0xffffffff l' = crcRun 0xffffffff b ^^^ crcSteps (8 * b.length - k) 0 := ⟨b, rfl, hown, by rw [crcSteps_zero, UInt32.xor_zero]⟩
        clear hown
        go_wp2
        obtain ⟨wo, rfl⟩ : ∃ wo : World, wo = wr := ⟨_, rfl⟩
        go_loopw [11, 12] (fun t i wr => ∃ (i' : Nat) (acc : UInt32) (l' : List UInt8), i' ≤ 32 ∧ i = .int .i64 i' ∧ t = .bool (nz acc) ∧ acc.toNat < 2 ^ i' ∧ l'.length = b.length ∧
            wr.ownsRow W.heap.size 5 1 (.slice (some ⟨g, 0, none⟩) b.length cap) b.length (l'.map V8) ∧ crcRun 0xffffffff l' = crcRun 0xffffffff b ^^^ crcSteps (8 * b.length - k) acc ∧ Below W.heap.size W wr) (fun _ i _ => 32 - (intOf i).toNat)
        case atStart =>
          obtain ⟨l', h1, h2, h3⟩ := hr0
          exact ⟨0, 0, l', by omega, rfl, rfl, by decide, h1, h2, h3, hb⟩
        case round =>
          clear hr0 hb
          obtain ⟨i, acc, l', hi, rfl, rfl, hacc, hl', hown, hcrc, hb⟩ := hrel
          have hs := hb.size
          by_cases hlt : i < 32 ∧ k + i < 8 * b.length
          · obtain ⟨hlt1, hlt2⟩ := hlt
            have hQ : (k + i) / 8 < b.length := by omega
            by_cases hbit : (mask >>> UInt32.ofNat i) &&& 1 = 1
            · have hbit' : bits .and .u32 (I32 mask / 2 ^ i) 1 = 1 := by rw [I32_shr _ _ hlt1]; exact refNext_odd _ hbit
              clear hbit
              have hst := Lib.hid (window_step 0xffffffff l' b.length k i acc (crcRun 0xffffffff b) hl' hlt1 hlt2 hcrc)
              have hwl := Lib.hid (window_lt acc i hlt1 hacc)
              obtain ⟨q, hq⟩ : ∃ q, q = (k + i) / 8 := ⟨_, rfl⟩
              obtain ⟨r, hr⟩ : ∃ r, r = (k + i) % 8 := ⟨_, rfl⟩
              have z1 : IntKind.i64.wrap ((k : Int) + (i : Int)) = (k : Int) + (i : Int) := by rw [IntWalk.i64_in _ (by omega)]
              have z2 : IntKind.i64.wrap (((k : Int) + (i : Int)).tdiv 8) = (q : Int) := by
                rw [Int.tdiv_eq_ediv_of_nonneg (by omega), IntWalk.i64_in _ (by omega)]; omega
              have z3 : ((k : Int) + (i : Int)).tmod 8 = (r : Int) := by rw [Int.tmod_eq_emod_of_nonneg (by omega)]; omega
              rw [← hq, ← hr] at hst
              rw [← hq] at hQ
              have hr8 : r < 8 := by omega
              have hcell : wr.cell? ⟨g, q, none⟩ = some (.int .u8 ((l'.getD q 0).toNat : Int)) := by
                rw [hown.cellAt _ (by omega)]; simp [V8, hl', hQ]
              have hfz := hown.frozenAt q
              have Hcrc := Lib.hid hcrc
              have Hacc := Lib.hid hacc
              have Hl := Lib.hid hl'
              have Hq := Lib.hid hq
              clear hcrc hacc hl' hq hr
              generalize hx : l'.getD q 0 = x at *
              have Hx := Lib.hid hx
              clear hx
              go_wp2_with fail
              go_still_tail 19, (by kernel_rfl)
              change wpList _ _ _ _ _ wr.drew
              clear z1 z2 z3
              go_wp2
              rw [u8_flip_val x r hr8]
              obtain ⟨ho1, ho2⟩ := hown.stored q (V8 (x ^^^ UInt8.ofNat (2 ^ r)))
              have hs2 := hst.out
              go_roundw
              case rel => exact ⟨i + 1, acc ^^^ UInt32.ofNat (2 ^ i), l'.set q (x ^^^ UInt8.ofNat (2 ^ r)), by omega, by go_num, by unfold nz; simp [hwl.out.2], hwl.out.1, by rw [List.length_set]; exact Hl.out, by rw [list_set_map]; exact ho1, hs2, (hb.setCell (p := ⟨g, q, none⟩) hbg _).drew⟩
              case measure => simp [intOf]; omega
            · have hbit' : bits .and .u32 (I32 mask / 2 ^ i) 1 = 0 := by rw [I32_shr _ _ hlt1]; exact refNext_even _ ((low_cases _).resolve_right hbit)
              clear hbit
              go_wp2
              go_roundw
              case rel => exact ⟨i + 1, acc, l', by omega, by go_num, rfl, Nat.lt_trans hacc (Nat.pow_lt_pow_right (by omega) (by omega)), hl', hown, hcrc, hb⟩
              case measure => simp [intOf]; omega
          · have hne : (I32 (crc b) != I32 (crc l')) = nz acc := by
              have h := crc_ne hcrc
              unfold nz
              by_cases h0 : acc = 0
              · rw [h.2 h0]; simp [h0]
              · have : crc b ≠ crc l' := fun e => h0 (h.1 e)
                have : I32 (crc b) ≠ I32 (crc l') := fun e => this (I32_inj e)
                simp [h0, this]
            have hne' : (!(I32 (crc b) == I32 (crc l'))) = nz acc := hne
            have hrl := rd_of_own hown
            rw [← hl'] at hrl
            have Hl := Lib.hid hl'
            have Hown := Lib.hid hown
            clear hcrc hacc hl' hown
            have hcase : ¬ i < 32 ∨ (i < 32 ∧ ¬ k + i < 8 * b.length) := by omega
            clear hlt
            rcases hcase with h2 | ⟨h2, h3⟩
            all_goals
              go_wp2_with fail
              refine (of_calls _ b _ (hv0.below (hb.mono (Nat.le_refl _)))).mono ?_
              rintro e w2 ⟨rfl, hb2⟩
              go_wp2_with fail
              rw [← Hl.out]
              refine (of_calls _ l' _ (hrl.below hb2)).mono ?_
              rintro e w3 ⟨rfl, hb3⟩
              go_wp2
              go_ret
              exact ⟨rfl, hb.trans ((below_trans hb2 hb3).mono hs)⟩
theorem sumSeen_walk : Walks false 6 [31, 3, 25] := by
  intro W vs h
  match vs, h with
  | [v, v', v''], ⟨h, h', h'', _⟩ =>
    obtain ⟨b, b1, _, b2⟩ := (h.slice Try.underlying31).bytes
    obtain ⟨n, rfl, hw⟩ := h'.int Try.underlying3
    obtain ⟨m, rfl, hm⟩ := h''.int Try.underlying25
    obtain ⟨c, rfl⟩ := u32_of_wf hm
    obtain ⟨n1, n2⟩ := i64_of_wf hw
    exact sumSeen_calls v b n c W b1 (b2 rfl) n1 n2
end Go.Proofs.Ytgikknkgpbgjaaa
