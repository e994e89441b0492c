/-
  The document's Has and Within: scopes among others, bit by bit.
-/
import Derived.Test.YthnabnieajojjaaGreatDoorImM
import Derived.Laws.Bits64b
import Derived.Outline
import Derived.Deep.LoopGhost
namespace Go.Proofs.YthnabnieajojjaaGreatDoor
open Go.RowKit
set_option maxRecDepth 100000

theorem scIn_iff {a b : Nat} : scIn a b = true ↔ ∀ j, j < 64 → a.testBit j = true → b.testBit j = true := by
  unfold scIn
  have h0 : bits .andNot .u64 (a : Int) (b : Int) = ((BitVec.ofNat 64 a &&& ~~~ BitVec.ofNat 64 b).toNat : Int) := by
    show IntKind.u64.wrap ((BitVec.ofInt 64 (a : Int) &&& ~~~ BitVec.ofInt 64 (b : Int)).toNat : Int) = _
    rw [BitVec.ofInt_natCast, BitVec.ofInt_natCast]
    have := (BitVec.ofNat 64 a &&& ~~~ BitVec.ofNat 64 b).isLt
    generalize (BitVec.ofNat 64 a &&& ~~~ BitVec.ofNat 64 b).toNat = x at this ⊢
    simp [IntKind.wrap, IntKind.bits, IntKind.signed]; omega
  rw [h0, beq_iff_eq]
  constructor
  · intro h j hj ha
    have h1 : BitVec.ofNat 64 a &&& ~~~ BitVec.ofNat 64 b = 0#64 := by
      apply BitVec.eq_of_toNat_eq
      rw [BitVec.toNat_ofNat]
      omega
    have h2 : (BitVec.ofNat 64 a &&& ~~~ BitVec.ofNat 64 b).getLsbD j = false := by rw [h1]; simp
    rw [BitVec.getLsbD_and, BitVec.getLsbD_not, BitVec.getLsbD_ofNat, BitVec.getLsbD_ofNat, decide_eq_true hj, ha] at h2
    cases hb : b.testBit j
    · rw [hb] at h2; cases h2
    · rfl
  · intro h
    have h1 : BitVec.ofNat 64 a &&& ~~~ BitVec.ofNat 64 b = 0#64 := by
      apply BitVec.eq_of_getLsbD_eq
      intro j hj
      rw [BitVec.getLsbD_and, BitVec.getLsbD_not, BitVec.getLsbD_ofNat, BitVec.getLsbD_ofNat, decide_eq_true hj, BitVec.getLsbD_zero]
      cases ha : a.testBit j
      · rfl
      · rw [h j hj ha]; rfl
    rw [h1]; rfl
theorem has_of {a j : Nat} (ha : a < 2 ^ 64) : (bits .and .u64 ((a : Int) / 2 ^ j) 1 == 1) = a.testBit j := by
  have h1 : (a : Int) / 2 ^ j = ((a / 2 ^ j : Nat) : Int) := by rw [Int.natCast_ediv, Int.natCast_pow]; rfl
  have h2 : a / 2 ^ j < 18446744073709551616 := Nat.lt_of_le_of_lt (Nat.div_le_self _ _) ha
  have h3 := bits_and_u64_nat (a / 2 ^ j) 1 h2 (by omega)
  rw [h1, show (1 : Int) = ((1 : Nat) : Int) from rfl, h3, Nat.and_one_is_mod, Nat.testBit_eq_decide_div_mod_eq]
  by_cases h : a / 2 ^ j % 2 = 1
  · rw [h]; rfl
  · have h4 : a / 2 ^ j % 2 = 0 := by omega
    rw [h4]; rfl
set_option maxHeartbeats 800000 in
theorem refHas_calls (a j : Nat) (w : World) (ha : a < 2 ^ 64) (hj : j < 64) :
    Calls Tryz.prog 74 #[.int .u64 (a : Int), .int .i64 (j : Int)] w fun e w' => e = .returned (.bool (a.testBit j)) ∧ w = w' := by
  have j0 : (0 : Int) ≤ (j : Int) := by omega
  have j1 : (j : Int) < 64 := by omega
  have HJ := Lib.hid hj
  have HA := Lib.hid ha
  clear hj ha
  go_enter Tryz.func74, Tryz.ntmps74
  go_wp2_with fail
  go_ret
  exact ⟨by rw [has_of HA.out]; rfl, rfl⟩
set_option maxHeartbeats 1600000 in
theorem refWithin_calls (a b : Nat) (w : World) (ha : a < 2 ^ 64) (hb : b < 2 ^ 64) :
    Calls Tryz.prog 73 #[.int .u64 (a : Int), .int .u64 (b : Int)] w fun e w' => e = .returned (.bool (scIn a b)) ∧ w = w' := by
  have HA := Lib.hid (fun j w hj => refHas_calls a j w ha hj)
  have HB := Lib.hid (fun j w hj => refHas_calls b j w hb hj)
  clear ha hb
  go_enter Tryz.func73, Tryz.ntmps73
  go_wp2_with fail
  go_loopg [5] 64 (fun gk iv wr => ∃ k : Nat, gk + k = 64 ∧ iv = .int .i64 (k : Int) ∧ w = wr ∧ Hid (∀ j, j < k → a.testBit j = true → b.testBit j = true))
  case atStart => exact ⟨0, rfl, rfl, rfl, Lib.hid (fun j hj => by omega)⟩
  case round =>
    obtain ⟨k, hgk, rfl, rfl, HT⟩ := hrel
    have k0 : (0 : Int) ≤ (k : Int) := by omega
    have HGK := Lib.hid hgk
    clear hgk
    by_cases hk : k < 64
    · have k1 : (k : Int) < 64 := by omega
      have HK := Lib.hid hk
      clear hk
      go_wp2_with fail
      refine (HA.out k _ HK.out).mono ?_
      rintro e w1 ⟨rfl, rfl⟩
      obtain ⟨r, hr⟩ : ∃ r, r = a.testBit k := ⟨_, rfl⟩
      have HR := Lib.hid hr
      rw [← hr]
      clear hr
      cases r
      · have HT2 := Lib.hid (show ∀ j, j < k + 1 → a.testBit j = true → b.testBit j = true from fun j hj h => by
          by_cases e : j = k
          · subst e; rw [← HR.out] at h; cases h
          · exact HT.out j (by omega) h)
        clear HT HR
        go_wp2_with fail
        go_roundg (64 - (k + 1))
        case measure => have := HGK.out; have := HK.out; omega
        case rel => exact ⟨k + 1, by have := HGK.out; have := HK.out; omega, by go_num, rfl, HT2⟩
      · go_wp2_with fail
        refine (HB.out k _ HK.out).mono ?_
        rintro e w1 ⟨rfl, rfl⟩
        obtain ⟨q, hq⟩ : ∃ q, q = b.testBit k := ⟨_, rfl⟩
        have HQ := Lib.hid hq
        rw [← hq]
        clear hq
        cases q
        · have HF := Lib.hid (show scIn a b = false by
            cases e : scIn a b
            · rfl
            · have := scIn_iff.1 e k HK.out HR.out.symm
              rw [← HQ.out] at this; cases this)
          clear HT HR HQ
          go_wp2_with fail
          go_ret
          rw [HF.out]
          exact ⟨rfl, rfl⟩
        · have HT2 := Lib.hid (show ∀ j, j < k + 1 → a.testBit j = true → b.testBit j = true from fun j hj h => by
            by_cases e : j = k
            · subst e; exact HQ.out.symm
            · exact HT.out j (by omega) h)
          clear HT HR HQ
          go_wp2_with fail
          go_roundg (64 - (k + 1))
          case measure => have := HGK.out; have := HK.out; omega
          case rel => exact ⟨k + 1, by have := HGK.out; have := HK.out; omega, by go_num, rfl, HT2⟩
    · have k1 : ¬ (k : Int) < 64 := by omega
      have HF := Lib.hid (show scIn a b = true from scIn_iff.2 (fun j hj h => HT.out j (by omega) h))
      clear HT hk
      go_wp2_with fail
      go_ret
      rw [HF.out]
      exact ⟨rfl, rfl⟩
end Go.Proofs.YthnabnieajojjaaGreatDoor
