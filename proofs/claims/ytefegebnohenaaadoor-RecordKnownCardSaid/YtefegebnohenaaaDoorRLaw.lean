/-
  The small functions of lineagelaw12: cut.
-/
import Derived.Test.YtefegebnohenaaaDoorScan
import Derived.Test.YtefegebnohenaaaDoorRecPlain
namespace Go.Proofs.YtefegebnohenaaaDoor
open Go.RowKit

theorem cut_calls (a : Option Addr) (n c : Nat) (w : World) (hn : n ≤ c) :
    Calls Tryd.prog 47 #[.slice a n c] w fun r w' => r = .returned (.slice a (min n 512) c) ∧ w' = w := by
  obtain ⟨k, hk⟩ : ∃ k, k = min n 512 := ⟨_, rfl⟩
  rw [← hk]
  have hmi : ∀ ts t w', (Builtin.min_ ts t #[.int .i64 (n : Int), .int .i64 512]).run Tryd.prog w' = .ok (.int .i64 (k : Int)) w' := fun ts t w' => by
    rw [run_min_int2]
    congr 2
    by_cases h : (512 : Int) < (n : Int)
    · rw [if_pos h]; omega
    · rw [if_neg h]; omega
  have hhd := headB a n c k (by omega)
  clear hk
  go_enter Tryd.func47, Tryd.ntmps47
  go_wp2_with fail
  go_ret
  exact ⟨rfl, rfl⟩
theorem or_mul (a b i m : Nat) (hm : m = 2 ^ i) (h : a < m) : a ||| (b * m) = b * m + a := by
  subst hm
  rw [Nat.or_comm, ← Nat.shiftLeft_eq, Nat.shiftLeft_add_eq_or_of_lt h]
theorem u32_or' (a b : Nat) (ha : a < 4294967296) (hb : b < 4294967296) : bits .or .u32 (a : Int) (b : Int) = ((a ||| b : Nat) : Int) := by
  have hx : a ||| b < 2 ^ 32 := Nat.or_lt_two_pow (by omega) (by omega)
  have ho : ∀ n : Nat, n < 4294967296 → (BitVec.ofInt 32 (n : Int)).toNat = n := fun n hn => by rw [BitVec.toNat_ofInt]; omega
  show IntKind.u32.wrap ((BitVec.ofInt 32 (a : Int) ||| BitVec.ofInt 32 (b : Int)).toNat : Int) = _
  rw [BitVec.toNat_or, ho a ha, ho b hb, wrap_u32n _ (by omega)]
theorem or32 (c1 c2 c3 c4 : Nat) (h1 : c1 < 256) (h2 : c2 < 256) (h3 : c3 < 256) (h4 : c4 < 256) :
    bits .or .u32 (bits .or .u32 (bits .or .u32 (c1 : Int) ((c2 : Int) * 256)) ((c3 : Int) * 65536)) ((c4 : Int) * 16777216) = ((c1 + 256 * c2 + 65536 * c3 + 16777216 * c4 : Nat) : Int) := by
  have e2 : ((c2 : Int) * 256) = ((c2 * 256 : Nat) : Int) := by omega
  have e3 : ((c3 : Int) * 65536) = ((c3 * 65536 : Nat) : Int) := by omega
  have e4 : ((c4 : Int) * 16777216) = ((c4 * 16777216 : Nat) : Int) := by omega
  rw [e2, e3, e4, u32_or' c1 (c2 * 256) (by omega) (by omega), or_mul c1 c2 8 256 (by decide) (by omega), u32_or' _ (c3 * 65536) (by omega) (by omega), or_mul _ c3 16 65536 (by decide) (by omega), u32_or' _ (c4 * 16777216) (by omega) (by omega), or_mul _ c4 24 16777216 (by decide) (by omega)]
  omega
theorem begins_plain (b : List UInt8) (e : UInt32) (h : 5 ≤ b.length) : decide (b.take 5 = 104 :: le e.toNat 4) = (decide ((b.getD 0 0).toNat = 104) && decide ((b.getD 1 0).toNat + 256 * (b.getD 2 0).toNat + 65536 * (b.getD 3 0).toNat + 16777216 * (b.getD 4 0).toNat = e.toNat)) := by
  match b, h with
  | a0 :: a1 :: a2 :: a3 :: a4 :: r, _ =>
    have he := e.toNat_lt
    have h1 := a1.toNat_lt
    have h2 := a2.toNat_lt
    have h3 := a3.toNat_lt
    have h4 := a4.toNat_lt
    have hof : ∀ (a : UInt8) (n : Nat), a = UInt8.ofNat n ↔ a.toNat = n % 256 := fun a n => by
      have : (UInt8.ofNat n).toNat = n % 256 := by show n % 2 ^ 8 = _; rfl
      rw [← this]; exact ⟨fun h => by rw [h], fun h => UInt8.toNat_inj.1 h⟩
    have h104 : a0 = 104 ↔ a0.toNat = 104 := ⟨fun h => by rw [h]; rfl, fun h => UInt8.toNat_inj.1 h⟩
    simp only [List.take_succ_cons, List.take_zero, List.getD_cons_zero, List.getD_cons_succ, le, List.cons.injEq, and_true, hof, h104, ← Bool.decide_and]
    apply decide_eq_decide.2
    constructor
    · rintro ⟨e0, e1, e2, e3, e4⟩
      exact ⟨e0, by omega⟩
    · rintro ⟨e0, e1⟩
      exact ⟨e0, by omega, by omega, by omega, by omega⟩
theorem begins_calls (b : List UInt8) (e : UInt32) (w : World) (hb : b.length ≤ 9223372036854775807) :
    Calls Tryd.prog 45 #[.string (SB b), .int .u32 (e.toNat : Int)] w fun r w' => r = .returned (.bool (decide (b.take 5 = 104 :: le e.toNat 4))) ∧ Below w.heap.size w w' := by
  by_cases h5 : b.length < 5
  · have hno : ¬ b.take 5 = 104 :: le e.toNat 4 := fun h => by
      have := congrArg List.length h
      simp [le_length] at this; omega
    rw [decide_eq_false hno]
    have hd : decide ((5 : Int) ≤ (b.length : Int)) = false := by rw [decide_eq_false_iff_not]; omega
    clear hno
    go_enter Tryd.func45, Tryd.ntmps45
    go_wp2_with fail
    go_quiet (fail)
    go_wp2_with fail
    go_ret
    exact ⟨rfl, by first | exact Below.refl _ _ | exact ⟨rfl, rfl, rfl, Nat.le_refl _, fun _ _ => rfl⟩⟩
  · have hd : (5 : Int) ≤ (b.length : Int) := by omega
    obtain ⟨c0, hc0⟩ : ∃ c, c = (b.getD 0 0).toNat := ⟨_, rfl⟩
    obtain ⟨c1, hc1⟩ : ∃ c, c = (b.getD 1 0).toNat := ⟨_, rfl⟩
    obtain ⟨c2, hc2⟩ : ∃ c, c = (b.getD 2 0).toNat := ⟨_, rfl⟩
    obtain ⟨c3, hc3⟩ : ∃ c, c = (b.getD 3 0).toNat := ⟨_, rfl⟩
    obtain ⟨c4, hc4⟩ : ∃ c, c = (b.getD 4 0).toNat := ⟨_, rfl⟩
    have hl : ∀ i : Nat, (b.getD i 0).toNat < 256 := fun i => UInt8.toNat_lt _
    have h0 : c0 < 256 := by rw [hc0]; exact hl 0
    have h1 : c1 < 256 := by rw [hc1]; exact hl 1
    have h2 : c2 < 256 := by rw [hc2]; exact hl 2
    have h3 : c3 < 256 := by rw [hc3]; exact hl 3
    have h4 : c4 < 256 := by rw [hc4]; exact hl 4
    have i0 : ∀ w', (Instr.index 9 (.string (SB b)) (.int .i64 0)).run Tryd.prog w' = .ok (.int .u8 (c0 : Int)) w' := fun w' => by rw [hc0]; exact indexS w' b 0 (by omega)
    have i1 : ∀ w', (Instr.index 9 (.string (SB b)) (.int .i64 1)).run Tryd.prog w' = .ok (.int .u8 (c1 : Int)) w' := fun w' => by rw [hc1]; exact indexS w' b 1 (by omega)
    have i2 : ∀ w', (Instr.index 9 (.string (SB b)) (.int .i64 2)).run Tryd.prog w' = .ok (.int .u8 (c2 : Int)) w' := fun w' => by rw [hc2]; exact indexS w' b 2 (by omega)
    have i3 : ∀ w', (Instr.index 9 (.string (SB b)) (.int .i64 3)).run Tryd.prog w' = .ok (.int .u8 (c3 : Int)) w' := fun w' => by rw [hc3]; exact indexS w' b 3 (by omega)
    have i4 : ∀ w', (Instr.index 9 (.string (SB b)) (.int .i64 4)).run Tryd.prog w' = .ok (.int .u8 (c4 : Int)) w' := fun w' => by rw [hc4]; exact indexS w' b 4 (by omega)
    have hor := or32 c1 c2 c3 c4 h1 h2 h3 h4
    obtain ⟨s, hs⟩ : ∃ s, s = c1 + 256 * c2 + 65536 * c3 + 16777216 * c4 := ⟨_, rfl⟩
    rw [← hs] at hor
    obtain ⟨en, hen⟩ : ∃ en, en = e.toNat := ⟨_, rfl⟩
    rw [← hen]
    have hres : decide (b.take 5 = 104 :: le en 4) = (decide (c0 = 104) && decide (s = en)) := by
      rw [hs, hc0, hc1, hc2, hc3, hc4, hen]
      exact begins_plain b e (by omega)
    rw [hres]
    have Hs := Lib.hid hs
    have Hen := Lib.hid hen
    clear hs hen hres hc0 hc1 hc2 hc3 hc4 hl
    by_cases h104 : c0 = 104
    · have hz : ((c0 : Int) == 104) = true := by rw [beq_iff_eq]; omega
      rw [decide_eq_true h104, Bool.true_and]
      have hq : ((s : Int) == (en : Int)) = decide (s = en) := by
        by_cases h : s = en
        · rw [decide_eq_true h, beq_iff_eq]; omega
        · rw [decide_eq_false h, beq_eq_false_iff_ne]; omega
      clear h104
      go_enter Tryd.func45, Tryd.ntmps45
      go_wp2_with fail
      go_quiet (fail)
      go_wp2_with fail
      go_ret
      exact ⟨rfl, by first | exact Below.refl _ _ | exact ⟨rfl, rfl, rfl, Nat.le_refl _, fun _ _ => rfl⟩⟩
    · have hz : ((c0 : Int) == 104) = false := by rw [beq_eq_false_iff_ne]; omega
      rw [decide_eq_false h104, Bool.false_and]
      go_enter Tryd.func45, Tryd.ntmps45
      go_wp2_with fail
      go_quiet (fail)
      go_wp2_with fail
      go_ret
      exact ⟨rfl, by first | exact Below.refl _ _ | exact ⟨rfl, rfl, rfl, Nat.le_refl _, fun _ _ => rfl⟩⟩
end Go.Proofs.YtefegebnohenaaaDoor
