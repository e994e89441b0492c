/-
  Errors that are numbers of package api: errors.Is, lineagekit.Num.
-/
import Derived.Test.YthnabnieajojjaaGreatDoorBase
import Derived.LaidEql
import Derived.Stop.Asserts
namespace Go.Proofs.YthnabnieajojjaaGreatDoor
open Go.RowKit Go.Extern.Stop Go.Stop Go.Extern

/-- An error of package api. -/
def errN (n : Int) : Value := .iface 52 (.int .i64 n)
theorem errno_comp : (Tryz.prog.info? 52).map (·.comparable) = some true := by kernel_rfl
theorem equalIn_err (w : World) (d : Nat) (a b : Int) : (Op.equalIn (d + 2) 27 (errN a) (errN b)).run Tryz.prog w = .ok (a == b) w := by
  obtain ⟨i, hi, hc⟩ := Option.map_eq_some_iff.1 errno_comp
  unfold errN
  simp [Op.equalIn, run_underlying Tryz.underlying27, run_underlying Tryz.underlying52, typeInfo, hi, hc]
theorem eql_err (w : World) (a b : Int) : (binOp .eql 27 (errN a) (errN b)).run Tryz.prog w = .ok (.bool (a == b)) w := by
  have h := equalIn_err w 9998 a b
  unfold errN at h ⊢
  simp only [binOp]
  simp [Op.equal, Op.maxDepth, h]
theorem err_typeOf (v : Value) (w : World) : (Extern.ReflectliteType.typeOf #[.iface 52 v]).run Tryz.prog w = .ok (.iface 120 (.agg #[.pointer (some ⟨2, 52, none⟩)])) w := by kernel_rfl
/-- What the model says of Comparable. -/
def cmpX : Array Value → Sem Value := Extern.ReflectliteType.method fun t => do Extern.Rtype.noPackHeld "Comparable" t; pure (.bool (← typeInfo t).comparable)
theorem err_comparable (w : World) : (cmpX #[.agg #[.pointer (some ⟨2, 52, none⟩)]]).run Tryz.prog w = .ok (.bool true) w := by kernel_rfl
theorem err_noIs (v : Value) (xT : TypeId) (w : World) : (Instr.typeAssert (.iface 52 v) xT 135 true).run Tryz.prog w = .ok (.tuple #[.nilIface, .bool false]) w := run_typeAssert_lacksB Tryz.underlying135 (by kernel_rfl) (by kernel_rfl) v xT w
theorem err_noUnwrap (v : Value) (xT : TypeId) (w : World) : (Instr.typeAssert (.iface 52 v) xT 127 true).run Tryz.prog w = .ok (.tuple #[.nilIface, .bool false]) w := run_typeAssert_lacksB Tryz.underlying127 (by kernel_rfl) (by kernel_rfl) v xT w
theorem err_noUnwraps (v : Value) (xT : TypeId) (w : World) : (Instr.typeAssert (.iface 52 v) xT 129 true).run Tryz.prog w = .ok (.tuple #[.nilIface, .bool false]) w := run_typeAssert_lacksB Tryz.underlying129 (by kernel_rfl) (by kernel_rfl) v xT w
theorem is0_calls (a b : Int) (w : World) : Calls Tryz.prog 61 #[errN a, errN b, .bool true] w fun e w' => e = .returned (.bool (a == b)) ∧ w' = w := by
  have nI := err_noIs
  have nU := err_noUnwrap
  have nV := err_noUnwraps
  have heq := eql_err w a b
  unfold errN at heq ⊢
  cases hab : (a == b) with
  | true =>
    rw [hab] at heq
    clear hab
    go_enter Tryz.func61, Tryz.ntmps61
    go_wp2
    refine wp_loop_rounds 1 ?_
    rw [rounds_succ]
    go_wp2
    go_ret
    exact ⟨rfl, rfl⟩
  | false =>
    rw [hab] at heq
    clear hab
    go_enter Tryz.func61, Tryz.ntmps61
    go_wp2
    refine wp_loop_rounds 1 ?_
    rw [rounds_succ]
    go_wp2
    go_ret
    exact ⟨rfl, rfl⟩
/-- errors.Is of two numbers. -/
theorem is_calls (a b : Int) (w : World) : Calls Tryz.prog 43 #[errN a, errN b] w fun e w' => e = .returned (.bool (a == b)) ∧ w' = w := by
  have h8 := @run_callFunc_extern Tryz.prog 60 _ Extern.ReflectliteType.typeOf Tryz.func60 (by kernel_rfl) (by kernel_rfl) (by kernel_rfl) (by kernel_rfl)
  have h32 := @run_callFunc_extern Tryz.prog 113 _ cmpX Tryz.func113 (by kernel_rfl) (by kernel_rfl) (by kernel_rfl) (by kernel_rfl)
  have tT := err_typeOf
  have cT := err_comparable
  have his := is0_calls a b w
  unfold errN at his ⊢
  have His := Lib.hid his
  clear his
  go_enter Tryz.func43, Tryz.ntmps43
  go_wp2_with fail
  refine His.out.mono ?_
  rintro e w' ⟨rfl, rfl⟩
  go_wp2_with fail
  go_ret
  exact ⟨rfl, rfl⟩
theorem num_nil (w : World) : Calls Tryz.prog 26 #[.nilIface] w fun e w' => e = .returned (.int .i64 0) ∧ w' = w := by
  go_enter Tryz.func26, Tryz.ntmps26
  go_wp2_with fail
  go_ret
  exact ⟨rfl, rfl⟩
theorem num_calls (n : Nat) (w : World) (h1 : 1 ≤ n) (h2 : n ≤ 24) : Calls Tryz.prog 26 #[errN n] w fun e w' => e = .returned (.int .i64 (n : Int)) ∧ w' = w := by
  have hi := fun b => is_calls (n : Int) b w
  unfold errN at hi ⊢
  have Hi := Lib.hid hi
  clear hi
  go_enter Tryz.func26, Tryz.ntmps26
  go_wp2_with fail
  go_loop [3, 4] (fun f i => ∃ k : Nat, 1 ≤ k ∧ k ≤ 25 ∧ i = .int .i64 k ∧ ((n < k ∧ f = .int .i64 n) ∨ (k ≤ n ∧ f = .int .i64 0))) (fun _ i => 25 - (intOf i).toNat)
  case atStart => exact ⟨1, by omega, by omega, rfl, .inr ⟨h1, rfl⟩⟩
  case round =>
    obtain ⟨k, hk1, hk2, rfl, hf⟩ := hrel
    by_cases hk : k < 25
    · have hk24 : k ≤ 24 := by omega
      have hc : (n < k ∧ ((n : Int) == (k : Int)) = false) ∨ (n = k) ∨ (k < n ∧ ((n : Int) == (k : Int)) = false) := by
        rcases Nat.lt_trichotomy n k with h | h | h
        · exact .inl ⟨h, by rw [beq_eq_false_iff_ne]; omega⟩
        · exact .inr (.inl h)
        · exact .inr (.inr ⟨h, by rw [beq_eq_false_iff_ne]; omega⟩)
      rcases hc with ⟨hlt, hb⟩ | rfl | ⟨hgt, hb⟩
      · rcases hf with ⟨_, rfl⟩ | ⟨h, rfl⟩
        · go_wp2_with fail
          refine (Hi.out (k : Int)).mono ?_
          rintro e w' ⟨rfl, rfl⟩
          go_wp2_with fail
          go_round
          case rel => exact ⟨k + 1, by omega, by omega, by go_num, .inl ⟨by omega, rfl⟩⟩
          case measure => simp [intOf]; omega
        · omega
      · rcases hf with ⟨h, rfl⟩ | ⟨_, rfl⟩
        · omega
        · have hb : ((n : Int) == (n : Int)) = true := by rw [beq_iff_eq]
          go_wp2_with fail
          refine (Hi.out (n : Int)).mono ?_
          rintro e w' ⟨rfl, rfl⟩
          go_wp2_with fail
          go_round
          case rel => exact ⟨n + 1, by omega, by omega, by go_num, .inl ⟨by omega, rfl⟩⟩
          case measure => simp [intOf]; omega
      · rcases hf with ⟨h, rfl⟩ | ⟨_, rfl⟩
        · omega
        · go_wp2_with fail
          refine (Hi.out (k : Int)).mono ?_
          rintro e w' ⟨rfl, rfl⟩
          go_wp2_with fail
          go_round
          case rel => exact ⟨k + 1, by omega, by omega, by go_num, .inr ⟨by omega, rfl⟩⟩
          case measure => simp [intOf]; omega
    · obtain rfl : k = 25 := by omega
      rcases hf with ⟨_, rfl⟩ | ⟨h, rfl⟩
      · have hn0 : ((n : Int) == 0) = false := by rw [beq_eq_false_iff_ne]; omega
        have hn1 : (n == 0) = false := by rw [beq_eq_false_iff_ne]; omega
        go_wp2_with fail
        refine (Hi.out 0).mono ?_
        rintro e w' ⟨rfl, rfl⟩
        go_wp2_with fail
        go_ret
        exact ⟨rfl, rfl⟩
      · omega
end Go.Proofs.YthnabnieajojjaaGreatDoor
