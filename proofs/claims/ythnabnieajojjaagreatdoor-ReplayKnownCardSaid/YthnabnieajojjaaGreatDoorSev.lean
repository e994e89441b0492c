/-
  Numbers in sevens: what they are; the document's Sevens, Text.
-/
import Derived.Test.YthnabnieajojjaaGreatDoorStrS
import Derived.Test.YthnabnieajojjaaGreatDoorApartM
namespace Go.Proofs.YthnabnieajojjaaGreatDoor
open Go.RowKit
set_option maxRecDepth 100000

/-- 'append(p, x..)' of bytes that are read somewhere. -/
theorem appMR {w : World} {ops : Array Oper} {rest : List Oper} {o : Oper} {a : Act} {Q : Exit → Act → World → Prop} (hgd : o.guard = none) (s x : Operand)
    (ho : o.op = .call { callee := .builtin .append, args := #[s, x], argTypes := #[49, 49] })
    (base : Nat) (v : Value) (n : Nat) (xs : List Value) (hs : a.eval s = v) (hown : OwnM w base 5 v n xs)
    (src : Value) (l : List UInt8) (hx : a.eval x = src) (hsrc : Rd w src l.length (l.map V8))
    (hroom : n + l.length ≤ 140737488355328) (hbase : base ≤ w.heap.size)
    (h : ∀ v' w', OwnM w' base 5 v' (n + l.length) (xs ++ l.map V8) → w.grownBy w' v.ownBlock → Moved w v v' → wpList Tryz.prog ops Q rest (a.put o.dst v') w') : wpList Tryz.prog ops Q (o :: rest) a w := by
  obtain ⟨i0, hi, hz0, hz1, hz2⟩ := info_parts info_u8
  refine wpList_plain hgd fun _ hK => ?_
  obtain ⟨v', w', hr, h2, h3, h4, _⟩ := run_append_M (P := Tryz.prog) w base 49 49 o.type 5 _ i0 (.int .u8 0) 1 Tryz.underlying49 Tryz.underlying49 (.inl ⟨_, rfl⟩) hi hz0 hz1 hz2 rfl v n xs hown
    src l.length (l.map V8) (by simp) (fun w => by obtain ⟨ad, cap, rfl, _⟩ := hsrc; simp [Builtin.lenOf]) (fun wd hw => by
      obtain ⟨ad, cap, rfl, hmc, _, hnil, hcell⟩ := hsrc
      cases ad with
      | some ad =>
        refine run_firstCells_some (P := Tryz.prog) wd 1 l.length ad l.length cap (l.map V8) (by simp) (fun j u hj => ?_)
        have hjl : j < (l.map V8).length := (List.getElem?_eq_some_iff.1 hj).1
        obtain ⟨b, off, e1, e2⟩ := hcell j hjl
        injection e1 with e1; subst e1
        rw [hw, Go.WideShapes.add_plain, e2, List.getD, hj]; rfl
      | none =>
        have hc0 := hnil rfl
        have hl0 : l = [] := List.eq_nil_of_length_eq_zero (by omega)
        subst hl0
        have hc1 : cap = 0 := hnil rfl
        subst hc1
        exact run_firstCells_none ..) (by
      intro u hu
      obtain ⟨c, _, rfl⟩ := List.mem_map.1 hu
      simp [V8, Value.oneCell']) (by unfold maxLen; omega) (by omega) hbase
  unfold Oper.wp execOp
  simp only [ho, resolve, invoke, builtin, Sem.run_bind, Sem.run_pure, Result.andThen_ok, List.map_toArray, List.map_cons, List.map_nil, hs, hx, hr]
  exact hK _ _ (h v' w' h2 h3 h4)
/-- A number in sevens, of at most k bytes. -/
def sevF : Nat → Nat → List UInt8
  | 0, _ => []
  | k + 1, n => if n < 128 then [UInt8.ofNat n] else UInt8.ofNat (n % 128 + 128) :: sevF k (n / 128)
def sevM (n : Nat) : List UInt8 := sevF 10 n
theorem sevF_len (k n : Nat) : (sevF k n).length ≤ k := by
  induction k generalizing n with
  | zero => simp [sevF]
  | succ k ih => rw [sevF]; split
                 · simp
                 · have := ih (n / 128); simp only [List.length_cons]; omega
theorem sevM_len (n : Nat) : (sevM n).length ≤ 10 := sevF_len 10 n
theorem v8_nat (n : Nat) (h : n < 256) : V8 (UInt8.ofNat n) = .int .u8 (n : Int) := by
  unfold V8
  have : (UInt8.ofNat n).toNat = n % 256 := rfl
  rw [this, Nat.mod_eq_of_lt h]
theorem u64_and (n : Nat) (h : n < 2 ^ 64) : bits .and .u64 (n : Int) 127 = ((n % 128 : Nat) : Int) := by
  show IntKind.u64.wrap ((BitVec.ofInt 64 (n : Int) &&& BitVec.ofInt 64 127).toNat : Int) = _
  rw [BitVec.toNat_and, BitVec.toNat_ofInt, BitVec.toNat_ofInt]
  have e1 : ((n : Int) % ((2 ^ 64 : Nat) : Int)).toNat = n := by omega
  have e2 : ((127 : Int) % ((2 ^ 64 : Nat) : Int)).toNat = 2 ^ 7 - 1 := by decide
  rw [e1, e2, Nat.and_two_pow_sub_one_eq_mod]
  have : n % 2 ^ 7 < 128 := Nat.mod_lt _ (by decide)
  simp [IntKind.wrap, IntKind.bits, IntKind.signed]; omega
theorem u8_or (n : Nat) (h : n < 128) : bits .or .u8 (n : Int) 128 = ((n + 128 : Nat) : Int) := by
  have : ∀ n : Nat, n < 128 → bits .or .u8 (n : Int) 128 = ((n + 128 : Nat) : Int) := by decide +kernel
  exact this n h
theorem u8_or2 (n : Nat) (h : n < 256) : bits .or .u8 (n : Int) 128 = ((n % 128 + 128 : Nat) : Int) := by
  have : ∀ n : Nat, n < 256 → bits .or .u8 (n : Int) 128 = ((n % 128 + 128 : Nat) : Int) := by decide +kernel
  exact this n h
end Go.Proofs.YthnabnieajojjaaGreatDoor
