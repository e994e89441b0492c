/-
  Strings: appended to bytes, cut, indexed; numbers of four bytes.
-/
import Derived.Test.YthnabnieajojjaaGreatDoorStr
import Derived.Lib.Strings
namespace Go.Proofs.YthnabnieajojjaaGreatDoor
open Go.RowKit

/-- 'append(p, s..)', s a string. -/
theorem appMS {w : World} {ops : Array Oper} {rest : List Oper} {o : Oper} {a : Act} {Q : Exit → Act → World → Prop} (hgd : o.guard = none) (s x : Operand)
    (ho : o.op = .call { callee := .builtin .append, args := #[s, x], argTypes := #[49, 9] })
    (base : Nat) (v : Value) (n : Nat) (xs : List Value) (hs : a.eval s = v) (hown : OwnM w base 5 v n xs)
    (l : List UInt8) (hx : a.eval x = .string (SB l)) (hroom : n + l.length ≤ 140737488355328) (hbase : base ≤ w.heap.size)
    (h : ∀ v' w', OwnM w' base 5 v' (n + l.length) (xs ++ l.map V8) → w.grownBy w' v.ownBlock → Moved w v v' → wpList Tryz.prog ops Q rest (a.put o.dst v') w') : wpList Tryz.prog ops Q (o :: rest) a w := by
  obtain ⟨i0, hi, hz0, hz1, hz2⟩ := info_parts info_u8
  refine wpList_plain hgd fun _ hK => ?_
  obtain ⟨v', w', hr, h2, h3, h4, _⟩ := run_append_M (P := Tryz.prog) w base 49 9 o.type 5 _ i0 (.int .u8 0) 1 Tryz.underlying49 Tryz.underlying9 (.inr rfl) hi hz0 hz1 hz2 rfl v n xs hown
    (.string (SB l)) l.length (l.map V8) (by simp) (fun w => by simp [Builtin.lenOf]) (fun wd _ => by
      have := Lib.run_firstCells_string (P := Tryz.prog) wd 1 (SB l)
      rw [SB_size] at this
      rw [this]; simp [Lib.strCells, SB, V8]) (by
      intro u hu
      obtain ⟨c, _, rfl⟩ := List.mem_map.1 hu
      simp [V8, Value.oneCell']) (by unfold maxLen; omega) (by omega) hbase
  unfold Oper.wp execOp
  simp only [ho, resolve, invoke, builtin, Sem.run_bind, Sem.run_pure, Result.andThen_ok, List.map_toArray, List.map_cons, List.map_nil, hs, hx, hr]
  exact hK _ _ (h v' w' h2 h3 h4)
theorem sliceS (w : World) (l : List UInt8) (i : Nat) (h : i ≤ l.length) : (Instr.slice 9 (.string (SB l)) (some (.int .i64 (i : Int))) none none).run Tryz.prog w = .ok (.string (SB (l.drop i))) w := by
  rw [run_slice_string_from_if w 9 (SB l) .i64 i Tryz.underlying9, if_pos (by simp; omega), SB_extract, SB_size, List.take_of_length_le (Nat.le_refl _)]; rfl
theorem sliceTo (w : World) (l : List UInt8) (i : Nat) (h : i ≤ l.length) : (Instr.slice 9 (.string (SB l)) none (some (.int .i64 (i : Int))) none).run Tryz.prog w = .ok (.string (SB (l.take i))) w := by
  rw [run_slice_string_to_if w 9 (SB l) .i64 i Tryz.underlying9, if_pos (by simp; omega), SB_extract]; rfl
theorem indexS (w : World) (l : List UInt8) (i : Nat) (h : i < l.length) : (Instr.index 9 (.string (SB l)) (.int .i64 (i : Int))).run Tryz.prog w = .ok (.int .u8 ((l.getD i 0).toNat : Int)) w := by
  rw [run_index_string w 9 (SB l) .i64 i Tryz.underlying9, dif_pos (by simp; omega)]
  simp only [Int.toNat_natCast]
  rw [SB_get]
theorem cell_lt {w : World} {a : Addr} {x : Value} (h : w.cell? a = some x) : a.block < w.heap.size := by
  rcases Nat.lt_or_ge a.block w.heap.size with h' | h'
  · exact h'
  · simp [World.cell?, Array.getElem?_eq_none h'] at h
theorem SB_toList (l : List UInt8) : (SB l).toList = l := by rw [Lib.toList_data, SB_data]
theorem or_mul (a b i m : Nat) (hm : m = 2 ^ i) (h : a < m) : a ||| (b * m) = b * m + a := by
  subst hm
  rw [Nat.or_comm, ← Nat.shiftLeft_eq, Nat.shiftLeft_add_eq_or_of_lt h]
theorem u32_or' (a b : Nat) (ha : a < 4294967296) (hb : b < 4294967296) : bits .or .u32 (a : Int) (b : Int) = ((a ||| b : Nat) : Int) := by
  have hx : a ||| b < 2 ^ 32 := Nat.or_lt_two_pow (by omega) (by omega)
  have ho : ∀ n : Nat, n < 4294967296 → (BitVec.ofInt 32 (n : Int)).toNat = n := fun n hn => by rw [BitVec.toNat_ofInt]; omega
  show IntKind.u32.wrap ((BitVec.ofInt 32 (a : Int) ||| BitVec.ofInt 32 (b : Int)).toNat : Int) = _
  rw [BitVec.toNat_or, ho a ha, ho b hb, wrap_u32n _ (by omega)]
theorem or32 (c1 c2 c3 c4 : Nat) (h1 : c1 < 256) (h2 : c2 < 256) (h3 : c3 < 256) (h4 : c4 < 256) :
    bits .or .u32 (bits .or .u32 (bits .or .u32 (c1 : Int) ((c2 : Int) * 256)) ((c3 : Int) * 65536)) ((c4 : Int) * 16777216) = ((c1 + 256 * c2 + 65536 * c3 + 16777216 * c4 : Nat) : Int) := by
  have e2 : ((c2 : Int) * 256) = ((c2 * 256 : Nat) : Int) := by omega
  have e3 : ((c3 : Int) * 65536) = ((c3 * 65536 : Nat) : Int) := by omega
  have e4 : ((c4 : Int) * 16777216) = ((c4 * 16777216 : Nat) : Int) := by omega
  rw [e2, e3, e4, u32_or' c1 (c2 * 256) (by omega) (by omega), or_mul c1 c2 8 256 (by decide) (by omega), u32_or' _ (c3 * 65536) (by omega) (by omega), or_mul _ c3 16 65536 (by decide) (by omega), u32_or' _ (c4 * 16777216) (by omega) (by omega), or_mul _ c4 24 16777216 (by decide) (by omega)]
  omega
end Go.Proofs.YthnabnieajojjaaGreatDoor
