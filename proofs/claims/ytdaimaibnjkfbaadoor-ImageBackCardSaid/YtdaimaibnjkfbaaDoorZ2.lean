/-
  A number out of any number: Pick of package lineagekit.
-/
import Derived.Test.YtdaimaibnjkfbaaDoorZ1
import Derived.Laws.IdiomStrings
import Derived.Laws.BytesArg
import Derived.Lib.Strings
import Derived.RangeFuncNested
import Derived.RangeFuncBound
import Derived.RangeFuncCalls
import Derived.RangeFuncLeaves
namespace Go.Proofs.YtdaimaibnjkfbaaDoor
open Go.RowKit

/-- A number from 0 to n - 1 out of any number. -/
def pickI (k n : Int) : Int := if n < 1 then 0 else k % n
theorem pickI_lt (k n : Int) (h : 1 ≤ n) : 0 ≤ pickI k n ∧ pickI k n < n := by
  unfold pickI; rw [if_neg (by omega)]; exact ⟨Int.emod_nonneg _ (by omega), Int.emod_lt_of_pos _ (by omega)⟩
theorem tmod_pick (k n : Int) (hn : 1 ≤ n) : (if k.tmod n < 0 then k.tmod n + n else k.tmod n) = k % n := by
  have h1 := Int.tmod_eq_emod (a := k) (b := n)
  have h5 : 0 ≤ k % n := Int.emod_nonneg _ (by omega)
  have h6 : k % n < n := Int.emod_lt_of_pos _ (by omega)
  by_cases h : 0 ≤ k ∨ n ∣ k
  · rw [if_pos h] at h1; rw [if_neg (by omega)]; omega
  · rw [if_neg h] at h1; rw [if_pos (by omega)]; omega
set_option maxHeartbeats 400000 in
theorem pick_calls (k n : Int) (w : World) (h1 : -9223372036854775808 ≤ k) (h2 : k ≤ 9223372036854775807) (h3 : -9223372036854775808 ≤ n) (h4 : n ≤ 9223372036854775807) :
    Calls Tryd.prog 21 #[.int .i64 k, .int .i64 n] w fun e w' => e = .returned (.int .i64 (pickI k n)) ∧ w = w' := by
  by_cases hn : n < 1
  · go_enter Tryd.func21, Tryd.ntmps21
    go_wp2
    go_ret
    exact ⟨by simp [pickI, hn], rfl⟩
  · have hne : Hid (pickI k n = k % n) := by unfold pickI; rw [if_neg hn]; rfl
    have ht := tmod_pick k n (by omega)
    have hm1 : 0 ≤ k % n := Int.emod_nonneg _ (by omega)
    have hm0 : k % n < n := Int.emod_lt_of_pos _ (by omega)
    by_cases hk : 0 ≤ k
    · clear ht
      go_enter Tryd.func21, Tryd.ntmps21
      go_wp2
      go_ret
      exact ⟨by rw [hne.out]; rfl, rfl⟩
    · by_cases hz : k.tmod n < 0
      · rw [if_pos hz] at ht
        have hm2 : -n ≤ k.tmod n := by omega
        have hm3 := Lib.hid ht
        clear ht
        go_enter Tryd.func21, Tryd.ntmps21
        go_wp2
        go_ret
        exact ⟨by rw [hne.out, ← hm3.out]; rfl, rfl⟩
      · rw [if_neg hz] at ht
        have hm3 := Lib.hid ht
        clear ht
        go_enter Tryd.func21, Tryd.ntmps21
        go_wp2
        go_ret
        exact ⟨by rw [hne.out, ← hm3.out]; rfl, rfl⟩

end Go.Proofs.YtdaimaibnjkfbaaDoor
/-
  Lists of bytes: append, cut.
-/
namespace Go.Proofs.YtdaimaibnjkfbaaDoor
open Go.RowKit

theorem info_u8 : (Tryd.prog.info? 5).map (fun i => (i.zero, i.size, i.bytes)) = some (some (.int .u8 0), 1, 1) := by kernel_rfl
/-- 'append(s, x..)' onto bytes that the call owns. -/
theorem appB {w : World} {ops : Array Oper} {rest : List Oper} {o : Oper} {a : Act} {Q : Exit → Act → World → Prop} (hgd : o.guard = none) (s x : Operand)
    (ho : o.op = .call { callee := .builtin .append, args := #[s, x], argTypes := #[34, 34] })
    (base : Nat) (v : Value) (n : Nat) (xs : List Value) (hs : a.eval s = v) (hown : w.ownsRow base 5 1 v n xs)
    (ad : Addr) (m c : Nat) (news : List Value) (hx : a.eval x = .slice (some ad) m c) (hl : news.length = m) (hnews : ∀ j u, news[j]? = some u → w.cell? (ad.add j) = some u) (h1 : ∀ u ∈ news, u.oneCell' = true)
    (hroom : n + m ≤ 140737488355328) (hbase : base ≤ w.heap.size)
    (h : ∀ v' w', w'.ownsRow base 5 1 v' (n + m) (xs ++ news) → w.grownBy w' v.ownBlock → Moved w v v' → wpList Tryd.prog ops Q rest (a.put o.dst v') w') : wpList Tryd.prog ops Q (o :: rest) a w := by
  obtain ⟨i0, hi, hz0, hz1, hz2⟩ := info_parts info_u8
  exact wpList_append_own2 hgd s x 34 ho base 5 i0 (.int .u8 0) 1 1 Tryd.underlying34 hi hz0 hz1 hz2 rfl (by decide) v n xs hs hown ad m c news hx (by omega) hnews h1 (by unfold maxLen; omega) (by omega) hbase h

theorem tailB (a : Option Addr) (n cap k : Nat) (hk : k ≤ n) (w : World) : (Instr.slice 34 (.slice a n cap) (some (.int .i64 (k : Int))) none none).run Tryd.prog w = .ok (tailV a n cap k) w :=
  run_tail Tryd.underlying34 (by kernel_rfl) a n cap k hk w
theorem headB (a : Option Addr) (n cap k : Nat) (hk : k ≤ cap) (w : World) : (Instr.slice 34 (.slice a n cap) none (some (.int .i64 (k : Int))) none).run Tryd.prog w = .ok (.slice a k cap) w :=
  run_head Tryd.underlying34 ⟨1, by kernel_rfl⟩ a n cap k hk w
/-- 'append(s, x...)' of whatever source, onto bytes that the call owns. -/
theorem appSB {w : World} {ops : Array Oper} {rest : List Oper} {o : Oper} {a : Act} {Q : Exit → Act → World → Prop} (hgd : o.guard = none) (s x : Operand)
    (ho : o.op = .call { callee := .builtin .append, args := #[s, x], argTypes := #[34, 34] })
    (base : Nat) (v : Value) (n : Nat) (xs : List Value) (hs : a.eval s = v) (hown : w.ownsRow base 5 1 v n xs)
    (src : Value) (l : List UInt8) (hx : a.eval x = src) (hsrc : Rd w src l.length (l.map V8))
    (hroom : n + l.length ≤ 140737488355328) (hbase : base ≤ w.heap.size)
    (h : ∀ v' w', w'.ownsRow base 5 1 v' (n + l.length) (xs ++ l.map V8) → w.grownBy w' v.ownBlock → Moved w v v' → wpList Tryd.prog ops Q rest (a.put o.dst v') w') : wpList Tryd.prog ops Q (o :: rest) a w := by
  obtain ⟨i0, hi, hz0, hz1, hz2⟩ := info_parts info_u8
  exact wpList_append_src hgd s x 34 ho base 5 i0 (.int .u8 0) 1 1 Tryd.underlying34 hi hz0 hz1 hz2 rfl (by decide) v n xs hs hown src l.length (l.map V8) hx hsrc (by simp) (by
    intro u hu
    obtain ⟨c, _, rfl⟩ := List.mem_map.1 hu
    simp [V8, Value.oneCell']) (by unfold maxLen; omega) (by omega) hbase h
end Go.Proofs.YtdaimaibnjkfbaaDoor
/-
  Strings as lists of bytes: conversions and appends.
-/
namespace Go.Proofs.YtdaimaibnjkfbaaDoor
open Go.RowKit

def SB (l : List UInt8) : ByteArray := ⟨l.toArray⟩
def SV (l : List UInt8) : Value := .string (SB l)
@[simp] theorem SB_size (l : List UInt8) : (SB l).size = l.length := by simp [SB, ByteArray.size]
theorem SB_data (l : List UInt8) : (SB l).data.toList = l := by simp [SB]
theorem SB_get (l : List UInt8) (i : Nat) (h : i < (SB l).size) : (SB l)[i]'h = l.getD i 0 := by
  have h' : i < l.length := by simpa using h
  show (SB l).data[i]'_ = _
  simp [SB, List.getD, h']
theorem SB_ext {a b : ByteArray} (h : a.data.toList = b.data.toList) : a = b := by
  cases a; cases b; simp only [ByteArray.mk.injEq] at *; exact Array.ext' h
theorem SB_inj {a b : List UInt8} (h : SB a = SB b) : a = b := by
  have := congrArg (fun x : ByteArray => x.data.toList) h; simpa [SB] using this
theorem SB_extract (l : List UInt8) (i j : Nat) : (SB l).extract i j = SB ((l.take j).drop i) := by
  apply SB_ext
  simp [SB, ByteArray.data_extract, List.drop_take]
theorem SB_add (a b : List UInt8) : SB a ++ SB b = SB (a ++ b) := by unfold SB; rw [ByteArray.mk_append_mk]
theorem SV_inj {a b : List UInt8} (h : SV a = SV b) : a = b := by unfold SV at h; injection h with h; exact SB_inj h
theorem SB_of (s : ByteArray) : ∃ l, s = SB l ∧ l.length = s.size := ⟨s.data.toList, by apply SB_ext; simp [SB], by show s.data.toList.length = s.data.size; simp⟩
/-- 'string(b)'. -/
theorem convS {w : World} {v : Value} {n : Nat} (l : List UInt8) (h : Rd w v n (l.map V8)) (hn : n = l.length) : (convert 34 9 v).run Tryd.prog w = .ok (.string (SB l)) w := by
  subst hn
  obtain ⟨a, cap, rfl, h1, h2, h3, h4⟩ := h
  cases l with
  | nil =>
    cases a with
    | none => exact run_convert_bytes_nil w 34 5 Tryd.underlying34 Tryd.underlying5 _ _ 9 Tryd.underlying9
    | some a => exact run_convert_bytes_back w 34 9 5 a cap [] Tryd.underlying34 Tryd.underlying5 Tryd.underlying9 (fun j hj => by simp at hj)
  | cons c l =>
    obtain ⟨b, off, rfl, _⟩ := h4 0 (by simp)
    refine run_convert_bytes_back w 34 9 5 _ cap (c :: l) Tryd.underlying34 Tryd.underlying5 Tryd.underlying9 (fun j hj => ?_)
    obtain ⟨b', off', e, h5⟩ := h4 j (by simpa using hj)
    injection e with e; injection e with e1 e2; subst e1; subst e2
    have hadd : (⟨b, off, none⟩ : Addr).add j = ⟨b, off + j, none⟩ := by unfold Addr.add; split <;> simp_all
    rw [hadd, h5, List.getD, List.getElem?_map, List.getElem?_eq_getElem hj]; rfl
/-- '[]byte(s)'. -/
theorem bytesS (w : World) (l : List UInt8) : (convert 9 34 (.string (SB l))).run Tryd.prog w = .ok (.slice (some ⟨w.heap.size, 0, none⟩) l.length (grownCap w l.length 0 5)) (Lib.bytesWorld w 5 (SB l)) := by
  have := Lib.run_convert_string_bytes (P := Tryd.prog) w 9 34 5 (SB l) Tryd.underlying9 Tryd.underlying34 Tryd.underlying5
  simpa using this
theorem bytesW_below (w : World) (e : TypeId) (s : ByteArray) : Below w.heap.size w (Lib.bytesWorld w e s) :=
  ⟨rfl, rfl, rfl, by rw [Lib.bytesWorld_size]; omega, fun k hk => Lib.bytesWorld_at_old w e s k hk⟩
theorem bytesS_own (w : World) (l : List UInt8) (e : TypeId) (h : l.length ≤ 140737488355328) : OwnM (Lib.bytesWorld w e (SB l)) w.heap.size e (.slice (some ⟨w.heap.size, 0, none⟩) l.length (grownCap w l.length 0 e)) l.length (l.map V8) := by
  have hg := grownCap_ge w l.length 0 e
  have hm := grownCap_le_maxLen w l.length 0 e (by unfold maxLen; omega)
  have hsz : (Lib.bytesCells w e (SB l)).size = grownCap w l.length 0 e := by have := SB_size l; unfold SB at this; simp only [Lib.bytesCells, SB, Array.size_append, Array.size_map, Array.size_replicate, this, List.size_toArray]; omega
  refine ⟨by simp, .inr ⟨w.heap.size, _, _, _, rfl, Nat.le_refl _, Lib.bytesWorld_at_new w e (SB l), .inr (Nat.le_refl _), hg, hm, by omega, ?_⟩⟩
  simp [Lib.bytesCells, SB, V8]
end Go.Proofs.YtdaimaibnjkfbaaDoor
/-
  Strings: appended to bytes, cut, indexed; numbers of four bytes.
-/
namespace Go.Proofs.YtdaimaibnjkfbaaDoor
open Go.RowKit

/-- 'append(p, s..)', s a string. -/
theorem appMS {w : World} {ops : Array Oper} {rest : List Oper} {o : Oper} {a : Act} {Q : Exit → Act → World → Prop} (hgd : o.guard = none) (s x : Operand)
    (ho : o.op = .call { callee := .builtin .append, args := #[s, x], argTypes := #[34, 9] })
    (base : Nat) (v : Value) (n : Nat) (xs : List Value) (hs : a.eval s = v) (hown : OwnM w base 5 v n xs)
    (l : List UInt8) (hx : a.eval x = .string (SB l)) (hroom : n + l.length ≤ 140737488355328) (hbase : base ≤ w.heap.size)
    (h : ∀ v' w', OwnM w' base 5 v' (n + l.length) (xs ++ l.map V8) → w.grownBy w' v.ownBlock → Moved w v v' → wpList Tryd.prog ops Q rest (a.put o.dst v') w') : wpList Tryd.prog ops Q (o :: rest) a w := by
  obtain ⟨i0, hi, hz0, hz1, hz2⟩ := info_parts info_u8
  refine wpList_plain hgd fun _ hK => ?_
  obtain ⟨v', w', hr, h2, h3, h4, _⟩ := run_append_M (P := Tryd.prog) w base 34 9 o.type 5 _ i0 (.int .u8 0) 1 Tryd.underlying34 Tryd.underlying9 (.inr rfl) hi hz0 hz1 hz2 rfl v n xs hown
    (.string (SB l)) l.length (l.map V8) (by simp) (fun w => by simp [Builtin.lenOf]) (fun wd _ => by
      have := Lib.run_firstCells_string (P := Tryd.prog) wd 1 (SB l)
      rw [SB_size] at this
      rw [this]; simp [Lib.strCells, SB, V8]) (by
      intro u hu
      obtain ⟨c, _, rfl⟩ := List.mem_map.1 hu
      simp [V8, Value.oneCell']) (by unfold maxLen; omega) (by omega) hbase
  unfold Oper.wp execOp
  simp only [ho, resolve, invoke, builtin, Sem.run_bind, Sem.run_pure, Result.andThen_ok, List.map_toArray, List.map_cons, List.map_nil, hs, hx, hr]
  exact hK _ _ (h v' w' h2 h3 h4)
theorem sliceS (w : World) (l : List UInt8) (i : Nat) (h : i ≤ l.length) : (Instr.slice 9 (.string (SB l)) (some (.int .i64 (i : Int))) none none).run Tryd.prog w = .ok (.string (SB (l.drop i))) w := by
  rw [run_slice_string_from_if w 9 (SB l) .i64 i Tryd.underlying9, if_pos (by simp; omega), SB_extract, SB_size, List.take_of_length_le (Nat.le_refl _)]; rfl
theorem sliceTo (w : World) (l : List UInt8) (i : Nat) (h : i ≤ l.length) : (Instr.slice 9 (.string (SB l)) none (some (.int .i64 (i : Int))) none).run Tryd.prog w = .ok (.string (SB (l.take i))) w := by
  rw [run_slice_string_to_if w 9 (SB l) .i64 i Tryd.underlying9, if_pos (by simp; omega), SB_extract]; rfl
theorem indexS (w : World) (l : List UInt8) (i : Nat) (h : i < l.length) : (Instr.index 9 (.string (SB l)) (.int .i64 (i : Int))).run Tryd.prog w = .ok (.int .u8 ((l.getD i 0).toNat : Int)) w := by
  rw [run_index_string w 9 (SB l) .i64 i Tryd.underlying9, dif_pos (by simp; omega)]
  simp only [Int.toNat_natCast]
  rw [SB_get]
theorem cell_lt {w : World} {a : Addr} {x : Value} (h : w.cell? a = some x) : a.block < w.heap.size := by
  rcases Nat.lt_or_ge a.block w.heap.size with h' | h'
  · exact h'
  · simp [World.cell?, Array.getElem?_eq_none h'] at h
theorem SB_toList (l : List UInt8) : (SB l).toList = l := by rw [Lib.toList_data, SB_data]
theorem or_mul (a b i m : Nat) (hm : m = 2 ^ i) (h : a < m) : a ||| (b * m) = b * m + a := by
  subst hm
  rw [Nat.or_comm, ← Nat.shiftLeft_eq, Nat.shiftLeft_add_eq_or_of_lt h]
theorem u32_or' (a b : Nat) (ha : a < 4294967296) (hb : b < 4294967296) : bits .or .u32 (a : Int) (b : Int) = ((a ||| b : Nat) : Int) := by
  have hx : a ||| b < 2 ^ 32 := Nat.or_lt_two_pow (by omega) (by omega)
  have ho : ∀ n : Nat, n < 4294967296 → (BitVec.ofInt 32 (n : Int)).toNat = n := fun n hn => by rw [BitVec.toNat_ofInt]; omega
  show IntKind.u32.wrap ((BitVec.ofInt 32 (a : Int) ||| BitVec.ofInt 32 (b : Int)).toNat : Int) = _
  rw [BitVec.toNat_or, ho a ha, ho b hb, wrap_u32n _ (by omega)]
theorem or32 (c1 c2 c3 c4 : Nat) (h1 : c1 < 256) (h2 : c2 < 256) (h3 : c3 < 256) (h4 : c4 < 256) :
    bits .or .u32 (bits .or .u32 (bits .or .u32 (c1 : Int) ((c2 : Int) * 256)) ((c3 : Int) * 65536)) ((c4 : Int) * 16777216) = ((c1 + 256 * c2 + 65536 * c3 + 16777216 * c4 : Nat) : Int) := by
  have e2 : ((c2 : Int) * 256) = ((c2 * 256 : Nat) : Int) := by omega
  have e3 : ((c3 : Int) * 65536) = ((c3 * 65536 : Nat) : Int) := by omega
  have e4 : ((c4 : Int) * 16777216) = ((c4 * 16777216 : Nat) : Int) := by omega
  rw [e2, e3, e4, u32_or' c1 (c2 * 256) (by omega) (by omega), or_mul c1 c2 8 256 (by decide) (by omega), u32_or' _ (c3 * 65536) (by omega) (by omega), or_mul _ c3 16 65536 (by decide) (by omega), u32_or' _ (c4 * 16777216) (by omega) (by omega), or_mul _ c4 24 16777216 (by decide) (by omega)]
  omega
end Go.Proofs.YtdaimaibnjkfbaaDoor
/-
  markBytes of package lineagekit.
-/
namespace Go.Proofs.YtdaimaibnjkfbaaDoor
open Go.RowKit

/-- The mark's number. -/
def markI (k i : Int) : Int := (37 * (k + 1) + i) % 256
theorem mark_calls (k i : Int) (w : World) (h0 : 0 ≤ k) (h1 : k ≤ 1000000000) (h2 : -1000000000000000000 ≤ i) (h3 : i ≤ 1000000000000000000) :
    Calls Tryd.prog 42 #[.int .i64 k, .int .i64 i] w fun e w' => e = .returned (.int .u8 (markI k i)) ∧ w = w' := by
  go_enter Tryd.func42, Tryd.ntmps42
  go_wp2
  go_ret
  exact ⟨rfl, rfl⟩
end Go.Proofs.YtdaimaibnjkfbaaDoor
/-
  A range over a function whose iterator makes, between two rounds, what it hands out: the body is told what lies there.
-/
namespace Go.Proofs.YtdaimaibnjkfbaaDoor
open Go.RowKit

/-- What abides new blocks, and the turn of a block from B on that holds no cells. -/
structure Soft (B : Nat) (I : World → Prop) : Prop where
  below : ∀ {A C : World}, I A → Below A.heap.size A C → I C
  put : ∀ {A : World} {l : Nat} {o : Obj} (o' : Obj), I A → B ≤ l → A.heap[l]? = some o → o.isCells = false → I (A.putObj l o')
/-- An iterator's contract: T tells of what it hands out next. -/
def SeqR {α : Type} (F : Fence) (n : Nat) (P : Program) (g : Nat) (lb : Array Value) (encs : α → Array Value) (Fm : Nat → Prop) (T : List α → α → World → Prop) (S Sp : List α → Prop) (w : World) : Prop :=
  ∀ (l : Nat) (J Jx : List α → World → Prop) (W : World), Mod Fm w W → (∀ s (A C : World), J s A → Below A.heap.size A C → J s C) → (∀ s (A C : World), Jx s A → Below A.heap.size A C → Jx s C) →
    (∀ pre x W1, J pre W1 → T pre x W1 → YieldAt F (n - 1) P l (encs x) W1 fun e W' => (e = .returned (.bool true) ∧ J (pre ++ [x]) W' ∧ Mod Fm W1 W') ∨ (e = .returned (.bool false) ∧ Jx (pre ++ [x]) W')) →
    J [] W → CallsIn F n P g (#[.func (.yield l) #[] #[]] ++ lb) W fun e W' => (∃ v, e = .returned v) ∧ ((∃ xs, S xs ∧ J xs W') ∨ ∃ pre, Sp pre ∧ Jx pre W')
/-- How a round's body may end. -/
def roundR {α : Type} (Fm : Nat → Prop) (I : List α → World → Prop) (Ix : Code → List α → World → Prop) (xs : List α) (W : World) : Exit → Act → World → Prop
  | .normal, _, W' => KeepsOthers W W' ∧ Mod Fm W W' ∧ I xs W'
  | .ret, _, W' => KeepsOthers W W' ∧ Ix .ret xs W'
  | .exit id, _, W' => KeepsOthers W W' ∧ Ix (.exit id) xs W'
  | .goto t, _, W' => KeepsOthers W W' ∧ Ix (.goto t) xs W'
  | .panic _, _, _ => False
  | .outgrown, _, _ => False
theorem keepsOthers_below {W W' : World} (h : Below W.heap.size W W') : KeepsOthers W W' := ⟨h.size, fun k _ hk _ => (h.block k (Array.getElem?_eq_some_iff.1 hk).1).trans hk⟩
theorem mod_put {Fm : Nat → Prop} {l : Nat} {W : World} (hn : Fm l) (o : Obj) : Mod Fm W (W.putObj l o) := Mod.of_grown (grownBy_putObj' W l o) (fun k e => by cases e; exact hn)
section
variable {F : Fence} {n : Nat} {P : Program}
theorem wpIn_rangeFunc_R {α : Type} {g : Operand} {ps : Array Tmp} {assign body : Code} {Q : Exit → Act → World → Prop} {a : Act} {w : World}
    (hro : F.round = none) (h1 : 1 ≤ n) {gf : Nat} {lb : Array Value} (hg : a.eval g = .func (.func gf) #[] lb) (hFg : F.fn gf) (eg : ∀ args w, (callFunc gf args).run P w = .ok (.enter gf args) w)
    {encs : α → Array Value} {Fm : Nat → Prop} {T : List α → α → World → Prop} {S Sp : List α → Prop} (hseq : SeqR F (n - 1) P gf lb encs Fm T S Sp w) (hFm : ∀ b, w.heap.size ≤ b → Fm b) (hps : ∀ x, (encs x).size = ps.size)
    (I : List α → World → Prop) (Ix : Code → List α → World → Prop) (hI : ∀ s, Soft w.heap.size (I s)) (hIx : ∀ c s, Soft w.heap.size (Ix c s)) (hT : ∀ s x, Soft w.heap.size (T s x)) (h0 : I [] w) (a₁ : α → Act)
    (hassign : ∀ (l : Nat) (x : α) (W : World) (K : Act → World → Prop), K (a₁ x) W → assign.wpIn (F.inRound l) (n - 1 - 1) P (Exit.then K (fun _ _ _ => False)) { tmps := (ps.zip (encs x)).foldl (fun t (p, v) => t.setIfInBounds p v) a.tmps, defers := [] } W)
    (hbody : ∀ (l : Nat) (pre : List α) (x : α) (W : World), I pre W → T pre x W → body.wpIn (F.inRound l) (n - 1 - 1) P (roundR Fm I Ix (pre ++ [x]) W) (a₁ x) W)
    (hdone : ∀ (D : Nat) (xs : List α) (W : World), S xs → I xs W → w.heap.size ≤ D → W.heap[D]? = some (.deferred (some [])) → Q .normal { a with defers := { target := .collected D, args := #[] } :: a.defers } W)
    (hstop : ∀ (D : Nat) (c : Code) (pre : List α) (W : World), Sp pre → Ix c pre W → w.heap.size ≤ D → W.heap[D]? = some (.deferred (some [])) → c.wpIn F n P Q { a with defers := { target := .collected D, args := #[] } :: a.defers } W) :
    (Code.rangeFunc g ps assign body).wpIn F n P Q a w := by
  refine wpIn_rangeFunc fun fn hfn => ?_
  rw [hro]
  let rec0 : LoopState → Option Code → Loop := fun st pe => { state := st, pending := pe, fn, tmps := a.tmps, params := ps, assign, body, defers := w.heap.size }
  obtain ⟨rc, hrc⟩ : ∃ rc, rc = rec0 := ⟨_, rfl⟩
  obtain ⟨D, hD⟩ : ∃ D, D = w.heap.size := ⟨_, rfl⟩
  obtain ⟨WA, hWA⟩ : ∃ WA, WA = w.alloc (.deferred (some [])) := ⟨_, rfl⟩
  obtain ⟨W1, hW1⟩ : ∃ W1, W1 = WA.alloc (.loop (rc .ready none)) := ⟨_, rfl⟩
  have hbA : Below w.heap.size w WA := by rw [hWA]; exact below_alloc _ _
  have hbB : Below WA.heap.size WA W1 := by rw [hW1]; exact below_alloc _ _
  have hsA : WA.heap.size = D + 1 := by rw [hWA, hD]; simp
  have hDA : WA.heap[D]? = some (.deferred (some [])) := by rw [hWA, hD]; exact heap_alloc_new w _
  have hD1 : W1.heap[D]? = some (.deferred (some [])) := by rw [hbB.block D (by omega)]; exact hDA
  have hL1 : W1.heap[D + 1]? = some (.loop (rc .ready none)) := by rw [← hsA, hW1]; exact heap_alloc_new WA _
  have hb1 : Below w.heap.size w W1 := hbA.trans (hbB.mono hbA.size)
  have hdl : D ≤ D + 1 := Nat.le_succ D
  -- what is held between two rounds
  let J : List α → World → Prop := fun pre W => I pre W ∧ W.heap[D + 1]? = some (.loop (rc .ready none)) ∧ W.heap[D]? = some (.deferred (some []))
  let Jx : List α → World → Prop := fun pre W => ∃ c, Ix c pre W ∧ W.heap[D + 1]? = some (.loop (rc .done (some c))) ∧ W.heap[D]? = some (.deferred (some []))
  have keepAt : ∀ {A C : World} {k : Nat} {o : Obj}, A.heap[k]? = some o → Below A.heap.size A C → C.heap[k]? = some o := fun h hb => (hb.block _ (Array.getElem?_eq_some_iff.1 h).1).trans h
  refine ⟨D + 1, [{ target := .collected D, args := #[] }], W1, { target := .fn (.func gf) lb, args := #[.func (.yield (D + 1)) #[] #[]] }, W1, gf, #[.func (.yield (D + 1)) #[] #[]] ++ lb, W1, ?_, ?_, ?_, ?_, fun _ => h1, ?_⟩
  · rw [hW1, hWA, hrc, hD]; exact run_enterLoop_outer _ _ _ _ _
  · simp only [resolve, hg]
    simp [go_sem]
  · intro f' hf'; simp [Target.leads] at hf'; subst hf'; exact hFg
  · simp [invoke, go_sem, eg]
  · refine (hseq (D + 1) J Jx W1 (Mod.of_below hb1) (fun s A C h hb => ⟨(hI s).below h.1 hb, keepAt h.2.1 hb, keepAt h.2.2 hb⟩) (fun s A C h hb => by
      obtain ⟨c, h1, h2, h3⟩ := h
      exact ⟨c, (hIx c s).below h1 hb, keepAt h2 hb, keepAt h3 hb⟩) ?_ ⟨(hI []).below ((hI []).below h0 hbA) hbB, hL1, hD1⟩).mono ?_
    · rintro pre x W ⟨hi, hl, hd⟩ ht
      have hlt : D + 1 < W.heap.size := (Array.getElem?_eq_some_iff.1 hl).1
      have hy := run_yield (P := P) (args := encs x) hl (by rw [hrc]; exact hps x)
      rw [hrc] at hy
      refine ⟨fn, _, assign, body, hy, roundIn_of_wpIn hfn (hassign _ x W _ ⟨_, run_beginRound hl (by rw [hrc]), ?_⟩)⟩
      clear hy
      obtain ⟨busy, hbu⟩ : ∃ b : Loop, b = { rc .ready none with state := .busy } := ⟨_, rfl⟩
      rw [← hbu]
      obtain ⟨W2, hW2⟩ : ∃ W2, W2 = W.putObj (D + 1) (.loop busy) := ⟨_, rfl⟩
      rw [← hW2]
      have hl2 : W2.heap[D + 1]? = some (.loop busy) := by rw [hW2]; exact World.putObj_heap_same hlt
      have hd2 : W2.heap[D]? = some (.deferred (some [])) := by rw [hW2]; exact (World.putObj_heap_other (by omega)).trans hd
      have hb2 : Mod Fm W W2 := by rw [hW2]; exact mod_put (hFm _ (by omega)) _
      have hi2 : I pre W2 := by rw [hW2]; exact (hI pre).put _ hi (by omega) hl rfl
      have ht2 : T pre x W2 := by rw [hW2]; exact (hT pre x).put _ ht (by omega) hl rfl
      have hend : ∀ (jump : Option Code) (W3 : World), KeepsOthers W2 W3 → (Instr.endRound (D + 1) jump).run P W3 = .ok (.bool jump.isNone) (W3.putObj (D + 1) (.loop (rc (if jump.isNone then .ready else .done) jump))) ∧
          W3.heap[D + 1]? = some (.loop busy) ∧ (W3.putObj (D + 1) (.loop (rc (if jump.isNone then .ready else .done) jump))).heap[D + 1]? = some (.loop (rc (if jump.isNone then .ready else .done) jump)) ∧
          (W3.putObj (D + 1) (.loop (rc (if jump.isNone then .ready else .done) jump))).heap[D]? = some (.deferred (some [])) := fun jump W3 hk => by
        have hl3 := hk.same _ _ hl2 rfl
        have hr := run_endRound (P := P) jump hl3
        refine ⟨by rw [hr, hbu, hrc], hl3, World.putObj_heap_same (Array.getElem?_eq_some_iff.1 hl3).1, (World.putObj_heap_other (by omega)).trans (hk.same _ _ hd2 rfl)⟩
      refine wpIn_mono (hbody _ pre x _ hi2 ht2) ?_
      rintro e a3 W3 hp
      cases e with
      | normal =>
        obtain ⟨hk3, hbl3, hi3⟩ := hp
        obtain ⟨hr, hl3, hl4, hd4⟩ := hend none W3 hk3
        exact ⟨_, _, hr, .inl ⟨rfl, ⟨(hI _).put _ hi3 (by omega) hl3 rfl, hl4, hd4⟩, (hb2.trans hbl3).trans (mod_put (hFm _ (by omega)) _)⟩⟩
      | ret =>
        obtain ⟨hr, hl3, hl4, hd4⟩ := hend (some .ret) W3 hp.1
        exact ⟨_, _, hr, .inr ⟨rfl, .ret, (hIx _ _).put _ hp.2 (by omega) hl3 rfl, hl4, hd4⟩⟩
      | exit id =>
        obtain ⟨hr, hl3, hl4, hd4⟩ := hend (some (.exit id)) W3 hp.1
        exact ⟨_, _, hr, .inr ⟨rfl, .exit id, (hIx _ _).put _ hp.2 (by omega) hl3 rfl, hl4, hd4⟩⟩
      | goto t =>
        obtain ⟨hr, hl3, hl4, hd4⟩ := hend (some (.goto t)) W3 hp.1
        exact ⟨_, _, hr, .inr ⟨rfl, .goto t, (hIx _ _).put _ hp.2 (by omega) hl3 rfl, hl4, hd4⟩⟩
      | panic ch => exact hp.elim
      | outgrown => exact hp.elim
    · rintro e W2 ⟨⟨v, rfl⟩, (⟨xs, hS, hi, hl, hd⟩ | ⟨pre, hS, c, hi, hl, hd⟩)⟩
      · have hr := run_endLoop (P := P) hl (by rw [hrc]; simp [rec0])
        rw [hrc] at hr
        exact ⟨none, _, hr, by rw [hD] at *; exact hdone _ xs _ hS ((hI xs).put _ hi (by omega) hl rfl) (Nat.le_refl _) ((World.putObj_heap_other (by omega)).trans hd)⟩
      · have hr := run_endLoop (P := P) hl (by rw [hrc]; simp [rec0])
        rw [hrc] at hr
        exact ⟨some c, _, hr, by rw [hD] at *; exact hstop _ c pre _ hS ((hIx c pre).put _ hi (by omega) hl rfl) (Nat.le_refl _) ((World.putObj_heap_other (by omega)).trans hd)⟩
end
end Go.Proofs.YtdaimaibnjkfbaaDoor
/-
  Lists of bytes that were handed out have memory of their own: the turns of ApartBytes, over rows that []byte(s) may have made.
-/
namespace Go.Proofs.YtdaimaibnjkfbaaDoor
open Go.RowKit

/-- 'append(s, x)' of one byte, onto such a row. -/
theorem appM1 {w : World} {ops : Array Oper} {rest : List Oper} {o : Oper} {a : Act} {Q : Exit → Act → World → Prop} (hgd : o.guard = none) (s x : Operand)
    (ho : o.op = .call { callee := .builtin .append, args := #[s, x], argTypes := #[34, 34] })
    (base : Nat) (v : Value) (n : Nat) (xs : List Value) (hs : a.eval s = v) (hown : OwnM w base 5 v n xs)
    (ad : Addr) (c : Nat) (y : Value) (hx : a.eval x = .slice (some ad) 1 c) (hy : w.cell? ad = some y) (h1 : y.oneCell' = true)
    (hroom : n + 1 ≤ 140737488355328) (hbase : base ≤ w.heap.size)
    (h : ∀ v' w', OwnM w' base 5 v' (n + 1) (xs ++ [y]) → w.grownBy w' v.ownBlock → Moved w v v' → Grew w w' v v' n → wpList Tryd.prog ops Q rest (a.put o.dst v') w') : wpList Tryd.prog ops Q (o :: rest) a w := by
  obtain ⟨i0, hi, hz0, hz1, hz2⟩ := info_parts info_u8
  refine wpList_plain hgd fun _ hK => ?_
  have had : ad.add 0 = ad := by cases ad with | mk b o s => cases s <;> rfl
  obtain ⟨v', w', hr, h2, h3, h4, h5⟩ := run_append_M (P := Tryd.prog) w base 34 34 o.type 5 _ i0 (.int .u8 0) 1 Tryd.underlying34 Tryd.underlying34 (.inl ⟨_, rfl⟩) hi hz0 hz1 hz2 rfl v n xs hown
    (.slice (some ad) 1 c) 1 [y] rfl (fun w => by simp [Builtin.lenOf]) (fun wd hw => by
      refine run_firstCells_some (P := Tryd.prog) wd 1 1 ad 1 c [y] rfl (fun j u hj => ?_)
      cases j with
      | zero => simp at hj; subst hj; rw [had, hw]; exact hy
      | succ j => simp at hj) (by simpa using h1) (by unfold maxLen; omega) (by omega) hbase
  have h6 : Grew w w' v v' n := by
    rcases h5 with h5 | h5 | ⟨e1, _⟩
    · exact .inl h5
    · exact .inr h5
    · exfalso
      obtain ⟨a1, c1, e2, _⟩ := hown.slice
      obtain ⟨a2, c2, e3, _⟩ := h2.slice
      rw [e1, e2] at e3
      injection e3 with _ e4 _
      omega
  unfold Oper.wp execOp
  simp only [ho, resolve, invoke, builtin, Sem.run_bind, Sem.run_pure, Result.andThen_ok, List.map_toArray, List.map_cons, List.map_nil, hs, hx, hr]
  exact hK _ _ (h v' w' h2 h3 h4 h6)
theorem Twin.appendM {w w' : World} {base : Nat} {e : TypeId} {u v v' x : Value} {n m : Nat} {xs ys : List Value} (h : Twin u v n m) (hr : Rd w u n ys) (hy : ys.length = n) (hown : OwnM w base e v m xs)
    (hown' : OwnM w' base e v' (m + 1) (xs ++ [x])) (hg : w.grownBy w' v.ownBlock) (hgr : Grew w w' v v' m) (hu : ∀ k, u.ownBlock = some k → k < w.heap.size) : Twin u v' n (m + 1) ∧ Rd w' u n ys := by
  rcases hgr with ⟨b, c, rfl, rfl⟩ | ⟨hn, hb⟩
  · rcases h with h | ⟨b', c1, c2, rfl, e2, hnm⟩
    · refine ⟨.inl (fun k hk => by have := h k hk; simpa [Value.ownBlock] using this), hr.keep (fun k hk hl => hg.block k hl (fun e => h k hk e.symm))⟩
    · injection e2 with e3 e4 e5
      injection e3 with e3
      injection e3 with e3
      subst e3
      refine ⟨.inr ⟨_, c1, c, rfl, rfl, by omega⟩, ?_⟩
      obtain ⟨a0, cap0, h0, h1, h2, h3, h4⟩ := hr
      injection h0 with g1 g2 g3
      subst g1; subst g3
      refine ⟨_, _, rfl, h1, h2, h3, fun j hj => ?_⟩
      obtain ⟨b2, o2, g4, g5⟩ := h4 j hj
      injection g4 with g4
      injection g4 with g4 g6
      subst g4; subst g6
      refine ⟨_, 0, rfl, ?_⟩
      have hjm : j < m := by omega
      have hl : xs.length = m := by have := hown.1; omega
      have q1 := hown.cells (g := _) rfl j xs[j] (by simp [show j < xs.length by omega])
      have q2 := hown'.cells (g := _) rfl j xs[j] (by rw [List.getElem?_append_left (by omega)]; simp [show j < xs.length by omega])
      rw [Go.WideShapes.add_plain] at q1 q2
      rw [q2, ← q1, g5]
  · exact ⟨.inl (fun k hk e => by have := hu k hk; rw [hn] at e; injection e with e; omega), hr.below hb⟩
theorem OwnM.isCells {w : World} {base n j : Nat} {e : TypeId} {v : Value} {xs : List Value} {o : Obj} (h : OwnM w base e v n xs) (hj : v.ownBlock = some j) (hk : w.heap[j]? = some o) : o.isCells = true := by
  rcases h.2 with ⟨rfl, _⟩ | ⟨g, cap, cur, fz, rfl, _, hg, _⟩
  · simp [Value.ownBlock] at hj
  · simp [Value.ownBlock] at hj
    subst hj
    rw [hk] at hg; injection hg with hg; rw [hg]; rfl
theorem own_isCells {w : World} {base s n j : Nat} {e : TypeId} {v : Value} {xs : List Value} {o : Obj} (h : w.ownsRow base e s v n xs) (hj : v.ownBlock = some j) (hk : w.heap[j]? = some o) : o.isCells = true := by
  rcases h.2 with ⟨rfl, _⟩ | ⟨g, cap, cur, rfl, _, hg, _⟩
  · simp [Value.ownBlock] at hj
  · simp [Value.ownBlock] at hj
    subst hj
    rw [hk] at hg; injection hg with hg; rw [hg]; rfl
/-- Rows that are handed in: their values, how many elements each has; where they begin; their elements' type. -/
structure Rows0M where
  N : Nat
  vs : Nat → Value
  ns : Nat → Nat
  B : Nat
  e : TypeId
/-- The first turn: the rows, of which the first k are written over, and i elements of the next one. -/
structure Turn1M (R : Rows0M) (mk : Nat → Nat → Value) (lsv : Value) (w0 : World) (k i : Nat) (w : World) : Prop where
  own : ∃ xs : Nat → List Value, (∀ j, j < R.N → OwnM w R.B R.e (R.vs j) (R.ns j) (xs j)) ∧ (∀ j, j < k → j < R.N → xs j = marksOf mk j (R.ns j)) ∧ (k < R.N → (xs k).take i = marksOf mk k i)
  apart : ∀ j j', j < R.N → j' < R.N → j ≠ j' → Apart (R.vs j) (R.vs j')
  ls : Rd w lsv R.N ((List.range R.N).map R.vs)
  lsa : ∀ j, j < R.N → Apart lsv (R.vs j)
  mod : Mod (fun b => R.B ≤ b) w0 w ∧ KeepsOthers w0 w
theorem Turn1M.drew {R : Rows0M} {mk : Nat → Nat → Value} {lsv : Value} {w0 : World} {k i : Nat} {w : World} (h : Turn1M R mk lsv w0 k i w) : Turn1M R mk lsv w0 k i w.drew := by
  obtain ⟨⟨xs, h1, h2, h3⟩, h4, h5, h6, h7⟩ := h
  exact ⟨⟨xs, fun j hj => OwnM.below (h1 j hj) (below_drew _), h2, h3⟩, h4, h5.drew, h6, h7.1.trans (Mod.drew _ _), h7.2.trans (KeepsOthers.drew _)⟩
theorem Turn1M.row {R : Rows0M} {mk : Nat → Nat → Value} {lsv : Value} {w0 : World} {k i : Nat} {w : World} (h : Turn1M R mk lsv w0 k i w) (hk : k < R.N) (hi : i < R.ns k) :
    ∃ g cap, R.vs k = .slice (some ⟨g, 0, none⟩) (R.ns k) cap ∧ (∃ y, w.cell? ⟨g, i, none⟩ = some y) ∧ w.frozen? ⟨g, i, none⟩ = false ∧ Turn1M R mk lsv w0 k (i + 1) (w.setCell ⟨g, i, none⟩ (mk k i)) := by
  obtain ⟨⟨xs, h1, h2, h3⟩, h4, h5, h6, h7⟩ := h
  obtain ⟨g, cap, e1, hb, hy, hf, hs⟩ := OwnM.set (h1 k hk) i hi (mk k i)
  have hm : Mod (fun b => b = g) w (w.setCell ⟨g, i, none⟩ (mk k i)) := Mod.set (fun b => b = g) w ⟨g, i, none⟩ (mk k i) rfl
  have hl := OwnM.len (h1 k hk)
  refine ⟨g, cap, e1, hy, hf, ⟨fun j => if j = k then (xs k).set i (mk k i) else xs j, fun j hj => ?_, fun j hj hj2 => ?_, fun _ => ?_⟩, h4, ?_, h6, h7.1.trans (hm.mono (fun _ hi => by subst hi; exact hb)), h7.2.trans (KeepsOthers.setCell _ _ _)⟩
  · dsimp only
    by_cases e : j = k
    · subst e; rw [if_pos rfl]; exact hs
    · rw [if_neg e]; exact OwnM.mod (h1 j hj) hm (fun b hb e2 => h4 j k hj hk e b hb (by rw [e1, e2]; rfl))
  · dsimp only
    rw [if_neg (by omega)]; exact h2 j hj hj2
  · dsimp only
    rw [if_pos rfl, marksOf_succ, ← h3 hk, List.take_succ_eq_append_getElem (by simp; omega), List.take_set_of_le (Nat.le_refl _)]
    simp
  · exact h5.mod hm (fun b hb e2 => h6 k hk b hb (by rw [e1, e2]; rfl))
theorem Turn1M.next {R : Rows0M} {mk : Nat → Nat → Value} {lsv : Value} {w0 : World} {k : Nat} {w : World} (h : Turn1M R mk lsv w0 k (R.ns k) w) (hk : k < R.N) : Turn1M R mk lsv w0 (k + 1) 0 w := by
  obtain ⟨⟨xs, h1, h2, h3⟩, h4, h5, h6, h7⟩ := h
  refine ⟨⟨xs, h1, fun j hj hj2 => ?_, fun _ => rfl⟩, h4, h5, h6, h7⟩
  by_cases e : j = k
  · subst e
    have := h3 hk
    rw [List.take_of_length_le (by rw [OwnM.len (h1 j hk)]; exact Nat.le_refl _)] at this
    exact this
  · exact h2 j (by omega) hj2
/-- The second turn: the first k rows have their marks behind; of the next one i. -/
structure Turn2M (R : Rows0M) (mk : Nat → Nat → Value) (lsv : Value) (w0 : World) (E : TypeId) (k : Nat) (gsv : Value) (gl : List Value) (g : Value) (i : Nat) (w : World) : Prop where
  own : ∃ gv : Nat → Value, (∀ j, j < k → j < R.N → OwnM w R.B R.e (gv j) (R.ns j + 64) (marksOf mk j (R.ns j + 64))) ∧ (∀ j, k < j → j < R.N → gv j = R.vs j ∧ OwnM w R.B R.e (gv j) (R.ns j) (marksOf mk j (R.ns j))) ∧
    (k < R.N → gv k = g ∧ OwnM w R.B R.e g (R.ns k + i) (marksOf mk k (R.ns k + i)) ∧ Twin (R.vs k) g (R.ns k) (R.ns k + i)) ∧ (∀ j j', j < R.N → j' < R.N → j ≠ j' → Apart (gv j) (gv j') ∧ Apart (R.vs j) (gv j')) ∧
    (∀ j, j < R.N → Apart lsv (gv j) ∧ Apart gsv (gv j)) ∧ gl = (List.range (min k R.N)).map gv
  rd : ∀ j, j < R.N → Rd w (R.vs j) (R.ns j) (marksOf mk j (R.ns j))
  lt : ∀ j, j < R.N → ∀ b, (R.vs j).ownBlock = some b → b < w.heap.size
  ls : Rd w lsv R.N ((List.range R.N).map R.vs)
  lsl : ∀ b, lsv.ownBlock = some b → b < w.heap.size
  gs : w.ownsRow R.B E 1 gsv (min k R.N) gl
  gsa : Apart lsv gsv ∧ ∀ j, j < R.N → Apart (R.vs j) gsv
  mod : Mod (fun b => R.B ≤ b) w0 w ∧ KeepsOthers w0 w
  le : R.B ≤ w.heap.size
/-- When all rows are written. -/
theorem Turn1M.two {R : Rows0M} {mk : Nat → Nat → Value} {lsv : Value} {w0 : World} {w : World} {E : TypeId} (h : Turn1M R mk lsv w0 R.N 0 w) (hl : ∀ b, lsv.ownBlock = some b → b < w.heap.size) (hB : R.B ≤ w.heap.size) :
    Turn2M R mk lsv w0 E 0 (.slice none 0 0) [] (R.vs 0) 0 w := by
  obtain ⟨⟨xs, h1, h2, h3⟩, h4, h5, h6, h7⟩ := h
  have ho : ∀ j, j < R.N → OwnM w R.B R.e (R.vs j) (R.ns j) (marksOf mk j (R.ns j)) := fun j hj => by
    have := h1 j hj
    rwa [h2 j hj hj] at this
  refine ⟨⟨R.vs, fun j hj _ => by omega, fun j _ hj => ⟨rfl, ho j hj⟩, fun h0 => ⟨rfl, ho 0 h0, ?_⟩, fun j j' hj hj' hne => ⟨h4 j j' hj hj' hne, h4 j j' hj hj' hne⟩, fun j hj => ⟨h6 j hj, nil_apart _⟩, by simp⟩,
    fun j hj => OwnM.rd (ho j hj), fun j hj b hb => ((ho j hj).lt b hb).2, h5, hl, ?_, ⟨apart_nil _, fun j _ => apart_nil _⟩, h7, hB⟩
  · rcases (ho 0 h0).2 with ⟨e, _⟩ | ⟨g, cap, cur, fz, e, _⟩
    · rw [e]; exact .inl (nil_apart _)
    · rw [e]; exact .inr ⟨g, cap, cap, rfl, rfl, by omega⟩
  · rw [Nat.zero_min]; exact World.ownsRow_nil _ _ _ _
/-- Something else is made. -/
theorem Turn2M.below {R : Rows0M} {mk : Nat → Nat → Value} {lsv : Value} {w0 : World} {E : TypeId} {k i : Nat} {gsv g : Value} {gl : List Value} {w w' : World} (h : Turn2M R mk lsv w0 E k gsv gl g i w) (hb : Below w.heap.size w w') : Turn2M R mk lsv w0 E k gsv gl g i w' := by
  obtain ⟨⟨gv, h1, h2, h3, h4, h5, h6⟩, k1, k2, k3, k4, k5, k6, k7, k8⟩ := h
  exact ⟨⟨gv, fun j a b => OwnM.below (h1 j a b) hb, fun j a b => ⟨(h2 j a b).1, OwnM.below (h2 j a b).2 hb⟩, fun a => ⟨(h3 a).1, OwnM.below (h3 a).2.1 hb, (h3 a).2.2⟩, h4, h5, h6⟩, fun j hj => (k1 j hj).below hb,
    fun j hj b hb2 => Nat.lt_of_lt_of_le (k2 j hj b hb2) hb.size, k3.below hb, fun b hb2 => Nat.lt_of_lt_of_le (k4 b hb2) hb.size, own_below k5 hb, k6, ⟨k7.1.then (Mod.of_below (F := fun _ => False) hb) (fun _ h => h.elim), k7.2.trans (keepsOthers_below hb)⟩, Nat.le_trans k8 hb.size⟩
/-- A mark more behind the row at hand. -/
theorem Turn2M.step {R : Rows0M} {mk : Nat → Nat → Value} {lsv : Value} {w0 : World} {E : TypeId} {k i : Nat} {gsv g g' : Value} {gl : List Value} {w w' : World} (h : Turn2M R mk lsv w0 E k gsv gl g i w) (hk : k < R.N)
    (hown' : OwnM w' R.B R.e g' (R.ns k + i + 1) (marksOf mk k (R.ns k + i) ++ [mk k (R.ns k + i)])) (hg : w.grownBy w' g.ownBlock) (hm : Moved w g g') (hgr : Grew w w' g g' (R.ns k + i)) : Turn2M R mk lsv w0 E k gsv gl g' (i + 1) w' := by
  obtain ⟨⟨gv, h1, h2, h3, h4, h5, h6⟩, k1, k2, k3, k4, k5, k6, k7, k8⟩ := h
  obtain ⟨e0, ho, ht⟩ := h3 hk
  have hglt := fun j (hj : j < R.N) (hjk : j ≠ k) => (show ∀ b, (gv j).ownBlock = some b → b < w.heap.size from fun b hb => by
    rcases Nat.lt_or_gt_of_ne hjk with hlt | hlt
    · exact ((h1 j hlt hj).lt b hb).2
    · exact ((h2 j hlt hj).2.lt b hb).2)
  have hT := ht.appendM (k1 k hk) (marksOf_length _ _ _) ho hown' hg hgr (k2 k hk)
  rw [← marksOf_succ] at hown'
  refine ⟨⟨fun j => if j = k then g' else gv j, fun j a b => ?_, fun j a b => ?_, fun a => ⟨if_pos rfl, hown', hT.1⟩, fun j j' hj hj' hne => ?_, fun j hj => ?_, ?_⟩, fun j hj => ?_, fun j hj b hb => Nat.lt_of_lt_of_le (k2 j hj b hb) hg.size,
    k3.keep (fun b hb hl => hg.block b hl (fun e => (h5 k hk).1 b hb (by rw [e0]; exact e.symm))), fun b hb => Nat.lt_of_lt_of_le (k4 b hb) hg.size, own_other k5 hg (by rw [← e0]; exact (h5 k hk).2), k6,
    ⟨k7.1.then (Mod.of_grown hg (F := fun b => R.B ≤ b) (fun b hb => (ho.lt b hb).1)) (fun b hb => .inl hb), k7.2.trans (KeepsOthers.of_grownBy hg (fun j o hj hk => OwnM.isCells ho hj hk))⟩, Nat.le_trans k8 hg.size⟩
  · show OwnM w' R.B R.e (if j = k then g' else gv j) _ _
    rw [if_neg (by omega)]; exact OwnM.other (h1 j a b) hg (by rw [← e0]; exact (h4 j k b hk (by omega)).1)
  · show (if j = k then g' else gv j) = _ ∧ OwnM w' R.B R.e (if j = k then g' else gv j) _ _
    rw [if_neg (by omega)]; exact ⟨(h2 j a b).1, OwnM.other (h2 j a b).2 hg (by rw [← e0]; exact (h4 j k b hk (by omega)).1)⟩
  · show Apart (if j = k then g' else gv j) (if j' = k then g' else gv j') ∧ Apart (R.vs j) (if j' = k then g' else gv j')
    by_cases ej : j = k
    · subst ej
      rw [if_pos rfl, if_neg (by omega)]
      have h := h4 j j' hj hj' hne
      refine ⟨?_, h.2⟩
      have h' := h.1.symm
      rw [e0] at h'
      exact (h'.moved hm (hglt j' hj' (by omega))).symm
    · rw [if_neg ej]
      by_cases ej' : j' = k
      · subst ej'
        rw [if_pos rfl]
        have h := h4 j j' hj hj' hne
        rw [e0] at h
        exact ⟨h.1.moved hm (hglt j hj ej), h.2.moved hm (k2 j hj)⟩
      · rw [if_neg ej']; exact h4 j j' hj hj' hne
  · show Apart lsv (if j = k then g' else gv j) ∧ Apart gsv (if j = k then g' else gv j)
    by_cases ej : j = k
    · subst ej
      rw [if_pos rfl]
      have h := h5 j hj
      rw [e0] at h
      exact ⟨h.1.moved hm k4, h.2.moved hm (fun b hb => (k5.lt b hb).2)⟩
    · rw [if_neg ej]; exact h5 j hj
  · rw [h6]
    refine List.map_congr_left fun j hj => ?_
    simp only [List.mem_range] at hj
    rw [if_neg (by omega)]
  · by_cases ej : j = k
    · subst ej; exact hT.2
    · exact (k1 j hj).keep (fun b hb hl => hg.block b hl (fun e => (h4 j k hj hk ej).2 b hb (by rw [e0]; exact e.symm)))
/-- The row goes among those that are held. -/
theorem Turn2M.next {R : Rows0M} {mk : Nat → Nat → Value} {lsv : Value} {w0 : World} {E : TypeId} {k : Nat} {gsv g gsv' : Value} {gl : List Value} {w w' : World} (h : Turn2M R mk lsv w0 E k gsv gl g 64 w) (hk : k < R.N)
    (hown' : w'.ownsRow R.B E 1 gsv' (k + 1) (gl ++ [g])) (hg : w.grownBy w' gsv.ownBlock) (hm : Moved w gsv gsv') : Turn2M R mk lsv w0 E (k + 1) gsv' (gl ++ [g]) (R.vs (k + 1)) 0 w' := by
  obtain ⟨⟨gv, h1, h2, h3, h4, h5, h6⟩, k1, k2, k3, k4, k5, k6, k7, k8⟩ := h
  obtain ⟨e0, ho, ht⟩ := h3 hk
  have hglt := fun j (hj : j < R.N) => (show ∀ b, (gv j).ownBlock = some b → b < w.heap.size from fun b hb => by
    rcases Nat.lt_trichotomy j k with hlt | rfl | hlt
    · exact ((h1 j hlt hj).lt b hb).2
    · rw [e0] at hb; exact (ho.lt b hb).2
    · exact ((h2 j hlt hj).2.lt b hb).2)
  refine ⟨⟨gv, fun j a b => ?_, fun j a b => ⟨(h2 j (by omega) b).1, OwnM.other (h2 j (by omega) b).2 hg (h5 j b).2.symm⟩, fun a => ⟨(h2 _ (by omega) a).1, ?_, ?_⟩, h4, fun j hj => ⟨(h5 j hj).1, ((h5 j hj).2.symm.moved hm (hglt j hj)).symm⟩, ?_⟩,
    fun j hj => (k1 j hj).keep (fun b hb hl => hg.block b hl (fun e => k6.2 j hj b hb e.symm)), fun j hj b hb => Nat.lt_of_lt_of_le (k2 j hj b hb) hg.size,
    k3.keep (fun b hb hl => hg.block b hl (fun e => k6.1 b hb e.symm)), fun b hb => Nat.lt_of_lt_of_le (k4 b hb) hg.size, by rw [show min (k + 1) R.N = k + 1 by omega]; exact hown', ⟨k6.1.moved hm k4, fun j hj => (k6.2 j hj).moved hm (k2 j hj)⟩,
    ⟨k7.1.then (Mod.of_grown hg (F := fun b => R.B ≤ b) (fun b hb => (k5.lt b hb).1)) (fun b hb => .inl hb), k7.2.trans (KeepsOthers.of_grownBy hg (fun j o hj hk => own_isCells k5 hj hk))⟩, Nat.le_trans k8 hg.size⟩
  · by_cases ej : j = k
    · subst ej; rw [e0]; exact OwnM.other ho hg (by rw [← e0]; exact (h5 j b).2.symm)
    · exact OwnM.other (h1 j (by omega) b) hg (h5 j b).2.symm
  · have h := h2 (k + 1) (by omega) a
    rw [h.1] at h
    exact OwnM.other h.2 hg (by have := (h5 (k + 1) a).2.symm; rwa [(h2 (k + 1) (by omega) a).1] at this)
  · have h := h2 (k + 1) (by omega) a
    rw [h.1] at h
    rcases h.2.2 with ⟨e, _⟩ | ⟨g, cap, cur, fz, e, _⟩
    · rw [e]; exact .inl (nil_apart _)
    · rw [e]; exact .inr ⟨g, cap, cap, rfl, rfl, by omega⟩
  · rw [h6, show min k R.N = k by omega, show min (k + 1) R.N = k + 1 by omega, List.range_succ, List.map_append]; simp [e0]
/-- What the third turn reads. -/
structure Turn3M (R : Rows0M) (mk : Nat → Nat → Value) (lsv gsv : Value) (gl : List Value) (w : World) : Prop where
  ls : Rd w lsv R.N ((List.range R.N).map R.vs)
  gs : Rd w gsv R.N gl
  len : gl.length = R.N
  rd : ∀ j, j < R.N → Rd w (R.vs j) (R.ns j) (marksOf mk j (R.ns j))
  gd : ∀ j, j < R.N → Rd w (gl.getD j undef) (R.ns j + 64) (marksOf mk j (R.ns j + 64))
theorem Turn2M.three {R : Rows0M} {mk : Nat → Nat → Value} {lsv : Value} {w0 : World} {E : TypeId} {gsv g : Value} {gl : List Value} {w : World} {i : Nat} (h : Turn2M R mk lsv w0 E R.N gsv gl g i w) : Turn3M R mk lsv gsv gl w := by
  obtain ⟨⟨gv, h1, h2, h3, h4, h5, h6⟩, k1, k2, k3, k4, k5, k6, k7⟩ := h
  rw [Nat.min_self] at h6 k5
  refine ⟨k3, rd_of_own k5, by rw [h6]; simp, k1, fun j hj => ?_⟩
  have : gl.getD j undef = gv j := by rw [h6]; simp [List.getD, hj]
  rw [this]; exact OwnM.rd (h1 j hj hj)
theorem Turn3M.below {R : Rows0M} {mk : Nat → Nat → Value} {lsv gsv : Value} {gl : List Value} {w w' : World} (h : Turn3M R mk lsv gsv gl w) (hb : Below w.heap.size w w') : Turn3M R mk lsv gsv gl w' :=
  ⟨h.ls.below hb, h.gs.below hb, h.len, fun j hj => (h.rd j hj).below hb, fun j hj => (h.gd j hj).below hb⟩
theorem Turn3M.drew {R : Rows0M} {mk : Nat → Nat → Value} {lsv gsv : Value} {gl : List Value} {w : World} (h : Turn3M R mk lsv gsv gl w) : Turn3M R mk lsv gsv gl w.drew := h.below (below_drew _)
end Go.Proofs.YtdaimaibnjkfbaaDoor
/-
  Numbers in sevens: what they are; the document's Sevens, Text.
-/
namespace Go.Proofs.YtdaimaibnjkfbaaDoor
open Go.RowKit
set_option maxRecDepth 100000

/-- 'append(p, x..)' of bytes that are read somewhere. -/
theorem appMR {w : World} {ops : Array Oper} {rest : List Oper} {o : Oper} {a : Act} {Q : Exit → Act → World → Prop} (hgd : o.guard = none) (s x : Operand)
    (ho : o.op = .call { callee := .builtin .append, args := #[s, x], argTypes := #[34, 34] })
    (base : Nat) (v : Value) (n : Nat) (xs : List Value) (hs : a.eval s = v) (hown : OwnM w base 5 v n xs)
    (src : Value) (l : List UInt8) (hx : a.eval x = src) (hsrc : Rd w src l.length (l.map V8))
    (hroom : n + l.length ≤ 140737488355328) (hbase : base ≤ w.heap.size)
    (h : ∀ v' w', OwnM w' base 5 v' (n + l.length) (xs ++ l.map V8) → w.grownBy w' v.ownBlock → Moved w v v' → wpList Tryd.prog ops Q rest (a.put o.dst v') w') : wpList Tryd.prog ops Q (o :: rest) a w := by
  obtain ⟨i0, hi, hz0, hz1, hz2⟩ := info_parts info_u8
  refine wpList_plain hgd fun _ hK => ?_
  obtain ⟨v', w', hr, h2, h3, h4, _⟩ := run_append_M (P := Tryd.prog) w base 34 34 o.type 5 _ i0 (.int .u8 0) 1 Tryd.underlying34 Tryd.underlying34 (.inl ⟨_, rfl⟩) hi hz0 hz1 hz2 rfl v n xs hown
    src l.length (l.map V8) (by simp) (fun w => by obtain ⟨ad, cap, rfl, _⟩ := hsrc; simp [Builtin.lenOf]) (fun wd hw => by
      obtain ⟨ad, cap, rfl, hmc, _, hnil, hcell⟩ := hsrc
      cases ad with
      | some ad =>
        refine run_firstCells_some (P := Tryd.prog) wd 1 l.length ad l.length cap (l.map V8) (by simp) (fun j u hj => ?_)
        have hjl : j < (l.map V8).length := (List.getElem?_eq_some_iff.1 hj).1
        obtain ⟨b, off, e1, e2⟩ := hcell j hjl
        injection e1 with e1; subst e1
        rw [hw, Go.WideShapes.add_plain, e2, List.getD, hj]; rfl
      | none =>
        have hc0 := hnil rfl
        have hl0 : l = [] := List.eq_nil_of_length_eq_zero (by omega)
        subst hl0
        have hc1 : cap = 0 := hnil rfl
        subst hc1
        exact run_firstCells_none ..) (by
      intro u hu
      obtain ⟨c, _, rfl⟩ := List.mem_map.1 hu
      simp [V8, Value.oneCell']) (by unfold maxLen; omega) (by omega) hbase
  unfold Oper.wp execOp
  simp only [ho, resolve, invoke, builtin, Sem.run_bind, Sem.run_pure, Result.andThen_ok, List.map_toArray, List.map_cons, List.map_nil, hs, hx, hr]
  exact hK _ _ (h v' w' h2 h3 h4)
/-- A number in sevens, of at most k bytes. -/
def sevF : Nat → Nat → List UInt8
  | 0, _ => []
  | k + 1, n => if n < 128 then [UInt8.ofNat n] else UInt8.ofNat (n % 128 + 128) :: sevF k (n / 128)
def sevM (n : Nat) : List UInt8 := sevF 10 n
theorem sevF_len (k n : Nat) : (sevF k n).length ≤ k := by
  induction k generalizing n with
  | zero => simp [sevF]
  | succ k ih => rw [sevF]; split
                 · simp
                 · have := ih (n / 128); simp only [List.length_cons]; omega
theorem sevM_len (n : Nat) : (sevM n).length ≤ 10 := sevF_len 10 n
theorem v8_nat (n : Nat) (h : n < 256) : V8 (UInt8.ofNat n) = .int .u8 (n : Int) := by
  unfold V8
  have : (UInt8.ofNat n).toNat = n % 256 := rfl
  rw [this, Nat.mod_eq_of_lt h]
theorem u64_and (n : Nat) (h : n < 2 ^ 64) : bits .and .u64 (n : Int) 127 = ((n % 128 : Nat) : Int) := by
  show IntKind.u64.wrap ((BitVec.ofInt 64 (n : Int) &&& BitVec.ofInt 64 127).toNat : Int) = _
  rw [BitVec.toNat_and, BitVec.toNat_ofInt, BitVec.toNat_ofInt]
  have e1 : ((n : Int) % ((2 ^ 64 : Nat) : Int)).toNat = n := by omega
  have e2 : ((127 : Int) % ((2 ^ 64 : Nat) : Int)).toNat = 2 ^ 7 - 1 := by decide
  rw [e1, e2, Nat.and_two_pow_sub_one_eq_mod]
  have : n % 2 ^ 7 < 128 := Nat.mod_lt _ (by decide)
  simp [IntKind.wrap, IntKind.bits, IntKind.signed]; omega
theorem u8_or (n : Nat) (h : n < 128) : bits .or .u8 (n : Int) 128 = ((n + 128 : Nat) : Int) := by
  have : ∀ n : Nat, n < 128 → bits .or .u8 (n : Int) 128 = ((n + 128 : Nat) : Int) := by decide +kernel
  exact this n h
theorem u8_or2 (n : Nat) (h : n < 256) : bits .or .u8 (n : Int) 128 = ((n % 128 + 128 : Nat) : Int) := by
  have : ∀ n : Nat, n < 256 → bits .or .u8 (n : Int) 128 = ((n % 128 + 128 : Nat) : Int) := by decide +kernel
  exact this n h
set_option maxHeartbeats 1600000 in
theorem refSevens_calls (n : Nat) (w : World) (hn : n < 2 ^ 64) :
    Calls Tryd.prog 57 #[.int .u64 (n : Int)] w fun e w' => ∃ o, e = .returned o ∧ OwnM w' w.heap.size 5 o (sevM n).length ((sevM n).map V8) ∧ Below w.heap.size w w' := by
  go_enter Tryd.func57, Tryd.ntmps57
  go_wp2_with fail
  go_loopg [0, 3, 4] 10 (fun gk vv o iv wr => ∃ (i v : Nat) (l : List UInt8), gk + i = 10 ∧ vv = .int .u64 (v : Int) ∧ iv = .int .i64 (i : Int) ∧ v < 2 ^ (70 - 7 * i) ∧ v < 2 ^ 64 ∧ OwnM wr w.heap.size 5 o l.length (l.map V8) ∧ l ++ (if i = 0 ∨ 0 < v then sevF (10 - i) v else []) = sevM n ∧ Below w.heap.size w wr)
  case atStart => exact ⟨0, n, [], rfl, rfl, rfl, by omega, hn, OwnM.nil _ _ _, by simp [sevM], Below.refl _ _⟩
  case round =>
    obtain ⟨i, v, l, hgk, rfl, rfl, hv, hv64, hown, hl, hb⟩ := hrel
    by_cases hc : i < 10 ∧ (i = 0 ∨ 0 < v)
    · obtain ⟨h1, h2⟩ := hc
      obtain ⟨m, hm⟩ : ∃ m, m = v % 128 := ⟨_, rfl⟩
      obtain ⟨q, hq⟩ : ∃ q, q = v / 128 := ⟨_, rfl⟩
      have hand := u64_and v hv64
      rw [← hm] at hand
      have hm1 : m < 128 := by omega
      have f1 : (i : Int) < 10 := by omega
      have f0 : (0 : Int) ≤ (i : Int) := by omega
      have hs := hb.size
      rw [if_pos h2, show 10 - i = (9 - i) + 1 by omega] at hl
      unfold sevF at hl
      have hshr : (v : Int) / 128 = (q : Int) := by omega
      have HG := Lib.hid hgk
      have HI := Lib.hid h1
      have HQ2 := Lib.hid (show q < 2 ^ 64 by omega)
      have HQ := Lib.hid (show q < 2 ^ (70 - 7 * (i + 1)) from by
        have e : 2 ^ (70 - 7 * i) = 2 ^ (70 - 7 * (i + 1)) * 128 := by rw [show 70 - 7 * i = (70 - 7 * (i + 1)) + 7 by omega, Nat.pow_add]
        rw [e] at hv
        rw [hq]; exact Nat.div_lt_of_lt_mul (by rw [Nat.mul_comm]; exact hv))
      have HL := Lib.hid (show l.length + 1 ≤ 140737488355328 from by
        have h5 : (l ++ (if v < 128 then [UInt8.ofNat v] else UInt8.ofNat (v % 128 + 128) :: sevF (9 - i) (v / 128))).length = (sevM n).length := by rw [hl]
        have := sevM_len n
        rw [List.length_append] at h5; omega)
      by_cases hq0 : 0 < q
      · have HT := Lib.hid (show (l ++ [UInt8.ofNat (m + 128)]) ++ (if i + 1 = 0 ∨ 0 < q then sevF (10 - (i + 1)) q else []) = sevM n from by
          rw [if_neg (by omega)] at hl
          rw [if_pos (.inr hq0), ← hl, hm, hq, List.append_assoc, show 10 - (i + 1) = 9 - i by omega]; rfl)
        have hor := u8_or m hm1
        have HV8 := Lib.hid (v8_nat (m + 128) (by omega))
        obtain ⟨k, hk⟩ : ∃ k, k = m + 128 := ⟨_, rfl⟩
        rw [← hk] at HT hor HV8
        have g1 : (0 : Int) < (q : Int) := by omega
        clear hl hk
        by_cases hi0 : i = 0
        · have f2 : ((i : Int) == 0) = true := by simp; omega
          clear hi0 h2 hgk hv hv64 hm hq h1
          go_wp2_with (at_builtin; refine appM1 rfl _ _ rfl w.heap.size _ _ _ rfl (hown.below (below_alloc wr _)) ⟨wr.heap.size, 0, none⟩ 1 (.int .u8 ((k : Int) : Int)) rfl (by exact cell_one_new _ _ _ 0 _ rfl) (by simp [Value.oneCell']) (by have := HL.out; omega) (by simp; omega) ?_)
          intro v' w1 hown' hg' _ _
          have hb' := hb.trans ((below_alloc wr (.cells #[.int .u8 ((k : Int) : Int)] 5)).mono hs)
          have HB1 := Lib.hid (hb'.trans (below_grown hg' (by simp; omega) (fun q hq => (hown.lt q hq).1)))
          have HO1 := Lib.hid hown'
          clear hb' hg' hown' hown hb
          go_wp2_with fail
          go_roundg (10 - (i + 1))
          case measure => have := HG.out; have := HI.out; omega
          case rel => exact ⟨i + 1, q, l ++ [UInt8.ofNat k], by have := HG.out; have := HI.out; omega, by go_num, by go_num, HQ.out, HQ2.out, by rw [List.length_append, List.map_append, List.length_singleton, List.map_singleton, HV8.out]; exact HO1.out, HT.out, HB1.out⟩
        · have f2 : ((i : Int) == 0) = false := by simp; omega
          have f3 : (0 : Int) < (v : Int) := by omega
          clear hi0 h2 hgk hv hv64 hm hq h1
          go_wp2_with (at_builtin; refine appM1 rfl _ _ rfl w.heap.size _ _ _ rfl (hown.below (below_alloc wr _)) ⟨wr.heap.size, 0, none⟩ 1 (.int .u8 ((k : Int) : Int)) rfl (by exact cell_one_new _ _ _ 0 _ rfl) (by simp [Value.oneCell']) (by have := HL.out; omega) (by simp; omega) ?_)
          intro v' w1 hown' hg' _ _
          have hb' := hb.trans ((below_alloc wr (.cells #[.int .u8 ((k : Int) : Int)] 5)).mono hs)
          have HB1 := Lib.hid (hb'.trans (below_grown hg' (by simp; omega) (fun q hq => (hown.lt q hq).1)))
          have HO1 := Lib.hid hown'
          clear hb' hg' hown' hown hb
          go_wp2_with fail
          go_roundg (10 - (i + 1))
          case measure => have := HG.out; have := HI.out; omega
          case rel => exact ⟨i + 1, q, l ++ [UInt8.ofNat k], by have := HG.out; have := HI.out; omega, by go_num, by go_num, HQ.out, HQ2.out, by rw [List.length_append, List.map_append, List.length_singleton, List.map_singleton, HV8.out]; exact HO1.out, HT.out, HB1.out⟩
      · have hmv : m = v := by omega
        have HT := Lib.hid (show (l ++ [UInt8.ofNat m]) ++ (if i + 1 = 0 ∨ 0 < q then sevF (10 - (i + 1)) q else []) = sevM n from by
          rw [if_pos (by omega)] at hl
          rw [if_neg (by omega), ← hl, hmv, List.append_nil])
        have HV8 := Lib.hid (v8_nat m (by omega))
        have g1 : ¬ (0 : Int) < (q : Int) := by omega
        clear hl hmv
        by_cases hi0 : i = 0
        · have f2 : ((i : Int) == 0) = true := by simp; omega
          clear hi0 h2 hgk hv hv64 hm hq h1
          go_wp2_with (at_builtin; refine appM1 rfl _ _ rfl w.heap.size _ _ _ rfl (hown.below (below_alloc wr _)) ⟨wr.heap.size, 0, none⟩ 1 (.int .u8 ((m : Int) : Int)) rfl (by exact cell_one_new _ _ _ 0 _ rfl) (by simp [Value.oneCell']) (by have := HL.out; omega) (by simp; omega) ?_)
          intro v' w1 hown' hg' _ _
          have hb' := hb.trans ((below_alloc wr (.cells #[.int .u8 ((m : Int) : Int)] 5)).mono hs)
          have HB1 := Lib.hid (hb'.trans (below_grown hg' (by simp; omega) (fun q hq => (hown.lt q hq).1)))
          have HO1 := Lib.hid hown'
          clear hb' hg' hown' hown hb
          go_wp2_with fail
          go_roundg (10 - (i + 1))
          case measure => have := HG.out; have := HI.out; omega
          case rel => exact ⟨i + 1, q, l ++ [UInt8.ofNat m], by have := HG.out; have := HI.out; omega, by go_num, by go_num, HQ.out, HQ2.out, by rw [List.length_append, List.map_append, List.length_singleton, List.map_singleton, HV8.out]; exact HO1.out, HT.out, HB1.out⟩
        · have f2 : ((i : Int) == 0) = false := by simp; omega
          have f3 : (0 : Int) < (v : Int) := by omega
          clear hi0 h2 hgk hv hv64 hm hq h1
          go_wp2_with (at_builtin; refine appM1 rfl _ _ rfl w.heap.size _ _ _ rfl (hown.below (below_alloc wr _)) ⟨wr.heap.size, 0, none⟩ 1 (.int .u8 ((m : Int) : Int)) rfl (by exact cell_one_new _ _ _ 0 _ rfl) (by simp [Value.oneCell']) (by have := HL.out; omega) (by simp; omega) ?_)
          intro v' w1 hown' hg' _ _
          have hb' := hb.trans ((below_alloc wr (.cells #[.int .u8 ((m : Int) : Int)] 5)).mono hs)
          have HB1 := Lib.hid (hb'.trans (below_grown hg' (by simp; omega) (fun q hq => (hown.lt q hq).1)))
          have HO1 := Lib.hid hown'
          clear hb' hg' hown' hown hb
          go_wp2_with fail
          go_roundg (10 - (i + 1))
          case measure => have := HG.out; have := HI.out; omega
          case rel => exact ⟨i + 1, q, l ++ [UInt8.ofNat m], by have := HG.out; have := HI.out; omega, by go_num, by go_num, HQ.out, HQ2.out, by rw [List.length_append, List.map_append, List.length_singleton, List.map_singleton, HV8.out]; exact HO1.out, HT.out, HB1.out⟩
    · have e1 : l = sevM n := by
        rw [← hl]
        by_cases h2 : i = 0 ∨ 0 < v
        · have h3 : 10 ≤ i := by omega
          have h4 : i = 10 := by omega
          rw [h4] at hv ⊢
          have h5 : v = 0 := by omega
          rw [if_neg (by omega), List.append_nil]
        · rw [if_neg h2, List.append_nil]
      subst e1
      by_cases hi : i < 10
      · have f1 : (i : Int) < 10 := by omega
        have f2 : ((i : Int) == 0) = false := by simp; omega
        have f3 : ¬ (0 : Int) < (v : Int) := by omega
        clear hc hl hv hv64 hgk
        go_wp2_with fail
        go_ret
        exact ⟨_, rfl, hown, hb⟩
      · have f1 : ¬ (i : Int) < 10 := by omega
        clear hc hl hv hv64 hgk
        go_wp2_with fail
        go_ret
        exact ⟨_, rfl, hown, hb⟩
end Go.Proofs.YtdaimaibnjkfbaaDoor
/-
  The document's bytes of a number, of a text.
-/
namespace Go.Proofs.YtdaimaibnjkfbaaDoor
open Go.RowKit
set_option maxRecDepth 100000

def numB (n : Int) : List UInt8 := sevM n.toNat
def textB (l : List UInt8) : List UInt8 := sevM l.length ++ l
theorem wrap_u64n (n : Nat) (h : n ≤ 9223372036854775807) : IntKind.u64.wrap (n : Int) = (n : Int) := by
  simp [IntKind.wrap, IntKind.bits, IntKind.signed]; omega
theorem mod_u64n (n : Nat) (h : n ≤ 9223372036854775807) : (n : Int) % 18446744073709551616 = (n : Int) := by omega
theorem refText_calls (l : List UInt8) (w : World) (hn : l.length ≤ 140737488355000) :
    Calls Tryd.prog 58 #[.string (SB l)] w fun e w' => ∃ o, e = .returned o ∧ OwnM w' w.heap.size 5 o (textB l).length ((textB l).map V8) ∧ Below w.heap.size w w' := by
  have Hc := Lib.hid (refSevens_calls l.length w (by omega))
  have z1 := mod_u64n l.length (by omega)
  have hsz : (SB l).size = l.length := SB_size l
  go_enter Tryd.func58, Tryd.ntmps58
  go_wp2_with fail
  refine Hc.out.mono ?_
  rintro e w1 ⟨o, rfl, ho, hb⟩
  have hlen := sevM_len l.length
  have hs := hb.size
  have HL := Lib.hid (show (sevM l.length).length + l.length ≤ 140737488355328 by omega)
  go_wp2_with (at_builtin; refine appMS rfl _ _ rfl w.heap.size _ _ _ rfl ho l rfl (by have := HL.out; omega) (by omega) ?_)
  intro v' w2 hown' hg' _
  have hb2 := hb.trans (below_grown hg' hs (fun q hq => (ho.lt q hq).1))
  have HO := Lib.hid hown'
  have HB := Lib.hid hb2
  clear ho hb hown' hb2 hg'
  go_wp2_with fail
  go_ret
  exact ⟨_, rfl, by unfold textB; rw [List.length_append, List.map_append]; exact HO.out, HB.out⟩
end Go.Proofs.YtdaimaibnjkfbaaDoor
