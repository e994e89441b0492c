/-
  Bytes copied by the document; a slice of their first ones.
-/
import Derived.Test.YtdaimaibnjkfbaaDoorZ9
import Derived.Deep.LoopGhost
import Derived.LaidEql
import Derived.Stop.Asserts
import Derived.Test.YtdaimaibnjkfbaaDoorRows
import Derived.WalkKit
import Derived.ProofKit
import Derived.SizedLaws
import Derived.JoinedCond
namespace Go.Proofs.YtdaimaibnjkfbaaDoor
open Go.RowKit
set_option maxRecDepth 100000

set_option maxHeartbeats 800000 in
theorem copyO_calls (v : Value) (l : List UInt8) (w : World) (hv : Rd w v l.length (l.map V8)) (hn : l.length ≤ 140737488355000) :
    Calls Tryd.prog 22 #[v] w fun e w' => ∃ o, e = .returned o ∧ OwnM w' w.heap.size 5 o l.length (l.map V8) ∧ Below w.heap.size w w' := by
  obtain ⟨a, cap, rfl, hc1, hc2, _, hc⟩ := hv
  have Hc := Lib.hid hc
  clear hc
  go_enter Tryd.func22, Tryd.ntmps22
  go_wp2_with fail
  go_loopg [3, 4] l.length (fun gk o iv wr => ∃ k : Nat, gk + k = l.length ∧ iv = .int .i64 (k : Int) ∧ OwnM wr w.heap.size 5 o k ((l.take k).map V8) ∧ Below w.heap.size w wr)
  case atStart => exact ⟨0, rfl, rfl, OwnM.nil _ _ _, Below.refl _ _⟩
  case round =>
    obtain ⟨k, hgk, rfl, hown, hb⟩ := hrel
    have k0 : (0 : Int) ≤ (k : Int) := by omega
    by_cases hk : k < l.length
    · obtain ⟨b, off, rfl, hcell'⟩ := Hc.out k (by simpa using hk)
      obtain ⟨y, hy⟩ : ∃ y, y = l[k] := ⟨_, rfl⟩
      have hcell : wr.cell? ⟨b, off + k, none⟩ = some (.int .u8 (y.toNat : Int)) := below_heap hb (by rw [hcell', hy]; simp [hk, V8])
      have k1 : (k : Int) < (l.length : Int) := by omega
      have hs := hb.size
      have HG := Lib.hid hgk
      have HK := Lib.hid hk
      have HL := Lib.hid (show k + 1 ≤ 140737488355328 by omega)
      have HT := Lib.hid (show (l.take (k + 1)).map V8 = (l.take k).map V8 ++ [.int .u8 (y.toNat : Int)] by rw [List.take_succ_eq_append_getElem hk, List.map_append, hy]; rfl)
      clear hcell' hgk hk hy
      go_wp2_with (at_builtin; refine appM1 rfl _ _ rfl w.heap.size _ _ _ rfl (hown.below (below_alloc wr _)) ⟨wr.heap.size, 0, none⟩ 1 (.int .u8 (y.toNat : Int)) rfl (by exact cell_one_new _ _ _ 0 _ rfl) (by simp [Value.oneCell']) (by have := HL.out; omega) (by simp; omega) ?_)
      intro v' w1 hown' hg' _ _
      have hb' := hb.trans ((below_alloc wr (.cells #[.int .u8 (y.toNat : Int)] 5)).mono hs)
      have HB1 := Lib.hid (hb'.trans (below_grown hg' (by simp; omega) (fun q hq => (hown.lt q hq).1)))
      have HO1 := Lib.hid hown'
      clear hb' hg' hown' hown hb hcell
      go_wp2_with fail
      go_roundg (l.length - (k + 1))
      case measure => have := HG.out; have := HK.out; omega
      case rel => exact ⟨k + 1, by have := HG.out; have := HK.out; omega, by go_num, by rw [HT.out, List.map_take]; exact HO1.out, HB1.out⟩
    · have k1 : ¬ (k : Int) < (l.length : Int) := by omega
      obtain rfl : k = l.length := by omega
      rw [List.take_of_length_le (Nat.le_refl _)] at hown
      clear hk
      go_wp2_with fail
      go_ret
      exact ⟨_, rfl, hown, hb⟩
theorem headRd {w : World} {a : Option Addr} {n cap : Nat} {l : List UInt8} (h : Rd w (.slice a n cap) n (l.map V8)) (hl : l.length = n) (p : Nat) (hp : p ≤ n) : Rd w (.slice a p cap) (l.take p).length ((l.take p).map V8) := by
  have hc : n ≤ cap := by obtain ⟨_, _, e, h5, _⟩ := h; injection e with _ _ e3; omega
  have := h.cut (m := p) (by omega) p
  rw [List.length_take, Nat.min_eq_left (by omega), List.map_take]; exact this
end Go.Proofs.YtdaimaibnjkfbaaDoor
/-
  Errors that are numbers of package api: errors.Is, lineagekit.Num.
-/
namespace Go.Proofs.YtdaimaibnjkfbaaDoor
open Go.RowKit Go.Extern.Stop Go.Stop Go.Extern

/-- An error of package api. -/
def errN (n : Int) : Value := .iface 68 (.int .i64 n)
theorem errno_comp : (Tryd.prog.info? 68).map (·.comparable) = some true := by kernel_rfl
theorem equalIn_err (w : World) (d : Nat) (a b : Int) : (Op.equalIn (d + 2) 30 (errN a) (errN b)).run Tryd.prog w = .ok (a == b) w := by
  obtain ⟨i, hi, hc⟩ := Option.map_eq_some_iff.1 errno_comp
  unfold errN
  simp [Op.equalIn, run_underlying Tryd.underlying30, run_underlying Tryd.underlying68, typeInfo, hi, hc]
theorem eql_err (w : World) (a b : Int) : (binOp .eql 30 (errN a) (errN b)).run Tryd.prog w = .ok (.bool (a == b)) w := by
  have h := equalIn_err w 9998 a b
  unfold errN at h ⊢
  simp only [binOp]
  simp [Op.equal, Op.maxDepth, h]
theorem err_typeOf (v : Value) (w : World) : (Extern.ReflectliteType.typeOf #[.iface 68 v]).run Tryd.prog w = .ok (.iface 130 (.agg #[.pointer (some ⟨2, 68, none⟩)])) w := by kernel_rfl
/-- What the model says of Comparable. -/
def cmpX : Array Value → Sem Value := Extern.ReflectliteType.method fun t => do Extern.Rtype.noPackHeld "Comparable" t; pure (.bool (← typeInfo t).comparable)
theorem err_comparable (w : World) : (cmpX #[.agg #[.pointer (some ⟨2, 68, none⟩)]]).run Tryd.prog w = .ok (.bool true) w := by kernel_rfl
theorem err_noIs (v : Value) (xT : TypeId) (w : World) : (Instr.typeAssert (.iface 68 v) xT 152 true).run Tryd.prog w = .ok (.tuple #[.nilIface, .bool false]) w := run_typeAssert_lacksB Tryd.underlying152 (by kernel_rfl) (by kernel_rfl) v xT w
theorem err_noUnwrap (v : Value) (xT : TypeId) (w : World) : (Instr.typeAssert (.iface 68 v) xT 137 true).run Tryd.prog w = .ok (.tuple #[.nilIface, .bool false]) w := run_typeAssert_lacksB Tryd.underlying137 (by kernel_rfl) (by kernel_rfl) v xT w
theorem err_noUnwraps (v : Value) (xT : TypeId) (w : World) : (Instr.typeAssert (.iface 68 v) xT 138 true).run Tryd.prog w = .ok (.tuple #[.nilIface, .bool false]) w := run_typeAssert_lacksB Tryd.underlying138 (by kernel_rfl) (by kernel_rfl) v xT w
theorem is0_calls (a b : Int) (w : World) : Calls Tryd.prog 72 #[errN a, errN b, .bool true] w fun e w' => e = .returned (.bool (a == b)) ∧ w' = w := by
  have nI := err_noIs
  have nU := err_noUnwrap
  have nV := err_noUnwraps
  have heq := eql_err w a b
  unfold errN at heq ⊢
  cases hab : (a == b) with
  | true =>
    rw [hab] at heq
    clear hab
    go_enter Tryd.func72, Tryd.ntmps72
    go_wp2
    refine wp_loop_rounds 1 ?_
    rw [rounds_succ]
    go_wp2
    go_ret
    exact ⟨rfl, rfl⟩
  | false =>
    rw [hab] at heq
    clear hab
    go_enter Tryd.func72, Tryd.ntmps72
    go_wp2
    refine wp_loop_rounds 1 ?_
    rw [rounds_succ]
    go_wp2
    go_ret
    exact ⟨rfl, rfl⟩
/-- errors.Is of two numbers. -/
theorem is_calls (a b : Int) (w : World) : Calls Tryd.prog 55 #[errN a, errN b] w fun e w' => e = .returned (.bool (a == b)) ∧ w' = w := by
  have h8 := @run_callFunc_extern Tryd.prog 71 _ Extern.ReflectliteType.typeOf Tryd.func71 (by kernel_rfl) (by kernel_rfl) (by kernel_rfl) (by kernel_rfl)
  have h32 := @run_callFunc_extern Tryd.prog 109 _ cmpX Tryd.func109 (by kernel_rfl) (by kernel_rfl) (by kernel_rfl) (by kernel_rfl)
  have tT := err_typeOf
  have cT := err_comparable
  have his := is0_calls a b w
  unfold errN at his ⊢
  have His := Lib.hid his
  clear his
  go_enter Tryd.func55, Tryd.ntmps55
  go_wp2_with fail
  refine His.out.mono ?_
  rintro e w' ⟨rfl, rfl⟩
  go_wp2_with fail
  go_ret
  exact ⟨rfl, rfl⟩
theorem num_nil (w : World) : Calls Tryd.prog 32 #[.nilIface] w fun e w' => e = .returned (.int .i64 0) ∧ w' = w := by
  go_enter Tryd.func32, Tryd.ntmps32
  go_wp2_with fail
  go_ret
  exact ⟨rfl, rfl⟩
theorem num_calls (n : Nat) (w : World) (h1 : 1 ≤ n) (h2 : n ≤ 24) : Calls Tryd.prog 32 #[errN n] w fun e w' => e = .returned (.int .i64 (n : Int)) ∧ w' = w := by
  have hi := fun b => is_calls (n : Int) b w
  unfold errN at hi ⊢
  have Hi := Lib.hid hi
  clear hi
  go_enter Tryd.func32, Tryd.ntmps32
  go_wp2_with fail
  go_loop [3, 4] (fun f i => ∃ k : Nat, 1 ≤ k ∧ k ≤ 25 ∧ i = .int .i64 k ∧ ((n < k ∧ f = .int .i64 n) ∨ (k ≤ n ∧ f = .int .i64 0))) (fun _ i => 25 - (intOf i).toNat)
  case atStart => exact ⟨1, by omega, by omega, rfl, .inr ⟨h1, rfl⟩⟩
  case round =>
    obtain ⟨k, hk1, hk2, rfl, hf⟩ := hrel
    by_cases hk : k < 25
    · have hk24 : k ≤ 24 := by omega
      have hc : (n < k ∧ ((n : Int) == (k : Int)) = false) ∨ (n = k) ∨ (k < n ∧ ((n : Int) == (k : Int)) = false) := by
        rcases Nat.lt_trichotomy n k with h | h | h
        · exact .inl ⟨h, by rw [beq_eq_false_iff_ne]; omega⟩
        · exact .inr (.inl h)
        · exact .inr (.inr ⟨h, by rw [beq_eq_false_iff_ne]; omega⟩)
      rcases hc with ⟨hlt, hb⟩ | rfl | ⟨hgt, hb⟩
      · rcases hf with ⟨_, rfl⟩ | ⟨h, rfl⟩
        · go_wp2_with fail
          refine (Hi.out (k : Int)).mono ?_
          rintro e w' ⟨rfl, rfl⟩
          go_wp2_with fail
          go_round
          case rel => exact ⟨k + 1, by omega, by omega, by go_num, .inl ⟨by omega, rfl⟩⟩
          case measure => simp [intOf]; omega
        · omega
      · rcases hf with ⟨h, rfl⟩ | ⟨_, rfl⟩
        · omega
        · have hb : ((n : Int) == (n : Int)) = true := by rw [beq_iff_eq]
          go_wp2_with fail
          refine (Hi.out (n : Int)).mono ?_
          rintro e w' ⟨rfl, rfl⟩
          go_wp2_with fail
          go_round
          case rel => exact ⟨n + 1, by omega, by omega, by go_num, .inl ⟨by omega, rfl⟩⟩
          case measure => simp [intOf]; omega
      · rcases hf with ⟨h, rfl⟩ | ⟨_, rfl⟩
        · omega
        · go_wp2_with fail
          refine (Hi.out (k : Int)).mono ?_
          rintro e w' ⟨rfl, rfl⟩
          go_wp2_with fail
          go_round
          case rel => exact ⟨k + 1, by omega, by omega, by go_num, .inr ⟨by omega, rfl⟩⟩
          case measure => simp [intOf]; omega
    · obtain rfl : k = 25 := by omega
      rcases hf with ⟨_, rfl⟩ | ⟨h, rfl⟩
      · have hn0 : ((n : Int) == 0) = false := by rw [beq_eq_false_iff_ne]; omega
        have hn1 : (n == 0) = false := by rw [beq_eq_false_iff_ne]; omega
        go_wp2_with fail
        refine (Hi.out 0).mono ?_
        rintro e w' ⟨rfl, rfl⟩
        go_wp2_with fail
        go_ret
        exact ⟨rfl, rfl⟩
      · omega
end Go.Proofs.YtdaimaibnjkfbaaDoor
/-
  errors.As, at a number of package api and a target of type *api.Fault: it is none; lineagekit.Plain.
-/
namespace Go.Proofs.YtdaimaibnjkfbaaDoor
open Go.RowKit Go.Extern.Stop Go.Stop Go.Extern

theorem as_nil (t : Value) (w : World) :
    Calls Tryd.prog 41 #[.nilIface, t] w fun e w' => e = .returned (.bool false) ∧ w' = w := by
  go_enter Tryd.func41, Tryd.ntmps41
  go_wp2
  go_ret
  exact ⟨rfl, rfl⟩
theorem fp_valueOf (t : Addr) (w : World) : (ReflectliteValue.unpack (.iface 80 (.pointer (some t)))).run Tryd.prog w
    = .ok (.agg #[.pointer (some ⟨2, 80, none⟩), .pointer (some ⟨w.heap.size, 0, none⟩), .int .u64 150]) (w.alloc (.cells #[.pointer (some t)] 80)) := by kernel_rfl
theorem fp_type (a : Addr) (w : World) : (ReflectliteValue.methodAny (ReflectliteValue.valueError "reflectlite.Value.Type" 0) (fun t _ _ _ => ReflectliteType.toType t) #[.agg #[.pointer (some ⟨2, 80, none⟩), .pointer (some a), .int .u64 150]]).run Tryd.prog w
    = .ok (.iface 130 (.agg #[.pointer (some ⟨2, 80, none⟩)])) w := by kernel_rfl
theorem fp_methodKind (h : Value) (w : World) : (Go.method 291 130 (.agg #[h]) "Kind").run Tryd.prog w = .ok (98, h) w := by kernel_rfl
theorem fp_kind (w : World) : ((ReflectliteType.abiMethod fun t => (fun a : Nat => Value.int IntKind.u8 (a : Int)) <$> Rtype.kind t) #[.pointer (some ⟨2, 80, none⟩)]).run Tryd.prog w = .ok (.int .u8 22) w := by kernel_rfl
theorem fs_kind (w : World) : ((ReflectliteType.abiMethod fun t => (fun a : Nat => Value.int IntKind.u8 (a : Int)) <$> Rtype.kind t) #[.pointer (some ⟨2, 78, none⟩)]).run Tryd.prog w = .ok (.int .u8 25) w := by kernel_rfl
theorem rlm (z : Sem Value) (f : TypeId → Addr → Nat → Nat → Sem Value) (v : Value) :
    ReflectliteValue.method z f #[v] = (do match ← ReflectliteValue.parts v with | none => z | some (t, a, fl) => f t a fl (fl % 32)) := rfl
theorem fp_parts (a : Addr) (w : World) : (ReflectliteValue.parts (.agg #[.pointer (some ⟨2, 80, none⟩), .pointer (some a), .int .u64 150])).run Tryd.prog w = .ok (some (80, a, 150)) w := by kernel_rfl
theorem fp_isNil (a p : Addr) (W : World) (ha : W.cell? a = some (.pointer (some p))) :
    (ReflectliteValue.method (ReflectliteValue.valueError "reflectlite.Value.IsNil" 0) ReflectliteValue.isNil #[.agg #[.pointer (some ⟨2, 80, none⟩), .pointer (some a), .int .u64 150]]).run Tryd.prog W = .ok (.bool false) W := by
  rw [rlm]
  simp only [Sem.run_bind, fp_parts, Result.andThen]
  simp [ReflectliteValue.isNil, loadVar, isAgg, underlying, Tryd.underlying80, ha, Result.andThen]
theorem fp_methodElem (h : Value) (w : World) : (Go.method 291 130 (.agg #[h]) "Elem").run Tryd.prog w = .ok (110, .agg #[h]) w := by kernel_rfl
theorem fp_methodImplements (h : Value) (w : World) : (Go.method 291 130 (.agg #[h]) "Implements").run Tryd.prog w = .ok (111, .agg #[h]) w := by kernel_rfl
theorem fp_methodAssignableTo (h : Value) (w : World) : (Go.method 291 130 (.agg #[h]) "AssignableTo").run Tryd.prog w = .ok (108, .agg #[h]) w := by kernel_rfl
theorem fp_elem (w : World) : (ReflectliteType.method ReflectliteType.elem #[.agg #[.pointer (some ⟨2, 80, none⟩)]]).run Tryd.prog w = .ok (.iface 130 (.agg #[.pointer (some ⟨2, 78, none⟩)])) w := by kernel_rfl
theorem fs_implements (w : World) : (ReflectliteType.relation "Implements" ReflectliteType.implements_ #[.agg #[.pointer (some ⟨2, 78, none⟩)], .iface 130 (.agg #[.pointer (some ⟨2, 30, none⟩)])]).run Tryd.prog w = .ok (.bool true) w := by kernel_rfl
theorem en_typeOf (v : Value) (w : World) : (ReflectliteType.typeOf #[.iface 68 v]).run Tryd.prog w = .ok (.iface 130 (.agg #[.pointer (some ⟨2, 68, none⟩)])) w := by kernel_rfl
theorem en_assignable (w : World) : (ReflectliteType.relation "AssignableTo" ReflectliteType.assignableTo #[.agg #[.pointer (some ⟨2, 68, none⟩)], .iface 130 (.agg #[.pointer (some ⟨2, 78, none⟩)])]).run Tryd.prog w = .ok (.bool false) w := by kernel_rfl
theorem en_noAs (v : Value) (xT : TypeId) (w : World) : (Instr.typeAssert (.iface 68 v) xT 134 true).run Tryd.prog w = .ok (.tuple #[.nilIface, .bool false]) w := run_typeAssert_lacksB Tryd.underlying134 (by kernel_rfl) (by kernel_rfl) v xT w
/-- The variable of package errors that errors.As reads. -/
def ErrType (w : World) : Prop := w.cell? ⟨0, 0, none⟩ = some (.iface 130 (.agg #[.pointer (some ⟨2, 30, none⟩)]))
theorem ErrType.lt {w : World} (h : ErrType w) : 0 < w.heap.size := by
  rcases Nat.eq_zero_or_pos w.heap.size with h0 | h1
  · unfold ErrType at h; simp [World.cell?, h0] at h
  · exact h1
theorem ErrType.below {w w' : World} (h : ErrType w) (hb : Below w.heap.size w w') : ErrType w' := below_heap hb h
set_option maxHeartbeats 4000000 in
theorem as_miss (n : Int) (t : Addr) (w : World) (hg : ErrType w) :
    Calls Tryd.prog 41 #[errN n, .iface 80 (.pointer (some t))] w fun ev w' => ev = .returned (.bool false) ∧ Below w.heap.size w w' := by
  have h6 := @run_callFunc_extern Tryd.prog 60 _ (fun args => ReflectliteValue.unpack (args.getD 0 (.tuple #[]))) Tryd.func60 (by kernel_rfl) (by kernel_rfl) (by kernel_rfl) (by kernel_rfl)
  have h7 := @run_callFunc_extern Tryd.prog 61 _ (ReflectliteValue.methodAny (ReflectliteValue.valueError "reflectlite.Value.Type" 0) (fun t _ _ _ => ReflectliteType.toType t)) Tryd.func61 (by kernel_rfl) (by kernel_rfl) (by kernel_rfl) (by kernel_rfl)
  have h8 := @run_callFunc_extern Tryd.prog 62 _ (ReflectliteValue.method (ReflectliteValue.valueError "reflectlite.Value.IsNil" 0) ReflectliteValue.isNil) Tryd.func62 (by kernel_rfl) (by kernel_rfl) (by kernel_rfl) (by kernel_rfl)
  have h27 := @run_callFunc_extern Tryd.prog 98 _ (ReflectliteType.abiMethod fun t => do pure (.int .u8 (← Rtype.kind t))) Tryd.func98 (by kernel_rfl) (by kernel_rfl) (by kernel_rfl) (by kernel_rfl)
  have h37 := @run_callFunc_extern Tryd.prog 110 _ (ReflectliteType.method ReflectliteType.elem) Tryd.func110 (by kernel_rfl) (by kernel_rfl) (by kernel_rfl) (by kernel_rfl)
  have h38 := @run_callFunc_extern Tryd.prog 111 _ (ReflectliteType.relation "Implements" ReflectliteType.implements_) Tryd.func111 (by kernel_rfl) (by kernel_rfl) (by kernel_rfl) (by kernel_rfl)
  have h10 := @run_callFunc_extern Tryd.prog 71 _ ReflectliteType.typeOf Tryd.func71 (by kernel_rfl) (by kernel_rfl) (by kernel_rfl) (by kernel_rfl)
  have h35 := @run_callFunc_extern Tryd.prog 108 _ (ReflectliteType.relation "AssignableTo" ReflectliteType.assignableTo) Tryd.func108 (by kernel_rfl) (by kernel_rfl) (by kernel_rfl) (by kernel_rfl)
  have tO := en_typeOf
  have mA := fp_methodAssignableTo
  have a25 := en_assignable
  have f6 := fp_valueOf
  have f7 := fp_type
  have mK := fp_methodKind
  have mE := fp_methodElem
  have mI := fp_methodImplements
  have k27 := fp_kind
  have k25 := fs_kind
  have e27 := fp_elem
  have i25 := fs_implements
  have nA := en_noAs
  have nU := err_noUnwrap
  have nV := err_noUnwraps
  have n8 := fp_isNil ⟨w.heap.size, 0, none⟩ t ((w.alloc (.cells #[.pointer (some t)] 80)).alloc (.cells #[.pointer (some ⟨2, 80, none⟩), .pointer (some ⟨w.heap.size, 0, none⟩), .int .u64 150] 104)) (by simp)
  have hlt := hg.lt
  unfold ErrType at hg
  have hg2 : ((w.alloc (.cells #[.pointer (some t)] 80)).alloc (.cells #[.pointer (some ⟨2, 80, none⟩), .pointer (some ⟨w.heap.size, 0, none⟩), .int .u64 150] 104)).cell? ⟨0, 0, none⟩ = some (.iface 130 (.agg #[.pointer (some ⟨2, 30, none⟩)])) := by
    rw [World.cell?_alloc_lt _ _ ⟨0, 0, none⟩ (by simp), World.cell?_alloc_lt _ _ ⟨0, 0, none⟩ hlt]; exact hg
  unfold errN
  go_enter Tryd.func41, Tryd.ntmps41
  go_wp2
  refine wp_loop_rounds 1 ?_
  rw [rounds_succ]
  go_wp2
  go_ret
  refine ⟨rfl, ?_⟩
  repeat (refine Below.alloc ?_ (by simp <;> omega) _)
  exact Below.refl _ _
theorem plain_nil (w : World) : Calls Tryd.prog 15 #[.nilIface, .int .i64 0] w fun e w' => e = .returned (.bool true) ∧ Below w.heap.size w w' := by
  have hb := below_alloc w (.cells #[.int .i64 0, .int .i64 0] 78)
  have HB := Lib.hid hb
  clear hb
  go_enter Tryd.func15, Tryd.ntmps15
  go_wp2_with fail
  refine (num_nil _).mono ?_
  rintro e w' ⟨rfl, rfl⟩
  go_wp2_with fail
  go_ret
  exact ⟨rfl, HB.out⟩
theorem plain_calls (n : Nat) (w : World) (h1 : 1 ≤ n) (h2 : n ≤ 24) (hg : ErrType w) : Calls Tryd.prog 15 #[errN n, .int .i64 (n : Int)] w fun e w' => e = .returned (.bool true) ∧ Below w.heap.size w w' := by
  have hb := below_alloc w (.cells #[.int .i64 0, .int .i64 0] 78)
  have HB := Lib.hid hb
  have HA := Lib.hid (as_miss (n : Int) ⟨w.heap.size, 0, none⟩ _ (hg.below hb))
  have HN := Lib.hid (fun w => num_calls n w h1 h2)
  clear hb hg
  unfold errN at HA HN ⊢
  go_enter Tryd.func15, Tryd.ntmps15
  go_wp2_with fail
  refine (HN.out _).mono ?_
  rintro e w' ⟨rfl, rfl⟩
  go_wp2_with fail
  refine HA.out.mono ?_
  rintro e w' ⟨rfl, hb2⟩
  have HB2 := Lib.hid (below_trans HB.out hb2)
  clear hb2
  go_wp2_with fail
  go_ret
  exact ⟨rfl, HB2.out⟩
end Go.Proofs.YtdaimaibnjkfbaaDoor
/-
  lineagekit.Plain: of an error of package api, or none.
-/
namespace Go.Proofs.YtdaimaibnjkfbaaDoor
open Go.RowKit
set_option maxRecDepth 100000

theorem plain_any (er : Int) (w : World) (h1 : 0 ≤ er) (h2 : er ≤ 24) (hg : ErrType w) : Calls Tryd.prog 15 #[errV er, .int .i64 er] w fun e w' => e = .returned (.bool true) ∧ Below w.heap.size w w' := by
  by_cases h0 : er = 0
  · subst h0
    exact plain_nil w
  · obtain ⟨n, rfl⟩ := Int.eq_ofNat_of_zero_le h1
    have e : errV (n : Int) = errN n := by unfold errV; rw [if_neg h0]; rfl
    have := plain_calls n w (by omega) (by omega) hg
    rw [← e] at this
    exact this
end Go.Proofs.YtdaimaibnjkfbaaDoor
/-
  Chapter 25's works; which states are wide.
-/
namespace Go.Proofs.YtdaimaibnjkfbaaDoor
open Go.RowKit
set_option maxRecDepth 100000

def oneS : SesM := ⟨3, 1, 0, 0, 0, [97, 110, 110], [], 7, 1, 0, 301, 0⟩
def oneSt : StM := ⟨300, 2, [oneS]⟩
theorem oneS_cells : oneS.cells = #[.int .i64 3, .int .i64 1, .int .i64 0, .int .i64 0, .int .i64 0, .string ⟨#[97, 110, 110]⟩, .string ⟨#[]⟩, .int .u64 7, .int .i64 1, .int .i64 0, .int .i64 301, .int .i64 0] := rfl
theorem oneS_ok : ∀ s ∈ oneSt.l, SesOk s := by
  intro s hs
  rw [List.mem_singleton.1 hs]
  exact ⟨by decide, by decide, by decide⟩
theorem oneSt_chk : checkM oneSt = none := by decide +kernel
theorem oneSt_bytes : imgM oneSt = [172, 2, 2, 1, 3, 1, 0, 0, 0, 3, 97, 110, 110, 0, 7, 1, 0, 173, 2, 0] := by decide +kernel
theorem oneSt_no : imgN oneSt = 0 := by decide +kernel
theorem buildOne (w : World) : (Instr.buildSlice 22 1 #[(0, .agg #[.int .i64 3, .int .i64 1, .int .i64 0, .int .i64 0, .int .i64 0, .string ⟨#[97, 110, 110]⟩, .string ⟨#[]⟩, .int .u64 7, .int .i64 1, .int .i64 0, .int .i64 301, .int .i64 0])]).run Tryd.prog w = .ok (.slice (some ⟨w.heap.size, 0, none⟩) 1 1) (w.alloc (.cells oneS.cells 56)) := by kernel_rfl
theorem rd_oneS {w : World} {b : Nat} {s : SesM} {t : TypeId} (h : Box w b s.cells t) : RdS w (.slice (some ⟨b, 0, none⟩) 1 1) [s] := by
  refine ⟨_, 1, rfl, Nat.le_refl _, by omega, (fun h => by cases h), fun j hj => ⟨b, 0, rfl, ?_⟩⟩
  rw [flatS_one] at hj ⊢
  rw [Nat.zero_add]
  refine h.cell j _ ?_
  rw [← Array.getElem?_toList, List.getD, List.getElem?_eq_getElem hj]; rfl
theorem one_calls (w : World) :
    Calls Tryd.prog 23 #[] w fun ev w' => ∃ v, ev = .returned (.agg #[.int .i64 300, .int .i64 2, v]) ∧ RdS w' v [oneS] ∧ Below w.heap.size w w' := by
  have HX := Lib.hid (Box.new w #[.int .i64 0, .int .i64 0, .slice none 0 0] 24)
  have HB := Lib.hid (below_alloc w (.cells #[.int .i64 0, .int .i64 0, .slice none 0 0] 24))
  go_enter Tryd.func23, Tryd.ntmps23
  go_wp2_with (refine wpList_buildSlice_s (op := ⟨some 2, _, _, _, _, _⟩) (by rfl) 22 1 #[(0, .tmp 1)] rfl #[(0, .agg #[.int .i64 3, .int .i64 1, .int .i64 0, .int .i64 0, .int .i64 0, .string ⟨#[97, 110, 110]⟩, .string ⟨#[]⟩, .int .u64 7, .int .i64 1, .int .i64 0, .int .i64 301, .int .i64 0])] (by kernel_rfl) _ _ (buildOne _) ?_)
  intro w2 hw2
  have hb2 : Below (w.alloc (.cells #[.int .i64 0, .int .i64 0, .slice none 0 0] 24)).heap.size (w.alloc (.cells #[.int .i64 0, .int .i64 0, .slice none 0 0] 24)) w2 := by rw [hw2.out]; exact below_alloc _ _
  have hbx : Box w2 (w.heap.size + 1) oneS.cells 56 := by
    rw [hw2.out]
    have h := Box.new (w.alloc (.cells #[.int .i64 0, .int .i64 0, .slice none 0 0] 24)) oneS.cells 56
    rw [World.size_alloc] at h; exact h
  have hx := HX.out.below hb2
  have HX2 := Lib.hid hx
  have HB2 := Lib.hid (HB.out.trans (hb2.mono HB.out.size))
  have HBX := Lib.hid hbx
  have d0 : w2.cell? ⟨w.heap.size, 0, none⟩ = some (.int .i64 0) := hx.cell 0 _ rfl
  have d1 : w2.cell? ⟨w.heap.size, 1, none⟩ = some (.int .i64 0) := hx.cell 1 _ rfl
  have d2 : w2.cell? ⟨w.heap.size, 2, none⟩ = some (.slice none 0 0) := hx.cell 2 _ rfl
  have g0 := hx.free 0
  have g1 := hx.free 1
  have g2 := hx.free 2
  clear hw2 hb2 hbx hx HX HB
  go_wp2_with fail
  have hb4 : Box (((w2.setCell ⟨w.heap.size, 0, none⟩ (.int .i64 300)).setCell ⟨w.heap.size, 1, none⟩ (.int .i64 2)).setCell ⟨w.heap.size, 2, none⟩ (.slice (some ⟨w.heap.size + 1, 0, none⟩) 1 1)) w.heap.size #[.int .i64 300, .int .i64 2, .slice (some ⟨w.heap.size + 1, 0, none⟩) 1 1] 24 := ((HX2.out.set 0 (.int .i64 300)).set 1 (.int .i64 2)).set 2 (.slice (some ⟨w.heap.size + 1, 0, none⟩) 1 1)
  have hset : ∀ (W : World) (o : Nat) (v : Value), Mod (fun q => q = w.heap.size) w2 W → Mod (fun q => q = w.heap.size) w2 (W.setCell ⟨w.heap.size, o, none⟩ v) := fun W o v h => h.trans (Mod.set _ _ _ _ rfl)
  have hm := hset _ 2 (.slice (some ⟨w.heap.size + 1, 0, none⟩) 1 1) (hset _ 1 (.int .i64 2) (hset _ 0 (.int .i64 300) (Mod.refl _ w2)))
  refine ret_cell rfl rfl w.heap.size 0 rfl [.int .i64 300, .int .i64 2, .slice (some ⟨w.heap.size + 1, 0, none⟩) 1 1] _ ?_ Tryd.underlying24 rfl (by kernel_rfl) ⟨_, rfl, rd_oneS (HBX.out.mod hm (by omega)), HB2.out.trans (hm.below HB2.out.size (fun i hi => by omega))⟩
  intro j v hv
  rw [Nat.zero_add]
  exact hb4.cell j v (by simpa using hv)
set_option maxHeartbeats 1600000 in
theorem worksIm_calls (w : World) :
    Calls Tryd.prog 18 #[] w fun ev w' => ev = .returned (.bool true) ∧ Below w.heap.size w w' := by
  have HE := Lib.hid (fun v w h => encImg_calls oneSt v w h oneS_ok)
  have HC := Lib.hid (fun v w h => check_calls oneSt v w h oneS_ok)
  rw [oneSt_bytes, oneSt_no, show errV 0 = .nilIface from rfl] at HE
  rw [oneSt_chk, show chkV none = .nilIface from rfl] at HC
  go_enter Tryd.func18, Tryd.ntmps18
  go_wp2_with fail
  refine (one_calls _).mono ?_
  rintro ev w1 ⟨v1, rfl, hr1, hb1⟩
  have HR1 := Lib.hid hr1
  have HB1 := Lib.hid hb1
  obtain ⟨xa, xc, rfl, _⟩ := hr1.slice
  clear hr1 hb1
  go_wp2_with fail
  refine (HE.out _ _ HR1.out).mono ?_
  rintro ev w2 ⟨y, rfl, hy, hb2⟩
  have HY := Lib.hid hy.rd
  have HB2 := Lib.hid (HB1.out.trans (hb2.mono HB1.out.size))
  obtain ⟨ya, yc, rfl, _⟩ := hy.slice
  clear hy hb2 HB1 HR1 HE
  go_wp2_with fail
  refine (one_calls _).mono ?_
  rintro ev w3 ⟨v3, rfl, hr3, hb3⟩
  have HR3 := Lib.hid hr3
  have HY3 := Lib.hid (HY.out.below hb3)
  have HB3 := Lib.hid (HB2.out.trans (hb3.mono HB2.out.size))
  obtain ⟨za, zc, rfl, _⟩ := hr3.slice
  clear hr3 hb3 HB2 HY
  go_wp2_with fail
  refine (HC.out _ _ HR3.out).mono ?_
  rintro ev w4 ⟨rfl, hb4⟩
  have HY4 := Lib.hid (HY3.out.below hb4)
  have HB4 := Lib.hid (HB3.out.trans (hb4.mono HB3.out.size))
  clear hb4 HB3 HY3 HR3 HC
  have hl1 := rd_lit w4 #[.int .u8 172, .int .u8 2, .int .u8 2, .int .u8 1, .int .u8 3, .int .u8 1, .int .u8 0, .int .u8 0, .int .u8 0, .int .u8 3, .int .u8 97, .int .u8 110, .int .u8 110, .int .u8 0, .int .u8 7, .int .u8 1, .int .u8 0, .int .u8 173, .int .u8 2, .int .u8 0] 5 [172, 2, 2, 1, 3, 1, 0, 0, 0, 3, 97, 110, 110, 0, 7, 1, 0, 173, 2, 0] rfl (by decide)
  have hba := below_alloc w4 (.cells #[.int .u8 172, .int .u8 2, .int .u8 2, .int .u8 1, .int .u8 3, .int .u8 1, .int .u8 0, .int .u8 0, .int .u8 0, .int .u8 3, .int .u8 97, .int .u8 110, .int .u8 110, .int .u8 0, .int .u8 7, .int .u8 1, .int .u8 0, .int .u8 173, .int .u8 2, .int .u8 0] 5)
  have Hs1 := Lib.hid (sameBytes_calls _ _ _ _ (HY4.out.below hba) hl1)
  have HB5 := Lib.hid (HB4.out.trans (hba.mono HB4.out.size))
  clear hl1 hba HB4 HY4
  go_wp2_with fail
  refine Hs1.out.mono ?_
  rintro ev w5 ⟨rfl, k5, rfl⟩
  have HB6 := Lib.hid (HB5.out.trans ((below_drewN _ k5).mono HB5.out.size))
  clear HB5 Hs1
  go_wp2_with fail
  go_ret
  exact ⟨rfl, HB6.out⟩
/-- Some Bool is answered. -/
def SomeB (w : World) (ev : Ending) (w' : World) : Prop := ∃ r, ev = .returned (.bool r) ∧ Below w.heap.size w w'
set_option maxHeartbeats 1600000 in
theorem wide_calls (c b : Int) (v : Value) (l : List SesM) (w : World) (hv : RdS w v l) :
    Calls Tryd.prog 7 #[.agg #[.int .i64 c, .int .i64 b, v]] w (SomeB w) := by
  obtain ⟨a, cap, rfl, hc1, hc2⟩ := hv.slice
  have hb0 := below_alloc w (.cells #[.int .i64 c, .int .i64 b, .slice a l.length cap] 24)
  have HX0 := Lib.hid (Box.new w #[.int .i64 c, .int .i64 b, .slice a l.length cap] 24)
  have HV := Lib.hid (hv.below hb0)
  have HB := Lib.hid hb0
  obtain ⟨n, hN⟩ : ∃ n, n = l.length := ⟨_, rfl⟩
  have hn2 : n ≤ 9223372036854775807 := by omega
  rw [← hN] at HX0 HV HB ⊢
  have HN := Lib.hid hN
  clear hb0 hv hc1 hN
  go_enter Tryd.func7, Tryd.ntmps7
  go_wp2_with fail
  generalize hw1 : World.alloc w _ = w1 at HX0 HV HB ⊢
  clear hw1
  go_loopg [3] 40 (fun gk iv wr => ∃ k : Nat, gk + k = 40 ∧ k ≤ 33 ∧ iv = .int .i64 (k : Int) ∧ wr = w1)
  case atStart => exact ⟨0, rfl, by omega, rfl, rfl⟩
  case round =>
    obtain ⟨k, hgk, hk33, rfl, rfl⟩ := hrel
    have k0 : (0 : Int) ≤ (k : Int) := by omega
    have HGK := Lib.hid hgk
    have c2 : wr.cell? ⟨w.heap.size, 2, none⟩ = some (.slice a n cap) := HX0.out.cell 2 _ rfl
    by_cases hk : k < n
    rotate_left
    · have k1 : ¬ (k : Int) < (n : Int) := by omega
      clear hk hgk
      go_wp2_with fail
      go_ret
      exact ⟨_, rfl, HB.out⟩
    have k1 : (k : Int) < (n : Int) := by omega
    by_cases h32 : (k : Int) ≤ 32
    rotate_left
    · clear hk hgk hk33
      go_wp2_with fail
      go_ret
      exact ⟨_, rfl, HB.out⟩
    have hkl : k < l.length := by have := HN.out; omega
    obtain ⟨s, hs⟩ : ∃ s, s = l[k] := ⟨_, rfl⟩
    obtain ⟨rb, ro, hra, hrow⟩ := HV.out.row k hkl
    subst hra
    rw [← hs] at hrow
    have r4 : wr.cell? ⟨rb, ro + k * 12 + 5, none⟩ = some (.string (SB s.user)) := hrow 5 _ rfl
    have r5 : wr.cell? ⟨rb, ro + k * 12 + 6, none⟩ = some (.string (SB s.label)) := hrow 6 _ rfl
    have hz1 : (SB s.user).size = s.user.length := SB_size _
    have hz2 : (SB s.label).size = s.label.length := SB_size _
    have HK := Lib.hid h32
    clear hk hgk hkl hs hrow hk33
    by_cases hu : (65536 : Int) < (s.user.length : Int)
    · go_wp2_with fail
      go_ret
      exact ⟨_, rfl, HB.out⟩
    by_cases hl : (65536 : Int) < (s.label.length : Int)
    · go_wp2_with fail
      go_ret
      exact ⟨_, rfl, HB.out⟩
    go_wp2_with fail
    go_roundg (40 - (k + 1))
    case measure => have := HGK.out; have := HK.out; omega
    case rel => exact ⟨k + 1, by have := HGK.out; have := HK.out; omega, by have := HK.out; omega, by go_num, rfl⟩
end Go.Proofs.YtdaimaibnjkfbaaDoor
/-
  How a law's walk becomes its row: for any number of parameters; under the bound of 'uptoSmall', and under the form's own reach.
-/
namespace Go.Proofs.YtdaimaibnjkfbaaDoor
set_option maxRecDepth 100000
open Go.ChangeShapes Go.WideShapes Go.ChangeAt Go.RowKit
theorem L.own : ownKnob Tryd.prog.godebug = none := by kernel_rfl
theorem L.laidOut : laidOutB Tryd.prog = true := by kernel_rfl

/-- How great what was read is: its bulk (up), or each piece within the form's reach. -/
def SizeOk (up : Bool) (N : Nat) (t : TypeId) {H : Type} (d : DataW H) : Prop :=
  match up with | true => Rows.uptoBulk d ≤ N | false => (DataW.weights Tryd.prog t d).all (· ≤ reachBytes) = true
/-- Cells that the form reads as a value of a type. -/
def ArgC (up : Bool) (N : Nat) (t : TypeId) (W : World) (cs : List Value) : Prop :=
  ∃ (H : Type) (enc : TypeId × Value → H) (d : DataW H) (ps : List MemPlace) (fuel : Nat), DataW.trod enc Tryd.prog W 0 (fun _ => true) true fuel t cs = some (d, ps) ∧ SizeOk up N t d
/-- An argument, as the form reads it; its size. -/
def Arg (up : Bool) (t : TypeId) (W : World) (v : Value) : Prop :=
  ArgC up 1048576 t W v.cells.toList ∧ ∃ base, Value.okWide Tryd.prog W .any base t v
def ArgAll (up : Bool) (W : World) : List TypeId → List Value → Prop
  | [], [] => True
  | t :: ts, v :: vs => Arg up t W v ∧ ArgAll up W ts vs
  | _, _ => False
/-- What a law's walk says. -/
def Walks (up : Bool) (f : FuncId) (ts : List TypeId) : Prop :=
  ∀ (W : World) (vs : List Value), ArgAll up W ts vs → Calls Tryd.prog f vs.toArray W fun e W' => e = .returned (.bool true) ∧ Below W.heap.size W W'

theorem bulk_all_le {H : Type} {d : DataW H} {l : List (DataW H)} (h : d ∈ l) : Rows.uptoBulk d ≤ Rows.uptoBulkAll l := by
  induction l with
  | nil => cases h
  | cons x r ih =>
    simp only [Rows.uptoBulkAll]
    cases List.mem_cons.1 h with
    | inl e => subst e; omega
    | inr e => have := ih e; omega
set_option maxRecDepth 100000 in
theorem argAll_mk {up : Bool} {H : Type} {enc : TypeId × Value → H} {W : World} {base : Nat} : ∀ {ts : List TypeId} {vs : List Value} {ds : List (DataW H)} {ps : List MemPlace},
    DataW.TrodAll enc Tryd.prog W 0 (fun _ => true) true ts vs ds ps → (∀ (j : Nat) t v, ts[j]? = some t → vs[j]? = some v → Value.okWide Tryd.prog W .any base t v) →
    (match up with | true => Rows.uptoBulkAll ds ≤ 1048576 | false => (DataW.weightsEach Tryd.prog ts ds).all (· ≤ reachBytes) = true) → ArgAll up W ts vs
  | [], [], [], _, _, _, _ => trivial
  | t :: ts, v :: vs, d :: ds, ps, h, hv, hs => by
    obtain ⟨p, q, h1, h2, rfl⟩ := h
    refine ⟨⟨⟨H, enc, d, p, h1.choose, h1.choose_spec, ?_⟩, base, hv 0 t v rfl rfl⟩, argAll_mk (base := base) h2 (fun j t v ht hv' => hv (j + 1) t v (by simpa using ht) (by simpa using hv')) ?_⟩
    · cases up with
      | true => simp only [Rows.uptoBulkAll] at hs; show Rows.uptoBulk d ≤ 1048576; omega
      | false => simp only [DataW.weightsEach, List.all_append, Bool.and_eq_true] at hs; exact hs.1
    · cases up with
      | true => simp only [Rows.uptoBulkAll] at hs ⊢; omega
      | false => simp only [DataW.weightsEach, List.all_append, Bool.and_eq_true] at hs; exact hs.2
  | [], [], _ :: _, _, h, _, _ => h.elim
  | [], _ :: _, _, _, h, _, _ => h.elim
  | _ :: _, [], _, _, h, _, _ => h.elim
  | _ :: _, _ :: _, [], _, h, _, _ => h.elim
theorem trodAll_below {H : Type} {enc : TypeId × Value → H} {W W' : World} (hb : Below W.heap.size W W') : ∀ {ts : List TypeId} {vs : List Value} {ds : List (DataW H)} {ps : List MemPlace},
    (∀ t ∈ ts, Tryd.prog.readableRec t = true ∧ t < Tryd.prog.types.size) → DataW.TrodAll enc Tryd.prog W 0 (fun _ => true) true ts vs ds ps → (∀ x ∈ ps, x.block < W.heap.size) →
    DataW.TrodAll enc Tryd.prog W' 0 (fun b => decide (b < W.heap.size)) true ts vs ds ps
  | [], [], [], _, _, h, _ => h
  | t :: ts, v :: vs, d :: ds, ps, hr, h, hlt => by
    obtain ⟨p, q, h1, h2, rfl⟩ := h
    refine ⟨p, q, Below.trod L.laidOut (hr t (by simp)).1 (hr t (by simp)).2 h1 hb (fun x hx => hlt x (by simp [hx])), trodAll_below hb (fun t ht => hr t (by simp [ht])) h2 (fun x hx => hlt x (by simp [hx])), rfl⟩
  | [], [], _ :: _, _, _, h, _ => h.elim
  | [], _ :: _, _, _, _, h, _ => h.elim
  | _ :: _, [], _, _, _, h, _ => h.elim
  | _ :: _, _ :: _, [], _, _, h, _ => h.elim

/-! What an argument's cells are, by its type. -/
theorem ArgC.int {up : Bool} {N : Nat} {t : TypeId} {W : World} {cs : List Value} {k : IntKind} (ht : Tryd.prog.underlying t = some (.int k)) (h : ArgC up N t W cs) : ∃ n, cs = [.int k n] ∧ (Lit.int k n).wf = true := by
  obtain ⟨H, enc, d, ps, fuel, h, _⟩ := h
  obtain ⟨n, h1, _, h2⟩ := DataW.trod_int ht h
  exact ⟨n, h1, h2⟩
theorem ArgC.bool {up : Bool} {N : Nat} {t : TypeId} {W : World} {cs : List Value} (ht : Tryd.prog.underlying t = some .bool) (h : ArgC up N t W cs) : ∃ b, cs = [.bool b] := by
  obtain ⟨H, enc, d, ps, fuel, h, _⟩ := h
  obtain ⟨n, h1, _⟩ := DataW.trod_bool ht h
  exact ⟨n, h1⟩
theorem ArgC.string {up : Bool} {N : Nat} {t : TypeId} {W : World} {cs : List Value} (ht : Tryd.prog.underlying t = some .string) (h : ArgC up N t W cs) : ∃ s : ByteArray, cs = [.string s] ∧ s.size ≤ 9223372036854775807 ∧ (up = true → s.size + 1 ≤ N) ∧ (up = false → s.size ≤ 140737488351232) := by
  obtain ⟨H, enc, d, ps, fuel, h, hs⟩ := h
  obtain ⟨s, h1, h2, h3⟩ := DataW.trod_string ht h
  simp only [Prod.mk.injEq] at h2
  obtain ⟨rfl, rfl⟩ := h2
  have e : s.data.toList.length = s.size := by rw [Array.length_toList]; rfl
  refine ⟨s, h1, h3, fun hu => ?_, fun hu => ?_⟩
  · subst hu; simp only [SizeOk, Rows.uptoBulk] at hs; omega
  · subst hu; simp only [SizeOk, DataW.weights, List.all_cons, List.all_nil, Bool.and_true, reachBytes] at hs; have := of_decide_eq_true hs; omega
theorem ArgC.struct {up : Bool} {N : Nat} {t : TypeId} {W : World} {cs : List Value} {fs : Array Field} (ht : Tryd.prog.underlying t = some (.struct fs)) (h : ArgC up N t W cs) :
    cs.length = Tryd.prog.cellsOf t ∧ ∃ Ns : List Nat, Ns.length = fs.size ∧ (up = true → Ns.sum + 1 ≤ N) ∧ ∀ (i : Nat) (f : Field), fs[i]? = some f → ArgC up (Ns.getD i 0) f.type W ((cs.drop f.offset).take (Tryd.prog.cellsOf f.type)) := by
  obtain ⟨H, enc, d, ps, fuel, h, hs⟩ := h
  obtain ⟨xs, n, rfl, h1, h2, h3, h4⟩ := DataW.trod_struct ht h
  simp only [Prod.mk.injEq] at h1
  obtain ⟨rfl, rfl⟩ := h1
  refine ⟨h2, xs.map (fun x => Rows.uptoBulk x.1), by simpa using h3, fun hu => ?_, fun i f hf => ?_⟩
  · subst hu
    simp only [SizeOk, Rows.uptoBulk] at hs
    have : ∀ l : List (DataW H × List MemPlace), (l.map (fun x => Rows.uptoBulk x.1)).sum = Rows.uptoBulkAll (l.map (·.1)) := by
      intro l; induction l with
      | nil => rfl
      | cons a l ih => simp [Rows.uptoBulkAll, ih]
    rw [this]; omega
  · have hi : i < xs.length := by rw [h3]; exact (Array.getElem?_eq_some_iff.1 hf).1
    have h5 := h4 i f hf
    rw [List.getElem?_eq_getElem hi] at h5
    refine ⟨H, enc, xs[i].1, xs[i].2, n, h5, ?_⟩
    cases up with
    | true => simp only [SizeOk]; rw [List.getD, List.getElem?_map, List.getElem?_eq_getElem hi]; exact Nat.le_refl _
    | false =>
      simp only [SizeOk, DataW.weights, ht] at hs ⊢
      refine List.all_eq_true.2 fun m hm => List.all_eq_true.1 hs m ?_
      exact DataW.weights_mem_each (j := i) (t := f.type) (d := xs[i].1) (by simpa using (congrArg (Option.map (·.type)) hf)) (by simp [List.getElem?_eq_getElem hi]) m hm
theorem cells_of {w : World} {a : Addr} {n : Nat} {cs : List Value} (h : w.cells? 0 a n = some cs) : cs.length = n ∧ ∀ j, j < n → w.cell? (a.add j) = some (cs.getD j undef) := by
  unfold World.cells? at h
  rw [if_pos (Nat.zero_le _)] at h
  have h1 := mapM_some_length h
  simp at h1
  refine ⟨h1, fun j hj => ?_⟩
  have := mapM_some_get h j j (by simp [hj])
  rw [this, List.getD, List.getElem?_eq_getElem (by omega)]; rfl
theorem ArgC.slice {up : Bool} {N : Nat} {t e : TypeId} {W : World} {cs : List Value} {size : Nat} (ht : Tryd.prog.underlying t = some (.slice e)) (hsz : Tryd.prog.cellsOf e = size) (hpos : 0 < size) (h : ArgC up N t W cs) :
    ∃ a n cap, cs = [.slice a n cap] ∧ n ≤ cap ∧ cap ≤ 9223372036854775807 ∧ (a = none → cap = 0) ∧ (up = false → cap * Tryd.prog.bytesOf e ≤ 140737488351232) ∧
      ∃ Ns : List Nat, Ns.length = n ∧ (up = true → Ns.sum + 1 ≤ N ∧ n + 1 ≤ N) ∧
      ∀ i, i < n → ∃ b off cs', a = some ⟨b, off, none⟩ ∧ cs'.length = size ∧ (∀ j, j < size → W.cell? ⟨b, off + (i * size + j), none⟩ = some (cs'.getD j undef)) ∧ ArgC up (Ns.getD i 0) e W cs' := by
  obtain ⟨H, enc, d, ps, fuel, h, hs⟩ := h
  rcases DataW.trod_slice ht h with ⟨h1, h2⟩ | ⟨a, len, cap, elems, rest, n, rfl, h1, h2, _, h3, h4, h5, h6, h7, _⟩
  · subst h1
    simp only [Prod.mk.injEq] at h2
    obtain ⟨rfl, rfl⟩ := h2
    refine ⟨none, 0, 0, rfl, by omega, by omega, fun _ => rfl, fun _ => by omega, [], rfl, fun hu => ?_, fun i hi => by omega⟩
    subst hu; simp only [SizeOk, Rows.uptoBulk] at hs; simp; omega
  · subst h1
    simp only [Prod.mk.injEq] at h2
    obtain ⟨rfl, rfl⟩ := h2
    obtain ⟨h7, _⟩ := h7 rfl
    refine ⟨some a, len, cap, rfl, h3, by unfold maxLen at h4; omega, fun h => by (cases h), fun hu => ?_, elems.map (fun x => Rows.uptoBulk x.1), by simpa using h5, fun hu => ?_, fun i hi => ?_⟩
    · subst hu
      simp only [SizeOk, DataW.weights, ht, List.all_cons, Bool.and_eq_true, List.length_map, reachBytes] at hs
      have : elems.length + rest.length = cap := by omega
      rw [this] at hs; exact of_decide_eq_true hs.1
    · subst hu
      simp only [SizeOk, Rows.uptoBulk] at hs
      have hb : ∀ l : List (DataW H × List MemPlace), (l.map (fun x => Rows.uptoBulk x.1)).sum = Rows.uptoBulkAll (l.map (·.1)) ∧ l.length ≤ Rows.uptoBulkAll (l.map (·.1)) := by
        intro l; induction l with
        | nil => exact ⟨rfl, by simp⟩
        | cons a l ih =>
          have h1 : 1 ≤ Rows.uptoBulk a.1 := by
            cases a.1 with
            | lit l => cases l <;> simp [Rows.uptoBulk]
            | _ => simp [Rows.uptoBulk]
          simp only [List.map_cons, List.sum_cons, Rows.uptoBulkAll, List.length_cons, ih.1, true_and]; omega
      have := hb elems
      rw [this.1]; omega
    · have hi' : i < elems.length := by omega
      have h8 := h6 i hi
      rw [List.getElem?_eq_getElem hi'] at h8
      simp only [Option.bind_eq_some_iff] at h8
      obtain ⟨cs', hc1, hc2⟩ := h8
      obtain ⟨hl, hcell⟩ := cells_of hc1
      rw [hsz] at hl
      have hspot : a.spot = none := by
        have h0 := h6 0 (by omega)
        rw [List.getElem?_eq_getElem (by omega), Nat.zero_mul] at h0
        simp only [Option.bind_eq_some_iff] at h0
        obtain ⟨cs0, hc0, _⟩ := h0
        have h9 := (cells_of hc0).2 0 (by rw [hsz]; omega)
        simpa [Addr.add] using World.cell?_spot h9
      obtain ⟨b, off, spot⟩ := a
      simp only at hspot; subst hspot
      refine ⟨b, off, cs', rfl, hl, fun j hj => ?_, H, enc, elems[i].1, elems[i].2, n, hc2, ?_⟩
      · have := hcell j (by omega)
        rw [hsz] at this
        rw [add_plain, add_plain, Nat.add_assoc] at this; exact this
      · cases up with
        | true => simp only [SizeOk]; rw [List.getD, List.getElem?_map, List.getElem?_eq_getElem hi']; exact Nat.le_refl _
        | false =>
          simp only [SizeOk, DataW.weights, ht, List.all_cons, Bool.and_eq_true, List.all_append] at hs ⊢
          have hall : ∀ (l : List (DataW H)) (d : DataW H), d ∈ l → (DataW.weightsAll Tryd.prog e l).all (· ≤ reachBytes) = true → (DataW.weights Tryd.prog e d).all (· ≤ reachBytes) = true := by
            intro l d hd
            induction l with
            | nil => cases hd
            | cons x l ih =>
              intro hw
              simp only [DataW.weightsAll, List.all_append, Bool.and_eq_true] at hw
              cases List.mem_cons.1 hd with
              | inl e => subst e; exact hw.1
              | inr e => exact ih e hw.2
          exact hall (elems.map (·.1)) _ (List.mem_map.2 ⟨_, List.getElem_mem hi', rfl⟩) hs.2.1
theorem law_contract {up : Bool} {vt : List TypeId} (hvt : vt = []) {f : FuncId} {fn : Func} {s : ChangeSpec} {ts : List TypeId} (hp : fn.params.toList = ts) (hres : fn.resultTypes = #[4]) (hvars : s.vars = [])
    (hr : ∀ t ∈ ts, Tryd.prog.readableRec t = true ∧ t < Tryd.prog.types.size) (hs : ∀ (H : Type) (ds : List (DataW H)), ds.length = ts.length → (s.fn H ds).results = [.lit (.bool true)] ∧ (s.fn H ds).args = ds ∧ (s.fn H ds).vars = []) (walk : Walks up f ts)
    (H : Type) (enc : TypeId × Value → H) (W : World) (base : Nat) (args : Array Value) (ds gs : List (DataW H)) (before : List MemPlace)
    (hval : ∀ (j : Nat) t v, fn.params[j]? = some t → args[j]? = some v → Value.okWide Tryd.prog W .any base t v)
    (hW : DataW.Whole enc Tryd.prog fn.params.toList s.vars false W args.toList ds gs before)
    (hsz : match up with | true => Rows.uptoSmall H (ds ++ gs) = true | false => (DataW.weightsEach Tryd.prog (fn.params.toList ++ vt) (ds ++ gs)).all (· ≤ reachBytes) = true) :
    Calls Tryd.prog f args W fun e W' => ∃ v, e = .returned v ∧ s.post enc Tryd.prog fn false true false false W args v W' := by
  have hW' := hW
  obtain ⟨p, q, hA, hV, rfl, _, _⟩ := hW
  rw [hvars] at hV
  have hg : gs = [] ∧ q = [] := by
    cases gs with
    | nil => exact ⟨rfl, hV⟩
    | cons g gs => exact hV.elim
  obtain ⟨rfl, rfl⟩ := hg
  have hlt : ∀ x ∈ p, x.block < W.heap.size := fun x hx => by simpa using hW'.lt x (by simpa using hx)
  have hlen : ds.length = ts.length := by
    have : ∀ {ts : List TypeId} {vs : List Value} {ds : List (DataW H)} {ps : List MemPlace}, DataW.TrodAll enc Tryd.prog W 0 (fun _ => true) true ts vs ds ps → ds.length = ts.length := by
      intro ts
      induction ts with
      | nil => intro vs ds ps h; cases vs with
        | nil => cases ds with
          | nil => rfl
          | cons _ _ => exact h.elim
        | cons _ _ => exact h.elim
      | cons t ts ih => intro vs ds ps h; cases vs with
        | nil => exact h.elim
        | cons v vs => cases ds with
          | nil => exact h.elim
          | cons d ds => obtain ⟨_, _, _, h2, _⟩ := h; simp [ih h2]
    rw [hp] at hA
    exact this hA
  have hall : ArgAll up W ts args.toList := by
    rw [← hp]
    refine argAll_mk (base := base) hA (fun j t v ht hv => hval j t v (by simpa using ht) (by simpa using hv)) ?_
    cases up with
    | true => have h : Rows.uptoBulkAll (ds ++ []) ≤ 1048576 := of_decide_eq_true hsz
              simpa using h
    | false => subst hvt; simpa using hsz
  have hwalk := walk W args.toList hall
  rw [Array.toArray_toList] at hwalk
  refine hwalk.mono fun e W' ⟨he, hb⟩ => ?_
  obtain ⟨s1, s2, s3⟩ := hs H (ds ++ []) (by simpa using hlen)
  refine ⟨_, he, _, _, _, [], p, [], hW', ?_, ?_, ?_, hb.frame _, fun h => by cases h⟩
  · rw [s1, hres]; exact ⟨[], [], shut_bool (by kernel_rfl) true, rfl, rfl⟩
  · rw [s2, List.append_nil]; exact trodAll_below hb (by rw [hp]; exact hr) hA hlt
  · rw [s3, hvars]; rfl
end Go.Proofs.YtdaimaibnjkfbaaDoor
/-
  What arguments read as: numbers, structs, slices of structs, lists of numbers.
-/
namespace Go.Proofs.YtdaimaibnjkfbaaDoor
set_option maxRecDepth 100000
open Go.RowKit

theorem list_of {α : Type} (z : α) (Q : Nat → α → Prop) : ∀ n : Nat, (∀ i, i < n → ∃ x, Q i x) → ∃ l : List α, l.length = n ∧ ∀ i, i < n → Q i (l.getD i z)
  | 0, _ => ⟨[], rfl, fun i h => by omega⟩
  | n + 1, h => by
    obtain ⟨l, h1, h2⟩ := list_of z Q n (fun i hi => h i (by omega))
    obtain ⟨x, hx⟩ := h n (by omega)
    refine ⟨l ++ [x], by simp [h1], fun i hi => ?_⟩
    by_cases hin : i < n
    · rw [List.getD, List.getElem?_append_left (by omega)]; exact h2 i hin
    · obtain rfl : i = n := by omega
      rw [List.getD, List.getElem?_append_right (by omega), h1]; simpa using hx
theorem getD_map_lt {α β : Type} (f : α → β) (l : List α) (i : Nat) (z : α) (y : β) (h : i < l.length) : (l.map f).getD i y = f (l.getD i z) := by
  simp [List.getD, h]
theorem flatMap_get {α : Type} (f : α → List Value) (size : Nat) (hs : ∀ x, (f x).length = size) (hp : 0 < size) (z : α) : ∀ (l : List α) (i j : Nat), i < l.length → j < size → (l.flatMap f).getD (i * size + j) undef = (f (l.getD i z)).getD j undef
  | [], i, j, hi, _ => by simp at hi
  | a :: l, 0, j, _, hj => by
    rw [List.flatMap_cons, List.getD, List.getElem?_append_left (by rw [hs]; omega)]; simp
  | a :: l, i + 1, j, hi, hj => by
    have := flatMap_get f size hs hp z l i j (by simpa using hi) hj
    rw [List.flatMap_cons, List.getD, List.getElem?_append_right (by rw [hs, Nat.add_mul]; omega), hs, show (i + 1) * size + j - size = i * size + j by rw [Nat.add_mul]; omega]
    simpa [List.getD] using this
theorem flatMap_len {α : Type} (f : α → List Value) (size : Nat) (hs : ∀ x, (f x).length = size) : ∀ l : List α, (l.flatMap f).length = l.length * size
  | [] => by simp
  | a :: l => by rw [List.flatMap_cons, List.length_append, hs, flatMap_len f size hs l, List.length_cons, Nat.add_mul]; omega
/-- A slice of elements of so many cells, each of which reads as something. -/
theorem ArgC.flat {up : Bool} {N : Nat} {t e : TypeId} {W : World} {v : Value} {size : Nat} {α : Type} (z : α) (f : α → List Value) (hf : ∀ x, (f x).length = size) (hp : 0 < size) (R : Nat → α → Prop) (ht : Tryd.prog.underlying t = some (.slice e)) (hsz : Tryd.prog.cellsOf e = size) (h : ArgC up N t W [v])
    (hel : ∀ N cs, cs.length = size → ArgC up N e W cs → ∃ x, cs = f x ∧ R N x) :
    ∃ l : List α, Rd W v l.length (l.flatMap f) ∧ (up = false → l.length * Tryd.prog.bytesOf e ≤ 140737488351232) ∧ ∃ Ns : List Nat, Ns.length = l.length ∧ (up = true → Ns.sum + 1 ≤ N ∧ l.length + 1 ≤ N) ∧ ∀ i, i < l.length → R (Ns.getD i 0) (l.getD i z) := by
  obtain ⟨a, n, cap, h1, h2, h3, h4, h5, Ns, h6, h7, h8⟩ := h.slice ht hsz hp
  simp only [List.cons.injEq, and_true] at h1
  subst h1
  obtain ⟨l, hl, hv⟩ := list_of z (fun i x => ∃ b off, a = some ⟨b, off, none⟩ ∧ (∀ j, j < size → W.cell? ⟨b, off + (i * size + j), none⟩ = some ((f x).getD j undef)) ∧ R (Ns.getD i 0) x) n (fun i hi => by
    obtain ⟨b, off, cs', g1, g2, g3, g4⟩ := h8 i hi
    obtain ⟨x, rfl, hx⟩ := hel _ cs' g2 g4
    exact ⟨x, b, off, g1, g3, hx⟩)
  subst hl
  refine ⟨l, ⟨a, cap, rfl, h2, h3, h4, fun j hj => ?_⟩, fun hu => Nat.le_trans (Nat.mul_le_mul_right _ h2) (h5 hu), Ns, h6, h7, fun i hi => ?_⟩
  · rw [flatMap_len f size hf] at hj
    have hq : j / size < l.length := (Nat.div_lt_iff_lt_mul hp).2 hj
    obtain ⟨b, off, g1, g2, _⟩ := hv (j / size) hq
    have hr : j % size < size := Nat.mod_lt _ hp
    have hj2 : j / size * size + j % size = j := by rw [Nat.mul_comm]; exact Nat.div_add_mod j size
    refine ⟨b, off, g1, ?_⟩
    have g3 := g2 (j % size) hr
    rw [hj2] at g3
    rw [g3, ← flatMap_get f size hf hp z l (j / size) (j % size) hq hr, hj2]
  · obtain ⟨_, _, _, _, g3⟩ := hv i hi
    exact g3
theorem i64_of_wf {n : Int} (h : (Lit.int .i64 n).wf = true) : -9223372036854775808 ≤ n ∧ n ≤ 9223372036854775807 := by
  simp [Lit.wf, IntKind.min, IntKind.max, IntKind.signed, IntKind.bits] at h; omega
theorem Arg.slice {up : Bool} {t e : TypeId} {W : World} {v : Value} (ht : Tryd.prog.underlying t = some (.slice e)) (h : Arg up t W v) : ArgC up 1048576 t W [v] := by
  obtain ⟨h, base, ho⟩ := h
  obtain ⟨a, n, c, rfl⟩ := Go.WideShapes.okWide_slice ht ho
  exact h
theorem Arg.int {up : Bool} {t : TypeId} {k : IntKind} {W : World} {v : Value} (ht : Tryd.prog.underlying t = some (.int k)) (h : Arg up t W v) : ∃ n, v = .int k n ∧ (Lit.int k n).wf = true := by
  obtain ⟨h, base, ho⟩ := h
  obtain ⟨n, rfl⟩ := Go.WideShapes.okWide_int ht ho
  obtain ⟨m, h1, h2⟩ := h.int ht
  simp [Value.cells] at h1
  subst h1
  exact ⟨n, rfl, h2⟩
theorem Arg.struct {up : Bool} {t : TypeId} {fs : Array Field} {W : World} {v : Value} (ht : Tryd.prog.underlying t = some (.struct fs)) (h : Arg up t W v) : ∃ cs : Array Value, v = .agg cs ∧ ArgC up 1048576 t W cs.toList := by
  obtain ⟨h, base, ho⟩ := h
  obtain ⟨cs, rfl, _⟩ := Go.WideShapes.okWide_struct ht ho
  exact ⟨cs, rfl, h⟩
theorem drop_take_one {cs : List Value} {o : Nat} {c : Value} (h : cs[o]? = some c) : (cs.drop o).take 1 = [c] := by
  have ho := (List.getElem?_eq_some_iff.1 h).1
  have hc := (List.getElem?_eq_some_iff.1 h).2
  rw [List.drop_eq_getElem_cons ho, hc]; rfl
/-- A field of a struct, by its cell. -/
theorem ArgC.fcell {up : Bool} {N : Nat} {t : TypeId} {fs : Array Field} {W : World} {cs : List Value} (h : ArgC up N t W cs) (ht : Tryd.prog.underlying t = some (.struct fs)) (i : Nat) (f : Field) (hf : fs[i]? = some f) (hc : Tryd.prog.cellsOf f.type = 1) (c : Value) (hcs : cs[f.offset]? = some c) :
    ∃ M, M ≤ N + (if up then 0 else M) ∧ ArgC up M f.type W [c] := by
  obtain ⟨_, Ns, h1, h2, h3⟩ := h.struct ht
  have g := h3 i f hf
  rw [hc, drop_take_one hcs] at g
  refine ⟨_, ?_, g⟩
  cases up with
  | false => simp
  | true =>
    have := h2 rfl
    have hle : ∀ (l : List Nat) (i : Nat), l.getD i 0 ≤ l.sum := by
      intro l
      induction l with
      | nil => intro i; simp
      | cons a l ih =>
        intro i
        cases i with
        | zero => simp
        | succ i => have := ih i; simp at this ⊢; omega
    have := hle Ns i
    rw [if_pos rfl]; omega
theorem ArgC.fint {up : Bool} {N : Nat} {t : TypeId} {fs : Array Field} {W : World} {cs : List Value} (h : ArgC up N t W cs) (ht : Tryd.prog.underlying t = some (.struct fs)) (i : Nat) (f : Field) (hf : fs[i]? = some f) (hc : Tryd.prog.cellsOf f.type = 1) (c : Value) (hcs : cs[f.offset]? = some c)
    (k : IntKind) (hk : Tryd.prog.underlying f.type = some (.int k)) : ∃ n, c = .int k n ∧ (Lit.int k n).wf = true := by
  obtain ⟨M, _, g⟩ := h.fcell ht i f hf hc c hcs
  obtain ⟨n, e, hw⟩ := g.int (k := k) hk
  simp only [List.cons.injEq, and_true] at e
  exact ⟨n, e, hw⟩
theorem ArgC.fbool {up : Bool} {N : Nat} {t : TypeId} {fs : Array Field} {W : World} {cs : List Value} (h : ArgC up N t W cs) (ht : Tryd.prog.underlying t = some (.struct fs)) (i : Nat) (f : Field) (hf : fs[i]? = some f) (hc : Tryd.prog.cellsOf f.type = 1) (c : Value) (hcs : cs[f.offset]? = some c)
    (hk : Tryd.prog.underlying f.type = some .bool) : ∃ b, c = .bool b := by
  obtain ⟨M, _, g⟩ := h.fcell ht i f hf hc c hcs
  obtain ⟨n, e⟩ := g.bool hk
  simp only [List.cons.injEq, and_true] at e
  exact ⟨n, e⟩
theorem ArgC.fstring {up : Bool} {N : Nat} {t : TypeId} {fs : Array Field} {W : World} {cs : List Value} (h : ArgC up N t W cs) (ht : Tryd.prog.underlying t = some (.struct fs)) (i : Nat) (f : Field) (hf : fs[i]? = some f) (hc : Tryd.prog.cellsOf f.type = 1) (c : Value) (hcs : cs[f.offset]? = some c)
    (hk : Tryd.prog.underlying f.type = some .string) : ∃ s : ByteArray, c = .string s ∧ s.size ≤ 9223372036854775807 ∧ (up = true → s.size + 1 ≤ N) ∧ (up = false → s.size ≤ 140737488351232) := by
  obtain ⟨M, hM, g⟩ := h.fcell ht i f hf hc c hcs
  obtain ⟨s, e, h1, h2, h3⟩ := g.string hk
  simp only [List.cons.injEq, and_true] at e
  refine ⟨s, e, h1, fun hu => ?_, h3⟩
  have := h2 hu
  subst hu
  simp at hM; omega
/-- A struct in a struct. -/
theorem ArgC.fstruct {up : Bool} {N : Nat} {t : TypeId} {fs : Array Field} {W : World} {cs : List Value} (h : ArgC up N t W cs) (ht : Tryd.prog.underlying t = some (.struct fs)) (i : Nat) (f : Field) (hf : fs[i]? = some f) (t' : TypeId) (o n : Nat) (e1 : f.type = t') (e2 : f.offset = o) (e3 : Tryd.prog.cellsOf t' = n) : ∃ M, M ≤ N + (if up then 0 else M) ∧ ArgC up M t' W ((cs.drop o).take n) := by
  subst e1; subst e2; subst e3
  obtain ⟨_, Ns, h1, h2, h3⟩ := h.struct ht
  refine ⟨_, ?_, h3 i f hf⟩
  cases up with
  | false => simp
  | true =>
    have := h2 rfl
    have hle : ∀ (l : List Nat) (i : Nat), l.getD i 0 ≤ l.sum := by
      intro l
      induction l with
      | nil => intro i; simp
      | cons a l ih =>
        intro i
        cases i with
        | zero => simp
        | succ i => have := ih i; simp at this ⊢; omega
    have := hle Ns i
    rw [if_pos rfl]; omega
/-- The numbers that Go's int holds. -/
def I64 (n : Int) : Prop := -9223372036854775808 ≤ n ∧ n ≤ 9223372036854775807
end Go.Proofs.YtdaimaibnjkfbaaDoor
/-
  Arguments: lists of bytes, of lists of bytes.
-/
namespace Go.Proofs.YtdaimaibnjkfbaaDoor
set_option maxRecDepth 100000
open Go.RowKit

theorem le_sum_mem : ∀ {l : List Nat} {x : Nat}, x ∈ l → x ≤ l.sum
  | a :: l, x, h => by
    rw [List.sum_cons]
    rcases List.mem_cons.1 h with rfl | h
    · omega
    · have := le_sum_mem h; omega
theorem u8_of_wf {n : Int} (h : (Lit.int .u8 n).wf = true) : ∃ c : UInt8, n = (c.toNat : Int) := by
  simp [Lit.wf, IntKind.min, IntKind.max, IntKind.signed, IntKind.bits] at h
  refine ⟨UInt8.ofNat n.toNat, ?_⟩
  have : (UInt8.ofNat n.toNat).toNat = n.toNat := by show n.toNat % 2 ^ 8 = _; omega
  rw [this]; omega
theorem u32_of_wf {n : Int} (h : (Lit.int .u32 n).wf = true) : ∃ c : UInt32, n = (c.toNat : Int) := by
  simp [Lit.wf, IntKind.min, IntKind.max, IntKind.signed, IntKind.bits] at h
  refine ⟨UInt32.ofNat n.toNat, ?_⟩
  have : (UInt32.ofNat n.toNat).toNat = n.toNat := by show n.toNat % 2 ^ 32 = _; omega
  rw [this]; omega
theorem Arg.u32 {up : Bool} {W : World} {v : Value} (h : Arg up 163 W v) : ∃ e : UInt32, v = .int .u32 (e.toNat : Int) := by
  obtain ⟨n, rfl, hw⟩ := h.int (k := .u32) Tryd.underlying163
  obtain ⟨c, rfl⟩ := u32_of_wf hw
  exact ⟨c, rfl⟩
theorem ArgC.bytes {up : Bool} {N : Nat} {W : World} {v : Value} (h : ArgC up N 34 W [v]) :
    ∃ l : List UInt8, Rd W v l.length (l.map V8) ∧ (up = true → l.length + 1 ≤ N) ∧ (up = false → l.length ≤ 140737488351232) := by
  obtain ⟨l, h1, h2, Ns, h3, h4, h5⟩ := h.flat 0 (fun n : UInt8 => [V8 n]) (fun _ => rfl) (by decide) (fun _ _ => True) Tryd.underlying34 (by kernel_rfl) (fun N cs hl hc => by
    match cs, hl with
    | [c0], _ =>
      obtain ⟨n, e1, hw⟩ := hc.int (k := .u8) Tryd.underlying5
      simp only [List.cons.injEq, and_true] at e1
      obtain ⟨c, hc⟩ := u8_of_wf hw
      exact ⟨c, by rw [e1, hc]; rfl, trivial⟩)
  refine ⟨l, ?_, fun hu => (h4 hu).2, fun hu => ?_⟩
  · have e : l.flatMap (fun n : UInt8 => [V8 n]) = l.map V8 := List.map_eq_flatMap.symm
    rw [e] at h1; exact h1
  · have := h2 hu
    rw [show Tryd.prog.bytesOf 5 = 1 by kernel_rfl] at this; omega
theorem ArgC.rows {up : Bool} {N : Nat} {W : World} {v : Value} (h : ArgC up N 42 W [v]) :
    ∃ (vs : List Value) (ls : List (List UInt8)), Rd W v ls.length vs ∧ vs.length = ls.length ∧ (∀ i, i < ls.length → Rd W (vs.getD i undef) (ls.getD i []).length ((ls.getD i []).map V8)) ∧ (up = true → ls.length + 1 ≤ N) ∧ (up = false → ls.length ≤ 5864062014805) ∧ ∀ b ∈ ls, (up = true → b.length ≤ N) ∧ (up = false → b.length ≤ 140737488351232) := by
  obtain ⟨l, h1, h2, Ns, h3, h4, h5⟩ := h.flat (undef, []) (fun n : Value × List UInt8 => [n.1]) (fun _ => rfl) (by decide) (fun M b => Rd W b.1 b.2.length (b.2.map V8) ∧ (up = true → b.2.length + 1 ≤ M) ∧ (up = false → b.2.length ≤ 140737488351232)) Tryd.underlying42 (by kernel_rfl) (fun N cs hl hc => by
    match cs, hl with
    | [c0], _ =>
      obtain ⟨b, e1, hw⟩ := hc.bytes
      exact ⟨(c0, b), rfl, e1, hw⟩)
  refine ⟨l.map (·.1), l.map (·.2), ?_, by simp, fun i hi => ?_, fun hu => by have := (h4 hu).2; simpa using this, fun hu => ?_, fun b hb => ?_⟩
  · have e : l.flatMap (fun n : Value × List UInt8 => [n.1]) = l.map (·.1) := List.map_eq_flatMap.symm
    rw [e] at h1; rw [List.length_map]; exact h1
  · rw [List.length_map] at hi
    have := (h5 i hi).1
    simp only [List.getD, List.getElem?_map, List.getElem?_eq_getElem hi] at this ⊢
    exact this
  · have := h2 hu
    rw [show Tryd.prog.bytesOf 34 = 24 by kernel_rfl] at this
    rw [List.length_map]; omega
  · obtain ⟨x, hx, rfl⟩ := List.mem_map.1 hb
    obtain ⟨i, hi, rfl⟩ := List.getElem_of_mem hx
    have e1 : l.getD i (undef, []) = l[i] := by simp [List.getD, hi]
    have := h5 i hi
    rw [e1] at this
    refine ⟨fun hu => ?_, this.2.2⟩
    have h6 := this.2.1 hu
    have h7 : Ns.getD i 0 ≤ Ns.sum := by
      have hi' : i < Ns.length := by omega
      have e2 : Ns.getD i 0 = Ns[i] := by simp [List.getD, hi']
      rw [e2]
      exact le_sum_mem (List.getElem_mem hi')
    have := (h4 hu).1; omega
end Go.Proofs.YtdaimaibnjkfbaaDoor
