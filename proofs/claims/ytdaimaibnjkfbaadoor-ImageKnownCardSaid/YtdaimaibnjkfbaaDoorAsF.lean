/-
  Faults of package api: errors.Is, errors.As, lineagekit.Num, Place, At.
-/
import Derived.Test.YtdaimaibnjkfbaaDoorAs
import Derived.Deep.MidRow
import Derived.Deep.RegionHeld3
import Derived.Deep.LoopGhost
namespace Go.Proofs.YtdaimaibnjkfbaaDoor
open Go.RowKit Go.Extern.Stop Go.Stop Go.Extern
set_option maxRecDepth 100000

/-- A fault: its number, its place. -/
def errF (m n : Int) : Value := .iface 78 (.agg #[.int .i64 m, .int .i64 n])
theorem flt_noIs (v : Value) (xT : TypeId) (w : World) : (Instr.typeAssert (.iface 78 v) xT 152 true).run Tryd.prog w = .ok (.tuple #[.nilIface, .bool false]) w := run_typeAssert_lacksB Tryd.underlying152 (by kernel_rfl) (by kernel_rfl) v xT w
theorem flt_unwrap (v : Value) (xT : TypeId) (w : World) : (Instr.typeAssert (.iface 78 v) xT 137 true).run Tryd.prog w = .ok (.tuple #[.iface 78 v, .bool true]) w := run_typeAssert_hasB Tryd.underlying137 (by kernel_rfl) v xT w
theorem flt_method (v : Value) (w : World) : (Go.method 291 78 v "Unwrap").run Tryd.prog w = .ok (103, v) w := by kernel_rfl
theorem fUnwrap_calls (m n : Int) (w : World) : Calls Tryd.prog 103 #[.agg #[.int .i64 m, .int .i64 n]] w fun e w' => e = .returned (errN m) ∧ Below w.heap.size w w' := by
  have HB := Lib.hid (below_alloc w (.cells #[.int .i64 m, .int .i64 n] 78))
  unfold errN
  go_enter Tryd.func103, Tryd.ntmps103
  go_wp2_with fail
  go_ret
  exact ⟨rfl, HB.out⟩
theorem equalIn_flt (w : World) (d : Nat) (v : Value) (b : Int) : (Op.equalIn (d + 2) 30 (.iface 78 v) (errN b)).run Tryd.prog w = .ok false w := by
  unfold errN
  simp [Op.equalIn, run_underlying Tryd.underlying30]
theorem eql_flt (w : World) (v : Value) (b : Int) : (binOp .eql 30 (.iface 78 v) (errN b)).run Tryd.prog w = .ok (.bool false) w := by
  have h := equalIn_flt w 9998 v b
  unfold errN at h ⊢
  simp only [binOp]
  simp [Op.equal, Op.maxDepth, h]
theorem isF0_calls (m n b : Int) (w : World) : Calls Tryd.prog 72 #[errF m n, errN b, .bool true] w fun e w' => e = .returned (.bool (m == b)) ∧ Below w.heap.size w w' := by
  have nI := err_noIs
  have nU := err_noUnwrap
  have nV := err_noUnwraps
  have fI := flt_noIs
  have fU := flt_unwrap
  have fM := flt_method
  have hq := eql_flt w (.agg #[.int .i64 m, .int .i64 n]) b
  have hu := fUnwrap_calls m n w
  have heq := fun w => eql_err w m b
  unfold errN at heq hq hu
  unfold errF errN
  have HU := Lib.hid hu
  clear hu
  cases hab : (m == b) with
  | true =>
    rw [hab] at heq
    clear hab
    go_enter Tryd.func72, Tryd.ntmps72
    go_wp2
    refine wp_loop_rounds 2 ?_
    rw [rounds_succ]
    go_wp2_with fail
    refine HU.out.mono ?_
    rintro e w1 ⟨rfl, hb⟩
    have HB := Lib.hid hb
    clear hb
    go_wp2_with fail
    rw [rounds_succ]
    go_wp2_with fail
    go_ret
    exact ⟨rfl, HB.out⟩
  | false =>
    rw [hab] at heq
    clear hab
    go_enter Tryd.func72, Tryd.ntmps72
    go_wp2
    refine wp_loop_rounds 2 ?_
    rw [rounds_succ]
    go_wp2_with fail
    refine HU.out.mono ?_
    rintro e w1 ⟨rfl, hb⟩
    have HB := Lib.hid hb
    clear hb
    go_wp2_with fail
    rw [rounds_succ]
    go_wp2_with fail
    go_ret
    exact ⟨rfl, HB.out⟩
theorem isF_calls (m n b : Int) (w : World) : Calls Tryd.prog 55 #[errF m n, errN b] w fun e w' => e = .returned (.bool (m == b)) ∧ Below w.heap.size w w' := by
  have h8 := @run_callFunc_extern Tryd.prog 71 _ Extern.ReflectliteType.typeOf Tryd.func71 (by kernel_rfl) (by kernel_rfl) (by kernel_rfl) (by kernel_rfl)
  have h32 := @run_callFunc_extern Tryd.prog 109 _ cmpX Tryd.func109 (by kernel_rfl) (by kernel_rfl) (by kernel_rfl) (by kernel_rfl)
  have tT := err_typeOf
  have cT := err_comparable
  have his := isF0_calls m n b w
  unfold errF errN at his
  unfold errF errN
  have His := Lib.hid his
  clear his
  go_enter Tryd.func55, Tryd.ntmps55
  go_wp2_with fail
  refine His.out.mono ?_
  rintro e w' ⟨rfl, hb⟩
  have HB := Lib.hid hb
  clear hb
  go_wp2_with fail
  go_ret
  exact ⟨rfl, HB.out⟩
set_option maxHeartbeats 1600000 in
theorem numF_calls (n : Nat) (at_ : Int) (w : World) (h1 : 1 ≤ n) (h2 : n ≤ 24) : Calls Tryd.prog 32 #[errF n at_] w fun e w' => e = .returned (.int .i64 (n : Int)) ∧ Below w.heap.size w w' := by
  have hi := fun b w => isF_calls (n : Int) at_ b w
  unfold errF errN at hi
  unfold errF
  have Hi := Lib.hid hi
  clear hi
  go_enter Tryd.func32, Tryd.ntmps32
  go_wp2_with fail
  go_loopg [3, 4] 25 (fun gk f i wr => ∃ k : Nat, gk + k = 26 ∧ k ≤ 25 ∧ 1 ≤ k ∧ i = .int .i64 k ∧ ((n < k ∧ f = .int .i64 n) ∨ (k ≤ n ∧ f = .int .i64 0)) ∧ Below w.heap.size w wr)
  case atStart => exact ⟨1, rfl, by omega, by omega, rfl, .inr ⟨h1, rfl⟩, Below.refl _ _⟩
  case round =>
    obtain ⟨k, hgk, hk25, hk1, rfl, hf, hb⟩ := hrel
    have HB := Lib.hid hb
    have HGK := Lib.hid hgk
    clear hb
    by_cases hk : k < 25
    · have hk24 : k ≤ 24 := by omega
      have hc : (n < k ∧ ((n : Int) == (k : Int)) = false) ∨ (n = k) ∨ (k < n ∧ ((n : Int) == (k : Int)) = false) := by
        rcases Nat.lt_trichotomy n k with h | h | h
        · exact .inl ⟨h, by rw [beq_eq_false_iff_ne]; omega⟩
        · exact .inr (.inl h)
        · exact .inr (.inr ⟨h, by rw [beq_eq_false_iff_ne]; omega⟩)
      rcases hc with ⟨hlt, hbb⟩ | rfl | ⟨hgt, hbb⟩
      · rcases hf with ⟨_, rfl⟩ | ⟨h, rfl⟩
        · clear hgk
          go_wp2_with fail
          refine (Hi.out (k : Int) _).mono ?_
          rintro e w' ⟨rfl, hb⟩
          have HB2 := Lib.hid (HB.out.trans (hb.mono HB.out.size))
          clear hb
          go_wp2_with fail
          go_roundg (26 - (k + 1))
          case measure => have := HGK.out; omega
          case rel => exact ⟨k + 1, by have := HGK.out; omega, by omega, by omega, by go_num, .inl ⟨by omega, rfl⟩, HB2.out⟩
        · omega
      · rcases hf with ⟨h, rfl⟩ | ⟨_, rfl⟩
        · omega
        · have hbb : ((n : Int) == (n : Int)) = true := by rw [beq_iff_eq]
          clear hgk
          go_wp2_with fail
          refine (Hi.out (n : Int) _).mono ?_
          rintro e w' ⟨rfl, hb⟩
          have HB2 := Lib.hid (HB.out.trans (hb.mono HB.out.size))
          clear hb
          go_wp2_with fail
          go_roundg (26 - (n + 1))
          case measure => have := HGK.out; omega
          case rel => exact ⟨n + 1, by have := HGK.out; omega, by omega, by omega, by go_num, .inl ⟨by omega, rfl⟩, HB2.out⟩
      · rcases hf with ⟨h, rfl⟩ | ⟨_, rfl⟩
        · omega
        · clear hgk
          go_wp2_with fail
          refine (Hi.out (k : Int) _).mono ?_
          rintro e w' ⟨rfl, hb⟩
          have HB2 := Lib.hid (HB.out.trans (hb.mono HB.out.size))
          clear hb
          go_wp2_with fail
          go_roundg (26 - (k + 1))
          case measure => have := HGK.out; omega
          case rel => exact ⟨k + 1, by have := HGK.out; omega, by omega, by omega, by go_num, .inr ⟨by omega, rfl⟩, HB2.out⟩
    · obtain rfl : k = 25 := by omega
      rcases hf with ⟨_, rfl⟩ | ⟨h, rfl⟩
      · have hn0 : ((n : Int) == 0) = false := by rw [beq_eq_false_iff_ne]; omega
        have hn1 : (n == 0) = false := by rw [beq_eq_false_iff_ne]; omega
        clear hgk
        go_wp2_with fail
        refine (Hi.out 0 _).mono ?_
        rintro e w' ⟨rfl, hb⟩
        have HB2 := Lib.hid (HB.out.trans (hb.mono HB.out.size))
        clear hb
        go_wp2_with fail
        go_ret
        exact ⟨rfl, HB2.out⟩
      · omega
/-! errors.As at a fault and a target of type *api.Fault: it is one. -/
theorem fs_typeOf (v : Value) (w : World) : (ReflectliteType.typeOf #[.iface 78 v]).run Tryd.prog w = .ok (.iface 130 (.agg #[.pointer (some ⟨2, 78, none⟩)])) w := by kernel_rfl
theorem fs_assignable (w : World) : (ReflectliteType.relation "AssignableTo" ReflectliteType.assignableTo #[.agg #[.pointer (some ⟨2, 78, none⟩)], .iface 130 (.agg #[.pointer (some ⟨2, 78, none⟩)])]).run Tryd.prog w = .ok (.bool true) w := by kernel_rfl
theorem fs_valueOf (m n : Int) (w : World) : (ReflectliteValue.unpack (.iface 78 (.agg #[.int .i64 m, .int .i64 n]))).run Tryd.prog w
    = .ok (.agg #[.pointer (some ⟨2, 78, none⟩), .pointer (some ⟨w.heap.size, 0, none⟩), .int .u64 153]) (w.alloc (.cells #[.int .i64 m, .int .i64 n] 78)) := by kernel_rfl
theorem fp_elemOf (w : World) : (Rtype.elem? 80).run Tryd.prog w = .ok (some 78) w := by kernel_rfl
theorem fs_mk (p : Addr) (w : World) : (ReflectliteValue.mk 78 p ReflectliteValue.flagAddr).run Tryd.prog w = .ok (.agg #[.pointer (some ⟨2, 78, none⟩), .pointer (some p), .int .u64 409]) w := by kernel_rfl
theorem fp_elemV (a p : Addr) (W : World) (ha : W.cell? a = some (.pointer (some p))) :
    (ReflectliteValue.method (ReflectliteValue.valueError "reflectlite.Value.Elem" 0) ReflectliteValue.elem #[.agg #[.pointer (some ⟨2, 80, none⟩), .pointer (some a), .int .u64 150]]).run Tryd.prog W
      = .ok (.agg #[.pointer (some ⟨2, 78, none⟩), .pointer (some p), .int .u64 409]) W := by
  rw [rlm]
  simp only [Sem.run_bind, fp_parts, Result.andThen]
  simp [ReflectliteValue.elem, loadVar, isAgg, underlying, Tryd.underlying80, ha, Result.andThen, fp_elemOf, fs_mk]
theorem rls (v x : Value) : ReflectliteValue.set #[v, x] = (do
    let (some (dst, a, fl), some (src, b, _)) := (← ReflectliteValue.parts v, ← ReflectliteValue.parts x)
      | unsupported (.noEntry "extern/(internal/reflectlite.Value).Set.zeroValue")
    if fl / ReflectliteValue.flagAddr % 2 == 0 then unsupported (.noEntry "extern/(internal/reflectlite.Value).Set.unaddressable")
    let val ← loadVar src b
    if ← Rtype.directlyAssignable dst src then storeVar dst a val
    else if ← Rtype.implements dst src then
      if (← Rtype.kind src) == 20 then
        match val with
        | .nilIface => unsupported (.noEntry "extern/reflectlite: a nil value of one interface type handed on as a value of another")
        | _ => storeVar dst a val
      else storeVar dst a (.iface src val)
    else panicString ("reflectlite.Set: value of type " ++ (← Rtype.spelt src) ++ " is not assignable to type " ++ (← Rtype.spelt dst))
    pure (.tuple #[])) := rfl
theorem fs_partsA (a : Addr) (w : World) : (ReflectliteValue.parts (.agg #[.pointer (some ⟨2, 78, none⟩), .pointer (some a), .int .u64 409])).run Tryd.prog w = .ok (some (78, a, 409)) w := by kernel_rfl
theorem fs_parts (a : Addr) (w : World) : (ReflectliteValue.parts (.agg #[.pointer (some ⟨2, 78, none⟩), .pointer (some a), .int .u64 153])).run Tryd.prog w = .ok (some (78, a, 153)) w := by kernel_rfl
theorem fs_direct (w : World) : (Rtype.directlyAssignable 78 78).run Tryd.prog w = .ok true w := by kernel_rfl
theorem fs_set (tb bb : Nat) (m n : Int) (W : World) (hb : W.rangeAt bb 0 [.int .i64 m, .int .i64 n]) (ht : W.there tb 0 2) :
    (ReflectliteValue.set #[.agg #[.pointer (some ⟨2, 78, none⟩), .pointer (some ⟨tb, 0, none⟩), .int .u64 409], .agg #[.pointer (some ⟨2, 78, none⟩), .pointer (some ⟨bb, 0, none⟩), .int .u64 153]]).run Tryd.prog W
      = .ok (.tuple #[]) (W.setCells tb 0 [.int .i64 m, .int .i64 n]) := by
  have hl := run_loadVar_mid (P := Tryd.prog) W bb 0 78 [.int .i64 m, .int .i64 n] _ hb Tryd.underlying78 rfl (by kernel_rfl)
  have hs := run_storeVar_mid (P := Tryd.prog) W tb 0 78 #[.int .i64 m, .int .i64 n] ht (by kernel_rfl) (by simp [Value.oneCell'])
  rw [rls]
  simp only [Sem.run_bind, fs_partsA, fs_parts, Result.andThen]
  simp only [ReflectliteValue.flagAddr]
  simp [Result.andThen, hl, fs_direct, hs]
/-- The four blocks that errors.As makes. -/
def asW (w : World) (t : Nat) (m n : Int) : World := (((w.alloc (.cells #[.pointer (some ⟨t, 0, none⟩)] 80)).alloc (.cells #[.pointer (some ⟨2, 80, none⟩), .pointer (some ⟨w.heap.size, 0, none⟩), .int .u64 150] 104)).alloc (.cells #[.pointer (some ⟨2, 80, none⟩), .pointer (some ⟨w.heap.size, 0, none⟩), .int .u64 150] 104)).alloc (.cells #[.int .i64 m, .int .i64 n] 78)
theorem asW_below (w : World) (t : Nat) (m n : Int) : Below w.heap.size w (asW w t m n) := by
  unfold asW
  repeat (refine Below.alloc ?_ (by simp <;> omega) _)
  exact Below.refl _ _
set_option maxHeartbeats 8000000 in
theorem as_hitF (m n x y : Int) (t : Nat) (w : World) (hg : ErrType w) (ht : Box w t #[.int .i64 x, .int .i64 y] 78) :
    Calls Tryd.prog 41 #[errF m n, .iface 80 (.pointer (some ⟨t, 0, none⟩))] w fun ev w' => ev = .returned (.bool true) ∧ w' = (asW w t m n).setCells t 0 [.int .i64 m, .int .i64 n] := by
  have h6 := @run_callFunc_extern Tryd.prog 60 _ (fun args => ReflectliteValue.unpack (args.getD 0 (.tuple #[]))) Tryd.func60 (by kernel_rfl) (by kernel_rfl) (by kernel_rfl) (by kernel_rfl)
  have h7 := @run_callFunc_extern Tryd.prog 61 _ (ReflectliteValue.methodAny (ReflectliteValue.valueError "reflectlite.Value.Type" 0) (fun t _ _ _ => ReflectliteType.toType t)) Tryd.func61 (by kernel_rfl) (by kernel_rfl) (by kernel_rfl) (by kernel_rfl)
  have h8 := @run_callFunc_extern Tryd.prog 62 _ (ReflectliteValue.method (ReflectliteValue.valueError "reflectlite.Value.IsNil" 0) ReflectliteValue.isNil) Tryd.func62 (by kernel_rfl) (by kernel_rfl) (by kernel_rfl) (by kernel_rfl)
  have h27 := @run_callFunc_extern Tryd.prog 98 _ (ReflectliteType.abiMethod fun t => do pure (.int .u8 (← Rtype.kind t))) Tryd.func98 (by kernel_rfl) (by kernel_rfl) (by kernel_rfl) (by kernel_rfl)
  have h37 := @run_callFunc_extern Tryd.prog 110 _ (ReflectliteType.method ReflectliteType.elem) Tryd.func110 (by kernel_rfl) (by kernel_rfl) (by kernel_rfl) (by kernel_rfl)
  have h38 := @run_callFunc_extern Tryd.prog 111 _ (ReflectliteType.relation "Implements" ReflectliteType.implements_) Tryd.func111 (by kernel_rfl) (by kernel_rfl) (by kernel_rfl) (by kernel_rfl)
  have h10 := @run_callFunc_extern Tryd.prog 71 _ ReflectliteType.typeOf Tryd.func71 (by kernel_rfl) (by kernel_rfl) (by kernel_rfl) (by kernel_rfl)
  have h35 := @run_callFunc_extern Tryd.prog 108 _ (ReflectliteType.relation "AssignableTo" ReflectliteType.assignableTo) Tryd.func108 (by kernel_rfl) (by kernel_rfl) (by kernel_rfl) (by kernel_rfl)
  have h11 := @run_callFunc_extern Tryd.prog 73 _ (ReflectliteValue.method (ReflectliteValue.valueError "reflectlite.Value.Elem" 0) ReflectliteValue.elem) Tryd.func73 (by kernel_rfl) (by kernel_rfl) (by kernel_rfl) (by kernel_rfl)
  have h12 := @run_callFunc_extern Tryd.prog 74 _ ReflectliteValue.set Tryd.func74 (by kernel_rfl) (by kernel_rfl) (by kernel_rfl) (by kernel_rfl)
  have tO := fs_typeOf
  have mA := fp_methodAssignableTo
  have a25 := fs_assignable
  have v25 := fs_valueOf
  have f6 := fp_valueOf
  have f7 := fp_type
  have mK := fp_methodKind
  have mE := fp_methodElem
  have mI := fp_methodImplements
  have k27 := fp_kind
  have k25 := fs_kind
  have e27 := fp_elem
  have i25 := fs_implements
  have n8 := fp_isNil ⟨w.heap.size, 0, none⟩ ⟨t, 0, none⟩ ((w.alloc (.cells #[.pointer (some ⟨t, 0, none⟩)] 80)).alloc (.cells #[.pointer (some ⟨2, 80, none⟩), .pointer (some ⟨w.heap.size, 0, none⟩), .int .u64 150] 104)) (by simp)
  have hlt := hg.lt
  unfold ErrType at hg
  have hg2 : ((w.alloc (.cells #[.pointer (some ⟨t, 0, none⟩)] 80)).alloc (.cells #[.pointer (some ⟨2, 80, none⟩), .pointer (some ⟨w.heap.size, 0, none⟩), .int .u64 150] 104)).cell? ⟨0, 0, none⟩ = some (.iface 130 (.agg #[.pointer (some ⟨2, 30, none⟩)])) := by
    rw [World.cell?_alloc_lt _ _ ⟨0, 0, none⟩ (by simp), World.cell?_alloc_lt _ _ ⟨0, 0, none⟩ hlt]; exact hg
  have el := fp_elemV ⟨w.heap.size, 0, none⟩ ⟨t, 0, none⟩ (((w.alloc (.cells #[.pointer (some ⟨t, 0, none⟩)] 80)).alloc (.cells #[.pointer (some ⟨2, 80, none⟩), .pointer (some ⟨w.heap.size, 0, none⟩), .int .u64 150] 104)).alloc (.cells #[.pointer (some ⟨2, 80, none⟩), .pointer (some ⟨w.heap.size, 0, none⟩), .int .u64 150] 104)) (by rw [World.cell?_alloc_lt _ _ ⟨w.heap.size, 0, none⟩ (by simp; omega)]; simp)
  have hbx : Box (asW w t m n) (w.heap.size + 1 + 1 + 1) #[.int .i64 m, .int .i64 n] 78 := by
    have h := Box.new (((w.alloc (.cells #[.pointer (some ⟨t, 0, none⟩)] 80)).alloc (.cells #[.pointer (some ⟨2, 80, none⟩), .pointer (some ⟨w.heap.size, 0, none⟩), .int .u64 150] 104)).alloc (.cells #[.pointer (some ⟨2, 80, none⟩), .pointer (some ⟨w.heap.size, 0, none⟩), .int .u64 150] 104)) #[.int .i64 m, .int .i64 n] 78
    simp only [World.size_alloc] at h
    exact h
  have htx := ht.below (asW_below w t m n)
  have st := fs_set t (w.heap.size + 1 + 1 + 1) m n (asW w t m n) (fun j v hv => by rw [Nat.zero_add]; exact hbx.cell j v (by simpa using hv)) (fun j hj => by
    rcases (show j = 0 ∨ j = 1 by omega) with rfl | rfl
    · exact ⟨by rw [htx.cell 0 _ rfl]; rfl, htx.free _⟩
    · exact ⟨by rw [htx.cell 1 _ rfl]; rfl, htx.free _⟩)
  have HST := Lib.hid st
  unfold asW at st
  clear hbx htx ht
  unfold errF
  go_enter Tryd.func41, Tryd.ntmps41
  go_wp2
  refine wp_loop_rounds 1 ?_
  rw [rounds_succ]
  go_wp2
  go_ret
  exact ⟨rfl, rfl⟩
end Go.Proofs.YtdaimaibnjkfbaaDoor
