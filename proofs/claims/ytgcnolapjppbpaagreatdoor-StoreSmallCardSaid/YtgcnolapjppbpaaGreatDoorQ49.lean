/-
  Texts of one proof, one behind the other.
-/
import Derived.Test.YtgcnolapjppbpaaGreatDoorQ48
import Derived.Test.YtgcnolapjppbpaaGreatDoorQ31
import Derived.Test.YtgcnolapjppbpaaGreatDoorQ47
import Derived.Test.YtgcnolapjppbpaaGreatDoorQ23
import Derived.Test.YtgcnolapjppbpaaGreatDoorQ06
import Derived.Deep.RegionHeld3
import Derived.Test.YtgcnolapjppbpaaGreatDoorQ04
import Derived.Test.YtgcnolapjppbpaaGreatDoorQ03
import Derived.Test.YtgcnolapjppbpaaGreatDoorQ28
namespace Go.Proofs.YtgcnolapjppbpaaGreatDoor
open Go.RowKit
set_option maxRecDepth 100000
def MadeS (d : DiskM) (s : StoM) (r : StoM × DiskM × Int) : Prop :=
  (r.1.epoch = s.epoch ∧ r.1.log.records = s.log.records + 1 ∧ r.2.1.trail.length = d.trail.length + 1) ∨
  (r.1.epoch.toNat = s.epoch.toNat + 1 ∧ s.log.records = 16 ∧ r.1.log.records = 1 ∧ ∃ m, 1 ≤ m ∧ m ≤ 24 ∧ r.2.1.trail.length = d.trail.length + (m + 2))
theorem sto_append {d : DiskM} {s : StoM} {st next : StM} {e : EvtM} (h : StoI d s st) (hd : s.dead = false) (hld : s.log.dead = false) (hep : s.epoch.toNat < 4294967295) (ha : applyM st e = (0, next)) (hm : mayE e = true) (hsc : e.s.scopes < 2 ^ 64) :
    ((s.append d e st).2.2 = 0 ∧ (s.append d e st).1.dead = false ∧ (s.append d e st).1.log.dead = false ∧ StoI (s.append d e st).2.1 (s.append d e st).1 next ∧ (s.append d e st).1.epoch.toNat ≤ s.epoch.toNat + 1 ∧ MadeS d s (s.append d e st)) ∨
    ((s.append d e st).2.2 = 22 ∧ d.left ≠ none ∧ (s.append d e st).1.dead = true ∧ ∃ ep' : UInt32, ep'.toNat ≤ s.epoch.toNat + 1 ∧ KeptI (s.append d e st).2.1 st ep') := by
  obtain ⟨st0, evs, hi⟩ := h.img
  obtain ⟨n1, n2⟩ := epoch_next hep
  unfold MadeS StoM.append
  rw [if_neg (by rw [hd]; simp), if_pos hm]
  rcases append_ev hi h.wf h.len h.later hld ha hm hsc with ⟨h0, h1, h2, h3, h4⟩ | ⟨h0, h1, h2⟩ | ⟨h0, h1⟩
  · rw [if_neg (by rw [h0]; decide)]
    have hp : isP (s.log.append d (evB e)).2.2 = false := by rw [h0]; rfl
    exact .inl ⟨h0, hp, h1, by simp only [hp]; exact h2, Nat.le_succ _, .inl ⟨rfl, h3, h4⟩⟩
  · rw [if_neg (by rw [h0]; decide)]
    exact .inr ⟨h0, h1, by simp only; rw [h0]; rfl, s.epoch, Nat.le_succ _, h2⟩
  · rw [if_pos h0]
    rcases lay_cut h.kept hep with ⟨g0, g1, g2⟩ | ⟨g0, g1, g2⟩
    · rw [if_pos g0]
      obtain ⟨st1, evs1, hj⟩ := g1.img
      rcases append_ev hj g1.wf g1.len g1.later rfl ha hm hsc with ⟨k0, k1, k2, k3, k4⟩ | ⟨k0, k1, k2⟩ | ⟨k0, k1⟩
      · have hp : isP ((logN (s.epoch + 1)).append (layM s.epoch d st).1 (evB e)).2.2 = false := by rw [k0]; rfl
        have hb := blocks_img h.kept.d.snd.1.check
        refine .inl ⟨k0, hp, k1, by simp only [hp]; exact k2, by simp only; omega, .inr ⟨n1, h1, k3, _, hb.1, hb.2, ?_⟩⟩
        simp only
        have k4' : ((logN (s.epoch + 1)).append (layM s.epoch d st).1 (evB e)).2.1.trail.length = (layM s.epoch d st).1.trail.length + 1 := k4
        omega
      · refine .inr ⟨k0, fun hn => ?_, by simp only; rw [show ((logN (s.epoch + 1)).append (layM s.epoch d st).1 (evB e)).2.2 = 22 from k0]; rfl, s.epoch + 1, by omega, k2⟩
        exact k1 (lay_on h.kept.d hep hn).2.2.1
      · have k2 : (logN (s.epoch + 1)).records = 16 := k1
        cases k2
    · rw [if_neg (by rw [g0]; decide)]
      exact .inr ⟨g0, g1, by simp only; rw [g0]; rfl, s.epoch, Nat.le_succ _, g2⟩
theorem sto_left {d : DiskM} {s : StoM} {st : StM} (e : EvtM) (h : StoI d s st) (hep : s.epoch.toNat < 4294967295) (hn : d.left = none) : (s.append d e st).2.1.left = none := by
  obtain ⟨st0, evs, hi⟩ := h.img
  have hl : ∀ {d : DiskM} {l : LogM} {st st0 : StM} {ep : UInt32} {evs : List EvtM}, Img d l st ep st0 evs → d.left = none → (l.append d (evB e)).2.1.left = none := fun hi hn => append_left _ hn (by rw [hi.log.same.1, hi.log.same.2.1]; exact hi.log.len) hi.log.le2 _
  have h1 := lay_on h.kept.d hep hn
  unfold StoM.append
  split
  · exact hn
  split
  · split
    · split
      · obtain ⟨st1, evs1, hj⟩ := h1.2.1.img
        exact hl hj h1.2.2.1
      · exact h1.2.2.1
    · exact hl hi hn
  · exact hn
theorem open_cut {d : DiskM} {st : StM} {ep : UInt32} (h : KeptI d st ep) (hep : ep.toNat < 4294967295) :
    ((openM d).2.2.2 = 0 ∧ (openM d).2.2.1 = st ∧ (openM d).2.1 = ep + 1 ∧ StoI (openM d).1 ⟨ep + 1, logN (ep + 1), false⟩ st) ∨ ((openM d).2.2.2 = 22 ∧ KeptI (openM d).1 st ep) := by
  unfold openM
  rw [if_neg (by have := h.len; omega), h.d.kept]
  simp only [if_true]
  rcases lay_cut h hep with ⟨g0, g1, _⟩ | ⟨g0, _, g2⟩
  · rw [if_pos g0]; exact .inl ⟨rfl, rfl, rfl, g1⟩
  · rw [if_neg (by rw [g0]; decide)]; exact .inr ⟨g0, g2⟩
theorem open_on {d : DiskM} {st : StM} {ep : UInt32} (h : KeptD d st ep) (hep : ep.toNat < 4294967295) (hn : d.left = none) :
    (openM d).2.2.2 = 0 ∧ (openM d).2.2.1 = st ∧ (openM d).2.1 = ep + 1 ∧ StoI (openM d).1 ⟨ep + 1, logN (ep + 1), false⟩ st ∧ (openM d).1.left = none ∧ (openM d).1.trail.length = d.trail.length + (blocksA (imgB st).length + 1) := by
  obtain ⟨g0, g1, g2, g3⟩ := lay_on h hep hn
  unfold openM
  rw [if_neg (by have := h.len; omega), h.kept]
  simp only [if_true]
  rw [if_pos g0]
  exact ⟨rfl, rfl, rfl, g1, g2, g3⟩
theorem fresh_kept : KeptD ⟨List.replicate 65 ByteArray.empty, [], none⟩ noSt 0 := by
  refine ⟨DiskM.Wf.new 65 none, by simp, fun e _ j s _ _ hs => noB_new e 65 j s hs, .inl ⟨?_, rfl, rfl⟩⟩
  unfold readB DiskM.read LB
  simp
end Go.Proofs.YtgcnolapjppbpaaGreatDoor
namespace Go.Proofs.YtgcnolapjppbpaaGreatDoor
open Go.RowKit
set_option maxRecDepth 100000
theorem readB_short {d : DiskM} (h : d.Wf) (b : Int) : (readB d b).length ≤ 9223372036854775807 := by
  have : ∀ (l : List (Int × ByteArray)) (s : List ByteArray), (∀ r ∈ l, r.2.size ≤ 256) → (∀ x ∈ s, x.size ≤ 256) → ∀ x ∈ playRaws s l, x.size ≤ 256 := by
    intro l
    induction l with
    | nil => intro s _ h2; exact h2
    | cons r l ih =>
      intro s h1 h2
      have : playRaws s (r :: l) = playRaws (s.set r.1.toNat r.2) l := rfl
      rw [this]
      refine ih _ (fun r' hr => h1 r' (by simp [hr])) fun x hx => ?_
      rcases List.mem_or_eq_of_mem_set hx with h | rfl
      · exact h2 x h
      · exact h1 r (by simp)
  by_cases hb : 0 ≤ b ∧ b < d.strs.length
  · rw [readB_in _ _ hb, LB_len]
    have h1 := this d.trail (List.replicate d.strs.length ByteArray.empty) h.short (fun x hx => by rw [(List.mem_replicate.1 hx).2]; exact Nat.zero_le _)
    rw [← h.play] at h1
    have : d.strs.getD b.toNat ByteArray.empty ∈ d.strs := by
      have hi : b.toNat < d.strs.length := by omega
      simp [List.getD, hi]
    have := h1 _ this
    omega
  · rw [readB_out _ _ hb]; simp
end Go.Proofs.YtgcnolapjppbpaaGreatDoor
namespace Go.Proofs.YtgcnolapjppbpaaGreatDoor
open Go.RowKit
set_option maxRecDepth 100000
theorem restore_calls (d : DiskM) (p : Nat) (F : Nat → Prop) (w : World) (h : IsDisk w d p F) :
    Calls Tryz.prog 24 #[.pointer (some ⟨p, 0, none⟩)] w fun e w' => e = .returned (.tuple #[]) ∧ ∃ F', IsDisk w' { d with left := none } p F' ∧ Mod F w w' ∧ ∀ k, F' k → F k := by
  obtain ⟨F', g1, g2, g3⟩ := h.power (.func (.func 35) #[] #[]) none none ⟨rfl, rfl⟩ (fun k hk => by cases hk)
  obtain ⟨_, c0, c1, c2, hb⟩ := h.cells
  have hc := hb.cell 2 _ rfl
  have hf := hb.free 2
  clear h hb
  go_enter Tryz.func24, Tryz.ntmps24
  go_wp2
  go_end0
  refine ⟨rfl, F', g1, g2, fun k hk => ?_⟩
  rcases g3 k hk with h | h
  · exact h
  · cases h
end Go.Proofs.YtgcnolapjppbpaaGreatDoor
namespace Go.Proofs.YtgcnolapjppbpaaGreatDoor
open Go.RowKit
theorem writes_calls (d : DiskM) (p : Nat) (F : Nat → Prop) (w : World) (h : IsDisk w d p F) :
    Calls Tryz.prog 19 #[.pointer (some ⟨p, 0, none⟩)] w fun e w' => e = .returned (.int .i64 (d.trail.length : Int)) ∧ w = w' := by
  obtain ⟨bb, tv, pv, q, h1, h2, h3, h4, h5, h6, h7, h8, rfl⟩ := h
  obtain ⟨ta, tc, rfl, _, _⟩ := own_form h3
  have hc := h1.cell 1 _ rfl
  clear h1 h2 h3 h4 h7 h8
  go_enter Tryz.func19, Tryz.ntmps19
  go_wp2
  go_ret
  exact ⟨rfl, rfl⟩
end Go.Proofs.YtgcnolapjppbpaaGreatDoor
namespace Go.Proofs.YtgcnolapjppbpaaGreatDoor
open Go.RowKit Go.Extern.Stop Go.Stop Go.Extern
theorem fp_valueOf (t : Addr) (w : World) : (ReflectliteValue.unpack (.iface 102 (.pointer (some t)))).run Tryz.prog w
    = .ok (.agg #[.pointer (some ⟨2, 102, none⟩), .pointer (some ⟨w.heap.size, 0, none⟩), .int .u64 150]) (w.alloc (.cells #[.pointer (some t)] 102)) := by kernel_rfl
theorem fp_type (a : Addr) (w : World) : (ReflectliteValue.methodAny (ReflectliteValue.valueError "reflectlite.Value.Type" 0) (fun t _ _ _ => ReflectliteType.toType t) #[.agg #[.pointer (some ⟨2, 102, none⟩), .pointer (some a), .int .u64 150]]).run Tryz.prog w
    = .ok (.iface 193 (.agg #[.pointer (some ⟨2, 102, none⟩)])) w := by kernel_rfl
theorem fp_methodKind (h : Value) (w : World) : (Go.method 450 193 (.agg #[h]) "Kind").run Tryz.prog w = .ok (206, h) w := by kernel_rfl
theorem fp_kind (w : World) : ((ReflectliteType.abiMethod fun t => (fun a : Nat => Value.int IntKind.u8 (a : Int)) <$> Rtype.kind t) #[.pointer (some ⟨2, 102, none⟩)]).run Tryz.prog w = .ok (.int .u8 22) w := by kernel_rfl
theorem fs_kind (w : World) : ((ReflectliteType.abiMethod fun t => (fun a : Nat => Value.int IntKind.u8 (a : Int)) <$> Rtype.kind t) #[.pointer (some ⟨2, 99, none⟩)]).run Tryz.prog w = .ok (.int .u8 25) w := by kernel_rfl
theorem rlm (z : Sem Value) (f : TypeId → Addr → Nat → Nat → Sem Value) (v : Value) :
    ReflectliteValue.method z f #[v] = (do match ← ReflectliteValue.parts v with | none => z | some (t, a, fl) => f t a fl (fl % 32)) := rfl
theorem fp_parts (a : Addr) (w : World) : (ReflectliteValue.parts (.agg #[.pointer (some ⟨2, 102, none⟩), .pointer (some a), .int .u64 150])).run Tryz.prog w = .ok (some (102, a, 150)) w := by kernel_rfl
theorem fp_isNil (a p : Addr) (W : World) (ha : W.cell? a = some (.pointer (some p))) :
    (ReflectliteValue.method (ReflectliteValue.valueError "reflectlite.Value.IsNil" 0) ReflectliteValue.isNil #[.agg #[.pointer (some ⟨2, 102, none⟩), .pointer (some a), .int .u64 150]]).run Tryz.prog W = .ok (.bool false) W := by
  rw [rlm]
  simp only [Sem.run_bind, fp_parts, Result.andThen]
  simp [ReflectliteValue.isNil, loadVar, isAgg, underlying, Tryz.underlying102, ha, Result.andThen]
theorem fp_methodElem (h : Value) (w : World) : (Go.method 450 193 (.agg #[h]) "Elem").run Tryz.prog w = .ok (232, .agg #[h]) w := by kernel_rfl
theorem fp_methodImplements (h : Value) (w : World) : (Go.method 450 193 (.agg #[h]) "Implements").run Tryz.prog w = .ok (233, .agg #[h]) w := by kernel_rfl
theorem fp_methodAssignableTo (h : Value) (w : World) : (Go.method 450 193 (.agg #[h]) "AssignableTo").run Tryz.prog w = .ok (230, .agg #[h]) w := by kernel_rfl
theorem fp_elem (w : World) : (ReflectliteType.method ReflectliteType.elem #[.agg #[.pointer (some ⟨2, 102, none⟩)]]).run Tryz.prog w = .ok (.iface 193 (.agg #[.pointer (some ⟨2, 99, none⟩)])) w := by kernel_rfl
theorem fs_implements (w : World) : (ReflectliteType.relation "Implements" ReflectliteType.implements_ #[.agg #[.pointer (some ⟨2, 99, none⟩)], .iface 193 (.agg #[.pointer (some ⟨2, 49, none⟩)])]).run Tryz.prog w = .ok (.bool true) w := by kernel_rfl
theorem en_typeOf (v : Value) (w : World) : (ReflectliteType.typeOf #[.iface 91 v]).run Tryz.prog w = .ok (.iface 193 (.agg #[.pointer (some ⟨2, 91, none⟩)])) w := by kernel_rfl
theorem en_assignable (w : World) : (ReflectliteType.relation "AssignableTo" ReflectliteType.assignableTo #[.agg #[.pointer (some ⟨2, 91, none⟩)], .iface 193 (.agg #[.pointer (some ⟨2, 99, none⟩)])]).run Tryz.prog w = .ok (.bool false) w := by kernel_rfl
theorem en_noAs (v : Value) (xT : TypeId) (w : World) : (Instr.typeAssert (.iface 91 v) xT 211 true).run Tryz.prog w = .ok (.tuple #[.nilIface, .bool false]) w := run_typeAssert_lacksB Tryz.underlying211 (by kernel_rfl) (by kernel_rfl) v xT w
def ErrType (w : World) : Prop := w.cell? ⟨0, 0, none⟩ = some (.iface 193 (.agg #[.pointer (some ⟨2, 49, none⟩)]))
theorem ErrType.lt {w : World} (h : ErrType w) : 0 < w.heap.size := by
  rcases Nat.eq_zero_or_pos w.heap.size with h0 | h1
  · unfold ErrType at h; simp [World.cell?, h0] at h
  · exact h1
theorem ErrType.below {w w' : World} (h : ErrType w) (hb : Below w.heap.size w w') : ErrType w' := below_heap hb h
set_option maxHeartbeats 4000000 in
theorem as_miss (n : Int) (t : Addr) (w : World) (hg : ErrType w) :
    Calls Tryz.prog 43 #[errN n, .iface 102 (.pointer (some t))] w fun ev w' => ev = .returned (.bool false) ∧ Below w.heap.size w w' := by
  have h6 := @run_callFunc_extern Tryz.prog 78 _ (fun args => ReflectliteValue.unpack (args.getD 0 (.tuple #[]))) Tryz.func78 (by kernel_rfl) (by kernel_rfl) (by kernel_rfl) (by kernel_rfl)
  have h7 := @run_callFunc_extern Tryz.prog 79 _ (ReflectliteValue.methodAny (ReflectliteValue.valueError "reflectlite.Value.Type" 0) (fun t _ _ _ => ReflectliteType.toType t)) Tryz.func79 (by kernel_rfl) (by kernel_rfl) (by kernel_rfl) (by kernel_rfl)
  have h8 := @run_callFunc_extern Tryz.prog 80 _ (ReflectliteValue.method (ReflectliteValue.valueError "reflectlite.Value.IsNil" 0) ReflectliteValue.isNil) Tryz.func80 (by kernel_rfl) (by kernel_rfl) (by kernel_rfl) (by kernel_rfl)
  have h27 := @run_callFunc_extern Tryz.prog 206 _ (ReflectliteType.abiMethod fun t => do pure (.int .u8 (← Rtype.kind t))) Tryz.func206 (by kernel_rfl) (by kernel_rfl) (by kernel_rfl) (by kernel_rfl)
  have h37 := @run_callFunc_extern Tryz.prog 232 _ (ReflectliteType.method ReflectliteType.elem) Tryz.func232 (by kernel_rfl) (by kernel_rfl) (by kernel_rfl) (by kernel_rfl)
  have h38 := @run_callFunc_extern Tryz.prog 233 _ (ReflectliteType.relation "Implements" ReflectliteType.implements_) Tryz.func233 (by kernel_rfl) (by kernel_rfl) (by kernel_rfl) (by kernel_rfl)
  have h10 := @run_callFunc_extern Tryz.prog 73 _ ReflectliteType.typeOf Tryz.func73 (by kernel_rfl) (by kernel_rfl) (by kernel_rfl) (by kernel_rfl)
  have h35 := @run_callFunc_extern Tryz.prog 230 _ (ReflectliteType.relation "AssignableTo" ReflectliteType.assignableTo) Tryz.func230 (by kernel_rfl) (by kernel_rfl) (by kernel_rfl) (by kernel_rfl)
  have tO := en_typeOf
  have mA := fp_methodAssignableTo
  have a25 := en_assignable
  have f6 := fp_valueOf
  have f7 := fp_type
  have mK := fp_methodKind
  have mE := fp_methodElem
  have mI := fp_methodImplements
  have k27 := fp_kind
  have k25 := fs_kind
  have e27 := fp_elem
  have i25 := fs_implements
  have nA := en_noAs
  have nU := err_noUnwrap
  have nV := err_noUnwraps
  have n8 := fp_isNil ⟨w.heap.size, 0, none⟩ t ((w.alloc (.cells #[.pointer (some t)] 102)).alloc (.cells #[.pointer (some ⟨2, 102, none⟩), .pointer (some ⟨w.heap.size, 0, none⟩), .int .u64 150] 157)) (by simp)
  have hlt := hg.lt
  unfold ErrType at hg
  have hg2 : ((w.alloc (.cells #[.pointer (some t)] 102)).alloc (.cells #[.pointer (some ⟨2, 102, none⟩), .pointer (some ⟨w.heap.size, 0, none⟩), .int .u64 150] 157)).cell? ⟨0, 0, none⟩ = some (.iface 193 (.agg #[.pointer (some ⟨2, 49, none⟩)])) := by
    rw [World.cell?_alloc_lt _ _ ⟨0, 0, none⟩ (by simp), World.cell?_alloc_lt _ _ ⟨0, 0, none⟩ hlt]; exact hg
  unfold errN
  go_enter Tryz.func43, Tryz.ntmps43
  go_wp2
  refine wp_loop_rounds 1 ?_
  rw [rounds_succ]
  go_wp2
  go_ret
  refine ⟨rfl, ?_⟩
  repeat (refine Below.alloc ?_ (by simp <;> omega) _)
  exact Below.refl _ _
theorem plain_nil (w : World) : Calls Tryz.prog 14 #[.nilIface, .int .i64 0] w fun e w' => e = .returned (.bool true) ∧ Below w.heap.size w w' := by
  have hb := below_alloc w (.cells #[.int .i64 0, .int .i64 0] 99)
  have HB := Lib.hid hb
  clear hb
  go_enter Tryz.func14, Tryz.ntmps14
  go_wp2_with fail
  refine (num_nil _).mono ?_
  rintro e w' ⟨rfl, rfl⟩
  go_wp2_with fail
  go_ret
  exact ⟨rfl, HB.out⟩
theorem plain_calls (n : Nat) (w : World) (h1 : 1 ≤ n) (h2 : n ≤ 24) (hg : ErrType w) : Calls Tryz.prog 14 #[errN n, .int .i64 (n : Int)] w fun e w' => e = .returned (.bool true) ∧ Below w.heap.size w w' := by
  have hb := below_alloc w (.cells #[.int .i64 0, .int .i64 0] 99)
  have HB := Lib.hid hb
  have HA := Lib.hid (as_miss (n : Int) ⟨w.heap.size, 0, none⟩ _ (hg.below hb))
  have HN := Lib.hid (fun w => num_calls n w h1 h2)
  clear hb hg
  unfold errN at HA HN ⊢
  go_enter Tryz.func14, Tryz.ntmps14
  go_wp2_with fail
  refine (HN.out _).mono ?_
  rintro e w' ⟨rfl, rfl⟩
  go_wp2_with fail
  refine HA.out.mono ?_
  rintro e w' ⟨rfl, hb2⟩
  have HB2 := Lib.hid (below_trans HB.out hb2)
  clear hb2
  go_wp2_with fail
  go_ret
  exact ⟨rfl, HB2.out⟩
end Go.Proofs.YtgcnolapjppbpaaGreatDoor
namespace Go.Proofs.YtgcnolapjppbpaaGreatDoor
open Go.RowKit
set_option maxRecDepth 100000
theorem plain_any (er : Int) (w : World) (h1 : 0 ≤ er) (h2 : er ≤ 24) (hg : ErrType w) : Calls Tryz.prog 14 #[errV er, .int .i64 er] w fun e w' => e = .returned (.bool true) ∧ Below w.heap.size w w' := by
  by_cases h0 : er = 0
  · subst h0
    exact plain_nil w
  · obtain ⟨n, rfl⟩ := Int.eq_ofNat_of_zero_le h1
    have e : errV (n : Int) = errN n := by unfold errV; rw [if_neg h0]; rfl
    have := plain_calls n w (by omega) (by omega) hg
    rw [← e] at this
    exact this
end Go.Proofs.YtgcnolapjppbpaaGreatDoor
