/-
  Texts of one proof, one behind the other.
-/
import Derived.Test.YtgcnolapjppbpaaGreatDoorK27
import Derived.Test.YtgcnolapjppbpaaGreatDoorK03
import Derived.Test.YtgcnolapjppbpaaGreatDoorK45
import Derived.Test.YtgcnolapjppbpaaGreatDoorK48
namespace Go.Proofs.YtgcnolapjppbpaaGreatDoor
open Go.RowKit Go.Extern.Stop Go.Stop Go.Extern
theorem fp_valueOf (t : Addr) (w : World) : (ReflectliteValue.unpack (.iface 102 (.pointer (some t)))).run Tryz.prog w
    = .ok (.agg #[.pointer (some ⟨2, 102, none⟩), .pointer (some ⟨w.heap.size, 0, none⟩), .int .u64 150]) (w.alloc (.cells #[.pointer (some t)] 102)) := by kernel_rfl
theorem fp_type (a : Addr) (w : World) : (ReflectliteValue.methodAny (ReflectliteValue.valueError "reflectlite.Value.Type" 0) (fun t _ _ _ => ReflectliteType.toType t) #[.agg #[.pointer (some ⟨2, 102, none⟩), .pointer (some a), .int .u64 150]]).run Tryz.prog w
    = .ok (.iface 193 (.agg #[.pointer (some ⟨2, 102, none⟩)])) w := by kernel_rfl
theorem fp_methodKind (h : Value) (w : World) : (Go.method 450 193 (.agg #[h]) "Kind").run Tryz.prog w = .ok (206, h) w := by kernel_rfl
theorem fp_kind (w : World) : ((ReflectliteType.abiMethod fun t => (fun a : Nat => Value.int IntKind.u8 (a : Int)) <$> Rtype.kind t) #[.pointer (some ⟨2, 102, none⟩)]).run Tryz.prog w = .ok (.int .u8 22) w := by kernel_rfl
theorem fs_kind (w : World) : ((ReflectliteType.abiMethod fun t => (fun a : Nat => Value.int IntKind.u8 (a : Int)) <$> Rtype.kind t) #[.pointer (some ⟨2, 99, none⟩)]).run Tryz.prog w = .ok (.int .u8 25) w := by kernel_rfl
theorem rlm (z : Sem Value) (f : TypeId → Addr → Nat → Nat → Sem Value) (v : Value) :
    ReflectliteValue.method z f #[v] = (do match ← ReflectliteValue.parts v with | none => z | some (t, a, fl) => f t a fl (fl % 32)) := rfl
theorem fp_parts (a : Addr) (w : World) : (ReflectliteValue.parts (.agg #[.pointer (some ⟨2, 102, none⟩), .pointer (some a), .int .u64 150])).run Tryz.prog w = .ok (some (102, a, 150)) w := by kernel_rfl
theorem fp_isNil (a p : Addr) (W : World) (ha : W.cell? a = some (.pointer (some p))) :
    (ReflectliteValue.method (ReflectliteValue.valueError "reflectlite.Value.IsNil" 0) ReflectliteValue.isNil #[.agg #[.pointer (some ⟨2, 102, none⟩), .pointer (some a), .int .u64 150]]).run Tryz.prog W = .ok (.bool false) W := by
  rw [rlm]
  simp only [Sem.run_bind, fp_parts, Result.andThen]
  simp [ReflectliteValue.isNil, loadVar, isAgg, underlying, Tryz.underlying102, ha, Result.andThen]
theorem fp_methodElem (h : Value) (w : World) : (Go.method 450 193 (.agg #[h]) "Elem").run Tryz.prog w = .ok (232, .agg #[h]) w := by kernel_rfl
theorem fp_methodImplements (h : Value) (w : World) : (Go.method 450 193 (.agg #[h]) "Implements").run Tryz.prog w = .ok (233, .agg #[h]) w := by kernel_rfl
theorem fp_methodAssignableTo (h : Value) (w : World) : (Go.method 450 193 (.agg #[h]) "AssignableTo").run Tryz.prog w = .ok (230, .agg #[h]) w := by kernel_rfl
theorem fp_elem (w : World) : (ReflectliteType.method ReflectliteType.elem #[.agg #[.pointer (some ⟨2, 102, none⟩)]]).run Tryz.prog w = .ok (.iface 193 (.agg #[.pointer (some ⟨2, 99, none⟩)])) w := by kernel_rfl
theorem fs_implements (w : World) : (ReflectliteType.relation "Implements" ReflectliteType.implements_ #[.agg #[.pointer (some ⟨2, 99, none⟩)], .iface 193 (.agg #[.pointer (some ⟨2, 49, none⟩)])]).run Tryz.prog w = .ok (.bool true) w := by kernel_rfl
theorem en_typeOf (v : Value) (w : World) : (ReflectliteType.typeOf #[.iface 91 v]).run Tryz.prog w = .ok (.iface 193 (.agg #[.pointer (some ⟨2, 91, none⟩)])) w := by kernel_rfl
theorem en_assignable (w : World) : (ReflectliteType.relation "AssignableTo" ReflectliteType.assignableTo #[.agg #[.pointer (some ⟨2, 91, none⟩)], .iface 193 (.agg #[.pointer (some ⟨2, 99, none⟩)])]).run Tryz.prog w = .ok (.bool false) w := by kernel_rfl
theorem en_noAs (v : Value) (xT : TypeId) (w : World) : (Instr.typeAssert (.iface 91 v) xT 211 true).run Tryz.prog w = .ok (.tuple #[.nilIface, .bool false]) w := run_typeAssert_lacksB Tryz.underlying211 (by kernel_rfl) (by kernel_rfl) v xT w
def ErrType (w : World) : Prop := w.cell? ⟨0, 0, none⟩ = some (.iface 193 (.agg #[.pointer (some ⟨2, 49, none⟩)]))
theorem ErrType.lt {w : World} (h : ErrType w) : 0 < w.heap.size := by
  rcases Nat.eq_zero_or_pos w.heap.size with h0 | h1
  · unfold ErrType at h; simp [World.cell?, h0] at h
  · exact h1
theorem ErrType.below {w w' : World} (h : ErrType w) (hb : Below w.heap.size w w') : ErrType w' := below_heap hb h
set_option maxHeartbeats 4000000 in
theorem as_miss (n : Int) (t : Addr) (w : World) (hg : ErrType w) :
    Calls Tryz.prog 43 #[errN n, .iface 102 (.pointer (some t))] w fun ev w' => ev = .returned (.bool false) ∧ Below w.heap.size w w' := by
  have h6 := @run_callFunc_extern Tryz.prog 78 _ (fun args => ReflectliteValue.unpack (args.getD 0 (.tuple #[]))) Tryz.func78 (by kernel_rfl) (by kernel_rfl) (by kernel_rfl) (by kernel_rfl)
  have h7 := @run_callFunc_extern Tryz.prog 79 _ (ReflectliteValue.methodAny (ReflectliteValue.valueError "reflectlite.Value.Type" 0) (fun t _ _ _ => ReflectliteType.toType t)) Tryz.func79 (by kernel_rfl) (by kernel_rfl) (by kernel_rfl) (by kernel_rfl)
  have h8 := @run_callFunc_extern Tryz.prog 80 _ (ReflectliteValue.method (ReflectliteValue.valueError "reflectlite.Value.IsNil" 0) ReflectliteValue.isNil) Tryz.func80 (by kernel_rfl) (by kernel_rfl) (by kernel_rfl) (by kernel_rfl)
  have h27 := @run_callFunc_extern Tryz.prog 206 _ (ReflectliteType.abiMethod fun t => do pure (.int .u8 (← Rtype.kind t))) Tryz.func206 (by kernel_rfl) (by kernel_rfl) (by kernel_rfl) (by kernel_rfl)
  have h37 := @run_callFunc_extern Tryz.prog 232 _ (ReflectliteType.method ReflectliteType.elem) Tryz.func232 (by kernel_rfl) (by kernel_rfl) (by kernel_rfl) (by kernel_rfl)
  have h38 := @run_callFunc_extern Tryz.prog 233 _ (ReflectliteType.relation "Implements" ReflectliteType.implements_) Tryz.func233 (by kernel_rfl) (by kernel_rfl) (by kernel_rfl) (by kernel_rfl)
  have h10 := @run_callFunc_extern Tryz.prog 73 _ ReflectliteType.typeOf Tryz.func73 (by kernel_rfl) (by kernel_rfl) (by kernel_rfl) (by kernel_rfl)
  have h35 := @run_callFunc_extern Tryz.prog 230 _ (ReflectliteType.relation "AssignableTo" ReflectliteType.assignableTo) Tryz.func230 (by kernel_rfl) (by kernel_rfl) (by kernel_rfl) (by kernel_rfl)
  have tO := en_typeOf
  have mA := fp_methodAssignableTo
  have a25 := en_assignable
  have f6 := fp_valueOf
  have f7 := fp_type
  have mK := fp_methodKind
  have mE := fp_methodElem
  have mI := fp_methodImplements
  have k27 := fp_kind
  have k25 := fs_kind
  have e27 := fp_elem
  have i25 := fs_implements
  have nA := en_noAs
  have nU := err_noUnwrap
  have nV := err_noUnwraps
  have n8 := fp_isNil ⟨w.heap.size, 0, none⟩ t ((w.alloc (.cells #[.pointer (some t)] 102)).alloc (.cells #[.pointer (some ⟨2, 102, none⟩), .pointer (some ⟨w.heap.size, 0, none⟩), .int .u64 150] 157)) (by simp)
  have hlt := hg.lt
  unfold ErrType at hg
  have hg2 : ((w.alloc (.cells #[.pointer (some t)] 102)).alloc (.cells #[.pointer (some ⟨2, 102, none⟩), .pointer (some ⟨w.heap.size, 0, none⟩), .int .u64 150] 157)).cell? ⟨0, 0, none⟩ = some (.iface 193 (.agg #[.pointer (some ⟨2, 49, none⟩)])) := by
    rw [World.cell?_alloc_lt _ _ ⟨0, 0, none⟩ (by simp), World.cell?_alloc_lt _ _ ⟨0, 0, none⟩ hlt]; exact hg
  unfold errN
  go_enter Tryz.func43, Tryz.ntmps43
  go_wp2
  refine wp_loop_rounds 1 ?_
  rw [rounds_succ]
  go_wp2
  go_ret
  refine ⟨rfl, ?_⟩
  repeat (refine Below.alloc ?_ (by simp <;> omega) _)
  exact Below.refl _ _
theorem plain_nil (w : World) : Calls Tryz.prog 14 #[.nilIface, .int .i64 0] w fun e w' => e = .returned (.bool true) ∧ Below w.heap.size w w' := by
  have hb := below_alloc w (.cells #[.int .i64 0, .int .i64 0] 99)
  have HB := Lib.hid hb
  clear hb
  go_enter Tryz.func14, Tryz.ntmps14
  go_wp2_with fail
  refine (num_nil _).mono ?_
  rintro e w' ⟨rfl, rfl⟩
  go_wp2_with fail
  go_ret
  exact ⟨rfl, HB.out⟩
theorem plain_calls (n : Nat) (w : World) (h1 : 1 ≤ n) (h2 : n ≤ 24) (hg : ErrType w) : Calls Tryz.prog 14 #[errN n, .int .i64 (n : Int)] w fun e w' => e = .returned (.bool true) ∧ Below w.heap.size w w' := by
  have hb := below_alloc w (.cells #[.int .i64 0, .int .i64 0] 99)
  have HB := Lib.hid hb
  have HA := Lib.hid (as_miss (n : Int) ⟨w.heap.size, 0, none⟩ _ (hg.below hb))
  have HN := Lib.hid (fun w => num_calls n w h1 h2)
  clear hb hg
  unfold errN at HA HN ⊢
  go_enter Tryz.func14, Tryz.ntmps14
  go_wp2_with fail
  refine (HN.out _).mono ?_
  rintro e w' ⟨rfl, rfl⟩
  go_wp2_with fail
  refine HA.out.mono ?_
  rintro e w' ⟨rfl, hb2⟩
  have HB2 := Lib.hid (below_trans HB.out hb2)
  clear hb2
  go_wp2_with fail
  go_ret
  exact ⟨rfl, HB2.out⟩
end Go.Proofs.YtgcnolapjppbpaaGreatDoor
namespace Go.Proofs.YtgcnolapjppbpaaGreatDoor
open Go.RowKit
set_option maxRecDepth 100000
theorem plain_any (er : Int) (w : World) (h1 : 0 ≤ er) (h2 : er ≤ 24) (hg : ErrType w) : Calls Tryz.prog 14 #[errV er, .int .i64 er] w fun e w' => e = .returned (.bool true) ∧ Below w.heap.size w w' := by
  by_cases h0 : er = 0
  · subst h0
    exact plain_nil w
  · obtain ⟨n, rfl⟩ := Int.eq_ofNat_of_zero_le h1
    have e : errV (n : Int) = errN n := by unfold errV; rw [if_neg h0]; rfl
    have := plain_calls n w (by omega) (by omega) hg
    rw [← e] at this
    exact this
end Go.Proofs.YtgcnolapjppbpaaGreatDoor
namespace Go.Proofs.YtgcnolapjppbpaaGreatDoor
open Go.RowKit
set_option maxRecDepth 100000
theorem wf_small {d : DiskM} (h : d.Wf) : ∀ s ∈ d.strs, s.size ≤ 256 := by
  have : ∀ (l : List (Int × ByteArray)) (s : List ByteArray), (∀ r ∈ l, r.2.size ≤ 256) → (∀ x ∈ s, x.size ≤ 256) → ∀ x ∈ playRaws s l, x.size ≤ 256 := by
    intro l
    induction l with
    | nil => intro s _ h2; exact h2
    | cons r l ih =>
      intro s h1 h2
      have : playRaws s (r :: l) = playRaws (s.set r.1.toNat r.2) l := rfl
      rw [this]
      refine ih _ (fun r' hr => h1 r' (by simp [hr])) fun x hx => ?_
      rcases List.mem_or_eq_of_mem_set hx with h | rfl
      · exact h2 x h
      · exact h1 r (by simp)
  have h1 := this d.trail (List.replicate d.strs.length ByteArray.empty) h.short (fun x hx => by rw [(List.mem_replicate.1 hx).2]; exact Nat.zero_le _)
  rw [← h.play] at h1
  exact h1
theorem fresh26_calls (w : World) : Calls Tryz.prog 7 #[] w fun e w' => ∃ p F, e = .returned (.pointer (some ⟨p, 0, none⟩)) ∧
    IsDisk w' { strs := List.replicate 65 ByteArray.empty, trail := [], left := none } p F ∧ Below w.heap.size w w' ∧ ∀ k, F k → w.heap.size ≤ k := by
  have H := Lib.hid (new_yes 65 w (by decide) (by decide))
  go_enter Tryz.func7, Tryz.ntmps7
  go_wp2_with fail
  refine H.out.mono ?_
  rintro r w1 ⟨p, F, rfl, hd, hb, hF⟩
  rw [show errV 0 = .nilIface from rfl]
  have HN := Lib.hid (And.intro hd (And.intro hb hF))
  clear hd hb hF
  go_wp2_with fail
  go_ret
  exact ⟨p, F, rfl, HN.out.1, HN.out.2.1, HN.out.2.2⟩
def loginS (birth slot : Int) : EvtM := ⟨0, ⟨slot, birth, 0, 0, 0, [97, 110, 110], [], 7, 1, 0, 1000, 0⟩, 0, 0⟩
set_option maxHeartbeats 1600000 in
theorem login26_calls (bi sl : Int) (w : World) :
    Calls Tryz.prog 34 #[.int .i64 bi, .int .i64 sl] w fun e w' => e = .returned (.agg (loginS bi sl).cells) ∧ Below w.heap.size w w' := by
  obtain ⟨hset, hth⟩ := (Box.new w #[.int .i64 0, .int .i64 0, .int .i64 0, .int .i64 0, .int .i64 0, .int .i64 0, .string ⟨#[]⟩, .string ⟨#[]⟩, .int .u64 0, .int .i64 0, .int .i64 0, .int .i64 0, .int .i64 0, .int .i64 0, .int .i64 0] 47).setAllE rfl (loginS bi sl)
  have HTH := Lib.hid hth
  have HSE := Lib.hid hset
  have HB := Lib.hid (below_alloc w (.cells #[.int .i64 0, .int .i64 0, .int .i64 0, .int .i64 0, .int .i64 0, .int .i64 0, .string ⟨#[]⟩, .string ⟨#[]⟩, .int .u64 0, .int .i64 0, .int .i64 0, .int .i64 0, .int .i64 0, .int .i64 0, .int .i64 0] 47))
  clear hset hth
  go_enter Tryz.func34, Tryz.ntmps34
  go_wp2_with ((with_reducible refine wpList_store_k ?a0 47 (.tmp 4) (.tmp 8) ?a1 w.heap.size 0 (loginS bi sl).cells.toList ?a2 (loginS bi sl).cells ?a3 (EvtM.listE _) HTH.out ?a6 ?a7 ?a8); (case a1 => rfl); (case a0 => rfl); (case a2 => rfl); (case a3 => rfl); (case a6 => kernel_rfl); (case a7 => exact EvtM.oneE _))
  intro w2 hw2
  rw [← hw2.out] at HSE
  have HB2 := Lib.hid (show Below w.heap.size w w2 by
    rw [hw2.out]
    generalize (loginS bi sl).cells.toList = L
    exact HB.out.trans ((Mod.setCells (fun q => q = w.heap.size) w.heap.size rfl L 0 _).below HB.out.size (fun i hi => Nat.le_of_eq hi.symm)))
  clear hw2 HTH HB
  go_wp2_with fail
  exact ret_cell rfl rfl w.heap.size 0 rfl (loginS bi sl).cells.toList _ (Box.rangeV HSE.out) Tryz.underlying47 rfl (by kernel_rfl) ⟨rfl, HB2.out⟩
set_option maxHeartbeats 6400000 in
theorem applied_calls (st : StM) (e : EvtM) (v : Value) (w : World) (hv : RdS w v st.l) (hn : st.l.length ≤ 1000000000) (hu : e.s.user.length ≤ 9223372036854775807) (hl : e.s.label.length ≤ 9223372036854775807) (hsc : e.s.scopes < 2 ^ 64) :
    Calls Tryz.prog 12 #[.agg #[.int .i64 st.clock, .int .i64 st.births, v], .agg e.cells] w fun ev w' => ∃ o, ev = .returned (.tuple #[.agg #[.int .i64 (applyM st e).2.clock, .int .i64 (applyM st e).2.births, o], .bool ((applyM st e).1 == 0)]) ∧ OwnS w' w.heap.size o (applyM st e).2.l ∧ Below w.heap.size w w' := by
  have hap := fun v' w' h => apply_calls st e v' w' h hn hu hl hsc
  obtain ⟨va, vc, rfl, _⟩ := hv.slice
  obtain ⟨D, hD⟩ : ∃ D, D = applyM st e := ⟨_, rfl⟩
  rw [← hD] at hap ⊢
  obtain ⟨er, C, B, L⟩ := D
  simp only at hap ⊢
  obtain ⟨n, hn2⟩ : ∃ n, n = st.l.length := ⟨_, rfl⟩
  rw [← hn2] at hv ⊢
  obtain ⟨c, hc⟩ : ∃ c, c = st.clock := ⟨_, rfl⟩
  obtain ⟨b, hb⟩ : ∃ b, b = st.births := ⟨_, rfl⟩
  rw [← hc, ← hb] at hap ⊢
  have hb1 := below_two w (.cells #[.int .i64 c, .int .i64 b, .slice va n vc] 30) (.cells e.cells 47)
  have hb2 := hb1.trans ((below_alloc ((w.alloc (.cells #[.int .i64 c, .int .i64 b, .slice va n vc] 30)).alloc (.cells e.cells 47)) (.cells #[.int .i64 0, .int .i64 0, .slice none 0 0] 30)).mono hb1.size)
  have hxe := (Box.new (w.alloc (.cells #[.int .i64 c, .int .i64 b, .slice va n vc] 30)) e.cells 47).below (below_alloc _ (.cells #[.int .i64 0, .int .i64 0, .slice none 0 0] 30))
  have hxz := Box.new ((w.alloc (.cells #[.int .i64 c, .int .i64 b, .slice va n vc] 30)).alloc (.cells e.cells 47)) #[.int .i64 0, .int .i64 0, .slice none 0 0] 30
  rw [World.size_alloc] at hxe
  rw [World.size_alloc, World.size_alloc] at hxz
  have HXE := Lib.hid (box_range hxe)
  have HXZ := Lib.hid hxz
  have HB := Lib.hid hb2
  have HR := Lib.hid (hv.below hb2)
  have HAP := Lib.hid hap
  clear hD hv hn hu hl hsc hap hn2 hc hb hb1 hb2 hxe hxz
  go_enter Tryz.func12, Tryz.ntmps12
  go_wp2_with ((with_reducible refine wpList_load_k ?b01 47 (.tmp 3) ?b11 (w.heap.size + 1) 0 ?b21 e.cells.toList _ HXE.out Tryz.underlying47 ?b31 ?b41 ?b81); (case b11 => rfl); (case b01 => rfl); (case b21 => rfl); (case b31 => rfl); (case b41 => kernel_rfl))
  intro cv hcv
  have ecv : cv = e.cells := by rw [hcv.out]
  subst ecv
  clear hcv
  go_wp2_with fail
  obtain ⟨w1, hw1⟩ : ∃ w1, w1 = ((w.alloc (.cells #[.int .i64 c, .int .i64 b, .slice va n vc] 30)).alloc (.cells e.cells 47)).alloc (.cells #[.int .i64 0, .int .i64 0, .slice none 0 0] 30) := ⟨_, rfl⟩
  rw [← hw1] at HXZ HB HR ⊢
  clear hw1 HXE
  refine (HAP.out _ w1 HR.out).mono ?_
  rintro ev w2 ⟨o, rfl, ho, hb⟩
  obtain ⟨oa, oc, rfl, _⟩ := ho.slice
  obtain ⟨m, hm⟩ : ∃ m, m = L.length := ⟨_, rfl⟩
  rw [← hm] at ho ⊢
  have hba := below_alloc w2 (.cells #[.int .i64 C, .int .i64 B, .slice oa m oc] 30)
  have HX := Lib.hid (Box.new w2 #[.int .i64 C, .int .i64 B, .slice oa m oc] 30)
  have HZ := Lib.hid ((HXZ.out.below hb).below hba)
  have hb3 := HB.out.trans (hb.mono HB.out.size)
  have HB3 := Lib.hid (hb3.trans (hba.mono hb3.size))
  have HO := Lib.hid ((ho.below hba).base (base' := w.heap.size) HB.out.size)
  have HOL := Lib.hid (show ∀ k, (Value.slice oa m oc).ownBlock = some k → w.heap.size + 2 < k from fun k hk => by have := (ho.lt k hk).1; have := HXZ.out.lt; omega)
  have HQ := Lib.hid (show w.heap.size + 2 < w2.heap.size from Nat.lt_of_lt_of_le HXZ.out.lt hb.size)
  clear ho hb hba hb3 hm HXZ HB HR HAP
  go_wp2_with fail
  obtain ⟨wr, hwr⟩ : ∃ wr, wr = w2.alloc (.cells #[.int .i64 C, .int .i64 B, .slice oa m oc] 30) := ⟨_, rfl⟩
  rw [← hwr] at HX HZ HB3 HO ⊢
  obtain ⟨q, hq⟩ : ∃ q, q = w2.heap.size := ⟨_, rfl⟩
  rw [← hq] at HX HQ ⊢
  clear hwr hq
  by_cases h0 : er = 0
  · subst h0
    rw [show errV 0 = .nilIface from rfl]
    refine wp_region_held_drew (S := fun W => Box W q #[.int .i64 C, .int .i64 B, .slice oa m oc] 30) (by kernel_rfl) (HX.out.below (below_drew wr)) (fun hHeld => ?_)
    refine wpAnyH_take (i := 0) (oi := ⟨some 14, .load _ _, _, _, _, _⟩) (v := .agg #[.int .i64 C, .int .i64 B, .slice oa m oc]) rfl (by kernel_rfl) (by kernel_rfl) (by kernel_rfl) (fun _ _ _ h => h) (Or.inl ⟨by kernel_rfl, fun w' hw' => exec_load_m 30 (.tmp 6) rfl (q) (0) rfl (#[.int .i64 C, .int .i64 B, .slice oa m oc]).toList _ (zrangeS hw') Tryz.underlying30 rfl (by kernel_rfl)⟩) (by assumption) ?_
    try simp only [Act.put, List.setIfInBounds_toArray, List.set_cons_zero, List.set_cons_succ]
    refine wpAnyH_take (i := 1) (oi := ⟨some 15, _, _, _, _, _⟩) (v := ?_) rfl (by kernel_rfl) (by kernel_rfl) (by kernel_rfl) (fun _ _ _ h => h) (Or.inl ⟨by kernel_rfl, ?_⟩) (by assumption) ?_
    rotate_left 1
    · intro w' hw'; clear hw'; go_simp; try with_reducible rfl
    try simp only [Act.put, List.setIfInBounds_toArray, List.set_cons_zero, List.set_cons_succ]
    refine wpAnyH_take (i := 2) (oi := ⟨some 16, _, _, _, _, _⟩) (v := ?_) rfl (by kernel_rfl) (by kernel_rfl) (by kernel_rfl) (fun _ _ _ h => h) (Or.inl ⟨by kernel_rfl, ?_⟩) (by assumption) ?_
    rotate_left 1
    · intro w' hw'; clear hw'; go_simp; try with_reducible rfl
    try simp only [Act.put, List.setIfInBounds_toArray, List.set_cons_zero, List.set_cons_succ]
    refine wpAnyH_ready (rs := [3]) (by kernel_rfl) (by simp) (AllReadyH.cons (o := ⟨none, .store 30 (.tmp 4) (.tmp 14), _, _, _, none⟩) rfl (fun K hK => ?_) AllReadyH.nil)
    rw [if_pos (by kernel_rfl)]
    refine wp_store_kk 30 (.tmp 4) (.tmp 14) rfl (w.heap.size + 1 + 1) 0 [.int .i64 C, .int .i64 B, .slice oa m oc] rfl rfl (HZ.out.below (below_drew wr)).there3 (by kernel_rfl) (one3 _ _ _ _ _) ?_
    obtain ⟨hx9, hm9⟩ := (HZ.out.below (below_drew wr)).set3 (.int .i64 C) (.int .i64 B) (.slice oa m oc)
    have hb9 := HB3.out.trans ((below_drew wr).mono HB3.out.size)
    refine hK.out _ _ (hHeld.mod hm9 (by have := HQ.out; omega)) (fun hS9 => ?_)
    have HF := Lib.hid (And.intro hx9 (And.intro ((HO.out.below (below_drew wr)).mod hm9 (fun k hk e => by have := HOL.out k hk; omega)) (hb9.trans (hm9.below hb9.size (fun i hi => by omega)))))
    clear hK K hx9 hm9 hb9
    generalize (World.setCells _ _ _ _) = w9 at HF hS9 ⊢
    try simp only [Act.put]
    refine wpAnyH_take (i := 4) (oi := ⟨some 5, _, _, _, _, _⟩) (v := ?_) rfl (by kernel_rfl) (by kernel_rfl) (by kernel_rfl) (fun _ _ _ h => h) (Or.inl ⟨by kernel_rfl, ?_⟩) (by assumption) ?_
    rotate_left 1
    · intro w' hw'; clear hw'; go_simp; try with_reducible rfl
    try simp only [Act.put, List.setIfInBounds_toArray, List.set_cons_zero, List.set_cons_succ]
    refine wpAnyH_done (by kernel_rfl) ?_ _
    clear hHeld hS9
    go_wp2_with fail
    exact ret_cell_tmp rfl rfl (w.heap.size + 1 + 1) 0 rfl [.int .i64 C, .int .i64 B, .slice oa m oc] _ (zrangeS HF.out.1) Tryz.underlying30 rfl (by kernel_rfl) _ rfl ⟨_, rfl, HF.out.2.1, HF.out.2.2⟩
  rw [show errV er = .iface 91 (.int .i64 er) from if_neg h0]
  have HE := Lib.hid (show (er == 0) = false by simpa using h0)
  clear h0
  refine wp_region_held_drew (S := fun W => Box W q #[.int .i64 C, .int .i64 B, .slice oa m oc] 30) (by kernel_rfl) (HX.out.below (below_drew wr)) (fun hHeld => ?_)
  refine wpAnyH_take (i := 0) (oi := ⟨some 14, .load _ _, _, _, _, _⟩) (v := .agg #[.int .i64 C, .int .i64 B, .slice oa m oc]) rfl (by kernel_rfl) (by kernel_rfl) (by kernel_rfl) (fun _ _ _ h => h) (Or.inl ⟨by kernel_rfl, fun w' hw' => exec_load_m 30 (.tmp 6) rfl (q) (0) rfl (#[.int .i64 C, .int .i64 B, .slice oa m oc]).toList _ (zrangeS hw') Tryz.underlying30 rfl (by kernel_rfl)⟩) (by assumption) ?_
  try simp only [Act.put, List.setIfInBounds_toArray, List.set_cons_zero, List.set_cons_succ]
  refine wpAnyH_take (i := 1) (oi := ⟨some 15, _, _, _, _, _⟩) (v := ?_) rfl (by kernel_rfl) (by kernel_rfl) (by kernel_rfl) (fun _ _ _ h => h) (Or.inl ⟨by kernel_rfl, ?_⟩) (by assumption) ?_
  rotate_left 1
  · intro w' hw'; clear hw'; go_simp; try with_reducible rfl
  try simp only [Act.put, List.setIfInBounds_toArray, List.set_cons_zero, List.set_cons_succ]
  refine wpAnyH_take (i := 2) (oi := ⟨some 16, _, _, _, _, _⟩) (v := ?_) rfl (by kernel_rfl) (by kernel_rfl) (by kernel_rfl) (fun _ _ _ h => h) (Or.inl ⟨by kernel_rfl, ?_⟩) (by assumption) ?_
  rotate_left 1
  · intro w' hw'; clear hw'; go_simp; try with_reducible rfl
  try simp only [Act.put, List.setIfInBounds_toArray, List.set_cons_zero, List.set_cons_succ]
  refine wpAnyH_ready (rs := [3]) (by kernel_rfl) (by simp) (AllReadyH.cons (o := ⟨none, .store 30 (.tmp 4) (.tmp 14), _, _, _, none⟩) rfl (fun K hK => ?_) AllReadyH.nil)
  rw [if_pos (by kernel_rfl)]
  refine wp_store_kk 30 (.tmp 4) (.tmp 14) rfl (w.heap.size + 1 + 1) 0 [.int .i64 C, .int .i64 B, .slice oa m oc] rfl rfl (HZ.out.below (below_drew wr)).there3 (by kernel_rfl) (one3 _ _ _ _ _) ?_
  obtain ⟨hx9, hm9⟩ := (HZ.out.below (below_drew wr)).set3 (.int .i64 C) (.int .i64 B) (.slice oa m oc)
  have hb9 := HB3.out.trans ((below_drew wr).mono HB3.out.size)
  refine hK.out _ _ (hHeld.mod hm9 (by have := HQ.out; omega)) (fun hS9 => ?_)
  have HF := Lib.hid (And.intro hx9 (And.intro ((HO.out.below (below_drew wr)).mod hm9 (fun k hk e => by have := HOL.out k hk; omega)) (hb9.trans (hm9.below hb9.size (fun i hi => by omega)))))
  clear hK K hx9 hm9 hb9
  generalize (World.setCells _ _ _ _) = w9 at HF hS9 ⊢
  try simp only [Act.put]
  refine wpAnyH_take (i := 4) (oi := ⟨some 5, _, _, _, _, _⟩) (v := ?_) rfl (by kernel_rfl) (by kernel_rfl) (by kernel_rfl) (fun _ _ _ h => h) (Or.inl ⟨by kernel_rfl, ?_⟩) (by assumption) ?_
  rotate_left 1
  · intro w' hw'; clear hw'; go_simp; try with_reducible rfl
  try simp only [Act.put, List.setIfInBounds_toArray, List.set_cons_zero, List.set_cons_succ]
  refine wpAnyH_done (by kernel_rfl) ?_ _
  clear hHeld hS9
  go_wp2_with fail
  exact ret_cell_tmp rfl rfl (w.heap.size + 1 + 1) 0 rfl [.int .i64 C, .int .i64 B, .slice oa m oc] _ (zrangeS HF.out.1) Tryz.underlying30 rfl (by kernel_rfl) _ rfl ⟨_, by rw [HE.out]; rfl, HF.out.2.1, HF.out.2.2⟩
end Go.Proofs.YtgcnolapjppbpaaGreatDoor
