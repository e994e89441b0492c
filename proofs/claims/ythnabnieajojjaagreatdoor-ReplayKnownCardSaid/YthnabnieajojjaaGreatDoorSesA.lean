/-
  Lists of sessions: append, CopySessions, CopyState.
-/
import Derived.Test.YthnabnieajojjaaGreatDoorSesL
import Derived.Test.YthnabnieajojjaaGreatDoorKitB0
import Derived.Deep.LoopGhost
namespace Go.Proofs.YthnabnieajojjaaGreatDoor
open Go.RowKit
set_option maxRecDepth 100000

theorem info_ses : (Tryz.prog.info? 36).map (fun i => (i.zero, i.size, i.bytes)) = some (some (.agg #[.int .i64 0, .int .i64 0, .int .i64 0, .int .i64 0, .int .i64 0, .string ⟨#[]⟩, .string ⟨#[]⟩, .int .u64 0, .int .i64 0, .int .i64 0, .int .i64 0, .int .i64 0]), 12, 112) := by kernel_rfl
/-- A list of sessions that a call owns. -/
def OwnS (w : World) (base : Nat) (v : Value) (l : List SesM) : Prop := w.ownsRow base 36 12 v l.length (flatS l)
theorem OwnS.nil (w : World) (base : Nat) : OwnS w base (.slice none 0 0) [] := ⟨rfl, .inl ⟨rfl, rfl⟩⟩
theorem OwnS.rd {w : World} {base : Nat} {v : Value} {l : List SesM} (h : OwnS w base v l) : RdS w v l := rd_of_own h
theorem OwnS.below {w w' : World} {base : Nat} {v : Value} {l : List SesM} (h : OwnS w base v l) (hb : Below w.heap.size w w') : OwnS w' base v l := own_below h hb
theorem OwnS.slice {w : World} {base : Nat} {v : Value} {l : List SesM} (h : OwnS w base v l) : ∃ a cap, v = .slice a l.length cap ∧ l.length ≤ cap := by
  obtain ⟨a, cap, h1, h2, _⟩ := h.rd.slice; exact ⟨a, cap, h1, h2⟩
theorem OwnS.lt {w : World} {base : Nat} {v : Value} {l : List SesM} (h : OwnS w base v l) : ∀ k, v.ownBlock = some k → base ≤ k ∧ k < w.heap.size := own_lt h
theorem OwnS.mod {w w' : World} {base : Nat} {v : Value} {l : List SesM} {F : Nat → Prop} (h : OwnS w base v l) (hm : Mod F w w') (hb : ∀ k, v.ownBlock = some k → ¬ F k) : OwnS w' base v l := own_mod h hm hb
theorem OwnS.base {w : World} {base base' : Nat} {v : Value} {l : List SesM} (h : OwnS w base v l) (hb : base' ≤ base) : OwnS w base' v l := own_base h hb
theorem wpList_buildSlice_s {P : Program} {ops : Array Oper} {rest : List Oper} {op : Oper} {a : Act} {w : World} {Q : Exit → Act → World → Prop} (hw : Region.wanted op (yielded ops a.tmps) = true) (t : TypeId) (n : Nat) (parts : Array (Nat × Operand)) (ho : op.op = .buildSlice t n parts)
    (vals : Array (Nat × Value)) (hv : (parts.map fun (i, x) => (i, a.eval x)) = vals) (cs : Array Value) (e : TypeId) (hr : (Instr.buildSlice t n vals).run P w = .ok (.slice (some ⟨w.heap.size, 0, none⟩) n n) (w.alloc (.cells cs e)))
    (h : ∀ w', Hid (w' = w.alloc (.cells cs e)) → wpList P ops Q rest (a.put op.dst (.slice (some ⟨w.heap.size, 0, none⟩) n n)) w') : wpList P ops Q (op :: rest) a w := by
  rw [wpList, if_pos hw]
  refine .inl ?_
  unfold Oper.wp execOp
  simp only [ho, Sem.run_bind, hv, hr, Result.andThen_ok, Sem.run_pure]
  exact h _ (Lib.hid rfl)
theorem buildS (s : SesM) (w : World) : (Instr.buildSlice 23 1 #[(0, .agg s.cells)]).run Tryz.prog w = .ok (.slice (some ⟨w.heap.size, 0, none⟩) 1 1) (w.alloc (.cells s.cells 36)) := by kernel_rfl
/-- 'append(s, x)' of one session onto sessions that the call owns. -/
theorem appSes {w : World} {ops : Array Oper} {rest : List Oper} {o : Oper} {a : Act} {Q : Exit → Act → World → Prop} (hgd : o.guard = none) (s x : Operand)
    (ho : o.op = .call { callee := .builtin .append, args := #[s, x], argTypes := #[23, 23] })
    (base : Nat) (v : Value) (l : List SesM) (hs : a.eval s = v) (hown : OwnS w base v l)
    (ad : Addr) (c : Nat) (y : SesM) (hx : a.eval x = .slice (some ad) 1 c) (hy : ∀ j u, y.cells.toList[j]? = some u → w.cell? (ad.add j) = some u)
    (hroom : l.length + 1 ≤ 1256584717458) (hbase : base ≤ w.heap.size)
    (h : ∀ v' w', OwnS w' base v' (l ++ [y]) → w.grownBy w' v.ownBlock → Moved w v v' → wpList Tryz.prog ops Q rest (a.put o.dst v') w') : wpList Tryz.prog ops Q (o :: rest) a w := by
  obtain ⟨i0, hi, hz0, hz1, hz2⟩ := info_parts info_ses
  refine wpList_append_own2 hgd s x 23 ho base 36 i0 _ 12 112 Tryz.underlying23 hi hz0 hz1 hz2 rfl (by decide) v l.length (flatS l) hs hown ad 1 c y.cells.toList hx rfl hy y.oneS (by unfold maxLen; omega) (by omega) hbase (fun v' w' h1 h2 h3 => h v' w' ?_ h2 h3)
  unfold OwnS
  rw [flatS_append, flatS_one, List.length_append]; exact h1
theorem newCells (w : World) (s : SesM) (t : TypeId) : ∀ j u, s.cells.toList[j]? = some u → (w.alloc (.cells s.cells t)).cell? ((⟨w.heap.size, 0, none⟩ : Addr).add j) = some u := fun j u hj => World.news_of_block (heap_alloc_new w (.cells s.cells t)) j u hj
set_option maxHeartbeats 1600000 in
theorem copySes_calls (v : Value) (l : List SesM) (w : World) (hv : RdS w v l) (hn : l.length ≤ 1256584717457) :
    Calls Tryz.prog 68 #[v] w fun e w' => ∃ o, e = .returned o ∧ OwnS w' w.heap.size o l ∧ Below w.heap.size w w' := by
  obtain ⟨a, cap, rfl, hc1, hc2⟩ := hv.slice
  have HV := Lib.hid hv
  have hln : l.length ≤ 9223372036854775807 := by omega
  obtain ⟨n, hN⟩ : ∃ n, n = l.length := ⟨_, rfl⟩
  rw [← hN] at hln hn HV hc1 ⊢
  have HN := Lib.hid hN
  have HNN := Lib.hid hn
  clear hv hc1 hN hn
  go_enter Tryz.func68, Tryz.ntmps68
  go_wp2_with fail
  go_loopg [3, 4] n (fun gk o iv wr => ∃ k : Nat, gk + k = n ∧ iv = .int .i64 (k : Int) ∧ OwnS wr w.heap.size o (l.take k) ∧ Below w.heap.size w wr)
  case atStart => exact ⟨0, rfl, rfl, OwnS.nil _ _, Below.refl _ _⟩
  case round =>
    obtain ⟨k, hgk, rfl, hown, hb⟩ := hrel
    have k0 : (0 : Int) ≤ (k : Int) := by omega
    have HGK := Lib.hid hgk
    have HO := Lib.hid hown
    have HB := Lib.hid hb
    clear hgk
    by_cases hk : k < n
    · have k1 : (k : Int) < (n : Int) := by omega
      have hkl : k < l.length := by have := HN.out; omega
      obtain ⟨s, hs⟩ : ∃ s, s = l[k] := ⟨_, rfl⟩
      have hV := (HV.out.below hb)
      obtain ⟨rb, ro, hra, hrow⟩ := hV.row k hkl
      subst hra
      rw [← hs] at hrow
      have HT := Lib.hid (show l.take (k + 1) = l.take k ++ [s] by rw [List.take_succ_eq_append_getElem hkl, hs])
      have HROW := Lib.hid hrow
      have HK := Lib.hid hk
      have HLK := Lib.hid (show (l.take k).length + 1 ≤ 1256584717458 by rw [List.length_take]; have := HNN.out; omega)
      have HBA := Lib.hid hb.size
      clear hkl hs hrow hV hb hown hk
      go_wp2_with ((with_reducible refine wpList_load_k ?b0 36 (.tmp 14) ?b1 rb (ro + k * 12) ?b2 s.cells.toList _ HROW.out Tryz.underlying36 ?b3 ?b4 ?b8); (case b1 => rfl); (case b0 => rfl); (case b2 => rfl); (case b3 => rfl); (case b4 => kernel_rfl))
      intro cv hcv
      have ecv : cv = s.cells := by rw [hcv.out]
      subst ecv
      clear hcv
      go_wp2_with (refine wpList_buildSlice_s (op := ⟨some 16, _, _, _, _, _⟩) (by rfl) 23 1 #[(0, .tmp 15)] rfl #[(0, .agg s.cells)] (by kernel_rfl) _ _ (buildS s wr) ?_)
      intro w2 hw2
      have hb2 : Below wr.heap.size wr w2 := by rw [hw2.out]; exact below_alloc _ _
      have HC2 := Lib.hid (show ∀ j u, s.cells.toList[j]? = some u → w2.cell? ((⟨wr.heap.size, 0, none⟩ : Addr).add j) = some u by rw [hw2.out]; exact newCells wr s _)
      have HO2 := Lib.hid (HO.out.below hb2)
      have HB2 := Lib.hid (HB.out.trans (hb2.mono HB.out.size))
      clear hw2 hb2 HO HROW
      go_wp2_with (at_builtin; refine appSes rfl _ _ rfl w.heap.size _ (l.take k) rfl HO2.out ⟨wr.heap.size, 0, none⟩ 1 s rfl HC2.out HLK.out (by have := HB2.out.size; omega) ?_)
      intro v' w3 hown' hg' _
      have HB3 := Lib.hid (HB2.out.trans (below_grown hg' HB2.out.size (fun q hq => (HO2.out.lt q hq).1)))
      have HO3 := Lib.hid hown'
      clear hg' hown' HO2 HB2 HC2
      go_wp2_with fail
      go_roundg (n - (k + 1))
      case measure => have := HGK.out; have := HK.out; omega
      case rel => exact ⟨k + 1, by have := HGK.out; have := HK.out; omega, by go_num, by rw [HT.out]; exact HO3.out, HB3.out⟩
    · have k1 : ¬ (k : Int) < (n : Int) := by omega
      rw [List.take_of_length_le (by have := HN.out; omega)] at HO
      clear hk hown hb
      go_wp2_with fail
      go_ret
      exact ⟨_, rfl, HO.out, HB.out⟩
set_option maxHeartbeats 1600000 in
theorem copyState_calls (c b : Int) (v : Value) (l : List SesM) (w : World) (hv : RdS w v l) (hn : l.length ≤ 1256584717457) :
    Calls Tryz.prog 51 #[.agg #[.int .i64 c, .int .i64 b, v]] w fun e w' => ∃ o, e = .returned (.agg #[.int .i64 c, .int .i64 b, o]) ∧ OwnS w' w.heap.size o l ∧ Below w.heap.size w w' := by
  have HV := Lib.hid hv
  have HB0 := Lib.hid (fun o o2 o3 => ((below_alloc w o).trans ((below_alloc (w.alloc o) o2).mono (below_alloc w o).size)).trans ((below_alloc ((w.alloc o).alloc o2) o3).mono (Nat.le_trans (below_alloc w o).size (below_alloc _ o2).size)))
  obtain ⟨a, cap, rfl, _, _⟩ := hv.slice
  clear hv
  go_enter Tryz.func51, Tryz.ntmps51
  go_wp2_with fail
  refine (copySes_calls _ l _ (HV.out.below (HB0.out _ _ _)) hn).mono ?_
  rintro ev w1 ⟨o, rfl, hown, hb⟩
  have HO := Lib.hid hown
  have HB := Lib.hid ((HB0.out _ _ _).trans (hb.mono (HB0.out (.cells #[.int .i64 c, .int .i64 b, .slice a l.length cap] 25) (.cells #[.int .i64 0, .int .i64 0, .slice none 0 0] 25) (.cells #[.int .i64 c, .int .i64 b, .slice a l.length cap] 25)).size))
  have hx2 : Box w1 (w.heap.size + 1) #[.int .i64 0, .int .i64 0, .slice none 0 0] 25 := by
    have h := (Box.new (w.alloc (.cells #[.int .i64 c, .int .i64 b, .slice a l.length cap] 25)) #[.int .i64 0, .int .i64 0, .slice none 0 0] 25).below (below_alloc _ (.cells #[.int .i64 c, .int .i64 b, .slice a l.length cap] 25))
    rw [World.size_alloc] at h
    exact h.below hb
  have hx3 : Box w1 (w.heap.size + 1 + 1) #[.int .i64 c, .int .i64 b, .slice a l.length cap] 25 := by
    have h := Box.new ((w.alloc (.cells #[.int .i64 c, .int .i64 b, .slice a l.length cap] 25)).alloc (.cells #[.int .i64 0, .int .i64 0, .slice none 0 0] 25)) #[.int .i64 c, .int .i64 b, .slice a l.length cap] 25
    rw [World.size_alloc, World.size_alloc] at h
    exact h.below hb
  have HX2 := Lib.hid hx2
  have HX3 := Lib.hid hx3
  have c0 : w1.cell? ⟨w.heap.size + 1 + 1, 0, none⟩ = some (.int .i64 c) := hx3.cell 0 _ rfl
  have c1 : w1.cell? ⟨w.heap.size + 1 + 1, 1, none⟩ = some (.int .i64 b) := hx3.cell 1 _ rfl
  have c2 : w1.cell? ⟨w.heap.size + 1 + 1, 2, none⟩ = some (.slice a l.length cap) := hx3.cell 2 _ rfl
  have f2 := hx3.free 2
  have d0 : w1.cell? ⟨w.heap.size + 1, 0, none⟩ = some (.int .i64 0) := hx2.cell 0 _ rfl
  have d1 : w1.cell? ⟨w.heap.size + 1, 1, none⟩ = some (.int .i64 0) := hx2.cell 1 _ rfl
  have d2 : w1.cell? ⟨w.heap.size + 1, 2, none⟩ = some (.slice none 0 0) := hx2.cell 2 _ rfl
  have g0 := hx2.free 0
  have g1 := hx2.free 1
  have g2 := hx2.free 2
  have HLO := Lib.hid (fun q hq => (hown.lt q hq).1)
  clear hown hb hx2 hx3 HB0 HV
  obtain ⟨oa, oc, rfl, _⟩ := HO.out.slice
  go_wp2_with fail
  have hm : ∀ (W : World), Mod (fun q => q = w.heap.size + 1 ∨ q = w.heap.size + 1 + 1) w1 W → OwnS W w.heap.size (.slice oa l.length oc) l ∧ Below w.heap.size w W := fun W hm => by
    refine ⟨(HO.out.base (by simp; omega)).mod hm (fun q hq e => ?_), HB.out.trans (hm.below HB.out.size (fun i hi => by omega))⟩
    have := HLO.out q hq
    simp at this
    omega
  have hset : ∀ (W : World) (q o : Nat) (v : Value), Mod (fun q => q = w.heap.size + 1 ∨ q = w.heap.size + 1 + 1) w1 W → (q = w.heap.size + 1 ∨ q = w.heap.size + 1 + 1) → Mod (fun q => q = w.heap.size + 1 ∨ q = w.heap.size + 1 + 1) w1 (W.setCell ⟨q, o, none⟩ v) := fun W q o v h hq => h.trans (Mod.set _ _ _ _ hq)
  refine ret_cell rfl rfl (w.heap.size + 1) 0 rfl [.int .i64 c, .int .i64 b, .slice oa l.length oc] _ ?_ Tryz.underlying25 rfl (by kernel_rfl) ⟨_, rfl, hm _ (by
    refine hset _ _ _ _ (hset _ _ _ _ (hset _ _ _ _ (hset _ _ _ _ (Mod.refl _ _) ?_) ?_) ?_) ?_ <;> simp)⟩
  have hb4 : Box ((((w1.setCell ⟨w.heap.size + 1 + 1, 2, none⟩ (.slice oa l.length oc)).setCell ⟨w.heap.size + 1, 0, none⟩ (.int .i64 c)).setCell ⟨w.heap.size + 1, 1, none⟩ (.int .i64 b)).setCell ⟨w.heap.size + 1, 2, none⟩ (.slice oa l.length oc)) (w.heap.size + 1) #[.int .i64 c, .int .i64 b, .slice oa l.length oc] 25 := by
    have h := (((HX2.out.set_other (p := ⟨w.heap.size + 1 + 1, 2, none⟩) (by simp) (.slice oa l.length oc)).set 0 (.int .i64 c)).set 1 (.int .i64 b)).set 2 (.slice oa l.length oc)
    exact h
  intro j v hv
  rw [Nat.zero_add]
  exact hb4.cell j v (by simpa using hv)
end Go.Proofs.YthnabnieajojjaaGreatDoor
