/-
  Texts of one proof, one behind the other.
-/
import Derived.Test.YtgcnolapjppbpaaGreatDoorK22
import Derived.Test.YtgcnolapjppbpaaGreatDoorK06
import Derived.Deep.LoopGhost
import Derived.Outline
import Derived.Test.YtgcnolapjppbpaaGreatDoorK23
import Derived.BigQuiet
import Derived.Test.YtgcnolapjppbpaaGreatDoorK02
import Derived.Maps.OwnSet
namespace Go.Proofs.YtgcnolapjppbpaaGreatDoor
open Go.RowKit
set_option maxRecDepth 100000
theorem info_ses : (Tryz.prog.info? 45).map (fun i => (i.zero, i.size, i.bytes)) = some (some (.agg #[.int .i64 0, .int .i64 0, .int .i64 0, .int .i64 0, .int .i64 0, .string ⟨#[]⟩, .string ⟨#[]⟩, .int .u64 0, .int .i64 0, .int .i64 0, .int .i64 0, .int .i64 0]), 12, 112) := by kernel_rfl
def OwnS (w : World) (base : Nat) (v : Value) (l : List SesM) : Prop := w.ownsRow base 45 12 v l.length (flatS l)
theorem OwnS.nil (w : World) (base : Nat) : OwnS w base (.slice none 0 0) [] := ⟨rfl, .inl ⟨rfl, rfl⟩⟩
theorem OwnS.rd {w : World} {base : Nat} {v : Value} {l : List SesM} (h : OwnS w base v l) : RdS w v l := rd_of_own h
theorem OwnS.below {w w' : World} {base : Nat} {v : Value} {l : List SesM} (h : OwnS w base v l) (hb : Below w.heap.size w w') : OwnS w' base v l := own_below h hb
theorem OwnS.slice {w : World} {base : Nat} {v : Value} {l : List SesM} (h : OwnS w base v l) : ∃ a cap, v = .slice a l.length cap ∧ l.length ≤ cap := by
  obtain ⟨a, cap, h1, h2, _⟩ := h.rd.slice; exact ⟨a, cap, h1, h2⟩
theorem OwnS.lt {w : World} {base : Nat} {v : Value} {l : List SesM} (h : OwnS w base v l) : ∀ k, v.ownBlock = some k → base ≤ k ∧ k < w.heap.size := own_lt h
theorem OwnS.mod {w w' : World} {base : Nat} {v : Value} {l : List SesM} {F : Nat → Prop} (h : OwnS w base v l) (hm : Mod F w w') (hb : ∀ k, v.ownBlock = some k → ¬ F k) : OwnS w' base v l := own_mod h hm hb
theorem OwnS.base {w : World} {base base' : Nat} {v : Value} {l : List SesM} (h : OwnS w base v l) (hb : base' ≤ base) : OwnS w base' v l := own_base h hb
theorem wpList_buildSlice_s {P : Program} {ops : Array Oper} {rest : List Oper} {op : Oper} {a : Act} {w : World} {Q : Exit → Act → World → Prop} (hw : Region.wanted op (yielded ops a.tmps) = true) (t : TypeId) (n : Nat) (parts : Array (Nat × Operand)) (ho : op.op = .buildSlice t n parts)
    (vals : Array (Nat × Value)) (hv : (parts.map fun (i, x) => (i, a.eval x)) = vals) (cs : Array Value) (e : TypeId) (hr : (Instr.buildSlice t n vals).run P w = .ok (.slice (some ⟨w.heap.size, 0, none⟩) n n) (w.alloc (.cells cs e)))
    (h : ∀ w', Hid (w' = w.alloc (.cells cs e)) → wpList P ops Q rest (a.put op.dst (.slice (some ⟨w.heap.size, 0, none⟩) n n)) w') : wpList P ops Q (op :: rest) a w := by
  rw [wpList, if_pos hw]
  refine .inl ?_
  unfold Oper.wp execOp
  simp only [ho, Sem.run_bind, hv, hr, Result.andThen_ok, Sem.run_pure]
  exact h _ (Lib.hid rfl)
theorem buildS (s : SesM) (w : World) : (Instr.buildSlice 28 1 #[(0, .agg s.cells)]).run Tryz.prog w = .ok (.slice (some ⟨w.heap.size, 0, none⟩) 1 1) (w.alloc (.cells s.cells 45)) := by kernel_rfl
theorem appSes {w : World} {ops : Array Oper} {rest : List Oper} {o : Oper} {a : Act} {Q : Exit → Act → World → Prop} (hgd : o.guard = none) (s x : Operand)
    (ho : o.op = .call { callee := .builtin .append, args := #[s, x], argTypes := #[28, 28] })
    (base : Nat) (v : Value) (l : List SesM) (hs : a.eval s = v) (hown : OwnS w base v l)
    (ad : Addr) (c : Nat) (y : SesM) (hx : a.eval x = .slice (some ad) 1 c) (hy : ∀ j u, y.cells.toList[j]? = some u → w.cell? (ad.add j) = some u)
    (hroom : l.length + 1 ≤ 1256584717458) (hbase : base ≤ w.heap.size)
    (h : ∀ v' w', OwnS w' base v' (l ++ [y]) → w.grownBy w' v.ownBlock → Moved w v v' → wpList Tryz.prog ops Q rest (a.put o.dst v') w') : wpList Tryz.prog ops Q (o :: rest) a w := by
  obtain ⟨i0, hi, hz0, hz1, hz2⟩ := info_parts info_ses
  refine wpList_append_own2 hgd s x 28 ho base 45 i0 _ 12 112 Tryz.underlying28 hi hz0 hz1 hz2 rfl (by decide) v l.length (flatS l) hs hown ad 1 c y.cells.toList hx rfl hy y.oneS (by unfold maxLen; omega) (by omega) hbase (fun v' w' h1 h2 h3 => h v' w' ?_ h2 h3)
  unfold OwnS
  rw [flatS_append, flatS_one, List.length_append]; exact h1
theorem newCells (w : World) (s : SesM) (t : TypeId) : ∀ j u, s.cells.toList[j]? = some u → (w.alloc (.cells s.cells t)).cell? ((⟨w.heap.size, 0, none⟩ : Addr).add j) = some u := fun j u hj => World.news_of_block (heap_alloc_new w (.cells s.cells t)) j u hj
end Go.Proofs.YtgcnolapjppbpaaGreatDoor
namespace Go.Proofs.YtgcnolapjppbpaaGreatDoor
open Go.RowKit
def markT (k i : Int) : List UInt8 := [35, B8 k, B8 (k / 256), B8 i, B8 (i / 256)]
end Go.Proofs.YtgcnolapjppbpaaGreatDoor
namespace Go.Proofs.YtgcnolapjppbpaaGreatDoor
open Go.RowKit
set_option maxRecDepth 100000
theorem run_neqS (s t : SesM) (w : World) : (binOp .neq 45 (.agg s.cells) (.agg t.cells)).run Tryz.prog w = .ok (.bool (!(sameS s t))) w := by
  obtain ⟨r, hr⟩ : ∃ r, r = sameS s t := ⟨_, rfl⟩
  rw [← hr]
  unfold SesM.cells
  go_simp
  subst hr
  unfold sameS
  simp only [SB_toList]
  refine ite_step (fun b => Value.bool (!b)) bdec rfl ?_
  refine ite_step (fun b => Value.bool (!b)) bdec rfl ?_
  refine ite_step (fun b => Value.bool (!b)) bdec rfl ?_
  refine ite_step (fun b => Value.bool (!b)) bdec rfl ?_
  refine ite_step (fun b => Value.bool (!b)) bdec rfl ?_
  refine ite_step (fun b => Value.bool (!b)) bdec rfl ?_
  refine ite_step (fun b => Value.bool (!b)) bdec rfl ?_
  refine ite_step (fun b => Value.bool (!b)) bdec rfl ?_
  refine ite_step (fun b => Value.bool (!b)) bdec rfl ?_
  refine ite_step (fun b => Value.bool (!b)) bdec rfl ?_
  refine ite_step (fun b => Value.bool (!b)) bdec rfl ?_
  exact ite_last (fun b => Value.bool (!b)) bdec rfl rfl
def markS (k i : Int) : SesM := ⟨0, -7 - k, 0, 0, 0, [], markT k i, 0, 0, 0, 0, 0⟩
def mksS (n : Nat) : List SesM := (List.range n).map (fun i : Nat => markS 90 (i : Int))
theorem mksS_length (n : Nat) : (mksS n).length = n := by simp [mksS]
def LentS (w : World) (base : Nat) (v : Value) (l : List SesM) : Prop := ∃ a cap, v = .slice a l.length cap ∧ OwnS w base (.slice a (l.length + 16) cap) (l ++ mksS 16)
theorem LentS.below {w w' : World} {base : Nat} {v : Value} {l : List SesM} (h : LentS w base v l) (hb : Below w.heap.size w w') : LentS w' base v l := by
  obtain ⟨a, cap, h1, h2⟩ := h; exact ⟨a, cap, h1, h2.below hb⟩
theorem full_len (l : List SesM) : (l ++ mksS 16).length = l.length + 16 := by rw [List.length_append, mksS_length]
theorem LentS.rd {w : World} {base : Nat} {v : Value} {l : List SesM} (h : LentS w base v l) : RdS w v l := by
  obtain ⟨a, cap, rfl, h2⟩ := h
  have h3 := h2.rd
  rw [← full_len] at h3
  have := h3.cut l.length (by rw [full_len]; omega)
  rw [List.take_left] at this
  exact this
theorem LentS.mod {w w' : World} {base : Nat} {v : Value} {l : List SesM} {F : Nat → Prop} (h : LentS w base v l) (hm : Mod F w w') (hb : ∀ k, v.ownBlock = some k → ¬ F k) : LentS w' base v l := by
  obtain ⟨a, cap, rfl, h2⟩ := h; exact ⟨a, cap, rfl, h2.mod hm (fun k hk => hb k (by cases a <;> exact hk))⟩
theorem wpQuiet_load_k {P : Program} {ops : Array Oper} {rest : List Oper} {op : Oper} {a : Act} {C : World → Prop} {Q : Act → Prop} (hw : Region.wanted op (yielded ops a.tmps) = true) (ty : TypeId) (x : Operand) (ho : op.op = .load ty x)
    (b o : Nat) (hx : a.eval x = .pointer (some ⟨b, o, none⟩)) (cs : List Value) (d : TypeDesc) (hc : ∀ w, C w → w.rangeAt b o cs)
    (hu : P.underlying ty = some d) (hd : d.isRow = true) (hi : (P.info? ty).map (·.size) = some cs.length)
    (h : ∀ c, Hid (c = cs.toArray) → wpQuiet P ops C Q rest (a.put op.dst (.agg c))) : wpQuiet P ops C Q (op :: rest) a := by
  unfold wpQuiet
  rw [if_pos hw]
  refine ⟨.agg cs.toArray, fun w hC => ?_, h _ (Lib.hid rfl)⟩
  unfold Oper.quietAt execOp
  simp only [ho, hx, Instr.loadAt, Instr.sureAddr, Sem.run_bind, Sem.run_pure, Result.andThen_ok, run_loadVar_mid w b o ty cs d (hc w hC) hu hd hi]
  exact ⟨rfl, rfl⟩
end Go.Proofs.YtgcnolapjppbpaaGreatDoor
namespace Go.Proofs.YtgcnolapjppbpaaGreatDoor
open Go.RowKit
set_option maxRecDepth 100000
theorem within_calls (a b : Nat) (w : World) :
    Calls Tryz.prog 95 #[.int .u64 (a : Int), .int .u64 (b : Int)] w fun e w' => e = .returned (.bool (scIn a b)) ∧ w = w' := by
  go_enter Tryz.func95, Tryz.ntmps95
  go_wp2_with fail
  go_ret
  exact ⟨rfl, rfl⟩
theorem SesM.cellsE (s : SesM) : s.cells = #[.int .i64 s.slot, .int .i64 s.birth, .int .i64 s.upS, .int .i64 s.upB, .int .i64 s.kind, .string (SB s.user), .string (SB s.label), .int .u64 (s.scopes : Int), .int .i64 s.level, .int .i64 s.born, .int .i64 s.deadline, .int .i64 s.depth] := rfl
set_option maxHeartbeats 800000 in
theorem apply1_calls (s : SesM) (eb : Nat) (b : Int) (w : World) (hc : w.cell? ⟨eb, 13, none⟩ = some (.int .i64 b)) :
    Calls Tryz.prog 61 #[.agg s.cells, .pointer (some ⟨eb, 0, none⟩)] w fun e w' => e = .returned (.bool (s.birth == b)) ∧ Below w.heap.size w w' := by
  have HB := Lib.hid (below_alloc w (.cells s.cells 45))
  have hx := (Box.new w s.cells 45).cell 1 (.int .i64 s.birth) rfl
  have h2 := below_heap (below_alloc w (.cells s.cells 45)) hc
  rw [s.cellsE] at HB hx h2 ⊢
  clear hc
  go_enter Tryz.func61, Tryz.ntmps61
  go_wp2_with fail
  go_ret
  exact ⟨rfl, HB.out⟩
set_option maxHeartbeats 800000 in
theorem apply2_calls (s : SesM) (eb : Nat) (b : Int) (w : World) (hc : w.cell? ⟨eb, 13, none⟩ = some (.int .i64 b)) :
    Calls Tryz.prog 63 #[.agg s.cells, .pointer (some ⟨eb, 0, none⟩)] w fun e w' => e = .returned (.bool (s.birth == b)) ∧ Below w.heap.size w w' := by
  have HB := Lib.hid (below_alloc w (.cells s.cells 45))
  have hx := (Box.new w s.cells 45).cell 1 (.int .i64 s.birth) rfl
  have h2 := below_heap (below_alloc w (.cells s.cells 45)) hc
  rw [s.cellsE] at HB hx h2 ⊢
  clear hc
  go_enter Tryz.func63, Tryz.ntmps63
  go_wp2_with fail
  go_ret
  exact ⟨rfl, HB.out⟩
set_option maxHeartbeats 800000 in
theorem apply3_calls (s : SesM) (eb : Nat) (b : Int) (w : World) (hc : w.cell? ⟨eb, 0, none⟩ = some (.int .i64 b)) :
    Calls Tryz.prog 64 #[.agg s.cells, .pointer (some ⟨eb, 0, none⟩)] w fun e w' => e = .returned (.bool (decide (s.deadline ≤ b))) ∧ Below w.heap.size w w' := by
  have HB := Lib.hid (below_alloc w (.cells s.cells 45))
  have hx := (Box.new w s.cells 45).cell 10 (.int .i64 s.deadline) rfl
  have h2 := below_heap (below_alloc w (.cells s.cells 45)) hc
  rw [s.cellsE] at HB hx h2 ⊢
  clear hc
  go_enter Tryz.func64, Tryz.ntmps64
  go_wp2_with fail
  go_ret
  exact ⟨rfl, HB.out⟩
structure TestF (f : FuncId) (ca : Addr) (g : SesM → Bool) (w : World) : Prop where
  run : ∀ (args : Array Value) (w' : World), (callFunc f args).run Tryz.prog w' = .ok (.enter f args) w'
  tells : ∀ (s : SesM) (w' : World), Below w.heap.size w w' → Calls Tryz.prog f #[.agg s.cells, .pointer (some ca)] w' fun e w'' => e = .returned (.bool (g s)) ∧ Below w'.heap.size w' w''
theorem any_take {g : SesM → Bool} {l : List SesM} {k : Nat} (hk : k < l.length) : (l.take (k + 1)).any g = ((l.take k).any g || g l[k]) := by
  rw [List.take_succ_eq_append_getElem hk, List.any_append]; simp
set_option maxHeartbeats 1600000 in
theorem indexF_calls (f : FuncId) (ca : Addr) (g : SesM → Bool) (v : Value) (l : List SesM) (w : World) (hv : RdS w v l) (hf : TestF f ca g w) :
    Calls Tryz.prog 96 #[v, .func (.func f) #[] #[.pointer (some ca)]] w fun e w' => ∃ r : Int, e = .returned (.int .i64 r) ∧ decide (0 ≤ r) = l.any g ∧ Below w.heap.size w w' := by
  obtain ⟨a, cap, rfl, hc1, hc2⟩ := hv.slice
  have HV := Lib.hid hv
  have HF := Lib.hid hf
  have hln : l.length ≤ 9223372036854775807 := by omega
  obtain ⟨n, hN⟩ : ∃ n, n = l.length := ⟨_, rfl⟩
  rw [← hN] at hln HV hc1 ⊢
  have HN := Lib.hid hN
  clear hv hf hc1 hN
  go_enter Tryz.func96, Tryz.ntmps96
  go_wp2_with fail
  go_loopg [8] n (fun gk iv wr => ∃ k : Nat, gk + k = n ∧ iv = .int .i64 (k : Int) ∧ Below w.heap.size w wr ∧ Hid ((l.take k).any g = false))
  case atStart => exact ⟨0, rfl, rfl, Below.refl _ _, Lib.hid rfl⟩
  case round =>
    obtain ⟨k, hgk, rfl, hb, HT⟩ := hrel
    have k0 : (0 : Int) ≤ (k : Int) := by omega
    have HGK := Lib.hid hgk
    have HB := Lib.hid hb
    clear hgk
    by_cases hk : k < n
    · have k1 : (k : Int) < (n : Int) := by omega
      have hkl : k < l.length := by have := HN.out; omega
      obtain ⟨s, hs⟩ : ∃ s, s = l[k] := ⟨_, rfl⟩
      obtain ⟨rb, ro, hra, hrow⟩ := (HV.out.below hb).row k hkl
      subst hra
      rw [← hs] at hrow
      have HROW := Lib.hid hrow
      have HAT := Lib.hid (show (l.take (k + 1)).any g = ((l.take k).any g || g s) by rw [any_take hkl, hs])
      have HAL := Lib.hid (show g s = true → l.any g = true from fun h => by rw [List.any_eq_true]; exact ⟨s, by rw [hs]; exact List.getElem_mem _, h⟩)
      have HK := Lib.hid hk
      clear hrow hs hk hb
      go_wp2_with ((with_reducible refine wpList_load_k ?b01 45 (.tmp 14) ?b11 rb (ro + k * 12) ?b21 s.cells.toList _ HROW.out Tryz.underlying45 ?b31 ?b41 ?b81); (case b11 => rfl); (case b01 => rfl); (case b21 => rfl); (case b31 => rfl); (case b41 => kernel_rfl))
      intro cv hcv
      have ecv : cv = s.cells := by rw [hcv.out]
      subst ecv
      clear hcv
      go_wp2_with fail
      rw [HF.out.run, Oper.upon_enter]
      refine (HF.out.tells s wr HB.out).mono ?_
      rintro e w1 ⟨rfl, hb1⟩
      have HB1 := Lib.hid (HB.out.trans (hb1.mono HB.out.size))
      generalize g s = r at HAT HAL ⊢
      clear hb1 HB HROW
      cases r
      · have HT2 := Lib.hid (show (l.take (k + 1)).any g = false by rw [HAT.out, HT.out]; rfl)
        clear HT HAT HAL
        go_wp2_with fail
        go_roundg (n - (k + 1))
        case measure => have := HGK.out; have := HK.out; omega
        case rel => exact ⟨k + 1, by have := HGK.out; have := HK.out; omega, by go_num, HB1.out, HT2⟩
      · have HE := Lib.hid (HAL.out rfl)
        clear HT HAT HAL
        go_wp2_with fail
        go_ret
        exact ⟨_, rfl, by rw [HE.out]; exact decide_eq_true (by omega), HB1.out⟩
    · have k1 : ¬ (k : Int) < (n : Int) := by omega
      have HE := Lib.hid (show l.any g = false by
        have h := HT.out
        rwa [List.take_of_length_le (by have := HN.out; omega)] at h)
      clear hk hb HT
      go_wp2_with fail
      go_ret
      exact ⟨_, rfl, by rw [HE.out]; rfl, HB.out⟩
set_option maxHeartbeats 800000 in
theorem containsF_calls (f : FuncId) (ca : Addr) (g : SesM → Bool) (v : Value) (l : List SesM) (w : World) (hv : RdS w v l) (hf : TestF f ca g w) :
    Calls Tryz.prog 60 #[v, .func (.func f) #[] #[.pointer (some ca)]] w fun e w' => e = .returned (.bool (l.any g)) ∧ Below w.heap.size w w' := by
  have HI := Lib.hid (indexF_calls f ca g v l w hv hf)
  obtain ⟨a, cap, rfl, _⟩ := hv.slice
  clear hv hf
  go_enter Tryz.func60, Tryz.ntmps60
  go_wp2_with fail
  refine HI.out.mono ?_
  rintro e w1 ⟨r, rfl, hr, hb⟩
  have HB := Lib.hid hb
  have HR := Lib.hid hr
  clear hb hr HI
  go_wp2_with fail
  go_ret
  rw [← HR.out]
  exact ⟨rfl, HB.out⟩
end Go.Proofs.YtgcnolapjppbpaaGreatDoor
namespace Go.Proofs.YtgcnolapjppbpaaGreatDoor
open Go.RowKit
set_option maxRecDepth 100000
def getM (k : Int) : List (Int × Value) → Option Value
  | [] => none
  | p :: l => if p.1 = k then some p.2 else getM k l
def IsMap (w : World) (b : Nat) (es : List (Int × Value)) : Prop := ∃ (arr : Array MapEntry) (clock : Nat), w.heap[b]? = some (.map arr clock) ∧ arr.toList.map (fun e => (e.key, e.val)) = es.map (fun p => (Value.int .i64 p.1, p.2))
theorem IsMap.lt {w : World} {b : Nat} {es : List (Int × Value)} (h : IsMap w b es) : b < w.heap.size := by
  obtain ⟨arr, clock, h1, _⟩ := h
  rcases Nat.lt_or_ge b w.heap.size with h2 | h2
  · exact h2
  · rw [Array.getElem?_eq_none h2] at h1; cases h1
theorem IsMap.new (w : World) : IsMap (w.alloc (.map #[] 0)) w.heap.size [] := ⟨#[], 0, heap_alloc_new w _, rfl⟩
theorem IsMap.mod {w w' : World} {b : Nat} {es : List (Int × Value)} {F : Nat → Prop} (h : IsMap w b es) (hm : Mod F w w') (hb : ¬ F b) : IsMap w' b es := by
  have hl := h.lt
  obtain ⟨arr, clock, h1, h2⟩ := h
  exact ⟨arr, clock, by rw [hm.block b hl hb]; exact h1, h2⟩
theorem IsMap.below {w w' : World} {b : Nat} {es : List (Int × Value)} (h : IsMap w b es) (hb : Below w.heap.size w w') : IsMap w' b es := h.mod (Mod.of_below (F := fun _ => False) hb) (fun h => h)
theorem findNow_i (q : IntKind) (k : Int) : ∀ (l : List MapEntry) (es : List (Int × Value)) (i : Nat), l.map (fun e => (e.key, e.val)) = es.map (fun p => (Value.int .i64 p.1, p.2)) →
    (getM k es = none → Instr.findNow (.int q) (.int .i64 k) l i = some none) ∧ ∀ v, getM k es = some v → ∃ j, Instr.findNow (.int q) (.int .i64 k) l i = some (some (j, v))
  | [], [], i, _ => ⟨fun _ => rfl, fun v h => by cases h⟩
  | [], _ :: _, i, h => by simp at h
  | _ :: _, [], i, h => by simp at h
  | e :: l, p :: es, i, h => by
    simp only [List.map_cons, List.cons.injEq, Prod.mk.injEq] at h
    obtain ⟨⟨h1, h2⟩, h3⟩ := h
    have ih := findNow_i q k l es (i + 1) h3
    unfold Instr.findNow getM
    rw [h1]
    by_cases hk : p.1 = k
    · subst hk
      simp [Instr.sameNow, h2]
    · have hb : (k == p.1) = false := by rw [beq_eq_false_iff_ne]; exact fun e => hk e.symm
      simp only [Instr.sameNow, if_true, hb, if_neg hk]
      exact ih
theorem run_checkInt {P : Program} {K : TypeId} {q : IntKind} (hK : P.underlying K = some (.int q)) (em : Bool) (k : Int) (w : World) : (Instr.checkKey em 10000 K (.int .i64 k)).run P w = .ok () w := by
  rw [show (10000 : Nat) = 9999 + 1 from rfl, Instr.checkKey]
  simp [run_underlying hK, Result.andThen]
theorem run_findInt {P : Program} {K : TypeId} {q : IntKind} (hK : P.underlying K = some (.int q)) {k : Int} {l : List MapEntry} {r : Option (Nat × Value)} (h : Instr.findNow (.int q) (.int .i64 k) l 0 = some r) (w : World) : (Instr.findKey K (.int .i64 k) l).run P w = .ok r w := by
  simp [Instr.findKey, run_underlying hK, h, Result.andThen]
theorem IsMap.look {P : Program} {w : World} {b : Nat} {es : List (Int × Value)} (h : IsMap w b es) {t K E : TypeId} {q : IntKind} (ht : P.underlying t = some (.map K E)) (hK : P.underlying K = some (.int q)) {z : Value} (hz : (zeroValue E).run P w = .ok z w) (k : Int) :
    (Instr.lookup t (.map (some b)) (.int .i64 k) true).run P w = .ok (.tuple #[(getM k es).getD z, .bool (getM k es).isSome]) w := by
  obtain ⟨arr, clock, hb, he⟩ := h
  obtain ⟨h1, h2⟩ := findNow_i q k arr.toList es 0 he
  cases hg : getM k es with
  | none =>
    have hf := fun w => run_findInt hK (h1 hg) w
    simp [Instr.lookup, run_underlying ht, MapKept.run_getObj_map hb, run_checkInt hK, hf, hz, Result.andThen]
  | some v =>
    obtain ⟨j, hj⟩ := h2 v hg
    have hf := fun w => run_findInt hK hj w
    simp [Instr.lookup, run_underlying ht, MapKept.run_getObj_map hb, run_checkInt hK, hf, Result.andThen]
theorem IsMap.put {P : Program} {w : World} {b : Nat} {es : List (Int × Value)} (h : IsMap w b es) {t K E : TypeId} {q : IntKind} (ht : P.underlying t = some (.map K E)) (hK : P.underlying K = some (.int q)) {k : Int} (hn : getM k es = none) (v : Value) :
    ∃ w', (Instr.mapUpdate t (.map (some b)) (.int .i64 k) v).run P w = .ok () w' ∧ IsMap w' b (es ++ [(k, v)]) ∧ Mod (fun i => i = b) w w' := by
  have hl := h.lt
  obtain ⟨arr, clock, hb, he⟩ := h
  have h1 := (findNow_i q k arr.toList es 0 he).1 hn
  have hf := fun w => run_findInt hK h1 w
  refine ⟨{ w with heap := w.heap.setIfInBounds b (.map (arr.push ⟨.int .i64 k, v, clock⟩) (clock + 1)) }, ?_, ⟨arr.push ⟨.int .i64 k, v, clock⟩, clock + 1, ?_, ?_⟩, ?_⟩
  · simp [Instr.mapUpdate, run_underlying ht, MapKept.run_getObj_map hb, run_checkInt hK, hf, MapKept.run_setObj_map _ hb, Result.andThen]
  · show (w.heap.setIfInBounds b _)[b]? = _
    rw [Array.getElem?_setIfInBounds_self_of_lt hl]
  · simp [he]
  · refine ⟨rfl, rfl, rfl, by show w.heap.size ≤ (w.heap.setIfInBounds b _).size; rw [Array.size_setIfInBounds]; exact Nat.le_refl _, fun i _ hi => ?_⟩
    show (w.heap.setIfInBounds b _)[i]? = _
    rw [Array.getElem?_setIfInBounds_ne (fun e => hi e.symm)]
theorem wpList_look_i {P : Program} {w : World} {ops : Array Oper} {rest : List Oper} {o : Oper} {a : Act} {Q : Exit → Act → World → Prop} (hg : o.guard = none) (m x : Operand) (t : TypeId) (hop : o.op = Op.lookup t m x true)
    (K E : TypeId) (q : IntKind) (ht : P.underlying t = some (.map K E)) (hK : P.underlying K = some (.int q)) (z : Value) (hz : (zeroValue E).run P w = .ok z w) (b : Nat) (es : List (Int × Value)) (hm : a.eval m = .map (some b)) (h : IsMap w b es) (k : Int) (hx : a.eval x = .int .i64 k)
    (v : Value) (ok : Bool) (hv : (getM k es).getD z = v) (hok : (getM k es).isSome = ok)
    (hn : wpList P ops Q rest (a.put o.dst (.tuple #[v, .bool ok])) w) : wpList P ops Q (o :: rest) a w := by
  refine wpList_plain hg fun K' hK' => ?_
  have hrun := h.look ht hK hz k
  rw [hv, hok] at hrun
  unfold Oper.wp
  simp [execOp, hop, hm, hx, hrun, Result.andThen]
  exact hK' _ _ hn
theorem wpList_put_i {P : Program} {w : World} {ops : Array Oper} {rest : List Oper} {o : Oper} {a : Act} {Q : Exit → Act → World → Prop} (hg : o.guard = none) (m x y : Operand) (t : TypeId) (hop : o.op = Op.mapUpdate t m x y)
    (K E : TypeId) (q : IntKind) (ht : P.underlying t = some (.map K E)) (hK : P.underlying K = some (.int q)) (b : Nat) (es : List (Int × Value)) (hm : a.eval m = .map (some b)) (h : IsMap w b es) (k : Int) (hx : a.eval x = .int .i64 k) (hk : getM k es = none)
    (v : Value) (hy : a.eval y = v) (hn : ∀ w', IsMap w' b (es ++ [(k, v)]) → Mod (fun i => i = b) w w' → wpList P ops Q rest (a.put o.dst undef) w') : wpList P ops Q (o :: rest) a w := by
  refine wpList_plain hg fun K' hK' => ?_
  obtain ⟨w', hrun, r1, r2⟩ := h.put ht hK hk v
  unfold Oper.wp
  simp [execOp, hop, hm, hx, hy, hrun, Result.andThen]
  exact hK' _ _ (hn w' r1 r2)
end Go.Proofs.YtgcnolapjppbpaaGreatDoor
