/-
  Lists of sessions: append, CopySessions, CopyState.
-/
import Derived.Test.YtdaimaibnjkfbaaDoorSesL
import Derived.Test.YtdaimaibnjkfbaaDoorKitB0
import Derived.Deep.LoopGhost
namespace Go.Proofs.YtdaimaibnjkfbaaDoor
open Go.RowKit
set_option maxRecDepth 100000

theorem info_ses : (Tryd.prog.info? 56).map (fun i => (i.zero, i.size, i.bytes)) = some (some (.agg #[.int .i64 0, .int .i64 0, .int .i64 0, .int .i64 0, .int .i64 0, .string ⟨#[]⟩, .string ⟨#[]⟩, .int .u64 0, .int .i64 0, .int .i64 0, .int .i64 0, .int .i64 0]), 12, 112) := by kernel_rfl
/-- A list of sessions that a call owns. -/
def OwnS (w : World) (base : Nat) (v : Value) (l : List SesM) : Prop := w.ownsRow base 56 12 v l.length (flatS l)
theorem OwnS.nil (w : World) (base : Nat) : OwnS w base (.slice none 0 0) [] := ⟨rfl, .inl ⟨rfl, rfl⟩⟩
theorem OwnS.rd {w : World} {base : Nat} {v : Value} {l : List SesM} (h : OwnS w base v l) : RdS w v l := rd_of_own h
theorem OwnS.below {w w' : World} {base : Nat} {v : Value} {l : List SesM} (h : OwnS w base v l) (hb : Below w.heap.size w w') : OwnS w' base v l := own_below h hb
theorem OwnS.slice {w : World} {base : Nat} {v : Value} {l : List SesM} (h : OwnS w base v l) : ∃ a cap, v = .slice a l.length cap ∧ l.length ≤ cap := by
  obtain ⟨a, cap, h1, h2, _⟩ := h.rd.slice; exact ⟨a, cap, h1, h2⟩
theorem OwnS.lt {w : World} {base : Nat} {v : Value} {l : List SesM} (h : OwnS w base v l) : ∀ k, v.ownBlock = some k → base ≤ k ∧ k < w.heap.size := own_lt h
theorem OwnS.mod {w w' : World} {base : Nat} {v : Value} {l : List SesM} {F : Nat → Prop} (h : OwnS w base v l) (hm : Mod F w w') (hb : ∀ k, v.ownBlock = some k → ¬ F k) : OwnS w' base v l := own_mod h hm hb
theorem OwnS.base {w : World} {base base' : Nat} {v : Value} {l : List SesM} (h : OwnS w base v l) (hb : base' ≤ base) : OwnS w base' v l := own_base h hb
theorem wpList_buildSlice_s {P : Program} {ops : Array Oper} {rest : List Oper} {op : Oper} {a : Act} {w : World} {Q : Exit → Act → World → Prop} (hw : Region.wanted op (yielded ops a.tmps) = true) (t : TypeId) (n : Nat) (parts : Array (Nat × Operand)) (ho : op.op = .buildSlice t n parts)
    (vals : Array (Nat × Value)) (hv : (parts.map fun (i, x) => (i, a.eval x)) = vals) (cs : Array Value) (e : TypeId) (hr : (Instr.buildSlice t n vals).run P w = .ok (.slice (some ⟨w.heap.size, 0, none⟩) n n) (w.alloc (.cells cs e)))
    (h : ∀ w', Hid (w' = w.alloc (.cells cs e)) → wpList P ops Q rest (a.put op.dst (.slice (some ⟨w.heap.size, 0, none⟩) n n)) w') : wpList P ops Q (op :: rest) a w := by
  rw [wpList, if_pos hw]
  refine .inl ?_
  unfold Oper.wp execOp
  simp only [ho, Sem.run_bind, hv, hr, Result.andThen_ok, Sem.run_pure]
  exact h _ (Lib.hid rfl)
theorem buildS (s : SesM) (w : World) : (Instr.buildSlice 22 1 #[(0, .agg s.cells)]).run Tryd.prog w = .ok (.slice (some ⟨w.heap.size, 0, none⟩) 1 1) (w.alloc (.cells s.cells 56)) := by kernel_rfl
/-- 'append(s, x)' of one session onto sessions that the call owns. -/
theorem appSes {w : World} {ops : Array Oper} {rest : List Oper} {o : Oper} {a : Act} {Q : Exit → Act → World → Prop} (hgd : o.guard = none) (s x : Operand)
    (ho : o.op = .call { callee := .builtin .append, args := #[s, x], argTypes := #[22, 22] })
    (base : Nat) (v : Value) (l : List SesM) (hs : a.eval s = v) (hown : OwnS w base v l)
    (ad : Addr) (c : Nat) (y : SesM) (hx : a.eval x = .slice (some ad) 1 c) (hy : ∀ j u, y.cells.toList[j]? = some u → w.cell? (ad.add j) = some u)
    (hroom : l.length + 1 ≤ 1256584717458) (hbase : base ≤ w.heap.size)
    (h : ∀ v' w', OwnS w' base v' (l ++ [y]) → w.grownBy w' v.ownBlock → Moved w v v' → wpList Tryd.prog ops Q rest (a.put o.dst v') w') : wpList Tryd.prog ops Q (o :: rest) a w := by
  obtain ⟨i0, hi, hz0, hz1, hz2⟩ := info_parts info_ses
  refine wpList_append_own2 hgd s x 22 ho base 56 i0 _ 12 112 Tryd.underlying22 hi hz0 hz1 hz2 rfl (by decide) v l.length (flatS l) hs hown ad 1 c y.cells.toList hx rfl hy y.oneS (by unfold maxLen; omega) (by omega) hbase (fun v' w' h1 h2 h3 => h v' w' ?_ h2 h3)
  unfold OwnS
  rw [flatS_append, flatS_one, List.length_append]; exact h1
theorem newCells (w : World) (s : SesM) (t : TypeId) : ∀ j u, s.cells.toList[j]? = some u → (w.alloc (.cells s.cells t)).cell? ((⟨w.heap.size, 0, none⟩ : Addr).add j) = some u := fun j u hj => World.news_of_block (heap_alloc_new w (.cells s.cells t)) j u hj
end Go.Proofs.YtdaimaibnjkfbaaDoor
