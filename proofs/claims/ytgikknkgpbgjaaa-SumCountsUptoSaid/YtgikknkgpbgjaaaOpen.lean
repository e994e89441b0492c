/-
  What a law's arguments read as: lists of bytes, of lists of bytes.
-/
import Derived.Test.YtgikknkgpbgjaaaLaw
import Derived.Test.YtgikknkgpbgjaaaBase
namespace Go.Proofs.Ytgikknkgpbgjaaa
open Go.RowKit

theorem list_of {α : Type} (z : α) (Q : Nat → α → Prop) : ∀ n : Nat, (∀ i, i < n → ∃ x, Q i x) → ∃ l : List α, l.length = n ∧ ∀ i, i < n → Q i (l.getD i z)
  | 0, _ => ⟨[], rfl, fun i h => by omega⟩
  | n + 1, h => by
    obtain ⟨l, h1, h2⟩ := list_of z Q n (fun i hi => h i (by omega))
    obtain ⟨x, hx⟩ := h n (by omega)
    refine ⟨l ++ [x], by simp [h1], fun i hi => ?_⟩
    by_cases hin : i < n
    · rw [List.getD, List.getElem?_append_left (by omega)]; exact h2 i hin
    · obtain rfl : i = n := by omega
      rw [List.getD, List.getElem?_append_right (by omega), h1]; simpa using hx
theorem getD_map_lt {α β : Type} (f : α → β) (l : List α) (i : Nat) (z : α) (y : β) (h : i < l.length) : (l.map f).getD i y = f (l.getD i z) := by
  simp [List.getD, h]
/-- A slice of one-cell elements. -/
theorem ArgC.rd {up : Bool} {N : Nat} {t e : TypeId} {W : World} {v : Value} (ht : Try.prog.underlying t = some (.slice e)) (hsz : Try.prog.cellsOf e = 1) (h : ArgC up N t W [v]) :
    ∃ vs : List Value, Rd W v vs.length vs ∧ (up = false → vs.length * Try.prog.bytesOf e ≤ 140737488351232) ∧ ∃ Ns : List Nat, Ns.length = vs.length ∧ (up = true → Ns.sum + 1 ≤ N ∧ vs.length + 1 ≤ N) ∧
      ∀ i, i < vs.length → ArgC up (Ns.getD i 0) e W [vs.getD i undef] := by
  obtain ⟨a, n, cap, h1, h2, h3, h4, h5, Ns, h6, h7, h8⟩ := h.slice ht hsz (by omega)
  simp only [List.cons.injEq, and_true] at h1
  subst h1
  obtain ⟨vs, hl, hv⟩ := list_of undef (fun i x => ∃ b off, a = some ⟨b, off, none⟩ ∧ W.cell? ⟨b, off + i, none⟩ = some x ∧ ArgC up (Ns.getD i 0) e W [x]) n (fun i hi => by
    obtain ⟨b, off, cs', g1, g2, g3, g4⟩ := h8 i hi
    match cs', g2 with
    | [x], _ =>
      refine ⟨x, b, off, g1, ?_, g4⟩
      have := g3 0 (by omega)
      simpa using this)
  subst hl
  refine ⟨vs, ⟨a, cap, rfl, h2, h3, h4, fun j hj => ?_⟩, fun hu => Nat.le_trans (Nat.mul_le_mul_right _ h2) (h5 hu), Ns, h6, h7, fun i hi => ?_⟩
  · obtain ⟨b, off, g1, g2, _⟩ := hv j hj
    exact ⟨b, off, g1, g2⟩
  · obtain ⟨_, _, _, _, g3⟩ := hv i hi
    exact g3
theorem u8_of_wf {n : Int} (h : (Lit.int .u8 n).wf = true) : ∃ c : UInt8, n = (c.toNat : Int) := by
  simp [Lit.wf, IntKind.min, IntKind.max, IntKind.signed, IntKind.bits] at h
  refine ⟨UInt8.ofNat n.toNat, ?_⟩
  have : (UInt8.ofNat n.toNat).toNat = n.toNat := by show n.toNat % 2 ^ 8 = _; omega
  rw [this]; omega
theorem ArgC.bytes {up : Bool} {N : Nat} {W : World} {v : Value} (h : ArgC up N 31 W [v]) :
    ∃ l : List UInt8, Rd W v l.length (l.map V8) ∧ (up = true → l.length + 1 ≤ N) ∧ (up = false → l.length ≤ 140737488351232) := by
  obtain ⟨vs, h1, h2, Ns, h3, h4, h5⟩ := h.rd Try.underlying31 (by kernel_rfl)
  obtain ⟨l, hl, hv⟩ := list_of 0 (fun i (c : UInt8) => vs.getD i undef = V8 c) vs.length (fun i hi => by
    obtain ⟨n, g1, g2⟩ := (h5 i hi).int Try.underlying5
    obtain ⟨c, rfl⟩ := u8_of_wf g2
    simp only [List.cons.injEq, and_true] at g1
    exact ⟨c, g1⟩)
  have e : vs = l.map V8 := by
    apply List.ext_getElem? 
    intro i
    by_cases hi : i < vs.length
    · have := hv i hi
      rw [List.getElem?_eq_getElem hi]
      rw [List.getD, List.getElem?_eq_getElem hi] at this
      simp only [Option.getD_some] at this
      rw [this]; simp [List.getD, show i < l.length by omega]
    · rw [List.getElem?_eq_none (by omega), List.getElem?_eq_none (by simp; omega)]
  subst e
  simp only [List.length_map] at h1 h2 h4
  refine ⟨l, h1, fun hu => (h4 hu).2, fun hu => ?_⟩
  have := h2 hu
  rw [show Try.prog.bytesOf 5 = 1 by kernel_rfl] at this; omega
theorem Arg.slice {up : Bool} {t e : TypeId} {W : World} {v : Value} (ht : Try.prog.underlying t = some (.slice e)) (h : Arg up t W v) : ArgC up 1048576 t W [v] := by
  obtain ⟨h, base, ho⟩ := h
  obtain ⟨a, n, c, rfl⟩ := Go.WideShapes.okWide_slice ht ho
  exact h
theorem Arg.int {up : Bool} {t : TypeId} {k : IntKind} {W : World} {v : Value} (ht : Try.prog.underlying t = some (.int k)) (h : Arg up t W v) : ∃ n, v = .int k n ∧ (Lit.int k n).wf = true := by
  obtain ⟨h, base, ho⟩ := h
  obtain ⟨n, rfl⟩ := Go.WideShapes.okWide_int ht ho
  obtain ⟨m, h1, h2⟩ := h.int ht
  simp [Value.cells] at h1
  subst h1
  exact ⟨n, rfl, h2⟩
theorem i64_of_wf {n : Int} (h : (Lit.int .i64 n).wf = true) : -9223372036854775808 ≤ n ∧ n ≤ 9223372036854775807 := by
  simp [Lit.wf, IntKind.min, IntKind.max, IntKind.signed, IntKind.bits] at h; omega
theorem u32_of_wf {n : Int} (h : (Lit.int .u32 n).wf = true) : ∃ c : UInt32, n = I32 c := by
  simp [Lit.wf, IntKind.min, IntKind.max, IntKind.signed, IntKind.bits] at h
  refine ⟨UInt32.ofNat n.toNat, ?_⟩
  have : (UInt32.ofNat n.toNat).toNat = n.toNat := by show n.toNat % 2 ^ 32 = _; omega
  unfold I32; rw [this]; omega
/-- A slice of slices of bytes. -/
def RdRows (W : World) (v : Value) (ls : List (List UInt8)) : Prop :=
  ∃ vs : List Value, vs.length = ls.length ∧ Rd W v vs.length vs ∧ ∀ i, i < ls.length → Rd W (vs.getD i undef) (ls.getD i []).length ((ls.getD i []).map V8)
theorem RdRows.below {w w' : World} {v : Value} {ls : List (List UInt8)} (h : RdRows w v ls) (hb : Below w.heap.size w w') : RdRows w' v ls := by
  obtain ⟨vs, h1, h2, h3⟩ := h
  exact ⟨vs, h1, h2.below hb, fun i hi => (h3 i hi).below hb⟩
theorem ArgC.rows {up : Bool} {N : Nat} {W : World} {v : Value} (h : ArgC up N 22 W [v]) :
    ∃ ls : List (List UInt8), RdRows W v ls ∧ (up = true → (ls.map List.length).sum ≤ N) := by
  obtain ⟨vs, h1, h2, Ns, h3, h4, h5⟩ := h.rd Try.underlying22 (by kernel_rfl)
  obtain ⟨ls, hl, hv⟩ := list_of [] (fun i (l : List UInt8) => Rd W (vs.getD i undef) l.length (l.map V8) ∧ (up = true → l.length ≤ Ns.getD i 0)) vs.length (fun i hi => by
    obtain ⟨l, g1, g2, _⟩ := (h5 i hi).bytes
    exact ⟨l, g1, fun hu => by have := g2 hu; omega⟩)
  refine ⟨ls, ⟨vs, hl.symm, h1, fun i hi => (hv i (by omega)).1⟩, fun hu => ?_⟩
  have hsum : ∀ (ls : List (List UInt8)) (Ns : List Nat), ls.length = Ns.length → (∀ i, i < ls.length → (ls.getD i []).length ≤ Ns.getD i 0) → (ls.map List.length).sum ≤ Ns.sum := by
    intro ls
    induction ls with
    | nil => intro Ns _ _; simp
    | cons l ls ih =>
      intro Ns he h
      cases Ns with
      | nil => simp at he
      | cons N Ns =>
        have h0 := h 0 (by simp)
        have := ih Ns (by simpa using he) (fun i hi => by simpa using h (i + 1) (by simpa using hi))
        simp only [List.getD_cons_zero] at h0
        simp only [List.map_cons, List.sum_cons]; omega
  have := hsum ls Ns (by omega) (fun i hi => (hv i (by omega)).2 hu)
  have := (h4 hu).1
  omega
theorem len_take_succ (ls : List (List UInt8)) (k : Nat) (h : k < ls.length) : ((ls.take (k + 1)).map List.length).sum = ((ls.take k).map List.length).sum + ls[k].length := by
  rw [List.take_succ_eq_append_getElem h, List.map_append, List.sum_append]; simp
theorem len_take_le (ls : List (List UInt8)) (k : Nat) : ((ls.take k).map List.length).sum ≤ (ls.map List.length).sum := by
  have h : (ls.map List.length).sum = ((ls.take k).map List.length).sum + ((ls.drop k).map List.length).sum := by
    rw [← List.sum_append, ← List.map_append, List.take_append_drop]
  omega
end Go.Proofs.Ytgikknkgpbgjaaa
