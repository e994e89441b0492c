/-
  What arguments read as: slices of structs; raw writes.
-/
import Derived.Test.YtmlckfdjiljjhaaLaw
import Derived.Test.YtmlckfdjiljjhaaDisk
namespace Go.Proofs.Ytmlckfdjiljjhaa
open Go.RowKit

theorem list_of {α : Type} (z : α) (Q : Nat → α → Prop) : ∀ n : Nat, (∀ i, i < n → ∃ x, Q i x) → ∃ l : List α, l.length = n ∧ ∀ i, i < n → Q i (l.getD i z)
  | 0, _ => ⟨[], rfl, fun i h => by omega⟩
  | n + 1, h => by
    obtain ⟨l, h1, h2⟩ := list_of z Q n (fun i hi => h i (by omega))
    obtain ⟨x, hx⟩ := h n (by omega)
    refine ⟨l ++ [x], by simp [h1], fun i hi => ?_⟩
    by_cases hin : i < n
    · rw [List.getD, List.getElem?_append_left (by omega)]; exact h2 i hin
    · obtain rfl : i = n := by omega
      rw [List.getD, List.getElem?_append_right (by omega), h1]; simpa using hx
theorem getD_map_lt {α β : Type} (f : α → β) (l : List α) (i : Nat) (z : α) (y : β) (h : i < l.length) : (l.map f).getD i y = f (l.getD i z) := by
  simp [List.getD, h]
theorem flatMap_get {α : Type} (f : α → List Value) (size : Nat) (hs : ∀ x, (f x).length = size) (hp : 0 < size) (z : α) : ∀ (l : List α) (i j : Nat), i < l.length → j < size → (l.flatMap f).getD (i * size + j) undef = (f (l.getD i z)).getD j undef
  | [], i, j, hi, _ => by simp at hi
  | a :: l, 0, j, _, hj => by
    rw [List.flatMap_cons, List.getD, List.getElem?_append_left (by rw [hs]; omega)]; simp
  | a :: l, i + 1, j, hi, hj => by
    have := flatMap_get f size hs hp z l i j (by simpa using hi) hj
    rw [List.flatMap_cons, List.getD, List.getElem?_append_right (by rw [hs, Nat.add_mul]; omega), hs, show (i + 1) * size + j - size = i * size + j by rw [Nat.add_mul]; omega]
    simpa [List.getD] using this
theorem flatMap_len {α : Type} (f : α → List Value) (size : Nat) (hs : ∀ x, (f x).length = size) : ∀ l : List α, (l.flatMap f).length = l.length * size
  | [] => by simp
  | a :: l => by rw [List.flatMap_cons, List.length_append, hs, flatMap_len f size hs l, List.length_cons, Nat.add_mul]; omega
/-- A slice of elements of so many cells, each of which reads as something. -/
theorem ArgC.flat {up : Bool} {N : Nat} {t e : TypeId} {W : World} {v : Value} {size : Nat} {α : Type} (z : α) (f : α → List Value) (hf : ∀ x, (f x).length = size) (hp : 0 < size) (R : Nat → α → Prop) (ht : Try.prog.underlying t = some (.slice e)) (hsz : Try.prog.cellsOf e = size) (h : ArgC up N t W [v])
    (hel : ∀ N cs, cs.length = size → ArgC up N e W cs → ∃ x, cs = f x ∧ R N x) :
    ∃ l : List α, Rd W v l.length (l.flatMap f) ∧ (up = false → l.length * Try.prog.bytesOf e ≤ 140737488351232) ∧ ∃ Ns : List Nat, Ns.length = l.length ∧ (up = true → Ns.sum + 1 ≤ N ∧ l.length + 1 ≤ N) ∧ ∀ i, i < l.length → R (Ns.getD i 0) (l.getD i z) := by
  obtain ⟨a, n, cap, h1, h2, h3, h4, h5, Ns, h6, h7, h8⟩ := h.slice ht hsz hp
  simp only [List.cons.injEq, and_true] at h1
  subst h1
  obtain ⟨l, hl, hv⟩ := list_of z (fun i x => ∃ b off, a = some ⟨b, off, none⟩ ∧ (∀ j, j < size → W.cell? ⟨b, off + (i * size + j), none⟩ = some ((f x).getD j undef)) ∧ R (Ns.getD i 0) x) n (fun i hi => by
    obtain ⟨b, off, cs', g1, g2, g3, g4⟩ := h8 i hi
    obtain ⟨x, rfl, hx⟩ := hel _ cs' g2 g4
    exact ⟨x, b, off, g1, g3, hx⟩)
  subst hl
  refine ⟨l, ⟨a, cap, rfl, h2, h3, h4, fun j hj => ?_⟩, fun hu => Nat.le_trans (Nat.mul_le_mul_right _ h2) (h5 hu), Ns, h6, h7, fun i hi => ?_⟩
  · rw [flatMap_len f size hf] at hj
    have hq : j / size < l.length := (Nat.div_lt_iff_lt_mul hp).2 hj
    obtain ⟨b, off, g1, g2, _⟩ := hv (j / size) hq
    have hr : j % size < size := Nat.mod_lt _ hp
    have hj2 : j / size * size + j % size = j := by rw [Nat.mul_comm]; exact Nat.div_add_mod j size
    refine ⟨b, off, g1, ?_⟩
    have g3 := g2 (j % size) hr
    rw [hj2] at g3
    rw [g3, ← flatMap_get f size hf hp z l (j / size) (j % size) hq hr, hj2]
  · obtain ⟨_, _, _, _, g3⟩ := hv i hi
    exact g3
theorem i64_of_wf {n : Int} (h : (Lit.int .i64 n).wf = true) : -9223372036854775808 ≤ n ∧ n ≤ 9223372036854775807 := by
  simp [Lit.wf, IntKind.min, IntKind.max, IntKind.signed, IntKind.bits] at h; omega
/-- What holds of a raw write that came in. -/
def RawOk (up : Bool) (N : Nat) (r : Int × ByteArray) : Prop := -9223372036854775808 ≤ r.1 ∧ r.1 ≤ 9223372036854775807 ∧ r.2.size ≤ 9223372036854775807 ∧ (up = true → r.2.size ≤ N) ∧ (up = false → r.2.size ≤ 140737488351232)
theorem ArgC.raw {up : Bool} {N : Nat} {W : World} {cs : List Value} (hl : cs.length = 2) (h : ArgC up N 31 W cs) : ∃ r : Int × ByteArray, cs = [.int .i64 r.1, .string r.2] ∧ RawOk up N r := by
  match cs, hl with
  | [c0, c1], _ =>
    obtain ⟨_, Ns, h1, h2, h3⟩ := h.struct Try.underlying31
    obtain ⟨n, e1, hw⟩ := (h3 0 _ rfl).int (k := .i64) Try.underlying3
    obtain ⟨s, e2, hs1, hs2, hs3⟩ := (h3 1 _ rfl).string Try.underlying9
    have c0e : (Try.prog.cellsOf 3) = 1 := by kernel_rfl
    have c1e : (Try.prog.cellsOf 9) = 1 := by kernel_rfl
    simp [c0e] at e1
    simp [c1e] at e2
    subst e1; subst e2
    obtain ⟨n1, n2⟩ := i64_of_wf hw
    refine ⟨(n, s), rfl, n1, n2, hs1, fun hu => ?_, hs3⟩
    have := hs2 hu
    have hN := h2 hu
    match Ns, h1 with
    | [a, b], _ => simp at this hN ⊢; omega
theorem ArgC.raws {up : Bool} {N : Nat} {W : World} {v : Value} (h : ArgC up N 22 W [v]) :
    ∃ l : List (Int × ByteArray), Rd W v l.length (flatRaws l) ∧ (up = false → l.length ≤ 140737488351232) ∧ ∃ Ns : List Nat, Ns.length = l.length ∧ (up = true → Ns.sum + 1 ≤ N ∧ l.length + 1 ≤ N) ∧ ∀ i, i < l.length → RawOk up (Ns.getD i 0) (l.getD i (0, ByteArray.empty)) := by
  obtain ⟨l, h1, h2, h3⟩ := h.flat (0, ByteArray.empty) (fun r : Int × ByteArray => [.int .i64 r.1, .string r.2]) (fun _ => rfl) (by decide) (RawOk up) Try.underlying22 (by kernel_rfl) (fun N cs hl hc => hc.raw hl)
  refine ⟨l, h1, fun hu => ?_, h3⟩
  have := h2 hu
  rw [show Try.prog.bytesOf 31 = 24 by kernel_rfl] at this; omega
theorem Arg.slice {up : Bool} {t e : TypeId} {W : World} {v : Value} (ht : Try.prog.underlying t = some (.slice e)) (h : Arg up t W v) : ArgC up 1048576 t W [v] := by
  obtain ⟨h, base, ho⟩ := h
  obtain ⟨a, n, c, rfl⟩ := Go.WideShapes.okWide_slice ht ho
  exact h
theorem Arg.int {up : Bool} {t : TypeId} {k : IntKind} {W : World} {v : Value} (ht : Try.prog.underlying t = some (.int k)) (h : Arg up t W v) : ∃ n, v = .int k n ∧ (Lit.int k n).wf = true := by
  obtain ⟨h, base, ho⟩ := h
  obtain ⟨n, rfl⟩ := Go.WideShapes.okWide_int ht ho
  obtain ⟨m, h1, h2⟩ := h.int ht
  simp [Value.cells] at h1
  subst h1
  exact ⟨n, rfl, h2⟩
end Go.Proofs.Ytmlckfdjiljjhaa
