/-
  Arguments of the walk's statements: lists of numbers, links, slots.
-/
import Derived.Test.YtkabeejefkmdgaaArgs
import Derived.Test.YtkabeejefkmdgaaKitI
import Derived.Test.YtkabeejefkmdgaaArena
namespace Go.Proofs.Ytkabeejefkmdgaa
open Go.RowKit

theorem ArgC.ints {up : Bool} {N : Nat} {W : World} {v : Value} (h : ArgC up N 22 W [v]) :
    ∃ l : List Int, Rd W v l.length (l.map VI) ∧ (up = false → l.length ≤ 17592186044416) ∧ ∀ i, i < l.length → I64 (l.getD i 0) := by
  obtain ⟨l, h1, h2, Ns, h3, h4, h5⟩ := h.flat 0 (fun n : Int => [VI n]) (fun _ => rfl) (by decide) (fun _ n => I64 n) Try.underlying22 (by kernel_rfl) (fun N cs hl hc => by
    match cs, hl with
    | [c0], _ =>
      obtain ⟨n, e1, hw⟩ := hc.int (k := .i64) Try.underlying3
      simp only [List.cons.injEq, and_true] at e1
      exact ⟨n, by rw [e1]; rfl, i64_of_wf hw⟩)
  refine ⟨l, ?_, fun hu => ?_, h5⟩
  · have e : l.flatMap (fun n : Int => [VI n]) = l.map VI := List.map_eq_flatMap.symm
    rw [e] at h1; exact h1
  · have := h2 hu
    rw [show Try.prog.bytesOf 3 = 8 by kernel_rfl] at this; omega
/-- Two numbers in a struct. -/
theorem ArgC.two {up : Bool} {N : Nat} {t : TypeId} {W : World} {cs : List Value} {f0 f1 : Field} (ht : Try.prog.underlying t = some (.struct #[f0, f1])) (h0 : f0.type = 3 ∧ f0.offset = 0) (h1 : f1.type = 3 ∧ f1.offset = 1) (hl : cs.length = 2) (h : ArgC up N t W cs) :
    ∃ a b : Int, cs = [.int .i64 a, .int .i64 b] ∧ I64 a ∧ I64 b := by
  match cs, hl with
  | [c0, c1], _ =>
    obtain ⟨_, Ns, _, _, h3⟩ := h.struct ht
    have g0 := h3 0 f0 rfl
    have g1 := h3 1 f1 rfl
    rw [h0.1, h0.2] at g0
    rw [h1.1, h1.2] at g1
    obtain ⟨a, e1, hw⟩ := g0.int (k := .i64) Try.underlying3
    obtain ⟨b, e2, hw2⟩ := g1.int (k := .i64) Try.underlying3
    have ce : (Try.prog.cellsOf 3) = 1 := by kernel_rfl
    simp [ce] at e1
    simp [ce] at e2
    subst e1; subst e2
    exact ⟨a, b, rfl, i64_of_wf hw, i64_of_wf hw2⟩
theorem Arg.two {up : Bool} {t : TypeId} {W : World} {v : Value} {f0 f1 : Field} (ht : Try.prog.underlying t = some (.struct #[f0, f1])) (h0 : f0.type = 3 ∧ f0.offset = 0) (h1 : f1.type = 3 ∧ f1.offset = 1) (hc : Try.prog.cellsOf t = 2) (h : Arg up t W v) :
    ∃ a b : Int, v = .agg #[.int .i64 a, .int .i64 b] ∧ I64 a ∧ I64 b := by
  obtain ⟨cs, rfl, hC⟩ := h.struct ht
  have hl : cs.toList.length = 2 := by rw [← hc]; exact (hC.struct ht).1
  obtain ⟨a, b, e, ha, hb⟩ := hC.two ht h0 h1 hl
  exact ⟨a, b, congrArg Value.agg (Array.toList_inj.1 e), ha, hb⟩
end Go.Proofs.Ytkabeejefkmdgaa
