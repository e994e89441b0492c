/-
  lineagekit.Plain: of an error of package api, or none.
-/
import Derived.Test.YtdaimaibnjkfbaaDoorErrV
import Derived.Test.YtdaimaibnjkfbaaDoorAs
namespace Go.Proofs.YtdaimaibnjkfbaaDoor
open Go.RowKit
set_option maxRecDepth 100000

theorem plain_any (er : Int) (w : World) (h1 : 0 ≤ er) (h2 : er ≤ 24) (hg : ErrType w) : Calls Tryd.prog 15 #[errV er, .int .i64 er] w fun e w' => e = .returned (.bool true) ∧ Below w.heap.size w w' := by
  by_cases h0 : er = 0
  · subst h0
    exact plain_nil w
  · obtain ⟨n, rfl⟩ := Int.eq_ofNat_of_zero_le h1
    have e : errV (n : Int) = errN n := by unfold errV; rw [if_neg h0]; rfl
    have := plain_calls n w (by omega) (by omega) hg
    rw [← e] at this
    exact this
end Go.Proofs.YtdaimaibnjkfbaaDoor
