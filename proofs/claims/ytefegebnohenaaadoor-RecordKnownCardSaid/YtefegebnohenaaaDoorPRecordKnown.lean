/-
  The statement of layer, proved out of its walk: whatever the input, the law answers true and leaves its arguments as they were; package errors' variable errorType reads as the program's text lays it (the card ties it).
-/
import Derived.Test.YtefegebnohenaaaDoorKnown12
import Derived.Test.YtefegebnohenaaaDoorCardB
import Derived.Test.YtefegebnohenaaaDoorArgsB
import Derived.Test.YtefegebnohenaaaDoorTie
import Derived.Test.YtefegebnohenaaaDoorCards
import Derived.SevenTiedAt
namespace Go.Proofs.YtefegebnohenaaaDoor
open Go.ChangeShapes Go.WideShapes Go.ChangeAt Go.RowKit
set_option maxRecDepth 100000

theorem recordKnown_at (W : World) (vs : Array Value) (hg : ErrType W) (h : ArgAll false W [] vs.toList) : Calls Tryd.prog 4 vs W fun e W' => e = .returned (.bool true) ∧ Below W.heap.size W W' := by
  obtain ⟨vs⟩ := vs
  match vs, h with
  | [], _ => exact recordKnown_calls W hg
theorem recordKnown_lifted (os : Os) (started : os.Started) (H : Type) (enc : TypeId × Value → H) :
    ReturnsInHanded {} Tryd.checked os 4 .any (fun w args => (Rows.recordKnownSpec.pre enc Tryd.prog Tryd.f4 [] false w args ∧ laidMetH Tryd.prog laidL w) ∧ sizedMet enc Tryd.prog Tryd.f4 (OpenSpec.ofChange Rows.recordKnownSpec) false w args)
      (Rows.recordKnownSpec.post enc Tryd.prog Tryd.f4 false true false false) := by
  refine returnsInHanded_of_change_and (C := Tryd.checked) (X := fun w _ => laidMetH Tryd.prog laidL w) (fun _ _ _ hh h => h.of_heap hh) L.own started (by kernel_rfl) Tryd.func4
    (ChangeSpec.witness_at (enc := enc) (C := Tryd.checked) (os := os) (X := fun w _ => laidMetH Tryd.prog laidL w) false (laidWorld os) #[] 8 rfl (by kernel_rfl) (by kernel_rfl) (by kernel_rfl) (by kernel_rfl) (by kernel_rfl) (laidWorld_met os _)) ?_
  intro W base args ds gs before hval hW _ hsz hL _
  exact law_contract_at (up := false) (vt := Rows.recordKnownSpec.plain.varTypes Tryd.prog) rfl (ts := []) rfl rfl rfl (by decide +kernel) (fun H ds h => by
      rcases ds with _ | ⟨d0, _ | ⟨d1, _ | ⟨d2, _ | ⟨d3, _ | ⟨d4, ds⟩⟩⟩⟩⟩ <;> first | exact ⟨rfl, rfl, rfl⟩ | (exfalso; simp at h; done) | (exfalso; simp at h; omega)) H enc W base args ds gs before hval hW hsz (fun h => recordKnown_at W args (errType_of_laid hL) h)
theorem recordKnown_row : Rows.RecordKnownSaid :=
  OpenClaim.holds_of_wide 4 Tryd.f4 rfl rfl rfl rfl rfl rfl rfl ⟨rfl, rfl, rfl, rfl, rfl⟩ rfl rfl rfl rfl rfl (by kernel_rfl) Tryd.func4 (by kernel_rfl)
    (of_decide_eq_true (by kernel_rfl)) (by unfold Func.isWrapper; first | (rw [if_pos (by decide +kernel)]; kernel_rfl) | (rw [if_neg (by decide +kernel)]; exact ⟨rfl, rfl⟩))
    (fun os started H enc _ => recordKnown_lifted os started H enc)
theorem recordKnown_card : Rows.RecordKnownCardSaid :=
  Claim7.holds_tied_plain_at .later [] [.handle] true (true, "4e1703de29432e76fc3fc5b9658877d276755684df80290d902ba1f22ee4439f") true
    recordKnown_row (fun _ h => by cases h) (by kernel_rfl) (fun _ h => by cases h) recordKnown_row_tie rfl ⟨rfl, rfl⟩ (by kernel_rfl) rfl
    (fun f fn hf hfn => by
      obtain rfl : f = 4 := Option.some.inj ((show Tryd.prog.funcNamed "lineage/lineagelaw12.RecordKnown" = some 4 by kernel_rfl).symm.trans hf) |>.symm
      obtain rfl : fn = Tryd.f4 := (Option.some.inj (Tryd.func4.symm.trans hfn)).symm
      exact ⟨by kernel_rfl, fun j t ht => by
        have hp : Tryd.f4.params = #[] := rfl
        rw [hp] at ht
        simp at ht⟩)
    (by kernel_rfl)
#print axioms recordKnown_card
end Go.Proofs.YtefegebnohenaaaDoor
