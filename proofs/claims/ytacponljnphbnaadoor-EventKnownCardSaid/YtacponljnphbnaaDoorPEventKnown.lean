/-
  The statement of layer, proved out of its walk: whatever the input, the law answers true and leaves its arguments as they were; package errors' variable errorType reads as the program's text lays it (the card ties it).
-/
import Derived.Test.YtacponljnphbnaaDoorEvKnown
import Derived.Test.YtacponljnphbnaaDoorCardB
import Derived.Test.YtacponljnphbnaaDoorTie
import Derived.Test.YtacponljnphbnaaDoorCards
import Derived.SevenTiedAt
namespace Go.Proofs.YtacponljnphbnaaDoor
open Go.ChangeShapes Go.WideShapes Go.ChangeAt Go.RowKit
set_option maxRecDepth 100000


theorem eventKnown_at (W : World) (vs : Array Value) (hg : ErrType W) (h : ArgAll false W [] vs.toList) : Calls Tryd.prog 6 vs W fun e W' => e = .returned (.bool true) ∧ Below W.heap.size W W' := by
  obtain ⟨vs⟩ := vs
  match vs, h with
  | [], _ =>
    exact eventKnown_calls W hg
theorem eventKnown_lifted (os : Os) (started : os.Started) (H : Type) (enc : TypeId × Value → H) :
    ReturnsInHanded {} Tryd.checked os 6 .any (fun w args => (Rows.eventKnownSpec.pre enc Tryd.prog Tryd.f6 [] false w args ∧ laidMetH Tryd.prog laidL w) ∧ sizedMet enc Tryd.prog Tryd.f6 (OpenSpec.ofChange Rows.eventKnownSpec) false w args)
      (Rows.eventKnownSpec.post enc Tryd.prog Tryd.f6 false true false false) := by
  refine returnsInHanded_of_change_and (C := Tryd.checked) (X := fun w _ => laidMetH Tryd.prog laidL w) (fun _ _ _ hh h => h.of_heap hh) L.own started (by kernel_rfl) Tryd.func6
    (ChangeSpec.witness_at (enc := enc) (C := Tryd.checked) (os := os) (X := fun w _ => laidMetH Tryd.prog laidL w) false (laidWorld os) #[] 8 rfl (by kernel_rfl) (by kernel_rfl) (by kernel_rfl) (by kernel_rfl) (by kernel_rfl) (laidWorld_met os _)) ?_
  intro W base args ds gs before hval hW _ hsz hL _
  exact law_contract_at (up := false) (vt := Rows.eventKnownSpec.plain.varTypes Tryd.prog) rfl (ts := []) rfl rfl rfl (by decide +kernel) (fun H ds h => by
      rcases ds with _ | ⟨d0, _ | ⟨d1, _ | ⟨d2, _ | ⟨d3, _ | ⟨d4, _ | ⟨d5, ds⟩⟩⟩⟩⟩⟩ <;> first | exact ⟨rfl, rfl, rfl⟩ | (exfalso; simp at h; done) | (exfalso; simp at h; omega)) H enc W base args ds gs before hval hW hsz (fun h => eventKnown_at W args (errType_of_laid hL) h)
theorem eventKnown_row : Rows.EventKnownSaid :=
  OpenClaim.holds_of_wide 6 Tryd.f6 rfl rfl rfl rfl rfl rfl rfl ⟨rfl, rfl, rfl, rfl, rfl⟩ rfl rfl rfl rfl rfl (by kernel_rfl) Tryd.func6 (by kernel_rfl)
    (of_decide_eq_true (by kernel_rfl)) (by unfold Func.isWrapper; first | (rw [if_pos (by decide +kernel)]; kernel_rfl) | (rw [if_neg (by decide +kernel)]; exact ⟨rfl, rfl⟩))
    (fun os started H enc _ => eventKnown_lifted os started H enc)
theorem eventKnown_card : Rows.EventKnownCardSaid :=
  Claim7.holds_tied_plain_at .later [] [.handle] true (true, "ff7f39ac3ec40c712294224f2ef29f7e1a203af9450e256fdb1f4133bedbdda6") true
    eventKnown_row (fun _ h => by cases h) (by kernel_rfl) (fun _ h => by cases h) eventKnown_row_tie rfl ⟨rfl, rfl⟩ (by kernel_rfl) rfl
    (fun f fn hf hfn => by
      obtain rfl : f = 6 := Option.some.inj ((show Tryd.prog.funcNamed "lineage/lineagelaw11.EventKnown" = some 6 by kernel_rfl).symm.trans hf) |>.symm
      obtain rfl : fn = Tryd.f6 := (Option.some.inj (Tryd.func6.symm.trans hfn)).symm
      exact ⟨by kernel_rfl, fun j t ht => by
        have hp : Tryd.f6.params = #[] := rfl
        rw [hp] at ht
        simp at ht⟩)
    (by kernel_rfl)
#print axioms eventKnown_card
end Go.Proofs.YtacponljnphbnaaDoor
