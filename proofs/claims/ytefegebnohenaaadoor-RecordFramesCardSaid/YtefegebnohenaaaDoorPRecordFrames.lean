/-
  The statement of layer, proved out of its walk: whatever the input, the law answers true and leaves its arguments as they were; package errors' variable errorType reads as the program's text lays it (the card ties it).
-/
import Derived.Test.YtefegebnohenaaaDoorRFrames
import Derived.Test.YtefegebnohenaaaDoorCardB
import Derived.Test.YtefegebnohenaaaDoorArgsB
import Derived.Test.YtefegebnohenaaaDoorTie
import Derived.Test.YtefegebnohenaaaDoorCards
import Derived.SevenTiedAt
namespace Go.Proofs.YtefegebnohenaaaDoor
open Go.ChangeShapes Go.WideShapes Go.ChangeAt Go.RowKit
set_option maxRecDepth 100000

theorem recordFrames_at (W : World) (vs : Array Value) (hg : ErrType W) (h : ArgAll false W [22, 23] vs.toList) : Calls Tryd.prog 3 vs W fun e W' => e = .returned (.bool true) ∧ Below W.heap.size W W' := by
  obtain ⟨vs⟩ := vs
  match vs, h with
  | [v, x], ⟨h1, h2, _⟩ =>
    obtain ⟨e, rfl⟩ := h1.u32
    obtain ⟨p, p1, _, p3⟩ := (h2.slice Tryd.underlying23).bytes
    exact recordFrames_calls e x p W p1 (by have := p3 rfl; omega) hg
theorem recordFrames_lifted (os : Os) (started : os.Started) (H : Type) (enc : TypeId × Value → H) :
    ReturnsInHanded {} Tryd.checked os 3 .any (fun w args => (Rows.recordFramesSpec.pre enc Tryd.prog Tryd.f3 [] false w args ∧ laidMetH Tryd.prog laidL w) ∧ sizedMet enc Tryd.prog Tryd.f3 (OpenSpec.ofChange Rows.recordFramesSpec) false w args)
      (Rows.recordFramesSpec.post enc Tryd.prog Tryd.f3 false true false false) := by
  refine returnsInHanded_of_change_and (C := Tryd.checked) (X := fun w _ => laidMetH Tryd.prog laidL w) (fun _ _ _ hh h => h.of_heap hh) L.own started (by kernel_rfl) Tryd.func3
    (ChangeSpec.witness_at (enc := enc) (C := Tryd.checked) (os := os) (X := fun w _ => laidMetH Tryd.prog laidL w) false (laidWorld os) #[.int .u32 0, .slice none 0 0] 8 rfl (by kernel_rfl) (by kernel_rfl) (by kernel_rfl) (by kernel_rfl) (by kernel_rfl) (laidWorld_met os _)) ?_
  intro W base args ds gs before hval hW _ hsz hL _
  exact law_contract_at (up := false) (vt := Rows.recordFramesSpec.plain.varTypes Tryd.prog) rfl (ts := [22, 23]) rfl rfl rfl (by decide +kernel) (fun H ds h => by
      rcases ds with _ | ⟨d0, _ | ⟨d1, _ | ⟨d2, _ | ⟨d3, _ | ⟨d4, ds⟩⟩⟩⟩⟩ <;> first | exact ⟨rfl, rfl, rfl⟩ | (exfalso; simp at h; done) | (exfalso; simp at h; omega)) H enc W base args ds gs before hval hW hsz (fun h => recordFrames_at W args (errType_of_laid hL) h)
theorem recordFrames_row : Rows.RecordFramesSaid :=
  OpenClaim.holds_of_wide 3 Tryd.f3 rfl rfl rfl rfl rfl rfl rfl ⟨rfl, rfl, rfl, rfl, rfl⟩ rfl rfl rfl rfl rfl (by kernel_rfl) Tryd.func3 (by kernel_rfl)
    (of_decide_eq_true (by kernel_rfl)) (by unfold Func.isWrapper; first | (rw [if_pos (by decide +kernel)]; kernel_rfl) | (rw [if_neg (by decide +kernel)]; exact ⟨rfl, rfl⟩))
    (fun os started H enc _ => recordFrames_lifted os started H enc)
theorem recordFrames_card : Rows.RecordFramesCardSaid :=
  Claim7.holds_tied_plain_at .later [] [.handle] true (true, "4e1703de29432e76fc3fc5b9658877d276755684df80290d902ba1f22ee4439f") true
    recordFrames_row (fun _ h => by cases h) (by kernel_rfl) (fun _ h => by cases h) recordFrames_row_tie rfl ⟨rfl, rfl⟩ (by kernel_rfl) rfl
    (fun f fn hf hfn => by
      obtain rfl : f = 3 := Option.some.inj ((show Tryd.prog.funcNamed "lineage/lineagelaw12.RecordFrames" = some 3 by kernel_rfl).symm.trans hf) |>.symm
      obtain rfl : fn = Tryd.f3 := (Option.some.inj (Tryd.func3.symm.trans hfn)).symm
      exact ⟨by kernel_rfl, fun j t ht => by
        have hp : Tryd.f3.params = #[22, 23] := rfl
        rw [hp] at ht
        have h3 : t = 22 ∨ t = 23 := by
          rcases j with _ | _ | j
          · left; simpa using ht.symm
          · right; simpa using ht.symm
          · simp at ht
        rcases h3 with rfl | rfl
        · exact (show Tryd.prog.wantsStandIn 22 = false by kernel_rfl)
        · exact (show Tryd.prog.wantsStandIn 23 = false by kernel_rfl)⟩)
    (by kernel_rfl)
#print axioms recordFrames_card
end Go.Proofs.YtefegebnohenaaaDoor
