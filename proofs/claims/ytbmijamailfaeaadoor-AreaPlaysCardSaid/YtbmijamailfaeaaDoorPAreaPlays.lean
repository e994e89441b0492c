/-
  The statement of layer, proved out of its walk: whatever the input, the law answers true and leaves its arguments as they were; package errors' variable errorType reads as the program's text lays it (the card ties it).
-/
import Derived.Test.YtbmijamailfaeaaDoorAreaZ
import Derived.Test.YtbmijamailfaeaaDoorArgsB
import Derived.Test.YtbmijamailfaeaaDoorCardB
import Derived.Test.YtbmijamailfaeaaDoorTie
import Derived.Test.YtbmijamailfaeaaDoorCards
import Derived.SevenTiedAt
namespace Go.Proofs.YtbmijamailfaeaaDoor
open Go.ChangeShapes Go.WideShapes Go.ChangeAt Go.RowKit
set_option maxRecDepth 100000

theorem ArgC.actA {N : Nat} {W : World} {cs : List Value} (hl : cs.length = 5) (h : ArgC false N 37 W cs) : ∃ x : ActA, cs = x.cells ∧ x.Ok W := by
  match cs, hl with
  | [c0, c1, c2, c3, c4], _ =>
    obtain ⟨k, rfl, hw⟩ := h.fint Tryd.underlying37 0 _ rfl (by kernel_rfl) c0 rfl .i64 Tryd.underlying3
    obtain ⟨a, rfl, hw2⟩ := h.fint Tryd.underlying37 1 _ rfl (by kernel_rfl) c1 rfl .i64 Tryd.underlying3
    obtain ⟨n, rfl, hw3⟩ := h.fint Tryd.underlying37 2 _ rfl (by kernel_rfl) c2 rfl .i64 Tryd.underlying3
    obtain ⟨m, rfl, hw4⟩ := h.fint Tryd.underlying37 3 _ rfl (by kernel_rfl) c3 rfl .u32 Tryd.underlying22
    obtain ⟨e, rfl⟩ := u32_of_wf hw4
    obtain ⟨M, _, hd⟩ := h.fcell Tryd.underlying37 4 _ rfl (by kernel_rfl) c4 rfl
    obtain ⟨l, h1, _, h2⟩ := ArgC.bytes hd
    exact ⟨⟨k, a, n, e, c4, l⟩, rfl, i64_of_wf hw, i64_of_wf hw2, i64_of_wf hw3, h1, h2 rfl⟩
theorem Arg.actsA {W : World} {v : Value} (h : Arg false 26 W v) : ∃ l : List ActA, Rd W v l.length (l.flatMap ActA.cells) ∧ (∀ r ∈ l, r.Ok W) ∧ l.length ≤ 140737488351232 := by
  obtain ⟨l, h1, h2, Ns, _, _, h5⟩ := (h.slice Tryd.underlying26).flat ActA.zero ActA.cells (fun _ => rfl) (by decide) (fun _ x => x.Ok W) Tryd.underlying26 (by kernel_rfl) (fun N cs hl hc => hc.actA hl)
  refine ⟨l, h1, fun r hr => ?_, ?_⟩
  · obtain ⟨i, hi, rfl⟩ := List.getElem_of_mem hr
    have := h5 i hi
    simpa [List.getD, hi] using this
  · have := h2 rfl
    rw [show Tryd.prog.bytesOf 37 = 56 by kernel_rfl] at this; omega

theorem areaPlays_at (W : World) (vs : Array Value) (hg : ErrType W) (h : ArgAll false W [3, 26] vs.toList) : Calls Tryd.prog 5 vs W fun e W' => e = .returned (.bool true) ∧ Below W.heap.size W W' := by
  obtain ⟨vs⟩ := vs
  match vs, h with
  | [v, x], ⟨h1, h2, _⟩ =>
    obtain ⟨n, rfl, hw⟩ := h1.int (k := .i64) Tryd.underlying3
    obtain ⟨acts, q1, q2, _⟩ := h2.actsA
    exact areaPlays_calls n x acts W q1 q2 hg (i64_of_wf hw)
theorem areaPlays_lifted (os : Os) (started : os.Started) (H : Type) (enc : TypeId × Value → H) :
    ReturnsInHanded {} Tryd.checked os 5 .any (fun w args => (Rows.areaPlaysSpec.pre enc Tryd.prog Tryd.f5 [] false w args ∧ laidMetH Tryd.prog laidL w) ∧ sizedMet enc Tryd.prog Tryd.f5 (OpenSpec.ofChange Rows.areaPlaysSpec) false w args)
      (Rows.areaPlaysSpec.post enc Tryd.prog Tryd.f5 false true false false) := by
  refine returnsInHanded_of_change_and (C := Tryd.checked) (X := fun w _ => laidMetH Tryd.prog laidL w) (fun _ _ _ hh h => h.of_heap hh) L.own started (by kernel_rfl) Tryd.func5
    (ChangeSpec.witness_at (enc := enc) (C := Tryd.checked) (os := os) (X := fun w _ => laidMetH Tryd.prog laidL w) false (laidWorld os) #[.int .i64 0, .slice none 0 0] 8 rfl (by kernel_rfl) (by kernel_rfl) (by kernel_rfl) (by kernel_rfl) (by kernel_rfl) (laidWorld_met os _)) ?_
  intro W base args ds gs before hval hW _ hsz hL _
  exact law_contract_at (up := false) (vt := Rows.areaPlaysSpec.plain.varTypes Tryd.prog) rfl (ts := [3, 26]) rfl rfl rfl (by decide +kernel) (fun H ds h => by
      rcases ds with _ | ⟨d0, _ | ⟨d1, _ | ⟨d2, _ | ⟨d3, _ | ⟨d4, _ | ⟨d5, ds⟩⟩⟩⟩⟩⟩ <;> first | exact ⟨rfl, rfl, rfl⟩ | (exfalso; simp at h; done) | (exfalso; simp at h; omega)) H enc W base args ds gs before hval hW hsz (fun h => areaPlays_at W args (errType_of_laid hL) h)
theorem areaPlays_row : Rows.AreaPlaysSaid :=
  OpenClaim.holds_of_wide 5 Tryd.f5 rfl rfl rfl rfl rfl rfl rfl ⟨rfl, rfl, rfl, rfl, rfl⟩ rfl rfl rfl rfl rfl (by kernel_rfl) Tryd.func5 (by kernel_rfl)
    (of_decide_eq_true (by kernel_rfl)) (by unfold Func.isWrapper; first | (rw [if_pos (by decide +kernel)]; kernel_rfl) | (rw [if_neg (by decide +kernel)]; exact ⟨rfl, rfl⟩))
    (fun os started H enc _ => areaPlays_lifted os started H enc)
theorem areaPlays_card : Rows.AreaPlaysCardSaid :=
  Claim7.holds_tied_plain_at .later [] [.handle] true (true, "bb56549a49b1d6c34ff496251ed25d42663f0ce8b736bacfc01c3621a9ee07b5") true
    areaPlays_row (fun _ h => by cases h) (by kernel_rfl) (fun _ h => by cases h) areaPlays_row_tie rfl ⟨rfl, rfl⟩ (by kernel_rfl) rfl
    (fun f fn hf hfn => by
      obtain rfl : f = 5 := Option.some.inj ((show Tryd.prog.funcNamed "lineage/lineagelaw14.AreaPlays" = some 5 by kernel_rfl).symm.trans hf) |>.symm
      obtain rfl : fn = Tryd.f5 := (Option.some.inj (Tryd.func5.symm.trans hfn)).symm
      exact ⟨by kernel_rfl, fun j t ht => by
        have hp : Tryd.f5.params = #[3, 26] := rfl
        rw [hp] at ht
        have h3 : t = 3 ∨ t = 26 := by
          rcases j with _ | _ | j
          · left; simpa using ht.symm
          · right; simpa using ht.symm
          · simp at ht
        rcases h3 with rfl | rfl
        · exact (show Tryd.prog.wantsStandIn 3 = false by kernel_rfl)
        · exact (show Tryd.prog.wantsStandIn 26 = false by kernel_rfl)⟩)
    (by kernel_rfl)
#print axioms areaPlays_card
end Go.Proofs.YtbmijamailfaeaaDoor
