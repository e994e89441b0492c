/-
  The statement of layer, proved out of its walk: whatever the input, the law answers true and leaves its arguments as they were; package errors' variable errorType reads as the program's text lays it (the card ties it).
-/
import Derived.Test.YtjoadcgegobjpaaDoorZ11
import Derived.Test.YtjoadcgegobjpaaDoorTie
import Derived.Test.YtjoadcgegobjpaaDoorCards
import Derived.SevenTiedAt
namespace Go.Proofs.YtjoadcgegobjpaaDoor
open Go.ChangeShapes Go.WideShapes Go.ChangeAt Go.RowKit
set_option maxRecDepth 100000

theorem ArgC.actP {N : Nat} {W : World} {cs : List Value} (hl : cs.length = 3) (h : ArgC false N 48 W cs) : ∃ x : ActP, cs = x.cells ∧ x.Ok W := by
  match cs, hl with
  | [c0, c1, c2], _ =>
    obtain ⟨k, rfl, hw⟩ := h.fint Tryd.underlying48 0 _ rfl (by kernel_rfl) c0 rfl .i64 Tryd.underlying3
    obtain ⟨n, rfl, hw2⟩ := h.fint Tryd.underlying48 1 _ rfl (by kernel_rfl) c1 rfl .i64 Tryd.underlying3
    obtain ⟨M, _, hd⟩ := h.fcell Tryd.underlying48 2 _ rfl (by kernel_rfl) c2 rfl
    obtain ⟨l, h1, _, h2⟩ := ArgC.bytes hd
    exact ⟨⟨k, n, c2, l⟩, rfl, i64_of_wf hw, i64_of_wf hw2, h1⟩
theorem Arg.actsP {W : World} {v : Value} (h : Arg false 23 W v) : ∃ l : List ActP, Rd W v l.length (l.flatMap ActP.cells) ∧ (∀ r ∈ l, r.Ok W) := by
  obtain ⟨l, h1, h2, Ns, _, _, h5⟩ := (h.slice Tryd.underlying23).flat ActP.zero ActP.cells (fun _ => rfl) (by decide) (fun _ x => x.Ok W) Tryd.underlying23 (by kernel_rfl) (fun N cs hl hc => hc.actP hl)
  refine ⟨l, h1, fun r hr => ?_⟩
  obtain ⟨i, hi, rfl⟩ := List.getElem_of_mem hr
  have := h5 i hi
  simpa [List.getD, hi] using this

theorem logPlays_at (W : World) (vs : Array Value) (hg : ErrType W) (h : ArgAll false W [3, 3, 3, 22, 23] vs.toList) : Calls Tryd.prog 3 vs W fun e W' => e = .returned (.bool true) ∧ Below W.heap.size W W' := by
  obtain ⟨vs⟩ := vs
  match vs, h with
  | [v, x, y, z, s], ⟨h1, h2, h3, h4, h5, _⟩ =>
    obtain ⟨a, rfl, hw⟩ := h1.int (k := .i64) Tryd.underlying3
    obtain ⟨b, rfl, hw2⟩ := h2.int (k := .i64) Tryd.underlying3
    obtain ⟨n, rfl, hw3⟩ := h3.int (k := .i64) Tryd.underlying3
    obtain ⟨m, rfl, hw4⟩ := h4.int (k := .u32) Tryd.underlying22
    obtain ⟨e, rfl⟩ := u32_of_wf hw4
    obtain ⟨acts, q1, q2⟩ := h5.actsP
    exact logPlays_calls a b n e s acts W (i64_of_wf hw) (i64_of_wf hw2) (i64_of_wf hw3) q1 q2 hg
theorem logPlays_lifted (os : Os) (started : os.Started) (H : Type) (enc : TypeId × Value → H) :
    ReturnsInHanded {} Tryd.checked os 3 .any (fun w args => (Rows.logPlaysSpec.pre enc Tryd.prog Tryd.f3 [] false w args ∧ laidMetH Tryd.prog laidL w) ∧ sizedMet enc Tryd.prog Tryd.f3 (OpenSpec.ofChange Rows.logPlaysSpec) false w args)
      (Rows.logPlaysSpec.post enc Tryd.prog Tryd.f3 false true false false) := by
  refine returnsInHanded_of_change_and (C := Tryd.checked) (X := fun w _ => laidMetH Tryd.prog laidL w) (fun _ _ _ hh h => h.of_heap hh) L.own started (by kernel_rfl) Tryd.func3
    (ChangeSpec.witness_at (enc := enc) (C := Tryd.checked) (os := os) (X := fun w _ => laidMetH Tryd.prog laidL w) false (laidWorld os) #[.int .i64 0, .int .i64 0, .int .i64 0, .int .u32 0, .slice none 0 0] 8 rfl (by kernel_rfl) (by kernel_rfl) (by kernel_rfl) (by kernel_rfl) (by kernel_rfl) (laidWorld_met os _)) ?_
  intro W base args ds gs before hval hW _ hsz hL _
  exact law_contract_at (up := false) (vt := Rows.logPlaysSpec.plain.varTypes Tryd.prog) rfl (ts := [3, 3, 3, 22, 23]) rfl rfl rfl (by decide +kernel) (fun H ds h => by
      rcases ds with _ | ⟨d0, _ | ⟨d1, _ | ⟨d2, _ | ⟨d3, _ | ⟨d4, _ | ⟨d5, ds⟩⟩⟩⟩⟩⟩ <;> first | exact ⟨rfl, rfl, rfl⟩ | (exfalso; simp at h; done) | (exfalso; simp at h; omega)) H enc W base args ds gs before hval hW hsz (fun h => logPlays_at W args (errType_of_laid hL) h)
theorem logPlays_row : Rows.LogPlaysSaid :=
  OpenClaim.holds_of_wide 3 Tryd.f3 rfl rfl rfl rfl rfl rfl rfl ⟨rfl, rfl, rfl, rfl, rfl⟩ rfl rfl rfl rfl rfl (by kernel_rfl) Tryd.func3 (by kernel_rfl)
    (of_decide_eq_true (by kernel_rfl)) (by unfold Func.isWrapper; first | (rw [if_pos (by decide +kernel)]; kernel_rfl) | (rw [if_neg (by decide +kernel)]; exact ⟨rfl, rfl⟩))
    (fun os started H enc _ => logPlays_lifted os started H enc)
theorem logPlays_card : Rows.LogPlaysCardSaid :=
  Claim7.holds_tied_plain_at .later [] [.handle] true (true, "abb718b2af09bad3e43bf65990f7876b2e130a01804437a0e12d76b6f6054594") true
    logPlays_row (fun _ h => by cases h) (by kernel_rfl) (fun _ h => by cases h) logPlays_row_tie rfl ⟨rfl, rfl⟩ (by kernel_rfl) rfl
    (fun f fn hf hfn => by
      obtain rfl : f = 3 := Option.some.inj ((show Tryd.prog.funcNamed "lineage/lineagelaw13.LogPlays" = some 3 by kernel_rfl).symm.trans hf) |>.symm
      obtain rfl : fn = Tryd.f3 := (Option.some.inj (Tryd.func3.symm.trans hfn)).symm
      exact ⟨by kernel_rfl, fun j t ht => by
        have hp : Tryd.f3.params = #[3, 3, 3, 22, 23] := rfl
        rw [hp] at ht
        have h3 : t = 3 ∨ t = 22 ∨ t = 23 := by
          rcases j with _ | _ | _ | _ | _ | j
          · left; simpa using ht.symm
          · left; simpa using ht.symm
          · left; simpa using ht.symm
          · right; left; simpa using ht.symm
          · right; right; simpa using ht.symm
          · simp at ht
        rcases h3 with rfl | rfl | rfl
        · exact (show Tryd.prog.wantsStandIn 3 = false by kernel_rfl)
        · exact (show Tryd.prog.wantsStandIn 22 = false by kernel_rfl)
        · exact (show Tryd.prog.wantsStandIn 23 = false by kernel_rfl)⟩)
    (by kernel_rfl)
#print axioms logPlays_card
end Go.Proofs.YtjoadcgegobjpaaDoor
