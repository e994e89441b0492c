/-
  The statement of layer, proved out of its walk: whatever the input, the law answers true and leaves its arguments as they were; package errors' variable errorType reads as the program's text lays it (the card ties it).
-/
import Derived.Test.YtmlckfdjiljjhaaDoorAfter
import Derived.Test.YtmlckfdjiljjhaaDoorArgs
import Derived.Test.YtmlckfdjiljjhaaDoorCardB
import Derived.Test.YtmlckfdjiljjhaaDoorTie
import Derived.Test.YtmlckfdjiljjhaaDoorCards
import Derived.SevenTiedAt
namespace Go.Proofs.YtmlckfdjiljjhaaDoor
open Go.ChangeShapes Go.WideShapes Go.ChangeAt Go.RowKit
set_option maxRecDepth 100000

/-- What holds of an act that came in. -/
def ActOk (_ : Nat) (r : Int × Int × ByteArray) : Prop := -9223372036854775808 ≤ r.1 ∧ r.1 ≤ 9223372036854775807 ∧ -9223372036854775808 ≤ r.2.1 ∧ r.2.1 ≤ 9223372036854775807 ∧ r.2.2.size ≤ 140737488351232
theorem ArgC.act {N : Nat} {W : World} {cs : List Value} (hl : cs.length = 3) (h : ArgC false N 46 W cs) : ∃ r : Int × Int × ByteArray, cs = [.int .i64 r.1, .int .i64 r.2.1, .string r.2.2] ∧ ActOk N r := by
  match cs, hl with
  | [c0, c1, c2], _ =>
    obtain ⟨n, rfl, hw⟩ := h.fint Tryd.underlying46 0 _ rfl (by kernel_rfl) c0 rfl .i64 Tryd.underlying3
    obtain ⟨m, rfl, hw2⟩ := h.fint Tryd.underlying46 1 _ rfl (by kernel_rfl) c1 rfl .i64 Tryd.underlying3
    obtain ⟨s, rfl, _, _, hs⟩ := h.fstring Tryd.underlying46 2 _ rfl (by kernel_rfl) c2 rfl Tryd.underlying9
    exact ⟨(n, m, s), rfl, (i64_of_wf hw).1, (i64_of_wf hw).2, (i64_of_wf hw2).1, (i64_of_wf hw2).2, hs rfl⟩
theorem Arg.acts {W : World} {v : Value} (h : Arg false 22 W v) : ∃ l : List (Int × Int × ByteArray), Rd W v l.length (flatActs l) ∧ ∀ r ∈ l, ActOk 0 r := by
  obtain ⟨l, h1, _, Ns, _, _, h5⟩ := (h.slice Tryd.underlying22).flat (0, 0, ByteArray.empty) (fun r : Int × Int × ByteArray => [.int .i64 r.1, .int .i64 r.2.1, .string r.2.2]) (fun _ => rfl) (by decide) ActOk Tryd.underlying22 (by kernel_rfl) (fun N cs hl hc => hc.act hl)
  refine ⟨l, h1, fun r hr => ?_⟩
  obtain ⟨i, hi, rfl⟩ := List.getElem_of_mem hr
  have := h5 i hi
  simpa [ActOk, List.getD, hi] using this

theorem diskAfter_at (W : World) (vs : Array Value) (hg : ErrType W) (h : ArgAll false W [3, 22, 3, 22] vs.toList) : Calls Tryd.prog 4 vs W fun e W' => e = .returned (.bool true) ∧ Below W.heap.size W W' := by
  obtain ⟨vs⟩ := vs
  match vs, h with
  | [v, x, u, y], ⟨h1, h2, h3, h4, _⟩ =>
    obtain ⟨n, rfl, hw⟩ := h1.int (k := .i64) Tryd.underlying3
    obtain ⟨l, p1, p2⟩ := h2.acts
    obtain ⟨m, rfl, hw2⟩ := h3.int (k := .i64) Tryd.underlying3
    obtain ⟨l2, q1, q2⟩ := h4.acts
    exact diskAfter_calls n m x y l l2 W p1 p2 q1 q2 hg
theorem diskAfter_lifted (os : Os) (started : os.Started) (H : Type) (enc : TypeId × Value → H) :
    ReturnsInHanded {} Tryd.checked os 4 .any (fun w args => (Rows.diskAfterSpec.pre enc Tryd.prog Tryd.f4 [] false w args ∧ laidMetH Tryd.prog laidL w) ∧ sizedMet enc Tryd.prog Tryd.f4 (OpenSpec.ofChange Rows.diskAfterSpec) false w args)
      (Rows.diskAfterSpec.post enc Tryd.prog Tryd.f4 false true false false) := by
  refine returnsInHanded_of_change_and (C := Tryd.checked) (X := fun w _ => laidMetH Tryd.prog laidL w) (fun _ _ _ hh h => h.of_heap hh) L.own started (by kernel_rfl) Tryd.func4
    (ChangeSpec.witness_at (enc := enc) (C := Tryd.checked) (os := os) (X := fun w _ => laidMetH Tryd.prog laidL w) false (laidWorld os) #[.int .i64 0, .slice none 0 0, .int .i64 0, .slice none 0 0] 8 rfl (by kernel_rfl) (by kernel_rfl) (by kernel_rfl) (by kernel_rfl) (by kernel_rfl) (laidWorld_met os _)) ?_
  intro W base args ds gs before hval hW _ hsz hL _
  exact law_contract_at (up := false) (vt := Rows.diskAfterSpec.plain.varTypes Tryd.prog) rfl (ts := [3, 22, 3, 22]) rfl rfl rfl (by decide +kernel) (fun H ds h => by
      rcases ds with _ | ⟨d0, _ | ⟨d1, _ | ⟨d2, _ | ⟨d3, _ | ⟨d4, _ | ⟨d5, ds⟩⟩⟩⟩⟩⟩ <;> first | exact ⟨rfl, rfl, rfl⟩ | (exfalso; simp at h; done) | (exfalso; simp at h; omega)) H enc W base args ds gs before hval hW hsz (fun h => diskAfter_at W args (errType_of_laid hL) h)
theorem diskAfter_row : Rows.DiskAfterSaid :=
  OpenClaim.holds_of_wide 4 Tryd.f4 rfl rfl rfl rfl rfl rfl rfl ⟨rfl, rfl, rfl, rfl, rfl⟩ rfl rfl rfl rfl rfl (by kernel_rfl) Tryd.func4 (by kernel_rfl)
    (of_decide_eq_true (by kernel_rfl)) (by unfold Func.isWrapper; first | (rw [if_pos (by decide +kernel)]; kernel_rfl) | (rw [if_neg (by decide +kernel)]; exact ⟨rfl, rfl⟩))
    (fun os started H enc _ => diskAfter_lifted os started H enc)
theorem diskAfter_card : Rows.DiskAfterCardSaid :=
  Claim7.holds_tied_plain_at .later [] [.handle] true (true, "f830d8dea9bcb7e1e4fb716fd23c6cf085d643ed2b6415763d89b10082f319e1") true
    diskAfter_row (fun _ h => by cases h) (by kernel_rfl) (fun _ h => by cases h) diskAfter_row_tie rfl ⟨rfl, rfl⟩ (by kernel_rfl) rfl
    (fun f fn hf hfn => by
      obtain rfl : f = 4 := Option.some.inj ((show Tryd.prog.funcNamed "lineage/lineagelaw09.DiskAfter" = some 4 by kernel_rfl).symm.trans hf) |>.symm
      obtain rfl : fn = Tryd.f4 := (Option.some.inj (Tryd.func4.symm.trans hfn)).symm
      exact ⟨by kernel_rfl, fun j t ht => by
        have hp : Tryd.f4.params = #[3, 22, 3, 22] := rfl
        rw [hp] at ht
        have h3 : t = 3 ∨ t = 22 := by
          rcases j with _ | _ | _ | _ | j
          · left; simpa using ht.symm
          · right; simpa using ht.symm
          · left; simpa using ht.symm
          · right; simpa using ht.symm
          · simp at ht
        rcases h3 with rfl | rfl
        · exact (show Tryd.prog.wantsStandIn 3 = false by kernel_rfl)
        · exact (show Tryd.prog.wantsStandIn 22 = false by kernel_rfl)⟩)
    (by kernel_rfl)
#print axioms diskAfter_card
end Go.Proofs.YtmlckfdjiljjhaaDoor
