/-
  The statement of layer, proved out of its walk: whatever the input, the law answers true and leaves its arguments as they were; package errors' variable errorType reads as the program's text lays it (the card ties it).
-/
import Derived.Test.YtbmijamailfaeaaDoorAreaO
import Derived.Test.YtbmijamailfaeaaDoorArgsB
import Derived.Test.YtbmijamailfaeaaDoorCardB
import Derived.Test.YtbmijamailfaeaaDoorTie
import Derived.Test.YtbmijamailfaeaaDoorCards
import Derived.SevenTiedAt
namespace Go.Proofs.YtbmijamailfaeaaDoor
open Go.ChangeShapes Go.WideShapes Go.ChangeAt Go.RowKit
set_option maxRecDepth 100000

theorem i64_of {n : Int} (h : (Lit.int .i64 n).wf = true) : I64 n := i64_of_wf h
/-- A place that came in. -/
theorem Arg.place {W : World} {v : Value} (h : Arg false 25 W v) : ∃ (a n : Int) (e : UInt32) (d : Value) (l : List UInt8), v = .agg #[.int .i64 a, .int .i64 n, .int .u32 (I32 e), d] ∧ I64 a ∧ I64 n ∧ Rd W d l.length (l.map V8) ∧ l.length ≤ 140737488351232 := by
  obtain ⟨⟨cs⟩, rfl, hc⟩ := h.struct Tryd.underlying25
  have hl : cs.length = 4 := by
    have := (hc.struct Tryd.underlying25).1
    rw [show Tryd.prog.cellsOf 25 = 4 by kernel_rfl] at this; exact this
  match cs, hl, hc with
  | [c0, c1, c2, c3], _, hc =>
    obtain ⟨a, rfl, hw⟩ := hc.fint Tryd.underlying25 0 _ rfl (by kernel_rfl) c0 rfl .i64 Tryd.underlying3
    obtain ⟨n, rfl, hw2⟩ := hc.fint Tryd.underlying25 1 _ rfl (by kernel_rfl) c1 rfl .i64 Tryd.underlying3
    obtain ⟨m, rfl, hw3⟩ := hc.fint Tryd.underlying25 2 _ rfl (by kernel_rfl) c2 rfl .u32 Tryd.underlying22
    obtain ⟨e, rfl⟩ := u32_of_wf hw3
    obtain ⟨M, _, hd⟩ := hc.fcell Tryd.underlying25 3 _ rfl (by kernel_rfl) c3 rfl
    obtain ⟨l, h1, _, h2⟩ := ArgC.bytes hd
    exact ⟨a, n, e, c3, l, rfl, i64_of_wf hw, i64_of_wf hw2, h1, h2 rfl⟩

theorem areaOne_at (W : World) (vs : Array Value) (hg : ErrType W) (h : ArgAll false W [25, 23, 3] vs.toList) : Calls Tryd.prog 4 vs W fun e W' => e = .returned (.bool true) ∧ Below W.heap.size W W' := by
  obtain ⟨vs⟩ := vs
  match vs, h with
  | [v, x, y], ⟨h1, h2, h3, _⟩ =>
    obtain ⟨a, n, e, d, l, rfl, p1, p2, p3, p4⟩ := h1.place
    obtain ⟨q, q1, _, q2⟩ := (h2.slice Tryd.underlying23).bytes
    obtain ⟨c, rfl, hw⟩ := h3.int (k := .i64) Tryd.underlying3
    exact areaOne_calls a n e d l x q c W p1 p2 p3 p4 q1 (q2 rfl) (i64_of_wf hw) hg
theorem areaOne_lifted (os : Os) (started : os.Started) (H : Type) (enc : TypeId × Value → H) :
    ReturnsInHanded {} Tryd.checked os 4 .any (fun w args => (Rows.areaOneSpec.pre enc Tryd.prog Tryd.f4 [] false w args ∧ laidMetH Tryd.prog laidL w) ∧ sizedMet enc Tryd.prog Tryd.f4 (OpenSpec.ofChange Rows.areaOneSpec) false w args)
      (Rows.areaOneSpec.post enc Tryd.prog Tryd.f4 false true false false) := by
  refine returnsInHanded_of_change_and (C := Tryd.checked) (X := fun w _ => laidMetH Tryd.prog laidL w) (fun _ _ _ hh h => h.of_heap hh) L.own started (by kernel_rfl) Tryd.func4
    (ChangeSpec.witness_at (enc := enc) (C := Tryd.checked) (os := os) (X := fun w _ => laidMetH Tryd.prog laidL w) false (laidWorld os) #[.agg #[.int .i64 0, .int .i64 0, .int .u32 0, .slice none 0 0], .slice none 0 0, .int .i64 0] 8 rfl (by kernel_rfl) (by kernel_rfl) (by kernel_rfl) (by kernel_rfl) (by kernel_rfl) (laidWorld_met os _)) ?_
  intro W base args ds gs before hval hW _ hsz hL _
  exact law_contract_at (up := false) (vt := Rows.areaOneSpec.plain.varTypes Tryd.prog) rfl (ts := [25, 23, 3]) rfl rfl rfl (by decide +kernel) (fun H ds h => by
      rcases ds with _ | ⟨d0, _ | ⟨d1, _ | ⟨d2, _ | ⟨d3, _ | ⟨d4, _ | ⟨d5, ds⟩⟩⟩⟩⟩⟩ <;> first | exact ⟨rfl, rfl, rfl⟩ | (exfalso; simp at h; done) | (exfalso; simp at h; omega)) H enc W base args ds gs before hval hW hsz (fun h => areaOne_at W args (errType_of_laid hL) h)
theorem areaOne_row : Rows.AreaOneSaid :=
  OpenClaim.holds_of_wide 4 Tryd.f4 rfl rfl rfl rfl rfl rfl rfl ⟨rfl, rfl, rfl, rfl, rfl⟩ rfl rfl rfl rfl rfl (by kernel_rfl) Tryd.func4 (by kernel_rfl)
    (of_decide_eq_true (by kernel_rfl)) (by unfold Func.isWrapper; first | (rw [if_pos (by decide +kernel)]; kernel_rfl) | (rw [if_neg (by decide +kernel)]; exact ⟨rfl, rfl⟩))
    (fun os started H enc _ => areaOne_lifted os started H enc)
theorem areaOne_card : Rows.AreaOneCardSaid :=
  Claim7.holds_tied_plain_at .later [] [.handle] true (true, "bb56549a49b1d6c34ff496251ed25d42663f0ce8b736bacfc01c3621a9ee07b5") true
    areaOne_row (fun _ h => by cases h) (by kernel_rfl) (fun _ h => by cases h) areaOne_row_tie rfl ⟨rfl, rfl⟩ (by kernel_rfl) rfl
    (fun f fn hf hfn => by
      obtain rfl : f = 4 := Option.some.inj ((show Tryd.prog.funcNamed "lineage/lineagelaw14.AreaOne" = some 4 by kernel_rfl).symm.trans hf) |>.symm
      obtain rfl : fn = Tryd.f4 := (Option.some.inj (Tryd.func4.symm.trans hfn)).symm
      exact ⟨by kernel_rfl, fun j t ht => by
        have hp : Tryd.f4.params = #[25, 23, 3] := rfl
        rw [hp] at ht
        have h3 : t = 25 ∨ t = 23 ∨ t = 3 := by
          rcases j with _ | _ | _ | j
          · left; simpa using ht.symm
          · right; left; simpa using ht.symm
          · right; right; simpa using ht.symm
          · simp at ht
        rcases h3 with rfl | rfl | rfl
        · exact (show Tryd.prog.wantsStandIn 25 = false by kernel_rfl)
        · exact (show Tryd.prog.wantsStandIn 23 = false by kernel_rfl)
        · exact (show Tryd.prog.wantsStandIn 3 = false by kernel_rfl)⟩)
    (by kernel_rfl)
#print axioms areaOne_card
end Go.Proofs.YtbmijamailfaeaaDoor
