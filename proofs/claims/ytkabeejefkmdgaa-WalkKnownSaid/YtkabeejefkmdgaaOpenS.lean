/-
  Arguments of the walk's statements: slots, links.
-/
import Derived.Test.YtkabeejefkmdgaaOpenI
import Derived.Test.YtkabeejefkmdgaaLives
namespace Go.Proofs.Ytkabeejefkmdgaa
open Go.RowKit

set_option maxRecDepth 100000 in
theorem ArgC.slot {up : Bool} {N : Nat} {W : World} {cs : List Value} (hl : cs.length = 17) (h : ArgC up N 37 W cs) : ∃ s : SlotM, cs = s.vals := by
  match cs, hl with
  | [c0, c1, c2, c3, c4, c5, c6, c7, c8, c9, c10, c11, c12, c13, c14, c15, c16], _ =>
    have ci : Try.prog.cellsOf 3 = 1 := by kernel_rfl
    have cb : Try.prog.cellsOf 4 = 1 := by kernel_rfl
    have cs' : Try.prog.cellsOf 9 = 1 := by kernel_rfl
    have cu : Try.prog.cellsOf 33 = 1 := by kernel_rfl
    have cl : Try.prog.cellsOf 31 = 2 := by kernel_rfl
    have cx : Try.prog.cellsOf 35 = 12 := by kernel_rfl
    have hs := Try.underlying37
    obtain ⟨b0, rfl⟩ := h.fbool hs 0 _ rfl cb c0 rfl Try.underlying4
    obtain ⟨b1, rfl⟩ := h.fbool hs 1 _ rfl cb c1 rfl Try.underlying4
    obtain ⟨n2, rfl, _⟩ := h.fint hs 2 _ rfl ci c2 rfl .i64 Try.underlying3
    obtain ⟨n3, rfl, _⟩ := h.fint hs 3 _ rfl ci c3 rfl .i64 Try.underlying3
    obtain ⟨n4, rfl, _⟩ := h.fint hs 4 _ rfl ci c4 rfl .i64 Try.underlying3
    obtain ⟨M, _, g⟩ := h.fstruct hs 5 _ rfl 35 5 12 rfl rfl cx
    have g' : ArgC up M 35 W [c5, c6, c7, c8, c9, c10, c11, c12, c13, c14, c15, c16] := g
    have hx := Try.underlying35
    obtain ⟨n5, rfl, _⟩ := g'.fint hx 0 _ rfl ci c5 rfl .i64 Try.underlying3
    obtain ⟨n6, rfl, _⟩ := g'.fint hx 1 _ rfl ci c6 rfl .i64 Try.underlying3
    obtain ⟨M2, _, k⟩ := g'.fstruct hx 2 _ rfl 31 2 2 rfl rfl cl
    have k' : ArgC up M2 31 W [c7, c8] := k
    have hk := Try.underlying31
    obtain ⟨n7, rfl, _⟩ := k'.fint hk 0 _ rfl ci c7 rfl .i64 Try.underlying3
    obtain ⟨n8, rfl, _⟩ := k'.fint hk 1 _ rfl ci c8 rfl .i64 Try.underlying3
    obtain ⟨n9, rfl, _⟩ := g'.fint hx 3 _ rfl ci c9 rfl .i64 Try.underlying3
    obtain ⟨s10, rfl, _⟩ := g'.fstring hx 4 _ rfl cs' c10 rfl Try.underlying9
    obtain ⟨s11, rfl, _⟩ := g'.fstring hx 5 _ rfl cs' c11 rfl Try.underlying9
    obtain ⟨n12, rfl, _⟩ := g'.fint hx 6 _ rfl cu c12 rfl .u64 Try.underlying33
    obtain ⟨n13, rfl, _⟩ := g'.fint hx 7 _ rfl ci c13 rfl .i64 Try.underlying3
    obtain ⟨n14, rfl, _⟩ := g'.fint hx 8 _ rfl ci c14 rfl .i64 Try.underlying3
    obtain ⟨n15, rfl, _⟩ := g'.fint hx 9 _ rfl ci c15 rfl .i64 Try.underlying3
    obtain ⟨n16, rfl, _⟩ := g'.fint hx 10 _ rfl ci c16 rfl .i64 Try.underlying3
    exact ⟨⟨b0, b1, n2, n3, n4, n5, n6, n7, n8, n9, s10, s11, n12, n13, n14, n15, n16⟩, rfl⟩
theorem ArgC.slots {up : Bool} {N : Nat} {W : World} {v : Value} (h : ArgC up N 48 W [v]) : ∃ l : List SlotM, Rd W v l.length (l.flatMap SlotM.vals) := by
  obtain ⟨l, h1, _⟩ := h.flat (size := 17) SlotM.none SlotM.vals SlotM.vals_length (by decide) (fun _ _ => True) Try.underlying48 (by kernel_rfl) (fun N cs hl hc => by
    obtain ⟨s, e⟩ := hc.slot hl
    exact ⟨s, e, trivial⟩)
  exact ⟨l, h1⟩
theorem ArgC.links {up : Bool} {N : Nat} {W : World} {v : Value} (h : ArgC up N 54 W [v]) : ∃ l : List (Int × Int), Rd W v l.length (l.flatMap linkV) := by
  obtain ⟨l, h1, _⟩ := h.flat (size := 2) (0, 0) linkV (fun _ => rfl) (by decide) (fun _ _ => True) Try.underlying54 (by kernel_rfl) (fun N cs hl hc => by
    obtain ⟨a, b, e, _⟩ := hc.two Try.underlying31 ⟨rfl, rfl⟩ ⟨rfl, rfl⟩ hl
    exact ⟨(a, b), e, trivial⟩)
  exact ⟨l, h1⟩
theorem walkLives_walk : Walks false 5 [48, 54] := by
  intro W vs h
  match vs, h with
  | [v, x], ⟨h1, h2, _⟩ =>
    obtain ⟨l, hl⟩ := (h1.slice Try.underlying48).slots
    obtain ⟨ks, hk⟩ := (h2.slice Try.underlying54).links
    exact livesLaw_calls v x l ks W hl hk
end Go.Proofs.Ytkabeejefkmdgaa
