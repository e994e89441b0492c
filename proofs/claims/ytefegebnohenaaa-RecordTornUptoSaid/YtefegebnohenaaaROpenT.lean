/-
  RecordTorn's walk, of any arguments.
-/
import Derived.Test.YtefegebnohenaaaArgsB
import Derived.Test.YtefegebnohenaaaRTorn
namespace Go.Proofs.Ytefegebnohenaaa
open Go.RowKit

theorem recordTorn_walk : Walks true 5 [22, 25, 47] := by
  intro W vs h
  match vs, h with
  | [v, x, y], ⟨h1, h2, h3, _⟩ =>
    obtain ⟨e, rfl⟩ := h1.u32
    obtain ⟨rs, ls, a1, a2, a3, a4, _, _⟩ := (h2.slice Try.underlying25).rows
    obtain ⟨cs, rfl, hc⟩ := h3.struct Try.underlying47
    have hl : cs.toList.length = 3 := (hc.struct Try.underlying47).1
    obtain ⟨cs⟩ := cs
    match cs, hl with
    | [c0, c1, c2], _ =>
      obtain ⟨M0, hM0, g0⟩ := hc.fcell Try.underlying47 0 _ rfl (by kernel_rfl) c0 rfl
      obtain ⟨n, rfl, hn⟩ := hc.fint Try.underlying47 1 _ rfl (by kernel_rfl) c1 rfl .i64 Try.underlying3
      obtain ⟨M2, hM2, g2⟩ := hc.fcell Try.underlying47 2 _ rfl (by kernel_rfl) c2 rfl
      obtain ⟨p, p1, _⟩ := ArgC.bytes g0
      obtain ⟨bs, b1, b2, _, b3⟩ := ArgC.texts g2
      have hn := i64_of_wf hn
      exact torn_calls e x c0 c2 rs ls bs p n W a1 a2 a3 (by have := a4 rfl; omega) p1 hn.1 hn.2 b1 (by have := b2 rfl; simp at hM2; omega) (fun b hb => (b3 b hb).1)
end Go.Proofs.Ytefegebnohenaaa
