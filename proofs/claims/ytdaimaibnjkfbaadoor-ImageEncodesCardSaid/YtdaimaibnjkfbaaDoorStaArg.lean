/-
  Arguments: sessions, states.
-/
import Derived.Test.YtdaimaibnjkfbaaDoorSesL
import Derived.Test.YtdaimaibnjkfbaaDoorImM
import Derived.Test.YtdaimaibnjkfbaaDoorArgsB
namespace Go.Proofs.YtdaimaibnjkfbaaDoor
open Go.RowKit
set_option maxRecDepth 100000

theorem u64_of_wfS {n : Int} (h : (Lit.int .u64 n).wf = true) : ∃ k : Nat, n = (k : Int) ∧ k < 2 ^ 64 := by
  have h1 : 0 ≤ n ∧ n ≤ 18446744073709551615 := by simpa [Lit.wf, IntKind.min, IntKind.max, IntKind.bits, IntKind.signed] using h
  exact ⟨n.toNat, by omega, by omega⟩
/-- The bounds of the numbers of a session that is handed in. -/
structure SesI (s : SesM) : Prop where
  ok : SesOk s
  slot : I64 s.slot
  birth : I64 s.birth
  upS : I64 s.upS
  upB : I64 s.upB
  kind : I64 s.kind
  level : I64 s.level
  born : I64 s.born
  deadline : I64 s.deadline
  depth : I64 s.depth
theorem ArgC.session {N : Nat} {W : World} {cs : List Value} (hl : cs.length = 12) (h : ArgC false N 56 W cs) : ∃ s : SesM, cs = s.cells.toList ∧ SesI s := by
  match cs, hl with
  | [c1, c2, c3, c4, c5, c6, c7, c8, c9, c10, c11, c12], _ =>
    have ci : Tryd.prog.cellsOf 3 = 1 := by kernel_rfl
    have cs' : Tryd.prog.cellsOf 9 = 1 := by kernel_rfl
    have cu : Tryd.prog.cellsOf 54 = 1 := by kernel_rfl
    have cl : Tryd.prog.cellsOf 52 = 2 := by kernel_rfl
    have hx := Tryd.underlying56
    obtain ⟨n1, rfl, b1⟩ := h.fint hx 0 _ rfl ci c1 rfl .i64 Tryd.underlying3
    obtain ⟨n2, rfl, b2⟩ := h.fint hx 1 _ rfl ci c2 rfl .i64 Tryd.underlying3
    obtain ⟨M2, _, k⟩ := h.fstruct hx 2 _ rfl 52 2 2 rfl rfl cl
    have k' : ArgC false M2 52 W [c3, c4] := k
    have hk := Tryd.underlying52
    obtain ⟨n3, rfl, b3⟩ := k'.fint hk 0 _ rfl ci c3 rfl .i64 Tryd.underlying3
    obtain ⟨n4, rfl, b4⟩ := k'.fint hk 1 _ rfl ci c4 rfl .i64 Tryd.underlying3
    obtain ⟨n5, rfl, b5⟩ := h.fint hx 3 _ rfl ci c5 rfl .i64 Tryd.underlying3
    obtain ⟨s6, rfl, _, _, b6⟩ := h.fstring hx 4 _ rfl cs' c6 rfl Tryd.underlying9
    obtain ⟨s7, rfl, _, _, b7⟩ := h.fstring hx 5 _ rfl cs' c7 rfl Tryd.underlying9
    obtain ⟨n8, rfl, b8⟩ := h.fint hx 6 _ rfl cu c8 rfl .u64 Tryd.underlying54
    obtain ⟨n9, rfl, b9⟩ := h.fint hx 7 _ rfl ci c9 rfl .i64 Tryd.underlying3
    obtain ⟨n10, rfl, b10⟩ := h.fint hx 8 _ rfl ci c10 rfl .i64 Tryd.underlying3
    obtain ⟨n11, rfl, b11⟩ := h.fint hx 9 _ rfl ci c11 rfl .i64 Tryd.underlying3
    obtain ⟨n12, rfl, b12⟩ := h.fint hx 10 _ rfl ci c12 rfl .i64 Tryd.underlying3
    obtain ⟨u, rfl, hu⟩ := SB_of s6
    obtain ⟨l, rfl, hl⟩ := SB_of s7
    obtain ⟨sc, rfl, hsc⟩ := u64_of_wfS b8
    refine ⟨⟨n1, n2, n3, n4, n5, u, l, sc, n9, n10, n11, n12⟩, rfl, ⟨?_, ?_, hsc⟩, i64_of_wf b1, i64_of_wf b2, i64_of_wf b3, i64_of_wf b4, i64_of_wf b5, i64_of_wf b9, i64_of_wf b10, i64_of_wf b11, i64_of_wf b12⟩
    · show u.length ≤ _; rw [hu]; exact Nat.le_trans (b6 rfl) (by decide)
    · show l.length ≤ _; rw [hl]; exact Nat.le_trans (b7 rfl) (by decide)
theorem ArgC.sessions {N : Nat} {W : World} {v : Value} (h : ArgC false N 22 W [v]) : ∃ l : List SesM, RdS W v l ∧ (∀ s ∈ l, SesI s) ∧ l.length ≤ 1256584717421 := by
  obtain ⟨l, h1, h2, Ns, _, _, h5⟩ := h.flat noSes (fun s : SesM => s.cells.toList) (fun _ => rfl) (by decide) (fun _ s => SesI s) Tryd.underlying22 (by kernel_rfl) (fun N cs hl hc => hc.session hl)
  refine ⟨l, h1, fun s hs => ?_, ?_⟩
  · obtain ⟨i, hi, rfl⟩ := List.getElem_of_mem hs
    have := h5 i hi
    simpa [List.getD, hi] using this
  · have := h2 rfl
    rw [show Tryd.prog.bytesOf 56 = 112 by kernel_rfl] at this; omega
/-- A state that came in. -/
theorem Arg.state {W : World} {v : Value} (h : Arg false 24 W v) : ∃ (st : StM) (x : Value), v = .agg #[.int .i64 st.clock, .int .i64 st.births, x] ∧ RdS W x st.l ∧ (∀ s ∈ st.l, SesI s) ∧ st.l.length ≤ 1256584717421 ∧ I64 st.clock ∧ I64 st.births := by
  obtain ⟨⟨cs⟩, rfl, hc⟩ := h.struct Tryd.underlying24
  have hl : cs.length = 3 := by
    have := (hc.struct Tryd.underlying24).1
    rw [show Tryd.prog.cellsOf 24 = 3 by kernel_rfl] at this; exact this
  match cs, hl, hc with
  | [c0, c1, c2], _, hc =>
    obtain ⟨a, rfl, hw⟩ := hc.fint Tryd.underlying24 0 _ rfl (by kernel_rfl) c0 rfl .i64 Tryd.underlying3
    obtain ⟨n, rfl, hw2⟩ := hc.fint Tryd.underlying24 1 _ rfl (by kernel_rfl) c1 rfl .i64 Tryd.underlying3
    obtain ⟨M, _, hd⟩ := hc.fcell Tryd.underlying24 2 _ rfl (by kernel_rfl) c2 rfl
    obtain ⟨l, h1, h2, h3⟩ := hd.sessions
    exact ⟨⟨a, n, l⟩, c2, rfl, h1, h2, h3, i64_of_wf hw, i64_of_wf hw2⟩
end Go.Proofs.YtdaimaibnjkfbaaDoor
