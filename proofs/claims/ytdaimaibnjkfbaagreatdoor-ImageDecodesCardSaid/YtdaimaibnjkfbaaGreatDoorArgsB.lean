/-
  Arguments: lists of bytes, of lists of bytes.
-/
import Derived.Test.YtdaimaibnjkfbaaGreatDoorArgs
import Derived.Test.YtdaimaibnjkfbaaGreatDoorStr
namespace Go.Proofs.YtdaimaibnjkfbaaGreatDoor
set_option maxRecDepth 100000
open Go.RowKit

theorem le_sum_mem : ∀ {l : List Nat} {x : Nat}, x ∈ l → x ≤ l.sum
  | a :: l, x, h => by
    rw [List.sum_cons]
    rcases List.mem_cons.1 h with rfl | h
    · omega
    · have := le_sum_mem h; omega
theorem u8_of_wf {n : Int} (h : (Lit.int .u8 n).wf = true) : ∃ c : UInt8, n = (c.toNat : Int) := by
  simp [Lit.wf, IntKind.min, IntKind.max, IntKind.signed, IntKind.bits] at h
  refine ⟨UInt8.ofNat n.toNat, ?_⟩
  have : (UInt8.ofNat n.toNat).toNat = n.toNat := by show n.toNat % 2 ^ 8 = _; omega
  rw [this]; omega
theorem u32_of_wf {n : Int} (h : (Lit.int .u32 n).wf = true) : ∃ c : UInt32, n = (c.toNat : Int) := by
  simp [Lit.wf, IntKind.min, IntKind.max, IntKind.signed, IntKind.bits] at h
  refine ⟨UInt32.ofNat n.toNat, ?_⟩
  have : (UInt32.ofNat n.toNat).toNat = n.toNat := by show n.toNat % 2 ^ 32 = _; omega
  rw [this]; omega
theorem Arg.u32 {up : Bool} {W : World} {v : Value} (h : Arg up 198 W v) : ∃ e : UInt32, v = .int .u32 (e.toNat : Int) := by
  obtain ⟨n, rfl, hw⟩ := h.int (k := .u32) Tryz.underlying198
  obtain ⟨c, rfl⟩ := u32_of_wf hw
  exact ⟨c, rfl⟩
theorem ArgC.bytes {up : Bool} {N : Nat} {W : World} {v : Value} (h : ArgC up N 22 W [v]) :
    ∃ l : List UInt8, Rd W v l.length (l.map V8) ∧ (up = true → l.length + 1 ≤ N) ∧ (up = false → l.length ≤ 140737488351232) := by
  obtain ⟨l, h1, h2, Ns, h3, h4, h5⟩ := h.flat 0 (fun n : UInt8 => [V8 n]) (fun _ => rfl) (by decide) (fun _ _ => True) Tryz.underlying22 (by kernel_rfl) (fun N cs hl hc => by
    match cs, hl with
    | [c0], _ =>
      obtain ⟨n, e1, hw⟩ := hc.int (k := .u8) Tryz.underlying5
      simp only [List.cons.injEq, and_true] at e1
      obtain ⟨c, hc⟩ := u8_of_wf hw
      exact ⟨c, by rw [e1, hc]; rfl, trivial⟩)
  refine ⟨l, ?_, fun hu => (h4 hu).2, fun hu => ?_⟩
  · have e : l.flatMap (fun n : UInt8 => [V8 n]) = l.map V8 := List.map_eq_flatMap.symm
    rw [e] at h1; exact h1
  · have := h2 hu
    rw [show Tryz.prog.bytesOf 5 = 1 by kernel_rfl] at this; omega
theorem ArgC.rows {up : Bool} {N : Nat} {W : World} {v : Value} (h : ArgC up N 36 W [v]) :
    ∃ (vs : List Value) (ls : List (List UInt8)), Rd W v ls.length vs ∧ vs.length = ls.length ∧ (∀ i, i < ls.length → Rd W (vs.getD i undef) (ls.getD i []).length ((ls.getD i []).map V8)) ∧ (up = true → ls.length + 1 ≤ N) ∧ (up = false → ls.length ≤ 5864062014805) ∧ ∀ b ∈ ls, (up = true → b.length ≤ N) ∧ (up = false → b.length ≤ 140737488351232) := by
  obtain ⟨l, h1, h2, Ns, h3, h4, h5⟩ := h.flat (undef, []) (fun n : Value × List UInt8 => [n.1]) (fun _ => rfl) (by decide) (fun M b => Rd W b.1 b.2.length (b.2.map V8) ∧ (up = true → b.2.length + 1 ≤ M) ∧ (up = false → b.2.length ≤ 140737488351232)) Tryz.underlying36 (by kernel_rfl) (fun N cs hl hc => by
    match cs, hl with
    | [c0], _ =>
      obtain ⟨b, e1, hw⟩ := hc.bytes
      exact ⟨(c0, b), rfl, e1, hw⟩)
  refine ⟨l.map (·.1), l.map (·.2), ?_, by simp, fun i hi => ?_, fun hu => by have := (h4 hu).2; simpa using this, fun hu => ?_, fun b hb => ?_⟩
  · have e : l.flatMap (fun n : Value × List UInt8 => [n.1]) = l.map (·.1) := List.map_eq_flatMap.symm
    rw [e] at h1; rw [List.length_map]; exact h1
  · rw [List.length_map] at hi
    have := (h5 i hi).1
    simp only [List.getD, List.getElem?_map, List.getElem?_eq_getElem hi] at this ⊢
    exact this
  · have := h2 hu
    rw [show Tryz.prog.bytesOf 22 = 24 by kernel_rfl] at this
    rw [List.length_map]; omega
  · obtain ⟨x, hx, rfl⟩ := List.mem_map.1 hb
    obtain ⟨i, hi, rfl⟩ := List.getElem_of_mem hx
    have e1 : l.getD i (undef, []) = l[i] := by simp [List.getD, hi]
    have := h5 i hi
    rw [e1] at this
    refine ⟨fun hu => ?_, this.2.2⟩
    have h6 := this.2.1 hu
    have h7 : Ns.getD i 0 ≤ Ns.sum := by
      have hi' : i < Ns.length := by omega
      have e2 : Ns.getD i 0 = Ns[i] := by simp [List.getD, hi']
      rw [e2]
      exact le_sum_mem (List.getElem_mem hi')
    have := (h4 hu).1; omega
end Go.Proofs.YtdaimaibnjkfbaaGreatDoor
