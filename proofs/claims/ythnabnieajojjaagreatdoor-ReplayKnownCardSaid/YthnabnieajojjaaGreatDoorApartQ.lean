/-
  Lists that were handed out have memory of their own: the turns of an Apart over rows of elements of many cells, read.
-/
import Derived.Test.YthnabnieajojjaaGreatDoorApartS
namespace Go.Proofs.YthnabnieajojjaaGreatDoor
open Go.RowKit
set_option maxRecDepth 100000

theorem Turn1S.below {R : RowsS} {lsv : Value} {w0 : World} {k i : Nat} {w w' : World} (h : Turn1S R lsv w0 k i w) (hb : Below w.heap.size w w') : Turn1S R lsv w0 k i w' := by
  obtain ⟨⟨xs, h1, h2, h3⟩, h4, h5, h6, h7⟩ := h
  exact ⟨⟨xs, fun j hj => own_below (h1 j hj) hb, h2, h3⟩, h4, h5.below hb, h6, h7.then (Mod.of_below (F := fun _ => False) hb) (fun _ h => h.elim)⟩
theorem Turn1S.lsAt {R : RowsS} {lsv : Value} {w0 : World} {k i : Nat} {w : World} (h : Turn1S R lsv w0 k i w) (hk : k < R.N) :
    ∃ b off cap, lsv = .slice (some ⟨b, off, none⟩) R.N cap ∧ w.cell? ⟨b, off + k, none⟩ = some (R.vs k) := by
  obtain ⟨b, off, cap, h1, h2⟩ := h.ls.at k (by simpa using hk)
  exact ⟨b, off, cap, h1, by rw [h2]; simp [List.getD, hk]⟩
theorem Turn1S.slice {R : RowsS} {lsv : Value} {w0 : World} {k i : Nat} {w : World} (h : Turn1S R lsv w0 k i w) (hk : k < R.N) : ∃ a c, R.vs k = .slice a (R.ns k) c := by
  obtain ⟨⟨xs, h1, _⟩, _⟩ := h
  obtain ⟨a, c, e, _⟩ := own_slice (h1 k hk)
  exact ⟨a, c, e⟩
theorem Turn2S.at {R : RowsS} {lsv : Value} {w0 : World} {E : TypeId} {k i : Nat} {gsv g : Value} {gl : List Value} {w : World} (h : Turn2S R lsv w0 E k gsv gl g i w) (hk : k < R.N) :
    (∃ b off cap, lsv = .slice (some ⟨b, off, none⟩) R.N cap ∧ w.cell? ⟨b, off + k, none⟩ = some (R.vs k)) ∧ w.ownsRow R.B R.e R.sz g (R.ns k + i) (marksS R.mark k (R.ns k + i)) ∧ ∃ a c, R.vs k = .slice a (R.ns k) c := by
  obtain ⟨b, off, cap, h1, h2⟩ := h.ls.at k (by simpa using hk)
  obtain ⟨a, c, h3, _⟩ := h.rd k hk
  obtain ⟨gv, _, _, h4, _⟩ := h.own
  exact ⟨⟨b, off, cap, h1, by rw [h2]; simp [List.getD, hk]⟩, (h4 hk).2.1, a, c, h3⟩
theorem sz_lt {i n sz j : Nat} (hi : i < n) (hj : j < sz) : i * sz + j < n * sz := by
  have := Nat.mul_le_mul_right sz (show i + 1 ≤ n by omega)
  rw [Nat.succ_mul] at this
  omega
theorem Turn3S.at {R : RowsS} {lsv gsv : Value} {gl : List Value} {w : World} (h : Turn3S R lsv gsv gl w) (k : Nat) (hk : k < R.N) :
    (∃ b off cap, lsv = .slice (some ⟨b, off, none⟩) R.N cap ∧ w.cell? ⟨b, off + k, none⟩ = some (R.vs k)) ∧ (∃ a c, R.vs k = .slice a (R.ns k) c ∧ ∀ i, i < R.ns k → ∃ b off, a = some ⟨b, off, none⟩ ∧ ∀ j, j < R.sz → w.cell? ⟨b, off + i * R.sz + j, none⟩ = some ((R.mark k i).getD j undef)) ∧
    ∃ g, (∃ b off cap, gsv = .slice (some ⟨b, off, none⟩) R.N cap ∧ w.cell? ⟨b, off + k, none⟩ = some g) ∧ (∃ b off c, g = .slice (some ⟨b, off, none⟩) (R.ns k + 64) c ∧ ∀ i, i < R.ns k + 64 → ∀ j, j < R.sz → w.cell? ⟨b, off + i * R.sz + j, none⟩ = some ((R.mark k i).getD j undef)) := by
  obtain ⟨b, off, cap, h1, h2⟩ := h.ls.at k (by simpa using hk)
  obtain ⟨b', off', cap', h3, h4⟩ := h.gs.at k (by rw [h.len]; exact hk)
  obtain ⟨a, c, h5, _, _, _, h6⟩ := h.rd k hk
  have hz := R.hsz
  obtain ⟨b2, off2, c2, h7, _⟩ := (h.gd k hk).at 0 (by rw [marksS_length _ _ R.hmk]; have := sz_lt (i := 0) (n := R.ns k + 64) (sz := R.sz) (j := 0) (by omega) hz; omega)
  refine ⟨⟨b, off, cap, h1, by rw [h2]; simp [List.getD, hk]⟩, ⟨a, c, h5, fun i hi => ?_⟩, _, ⟨b', off', cap', h3, h4⟩, b2, off2, c2, h7, fun i hi j hj => ?_⟩
  · obtain ⟨b, off, e1, _⟩ := h6 (i * R.sz + 0) (by rw [marksS_length _ _ R.hmk]; exact sz_lt hi hz)
    refine ⟨b, off, e1, fun j hj => ?_⟩
    obtain ⟨b3, off3, e3, e2⟩ := h6 (i * R.sz + j) (by rw [marksS_length _ _ R.hmk]; exact sz_lt hi hj)
    rw [e1] at e3
    injection e3 with e3; injection e3 with e3 e4
    subst e3; subst e4
    rw [Nat.add_assoc, e2, marksS_get _ _ R.hmk _ _ _ _ hi hj]
  · obtain ⟨b3, off3, c3, h8, h9⟩ := (h.gd k hk).at (i * R.sz + j) (by rw [marksS_length _ _ R.hmk]; exact sz_lt hi hj)
    rw [h7] at h8
    injection h8 with h8; injection h8 with h8; injection h8 with e1 e2
    subst e1; subst e2
    rw [Nat.add_assoc, h9, marksS_get _ _ R.hmk _ _ _ _ hi hj]
end Go.Proofs.YthnabnieajojjaaGreatDoor
