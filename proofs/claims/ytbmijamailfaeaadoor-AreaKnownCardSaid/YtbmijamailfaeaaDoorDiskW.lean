/-
  What holds of every disk that calls have made.
-/
import Derived.Test.YtbmijamailfaeaaDoorDisk2
namespace Go.Proofs.YtbmijamailfaeaaDoor
open Go.RowKit

/-- What holds of every disk that calls have made. -/
structure DiskM.Wf (d : DiskM) : Prop where
  inr : ∀ r ∈ d.trail, 0 ≤ r.1 ∧ r.1 < d.strs.length
  short : ∀ r ∈ d.trail, r.2.size ≤ 256
  play : d.strs = playRaws (List.replicate d.strs.length ByteArray.empty) d.trail
theorem playRaws_snoc (s : List ByteArray) (l : List (Int × ByteArray)) (r : Int × ByteArray) : playRaws s (l ++ [r]) = (playRaws s l).set r.1.toNat r.2 := by simp [playRaws]
theorem playRaws_len (s : List ByteArray) (l : List (Int × ByteArray)) : (playRaws s l).length = s.length := playRaws_length l s
theorem DiskM.write_len (d : DiskM) (i : Int) (s : ByteArray) : (d.write i s).1.strs.length = d.strs.length := by
  unfold DiskM.write; split
  · rfl
  split
  · rfl
  split
  · rfl
  · simp
theorem DiskM.Wf.write {d : DiskM} (h : d.Wf) (i : Int) (s : ByteArray) : (d.write i s).1.Wf := by
  unfold DiskM.write; split
  · exact h
  rename_i h1
  split
  · exact h
  rename_i h2
  split
  · exact h
  refine ⟨fun r hr => ?_, fun r hr => ?_, ?_⟩
  · simp only [List.mem_append, List.mem_singleton, List.length_set] at hr ⊢
    rcases hr with hr | rfl
    · exact h.inr r hr
    · simp only; omega
  · simp only [List.mem_append, List.mem_singleton] at hr
    rcases hr with hr | rfl
    · exact h.short r hr
    · simp only; omega
  · simp only [List.length_set]
    rw [playRaws_snoc, ← h.play]
theorem DiskM.Wf.new (n : Nat) (left : Option Nat) : ({ strs := List.replicate n ByteArray.empty, trail := [], left := left } : DiskM).Wf :=
  ⟨fun r hr => by simp at hr, fun r hr => by simp at hr, by simp [playRaws]⟩
theorem DiskM.write_trail (d : DiskM) (i : Int) (s : ByteArray) : (d.write i s).1.trail.length ≤ d.trail.length + 1 ∧ d.trail.length ≤ (d.write i s).1.trail.length := by
  unfold DiskM.write
  split
  · exact ⟨Nat.le_succ _, Nat.le_refl _⟩
  split
  · exact ⟨Nat.le_succ _, Nat.le_refl _⟩
  split
  · exact ⟨Nat.le_succ _, Nat.le_refl _⟩
  · simp
/-- A raw write, whatever it comes to. -/
theorem write_any (d : DiskM) (p : Nat) (F : Nat → Prop) (i : Int) (s : ByteArray) (w : World) (h : IsDisk w d p F) (ht : d.trail.length ≤ 100000000000) (hs : s.size ≤ 9223372036854775807) :
    Calls Tryd.prog 13 #[.pointer (some ⟨p, 0, none⟩), .int .i64 i, .string s] w fun e w' => e = .returned (errV (d.write i s).2) ∧
      ∃ F', IsDisk w' (d.write i s).1 p F' ∧ Mod F w w' ∧ ∀ k, F' k → F k ∨ w.heap.size ≤ k := by
  unfold DiskM.write
  by_cases h1 : 0 ≤ i ∧ i < d.strs.length
  · rw [if_neg (by simpa using h1)]
    by_cases h2 : 256 < s.size
    · rw [if_pos h2]
      refine (write_long d p F i s w h h1 h2).mono ?_
      rintro e w' ⟨rfl, rfl⟩
      exact ⟨rfl, F, h, Mod.refl _ _, fun k hk => .inl hk⟩
    · rw [if_neg h2]
      by_cases h3 : d.left = some 0
      · rw [if_pos h3]
        refine (write_power d p F i s w h h1 (by omega) h3).mono ?_
        rintro e w' ⟨rfl, rfl⟩
        exact ⟨rfl, F, h, Mod.refl _ _, fun k hk => .inl hk⟩
      · rw [if_neg h3]
        obtain ⟨n, rfl⟩ := Int.eq_ofNat_of_zero_le h1.1
        exact write_ok d p F n s w h (by omega) (by omega) h3 ht
  · rw [if_pos h1]
    refine (write_arg d p F i s w h h1).mono ?_
    rintro e w' ⟨rfl, rfl⟩
    exact ⟨rfl, F, h, Mod.refl _ _, fun k hk => .inl hk⟩
/-- Two things stay apart where one of them grows by new blocks. -/
theorem apart_grow {F F' G : Nat → Prop} {n : Nat} (h : ∀ k, F k → ¬ G k) (hG : ∀ k, G k → k < n) (hF : ∀ k, F' k → F k ∨ n ≤ k) : ∀ k, F' k → ¬ G k := fun k hk hg => by
  rcases hF k hk with h1 | h1
  · exact h k h1 hg
  · have := hG k hg; omega
/-- A list of raw writes, one behind the other. -/
def DiskM.writes (d : DiskM) (l : List (Int × ByteArray)) : DiskM := l.foldl (fun d r => (d.write r.1 r.2).1) d
theorem DiskM.writes_wf {d : DiskM} (h : d.Wf) (l : List (Int × ByteArray)) : (d.writes l).Wf := by
  induction l generalizing d with
  | nil => exact h
  | cons a l ih => exact ih (h.write a.1 a.2)
theorem DiskM.writes_len (d : DiskM) (l : List (Int × ByteArray)) : (d.writes l).strs.length = d.strs.length ∧ (d.writes l).trail.length ≤ d.trail.length + l.length := by
  induction l generalizing d with
  | nil => exact ⟨rfl, Nat.le_refl _⟩
  | cons a l ih =>
    have h := ih (d.write a.1 a.2).1
    have h2 := d.write_trail a.1 a.2
    have h3 := d.write_len a.1 a.2
    refine ⟨h.1.trans h3, ?_⟩
    have h4 := h.2
    show ((d.write a.1 a.2).1.writes l).trail.length ≤ _
    rw [List.length_cons]; omega
theorem DiskM.write_left {d : DiskM} (h : d.left = none) (i : Int) (s : ByteArray) : (d.write i s).1.left = none := by
  unfold DiskM.write
  split
  · exact h
  split
  · exact h
  split
  · exact h
  · simp [h]
theorem DiskM.writes_left {d : DiskM} (h : d.left = none) (l : List (Int × ByteArray)) : (d.writes l).left = none := by
  induction l generalizing d with
  | nil => exact h
  | cons a l ih => exact ih (DiskM.write_left h a.1 a.2)
theorem flatRaws_at (l : List (Int × ByteArray)) (k : Nat) (h : k < l.length) : (flatRaws l).getD (k * 2) undef = .int .i64 (l.getD k (0, ByteArray.empty)).1 ∧ (flatRaws l).getD (k * 2 + 1) undef = .string (l.getD k (0, ByteArray.empty)).2 := by
  obtain ⟨h1, h2⟩ := flatRaws_get l k h
  exact ⟨by rw [List.getD, h1]; simp [h], by rw [List.getD, h2]; simp [h]⟩
end Go.Proofs.YtbmijamailfaeaaDoor
