/-
  The plain law of WalkAbove: in a line of slots, of which one may be harmed, a session lives just as long as none at or above it is.
-/
import Derived.Test.YtkabeejefkmdgaaLine
import Derived.Test.YtkabeejefkmdgaaHarm
namespace Go.Proofs.Ytkabeejefkmdgaa
open Go.RowKit

theorem lineL_len (p : List Nat) : ∀ i, (lineL p i).length = 32
  | 0 => by simp [lineL]
  | i + 1 => by simp [lineL, lineL_len p i]
theorem lineL_at (p : List Nat) (hp : IsSlots p) : ∀ i, i ≤ p.length → ∀ j, j < i → (lineL p i)[p.getD j 0]? = some (lineSlot p j)
  | 0, _, j, hj => by omega
  | i + 1, hi, j, hj => by
    have hlt : ∀ k, k < p.length → p.getD k 0 < 32 := fun k hk => hp.lt _ (by simp [List.getD, hk])
    rw [lineL]
    by_cases e : j = i
    · subst e
      rw [List.getElem?_set_self (by rw [lineL_len]; exact hlt j (by omega))]
    · rw [List.getElem?_set_ne ?_]
      · exact lineL_at p hp i (by omega) j (by omega)
      · intro e2
        have hi' : i < p.length := by omega
        have hj' : j < p.length := by omega
        simp only [List.getD, List.getElem?_eq_getElem hi', List.getElem?_eq_getElem hj', Option.getD_some] at e2
        have hpw := List.pairwise_iff_getElem.1 hp.nodup
        rcases Nat.lt_or_gt_of_ne e with h | h
        · exact hpw j i hj' hi' h e2.symm
        · exact hpw i j hi' hj' h e2
theorem lineL_none (p : List Nat) (x : Nat) (hx : x < 32) : ∀ i, i ≤ p.length → x ∉ p → (lineL p i)[x]? = some SlotM.bare
  | 0, _, _ => by rw [lineL, List.getElem?_replicate_of_lt hx]
  | i + 1, hi, hn => by
    rw [lineL, List.getElem?_set_ne]
    · exact lineL_none p x hx i (by omega) hn
    · intro e
      apply hn
      rw [← e]; simp [List.getD, show i < p.length by omega]
theorem slotAt_of {l : List SlotM} {x : Nat} {s : SlotM} (hx : x < 32) (h : l[x]? = some s) : slotAt l (x : Int) = s := by
  unfold slotAt
  rw [if_pos (by omega), Int.toNat_natCast, List.getD, h]; rfl
/-- Is the j-th, or one above it, harmed? -/
def deadB (p : List Nat) (at_ : Nat) (yes : Bool) (j : Nat) : Bool := yes && decide (at_ ∈ p.take j)
theorem deadB_succ (p : List Nat) (at_ : Nat) (yes : Bool) (j : Nat) (hj : j < p.length) : deadB p at_ yes (j + 1) = (deadB p at_ yes j || (yes && decide (p.getD j 0 = at_))) := by
  unfold deadB
  rw [List.take_succ_eq_append_getElem hj]
  cases yes
  · rfl
  · simp only [Bool.true_and, List.mem_append, List.mem_singleton, List.getD, List.getElem?_eq_getElem hj, Option.getD_some]
    by_cases h1 : at_ ∈ p.take j
    · simp [h1]
    · by_cases h2 : p[j] = at_
      · simp [h1, h2]
      · simp [h1, h2, Ne.symm h2]
theorem harmM_no (s : SlotM) (k : Int) (h : (harmM s k).2 = false) : (harmM s k).1 = s := by
  unfold harmM at *
  split
  · rename_i h1; rw [if_pos h1] at h; cases h
  · rename_i h1; rw [if_neg h1] at h
    split
    · rename_i h2; rw [if_pos h2] at h; cases h
    · rename_i h2; rw [if_neg h2] at h
      split
      · rename_i h3; rw [if_pos h3] at h; cases h
      · rfl
theorem harmM_yes (s : SlotM) (k : Int) (h : (harmM s k).2 = true) : ((harmM s k).1.used && (!(harmM s k).1.dead && decide ((harmM s k).1.birth = s.birth))) = false := by
  unfold harmM at *
  split
  · rfl
  · rename_i h1; rw [if_neg h1] at h
    split
    · simp
    · rename_i h2; rw [if_neg h2] at h
      split
      · simp
        intros; omega
      · rename_i h3; rw [if_neg h3] at h; cases h
theorem above_up (p : List Nat) (hp : IsSlots p) (at_ : Nat) (k : Int) (L : List SlotM) (s : SlotM) (hs : (lineL p p.length)[at_]? = some s) (hL : L = (lineL p p.length).set at_ (harmM s k).1) :
    ∀ j, j < p.length → ∀ f, j + 1 ≤ f → (upM L f (p.getD j 0 : Nat) (10 + (j : Int))).2 = !deadB p at_ (harmM s k).2 (j + 1) ∧
      (upM L f (p.getD j 0 : Nat) (10 + (j : Int))).1.length ≤ j + 1 ∧ (deadB p at_ (harmM s k).2 (j + 1) = true → (upM L f (p.getD j 0 : Nat) (10 + (j : Int))).1.length ≤ j) ∧ (deadB p at_ (harmM s k).2 (j + 1) = false → (upM L f (p.getD j 0 : Nat) (10 + (j : Int))).1.length = j + 1) := by
  intro j
  induction j with
  | zero =>
    intro hj f hf
    have hlt : p.getD 0 0 < 32 := hp.lt _ (by simp [List.getD, hj])
    have hat := lineL_at p hp p.length (Nat.le_refl _) 0 hj
    have hz : ((p.getD 0 0 : Nat) : Int) < 32 := by omega
    obtain ⟨f, rfl⟩ : ∃ g, f = g + 1 := ⟨f - 1, by omega⟩
    rw [deadB_succ p at_ _ 0 hj]
    have hd0 : deadB p at_ (harmM s k).2 0 = false := by simp [deadB]
    rw [hd0, Bool.false_or]
    by_cases e : p.getD 0 0 = at_
    · have hss : s = lineSlot p 0 := by rw [e] at hat; rw [hs] at hat; injection hat
      have hsl : slotAt L (p.getD 0 0 : Nat) = (harmM s k).1 := by
        refine slotAt_of hlt ?_
        rw [hL, e, List.getElem?_set_self (by rw [lineL_len]; omega)]
      simp only [e, decide_true, Bool.and_true]
      rw [← e]
      cases hy : (harmM s k).2 with
      | true =>
        have h := harmM_yes s k hy
        have hh : holdsM L (p.getD 0 0 : Nat) (10 + ((0 : Nat) : Int)) = false := by
          unfold holdsM
          rw [hsl]
          have hb : s.birth = 10 + ((0 : Nat) : Int) := by rw [hss]; rfl
          rw [← hb, h]; simp
        rw [upM_no _ _ _ _ hh]; simp
      | false =>
        have h := harmM_no s k hy
        rw [h, hss] at hsl
        have hh : holdsM L (p.getD 0 0 : Nat) (10 + ((0 : Nat) : Int)) = true := by
          unfold holdsM
          rw [hsl, decide_eq_true (⟨by omega, hz⟩ : (0 : Int) ≤ _ ∧ _)]; rfl
        rw [upM_root _ _ _ _ hh (by rw [hsl]; simp [lineSlot])]; simp
    · have hsl : slotAt L (p.getD 0 0 : Nat) = lineSlot p 0 := by
        refine slotAt_of hlt ?_
        rw [hL, List.getElem?_set_ne (fun h => e h.symm)]; exact hat
      have hh : holdsM L (p.getD 0 0 : Nat) (10 + ((0 : Nat) : Int)) = true := by
        unfold holdsM
        rw [hsl, decide_eq_true (⟨by omega, hz⟩ : (0 : Int) ≤ _ ∧ _)]; rfl
      rw [upM_root _ _ _ _ hh (by rw [hsl]; simp [lineSlot])]
      rw [decide_eq_false e, Bool.and_false]; simp
  | succ j ih =>
    intro hj f hf
    have hlt : p.getD (j + 1) 0 < 32 := hp.lt _ (by simp [List.getD, hj])
    have hat := lineL_at p hp p.length (Nat.le_refl _) (j + 1) hj
    have hz : ((p.getD (j + 1) 0 : Nat) : Int) < 32 := by omega
    obtain ⟨f, rfl⟩ : ∃ g, f = g + 1 := ⟨f - 1, by omega⟩
    have ih' := ih (by omega) f (by omega)
    rw [deadB_succ p at_ _ (j + 1) hj]
    by_cases e : p.getD (j + 1) 0 = at_ ∧ (harmM s k).2 = true
    · obtain ⟨e, hy⟩ := e
      have hss : s = lineSlot p (j + 1) := by rw [e] at hat; rw [hs] at hat; injection hat
      have hsl : slotAt L (p.getD (j + 1) 0 : Nat) = (harmM s k).1 := by
        refine slotAt_of hlt ?_
        rw [hL, e, List.getElem?_set_self (by rw [lineL_len]; omega)]
      have h := harmM_yes s k hy
      have hh : holdsM L (p.getD (j + 1) 0 : Nat) (10 + ((j + 1 : Nat) : Int)) = false := by
        unfold holdsM
        rw [hsl]
        have hb : s.birth = 10 + ((j + 1 : Nat) : Int) := by rw [hss]; rfl
        rw [← hb, h]; simp
      rw [upM_no _ _ _ _ hh, hy, decide_eq_true e]
      simp
    · have hsl : slotAt L (p.getD (j + 1) 0 : Nat) = lineSlot p (j + 1) := by
        refine slotAt_of hlt ?_
        by_cases e2 : p.getD (j + 1) 0 = at_
        · have hy : (harmM s k).2 = false := by
            cases h : (harmM s k).2 with
            | false => rfl
            | true => exact absurd ⟨e2, h⟩ e
          rw [hL, e2, List.getElem?_set_self (by rw [lineL_len]; omega), harmM_no s k hy]
          rw [e2, hs] at hat; exact hat
        · rw [hL, List.getElem?_set_ne (fun h => e2 h.symm)]; exact hat
      have hh : holdsM L (p.getD (j + 1) 0 : Nat) (10 + ((j + 1 : Nat) : Int)) = true := by
        unfold holdsM
        rw [hsl, decide_eq_true (⟨by omega, hz⟩ : (0 : Int) ≤ _ ∧ _), decide_eq_true (show 1 ≤ 10 + ((j + 1 : Nat) : Int) by omega)]
        simp [lineSlot]
      have hub : (lineSlot p (j + 1)).ub = 10 + (j : Int) := by simp [lineSlot]; omega
      have hus : (lineSlot p (j + 1)).us = (p.getD j 0 : Nat) := by simp [lineSlot]
      rw [upM_step _ _ _ _ hh (by rw [hsl, hub]; omega), hsl, hub, hus]
      have he : ((harmM s k).2 && decide (p.getD (j + 1) 0 = at_)) = false := by
        cases h : (harmM s k).2 with
        | false => rfl
        | true => simp; intro h2; exact e ⟨by simpa using h2, h⟩
      rw [he, Bool.or_false]
      obtain ⟨i1, i2, i3, i4⟩ := ih'
      exact ⟨i1, by rw [List.length_cons]; omega, fun hd => by have := i3 hd; rw [List.length_cons]; omega, fun hd => by have := i4 hd; rw [List.length_cons]; omega⟩
theorem above_n (p : List Nat) (hp : IsSlots p) (at_ : Nat) (k : Int) (L : List SlotM) (s : SlotM) (hs : (lineL p p.length)[at_]? = some s) (hL : L = (lineL p p.length).set at_ (harmM s k).1) (j : Nat) (hj : j < p.length) :
    ∃ n : Int, upN (upM L 7 (p.getD j 0 : Nat) (10 + (j : Int))) = n ∧ (upM L 7 (p.getD j 0 : Nat) (10 + (j : Int))).2 = !deadB p at_ (harmM s k).2 (j + 1) ∧ n ≤ j ∧ (deadB p at_ (harmM s k).2 (j + 1) = false → n = j) := by
  have hl := hp.len
  obtain ⟨h1, h2, h3, h4⟩ := above_up p hp at_ k L s hs hL j hj 7 (by omega)
  generalize upM L 7 ((p.getD j 0 : Nat) : Int) (10 + (j : Int)) = r at *
  refine ⟨_, rfl, h1, ?_, fun hd => ?_⟩
  · unfold upN
    rw [h1]
    cases hd : deadB p at_ (harmM s k).2 (j + 1) with
    | false => have := h4 hd; simp; omega
    | true => have := h3 hd; simp; split <;> omega
  · unfold upN
    rw [h1, hd]
    have := h4 hd
    simp; omega
set_option maxHeartbeats 400000 in
theorem works_calls (w : World) : Calls Try.prog 9 #[] w fun e w' => e = .returned (.bool true) ∧ Below w.heap.size w w' := by
  have h1 : upM (lineL [4, 2] 2) 7 2 11 = ([2, 4], true) := by kernel_rfl
  have hrd : Rd (w.alloc (.cells #[.int .i64 4, .int .i64 2] 3)) (.slice (some ⟨w.heap.size, 0, none⟩) 2 2) 2 ([4, 2].map VN) :=
    ⟨_, _, rfl, by omega, by omega, (fun h => by cases h), fun j hj => ⟨w.heap.size, 0, rfl, by
      rw [Nat.zero_add]
      refine (Box.new w #[.int .i64 4, .int .i64 2] 3).cell j _ ?_
      match j, hj with
      | 0, _ => rfl
      | 1, _ => rfl⟩⟩
  have HR := Lib.hid hrd
  have H1 := Lib.hid h1
  clear hrd h1
  go_enter Try.func9, Try.ntmps9
  go_wp2_with fail
  refine (line_calls _ [4, 2] _ HR.out (by simp) (by simp)).mono ?_
  rintro e w1 ⟨b, rfl, hA, hbb, hb1⟩
  have HA := Lib.hid hA
  have HB := Lib.hid hb1
  have hs := hb1.size
  simp only [World.size_alloc] at hbb hs
  clear hA hb1
  go_wp2_with fail
  have hl := lives_calls _ _ b 2 11 w1 HA.out
  rw [show lineL [4, 2] [4, 2].length = lineL [4, 2] 2 from rfl, H1.out] at hl
  have hn : upN ([2, 4], true) = 1 := by rfl
  rw [hn] at hl
  refine hl.mono ?_
  rintro e w2 ⟨rfl, hb2⟩
  have HB2 := Lib.hid hb2
  clear hb2 hl hn
  go_wp2_with fail
  go_ret
  exact ⟨rfl, (below_alloc w _).trans ((HB.out.mono (by simp)).trans (HB2.out.mono (by omega)))⟩
end Go.Proofs.Ytkabeejefkmdgaa
