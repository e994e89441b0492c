/-
  States: which may be.
-/
import Derived.Test.YthnabnieajojjaaGreatDoorOf
namespace Go.Proofs.YthnabnieajojjaaGreatDoor
open Go.RowKit
set_option maxRecDepth 100000

/-- A state. -/
structure StM where
  clock : Int
  births : Int
  l : List SesM
def noSt : StM := ⟨0, 0, []⟩
/-- Are scopes among others? -/
def scIn (a b : Nat) : Bool := bits .andNot .u64 (a : Int) (b : Int) == 0
def belowM (s p : SesM) : Bool := (s.depth == p.depth + 1) && ((s.user == p.user) && (decide (s.deadline ≤ p.deadline) && (scIn s.scopes p.scopes && (decide (p.level < s.level) == (s.kind == 2)))))
/-- What hangs: with those ahead of it. -/
def hangM (s : SesM) : List SesM → Bool → Option Bool
  | [], h => some h
  | p :: ps, h => if p.slot = s.slot then none else hangM s ps (if s.upS = p.slot ∧ s.upB = p.birth then belowM s p else h)
def lastB : List SesM → Int
  | [] => 0
  | [p] => p.birth
  | _ :: p :: ps => lastB (p :: ps)
def upNo (s : SesM) : Bool := (s.upS == 0) && (s.upB == 0)
def mayI (c b : Int) (s : SesM) (a : List SesM) : Bool := mayS s && (!(!a.isEmpty && decide (s.birth ≤ lastB a)) && (decide (s.birth ≤ b) && (decide (s.born ≤ c) && (decide (c < s.deadline) && (hangM s a (upNo s) == some true)))))
def checkGo (c b : Int) (a : List SesM) (k : Int) : List SesM → Option Int
  | [] => none
  | s :: r => if mayI c b s a = true then checkGo c b (a ++ [s]) (k + 1) r else some k
def boundsM (st : StM) : Bool := fromM st.clock 0 1099511627776 && (fromM st.births 0 1048576 && decide (st.l.length ≤ 32))
def checkM (st : StM) : Option Int := if boundsM st = true then checkGo st.clock st.births [] 0 st.l else some (-1)
theorem lastB_snoc (a : List SesM) (s : SesM) : lastB (a ++ [s]) = s.birth := by
  induction a with
  | nil => rfl
  | cons p a ih =>
    cases a with
    | nil => rfl
    | cons q a => exact ih
theorem checkGo_none {c b : Int} : ∀ {r a : List SesM} {k : Int}, checkGo c b a k r = none ↔ ∀ i (h : i < r.length), mayI c b r[i] (a ++ r.take i) = true
  | [], a, k => by simp [checkGo]
  | s :: r, a, k => by
    unfold checkGo
    by_cases h : mayI c b s a = true
    · rw [if_pos h, checkGo_none]
      constructor
      · intro g i hi
        cases i with
        | zero => simpa using h
        | succ i =>
          have := g i (by simpa using hi)
          simpa using this
      · intro g i hi
        have := g (i + 1) (by simpa using hi)
        simpa using this
    · rw [if_neg h]
      constructor
      · intro g; cases g
      · intro g
        exact absurd (by have := g 0 (by simp); rw [List.take_zero, List.append_nil] at this; exact this) h
theorem checkM_none {st : StM} : checkM st = none ↔ boundsM st = true ∧ ∀ i (h : i < st.l.length), mayI st.clock st.births st.l[i] (st.l.take i) = true := by
  unfold checkM
  by_cases h : boundsM st = true
  · rw [if_pos h, checkGo_none]; simp [h]
  · rw [if_neg h]; simp [h]
/-- What one that may be says. -/
structure MayI (c b : Int) (s : SesM) (a : List SesM) : Prop where
  may : mayS s = true
  asc : a ≠ [] → lastB a < s.birth
  births : s.birth ≤ b
  born : s.born ≤ c
  dead : c < s.deadline
  hang : hangM s a (upNo s) = some true
theorem mayI_iff {c b : Int} {s : SesM} {a : List SesM} : mayI c b s a = true ↔ MayI c b s a := by
  unfold mayI
  simp only [Bool.and_eq_true, decide_eq_true_eq, beq_iff_eq, Bool.not_eq_true', Bool.and_eq_false_iff, Bool.not_eq_false', decide_eq_false_iff_not, Int.not_le]
  constructor
  · rintro ⟨h1, h2, h3, h4, h5, h6⟩
    exact ⟨h1, fun h => h2.elim (fun g => absurd (List.isEmpty_iff.1 g) h) id, h3, h4, h5, h6⟩
  · rintro ⟨h1, h2, h3, h4, h5, h6⟩
    refine ⟨h1, ?_, h3, h4, h5, h6⟩
    cases a with
    | nil => exact .inl rfl
    | cons p a => exact .inr (h2 (by simp))
/-- In a state that may be the birth numbers ascend. -/
theorem asc_of {c b : Int} {l : List SesM} (h : ∀ i (h : i < l.length), MayI c b l[i] (l.take i)) : ∀ j (hj : j < l.length) i (hi : i < j), (l[i]'(by omega)).birth < l[j].birth := by
  intro j
  induction j with
  | zero => intro _ i hi; omega
  | succ j ih =>
    intro hj i hi
    have h1 := (h (j + 1) hj).asc (by simp; intro hh; rw [hh] at hj; simp at hj)
    rw [List.take_succ_eq_append_getElem (by omega), lastB_snoc] at h1
    rcases Nat.lt_or_ge i j with h2 | h2
    · have := ih (by omega) i h2; omega
    · obtain rfl : i = j := by omega
      exact h1
theorem hangM_true {s : SesM} : ∀ {a : List SesM} {h : Bool}, hangM s a h = some true → (∀ p ∈ a, p.slot ≠ s.slot) ∧ ((h = true ∧ ∀ p ∈ a, ¬ (s.upS = p.slot ∧ s.upB = p.birth)) ∨ ∃ p ∈ a, (s.upS = p.slot ∧ s.upB = p.birth) ∧ belowM s p = true)
  | [], h, g => by
    unfold hangM at g
    injection g with g
    exact ⟨by simp, .inl ⟨g, by simp⟩⟩
  | p :: ps, h, g => by
    unfold hangM at g
    split at g
    · cases g
    · rename_i hs
      obtain ⟨h1, h2⟩ := hangM_true g
      refine ⟨fun q hq => (List.mem_cons.1 hq).elim (fun e => e ▸ hs) (h1 q), ?_⟩
      rcases h2 with ⟨h3, h4⟩ | ⟨q, h3, h4⟩
      · by_cases hu : s.upS = p.slot ∧ s.upB = p.birth
        · rw [if_pos hu] at h3
          exact .inr ⟨p, by simp, hu, h3⟩
        · rw [if_neg hu] at h3
          exact .inl ⟨h3, fun q hq => (List.mem_cons.1 hq).elim (fun e => e ▸ hu) (h4 q)⟩
      · exact .inr ⟨q, by simp [h3], h4⟩
theorem upNo_false {s : SesM} (h : s.upB ≠ 0) : upNo s = false := by unfold upNo; simp [h]
/-- A session's parent, where it has one. -/
theorem MayI.parent {c b : Int} {s : SesM} {a : List SesM} (h : MayI c b s a) (hu : s.upB ≠ 0) : ∃ p ∈ a, (s.upS = p.slot ∧ s.upB = p.birth) ∧ belowM s p = true := by
  rcases (hangM_true h.hang).2 with ⟨h1, _⟩ | h1
  · rw [upNo_false hu] at h1; cases h1
  · exact h1
structure BelowM (s p : SesM) : Prop where
  depth : s.depth = p.depth + 1
  user : s.user = p.user
  dead : s.deadline ≤ p.deadline
  sc : scIn s.scopes p.scopes = true
  level : p.level < s.level ↔ s.kind = 2
theorem belowM_iff {s p : SesM} : belowM s p = true ↔ BelowM s p := by
  unfold belowM
  simp only [Bool.and_eq_true, decide_eq_true_eq, beq_iff_eq]
  constructor
  · rintro ⟨h1, h2, h3, h4, h5⟩
    refine ⟨h1, h2, h3, h4, ?_⟩
    by_cases h : p.level < s.level
    · rw [decide_eq_true h] at h5; have := h5.symm; rw [beq_iff_eq] at this; exact ⟨fun _ => this, fun _ => h⟩
    · rw [decide_eq_false h] at h5; have := h5.symm; rw [beq_eq_false_iff_ne] at this; exact ⟨fun g => absurd g h, fun g => absurd g this⟩
  · rintro ⟨h1, h2, h3, h4, h5⟩
    refine ⟨h1, h2, h3, h4, ?_⟩
    by_cases h : p.level < s.level
    · rw [decide_eq_true h]; have := h5.1 h; rw [this]; rfl
    · rw [decide_eq_false h]; symm; rw [beq_eq_false_iff_ne]; exact fun g => h (h5.2 g)
/-- What mayS says of a session's kind. -/
theorem mayS_root {s : SesM} (h : mayS s = true) (hu : s.upB = 0) : s.kind = 0 ∧ s.depth = 0 := by
  unfold mayS at h
  simp only [Bool.and_eq_true] at h
  obtain ⟨h1, h2, h3, h4, h5, h6, h7⟩ := h
  have hc : childM s = true → False := fun hc => by
    unfold childM at hc
    simp only [Bool.and_eq_true] at hc
    have := fromM_yes hc.2.1; omega
  split at h7
  · rename_i k0
    unfold loginM at h7
    simp only [Bool.and_eq_true, beq_iff_eq] at h7
    exact ⟨by simpa using k0, h7.2.2.2⟩
  split at h7
  · exact (hc h7).elim
  split at h7
  · rw [Bool.and_eq_true] at h7; exact (hc h7.1).elim
  · cases h7
theorem mayS_step {s : SesM} (h : mayS s = true) (hk : s.kind = 2) : s.deadline ≤ s.born + 300 := by
  unfold mayS at h
  simp only [Bool.and_eq_true] at h
  obtain ⟨h1, h2, h3, h4, h5, h6, h7⟩ := h
  rw [hk] at h7
  simp at h7
  exact h7.2
/-- A state with less, earlier. -/
theorem checkM_less {st : StM} (h : checkM st = none) {c b : Int} (hc0 : 0 ≤ c) (hc : c ≤ st.clock) (hb : st.births ≤ b) (hb2 : b ≤ 1048576) (hl : ∀ s ∈ st.l, s.born ≤ c) : checkM ⟨c, b, st.l⟩ = none := by
  rw [checkM_none] at h ⊢
  obtain ⟨h1, h2⟩ := h
  unfold boundsM at h1 ⊢
  simp only [Bool.and_eq_true, decide_eq_true_eq] at h1
  obtain ⟨b1, b2, b3⟩ := h1
  have b1' := fromM_yes b1
  have b2' := fromM_yes b2
  refine ⟨by simp [fromM]; omega, fun i hi => ?_⟩
  have g := mayI_iff.1 (h2 i hi)
  exact mayI_iff.2 ⟨g.may, g.asc, Int.le_trans g.births hb, hl _ (List.getElem_mem _), Int.lt_of_le_of_lt hc g.dead, g.hang⟩
theorem checkM_drop {st : StM} (h : checkM st = none) (n : Nat) : checkM ⟨st.clock, st.births, st.l.take n⟩ = none := by
  rw [checkM_none] at h ⊢
  obtain ⟨h1, h2⟩ := h
  refine ⟨?_, fun i hi => ?_⟩
  · unfold boundsM at h1 ⊢
    simp only [Bool.and_eq_true, decide_eq_true_eq, List.length_take] at h1 ⊢
    exact ⟨h1.1, h1.2.1, by omega⟩
  · simp only [List.length_take] at hi
    have g := h2 i (by omega)
    simp only [List.getElem_take, List.take_take]
    rw [Nat.min_eq_left (by omega)]
    exact g
end Go.Proofs.YthnabnieajojjaaGreatDoor
