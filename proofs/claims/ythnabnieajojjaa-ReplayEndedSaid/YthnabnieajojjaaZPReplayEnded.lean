/-
  Plain laws of events: lists of events one behind the other; what a state is that events make.
-/
import Derived.Test.YthnabnieajojjaaRepM
import Derived.Test.YthnabnieajojjaaRepA
import Derived.Test.YthnabnieajojjaaRepX
import Derived.Test.YthnabnieajojjaaSesK
import Derived.BigQuiet
import Derived.Test.YthnabnieajojjaaSesL
import Derived.Test.YthnabnieajojjaaEvMay
import Derived.Test.YthnabnieajojjaaMayP
import Derived.Test.YthnabnieajojjaaEvEq
import Derived.Test.YthnabnieajojjaaArgsB
import Derived.Test.YthnabnieajojjaaImM
import Derived.Test.YthnabnieajojjaaLaw
namespace Go.Proofs.Ythnabnieajojjaa
open Go.RowKit

theorem allM_le : ∀ (l : List EvtM) (st : StM), (allM st l).2 ≤ l.length
  | [], _ => Nat.le_refl _
  | e :: l, st => by
    unfold allM
    split
    · have := allM_le l (applyM st e).2; simp only [List.length_cons]; omega
    · simp
theorem allM_app : ∀ (l m : List EvtM) (st : StM), (allM st l).2 = l.length → allM st (l ++ m) = ((allM (allM st l).1 m).1, l.length + (allM (allM st l).1 m).2)
  | [], m, st, _ => by simp [allM]
  | e :: l, m, st, h => by
    unfold allM at h
    by_cases h0 : (applyM st e).1 = 0
    · rw [if_pos h0] at h
      have h1 : (allM (applyM st e).2 l).2 = l.length := by simp only [List.length_cons] at h; omega
      have ih := allM_app l m (applyM st e).2 h1
      have e1 : allM st (e :: l) = ((allM (applyM st e).2 l).1, (allM (applyM st e).2 l).2 + 1) := by rw [allM, if_pos h0]
      rw [List.cons_append, allM, if_pos h0, ih, e1]
      simp only [List.length_cons]
      congr 1; omega
    · rw [if_neg h0] at h; simp at h
theorem allM_part : ∀ (l m : List EvtM) (st : StM), (allM st l).2 ≠ l.length → allM st (l ++ m) = allM st l
  | [], _, _, h => absurd rfl h
  | e :: l, m, st, h => by
    by_cases h0 : (applyM st e).1 = 0
    · have e1 : allM st (e :: l) = ((allM (applyM st e).2 l).1, (allM (applyM st e).2 l).2 + 1) := by rw [allM, if_pos h0]
      rw [e1] at h
      have ih := allM_part l m (applyM st e).2 (fun hh => h (by simp only [List.length_cons]; omega))
      rw [List.cons_append, allM, if_pos h0, ih, e1]
    · rw [List.cons_append, allM, if_neg h0, allM, if_neg h0]
/-- What a state is that events make. -/
structure Snd (st : StM) : Prop where
  len : st.l.length ≤ 32
  clock : 0 ≤ st.clock ∧ st.clock ≤ 1099511627776
  births : 0 ≤ st.births ∧ st.births ≤ 1048576
  pos : ∀ s ∈ st.l, 1 ≤ s.birth ∧ s.birth ≤ st.births
  inc : st.l.Pairwise (fun s t => s.birth < t.birth)
  slots : st.l.Pairwise (fun s t => s.slot ≠ t.slot)
  dead : ∀ s ∈ st.l, st.clock < s.deadline
  born : ∀ s ∈ st.l, s.born ≤ st.clock
  may : ∀ s ∈ st.l, mayS s = true
  par : ∀ s ∈ st.l, s.upB ≠ 0 → ∃ p ∈ st.l, p.birth = s.upB ∧ p.slot = s.upS ∧ p.birth < s.birth ∧ fitsM s p = true
theorem Snd.zero : Snd noSt := ⟨by decide, by decide, by decide, by simp [noSt], by simp [noSt], by simp [noSt], by simp [noSt], by simp [noSt], by simp [noSt], by simp [noSt]⟩
theorem Snd.without {st : StM} (h : Snd st) (goes : SesM → Bool) (C : Int) (h1 : st.clock ≤ C) (h2 : C ≤ 1099511627776) (hd : ∀ s ∈ st.l, goes s = false → C < s.deadline) : Snd ⟨C, st.births, withoutM goes st.l⟩ := by
  have hsub : List.Sublist (withoutM goes st.l) st.l := List.filter_sublist
  have hm : ∀ s ∈ withoutM goes st.l, s ∈ st.l ∧ ¬ Dies goes st.l s := fun s hs => mem_without.1 hs
  refine ⟨Nat.le_trans hsub.length_le h.len, ⟨by have := h.clock.1; show 0 ≤ C; omega, h2⟩, h.births, fun s hs => h.pos s (hm s hs).1, h.inc.sublist hsub, h.slots.sublist hsub, fun s hs => hd s (hm s hs).1 ?_, fun s hs => by have := h.born s (hm s hs).1; show s.born ≤ C; omega, fun s hs => h.may s (hm s hs).1, fun s hs hu => ?_⟩
  · cases hg : goes s
    · rfl
    · exact absurd (Dies.one (hm s hs).1 hg) (hm s hs).2
  · obtain ⟨p, hp, e1, e2, e3, e4⟩ := h.par s (hm s hs).1 hu
    exact ⟨p, mem_without.2 ⟨hp, fun hdp => (hm s hs).2 (.up (hm s hs).1 hdp e1.symm hu)⟩, e1, e2, e3, e4⟩
theorem findM_in (b : Int) : ∀ {l : List SesM} {p : SesM}, findM b l = some p → p ∈ l ∧ p.birth = b
  | [], _, h => by cases h
  | x :: l, p, h => by
    unfold findM at h
    split at h
    · rename_i hx; injection h with h; subst h; exact ⟨List.mem_cons_self, hx⟩
    · have := findM_in b h; exact ⟨List.mem_cons_of_mem _ this.1, this.2⟩
theorem mayS_nums {s : SesM} (h : mayS s = true) : (1 ≤ s.birth ∧ s.birth ≤ 1048576) ∧ s.born + 1 ≤ s.deadline ∧ (0 ≤ s.slot ∧ s.slot ≤ 31) := by
  unfold mayS at h
  simp only [Bool.and_eq_true] at h
  exact ⟨fromM_yes h.2.1, (fromM_yes h.2.2.2.2.2.1).1, fromM_yes h.1⟩
theorem refM_yes {st : StM} {s : SesM} (h : refM st s = 0) : s.birth = IntKind.i64.wrap (st.births + 1) ∧ s.born = st.clock ∧ st.l.length < 32 ∧ st.l.any (fun x => x.slot == s.slot) = false ∧ upM s st.l = 0 := by
  unfold refM at h
  split at h
  · split at h
    · split at h
      · cases h
      · split at h
        · cases h
        · rename_i h1 h2 h3 h4
          exact ⟨h1, h2, by omega, by simpa using h4, h⟩
    · cases h
  · cases h
theorem Snd.birth {st : StM} {s : SesM} (h : Snd st) (hr : refM st s = 0) (hs : mayS s = true) : Snd ⟨st.clock, IntKind.i64.wrap (st.births + 1), st.l ++ [s]⟩ := by
  obtain ⟨r1, r2, r3, r4, r5⟩ := refM_yes hr
  obtain ⟨m1, m2, _⟩ := mayS_nums hs
  have hw : IntKind.i64.wrap (st.births + 1) = st.births + 1 := by
    have := h.births; simp [IntKind.wrap, IntKind.bits, IntKind.signed]; omega
  rw [hw] at r1 ⊢
  have hin : ∀ (P : SesM → Prop), (∀ x ∈ st.l, P x) → P s → ∀ x ∈ st.l ++ [s], P x := fun P h1 h2 x hx => by
    rcases List.mem_append.1 hx with hx | hx
    · exact h1 x hx
    · rw [List.mem_singleton.1 hx]; exact h2
  refine ⟨by simp only [List.length_append, List.length_singleton]; omega, h.clock, by have := h.births; show 0 ≤ st.births + 1 ∧ st.births + 1 ≤ 1048576; omega, ?_, ?_, ?_, ?_, ?_, ?_, ?_⟩
  · exact hin _ (fun x hx => by have := h.pos x hx; show 1 ≤ x.birth ∧ x.birth ≤ st.births + 1; omega) (by show 1 ≤ s.birth ∧ s.birth ≤ st.births + 1; omega)
  · refine List.pairwise_append.2 ⟨h.inc, List.pairwise_singleton _ _, fun x hx y hy => ?_⟩
    rw [List.mem_singleton.1 hy]
    have := h.pos x hx; omega
  · refine List.pairwise_append.2 ⟨h.slots, List.pairwise_singleton _ _, fun x hx y hy he => ?_⟩
    rw [List.mem_singleton.1 hy] at he
    have := List.any_eq_false.1 r4 x hx
    exact this (by simpa using he)
  · exact hin _ (fun x hx => h.dead x hx) (by show st.clock < s.deadline; omega)
  · exact hin _ (fun x hx => h.born x hx) (by show s.born ≤ st.clock; omega)
  · exact hin _ (fun x hx => h.may x hx) hs
  · refine hin _ (fun x hx hu => ?_) (fun hu => ?_)
    · obtain ⟨p, hp, e⟩ := h.par x hx hu
      exact ⟨p, List.mem_append_left _ hp, e⟩
    · unfold upM at r5
      rw [if_neg hu] at r5
      split at r5
      · cases r5
      · rename_i p hp
        obtain ⟨p1, p2⟩ := findM_in _ hp
        split at r5
        · rename_i hsl
          split at r5
          · rename_i hf
            exact ⟨p, List.mem_append_left _ p1, p2, hsl, by have := h.pos p p1; omega, hf⟩
          · cases r5
        · cases r5
theorem mayE_birthP {e : EvtM} (h : mayE e = true) (k : e.kind = 0) : mayS e.s = true := by
  unfold mayE at h
  rw [if_pos (by simpa using k)] at h
  simp only [Bool.and_eq_true] at h
  exact h.2.2
theorem mayE_tickN {e : EvtM} (h : mayE e = true) (k0 : e.kind ≠ 0) (k1 : e.kind ≠ 1) : 1 ≤ e.ticks ∧ e.ticks ≤ 1073741824 := by
  unfold mayE at h
  rw [if_neg (by simpa using k0), if_neg (by simpa using k1)] at h
  split at h
  · simp only [Bool.and_eq_true] at h
    exact fromM_yes h.2.2
  · cases h
theorem Snd.apply {st : StM} (h : Snd st) {e : EvtM} (he : (applyM st e).1 = 0) : Snd (applyM st e).2 := by
  unfold applyM at he ⊢
  by_cases hm : mayE e = true
  · rw [if_pos hm] at he ⊢
    by_cases k0 : e.kind = 0
    · rw [if_pos k0] at he ⊢
      by_cases hr : refM st e.s = 0
      · rw [if_pos hr]; exact h.birth hr (mayE_birthP hm k0)
      · rw [if_neg hr] at he; exact absurd he hr
    · rw [if_neg k0] at he ⊢
      by_cases k1 : e.kind = 1
      · rw [if_pos k1] at he ⊢
        by_cases ha : st.l.any (fun s => s.birth == e.birth) = true
        · rw [if_pos ha]; exact h.without _ st.clock (Int.le_refl _) h.clock.2 (fun s hs _ => h.dead s hs)
        · rw [if_neg ha] at he; cases he
      · rw [if_neg k1] at he ⊢
        have ht := mayE_tickN hm k0 k1
        by_cases hc : st.clock < 0 ∨ 1099511627776 - e.ticks < st.clock
        · rw [if_pos hc] at he; cases he
        · rw [if_neg hc]; exact h.without _ _ (by omega) (by omega) (fun s _ hg => by simpa using hg)
  · rw [if_neg hm] at he; cases he
theorem Snd.all {st : StM} (h : Snd st) : ∀ (l : List EvtM), Snd (allM st l).1 := by
  intro l
  induction l generalizing st with
  | nil => exact h
  | cons e l ih =>
    unfold allM
    split
    · rename_i h0; exact ih (h.apply h0)
    · exact h
theorem Snd.uniq {st : StM} (h : Snd st) {a b : SesM} (ha : a ∈ st.l) (hb : b ∈ st.l) (e : a.birth = b.birth) : a = b := by
  obtain ⟨i, hi, rfl⟩ := List.getElem_of_mem ha
  obtain ⟨j, hj, rfl⟩ := List.getElem_of_mem hb
  have hp := List.pairwise_iff_getElem.1 h.inc
  rcases Nat.lt_trichotomy i j with h1 | h1 | h1
  · have := hp i j hi hj h1; omega
  · subst h1; rfl
  · have := hp j i hj hi h1; omega
theorem fitsM_end {s p : SesM} (h : fitsM s p = true) : s.deadline ≤ p.deadline := by
  unfold fitsM at h
  simp only [Bool.and_eq_true] at h
  simpa using h.2.2.2.1
theorem Snd.dies_tick {st : StM} (h : Snd st) (C : Int) {s : SesM} (hd : Dies (fun s => decide (s.deadline ≤ C)) st.l s) : s.deadline ≤ C := by
  induction hd with
  | one _ hg => simpa using hg
  | up hs hp hu hn ih =>
    obtain ⟨p', hp', e1, _, _, e4⟩ := h.par _ hs hn
    have := h.uniq hp' hp.mem (e1.trans hu)
    subst this
    have := fitsM_end e4
    omega
theorem Snd.tick {st : StM} (h : Snd st) (C : Int) : withoutM (fun s => decide (s.deadline ≤ C)) st.l = st.l.filter (fun s => !decide (s.deadline ≤ C)) :=
  (without_eq (f := fun s => decide (s.deadline ≤ C)) (fun s hs => ⟨fun hg => .one hs hg, fun hd => by have := h.dies_tick C hd; simpa using this⟩)).symm
/-- Ticks cut in two. -/
theorem Snd.ticks {st : StM} (h : Snd st) (C1 C2 : Int) (h1 : st.clock ≤ C1) (h2 : C1 ≤ C2) (h3 : C2 ≤ 1099511627776) :
    withoutM (fun s => decide (s.deadline ≤ C2)) (withoutM (fun s => decide (s.deadline ≤ C1)) st.l) = withoutM (fun s => decide (s.deadline ≤ C2)) st.l := by
  have hs1 := h.without (fun s => decide (s.deadline ≤ C1)) C1 h1 (by omega) (fun s _ hg => by simpa using hg)
  have e := hs1.tick C2
  simp only at e
  rw [e, h.tick C1, h.tick C2, List.filter_filter]
  refine List.filter_congr fun s _ => ?_
  by_cases a : s.deadline ≤ C2 <;> by_cases b : s.deadline ≤ C1 <;> simp [a, b] <;> omega
/-- What stands behind an event stood ahead of it, or is the birth. -/
theorem Snd.from {st : StM} (h : Snd st) {e : EvtM} (he : (applyM st e).1 = 0) : st.births ≤ (applyM st e).2.births ∧ ∀ s ∈ (applyM st e).2.l, s ∈ st.l ∨ s.birth = st.births + 1 := by
  unfold applyM at he ⊢
  by_cases hm : mayE e = true
  · rw [if_pos hm] at he ⊢
    by_cases k0 : e.kind = 0
    · rw [if_pos k0] at he ⊢
      by_cases hr : refM st e.s = 0
      · rw [if_pos hr]
        have hw : IntKind.i64.wrap (st.births + 1) = st.births + 1 := by
          have := h.births; simp [IntKind.wrap, IntKind.bits, IntKind.signed]; omega
        refine ⟨by show st.births ≤ IntKind.i64.wrap (st.births + 1); rw [hw]; omega, fun s hs => ?_⟩
        rcases List.mem_append.1 hs with hs | hs
        · exact .inl hs
        · right; rw [List.mem_singleton.1 hs, (refM_yes hr).1, hw]
      · rw [if_neg hr] at he; exact absurd he hr
    · rw [if_neg k0] at he ⊢
      by_cases k1 : e.kind = 1
      · rw [if_pos k1] at he ⊢
        by_cases ha : st.l.any (fun s => s.birth == e.birth) = true
        · rw [if_pos ha]; exact ⟨Int.le_refl _, fun s hs => .inl (mem_without.1 hs).1⟩
        · rw [if_neg ha] at he; cases he
      · rw [if_neg k1] at he ⊢
        by_cases hc : st.clock < 0 ∨ 1099511627776 - e.ticks < st.clock
        · rw [if_pos hc] at he; cases he
        · rw [if_neg hc]; exact ⟨Int.le_refl _, fun s hs => .inl (mem_without.1 hs).1⟩
  · rw [if_neg hm] at he; cases he
/-- A birth that has ended. -/
def Ended (st : StM) (b : Int) : Prop := b ≤ st.births ∧ ∀ s ∈ st.l, s.birth ≠ b
theorem Ended.apply {st : StM} (h : Snd st) {e : EvtM} (he : (applyM st e).1 = 0) {b : Int} (hb : Ended st b) : Ended (applyM st e).2 b := by
  obtain ⟨h1, h2⟩ := h.from he
  refine ⟨Int.le_trans hb.1 h1, fun s hs => ?_⟩
  rcases h2 s hs with h3 | h3
  · exact hb.2 s h3
  · have := hb.1; omega
theorem Ended.new {st : StM} (h : Snd st) {e : EvtM} (he : (applyM st e).1 = 0) {s : SesM} (hs : s ∈ st.l) (hn : ∀ x ∈ (applyM st e).2.l, x.birth ≠ s.birth) : Ended (applyM st e).2 s.birth :=
  ⟨Int.le_trans (h.pos s hs).2 (h.from he).1, hn⟩
theorem root_parts {s : SesM} (h : mayS s = true) (hu : s.upB = 0) : s.kind = 0 ∧ s.depth = 0 := by
  unfold mayS at h
  simp only [Bool.and_eq_true] at h
  have hc := h.2.2.2.2.2.2
  have hch : childM s = false := by
    cases hcc : childM s
    · rfl
    · unfold childM at hcc
      simp only [Bool.and_eq_true] at hcc
      have := (fromM_yes hcc.2.1).1
      omega
  rw [hch] at hc
  by_cases k0 : s.kind = 0
  · rw [if_pos (by simpa using k0)] at hc
    unfold loginM at hc
    simp only [Bool.and_eq_true, beq_iff_eq] at hc
    exact ⟨k0, hc.2.2.2⟩
  · rw [if_neg (by simpa using k0)] at hc
    split at hc
    · cases hc
    · split at hc
      · simp at hc
      · cases hc
theorem child_parts {s : SesM} (h : mayS s = true) (hu : s.upB ≠ 0) : (s.kind = 1 ∨ (s.kind = 2 ∧ s.deadline ≤ s.born + 300)) ∧ childM s = true := by
  unfold mayS at h
  simp only [Bool.and_eq_true] at h
  have hc := h.2.2.2.2.2.2
  by_cases k0 : s.kind = 0
  · rw [if_pos (by simpa using k0)] at hc
    unfold loginM at hc
    simp only [Bool.and_eq_true, beq_iff_eq] at hc
    exact absurd hc.2.1 hu
  · rw [if_neg (by simpa using k0)] at hc
    split at hc
    · rename_i k1; exact ⟨.inl (by simpa using k1), hc⟩
    · split at hc
      · rename_i k2
        simp only [Bool.and_eq_true, decide_eq_true_eq] at hc
        exact ⟨.inr ⟨by simpa using k2, hc.2⟩, hc.1⟩
      · cases hc
/-- A session beside its parent. -/
theorem narrow_of {s p : SesM} (h : mayS s = true) (hu : s.upB ≠ 0) (hf : fitsM s p = true) :
    scIn s.scopes p.scopes = true ∧ s.deadline ≤ p.deadline ∧ s.depth = IntKind.i64.wrap (p.depth + 1) ∧ s.user = p.user ∧ (s.level ≤ p.level → s.level = p.level ∧ s.kind = 1) ∧ (p.level < s.level → s.kind = 2 ∧ s.deadline ≤ s.born + 300) := by
  have hk := (child_parts h hu).1
  unfold fitsM at hf
  simp only [Bool.and_eq_true, beq_iff_eq, decide_eq_true_eq] at hf
  obtain ⟨f1, f2, f3, f4, f5⟩ := hf
  refine ⟨f3, f4, f1, f2, fun hl => ?_, fun hl => ?_⟩
  · rcases hk with k | ⟨k, _⟩
    · rw [if_neg (by omega)] at f5
      exact ⟨by simpa using f5, k⟩
    · rw [if_pos k] at f5
      have : p.level < s.level := by simpa using f5
      omega
  · rcases hk with k | ⟨k, kd⟩
    · rw [if_neg (by omega)] at f5
      have : s.level = p.level := by simpa using f5
      omega
    · exact ⟨k, kd⟩
/-- The last session of a birth. -/
def lastM (k : Int) (u : SesM) (l : List SesM) : SesM := l.foldl (fun u x => if x.birth = k then x else u) u
theorem lastM_same {k : Int} {p : SesM} : ∀ (l : List SesM) (u : SesM), (∀ x ∈ l, x.birth = k → x = p) → (p ∈ l ∧ p.birth = k ∨ u = p) → lastM k u l = p
  | [], u, _, h => by
    rcases h with ⟨h, _⟩ | h
    · cases h
    · exact h
  | x :: l, u, hx, h => by
    show lastM k (if x.birth = k then x else u) l = p
    refine lastM_same l _ (fun y hy => hx y (List.mem_cons_of_mem _ hy)) ?_
    by_cases e : x.birth = k
    · rw [if_pos e]; exact .inr (hx x List.mem_cons_self e)
    · rw [if_neg e]
      rcases h with ⟨h1, h2⟩ | h
      · rcases List.mem_cons.1 h1 with h3 | h3
        · rw [h3] at h2; exact absurd h2 e
        · exact .inl ⟨h3, h2⟩
      · exact .inr h
/-- Is a session another one, or below it? -/
def isBelow (l : List SesM) (b : Int) : Nat → SesM → Bool
  | 0, _ => false
  | n + 1, s => if s.birth = b then true else if s.upB = 0 then false else isBelow l b n (lastM s.upB noSes l)
theorem depth_of {s : SesM} (h : mayS s = true) : 0 ≤ s.depth ∧ s.depth ≤ 6 := by
  by_cases hu : s.upB = 0
  · have := (root_parts h hu).2; omega
  · have hc := (child_parts h hu).2
    unfold childM at hc
    simp only [Bool.and_eq_true] at hc
    have := fromM_yes hc.2.2.2
    omega
theorem Snd.below_iff {st : StM} (h : Snd st) (b : Int) : ∀ (n : Nat) (s : SesM), s ∈ st.l → s.depth < n → (isBelow st.l b n s = true ↔ Dies (fun s => s.birth == b) st.l s)
  | 0, s, hs, hn => by have := (depth_of (h.may s hs)).1; omega
  | n + 1, s, hs, hn => by
    unfold isBelow
    by_cases hb : s.birth = b
    · rw [if_pos hb]; exact ⟨fun _ => .one hs (by simpa using hb), fun _ => rfl⟩
    · rw [if_neg hb]
      by_cases hu : s.upB = 0
      · rw [if_pos hu]
        refine ⟨fun hh => (by cases hh), fun hd => ?_⟩
        cases hd with
        | one _ hg => exact absurd (by simpa using hg) hb
        | up _ _ _ hn => exact absurd hu hn
      · rw [if_neg hu]
        obtain ⟨p, hp, e1, _, _, e4⟩ := h.par s hs hu
        have hl : lastM s.upB noSes st.l = p := lastM_same _ _ (fun x hx hxb => h.uniq hx hp (hxb.trans e1.symm)) (.inl ⟨hp, e1⟩)
        rw [hl]
        have hd := (narrow_of (h.may s hs) hu e4).2.2.1
        have hdp := depth_of (h.may p hp)
        have hw : IntKind.i64.wrap (p.depth + 1) = p.depth + 1 := by simp [IntKind.wrap, IntKind.bits, IntKind.signed]; omega
        rw [hw] at hd
        rw [h.below_iff b n p hp (by omega)]
        refine ⟨fun hdp => .up hs hdp e1.symm hu, fun hds => ?_⟩
        cases hds with
        | one _ hg => exact absurd (by simpa using hg) hb
        | up _ hp2 hu2 _ => rw [h.uniq hp hp2.mem (e1.trans hu2)]; exact hp2
/-- What a revocation leaves. -/
theorem Snd.revoke {st : StM} (h : Snd st) (b : Int) : withoutM (fun s => s.birth == b) st.l = st.l.filter (fun s => !isBelow st.l b 7 s) :=
  (without_eq (f := isBelow st.l b 7) (fun s hs => h.below_iff b 7 s hs (by have := depth_of (h.may s hs); omega))).symm
end Go.Proofs.Ythnabnieajojjaa
/-
  What the laws of replay ask of a state: parent, narrower, has, sound.
-/
namespace Go.Proofs.Ythnabnieajojjaa
open Go.RowKit
set_option maxRecDepth 100000

theorem Snd.parAt {st : StM} (h : Snd st) {k : Nat} (hk : k < st.l.length) (hu : (st.l[k]).upB ≠ 0) : ∃ j0, ∃ hj : j0 < st.l.length, j0 < k ∧ (st.l[j0]).birth = (st.l[k]).upB ∧ (st.l[j0]).slot = (st.l[k]).upS ∧ fitsM st.l[k] st.l[j0] = true ∧ ∀ j (hj' : j < j0), (st.l[j]).birth ≠ (st.l[k]).upB := by
  obtain ⟨p, hp, e1, e2, e3, e4⟩ := h.par _ (List.getElem_mem hk) hu
  obtain ⟨j0, hj, rfl⟩ := List.getElem_of_mem hp
  have hi := List.pairwise_iff_getElem.1 h.inc
  refine ⟨j0, hj, ?_, e1, e2, e4, fun j hj' => ?_⟩
  · rcases Nat.lt_trichotomy j0 k with h1 | h1 | h1
    · exact h1
    · subst h1; omega
    · have := hi k j0 hk hj h1; omega
  · have := hi j j0 (by omega) hj hj'; omega
/-- The bounds of a session that stands. -/
structure SndS (C B : Int) (s : SesM) : Prop where
  b1 : decide (s.birth < 1) = false
  b2 : decide (B < s.birth) = false
  d : decide (s.deadline ≤ C) = false
  n : decide (C < s.born) = false
theorem Snd.one {C B : Int} {L : List SesM} (h : Snd ⟨C, B, L⟩) {s : SesM} (hs : s ∈ L) : SndS C B s := by
  have h1 := h.pos s hs
  have h2 := h.dead s hs
  have h3 := h.born s hs
  simp only at h1 h2 h3
  exact ⟨by simp; omega, by simp; omega, by simp; omega, by simp; omega⟩
set_option maxHeartbeats 1600000 in
theorem has_calls (v : Value) (l : List SesM) (b : Int) (w : World) (hr : RdS w v l) :
    Calls Try.prog 18 #[v, .int .i64 b] w fun ev w' => ev = .returned (.bool (l.any (fun s => s.birth == b))) ∧ w' = w := by
  obtain ⟨a, cap, rfl, hc1, hc2⟩ := hr.slice
  have hln : l.length ≤ 9223372036854775807 := by omega
  have HR := Lib.hid hr
  obtain ⟨n, hN⟩ : ∃ n, n = l.length := ⟨_, rfl⟩
  rw [← hN] at hln HR ⊢
  have HN := Lib.hid hN
  clear hr hc1 hN
  go_enter Try.func18, Try.ntmps18
  go_wp2_with fail
  go_loopg [5] n (fun gk iv wr => ∃ k : Nat, gk + k = n ∧ iv = .int .i64 (k : Int) ∧ wr = w ∧ Hid ((l.take k).any (fun s => s.birth == b) = false))
  case atStart => exact ⟨0, rfl, rfl, rfl, Lib.hid rfl⟩
  case round =>
    obtain ⟨k, hgk, rfl, rfl, HF⟩ := hrel
    have k0 : (0 : Int) ≤ (k : Int) := by omega
    have HGK := Lib.hid hgk
    clear hgk
    by_cases hk : k < n
    rotate_left
    · have k1 : ¬ (k : Int) < (n : Int) := by omega
      have HE := Lib.hid (show l.any (fun s => s.birth == b) = false by have h := HF.out; rwa [List.take_of_length_le (by have := HN.out; omega)] at h)
      clear hk
      go_wp2_with fail
      go_ret
      exact ⟨by rw [HE.out]; rfl, rfl⟩
    have k1 : (k : Int) < (n : Int) := by omega
    have hkl : k < l.length := by have := HN.out; omega
    obtain ⟨s, hs⟩ : ∃ s, s = l[k] := ⟨_, rfl⟩
    obtain ⟨rb, ro, hra, hrow⟩ := HR.out.row k hkl
    subst hra
    rw [← hs] at hrow
    have r1 : wr.cell? ⟨rb, ro + k * 12 + 1, none⟩ = some (.int .i64 s.birth) := hrow 1 _ rfl
    have HT := Lib.hid (show (l.take (k + 1)).any (fun s => s.birth == b) = (s.birth == b) by
      have h := HF.out
      rw [List.take_succ_eq_append_getElem hkl, List.any_append, h, hs]; simp)
    have HM := Lib.hid (show (s.birth == b) = true → l.any (fun s => s.birth == b) = true from fun h => List.any_eq_true.2 ⟨s, by rw [hs]; exact List.getElem_mem hkl, h⟩)
    have HK := Lib.hid hk
    clear hk hkl hs hrow
    cases t1 : (s.birth == b)
    · rw [t1] at HT
      go_wp2_with fail
      go_roundg (n - (k + 1))
      case measure => have := HGK.out; have := HK.out; omega
      case rel => exact ⟨k + 1, by have := HGK.out; have := HK.out; omega, by go_num, rfl, HT⟩
    have HE := Lib.hid (HM.out t1)
    go_wp2_with fail
    go_ret
    exact ⟨by rw [HE.out]; rfl, rfl⟩
set_option maxHeartbeats 3200000 in
theorem parent_calls (a : Option Addr) (n cap i j0 : Nat) (l : List SesM) (w : World) (hn : n = l.length) (hr : RdS w (.slice a n cap) l) (hi : i < l.length) (hj : j0 < l.length) (hji : j0 < i) (he1 : (l[j0]).birth = (l[i]).upB) (he2 : (l[j0]).slot = (l[i]).upS) (hmin : ∀ j (hj' : j < j0), (l[j]).birth ≠ (l[i]).upB) :
    Calls Try.prog 37 #[.slice a n cap, .int .i64 (i : Int)] w fun ev w' => ev = .returned (.tuple #[.agg (l[j0]).cells, .bool true]) ∧ Below w.heap.size w w' := by
  have HB := Lib.hid (below_alloc w (.cells #[.int .i64 0, .int .i64 0, .int .i64 0, .int .i64 0, .int .i64 0, .string ⟨#[]⟩, .string ⟨#[]⟩, .int .u64 0, .int .i64 0, .int .i64 0, .int .i64 0, .int .i64 0] 45))
  have HR := Lib.hid (hr.below HB.out)
  have HN := Lib.hid hn
  have hln : n ≤ 9223372036854775807 := by obtain ⟨_, _, e, h5, h6, _⟩ := hr; omega
  obtain ⟨s, hs⟩ : ∃ s, s = l[i] := ⟨_, rfl⟩
  obtain ⟨P, hP⟩ : ∃ P, P = l[j0] := ⟨_, rfl⟩
  obtain ⟨rb, ro, hra, hrow⟩ := HR.out.row i hi
  subst hra
  rw [← hs] at hrow he1 he2 hmin
  rw [← hP] at he1 he2 ⊢
  obtain ⟨hset, hth⟩ := (Box.new w #[.int .i64 0, .int .i64 0, .int .i64 0, .int .i64 0, .int .i64 0, .string ⟨#[]⟩, .string ⟨#[]⟩, .int .u64 0, .int .i64 0, .int .i64 0, .int .i64 0, .int .i64 0] 45).setAllS rfl P
  have HTH := Lib.hid (fun m => (show ((w.alloc (.cells #[.int .i64 0, .int .i64 0, .int .i64 0, .int .i64 0, .int .i64 0, .string ⟨#[]⟩, .string ⟨#[]⟩, .int .u64 0, .int .i64 0, .int .i64 0, .int .i64 0, .int .i64 0] 45)).drewN m).there w.heap.size 0 P.cells.toList.length from hth))
  have HSE := Lib.hid (fun m => (show Box (((w.alloc (.cells #[.int .i64 0, .int .i64 0, .int .i64 0, .int .i64 0, .int .i64 0, .string ⟨#[]⟩, .string ⟨#[]⟩, .int .u64 0, .int .i64 0, .int .i64 0, .int .i64 0, .int .i64 0] 45)).drewN m).setCells w.heap.size 0 P.cells.toList) w.heap.size P.cells 45 from ((Box.new w #[.int .i64 0, .int .i64 0, .int .i64 0, .int .i64 0, .int .i64 0, .string ⟨#[]⟩, .string ⟨#[]⟩, .int .u64 0, .int .i64 0, .int .i64 0, .int .i64 0, .int .i64 0] 45).setAllS (w := w.alloc (.cells #[.int .i64 0, .int .i64 0, .int .i64 0, .int .i64 0, .int .i64 0, .string ⟨#[]⟩, .string ⟨#[]⟩, .int .u64 0, .int .i64 0, .int .i64 0, .int .i64 0, .int .i64 0] 45)) rfl P).1 |> fun _ => ((show Box ((w.alloc (.cells #[.int .i64 0, .int .i64 0, .int .i64 0, .int .i64 0, .int .i64 0, .string ⟨#[]⟩, .string ⟨#[]⟩, .int .u64 0, .int .i64 0, .int .i64 0, .int .i64 0, .int .i64 0] 45)).drewN m) w.heap.size #[.int .i64 0, .int .i64 0, .int .i64 0, .int .i64 0, .int .i64 0, .string ⟨#[]⟩, .string ⟨#[]⟩, .int .u64 0, .int .i64 0, .int .i64 0, .int .i64 0, .int .i64 0] 45 from Box.new w #[.int .i64 0, .int .i64 0, .int .i64 0, .int .i64 0, .int .i64 0, .string ⟨#[]⟩, .string ⟨#[]⟩, .int .u64 0, .int .i64 0, .int .i64 0, .int .i64 0, .int .i64 0] 45).setAllS rfl P).1))
  have HMIN := Lib.hid hmin
  have HJ0 := Lib.hid (And.intro hj hji)
  have HPP := Lib.hid hP
  have HE := Lib.hid (And.intro he1 he2)
  have s2 : (w.alloc (.cells #[.int .i64 0, .int .i64 0, .int .i64 0, .int .i64 0, .int .i64 0, .string ⟨#[]⟩, .string ⟨#[]⟩, .int .u64 0, .int .i64 0, .int .i64 0, .int .i64 0, .int .i64 0] 45)).cell? ⟨rb, ro + i * 12 + 2, none⟩ = some (.int .i64 s.upS) := hrow 2 _ rfl
  have s3' : (w.alloc (.cells #[.int .i64 0, .int .i64 0, .int .i64 0, .int .i64 0, .int .i64 0, .string ⟨#[]⟩, .string ⟨#[]⟩, .int .u64 0, .int .i64 0, .int .i64 0, .int .i64 0, .int .i64 0] 45)).cell? ⟨rb, ro + i * 12 + 2 + 1, none⟩ = some (.int .i64 s.upB) := hrow 3 _ rfl
  have k0 : (0 : Int) ≤ (i : Int) := by omega
  have kn : (i : Int) < (n : Int) := by omega
  have HI := Lib.hid hi
  have HIN := Lib.hid hji
  clear hs hrow hn hr hset hth he1 he2 hmin hP
  go_enter Try.func37, Try.ntmps37
  go_wp2_with fail
  generalize hw1 : (w.alloc (.cells #[.int .i64 0, .int .i64 0, .int .i64 0, .int .i64 0, .int .i64 0, .string ⟨#[]⟩, .string ⟨#[]⟩, .int .u64 0, .int .i64 0, .int .i64 0, .int .i64 0, .int .i64 0] 45)) = w1 at HR HB HTH HSE s2 s3' ⊢
  clear hw1
  go_loopg [6] i (fun gk iv wr => ∃ j : Nat, gk + j = i ∧ iv = .int .i64 (j : Int) ∧ j ≤ j0 ∧ ∃ m, wr = w1.drewN m)
  case atStart => exact ⟨0, rfl, rfl, Nat.zero_le _, 0, rfl⟩
  case round =>
    obtain ⟨j, hgj, rfl, hjj, m, rfl⟩ := hrel
    have j0' : (0 : Int) ≤ (j : Int) := by omega
    have HGJ := Lib.hid hgj
    have hj : j < i := by have := HIN.out; omega
    have j1 : (j : Int) < (i : Int) := by omega
    have j2 : (j : Int) < (n : Int) := by omega
    have hjl : j < l.length := by have := HI.out; omega
    obtain ⟨p, hp⟩ : ∃ p, p = l[j] := ⟨_, rfl⟩
    obtain ⟨rb', ro', hra, hrow⟩ := HR.out.row j hjl
    injection hra with hra
    injection hra with e5 e6
    subst e5
    subst e6
    rw [← hp] at hrow
    have r0 : w1.cell? ⟨rb, ro + j * 12, none⟩ = some (.int .i64 p.slot) := hrow 0 _ rfl
    have r1 : w1.cell? ⟨rb, ro + j * 12 + 1, none⟩ = some (.int .i64 p.birth) := hrow 1 _ rfl
    have HJ := Lib.hid hj
    have HJJ := Lib.hid hjj
    by_cases hlt : j < j0
    · have t1 : (p.birth == s.upB) = false := by rw [beq_eq_false_iff_ne, hp]; exact HMIN.out j hlt
      have HLT := Lib.hid hlt
      clear hp hrow hgj hjj hlt
      go_wp2_with fail
      go_quiet (fail)
      go_wp2_with fail
      go_roundg (i - (j + 1))
      case measure => have := HGJ.out; have := HJ.out; omega
      case rel => exact ⟨j + 1, by have := HGJ.out; have := HJ.out; omega, by go_num, HLT.out, _, rfl⟩
    obtain rfl : j = j0 := by omega
    obtain rfl : p = P := by rw [hp, HPP.out]
    have t1 : (p.birth == s.upB) = true := by rw [beq_iff_eq]; exact HE.out.1
    have t2 : (p.slot == s.upS) = true := by rw [beq_iff_eq]; exact HE.out.2
    have HROW := Lib.hid (show ∀ q, (w1.drewN q).rangeAt rb (ro + j * 12) p.cells.toList from fun q => hrow)
    clear hp hrow hgj hjj hlt HJJ
    go_wp2_with fail
    go_quiet (fail)
    go_wp2_with ((with_reducible refine wpList_load_k ?L1a 45 (.tmp 40) ?L1b (rb) (ro + j * 12) ?L1c p.cells.toList _ (HROW.out _) Try.underlying45 ?L1d ?L1e ?L1f); (case L1b => rfl); (case L1a => rfl); (case L1c => rfl); (case L1d => rfl); (case L1e => kernel_rfl))
    intro cv hcv
    go_wp2_with ((with_reducible refine wpList_store_k ?S2a 45 (.tmp 4) (.tmp 41) ?S2b (w.heap.size) (0) p.cells.toList ?S2c cv ?S2d hcv ?S2e ?S2f ?S2g ?S2h); (case S2b => rfl); (case S2a => rfl); (case S2c => rfl); (case S2d => rfl); (case S2e => exact HTH.out _); (case S2f => kernel_rfl); (case S2g => exact SesM.oneS _))
    intro w2 hw2
    have HS2 := Lib.hid (show Box w2 w.heap.size p.cells 45 by rw [hw2.out]; exact HSE.out _)
    have HB2 := Lib.hid (show Below w.heap.size w w2 by
      rw [hw2.out]
      generalize p.cells.toList = L
      exact (HB.out.trans ((below_drewN _ _).mono HB.out.size)).trans ((Mod.setCells (fun q => q = w.heap.size) w.heap.size rfl L 0 _).below HB.out.size (fun i hi => Nat.le_of_eq hi.symm)))
    clear hw2 hcv HTH HSE HROW
    go_wp2_with fail
    exact ret_cell_tmp rfl rfl w.heap.size 0 rfl p.cells.toList _ (Box.rangeS HS2.out) Try.underlying45 rfl (by kernel_rfl) _ rfl ⟨rfl, HB2.out⟩
/-- A session beside its parent, as the law asks it. -/
structure NarS (s p : SesM) : Prop where
  sc : scIn s.scopes p.scopes = true
  dl : s.deadline ≤ p.deadline
  dp : s.depth = IntKind.i64.wrap (p.depth + 1)
  us : s.user = p.user
  le : s.level ≤ p.level → s.level = p.level ∧ s.kind = 1
  gt : p.level < s.level → s.kind = 2 ∧ s.deadline ≤ s.born + 300
  bo : 0 ≤ s.born ∧ s.born ≤ 1099511627776
theorem Snd.nar {st : StM} (h : Snd st) {s p : SesM} (hs : s ∈ st.l) (hu : s.upB ≠ 0) (hf : fitsM s p = true) : NarS s p := by
  obtain ⟨h1, h2, h3, h4, h5, h6⟩ := narrow_of (h.may s hs) hu hf
  have hb : 0 ≤ s.born ∧ s.born ≤ 1099511627776 := by
    have hm := h.may s hs
    unfold mayS at hm
    simp only [Bool.and_eq_true] at hm
    have := fromM_yes hm.2.2.2.2.1
    omega
  exact ⟨h1, h2, h3, h4, h5, h6, hb⟩
set_option maxHeartbeats 3200000 in
theorem narrower_calls (s p : SesM) (w : World) (h : NarS s p) :
    Calls Try.prog 38 #[.agg s.cells, .agg p.cells] w fun e w' => e = .returned (.bool true) ∧ Below w.heap.size w w' := by
  have HB := Lib.hid (fun o o2 => below_two w o o2)
  obtain ⟨D, hD⟩ : ∃ D, IntKind.i64.wrap (p.depth + 1) = D := ⟨_, rfl⟩
  have HWI := Lib.hid (fun w => within_calls s.scopes p.scopes w)
  have h2 := h.dp
  rw [hD] at h2
  have t1 : decide (p.deadline < s.deadline) = false := by have := h.dl; simp; omega
  have t2 : (s.depth != D) = false := by rw [h2]; simp
  have t3 : ((SB s.user).toList == (SB p.user).toList) = true := by rw [h.us]; simp
  have hz : IntKind.i64.wrap (s.born + 300) = s.born + 300 := by have := h.bo; simp [IntKind.wrap, IntKind.bits, IntKind.signed]; omega
  have HSCI := Lib.hid h.sc
  have HLE := Lib.hid h.le
  have HGT := Lib.hid h.gt
  clear h h2
  have HSC := Lib.hid s.cellsE
  have HPC := Lib.hid p.cellsE
  rw [HSC.out, HPC.out]
  clear HSC HPC
  go_enter Try.func38, Try.ntmps38
  go_wp2_with fail
  refine (HWI.out _).mono ?_
  rintro e w4 ⟨rfl, rfl⟩
  rw [HSCI.out]
  clear HWI HSCI
  by_cases hl : s.level ≤ p.level
  · obtain ⟨h5, h6⟩ := HLE.out hl
    have t5 : (s.level == p.level) = true := by rw [h5]; simp
    have t6 : (s.kind == 1) = true := by rw [h6]; rfl
    clear h5 h6
    go_wp2_with fail
    go_ret
    exact ⟨rfl, HB.out _ _⟩
  obtain ⟨h5, h6⟩ := HGT.out (by omega)
  have t6 : (s.kind == 2) = true := by rw [h5]; rfl
  clear h5
  go_wp2_with fail
  go_ret
  exact ⟨rfl, HB.out _ _⟩
set_option maxHeartbeats 6400000 in
theorem sound_calls (C B : Int) (v : Value) (l : List SesM) (w : World) (hr : RdS w v l) (hs : Snd ⟨C, B, l⟩) :
    Calls Try.prog 17 #[.agg #[.int .i64 C, .int .i64 B, v]] w fun e w' => e = .returned (.bool true) ∧ Below w.heap.size w w' := by
  obtain ⟨a, cap, rfl, hc1, hc2⟩ := hr.slice
  have HB1 := Lib.hid (below_alloc w (.cells #[.int .i64 C, .int .i64 B, .slice a l.length cap] 24))
  have HX1 := Lib.hid (Box.new w #[.int .i64 C, .int .i64 B, .slice a l.length cap] 24)
  have HR := Lib.hid (hr.below HB1.out)
  have HS := Lib.hid hs
  have hlen : ¬ (32 : Int) < (l.length : Int) := by have := hs.len; simp only at this; omega
  obtain ⟨n, hN⟩ : ∃ n, n = l.length := ⟨_, rfl⟩
  rw [← hN] at hlen HB1 HX1 HR ⊢
  have HN := Lib.hid hN
  clear hr hs hc1 hN
  have hln : n ≤ 9223372036854775807 := by omega
  have c0 : (w.alloc (.cells #[.int .i64 C, .int .i64 B, .slice a n cap] 24)).cell? ⟨w.heap.size, 0, none⟩ = some (.int .i64 C) := HX1.out.cell 0 _ rfl
  have c1 : (w.alloc (.cells #[.int .i64 C, .int .i64 B, .slice a n cap] 24)).cell? ⟨w.heap.size, 1, none⟩ = some (.int .i64 B) := HX1.out.cell 1 _ rfl
  have c2 : (w.alloc (.cells #[.int .i64 C, .int .i64 B, .slice a n cap] 24)).cell? ⟨w.heap.size, 2, none⟩ = some (.slice a n cap) := HX1.out.cell 2 _ rfl
  go_enter Try.func17, Try.ntmps17
  go_wp2_with fail
  generalize (w.alloc (.cells #[.int .i64 C, .int .i64 B, .slice a n cap] 24)) = w1 at HB1 HX1 HR c0 c1 c2 ⊢
  clear c0 c1 c2 hlen
  go_loopg [4] n (fun gk iv wr => ∃ k : Nat, gk + k = n ∧ iv = .int .i64 (k : Int) ∧ Below w1.heap.size w1 wr)
  case atStart => exact ⟨0, rfl, rfl, Below.refl _ _⟩
  case round =>
    obtain ⟨k, hgk, rfl, hb⟩ := hrel
    have k0 : (0 : Int) ≤ (k : Int) := by omega
    have HGK := Lib.hid hgk
    have HBr := Lib.hid hb
    clear hgk hb
    by_cases hk : k < n
    rotate_left
    · have k1 : ¬ (k : Int) < (n : Int) := by omega
      have HB9 := Lib.hid (HB1.out.trans (HBr.out.mono HB1.out.size))
      clear hk
      go_wp2_with fail
      go_ret
      exact ⟨rfl, HB9.out⟩
    have k1 : (k : Int) < (n : Int) := by omega
    have hkl : k < l.length := by have := HN.out; omega
    obtain ⟨s, hs⟩ : ∃ s, s = l[k] := ⟨_, rfl⟩
    have hRr := HR.out.below HBr.out
    obtain ⟨rb, ro, hra, hrow⟩ := hRr.row k hkl
    subst hra
    rw [← hs] at hrow
    have hmem : s ∈ l := by rw [hs]; exact List.getElem_mem hkl
    obtain ⟨g1, g2, g3, g4⟩ := HS.out.one hmem
    have HMEM := Lib.hid hmem
    have HPAR := Lib.hid (fun hu => HS.out.parAt hkl hu)
    have HSL := Lib.hid (show ∀ j (hj : j < k) (hjl : j < l.length), (l[j]).slot ≠ s.slot from fun j hj hjl => by rw [hs]; exact List.pairwise_iff_getElem.1 HS.out.slots j k hjl hkl hj)
    have HSL2 := Lib.hid (show ∀ j (hj : j < k) (hjl : j < l.length), (l[j]).birth < s.birth from fun j hj hjl => by rw [hs]; exact List.pairwise_iff_getElem.1 HS.out.inc j k hjl hkl hj)
    have HROOT := Lib.hid (fun hu => root_parts (HS.out.may s hmem) hu)
    have HRr := Lib.hid hRr
    have HROW := Lib.hid hrow
    have HXr := Lib.hid (HX1.out.below HBr.out)
    have c0 : wr.cell? ⟨w.heap.size, 0, none⟩ = some (.int .i64 C) := HXr.out.cell 0 _ rfl
    have c1 : wr.cell? ⟨w.heap.size, 1, none⟩ = some (.int .i64 B) := HXr.out.cell 1 _ rfl
    have r1 : wr.cell? ⟨rb, ro + k * 12 + 1, none⟩ = some (.int .i64 s.birth) := hrow 1 _ rfl
    have r8 : wr.cell? ⟨rb, ro + k * 12 + 9, none⟩ = some (.int .i64 s.born) := hrow 9 _ rfl
    have r9 : wr.cell? ⟨rb, ro + k * 12 + 10, none⟩ = some (.int .i64 s.deadline) := hrow 10 _ rfl
    have HK := Lib.hid (And.intro hk hkl)
    have HSE := Lib.hid hs
    clear hs hrow hRr hmem
    have HTAIL : True := trivial
    by_cases hz : k = 0
    · have kpos : decide ((0 : Int) < (k : Int)) = false := by simp; omega
      have kpos' : decide (0 < k) = false := by simp; omega
      clear hk hz
      go_wp2_with fail
      go_quiet (fail)
      have HBq := Lib.hid (fun q => HBr.out.trans ((below_drewN wr q).mono HBr.out.size))
      clear HBr g1 g2 g3 g4 c0 c1 r1 r8 r9 HXr
      go_wp2_with fail
      go_loopg [5] k (fun gj iv wr2 => ∃ j : Nat, gj + j = k ∧ iv = .int .i64 (j : Int) ∧ Below w1.heap.size w1 wr2)
      case atStart => exact ⟨0, Nat.add_zero _, rfl, HBq.out _⟩
      case round =>
        clear HBq HROW HRr
        obtain ⟨j, hgj, rfl, hb⟩ := hrel
        rename_i wr0 _ _ _ _ _
        have j0' : (0 : Int) ≤ (j : Int) := by omega
        have HGJ := Lib.hid hgj
        have HBj := Lib.hid hb
        have HRj := Lib.hid (HR.out.below hb)
        obtain ⟨rb', ro', hra, hrow⟩ := HRj.out.row k hkl
        injection hra with hra
        injection hra with e5 e6
        subst e5
        subst e6
        rw [← HSE.out] at hrow
        clear hgj hb
        by_cases hj : j < k
        · have j1 : (j : Int) < (k : Int) := by omega
          have j2 : (j : Int) < (n : Int) := by omega
          have hjl : j < l.length := by omega
          obtain ⟨p, hp⟩ : ∃ p, p = l[j] := ⟨_, rfl⟩
          obtain ⟨rb', ro', hra, hrow2⟩ := HRj.out.row j hjl
          injection hra with hra
          injection hra with e5 e6
          subst e5
          subst e6
          rw [← hp] at hrow2
          have r0 := hrow2 0 _ rfl
          have s0 := hrow 0 _ rfl
          simp only [Nat.add_zero] at r0 s0
          have t1 : (p.slot == s.slot) = false := by rw [beq_eq_false_iff_ne, hp]; exact HSL.out j hj hjl
          have HBj2 := Lib.hid (fun q => HBj.out.trans ((below_drewN _ q).mono HBj.out.size))
          have HJ := Lib.hid hj
          clear hp hrow hrow2 hj
          go_wp2_with fail
          go_quiet (fail)
          go_wp2_with fail
          go_roundg (k - (j + 1))
          case measure => have := HGJ.out; have := HJ.out; omega
          case rel => exact ⟨j + 1, by have := HGJ.out; have := HJ.out; omega, by go_num, HBj2.out _⟩
        have j1 : ¬ (j : Int) < (k : Int) := by omega
        have s3 := hrow 3 _ rfl
        have s4 := hrow 4 _ rfl
        have s11 := hrow 11 _ rfl
        have HRW := Lib.hid hrow
        clear hj hrow
        by_cases hu : s.upB = 0
        · obtain ⟨hk1, hk2⟩ := HROOT.out hu
          have t1 : (s.upB == 0) = true := by rw [hu]; rfl
          have t2 : (s.depth == 0) = true := by rw [hk2]; rfl
          have t3 : (s.kind == 0) = true := by rw [hk1]; rfl
          have t1' : (s.upB != 0) = false := by rw [hu]; rfl
          have t2' : (s.depth != 0) = false := by rw [hk2]; rfl
          have t3' : (s.kind != 0) = false := by rw [hk1]; rfl
          clear hu hk1 hk2
          go_wp2_with fail
          go_roundg (n - (k + 1))
          case measure => have := HGK.out; have := HK.out; omega
          case rel => exact ⟨k + 1, by have := HGK.out; have := HK.out; omega, by go_num, HBj.out⟩
        have t1 : (s.upB == 0) = false := by rw [beq_eq_false_iff_ne]; exact hu
        have t1' : (s.upB != 0) = true := by rw [bne_iff_ne]; exact hu
        have hpar := HPAR.out (by rw [← HSE.out]; exact hu)
        obtain ⟨j0, hj0, hjk, e1, e2, e3, e4⟩ := hpar
        have HNA := Lib.hid (show NarS s l[j0] from HS.out.nar HMEM.out hu (by rw [HSE.out]; exact e3))
        have HPC := Lib.hid (fun wq hq => parent_calls (some ⟨rb, ro, none⟩) n cap k j0 l wq HN.out hq hkl hj0 hjk e1 e2 e4)
        obtain ⟨P, hP⟩ : ∃ P, P = l[j0] := ⟨_, rfl⟩
        rw [← hP] at HNA HPC
        clear hu e1 e2 e3 e4 hP HPAR
        go_wp2_with fail
        refine (HPC.out _ HRj.out).mono ?_
        rintro e3 w3 ⟨rfl, hb3⟩
        have HB3 := Lib.hid (HBj.out.trans (hb3.mono HBj.out.size))
        have HRW3 := Lib.hid (fun j v hv => below_heap hb3 (HRW.out j v hv))
        clear hb3 HPC HRj HBj HRW s3 s4 s11
        go_wp2_with ((with_reducible refine wpList_store_k ?S3a 45 (.tmp 6) (.tmp 100) ?S3b (w3.heap.size) (0) P.cells.toList ?S3c P.cells ?S3d (SesM.listS _) ?S3e ?S3f ?S3g ?S3h); (case S3b => rfl); (case S3a => rfl); (case S3c => rfl); (case S3d => rfl); (case S3e => exact thereZ _ _); (case S3f => kernel_rfl); (case S3g => exact SesM.oneS _))
        intro w4 hw4
        obtain ⟨hpx, hb4⟩ := putZ hw4
        have HPX := Lib.hid (Box.rangeS hpx)
        have HB4 := Lib.hid (HB3.out.trans (hb4.mono HB3.out.size))
        have HRW4 := Lib.hid (show w4.rangeAt rb (ro + k * 12) s.cells.toList from fun j v hv => below_heap hb4 (HRW3.out j v hv))
        have HNC := Lib.hid (fun w => narrower_calls s P w HNA.out)
        clear hw4 hpx hb4 HB3 HRW3 HNA
        generalize w3.heap.size = q3 at HPX ⊢
        go_wp2_with fail
        refine wp_region_held_drew (S := fun W => Below w4.heap.size w4 W) (by kernel_rfl) (below_drew w4) (fun hHeld => ?_)
        refine wpAnyH_take (i := 0) (oi := ⟨some 102, _, _, _, _, _⟩) (v := ?_) rfl (by kernel_rfl) (by kernel_rfl) (by kernel_rfl) (fun _ _ _ h => h) (Or.inl ⟨by kernel_rfl, ?_⟩) (by assumption) ?_
        rotate_left 1
        · intro w' hw'; clear hw'; go_simp; try with_reducible rfl
        try simp only [Act.put, List.setIfInBounds_toArray, List.set_cons_zero, List.set_cons_succ]
        refine wpAnyH_take (i := 1) (oi := ⟨some 103, _, _, _, _, _⟩) (v := ?_) rfl (by kernel_rfl) (by kernel_rfl) (by kernel_rfl) (fun _ _ _ h => h) (Or.inl ⟨by kernel_rfl, ?_⟩) (by assumption) ?_
        rotate_left 1
        · intro w' hw'; clear hw'; go_simp; try with_reducible rfl
        try simp only [Act.put, List.setIfInBounds_toArray, List.set_cons_zero, List.set_cons_succ]
        refine wpAnyH_take (i := 2) (oi := ⟨some 104, _, _, _, _, _⟩) (v := ?_) rfl (by kernel_rfl) (by kernel_rfl) (by kernel_rfl) (fun _ _ _ h => h) (Or.inl ⟨by kernel_rfl, ?_⟩) (by assumption) ?_
        rotate_left 1
        · intro w' hw'; clear hw'; go_simp; try with_reducible rfl
        try simp only [Act.put, List.setIfInBounds_toArray, List.set_cons_zero, List.set_cons_succ]
        refine wpAnyH_take (i := 3) (oi := ⟨some 105, _, _, _, _, _⟩) (v := ?_) rfl (by kernel_rfl) (by kernel_rfl) (by kernel_rfl) (fun _ _ _ h => h) (Or.inl ⟨by kernel_rfl, ?_⟩) (by assumption) ?_
        rotate_left 1
        · intro w' hw'; clear hw'; go_simp; try with_reducible rfl
        try simp only [Act.put, List.setIfInBounds_toArray, List.set_cons_zero, List.set_cons_succ]
        refine wpAnyH_take (i := 4) (oi := ⟨some 106, _, _, _, _, _⟩) (v := ?_) rfl (by kernel_rfl) (by kernel_rfl) (by kernel_rfl) (fun _ _ _ h => h) (Or.inl ⟨by kernel_rfl, ?_⟩) (by assumption) ?_
        rotate_left 1
        · intro w' hw'; clear hw'; go_simp; try with_reducible rfl
        try simp only [Act.put, List.setIfInBounds_toArray, List.set_cons_zero, List.set_cons_succ]
        refine wpAnyH_take (i := 5) (oi := ⟨some 107, _, _, _, _, _⟩) (v := ?_) rfl (by kernel_rfl) (by kernel_rfl) (by kernel_rfl) (fun _ _ _ h => h) (Or.inl ⟨by kernel_rfl, ?_⟩) (by assumption) ?_
        rotate_left 1
        · intro w' hw'; clear hw'; go_simp; try with_reducible rfl
        try simp only [Act.put, List.setIfInBounds_toArray, List.set_cons_zero, List.set_cons_succ]
        refine wpAnyH_take (i := 6) (oi := ⟨some 108, .load _ _, _, _, _, _⟩) (v := .agg s.cells) rfl (by kernel_rfl) (by kernel_rfl) (by kernel_rfl) (fun _ _ _ h => h) (Or.inl ⟨by kernel_rfl, fun w' hw' => exec_load_m 45 (.tmp 107) rfl (rb) (ro + k * 12) rfl (s.cells).toList _ (fun j v hv => below_heap hw' (HRW4.out j v hv)) Try.underlying45 rfl (by kernel_rfl)⟩) (by assumption) ?_
        try simp only [Act.put, List.setIfInBounds_toArray, List.set_cons_zero, List.set_cons_succ]
        refine wpAnyH_take (i := 7) (oi := ⟨some 109, .load _ _, _, _, _, _⟩) (v := .agg P.cells) rfl (by kernel_rfl) (by kernel_rfl) (by kernel_rfl) (fun _ _ _ h => h) (Or.inl ⟨by kernel_rfl, fun w' hw' => exec_load_m 45 (.tmp 6) rfl (q3) (0) rfl (P.cells).toList _ (fun j v hv => below_heap hw' (HPX.out j v hv)) Try.underlying45 rfl (by kernel_rfl)⟩) (by assumption) ?_
        try simp only [Act.put, List.setIfInBounds_toArray, List.set_cons_zero, List.set_cons_succ]
        refine wpAnyH_ready (rs := [8]) (by kernel_rfl) (by simp) (AllReadyH.cons (o := ⟨some 110, .call _, _, _, _, _⟩) rfl (fun K hK => ?_) AllReadyH.nil)
        go_simp
        refine (HNC.out _).mono ?_
        rintro e5 w5 ⟨rfl, hb5⟩
        refine hK.out _ _ (below_trans hHeld hb5) (fun hHeld2 => ?_)
        clear hK K hb5
        try simp only [Act.put, List.setIfInBounds_toArray, List.set_cons_zero, List.set_cons_succ]
        refine wpAnyH_take (i := 9) (oi := ⟨some 111, _, _, _, _, _⟩) (v := ?_) rfl (by kernel_rfl) (by kernel_rfl) (by kernel_rfl) (fun _ _ _ h => h) (Or.inl ⟨by kernel_rfl, ?_⟩) (by assumption) ?_
        rotate_left 1
        · intro w' hw'; clear hw'; go_simp; try with_reducible rfl
        try simp only [Act.put, List.setIfInBounds_toArray, List.set_cons_zero, List.set_cons_succ]
        refine wpAnyH_take (i := 10) (oi := ⟨some 112, _, _, _, _, _⟩) (v := ?_) rfl (by kernel_rfl) (by kernel_rfl) (by kernel_rfl) (fun _ _ _ h => h) (Or.inl ⟨by kernel_rfl, ?_⟩) (by assumption) ?_
        rotate_left 1
        · intro w' hw'; clear hw'; go_simp; try with_reducible rfl
        try simp only [Act.put, List.setIfInBounds_toArray, List.set_cons_zero, List.set_cons_succ]
        refine wpAnyH_done (by kernel_rfl) ?_ _
        have HB5 := Lib.hid (HB4.out.trans (hHeld2.mono HB4.out.size))
        clear hHeld hHeld2 HB4 HRW4 HPX HNC
        go_wp2_with fail
        go_roundg (n - (k + 1))
        case measure => have := HGK.out; have := HK.out; omega
        case rel => exact ⟨k + 1, by have := HGK.out; have := HK.out; omega, by go_num, HB5.out⟩
    obtain ⟨k', hk'⟩ : ∃ k', k' + 1 = k := ⟨k - 1, by omega⟩
    have hkl' : k' < l.length := by omega
    obtain ⟨p', hp'⟩ : ∃ p', p' = l[k'] := ⟨_, rfl⟩
    obtain ⟨rb', ro', hra, hrow'⟩ := HRr.out.row k' hkl'
    injection hra with hra
    injection hra with e5 e6
    subst e5
    subst e6
    rw [← hp'] at hrow'
    have q1 : wr.cell? ⟨rb, ro + k' * 12 + 1, none⟩ = some (.int .i64 p'.birth) := hrow' 1 _ rfl
    have hw : IntKind.i64.wrap ((k : Int) - 1) = (k' : Int) := by simp [IntKind.wrap, IntKind.bits, IntKind.signed]; omega
    have kp0 : (0 : Int) ≤ (k' : Int) := by omega
    have kp1 : (k' : Int) < (n : Int) := by omega
    have kpos : decide ((0 : Int) < (k : Int)) = true := by simp; omega
    have kpos' : decide (0 < k) = true := by simp; omega
    have g5 : decide (s.birth ≤ p'.birth) = false := by have := HSL2.out k' (by omega) hkl'; rw [← hp'] at this; simp; omega
    clear hk hz hk' hp' hrow'
    go_wp2_with fail
    go_quiet (fail)
    have HBq := Lib.hid (fun q => HBr.out.trans ((below_drewN wr q).mono HBr.out.size))
    clear HBr g1 g2 g3 g4 c0 c1 r1 r8 r9 HXr
    go_wp2_with fail
    go_loopg [5] k (fun gj iv wr2 => ∃ j : Nat, gj + j = k ∧ iv = .int .i64 (j : Int) ∧ Below w1.heap.size w1 wr2)
    case atStart => exact ⟨0, Nat.add_zero _, rfl, HBq.out _⟩
    case round =>
      clear HBq HROW HRr
      obtain ⟨j, hgj, rfl, hb⟩ := hrel
      rename_i wr0 _ _ _ _ _
      have j0' : (0 : Int) ≤ (j : Int) := by omega
      have HGJ := Lib.hid hgj
      have HBj := Lib.hid hb
      have HRj := Lib.hid (HR.out.below hb)
      obtain ⟨rb', ro', hra, hrow⟩ := HRj.out.row k hkl
      injection hra with hra
      injection hra with e5 e6
      subst e5
      subst e6
      rw [← HSE.out] at hrow
      clear hgj hb
      by_cases hj : j < k
      · have j1 : (j : Int) < (k : Int) := by omega
        have j2 : (j : Int) < (n : Int) := by omega
        have hjl : j < l.length := by omega
        obtain ⟨p, hp⟩ : ∃ p, p = l[j] := ⟨_, rfl⟩
        obtain ⟨rb', ro', hra, hrow2⟩ := HRj.out.row j hjl
        injection hra with hra
        injection hra with e5 e6
        subst e5
        subst e6
        rw [← hp] at hrow2
        have r0 := hrow2 0 _ rfl
        have s0 := hrow 0 _ rfl
        simp only [Nat.add_zero] at r0 s0
        have t1 : (p.slot == s.slot) = false := by rw [beq_eq_false_iff_ne, hp]; exact HSL.out j hj hjl
        have HBj2 := Lib.hid (fun q => HBj.out.trans ((below_drewN _ q).mono HBj.out.size))
        have HJ := Lib.hid hj
        clear hp hrow hrow2 hj
        go_wp2_with fail
        go_quiet (fail)
        go_wp2_with fail
        go_roundg (k - (j + 1))
        case measure => have := HGJ.out; have := HJ.out; omega
        case rel => exact ⟨j + 1, by have := HGJ.out; have := HJ.out; omega, by go_num, HBj2.out _⟩
      have j1 : ¬ (j : Int) < (k : Int) := by omega
      have s3 := hrow 3 _ rfl
      have s4 := hrow 4 _ rfl
      have s11 := hrow 11 _ rfl
      have HRW := Lib.hid hrow
      clear hj hrow
      by_cases hu : s.upB = 0
      · obtain ⟨hk1, hk2⟩ := HROOT.out hu
        have t1 : (s.upB == 0) = true := by rw [hu]; rfl
        have t2 : (s.depth == 0) = true := by rw [hk2]; rfl
        have t3 : (s.kind == 0) = true := by rw [hk1]; rfl
        have t1' : (s.upB != 0) = false := by rw [hu]; rfl
        have t2' : (s.depth != 0) = false := by rw [hk2]; rfl
        have t3' : (s.kind != 0) = false := by rw [hk1]; rfl
        clear hu hk1 hk2
        go_wp2_with fail
        go_roundg (n - (k + 1))
        case measure => have := HGK.out; have := HK.out; omega
        case rel => exact ⟨k + 1, by have := HGK.out; have := HK.out; omega, by go_num, HBj.out⟩
      have t1 : (s.upB == 0) = false := by rw [beq_eq_false_iff_ne]; exact hu
      have t1' : (s.upB != 0) = true := by rw [bne_iff_ne]; exact hu
      have hpar := HPAR.out (by rw [← HSE.out]; exact hu)
      obtain ⟨j0, hj0, hjk, e1, e2, e3, e4⟩ := hpar
      have HNA := Lib.hid (show NarS s l[j0] from HS.out.nar HMEM.out hu (by rw [HSE.out]; exact e3))
      have HPC := Lib.hid (fun wq hq => parent_calls (some ⟨rb, ro, none⟩) n cap k j0 l wq HN.out hq hkl hj0 hjk e1 e2 e4)
      obtain ⟨P, hP⟩ : ∃ P, P = l[j0] := ⟨_, rfl⟩
      rw [← hP] at HNA HPC
      clear hu e1 e2 e3 e4 hP HPAR
      go_wp2_with fail
      refine (HPC.out _ HRj.out).mono ?_
      rintro e3 w3 ⟨rfl, hb3⟩
      have HB3 := Lib.hid (HBj.out.trans (hb3.mono HBj.out.size))
      have HRW3 := Lib.hid (fun j v hv => below_heap hb3 (HRW.out j v hv))
      clear hb3 HPC HRj HBj HRW s3 s4 s11
      go_wp2_with ((with_reducible refine wpList_store_k ?S4a 45 (.tmp 6) (.tmp 100) ?S4b (w3.heap.size) (0) P.cells.toList ?S4c P.cells ?S4d (SesM.listS _) ?S4e ?S4f ?S4g ?S4h); (case S4b => rfl); (case S4a => rfl); (case S4c => rfl); (case S4d => rfl); (case S4e => exact thereZ _ _); (case S4f => kernel_rfl); (case S4g => exact SesM.oneS _))
      intro w4 hw4
      obtain ⟨hpx, hb4⟩ := putZ hw4
      have HPX := Lib.hid (Box.rangeS hpx)
      have HB4 := Lib.hid (HB3.out.trans (hb4.mono HB3.out.size))
      have HRW4 := Lib.hid (show w4.rangeAt rb (ro + k * 12) s.cells.toList from fun j v hv => below_heap hb4 (HRW3.out j v hv))
      have HNC := Lib.hid (fun w => narrower_calls s P w HNA.out)
      clear hw4 hpx hb4 HB3 HRW3 HNA
      generalize w3.heap.size = q3 at HPX ⊢
      go_wp2_with fail
      refine wp_region_held_drew (S := fun W => Below w4.heap.size w4 W) (by kernel_rfl) (below_drew w4) (fun hHeld => ?_)
      refine wpAnyH_take (i := 0) (oi := ⟨some 102, _, _, _, _, _⟩) (v := ?_) rfl (by kernel_rfl) (by kernel_rfl) (by kernel_rfl) (fun _ _ _ h => h) (Or.inl ⟨by kernel_rfl, ?_⟩) (by assumption) ?_
      rotate_left 1
      · intro w' hw'; clear hw'; go_simp; try with_reducible rfl
      try simp only [Act.put, List.setIfInBounds_toArray, List.set_cons_zero, List.set_cons_succ]
      refine wpAnyH_take (i := 1) (oi := ⟨some 103, _, _, _, _, _⟩) (v := ?_) rfl (by kernel_rfl) (by kernel_rfl) (by kernel_rfl) (fun _ _ _ h => h) (Or.inl ⟨by kernel_rfl, ?_⟩) (by assumption) ?_
      rotate_left 1
      · intro w' hw'; clear hw'; go_simp; try with_reducible rfl
      try simp only [Act.put, List.setIfInBounds_toArray, List.set_cons_zero, List.set_cons_succ]
      refine wpAnyH_take (i := 2) (oi := ⟨some 104, _, _, _, _, _⟩) (v := ?_) rfl (by kernel_rfl) (by kernel_rfl) (by kernel_rfl) (fun _ _ _ h => h) (Or.inl ⟨by kernel_rfl, ?_⟩) (by assumption) ?_
      rotate_left 1
      · intro w' hw'; clear hw'; go_simp; try with_reducible rfl
      try simp only [Act.put, List.setIfInBounds_toArray, List.set_cons_zero, List.set_cons_succ]
      refine wpAnyH_take (i := 3) (oi := ⟨some 105, _, _, _, _, _⟩) (v := ?_) rfl (by kernel_rfl) (by kernel_rfl) (by kernel_rfl) (fun _ _ _ h => h) (Or.inl ⟨by kernel_rfl, ?_⟩) (by assumption) ?_
      rotate_left 1
      · intro w' hw'; clear hw'; go_simp; try with_reducible rfl
      try simp only [Act.put, List.setIfInBounds_toArray, List.set_cons_zero, List.set_cons_succ]
      refine wpAnyH_take (i := 4) (oi := ⟨some 106, _, _, _, _, _⟩) (v := ?_) rfl (by kernel_rfl) (by kernel_rfl) (by kernel_rfl) (fun _ _ _ h => h) (Or.inl ⟨by kernel_rfl, ?_⟩) (by assumption) ?_
      rotate_left 1
      · intro w' hw'; clear hw'; go_simp; try with_reducible rfl
      try simp only [Act.put, List.setIfInBounds_toArray, List.set_cons_zero, List.set_cons_succ]
      refine wpAnyH_take (i := 5) (oi := ⟨some 107, _, _, _, _, _⟩) (v := ?_) rfl (by kernel_rfl) (by kernel_rfl) (by kernel_rfl) (fun _ _ _ h => h) (Or.inl ⟨by kernel_rfl, ?_⟩) (by assumption) ?_
      rotate_left 1
      · intro w' hw'; clear hw'; go_simp; try with_reducible rfl
      try simp only [Act.put, List.setIfInBounds_toArray, List.set_cons_zero, List.set_cons_succ]
      refine wpAnyH_take (i := 6) (oi := ⟨some 108, .load _ _, _, _, _, _⟩) (v := .agg s.cells) rfl (by kernel_rfl) (by kernel_rfl) (by kernel_rfl) (fun _ _ _ h => h) (Or.inl ⟨by kernel_rfl, fun w' hw' => exec_load_m 45 (.tmp 107) rfl (rb) (ro + k * 12) rfl (s.cells).toList _ (fun j v hv => below_heap hw' (HRW4.out j v hv)) Try.underlying45 rfl (by kernel_rfl)⟩) (by assumption) ?_
      try simp only [Act.put, List.setIfInBounds_toArray, List.set_cons_zero, List.set_cons_succ]
      refine wpAnyH_take (i := 7) (oi := ⟨some 109, .load _ _, _, _, _, _⟩) (v := .agg P.cells) rfl (by kernel_rfl) (by kernel_rfl) (by kernel_rfl) (fun _ _ _ h => h) (Or.inl ⟨by kernel_rfl, fun w' hw' => exec_load_m 45 (.tmp 6) rfl (q3) (0) rfl (P.cells).toList _ (fun j v hv => below_heap hw' (HPX.out j v hv)) Try.underlying45 rfl (by kernel_rfl)⟩) (by assumption) ?_
      try simp only [Act.put, List.setIfInBounds_toArray, List.set_cons_zero, List.set_cons_succ]
      refine wpAnyH_ready (rs := [8]) (by kernel_rfl) (by simp) (AllReadyH.cons (o := ⟨some 110, .call _, _, _, _, _⟩) rfl (fun K hK => ?_) AllReadyH.nil)
      go_simp
      refine (HNC.out _).mono ?_
      rintro e5 w5 ⟨rfl, hb5⟩
      refine hK.out _ _ (below_trans hHeld hb5) (fun hHeld2 => ?_)
      clear hK K hb5
      try simp only [Act.put, List.setIfInBounds_toArray, List.set_cons_zero, List.set_cons_succ]
      refine wpAnyH_take (i := 9) (oi := ⟨some 111, _, _, _, _, _⟩) (v := ?_) rfl (by kernel_rfl) (by kernel_rfl) (by kernel_rfl) (fun _ _ _ h => h) (Or.inl ⟨by kernel_rfl, ?_⟩) (by assumption) ?_
      rotate_left 1
      · intro w' hw'; clear hw'; go_simp; try with_reducible rfl
      try simp only [Act.put, List.setIfInBounds_toArray, List.set_cons_zero, List.set_cons_succ]
      refine wpAnyH_take (i := 10) (oi := ⟨some 112, _, _, _, _, _⟩) (v := ?_) rfl (by kernel_rfl) (by kernel_rfl) (by kernel_rfl) (fun _ _ _ h => h) (Or.inl ⟨by kernel_rfl, ?_⟩) (by assumption) ?_
      rotate_left 1
      · intro w' hw'; clear hw'; go_simp; try with_reducible rfl
      try simp only [Act.put, List.setIfInBounds_toArray, List.set_cons_zero, List.set_cons_succ]
      refine wpAnyH_done (by kernel_rfl) ?_ _
      have HB5 := Lib.hid (HB4.out.trans (hHeld2.mono HB4.out.size))
      clear hHeld hHeld2 HB4 HRW4 HPX HNC
      go_wp2_with fail
      go_roundg (n - (k + 1))
      case measure => have := HGK.out; have := HK.out; omega
      case rel => exact ⟨k + 1, by have := HGK.out; have := HK.out; omega, by go_num, HB5.out⟩
end Go.Proofs.Ythnabnieajojjaa
/-
  Lists of events, as slices read and as calls own them.
-/
namespace Go.Proofs.Ythnabnieajojjaa
open Go.RowKit
set_option maxRecDepth 100000

/-- The cells of a list of events. -/
def flatE (l : List EvtM) : List Value := l.flatMap (fun s => s.cells.toList)
theorem flatE_nil : flatE [] = [] := rfl
theorem flatE_length (l : List EvtM) : (flatE l).length = l.length * 15 := by
  induction l with
  | nil => rfl
  | cons s l ih =>
    have : (flatE (s :: l)).length = 15 + (flatE l).length := by unfold flatE; rw [List.flatMap_cons, List.length_append]; rfl
    rw [this, ih, List.length_cons]; omega
theorem flatE_append (a b : List EvtM) : flatE (a ++ b) = flatE a ++ flatE b := by unfold flatE; rw [List.flatMap_append]
theorem flatE_one (s : EvtM) : flatE [s] = s.cells.toList := by unfold flatE; simp
theorem flatE_at : ∀ (l : List EvtM) (k j : Nat), j < 15 → (flatE l)[k * 15 + j]? = l[k]?.bind (fun s => s.cells.toList[j]?)
  | [], _, _, _ => by simp [flatE]
  | e :: l, k, j, hj => by
    have h15 : e.cells.toList.length = 15 := rfl
    unfold flatE
    rw [List.flatMap_cons]
    cases k with
    | zero =>
      rw [List.getElem?_append_left (by omega)]
      simp
    | succ k =>
      rw [List.getElem?_append_right (by omega), h15, show (k + 1) * 15 + j - 15 = k * 15 + j by omega]
      have := flatE_at l k j hj
      unfold flatE at this
      rw [this]
      simp
/-- A list of events, as a slice reads. -/
def RdE (w : World) (v : Value) (l : List EvtM) : Prop := Rd w v l.length (flatE l)
theorem RdE.below {w w' : World} {v : Value} {l : List EvtM} (h : RdE w v l) (hb : Below w.heap.size w w') : RdE w' v l := Rd.below h hb
theorem RdE.slice {w : World} {v : Value} {l : List EvtM} (h : RdE w v l) : ∃ a cap, v = .slice a l.length cap ∧ l.length ≤ cap ∧ cap ≤ 9223372036854775807 := by
  obtain ⟨a, cap, h1, h2, h3, _⟩ := h; exact ⟨a, cap, h1, h2, h3⟩
/-- The k-th event's cells. -/
theorem RdE.row {w : World} {a : Option Addr} {n cap : Nat} {l : List EvtM} (h : RdE w (.slice a n cap) l) (k : Nat) (hk : k < l.length) : ∃ b off, a = some ⟨b, off, none⟩ ∧ w.rangeAt b (off + k * 15) (l[k]).cells.toList := by
  obtain ⟨a', cap', e, h1, h2, _, h3⟩ := h
  injection e with e1 e2 e3
  subst e1
  have hl := flatE_length l
  obtain ⟨b, off, rfl, _⟩ := h3 (k * 15) (by omega)
  refine ⟨b, off, rfl, fun j v hv => ?_⟩
  have hj : j < 15 := (List.getElem?_eq_some_iff.1 hv).1
  obtain ⟨b', off', e', h4⟩ := h3 (k * 15 + j) (by omega)
  injection e' with e'; injection e' with e5 e6
  subst e5; subst e6
  rw [Nat.add_assoc, h4]
  have h5 := flatE_at l k j hj
  rw [List.getElem?_eq_getElem hk] at h5
  rw [List.getD, h5]
  show some ((l[k].cells.toList[j]?).getD undef) = some v
  rw [hv]; rfl
theorem RdE.cut {w : World} {a : Option Addr} {cap : Nat} {l : List EvtM} (h : RdE w (.slice a l.length cap) l) (k : Nat) (hk : k ≤ l.length) : RdE w (.slice a k cap) (l.take k) := by
  have hc : l.length ≤ cap := by obtain ⟨_, _, e, h5, _⟩ := h; injection e with _ _ e3; omega
  have := Rd.cut (m := k) h (by omega) (k * 15)
  unfold RdE
  have e : flatE (l.take k) = (flatE l).take (k * 15) := by
    have h1 : flatE l = flatE (l.take k) ++ flatE (l.drop k) := by rw [← flatE_append, List.take_append_drop]
    rw [h1, List.take_left' (by rw [flatE_length, List.length_take]; omega)]
  rw [e, List.length_take, Nat.min_eq_left hk]; exact this
theorem EvtM.oneE (e0 : EvtM) : ∀ v ∈ e0.cells.toList, v.oneCell' = true := by
  intro v hv
  rw [e0.cellsE] at hv
  simp only [List.mem_cons, List.not_mem_nil, or_false] at hv
  rcases hv with rfl | rfl | rfl | rfl | rfl | rfl | rfl | rfl | rfl | rfl | rfl | rfl | rfl | rfl | rfl <;> rfl
/-- A list of events that a call owns. -/
def OwnE (w : World) (base : Nat) (v : Value) (l : List EvtM) : Prop := w.ownsRow base 47 15 v l.length (flatE l)
theorem OwnE.nil (w : World) (base : Nat) : OwnE w base (.slice none 0 0) [] := ⟨rfl, .inl ⟨rfl, rfl⟩⟩
theorem OwnE.rd {w : World} {base : Nat} {v : Value} {l : List EvtM} (h : OwnE w base v l) : RdE w v l := rd_of_own h
theorem OwnE.below {w w' : World} {base : Nat} {v : Value} {l : List EvtM} (h : OwnE w base v l) (hb : Below w.heap.size w w') : OwnE w' base v l := own_below h hb
end Go.Proofs.Ythnabnieajojjaa
/-
  Lists of sessions and states that are lent and kept; that are the same.
-/
namespace Go.Proofs.Ythnabnieajojjaa
open Go.RowKit
set_option maxRecDepth 100000

theorem LentS.slice {w : World} {base : Nat} {v : Value} {l : List SesM} (h : LentS w base v l) : ∃ a cap, v = .slice a l.length cap ∧ l.length ≤ cap := by
  obtain ⟨a, cap, h1, h2⟩ := h
  obtain ⟨a', cap', e, h3⟩ := h2.slice
  injection e with e1 e2 e3
  exact ⟨a, cap, h1, by rw [full_len] at h3; omega⟩
theorem LentS.lt {w : World} {base : Nat} {v : Value} {l : List SesM} (h : LentS w base v l) : ∀ k, v.ownBlock = some k → base ≤ k ∧ k < w.heap.size := by
  obtain ⟨a, cap, rfl, h2⟩ := h
  exact fun k hk => h2.lt k (by cases a <;> exact hk)
theorem LentS.base {w : World} {base base' : Nat} {v : Value} {l : List SesM} (h : LentS w base v l) (hb : base' ≤ base) : LentS w base' v l := by
  obtain ⟨a, cap, rfl, h2⟩ := h; exact ⟨a, cap, rfl, h2.base hb⟩
set_option maxHeartbeats 1600000 in
theorem keptS_calls (v v' : Value) (base : Nat) (l : List SesM) (w : World) (hv : LentS w base v l) (hv' : RdS w v' l) (hn : l.length ≤ 1256584717457) :
    Calls Try.prog 27 #[v, v'] w fun e w' => e = .returned (.bool true) ∧ Below w.heap.size w w' := by
  obtain ⟨a, cap, rfl, h2⟩ := hv
  obtain ⟨a2, cap2, rfl, hd1, hd2⟩ := hv'.slice
  have hrd := h2.rd
  have hc : l.length + 16 ≤ cap := by
    obtain ⟨_, _, e, hc⟩ := h2.slice
    injection e with _ e2 e3
    rw [full_len] at hc
    omega
  have HK := Lib.hid (keptFullS_calls (.slice a (l.length + 16) cap) (.slice a2 l.length cap2) l w hrd hv' hn)
  obtain ⟨n, hN⟩ : ∃ n, n = l.length := ⟨_, rfl⟩
  rw [← hN] at HK hc hn hd1 ⊢
  have z1 : (n : Int) + 16 = ((n + 16 : Nat) : Int) := by omega
  have hhd : ∀ w, (Instr.slice 22 (.slice a n cap) none (some (.int .i64 ((n : Int) + 16))) none).run Try.prog w = .ok (.slice a (n + 16) cap) w := fun w => by rw [z1]; exact headS a n cap (n + 16) (by omega) w
  have n1 : (n : Int) + 16 ≤ 9223372036854775807 := by omega
  obtain ⟨N, hNN⟩ : ∃ N, N = n + 16 := ⟨_, rfl⟩
  rw [← hNN] at HK hhd
  clear hNN h2 hv' hrd hN hc hd1 hd2 hn z1
  go_enter Try.func27, Try.ntmps27
  go_wp2_with fail
  refine HK.out.mono ?_
  rintro e w1 ⟨rfl, hb⟩
  have HB := Lib.hid hb
  clear hb HK
  go_wp2_with fail
  go_ret
  exact ⟨rfl, HB.out⟩
set_option maxHeartbeats 1600000 in
theorem lentState_calls (c b : Int) (v : Value) (l : List SesM) (w : World) (hv : RdS w v l) (hn : l.length + 16 ≤ 1256584717457) :
    Calls Try.prog 7 #[.agg #[.int .i64 c, .int .i64 b, v]] w fun e w' => ∃ o, e = .returned (.agg #[.int .i64 c, .int .i64 b, o]) ∧ LentS w' w.heap.size o l ∧ Below w.heap.size w w' := by
  have HV := Lib.hid hv
  have HB0 := Lib.hid (fun o o2 o3 => ((below_alloc w o).trans ((below_alloc (w.alloc o) o2).mono (below_alloc w o).size)).trans ((below_alloc ((w.alloc o).alloc o2) o3).mono (Nat.le_trans (below_alloc w o).size (below_alloc _ o2).size)))
  obtain ⟨a, cap, rfl, _, _⟩ := hv.slice
  clear hv
  go_enter Try.func7, Try.ntmps7
  go_wp2_with fail
  refine (lentS_calls _ l _ (HV.out.below (HB0.out _ _ _)) hn).mono ?_
  rintro ev w1 ⟨o, rfl, hown, hb⟩
  have HO := Lib.hid hown
  have HB := Lib.hid ((HB0.out _ _ _).trans (hb.mono (HB0.out (.cells #[.int .i64 c, .int .i64 b, .slice a l.length cap] 24) (.cells #[.int .i64 0, .int .i64 0, .slice none 0 0] 24) (.cells #[.int .i64 c, .int .i64 b, .slice a l.length cap] 24)).size))
  have hx2 : Box w1 (w.heap.size + 1) #[.int .i64 0, .int .i64 0, .slice none 0 0] 24 := by
    have h := (Box.new (w.alloc (.cells #[.int .i64 c, .int .i64 b, .slice a l.length cap] 24)) #[.int .i64 0, .int .i64 0, .slice none 0 0] 24).below (below_alloc _ (.cells #[.int .i64 c, .int .i64 b, .slice a l.length cap] 24))
    rw [World.size_alloc] at h
    exact h.below hb
  have hx3 : Box w1 (w.heap.size + 1 + 1) #[.int .i64 c, .int .i64 b, .slice a l.length cap] 24 := by
    have h := Box.new ((w.alloc (.cells #[.int .i64 c, .int .i64 b, .slice a l.length cap] 24)).alloc (.cells #[.int .i64 0, .int .i64 0, .slice none 0 0] 24)) #[.int .i64 c, .int .i64 b, .slice a l.length cap] 24
    rw [World.size_alloc, World.size_alloc] at h
    exact h.below hb
  have HX2 := Lib.hid hx2
  have HX3 := Lib.hid hx3
  have c0 : w1.cell? ⟨w.heap.size + 1 + 1, 0, none⟩ = some (.int .i64 c) := hx3.cell 0 _ rfl
  have c1 : w1.cell? ⟨w.heap.size + 1 + 1, 1, none⟩ = some (.int .i64 b) := hx3.cell 1 _ rfl
  have c2 : w1.cell? ⟨w.heap.size + 1 + 1, 2, none⟩ = some (.slice a l.length cap) := hx3.cell 2 _ rfl
  have f2 := hx3.free 2
  have d0 : w1.cell? ⟨w.heap.size + 1, 0, none⟩ = some (.int .i64 0) := hx2.cell 0 _ rfl
  have d1 : w1.cell? ⟨w.heap.size + 1, 1, none⟩ = some (.int .i64 0) := hx2.cell 1 _ rfl
  have d2 : w1.cell? ⟨w.heap.size + 1, 2, none⟩ = some (.slice none 0 0) := hx2.cell 2 _ rfl
  have g0 := hx2.free 0
  have g1 := hx2.free 1
  have g2 := hx2.free 2
  have HLO := Lib.hid (fun q hq => (hown.lt q hq).1)
  clear hown hb hx2 hx3 HB0 HV
  obtain ⟨oa, oc, rfl, _⟩ := HO.out.slice
  go_wp2_with fail
  have hm : ∀ (W : World), Mod (fun q => q = w.heap.size + 1 ∨ q = w.heap.size + 1 + 1) w1 W → LentS W w.heap.size (.slice oa l.length oc) l ∧ Below w.heap.size w W := fun W hm => by
    refine ⟨(HO.out.base (by simp; omega)).mod hm (fun q hq e => ?_), HB.out.trans (hm.below HB.out.size (fun i hi => by omega))⟩
    have := HLO.out q hq
    simp at this
    omega
  have hset : ∀ (W : World) (q o : Nat) (v : Value), Mod (fun q => q = w.heap.size + 1 ∨ q = w.heap.size + 1 + 1) w1 W → (q = w.heap.size + 1 ∨ q = w.heap.size + 1 + 1) → Mod (fun q => q = w.heap.size + 1 ∨ q = w.heap.size + 1 + 1) w1 (W.setCell ⟨q, o, none⟩ v) := fun W q o v h hq => h.trans (Mod.set _ _ _ _ hq)
  refine ret_cell rfl rfl (w.heap.size + 1) 0 rfl [.int .i64 c, .int .i64 b, .slice oa l.length oc] _ ?_ Try.underlying24 rfl (by kernel_rfl) ⟨_, rfl, hm _ (by
    refine hset _ _ _ _ (hset _ _ _ _ (hset _ _ _ _ (hset _ _ _ _ (Mod.refl _ _) ?_) ?_) ?_) ?_ <;> simp)⟩
  have hb4 : Box ((((w1.setCell ⟨w.heap.size + 1 + 1, 2, none⟩ (.slice oa l.length oc)).setCell ⟨w.heap.size + 1, 0, none⟩ (.int .i64 c)).setCell ⟨w.heap.size + 1, 1, none⟩ (.int .i64 b)).setCell ⟨w.heap.size + 1, 2, none⟩ (.slice oa l.length oc)) (w.heap.size + 1) #[.int .i64 c, .int .i64 b, .slice oa l.length oc] 24 := by
    have h := (((HX2.out.set_other (p := ⟨w.heap.size + 1 + 1, 2, none⟩) (by simp) (.slice oa l.length oc)).set 0 (.int .i64 c)).set 1 (.int .i64 b)).set 2 (.slice oa l.length oc)
    exact h
  intro j v hv
  rw [Nat.zero_add]
  exact hb4.cell j v (by simpa using hv)
set_option maxHeartbeats 1600000 in
theorem keptState_calls (c b : Int) (v v' : Value) (base : Nat) (l : List SesM) (w : World) (hv : LentS w base v l) (hv' : RdS w v' l) (hn : l.length ≤ 1256584717457) :
    Calls Try.prog 13 #[.agg #[.int .i64 c, .int .i64 b, v], .agg #[.int .i64 c, .int .i64 b, v']] w fun e w' => e = .returned (.bool true) ∧ Below w.heap.size w w' := by
  have HB0 := Lib.hid (fun o o2 => below_two w o o2)
  have HK := Lib.hid (fun w' hb => keptS_calls v v' base l w' (hv.below hb) (hv'.below hb) hn)
  obtain ⟨a, cap, rfl, _⟩ := hv.slice
  obtain ⟨a2, cap2, rfl, _⟩ := hv'.slice
  have e1 : (c == c) = true := by rw [beq_iff_eq]
  have e2 : (b == b) = true := by rw [beq_iff_eq]
  clear hv hv' hn
  go_enter Try.func13, Try.ntmps13
  go_wp2_with fail
  refine (HK.out _ (HB0.out _ _)).mono ?_
  rintro e w1 ⟨rfl, hb⟩
  have HB := Lib.hid ((HB0.out _ _).trans (hb.mono (HB0.out (.cells #[.int .i64 c, .int .i64 b, .slice a l.length cap] 24) (.cells #[.int .i64 c, .int .i64 b, .slice a2 l.length cap2] 24)).size))
  clear hb HK HB0
  go_wp2_with fail
  go_ret
  exact ⟨rfl, HB.out⟩
end Go.Proofs.Ythnabnieajojjaa
/-
  Events that are lent, and kept.
-/
namespace Go.Proofs.Ythnabnieajojjaa
open Go.RowKit
set_option maxRecDepth 100000

theorem info_evt : (Try.prog.info? 47).map (fun i => (i.zero, i.size, i.bytes)) = some (some (.agg #[.int .i64 0, .int .i64 0, .int .i64 0, .int .i64 0, .int .i64 0, .int .i64 0, .string ⟨#[]⟩, .string ⟨#[]⟩, .int .u64 0, .int .i64 0, .int .i64 0, .int .i64 0, .int .i64 0, .int .i64 0, .int .i64 0]), 15, 136) := by kernel_rfl
theorem EvtM.listE (s : EvtM) : Hid (s.cells = s.cells.toList.toArray) := Lib.hid rfl
theorem OwnE.slice {w : World} {base : Nat} {v : Value} {l : List EvtM} (h : OwnE w base v l) : ∃ a cap, v = .slice a l.length cap ∧ l.length ≤ cap := by
  obtain ⟨a, cap, h1, h2, _⟩ := h.rd.slice; exact ⟨a, cap, h1, h2⟩
theorem OwnE.lt {w : World} {base : Nat} {v : Value} {l : List EvtM} (h : OwnE w base v l) : ∀ k, v.ownBlock = some k → base ≤ k ∧ k < w.heap.size := own_lt h
theorem OwnE.mod {w w' : World} {base : Nat} {v : Value} {l : List EvtM} {F : Nat → Prop} (h : OwnE w base v l) (hm : Mod F w w') (hb : ∀ k, v.ownBlock = some k → ¬ F k) : OwnE w' base v l := own_mod h hm hb
theorem OwnE.base {w : World} {base base' : Nat} {v : Value} {l : List EvtM} (h : OwnE w base v l) (hb : base' ≤ base) : OwnE w base' v l := own_base h hb
/-- A variable of a session's kind that is laid and filled. -/
theorem thereZE (w : World) (s : EvtM) : (w.alloc (.cells #[.int .i64 0, .int .i64 0, .int .i64 0, .int .i64 0, .int .i64 0, .int .i64 0, .string ⟨#[]⟩, .string ⟨#[]⟩, .int .u64 0, .int .i64 0, .int .i64 0, .int .i64 0, .int .i64 0, .int .i64 0, .int .i64 0] 47)).there w.heap.size 0 s.cells.toList.length := by
  intro j hj
  have hj : j < 15 := hj
  have hb := Box.new w #[.int .i64 0, .int .i64 0, .int .i64 0, .int .i64 0, .int .i64 0, .int .i64 0, .string ⟨#[]⟩, .string ⟨#[]⟩, .int .u64 0, .int .i64 0, .int .i64 0, .int .i64 0, .int .i64 0, .int .i64 0, .int .i64 0] 47
  obtain ⟨v, hv⟩ : ∃ v, (#[.int .i64 0, .int .i64 0, .int .i64 0, .int .i64 0, .int .i64 0, .int .i64 0, .string ⟨#[]⟩, .string ⟨#[]⟩, .int .u64 0, .int .i64 0, .int .i64 0, .int .i64 0, .int .i64 0, .int .i64 0, .int .i64 0] : Array Value)[j]? = some v := ⟨_, Array.getElem?_eq_getElem (show j < 15 from hj)⟩
  rw [Nat.zero_add]
  exact ⟨by rw [hb.cell _ v hv]; rfl, hb.free _⟩
theorem putZE {w w' : World} {s : EvtM} (h : Hid (w' = (w.alloc (.cells #[.int .i64 0, .int .i64 0, .int .i64 0, .int .i64 0, .int .i64 0, .int .i64 0, .string ⟨#[]⟩, .string ⟨#[]⟩, .int .u64 0, .int .i64 0, .int .i64 0, .int .i64 0, .int .i64 0, .int .i64 0, .int .i64 0] 47)).setCells w.heap.size 0 s.cells.toList)) : Box w' w.heap.size s.cells 47 ∧ Below w.heap.size w w' := by
  rw [h.out]
  have hb := Box.new w #[.int .i64 0, .int .i64 0, .int .i64 0, .int .i64 0, .int .i64 0, .int .i64 0, .string ⟨#[]⟩, .string ⟨#[]⟩, .int .u64 0, .int .i64 0, .int .i64 0, .int .i64 0, .int .i64 0, .int .i64 0, .int .i64 0] 47
  obtain ⟨cs', h1, h2, h3, _⟩ := Box.setCells s.cells.toList 0 hb (by show 0 + 15 ≤ 15; decide)
  have e1 : cs' = s.cells := by
    apply Array.ext_getElem?
    intro j
    by_cases hj : j < 15
    · have := h3 j _ (List.getElem?_eq_getElem (show j < s.cells.toList.length from hj))
      rw [Nat.zero_add] at this
      rw [this, ← Array.getElem?_toList, List.getElem?_eq_getElem (show j < s.cells.toList.length from hj)]
    · rw [Array.getElem?_eq_none (by rw [h2]; show 15 ≤ j; omega), Array.getElem?_eq_none (by show 15 ≤ j; omega)]
  rw [e1] at h1
  exact ⟨h1, put_below w _ _⟩
theorem buildE (s : EvtM) (w : World) : (Instr.buildSlice 25 1 #[(0, .agg s.cells)]).run Try.prog w = .ok (.slice (some ⟨w.heap.size, 0, none⟩) 1 1) (w.alloc (.cells s.cells 47)) := by kernel_rfl
/-- 'append(s, x)' of one session onto sessions that the call owns. -/
theorem appEvt {w : World} {ops : Array Oper} {rest : List Oper} {o : Oper} {a : Act} {Q : Exit → Act → World → Prop} (hgd : o.guard = none) (s x : Operand)
    (ho : o.op = .call { callee := .builtin .append, args := #[s, x], argTypes := #[25, 25] })
    (base : Nat) (v : Value) (l : List EvtM) (hs : a.eval s = v) (hown : OwnE w base v l)
    (ad : Addr) (c : Nat) (y : EvtM) (hx : a.eval x = .slice (some ad) 1 c) (hy : ∀ j u, y.cells.toList[j]? = some u → w.cell? (ad.add j) = some u)
    (hroom : l.length + 1 ≤ 1034834473200) (hbase : base ≤ w.heap.size)
    (h : ∀ v' w', OwnE w' base v' (l ++ [y]) → w.grownBy w' v.ownBlock → Moved w v v' → wpList Try.prog ops Q rest (a.put o.dst v') w') : wpList Try.prog ops Q (o :: rest) a w := by
  obtain ⟨i0, hi, hz0, hz1, hz2⟩ := info_parts info_evt
  refine wpList_append_own2 hgd s x 25 ho base 47 i0 _ 15 136 Try.underlying25 hi hz0 hz1 hz2 rfl (by decide) v l.length (flatE l) hs hown ad 1 c y.cells.toList hx rfl hy y.oneE (by unfold maxLen; omega) (by omega) hbase (fun v' w' h1 h2 h3 => h v' w' ?_ h2 h3)
  unfold OwnE
  rw [flatE_append, flatE_one, List.length_append]; exact h1
theorem newCellsE (w : World) (s : EvtM) (t : TypeId) : ∀ j u, s.cells.toList[j]? = some u → (w.alloc (.cells s.cells t)).cell? ((⟨w.heap.size, 0, none⟩ : Addr).add j) = some u := fun j u hj => World.news_of_block (heap_alloc_new w (.cells s.cells t)) j u hj
theorem headE (a : Option Addr) (n cap k : Nat) (hk : k ≤ cap) (w : World) : (Instr.slice 25 (.slice a n cap) none (some (.int .i64 (k : Int))) none).run Try.prog w = .ok (.slice a k cap) w :=
  run_head Try.underlying25 ⟨15, by kernel_rfl⟩ a n cap k hk w
theorem Box.setAllE {w : World} {b : Nat} {cs : Array Value} {t : TypeId} (h : Box w b cs t) (hs : cs.size = 15) (s : EvtM) : Box (w.setCells b 0 s.cells.toList) b s.cells t ∧ w.there b 0 s.cells.toList.length := by
  constructor
  · obtain ⟨cs', h1, h2, h3, _⟩ := Box.setCells s.cells.toList 0 h (by show 0 + 15 ≤ cs.size; omega)
    have e1 : cs' = s.cells := by
      apply Array.ext_getElem?
      intro j
      by_cases hj : j < 15
      · have := h3 j _ (List.getElem?_eq_getElem (show j < s.cells.toList.length from hj))
        rw [Nat.zero_add] at this
        rw [this, ← Array.getElem?_toList, List.getElem?_eq_getElem (show j < s.cells.toList.length from hj)]
      · rw [Array.getElem?_eq_none (by omega), Array.getElem?_eq_none (by show 15 ≤ j; omega)]
    rw [e1] at h1
    exact h1
  · intro j hj
    have hj : j < 15 := hj
    obtain ⟨v, hv⟩ : ∃ v, cs[j]? = some v := ⟨_, Array.getElem?_eq_getElem (by omega)⟩
    rw [Nat.zero_add]
    exact ⟨by rw [h.cell _ v hv]; rfl, h.free _⟩
/-- The mark of a place. -/
def markEv (k i : Int) : EvtM := ⟨-7 - k, noSes, 0, i⟩
theorem markEv_cells (k i : Int) : (markEv k i).cells = #[.int .i64 (-7 - k), .int .i64 0, .int .i64 0, .int .i64 0, .int .i64 0, .int .i64 0, .string ⟨#[]⟩, .string ⟨#[]⟩, .int .u64 0, .int .i64 0, .int .i64 0, .int .i64 0, .int .i64 0, .int .i64 0, .int .i64 i] := rfl
set_option maxHeartbeats 1600000 in
theorem markEv_calls (k i : Int) (w : World) (h0 : 0 ≤ k) (h1 : k ≤ 1000000000) :
    Calls Try.prog 40 #[.int .i64 k, .int .i64 i] w fun e w' => e = .returned (.agg (markEv k i).cells) ∧ Below w.heap.size w w' := by
  have hb0 := below_alloc w (.cells #[.int .i64 0, .int .i64 0, .int .i64 0, .int .i64 0, .int .i64 0, .int .i64 0, .string ⟨#[]⟩, .string ⟨#[]⟩, .int .u64 0, .int .i64 0, .int .i64 0, .int .i64 0, .int .i64 0, .int .i64 0, .int .i64 0] 47)
  have hz : IntKind.i64.wrap (-7 - k) = -7 - k := by simp [IntKind.wrap, IntKind.bits, IntKind.signed]; omega
  have HMC := Lib.hid (markEv_cells k i)
  obtain ⟨hset, hth⟩ := (Box.new w #[.int .i64 0, .int .i64 0, .int .i64 0, .int .i64 0, .int .i64 0, .int .i64 0, .string ⟨#[]⟩, .string ⟨#[]⟩, .int .u64 0, .int .i64 0, .int .i64 0, .int .i64 0, .int .i64 0, .int .i64 0, .int .i64 0] 47).setAllE rfl (markEv k i)
  have HTH := Lib.hid hth
  have HSE := Lib.hid hset
  have HB := Lib.hid hb0
  clear hset hth hb0
  go_enter Try.func40, Try.ntmps40
  go_wp2_with ((with_reducible refine wpList_store_k ?a0 47 (.tmp 4) (.tmp 8) ?a1 w.heap.size 0 (markEv k i).cells.toList ?a2 (markEv k i).cells ?a3 (EvtM.listE _) HTH.out ?a6 ?a7 ?a8); (case a1 => rfl); (case a0 => rfl); (case a2 => rfl); (case a3 => rfl); (case a6 => kernel_rfl); (case a7 => exact EvtM.oneE _))
  intro w2 hw2
  rw [← hw2.out] at HSE
  have HB2 := Lib.hid (show Below w.heap.size w w2 by
    rw [hw2.out]
    generalize (markEv k i).cells.toList = L
    exact HB.out.trans ((Mod.setCells (fun q => q = w.heap.size) w.heap.size rfl L 0 _).below HB.out.size (fun i hi => Nat.le_of_eq hi.symm)))
  clear hw2 HTH HB
  go_wp2_with fail
  exact ret_cell rfl rfl w.heap.size 0 rfl (markEv k i).cells.toList _ (Box.rangeV HSE.out) Try.underlying47 rfl (by kernel_rfl) ⟨rfl, HB2.out⟩
def mksE (n : Nat) : List EvtM := (List.range n).map (fun i : Nat => markEv 90 (i : Int))
theorem mksE_length (n : Nat) : (mksE n).length = n := by simp [mksE]
theorem mksE_succ (n : Nat) : mksE (n + 1) = mksE n ++ [markEv 90 n] := by simp [mksE, List.range_succ]
theorem mksE_get (n j : Nat) (h : j < (mksE n).length) : (mksE n)[j] = markEv 90 j := by simp [mksE]
set_option maxHeartbeats 3200000 in
theorem fullE_calls (v : Value) (l : List EvtM) (w : World) (hv : RdE w v l) (hn : l.length + 16 ≤ 1034834473199) :
    Calls Try.prog 21 #[v] w fun e w' => ∃ o, e = .returned o ∧ OwnE w' w.heap.size o (l ++ mksE 16) ∧ Below w.heap.size w w' := by
  obtain ⟨a, cap, rfl, hc1, hc2⟩ := hv.slice
  have HV := Lib.hid hv
  have hln : l.length ≤ 9223372036854775807 := by omega
  obtain ⟨n, hN⟩ : ∃ n, n = l.length := ⟨_, rfl⟩
  rw [← hN] at hln hn HV hc1 ⊢
  have HN := Lib.hid hN
  have HNN := Lib.hid hn
  clear hv hc1 hN hn
  go_enter Try.func21, Try.ntmps21
  go_wp2_with fail
  go_loopg [3, 4] n (fun gk o iv wr => ∃ k : Nat, gk + k = n ∧ iv = .int .i64 (k : Int) ∧ OwnE wr w.heap.size o (l.take k) ∧ Below w.heap.size w wr)
  case atStart => exact ⟨0, rfl, rfl, OwnE.nil _ _, Below.refl _ _⟩
  case round =>
    obtain ⟨k, hgk, rfl, hown, hb⟩ := hrel
    have k0 : (0 : Int) ≤ (k : Int) := by omega
    have HGK := Lib.hid hgk
    have HO := Lib.hid hown
    have HB := Lib.hid hb
    clear hgk
    by_cases hk : k < n
    · have k1 : (k : Int) < (n : Int) := by omega
      have hkl : k < l.length := by have := HN.out; omega
      obtain ⟨s, hs⟩ : ∃ s, s = l[k] := ⟨_, rfl⟩
      have hV := (HV.out.below hb)
      obtain ⟨rb, ro, hra, hrow⟩ := hV.row k hkl
      subst hra
      rw [← hs] at hrow
      have HT := Lib.hid (show l.take (k + 1) = l.take k ++ [s] by rw [List.take_succ_eq_append_getElem hkl, hs])
      have HROW := Lib.hid hrow
      have HK := Lib.hid hk
      have HLK := Lib.hid (show (l.take k).length + 1 ≤ 1034834473200 by rw [List.length_take]; have := HNN.out; omega)
      clear hkl hs hrow hV hb hown hk
      go_wp2_with ((with_reducible refine wpList_load_k ?b01 47 (.tmp 15) ?b11 rb (ro + k * 15) ?b21 s.cells.toList _ HROW.out Try.underlying47 ?b31 ?b41 ?b81); (case b11 => rfl); (case b01 => rfl); (case b21 => rfl); (case b31 => rfl); (case b41 => kernel_rfl))
      intro cv hcv
      have ecv : cv = s.cells := by rw [hcv.out]
      subst ecv
      clear hcv
      go_wp2_with (refine wpList_buildSlice_s (op := ⟨some 17, _, _, _, _, _⟩) (by rfl) 25 1 #[(0, .tmp 16)] rfl #[(0, .agg s.cells)] (by kernel_rfl) _ _ (buildE s wr) ?_)
      intro w2 hw2
      have hb2 : Below wr.heap.size wr w2 := by rw [hw2.out]; exact below_alloc _ _
      have HC2 := Lib.hid (show ∀ j u, s.cells.toList[j]? = some u → w2.cell? ((⟨wr.heap.size, 0, none⟩ : Addr).add j) = some u by rw [hw2.out]; exact newCellsE wr s _)
      have HO2 := Lib.hid (HO.out.below hb2)
      have HB2 := Lib.hid (HB.out.trans (hb2.mono HB.out.size))
      clear hw2 hb2 HO HROW
      go_wp2_with (at_builtin; refine appEvt rfl _ _ rfl w.heap.size _ (l.take k) rfl HO2.out ⟨wr.heap.size, 0, none⟩ 1 s rfl HC2.out HLK.out (by have := HB2.out.size; omega) ?_)
      intro v' w3 hown' hg' _
      have HB3 := Lib.hid (HB2.out.trans (below_grown hg' HB2.out.size (fun q hq => (HO2.out.lt q hq).1)))
      have HO3 := Lib.hid hown'
      clear hg' hown' HO2 HB2 HC2
      go_wp2_with fail
      go_roundg (n - (k + 1))
      case measure => have := HGK.out; have := HK.out; omega
      case rel => exact ⟨k + 1, by have := HGK.out; have := HK.out; omega, by go_num, by rw [HT.out]; exact HO3.out, HB3.out⟩
    have k1 : ¬ (k : Int) < (n : Int) := by omega
    rw [List.take_of_length_le (by have := HN.out; omega)] at HO
    clear hk hown hb
    go_wp2_with fail
    go_loopg [3, 5] 16 (fun gk o iv wr => ∃ j : Nat, gk + j = 16 ∧ iv = .int .i64 (j : Int) ∧ OwnE wr w.heap.size o (l ++ mksE j) ∧ Below w.heap.size w wr)
    case atStart => exact ⟨0, rfl, rfl, by rw [show mksE 0 = [] from rfl, List.append_nil]; exact HO.out, HB.out⟩
    case round =>
      clear HO HB
      obtain ⟨j, hgj, rfl, hown, hb⟩ := hrel
      have j0 : (0 : Int) ≤ (j : Int) := by omega
      have HGJ := Lib.hid hgj
      have HO := Lib.hid hown
      have HB := Lib.hid hb
      clear hgj hown hb
      by_cases hj : j < 16
      · have j1 : (j : Int) < 16 := by omega
        have HJ := Lib.hid hj
        have HLK := Lib.hid (show (l ++ mksE j).length + 1 ≤ 1034834473200 by rw [List.length_append, mksE_length]; have := HNN.out; have := HN.out; omega)
        have HT := Lib.hid (show l ++ mksE (j + 1) = (l ++ mksE j) ++ [markEv 90 j] by rw [mksE_succ, List.append_assoc])
        clear hj
        go_wp2_with fail
        refine (markEv_calls 90 (j : Int) _ (by omega) (by omega)).mono ?_
        rintro e w1 ⟨rfl, hb1⟩
        have HO1 := Lib.hid (HO.out.below hb1)
        have HB1 := Lib.hid (HB.out.trans (hb1.mono HB.out.size))
        clear hb1 HO HB
        generalize markEv 90 (j : Int) = s at HT ⊢
        go_wp2_with (refine wpList_buildSlice_s (op := ⟨some 26, _, _, _, _, _⟩) (by rfl) 25 1 #[(0, .tmp 25)] rfl #[(0, .agg s.cells)] (by kernel_rfl) _ _ (buildE s w1) ?_)
        intro w2 hw2
        have hb2 : Below w1.heap.size w1 w2 := by rw [hw2.out]; exact below_alloc _ _
        have HC2 := Lib.hid (show ∀ j u, s.cells.toList[j]? = some u → w2.cell? ((⟨w1.heap.size, 0, none⟩ : Addr).add j) = some u by rw [hw2.out]; exact newCellsE w1 s _)
        have HO2 := Lib.hid (HO1.out.below hb2)
        have HB2 := Lib.hid (HB1.out.trans (hb2.mono HB1.out.size))
        clear hw2 hb2 HO1 HB1
        go_wp2_with (at_builtin; refine appEvt rfl _ _ rfl w.heap.size _ (l ++ mksE j) rfl HO2.out ⟨w1.heap.size, 0, none⟩ 1 s rfl HC2.out HLK.out (by have := HB2.out.size; omega) ?_)
        intro v' w3 hown' hg' _
        have HB3 := Lib.hid (HB2.out.trans (below_grown hg' HB2.out.size (fun q hq => (HO2.out.lt q hq).1)))
        have HO3 := Lib.hid hown'
        clear hg' hown' HO2 HB2 HC2
        go_wp2_with fail
        go_roundg (16 - (j + 1))
        case measure => have := HGJ.out; have := HJ.out; omega
        case rel => exact ⟨j + 1, by have := HGJ.out; have := HJ.out; omega, by go_num, by rw [HT.out]; first | exact HO3.out | (rw [List.append_assoc]; exact HO3.out), HB3.out⟩
      have j1 : ¬ (j : Int) < 16 := by omega
      obtain rfl : j = 16 := by have := HGJ.out; omega
      clear hj
      go_wp2_with fail
      go_ret
      exact ⟨_, rfl, HO.out, HB.out⟩
/-- A list of sessions that is lent: in its spare room stand marks. -/
def LentE (w : World) (base : Nat) (v : Value) (l : List EvtM) : Prop := ∃ a cap, v = .slice a l.length cap ∧ OwnE w base (.slice a (l.length + 16) cap) (l ++ mksE 16)
theorem LentE.below {w w' : World} {base : Nat} {v : Value} {l : List EvtM} (h : LentE w base v l) (hb : Below w.heap.size w w') : LentE w' base v l := by
  obtain ⟨a, cap, h1, h2⟩ := h; exact ⟨a, cap, h1, h2.below hb⟩
theorem full_lenE (l : List EvtM) : (l ++ mksE 16).length = l.length + 16 := by rw [List.length_append, mksE_length]
theorem LentE.rd {w : World} {base : Nat} {v : Value} {l : List EvtM} (h : LentE w base v l) : RdE w v l := by
  obtain ⟨a, cap, rfl, h2⟩ := h
  have h3 := h2.rd
  rw [← full_lenE] at h3
  have := h3.cut l.length (by rw [full_lenE]; omega)
  rw [List.take_left] at this
  exact this
theorem LentE.mod {w w' : World} {base : Nat} {v : Value} {l : List EvtM} {F : Nat → Prop} (h : LentE w base v l) (hm : Mod F w w') (hb : ∀ k, v.ownBlock = some k → ¬ F k) : LentE w' base v l := by
  obtain ⟨a, cap, rfl, h2⟩ := h; exact ⟨a, cap, rfl, h2.mod hm (fun k hk => hb k (by cases a <;> exact hk))⟩
theorem lentE_calls (v : Value) (l : List EvtM) (w : World) (hv : RdE w v l) (hn : l.length + 16 ≤ 1034834473199) :
    Calls Try.prog 8 #[v] w fun e w' => ∃ o, e = .returned o ∧ LentE w' w.heap.size o l ∧ Below w.heap.size w w' := by
  have HF := Lib.hid (fullE_calls v l w hv hn)
  obtain ⟨a, cap, rfl, hc1, hc2⟩ := hv.slice
  have hln : l.length ≤ 9223372036854775807 := by omega
  clear hv hc1 hn
  go_enter Try.func8, Try.ntmps8
  go_wp2_with fail
  refine HF.out.mono ?_
  rintro e w1 ⟨o, rfl, ho, hb⟩
  have HB := Lib.hid hb
  obtain ⟨oa, oc, rfl, hoc⟩ := ho.slice
  rw [full_lenE] at ho hoc ⊢
  have hhd := fun w => headE oa (l.length + 16) oc l.length (by omega) w
  have HO := Lib.hid (show LentE w1 w.heap.size (.slice oa l.length oc) l from ⟨oa, oc, rfl, ho⟩)
  clear ho hb hoc HF
  go_wp2_with fail
  go_ret
  exact ⟨_, rfl, HO.out, HB.out⟩
set_option maxHeartbeats 3200000 in
theorem keptFullE_calls (v v' : Value) (l : List EvtM) (w : World) (hv : RdE w v (l ++ mksE 16)) (hv' : RdE w v' l) (hn : l.length ≤ 1034834473199) :
    Calls Try.prog 28 #[v, v'] w fun e w' => e = .returned (.bool true) ∧ Below w.heap.size w w' := by
  obtain ⟨a, cap, rfl, hc1, hc2⟩ := hv.slice
  obtain ⟨a2, cap2, rfl, hd1, hd2⟩ := hv'.slice
  have HV := Lib.hid hv
  have HV2 := Lib.hid hv'
  rw [full_lenE] at HV hc1 ⊢
  obtain ⟨n, hN⟩ : ∃ n, n = l.length := ⟨_, rfl⟩
  rw [← hN] at HV HV2 hc1 hd1 hn ⊢
  have hn2 : n + 16 ≤ 9223372036854775807 := by omega
  have HN := Lib.hid hN
  have hsum : ((n + 16 : Nat) : Int) = (n : Int) + 16 := by omega
  clear hv hv' hc1 hd1 hc2 hd2 hN hn
  rw [show ((n + 16 : Nat)) = n + 16 from rfl]
  obtain ⟨N, hNN⟩ : ∃ N, N = n + 16 := ⟨_, rfl⟩
  rw [← hNN] at HV hsum hn2 ⊢
  have HNN := Lib.hid hNN
  have n0 : (0 : Int) ≤ (n : Int) := by omega
  have n1 : (n : Int) + 16 ≤ 9223372036854775807 := by omega
  have hne : ((N : Int) != (n : Int) + 16) = false := by rw [bne, hsum]; simp
  clear hNN hsum
  go_enter Try.func28, Try.ntmps28
  go_wp2_with fail
  clear hne
  go_loopg [5] N (fun gk iv wr => ∃ k : Nat, gk + k = N ∧ iv = .int .i64 (k : Int) ∧ Below w.heap.size w wr)
  case atStart => exact ⟨0, rfl, rfl, Below.refl _ _⟩
  case round =>
    obtain ⟨k, hgk, rfl, hb⟩ := hrel
    have k0 : (0 : Int) ≤ (k : Int) := by omega
    have HGK := Lib.hid hgk
    have HB := Lib.hid hb
    clear hgk hb
    by_cases hk : k < N
    rotate_left
    · have k1 : ¬ (k : Int) < (N : Int) := by omega
      clear hk
      go_wp2_with fail
      go_ret
      exact ⟨rfl, HB.out⟩
    have k1 : (k : Int) < (N : Int) := by omega
    have HK := Lib.hid hk
    have hkl : k < (l ++ mksE 16).length := by rw [full_lenE]; have := HNN.out; have := HN.out; omega
    obtain ⟨s, hs⟩ : ∃ s, s = (l ++ mksE 16)[k] := ⟨_, rfl⟩
    obtain ⟨rb, ro, hra, hrow⟩ := (HV.out.below HB.out).row k hkl
    subst hra
    rw [← hs] at hrow
    have HROW := Lib.hid hrow
    have HSM := Lib.hid (show ¬ k < n → s = markEv 90 ((k : Int) - (n : Int)) from fun h => by
      have e := HN.out
      rw [hs, List.getElem_append_right (by omega), mksE_get]
      congr 1
      omega)
    have HSL := Lib.hid (show ∀ h : k < n, ∃ hl : k < l.length, s = l[k] from fun h => by
      have e := HN.out
      refine ⟨by omega, ?_⟩
      rw [hs, List.getElem_append_left (by omega)])
    have hz : IntKind.i64.wrap ((k : Int) - (n : Int)) = (k : Int) - (n : Int) := by simp [IntKind.wrap, IntKind.bits, IntKind.signed]; omega
    clear hk hkl hs hrow
    go_wp2_with fail
    refine (markEv_calls 90 ((k : Int) - (n : Int)) _ (by omega) (by omega)).mono ?_
    rintro e w1 ⟨rfl, hb1⟩
    obtain ⟨mk, hmk⟩ : ∃ mk, mk = markEv 90 ((k : Int) - (n : Int)) := ⟨_, rfl⟩
    rw [← hmk] at HSM ⊢
    have HB1 := Lib.hid (HB.out.trans (hb1.mono HB.out.size))
    have HROW1 := Lib.hid (show w1.rangeAt rb (ro + k * 15) s.cells.toList from fun j v hv => below_heap hb1 (HROW.out j v hv))
    clear hb1 hmk HB HROW hz
    go_wp2_with ((with_reducible refine wpList_store_k ?a0 47 (.tmp 6) (.tmp 23) ?a1 w1.heap.size 0 mk.cells.toList ?a2 mk.cells ?a3 (EvtM.listE _) ?a5 ?a6 ?a7 ?a8); (case a1 => rfl); (case a0 => rfl); (case a2 => rfl); (case a3 => rfl); (case a5 => exact thereZE _ _); (case a6 => kernel_rfl); (case a7 => exact EvtM.oneE _))
    intro w2 hw2
    obtain ⟨hpx, hb2⟩ := putZE hw2
    have HPX := Lib.hid hpx
    have HB2 := Lib.hid (HB1.out.trans (hb2.mono HB1.out.size))
    have HROW2 := Lib.hid (show w2.rangeAt rb (ro + k * 15) s.cells.toList from fun j v hv => below_heap hb2 (HROW1.out j v hv))
    have HNE := Lib.hid (show rb < w1.heap.size from World.block_lt_of_cell? w1 _ (HROW1.out 0 _ rfl))
    have HLE := Lib.hid (show w.heap.size ≤ w1.heap.size from HB1.out.size)
    clear hw2 hpx hb2 HB1 HROW1
    generalize w1.heap.size = pb at HPX HNE HLE ⊢
    by_cases hkn : k < n
    · have kn : (k : Int) < (n : Int) := by omega
      obtain ⟨hl, hsl⟩ := HSL.out hkn
      obtain ⟨sb, so, hsa, hsrow⟩ := (HV2.out.below HB2.out).row k hl
      subst hsa
      rw [← hsl] at hsrow
      have HSR := Lib.hid hsrow
      obtain ⟨hset, hth⟩ := HPX.out.setAllE rfl s
      have HSE := Lib.hid hset
      have HTH := Lib.hid hth
      clear hkn hsl hsrow hset hth HSM HSL hl
      go_wp2_with ((with_reducible refine wpList_load_k ?b02 47 (.tmp 30) ?b12 sb (so + k * 15) ?b22 s.cells.toList _ HSR.out Try.underlying47 ?b32 ?b42 ?b82); (case b12 => rfl); (case b02 => rfl); (case b22 => rfl); (case b32 => rfl); (case b42 => kernel_rfl))
      intro cv hcv
      go_wp2_with ((with_reducible refine wpList_store_k ?d0 47 (.tmp 6) (.tmp 31) ?d1 pb 0 s.cells.toList ?d2 cv ?d3 hcv HTH.out ?d6 ?d7 ?d8); (case d1 => rfl); (case d0 => rfl); (case d2 => rfl); (case d3 => rfl); (case d6 => kernel_rfl); (case d7 => exact EvtM.oneE _))
      intro w3 hw3
      have HX3 := Lib.hid (show Box w3 pb s.cells 47 by rw [hw3.out]; exact HSE.out)
      have hm : Mod (fun q => q = pb) w2 w3 := by
        rw [hw3.out]
        generalize s.cells.toList = L
        exact Mod.setCells (fun q => q = pb) pb rfl L 0 w2
      have HB3 := Lib.hid (HB2.out.trans (hm.below HB2.out.size (fun i hi => by have := HLE.out; omega)))
      have HROW3 := Lib.hid (show ∀ wq, (∃ n, wq = w3.drewN n) → wq.rangeAt rb (ro + k * 15) s.cells.toList from fun wq hq j v hv => by
        obtain ⟨q, rfl⟩ := hq
        have h1 := HROW2.out j v hv
        show w3.cell? _ = _
        rw [World.cell?_of_block (w := w2) (hm.block rb (World.block_lt_of_cell? w2 _ (HROW2.out 0 _ rfl)) (by have := HNE.out; omega))]
        exact h1)
      have HRX3 := Lib.hid (show ∀ wq, (∃ n, wq = w3.drewN n) → wq.rangeAt pb 0 s.cells.toList from fun wq hq => by
        obtain ⟨q, rfl⟩ := hq
        exact Box.rangeV (show Box (w3.drewN q) pb s.cells 47 from HX3.out))
      clear hcv hw3 hm HTH HSE HPX HB2 HROW2 HSR HX3
      go_wp2_with fail
      refine wp_region_quiet_lit (by kernel_rfl) (by kernel_rfl) ?_
      repeat (go_big_quiet_step (fail))
      refine wpQuiet_load_k rfl 47 (.tmp 34) rfl rb (ro + k * 15) rfl s.cells.toList _ HROW3.out Try.underlying47 rfl (by kernel_rfl) ?_
      intro c1 hc1
      have ec1 : c1 = s.cells := by rw [hc1.out]
      subst ec1
      simp only [Act.put, List.setIfInBounds_toArray, List.set_cons_zero, List.set_cons_succ]
      refine wpQuiet_load_k rfl 47 (.tmp 6) rfl pb 0 rfl s.cells.toList _ HRX3.out Try.underlying47 rfl (by kernel_rfl) ?_
      intro c2 hc2
      have ec2 : c2 = s.cells := by rw [hc2.out]
      subst ec2
      simp only [Act.put, List.setIfInBounds_toArray, List.set_cons_zero, List.set_cons_succ]
      have hneq : ∀ w, (binOp .neq 47 (.agg s.cells) (.agg s.cells)).run Try.prog w = .ok (.bool false) w := fun w => by rw [run_neqE, sameE_iff.2 rfl]; rfl
      repeat (go_big_quiet_step (fail))
      refine wpQuiet_nil ?_
      intro wq hwq
      obtain ⟨nq, rfl⟩ := hwq
      have HB4 := Lib.hid (HB3.out.trans ((below_drewN _ nq).mono HB3.out.size))
      clear hneq hc1 hc2 HROW3 HRX3
      go_wp2_with fail
      go_roundg (N - (k + 1))
      case measure => have := HGK.out; have := HK.out; omega
      case rel => exact ⟨k + 1, by have := HGK.out; have := HK.out; omega, by go_num, HB4.out⟩
    have kn : ¬ (k : Int) < (n : Int) := by omega
    obtain rfl := HSM.out hkn
    have HB3 := HB2
    have HROW3 := Lib.hid (show ∀ wq, (∃ n, wq = w2.drewN n) → wq.rangeAt rb (ro + k * 15) s.cells.toList from fun wq hq => by
      obtain ⟨q, rfl⟩ := hq
      exact HROW2.out)
    have HRX3 := Lib.hid (show ∀ wq, (∃ n, wq = w2.drewN n) → wq.rangeAt pb 0 s.cells.toList from fun wq hq => by
      obtain ⟨q, rfl⟩ := hq
      exact Box.rangeV (show Box (w2.drewN q) pb s.cells 47 from HPX.out))
    clear hkn HPX HB2 HROW2 HSM HSL
    go_wp2_with fail
    refine wp_region_quiet_lit (by kernel_rfl) (by kernel_rfl) ?_
    repeat (go_big_quiet_step (fail))
    refine wpQuiet_load_k rfl 47 (.tmp 34) rfl rb (ro + k * 15) rfl s.cells.toList _ HROW3.out Try.underlying47 rfl (by kernel_rfl) ?_
    intro c1 hc1
    have ec1 : c1 = s.cells := by rw [hc1.out]
    subst ec1
    simp only [Act.put, List.setIfInBounds_toArray, List.set_cons_zero, List.set_cons_succ]
    refine wpQuiet_load_k rfl 47 (.tmp 6) rfl pb 0 rfl s.cells.toList _ HRX3.out Try.underlying47 rfl (by kernel_rfl) ?_
    intro c2 hc2
    have ec2 : c2 = s.cells := by rw [hc2.out]
    subst ec2
    simp only [Act.put, List.setIfInBounds_toArray, List.set_cons_zero, List.set_cons_succ]
    have hneq : ∀ w, (binOp .neq 47 (.agg s.cells) (.agg s.cells)).run Try.prog w = .ok (.bool false) w := fun w => by rw [run_neqE, sameE_iff.2 rfl]; rfl
    repeat (go_big_quiet_step (fail))
    refine wpQuiet_nil ?_
    intro wq hwq
    obtain ⟨nq, rfl⟩ := hwq
    have HB4 := Lib.hid (HB3.out.trans ((below_drewN _ nq).mono HB3.out.size))
    clear hneq hc1 hc2 HROW3 HRX3
    go_wp2_with fail
    go_roundg (N - (k + 1))
    case measure => have := HGK.out; have := HK.out; omega
    case rel => exact ⟨k + 1, by have := HGK.out; have := HK.out; omega, by go_num, HB4.out⟩
theorem LentE.slice {w : World} {base : Nat} {v : Value} {l : List EvtM} (h : LentE w base v l) : ∃ a cap, v = .slice a l.length cap ∧ l.length ≤ cap := by
  obtain ⟨a, cap, h1, h2⟩ := h
  obtain ⟨a', cap', e, h3⟩ := h2.slice
  injection e with e1 e2 e3
  exact ⟨a, cap, h1, by rw [full_lenE] at h3; omega⟩
theorem LentE.lt {w : World} {base : Nat} {v : Value} {l : List EvtM} (h : LentE w base v l) : ∀ k, v.ownBlock = some k → base ≤ k ∧ k < w.heap.size := by
  obtain ⟨a, cap, rfl, h2⟩ := h
  exact fun k hk => h2.lt k (by cases a <;> exact hk)
theorem LentE.base {w : World} {base base' : Nat} {v : Value} {l : List EvtM} (h : LentE w base v l) (hb : base' ≤ base) : LentE w base' v l := by
  obtain ⟨a, cap, rfl, h2⟩ := h; exact ⟨a, cap, rfl, h2.base hb⟩
set_option maxHeartbeats 1600000 in
theorem keptE_calls (v v' : Value) (base : Nat) (l : List EvtM) (w : World) (hv : LentE w base v l) (hv' : RdE w v' l) (hn : l.length ≤ 1034834473199) :
    Calls Try.prog 14 #[v, v'] w fun e w' => e = .returned (.bool true) ∧ Below w.heap.size w w' := by
  obtain ⟨a, cap, rfl, h2⟩ := hv
  obtain ⟨a2, cap2, rfl, hd1, hd2⟩ := hv'.slice
  have hrd := h2.rd
  have hc : l.length + 16 ≤ cap := by
    obtain ⟨_, _, e, hc⟩ := h2.slice
    injection e with _ e2 e3
    rw [full_lenE] at hc
    omega
  have HK := Lib.hid (keptFullE_calls (.slice a (l.length + 16) cap) (.slice a2 l.length cap2) l w hrd hv' hn)
  obtain ⟨n, hN⟩ : ∃ n, n = l.length := ⟨_, rfl⟩
  rw [← hN] at HK hc hn hd1 ⊢
  have z1 : (n : Int) + 16 = ((n + 16 : Nat) : Int) := by omega
  have hhd : ∀ w, (Instr.slice 25 (.slice a n cap) none (some (.int .i64 ((n : Int) + 16))) none).run Try.prog w = .ok (.slice a (n + 16) cap) w := fun w => by rw [z1]; exact headE a n cap (n + 16) (by omega) w
  have n1 : (n : Int) + 16 ≤ 9223372036854775807 := by omega
  obtain ⟨N, hNN⟩ : ∃ N, N = n + 16 := ⟨_, rfl⟩
  rw [← hNN] at HK hhd
  clear hNN h2 hv' hrd hN hc hd1 hd2 hn z1
  go_enter Try.func14, Try.ntmps14
  go_wp2_with fail
  refine HK.out.mono ?_
  rintro e w1 ⟨rfl, hb⟩
  have HB := Lib.hid hb
  clear hb HK
  go_wp2_with fail
  go_ret
  exact ⟨rfl, HB.out⟩
end Go.Proofs.Ythnabnieajojjaa
/-
  Arguments of the statements about events.
-/
namespace Go.Proofs.Ythnabnieajojjaa
open Go.RowKit

/-- The bounds of an event that is handed in. -/
structure EvOk (e : EvtM) : Prop where
  user : e.s.user.length ≤ 140737488351232
  label : e.s.label.length ≤ 140737488351232
  scopes : e.s.scopes < 2 ^ 64
  kind : I64 e.kind
  birth : I64 e.birth
  ticks : I64 e.ticks
  sSlot : I64 e.s.slot
  sBirth : I64 e.s.birth
  sUpS : I64 e.s.upS
  sUpB : I64 e.s.upB
  sKind : I64 e.s.kind
  sLevel : I64 e.s.level
  sBorn : I64 e.s.born
  sDeadline : I64 e.s.deadline
  sDepth : I64 e.s.depth
theorem u64_of_wf {n : Int} (h : (Lit.int .u64 n).wf = true) : ∃ k : Nat, n = (k : Int) ∧ k < 2 ^ 64 := by
  have h1 : 0 ≤ n ∧ n ≤ 18446744073709551615 := by simpa [Lit.wf, IntKind.min, IntKind.max, IntKind.bits, IntKind.signed] using h
  exact ⟨n.toNat, by omega, by omega⟩
set_option maxRecDepth 100000 in
theorem ArgC.event {N : Nat} {W : World} {cs : List Value} (hl : cs.length = 15) (h : ArgC false N 47 W cs) : ∃ e : EvtM, cs = e.cells.toList ∧ EvOk e := by
  match cs, hl with
  | [c0, c1, c2, c3, c4, c5, c6, c7, c8, c9, c10, c11, c12, c13, c14], _ =>
    have ci : Try.prog.cellsOf 3 = 1 := by kernel_rfl
    have cs' : Try.prog.cellsOf 9 = 1 := by kernel_rfl
    have cu : Try.prog.cellsOf 43 = 1 := by kernel_rfl
    have cl : Try.prog.cellsOf 41 = 2 := by kernel_rfl
    have cx : Try.prog.cellsOf 45 = 12 := by kernel_rfl
    have hs := Try.underlying47
    obtain ⟨n0, rfl, b0⟩ := h.fint hs 0 _ rfl ci c0 rfl .i64 Try.underlying3
    obtain ⟨M, _, g⟩ := h.fstruct hs 1 _ rfl 45 1 12 rfl rfl cx
    have g' : ArgC false M 45 W [c1, c2, c3, c4, c5, c6, c7, c8, c9, c10, c11, c12] := g
    have hx := Try.underlying45
    obtain ⟨n1, rfl, b1⟩ := g'.fint hx 0 _ rfl ci c1 rfl .i64 Try.underlying3
    obtain ⟨n2, rfl, b2⟩ := g'.fint hx 1 _ rfl ci c2 rfl .i64 Try.underlying3
    obtain ⟨M2, _, k⟩ := g'.fstruct hx 2 _ rfl 41 2 2 rfl rfl cl
    have k' : ArgC false M2 41 W [c3, c4] := k
    have hk := Try.underlying41
    obtain ⟨n3, rfl, b3⟩ := k'.fint hk 0 _ rfl ci c3 rfl .i64 Try.underlying3
    obtain ⟨n4, rfl, b4⟩ := k'.fint hk 1 _ rfl ci c4 rfl .i64 Try.underlying3
    obtain ⟨n5, rfl, b5⟩ := g'.fint hx 3 _ rfl ci c5 rfl .i64 Try.underlying3
    obtain ⟨s6, rfl, _, _, b6⟩ := g'.fstring hx 4 _ rfl cs' c6 rfl Try.underlying9
    obtain ⟨s7, rfl, _, _, b7⟩ := g'.fstring hx 5 _ rfl cs' c7 rfl Try.underlying9
    obtain ⟨n8, rfl, b8⟩ := g'.fint hx 6 _ rfl cu c8 rfl .u64 Try.underlying43
    obtain ⟨n9, rfl, b9⟩ := g'.fint hx 7 _ rfl ci c9 rfl .i64 Try.underlying3
    obtain ⟨n10, rfl, b10⟩ := g'.fint hx 8 _ rfl ci c10 rfl .i64 Try.underlying3
    obtain ⟨n11, rfl, b11⟩ := g'.fint hx 9 _ rfl ci c11 rfl .i64 Try.underlying3
    obtain ⟨n12, rfl, b12⟩ := g'.fint hx 10 _ rfl ci c12 rfl .i64 Try.underlying3
    obtain ⟨n13, rfl, b13⟩ := h.fint hs 2 _ rfl ci c13 rfl .i64 Try.underlying3
    obtain ⟨n14, rfl, b14⟩ := h.fint hs 3 _ rfl ci c14 rfl .i64 Try.underlying3
    obtain ⟨u, rfl, hu⟩ := SB_of s6
    obtain ⟨l, rfl, hl⟩ := SB_of s7
    obtain ⟨sc, rfl, hsc⟩ := u64_of_wf b8
    exact ⟨⟨n0, ⟨n1, n2, n3, n4, n5, u, l, sc, n9, n10, n11, n12⟩, n13, n14⟩, rfl, by rw [hu]; exact b6 rfl, by rw [hl]; exact b7 rfl, hsc, i64_of_wf b0, i64_of_wf b13, i64_of_wf b14, i64_of_wf b1, i64_of_wf b2, i64_of_wf b3, i64_of_wf b4, i64_of_wf b5, i64_of_wf b9, i64_of_wf b10, i64_of_wf b11, i64_of_wf b12⟩
set_option maxRecDepth 100000 in
theorem Arg.event {W : World} {v : Value} (h : Arg false 47 W v) : ∃ e : EvtM, v = .agg e.cells ∧ EvOk e := by
  obtain ⟨cs, rfl, h1⟩ := h.struct Try.underlying47
  have hl : cs.toList.length = 15 := by
    have := (h1.struct Try.underlying47).1
    rw [show Try.prog.cellsOf 47 = 15 by kernel_rfl] at this; exact this
  obtain ⟨e, he, hok⟩ := h1.event hl
  exact ⟨e, by rw [show cs = e.cells from Array.ext' he], hok⟩
end Go.Proofs.Ythnabnieajojjaa
/-
  Bounds of what an event makes of a state.
-/
namespace Go.Proofs.Ythnabnieajojjaa
open Go.RowKit
set_option maxRecDepth 100000

theorem upM_er (s : SesM) (l : List SesM) : 0 ≤ upM s l ∧ upM s l ≤ 24 := by
  unfold upM
  split
  · decide
  · split
    · decide
    · split
      · split <;> decide
      · decide
theorem refM_er (st : StM) (s : SesM) : 0 ≤ refM st s ∧ refM st s ≤ 24 := by
  have := upM_er s st.l
  unfold refM
  repeat' split
  all_goals first | decide | exact this
theorem applyM_er (st : StM) (e : EvtM) : 0 ≤ (applyM st e).1 ∧ (applyM st e).1 ≤ 24 := by
  have := refM_er st e.s
  unfold applyM
  repeat' split
  all_goals first | exact this | exact ⟨by decide, by decide⟩ | (show (0 : Int) ≤ 0 ∧ (0 : Int) ≤ 24; decide) | (simp; done)
theorem withoutM_len (f : SesM → Bool) (l : List SesM) : (withoutM f l).length ≤ l.length := List.length_filter_le _ _
theorem applyM_len (st : StM) (e : EvtM) : (applyM st e).2.l.length ≤ st.l.length + 1 := by
  have h1 := withoutM_len (fun s => s.birth == e.birth) st.l
  have h2 := withoutM_len (fun s => decide (s.deadline ≤ st.clock + e.ticks)) st.l
  unfold applyM
  repeat' split
  all_goals simp [noSt] <;> omega
end Go.Proofs.Ythnabnieajojjaa
/-
  replay.All: events are applied up to the first that is refused.
-/
namespace Go.Proofs.Ythnabnieajojjaa
open Go.RowKit
set_option maxRecDepth 100000

theorem allM_one (S : StM) (e : EvtM) (r : List EvtM) (h0 : (applyM S e).1 = 0) : allM S (e :: r) = ((allM (applyM S e).2 r).1, (allM (applyM S e).2 r).2 + 1) := by rw [allM, if_pos h0]
theorem allM_no (S : StM) (e : EvtM) (r : List EvtM) (h0 : (applyM S e).1 ≠ 0) : allM S (e :: r) = (S, 0) := by rw [allM, if_neg h0]
theorem allM_take {st S : StM} {l : List EvtM} {k : Nat} (hk : k < l.length) (h : allM st (l.take k) = (S, k)) (h0 : (applyM S l[k]).1 = 0) : allM st (l.take (k + 1)) = ((applyM S l[k]).2, k + 1) := by
  have h1 : (l.take k).length = k := by rw [List.length_take]; omega
  rw [List.take_succ_eq_append_getElem hk, allM_app _ _ _ (by rw [h, h1]), h, h1]
  simp only
  rw [allM_one _ _ _ h0]; rfl
theorem allM_stop {st S : StM} {l : List EvtM} {k : Nat} (hk : k < l.length) (h : allM st (l.take k) = (S, k)) (h0 : (applyM S l[k]).1 ≠ 0) : allM st l = (S, k) := by
  have h1 : (l.take k).length = k := by rw [List.length_take]; omega
  have e : l = l.take k ++ l[k] :: l.drop (k + 1) := by rw [List.getElem_cons_drop, List.take_append_drop]
  rw [e, allM_app _ _ _ (by rw [h, h1]), h, h1]
  simp only
  rw [allM_no _ _ _ h0]; rfl
theorem allM_end {st S : StM} {l : List EvtM} (h : allM st (l.take l.length) = (S, l.length)) : allM st l = (S, l.length) := by rwa [List.take_length] at h
/-- What stands while events are applied. -/
structure AllI (w w' : World) (st : StM) (l : List EvtM) (k : Nat) (C B : Int) (sv : Value) (L : List SesM) : Prop where
  bx : Box w' w.heap.size #[.int .i64 C, .int .i64 B, sv] 24
  bz : Box w' (w.heap.size + 1) #[.int .i64 0, .int .i64 0, .slice none 0 0] 24
  ow : OwnS w' (w.heap.size + 2) sv L
  al : allM st (l.take k) = (⟨C, B, L⟩, k)
  ln : L.length ≤ st.l.length + k
  bel : Below w.heap.size w w'
theorem AllI.below {w w' w2 : World} {st : StM} {l : List EvtM} {k : Nat} {C B : Int} {sv : Value} {L : List SesM} (h : AllI w w' st l k C B sv L) (hb : Below w'.heap.size w' w2) : AllI w w2 st l k C B sv L :=
  ⟨h.bx.below hb, h.bz.below hb, h.ow.below hb, h.al, h.ln, h.bel.trans (hb.mono h.bel.size)⟩
theorem AllI.put {w w' : World} {st : StM} {l : List EvtM} {k : Nat} {C B : Int} {sv : Value} {L : List SesM} (h : AllI w w' st l k C B sv L) (k2 : Nat) (C2 B2 : Int) (o : Value) (L2 : List SesM) (ho : OwnS w' (w.heap.size + 2) o L2) (hal : allM st (l.take k2) = (⟨C2, B2, L2⟩, k2)) (hln : L2.length ≤ st.l.length + k2) :
    AllI w (((w'.setCell ⟨w.heap.size, 0, none⟩ (.int .i64 C2)).setCell ⟨w.heap.size, 1, none⟩ (.int .i64 B2)).setCell ⟨w.heap.size, 2, none⟩ o) st l k2 C2 B2 o L2 := by
  have hm := Mod.set3 w.heap.size w' (.int .i64 C2) (.int .i64 B2) o
  exact ⟨((h.bx.set 0 (.int .i64 C2)).set 1 (.int .i64 B2)).set 2 o, h.bz.mod hm (by omega), ho.mod hm (fun k hk e => by have := (ho.lt k hk).1; omega), hal, hln, h.bel.trans (hm.below h.bel.size (fun i hi => by omega))⟩
/-- The result's variable is filled. -/
theorem AllI.fill {w w' : World} {st : StM} {l : List EvtM} {k : Nat} {C B : Int} {sv : Value} {L : List SesM} (h : AllI w w' st l k C B sv L) :
    Box (((w'.setCell ⟨w.heap.size + 1, 0, none⟩ (.int .i64 C)).setCell ⟨w.heap.size + 1, 1, none⟩ (.int .i64 B)).setCell ⟨w.heap.size + 1, 2, none⟩ sv) (w.heap.size + 1) #[.int .i64 C, .int .i64 B, sv] 24 ∧ OwnS (((w'.setCell ⟨w.heap.size + 1, 0, none⟩ (.int .i64 C)).setCell ⟨w.heap.size + 1, 1, none⟩ (.int .i64 B)).setCell ⟨w.heap.size + 1, 2, none⟩ sv) w.heap.size sv L ∧ Below w.heap.size w (((w'.setCell ⟨w.heap.size + 1, 0, none⟩ (.int .i64 C)).setCell ⟨w.heap.size + 1, 1, none⟩ (.int .i64 B)).setCell ⟨w.heap.size + 1, 2, none⟩ sv) := by
  have hm := Mod.set3 (w.heap.size + 1) w' (.int .i64 C) (.int .i64 B) sv
  exact ⟨((h.bz.set 0 (.int .i64 C)).set 1 (.int .i64 B)).set 2 sv, (h.ow.mod hm (fun k hk e => by have := (h.ow.lt k hk).1; omega)).base (by omega), h.bel.trans (hm.below h.bel.size (fun i hi => by omega))⟩
set_option maxHeartbeats 6400000 in
theorem allP_calls (st : StM) (l : List EvtM) (v ev : Value) (w : World) (hv : RdS w v st.l) (hev : RdE w ev l) (hn : st.l.length + l.length ≤ 1000000000) (hok : ∀ e ∈ l, EvOk e) :
    Calls Try.prog 9 #[.agg #[.int .i64 st.clock, .int .i64 st.births, v], ev] w fun e w' => ∃ o, e = .returned (.tuple #[.agg #[.int .i64 (allM st l).1.clock, .int .i64 (allM st l).1.births, o], .int .i64 ((allM st l).2 : Int)]) ∧ OwnS w' w.heap.size o (allM st l).1.l ∧ Below w.heap.size w w' := by
  have HAP := Lib.hid (fun (S : StM) (e : EvtM) (he : e ∈ l) v' w' h hn' => apply_calls S e v' w' h hn' (Nat.le_trans (hok e he).user (by decide)) (Nat.le_trans (hok e he).label (by decide)) (hok e he).scopes)
  have HEV := Lib.hid hev
  have HNN := Lib.hid hn
  have HST0 := Lib.hid (show allM st (l.take 0) = (st, 0) from rfl)
  obtain ⟨D, hD⟩ : ∃ D, D = allM st l := ⟨_, rfl⟩
  have HD := Lib.hid hD
  rw [← hD]
  obtain ⟨ea, ec, rfl, _, he2⟩ := hev.slice
  obtain ⟨va, vc, rfl, hv1, hv2⟩ := hv.slice
  have HCL := Lib.hid (fun w' hb => cloneS_calls (.slice va st.l.length vc) st.l w' (hv.below hb) (by omega))
  have hln : l.length ≤ 9223372036854775807 := by omega
  clear hev hv hD hok he2 hv2 hv1 hn
  obtain ⟨n, hN⟩ : ∃ n, n = l.length := ⟨_, rfl⟩
  rw [← hN] at hln HEV ⊢
  have HN := Lib.hid hN
  clear hN
  obtain ⟨vn, hVN⟩ : ∃ vn, vn = st.l.length := ⟨_, rfl⟩
  rw [← hVN] at HCL ⊢
  clear hVN
  obtain ⟨c, hc⟩ : ∃ c, c = st.clock := ⟨_, rfl⟩
  obtain ⟨b, hb⟩ : ∃ b, b = st.births := ⟨_, rfl⟩
  rw [← hc, ← hb]
  have HCB := Lib.hid (And.intro hc hb)
  clear hc hb
  have HB0 := Lib.hid (below_two w (.cells #[.int .i64 c, .int .i64 b, .slice va vn vc] 24) (.cells #[.int .i64 0, .int .i64 0, .slice none 0 0] 24))
  have HX0 := Lib.hid ((Box.new w #[.int .i64 c, .int .i64 b, .slice va vn vc] 24).below (below_alloc _ (.cells #[.int .i64 0, .int .i64 0, .slice none 0 0] 24)))
  have HZ0 := Lib.hid (show Box ((w.alloc (.cells #[.int .i64 c, .int .i64 b, .slice va vn vc] 24)).alloc (.cells #[.int .i64 0, .int .i64 0, .slice none 0 0] 24)) (w.heap.size + 1) #[.int .i64 0, .int .i64 0, .slice none 0 0] 24 by have h := Box.new (w.alloc (.cells #[.int .i64 c, .int .i64 b, .slice va vn vc] 24)) #[.int .i64 0, .int .i64 0, .slice none 0 0] 24; rw [World.size_alloc] at h; exact h)
  go_enter Try.func9, Try.ntmps9
  go_wp2_with fail
  refine (HCL.out _ HB0.out).mono ?_
  rintro e1 w1 ⟨o, rfl, ho, hb1⟩
  obtain ⟨sa, sc, rfl, _⟩ := ho.slice
  obtain ⟨sn, hSN⟩ : ∃ sn, sn = st.l.length := ⟨_, rfl⟩
  rw [← hSN] at ho ⊢
  clear hSN
  have hx1 := HX0.out.below hb1
  have hz1 := HZ0.out.below hb1
  have hs := HB0.out.size
  have f2 := hx1.free 2
  have c2 : w1.cell? ⟨w.heap.size, 2, none⟩ = some (.slice va vn vc) := hx1.cell 2 _ rfl
  have hm := Mod.set (fun i => i = w.heap.size) w1 ⟨w.heap.size, 2, none⟩ (.slice sa sn sc) rfl
  have ho2 := ho.base (base' := w.heap.size + 2) (by simp)
  have HI1 := Lib.hid (show AllI w (w1.setCell ⟨w.heap.size, 2, none⟩ (.slice sa sn sc)) st l 0 c b (.slice sa sn sc) st.l from
    ⟨hx1.set 2 (.slice sa sn sc), hz1.mod hm (by omega), ho2.mod hm (fun k hk e => by have := (ho2.lt k hk).1; omega), by rw [HST0.out, HCB.out.1, HCB.out.2], by omega, (HB0.out.trans (hb1.mono hs)).trans (hm.below (HB0.out.trans (hb1.mono hs)).size (fun i hi => by omega))⟩)
  clear ho ho2 hb1 hx1 hz1 hs hm HX0 HZ0 HB0 HCL
  go_wp2_with fail
  go_loopg [16] n (fun gk iv wr => ∃ (k : Nat) (C B : Int) (sv : Value) (L : List SesM), gk + k = n ∧ iv = .int .i64 (k : Int) ∧ AllI w wr st l k C B sv L)
  case atStart => exact ⟨0, _, _, _, _, Nat.add_zero _, rfl, HI1.out⟩
  case round =>
    clear c2 f2 HI1 HST0 HCB
    obtain ⟨k, C, B, sv, L, hgk, rfl, hI⟩ := hrel
    have k0 : (0 : Int) ≤ (k : Int) := by omega
    have HGK := Lib.hid hgk
    have HI := Lib.hid hI
    obtain ⟨sa, sc, rfl, _⟩ := hI.ow.slice
    obtain ⟨sn, hSN⟩ : ∃ sn, sn = L.length := ⟨_, rfl⟩
    rw [← hSN] at HI
    clear hgk hI hSN
    by_cases hk : k < n
    rotate_left
    · have k1 : ¬ (k : Int) < (n : Int) := by omega
      obtain rfl : k = n := by have := HGK.out; omega
      have HD4 := Lib.hid (show D = (⟨C, B, L⟩, k) by
        have h := HI.out.al
        rw [HN.out] at h ⊢
        rw [HD.out]; exact allM_end h)
      have c0 : (wr).cell? ⟨w.heap.size, 0, none⟩ = some (.int .i64 C) := HI.out.bx.cell 0 _ rfl
      have c1 : (wr).cell? ⟨w.heap.size, 1, none⟩ = some (.int .i64 B) := HI.out.bx.cell 1 _ rfl
      have c2 : (wr).cell? ⟨w.heap.size, 2, none⟩ = some (.slice sa sn sc) := HI.out.bx.cell 2 _ rfl
      have z0 : (wr).cell? ⟨w.heap.size + 1, 0, none⟩ = some (.int .i64 0) := HI.out.bz.cell 0 _ rfl
      have y0 := HI.out.bz.free 0
      have z1 : (wr).cell? ⟨w.heap.size + 1, 1, none⟩ = some (.int .i64 0) := HI.out.bz.cell 1 _ rfl
      have y1 := HI.out.bz.free 1
      have z2 : (wr).cell? ⟨w.heap.size + 1, 2, none⟩ = some (.slice none 0 0) := HI.out.bz.cell 2 _ rfl
      have y2 := HI.out.bz.free 2
      have HF := Lib.hid HI.out.fill
      clear hk HI
      go_wp2_with fail
      exact ret_cell_tmp rfl rfl (w.heap.size + 1) 0 rfl [.int .i64 C, .int .i64 B, .slice sa sn sc] _ (zrangeS HF.out.1) Try.underlying24 rfl (by kernel_rfl) _ rfl ⟨_, by rw [HD4.out]; rfl, by rw [HD4.out]; exact HF.out.2.1, HF.out.2.2⟩
    have k1 : (k : Int) < (n : Int) := by omega
    have hkl : k < l.length := by have := HN.out; omega
    obtain ⟨e, he⟩ : ∃ e, e = l[k] := ⟨_, rfl⟩
    obtain ⟨rb, ro, hra, hrow⟩ := (HEV.out.below HI.out.bel).row k hkl
    subst hra
    rw [← he] at hrow
    have HROW := Lib.hid hrow
    have HK := Lib.hid hk
    have HMEM := Lib.hid (show e ∈ l by rw [he]; exact List.getElem_mem hkl)
    have HLE := Lib.hid (show L.length ≤ 1000000000 by have h := HI.out.ln; have := HNN.out; omega)
    have HTA := Lib.hid (fun h0 => @allM_take st ⟨C, B, L⟩ l k hkl HI.out.al h0)
    have HTO := Lib.hid (fun h0 => @allM_stop st ⟨C, B, L⟩ l k hkl HI.out.al h0)
    have HLN := Lib.hid (Nat.le_trans (applyM_len ⟨C, B, L⟩ e) (Nat.add_le_add_right HI.out.ln 1))
    rw [← he] at HTA HTO
    clear hk hkl he hrow
    go_wp2_with ((with_reducible refine wpList_load_k ?b01 47 (.tmp 19) ?b11 rb (ro + k * 15) ?b21 e.cells.toList _ HROW.out Try.underlying47 ?b31 ?b41 ?b81); (case b11 => rfl); (case b01 => rfl); (case b21 => rfl); (case b31 => rfl); (case b41 => kernel_rfl))
    intro cv hcv
    go_wp2_with ((with_reducible refine wpList_store_k ?a0 47 (.tmp 7) (.tmp 20) ?a1 wr.heap.size 0 e.cells.toList ?a2 cv ?a3 hcv ?a5 ?a6 ?a7 ?a8); (case a1 => rfl); (case a0 => rfl); (case a2 => rfl); (case a3 => rfl); (case a5 => exact thereZE _ _); (case a6 => kernel_rfl); (case a7 => exact EvtM.oneE _))
    intro w2 hw2
    obtain ⟨hpx, hb2⟩ := putZE hw2
    have HPX := Lib.hid hpx.rangeV
    have HI2 := Lib.hid (HI.out.below hb2)
    clear hw2 hcv hpx hb2 HROW HI
    have c0 : (w2).cell? ⟨w.heap.size, 0, none⟩ = some (.int .i64 C) := HI2.out.bx.cell 0 _ rfl
    have f0 := HI2.out.bx.free 0
    have c1 : (w2).cell? ⟨w.heap.size, 1, none⟩ = some (.int .i64 B) := HI2.out.bx.cell 1 _ rfl
    have f1 := HI2.out.bx.free 1
    have c2 : (w2).cell? ⟨w.heap.size, 2, none⟩ = some (.slice sa sn sc) := HI2.out.bx.cell 2 _ rfl
    have f2 := HI2.out.bx.free 2
    go_wp2_with ((with_reducible refine wpList_load_k ?b02 47 (.tmp 7) ?b12 wr.heap.size 0 ?b22 e.cells.toList _ HPX.out Try.underlying47 ?b32 ?b42 ?b82); (case b12 => rfl); (case b02 => rfl); (case b22 => rfl); (case b32 => rfl); (case b42 => kernel_rfl))
    intro cv hcv
    have ecv : cv = e.cells := by rw [hcv.out]
    subst ecv
    clear hcv HPX
    go_wp2_with fail
    refine (HAP.out ⟨C, B, L⟩ e HMEM.out _ w2 HI2.out.ow.rd HLE.out).mono ?_
    rintro e3 w3 ⟨o, rfl, ho, hb3⟩
    obtain ⟨A, hA⟩ : ∃ A, A = applyM ⟨C, B, L⟩ e := ⟨_, rfl⟩
    rw [← hA] at ho HTA HTO HLN ⊢
    clear hA c0 c1 c2 f0 f1 f2
    obtain ⟨er, C2, B2, L2⟩ := A
    simp only at ho HTA HTO HLN ⊢
    have hs2 : w.heap.size + 2 ≤ w2.heap.size := by have := HI2.out.bz.lt; omega
    have HI3 := Lib.hid (HI2.out.below hb3)
    obtain ⟨oa, oc, rfl, _⟩ := ho.slice
    obtain ⟨m, hM⟩ : ∃ m, m = L2.length := ⟨_, rfl⟩
    rw [← hM] at ho ⊢
    clear hM
    have hba := below_alloc w3 (.cells #[.int .i64 C2, .int .i64 B2, .slice oa m oc] 24)
    have HI4 := Lib.hid (HI3.out.below hba)
    have HO4 := Lib.hid ((ho.base hs2).below hba)
    have HX4 := Lib.hid (Box.new w3 #[.int .i64 C2, .int .i64 B2, .slice oa m oc] 24)
    clear ho hb3 hba hs2 HI3 HI2
    by_cases h0 : er = 0
    · subst h0
      rw [show errV 0 = .nilIface from rfl]
      have HN2 := Lib.hid (HI4.out.put (k + 1) C2 B2 (.slice oa m oc) L2 HO4.out (HTA.out rfl) HLN.out)
      have c0 : (w3.alloc (.cells #[.int .i64 C2, .int .i64 B2, .slice oa m oc] 24)).cell? ⟨w.heap.size, 0, none⟩ = some (.int .i64 C) := HI4.out.bx.cell 0 _ rfl
      have f0 := HI4.out.bx.free 0
      have c1 : (w3.alloc (.cells #[.int .i64 C2, .int .i64 B2, .slice oa m oc] 24)).cell? ⟨w.heap.size, 1, none⟩ = some (.int .i64 B) := HI4.out.bx.cell 1 _ rfl
      have f1 := HI4.out.bx.free 1
      have c2 : (w3.alloc (.cells #[.int .i64 C2, .int .i64 B2, .slice oa m oc] 24)).cell? ⟨w.heap.size, 2, none⟩ = some (.slice sa sn sc) := HI4.out.bx.cell 2 _ rfl
      have f2 := HI4.out.bx.free 2
      have d0 : (w3.alloc (.cells #[.int .i64 C2, .int .i64 B2, .slice oa m oc] 24)).cell? ⟨w3.heap.size, 0, none⟩ = some (.int .i64 C2) := HX4.out.cell 0 _ rfl
      have d1 : (w3.alloc (.cells #[.int .i64 C2, .int .i64 B2, .slice oa m oc] 24)).cell? ⟨w3.heap.size, 1, none⟩ = some (.int .i64 B2) := HX4.out.cell 1 _ rfl
      have d2 : (w3.alloc (.cells #[.int .i64 C2, .int .i64 B2, .slice oa m oc] 24)).cell? ⟨w3.heap.size, 2, none⟩ = some (.slice oa m oc) := HX4.out.cell 2 _ rfl
      clear HI4 HO4 HX4 HTA HTO HLN
      go_wp2_with fail
      go_roundg (n - (k + 1))
      case measure => have := HGK.out; have := HK.out; omega
      case rel => exact ⟨k + 1, _, _, _, _, by have := HGK.out; have := HK.out; omega, by go_num, HN2.out⟩
    rw [errV_nz h0]
    have HD4 := Lib.hid (show D = (⟨C, B, L⟩, k) by rw [HD.out]; exact HTO.out h0)
    have c0 : (w3.alloc (.cells #[.int .i64 C2, .int .i64 B2, .slice oa m oc] 24)).cell? ⟨w.heap.size, 0, none⟩ = some (.int .i64 C) := HI4.out.bx.cell 0 _ rfl
    have c1 : (w3.alloc (.cells #[.int .i64 C2, .int .i64 B2, .slice oa m oc] 24)).cell? ⟨w.heap.size, 1, none⟩ = some (.int .i64 B) := HI4.out.bx.cell 1 _ rfl
    have c2 : (w3.alloc (.cells #[.int .i64 C2, .int .i64 B2, .slice oa m oc] 24)).cell? ⟨w.heap.size, 2, none⟩ = some (.slice sa sn sc) := HI4.out.bx.cell 2 _ rfl
    have z0 : (w3.alloc (.cells #[.int .i64 C2, .int .i64 B2, .slice oa m oc] 24)).cell? ⟨w.heap.size + 1, 0, none⟩ = some (.int .i64 0) := HI4.out.bz.cell 0 _ rfl
    have y0 := HI4.out.bz.free 0
    have z1 : (w3.alloc (.cells #[.int .i64 C2, .int .i64 B2, .slice oa m oc] 24)).cell? ⟨w.heap.size + 1, 1, none⟩ = some (.int .i64 0) := HI4.out.bz.cell 1 _ rfl
    have y1 := HI4.out.bz.free 1
    have z2 : (w3.alloc (.cells #[.int .i64 C2, .int .i64 B2, .slice oa m oc] 24)).cell? ⟨w.heap.size + 1, 2, none⟩ = some (.slice none 0 0) := HI4.out.bz.cell 2 _ rfl
    have y2 := HI4.out.bz.free 2
    have HF := Lib.hid HI4.out.fill
    clear h0 HI4 HO4 HX4 HTA HTO HLN
    go_wp2_with fail
    exact ret_cell_tmp rfl rfl (w.heap.size + 1) 0 rfl [.int .i64 C, .int .i64 B, .slice sa sn sc] _ (zrangeS HF.out.1) Try.underlying24 rfl (by kernel_rfl) _ rfl ⟨_, by rw [HD4.out]; rfl, by rw [HD4.out]; exact HF.out.2.1, HF.out.2.2⟩
end Go.Proofs.Ythnabnieajojjaa
/-
  What the laws of replay ask first: a login, and some ticks that end it.
-/
namespace Go.Proofs.Ythnabnieajojjaa
open Go.RowKit
set_option maxRecDepth 100000

/-- The birth of a login. -/
def loginE (birth slot clock til : Int) : EvtM := ⟨0, ⟨slot, birth, 0, 0, 0, [97, 110, 110], [], 7, 1, clock, til, 0⟩, 0, 0⟩
def tickR (n : Int) : EvtM := ⟨2, noSes, 0, n⟩
theorem RdE.lit {w : World} {b : Nat} {cs : Array Value} {T : TypeId} (h : Box w b cs T) (l : List EvtM) (n : Nat) (hn : n = l.length) (hl : n ≤ 9223372036854775807) (hc : cs.toList = flatE l) : RdE w (.slice (some ⟨b, 0, none⟩) n n) l := by
  subst hn
  exact ⟨_, _, rfl, Nat.le_refl _, hl, (fun h => by cases h), fun j hj => ⟨b, 0, rfl, by
    rw [Nat.zero_add]
    refine h.cell j _ ?_
    rw [← Array.getElem?_toList, hc, List.getD, List.getElem?_eq_getElem hj]; rfl⟩⟩
set_option maxHeartbeats 1600000 in
theorem login_calls (bi sl ck un : Int) (w : World) :
    Calls Try.prog 29 #[.int .i64 bi, .int .i64 sl, .int .i64 ck, .int .i64 un] w fun e w' => e = .returned (.agg (loginE bi sl ck un).cells) ∧ Below w.heap.size w w' := by
  obtain ⟨hset, hth⟩ := (Box.new w #[.int .i64 0, .int .i64 0, .int .i64 0, .int .i64 0, .int .i64 0, .int .i64 0, .string ⟨#[]⟩, .string ⟨#[]⟩, .int .u64 0, .int .i64 0, .int .i64 0, .int .i64 0, .int .i64 0, .int .i64 0, .int .i64 0] 47).setAllE rfl (loginE bi sl ck un)
  have HTH := Lib.hid hth
  have HSE := Lib.hid hset
  have HB := Lib.hid (below_alloc w (.cells #[.int .i64 0, .int .i64 0, .int .i64 0, .int .i64 0, .int .i64 0, .int .i64 0, .string ⟨#[]⟩, .string ⟨#[]⟩, .int .u64 0, .int .i64 0, .int .i64 0, .int .i64 0, .int .i64 0, .int .i64 0, .int .i64 0] 47))
  clear hset hth
  go_enter Try.func29, Try.ntmps29
  go_wp2_with ((with_reducible refine wpList_store_k ?a0 47 (.tmp 8) (.tmp 14) ?a1 w.heap.size 0 (loginE bi sl ck un).cells.toList ?a2 (loginE bi sl ck un).cells ?a3 (EvtM.listE _) HTH.out ?a6 ?a7 ?a8); (case a1 => rfl); (case a0 => rfl); (case a2 => rfl); (case a3 => rfl); (case a6 => kernel_rfl); (case a7 => exact EvtM.oneE _))
  intro w2 hw2
  rw [← hw2.out] at HSE
  have HB2 := Lib.hid (show Below w.heap.size w w2 by
    rw [hw2.out]
    generalize (loginE bi sl ck un).cells.toList = L
    exact HB.out.trans ((Mod.setCells (fun q => q = w.heap.size) w.heap.size rfl L 0 _).below HB.out.size (fun i hi => Nat.le_of_eq hi.symm)))
  clear hw2 HTH HB
  go_wp2_with fail
  exact ret_cell rfl rfl w.heap.size 0 rfl (loginE bi sl ck un).cells.toList _ (Box.rangeV HSE.out) Try.underlying47 rfl (by kernel_rfl) ⟨rfl, HB2.out⟩
theorem buildE2 (e f : EvtM) (w : World) : (Instr.buildSlice 25 2 #[(0, .agg e.cells), (1, .agg f.cells)]).run Try.prog w = .ok (.slice (some ⟨w.heap.size, 0, none⟩) 2 2) (w.alloc (.cells (flatE [e, f]).toArray 47)) := by kernel_rfl
theorem works_all1 : allM ⟨0, 0, []⟩ [loginE 1 0 0 10, tickR 9] = (⟨9, 1, [(loginE 1 0 0 10).s]⟩, 2) := by kernel_rfl
theorem works_all2 : allM ⟨9, 1, [(loginE 1 0 0 10).s]⟩ [tickR 1] = (⟨10, 1, []⟩, 1) := by kernel_rfl
theorem loginE_ok (bi sl ck un : Int) (h1 : I64 bi) (h2 : I64 sl) (h3 : I64 ck) (h4 : I64 un) : EvOk (loginE bi sl ck un) := by
  have z : ∀ n : Int, -9223372036854775808 ≤ n → n ≤ 9223372036854775807 → I64 n := fun n a b => ⟨a, b⟩
  exact ⟨(show (3 : Nat) ≤ 140737488351232 by decide), (show (0 : Nat) ≤ 140737488351232 by decide), (show (7 : Nat) < 2 ^ 64 by decide), z 0 (by decide) (by decide), z 0 (by decide) (by decide), z 0 (by decide) (by decide), h2, h1, z 0 (by decide) (by decide), z 0 (by decide) (by decide), z 0 (by decide) (by decide), z 1 (by decide) (by decide), h3, h4, z 0 (by decide) (by decide)⟩
theorem tickR_ok (n : Int) (h : I64 n) : EvOk (tickR n) := by
  have z : ∀ n : Int, -9223372036854775808 ≤ n → n ≤ 9223372036854775807 → I64 n := fun n a b => ⟨a, b⟩
  exact ⟨(show (0 : Nat) ≤ 140737488351232 by decide), (show (0 : Nat) ≤ 140737488351232 by decide), (show (0 : Nat) < 2 ^ 64 by decide), z 2 (by decide) (by decide), z 0 (by decide) (by decide), h, z 0 (by decide) (by decide), z 0 (by decide) (by decide), z 0 (by decide) (by decide), z 0 (by decide) (by decide), z 0 (by decide) (by decide), z 0 (by decide) (by decide), z 0 (by decide) (by decide), z 0 (by decide) (by decide), z 0 (by decide) (by decide)⟩
set_option maxHeartbeats 3200000 in
theorem worksR_calls (w : World) : Calls Try.prog 15 #[] w fun e w' => e = .returned (.bool true) ∧ Below w.heap.size w w' := by
  have HA1 := Lib.hid (fun ev w' (h : RdE w' ev [loginE 1 0 0 10, tickR 9]) => allP_calls ⟨0, 0, []⟩ [loginE 1 0 0 10, tickR 9] (.slice none 0 0) ev w' (Rd.nil w') h (by decide) (fun e he => by
    rcases List.mem_cons.1 he with rfl | he
    · exact loginE_ok _ _ _ _ ⟨by decide, by decide⟩ ⟨by decide, by decide⟩ ⟨by decide, by decide⟩ ⟨by decide, by decide⟩
    · rw [List.mem_singleton.1 he]; exact tickR_ok _ ⟨by decide, by decide⟩))
  have HA2 := Lib.hid (fun v ev w' (h0 : RdS w' v [(loginE 1 0 0 10).s]) (h : RdE w' ev [tickR 1]) => allP_calls ⟨9, 1, [(loginE 1 0 0 10).s]⟩ [tickR 1] v ev w' h0 h (by decide) (fun e he => by rw [List.mem_singleton.1 he]; exact tickR_ok _ ⟨by decide, by decide⟩))
  rw [works_all1] at HA1
  rw [works_all2] at HA2
  simp only at HA1 HA2
  go_enter Try.func15, Try.ntmps15
  go_wp2_with fail
  refine (login_calls 1 0 0 10 _).mono ?_
  rintro e1 w1 ⟨rfl, hb1⟩
  have HB1 := Lib.hid hb1
  clear hb1
  generalize hl1 : loginE 1 0 0 10 = x1 at HA1 HA2 ⊢
  go_wp2_with (refine wpList_buildSlice_s (op := ⟨some 9, _, _, _, _, _⟩) (by rfl) 25 2 #[(0, .tmp 7), (1, .tmp 8)] rfl #[(0, .agg x1.cells), (1, .agg (tickR 9).cells)] (by kernel_rfl) _ _ (buildE2 x1 (tickR 9) w1) ?_)
  intro w2 hw2
  have hb2 : Below w1.heap.size w1 w2 := by rw [hw2.out]; exact below_alloc _ _
  have HR2 := Lib.hid (show RdE w2 (.slice (some ⟨w1.heap.size, 0, none⟩) 2 2) [x1, tickR 9] by rw [hw2.out]; exact RdE.lit (Box.new _ _ _) _ 2 rfl (by decide) rfl)
  have HB2 := Lib.hid (HB1.out.trans (hb2.mono HB1.out.size))
  clear hw2 hb2 HB1
  go_wp2_with fail
  refine (HA1.out _ w2 HR2.out).mono ?_
  rintro e3 w3 ⟨o, rfl, ho, hb3⟩
  obtain ⟨oa, oc, rfl, _⟩ := ho.slice
  have hba := below_alloc w3 (.cells #[.int .i64 9, .int .i64 1, .slice oa [x1.s].length oc] 24)
  have HX4 := Lib.hid (Box.new w3 #[.int .i64 9, .int .i64 1, .slice oa [x1.s].length oc] 24)
  have HO4 := Lib.hid (ho.below hba)
  have HB4 := Lib.hid ((HB2.out.trans (hb3.mono HB2.out.size)).trans (hba.mono (HB2.out.trans (hb3.mono HB2.out.size)).size))
  clear ho hb3 hba HB2 HR2 HA1
  rw [show [x1.s].length = 1 from rfl] at *
  go_wp2_with fail
  have hx5 := below_alloc (w3.alloc (.cells #[.int .i64 9, .int .i64 1, .slice oa 1 oc] 24)) (.cells (tickR 1).cells 47)
  have hr5 : RdE ((w3.alloc (.cells #[.int .i64 9, .int .i64 1, .slice oa 1 oc] 24)).alloc (.cells (tickR 1).cells 47)) (.slice (some ⟨w3.heap.size + 1, 0, none⟩) 1 1) [tickR 1] := by
    have h := RdE.lit (Box.new (w3.alloc (.cells #[.int .i64 9, .int .i64 1, .slice oa 1 oc] 24)) (tickR 1).cells 47) [tickR 1] 1 rfl (by decide) rfl
    rw [World.size_alloc] at h; exact h
  have HR5 := Lib.hid hr5
  have HX5 := Lib.hid (HX4.out.below hx5)
  have HO5 := Lib.hid (HO4.out.below hx5)
  have HB5 := Lib.hid (HB4.out.trans (hx5.mono HB4.out.size))
  clear hx5 hr5 HX4 HO4 HB4
  rw [show (tickR 1).cells = #[.int .i64 2, .int .i64 0, .int .i64 0, .int .i64 0, .int .i64 0, .int .i64 0, .string ⟨#[]⟩, .string ⟨#[]⟩, .int .u64 0, .int .i64 0, .int .i64 0, .int .i64 0, .int .i64 0, .int .i64 0, .int .i64 1] from rfl] at HR5 HX5 HO5 HB5
  generalize ((w3.alloc (.cells #[.int .i64 9, .int .i64 1, .slice oa 1 oc] 24)).alloc (.cells #[.int .i64 2, .int .i64 0, .int .i64 0, .int .i64 0, .int .i64 0, .int .i64 0, .string ⟨#[]⟩, .string ⟨#[]⟩, .int .u64 0, .int .i64 0, .int .i64 0, .int .i64 0, .int .i64 0, .int .i64 0, .int .i64 1] 47)) = w5 at HR5 HX5 HO5 HB5 ⊢
  refine (HA2.out _ _ w5 HO5.out.rd HR5.out).mono ?_
  rintro e3 w6 ⟨o, rfl, ho, hb6⟩
  obtain ⟨pa, pc, rfl, _⟩ := ho.slice
  have hba := below_alloc w6 (.cells #[.int .i64 10, .int .i64 1, .slice pa ([] : List SesM).length pc] 24)
  have HX7 := Lib.hid ((HX5.out.below hb6).below hba)
  have HY7 := Lib.hid (Box.new w6 #[.int .i64 10, .int .i64 1, .slice pa ([] : List SesM).length pc] 24)
  have HB7 := Lib.hid ((HB5.out.trans (hb6.mono HB5.out.size)).trans (hba.mono (HB5.out.trans (hb6.mono HB5.out.size)).size))
  clear ho hb6 hba HB5 HX5 HO5 HR5 HA2
  rw [show ([] : List SesM).length = 0 from rfl] at *
  have c0 : (w6.alloc (.cells #[.int .i64 10, .int .i64 1, .slice pa 0 pc] 24)).cell? ⟨w3.heap.size, 0, none⟩ = some (.int .i64 9) := HX7.out.cell 0 _ rfl
  have c1 : (w6.alloc (.cells #[.int .i64 10, .int .i64 1, .slice pa 0 pc] 24)).cell? ⟨w3.heap.size, 1, none⟩ = some (.int .i64 1) := HX7.out.cell 1 _ rfl
  have c2 : (w6.alloc (.cells #[.int .i64 10, .int .i64 1, .slice pa 0 pc] 24)).cell? ⟨w3.heap.size, 2, none⟩ = some (.slice oa 1 oc) := HX7.out.cell 2 _ rfl
  have d0 : (w6.alloc (.cells #[.int .i64 10, .int .i64 1, .slice pa 0 pc] 24)).cell? ⟨w6.heap.size, 0, none⟩ = some (.int .i64 10) := HY7.out.cell 0 _ rfl
  have d2 : (w6.alloc (.cells #[.int .i64 10, .int .i64 1, .slice pa 0 pc] 24)).cell? ⟨w6.heap.size, 2, none⟩ = some (.slice pa 0 pc) := HY7.out.cell 2 _ rfl
  clear HX7 HY7
  go_wp2_with fail
  go_ret
  exact ⟨rfl, HB7.out⟩
end Go.Proofs.Ythnabnieajojjaa
/-
  A state of three cells is stored, in a region that draws its order.
-/
namespace Go.Proofs.Ythnabnieajojjaa
open Go.RowKit
set_option maxRecDepth 100000

theorem wp_store_kk {P : Program} {op : Oper} {a : Act} {w : World} {K : Act → World → Prop} {Q : Exit → Act → World → Prop} (ty : TypeId) (x y : Operand) (ho : op.op = .store ty x y)
    (b o : Nat) (cs : List Value) (hx : a.eval x = .pointer (some ⟨b, o, none⟩)) (hy : a.eval y = .agg cs.toArray) (ht : w.there b o cs.length) (hi : (P.info? ty).map (·.size) = some cs.length) (h1 : ∀ v ∈ cs, v.oneCell' = true)
    (h : K (a.put op.dst undef) (w.setCells b o cs)) : op.wp P a w K Q := by
  refine wp_store_mid ty x y ho b o cs.toArray hx hy ?_ ?_ (all_oneCell_toArray h1) ?_
  · rw [List.size_toArray]; exact ht
  · rw [List.size_toArray]; exact hi
  · exact h
theorem Box.there3 {w : World} {b : Nat} {x y z : Value} {t : TypeId} (h : Box w b #[x, y, z] t) : w.there b 0 3 := by
  intro j hj
  rw [Nat.zero_add]
  match j, hj with
  | 0, _ => exact ⟨by rw [h.cell 0 _ rfl]; rfl, h.free _⟩
  | 1, _ => exact ⟨by rw [h.cell 1 _ rfl]; rfl, h.free _⟩
  | 2, _ => exact ⟨by rw [h.cell 2 _ rfl]; rfl, h.free _⟩
theorem Box.set3 {w : World} {b : Nat} {x y z : Value} {t : TypeId} (h : Box w b #[x, y, z] t) (x' y' z' : Value) : Box (w.setCells b 0 [x', y', z']) b #[x', y', z'] t ∧ Mod (fun i => i = b) w (w.setCells b 0 [x', y', z']) :=
  ⟨((h.set 0 x').set 1 y').set 2 z', Mod.set3 b w x' y' z'⟩
theorem one3 (x y : Int) (a : Option Addr) (n c : Nat) : ∀ v ∈ [Value.int .i64 x, Value.int .i64 y, Value.slice a n c], v.oneCell' = true := by
  intro v hv
  simp only [List.mem_cons, List.not_mem_nil, or_false] at hv
  rcases hv with rfl | rfl | rfl <;> rfl
end Go.Proofs.Ythnabnieajojjaa
/-
  A state that events make, through the laws' rounds.
-/
namespace Go.Proofs.Ythnabnieajojjaa
open Go.RowKit
set_option maxRecDepth 100000

/-- A state that events make, in a block of its own. -/
structure StI (w w' : World) (q : Nat) (C B : Int) (sv : Value) (L : List SesM) : Prop where
  bx : Box w' q #[.int .i64 C, .int .i64 B, sv] 24
  ow : OwnS w' (q + 1) sv L
  sn : Snd ⟨C, B, L⟩
  ge : w.heap.size ≤ q
  bel : Below w.heap.size w w'
theorem StI.below {w w' w2 : World} {q : Nat} {C B : Int} {sv : Value} {L : List SesM} (h : StI w w' q C B sv L) (hb : Below w'.heap.size w' w2) : StI w w2 q C B sv L :=
  ⟨h.bx.below hb, h.ow.below hb, h.sn, h.ge, h.bel.trans (hb.mono h.bel.size)⟩
theorem StI.put {w w' : World} {q : Nat} {C B : Int} {sv : Value} {L : List SesM} (h : StI w w' q C B sv L) (C2 B2 : Int) (o : Value) (L2 : List SesM) (ho : OwnS w' (q + 1) o L2) (hs : Snd ⟨C2, B2, L2⟩) :
    StI w (((w'.setCell ⟨q, 0, none⟩ (.int .i64 C2)).setCell ⟨q, 1, none⟩ (.int .i64 B2)).setCell ⟨q, 2, none⟩ o) q C2 B2 o L2 := by
  have hm := Mod.set3 q w' (.int .i64 C2) (.int .i64 B2) o
  have hq := h.ge
  exact ⟨((h.bx.set 0 (.int .i64 C2)).set 1 (.int .i64 B2)).set 2 o, ho.mod hm (fun k hk e => by have := (ho.lt k hk).1; omega), hs, hq, h.bel.trans (hm.below h.bel.size (fun i hi => by omega))⟩
/-- What an application in the round leaves. -/
structure AppI (w W : World) (q q8 : Nat) (C B : Int) (sv : Value) (L : List SesM) (C2 B2 : Int) (o : Value) (L2 : List SesM) : Prop where
  j : StI w W q C B sv L
  b8 : Box W q8 #[.int .i64 C2, .int .i64 B2, o] 24
  ow : OwnS W (q + 1) o L2
  ne : q8 ≠ q
theorem AppI.below {w W W2 : World} {q q8 : Nat} {C B : Int} {sv : Value} {L : List SesM} {C2 B2 : Int} {o : Value} {L2 : List SesM} (h : AppI w W q q8 C B sv L C2 B2 o L2) (hb : Below W.heap.size W W2) : AppI w W2 q q8 C B sv L C2 B2 o L2 :=
  ⟨h.j.below hb, h.b8.below hb, h.ow.below hb, h.ne⟩
theorem Snd.applied {S : StM} {e : EvtM} {er C2 B2 : Int} {L2 : List SesM} (h : Snd S) (he : applyM S e = (er, ⟨C2, B2, L2⟩)) (h0 : er = 0) : Snd ⟨C2, B2, L2⟩ := by
  have h1 := h.apply (e := e) (by rw [he]; exact h0)
  rw [he] at h1; exact h1
end Go.Proofs.Ythnabnieajojjaa
/-
  The law ReplayEnded.
-/
namespace Go.Proofs.Ythnabnieajojjaa
open Go.RowKit
set_option maxRecDepth 100000

theorem info_int24 : (Try.prog.info? 3).map (fun i => (i.zero, i.size, i.bytes)) = some (some (.int .i64 0), 1, 8) := by kernel_rfl
/-- A list of numbers that a call owns. -/
def OwnN (w : World) (base : Nat) (v : Value) (l : List Int) : Prop := w.ownsRow base 3 1 v l.length (l.map (Value.int .i64))
theorem OwnN.nil (w : World) (base : Nat) : OwnN w base (.slice none 0 0) [] := ⟨rfl, .inl ⟨rfl, rfl⟩⟩
theorem OwnN.below {w w' : World} {base : Nat} {v : Value} {l : List Int} (h : OwnN w base v l) (hb : Below w.heap.size w w') : OwnN w' base v l := own_below h hb
theorem OwnN.slice {w : World} {base : Nat} {v : Value} {l : List Int} (h : OwnN w base v l) : ∃ a cap, v = .slice a l.length cap ∧ l.length ≤ cap ∧ cap ≤ 9223372036854775807 := by
  obtain ⟨a, cap, h1, h2, h3, _⟩ := rd_of_own h; exact ⟨a, cap, h1, h2, h3⟩
theorem OwnN.lt {w : World} {base : Nat} {v : Value} {l : List Int} (h : OwnN w base v l) : ∀ k, v.ownBlock = some k → base ≤ k ∧ k < w.heap.size := own_lt h
theorem OwnN.mod {w w' : World} {base : Nat} {v : Value} {l : List Int} {F : Nat → Prop} (h : OwnN w base v l) (hm : Mod F w w') (hb : ∀ k, v.ownBlock = some k → ¬ F k) : OwnN w' base v l := own_mod h hm hb
theorem OwnN.at {w : World} {base : Nat} {a : Option Addr} {n cap : Nat} {l : List Int} (h : OwnN w base (.slice a n cap) l) (k : Nat) (hk : k < l.length) : ∃ b off, a = some ⟨b, off, none⟩ ∧ w.cell? ⟨b, off + k, none⟩ = some (.int .i64 l[k]) := by
  obtain ⟨a', cap', e, _, _, _, h3⟩ := rd_of_own h
  injection e with e1 e2 e3
  subst e1
  obtain ⟨b, off, h4, h5⟩ := h3 k (by rw [List.length_map]; exact hk)
  refine ⟨b, off, h4, ?_⟩
  rw [h5, List.getD, List.getElem?_map, List.getElem?_eq_getElem hk]; rfl
theorem appNum {w : World} {ops : Array Oper} {rest : List Oper} {o : Oper} {a : Act} {Q : Exit → Act → World → Prop} (hgd : o.guard = none) (s x : Operand)
    (ho : o.op = .call { callee := .builtin .append, args := #[s, x], argTypes := #[50, 50] })
    (base : Nat) (v : Value) (l : List Int) (hs : a.eval s = v) (hown : OwnN w base v l)
    (nb c : Nat) (y : Int) (hx : a.eval x = .slice (some ⟨nb, 0, none⟩) 1 c) (hy : w.cell? ⟨nb, 0, none⟩ = some (.int .i64 y))
    (hroom : l.length + 1 ≤ 17592186044416) (hbase : base ≤ w.heap.size)
    (h : ∀ v' w', OwnN w' base v' (l ++ [y]) → w.grownBy w' v.ownBlock → Moved w v v' → wpList Try.prog ops Q rest (a.put o.dst v') w') : wpList Try.prog ops Q (o :: rest) a w := by
  obtain ⟨i0, hi, hz0, hz1, hz2⟩ := info_parts info_int24
  refine wpList_append_own2 hgd s x 50 ho base 3 i0 (.int .i64 0) 1 8 Try.underlying50 hi hz0 hz1 hz2 rfl (by decide) v l.length (l.map (Value.int .i64)) hs hown ⟨nb, 0, none⟩ 1 c [.int .i64 y] hx rfl (fun j u hj => ?_) (by simp [Value.oneCell']) (by unfold maxLen; omega) (by omega) hbase (fun v' w' h1 h2 h3 => h v' w' ?_ h2 h3)
  · cases j with
    | zero => simp at hj; subst hj; exact hy
    | succ j => simp at hj
  · unfold OwnN
    rw [List.length_append, List.map_append]; exact h1
/-- Both states, and the list of those that have ended. -/
structure EnI (w W : World) (q q8 : Nat) (C B : Int) (sv : Value) (L : List SesM) (C2 B2 : Int) (o : Value) (L2 : List SesM) (ov : Value) (E : List Int) : Prop where
  a : AppI w W q q8 C B sv L C2 B2 o L2
  e : OwnN W (q + 1) ov E
  n1 : Apart ov sv
  n2 : Apart ov o
  n8 : ∀ k, ov.ownBlock = some k → k ≠ q8
theorem EnI.below {w W W2 : World} {q q8 : Nat} {C B : Int} {sv : Value} {L : List SesM} {C2 B2 : Int} {o : Value} {L2 : List SesM} {ov : Value} {E : List Int} (h : EnI w W q q8 C B sv L C2 B2 o L2 ov E) (hb : Below W.heap.size W W2) : EnI w W2 q q8 C B sv L C2 B2 o L2 ov E :=
  ⟨h.a.below hb, h.e.below hb, h.n1, h.n2, h.n8⟩
theorem EnI.app {w W W2 : World} {q q8 : Nat} {C B : Int} {sv : Value} {L : List SesM} {C2 B2 : Int} {o : Value} {L2 : List SesM} {ov ov' : Value} {E E' : List Int} (h : EnI w W q q8 C B sv L C2 B2 o L2 ov E) (ho : OwnN W2 (q + 1) ov' E') (hg : W.grownBy W2 ov.ownBlock) (hm : Moved W ov ov') : EnI w W2 q q8 C B sv L C2 B2 o L2 ov' E' := by
  have hmod : Mod (fun i => ov.ownBlock = some i) W W2 := Mod.of_grown hg (fun k hk => hk)
  have hq := h.a.j.ge
  have hne : ∀ k, ov.ownBlock = some k → k ≠ q := fun k hk e => by have := (h.e.lt k hk).1; omega
  refine ⟨⟨⟨h.a.j.bx.mod hmod (fun e => hne q e rfl), h.a.j.ow.mod hmod (fun k hk e => h.n1 k e hk), h.a.j.sn, h.a.j.ge, h.a.j.bel.trans (hmod.below h.a.j.bel.size (fun i hi => by have := (h.e.lt i hi).1; omega))⟩, h.a.b8.mod hmod (fun e => h.n8 _ e rfl), h.a.ow.mod hmod (fun k hk e => h.n2 k e hk), h.a.ne⟩, ho, ?_, ?_, ?_⟩
  · intro k hk hk2
    rcases hm with e | e
    · rw [e] at hk; exact h.n1 k hk hk2
    · rw [e] at hk; injection hk with hk; have := (h.a.j.ow.lt k hk2).2; omega
  · intro k hk hk2
    rcases hm with e | e
    · rw [e] at hk; exact h.n2 k hk hk2
    · rw [e] at hk; injection hk with hk; have := (h.a.ow.lt k hk2).2; omega
  · intro k hk
    rcases hm with e | e
    · rw [e] at hk; exact h.n8 k hk
    · rw [e] at hk; injection hk with hk; have := h.a.b8.lt; omega
/-- The state and the list, between two events. -/
structure EnS (w W : World) (q : Nat) (C B : Int) (sv : Value) (L : List SesM) (ov : Value) (E : List Int) : Prop where
  j : StI w W q C B sv L
  e : OwnN W (q + 1) ov E
  n : Apart ov sv
  d : ∀ b ∈ E, Ended ⟨C, B, L⟩ b
theorem EnS.below {w W W2 : World} {q : Nat} {C B : Int} {sv : Value} {L : List SesM} {ov : Value} {E : List Int} (h : EnS w W q C B sv L ov E) (hb : Below W.heap.size W W2) : EnS w W2 q C B sv L ov E :=
  ⟨h.j.below hb, h.e.below hb, h.n, h.d⟩
theorem EnS.there {w W : World} {q : Nat} {C B : Int} {sv : Value} {L : List SesM} {ov : Value} {E : List Int} (h : EnS w W q C B sv L ov E) (b : Int) (hb : b ∈ E) : L.any (fun s => s.birth == b) = false := by
  rw [List.any_eq_false]
  intro s hs hh
  exact (h.d b hb).2 s hs (by simpa using hh)
set_option maxHeartbeats 6400000 in
theorem replayEnded_calls (l : List EvtM) (ev : Value) (w : World) (hev : RdE w ev l) (hok : ∀ e ∈ l, EvOk e) :
    Calls Try.prog 5 #[ev] w fun e w' => e = .returned (.bool true) ∧ Below w.heap.size w w' := by
  have HAP := Lib.hid (fun (S : StM) (e : EvtM) (he : e ∈ l) v' w' h hn' => apply_calls S e v' w' h hn' (Nat.le_trans (hok e he).user (by decide)) (Nat.le_trans (hok e he).label (by decide)) (hok e he).scopes)
  have HEV := Lib.hid hev
  obtain ⟨ea, ec, rfl, _, he2⟩ := hev.slice
  have hln : l.length ≤ 9223372036854775807 := by omega
  clear hev hok he2
  obtain ⟨n, hN⟩ : ∃ n, n = l.length := ⟨_, rfl⟩
  rw [← hN] at hln HEV ⊢
  have HN := Lib.hid hN
  clear hN
  go_enter Try.func5, Try.ntmps5
  go_wp2_with fail
  refine (worksR_calls w).mono ?_
  rintro ev w1 ⟨rfl, hb1⟩
  have HB1 := Lib.hid hb1
  clear hb1
  by_cases hlen : (200 : Int) < (n : Int)
  · go_wp2_with fail
    refine (worksR_calls w1).mono ?_
    rintro ev w2 ⟨rfl, hb2⟩
    have HB2 := Lib.hid (HB1.out.trans (hb2.mono HB1.out.size))
    clear hb2 HB1
    go_wp2_with fail
    go_ret
    exact ⟨rfl, HB2.out⟩
  have HLEN := Lib.hid (show n ≤ 200 by omega)
  have hba := below_alloc w1 (.cells #[.int .i64 0, .int .i64 0, .slice none 0 0] 24)
  have HI0 := Lib.hid (show StI w (w1.alloc (.cells #[.int .i64 0, .int .i64 0, .slice none 0 0] 24)) w1.heap.size 0 0 (.slice none 0 0) [] from
    ⟨Box.new _ _ _, OwnS.nil _ _, Snd.zero, HB1.out.size, HB1.out.trans (hba.mono HB1.out.size)⟩)
  clear hba
  go_wp2_with fail
  generalize (w1.alloc (.cells #[.int .i64 0, .int .i64 0, .slice none 0 0] 24)) = w2 at HI0 ⊢
  generalize w1.heap.size = q at HI0 ⊢
  clear HB1 hlen
  go_loopg [4, 5] n (fun gk ov iv wr => ∃ (k : Nat) (C B : Int) (sv : Value) (L : List SesM) (E : List Int), gk + k = n ∧ iv = .int .i64 (k : Int) ∧ EnS w wr q C B sv L ov E ∧ E.length ≤ 32 * k)
  case atStart => exact ⟨0, _, _, _, _, [], Nat.add_zero _, rfl, ⟨HI0.out, OwnN.nil _ _, nil_apart _, fun b hb => (by cases hb)⟩, Nat.le_refl _⟩
  case round =>
    clear HI0
    obtain ⟨k, C, B, sv, L, E, hgk, rfl, hS, hEl⟩ := hrel
    have k0 : (0 : Int) ≤ (k : Int) := by omega
    have HGK := Lib.hid hgk
    have HEL := Lib.hid hEl
    have HS0 := Lib.hid hS
    obtain ⟨sa, sc, rfl, _⟩ := hS.j.ow.slice
    obtain ⟨oa4, oc4, rfl, _⟩ := hS.e.slice
    obtain ⟨sn, hSN⟩ : ∃ sn, sn = L.length := ⟨_, rfl⟩
    obtain ⟨en, hEN⟩ : ∃ en, en = E.length := ⟨_, rfl⟩
    rw [← hSN, ← hEN] at HS0
    rw [← hEN] at HEL ⊢
    have HSN := Lib.hid hSN
    have HEN := Lib.hid hEN
    have HI := Lib.hid HS0.out.j
    clear hgk hS hSN hEN hEl
    by_cases hk : k < n
    rotate_left
    · have k1 : ¬ (k : Int) < (n : Int) := by omega
      clear hk
      go_wp2_with fail
      go_ret
      exact ⟨rfl, HI.out.bel⟩
    have k1 : (k : Int) < (n : Int) := by omega
    have hkl : k < l.length := by have := HN.out; omega
    obtain ⟨e, he⟩ : ∃ e, e = l[k] := ⟨_, rfl⟩
    obtain ⟨rb, ro, hra, hrow⟩ := (HEV.out.below HI.out.bel).row k hkl
    subst hra
    rw [← he] at hrow
    have HROW := Lib.hid hrow
    have HK := Lib.hid hk
    have hmem : e ∈ l := by rw [he]; exact List.getElem_mem hkl
    have HLE := Lib.hid (show L.length ≤ 1000000000 by have h := HI.out.sn.len; simp only at h; omega)
    have HCA := Lib.hid (fun w' (hb : Below wr.heap.size wr w') => HAP.out ⟨C, B, L⟩ e hmem _ w' (HI.out.below hb).ow.rd HLE.out)
    have HSND := HI.out.sn
    obtain ⟨A, hA⟩ : ∃ A, A = applyM ⟨C, B, L⟩ e := ⟨_, rfl⟩
    rw [← hA] at HCA
    obtain ⟨er, C2, B2, L2⟩ := A
    simp only at HCA
    have HAE := Lib.hid hA.symm
    have HSN2 := Lib.hid (fun h0 => HSND.applied hA.symm h0)
    obtain ⟨m, hM⟩ : ∃ m, m = L2.length := ⟨_, rfl⟩
    have HM := Lib.hid hM
    clear hA hk hkl he hrow hmem hM HSND HLE
    have HSQ := Lib.hid (show q < wr.heap.size from HI.out.bx.lt)
    obtain ⟨B9, hB9⟩ : ∃ B9, B9 = wr.heap.size := ⟨_, rfl⟩
    have HSL := Lib.hid (fun (W : World) (hW : Below wr.heap.size wr W) => HS0.out.e.below hW)
    have HEE := Lib.hid HS0.out.d
    have HOLT := Lib.hid (show ∀ k, (Value.slice oa4 en oc4).ownBlock = some k → k < B9 from fun k hk => by have := (HS0.out.e.lt k hk).2; rw [hB9]; exact this)
    have HB9 := Lib.hid hB9
    clear hB9
    have HN1 := Lib.hid HS0.out.n
    clear HS0
    go_wp2_with fail
    refine wp_region_held_drew (S := fun W => Below wr.heap.size wr W) (by kernel_rfl) (below_drew wr) (fun hHeld => ?_)
    refine wpAnyH_take (i := 0) (oi := ⟨some 26, .load _ _, _, _, _, _⟩) (v := .agg #[.int .i64 C, .int .i64 B, .slice sa sn sc]) rfl (by kernel_rfl) (by kernel_rfl) (by kernel_rfl) (fun _ _ _ h => h) (Or.inl ⟨by kernel_rfl, fun w' hw' => exec_load_m 24 (.tmp 3) rfl (q) (0) rfl (#[.int .i64 C, .int .i64 B, .slice sa sn sc]).toList _ (zrangeS (HI.out.bx.below hw')) Try.underlying24 rfl (by kernel_rfl)⟩) (by assumption) ?_
    try simp only [Act.put, List.setIfInBounds_toArray, List.set_cons_zero, List.set_cons_succ]
    refine wpAnyH_take (i := 1) (oi := ⟨some 27, _, _, _, _, _⟩) (v := ?_) rfl (by kernel_rfl) (by kernel_rfl) (by kernel_rfl) (fun _ _ _ h => h) (Or.inl ⟨by kernel_rfl, ?_⟩) (by assumption) ?_
    rotate_left 1
    · intro w' hw'; clear hw'; go_simp; try with_reducible rfl
    try simp only [Act.put, List.setIfInBounds_toArray, List.set_cons_zero, List.set_cons_succ]
    refine wpAnyH_take (i := 2) (oi := ⟨some 28, _, _, _, _, _⟩) (v := ?_) rfl (by kernel_rfl) (by kernel_rfl) (by kernel_rfl) (fun _ _ _ h => h) (Or.inl ⟨by kernel_rfl, ?_⟩) (by assumption) ?_
    rotate_left 1
    · intro w' hw'; clear hw'; go_simp; try with_reducible rfl
    try simp only [Act.put, List.setIfInBounds_toArray, List.set_cons_zero, List.set_cons_succ]
    refine wpAnyH_take (i := 3) (oi := ⟨some 29, _, _, _, _, _⟩) (v := ?_) rfl (by kernel_rfl) (by kernel_rfl) (by kernel_rfl) (fun _ _ _ h => h) (Or.inl ⟨by kernel_rfl, ?_⟩) (by assumption) ?_
    rotate_left 1
    · intro w' hw'; clear hw'; go_simp; try with_reducible rfl
    try simp only [Act.put, List.setIfInBounds_toArray, List.set_cons_zero, List.set_cons_succ]
    refine wpAnyH_take (i := 4) (oi := ⟨some 30, .load _ _, _, _, _, _⟩) (v := .agg e.cells) rfl (by kernel_rfl) (by kernel_rfl) (by kernel_rfl) (fun _ _ _ h => h) (Or.inl ⟨by kernel_rfl, fun w' hw' => exec_load_m 47 (.tmp 29) rfl (rb) (ro + k * 15) rfl (e.cells).toList _ (fun j v hv => below_heap hw' (HROW.out j v hv)) Try.underlying47 rfl (by kernel_rfl)⟩) (by assumption) ?_
    try simp only [Act.put, List.setIfInBounds_toArray, List.set_cons_zero, List.set_cons_succ]
    refine wpAnyH_ready (rs := [5, 9]) (by kernel_rfl) (by simp) (AllReadyH.cons (o := ⟨some 31, .call _, _, _, _, _⟩) rfl (fun K hK => ?_) (AllReadyH.cons (o := ⟨some 6, .alloc _, _, _, _, _⟩) rfl (fun K hK => ?_) AllReadyH.nil))
    · go_simp
      refine (HCA.out _ hHeld).mono ?_
      rintro e3 w3 ⟨o, rfl, ho, hb3⟩
      refine hK.out _ _ (below_trans hHeld hb3) (fun hHeld2 => ?_)
      obtain ⟨oa, oc, rfl, _⟩ := ho.slice
      rw [← HM.out] at ho ⊢
      have HO3 := Lib.hid ho
      clear hK K ho hb3
      try simp only [Act.put, List.setIfInBounds_toArray, List.set_cons_zero, List.set_cons_succ]
      refine wpAnyH_take (i := 6) (oi := ⟨some 25, _, _, _, _, _⟩) (v := ?_) rfl (by kernel_rfl) (by kernel_rfl) (by kernel_rfl) (fun _ _ _ h => h) (Or.inl ⟨by kernel_rfl, ?_⟩) (by assumption) ?_
      rotate_left 1
      · intro w' hw'; clear hw'; go_simp; try with_reducible rfl
      try simp only [Act.put, List.setIfInBounds_toArray, List.set_cons_zero, List.set_cons_succ]
      refine wpAnyH_take (i := 7) (oi := ⟨some 32, _, _, _, _, _⟩) (v := ?_) rfl (by kernel_rfl) (by kernel_rfl) (by kernel_rfl) (fun _ _ _ h => h) (Or.inl ⟨by kernel_rfl, ?_⟩) (by assumption) ?_
      rotate_left 1
      · intro w' hw'; clear hw'; go_simp; try with_reducible rfl
      try simp only [Act.put, List.setIfInBounds_toArray, List.set_cons_zero, List.set_cons_succ]
      refine wpAnyH_take (i := 8) (oi := ⟨some 33, _, _, _, _, _⟩) (v := ?_) rfl (by kernel_rfl) (by kernel_rfl) (by kernel_rfl) (fun _ _ _ h => h) (Or.inl ⟨by kernel_rfl, ?_⟩) (by assumption) ?_
      rotate_left 1
      · intro w' hw'; clear hw'; go_simp; try with_reducible rfl
      try simp only [Act.put, List.setIfInBounds_toArray, List.set_cons_zero, List.set_cons_succ]
      refine wpAnyH_ready (rs := [9]) (by kernel_rfl) (by simp) (AllReadyH.cons (o := ⟨some 6, .alloc _, _, _, _, _⟩) rfl (fun K hK => ?_) AllReadyH.nil)
      go_simp
      have hba := below_alloc w3 (.cells #[.int .i64 0, .int .i64 0, .slice none 0 0] 24)
      refine hK.out _ _ (below_trans hHeld2 hba) (fun hHeld3 => ?_)
      have HX8 := Lib.hid (Box.new w3 #[.int .i64 0, .int .i64 0, .slice none 0 0] 24)
      have HO8 := Lib.hid (HO3.out.below hba)
      have HQ8 := Lib.hid (show wr.heap.size ≤ w3.heap.size from hHeld2.size)
      have HNE8 := Lib.hid (show ∀ k, (Value.slice oa m oc).ownBlock = some k → k ≠ w3.heap.size from fun k hk e => by have := (HO3.out.lt k hk).2; omega)
      clear hK K HO3 hba hHeld2 hHeld
      try simp only [Act.put, List.setIfInBounds_toArray, List.set_cons_zero, List.set_cons_succ]
      refine wpAnyH_ready (rs := [10]) (by kernel_rfl) (by simp) (AllReadyH.cons (o := ⟨none, .store 24 (.tmp 6) (.tmp 32), _, _, _, none⟩) rfl (fun K hK => ?_) AllReadyH.nil)
      rw [if_pos (by kernel_rfl)]
      refine wp_store_kk 24 (.tmp 6) (.tmp 32) rfl (w3.heap.size) 0 [.int .i64 C2, .int .i64 B2, .slice oa m oc] rfl rfl HX8.out.there3 (by kernel_rfl) (one3 _ _ _ _ _) ?_
      obtain ⟨hx9, hm9⟩ := HX8.out.set3 (.int .i64 C2) (.int .i64 B2) (.slice oa m oc)
      have HW9 := Lib.hid (hm9.below (B := wr.heap.size) (by have := HX8.out.lt; have := HQ8.out; omega) (fun i hi => by have := HQ8.out; omega))
      refine hK.out _ _ (hHeld3.trans (HW9.out)) (fun hHeld4 => ?_)
      have HN2 := Lib.hid (show ∀ k, (Value.slice oa m oc).ownBlock = some k → B9 ≤ k from fun k hk => by rw [HB9.out]; exact (HO8.out.lt k hk).1)
      have HN8 := Lib.hid (show B9 ≤ w3.heap.size from by rw [HB9.out]; exact HQ8.out)
      have HAJ := Lib.hid (show AppI w _ q (w3.heap.size) C B (.slice sa sn sc) L C2 B2 (.slice oa m oc) L2 from
        ⟨HI.out.below hHeld4, hx9, (HO8.out.mod hm9 (fun k hk e => HNE8.out k hk e)).base (show q + 1 ≤ wr.heap.size by have := HSQ.out; omega), by have h2 : wr.heap.size ≤ w3.heap.size := HQ8.out; have := HSQ.out; omega⟩)
      have HBK := Lib.hid hHeld4
      clear hK K hx9 hm9 HW9 HX8 HO8 HNE8 hHeld3 HCA HROW
      have HW9 := HBK
      clear HBK
      generalize (World.setCells _ _ _ _) = w9 at HAJ HW9 hHeld4 ⊢
      clear HQ8
      try simp only [Act.put]
      refine wpAnyH_take (i := 11) (oi := ⟨some 7, _, _, _, _, _⟩) (v := ?_) rfl (by kernel_rfl) (by kernel_rfl) (by kernel_rfl) (fun _ _ _ h => h) (Or.inl ⟨by kernel_rfl, ?_⟩) (by assumption) ?_
      rotate_left 1
      · intro w' hw'; clear hw'; go_simp; try with_reducible rfl
      try simp only [Act.put, List.setIfInBounds_toArray, List.set_cons_zero, List.set_cons_succ]
      refine wpAnyH_done (by kernel_rfl) ?_ _
      clear hHeld4
      generalize (w3.heap.size) = q8 at HAJ HN8 ⊢
      by_cases h0 : er = 0
      rotate_left
      · rw [errV_nz h0]
        have HSX := Lib.hid (show EnS w w9 q C B (.slice sa sn sc) L (.slice oa4 en oc4) E from ⟨HAJ.out.j, HSL.out w9 HW9.out, HN1.out, HEE.out⟩)
        clear h0 HAJ HSN2 HAE HSL HEE HOLT HN1 HW9
        go_wp2_with fail
        go_roundg (n - (k + 1))
        case measure => have := HGK.out; have := HK.out; omega
        case rel => exact ⟨k + 1, _, _, _, _, _, by have := HGK.out; have := HK.out; omega, by go_num, HSX.out, by have := HEL.out; have := HEN.out; omega⟩
      subst h0
      rw [show errV 0 = .nilIface from rfl]
      have HED := Lib.hid (show ∀ b ∈ E, Ended ⟨C2, B2, L2⟩ b from fun b hb => by
        have h := Ended.apply HAJ.out.j.sn (e := e) (by rw [HAE.out]) (HEE.out b hb)
        rw [HAE.out] at h; exact h)
      have HNEW := Lib.hid (show ∀ s ∈ L, L2.any (fun x => x.birth == s.birth) = false → Ended ⟨C2, B2, L2⟩ s.birth from fun s hs hn => by
        have h := Ended.new HAJ.out.j.sn (e := e) (by rw [HAE.out]) hs (by
          rw [HAE.out]
          intro x hx hxe
          exact List.any_eq_false.1 hn x hx (by simpa using hxe))
        rw [HAE.out] at h; exact h)
      have HSN3 := Lib.hid (HSN2.out rfl)
      have HE9 := Lib.hid (show EnI w w9 q q8 C B (.slice sa sn sc) L C2 B2 (.slice oa m oc) L2 (.slice oa4 en oc4) E from
        ⟨HAJ.out, HSL.out w9 HW9.out, HN1.out, fun k h1 h2 => by have := HOLT.out k h1; have := HN2.out k h2; omega, fun k h1 e => by have := HOLT.out k h1; have := HN8.out; omega⟩)
      have hsn63 : sn ≤ 32 := by have h := HAJ.out.j.sn.len; simp only at h; have := HSN.out; omega
      clear HAJ HSN2 HAE HSL HEE HOLT HN1 HW9 HN2 HN8 HI
      go_wp2_with fail
      go_loopg [4, 8] sn (fun gj ov jv wr => ∃ (j : Nat) (E' : List Int), gj + j = sn ∧ jv = .int .i64 (j : Int) ∧ EnI w wr q q8 C B (.slice sa sn sc) L C2 B2 (.slice oa m oc) L2 ov E' ∧ (∀ b ∈ E', Ended ⟨C2, B2, L2⟩ b) ∧ E'.length ≤ 32 * k + j)
      case atStart => exact ⟨0, E, Nat.add_zero _, rfl, HE9.out, HED.out, by have := HEL.out; have := HEN.out; omega⟩
      case round =>
        clear HE9 HED HEL HEN
        obtain ⟨j, E', hgj, rfl, hE, hD, hEl⟩ := hrel
        have j0 : (0 : Int) ≤ (j : Int) := by omega
        have HGJ := Lib.hid hgj
        have HD := Lib.hid hD
        have HEL := Lib.hid hEl
        have HE := Lib.hid hE
        have HJ1 := Lib.hid hE.a.j
        have HJA := Lib.hid hE.a
        obtain ⟨ea, ecc, rfl, _⟩ := hE.e.slice
        obtain ⟨en', hEN⟩ : ∃ en', en' = E'.length := ⟨_, rfl⟩
        rw [← hEN] at HE ⊢
        have hen63 : en' ≤ 9223372036854775807 := by have h1 := hEl; have h2 := HK.out; have h3 := HLEN.out; have h4 := HGJ.out; omega
        have HEN := Lib.hid hEN
        have c2 : wr.cell? ⟨q, 2, none⟩ = some (.slice sa sn sc) := HJ1.out.bx.cell 2 _ rfl
        clear hgj hE hD hEl hEN
        by_cases hj : j < sn
        · have j1 : (j : Int) < (sn : Int) := by omega
          have hjl : j < L.length := by have := HSN.out; omega
          obtain ⟨s, hs⟩ : ∃ s, s = L[j] := ⟨_, rfl⟩
          obtain ⟨rb2, ro2, hra, hrow⟩ := HJ1.out.ow.rd.row j hjl
          subst hra
          rw [← hs] at hrow
          have HR1 := Lib.hid (show wr.cell? ⟨rb2, ro2 + j * 12 + 1, none⟩ = some (.int .i64 s.birth) from hrow 1 _ rfl)
          have HMEM := Lib.hid (show s ∈ L by rw [hs]; exact List.getElem_mem hjl)
          have HC2 := Lib.hid c2
          have HD2 := Lib.hid (show wr.cell? ⟨q8, 2, none⟩ = some (.slice oa m oc) from HJA.out.b8.cell 2 _ rfl)
          have HHS := Lib.hid (fun wq (hq : Below wr.heap.size wr wq) => has_calls (.slice oa m oc) L2 s.birth wq (HJA.out.below hq).ow.rd)
          have HJ := Lib.hid hj
          clear hs hrow hj hjl
          go_wp2_with fail
          clear c2
          refine wp_region_held_drew (S := fun W => Below wr.heap.size wr W) (by kernel_rfl) (below_drew wr) (fun hHeld => ?_)
          refine wpAnyH_take (i := 0) (oi := ⟨some 43, _, _, _, _, _⟩) (v := ?_) rfl (by kernel_rfl) (by kernel_rfl) (by kernel_rfl) (fun _ _ _ h => h) (Or.inl ⟨by kernel_rfl, ?_⟩) (by assumption) ?_
          rotate_left 1
          · intro w' hw'; clear hw'; go_simp; try with_reducible rfl
          try simp only [Act.put, List.setIfInBounds_toArray, List.set_cons_zero, List.set_cons_succ]
          refine wpAnyH_take (i := 1) (oi := ⟨some 44, _, _, _, _, _⟩) (v := ?_) rfl (by kernel_rfl) (by kernel_rfl) (by kernel_rfl) (fun _ _ _ h => h) (Or.inl ⟨by kernel_rfl, ?_⟩) (by assumption) ?_
          rotate_left 1
          · intro w' hw'; have u1 := below_heap hw' HD2.out; clear hw'; go_simp; try with_reducible rfl
          try simp only [Act.put, List.setIfInBounds_toArray, List.set_cons_zero, List.set_cons_succ]
          refine wpAnyH_take (i := 2) (oi := ⟨some 45, _, _, _, _, _⟩) (v := ?_) rfl (by kernel_rfl) (by kernel_rfl) (by kernel_rfl) (fun _ _ _ h => h) (Or.inl ⟨by kernel_rfl, ?_⟩) (by assumption) ?_
          rotate_left 1
          · intro w' hw'; clear hw'; go_simp; try with_reducible rfl
          try simp only [Act.put, List.setIfInBounds_toArray, List.set_cons_zero, List.set_cons_succ]
          refine wpAnyH_take (i := 3) (oi := ⟨some 46, _, _, _, _, _⟩) (v := ?_) rfl (by kernel_rfl) (by kernel_rfl) (by kernel_rfl) (fun _ _ _ h => h) (Or.inl ⟨by kernel_rfl, ?_⟩) (by assumption) ?_
          rotate_left 1
          · intro w' hw'; have u1 := below_heap hw' HC2.out; clear hw'; go_simp; try with_reducible rfl
          try simp only [Act.put, List.setIfInBounds_toArray, List.set_cons_zero, List.set_cons_succ]
          refine wpAnyH_take (i := 4) (oi := ⟨some 47, _, _, _, _, _⟩) (v := ?_) rfl (by kernel_rfl) (by kernel_rfl) (by kernel_rfl) (fun _ _ _ h => h) (Or.inl ⟨by kernel_rfl, ?_⟩) (by assumption) ?_
          rotate_left 1
          · intro w' hw'; clear hw'; go_simp; try with_reducible rfl
          try simp only [Act.put, List.setIfInBounds_toArray, List.set_cons_zero, List.set_cons_succ]
          refine wpAnyH_take (i := 5) (oi := ⟨some 48, _, _, _, _, _⟩) (v := ?_) rfl (by kernel_rfl) (by kernel_rfl) (by kernel_rfl) (fun _ _ _ h => h) (Or.inl ⟨by kernel_rfl, ?_⟩) (by assumption) ?_
          rotate_left 1
          · intro w' hw'; clear hw'; go_simp; try with_reducible rfl
          try simp only [Act.put, List.setIfInBounds_toArray, List.set_cons_zero, List.set_cons_succ]
          refine wpAnyH_take (i := 6) (oi := ⟨some 49, _, _, _, _, _⟩) (v := ?_) rfl (by kernel_rfl) (by kernel_rfl) (by kernel_rfl) (fun _ _ _ h => h) (Or.inl ⟨by kernel_rfl, ?_⟩) (by assumption) ?_
          rotate_left 1
          · intro w' hw'; clear hw'; go_simp; try with_reducible rfl
          try simp only [Act.put, List.setIfInBounds_toArray, List.set_cons_zero, List.set_cons_succ]
          refine wpAnyH_take (i := 7) (oi := ⟨some 50, _, _, _, _, _⟩) (v := ?_) rfl (by kernel_rfl) (by kernel_rfl) (by kernel_rfl) (fun _ _ _ h => h) (Or.inl ⟨by kernel_rfl, ?_⟩) (by assumption) ?_
          rotate_left 1
          · intro w' hw'; have u1 := below_heap hw' HR1.out; clear hw'; go_simp; try with_reducible rfl
          try simp only [Act.put, List.setIfInBounds_toArray, List.set_cons_zero, List.set_cons_succ]
          refine wpAnyH_ready (rs := [8]) (by kernel_rfl) (by simp) (AllReadyH.cons (o := ⟨some 51, .call _, _, _, _, _⟩) rfl (fun K hK => ?_) AllReadyH.nil)
          go_simp
          refine (HHS.out _ hHeld).mono ?_
          rintro e5 w5 ⟨rfl, rfl⟩
          refine hK.out _ _ hHeld (fun hHeld2 => ?_)
          obtain ⟨r, hr⟩ : ∃ r, r = L2.any (fun x => x.birth == s.birth) := ⟨_, rfl⟩
          rw [← hr]
          have HRR := Lib.hid hr
          clear hK K hr hHeld
          try simp only [Act.put, List.setIfInBounds_toArray, List.set_cons_zero, List.set_cons_succ]
          refine wpAnyH_take (i := 9) (oi := ⟨some 52, _, _, _, _, _⟩) (v := ?_) rfl (by kernel_rfl) (by kernel_rfl) (by kernel_rfl) (fun _ _ _ h => h) (Or.inl ⟨by kernel_rfl, ?_⟩) (by assumption) ?_
          rotate_left 1
          · intro w' hw'; clear hw'; go_simp; try with_reducible rfl
          try simp only [Act.put, List.setIfInBounds_toArray, List.set_cons_zero, List.set_cons_succ]
          refine wpAnyH_done (by kernel_rfl) ?_ _
          have HE5 := Lib.hid (HE.out.below hHeld2)
          have c2 := below_heap hHeld2 HC2.out
          have r1 := below_heap hHeld2 HR1.out
          clear hHeld2 HE HJ1 HJA HC2 HD2 HR1 HHS
          generalize wr.drew = w5 at HE5 c2 r1 ⊢
          cases r
          rotate_left
          · clear c2 r1
            go_wp2_with fail
            go_roundg (sn - (j + 1))
            case measure => have := HGJ.out; have := HJ.out; omega
            case rel => exact ⟨j + 1, _, by have := HGJ.out; have := HJ.out; omega, by go_num, HE5.out, HD.out, by have := HEL.out; omega⟩
          have hba := below_alloc w5 (.cells #[.int .i64 s.birth] 3)
          have HE6 := Lib.hid (HE5.out.below hba)
          have HY := Lib.hid (show (w5.alloc (.cells #[.int .i64 s.birth] 3)).cell? ⟨w5.heap.size, 0, none⟩ = some (.int .i64 s.birth) from (Box.new w5 #[.int .i64 s.birth] 3).cell 0 _ rfl)
          have HB6 := Lib.hid (show q + 1 ≤ (w5.alloc (.cells #[.int .i64 s.birth] 3)).heap.size by have := HE6.out.a.j.bx.lt; omega)
          have HRM := Lib.hid (show E'.length + 1 ≤ 17592186044416 by have := HEL.out; have := HJ.out; have := HK.out; have := HLEN.out; have h1 := HE5.out.a.j.sn.len; simp only at h1; have := HSN.out; omega)
          have HDN := Lib.hid (HNEW.out s HMEM.out HRR.out.symm)
          clear hba HE5
          go_wp2_with (at_builtin; refine appNum rfl _ _ rfl (q + 1) _ E' rfl HE6.out.e w5.heap.size 1 s.birth rfl HY.out HRM.out HB6.out ?_)
          intro v' w7 hown' hg' hmv
          have HE7 := Lib.hid (HE6.out.app hown' hg' hmv)
          clear hown' hg' hmv HE6 HY HB6 HRM c2 r1
          go_wp2_with fail
          go_roundg (sn - (j + 1))
          case measure => have := HGJ.out; have := HJ.out; omega
          case rel => exact ⟨j + 1, _, by have := HGJ.out; have := HJ.out; omega, by go_num, HE7.out, fun b hb => by
              rcases List.mem_append.1 hb with hb | hb
              · exact HD.out b hb
              · rw [List.mem_singleton.1 hb]; exact HDN.out, by have := HEL.out; simp only [List.length_append, List.length_singleton]; omega⟩
        have j1 : ¬ (j : Int) < (sn : Int) := by omega
        obtain ⟨wz, hwz⟩ : ∃ wz, wz = wr := ⟨_, rfl⟩
        rw [← hwz] at HE HJ1 HJA c2 ⊢
        clear hwz hj
        have hput := HJ1.out.put C2 B2 (.slice oa m oc) L2 HJA.out.ow HSN3.out
        have HS9 := Lib.hid (show EnS w (((wz.setCell ⟨q, 0, none⟩ (.int .i64 C2)).setCell ⟨q, 1, none⟩ (.int .i64 B2)).setCell ⟨q, 2, none⟩ (.slice oa m oc)) q C2 B2 (.slice oa m oc) L2 (.slice ea en' ecc) E' from
          ⟨hput, HE.out.e.mod (Mod.set3 q wz (.int .i64 C2) (.int .i64 B2) (.slice oa m oc)) (fun k hk e => by have := (HE.out.e.lt k hk).1; omega), HE.out.n2, HD.out⟩)
        have HELS := Lib.hid (show E'.length ≤ 32 * (k + 1) by have := HEL.out; have h1 := HJ1.out.sn.len; simp only at h1; have := HSN.out; have := HGJ.out; omega)
        clear hput
        have x0 : (wz).cell? ⟨q, 0, none⟩ = some (.int .i64 C) := HJ1.out.bx.cell 0 _ rfl
        have f0 := HJ1.out.bx.free 0
        have x1 : (wz).cell? ⟨q, 1, none⟩ = some (.int .i64 B) := HJ1.out.bx.cell 1 _ rfl
        have f1 := HJ1.out.bx.free 1
        have x2 : (wz).cell? ⟨q, 2, none⟩ = some (.slice sa sn sc) := HJ1.out.bx.cell 2 _ rfl
        have f2 := HJ1.out.bx.free 2
        have d0 : (wz).cell? ⟨q8, 0, none⟩ = some (.int .i64 C2) := HJA.out.b8.cell 0 _ rfl
        have d1 : (wz).cell? ⟨q8, 1, none⟩ = some (.int .i64 B2) := HJA.out.b8.cell 1 _ rfl
        have d2 : (wz).cell? ⟨q8, 2, none⟩ = some (.slice oa m oc) := HJA.out.b8.cell 2 _ rfl
        clear HE HJ1 HJA HD HEL HNEW
        go_wp2_with fail
        generalize ((wz.setCell ⟨q, 0, none⟩ (.int .i64 C2)).setCell ⟨q, 1, none⟩ (.int .i64 B2)).setCell ⟨q, 2, none⟩ (.slice oa m oc) = wy at HS9 ⊢
        clear x0 x1 x2 d0 d1 d2 f0 f1 f2 c2
        go_loopg [9] en' (fun gi iv wr => ∃ i : Nat, gi + i = en' ∧ iv = .int .i64 (i : Int) ∧ EnS w wr q C2 B2 (.slice oa m oc) L2 (.slice ea en' ecc) E')
        case atStart => exact ⟨0, Nat.add_zero _, rfl, HS9.out⟩
        case round =>
          clear HS9
          obtain ⟨i, hgi, rfl, hS⟩ := hrel
          have i0 : (0 : Int) ≤ (i : Int) := by omega
          have HGI := Lib.hid hgi
          have HS := Lib.hid hS
          clear hgi hS
          by_cases hi : i < en'
          rotate_left
          · have i1 : ¬ (i : Int) < (en' : Int) := by omega
            clear hi
            go_wp2_with fail
            go_roundg (n - (k + 1))
            case measure => have := HGK.out; have := HK.out; omega
            case rel => exact ⟨k + 1, _, _, _, _, _, by have := HGK.out; have := HK.out; omega, by go_num, HS.out, HELS.out⟩
          have i1 : (i : Int) < (en' : Int) := by omega
          have hil : i < E'.length := by have := HEN.out; omega
          obtain ⟨b, hb⟩ : ∃ b, b = E'[i] := ⟨_, rfl⟩
          obtain ⟨eb, eo, hea, hcell⟩ := HS.out.e.at i hil
          subst hea
          rw [← hb] at hcell
          have HAN := Lib.hid (HS.out.there b (by rw [hb]; exact List.getElem_mem hil))
          have HC2 := Lib.hid (show wr.cell? ⟨q, 2, none⟩ = some (.slice oa m oc) from HS.out.j.bx.cell 2 _ rfl)
          have HR1 := Lib.hid hcell
          have HHS := Lib.hid (fun wq (hq : Below wr.heap.size wr wq) => has_calls (.slice oa m oc) L2 b wq (HS.out.below hq).j.ow.rd)
          have HI3 := Lib.hid hi
          clear hb hcell hi hil
          go_wp2_with fail
          refine wp_region_held_drew (S := fun W => Below wr.heap.size wr W) (by kernel_rfl) (below_drew wr) (fun hHeld => ?_)
          refine wpAnyH_take (i := 0) (oi := ⟨some 69, _, _, _, _, _⟩) (v := ?_) rfl (by kernel_rfl) (by kernel_rfl) (by kernel_rfl) (fun _ _ _ h => h) (Or.inl ⟨by kernel_rfl, ?_⟩) (by assumption) ?_
          rotate_left 1
          · intro w' hw'; clear hw'; go_simp; try with_reducible rfl
          try simp only [Act.put, List.setIfInBounds_toArray, List.set_cons_zero, List.set_cons_succ]
          refine wpAnyH_take (i := 1) (oi := ⟨some 70, _, _, _, _, _⟩) (v := ?_) rfl (by kernel_rfl) (by kernel_rfl) (by kernel_rfl) (fun _ _ _ h => h) (Or.inl ⟨by kernel_rfl, ?_⟩) (by assumption) ?_
          rotate_left 1
          · intro w' hw'; have u1 := below_heap hw' HC2.out; clear hw'; go_simp; try with_reducible rfl
          try simp only [Act.put, List.setIfInBounds_toArray, List.set_cons_zero, List.set_cons_succ]
          refine wpAnyH_take (i := 2) (oi := ⟨some 71, _, _, _, _, _⟩) (v := ?_) rfl (by kernel_rfl) (by kernel_rfl) (by kernel_rfl) (fun _ _ _ h => h) (Or.inl ⟨by kernel_rfl, ?_⟩) (by assumption) ?_
          rotate_left 1
          · intro w' hw'; clear hw'; go_simp; try with_reducible rfl
          try simp only [Act.put, List.setIfInBounds_toArray, List.set_cons_zero, List.set_cons_succ]
          refine wpAnyH_take (i := 3) (oi := ⟨some 72, _, _, _, _, _⟩) (v := ?_) rfl (by kernel_rfl) (by kernel_rfl) (by kernel_rfl) (fun _ _ _ h => h) (Or.inl ⟨by kernel_rfl, ?_⟩) (by assumption) ?_
          rotate_left 1
          · intro w' hw'; clear hw'; go_simp; try with_reducible rfl
          try simp only [Act.put, List.setIfInBounds_toArray, List.set_cons_zero, List.set_cons_succ]
          refine wpAnyH_take (i := 4) (oi := ⟨some 73, _, _, _, _, _⟩) (v := ?_) rfl (by kernel_rfl) (by kernel_rfl) (by kernel_rfl) (fun _ _ _ h => h) (Or.inl ⟨by kernel_rfl, ?_⟩) (by assumption) ?_
          rotate_left 1
          · intro w' hw'; clear hw'; go_simp; try with_reducible rfl
          try simp only [Act.put, List.setIfInBounds_toArray, List.set_cons_zero, List.set_cons_succ]
          refine wpAnyH_take (i := 5) (oi := ⟨some 74, _, _, _, _, _⟩) (v := ?_) rfl (by kernel_rfl) (by kernel_rfl) (by kernel_rfl) (fun _ _ _ h => h) (Or.inl ⟨by kernel_rfl, ?_⟩) (by assumption) ?_
          rotate_left 1
          · intro w' hw'; have u1 := below_heap hw' HR1.out; clear hw'; go_simp; try with_reducible rfl
          try simp only [Act.put, List.setIfInBounds_toArray, List.set_cons_zero, List.set_cons_succ]
          refine wpAnyH_ready (rs := [6]) (by kernel_rfl) (by simp) (AllReadyH.cons (o := ⟨some 75, .call _, _, _, _, _⟩) rfl (fun K hK => ?_) AllReadyH.nil)
          go_simp
          refine (HHS.out _ hHeld).mono ?_
          rintro e5 w5 ⟨rfl, rfl⟩
          refine hK.out _ _ hHeld (fun hHeld2 => ?_)
          rw [HAN.out]
          clear hK K hHeld
          try simp only [Act.put, List.setIfInBounds_toArray, List.set_cons_zero, List.set_cons_succ]
          refine wpAnyH_done (by kernel_rfl) ?_ _
          have HS5 := Lib.hid (HS.out.below hHeld2)
          clear hHeld2 HS HC2 HR1 HHS HAN
          go_wp2_with fail
          go_roundg (en' - (i + 1))
          case measure => have := HGI.out; have := HI3.out; omega
          case rel => exact ⟨i + 1, by have := HGI.out; have := HI3.out; omega, by go_num, HS5.out⟩
    · go_simp
      have hba := below_alloc wr.drew (.cells #[.int .i64 0, .int .i64 0, .slice none 0 0] 24)
      have hHeldA := below_trans hHeld hba
      refine hK.out _ _ hHeldA (fun hHeld2 => ?_)
      have HXA := Lib.hid (show Box (wr.drew.alloc (.cells #[.int .i64 0, .int .i64 0, .slice none 0 0] 24)) wr.heap.size #[.int .i64 0, .int .i64 0, .slice none 0 0] 24 from Box.new wr.drew #[.int .i64 0, .int .i64 0, .slice none 0 0] 24)
      clear hK K
      try simp only [Act.put, List.setIfInBounds_toArray, List.set_cons_zero, List.set_cons_succ]
      refine wpAnyH_ready (rs := [5]) (by kernel_rfl) (by simp) (AllReadyH.cons (o := ⟨some 31, .call _, _, _, _, _⟩) rfl (fun K hK => ?_) AllReadyH.nil)
      go_simp
      refine (HCA.out _ hHeldA).mono ?_
      rintro e3 w3 ⟨o, rfl, ho, hb3⟩
      have hHeld3 := below_trans hHeldA hb3
      refine hK.out _ _ hHeld3 (fun _ => ?_)
      obtain ⟨oa, oc, rfl, _⟩ := ho.slice
      rw [← HM.out] at ho ⊢
      have HX8 := Lib.hid (HXA.out.below hb3)
      have HQ8 := Lib.hid (Nat.le_refl wr.heap.size)
      have HO8 := Lib.hid (ho.base (base' := wr.heap.size) (Nat.le_of_lt HXA.out.lt))
      have HNE8 := Lib.hid (show ∀ k, (Value.slice oa m oc).ownBlock = some k → k ≠ wr.heap.size from fun k hk e => by have := (ho.lt k hk).1; have := HXA.out.lt; omega)
      clear hK K ho hb3 HXA hHeldA hHeld hHeld2
      try simp only [Act.put, List.setIfInBounds_toArray, List.set_cons_zero, List.set_cons_succ]
      refine wpAnyH_take (i := 6) (oi := ⟨some 25, _, _, _, _, _⟩) (v := ?_) rfl (by kernel_rfl) (by kernel_rfl) (by kernel_rfl) (fun _ _ _ h => h) (Or.inl ⟨by kernel_rfl, ?_⟩) (by assumption) ?_
      rotate_left 1
      · intro w' hw'; clear hw'; go_simp; try with_reducible rfl
      try simp only [Act.put, List.setIfInBounds_toArray, List.set_cons_zero, List.set_cons_succ]
      refine wpAnyH_take (i := 7) (oi := ⟨some 32, _, _, _, _, _⟩) (v := ?_) rfl (by kernel_rfl) (by kernel_rfl) (by kernel_rfl) (fun _ _ _ h => h) (Or.inl ⟨by kernel_rfl, ?_⟩) (by assumption) ?_
      rotate_left 1
      · intro w' hw'; clear hw'; go_simp; try with_reducible rfl
      try simp only [Act.put, List.setIfInBounds_toArray, List.set_cons_zero, List.set_cons_succ]
      refine wpAnyH_take (i := 8) (oi := ⟨some 33, _, _, _, _, _⟩) (v := ?_) rfl (by kernel_rfl) (by kernel_rfl) (by kernel_rfl) (fun _ _ _ h => h) (Or.inl ⟨by kernel_rfl, ?_⟩) (by assumption) ?_
      rotate_left 1
      · intro w' hw'; clear hw'; go_simp; try with_reducible rfl
      try simp only [Act.put, List.setIfInBounds_toArray, List.set_cons_zero, List.set_cons_succ]
      refine wpAnyH_ready (rs := [10]) (by kernel_rfl) (by simp) (AllReadyH.cons (o := ⟨none, .store 24 (.tmp 6) (.tmp 32), _, _, _, none⟩) rfl (fun K hK => ?_) AllReadyH.nil)
      rw [if_pos (by kernel_rfl)]
      refine wp_store_kk 24 (.tmp 6) (.tmp 32) rfl (wr.heap.size) 0 [.int .i64 C2, .int .i64 B2, .slice oa m oc] rfl rfl HX8.out.there3 (by kernel_rfl) (one3 _ _ _ _ _) ?_
      obtain ⟨hx9, hm9⟩ := HX8.out.set3 (.int .i64 C2) (.int .i64 B2) (.slice oa m oc)
      have HW9 := Lib.hid (hm9.below (B := wr.heap.size) (by have := HX8.out.lt; have := HQ8.out; omega) (fun i hi => by have := HQ8.out; omega))
      refine hK.out _ _ (hHeld3.trans (HW9.out)) (fun hHeld4 => ?_)
      have HN2 := Lib.hid (show ∀ k, (Value.slice oa m oc).ownBlock = some k → B9 ≤ k from fun k hk => by rw [HB9.out]; exact (HO8.out.lt k hk).1)
      have HN8 := Lib.hid (show B9 ≤ wr.heap.size from by rw [HB9.out]; exact HQ8.out)
      have HAJ := Lib.hid (show AppI w _ q (wr.heap.size) C B (.slice sa sn sc) L C2 B2 (.slice oa m oc) L2 from
        ⟨HI.out.below hHeld4, hx9, (HO8.out.mod hm9 (fun k hk e => HNE8.out k hk e)).base (show q + 1 ≤ wr.heap.size by have := HSQ.out; omega), by have h2 : wr.heap.size ≤ wr.heap.size := HQ8.out; have := HSQ.out; omega⟩)
      have HBK := Lib.hid hHeld4
      clear hK K hx9 hm9 HW9 HX8 HO8 HNE8 hHeld3 HCA HROW
      have HW9 := HBK
      clear HBK
      generalize (World.setCells _ _ _ _) = w9 at HAJ HW9 hHeld4 ⊢
      clear HQ8
      try simp only [Act.put]
      refine wpAnyH_take (i := 11) (oi := ⟨some 7, _, _, _, _, _⟩) (v := ?_) rfl (by kernel_rfl) (by kernel_rfl) (by kernel_rfl) (fun _ _ _ h => h) (Or.inl ⟨by kernel_rfl, ?_⟩) (by assumption) ?_
      rotate_left 1
      · intro w' hw'; clear hw'; go_simp; try with_reducible rfl
      try simp only [Act.put, List.setIfInBounds_toArray, List.set_cons_zero, List.set_cons_succ]
      refine wpAnyH_done (by kernel_rfl) ?_ _
      clear hHeld4
      generalize (wr.heap.size) = q8 at HAJ HN8 ⊢
      by_cases h0 : er = 0
      rotate_left
      · rw [errV_nz h0]
        have HSX := Lib.hid (show EnS w w9 q C B (.slice sa sn sc) L (.slice oa4 en oc4) E from ⟨HAJ.out.j, HSL.out w9 HW9.out, HN1.out, HEE.out⟩)
        clear h0 HAJ HSN2 HAE HSL HEE HOLT HN1 HW9
        go_wp2_with fail
        go_roundg (n - (k + 1))
        case measure => have := HGK.out; have := HK.out; omega
        case rel => exact ⟨k + 1, _, _, _, _, _, by have := HGK.out; have := HK.out; omega, by go_num, HSX.out, by have := HEL.out; have := HEN.out; omega⟩
      subst h0
      rw [show errV 0 = .nilIface from rfl]
      have HED := Lib.hid (show ∀ b ∈ E, Ended ⟨C2, B2, L2⟩ b from fun b hb => by
        have h := Ended.apply HAJ.out.j.sn (e := e) (by rw [HAE.out]) (HEE.out b hb)
        rw [HAE.out] at h; exact h)
      have HNEW := Lib.hid (show ∀ s ∈ L, L2.any (fun x => x.birth == s.birth) = false → Ended ⟨C2, B2, L2⟩ s.birth from fun s hs hn => by
        have h := Ended.new HAJ.out.j.sn (e := e) (by rw [HAE.out]) hs (by
          rw [HAE.out]
          intro x hx hxe
          exact List.any_eq_false.1 hn x hx (by simpa using hxe))
        rw [HAE.out] at h; exact h)
      have HSN3 := Lib.hid (HSN2.out rfl)
      have HE9 := Lib.hid (show EnI w w9 q q8 C B (.slice sa sn sc) L C2 B2 (.slice oa m oc) L2 (.slice oa4 en oc4) E from
        ⟨HAJ.out, HSL.out w9 HW9.out, HN1.out, fun k h1 h2 => by have := HOLT.out k h1; have := HN2.out k h2; omega, fun k h1 e => by have := HOLT.out k h1; have := HN8.out; omega⟩)
      have hsn63 : sn ≤ 32 := by have h := HAJ.out.j.sn.len; simp only at h; have := HSN.out; omega
      clear HAJ HSN2 HAE HSL HEE HOLT HN1 HW9 HN2 HN8 HI
      go_wp2_with fail
      go_loopg [4, 8] sn (fun gj ov jv wr => ∃ (j : Nat) (E' : List Int), gj + j = sn ∧ jv = .int .i64 (j : Int) ∧ EnI w wr q q8 C B (.slice sa sn sc) L C2 B2 (.slice oa m oc) L2 ov E' ∧ (∀ b ∈ E', Ended ⟨C2, B2, L2⟩ b) ∧ E'.length ≤ 32 * k + j)
      case atStart => exact ⟨0, E, Nat.add_zero _, rfl, HE9.out, HED.out, by have := HEL.out; have := HEN.out; omega⟩
      case round =>
        clear HE9 HED HEL HEN
        obtain ⟨j, E', hgj, rfl, hE, hD, hEl⟩ := hrel
        have j0 : (0 : Int) ≤ (j : Int) := by omega
        have HGJ := Lib.hid hgj
        have HD := Lib.hid hD
        have HEL := Lib.hid hEl
        have HE := Lib.hid hE
        have HJ1 := Lib.hid hE.a.j
        have HJA := Lib.hid hE.a
        obtain ⟨ea, ecc, rfl, _⟩ := hE.e.slice
        obtain ⟨en', hEN⟩ : ∃ en', en' = E'.length := ⟨_, rfl⟩
        rw [← hEN] at HE ⊢
        have hen63 : en' ≤ 9223372036854775807 := by have h1 := hEl; have h2 := HK.out; have h3 := HLEN.out; have h4 := HGJ.out; omega
        have HEN := Lib.hid hEN
        have c2 : wr.cell? ⟨q, 2, none⟩ = some (.slice sa sn sc) := HJ1.out.bx.cell 2 _ rfl
        clear hgj hE hD hEl hEN
        by_cases hj : j < sn
        · have j1 : (j : Int) < (sn : Int) := by omega
          have hjl : j < L.length := by have := HSN.out; omega
          obtain ⟨s, hs⟩ : ∃ s, s = L[j] := ⟨_, rfl⟩
          obtain ⟨rb2, ro2, hra, hrow⟩ := HJ1.out.ow.rd.row j hjl
          subst hra
          rw [← hs] at hrow
          have HR1 := Lib.hid (show wr.cell? ⟨rb2, ro2 + j * 12 + 1, none⟩ = some (.int .i64 s.birth) from hrow 1 _ rfl)
          have HMEM := Lib.hid (show s ∈ L by rw [hs]; exact List.getElem_mem hjl)
          have HC2 := Lib.hid c2
          have HD2 := Lib.hid (show wr.cell? ⟨q8, 2, none⟩ = some (.slice oa m oc) from HJA.out.b8.cell 2 _ rfl)
          have HHS := Lib.hid (fun wq (hq : Below wr.heap.size wr wq) => has_calls (.slice oa m oc) L2 s.birth wq (HJA.out.below hq).ow.rd)
          have HJ := Lib.hid hj
          clear hs hrow hj hjl
          go_wp2_with fail
          clear c2
          refine wp_region_held_drew (S := fun W => Below wr.heap.size wr W) (by kernel_rfl) (below_drew wr) (fun hHeld => ?_)
          refine wpAnyH_take (i := 0) (oi := ⟨some 43, _, _, _, _, _⟩) (v := ?_) rfl (by kernel_rfl) (by kernel_rfl) (by kernel_rfl) (fun _ _ _ h => h) (Or.inl ⟨by kernel_rfl, ?_⟩) (by assumption) ?_
          rotate_left 1
          · intro w' hw'; clear hw'; go_simp; try with_reducible rfl
          try simp only [Act.put, List.setIfInBounds_toArray, List.set_cons_zero, List.set_cons_succ]
          refine wpAnyH_take (i := 1) (oi := ⟨some 44, _, _, _, _, _⟩) (v := ?_) rfl (by kernel_rfl) (by kernel_rfl) (by kernel_rfl) (fun _ _ _ h => h) (Or.inl ⟨by kernel_rfl, ?_⟩) (by assumption) ?_
          rotate_left 1
          · intro w' hw'; have u1 := below_heap hw' HD2.out; clear hw'; go_simp; try with_reducible rfl
          try simp only [Act.put, List.setIfInBounds_toArray, List.set_cons_zero, List.set_cons_succ]
          refine wpAnyH_take (i := 2) (oi := ⟨some 45, _, _, _, _, _⟩) (v := ?_) rfl (by kernel_rfl) (by kernel_rfl) (by kernel_rfl) (fun _ _ _ h => h) (Or.inl ⟨by kernel_rfl, ?_⟩) (by assumption) ?_
          rotate_left 1
          · intro w' hw'; clear hw'; go_simp; try with_reducible rfl
          try simp only [Act.put, List.setIfInBounds_toArray, List.set_cons_zero, List.set_cons_succ]
          refine wpAnyH_take (i := 3) (oi := ⟨some 46, _, _, _, _, _⟩) (v := ?_) rfl (by kernel_rfl) (by kernel_rfl) (by kernel_rfl) (fun _ _ _ h => h) (Or.inl ⟨by kernel_rfl, ?_⟩) (by assumption) ?_
          rotate_left 1
          · intro w' hw'; have u1 := below_heap hw' HC2.out; clear hw'; go_simp; try with_reducible rfl
          try simp only [Act.put, List.setIfInBounds_toArray, List.set_cons_zero, List.set_cons_succ]
          refine wpAnyH_take (i := 4) (oi := ⟨some 47, _, _, _, _, _⟩) (v := ?_) rfl (by kernel_rfl) (by kernel_rfl) (by kernel_rfl) (fun _ _ _ h => h) (Or.inl ⟨by kernel_rfl, ?_⟩) (by assumption) ?_
          rotate_left 1
          · intro w' hw'; clear hw'; go_simp; try with_reducible rfl
          try simp only [Act.put, List.setIfInBounds_toArray, List.set_cons_zero, List.set_cons_succ]
          refine wpAnyH_take (i := 5) (oi := ⟨some 48, _, _, _, _, _⟩) (v := ?_) rfl (by kernel_rfl) (by kernel_rfl) (by kernel_rfl) (fun _ _ _ h => h) (Or.inl ⟨by kernel_rfl, ?_⟩) (by assumption) ?_
          rotate_left 1
          · intro w' hw'; clear hw'; go_simp; try with_reducible rfl
          try simp only [Act.put, List.setIfInBounds_toArray, List.set_cons_zero, List.set_cons_succ]
          refine wpAnyH_take (i := 6) (oi := ⟨some 49, _, _, _, _, _⟩) (v := ?_) rfl (by kernel_rfl) (by kernel_rfl) (by kernel_rfl) (fun _ _ _ h => h) (Or.inl ⟨by kernel_rfl, ?_⟩) (by assumption) ?_
          rotate_left 1
          · intro w' hw'; clear hw'; go_simp; try with_reducible rfl
          try simp only [Act.put, List.setIfInBounds_toArray, List.set_cons_zero, List.set_cons_succ]
          refine wpAnyH_take (i := 7) (oi := ⟨some 50, _, _, _, _, _⟩) (v := ?_) rfl (by kernel_rfl) (by kernel_rfl) (by kernel_rfl) (fun _ _ _ h => h) (Or.inl ⟨by kernel_rfl, ?_⟩) (by assumption) ?_
          rotate_left 1
          · intro w' hw'; have u1 := below_heap hw' HR1.out; clear hw'; go_simp; try with_reducible rfl
          try simp only [Act.put, List.setIfInBounds_toArray, List.set_cons_zero, List.set_cons_succ]
          refine wpAnyH_ready (rs := [8]) (by kernel_rfl) (by simp) (AllReadyH.cons (o := ⟨some 51, .call _, _, _, _, _⟩) rfl (fun K hK => ?_) AllReadyH.nil)
          go_simp
          refine (HHS.out _ hHeld).mono ?_
          rintro e5 w5 ⟨rfl, rfl⟩
          refine hK.out _ _ hHeld (fun hHeld2 => ?_)
          obtain ⟨r, hr⟩ : ∃ r, r = L2.any (fun x => x.birth == s.birth) := ⟨_, rfl⟩
          rw [← hr]
          have HRR := Lib.hid hr
          clear hK K hr hHeld
          try simp only [Act.put, List.setIfInBounds_toArray, List.set_cons_zero, List.set_cons_succ]
          refine wpAnyH_take (i := 9) (oi := ⟨some 52, _, _, _, _, _⟩) (v := ?_) rfl (by kernel_rfl) (by kernel_rfl) (by kernel_rfl) (fun _ _ _ h => h) (Or.inl ⟨by kernel_rfl, ?_⟩) (by assumption) ?_
          rotate_left 1
          · intro w' hw'; clear hw'; go_simp; try with_reducible rfl
          try simp only [Act.put, List.setIfInBounds_toArray, List.set_cons_zero, List.set_cons_succ]
          refine wpAnyH_done (by kernel_rfl) ?_ _
          have HE5 := Lib.hid (HE.out.below hHeld2)
          have c2 := below_heap hHeld2 HC2.out
          have r1 := below_heap hHeld2 HR1.out
          clear hHeld2 HE HJ1 HJA HC2 HD2 HR1 HHS
          generalize wr.drew = w5 at HE5 c2 r1 ⊢
          cases r
          rotate_left
          · clear c2 r1
            go_wp2_with fail
            go_roundg (sn - (j + 1))
            case measure => have := HGJ.out; have := HJ.out; omega
            case rel => exact ⟨j + 1, _, by have := HGJ.out; have := HJ.out; omega, by go_num, HE5.out, HD.out, by have := HEL.out; omega⟩
          have hba := below_alloc w5 (.cells #[.int .i64 s.birth] 3)
          have HE6 := Lib.hid (HE5.out.below hba)
          have HY := Lib.hid (show (w5.alloc (.cells #[.int .i64 s.birth] 3)).cell? ⟨w5.heap.size, 0, none⟩ = some (.int .i64 s.birth) from (Box.new w5 #[.int .i64 s.birth] 3).cell 0 _ rfl)
          have HB6 := Lib.hid (show q + 1 ≤ (w5.alloc (.cells #[.int .i64 s.birth] 3)).heap.size by have := HE6.out.a.j.bx.lt; omega)
          have HRM := Lib.hid (show E'.length + 1 ≤ 17592186044416 by have := HEL.out; have := HJ.out; have := HK.out; have := HLEN.out; have h1 := HE5.out.a.j.sn.len; simp only at h1; have := HSN.out; omega)
          have HDN := Lib.hid (HNEW.out s HMEM.out HRR.out.symm)
          clear hba HE5
          go_wp2_with (at_builtin; refine appNum rfl _ _ rfl (q + 1) _ E' rfl HE6.out.e w5.heap.size 1 s.birth rfl HY.out HRM.out HB6.out ?_)
          intro v' w7 hown' hg' hmv
          have HE7 := Lib.hid (HE6.out.app hown' hg' hmv)
          clear hown' hg' hmv HE6 HY HB6 HRM c2 r1
          go_wp2_with fail
          go_roundg (sn - (j + 1))
          case measure => have := HGJ.out; have := HJ.out; omega
          case rel => exact ⟨j + 1, _, by have := HGJ.out; have := HJ.out; omega, by go_num, HE7.out, fun b hb => by
              rcases List.mem_append.1 hb with hb | hb
              · exact HD.out b hb
              · rw [List.mem_singleton.1 hb]; exact HDN.out, by have := HEL.out; simp only [List.length_append, List.length_singleton]; omega⟩
        have j1 : ¬ (j : Int) < (sn : Int) := by omega
        obtain ⟨wz, hwz⟩ : ∃ wz, wz = wr := ⟨_, rfl⟩
        rw [← hwz] at HE HJ1 HJA c2 ⊢
        clear hwz hj
        have hput := HJ1.out.put C2 B2 (.slice oa m oc) L2 HJA.out.ow HSN3.out
        have HS9 := Lib.hid (show EnS w (((wz.setCell ⟨q, 0, none⟩ (.int .i64 C2)).setCell ⟨q, 1, none⟩ (.int .i64 B2)).setCell ⟨q, 2, none⟩ (.slice oa m oc)) q C2 B2 (.slice oa m oc) L2 (.slice ea en' ecc) E' from
          ⟨hput, HE.out.e.mod (Mod.set3 q wz (.int .i64 C2) (.int .i64 B2) (.slice oa m oc)) (fun k hk e => by have := (HE.out.e.lt k hk).1; omega), HE.out.n2, HD.out⟩)
        have HELS := Lib.hid (show E'.length ≤ 32 * (k + 1) by have := HEL.out; have h1 := HJ1.out.sn.len; simp only at h1; have := HSN.out; have := HGJ.out; omega)
        clear hput
        have x0 : (wz).cell? ⟨q, 0, none⟩ = some (.int .i64 C) := HJ1.out.bx.cell 0 _ rfl
        have f0 := HJ1.out.bx.free 0
        have x1 : (wz).cell? ⟨q, 1, none⟩ = some (.int .i64 B) := HJ1.out.bx.cell 1 _ rfl
        have f1 := HJ1.out.bx.free 1
        have x2 : (wz).cell? ⟨q, 2, none⟩ = some (.slice sa sn sc) := HJ1.out.bx.cell 2 _ rfl
        have f2 := HJ1.out.bx.free 2
        have d0 : (wz).cell? ⟨q8, 0, none⟩ = some (.int .i64 C2) := HJA.out.b8.cell 0 _ rfl
        have d1 : (wz).cell? ⟨q8, 1, none⟩ = some (.int .i64 B2) := HJA.out.b8.cell 1 _ rfl
        have d2 : (wz).cell? ⟨q8, 2, none⟩ = some (.slice oa m oc) := HJA.out.b8.cell 2 _ rfl
        clear HE HJ1 HJA HD HEL HNEW
        go_wp2_with fail
        generalize ((wz.setCell ⟨q, 0, none⟩ (.int .i64 C2)).setCell ⟨q, 1, none⟩ (.int .i64 B2)).setCell ⟨q, 2, none⟩ (.slice oa m oc) = wy at HS9 ⊢
        clear x0 x1 x2 d0 d1 d2 f0 f1 f2 c2
        go_loopg [9] en' (fun gi iv wr => ∃ i : Nat, gi + i = en' ∧ iv = .int .i64 (i : Int) ∧ EnS w wr q C2 B2 (.slice oa m oc) L2 (.slice ea en' ecc) E')
        case atStart => exact ⟨0, Nat.add_zero _, rfl, HS9.out⟩
        case round =>
          clear HS9
          obtain ⟨i, hgi, rfl, hS⟩ := hrel
          have i0 : (0 : Int) ≤ (i : Int) := by omega
          have HGI := Lib.hid hgi
          have HS := Lib.hid hS
          clear hgi hS
          by_cases hi : i < en'
          rotate_left
          · have i1 : ¬ (i : Int) < (en' : Int) := by omega
            clear hi
            go_wp2_with fail
            go_roundg (n - (k + 1))
            case measure => have := HGK.out; have := HK.out; omega
            case rel => exact ⟨k + 1, _, _, _, _, _, by have := HGK.out; have := HK.out; omega, by go_num, HS.out, HELS.out⟩
          have i1 : (i : Int) < (en' : Int) := by omega
          have hil : i < E'.length := by have := HEN.out; omega
          obtain ⟨b, hb⟩ : ∃ b, b = E'[i] := ⟨_, rfl⟩
          obtain ⟨eb, eo, hea, hcell⟩ := HS.out.e.at i hil
          subst hea
          rw [← hb] at hcell
          have HAN := Lib.hid (HS.out.there b (by rw [hb]; exact List.getElem_mem hil))
          have HC2 := Lib.hid (show wr.cell? ⟨q, 2, none⟩ = some (.slice oa m oc) from HS.out.j.bx.cell 2 _ rfl)
          have HR1 := Lib.hid hcell
          have HHS := Lib.hid (fun wq (hq : Below wr.heap.size wr wq) => has_calls (.slice oa m oc) L2 b wq (HS.out.below hq).j.ow.rd)
          have HI3 := Lib.hid hi
          clear hb hcell hi hil
          go_wp2_with fail
          refine wp_region_held_drew (S := fun W => Below wr.heap.size wr W) (by kernel_rfl) (below_drew wr) (fun hHeld => ?_)
          refine wpAnyH_take (i := 0) (oi := ⟨some 69, _, _, _, _, _⟩) (v := ?_) rfl (by kernel_rfl) (by kernel_rfl) (by kernel_rfl) (fun _ _ _ h => h) (Or.inl ⟨by kernel_rfl, ?_⟩) (by assumption) ?_
          rotate_left 1
          · intro w' hw'; clear hw'; go_simp; try with_reducible rfl
          try simp only [Act.put, List.setIfInBounds_toArray, List.set_cons_zero, List.set_cons_succ]
          refine wpAnyH_take (i := 1) (oi := ⟨some 70, _, _, _, _, _⟩) (v := ?_) rfl (by kernel_rfl) (by kernel_rfl) (by kernel_rfl) (fun _ _ _ h => h) (Or.inl ⟨by kernel_rfl, ?_⟩) (by assumption) ?_
          rotate_left 1
          · intro w' hw'; have u1 := below_heap hw' HC2.out; clear hw'; go_simp; try with_reducible rfl
          try simp only [Act.put, List.setIfInBounds_toArray, List.set_cons_zero, List.set_cons_succ]
          refine wpAnyH_take (i := 2) (oi := ⟨some 71, _, _, _, _, _⟩) (v := ?_) rfl (by kernel_rfl) (by kernel_rfl) (by kernel_rfl) (fun _ _ _ h => h) (Or.inl ⟨by kernel_rfl, ?_⟩) (by assumption) ?_
          rotate_left 1
          · intro w' hw'; clear hw'; go_simp; try with_reducible rfl
          try simp only [Act.put, List.setIfInBounds_toArray, List.set_cons_zero, List.set_cons_succ]
          refine wpAnyH_take (i := 3) (oi := ⟨some 72, _, _, _, _, _⟩) (v := ?_) rfl (by kernel_rfl) (by kernel_rfl) (by kernel_rfl) (fun _ _ _ h => h) (Or.inl ⟨by kernel_rfl, ?_⟩) (by assumption) ?_
          rotate_left 1
          · intro w' hw'; clear hw'; go_simp; try with_reducible rfl
          try simp only [Act.put, List.setIfInBounds_toArray, List.set_cons_zero, List.set_cons_succ]
          refine wpAnyH_take (i := 4) (oi := ⟨some 73, _, _, _, _, _⟩) (v := ?_) rfl (by kernel_rfl) (by kernel_rfl) (by kernel_rfl) (fun _ _ _ h => h) (Or.inl ⟨by kernel_rfl, ?_⟩) (by assumption) ?_
          rotate_left 1
          · intro w' hw'; clear hw'; go_simp; try with_reducible rfl
          try simp only [Act.put, List.setIfInBounds_toArray, List.set_cons_zero, List.set_cons_succ]
          refine wpAnyH_take (i := 5) (oi := ⟨some 74, _, _, _, _, _⟩) (v := ?_) rfl (by kernel_rfl) (by kernel_rfl) (by kernel_rfl) (fun _ _ _ h => h) (Or.inl ⟨by kernel_rfl, ?_⟩) (by assumption) ?_
          rotate_left 1
          · intro w' hw'; have u1 := below_heap hw' HR1.out; clear hw'; go_simp; try with_reducible rfl
          try simp only [Act.put, List.setIfInBounds_toArray, List.set_cons_zero, List.set_cons_succ]
          refine wpAnyH_ready (rs := [6]) (by kernel_rfl) (by simp) (AllReadyH.cons (o := ⟨some 75, .call _, _, _, _, _⟩) rfl (fun K hK => ?_) AllReadyH.nil)
          go_simp
          refine (HHS.out _ hHeld).mono ?_
          rintro e5 w5 ⟨rfl, rfl⟩
          refine hK.out _ _ hHeld (fun hHeld2 => ?_)
          rw [HAN.out]
          clear hK K hHeld
          try simp only [Act.put, List.setIfInBounds_toArray, List.set_cons_zero, List.set_cons_succ]
          refine wpAnyH_done (by kernel_rfl) ?_ _
          have HS5 := Lib.hid (HS.out.below hHeld2)
          clear hHeld2 HS HC2 HR1 HHS HAN
          go_wp2_with fail
          go_roundg (en' - (i + 1))
          case measure => have := HGI.out; have := HI3.out; omega
          case rel => exact ⟨i + 1, by have := HGI.out; have := HI3.out; omega, by go_num, HS5.out⟩
end Go.Proofs.Ythnabnieajojjaa
/-
  Arguments: sessions, states.
-/
namespace Go.Proofs.Ythnabnieajojjaa
open Go.RowKit
set_option maxRecDepth 100000

theorem u64_of_wfS {n : Int} (h : (Lit.int .u64 n).wf = true) : ∃ k : Nat, n = (k : Int) ∧ k < 2 ^ 64 := by
  have h1 : 0 ≤ n ∧ n ≤ 18446744073709551615 := by simpa [Lit.wf, IntKind.min, IntKind.max, IntKind.bits, IntKind.signed] using h
  exact ⟨n.toNat, by omega, by omega⟩
/-- The bounds of the numbers of a session that is handed in. -/
structure SesI (s : SesM) : Prop where
  ok : SesOk s
  slot : I64 s.slot
  birth : I64 s.birth
  upS : I64 s.upS
  upB : I64 s.upB
  kind : I64 s.kind
  level : I64 s.level
  born : I64 s.born
  deadline : I64 s.deadline
  depth : I64 s.depth
theorem ArgC.session {N : Nat} {W : World} {cs : List Value} (hl : cs.length = 12) (h : ArgC false N 45 W cs) : ∃ s : SesM, cs = s.cells.toList ∧ SesI s := by
  match cs, hl with
  | [c1, c2, c3, c4, c5, c6, c7, c8, c9, c10, c11, c12], _ =>
    have ci : Try.prog.cellsOf 3 = 1 := by kernel_rfl
    have cs' : Try.prog.cellsOf 9 = 1 := by kernel_rfl
    have cu : Try.prog.cellsOf 43 = 1 := by kernel_rfl
    have cl : Try.prog.cellsOf 41 = 2 := by kernel_rfl
    have hx := Try.underlying45
    obtain ⟨n1, rfl, b1⟩ := h.fint hx 0 _ rfl ci c1 rfl .i64 Try.underlying3
    obtain ⟨n2, rfl, b2⟩ := h.fint hx 1 _ rfl ci c2 rfl .i64 Try.underlying3
    obtain ⟨M2, _, k⟩ := h.fstruct hx 2 _ rfl 41 2 2 rfl rfl cl
    have k' : ArgC false M2 41 W [c3, c4] := k
    have hk := Try.underlying41
    obtain ⟨n3, rfl, b3⟩ := k'.fint hk 0 _ rfl ci c3 rfl .i64 Try.underlying3
    obtain ⟨n4, rfl, b4⟩ := k'.fint hk 1 _ rfl ci c4 rfl .i64 Try.underlying3
    obtain ⟨n5, rfl, b5⟩ := h.fint hx 3 _ rfl ci c5 rfl .i64 Try.underlying3
    obtain ⟨s6, rfl, _, _, b6⟩ := h.fstring hx 4 _ rfl cs' c6 rfl Try.underlying9
    obtain ⟨s7, rfl, _, _, b7⟩ := h.fstring hx 5 _ rfl cs' c7 rfl Try.underlying9
    obtain ⟨n8, rfl, b8⟩ := h.fint hx 6 _ rfl cu c8 rfl .u64 Try.underlying43
    obtain ⟨n9, rfl, b9⟩ := h.fint hx 7 _ rfl ci c9 rfl .i64 Try.underlying3
    obtain ⟨n10, rfl, b10⟩ := h.fint hx 8 _ rfl ci c10 rfl .i64 Try.underlying3
    obtain ⟨n11, rfl, b11⟩ := h.fint hx 9 _ rfl ci c11 rfl .i64 Try.underlying3
    obtain ⟨n12, rfl, b12⟩ := h.fint hx 10 _ rfl ci c12 rfl .i64 Try.underlying3
    obtain ⟨u, rfl, hu⟩ := SB_of s6
    obtain ⟨l, rfl, hl⟩ := SB_of s7
    obtain ⟨sc, rfl, hsc⟩ := u64_of_wfS b8
    refine ⟨⟨n1, n2, n3, n4, n5, u, l, sc, n9, n10, n11, n12⟩, rfl, ⟨?_, ?_, hsc⟩, i64_of_wf b1, i64_of_wf b2, i64_of_wf b3, i64_of_wf b4, i64_of_wf b5, i64_of_wf b9, i64_of_wf b10, i64_of_wf b11, i64_of_wf b12⟩
    · show u.length ≤ _; rw [hu]; exact Nat.le_trans (b6 rfl) (by decide)
    · show l.length ≤ _; rw [hl]; exact Nat.le_trans (b7 rfl) (by decide)
theorem ArgC.sessions {N : Nat} {W : World} {v : Value} (h : ArgC false N 22 W [v]) : ∃ l : List SesM, RdS W v l ∧ (∀ s ∈ l, SesI s) ∧ l.length ≤ 1256584717421 := by
  obtain ⟨l, h1, h2, Ns, _, _, h5⟩ := h.flat noSes (fun s : SesM => s.cells.toList) (fun _ => rfl) (by decide) (fun _ s => SesI s) Try.underlying22 (by kernel_rfl) (fun N cs hl hc => hc.session hl)
  refine ⟨l, h1, fun s hs => ?_, ?_⟩
  · obtain ⟨i, hi, rfl⟩ := List.getElem_of_mem hs
    have := h5 i hi
    simpa [List.getD, hi] using this
  · have := h2 rfl
    rw [show Try.prog.bytesOf 45 = 112 by kernel_rfl] at this; omega
/-- A state that came in. -/
theorem Arg.state {W : World} {v : Value} (h : Arg false 24 W v) : ∃ (st : StM) (x : Value), v = .agg #[.int .i64 st.clock, .int .i64 st.births, x] ∧ RdS W x st.l ∧ (∀ s ∈ st.l, SesI s) ∧ st.l.length ≤ 1256584717421 ∧ I64 st.clock ∧ I64 st.births := by
  obtain ⟨⟨cs⟩, rfl, hc⟩ := h.struct Try.underlying24
  have hl : cs.length = 3 := by
    have := (hc.struct Try.underlying24).1
    rw [show Try.prog.cellsOf 24 = 3 by kernel_rfl] at this; exact this
  match cs, hl, hc with
  | [c0, c1, c2], _, hc =>
    obtain ⟨a, rfl, hw⟩ := hc.fint Try.underlying24 0 _ rfl (by kernel_rfl) c0 rfl .i64 Try.underlying3
    obtain ⟨n, rfl, hw2⟩ := hc.fint Try.underlying24 1 _ rfl (by kernel_rfl) c1 rfl .i64 Try.underlying3
    obtain ⟨M, _, hd⟩ := hc.fcell Try.underlying24 2 _ rfl (by kernel_rfl) c2 rfl
    obtain ⟨l, h1, h2, h3⟩ := hd.sessions
    exact ⟨⟨a, n, l⟩, c2, rfl, h1, h2, h3, i64_of_wf hw, i64_of_wf hw2⟩
end Go.Proofs.Ythnabnieajojjaa
/-
  Arguments: lists of events.
-/
namespace Go.Proofs.Ythnabnieajojjaa
open Go.RowKit
set_option maxRecDepth 100000

theorem ArgC.events {N : Nat} {W : World} {v : Value} (h : ArgC false N 25 W [v]) : ∃ l : List EvtM, RdE W v l ∧ (∀ s ∈ l, EvOk s) ∧ l.length ≤ 1034834473170 := by
  obtain ⟨l, h1, h2, Ns, _, _, h5⟩ := h.flat (⟨0, noSes, 0, 0⟩ : EvtM) (fun s : EvtM => s.cells.toList) (fun _ => rfl) (by decide) (fun _ s => EvOk s) Try.underlying25 (by kernel_rfl) (fun N cs hl hc => ArgC.event hl hc)
  refine ⟨l, h1, fun s hs => ?_, ?_⟩
  · obtain ⟨i, hi, rfl⟩ := List.getElem_of_mem hs
    have := h5 i hi
    simpa [List.getD, hi] using this
  · have := h2 rfl
    rw [show Try.prog.bytesOf 47 = 136 by kernel_rfl] at this; omega
end Go.Proofs.Ythnabnieajojjaa
/-
  ReplayEnded, of any argument.
-/
namespace Go.Proofs.Ythnabnieajojjaa
open Go.RowKit

set_option maxRecDepth 100000 in
theorem replayEnded_walks : Walks false 5 [25] := fun W vs h => by
  match vs, h with
  | [x], ⟨h1, _⟩ =>
    obtain ⟨l, hl, hok, _⟩ := (h1.slice Try.underlying25).events
    exact replayEnded_calls l x W hl hok
end Go.Proofs.Ythnabnieajojjaa
/-
  The statement of layer, proved out of its walk: whatever the input, the law answers true and leaves its arguments as they were.
-/
namespace Go.Proofs.Ythnabnieajojjaa
open Go.ChangeShapes Go.WideShapes Go.ChangeAt Go.RowKit

set_option maxRecDepth 100000 in
theorem replayEnded_lifted (os : Os) (started : os.Started) (H : Type) (enc : TypeId × Value → H) :
    ReturnsInHanded {} Try.checked os 5 .any (Rows.replayEndedSpec.pre6 enc Try.prog Try.f5 Rows.replayEndedRow.domain false) (Rows.replayEndedSpec.post enc Try.prog Try.f5 false true false false) := by
  refine returnsInHanded_of_change_sized (C := Try.checked) L.own started (by kernel_rfl) Try.func5
    (ChangeSpec.witness6 (enc := enc) (C := Try.checked) false ⟨#[], #[.slice none 0 0], []⟩ 8 (by kernel_rfl) (by kernel_rfl) (by kernel_rfl) (by kernel_rfl)) ?_
  intro W base args ds gs before hval hW _ hsz _
  exact law_contract (up := false) (vt := Rows.replayEndedSpec.plain.varTypes Try.prog) rfl (ts := [25]) rfl rfl rfl (by decide +kernel) (fun H ds h => by
      rcases ds with _ | ⟨d0, _ | ⟨d1, _ | ⟨d2, _ | ⟨d3, _ | ⟨d4, ds⟩⟩⟩⟩⟩ <;> first | exact ⟨rfl, rfl, rfl⟩ | (exfalso; simp at h; done) | (exfalso; simp at h; omega)) replayEnded_walks H enc W base args ds gs before hval hW hsz
theorem replayEnded_said : Rows.ReplayEndedSaid :=
  OpenClaim.holds_of_wide 5 Try.f5 rfl rfl rfl rfl rfl rfl rfl ⟨rfl, rfl, rfl, rfl, rfl⟩ rfl rfl rfl rfl rfl (by kernel_rfl) Try.func5 (by kernel_rfl)
    (of_decide_eq_true (by kernel_rfl)) (by unfold Func.isWrapper; first | (rw [if_pos (by decide +kernel)]; kernel_rfl) | (rw [if_neg (by decide +kernel)]; exact ⟨rfl, rfl⟩))
    (fun os started H enc _ => replayEnded_lifted os started H enc)
#print axioms replayEnded_said

end Go.Proofs.Ythnabnieajojjaa
