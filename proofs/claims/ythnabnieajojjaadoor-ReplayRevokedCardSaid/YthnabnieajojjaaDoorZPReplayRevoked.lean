/-
  Plain laws of events: lists of events one behind the other; what a state is that events make.
-/
import Derived.Test.YthnabnieajojjaaDoorRepM
import Derived.Test.YthnabnieajojjaaDoorRepA
import Derived.Test.YthnabnieajojjaaDoorRepX
import Derived.Test.YthnabnieajojjaaDoorSesK
import Derived.BigQuiet
import Derived.Test.YthnabnieajojjaaDoorSesL
import Derived.Test.YthnabnieajojjaaDoorEvMay
import Derived.Test.YthnabnieajojjaaDoorMayP
import Derived.Test.YthnabnieajojjaaDoorEvEq
import Derived.Test.YthnabnieajojjaaDoorArgsB
import Derived.Test.YthnabnieajojjaaDoorPick
import Derived.Test.YthnabnieajojjaaDoorPlainA
import Derived.Test.YthnabnieajojjaaDoorImM
import Derived.Test.YthnabnieajojjaaDoorCardB
import Derived.Test.YthnabnieajojjaaDoorTie
import Derived.Test.YthnabnieajojjaaDoorCards
import Derived.SevenTiedAt
namespace Go.Proofs.YthnabnieajojjaaDoor
open Go.RowKit

theorem allM_le : ∀ (l : List EvtM) (st : StM), (allM st l).2 ≤ l.length
  | [], _ => Nat.le_refl _
  | e :: l, st => by
    unfold allM
    split
    · have := allM_le l (applyM st e).2; simp only [List.length_cons]; omega
    · simp
theorem allM_app : ∀ (l m : List EvtM) (st : StM), (allM st l).2 = l.length → allM st (l ++ m) = ((allM (allM st l).1 m).1, l.length + (allM (allM st l).1 m).2)
  | [], m, st, _ => by simp [allM]
  | e :: l, m, st, h => by
    unfold allM at h
    by_cases h0 : (applyM st e).1 = 0
    · rw [if_pos h0] at h
      have h1 : (allM (applyM st e).2 l).2 = l.length := by simp only [List.length_cons] at h; omega
      have ih := allM_app l m (applyM st e).2 h1
      have e1 : allM st (e :: l) = ((allM (applyM st e).2 l).1, (allM (applyM st e).2 l).2 + 1) := by rw [allM, if_pos h0]
      rw [List.cons_append, allM, if_pos h0, ih, e1]
      simp only [List.length_cons]
      congr 1; omega
    · rw [if_neg h0] at h; simp at h
theorem allM_part : ∀ (l m : List EvtM) (st : StM), (allM st l).2 ≠ l.length → allM st (l ++ m) = allM st l
  | [], _, _, h => absurd rfl h
  | e :: l, m, st, h => by
    by_cases h0 : (applyM st e).1 = 0
    · have e1 : allM st (e :: l) = ((allM (applyM st e).2 l).1, (allM (applyM st e).2 l).2 + 1) := by rw [allM, if_pos h0]
      rw [e1] at h
      have ih := allM_part l m (applyM st e).2 (fun hh => h (by simp only [List.length_cons]; omega))
      rw [List.cons_append, allM, if_pos h0, ih, e1]
    · rw [List.cons_append, allM, if_neg h0, allM, if_neg h0]
/-- What a state is that events make. -/
structure Snd (st : StM) : Prop where
  len : st.l.length ≤ 32
  clock : 0 ≤ st.clock ∧ st.clock ≤ 1099511627776
  births : 0 ≤ st.births ∧ st.births ≤ 1048576
  pos : ∀ s ∈ st.l, 1 ≤ s.birth ∧ s.birth ≤ st.births
  inc : st.l.Pairwise (fun s t => s.birth < t.birth)
  slots : st.l.Pairwise (fun s t => s.slot ≠ t.slot)
  dead : ∀ s ∈ st.l, st.clock < s.deadline
  born : ∀ s ∈ st.l, s.born ≤ st.clock
  may : ∀ s ∈ st.l, mayS s = true
  par : ∀ s ∈ st.l, s.upB ≠ 0 → ∃ p ∈ st.l, p.birth = s.upB ∧ p.slot = s.upS ∧ p.birth < s.birth ∧ fitsM s p = true
theorem Snd.zero : Snd noSt := ⟨by decide, by decide, by decide, by simp [noSt], by simp [noSt], by simp [noSt], by simp [noSt], by simp [noSt], by simp [noSt], by simp [noSt]⟩
theorem Snd.without {st : StM} (h : Snd st) (goes : SesM → Bool) (C : Int) (h1 : st.clock ≤ C) (h2 : C ≤ 1099511627776) (hd : ∀ s ∈ st.l, goes s = false → C < s.deadline) : Snd ⟨C, st.births, withoutM goes st.l⟩ := by
  have hsub : List.Sublist (withoutM goes st.l) st.l := List.filter_sublist
  have hm : ∀ s ∈ withoutM goes st.l, s ∈ st.l ∧ ¬ Dies goes st.l s := fun s hs => mem_without.1 hs
  refine ⟨Nat.le_trans hsub.length_le h.len, ⟨by have := h.clock.1; show 0 ≤ C; omega, h2⟩, h.births, fun s hs => h.pos s (hm s hs).1, h.inc.sublist hsub, h.slots.sublist hsub, fun s hs => hd s (hm s hs).1 ?_, fun s hs => by have := h.born s (hm s hs).1; show s.born ≤ C; omega, fun s hs => h.may s (hm s hs).1, fun s hs hu => ?_⟩
  · cases hg : goes s
    · rfl
    · exact absurd (Dies.one (hm s hs).1 hg) (hm s hs).2
  · obtain ⟨p, hp, e1, e2, e3, e4⟩ := h.par s (hm s hs).1 hu
    exact ⟨p, mem_without.2 ⟨hp, fun hdp => (hm s hs).2 (.up (hm s hs).1 hdp e1.symm hu)⟩, e1, e2, e3, e4⟩
theorem findM_in (b : Int) : ∀ {l : List SesM} {p : SesM}, findM b l = some p → p ∈ l ∧ p.birth = b
  | [], _, h => by cases h
  | x :: l, p, h => by
    unfold findM at h
    split at h
    · rename_i hx; injection h with h; subst h; exact ⟨List.mem_cons_self, hx⟩
    · have := findM_in b h; exact ⟨List.mem_cons_of_mem _ this.1, this.2⟩
theorem mayS_nums {s : SesM} (h : mayS s = true) : (1 ≤ s.birth ∧ s.birth ≤ 1048576) ∧ s.born + 1 ≤ s.deadline ∧ (0 ≤ s.slot ∧ s.slot ≤ 31) := by
  unfold mayS at h
  simp only [Bool.and_eq_true] at h
  exact ⟨fromM_yes h.2.1, (fromM_yes h.2.2.2.2.2.1).1, fromM_yes h.1⟩
theorem refM_yes {st : StM} {s : SesM} (h : refM st s = 0) : s.birth = IntKind.i64.wrap (st.births + 1) ∧ s.born = st.clock ∧ st.l.length < 32 ∧ st.l.any (fun x => x.slot == s.slot) = false ∧ upM s st.l = 0 := by
  unfold refM at h
  split at h
  · split at h
    · split at h
      · cases h
      · split at h
        · cases h
        · rename_i h1 h2 h3 h4
          exact ⟨h1, h2, by omega, by simpa using h4, h⟩
    · cases h
  · cases h
theorem Snd.birth {st : StM} {s : SesM} (h : Snd st) (hr : refM st s = 0) (hs : mayS s = true) : Snd ⟨st.clock, IntKind.i64.wrap (st.births + 1), st.l ++ [s]⟩ := by
  obtain ⟨r1, r2, r3, r4, r5⟩ := refM_yes hr
  obtain ⟨m1, m2, _⟩ := mayS_nums hs
  have hw : IntKind.i64.wrap (st.births + 1) = st.births + 1 := by
    have := h.births; simp [IntKind.wrap, IntKind.bits, IntKind.signed]; omega
  rw [hw] at r1 ⊢
  have hin : ∀ (P : SesM → Prop), (∀ x ∈ st.l, P x) → P s → ∀ x ∈ st.l ++ [s], P x := fun P h1 h2 x hx => by
    rcases List.mem_append.1 hx with hx | hx
    · exact h1 x hx
    · rw [List.mem_singleton.1 hx]; exact h2
  refine ⟨by simp only [List.length_append, List.length_singleton]; omega, h.clock, by have := h.births; show 0 ≤ st.births + 1 ∧ st.births + 1 ≤ 1048576; omega, ?_, ?_, ?_, ?_, ?_, ?_, ?_⟩
  · exact hin _ (fun x hx => by have := h.pos x hx; show 1 ≤ x.birth ∧ x.birth ≤ st.births + 1; omega) (by show 1 ≤ s.birth ∧ s.birth ≤ st.births + 1; omega)
  · refine List.pairwise_append.2 ⟨h.inc, List.pairwise_singleton _ _, fun x hx y hy => ?_⟩
    rw [List.mem_singleton.1 hy]
    have := h.pos x hx; omega
  · refine List.pairwise_append.2 ⟨h.slots, List.pairwise_singleton _ _, fun x hx y hy he => ?_⟩
    rw [List.mem_singleton.1 hy] at he
    have := List.any_eq_false.1 r4 x hx
    exact this (by simpa using he)
  · exact hin _ (fun x hx => h.dead x hx) (by show st.clock < s.deadline; omega)
  · exact hin _ (fun x hx => h.born x hx) (by show s.born ≤ st.clock; omega)
  · exact hin _ (fun x hx => h.may x hx) hs
  · refine hin _ (fun x hx hu => ?_) (fun hu => ?_)
    · obtain ⟨p, hp, e⟩ := h.par x hx hu
      exact ⟨p, List.mem_append_left _ hp, e⟩
    · unfold upM at r5
      rw [if_neg hu] at r5
      split at r5
      · cases r5
      · rename_i p hp
        obtain ⟨p1, p2⟩ := findM_in _ hp
        split at r5
        · rename_i hsl
          split at r5
          · rename_i hf
            exact ⟨p, List.mem_append_left _ p1, p2, hsl, by have := h.pos p p1; omega, hf⟩
          · cases r5
        · cases r5
theorem mayE_birthP {e : EvtM} (h : mayE e = true) (k : e.kind = 0) : mayS e.s = true := by
  unfold mayE at h
  rw [if_pos (by simpa using k)] at h
  simp only [Bool.and_eq_true] at h
  exact h.2.2
theorem mayE_tickN {e : EvtM} (h : mayE e = true) (k0 : e.kind ≠ 0) (k1 : e.kind ≠ 1) : 1 ≤ e.ticks ∧ e.ticks ≤ 1073741824 := by
  unfold mayE at h
  rw [if_neg (by simpa using k0), if_neg (by simpa using k1)] at h
  split at h
  · simp only [Bool.and_eq_true] at h
    exact fromM_yes h.2.2
  · cases h
theorem Snd.apply {st : StM} (h : Snd st) {e : EvtM} (he : (applyM st e).1 = 0) : Snd (applyM st e).2 := by
  unfold applyM at he ⊢
  by_cases hm : mayE e = true
  · rw [if_pos hm] at he ⊢
    by_cases k0 : e.kind = 0
    · rw [if_pos k0] at he ⊢
      by_cases hr : refM st e.s = 0
      · rw [if_pos hr]; exact h.birth hr (mayE_birthP hm k0)
      · rw [if_neg hr] at he; exact absurd he hr
    · rw [if_neg k0] at he ⊢
      by_cases k1 : e.kind = 1
      · rw [if_pos k1] at he ⊢
        by_cases ha : st.l.any (fun s => s.birth == e.birth) = true
        · rw [if_pos ha]; exact h.without _ st.clock (Int.le_refl _) h.clock.2 (fun s hs _ => h.dead s hs)
        · rw [if_neg ha] at he; cases he
      · rw [if_neg k1] at he ⊢
        have ht := mayE_tickN hm k0 k1
        by_cases hc : st.clock < 0 ∨ 1099511627776 - e.ticks < st.clock
        · rw [if_pos hc] at he; cases he
        · rw [if_neg hc]; exact h.without _ _ (by omega) (by omega) (fun s _ hg => by simpa using hg)
  · rw [if_neg hm] at he; cases he
theorem Snd.all {st : StM} (h : Snd st) : ∀ (l : List EvtM), Snd (allM st l).1 := by
  intro l
  induction l generalizing st with
  | nil => exact h
  | cons e l ih =>
    unfold allM
    split
    · rename_i h0; exact ih (h.apply h0)
    · exact h
theorem Snd.uniq {st : StM} (h : Snd st) {a b : SesM} (ha : a ∈ st.l) (hb : b ∈ st.l) (e : a.birth = b.birth) : a = b := by
  obtain ⟨i, hi, rfl⟩ := List.getElem_of_mem ha
  obtain ⟨j, hj, rfl⟩ := List.getElem_of_mem hb
  have hp := List.pairwise_iff_getElem.1 h.inc
  rcases Nat.lt_trichotomy i j with h1 | h1 | h1
  · have := hp i j hi hj h1; omega
  · subst h1; rfl
  · have := hp j i hj hi h1; omega
theorem fitsM_end {s p : SesM} (h : fitsM s p = true) : s.deadline ≤ p.deadline := by
  unfold fitsM at h
  simp only [Bool.and_eq_true] at h
  simpa using h.2.2.2.1
theorem Snd.dies_tick {st : StM} (h : Snd st) (C : Int) {s : SesM} (hd : Dies (fun s => decide (s.deadline ≤ C)) st.l s) : s.deadline ≤ C := by
  induction hd with
  | one _ hg => simpa using hg
  | up hs hp hu hn ih =>
    obtain ⟨p', hp', e1, _, _, e4⟩ := h.par _ hs hn
    have := h.uniq hp' hp.mem (e1.trans hu)
    subst this
    have := fitsM_end e4
    omega
theorem Snd.tick {st : StM} (h : Snd st) (C : Int) : withoutM (fun s => decide (s.deadline ≤ C)) st.l = st.l.filter (fun s => !decide (s.deadline ≤ C)) :=
  (without_eq (f := fun s => decide (s.deadline ≤ C)) (fun s hs => ⟨fun hg => .one hs hg, fun hd => by have := h.dies_tick C hd; simpa using this⟩)).symm
/-- Ticks cut in two. -/
theorem Snd.ticks {st : StM} (h : Snd st) (C1 C2 : Int) (h1 : st.clock ≤ C1) (h2 : C1 ≤ C2) (h3 : C2 ≤ 1099511627776) :
    withoutM (fun s => decide (s.deadline ≤ C2)) (withoutM (fun s => decide (s.deadline ≤ C1)) st.l) = withoutM (fun s => decide (s.deadline ≤ C2)) st.l := by
  have hs1 := h.without (fun s => decide (s.deadline ≤ C1)) C1 h1 (by omega) (fun s _ hg => by simpa using hg)
  have e := hs1.tick C2
  simp only at e
  rw [e, h.tick C1, h.tick C2, List.filter_filter]
  refine List.filter_congr fun s _ => ?_
  by_cases a : s.deadline ≤ C2 <;> by_cases b : s.deadline ≤ C1 <;> simp [a, b] <;> omega
/-- What stands behind an event stood ahead of it, or is the birth. -/
theorem Snd.from {st : StM} (h : Snd st) {e : EvtM} (he : (applyM st e).1 = 0) : st.births ≤ (applyM st e).2.births ∧ ∀ s ∈ (applyM st e).2.l, s ∈ st.l ∨ s.birth = st.births + 1 := by
  unfold applyM at he ⊢
  by_cases hm : mayE e = true
  · rw [if_pos hm] at he ⊢
    by_cases k0 : e.kind = 0
    · rw [if_pos k0] at he ⊢
      by_cases hr : refM st e.s = 0
      · rw [if_pos hr]
        have hw : IntKind.i64.wrap (st.births + 1) = st.births + 1 := by
          have := h.births; simp [IntKind.wrap, IntKind.bits, IntKind.signed]; omega
        refine ⟨by show st.births ≤ IntKind.i64.wrap (st.births + 1); rw [hw]; omega, fun s hs => ?_⟩
        rcases List.mem_append.1 hs with hs | hs
        · exact .inl hs
        · right; rw [List.mem_singleton.1 hs, (refM_yes hr).1, hw]
      · rw [if_neg hr] at he; exact absurd he hr
    · rw [if_neg k0] at he ⊢
      by_cases k1 : e.kind = 1
      · rw [if_pos k1] at he ⊢
        by_cases ha : st.l.any (fun s => s.birth == e.birth) = true
        · rw [if_pos ha]; exact ⟨Int.le_refl _, fun s hs => .inl (mem_without.1 hs).1⟩
        · rw [if_neg ha] at he; cases he
      · rw [if_neg k1] at he ⊢
        by_cases hc : st.clock < 0 ∨ 1099511627776 - e.ticks < st.clock
        · rw [if_pos hc] at he; cases he
        · rw [if_neg hc]; exact ⟨Int.le_refl _, fun s hs => .inl (mem_without.1 hs).1⟩
  · rw [if_neg hm] at he; cases he
/-- A birth that has ended. -/
def Ended (st : StM) (b : Int) : Prop := b ≤ st.births ∧ ∀ s ∈ st.l, s.birth ≠ b
theorem Ended.apply {st : StM} (h : Snd st) {e : EvtM} (he : (applyM st e).1 = 0) {b : Int} (hb : Ended st b) : Ended (applyM st e).2 b := by
  obtain ⟨h1, h2⟩ := h.from he
  refine ⟨Int.le_trans hb.1 h1, fun s hs => ?_⟩
  rcases h2 s hs with h3 | h3
  · exact hb.2 s h3
  · have := hb.1; omega
theorem Ended.new {st : StM} (h : Snd st) {e : EvtM} (he : (applyM st e).1 = 0) {s : SesM} (hs : s ∈ st.l) (hn : ∀ x ∈ (applyM st e).2.l, x.birth ≠ s.birth) : Ended (applyM st e).2 s.birth :=
  ⟨Int.le_trans (h.pos s hs).2 (h.from he).1, hn⟩
theorem root_parts {s : SesM} (h : mayS s = true) (hu : s.upB = 0) : s.kind = 0 ∧ s.depth = 0 := by
  unfold mayS at h
  simp only [Bool.and_eq_true] at h
  have hc := h.2.2.2.2.2.2
  have hch : childM s = false := by
    cases hcc : childM s
    · rfl
    · unfold childM at hcc
      simp only [Bool.and_eq_true] at hcc
      have := (fromM_yes hcc.2.1).1
      omega
  rw [hch] at hc
  by_cases k0 : s.kind = 0
  · rw [if_pos (by simpa using k0)] at hc
    unfold loginM at hc
    simp only [Bool.and_eq_true, beq_iff_eq] at hc
    exact ⟨k0, hc.2.2.2⟩
  · rw [if_neg (by simpa using k0)] at hc
    split at hc
    · cases hc
    · split at hc
      · simp at hc
      · cases hc
theorem child_parts {s : SesM} (h : mayS s = true) (hu : s.upB ≠ 0) : (s.kind = 1 ∨ (s.kind = 2 ∧ s.deadline ≤ s.born + 300)) ∧ childM s = true := by
  unfold mayS at h
  simp only [Bool.and_eq_true] at h
  have hc := h.2.2.2.2.2.2
  by_cases k0 : s.kind = 0
  · rw [if_pos (by simpa using k0)] at hc
    unfold loginM at hc
    simp only [Bool.and_eq_true, beq_iff_eq] at hc
    exact absurd hc.2.1 hu
  · rw [if_neg (by simpa using k0)] at hc
    split at hc
    · rename_i k1; exact ⟨.inl (by simpa using k1), hc⟩
    · split at hc
      · rename_i k2
        simp only [Bool.and_eq_true, decide_eq_true_eq] at hc
        exact ⟨.inr ⟨by simpa using k2, hc.2⟩, hc.1⟩
      · cases hc
/-- A session beside its parent. -/
theorem narrow_of {s p : SesM} (h : mayS s = true) (hu : s.upB ≠ 0) (hf : fitsM s p = true) :
    scIn s.scopes p.scopes = true ∧ s.deadline ≤ p.deadline ∧ s.depth = IntKind.i64.wrap (p.depth + 1) ∧ s.user = p.user ∧ (s.level ≤ p.level → s.level = p.level ∧ s.kind = 1) ∧ (p.level < s.level → s.kind = 2 ∧ s.deadline ≤ s.born + 300) := by
  have hk := (child_parts h hu).1
  unfold fitsM at hf
  simp only [Bool.and_eq_true, beq_iff_eq, decide_eq_true_eq] at hf
  obtain ⟨f1, f2, f3, f4, f5⟩ := hf
  refine ⟨f3, f4, f1, f2, fun hl => ?_, fun hl => ?_⟩
  · rcases hk with k | ⟨k, _⟩
    · rw [if_neg (by omega)] at f5
      exact ⟨by simpa using f5, k⟩
    · rw [if_pos k] at f5
      have : p.level < s.level := by simpa using f5
      omega
  · rcases hk with k | ⟨k, kd⟩
    · rw [if_neg (by omega)] at f5
      have : s.level = p.level := by simpa using f5
      omega
    · exact ⟨k, kd⟩
/-- The last session of a birth. -/
def lastM (k : Int) (u : SesM) (l : List SesM) : SesM := l.foldl (fun u x => if x.birth = k then x else u) u
theorem lastM_same {k : Int} {p : SesM} : ∀ (l : List SesM) (u : SesM), (∀ x ∈ l, x.birth = k → x = p) → (p ∈ l ∧ p.birth = k ∨ u = p) → lastM k u l = p
  | [], u, _, h => by
    rcases h with ⟨h, _⟩ | h
    · cases h
    · exact h
  | x :: l, u, hx, h => by
    show lastM k (if x.birth = k then x else u) l = p
    refine lastM_same l _ (fun y hy => hx y (List.mem_cons_of_mem _ hy)) ?_
    by_cases e : x.birth = k
    · rw [if_pos e]; exact .inr (hx x List.mem_cons_self e)
    · rw [if_neg e]
      rcases h with ⟨h1, h2⟩ | h
      · rcases List.mem_cons.1 h1 with h3 | h3
        · rw [h3] at h2; exact absurd h2 e
        · exact .inl ⟨h3, h2⟩
      · exact .inr h
/-- Is a session another one, or below it? -/
def isBelow (l : List SesM) (b : Int) : Nat → SesM → Bool
  | 0, _ => false
  | n + 1, s => if s.birth = b then true else if s.upB = 0 then false else isBelow l b n (lastM s.upB noSes l)
theorem depth_of {s : SesM} (h : mayS s = true) : 0 ≤ s.depth ∧ s.depth ≤ 6 := by
  by_cases hu : s.upB = 0
  · have := (root_parts h hu).2; omega
  · have hc := (child_parts h hu).2
    unfold childM at hc
    simp only [Bool.and_eq_true] at hc
    have := fromM_yes hc.2.2.2
    omega
theorem Snd.below_iff {st : StM} (h : Snd st) (b : Int) : ∀ (n : Nat) (s : SesM), s ∈ st.l → s.depth < n → (isBelow st.l b n s = true ↔ Dies (fun s => s.birth == b) st.l s)
  | 0, s, hs, hn => by have := (depth_of (h.may s hs)).1; omega
  | n + 1, s, hs, hn => by
    unfold isBelow
    by_cases hb : s.birth = b
    · rw [if_pos hb]; exact ⟨fun _ => .one hs (by simpa using hb), fun _ => rfl⟩
    · rw [if_neg hb]
      by_cases hu : s.upB = 0
      · rw [if_pos hu]
        refine ⟨fun hh => (by cases hh), fun hd => ?_⟩
        cases hd with
        | one _ hg => exact absurd (by simpa using hg) hb
        | up _ _ _ hn => exact absurd hu hn
      · rw [if_neg hu]
        obtain ⟨p, hp, e1, _, _, e4⟩ := h.par s hs hu
        have hl : lastM s.upB noSes st.l = p := lastM_same _ _ (fun x hx hxb => h.uniq hx hp (hxb.trans e1.symm)) (.inl ⟨hp, e1⟩)
        rw [hl]
        have hd := (narrow_of (h.may s hs) hu e4).2.2.1
        have hdp := depth_of (h.may p hp)
        have hw : IntKind.i64.wrap (p.depth + 1) = p.depth + 1 := by simp [IntKind.wrap, IntKind.bits, IntKind.signed]; omega
        rw [hw] at hd
        rw [h.below_iff b n p hp (by omega)]
        refine ⟨fun hdp => .up hs hdp e1.symm hu, fun hds => ?_⟩
        cases hds with
        | one _ hg => exact absurd (by simpa using hg) hb
        | up _ hp2 hu2 _ => rw [h.uniq hp hp2.mem (e1.trans hu2)]; exact hp2
/-- What a revocation leaves. -/
theorem Snd.revoke {st : StM} (h : Snd st) (b : Int) : withoutM (fun s => s.birth == b) st.l = st.l.filter (fun s => !isBelow st.l b 7 s) :=
  (without_eq (f := isBelow st.l b 7) (fun s hs => h.below_iff b 7 s hs (by have := depth_of (h.may s hs); omega))).symm
end Go.Proofs.YthnabnieajojjaaDoor
/-
  What the laws of replay ask of a state: parent, narrower, has, sound.
-/
namespace Go.Proofs.YthnabnieajojjaaDoor
open Go.RowKit
set_option maxRecDepth 100000

theorem Snd.parAt {st : StM} (h : Snd st) {k : Nat} (hk : k < st.l.length) (hu : (st.l[k]).upB ≠ 0) : ∃ j0, ∃ hj : j0 < st.l.length, j0 < k ∧ (st.l[j0]).birth = (st.l[k]).upB ∧ (st.l[j0]).slot = (st.l[k]).upS ∧ fitsM st.l[k] st.l[j0] = true ∧ ∀ j (hj' : j < j0), (st.l[j]).birth ≠ (st.l[k]).upB := by
  obtain ⟨p, hp, e1, e2, e3, e4⟩ := h.par _ (List.getElem_mem hk) hu
  obtain ⟨j0, hj, rfl⟩ := List.getElem_of_mem hp
  have hi := List.pairwise_iff_getElem.1 h.inc
  refine ⟨j0, hj, ?_, e1, e2, e4, fun j hj' => ?_⟩
  · rcases Nat.lt_trichotomy j0 k with h1 | h1 | h1
    · exact h1
    · subst h1; omega
    · have := hi k j0 hk hj h1; omega
  · have := hi j j0 (by omega) hj hj'; omega
/-- The bounds of a session that stands. -/
structure SndS (C B : Int) (s : SesM) : Prop where
  b1 : decide (s.birth < 1) = false
  b2 : decide (B < s.birth) = false
  d : decide (s.deadline ≤ C) = false
  n : decide (C < s.born) = false
theorem Snd.one {C B : Int} {L : List SesM} (h : Snd ⟨C, B, L⟩) {s : SesM} (hs : s ∈ L) : SndS C B s := by
  have h1 := h.pos s hs
  have h2 := h.dead s hs
  have h3 := h.born s hs
  simp only at h1 h2 h3
  exact ⟨by simp; omega, by simp; omega, by simp; omega, by simp; omega⟩
/-- A session beside its parent, as the law asks it. -/
structure NarS (s p : SesM) : Prop where
  sc : scIn s.scopes p.scopes = true
  dl : s.deadline ≤ p.deadline
  dp : s.depth = IntKind.i64.wrap (p.depth + 1)
  us : s.user = p.user
  le : s.level ≤ p.level → s.level = p.level ∧ s.kind = 1
  gt : p.level < s.level → s.kind = 2 ∧ s.deadline ≤ s.born + 300
  bo : 0 ≤ s.born ∧ s.born ≤ 1099511627776
theorem Snd.nar {st : StM} (h : Snd st) {s p : SesM} (hs : s ∈ st.l) (hu : s.upB ≠ 0) (hf : fitsM s p = true) : NarS s p := by
  obtain ⟨h1, h2, h3, h4, h5, h6⟩ := narrow_of (h.may s hs) hu hf
  have hb : 0 ≤ s.born ∧ s.born ≤ 1099511627776 := by
    have hm := h.may s hs
    unfold mayS at hm
    simp only [Bool.and_eq_true] at hm
    have := fromM_yes hm.2.2.2.2.1
    omega
  exact ⟨h1, h2, h3, h4, h5, h6, hb⟩
end Go.Proofs.YthnabnieajojjaaDoor
/-
  Lists of events, as slices read and as calls own them.
-/
namespace Go.Proofs.YthnabnieajojjaaDoor
open Go.RowKit
set_option maxRecDepth 100000

/-- The cells of a list of events. -/
def flatE (l : List EvtM) : List Value := l.flatMap (fun s => s.cells.toList)
theorem flatE_nil : flatE [] = [] := rfl
theorem flatE_length (l : List EvtM) : (flatE l).length = l.length * 15 := by
  induction l with
  | nil => rfl
  | cons s l ih =>
    have : (flatE (s :: l)).length = 15 + (flatE l).length := by unfold flatE; rw [List.flatMap_cons, List.length_append]; rfl
    rw [this, ih, List.length_cons]; omega
theorem flatE_append (a b : List EvtM) : flatE (a ++ b) = flatE a ++ flatE b := by unfold flatE; rw [List.flatMap_append]
theorem flatE_one (s : EvtM) : flatE [s] = s.cells.toList := by unfold flatE; simp
theorem flatE_at : ∀ (l : List EvtM) (k j : Nat), j < 15 → (flatE l)[k * 15 + j]? = l[k]?.bind (fun s => s.cells.toList[j]?)
  | [], _, _, _ => by simp [flatE]
  | e :: l, k, j, hj => by
    have h15 : e.cells.toList.length = 15 := rfl
    unfold flatE
    rw [List.flatMap_cons]
    cases k with
    | zero =>
      rw [List.getElem?_append_left (by omega)]
      simp
    | succ k =>
      rw [List.getElem?_append_right (by omega), h15, show (k + 1) * 15 + j - 15 = k * 15 + j by omega]
      have := flatE_at l k j hj
      unfold flatE at this
      rw [this]
      simp
/-- A list of events, as a slice reads. -/
def RdE (w : World) (v : Value) (l : List EvtM) : Prop := Rd w v l.length (flatE l)
theorem RdE.below {w w' : World} {v : Value} {l : List EvtM} (h : RdE w v l) (hb : Below w.heap.size w w') : RdE w' v l := Rd.below h hb
theorem RdE.slice {w : World} {v : Value} {l : List EvtM} (h : RdE w v l) : ∃ a cap, v = .slice a l.length cap ∧ l.length ≤ cap ∧ cap ≤ 9223372036854775807 := by
  obtain ⟨a, cap, h1, h2, h3, _⟩ := h; exact ⟨a, cap, h1, h2, h3⟩
/-- The k-th event's cells. -/
theorem RdE.row {w : World} {a : Option Addr} {n cap : Nat} {l : List EvtM} (h : RdE w (.slice a n cap) l) (k : Nat) (hk : k < l.length) : ∃ b off, a = some ⟨b, off, none⟩ ∧ w.rangeAt b (off + k * 15) (l[k]).cells.toList := by
  obtain ⟨a', cap', e, h1, h2, _, h3⟩ := h
  injection e with e1 e2 e3
  subst e1
  have hl := flatE_length l
  obtain ⟨b, off, rfl, _⟩ := h3 (k * 15) (by omega)
  refine ⟨b, off, rfl, fun j v hv => ?_⟩
  have hj : j < 15 := (List.getElem?_eq_some_iff.1 hv).1
  obtain ⟨b', off', e', h4⟩ := h3 (k * 15 + j) (by omega)
  injection e' with e'; injection e' with e5 e6
  subst e5; subst e6
  rw [Nat.add_assoc, h4]
  have h5 := flatE_at l k j hj
  rw [List.getElem?_eq_getElem hk] at h5
  rw [List.getD, h5]
  show some ((l[k].cells.toList[j]?).getD undef) = some v
  rw [hv]; rfl
theorem RdE.cut {w : World} {a : Option Addr} {cap : Nat} {l : List EvtM} (h : RdE w (.slice a l.length cap) l) (k : Nat) (hk : k ≤ l.length) : RdE w (.slice a k cap) (l.take k) := by
  have hc : l.length ≤ cap := by obtain ⟨_, _, e, h5, _⟩ := h; injection e with _ _ e3; omega
  have := Rd.cut (m := k) h (by omega) (k * 15)
  unfold RdE
  have e : flatE (l.take k) = (flatE l).take (k * 15) := by
    have h1 : flatE l = flatE (l.take k) ++ flatE (l.drop k) := by rw [← flatE_append, List.take_append_drop]
    rw [h1, List.take_left' (by rw [flatE_length, List.length_take]; omega)]
  rw [e, List.length_take, Nat.min_eq_left hk]; exact this
theorem EvtM.oneE (e0 : EvtM) : ∀ v ∈ e0.cells.toList, v.oneCell' = true := by
  intro v hv
  rw [e0.cellsE] at hv
  simp only [List.mem_cons, List.not_mem_nil, or_false] at hv
  rcases hv with rfl | rfl | rfl | rfl | rfl | rfl | rfl | rfl | rfl | rfl | rfl | rfl | rfl | rfl | rfl <;> rfl
/-- A list of events that a call owns. -/
def OwnE (w : World) (base : Nat) (v : Value) (l : List EvtM) : Prop := w.ownsRow base 32 15 v l.length (flatE l)
theorem OwnE.nil (w : World) (base : Nat) : OwnE w base (.slice none 0 0) [] := ⟨rfl, .inl ⟨rfl, rfl⟩⟩
theorem OwnE.rd {w : World} {base : Nat} {v : Value} {l : List EvtM} (h : OwnE w base v l) : RdE w v l := rd_of_own h
theorem OwnE.below {w w' : World} {base : Nat} {v : Value} {l : List EvtM} (h : OwnE w base v l) (hb : Below w.heap.size w w') : OwnE w' base v l := own_below h hb
end Go.Proofs.YthnabnieajojjaaDoor
/-
  Lists of sessions and states that are lent and kept; that are the same.
-/
namespace Go.Proofs.YthnabnieajojjaaDoor
open Go.RowKit
set_option maxRecDepth 100000

theorem LentS.slice {w : World} {base : Nat} {v : Value} {l : List SesM} (h : LentS w base v l) : ∃ a cap, v = .slice a l.length cap ∧ l.length ≤ cap := by
  obtain ⟨a, cap, h1, h2⟩ := h
  obtain ⟨a', cap', e, h3⟩ := h2.slice
  injection e with e1 e2 e3
  exact ⟨a, cap, h1, by rw [full_len] at h3; omega⟩
theorem LentS.lt {w : World} {base : Nat} {v : Value} {l : List SesM} (h : LentS w base v l) : ∀ k, v.ownBlock = some k → base ≤ k ∧ k < w.heap.size := by
  obtain ⟨a, cap, rfl, h2⟩ := h
  exact fun k hk => h2.lt k (by cases a <;> exact hk)
theorem LentS.base {w : World} {base base' : Nat} {v : Value} {l : List SesM} (h : LentS w base v l) (hb : base' ≤ base) : LentS w base' v l := by
  obtain ⟨a, cap, rfl, h2⟩ := h; exact ⟨a, cap, rfl, h2.base hb⟩
set_option maxHeartbeats 1600000 in
theorem keptS_calls (v v' : Value) (base : Nat) (l : List SesM) (w : World) (hv : LentS w base v l) (hv' : RdS w v' l) (hn : l.length ≤ 1256584717457) :
    Calls Tryd.prog 33 #[v, v'] w fun e w' => e = .returned (.bool true) ∧ Below w.heap.size w w' := by
  obtain ⟨a, cap, rfl, h2⟩ := hv
  obtain ⟨a2, cap2, rfl, hd1, hd2⟩ := hv'.slice
  have hrd := h2.rd
  have hc : l.length + 16 ≤ cap := by
    obtain ⟨_, _, e, hc⟩ := h2.slice
    injection e with _ e2 e3
    rw [full_len] at hc
    omega
  have HK := Lib.hid (keptFullS_calls (.slice a (l.length + 16) cap) (.slice a2 l.length cap2) l w hrd hv' hn)
  obtain ⟨n, hN⟩ : ∃ n, n = l.length := ⟨_, rfl⟩
  rw [← hN] at HK hc hn hd1 ⊢
  have z1 : (n : Int) + 16 = ((n + 16 : Nat) : Int) := by omega
  have hhd : ∀ w, (Instr.slice 22 (.slice a n cap) none (some (.int .i64 ((n : Int) + 16))) none).run Tryd.prog w = .ok (.slice a (n + 16) cap) w := fun w => by rw [z1]; exact headS a n cap (n + 16) (by omega) w
  have n1 : (n : Int) + 16 ≤ 9223372036854775807 := by omega
  obtain ⟨N, hNN⟩ : ∃ N, N = n + 16 := ⟨_, rfl⟩
  rw [← hNN] at HK hhd
  clear hNN h2 hv' hrd hN hc hd1 hd2 hn z1
  go_enter Tryd.func33, Tryd.ntmps33
  go_wp2_with fail
  refine HK.out.mono ?_
  rintro e w1 ⟨rfl, hb⟩
  have HB := Lib.hid hb
  clear hb HK
  go_wp2_with fail
  go_ret
  exact ⟨rfl, HB.out⟩
set_option maxHeartbeats 1600000 in
theorem lentState_calls (c b : Int) (v : Value) (l : List SesM) (w : World) (hv : RdS w v l) (hn : l.length + 16 ≤ 1256584717457) :
    Calls Tryd.prog 5 #[.agg #[.int .i64 c, .int .i64 b, v]] w fun e w' => ∃ o, e = .returned (.agg #[.int .i64 c, .int .i64 b, o]) ∧ LentS w' w.heap.size o l ∧ Below w.heap.size w w' := by
  have HV := Lib.hid hv
  have HB0 := Lib.hid (fun o o2 o3 => ((below_alloc w o).trans ((below_alloc (w.alloc o) o2).mono (below_alloc w o).size)).trans ((below_alloc ((w.alloc o).alloc o2) o3).mono (Nat.le_trans (below_alloc w o).size (below_alloc _ o2).size)))
  obtain ⟨a, cap, rfl, _, _⟩ := hv.slice
  clear hv
  go_enter Tryd.func5, Tryd.ntmps5
  go_wp2_with fail
  refine (lentS_calls _ l _ (HV.out.below (HB0.out _ _ _)) hn).mono ?_
  rintro ev w1 ⟨o, rfl, hown, hb⟩
  have HO := Lib.hid hown
  have HB := Lib.hid ((HB0.out _ _ _).trans (hb.mono (HB0.out (.cells #[.int .i64 c, .int .i64 b, .slice a l.length cap] 24) (.cells #[.int .i64 0, .int .i64 0, .slice none 0 0] 24) (.cells #[.int .i64 c, .int .i64 b, .slice a l.length cap] 24)).size))
  have hx2 : Box w1 (w.heap.size + 1) #[.int .i64 0, .int .i64 0, .slice none 0 0] 24 := by
    have h := (Box.new (w.alloc (.cells #[.int .i64 c, .int .i64 b, .slice a l.length cap] 24)) #[.int .i64 0, .int .i64 0, .slice none 0 0] 24).below (below_alloc _ (.cells #[.int .i64 c, .int .i64 b, .slice a l.length cap] 24))
    rw [World.size_alloc] at h
    exact h.below hb
  have hx3 : Box w1 (w.heap.size + 1 + 1) #[.int .i64 c, .int .i64 b, .slice a l.length cap] 24 := by
    have h := Box.new ((w.alloc (.cells #[.int .i64 c, .int .i64 b, .slice a l.length cap] 24)).alloc (.cells #[.int .i64 0, .int .i64 0, .slice none 0 0] 24)) #[.int .i64 c, .int .i64 b, .slice a l.length cap] 24
    rw [World.size_alloc, World.size_alloc] at h
    exact h.below hb
  have HX2 := Lib.hid hx2
  have HX3 := Lib.hid hx3
  have c0 : w1.cell? ⟨w.heap.size + 1 + 1, 0, none⟩ = some (.int .i64 c) := hx3.cell 0 _ rfl
  have c1 : w1.cell? ⟨w.heap.size + 1 + 1, 1, none⟩ = some (.int .i64 b) := hx3.cell 1 _ rfl
  have c2 : w1.cell? ⟨w.heap.size + 1 + 1, 2, none⟩ = some (.slice a l.length cap) := hx3.cell 2 _ rfl
  have f2 := hx3.free 2
  have d0 : w1.cell? ⟨w.heap.size + 1, 0, none⟩ = some (.int .i64 0) := hx2.cell 0 _ rfl
  have d1 : w1.cell? ⟨w.heap.size + 1, 1, none⟩ = some (.int .i64 0) := hx2.cell 1 _ rfl
  have d2 : w1.cell? ⟨w.heap.size + 1, 2, none⟩ = some (.slice none 0 0) := hx2.cell 2 _ rfl
  have g0 := hx2.free 0
  have g1 := hx2.free 1
  have g2 := hx2.free 2
  have HLO := Lib.hid (fun q hq => (hown.lt q hq).1)
  clear hown hb hx2 hx3 HB0 HV
  obtain ⟨oa, oc, rfl, _⟩ := HO.out.slice
  go_wp2_with fail
  have hm : ∀ (W : World), Mod (fun q => q = w.heap.size + 1 ∨ q = w.heap.size + 1 + 1) w1 W → LentS W w.heap.size (.slice oa l.length oc) l ∧ Below w.heap.size w W := fun W hm => by
    refine ⟨(HO.out.base (by simp; omega)).mod hm (fun q hq e => ?_), HB.out.trans (hm.below HB.out.size (fun i hi => by omega))⟩
    have := HLO.out q hq
    simp at this
    omega
  have hset : ∀ (W : World) (q o : Nat) (v : Value), Mod (fun q => q = w.heap.size + 1 ∨ q = w.heap.size + 1 + 1) w1 W → (q = w.heap.size + 1 ∨ q = w.heap.size + 1 + 1) → Mod (fun q => q = w.heap.size + 1 ∨ q = w.heap.size + 1 + 1) w1 (W.setCell ⟨q, o, none⟩ v) := fun W q o v h hq => h.trans (Mod.set _ _ _ _ hq)
  refine ret_cell rfl rfl (w.heap.size + 1) 0 rfl [.int .i64 c, .int .i64 b, .slice oa l.length oc] _ ?_ Tryd.underlying24 rfl (by kernel_rfl) ⟨_, rfl, hm _ (by
    refine hset _ _ _ _ (hset _ _ _ _ (hset _ _ _ _ (hset _ _ _ _ (Mod.refl _ _) ?_) ?_) ?_) ?_ <;> simp)⟩
  have hb4 : Box ((((w1.setCell ⟨w.heap.size + 1 + 1, 2, none⟩ (.slice oa l.length oc)).setCell ⟨w.heap.size + 1, 0, none⟩ (.int .i64 c)).setCell ⟨w.heap.size + 1, 1, none⟩ (.int .i64 b)).setCell ⟨w.heap.size + 1, 2, none⟩ (.slice oa l.length oc)) (w.heap.size + 1) #[.int .i64 c, .int .i64 b, .slice oa l.length oc] 24 := by
    have h := (((HX2.out.set_other (p := ⟨w.heap.size + 1 + 1, 2, none⟩) (by simp) (.slice oa l.length oc)).set 0 (.int .i64 c)).set 1 (.int .i64 b)).set 2 (.slice oa l.length oc)
    exact h
  intro j v hv
  rw [Nat.zero_add]
  exact hb4.cell j v (by simpa using hv)
set_option maxHeartbeats 1600000 in
theorem keptState_calls (c b : Int) (v v' : Value) (base : Nat) (l : List SesM) (w : World) (hv : LentS w base v l) (hv' : RdS w v' l) (hn : l.length ≤ 1256584717457) :
    Calls Tryd.prog 11 #[.agg #[.int .i64 c, .int .i64 b, v], .agg #[.int .i64 c, .int .i64 b, v']] w fun e w' => e = .returned (.bool true) ∧ Below w.heap.size w w' := by
  have HB0 := Lib.hid (fun o o2 => below_two w o o2)
  have HK := Lib.hid (fun w' hb => keptS_calls v v' base l w' (hv.below hb) (hv'.below hb) hn)
  obtain ⟨a, cap, rfl, _⟩ := hv.slice
  obtain ⟨a2, cap2, rfl, _⟩ := hv'.slice
  have e1 : (c == c) = true := by rw [beq_iff_eq]
  have e2 : (b == b) = true := by rw [beq_iff_eq]
  clear hv hv' hn
  go_enter Tryd.func11, Tryd.ntmps11
  go_wp2_with fail
  refine (HK.out _ (HB0.out _ _)).mono ?_
  rintro e w1 ⟨rfl, hb⟩
  have HB := Lib.hid ((HB0.out _ _).trans (hb.mono (HB0.out (.cells #[.int .i64 c, .int .i64 b, .slice a l.length cap] 24) (.cells #[.int .i64 c, .int .i64 b, .slice a2 l.length cap2] 24)).size))
  clear hb HK HB0
  go_wp2_with fail
  go_ret
  exact ⟨rfl, HB.out⟩
end Go.Proofs.YthnabnieajojjaaDoor
/-
  Events that are lent, and kept.
-/
namespace Go.Proofs.YthnabnieajojjaaDoor
open Go.RowKit
set_option maxRecDepth 100000

theorem info_evt : (Tryd.prog.info? 32).map (fun i => (i.zero, i.size, i.bytes)) = some (some (.agg #[.int .i64 0, .int .i64 0, .int .i64 0, .int .i64 0, .int .i64 0, .int .i64 0, .string ⟨#[]⟩, .string ⟨#[]⟩, .int .u64 0, .int .i64 0, .int .i64 0, .int .i64 0, .int .i64 0, .int .i64 0, .int .i64 0]), 15, 136) := by kernel_rfl
theorem EvtM.listE (s : EvtM) : Hid (s.cells = s.cells.toList.toArray) := Lib.hid rfl
theorem OwnE.slice {w : World} {base : Nat} {v : Value} {l : List EvtM} (h : OwnE w base v l) : ∃ a cap, v = .slice a l.length cap ∧ l.length ≤ cap := by
  obtain ⟨a, cap, h1, h2, _⟩ := h.rd.slice; exact ⟨a, cap, h1, h2⟩
theorem OwnE.lt {w : World} {base : Nat} {v : Value} {l : List EvtM} (h : OwnE w base v l) : ∀ k, v.ownBlock = some k → base ≤ k ∧ k < w.heap.size := own_lt h
theorem OwnE.mod {w w' : World} {base : Nat} {v : Value} {l : List EvtM} {F : Nat → Prop} (h : OwnE w base v l) (hm : Mod F w w') (hb : ∀ k, v.ownBlock = some k → ¬ F k) : OwnE w' base v l := own_mod h hm hb
theorem OwnE.base {w : World} {base base' : Nat} {v : Value} {l : List EvtM} (h : OwnE w base v l) (hb : base' ≤ base) : OwnE w base' v l := own_base h hb
/-- A variable of a session's kind that is laid and filled. -/
theorem thereZE (w : World) (s : EvtM) : (w.alloc (.cells #[.int .i64 0, .int .i64 0, .int .i64 0, .int .i64 0, .int .i64 0, .int .i64 0, .string ⟨#[]⟩, .string ⟨#[]⟩, .int .u64 0, .int .i64 0, .int .i64 0, .int .i64 0, .int .i64 0, .int .i64 0, .int .i64 0] 32)).there w.heap.size 0 s.cells.toList.length := by
  intro j hj
  have hj : j < 15 := hj
  have hb := Box.new w #[.int .i64 0, .int .i64 0, .int .i64 0, .int .i64 0, .int .i64 0, .int .i64 0, .string ⟨#[]⟩, .string ⟨#[]⟩, .int .u64 0, .int .i64 0, .int .i64 0, .int .i64 0, .int .i64 0, .int .i64 0, .int .i64 0] 32
  obtain ⟨v, hv⟩ : ∃ v, (#[.int .i64 0, .int .i64 0, .int .i64 0, .int .i64 0, .int .i64 0, .int .i64 0, .string ⟨#[]⟩, .string ⟨#[]⟩, .int .u64 0, .int .i64 0, .int .i64 0, .int .i64 0, .int .i64 0, .int .i64 0, .int .i64 0] : Array Value)[j]? = some v := ⟨_, Array.getElem?_eq_getElem (show j < 15 from hj)⟩
  rw [Nat.zero_add]
  exact ⟨by rw [hb.cell _ v hv]; rfl, hb.free _⟩
theorem putZE {w w' : World} {s : EvtM} (h : Hid (w' = (w.alloc (.cells #[.int .i64 0, .int .i64 0, .int .i64 0, .int .i64 0, .int .i64 0, .int .i64 0, .string ⟨#[]⟩, .string ⟨#[]⟩, .int .u64 0, .int .i64 0, .int .i64 0, .int .i64 0, .int .i64 0, .int .i64 0, .int .i64 0] 32)).setCells w.heap.size 0 s.cells.toList)) : Box w' w.heap.size s.cells 32 ∧ Below w.heap.size w w' := by
  rw [h.out]
  have hb := Box.new w #[.int .i64 0, .int .i64 0, .int .i64 0, .int .i64 0, .int .i64 0, .int .i64 0, .string ⟨#[]⟩, .string ⟨#[]⟩, .int .u64 0, .int .i64 0, .int .i64 0, .int .i64 0, .int .i64 0, .int .i64 0, .int .i64 0] 32
  obtain ⟨cs', h1, h2, h3, _⟩ := Box.setCells s.cells.toList 0 hb (by show 0 + 15 ≤ 15; decide)
  have e1 : cs' = s.cells := by
    apply Array.ext_getElem?
    intro j
    by_cases hj : j < 15
    · have := h3 j _ (List.getElem?_eq_getElem (show j < s.cells.toList.length from hj))
      rw [Nat.zero_add] at this
      rw [this, ← Array.getElem?_toList, List.getElem?_eq_getElem (show j < s.cells.toList.length from hj)]
    · rw [Array.getElem?_eq_none (by rw [h2]; show 15 ≤ j; omega), Array.getElem?_eq_none (by show 15 ≤ j; omega)]
  rw [e1] at h1
  exact ⟨h1, put_below w _ _⟩
theorem buildE (s : EvtM) (w : World) : (Instr.buildSlice 45 1 #[(0, .agg s.cells)]).run Tryd.prog w = .ok (.slice (some ⟨w.heap.size, 0, none⟩) 1 1) (w.alloc (.cells s.cells 32)) := by kernel_rfl
/-- 'append(s, x)' of one session onto sessions that the call owns. -/
theorem appEvt {w : World} {ops : Array Oper} {rest : List Oper} {o : Oper} {a : Act} {Q : Exit → Act → World → Prop} (hgd : o.guard = none) (s x : Operand)
    (ho : o.op = .call { callee := .builtin .append, args := #[s, x], argTypes := #[45, 45] })
    (base : Nat) (v : Value) (l : List EvtM) (hs : a.eval s = v) (hown : OwnE w base v l)
    (ad : Addr) (c : Nat) (y : EvtM) (hx : a.eval x = .slice (some ad) 1 c) (hy : ∀ j u, y.cells.toList[j]? = some u → w.cell? (ad.add j) = some u)
    (hroom : l.length + 1 ≤ 1034834473200) (hbase : base ≤ w.heap.size)
    (h : ∀ v' w', OwnE w' base v' (l ++ [y]) → w.grownBy w' v.ownBlock → Moved w v v' → wpList Tryd.prog ops Q rest (a.put o.dst v') w') : wpList Tryd.prog ops Q (o :: rest) a w := by
  obtain ⟨i0, hi, hz0, hz1, hz2⟩ := info_parts info_evt
  refine wpList_append_own2 hgd s x 45 ho base 32 i0 _ 15 136 Tryd.underlying45 hi hz0 hz1 hz2 rfl (by decide) v l.length (flatE l) hs hown ad 1 c y.cells.toList hx rfl hy y.oneE (by unfold maxLen; omega) (by omega) hbase (fun v' w' h1 h2 h3 => h v' w' ?_ h2 h3)
  unfold OwnE
  rw [flatE_append, flatE_one, List.length_append]; exact h1
theorem newCellsE (w : World) (s : EvtM) (t : TypeId) : ∀ j u, s.cells.toList[j]? = some u → (w.alloc (.cells s.cells t)).cell? ((⟨w.heap.size, 0, none⟩ : Addr).add j) = some u := fun j u hj => World.news_of_block (heap_alloc_new w (.cells s.cells t)) j u hj
theorem headE (a : Option Addr) (n cap k : Nat) (hk : k ≤ cap) (w : World) : (Instr.slice 45 (.slice a n cap) none (some (.int .i64 (k : Int))) none).run Tryd.prog w = .ok (.slice a k cap) w :=
  run_head Tryd.underlying45 ⟨15, by kernel_rfl⟩ a n cap k hk w
theorem Box.setAllE {w : World} {b : Nat} {cs : Array Value} {t : TypeId} (h : Box w b cs t) (hs : cs.size = 15) (s : EvtM) : Box (w.setCells b 0 s.cells.toList) b s.cells t ∧ w.there b 0 s.cells.toList.length := by
  constructor
  · obtain ⟨cs', h1, h2, h3, _⟩ := Box.setCells s.cells.toList 0 h (by show 0 + 15 ≤ cs.size; omega)
    have e1 : cs' = s.cells := by
      apply Array.ext_getElem?
      intro j
      by_cases hj : j < 15
      · have := h3 j _ (List.getElem?_eq_getElem (show j < s.cells.toList.length from hj))
        rw [Nat.zero_add] at this
        rw [this, ← Array.getElem?_toList, List.getElem?_eq_getElem (show j < s.cells.toList.length from hj)]
      · rw [Array.getElem?_eq_none (by omega), Array.getElem?_eq_none (by show 15 ≤ j; omega)]
    rw [e1] at h1
    exact h1
  · intro j hj
    have hj : j < 15 := hj
    obtain ⟨v, hv⟩ : ∃ v, cs[j]? = some v := ⟨_, Array.getElem?_eq_getElem (by omega)⟩
    rw [Nat.zero_add]
    exact ⟨by rw [h.cell _ v hv]; rfl, h.free _⟩
/-- The mark of a place. -/
def markEv (k i : Int) : EvtM := ⟨-7 - k, noSes, 0, i⟩
theorem markEv_cells (k i : Int) : (markEv k i).cells = #[.int .i64 (-7 - k), .int .i64 0, .int .i64 0, .int .i64 0, .int .i64 0, .int .i64 0, .string ⟨#[]⟩, .string ⟨#[]⟩, .int .u64 0, .int .i64 0, .int .i64 0, .int .i64 0, .int .i64 0, .int .i64 0, .int .i64 i] := rfl
def mksE (n : Nat) : List EvtM := (List.range n).map (fun i : Nat => markEv 90 (i : Int))
theorem mksE_length (n : Nat) : (mksE n).length = n := by simp [mksE]
theorem mksE_succ (n : Nat) : mksE (n + 1) = mksE n ++ [markEv 90 n] := by simp [mksE, List.range_succ]
theorem mksE_get (n j : Nat) (h : j < (mksE n).length) : (mksE n)[j] = markEv 90 j := by simp [mksE]
/-- A list of sessions that is lent: in its spare room stand marks. -/
def LentE (w : World) (base : Nat) (v : Value) (l : List EvtM) : Prop := ∃ a cap, v = .slice a l.length cap ∧ OwnE w base (.slice a (l.length + 16) cap) (l ++ mksE 16)
theorem LentE.below {w w' : World} {base : Nat} {v : Value} {l : List EvtM} (h : LentE w base v l) (hb : Below w.heap.size w w') : LentE w' base v l := by
  obtain ⟨a, cap, h1, h2⟩ := h; exact ⟨a, cap, h1, h2.below hb⟩
theorem full_lenE (l : List EvtM) : (l ++ mksE 16).length = l.length + 16 := by rw [List.length_append, mksE_length]
theorem LentE.rd {w : World} {base : Nat} {v : Value} {l : List EvtM} (h : LentE w base v l) : RdE w v l := by
  obtain ⟨a, cap, rfl, h2⟩ := h
  have h3 := h2.rd
  rw [← full_lenE] at h3
  have := h3.cut l.length (by rw [full_lenE]; omega)
  rw [List.take_left] at this
  exact this
theorem LentE.mod {w w' : World} {base : Nat} {v : Value} {l : List EvtM} {F : Nat → Prop} (h : LentE w base v l) (hm : Mod F w w') (hb : ∀ k, v.ownBlock = some k → ¬ F k) : LentE w' base v l := by
  obtain ⟨a, cap, rfl, h2⟩ := h; exact ⟨a, cap, rfl, h2.mod hm (fun k hk => hb k (by cases a <;> exact hk))⟩
theorem LentE.slice {w : World} {base : Nat} {v : Value} {l : List EvtM} (h : LentE w base v l) : ∃ a cap, v = .slice a l.length cap ∧ l.length ≤ cap := by
  obtain ⟨a, cap, h1, h2⟩ := h
  obtain ⟨a', cap', e, h3⟩ := h2.slice
  injection e with e1 e2 e3
  exact ⟨a, cap, h1, by rw [full_lenE] at h3; omega⟩
theorem LentE.lt {w : World} {base : Nat} {v : Value} {l : List EvtM} (h : LentE w base v l) : ∀ k, v.ownBlock = some k → base ≤ k ∧ k < w.heap.size := by
  obtain ⟨a, cap, rfl, h2⟩ := h
  exact fun k hk => h2.lt k (by cases a <;> exact hk)
theorem LentE.base {w : World} {base base' : Nat} {v : Value} {l : List EvtM} (h : LentE w base v l) (hb : base' ≤ base) : LentE w base' v l := by
  obtain ⟨a, cap, rfl, h2⟩ := h; exact ⟨a, cap, rfl, h2.base hb⟩
end Go.Proofs.YthnabnieajojjaaDoor
/-
  Arguments of the statements about events.
-/
namespace Go.Proofs.YthnabnieajojjaaDoor
open Go.RowKit

/-- The bounds of an event that is handed in. -/
structure EvOk (e : EvtM) : Prop where
  user : e.s.user.length ≤ 140737488351232
  label : e.s.label.length ≤ 140737488351232
  scopes : e.s.scopes < 2 ^ 64
  kind : I64 e.kind
  birth : I64 e.birth
  ticks : I64 e.ticks
  sSlot : I64 e.s.slot
  sBirth : I64 e.s.birth
  sUpS : I64 e.s.upS
  sUpB : I64 e.s.upB
  sKind : I64 e.s.kind
  sLevel : I64 e.s.level
  sBorn : I64 e.s.born
  sDeadline : I64 e.s.deadline
  sDepth : I64 e.s.depth
theorem u64_of_wf {n : Int} (h : (Lit.int .u64 n).wf = true) : ∃ k : Nat, n = (k : Int) ∧ k < 2 ^ 64 := by
  have h1 : 0 ≤ n ∧ n ≤ 18446744073709551615 := by simpa [Lit.wf, IntKind.min, IntKind.max, IntKind.bits, IntKind.signed] using h
  exact ⟨n.toNat, by omega, by omega⟩
set_option maxRecDepth 100000 in
theorem ArgC.event {N : Nat} {W : World} {cs : List Value} (hl : cs.length = 15) (h : ArgC false N 32 W cs) : ∃ e : EvtM, cs = e.cells.toList ∧ EvOk e := by
  match cs, hl with
  | [c0, c1, c2, c3, c4, c5, c6, c7, c8, c9, c10, c11, c12, c13, c14], _ =>
    have ci : Tryd.prog.cellsOf 3 = 1 := by kernel_rfl
    have cs' : Tryd.prog.cellsOf 9 = 1 := by kernel_rfl
    have cu : Tryd.prog.cellsOf 28 = 1 := by kernel_rfl
    have cl : Tryd.prog.cellsOf 26 = 2 := by kernel_rfl
    have cx : Tryd.prog.cellsOf 30 = 12 := by kernel_rfl
    have hs := Tryd.underlying32
    obtain ⟨n0, rfl, b0⟩ := h.fint hs 0 _ rfl ci c0 rfl .i64 Tryd.underlying3
    obtain ⟨M, _, g⟩ := h.fstruct hs 1 _ rfl 30 1 12 rfl rfl cx
    have g' : ArgC false M 30 W [c1, c2, c3, c4, c5, c6, c7, c8, c9, c10, c11, c12] := g
    have hx := Tryd.underlying30
    obtain ⟨n1, rfl, b1⟩ := g'.fint hx 0 _ rfl ci c1 rfl .i64 Tryd.underlying3
    obtain ⟨n2, rfl, b2⟩ := g'.fint hx 1 _ rfl ci c2 rfl .i64 Tryd.underlying3
    obtain ⟨M2, _, k⟩ := g'.fstruct hx 2 _ rfl 26 2 2 rfl rfl cl
    have k' : ArgC false M2 26 W [c3, c4] := k
    have hk := Tryd.underlying26
    obtain ⟨n3, rfl, b3⟩ := k'.fint hk 0 _ rfl ci c3 rfl .i64 Tryd.underlying3
    obtain ⟨n4, rfl, b4⟩ := k'.fint hk 1 _ rfl ci c4 rfl .i64 Tryd.underlying3
    obtain ⟨n5, rfl, b5⟩ := g'.fint hx 3 _ rfl ci c5 rfl .i64 Tryd.underlying3
    obtain ⟨s6, rfl, _, _, b6⟩ := g'.fstring hx 4 _ rfl cs' c6 rfl Tryd.underlying9
    obtain ⟨s7, rfl, _, _, b7⟩ := g'.fstring hx 5 _ rfl cs' c7 rfl Tryd.underlying9
    obtain ⟨n8, rfl, b8⟩ := g'.fint hx 6 _ rfl cu c8 rfl .u64 Tryd.underlying28
    obtain ⟨n9, rfl, b9⟩ := g'.fint hx 7 _ rfl ci c9 rfl .i64 Tryd.underlying3
    obtain ⟨n10, rfl, b10⟩ := g'.fint hx 8 _ rfl ci c10 rfl .i64 Tryd.underlying3
    obtain ⟨n11, rfl, b11⟩ := g'.fint hx 9 _ rfl ci c11 rfl .i64 Tryd.underlying3
    obtain ⟨n12, rfl, b12⟩ := g'.fint hx 10 _ rfl ci c12 rfl .i64 Tryd.underlying3
    obtain ⟨n13, rfl, b13⟩ := h.fint hs 2 _ rfl ci c13 rfl .i64 Tryd.underlying3
    obtain ⟨n14, rfl, b14⟩ := h.fint hs 3 _ rfl ci c14 rfl .i64 Tryd.underlying3
    obtain ⟨u, rfl, hu⟩ := SB_of s6
    obtain ⟨l, rfl, hl⟩ := SB_of s7
    obtain ⟨sc, rfl, hsc⟩ := u64_of_wf b8
    exact ⟨⟨n0, ⟨n1, n2, n3, n4, n5, u, l, sc, n9, n10, n11, n12⟩, n13, n14⟩, rfl, by rw [hu]; exact b6 rfl, by rw [hl]; exact b7 rfl, hsc, i64_of_wf b0, i64_of_wf b13, i64_of_wf b14, i64_of_wf b1, i64_of_wf b2, i64_of_wf b3, i64_of_wf b4, i64_of_wf b5, i64_of_wf b9, i64_of_wf b10, i64_of_wf b11, i64_of_wf b12⟩
set_option maxRecDepth 100000 in
theorem Arg.event {W : World} {v : Value} (h : Arg false 32 W v) : ∃ e : EvtM, v = .agg e.cells ∧ EvOk e := by
  obtain ⟨cs, rfl, h1⟩ := h.struct Tryd.underlying32
  have hl : cs.toList.length = 15 := by
    have := (h1.struct Tryd.underlying32).1
    rw [show Tryd.prog.cellsOf 32 = 15 by kernel_rfl] at this; exact this
  obtain ⟨e, he, hok⟩ := h1.event hl
  exact ⟨e, by rw [show cs = e.cells from Array.ext' he], hok⟩
end Go.Proofs.YthnabnieajojjaaDoor
/-
  Bounds of what an event makes of a state.
-/
namespace Go.Proofs.YthnabnieajojjaaDoor
open Go.RowKit
set_option maxRecDepth 100000

theorem upM_er (s : SesM) (l : List SesM) : 0 ≤ upM s l ∧ upM s l ≤ 24 := by
  unfold upM
  split
  · decide
  · split
    · decide
    · split
      · split <;> decide
      · decide
theorem refM_er (st : StM) (s : SesM) : 0 ≤ refM st s ∧ refM st s ≤ 24 := by
  have := upM_er s st.l
  unfold refM
  repeat' split
  all_goals first | decide | exact this
theorem applyM_er (st : StM) (e : EvtM) : 0 ≤ (applyM st e).1 ∧ (applyM st e).1 ≤ 24 := by
  have := refM_er st e.s
  unfold applyM
  repeat' split
  all_goals first | exact this | exact ⟨by decide, by decide⟩ | (show (0 : Int) ≤ 0 ∧ (0 : Int) ≤ 24; decide) | (simp; done)
theorem withoutM_len (f : SesM → Bool) (l : List SesM) : (withoutM f l).length ≤ l.length := List.length_filter_le _ _
theorem applyM_len (st : StM) (e : EvtM) : (applyM st e).2.l.length ≤ st.l.length + 1 := by
  have h1 := withoutM_len (fun s => s.birth == e.birth) st.l
  have h2 := withoutM_len (fun s => decide (s.deadline ≤ st.clock + e.ticks)) st.l
  unfold applyM
  repeat' split
  all_goals simp [noSt] <;> omega
end Go.Proofs.YthnabnieajojjaaDoor
/-
  replay.All: events are applied up to the first that is refused.
-/
namespace Go.Proofs.YthnabnieajojjaaDoor
open Go.RowKit
set_option maxRecDepth 100000

theorem allM_one (S : StM) (e : EvtM) (r : List EvtM) (h0 : (applyM S e).1 = 0) : allM S (e :: r) = ((allM (applyM S e).2 r).1, (allM (applyM S e).2 r).2 + 1) := by rw [allM, if_pos h0]
theorem allM_no (S : StM) (e : EvtM) (r : List EvtM) (h0 : (applyM S e).1 ≠ 0) : allM S (e :: r) = (S, 0) := by rw [allM, if_neg h0]
theorem allM_take {st S : StM} {l : List EvtM} {k : Nat} (hk : k < l.length) (h : allM st (l.take k) = (S, k)) (h0 : (applyM S l[k]).1 = 0) : allM st (l.take (k + 1)) = ((applyM S l[k]).2, k + 1) := by
  have h1 : (l.take k).length = k := by rw [List.length_take]; omega
  rw [List.take_succ_eq_append_getElem hk, allM_app _ _ _ (by rw [h, h1]), h, h1]
  simp only
  rw [allM_one _ _ _ h0]; rfl
theorem allM_stop {st S : StM} {l : List EvtM} {k : Nat} (hk : k < l.length) (h : allM st (l.take k) = (S, k)) (h0 : (applyM S l[k]).1 ≠ 0) : allM st l = (S, k) := by
  have h1 : (l.take k).length = k := by rw [List.length_take]; omega
  have e : l = l.take k ++ l[k] :: l.drop (k + 1) := by rw [List.getElem_cons_drop, List.take_append_drop]
  rw [e, allM_app _ _ _ (by rw [h, h1]), h, h1]
  simp only
  rw [allM_no _ _ _ h0]; rfl
theorem allM_end {st S : StM} {l : List EvtM} (h : allM st (l.take l.length) = (S, l.length)) : allM st l = (S, l.length) := by rwa [List.take_length] at h
/-- What stands while events are applied. -/
structure AllI (w w' : World) (st : StM) (l : List EvtM) (k : Nat) (C B : Int) (sv : Value) (L : List SesM) : Prop where
  bx : Box w' w.heap.size #[.int .i64 C, .int .i64 B, sv] 24
  bz : Box w' (w.heap.size + 1) #[.int .i64 0, .int .i64 0, .slice none 0 0] 24
  ow : OwnS w' (w.heap.size + 2) sv L
  al : allM st (l.take k) = (⟨C, B, L⟩, k)
  ln : L.length ≤ st.l.length + k
  bel : Below w.heap.size w w'
theorem AllI.below {w w' w2 : World} {st : StM} {l : List EvtM} {k : Nat} {C B : Int} {sv : Value} {L : List SesM} (h : AllI w w' st l k C B sv L) (hb : Below w'.heap.size w' w2) : AllI w w2 st l k C B sv L :=
  ⟨h.bx.below hb, h.bz.below hb, h.ow.below hb, h.al, h.ln, h.bel.trans (hb.mono h.bel.size)⟩
theorem AllI.put {w w' : World} {st : StM} {l : List EvtM} {k : Nat} {C B : Int} {sv : Value} {L : List SesM} (h : AllI w w' st l k C B sv L) (k2 : Nat) (C2 B2 : Int) (o : Value) (L2 : List SesM) (ho : OwnS w' (w.heap.size + 2) o L2) (hal : allM st (l.take k2) = (⟨C2, B2, L2⟩, k2)) (hln : L2.length ≤ st.l.length + k2) :
    AllI w (((w'.setCell ⟨w.heap.size, 0, none⟩ (.int .i64 C2)).setCell ⟨w.heap.size, 1, none⟩ (.int .i64 B2)).setCell ⟨w.heap.size, 2, none⟩ o) st l k2 C2 B2 o L2 := by
  have hm := Mod.set3 w.heap.size w' (.int .i64 C2) (.int .i64 B2) o
  exact ⟨((h.bx.set 0 (.int .i64 C2)).set 1 (.int .i64 B2)).set 2 o, h.bz.mod hm (by omega), ho.mod hm (fun k hk e => by have := (ho.lt k hk).1; omega), hal, hln, h.bel.trans (hm.below h.bel.size (fun i hi => by omega))⟩
/-- The result's variable is filled. -/
theorem AllI.fill {w w' : World} {st : StM} {l : List EvtM} {k : Nat} {C B : Int} {sv : Value} {L : List SesM} (h : AllI w w' st l k C B sv L) :
    Box (((w'.setCell ⟨w.heap.size + 1, 0, none⟩ (.int .i64 C)).setCell ⟨w.heap.size + 1, 1, none⟩ (.int .i64 B)).setCell ⟨w.heap.size + 1, 2, none⟩ sv) (w.heap.size + 1) #[.int .i64 C, .int .i64 B, sv] 24 ∧ OwnS (((w'.setCell ⟨w.heap.size + 1, 0, none⟩ (.int .i64 C)).setCell ⟨w.heap.size + 1, 1, none⟩ (.int .i64 B)).setCell ⟨w.heap.size + 1, 2, none⟩ sv) w.heap.size sv L ∧ Below w.heap.size w (((w'.setCell ⟨w.heap.size + 1, 0, none⟩ (.int .i64 C)).setCell ⟨w.heap.size + 1, 1, none⟩ (.int .i64 B)).setCell ⟨w.heap.size + 1, 2, none⟩ sv) := by
  have hm := Mod.set3 (w.heap.size + 1) w' (.int .i64 C) (.int .i64 B) sv
  exact ⟨((h.bz.set 0 (.int .i64 C)).set 1 (.int .i64 B)).set 2 sv, (h.ow.mod hm (fun k hk e => by have := (h.ow.lt k hk).1; omega)).base (by omega), h.bel.trans (hm.below h.bel.size (fun i hi => by omega))⟩
set_option maxHeartbeats 6400000 in
theorem allP_calls (st : StM) (l : List EvtM) (v ev : Value) (w : World) (hv : RdS w v st.l) (hev : RdE w ev l) (hn : st.l.length + l.length ≤ 1000000000) (hok : ∀ e ∈ l, EvOk e) :
    Calls Tryd.prog 34 #[.agg #[.int .i64 st.clock, .int .i64 st.births, v], ev] w fun e w' => ∃ o, e = .returned (.tuple #[.agg #[.int .i64 (allM st l).1.clock, .int .i64 (allM st l).1.births, o], .int .i64 ((allM st l).2 : Int)]) ∧ OwnS w' w.heap.size o (allM st l).1.l ∧ Below w.heap.size w w' := by
  have HAP := Lib.hid (fun (S : StM) (e : EvtM) (he : e ∈ l) v' w' h hn' => apply_calls S e v' w' h hn' (Nat.le_trans (hok e he).user (by decide)) (Nat.le_trans (hok e he).label (by decide)) (hok e he).scopes)
  have HEV := Lib.hid hev
  have HNN := Lib.hid hn
  have HST0 := Lib.hid (show allM st (l.take 0) = (st, 0) from rfl)
  obtain ⟨D, hD⟩ : ∃ D, D = allM st l := ⟨_, rfl⟩
  have HD := Lib.hid hD
  rw [← hD]
  obtain ⟨ea, ec, rfl, _, he2⟩ := hev.slice
  obtain ⟨va, vc, rfl, hv1, hv2⟩ := hv.slice
  have HCL := Lib.hid (fun w' hb => cloneS_calls (.slice va st.l.length vc) st.l w' (hv.below hb) (by omega))
  have hln : l.length ≤ 9223372036854775807 := by omega
  clear hev hv hD hok he2 hv2 hv1 hn
  obtain ⟨n, hN⟩ : ∃ n, n = l.length := ⟨_, rfl⟩
  rw [← hN] at hln HEV ⊢
  have HN := Lib.hid hN
  clear hN
  obtain ⟨vn, hVN⟩ : ∃ vn, vn = st.l.length := ⟨_, rfl⟩
  rw [← hVN] at HCL ⊢
  clear hVN
  obtain ⟨c, hc⟩ : ∃ c, c = st.clock := ⟨_, rfl⟩
  obtain ⟨b, hb⟩ : ∃ b, b = st.births := ⟨_, rfl⟩
  rw [← hc, ← hb]
  have HCB := Lib.hid (And.intro hc hb)
  clear hc hb
  have HB0 := Lib.hid (below_two w (.cells #[.int .i64 c, .int .i64 b, .slice va vn vc] 24) (.cells #[.int .i64 0, .int .i64 0, .slice none 0 0] 24))
  have HX0 := Lib.hid ((Box.new w #[.int .i64 c, .int .i64 b, .slice va vn vc] 24).below (below_alloc _ (.cells #[.int .i64 0, .int .i64 0, .slice none 0 0] 24)))
  have HZ0 := Lib.hid (show Box ((w.alloc (.cells #[.int .i64 c, .int .i64 b, .slice va vn vc] 24)).alloc (.cells #[.int .i64 0, .int .i64 0, .slice none 0 0] 24)) (w.heap.size + 1) #[.int .i64 0, .int .i64 0, .slice none 0 0] 24 by have h := Box.new (w.alloc (.cells #[.int .i64 c, .int .i64 b, .slice va vn vc] 24)) #[.int .i64 0, .int .i64 0, .slice none 0 0] 24; rw [World.size_alloc] at h; exact h)
  go_enter Tryd.func34, Tryd.ntmps34
  go_wp2_with fail
  refine (HCL.out _ HB0.out).mono ?_
  rintro e1 w1 ⟨o, rfl, ho, hb1⟩
  obtain ⟨sa, sc, rfl, _⟩ := ho.slice
  obtain ⟨sn, hSN⟩ : ∃ sn, sn = st.l.length := ⟨_, rfl⟩
  rw [← hSN] at ho ⊢
  clear hSN
  have hx1 := HX0.out.below hb1
  have hz1 := HZ0.out.below hb1
  have hs := HB0.out.size
  have f2 := hx1.free 2
  have c2 : w1.cell? ⟨w.heap.size, 2, none⟩ = some (.slice va vn vc) := hx1.cell 2 _ rfl
  have hm := Mod.set (fun i => i = w.heap.size) w1 ⟨w.heap.size, 2, none⟩ (.slice sa sn sc) rfl
  have ho2 := ho.base (base' := w.heap.size + 2) (by simp)
  have HI1 := Lib.hid (show AllI w (w1.setCell ⟨w.heap.size, 2, none⟩ (.slice sa sn sc)) st l 0 c b (.slice sa sn sc) st.l from
    ⟨hx1.set 2 (.slice sa sn sc), hz1.mod hm (by omega), ho2.mod hm (fun k hk e => by have := (ho2.lt k hk).1; omega), by rw [HST0.out, HCB.out.1, HCB.out.2], by omega, (HB0.out.trans (hb1.mono hs)).trans (hm.below (HB0.out.trans (hb1.mono hs)).size (fun i hi => by omega))⟩)
  clear ho ho2 hb1 hx1 hz1 hs hm HX0 HZ0 HB0 HCL
  go_wp2_with fail
  go_loopg [16] n (fun gk iv wr => ∃ (k : Nat) (C B : Int) (sv : Value) (L : List SesM), gk + k = n ∧ iv = .int .i64 (k : Int) ∧ AllI w wr st l k C B sv L)
  case atStart => exact ⟨0, _, _, _, _, Nat.add_zero _, rfl, HI1.out⟩
  case round =>
    clear c2 f2 HI1 HST0 HCB
    obtain ⟨k, C, B, sv, L, hgk, rfl, hI⟩ := hrel
    have k0 : (0 : Int) ≤ (k : Int) := by omega
    have HGK := Lib.hid hgk
    have HI := Lib.hid hI
    obtain ⟨sa, sc, rfl, _⟩ := hI.ow.slice
    obtain ⟨sn, hSN⟩ : ∃ sn, sn = L.length := ⟨_, rfl⟩
    rw [← hSN] at HI
    clear hgk hI hSN
    by_cases hk : k < n
    rotate_left
    · have k1 : ¬ (k : Int) < (n : Int) := by omega
      obtain rfl : k = n := by have := HGK.out; omega
      have HD4 := Lib.hid (show D = (⟨C, B, L⟩, k) by
        have h := HI.out.al
        rw [HN.out] at h ⊢
        rw [HD.out]; exact allM_end h)
      have c0 : (wr).cell? ⟨w.heap.size, 0, none⟩ = some (.int .i64 C) := HI.out.bx.cell 0 _ rfl
      have c1 : (wr).cell? ⟨w.heap.size, 1, none⟩ = some (.int .i64 B) := HI.out.bx.cell 1 _ rfl
      have c2 : (wr).cell? ⟨w.heap.size, 2, none⟩ = some (.slice sa sn sc) := HI.out.bx.cell 2 _ rfl
      have z0 : (wr).cell? ⟨w.heap.size + 1, 0, none⟩ = some (.int .i64 0) := HI.out.bz.cell 0 _ rfl
      have y0 := HI.out.bz.free 0
      have z1 : (wr).cell? ⟨w.heap.size + 1, 1, none⟩ = some (.int .i64 0) := HI.out.bz.cell 1 _ rfl
      have y1 := HI.out.bz.free 1
      have z2 : (wr).cell? ⟨w.heap.size + 1, 2, none⟩ = some (.slice none 0 0) := HI.out.bz.cell 2 _ rfl
      have y2 := HI.out.bz.free 2
      have HF := Lib.hid HI.out.fill
      clear hk HI
      go_wp2_with fail
      exact ret_cell_tmp rfl rfl (w.heap.size + 1) 0 rfl [.int .i64 C, .int .i64 B, .slice sa sn sc] _ (zrangeS HF.out.1) Tryd.underlying24 rfl (by kernel_rfl) _ rfl ⟨_, by rw [HD4.out]; rfl, by rw [HD4.out]; exact HF.out.2.1, HF.out.2.2⟩
    have k1 : (k : Int) < (n : Int) := by omega
    have hkl : k < l.length := by have := HN.out; omega
    obtain ⟨e, he⟩ : ∃ e, e = l[k] := ⟨_, rfl⟩
    obtain ⟨rb, ro, hra, hrow⟩ := (HEV.out.below HI.out.bel).row k hkl
    subst hra
    rw [← he] at hrow
    have HROW := Lib.hid hrow
    have HK := Lib.hid hk
    have HMEM := Lib.hid (show e ∈ l by rw [he]; exact List.getElem_mem hkl)
    have HLE := Lib.hid (show L.length ≤ 1000000000 by have h := HI.out.ln; have := HNN.out; omega)
    have HTA := Lib.hid (fun h0 => @allM_take st ⟨C, B, L⟩ l k hkl HI.out.al h0)
    have HTO := Lib.hid (fun h0 => @allM_stop st ⟨C, B, L⟩ l k hkl HI.out.al h0)
    have HLN := Lib.hid (Nat.le_trans (applyM_len ⟨C, B, L⟩ e) (Nat.add_le_add_right HI.out.ln 1))
    rw [← he] at HTA HTO
    clear hk hkl he hrow
    go_wp2_with ((with_reducible refine wpList_load_k ?b01 32 (.tmp 19) ?b11 rb (ro + k * 15) ?b21 e.cells.toList _ HROW.out Tryd.underlying32 ?b31 ?b41 ?b81); (case b11 => rfl); (case b01 => rfl); (case b21 => rfl); (case b31 => rfl); (case b41 => kernel_rfl))
    intro cv hcv
    go_wp2_with ((with_reducible refine wpList_store_k ?a0 32 (.tmp 7) (.tmp 20) ?a1 wr.heap.size 0 e.cells.toList ?a2 cv ?a3 hcv ?a5 ?a6 ?a7 ?a8); (case a1 => rfl); (case a0 => rfl); (case a2 => rfl); (case a3 => rfl); (case a5 => exact thereZE _ _); (case a6 => kernel_rfl); (case a7 => exact EvtM.oneE _))
    intro w2 hw2
    obtain ⟨hpx, hb2⟩ := putZE hw2
    have HPX := Lib.hid hpx.rangeV
    have HI2 := Lib.hid (HI.out.below hb2)
    clear hw2 hcv hpx hb2 HROW HI
    have c0 : (w2).cell? ⟨w.heap.size, 0, none⟩ = some (.int .i64 C) := HI2.out.bx.cell 0 _ rfl
    have f0 := HI2.out.bx.free 0
    have c1 : (w2).cell? ⟨w.heap.size, 1, none⟩ = some (.int .i64 B) := HI2.out.bx.cell 1 _ rfl
    have f1 := HI2.out.bx.free 1
    have c2 : (w2).cell? ⟨w.heap.size, 2, none⟩ = some (.slice sa sn sc) := HI2.out.bx.cell 2 _ rfl
    have f2 := HI2.out.bx.free 2
    go_wp2_with ((with_reducible refine wpList_load_k ?b02 32 (.tmp 7) ?b12 wr.heap.size 0 ?b22 e.cells.toList _ HPX.out Tryd.underlying32 ?b32 ?b42 ?b82); (case b12 => rfl); (case b02 => rfl); (case b22 => rfl); (case b32 => rfl); (case b42 => kernel_rfl))
    intro cv hcv
    have ecv : cv = e.cells := by rw [hcv.out]
    subst ecv
    clear hcv HPX
    go_wp2_with fail
    refine (HAP.out ⟨C, B, L⟩ e HMEM.out _ w2 HI2.out.ow.rd HLE.out).mono ?_
    rintro e3 w3 ⟨o, rfl, ho, hb3⟩
    obtain ⟨A, hA⟩ : ∃ A, A = applyM ⟨C, B, L⟩ e := ⟨_, rfl⟩
    rw [← hA] at ho HTA HTO HLN ⊢
    clear hA c0 c1 c2 f0 f1 f2
    obtain ⟨er, C2, B2, L2⟩ := A
    simp only at ho HTA HTO HLN ⊢
    have hs2 : w.heap.size + 2 ≤ w2.heap.size := by have := HI2.out.bz.lt; omega
    have HI3 := Lib.hid (HI2.out.below hb3)
    obtain ⟨oa, oc, rfl, _⟩ := ho.slice
    obtain ⟨m, hM⟩ : ∃ m, m = L2.length := ⟨_, rfl⟩
    rw [← hM] at ho ⊢
    clear hM
    have hba := below_alloc w3 (.cells #[.int .i64 C2, .int .i64 B2, .slice oa m oc] 24)
    have HI4 := Lib.hid (HI3.out.below hba)
    have HO4 := Lib.hid ((ho.base hs2).below hba)
    have HX4 := Lib.hid (Box.new w3 #[.int .i64 C2, .int .i64 B2, .slice oa m oc] 24)
    clear ho hb3 hba hs2 HI3 HI2
    by_cases h0 : er = 0
    · subst h0
      rw [show errV 0 = .nilIface from rfl]
      have HN2 := Lib.hid (HI4.out.put (k + 1) C2 B2 (.slice oa m oc) L2 HO4.out (HTA.out rfl) HLN.out)
      have c0 : (w3.alloc (.cells #[.int .i64 C2, .int .i64 B2, .slice oa m oc] 24)).cell? ⟨w.heap.size, 0, none⟩ = some (.int .i64 C) := HI4.out.bx.cell 0 _ rfl
      have f0 := HI4.out.bx.free 0
      have c1 : (w3.alloc (.cells #[.int .i64 C2, .int .i64 B2, .slice oa m oc] 24)).cell? ⟨w.heap.size, 1, none⟩ = some (.int .i64 B) := HI4.out.bx.cell 1 _ rfl
      have f1 := HI4.out.bx.free 1
      have c2 : (w3.alloc (.cells #[.int .i64 C2, .int .i64 B2, .slice oa m oc] 24)).cell? ⟨w.heap.size, 2, none⟩ = some (.slice sa sn sc) := HI4.out.bx.cell 2 _ rfl
      have f2 := HI4.out.bx.free 2
      have d0 : (w3.alloc (.cells #[.int .i64 C2, .int .i64 B2, .slice oa m oc] 24)).cell? ⟨w3.heap.size, 0, none⟩ = some (.int .i64 C2) := HX4.out.cell 0 _ rfl
      have d1 : (w3.alloc (.cells #[.int .i64 C2, .int .i64 B2, .slice oa m oc] 24)).cell? ⟨w3.heap.size, 1, none⟩ = some (.int .i64 B2) := HX4.out.cell 1 _ rfl
      have d2 : (w3.alloc (.cells #[.int .i64 C2, .int .i64 B2, .slice oa m oc] 24)).cell? ⟨w3.heap.size, 2, none⟩ = some (.slice oa m oc) := HX4.out.cell 2 _ rfl
      clear HI4 HO4 HX4 HTA HTO HLN
      go_wp2_with fail
      go_roundg (n - (k + 1))
      case measure => have := HGK.out; have := HK.out; omega
      case rel => exact ⟨k + 1, _, _, _, _, by have := HGK.out; have := HK.out; omega, by go_num, HN2.out⟩
    rw [errV_nz h0]
    have HD4 := Lib.hid (show D = (⟨C, B, L⟩, k) by rw [HD.out]; exact HTO.out h0)
    have c0 : (w3.alloc (.cells #[.int .i64 C2, .int .i64 B2, .slice oa m oc] 24)).cell? ⟨w.heap.size, 0, none⟩ = some (.int .i64 C) := HI4.out.bx.cell 0 _ rfl
    have c1 : (w3.alloc (.cells #[.int .i64 C2, .int .i64 B2, .slice oa m oc] 24)).cell? ⟨w.heap.size, 1, none⟩ = some (.int .i64 B) := HI4.out.bx.cell 1 _ rfl
    have c2 : (w3.alloc (.cells #[.int .i64 C2, .int .i64 B2, .slice oa m oc] 24)).cell? ⟨w.heap.size, 2, none⟩ = some (.slice sa sn sc) := HI4.out.bx.cell 2 _ rfl
    have z0 : (w3.alloc (.cells #[.int .i64 C2, .int .i64 B2, .slice oa m oc] 24)).cell? ⟨w.heap.size + 1, 0, none⟩ = some (.int .i64 0) := HI4.out.bz.cell 0 _ rfl
    have y0 := HI4.out.bz.free 0
    have z1 : (w3.alloc (.cells #[.int .i64 C2, .int .i64 B2, .slice oa m oc] 24)).cell? ⟨w.heap.size + 1, 1, none⟩ = some (.int .i64 0) := HI4.out.bz.cell 1 _ rfl
    have y1 := HI4.out.bz.free 1
    have z2 : (w3.alloc (.cells #[.int .i64 C2, .int .i64 B2, .slice oa m oc] 24)).cell? ⟨w.heap.size + 1, 2, none⟩ = some (.slice none 0 0) := HI4.out.bz.cell 2 _ rfl
    have y2 := HI4.out.bz.free 2
    have HF := Lib.hid HI4.out.fill
    clear h0 HI4 HO4 HX4 HTA HTO HLN
    go_wp2_with fail
    exact ret_cell_tmp rfl rfl (w.heap.size + 1) 0 rfl [.int .i64 C, .int .i64 B, .slice sa sn sc] _ (zrangeS HF.out.1) Tryd.underlying24 rfl (by kernel_rfl) _ rfl ⟨_, by rw [HD4.out]; rfl, by rw [HD4.out]; exact HF.out.2.1, HF.out.2.2⟩
end Go.Proofs.YthnabnieajojjaaDoor
/-
  What the laws of replay ask first: a login, and some ticks that end it.
-/
namespace Go.Proofs.YthnabnieajojjaaDoor
open Go.RowKit
set_option maxRecDepth 100000

/-- The birth of a login. -/
def loginE (birth slot clock til : Int) : EvtM := ⟨0, ⟨slot, birth, 0, 0, 0, [97, 110, 110], [], 7, 1, clock, til, 0⟩, 0, 0⟩
def tickR (n : Int) : EvtM := ⟨2, noSes, 0, n⟩
theorem RdE.lit {w : World} {b : Nat} {cs : Array Value} {T : TypeId} (h : Box w b cs T) (l : List EvtM) (n : Nat) (hn : n = l.length) (hl : n ≤ 9223372036854775807) (hc : cs.toList = flatE l) : RdE w (.slice (some ⟨b, 0, none⟩) n n) l := by
  subst hn
  exact ⟨_, _, rfl, Nat.le_refl _, hl, (fun h => by cases h), fun j hj => ⟨b, 0, rfl, by
    rw [Nat.zero_add]
    refine h.cell j _ ?_
    rw [← Array.getElem?_toList, hc, List.getD, List.getElem?_eq_getElem hj]; rfl⟩⟩
set_option maxHeartbeats 1600000 in
theorem login_calls (bi sl ck un : Int) (w : World) :
    Calls Tryd.prog 35 #[.int .i64 bi, .int .i64 sl, .int .i64 ck, .int .i64 un] w fun e w' => e = .returned (.agg (loginE bi sl ck un).cells) ∧ Below w.heap.size w w' := by
  obtain ⟨hset, hth⟩ := (Box.new w #[.int .i64 0, .int .i64 0, .int .i64 0, .int .i64 0, .int .i64 0, .int .i64 0, .string ⟨#[]⟩, .string ⟨#[]⟩, .int .u64 0, .int .i64 0, .int .i64 0, .int .i64 0, .int .i64 0, .int .i64 0, .int .i64 0] 32).setAllE rfl (loginE bi sl ck un)
  have HTH := Lib.hid hth
  have HSE := Lib.hid hset
  have HB := Lib.hid (below_alloc w (.cells #[.int .i64 0, .int .i64 0, .int .i64 0, .int .i64 0, .int .i64 0, .int .i64 0, .string ⟨#[]⟩, .string ⟨#[]⟩, .int .u64 0, .int .i64 0, .int .i64 0, .int .i64 0, .int .i64 0, .int .i64 0, .int .i64 0] 32))
  clear hset hth
  go_enter Tryd.func35, Tryd.ntmps35
  go_wp2_with ((with_reducible refine wpList_store_k ?a0 32 (.tmp 8) (.tmp 14) ?a1 w.heap.size 0 (loginE bi sl ck un).cells.toList ?a2 (loginE bi sl ck un).cells ?a3 (EvtM.listE _) HTH.out ?a6 ?a7 ?a8); (case a1 => rfl); (case a0 => rfl); (case a2 => rfl); (case a3 => rfl); (case a6 => kernel_rfl); (case a7 => exact EvtM.oneE _))
  intro w2 hw2
  rw [← hw2.out] at HSE
  have HB2 := Lib.hid (show Below w.heap.size w w2 by
    rw [hw2.out]
    generalize (loginE bi sl ck un).cells.toList = L
    exact HB.out.trans ((Mod.setCells (fun q => q = w.heap.size) w.heap.size rfl L 0 _).below HB.out.size (fun i hi => Nat.le_of_eq hi.symm)))
  clear hw2 HTH HB
  go_wp2_with fail
  exact ret_cell rfl rfl w.heap.size 0 rfl (loginE bi sl ck un).cells.toList _ (Box.rangeV HSE.out) Tryd.underlying32 rfl (by kernel_rfl) ⟨rfl, HB2.out⟩
theorem buildE2 (e f : EvtM) (w : World) : (Instr.buildSlice 45 2 #[(0, .agg e.cells), (1, .agg f.cells)]).run Tryd.prog w = .ok (.slice (some ⟨w.heap.size, 0, none⟩) 2 2) (w.alloc (.cells (flatE [e, f]).toArray 32)) := by kernel_rfl
theorem works_all1 : allM ⟨0, 0, []⟩ [loginE 1 0 0 10, tickR 9] = (⟨9, 1, [(loginE 1 0 0 10).s]⟩, 2) := by kernel_rfl
theorem works_all2 : allM ⟨9, 1, [(loginE 1 0 0 10).s]⟩ [tickR 1] = (⟨10, 1, []⟩, 1) := by kernel_rfl
theorem loginE_ok (bi sl ck un : Int) (h1 : I64 bi) (h2 : I64 sl) (h3 : I64 ck) (h4 : I64 un) : EvOk (loginE bi sl ck un) := by
  have z : ∀ n : Int, -9223372036854775808 ≤ n → n ≤ 9223372036854775807 → I64 n := fun n a b => ⟨a, b⟩
  exact ⟨(show (3 : Nat) ≤ 140737488351232 by decide), (show (0 : Nat) ≤ 140737488351232 by decide), (show (7 : Nat) < 2 ^ 64 by decide), z 0 (by decide) (by decide), z 0 (by decide) (by decide), z 0 (by decide) (by decide), h2, h1, z 0 (by decide) (by decide), z 0 (by decide) (by decide), z 0 (by decide) (by decide), z 1 (by decide) (by decide), h3, h4, z 0 (by decide) (by decide)⟩
theorem tickR_ok (n : Int) (h : I64 n) : EvOk (tickR n) := by
  have z : ∀ n : Int, -9223372036854775808 ≤ n → n ≤ 9223372036854775807 → I64 n := fun n a b => ⟨a, b⟩
  exact ⟨(show (0 : Nat) ≤ 140737488351232 by decide), (show (0 : Nat) ≤ 140737488351232 by decide), (show (0 : Nat) < 2 ^ 64 by decide), z 2 (by decide) (by decide), z 0 (by decide) (by decide), h, z 0 (by decide) (by decide), z 0 (by decide) (by decide), z 0 (by decide) (by decide), z 0 (by decide) (by decide), z 0 (by decide) (by decide), z 0 (by decide) (by decide), z 0 (by decide) (by decide), z 0 (by decide) (by decide), z 0 (by decide) (by decide)⟩
set_option maxHeartbeats 3200000 in
theorem worksR_calls (w : World) : Calls Tryd.prog 12 #[] w fun e w' => e = .returned (.bool true) ∧ Below w.heap.size w w' := by
  have HA1 := Lib.hid (fun ev w' (h : RdE w' ev [loginE 1 0 0 10, tickR 9]) => allP_calls ⟨0, 0, []⟩ [loginE 1 0 0 10, tickR 9] (.slice none 0 0) ev w' (Rd.nil w') h (by decide) (fun e he => by
    rcases List.mem_cons.1 he with rfl | he
    · exact loginE_ok _ _ _ _ ⟨by decide, by decide⟩ ⟨by decide, by decide⟩ ⟨by decide, by decide⟩ ⟨by decide, by decide⟩
    · rw [List.mem_singleton.1 he]; exact tickR_ok _ ⟨by decide, by decide⟩))
  have HA2 := Lib.hid (fun v ev w' (h0 : RdS w' v [(loginE 1 0 0 10).s]) (h : RdE w' ev [tickR 1]) => allP_calls ⟨9, 1, [(loginE 1 0 0 10).s]⟩ [tickR 1] v ev w' h0 h (by decide) (fun e he => by rw [List.mem_singleton.1 he]; exact tickR_ok _ ⟨by decide, by decide⟩))
  rw [works_all1] at HA1
  rw [works_all2] at HA2
  simp only at HA1 HA2
  go_enter Tryd.func12, Tryd.ntmps12
  go_wp2_with fail
  refine (login_calls 1 0 0 10 _).mono ?_
  rintro e1 w1 ⟨rfl, hb1⟩
  have HB1 := Lib.hid hb1
  clear hb1
  generalize hl1 : loginE 1 0 0 10 = x1 at HA1 HA2 ⊢
  go_wp2_with (refine wpList_buildSlice_s (op := ⟨some 9, _, _, _, _, _⟩) (by rfl) 45 2 #[(0, .tmp 7), (1, .tmp 8)] rfl #[(0, .agg x1.cells), (1, .agg (tickR 9).cells)] (by kernel_rfl) _ _ (buildE2 x1 (tickR 9) w1) ?_)
  intro w2 hw2
  have hb2 : Below w1.heap.size w1 w2 := by rw [hw2.out]; exact below_alloc _ _
  have HR2 := Lib.hid (show RdE w2 (.slice (some ⟨w1.heap.size, 0, none⟩) 2 2) [x1, tickR 9] by rw [hw2.out]; exact RdE.lit (Box.new _ _ _) _ 2 rfl (by decide) rfl)
  have HB2 := Lib.hid (HB1.out.trans (hb2.mono HB1.out.size))
  clear hw2 hb2 HB1
  go_wp2_with fail
  refine (HA1.out _ w2 HR2.out).mono ?_
  rintro e3 w3 ⟨o, rfl, ho, hb3⟩
  obtain ⟨oa, oc, rfl, _⟩ := ho.slice
  have hba := below_alloc w3 (.cells #[.int .i64 9, .int .i64 1, .slice oa [x1.s].length oc] 24)
  have HX4 := Lib.hid (Box.new w3 #[.int .i64 9, .int .i64 1, .slice oa [x1.s].length oc] 24)
  have HO4 := Lib.hid (ho.below hba)
  have HB4 := Lib.hid ((HB2.out.trans (hb3.mono HB2.out.size)).trans (hba.mono (HB2.out.trans (hb3.mono HB2.out.size)).size))
  clear ho hb3 hba HB2 HR2 HA1
  rw [show [x1.s].length = 1 from rfl] at *
  go_wp2_with fail
  have hx5 := below_alloc (w3.alloc (.cells #[.int .i64 9, .int .i64 1, .slice oa 1 oc] 24)) (.cells (tickR 1).cells 32)
  have hr5 : RdE ((w3.alloc (.cells #[.int .i64 9, .int .i64 1, .slice oa 1 oc] 24)).alloc (.cells (tickR 1).cells 32)) (.slice (some ⟨w3.heap.size + 1, 0, none⟩) 1 1) [tickR 1] := by
    have h := RdE.lit (Box.new (w3.alloc (.cells #[.int .i64 9, .int .i64 1, .slice oa 1 oc] 24)) (tickR 1).cells 32) [tickR 1] 1 rfl (by decide) rfl
    rw [World.size_alloc] at h; exact h
  have HR5 := Lib.hid hr5
  have HX5 := Lib.hid (HX4.out.below hx5)
  have HO5 := Lib.hid (HO4.out.below hx5)
  have HB5 := Lib.hid (HB4.out.trans (hx5.mono HB4.out.size))
  clear hx5 hr5 HX4 HO4 HB4
  rw [show (tickR 1).cells = #[.int .i64 2, .int .i64 0, .int .i64 0, .int .i64 0, .int .i64 0, .int .i64 0, .string ⟨#[]⟩, .string ⟨#[]⟩, .int .u64 0, .int .i64 0, .int .i64 0, .int .i64 0, .int .i64 0, .int .i64 0, .int .i64 1] from rfl] at HR5 HX5 HO5 HB5
  generalize ((w3.alloc (.cells #[.int .i64 9, .int .i64 1, .slice oa 1 oc] 24)).alloc (.cells #[.int .i64 2, .int .i64 0, .int .i64 0, .int .i64 0, .int .i64 0, .int .i64 0, .string ⟨#[]⟩, .string ⟨#[]⟩, .int .u64 0, .int .i64 0, .int .i64 0, .int .i64 0, .int .i64 0, .int .i64 0, .int .i64 1] 32)) = w5 at HR5 HX5 HO5 HB5 ⊢
  refine (HA2.out _ _ w5 HO5.out.rd HR5.out).mono ?_
  rintro e3 w6 ⟨o, rfl, ho, hb6⟩
  obtain ⟨pa, pc, rfl, _⟩ := ho.slice
  have hba := below_alloc w6 (.cells #[.int .i64 10, .int .i64 1, .slice pa ([] : List SesM).length pc] 24)
  have HX7 := Lib.hid ((HX5.out.below hb6).below hba)
  have HY7 := Lib.hid (Box.new w6 #[.int .i64 10, .int .i64 1, .slice pa ([] : List SesM).length pc] 24)
  have HB7 := Lib.hid ((HB5.out.trans (hb6.mono HB5.out.size)).trans (hba.mono (HB5.out.trans (hb6.mono HB5.out.size)).size))
  clear ho hb6 hba HB5 HX5 HO5 HR5 HA2
  rw [show ([] : List SesM).length = 0 from rfl] at *
  have c0 : (w6.alloc (.cells #[.int .i64 10, .int .i64 1, .slice pa 0 pc] 24)).cell? ⟨w3.heap.size, 0, none⟩ = some (.int .i64 9) := HX7.out.cell 0 _ rfl
  have c1 : (w6.alloc (.cells #[.int .i64 10, .int .i64 1, .slice pa 0 pc] 24)).cell? ⟨w3.heap.size, 1, none⟩ = some (.int .i64 1) := HX7.out.cell 1 _ rfl
  have c2 : (w6.alloc (.cells #[.int .i64 10, .int .i64 1, .slice pa 0 pc] 24)).cell? ⟨w3.heap.size, 2, none⟩ = some (.slice oa 1 oc) := HX7.out.cell 2 _ rfl
  have d0 : (w6.alloc (.cells #[.int .i64 10, .int .i64 1, .slice pa 0 pc] 24)).cell? ⟨w6.heap.size, 0, none⟩ = some (.int .i64 10) := HY7.out.cell 0 _ rfl
  have d2 : (w6.alloc (.cells #[.int .i64 10, .int .i64 1, .slice pa 0 pc] 24)).cell? ⟨w6.heap.size, 2, none⟩ = some (.slice pa 0 pc) := HY7.out.cell 2 _ rfl
  clear HX7 HY7
  go_wp2_with fail
  go_ret
  exact ⟨rfl, HB7.out⟩
end Go.Proofs.YthnabnieajojjaaDoor
/-
  A state of three cells is stored, in a region that draws its order.
-/
namespace Go.Proofs.YthnabnieajojjaaDoor
open Go.RowKit
set_option maxRecDepth 100000

theorem wp_store_kk {P : Program} {op : Oper} {a : Act} {w : World} {K : Act → World → Prop} {Q : Exit → Act → World → Prop} (ty : TypeId) (x y : Operand) (ho : op.op = .store ty x y)
    (b o : Nat) (cs : List Value) (hx : a.eval x = .pointer (some ⟨b, o, none⟩)) (hy : a.eval y = .agg cs.toArray) (ht : w.there b o cs.length) (hi : (P.info? ty).map (·.size) = some cs.length) (h1 : ∀ v ∈ cs, v.oneCell' = true)
    (h : K (a.put op.dst undef) (w.setCells b o cs)) : op.wp P a w K Q := by
  refine wp_store_mid ty x y ho b o cs.toArray hx hy ?_ ?_ (all_oneCell_toArray h1) ?_
  · rw [List.size_toArray]; exact ht
  · rw [List.size_toArray]; exact hi
  · exact h
theorem Box.there3 {w : World} {b : Nat} {x y z : Value} {t : TypeId} (h : Box w b #[x, y, z] t) : w.there b 0 3 := by
  intro j hj
  rw [Nat.zero_add]
  match j, hj with
  | 0, _ => exact ⟨by rw [h.cell 0 _ rfl]; rfl, h.free _⟩
  | 1, _ => exact ⟨by rw [h.cell 1 _ rfl]; rfl, h.free _⟩
  | 2, _ => exact ⟨by rw [h.cell 2 _ rfl]; rfl, h.free _⟩
theorem Box.set3 {w : World} {b : Nat} {x y z : Value} {t : TypeId} (h : Box w b #[x, y, z] t) (x' y' z' : Value) : Box (w.setCells b 0 [x', y', z']) b #[x', y', z'] t ∧ Mod (fun i => i = b) w (w.setCells b 0 [x', y', z']) :=
  ⟨((h.set 0 x').set 1 y').set 2 z', Mod.set3 b w x' y' z'⟩
theorem one3 (x y : Int) (a : Option Addr) (n c : Nat) : ∀ v ∈ [Value.int .i64 x, Value.int .i64 y, Value.slice a n c], v.oneCell' = true := by
  intro v hv
  simp only [List.mem_cons, List.not_mem_nil, or_false] at hv
  rcases hv with rfl | rfl | rfl <;> rfl
end Go.Proofs.YthnabnieajojjaaDoor
/-
  A state that events make, through the laws' rounds.
-/
namespace Go.Proofs.YthnabnieajojjaaDoor
open Go.RowKit
set_option maxRecDepth 100000

/-- A state that events make, in a block of its own. -/
structure StI (w w' : World) (q : Nat) (C B : Int) (sv : Value) (L : List SesM) : Prop where
  bx : Box w' q #[.int .i64 C, .int .i64 B, sv] 24
  ow : OwnS w' (q + 1) sv L
  sn : Snd ⟨C, B, L⟩
  ge : w.heap.size ≤ q
  bel : Below w.heap.size w w'
theorem StI.below {w w' w2 : World} {q : Nat} {C B : Int} {sv : Value} {L : List SesM} (h : StI w w' q C B sv L) (hb : Below w'.heap.size w' w2) : StI w w2 q C B sv L :=
  ⟨h.bx.below hb, h.ow.below hb, h.sn, h.ge, h.bel.trans (hb.mono h.bel.size)⟩
theorem StI.put {w w' : World} {q : Nat} {C B : Int} {sv : Value} {L : List SesM} (h : StI w w' q C B sv L) (C2 B2 : Int) (o : Value) (L2 : List SesM) (ho : OwnS w' (q + 1) o L2) (hs : Snd ⟨C2, B2, L2⟩) :
    StI w (((w'.setCell ⟨q, 0, none⟩ (.int .i64 C2)).setCell ⟨q, 1, none⟩ (.int .i64 B2)).setCell ⟨q, 2, none⟩ o) q C2 B2 o L2 := by
  have hm := Mod.set3 q w' (.int .i64 C2) (.int .i64 B2) o
  have hq := h.ge
  exact ⟨((h.bx.set 0 (.int .i64 C2)).set 1 (.int .i64 B2)).set 2 o, ho.mod hm (fun k hk e => by have := (ho.lt k hk).1; omega), hs, hq, h.bel.trans (hm.below h.bel.size (fun i hi => by omega))⟩
/-- What an application in the round leaves. -/
structure AppI (w W : World) (q q8 : Nat) (C B : Int) (sv : Value) (L : List SesM) (C2 B2 : Int) (o : Value) (L2 : List SesM) : Prop where
  j : StI w W q C B sv L
  b8 : Box W q8 #[.int .i64 C2, .int .i64 B2, o] 24
  ow : OwnS W (q + 1) o L2
  ne : q8 ≠ q
theorem AppI.below {w W W2 : World} {q q8 : Nat} {C B : Int} {sv : Value} {L : List SesM} {C2 B2 : Int} {o : Value} {L2 : List SesM} (h : AppI w W q q8 C B sv L C2 B2 o L2) (hb : Below W.heap.size W W2) : AppI w W2 q q8 C B sv L C2 B2 o L2 :=
  ⟨h.j.below hb, h.b8.below hb, h.ow.below hb, h.ne⟩
theorem Snd.applied {S : StM} {e : EvtM} {er C2 B2 : Int} {L2 : List SesM} (h : Snd S) (he : applyM S e = (er, ⟨C2, B2, L2⟩)) (h0 : er = 0) : Snd ⟨C2, B2, L2⟩ := by
  have h1 := h.apply (e := e) (by rw [he]; exact h0)
  rw [he] at h1; exact h1
end Go.Proofs.YthnabnieajojjaaDoor
/-
  Is a session another one, or below it?
-/
namespace Go.Proofs.YthnabnieajojjaaDoor
open Go.RowKit
set_option maxRecDepth 100000

theorem SesM.cellsZ : noSes.cells = #[.int .i64 0, .int .i64 0, .int .i64 0, .int .i64 0, .int .i64 0, .string ⟨#[]⟩, .string ⟨#[]⟩, .int .u64 0, .int .i64 0, .int .i64 0, .int .i64 0, .int .i64 0] := rfl
theorem lastM_snoc (k : Int) (u : SesM) (l : List SesM) (x : SesM) : lastM k u (l ++ [x]) = if x.birth = k then x else lastM k u l := by
  unfold lastM; rw [List.foldl_append]; rfl
/-- The session's variable. -/
structure BelI (w w' : World) (S : SesM) : Prop where
  bx : Box w' w.heap.size S.cells 30
  bel : Below w.heap.size w w'
theorem BelI.below {w w' w2 : World} {S : SesM} (h : BelI w w' S) (hb : Below w'.heap.size w' w2) : BelI w w2 S := ⟨h.bx.below hb, h.bel.trans (hb.mono h.bel.size)⟩
theorem BelI.set {w w' : World} {S : SesM} (h : BelI w w' S) (P : SesM) : BelI w (w'.setCells w.heap.size 0 P.cells.toList) P := by
  have h1 := (h.bx.setAllS rfl P).1
  refine ⟨h1, ?_⟩
  generalize P.cells.toList = L
  exact h.bel.trans ((Mod.setCells (fun k => k = w.heap.size) w.heap.size rfl L 0 w').below h.bel.size (fun i hi => Nat.le_of_eq hi.symm))
/-- The parent's variable, beside it. -/
structure UpI (w w' : World) (q : Nat) (S U : SesM) : Prop where
  i : BelI w w' S
  up : Box w' q U.cells 30
  ne : w.heap.size < q
theorem UpI.below {w w' w2 : World} {q : Nat} {S U : SesM} (h : UpI w w' q S U) (hb : Below w'.heap.size w' w2) : UpI w w2 q S U := ⟨h.i.below hb, h.up.below hb, h.ne⟩
theorem UpI.set {w w' : World} {q : Nat} {S U : SesM} (h : UpI w w' q S U) (P : SesM) : UpI w (w'.setCells q 0 P.cells.toList) q S P := by
  have h1 := (h.up.setAllS rfl P).1
  have hne := h.ne
  have hm : ∀ L, Mod (fun k => k = q) w' (w'.setCells q 0 L) := fun L => Mod.setCells (fun k => k = q) q rfl L 0 w'
  exact ⟨⟨h.i.bx.mod (hm _) (by omega), h.i.bel.trans ((hm _).below h.i.bel.size (fun i hi => by omega))⟩, h1, hne⟩
set_option maxHeartbeats 6400000 in
theorem below7_calls (v : Value) (l : List SesM) (s : SesM) (b : Int) (w : World) (hr : RdS w v l) :
    Calls Tryd.prog 14 #[v, .agg s.cells, .int .i64 b] w fun ev w' => ev = .returned (.bool (isBelow l b 7 s)) ∧ Below w.heap.size w w' := by
  obtain ⟨a, cap, rfl, hc1, hc2⟩ := hr.slice
  have hln : l.length ≤ 9223372036854775807 := by omega
  have HB0 := Lib.hid (below_alloc w (.cells s.cells 30))
  have HI0 := Lib.hid (show BelI w (w.alloc (.cells s.cells 30)) s from ⟨Box.new _ _ _, HB0.out⟩)
  have HR := Lib.hid hr
  obtain ⟨n, hN⟩ : ∃ n, n = l.length := ⟨_, rfl⟩
  rw [← hN] at hln HR ⊢
  have HN := Lib.hid hN
  obtain ⟨R, hR⟩ : ∃ R, R = isBelow l b 7 s := ⟨_, rfl⟩
  rw [← hR]
  have HRR := Lib.hid hR.symm
  clear hr hc1 hN hR
  go_enter Tryd.func14, Tryd.ntmps14
  go_wp2_with fail
  generalize (w.alloc (.cells s.cells 30)) = w1 at HB0 HI0 ⊢
  go_loopg [7] 7 (fun gk iv wr => ∃ (i : Nat) (S : SesM), gk + i = 7 ∧ iv = .int .i64 (i : Int) ∧ BelI w wr S ∧ isBelow l b gk S = R)
  case atStart => exact ⟨0, s, rfl, rfl, HI0.out, HRR.out⟩
  case round =>
    clear HI0 HRR
    obtain ⟨i, S, hgk, rfl, hI, hB⟩ := hrel
    have i0 : (0 : Int) ≤ (i : Int) := by omega
    have HI := Lib.hid hI
    have s1 : wr.cell? ⟨w.heap.size, 1, none⟩ = some (.int .i64 S.birth) := hI.bx.cell 1 _ rfl
    have s3 : wr.cell? ⟨w.heap.size, 2 + 1, none⟩ = some (.int .i64 S.upB) := hI.bx.cell 3 _ rfl
    by_cases hi : 6 < i
    · have i1 : ¬ (i : Int) ≤ 6 := by omega
      obtain ⟨g, hg⟩ : ∃ g, g = 0 := ⟨_, rfl⟩
      have HBF := Lib.hid (show R = false by rw [← hB, show gk = 0 by omega]; rfl)
      clear hi hB hgk hI hg g
      go_wp2_with fail
      go_ret
      exact ⟨by rw [HBF.out]; rfl, HI.out.bel⟩
    have i1 : (i : Int) ≤ 6 := by omega
    obtain ⟨g, hg⟩ : ∃ g, gk = g + 1 := ⟨gk - 1, by omega⟩
    have HGK := Lib.hid (And.intro hgk hg)
    have HBS := Lib.hid (show (if S.birth = b then true else if S.upB = 0 then false else isBelow l b g (lastM S.upB noSes l)) = R by rw [← hB, hg]; rfl)
    clear hi hB hgk hg hI
    cases t1 : (S.birth == b)
    rotate_left
    · have HBT := Lib.hid (show R = true by rw [← HBS.out, if_pos (by simpa using t1)])
      go_wp2_with fail
      go_ret
      exact ⟨by rw [HBT.out]; rfl, HI.out.bel⟩
    have HBS2 := Lib.hid (show (if S.upB = 0 then false else isBelow l b g (lastM S.upB noSes l)) = R by
      have h := HBS.out
      rw [if_neg (show ¬ S.birth = b by simpa using t1)] at h
      exact h)
    clear HBS
    have hba := below_alloc wr (.cells #[.int .i64 0, .int .i64 0, .int .i64 0, .int .i64 0, .int .i64 0, .string ⟨#[]⟩, .string ⟨#[]⟩, .int .u64 0, .int .i64 0, .int .i64 0, .int .i64 0, .int .i64 0] 30)
    have HU0 := Lib.hid (show UpI w (wr.alloc (.cells #[.int .i64 0, .int .i64 0, .int .i64 0, .int .i64 0, .int .i64 0, .string ⟨#[]⟩, .string ⟨#[]⟩, .int .u64 0, .int .i64 0, .int .i64 0, .int .i64 0, .int .i64 0] 30)) wr.heap.size S noSes from ⟨HI.out.below hba, by rw [SesM.cellsZ]; exact Box.new _ _ _, HI.out.bx.lt⟩)
    clear hba HI
    go_wp2_with fail
    generalize (wr.alloc (.cells #[.int .i64 0, .int .i64 0, .int .i64 0, .int .i64 0, .int .i64 0, .string ⟨#[]⟩, .string ⟨#[]⟩, .int .u64 0, .int .i64 0, .int .i64 0, .int .i64 0, .int .i64 0] 30)) = w2 at HU0 ⊢
    generalize wr.heap.size = q at HU0 ⊢
    clear s1 s3 t1
    go_loopg [9] n (fun gj iv wr => ∃ (k : Nat) (U : SesM), gj + k = n ∧ iv = .int .i64 (k : Int) ∧ UpI w wr q S U ∧ lastM S.upB noSes (l.take k) = U)
    case atStart => exact ⟨0, noSes, Nat.add_zero _, rfl, HU0.out, rfl⟩
    case round =>
      clear HU0
      obtain ⟨k, U, hgj, rfl, hU, hL⟩ := hrel
      have k0 : (0 : Int) ≤ (k : Int) := by omega
      have HGJ := Lib.hid hgj
      have HU := Lib.hid hU
      have HL := Lib.hid hL
      have s3 : wr.cell? ⟨w.heap.size, 2 + 1, none⟩ = some (.int .i64 S.upB) := hU.i.bx.cell 3 _ rfl
      clear hgj hU hL
      by_cases hk : k < n
      · have k1 : (k : Int) < (n : Int) := by omega
        have hkl : k < l.length := by have := HN.out; omega
        obtain ⟨x, hx⟩ : ∃ x, x = l[k] := ⟨_, rfl⟩
        obtain ⟨rb, ro, hra, hrow⟩ := (HR.out.below HU.out.i.bel).row k hkl
        subst hra
        rw [← hx] at hrow
        have r1 : wr.cell? ⟨rb, ro + k * 12 + 1, none⟩ = some (.int .i64 x.birth) := hrow 1 _ rfl
        have HLS := Lib.hid (show lastM S.upB noSes (l.take (k + 1)) = if x.birth = S.upB then x else U by rw [List.take_succ_eq_append_getElem hkl, lastM_snoc, HL.out, hx])
        have HROW := Lib.hid hrow
        have HUq := Lib.hid (fun m => HU.out.below (below_drewN wr m))
        have HRQ := Lib.hid (fun m => (show (wr.drewN m).rangeAt rb (ro + k * 12) x.cells.toList from hrow))
        have HK := Lib.hid hk
        clear hk hkl hx hrow
        cases t2 : (x.birth == S.upB)
        · have HLF := Lib.hid (show lastM S.upB noSes (l.take (k + 1)) = U by rw [HLS.out, if_neg (by simpa using t2)])
          go_wp2_with fail
          go_quiet (fail)
          go_wp2_with fail
          go_roundg (n - (k + 1))
          case measure => have := HGJ.out; have := HK.out; omega
          case rel => exact ⟨k + 1, _, by have := HGJ.out; have := HK.out; omega, by go_num, HUq.out _, HLF.out⟩
        have HLT := Lib.hid (show lastM S.upB noSes (l.take (k + 1)) = x by rw [HLS.out, if_pos (by simpa using t2)])
        go_wp2_with fail
        go_quiet (fail)
        go_wp2_with ((with_reducible refine wpList_load_k ?L1a 30 (.tmp 36) ?L1b (rb) (ro + k * 12) ?L1c x.cells.toList _ (HRQ.out _) Tryd.underlying30 ?L1d ?L1e ?L1f); (case L1b => rfl); (case L1a => rfl); (case L1c => rfl); (case L1d => rfl); (case L1e => kernel_rfl))
        intro cv hcv
        go_wp2_with ((with_reducible refine wpList_store_k ?S2a 30 (.tmp 8) (.tmp 37) ?S2b (q) (0) x.cells.toList ?S2c cv ?S2d hcv ?S2e ?S2f ?S2g ?S2h); (case S2b => rfl); (case S2a => rfl); (case S2c => rfl); (case S2d => rfl); (case S2e => exact ((HUq.out _).up.setAllS rfl x).2); (case S2f => kernel_rfl); (case S2g => exact SesM.oneS _))
        intro w3 hw3
        have HU3 := Lib.hid (show UpI w w3 q S x by rw [hw3.out]; exact (HUq.out _).set x)
        clear hw3 hcv HUq HRQ HU
        go_wp2_with fail
        go_roundg (n - (k + 1))
        case measure => have := HGJ.out; have := HK.out; omega
        case rel => exact ⟨k + 1, _, by have := HGJ.out; have := HK.out; omega, by go_num, HU3.out, HLT.out⟩
      have k1 : ¬ (k : Int) < (n : Int) := by omega
      have HLL := Lib.hid (show lastM S.upB noSes l = U by rw [← HL.out, List.take_of_length_le (by have := HN.out; omega)])
      clear hk HL
      cases t3 : (S.upB == 0)
      rotate_left
      · have HBF := Lib.hid (show R = false by rw [← HBS2.out, if_pos (by simpa using t3)])
        go_wp2_with fail
        go_ret
        exact ⟨by rw [HBF.out]; rfl, HU.out.i.bel⟩
      have HBN := Lib.hid (show isBelow l b g U = R by rw [← HBS2.out, if_neg (by simpa using t3), HLL.out])
      have HRU := Lib.hid HU.out.up.rangeS
      go_wp2_with ((with_reducible refine wpList_load_k ?L3a 30 (.tmp 8) ?L3b (q) (0) ?L3c U.cells.toList _ (HRU.out) Tryd.underlying30 ?L3d ?L3e ?L3f); (case L3b => rfl); (case L3a => rfl); (case L3c => rfl); (case L3d => rfl); (case L3e => kernel_rfl))
      intro cv hcv
      go_wp2_with ((with_reducible refine wpList_store_k ?S4a 30 (.tmp 4) (.tmp 42) ?S4b (w.heap.size) (0) U.cells.toList ?S4c cv ?S4d hcv ?S4e ?S4f ?S4g ?S4h); (case S4b => rfl); (case S4a => rfl); (case S4c => rfl); (case S4d => rfl); (case S4e => exact (HU.out.i.bx.setAllS rfl U).2); (case S4f => kernel_rfl); (case S4g => exact SesM.oneS _))
      intro w3 hw3
      have HI3 := Lib.hid (show BelI w w3 U by rw [hw3.out]; exact HU.out.i.set U)
      clear hw3 hcv HU HRU
      go_wp2_with fail
      go_roundg g
      case measure => have := HGK.out; omega
      case rel => exact ⟨i + 1, _, by have := HGK.out; omega, by go_num, HI3.out, HBN.out⟩
end Go.Proofs.YthnabnieajojjaaDoor
/-
  Lists of sessions, and states, that are the same.
-/
namespace Go.Proofs.YthnabnieajojjaaDoor
open Go.RowKit
set_option maxRecDepth 100000

def sameL : List SesM → List SesM → Bool
  | [], [] => true
  | a :: l, b :: m => sameS a b && sameL l m
  | _, _ => false
theorem sameL_iff : ∀ {l m : List SesM}, sameL l m = true ↔ l = m
  | [], [] => by simp [sameL]
  | [], b :: m => by simp [sameL]
  | a :: l, [] => by simp [sameL]
  | a :: l, b :: m => by
    unfold sameL
    rw [Bool.and_eq_true, sameS_iff, sameL_iff]
    simp
theorem sameL_no {l m : List SesM} (h : l ≠ m) : sameL l m = false := by
  cases e : sameL l m
  · rfl
  · exact absurd (sameL_iff.1 e) h
def sameSt (a b : StM) : Bool := (a.clock == b.clock) && ((a.births == b.births) && sameL a.l b.l)
theorem sameSt_iff {a b : StM} : sameSt a b = true ↔ a = b := by
  obtain ⟨c, x, l⟩ := a
  obtain ⟨d, y, m⟩ := b
  simp [sameSt, sameL_iff]
set_option maxHeartbeats 1600000 in
theorem sameSes_calls (v v' : Value) (l m : List SesM) (w : World) (hv : RdS w v l) (hv' : RdS w v' m) :
    Calls Tryd.prog 15 #[v, v'] w fun e w' => e = .returned (.bool (sameL l m)) ∧ Below w.heap.size w w' := by
  obtain ⟨a, cap, rfl, hc1, hc2⟩ := hv.slice
  obtain ⟨a2, cap2, rfl, hd1, hd2⟩ := hv'.slice
  have HV := Lib.hid hv
  have HV2 := Lib.hid hv'
  have hln : l.length ≤ 9223372036854775807 := by omega
  have hln2 : m.length ≤ 9223372036854775807 := by omega
  by_cases hlm : l.length = m.length
  rotate_left
  · have HR := Lib.hid (sameL_no (l := l) (m := m) (fun e => hlm (by rw [e])))
    have hne : ((l.length : Int) != (m.length : Int)) = true := by rw [bne_iff_ne]; omega
    clear hlm hv hv' hc1 hd1 HV HV2
    go_enter Tryd.func15, Tryd.ntmps15
    go_wp2_with fail
    go_ret
    rw [HR.out]
    exact ⟨rfl, Below.refl _ _⟩
  obtain ⟨n, hN⟩ : ∃ n, n = l.length := ⟨_, rfl⟩
  rw [← hlm] at HV2 hd1 ⊢
  rw [← hN] at HV HV2 hc1 hd1 hln ⊢
  have HN := Lib.hid hN
  have HLM := Lib.hid hlm
  have hne : ((n : Int) != (n : Int)) = false := by rw [bne_eq_false_iff_eq]
  clear hlm hv hv' hc1 hd1 hN hln2
  go_enter Tryd.func15, Tryd.ntmps15
  go_wp2_with fail
  go_loopg [5] n (fun gk iv wr => ∃ k : Nat, gk + k = n ∧ iv = .int .i64 (k : Int) ∧ Below w.heap.size w wr ∧ Hid (l.take k = m.take k))
  case atStart => exact ⟨0, rfl, rfl, Below.refl _ _, Lib.hid rfl⟩
  case round =>
    obtain ⟨k, hgk, rfl, hb, HT⟩ := hrel
    have k0 : (0 : Int) ≤ (k : Int) := by omega
    have HGK := Lib.hid hgk
    have HB := Lib.hid hb
    clear hgk
    by_cases hk : k < n
    · have k1 : (k : Int) < (n : Int) := by omega
      have hkl : k < l.length := by have := HN.out; omega
      have hkm : k < m.length := by have := HLM.out; omega
      obtain ⟨s, hs⟩ : ∃ s, s = l[k] := ⟨_, rfl⟩
      obtain ⟨u, hu⟩ : ∃ u, u = m[k] := ⟨_, rfl⟩
      obtain ⟨rb, ro, hra, hrow⟩ := (HV.out.below hb).row k hkl
      subst hra
      rw [← hs] at hrow
      obtain ⟨qb, qo, hqa, hqow⟩ := (HV2.out.below hb).row k hkm
      subst hqa
      rw [← hu] at hqow
      have HROW := Lib.hid (show ∀ wq, (∃ n, wq = wr.drewN n) → wq.rangeAt rb (ro + k * 12) s.cells.toList from fun wq hq => by
        obtain ⟨q, rfl⟩ := hq
        exact hrow)
      have HQOW := Lib.hid (show ∀ wq, (∃ n, wq = wr.drewN n) → wq.rangeAt qb (qo + k * 12) u.cells.toList from fun wq hq => by
        obtain ⟨q, rfl⟩ := hq
        exact hqow)
      have HLK := Lib.hid (show s = l[k] ∧ u = m[k] from ⟨hs, hu⟩)
      have HK := Lib.hid hk
      clear hrow hqow hs hu hk hb
      obtain ⟨r, hr⟩ : ∃ r, r = sameS s u := ⟨_, rfl⟩
      have HR := Lib.hid hr
      have hneq : ∀ w, (binOp .neq 30 (.agg s.cells) (.agg u.cells)).run Tryd.prog w = .ok (.bool (!r)) w := fun w => by rw [run_neqS, HR.out]
      clear hr
      go_wp2_with fail
      refine wp_region_quiet_lit (by kernel_rfl) (by kernel_rfl) ?_
      repeat (go_big_quiet_step (fail))
      refine wpQuiet_load_k rfl 30 (.tmp 19) rfl rb (ro + k * 12) rfl s.cells.toList _ HROW.out Tryd.underlying30 rfl (by kernel_rfl) ?_
      intro c1 hc1
      have ec1 : c1 = s.cells := by rw [hc1.out]
      subst ec1
      simp only [Act.put, List.setIfInBounds_toArray, List.set_cons_zero, List.set_cons_succ]
      repeat (go_big_quiet_step (fail))
      refine wpQuiet_load_k rfl 30 (.tmp 23) rfl qb (qo + k * 12) rfl u.cells.toList _ HQOW.out Tryd.underlying30 rfl (by kernel_rfl) ?_
      intro c2 hc2
      have ec2 : c2 = u.cells := by rw [hc2.out]
      subst ec2
      simp only [Act.put, List.setIfInBounds_toArray, List.set_cons_zero, List.set_cons_succ]
      repeat (go_big_quiet_step (fail))
      refine wpQuiet_nil ?_
      intro wq hwq
      obtain ⟨nq, rfl⟩ := hwq
      have HB4 := Lib.hid (HB.out.trans ((below_drewN _ nq).mono HB.out.size))
      clear hneq hc1 hc2 HROW HQOW
      cases r
      · have HF := Lib.hid (sameL_no (l := l) (m := m) (fun e => by
          obtain ⟨h1, h2⟩ := HLK.out
          have h3 := HR.out
          rw [h1, h2] at h3
          subst e
          rw [sameS_iff.2 rfl] at h3
          cases h3))
        clear HB HR HLK
        go_wp2_with fail
        go_ret
        rw [HF.out]
        exact ⟨rfl, HB4.out⟩
      · have HT2 := Lib.hid (show l.take (k + 1) = m.take (k + 1) by
          rw [List.take_succ_eq_append_getElem hkl, List.take_succ_eq_append_getElem hkm, HT.out, ← HLK.out.1, ← HLK.out.2, sameS_iff.1 HR.out.symm])
        clear HB HR HLK HT
        go_wp2_with fail
        go_roundg (n - (k + 1))
        case measure => have := HGK.out; have := HK.out; omega
        case rel => exact ⟨k + 1, by have := HGK.out; have := HK.out; omega, by go_num, HB4.out, HT2⟩
    · have k1 : ¬ (k : Int) < (n : Int) := by omega
      have HE := Lib.hid (show sameL l m = true from sameL_iff.2 (by
        have h := HT.out
        rw [List.take_of_length_le (by have := HN.out; omega), List.take_of_length_le (by have := HN.out; have := HLM.out; omega)] at h
        exact h))
      clear hk hb HT
      go_wp2_with fail
      go_ret
      rw [HE.out]
      exact ⟨rfl, HB.out⟩
set_option maxHeartbeats 1600000 in
theorem sameState_calls (a b : StM) (v v' : Value) (w : World) (hv : RdS w v a.l) (hv' : RdS w v' b.l) :
    Calls Tryd.prog 8 #[.agg #[.int .i64 a.clock, .int .i64 a.births, v], .agg #[.int .i64 b.clock, .int .i64 b.births, v']] w fun e w' => e = .returned (.bool (sameSt a b)) ∧ Below w.heap.size w w' := by
  have HB0 := Lib.hid (fun o o2 => below_two w o o2)
  have HK := Lib.hid (fun w' hb => sameSes_calls v v' a.l b.l w' (hv.below hb) (hv'.below hb))
  obtain ⟨xa, xc, rfl, _⟩ := hv.slice
  obtain ⟨ya, yc, rfl, _⟩ := hv'.slice
  unfold sameSt
  generalize sameL a.l b.l = r at HK ⊢
  clear hv hv'
  obtain ⟨c1, b1, l1⟩ := a
  obtain ⟨c2, b2, l2⟩ := b
  simp only at HK ⊢
  go_enter Tryd.func8, Tryd.ntmps8
  cases e1 : (c1 == c2)
  · go_wp2_with fail
    go_ret
    exact ⟨rfl, HB0.out _ _⟩
  cases e2 : (b1 == b2)
  · go_wp2_with fail
    go_ret
    exact ⟨rfl, HB0.out _ _⟩
  go_wp2_with fail
  refine (HK.out _ (HB0.out _ _)).mono ?_
  rintro e w1 ⟨rfl, hb⟩
  have HB := Lib.hid ((HB0.out _ _).trans (hb.mono (HB0.out (.cells #[.int .i64 c1, .int .i64 b1, .slice xa l1.length xc] 24) (.cells #[.int .i64 c2, .int .i64 b2, .slice ya l2.length yc] 24)).size))
  clear hb HK HB0
  go_wp2_with fail
  go_ret
  exact ⟨rfl, HB.out⟩
end Go.Proofs.YthnabnieajojjaaDoor
/-
  The law ReplayRevoked.
-/
namespace Go.Proofs.YthnabnieajojjaaDoor
open Go.RowKit
set_option maxRecDepth 100000

/-- A revocation. -/
def revE (b : Int) : EvtM := ⟨1, noSes, b, 0⟩
theorem rev_may (b : Int) (h1 : 1 ≤ b) (h2 : b ≤ 1048576) : mayE (revE b) = true := by
  unfold mayE revE
  simp only [show ((1 : Int) == 0) = false from rfl, show ((1 : Int) == 1) = true from rfl, Bool.false_eq_true, if_false, if_true]
  simp only [Bool.and_eq_true]
  refine ⟨sameS_iff.2 rfl, ?_⟩
  unfold fromM; simp; omega
theorem rev_one {C B : Int} {L : List SesM} (h : Snd ⟨C, B, L⟩) {s : SesM} (hs : s ∈ L) : applyM ⟨C, B, L⟩ (revE s.birth) = (0, ⟨C, B, L.filter (fun x => !isBelow L s.birth 7 x)⟩) := by
  have hp := h.pos s hs
  have hb := h.births
  simp only at hp hb
  unfold applyM
  rw [if_pos (rev_may _ (by omega) (by omega))]
  show (if (1 : Int) = 0 then _ else if (1 : Int) = 1 then (if L.any (fun x => x.birth == s.birth) = true then _ else _) else _) = _
  rw [if_neg (by decide), if_pos rfl, if_pos (List.any_eq_true.2 ⟨s, hs, by simp⟩)]
  rw [show withoutM (fun x => x.birth == (revE s.birth).birth) L = L.filter (fun x => !isBelow L s.birth 7 x) from h.revoke s.birth]
theorem rev_two {C B : Int} {L : List SesM} (h : Snd ⟨C, B, L⟩) {s : SesM} (hs : s ∈ L) : applyM ⟨C, B, L.filter (fun x => !isBelow L s.birth 7 x)⟩ (revE s.birth) = (16, noSt) := by
  have hp := h.pos s hs
  have hb := h.births
  simp only at hp hb
  unfold applyM
  rw [if_pos (rev_may _ (by omega) (by omega))]
  show (if (1 : Int) = 0 then _ else if (1 : Int) = 1 then (if (L.filter (fun x => !isBelow L s.birth 7 x)).any (fun x => x.birth == s.birth) = true then _ else _) else _) = _
  rw [if_neg (by decide), if_pos rfl, if_neg]
  intro ha
  obtain ⟨x, hx, hxb⟩ := List.any_eq_true.1 ha
  obtain ⟨_, h2⟩ := List.mem_filter.1 hx
  have h3 : isBelow L s.birth 7 x = true := by
    show (if x.birth = s.birth then true else _) = true
    rw [if_pos (by simpa using hxb)]
  rw [h3] at h2; cases h2
set_option maxHeartbeats 6400000 in
theorem replayRevoked_calls (l : List EvtM) (ev : Value) (which : Int) (w : World) (hev : RdE w ev l) (hok : ∀ e ∈ l, EvOk e) (hwh : -9223372036854775808 ≤ which ∧ which ≤ 9223372036854775807) (hg : ErrType w) :
    Calls Tryd.prog 4 #[ev, .int .i64 which] w fun e w' => e = .returned (.bool true) ∧ Below w.heap.size w w' := by
  have HG := Lib.hid hg
  have HWH := Lib.hid hwh
  clear hg hwh
  have HAP := Lib.hid (fun (S : StM) (e : EvtM) (he : e ∈ l) v' w' h hn' => apply_calls S e v' w' h hn' (Nat.le_trans (hok e he).user (by decide)) (Nat.le_trans (hok e he).label (by decide)) (hok e he).scopes)
  have HEV := Lib.hid hev
  obtain ⟨ea, ec, rfl, _, he2⟩ := hev.slice
  have hln : l.length ≤ 9223372036854775807 := by omega
  clear hev hok he2
  obtain ⟨n, hN⟩ : ∃ n, n = l.length := ⟨_, rfl⟩
  rw [← hN] at hln HEV ⊢
  have HN := Lib.hid hN
  clear hN
  go_enter Tryd.func4, Tryd.ntmps4
  go_wp2_with fail
  refine (worksR_calls w).mono ?_
  rintro ev w1 ⟨rfl, hb1⟩
  have HB1 := Lib.hid hb1
  clear hb1
  by_cases hlen : (200 : Int) < (n : Int)
  · go_wp2_with fail
    refine (worksR_calls w1).mono ?_
    rintro ev w2 ⟨rfl, hb2⟩
    have HB2 := Lib.hid (HB1.out.trans (hb2.mono HB1.out.size))
    clear hb2 HB1
    go_wp2_with fail
    go_ret
    exact ⟨rfl, HB2.out⟩
  have HLEN := Lib.hid (show n ≤ 200 by omega)
  have hba := below_alloc w1 (.cells #[.int .i64 0, .int .i64 0, .slice none 0 0] 24)
  have HI0 := Lib.hid (show StI w (w1.alloc (.cells #[.int .i64 0, .int .i64 0, .slice none 0 0] 24)) w1.heap.size 0 0 (.slice none 0 0) [] from
    ⟨Box.new _ _ _, OwnS.nil _ _, Snd.zero, HB1.out.size, HB1.out.trans (hba.mono HB1.out.size)⟩)
  clear hba
  go_wp2_with fail
  generalize (w1.alloc (.cells #[.int .i64 0, .int .i64 0, .slice none 0 0] 24)) = w2 at HI0 ⊢
  generalize w1.heap.size = q at HI0 ⊢
  clear HB1 hlen
  go_loopg [6] n (fun gk iv wr => ∃ (k : Nat) (C B : Int) (sv : Value) (L : List SesM), gk + k = n ∧ iv = .int .i64 (k : Int) ∧ StI w wr q C B sv L)
  case atStart => exact ⟨0, _, _, _, _, Nat.add_zero _, rfl, HI0.out⟩
  case round =>
    clear HI0
    obtain ⟨k, C, B, sv, L, hgk, rfl, hI⟩ := hrel
    have k0 : (0 : Int) ≤ (k : Int) := by omega
    have HGK := Lib.hid hgk
    have HI := Lib.hid hI
    obtain ⟨sa, sc, rfl, _⟩ := hI.ow.slice
    obtain ⟨sn, hSN⟩ : ∃ sn, sn = L.length := ⟨_, rfl⟩
    rw [← hSN] at HI
    have HSN := Lib.hid hSN
    clear hgk hI hSN
    by_cases hk : k < n
    rotate_left
    · have k1 : ¬ (k : Int) < (n : Int) := by omega
      clear hk HAP HEV HGK
      have c2 : wr.cell? ⟨q, 2, none⟩ = some (.slice sa sn sc) := HI.out.bx.cell 2 _ rfl
      by_cases hz : sn = 0
      · have t0 : ((sn : Int) == 0) = true := by rw [hz]; rfl
        clear hz
        go_wp2_with fail
        go_ret
        exact ⟨rfl, HI.out.bel⟩
      have t0 : ((sn : Int) == 0) = false := by rw [beq_eq_false_iff_ne]; omega
      have hpk := pickI_lt which sn (by omega)
      obtain ⟨j, hj⟩ : ∃ j : Nat, (j : Int) = pickI which sn := ⟨(pickI which sn).toNat, by omega⟩
      have hsn63 : sn ≤ 32 := by have h := HI.out.sn.len; simp only at h; have := HSN.out; omega
      have HPK := Lib.hid (show ∀ W, Calls Tryd.prog 13 #[.int .i64 which, .int .i64 (sn : Int)] W fun e w' => e = .returned (.int .i64 (j : Int)) ∧ W = w' from fun W => by rw [hj]; exact pick_calls which sn W HWH.out.1 HWH.out.2 (by omega) (by omega))
      have j0 : (0 : Int) ≤ (j : Int) := by omega
      have j1 : (j : Int) < (sn : Int) := by omega
      have hjl : j < L.length := by have := HSN.out; omega
      obtain ⟨s, hs⟩ : ∃ s, s = L[j] := ⟨_, rfl⟩
      obtain ⟨rb, ro, hra, hrow⟩ := HI.out.ow.rd.row j hjl
      subst hra
      rw [← hs] at hrow
      have HMEM := Lib.hid (show s ∈ L by rw [hs]; exact List.getElem_mem hjl)
      have HR1 := Lib.hid (show wr.cell? ⟨rb, ro + j * 12 + 1, none⟩ = some (.int .i64 s.birth) from hrow 1 _ rfl)
      have HC2 := Lib.hid c2
      clear hpk hj hjl hs hrow hz
      go_wp2_with fail
      clear c2 t0
      refine wp_region_held_drew (S := fun W => Below wr.heap.size wr W) (by kernel_rfl) (below_drew wr) (fun hHeld => ?_)
      refine wpAnyH_take (i := 0) (oi := ⟨some 47, _, _, _, _, _⟩) (v := ?_) rfl (by kernel_rfl) (by kernel_rfl) (by kernel_rfl) (fun _ _ _ h => h) (Or.inl ⟨by kernel_rfl, ?_⟩) (by assumption) ?_
      rotate_left 1
      · intro w' hw'; clear hw'; go_simp; try with_reducible rfl
      try simp only [Act.put, List.setIfInBounds_toArray, List.set_cons_zero, List.set_cons_succ]
      refine wpAnyH_take (i := 1) (oi := ⟨some 48, _, _, _, _, _⟩) (v := ?_) rfl (by kernel_rfl) (by kernel_rfl) (by kernel_rfl) (fun _ _ _ h => h) (Or.inl ⟨by kernel_rfl, ?_⟩) (by assumption) ?_
      rotate_left 1
      · intro w' hw'; have u1 := below_heap hw' HC2.out; clear hw'; go_simp; try with_reducible rfl
      try simp only [Act.put, List.setIfInBounds_toArray, List.set_cons_zero, List.set_cons_succ]
      refine wpAnyH_take (i := 2) (oi := ⟨some 49, _, _, _, _, _⟩) (v := ?_) rfl (by kernel_rfl) (by kernel_rfl) (by kernel_rfl) (fun _ _ _ h => h) (Or.inl ⟨by kernel_rfl, ?_⟩) (by assumption) ?_
      rotate_left 1
      · intro w' hw'; clear hw'; go_simp; try with_reducible rfl
      try simp only [Act.put, List.setIfInBounds_toArray, List.set_cons_zero, List.set_cons_succ]
      refine wpAnyH_take (i := 3) (oi := ⟨some 50, _, _, _, _, _⟩) (v := ?_) rfl (by kernel_rfl) (by kernel_rfl) (by kernel_rfl) (fun _ _ _ h => h) (Or.inl ⟨by kernel_rfl, ?_⟩) (by assumption) ?_
      rotate_left 1
      · intro w' hw'; clear hw'; go_simp; try with_reducible rfl
      try simp only [Act.put, List.setIfInBounds_toArray, List.set_cons_zero, List.set_cons_succ]
      refine wpAnyH_take (i := 4) (oi := ⟨some 51, _, _, _, _, _⟩) (v := ?_) rfl (by kernel_rfl) (by kernel_rfl) (by kernel_rfl) (fun _ _ _ h => h) (Or.inl ⟨by kernel_rfl, ?_⟩) (by assumption) ?_
      rotate_left 1
      · intro w' hw'; have u1 := below_heap hw' HC2.out; clear hw'; go_simp; try with_reducible rfl
      try simp only [Act.put, List.setIfInBounds_toArray, List.set_cons_zero, List.set_cons_succ]
      refine wpAnyH_take (i := 5) (oi := ⟨some 52, _, _, _, _, _⟩) (v := ?_) rfl (by kernel_rfl) (by kernel_rfl) (by kernel_rfl) (fun _ _ _ h => h) (Or.inl ⟨by kernel_rfl, ?_⟩) (by assumption) ?_
      rotate_left 1
      · intro w' hw'; clear hw'; go_simp; try with_reducible rfl
      try simp only [Act.put, List.setIfInBounds_toArray, List.set_cons_zero, List.set_cons_succ]
      refine wpAnyH_ready (rs := [6]) (by kernel_rfl) (by simp) (AllReadyH.cons (o := ⟨some 53, .call _, _, _, _, _⟩) rfl (fun K hK => ?_) AllReadyH.nil)
      go_simp
      refine (HPK.out _).mono ?_
      rintro e5 w5 ⟨rfl, rfl⟩
      refine hK.out _ _ hHeld (fun hHeld2 => ?_)
      clear hK K hHeld
      try simp only [Act.put, List.setIfInBounds_toArray, List.set_cons_zero, List.set_cons_succ]
      refine wpAnyH_take (i := 7) (oi := ⟨some 54, _, _, _, _, _⟩) (v := ?_) rfl (by kernel_rfl) (by kernel_rfl) (by kernel_rfl) (fun _ _ _ h => h) (Or.inl ⟨by kernel_rfl, ?_⟩) (by assumption) ?_
      rotate_left 1
      · intro w' hw'; clear hw'; go_simp; try with_reducible rfl
      try simp only [Act.put, List.setIfInBounds_toArray, List.set_cons_zero, List.set_cons_succ]
      refine wpAnyH_take (i := 8) (oi := ⟨some 55, _, _, _, _, _⟩) (v := ?_) rfl (by kernel_rfl) (by kernel_rfl) (by kernel_rfl) (fun _ _ _ h => h) (Or.inl ⟨by kernel_rfl, ?_⟩) (by assumption) ?_
      rotate_left 1
      · intro w' hw'; clear hw'; go_simp; try with_reducible rfl
      try simp only [Act.put, List.setIfInBounds_toArray, List.set_cons_zero, List.set_cons_succ]
      refine wpAnyH_take (i := 9) (oi := ⟨some 56, _, _, _, _, _⟩) (v := ?_) rfl (by kernel_rfl) (by kernel_rfl) (by kernel_rfl) (fun _ _ _ h => h) (Or.inl ⟨by kernel_rfl, ?_⟩) (by assumption) ?_
      rotate_left 1
      · intro w' hw'; have u1 := below_heap hw' HR1.out; clear hw'; go_simp; try with_reducible rfl
      try simp only [Act.put, List.setIfInBounds_toArray, List.set_cons_zero, List.set_cons_succ]
      refine wpAnyH_take (i := 10) (oi := ⟨some 9, _, _, _, _, _⟩) (v := ?_) rfl (by kernel_rfl) (by kernel_rfl) (by kernel_rfl) (fun _ _ _ h => h) (Or.inl ⟨by kernel_rfl, ?_⟩) (by assumption) ?_
      rotate_left 1
      · intro w' hw'; clear hw'; go_simp; try with_reducible rfl
      try simp only [Act.put, List.setIfInBounds_toArray, List.set_cons_zero, List.set_cons_succ]
      refine wpAnyH_done (by kernel_rfl) ?_ _
      have HI5 := Lib.hid (HI.out.below hHeld2)
      clear hHeld2 HI HC2 HR1 HPK
      generalize wr.drew = w5 at HI5 ⊢
      have HR1 := Lib.hid (rev_one HI5.out.sn HMEM.out)
      have HR2 := Lib.hid (rev_two HI5.out.sn HMEM.out)
      have HBR := Lib.hid (fun x wq (hq : Below w5.heap.size w5 wq) => below7_calls (.slice (some ⟨rb, ro, none⟩) sn sc) L x s.birth wq (HI5.out.below hq).ow.rd)
      obtain ⟨b, hb⟩ : ∃ b, b = s.birth := ⟨_, rfl⟩
      rw [← hb] at HR1 HR2 HBR ⊢
      clear hb HMEM j0 j1
      go_wp2_with fail
      go_loopg [10, 11] sn (fun gi ov iv wr => ∃ (i : Nat), gi + i = sn ∧ iv = .int .i64 (i : Int) ∧ OwnS wr w5.heap.size ov ((L.take i).filter (fun x => !isBelow L b 7 x)) ∧ Below w5.heap.size w5 wr)
      case atStart => exact ⟨0, Nat.add_zero _, rfl, OwnS.nil _ _, Below.refl _ _⟩
      case round =>
        obtain ⟨i, hgi, rfl, hown, hb⟩ := hrel
        have i0 : (0 : Int) ≤ (i : Int) := by omega
        have HGI := Lib.hid hgi
        have HO := Lib.hid hown
        have HB := Lib.hid hb
        have HIr := Lib.hid (HI5.out.below hb)
        have c2 : wr.cell? ⟨q, 2, none⟩ = some (.slice (some ⟨rb, ro, none⟩) sn sc) := HIr.out.bx.cell 2 _ rfl
        clear hgi hown hb
        by_cases hi : i < sn
        · have i1 : (i : Int) < (sn : Int) := by omega
          have hil : i < L.length := by have := HSN.out; omega
          obtain ⟨x, hx⟩ : ∃ x, x = L[i] := ⟨_, rfl⟩
          obtain ⟨rb', ro', hra, hrow⟩ := HIr.out.ow.rd.row i hil
          injection hra with hra
          injection hra with e5 e6
          subst e5
          subst e6
          rw [← hx] at hrow
          have HT := Lib.hid (show (L.take (i + 1)).filter (fun x => !isBelow L b 7 x) = (L.take i).filter (fun x => !isBelow L b 7 x) ++ [x].filter (fun x => !isBelow L b 7 x) by rw [List.take_succ_eq_append_getElem hil, List.filter_append, hx])
          have HROW := Lib.hid hrow
          have HC2 := Lib.hid c2
          have HBX := Lib.hid (fun wq (hq : Below wr.heap.size wr wq) => HBR.out x wq (HB.out.trans (hq.mono HB.out.size)))
          have HI3 := Lib.hid hi
          have HLK := Lib.hid (show ((L.take i).filter (fun x => !isBelow L b 7 x)).length + 1 ≤ 1256584717458 by
            have h1 := List.length_filter_le (fun x => !isBelow L b 7 x) (L.take i)
            rw [List.length_take] at h1
            omega)
          clear hi hil hx hrow
          go_wp2_with fail
          clear c2
          refine wp_region_held_drew (S := fun W => Below wr.heap.size wr W) (by kernel_rfl) (below_drew wr) (fun hHeld => ?_)
          refine wpAnyH_take (i := 0) (oi := ⟨some 64, _, _, _, _, _⟩) (v := ?_) rfl (by kernel_rfl) (by kernel_rfl) (by kernel_rfl) (fun _ _ _ h => h) (Or.inl ⟨by kernel_rfl, ?_⟩) (by assumption) ?_
          rotate_left 1
          · intro w' hw'; clear hw'; go_simp; try with_reducible rfl
          try simp only [Act.put, List.setIfInBounds_toArray, List.set_cons_zero, List.set_cons_succ]
          refine wpAnyH_take (i := 1) (oi := ⟨some 65, _, _, _, _, _⟩) (v := ?_) rfl (by kernel_rfl) (by kernel_rfl) (by kernel_rfl) (fun _ _ _ h => h) (Or.inl ⟨by kernel_rfl, ?_⟩) (by assumption) ?_
          rotate_left 1
          · intro w' hw'; have u1 := below_heap hw' HC2.out; clear hw'; go_simp; try with_reducible rfl
          try simp only [Act.put, List.setIfInBounds_toArray, List.set_cons_zero, List.set_cons_succ]
          refine wpAnyH_take (i := 2) (oi := ⟨some 66, _, _, _, _, _⟩) (v := ?_) rfl (by kernel_rfl) (by kernel_rfl) (by kernel_rfl) (fun _ _ _ h => h) (Or.inl ⟨by kernel_rfl, ?_⟩) (by assumption) ?_
          rotate_left 1
          · intro w' hw'; clear hw'; go_simp; try with_reducible rfl
          try simp only [Act.put, List.setIfInBounds_toArray, List.set_cons_zero, List.set_cons_succ]
          refine wpAnyH_take (i := 3) (oi := ⟨some 67, _, _, _, _, _⟩) (v := ?_) rfl (by kernel_rfl) (by kernel_rfl) (by kernel_rfl) (fun _ _ _ h => h) (Or.inl ⟨by kernel_rfl, ?_⟩) (by assumption) ?_
          rotate_left 1
          · intro w' hw'; have u1 := below_heap hw' HC2.out; clear hw'; go_simp; try with_reducible rfl
          try simp only [Act.put, List.setIfInBounds_toArray, List.set_cons_zero, List.set_cons_succ]
          refine wpAnyH_take (i := 4) (oi := ⟨some 68, _, _, _, _, _⟩) (v := ?_) rfl (by kernel_rfl) (by kernel_rfl) (by kernel_rfl) (fun _ _ _ h => h) (Or.inl ⟨by kernel_rfl, ?_⟩) (by assumption) ?_
          rotate_left 1
          · intro w' hw'; clear hw'; go_simp; try with_reducible rfl
          try simp only [Act.put, List.setIfInBounds_toArray, List.set_cons_zero, List.set_cons_succ]
          refine wpAnyH_take (i := 5) (oi := ⟨some 69, _, _, _, _, _⟩) (v := ?_) rfl (by kernel_rfl) (by kernel_rfl) (by kernel_rfl) (fun _ _ _ h => h) (Or.inl ⟨by kernel_rfl, ?_⟩) (by assumption) ?_
          rotate_left 1
          · intro w' hw'; clear hw'; go_simp; try with_reducible rfl
          try simp only [Act.put, List.setIfInBounds_toArray, List.set_cons_zero, List.set_cons_succ]
          refine wpAnyH_take (i := 6) (oi := ⟨some 70, .load _ _, _, _, _, _⟩) (v := .agg x.cells) rfl (by kernel_rfl) (by kernel_rfl) (by kernel_rfl) (fun _ _ _ h => h) (Or.inl ⟨by kernel_rfl, fun w' hw' => exec_load_m 30 (.tmp 69) rfl (rb) (ro + i * 12) rfl (x.cells).toList _ (fun j v hv => below_heap hw' (HROW.out j v hv)) Tryd.underlying30 rfl (by kernel_rfl)⟩) (by assumption) ?_
          try simp only [Act.put, List.setIfInBounds_toArray, List.set_cons_zero, List.set_cons_succ]
          refine wpAnyH_take (i := 7) (oi := ⟨some 71, _, _, _, _, _⟩) (v := ?_) rfl (by kernel_rfl) (by kernel_rfl) (by kernel_rfl) (fun _ _ _ h => h) (Or.inl ⟨by kernel_rfl, ?_⟩) (by assumption) ?_
          rotate_left 1
          · intro w' hw'; clear hw'; go_simp; try with_reducible rfl
          try simp only [Act.put, List.setIfInBounds_toArray, List.set_cons_zero, List.set_cons_succ]
          refine wpAnyH_ready (rs := [8]) (by kernel_rfl) (by simp) (AllReadyH.cons (o := ⟨some 72, .call _, _, _, _, _⟩) rfl (fun K hK => ?_) AllReadyH.nil)
          go_simp
          refine (HBX.out _ hHeld).mono ?_
          rintro e7 w7 ⟨rfl, hb7⟩
          refine hK.out _ _ (below_trans hHeld hb7) (fun hHeld2 => ?_)
          obtain ⟨r, hr⟩ : ∃ r, r = isBelow L b 7 x := ⟨_, rfl⟩
          rw [← hr]
          have HRX := Lib.hid hr
          clear hK K hr hHeld hb7
          try simp only [Act.put, List.setIfInBounds_toArray, List.set_cons_zero, List.set_cons_succ]
          refine wpAnyH_take (i := 9) (oi := ⟨some 73, _, _, _, _, _⟩) (v := ?_) rfl (by kernel_rfl) (by kernel_rfl) (by kernel_rfl) (fun _ _ _ h => h) (Or.inl ⟨by kernel_rfl, ?_⟩) (by assumption) ?_
          rotate_left 1
          · intro w' hw'; clear hw'; go_simp; try with_reducible rfl
          try simp only [Act.put, List.setIfInBounds_toArray, List.set_cons_zero, List.set_cons_succ]
          refine wpAnyH_done (by kernel_rfl) ?_ _
          have HB7 := Lib.hid (HB.out.trans (hHeld2.mono HB.out.size))
          have HO7 := Lib.hid (HO.out.below hHeld2)
          have c2 := below_heap hHeld2 HC2.out
          have HROW7 := Lib.hid (show w7.rangeAt rb (ro + i * 12) x.cells.toList from fun j v hv => below_heap hHeld2 (HROW.out j v hv))
          clear hHeld2 HB HO HC2 HROW HBX HIr
          cases r
          rotate_left
          · have HTT := Lib.hid (show (L.take (i + 1)).filter (fun x => !isBelow L b 7 x) = (L.take i).filter (fun x => !isBelow L b 7 x) by
              have h : [x].filter (fun x => !isBelow L b 7 x) = [] := by simp [← HRX.out]
              rw [HT.out, h, List.append_nil])
            clear c2 HROW7
            go_wp2_with fail
            go_roundg (sn - (i + 1))
            case measure => have := HGI.out; have := HI3.out; omega
            case rel => exact ⟨i + 1, by have := HGI.out; have := HI3.out; omega, by go_num, by rw [HTT.out]; exact HO7.out, HB7.out⟩
          have HTT := Lib.hid (show (L.take (i + 1)).filter (fun x => !isBelow L b 7 x) = (L.take i).filter (fun x => !isBelow L b 7 x) ++ [x] by
            have h : [x].filter (fun x => !isBelow L b 7 x) = [x] := by simp [← HRX.out]
            rw [HT.out, h])
          go_wp2_with ((with_reducible refine wpList_load_k ?L5a 30 (.tmp 78) ?L5b (rb) (ro + i * 12) ?L5c x.cells.toList _ (HROW7.out) Tryd.underlying30 ?L5d ?L5e ?L5f); (case L5b => rfl); (case L5a => rfl); (case L5c => rfl); (case L5d => rfl); (case L5e => kernel_rfl))
          intro cv hcv
          have ecv : cv = x.cells := by rw [hcv.out]
          subst ecv
          clear hcv c2
          go_wp2_with (refine wpList_buildSlice_s (op := ⟨some 80, _, _, _, _, _⟩) (by rfl) 22 1 #[(0, .tmp 79)] rfl #[(0, .agg x.cells)] (by kernel_rfl) _ _ (buildS x w7) ?_)
          intro w8 hw8
          have hb8 : Below w7.heap.size w7 w8 := by rw [hw8.out]; exact below_alloc _ _
          have HC8 := Lib.hid (show ∀ j u, x.cells.toList[j]? = some u → w8.cell? ((⟨w7.heap.size, 0, none⟩ : Addr).add j) = some u by rw [hw8.out]; exact newCells w7 x _)
          have HO8 := Lib.hid (HO7.out.below hb8)
          have HB8 := Lib.hid (HB7.out.trans (hb8.mono HB7.out.size))
          clear hw8 hb8 HO7 HROW7 HB7
          go_wp2_with (at_builtin; refine appSes rfl _ _ rfl w5.heap.size _ ((L.take i).filter (fun x => !isBelow L b 7 x)) rfl HO8.out ⟨w7.heap.size, 0, none⟩ 1 x rfl HC8.out HLK.out (by have := HB8.out.size; omega) ?_)
          intro v' w9 hown' hg' _
          have HB9 := Lib.hid (HB8.out.trans (below_grown hg' HB8.out.size (fun q hq => (HO8.out.lt q hq).1)))
          have HO9 := Lib.hid hown'
          clear hg' hown' HO8 HB8 HC8
          go_wp2_with fail
          go_roundg (sn - (i + 1))
          case measure => have := HGI.out; have := HI3.out; omega
          case rel => exact ⟨i + 1, by have := HGI.out; have := HI3.out; omega, by go_num, by rw [HTT.out]; exact HO9.out, HB9.out⟩
        have i1 : ¬ (i : Int) < (sn : Int) := by omega
        obtain ⟨F, hF⟩ : ∃ F, F = L.filter (fun x => !isBelow L b 7 x) := ⟨_, rfl⟩
        rw [List.take_of_length_le (by have := HSN.out; omega), ← hF] at HO
        rw [← hF] at HR1 HR2
        have HFL := Lib.hid (show F.length ≤ 32 by
          have h1 := List.length_filter_le (fun x => !isBelow L b 7 x) L
          rw [← hF] at h1
          have := HSN.out; omega)
        have HLL := Lib.hid (show L.length ≤ 1000000000 by have := HSN.out; omega)
        obtain ⟨wa, wc, rfl, _⟩ := HO.out.slice
        obtain ⟨wn, hwn⟩ : ∃ wn, wn = F.length := ⟨_, rfl⟩
        rw [← hwn] at HO ⊢
        clear hi hwn hF HBR
        have HA1 := Lib.hid (fun v w' hr => apply_calls ⟨C, B, L⟩ (revE b) v w' hr HLL.out (show (0 : Nat) ≤ _ by omega) (show (0 : Nat) ≤ _ by omega) (show (0 : Nat) < 2 ^ 64 by decide))
        have HA2 := Lib.hid (fun v w' hr => apply_calls ⟨C, B, F⟩ (revE b) v w' hr (show F.length ≤ _ by have := HFL.out; omega) (show (0 : Nat) ≤ _ by omega) (show (0 : Nat) ≤ _ by omega) (show (0 : Nat) < 2 ^ 64 by decide))
        rw [HR1.out] at HA1
        rw [HR2.out] at HA2
        simp only at HA1 HA2
        have c0 : wr.cell? ⟨q, 0, none⟩ = some (.int .i64 C) := HIr.out.bx.cell 0 _ rfl
        have c1 : wr.cell? ⟨q, 1, none⟩ = some (.int .i64 B) := HIr.out.bx.cell 1 _ rfl
        clear HI5 HR1 HR2
        go_wp2_with fail
        refine (HA1.out _ wr HIr.out.ow.rd).mono ?_
        rintro e6 w6 ⟨o, rfl, ho, hb6⟩
        obtain ⟨oa, oc, rfl, _⟩ := ho.slice
        obtain ⟨m, hM⟩ : ∃ m, m = F.length := ⟨_, rfl⟩
        rw [← hM] at ho ⊢
        clear hM
        have hba := below_alloc w6 (.cells #[.int .i64 C, .int .i64 B, .slice oa m oc] 24)
        have hnx := below_trans hb6 hba
        have HI7 := Lib.hid (HIr.out.below hnx)
        have HW7 := Lib.hid (HO.out.below hnx)
        have HX7 := Lib.hid (And.intro (Box.new w6 #[.int .i64 C, .int .i64 B, .slice oa m oc] 24) (ho.below hba))
        clear hb6 ho hba hnx HIr HO HA1 c0 c1 c2
        have d0 : (w6.alloc (.cells #[.int .i64 C, .int .i64 B, .slice oa m oc] 24)).cell? ⟨w6.heap.size, 0, none⟩ = some (.int .i64 C) := HX7.out.1.cell 0 _ rfl
        have d1 : (w6.alloc (.cells #[.int .i64 C, .int .i64 B, .slice oa m oc] 24)).cell? ⟨w6.heap.size, 1, none⟩ = some (.int .i64 B) := HX7.out.1.cell 1 _ rfl
        have d2 : (w6.alloc (.cells #[.int .i64 C, .int .i64 B, .slice oa m oc] 24)).cell? ⟨w6.heap.size, 2, none⟩ = some (.slice oa m oc) := HX7.out.1.cell 2 _ rfl
        go_wp2_with fail
        generalize (w6.alloc (.cells #[.int .i64 C, .int .i64 B, .slice oa m oc] 24)) = w7 at HI7 HW7 HX7 d0 d1 d2 ⊢
        generalize w6.heap.size = q7 at HX7 d0 d1 d2 ⊢
        refine (HA2.out _ w7 HX7.out.2.rd).mono ?_
        rintro e8 w8 ⟨o8, rfl, ho8, hb8⟩
        obtain ⟨pa, pc, rfl, _⟩ := ho8.slice
        rw [show (noSt.l).length = 0 from rfl]
        rw [show noSt.clock = 0 from rfl, show noSt.births = 0 from rfl]
        have hba := below_alloc w8 (.cells #[.int .i64 0, .int .i64 0, .slice pa 0 pc] 24)
        have hnx := below_trans hb8 hba
        have HI9 := Lib.hid (HI7.out.below hnx)
        have HW9 := Lib.hid (HW7.out.below hnx)
        have HX9 := Lib.hid (And.intro (HX7.out.1.below hnx) (HX7.out.2.below hnx))
        clear ho8 hb8 hba hnx HI7 HW7 HX7 HA2 d0 d1 d2
        have c0 : (w8.alloc (.cells #[.int .i64 0, .int .i64 0, .slice pa 0 pc] 24)).cell? ⟨q, 0, none⟩ = some (.int .i64 C) := HI9.out.bx.cell 0 _ rfl
        have c1 : (w8.alloc (.cells #[.int .i64 0, .int .i64 0, .slice pa 0 pc] 24)).cell? ⟨q, 1, none⟩ = some (.int .i64 B) := HI9.out.bx.cell 1 _ rfl
        have d0 : (w8.alloc (.cells #[.int .i64 0, .int .i64 0, .slice pa 0 pc] 24)).cell? ⟨q7, 0, none⟩ = some (.int .i64 C) := HX9.out.1.cell 0 _ rfl
        have d1 : (w8.alloc (.cells #[.int .i64 0, .int .i64 0, .slice pa 0 pc] 24)).cell? ⟨q7, 1, none⟩ = some (.int .i64 B) := HX9.out.1.cell 1 _ rfl
        have d2 : (w8.alloc (.cells #[.int .i64 0, .int .i64 0, .slice pa 0 pc] 24)).cell? ⟨q7, 2, none⟩ = some (.slice oa m oc) := HX9.out.1.cell 2 _ rfl
        have t1 : (C == C) = true := by simp
        have t2 : (B == B) = true := by simp
        have HPL := Lib.hid (fun W hW => plain_any 16 W (by decide) (by decide) hW)
        rw [errV_nz (show (16 : Int) ≠ 0 by decide)] at HPL ⊢
        rw [show errV 0 = .nilIface from rfl]
        go_wp2_with fail
        refine (sameSes_calls _ _ F F _ HX9.out.2.rd HW9.out.rd).mono ?_
        rintro ea w10 ⟨rfl, hb10⟩
        rw [show sameL F F = true from sameL_iff.2 rfl]
        have HI10 := Lib.hid (HI9.out.below hb10)
        clear hb10 HI9 HX9 HW9 c0 c1 d0 d1 d2 t1 t2
        go_wp2_with fail
        refine (HPL.out _ (HG.out.below HI10.out.bel)).mono ?_
        rintro eb w11 ⟨rfl, hb11⟩
        have HB11 := Lib.hid (HI10.out.bel.trans (hb11.mono HI10.out.bel.size))
        clear hb11 HI10 HPL
        go_wp2_with fail
        go_ret
        exact ⟨rfl, HB11.out⟩
    have k1 : (k : Int) < (n : Int) := by omega
    have hkl : k < l.length := by have := HN.out; omega
    obtain ⟨e, he⟩ : ∃ e, e = l[k] := ⟨_, rfl⟩
    obtain ⟨rb, ro, hra, hrow⟩ := (HEV.out.below HI.out.bel).row k hkl
    subst hra
    rw [← he] at hrow
    have HROW := Lib.hid hrow
    have HK := Lib.hid hk
    have hmem : e ∈ l := by rw [he]; exact List.getElem_mem hkl
    have HLE := Lib.hid (show L.length ≤ 1000000000 by have h := HI.out.sn.len; simp only at h; omega)
    have HCA := Lib.hid (fun w' (hb : Below wr.heap.size wr w') => HAP.out ⟨C, B, L⟩ e hmem _ w' (HI.out.below hb).ow.rd HLE.out)
    have HSND := HI.out.sn
    obtain ⟨A, hA⟩ : ∃ A, A = applyM ⟨C, B, L⟩ e := ⟨_, rfl⟩
    rw [← hA] at HCA
    obtain ⟨er, C2, B2, L2⟩ := A
    simp only at HCA
    have HAE := Lib.hid hA.symm
    have HSN2 := Lib.hid (fun h0 => HSND.applied hA.symm h0)
    obtain ⟨m, hM⟩ : ∃ m, m = L2.length := ⟨_, rfl⟩
    have HM := Lib.hid hM
    clear hA hk hkl he hrow hmem hM HSND HLE
    have HSQ := Lib.hid (show q < wr.heap.size from HI.out.bx.lt)
    go_wp2_with fail
    refine wp_region_held_drew (S := fun W => Below wr.heap.size wr W) (by kernel_rfl) (below_drew wr) (fun hHeld => ?_)
    refine wpAnyH_take (i := 0) (oi := ⟨some 32, .load _ _, _, _, _, _⟩) (v := .agg #[.int .i64 C, .int .i64 B, .slice sa sn sc]) rfl (by kernel_rfl) (by kernel_rfl) (by kernel_rfl) (fun _ _ _ h => h) (Or.inl ⟨by kernel_rfl, fun w' hw' => exec_load_m 24 (.tmp 5) rfl (q) (0) rfl (#[.int .i64 C, .int .i64 B, .slice sa sn sc]).toList _ (zrangeS (HI.out.bx.below hw')) Tryd.underlying24 rfl (by kernel_rfl)⟩) (by assumption) ?_
    try simp only [Act.put, List.setIfInBounds_toArray, List.set_cons_zero, List.set_cons_succ]
    refine wpAnyH_take (i := 1) (oi := ⟨some 33, _, _, _, _, _⟩) (v := ?_) rfl (by kernel_rfl) (by kernel_rfl) (by kernel_rfl) (fun _ _ _ h => h) (Or.inl ⟨by kernel_rfl, ?_⟩) (by assumption) ?_
    rotate_left 1
    · intro w' hw'; clear hw'; go_simp; try with_reducible rfl
    try simp only [Act.put, List.setIfInBounds_toArray, List.set_cons_zero, List.set_cons_succ]
    refine wpAnyH_take (i := 2) (oi := ⟨some 34, _, _, _, _, _⟩) (v := ?_) rfl (by kernel_rfl) (by kernel_rfl) (by kernel_rfl) (fun _ _ _ h => h) (Or.inl ⟨by kernel_rfl, ?_⟩) (by assumption) ?_
    rotate_left 1
    · intro w' hw'; clear hw'; go_simp; try with_reducible rfl
    try simp only [Act.put, List.setIfInBounds_toArray, List.set_cons_zero, List.set_cons_succ]
    refine wpAnyH_take (i := 3) (oi := ⟨some 35, _, _, _, _, _⟩) (v := ?_) rfl (by kernel_rfl) (by kernel_rfl) (by kernel_rfl) (fun _ _ _ h => h) (Or.inl ⟨by kernel_rfl, ?_⟩) (by assumption) ?_
    rotate_left 1
    · intro w' hw'; clear hw'; go_simp; try with_reducible rfl
    try simp only [Act.put, List.setIfInBounds_toArray, List.set_cons_zero, List.set_cons_succ]
    refine wpAnyH_take (i := 4) (oi := ⟨some 36, .load _ _, _, _, _, _⟩) (v := .agg e.cells) rfl (by kernel_rfl) (by kernel_rfl) (by kernel_rfl) (fun _ _ _ h => h) (Or.inl ⟨by kernel_rfl, fun w' hw' => exec_load_m 32 (.tmp 35) rfl (rb) (ro + k * 15) rfl (e.cells).toList _ (fun j v hv => below_heap hw' (HROW.out j v hv)) Tryd.underlying32 rfl (by kernel_rfl)⟩) (by assumption) ?_
    try simp only [Act.put, List.setIfInBounds_toArray, List.set_cons_zero, List.set_cons_succ]
    refine wpAnyH_ready (rs := [5, 9]) (by kernel_rfl) (by simp) (AllReadyH.cons (o := ⟨some 37, .call _, _, _, _, _⟩) rfl (fun K hK => ?_) (AllReadyH.cons (o := ⟨some 7, .alloc _, _, _, _, _⟩) rfl (fun K hK => ?_) AllReadyH.nil))
    · go_simp
      refine (HCA.out _ hHeld).mono ?_
      rintro e3 w3 ⟨o, rfl, ho, hb3⟩
      refine hK.out _ _ (below_trans hHeld hb3) (fun hHeld2 => ?_)
      obtain ⟨oa, oc, rfl, _⟩ := ho.slice
      rw [← HM.out] at ho ⊢
      have HO3 := Lib.hid ho
      clear hK K ho hb3
      try simp only [Act.put, List.setIfInBounds_toArray, List.set_cons_zero, List.set_cons_succ]
      refine wpAnyH_take (i := 6) (oi := ⟨some 31, _, _, _, _, _⟩) (v := ?_) rfl (by kernel_rfl) (by kernel_rfl) (by kernel_rfl) (fun _ _ _ h => h) (Or.inl ⟨by kernel_rfl, ?_⟩) (by assumption) ?_
      rotate_left 1
      · intro w' hw'; clear hw'; go_simp; try with_reducible rfl
      try simp only [Act.put, List.setIfInBounds_toArray, List.set_cons_zero, List.set_cons_succ]
      refine wpAnyH_take (i := 7) (oi := ⟨some 38, _, _, _, _, _⟩) (v := ?_) rfl (by kernel_rfl) (by kernel_rfl) (by kernel_rfl) (fun _ _ _ h => h) (Or.inl ⟨by kernel_rfl, ?_⟩) (by assumption) ?_
      rotate_left 1
      · intro w' hw'; clear hw'; go_simp; try with_reducible rfl
      try simp only [Act.put, List.setIfInBounds_toArray, List.set_cons_zero, List.set_cons_succ]
      refine wpAnyH_take (i := 8) (oi := ⟨some 39, _, _, _, _, _⟩) (v := ?_) rfl (by kernel_rfl) (by kernel_rfl) (by kernel_rfl) (fun _ _ _ h => h) (Or.inl ⟨by kernel_rfl, ?_⟩) (by assumption) ?_
      rotate_left 1
      · intro w' hw'; clear hw'; go_simp; try with_reducible rfl
      try simp only [Act.put, List.setIfInBounds_toArray, List.set_cons_zero, List.set_cons_succ]
      refine wpAnyH_ready (rs := [9]) (by kernel_rfl) (by simp) (AllReadyH.cons (o := ⟨some 7, .alloc _, _, _, _, _⟩) rfl (fun K hK => ?_) AllReadyH.nil)
      go_simp
      have hba := below_alloc w3 (.cells #[.int .i64 0, .int .i64 0, .slice none 0 0] 24)
      refine hK.out _ _ (below_trans hHeld2 hba) (fun hHeld3 => ?_)
      have HX8 := Lib.hid (Box.new w3 #[.int .i64 0, .int .i64 0, .slice none 0 0] 24)
      have HO8 := Lib.hid (HO3.out.below hba)
      have HQ8 := Lib.hid (show wr.heap.size ≤ w3.heap.size from hHeld2.size)
      have HNE8 := Lib.hid (show ∀ k, (Value.slice oa m oc).ownBlock = some k → k ≠ w3.heap.size from fun k hk e => by have := (HO3.out.lt k hk).2; omega)
      clear hK K HO3 hba hHeld2 hHeld
      try simp only [Act.put, List.setIfInBounds_toArray, List.set_cons_zero, List.set_cons_succ]
      refine wpAnyH_ready (rs := [10]) (by kernel_rfl) (by simp) (AllReadyH.cons (o := ⟨none, .store 24 (.tmp 7) (.tmp 38), _, _, _, none⟩) rfl (fun K hK => ?_) AllReadyH.nil)
      rw [if_pos (by kernel_rfl)]
      refine wp_store_kk 24 (.tmp 7) (.tmp 38) rfl (w3.heap.size) 0 [.int .i64 C2, .int .i64 B2, .slice oa m oc] rfl rfl HX8.out.there3 (by kernel_rfl) (one3 _ _ _ _ _) ?_
      obtain ⟨hx9, hm9⟩ := HX8.out.set3 (.int .i64 C2) (.int .i64 B2) (.slice oa m oc)
      have HW9 := Lib.hid (hm9.below (B := wr.heap.size) (by have := HX8.out.lt; have := HQ8.out; omega) (fun i hi => by have := HQ8.out; omega))
      refine hK.out _ _ (hHeld3.trans (HW9.out)) (fun hHeld4 => ?_)
      have HAJ := Lib.hid (show AppI w _ q (w3.heap.size) C B (.slice sa sn sc) L C2 B2 (.slice oa m oc) L2 from
        ⟨HI.out.below hHeld4, hx9, (HO8.out.mod hm9 (fun k hk e => HNE8.out k hk e)).base (show q + 1 ≤ wr.heap.size by have := HSQ.out; omega), by have h2 : wr.heap.size ≤ w3.heap.size := HQ8.out; have := HSQ.out; omega⟩)
      clear hK K hx9 hm9 HW9 HX8 HO8 HNE8 hHeld3 HCA HI HROW
      generalize (World.setCells _ _ _ _) = w9 at HAJ hHeld4 ⊢
      clear HQ8
      try simp only [Act.put]
      refine wpAnyH_take (i := 11) (oi := ⟨some 8, _, _, _, _, _⟩) (v := ?_) rfl (by kernel_rfl) (by kernel_rfl) (by kernel_rfl) (fun _ _ _ h => h) (Or.inl ⟨by kernel_rfl, ?_⟩) (by assumption) ?_
      rotate_left 1
      · intro w' hw'; clear hw'; go_simp; try with_reducible rfl
      try simp only [Act.put, List.setIfInBounds_toArray, List.set_cons_zero, List.set_cons_succ]
      refine wpAnyH_done (by kernel_rfl) ?_ _
      clear hHeld4
      generalize (w3.heap.size) = q8 at HAJ ⊢
      by_cases h0 : er = 0
      · subst h0
        rw [show errV 0 = .nilIface from rfl]
        have HN2 := Lib.hid (HAJ.out.j.put C2 B2 (.slice oa m oc) L2 HAJ.out.ow (HSN2.out rfl))
        have c0 : (w9).cell? ⟨q, 0, none⟩ = some (.int .i64 C) := HAJ.out.j.bx.cell 0 _ rfl
        have f0 := HAJ.out.j.bx.free 0
        have c1 : (w9).cell? ⟨q, 1, none⟩ = some (.int .i64 B) := HAJ.out.j.bx.cell 1 _ rfl
        have f1 := HAJ.out.j.bx.free 1
        have c2 : (w9).cell? ⟨q, 2, none⟩ = some (.slice sa sn sc) := HAJ.out.j.bx.cell 2 _ rfl
        have f2 := HAJ.out.j.bx.free 2
        have d0 : (w9).cell? ⟨q8, 0, none⟩ = some (.int .i64 C2) := HAJ.out.b8.cell 0 _ rfl
        have d1 : (w9).cell? ⟨q8, 1, none⟩ = some (.int .i64 B2) := HAJ.out.b8.cell 1 _ rfl
        have d2 : (w9).cell? ⟨q8, 2, none⟩ = some (.slice oa m oc) := HAJ.out.b8.cell 2 _ rfl
        clear HAJ HSN2 HAE
        go_wp2_with fail
        go_roundg (n - (k + 1))
        case measure => have := HGK.out; have := HK.out; omega
        case rel => exact ⟨k + 1, _, _, _, _, by have := HGK.out; have := HK.out; omega, by go_num, HN2.out⟩
      rw [errV_nz h0]
      have HN2 := Lib.hid HAJ.out.j
      clear h0 HAJ HSN2 HAE
      go_wp2_with fail
      go_roundg (n - (k + 1))
      case measure => have := HGK.out; have := HK.out; omega
      case rel => exact ⟨k + 1, _, _, _, _, by have := HGK.out; have := HK.out; omega, by go_num, HN2.out⟩
    · go_simp
      have hba := below_alloc wr.drew (.cells #[.int .i64 0, .int .i64 0, .slice none 0 0] 24)
      have hHeldA := below_trans hHeld hba
      refine hK.out _ _ hHeldA (fun hHeld2 => ?_)
      have HXA := Lib.hid (show Box (wr.drew.alloc (.cells #[.int .i64 0, .int .i64 0, .slice none 0 0] 24)) wr.heap.size #[.int .i64 0, .int .i64 0, .slice none 0 0] 24 from Box.new wr.drew #[.int .i64 0, .int .i64 0, .slice none 0 0] 24)
      clear hK K
      try simp only [Act.put, List.setIfInBounds_toArray, List.set_cons_zero, List.set_cons_succ]
      refine wpAnyH_ready (rs := [5]) (by kernel_rfl) (by simp) (AllReadyH.cons (o := ⟨some 37, .call _, _, _, _, _⟩) rfl (fun K hK => ?_) AllReadyH.nil)
      go_simp
      refine (HCA.out _ hHeldA).mono ?_
      rintro e3 w3 ⟨o, rfl, ho, hb3⟩
      have hHeld3 := below_trans hHeldA hb3
      refine hK.out _ _ hHeld3 (fun _ => ?_)
      obtain ⟨oa, oc, rfl, _⟩ := ho.slice
      rw [← HM.out] at ho ⊢
      have HX8 := Lib.hid (HXA.out.below hb3)
      have HQ8 := Lib.hid (Nat.le_refl wr.heap.size)
      have HO8 := Lib.hid (ho.base (base' := wr.heap.size) (Nat.le_of_lt HXA.out.lt))
      have HNE8 := Lib.hid (show ∀ k, (Value.slice oa m oc).ownBlock = some k → k ≠ wr.heap.size from fun k hk e => by have := (ho.lt k hk).1; have := HXA.out.lt; omega)
      clear hK K ho hb3 HXA hHeldA hHeld hHeld2
      try simp only [Act.put, List.setIfInBounds_toArray, List.set_cons_zero, List.set_cons_succ]
      refine wpAnyH_take (i := 6) (oi := ⟨some 31, _, _, _, _, _⟩) (v := ?_) rfl (by kernel_rfl) (by kernel_rfl) (by kernel_rfl) (fun _ _ _ h => h) (Or.inl ⟨by kernel_rfl, ?_⟩) (by assumption) ?_
      rotate_left 1
      · intro w' hw'; clear hw'; go_simp; try with_reducible rfl
      try simp only [Act.put, List.setIfInBounds_toArray, List.set_cons_zero, List.set_cons_succ]
      refine wpAnyH_take (i := 7) (oi := ⟨some 38, _, _, _, _, _⟩) (v := ?_) rfl (by kernel_rfl) (by kernel_rfl) (by kernel_rfl) (fun _ _ _ h => h) (Or.inl ⟨by kernel_rfl, ?_⟩) (by assumption) ?_
      rotate_left 1
      · intro w' hw'; clear hw'; go_simp; try with_reducible rfl
      try simp only [Act.put, List.setIfInBounds_toArray, List.set_cons_zero, List.set_cons_succ]
      refine wpAnyH_take (i := 8) (oi := ⟨some 39, _, _, _, _, _⟩) (v := ?_) rfl (by kernel_rfl) (by kernel_rfl) (by kernel_rfl) (fun _ _ _ h => h) (Or.inl ⟨by kernel_rfl, ?_⟩) (by assumption) ?_
      rotate_left 1
      · intro w' hw'; clear hw'; go_simp; try with_reducible rfl
      try simp only [Act.put, List.setIfInBounds_toArray, List.set_cons_zero, List.set_cons_succ]
      refine wpAnyH_ready (rs := [10]) (by kernel_rfl) (by simp) (AllReadyH.cons (o := ⟨none, .store 24 (.tmp 7) (.tmp 38), _, _, _, none⟩) rfl (fun K hK => ?_) AllReadyH.nil)
      rw [if_pos (by kernel_rfl)]
      refine wp_store_kk 24 (.tmp 7) (.tmp 38) rfl (wr.heap.size) 0 [.int .i64 C2, .int .i64 B2, .slice oa m oc] rfl rfl HX8.out.there3 (by kernel_rfl) (one3 _ _ _ _ _) ?_
      obtain ⟨hx9, hm9⟩ := HX8.out.set3 (.int .i64 C2) (.int .i64 B2) (.slice oa m oc)
      have HW9 := Lib.hid (hm9.below (B := wr.heap.size) (by have := HX8.out.lt; have := HQ8.out; omega) (fun i hi => by have := HQ8.out; omega))
      refine hK.out _ _ (hHeld3.trans (HW9.out)) (fun hHeld4 => ?_)
      have HAJ := Lib.hid (show AppI w _ q (wr.heap.size) C B (.slice sa sn sc) L C2 B2 (.slice oa m oc) L2 from
        ⟨HI.out.below hHeld4, hx9, (HO8.out.mod hm9 (fun k hk e => HNE8.out k hk e)).base (show q + 1 ≤ wr.heap.size by have := HSQ.out; omega), by have h2 : wr.heap.size ≤ wr.heap.size := HQ8.out; have := HSQ.out; omega⟩)
      clear hK K hx9 hm9 HW9 HX8 HO8 HNE8 hHeld3 HCA HI HROW
      generalize (World.setCells _ _ _ _) = w9 at HAJ hHeld4 ⊢
      clear HQ8
      try simp only [Act.put]
      refine wpAnyH_take (i := 11) (oi := ⟨some 8, _, _, _, _, _⟩) (v := ?_) rfl (by kernel_rfl) (by kernel_rfl) (by kernel_rfl) (fun _ _ _ h => h) (Or.inl ⟨by kernel_rfl, ?_⟩) (by assumption) ?_
      rotate_left 1
      · intro w' hw'; clear hw'; go_simp; try with_reducible rfl
      try simp only [Act.put, List.setIfInBounds_toArray, List.set_cons_zero, List.set_cons_succ]
      refine wpAnyH_done (by kernel_rfl) ?_ _
      clear hHeld4
      generalize (wr.heap.size) = q8 at HAJ ⊢
      by_cases h0 : er = 0
      · subst h0
        rw [show errV 0 = .nilIface from rfl]
        have HN2 := Lib.hid (HAJ.out.j.put C2 B2 (.slice oa m oc) L2 HAJ.out.ow (HSN2.out rfl))
        have c0 : (w9).cell? ⟨q, 0, none⟩ = some (.int .i64 C) := HAJ.out.j.bx.cell 0 _ rfl
        have f0 := HAJ.out.j.bx.free 0
        have c1 : (w9).cell? ⟨q, 1, none⟩ = some (.int .i64 B) := HAJ.out.j.bx.cell 1 _ rfl
        have f1 := HAJ.out.j.bx.free 1
        have c2 : (w9).cell? ⟨q, 2, none⟩ = some (.slice sa sn sc) := HAJ.out.j.bx.cell 2 _ rfl
        have f2 := HAJ.out.j.bx.free 2
        have d0 : (w9).cell? ⟨q8, 0, none⟩ = some (.int .i64 C2) := HAJ.out.b8.cell 0 _ rfl
        have d1 : (w9).cell? ⟨q8, 1, none⟩ = some (.int .i64 B2) := HAJ.out.b8.cell 1 _ rfl
        have d2 : (w9).cell? ⟨q8, 2, none⟩ = some (.slice oa m oc) := HAJ.out.b8.cell 2 _ rfl
        clear HAJ HSN2 HAE
        go_wp2_with fail
        go_roundg (n - (k + 1))
        case measure => have := HGK.out; have := HK.out; omega
        case rel => exact ⟨k + 1, _, _, _, _, by have := HGK.out; have := HK.out; omega, by go_num, HN2.out⟩
      rw [errV_nz h0]
      have HN2 := Lib.hid HAJ.out.j
      clear h0 HAJ HSN2 HAE
      go_wp2_with fail
      go_roundg (n - (k + 1))
      case measure => have := HGK.out; have := HK.out; omega
      case rel => exact ⟨k + 1, _, _, _, _, by have := HGK.out; have := HK.out; omega, by go_num, HN2.out⟩
end Go.Proofs.YthnabnieajojjaaDoor
/-
  Arguments: sessions, states.
-/
namespace Go.Proofs.YthnabnieajojjaaDoor
open Go.RowKit
set_option maxRecDepth 100000

theorem u64_of_wfS {n : Int} (h : (Lit.int .u64 n).wf = true) : ∃ k : Nat, n = (k : Int) ∧ k < 2 ^ 64 := by
  have h1 : 0 ≤ n ∧ n ≤ 18446744073709551615 := by simpa [Lit.wf, IntKind.min, IntKind.max, IntKind.bits, IntKind.signed] using h
  exact ⟨n.toNat, by omega, by omega⟩
/-- The bounds of the numbers of a session that is handed in. -/
structure SesI (s : SesM) : Prop where
  ok : SesOk s
  slot : I64 s.slot
  birth : I64 s.birth
  upS : I64 s.upS
  upB : I64 s.upB
  kind : I64 s.kind
  level : I64 s.level
  born : I64 s.born
  deadline : I64 s.deadline
  depth : I64 s.depth
theorem ArgC.session {N : Nat} {W : World} {cs : List Value} (hl : cs.length = 12) (h : ArgC false N 30 W cs) : ∃ s : SesM, cs = s.cells.toList ∧ SesI s := by
  match cs, hl with
  | [c1, c2, c3, c4, c5, c6, c7, c8, c9, c10, c11, c12], _ =>
    have ci : Tryd.prog.cellsOf 3 = 1 := by kernel_rfl
    have cs' : Tryd.prog.cellsOf 9 = 1 := by kernel_rfl
    have cu : Tryd.prog.cellsOf 28 = 1 := by kernel_rfl
    have cl : Tryd.prog.cellsOf 26 = 2 := by kernel_rfl
    have hx := Tryd.underlying30
    obtain ⟨n1, rfl, b1⟩ := h.fint hx 0 _ rfl ci c1 rfl .i64 Tryd.underlying3
    obtain ⟨n2, rfl, b2⟩ := h.fint hx 1 _ rfl ci c2 rfl .i64 Tryd.underlying3
    obtain ⟨M2, _, k⟩ := h.fstruct hx 2 _ rfl 26 2 2 rfl rfl cl
    have k' : ArgC false M2 26 W [c3, c4] := k
    have hk := Tryd.underlying26
    obtain ⟨n3, rfl, b3⟩ := k'.fint hk 0 _ rfl ci c3 rfl .i64 Tryd.underlying3
    obtain ⟨n4, rfl, b4⟩ := k'.fint hk 1 _ rfl ci c4 rfl .i64 Tryd.underlying3
    obtain ⟨n5, rfl, b5⟩ := h.fint hx 3 _ rfl ci c5 rfl .i64 Tryd.underlying3
    obtain ⟨s6, rfl, _, _, b6⟩ := h.fstring hx 4 _ rfl cs' c6 rfl Tryd.underlying9
    obtain ⟨s7, rfl, _, _, b7⟩ := h.fstring hx 5 _ rfl cs' c7 rfl Tryd.underlying9
    obtain ⟨n8, rfl, b8⟩ := h.fint hx 6 _ rfl cu c8 rfl .u64 Tryd.underlying28
    obtain ⟨n9, rfl, b9⟩ := h.fint hx 7 _ rfl ci c9 rfl .i64 Tryd.underlying3
    obtain ⟨n10, rfl, b10⟩ := h.fint hx 8 _ rfl ci c10 rfl .i64 Tryd.underlying3
    obtain ⟨n11, rfl, b11⟩ := h.fint hx 9 _ rfl ci c11 rfl .i64 Tryd.underlying3
    obtain ⟨n12, rfl, b12⟩ := h.fint hx 10 _ rfl ci c12 rfl .i64 Tryd.underlying3
    obtain ⟨u, rfl, hu⟩ := SB_of s6
    obtain ⟨l, rfl, hl⟩ := SB_of s7
    obtain ⟨sc, rfl, hsc⟩ := u64_of_wfS b8
    refine ⟨⟨n1, n2, n3, n4, n5, u, l, sc, n9, n10, n11, n12⟩, rfl, ⟨?_, ?_, hsc⟩, i64_of_wf b1, i64_of_wf b2, i64_of_wf b3, i64_of_wf b4, i64_of_wf b5, i64_of_wf b9, i64_of_wf b10, i64_of_wf b11, i64_of_wf b12⟩
    · show u.length ≤ _; rw [hu]; exact Nat.le_trans (b6 rfl) (by decide)
    · show l.length ≤ _; rw [hl]; exact Nat.le_trans (b7 rfl) (by decide)
theorem ArgC.sessions {N : Nat} {W : World} {v : Value} (h : ArgC false N 22 W [v]) : ∃ l : List SesM, RdS W v l ∧ (∀ s ∈ l, SesI s) ∧ l.length ≤ 1256584717421 := by
  obtain ⟨l, h1, h2, Ns, _, _, h5⟩ := h.flat noSes (fun s : SesM => s.cells.toList) (fun _ => rfl) (by decide) (fun _ s => SesI s) Tryd.underlying22 (by kernel_rfl) (fun N cs hl hc => hc.session hl)
  refine ⟨l, h1, fun s hs => ?_, ?_⟩
  · obtain ⟨i, hi, rfl⟩ := List.getElem_of_mem hs
    have := h5 i hi
    simpa [List.getD, hi] using this
  · have := h2 rfl
    rw [show Tryd.prog.bytesOf 30 = 112 by kernel_rfl] at this; omega
/-- A state that came in. -/
theorem Arg.state {W : World} {v : Value} (h : Arg false 24 W v) : ∃ (st : StM) (x : Value), v = .agg #[.int .i64 st.clock, .int .i64 st.births, x] ∧ RdS W x st.l ∧ (∀ s ∈ st.l, SesI s) ∧ st.l.length ≤ 1256584717421 ∧ I64 st.clock ∧ I64 st.births := by
  obtain ⟨⟨cs⟩, rfl, hc⟩ := h.struct Tryd.underlying24
  have hl : cs.length = 3 := by
    have := (hc.struct Tryd.underlying24).1
    rw [show Tryd.prog.cellsOf 24 = 3 by kernel_rfl] at this; exact this
  match cs, hl, hc with
  | [c0, c1, c2], _, hc =>
    obtain ⟨a, rfl, hw⟩ := hc.fint Tryd.underlying24 0 _ rfl (by kernel_rfl) c0 rfl .i64 Tryd.underlying3
    obtain ⟨n, rfl, hw2⟩ := hc.fint Tryd.underlying24 1 _ rfl (by kernel_rfl) c1 rfl .i64 Tryd.underlying3
    obtain ⟨M, _, hd⟩ := hc.fcell Tryd.underlying24 2 _ rfl (by kernel_rfl) c2 rfl
    obtain ⟨l, h1, h2, h3⟩ := hd.sessions
    exact ⟨⟨a, n, l⟩, c2, rfl, h1, h2, h3, i64_of_wf hw, i64_of_wf hw2⟩
end Go.Proofs.YthnabnieajojjaaDoor
/-
  Arguments: lists of events.
-/
namespace Go.Proofs.YthnabnieajojjaaDoor
open Go.RowKit
set_option maxRecDepth 100000

theorem ArgC.events {N : Nat} {W : World} {v : Value} (h : ArgC false N 45 W [v]) : ∃ l : List EvtM, RdE W v l ∧ (∀ s ∈ l, EvOk s) ∧ l.length ≤ 1034834473170 := by
  obtain ⟨l, h1, h2, Ns, _, _, h5⟩ := h.flat (⟨0, noSes, 0, 0⟩ : EvtM) (fun s : EvtM => s.cells.toList) (fun _ => rfl) (by decide) (fun _ s => EvOk s) Tryd.underlying45 (by kernel_rfl) (fun N cs hl hc => ArgC.event hl hc)
  refine ⟨l, h1, fun s hs => ?_, ?_⟩
  · obtain ⟨i, hi, rfl⟩ := List.getElem_of_mem hs
    have := h5 i hi
    simpa [List.getD, hi] using this
  · have := h2 rfl
    rw [show Tryd.prog.bytesOf 32 = 136 by kernel_rfl] at this; omega
end Go.Proofs.YthnabnieajojjaaDoor
/-
  The statement of layer, proved out of its walk: whatever the input, the law answers true and leaves its arguments as they were; package errors' variable errorType reads as the program's text lays it (the card ties it).
-/
namespace Go.Proofs.YthnabnieajojjaaDoor
open Go.ChangeShapes Go.WideShapes Go.ChangeAt Go.RowKit
set_option maxRecDepth 100000


theorem replayRevoked_at (W : World) (vs : Array Value) (hg : ErrType W) (h : ArgAll false W [45, 3] vs.toList) : Calls Tryd.prog 4 vs W fun e W' => e = .returned (.bool true) ∧ Below W.heap.size W W' := by
  obtain ⟨vs⟩ := vs
  match vs, h with
  | [x, y], ⟨h1, h2, _⟩ =>
    obtain ⟨l, hl, hok, _⟩ := (h1.slice Tryd.underlying45).events
    obtain ⟨n, rfl, hw⟩ := h2.int (k := .i64) Tryd.underlying3
    exact replayRevoked_calls l x n W hl hok (i64_of_wf hw) hg
theorem replayRevoked_lifted (os : Os) (started : os.Started) (H : Type) (enc : TypeId × Value → H) :
    ReturnsInHanded {} Tryd.checked os 4 .any (fun w args => (Rows.replayRevokedSpec.pre enc Tryd.prog Tryd.f4 [] false w args ∧ laidMetH Tryd.prog laidL w) ∧ sizedMet enc Tryd.prog Tryd.f4 (OpenSpec.ofChange Rows.replayRevokedSpec) false w args)
      (Rows.replayRevokedSpec.post enc Tryd.prog Tryd.f4 false true false false) := by
  refine returnsInHanded_of_change_and (C := Tryd.checked) (X := fun w _ => laidMetH Tryd.prog laidL w) (fun _ _ _ hh h => h.of_heap hh) L.own started (by kernel_rfl) Tryd.func4
    (ChangeSpec.witness_at (enc := enc) (C := Tryd.checked) (os := os) (X := fun w _ => laidMetH Tryd.prog laidL w) false (laidWorld os) #[.slice none 0 0, .int .i64 0] 8 rfl (by kernel_rfl) (by kernel_rfl) (by kernel_rfl) (by kernel_rfl) (by kernel_rfl) (laidWorld_met os _)) ?_
  intro W base args ds gs before hval hW _ hsz hL _
  exact law_contract_at (up := false) (vt := Rows.replayRevokedSpec.plain.varTypes Tryd.prog) rfl (ts := [45, 3]) rfl rfl rfl (by decide +kernel) (fun H ds h => by
      rcases ds with _ | ⟨d0, _ | ⟨d1, _ | ⟨d2, _ | ⟨d3, _ | ⟨d4, _ | ⟨d5, ds⟩⟩⟩⟩⟩⟩ <;> first | exact ⟨rfl, rfl, rfl⟩ | (exfalso; simp at h; done) | (exfalso; simp at h; omega)) H enc W base args ds gs before hval hW hsz (fun h => replayRevoked_at W args (errType_of_laid hL) h)
theorem replayRevoked_row : Rows.ReplayRevokedSaid :=
  OpenClaim.holds_of_wide 4 Tryd.f4 rfl rfl rfl rfl rfl rfl rfl ⟨rfl, rfl, rfl, rfl, rfl⟩ rfl rfl rfl rfl rfl (by kernel_rfl) Tryd.func4 (by kernel_rfl)
    (of_decide_eq_true (by kernel_rfl)) (by unfold Func.isWrapper; first | (rw [if_pos (by decide +kernel)]; kernel_rfl) | (rw [if_neg (by decide +kernel)]; exact ⟨rfl, rfl⟩))
    (fun os started H enc _ => replayRevoked_lifted os started H enc)
theorem replayRevoked_card : Rows.ReplayRevokedCardSaid :=
  Claim7.holds_tied_plain_at .later [] [.handle] true (true, "5b29275cdf6afb66332b3b5add7d637daada0551c67f9abebf87895f8c200930") true
    replayRevoked_row (fun _ h => by cases h) (by kernel_rfl) (fun _ h => by cases h) replayRevoked_row_tie rfl ⟨rfl, rfl⟩ (by kernel_rfl) rfl
    (fun f fn hf hfn => by
      obtain rfl : f = 4 := Option.some.inj ((show Tryd.prog.funcNamed "lineage/lineagelaw24.ReplayRevoked" = some 4 by kernel_rfl).symm.trans hf) |>.symm
      obtain rfl : fn = Tryd.f4 := (Option.some.inj (Tryd.func4.symm.trans hfn)).symm
      exact ⟨by kernel_rfl, fun j t ht => by
        have hp : Tryd.f4.params = #[45, 3] := rfl
        rw [hp] at ht
        have h3 : t = 45 ∨ t = 3 := by
          rcases j with _ | _ | j
          · left; simpa using ht.symm
          · right; simpa using ht.symm
          · simp at ht
        rcases h3 with rfl | rfl
        · exact (show Tryd.prog.wantsStandIn 45 = false by kernel_rfl)
        · exact (show Tryd.prog.wantsStandIn 3 = false by kernel_rfl)⟩)
    (by kernel_rfl)
#print axioms replayRevoked_card
end Go.Proofs.YthnabnieajojjaaDoor
