/-
  Texts of one proof, one behind the other.
-/
import Derived.Test.YtgcnolapjppbpaaGreatDoorK22
import Derived.Test.YtgcnolapjppbpaaGreatDoorK36
namespace Go.Proofs.YtgcnolapjppbpaaGreatDoor
open Go.RowKit
theorem allM_app : ∀ (l m : List EvtM) (st : StM), (allM st l).2 = l.length → allM st (l ++ m) = ((allM (allM st l).1 m).1, l.length + (allM (allM st l).1 m).2)
  | [], m, st, _ => by simp [allM]
  | e :: l, m, st, h => by
    unfold allM at h
    by_cases h0 : (applyM st e).1 = 0
    · rw [if_pos h0] at h
      have h1 : (allM (applyM st e).2 l).2 = l.length := by simp only [List.length_cons] at h; omega
      have ih := allM_app l m (applyM st e).2 h1
      have e1 : allM st (e :: l) = ((allM (applyM st e).2 l).1, (allM (applyM st e).2 l).2 + 1) := by rw [allM, if_pos h0]
      rw [List.cons_append, allM, if_pos h0, ih, e1]
      simp only [List.length_cons]
      congr 1; omega
    · rw [if_neg h0] at h; simp at h
structure Snd (st : StM) : Prop where
  len : st.l.length ≤ 32
  clock : 0 ≤ st.clock ∧ st.clock ≤ 1099511627776
  births : 0 ≤ st.births ∧ st.births ≤ 1048576
  pos : ∀ s ∈ st.l, 1 ≤ s.birth ∧ s.birth ≤ st.births
  inc : st.l.Pairwise (fun s t => s.birth < t.birth)
  slots : st.l.Pairwise (fun s t => s.slot ≠ t.slot)
  dead : ∀ s ∈ st.l, st.clock < s.deadline
  born : ∀ s ∈ st.l, s.born ≤ st.clock
  may : ∀ s ∈ st.l, mayS s = true
  par : ∀ s ∈ st.l, s.upB ≠ 0 → ∃ p ∈ st.l, p.birth = s.upB ∧ p.slot = s.upS ∧ p.birth < s.birth ∧ fitsM s p = true
theorem Snd.zero : Snd noSt := ⟨by decide, by decide, by decide, by simp [noSt], by simp [noSt], by simp [noSt], by simp [noSt], by simp [noSt], by simp [noSt], by simp [noSt]⟩
theorem Snd.without {st : StM} (h : Snd st) (goes : SesM → Bool) (C : Int) (h1 : st.clock ≤ C) (h2 : C ≤ 1099511627776) (hd : ∀ s ∈ st.l, goes s = false → C < s.deadline) : Snd ⟨C, st.births, withoutM goes st.l⟩ := by
  have hsub : List.Sublist (withoutM goes st.l) st.l := List.filter_sublist
  have hm : ∀ s ∈ withoutM goes st.l, s ∈ st.l ∧ ¬ Dies goes st.l s := fun s hs => mem_without.1 hs
  refine ⟨Nat.le_trans hsub.length_le h.len, ⟨by have := h.clock.1; show 0 ≤ C; omega, h2⟩, h.births, fun s hs => h.pos s (hm s hs).1, h.inc.sublist hsub, h.slots.sublist hsub, fun s hs => hd s (hm s hs).1 ?_, fun s hs => by have := h.born s (hm s hs).1; show s.born ≤ C; omega, fun s hs => h.may s (hm s hs).1, fun s hs hu => ?_⟩
  · cases hg : goes s
    · rfl
    · exact absurd (Dies.one (hm s hs).1 hg) (hm s hs).2
  · obtain ⟨p, hp, e1, e2, e3, e4⟩ := h.par s (hm s hs).1 hu
    exact ⟨p, mem_without.2 ⟨hp, fun hdp => (hm s hs).2 (.up (hm s hs).1 hdp e1.symm hu)⟩, e1, e2, e3, e4⟩
theorem findM_in (b : Int) : ∀ {l : List SesM} {p : SesM}, findM b l = some p → p ∈ l ∧ p.birth = b
  | [], _, h => by cases h
  | x :: l, p, h => by
    unfold findM at h
    split at h
    · rename_i hx; injection h with h; subst h; exact ⟨List.mem_cons_self, hx⟩
    · have := findM_in b h; exact ⟨List.mem_cons_of_mem _ this.1, this.2⟩
theorem mayS_nums {s : SesM} (h : mayS s = true) : (1 ≤ s.birth ∧ s.birth ≤ 1048576) ∧ s.born + 1 ≤ s.deadline ∧ (0 ≤ s.slot ∧ s.slot ≤ 31) := by
  unfold mayS at h
  simp only [Bool.and_eq_true] at h
  exact ⟨fromM_yes h.2.1, (fromM_yes h.2.2.2.2.2.1).1, fromM_yes h.1⟩
theorem refM_yes {st : StM} {s : SesM} (h : refM st s = 0) : s.birth = IntKind.i64.wrap (st.births + 1) ∧ s.born = st.clock ∧ st.l.length < 32 ∧ st.l.any (fun x => x.slot == s.slot) = false ∧ upM s st.l = 0 := by
  unfold refM at h
  split at h
  · split at h
    · split at h
      · cases h
      · split at h
        · cases h
        · rename_i h1 h2 h3 h4
          exact ⟨h1, h2, by omega, by simpa using h4, h⟩
    · cases h
  · cases h
theorem Snd.birth {st : StM} {s : SesM} (h : Snd st) (hr : refM st s = 0) (hs : mayS s = true) : Snd ⟨st.clock, IntKind.i64.wrap (st.births + 1), st.l ++ [s]⟩ := by
  obtain ⟨r1, r2, r3, r4, r5⟩ := refM_yes hr
  obtain ⟨m1, m2, _⟩ := mayS_nums hs
  have hw : IntKind.i64.wrap (st.births + 1) = st.births + 1 := by
    have := h.births; simp [IntKind.wrap, IntKind.bits, IntKind.signed]; omega
  rw [hw] at r1 ⊢
  have hin : ∀ (P : SesM → Prop), (∀ x ∈ st.l, P x) → P s → ∀ x ∈ st.l ++ [s], P x := fun P h1 h2 x hx => by
    rcases List.mem_append.1 hx with hx | hx
    · exact h1 x hx
    · rw [List.mem_singleton.1 hx]; exact h2
  refine ⟨by simp only [List.length_append, List.length_singleton]; omega, h.clock, by have := h.births; show 0 ≤ st.births + 1 ∧ st.births + 1 ≤ 1048576; omega, ?_, ?_, ?_, ?_, ?_, ?_, ?_⟩
  · exact hin _ (fun x hx => by have := h.pos x hx; show 1 ≤ x.birth ∧ x.birth ≤ st.births + 1; omega) (by show 1 ≤ s.birth ∧ s.birth ≤ st.births + 1; omega)
  · refine List.pairwise_append.2 ⟨h.inc, List.pairwise_singleton _ _, fun x hx y hy => ?_⟩
    rw [List.mem_singleton.1 hy]
    have := h.pos x hx; omega
  · refine List.pairwise_append.2 ⟨h.slots, List.pairwise_singleton _ _, fun x hx y hy he => ?_⟩
    rw [List.mem_singleton.1 hy] at he
    have := List.any_eq_false.1 r4 x hx
    exact this (by simpa using he)
  · exact hin _ (fun x hx => h.dead x hx) (by show st.clock < s.deadline; omega)
  · exact hin _ (fun x hx => h.born x hx) (by show s.born ≤ st.clock; omega)
  · exact hin _ (fun x hx => h.may x hx) hs
  · refine hin _ (fun x hx hu => ?_) (fun hu => ?_)
    · obtain ⟨p, hp, e⟩ := h.par x hx hu
      exact ⟨p, List.mem_append_left _ hp, e⟩
    · unfold upM at r5
      rw [if_neg hu] at r5
      split at r5
      · cases r5
      · rename_i p hp
        obtain ⟨p1, p2⟩ := findM_in _ hp
        split at r5
        · rename_i hsl
          split at r5
          · rename_i hf
            exact ⟨p, List.mem_append_left _ p1, p2, hsl, by have := h.pos p p1; omega, hf⟩
          · cases r5
        · cases r5
theorem mayE_birthP {e : EvtM} (h : mayE e = true) (k : e.kind = 0) : mayS e.s = true := by
  unfold mayE at h
  rw [if_pos (by simpa using k)] at h
  simp only [Bool.and_eq_true] at h
  exact h.2.2
theorem mayE_tickN {e : EvtM} (h : mayE e = true) (k0 : e.kind ≠ 0) (k1 : e.kind ≠ 1) : 1 ≤ e.ticks ∧ e.ticks ≤ 1073741824 := by
  unfold mayE at h
  rw [if_neg (by simpa using k0), if_neg (by simpa using k1)] at h
  split at h
  · simp only [Bool.and_eq_true] at h
    exact fromM_yes h.2.2
  · cases h
theorem Snd.apply {st : StM} (h : Snd st) {e : EvtM} (he : (applyM st e).1 = 0) : Snd (applyM st e).2 := by
  unfold applyM at he ⊢
  by_cases hm : mayE e = true
  · rw [if_pos hm] at he ⊢
    by_cases k0 : e.kind = 0
    · rw [if_pos k0] at he ⊢
      by_cases hr : refM st e.s = 0
      · rw [if_pos hr]; exact h.birth hr (mayE_birthP hm k0)
      · rw [if_neg hr] at he; exact absurd he hr
    · rw [if_neg k0] at he ⊢
      by_cases k1 : e.kind = 1
      · rw [if_pos k1] at he ⊢
        by_cases ha : st.l.any (fun s => s.birth == e.birth) = true
        · rw [if_pos ha]; exact h.without _ st.clock (Int.le_refl _) h.clock.2 (fun s hs _ => h.dead s hs)
        · rw [if_neg ha] at he; cases he
      · rw [if_neg k1] at he ⊢
        have ht := mayE_tickN hm k0 k1
        by_cases hc : st.clock < 0 ∨ 1099511627776 - e.ticks < st.clock
        · rw [if_pos hc] at he; cases he
        · rw [if_neg hc]; exact h.without _ _ (by omega) (by omega) (fun s _ hg => by simpa using hg)
  · rw [if_neg hm] at he; cases he
theorem Snd.all {st : StM} (h : Snd st) : ∀ (l : List EvtM), Snd (allM st l).1 := by
  intro l
  induction l generalizing st with
  | nil => exact h
  | cons e l ih =>
    unfold allM
    split
    · rename_i h0; exact ih (h.apply h0)
    · exact h
theorem Snd.uniq {st : StM} (h : Snd st) {a b : SesM} (ha : a ∈ st.l) (hb : b ∈ st.l) (e : a.birth = b.birth) : a = b := by
  obtain ⟨i, hi, rfl⟩ := List.getElem_of_mem ha
  obtain ⟨j, hj, rfl⟩ := List.getElem_of_mem hb
  have hp := List.pairwise_iff_getElem.1 h.inc
  rcases Nat.lt_trichotomy i j with h1 | h1 | h1
  · have := hp i j hi hj h1; omega
  · subst h1; rfl
  · have := hp j i hj hi h1; omega
theorem fitsM_end {s p : SesM} (h : fitsM s p = true) : s.deadline ≤ p.deadline := by
  unfold fitsM at h
  simp only [Bool.and_eq_true] at h
  simpa using h.2.2.2.1
theorem Snd.dies_tick {st : StM} (h : Snd st) (C : Int) {s : SesM} (hd : Dies (fun s => decide (s.deadline ≤ C)) st.l s) : s.deadline ≤ C := by
  induction hd with
  | one _ hg => simpa using hg
  | up hs hp hu hn ih =>
    obtain ⟨p', hp', e1, _, _, e4⟩ := h.par _ hs hn
    have := h.uniq hp' hp.mem (e1.trans hu)
    subst this
    have := fitsM_end e4
    omega
theorem Snd.tick {st : StM} (h : Snd st) (C : Int) : withoutM (fun s => decide (s.deadline ≤ C)) st.l = st.l.filter (fun s => !decide (s.deadline ≤ C)) :=
  (without_eq (f := fun s => decide (s.deadline ≤ C)) (fun s hs => ⟨fun hg => .one hs hg, fun hd => by have := h.dies_tick C hd; simpa using this⟩)).symm
theorem Snd.ticks {st : StM} (h : Snd st) (C1 C2 : Int) (h1 : st.clock ≤ C1) (h2 : C1 ≤ C2) (h3 : C2 ≤ 1099511627776) :
    withoutM (fun s => decide (s.deadline ≤ C2)) (withoutM (fun s => decide (s.deadline ≤ C1)) st.l) = withoutM (fun s => decide (s.deadline ≤ C2)) st.l := by
  have hs1 := h.without (fun s => decide (s.deadline ≤ C1)) C1 h1 (by omega) (fun s _ hg => by simpa using hg)
  have e := hs1.tick C2
  simp only at e
  rw [e, h.tick C1, h.tick C2, List.filter_filter]
  refine List.filter_congr fun s _ => ?_
  by_cases a : s.deadline ≤ C2 <;> by_cases b : s.deadline ≤ C1 <;> simp [a, b] <;> omega
theorem Snd.from {st : StM} (h : Snd st) {e : EvtM} (he : (applyM st e).1 = 0) : st.births ≤ (applyM st e).2.births ∧ ∀ s ∈ (applyM st e).2.l, s ∈ st.l ∨ s.birth = st.births + 1 := by
  unfold applyM at he ⊢
  by_cases hm : mayE e = true
  · rw [if_pos hm] at he ⊢
    by_cases k0 : e.kind = 0
    · rw [if_pos k0] at he ⊢
      by_cases hr : refM st e.s = 0
      · rw [if_pos hr]
        have hw : IntKind.i64.wrap (st.births + 1) = st.births + 1 := by
          have := h.births; simp [IntKind.wrap, IntKind.bits, IntKind.signed]; omega
        refine ⟨by show st.births ≤ IntKind.i64.wrap (st.births + 1); rw [hw]; omega, fun s hs => ?_⟩
        rcases List.mem_append.1 hs with hs | hs
        · exact .inl hs
        · right; rw [List.mem_singleton.1 hs, (refM_yes hr).1, hw]
      · rw [if_neg hr] at he; exact absurd he hr
    · rw [if_neg k0] at he ⊢
      by_cases k1 : e.kind = 1
      · rw [if_pos k1] at he ⊢
        by_cases ha : st.l.any (fun s => s.birth == e.birth) = true
        · rw [if_pos ha]; exact ⟨Int.le_refl _, fun s hs => .inl (mem_without.1 hs).1⟩
        · rw [if_neg ha] at he; cases he
      · rw [if_neg k1] at he ⊢
        by_cases hc : st.clock < 0 ∨ 1099511627776 - e.ticks < st.clock
        · rw [if_pos hc] at he; cases he
        · rw [if_neg hc]; exact ⟨Int.le_refl _, fun s hs => .inl (mem_without.1 hs).1⟩
  · rw [if_neg hm] at he; cases he
def Ended (st : StM) (b : Int) : Prop := b ≤ st.births ∧ ∀ s ∈ st.l, s.birth ≠ b
theorem Ended.apply {st : StM} (h : Snd st) {e : EvtM} (he : (applyM st e).1 = 0) {b : Int} (hb : Ended st b) : Ended (applyM st e).2 b := by
  obtain ⟨h1, h2⟩ := h.from he
  refine ⟨Int.le_trans hb.1 h1, fun s hs => ?_⟩
  rcases h2 s hs with h3 | h3
  · exact hb.2 s h3
  · have := hb.1; omega
theorem Ended.new {st : StM} (h : Snd st) {e : EvtM} (he : (applyM st e).1 = 0) {s : SesM} (hs : s ∈ st.l) (hn : ∀ x ∈ (applyM st e).2.l, x.birth ≠ s.birth) : Ended (applyM st e).2 s.birth :=
  ⟨Int.le_trans (h.pos s hs).2 (h.from he).1, hn⟩
theorem root_parts {s : SesM} (h : mayS s = true) (hu : s.upB = 0) : s.kind = 0 ∧ s.depth = 0 := by
  unfold mayS at h
  simp only [Bool.and_eq_true] at h
  have hc := h.2.2.2.2.2.2
  have hch : childM s = false := by
    cases hcc : childM s
    · rfl
    · unfold childM at hcc
      simp only [Bool.and_eq_true] at hcc
      have := (fromM_yes hcc.2.1).1
      omega
  rw [hch] at hc
  by_cases k0 : s.kind = 0
  · rw [if_pos (by simpa using k0)] at hc
    unfold loginM at hc
    simp only [Bool.and_eq_true, beq_iff_eq] at hc
    exact ⟨k0, hc.2.2.2⟩
  · rw [if_neg (by simpa using k0)] at hc
    split at hc
    · cases hc
    · split at hc
      · simp at hc
      · cases hc
theorem child_parts {s : SesM} (h : mayS s = true) (hu : s.upB ≠ 0) : (s.kind = 1 ∨ (s.kind = 2 ∧ s.deadline ≤ s.born + 300)) ∧ childM s = true := by
  unfold mayS at h
  simp only [Bool.and_eq_true] at h
  have hc := h.2.2.2.2.2.2
  by_cases k0 : s.kind = 0
  · rw [if_pos (by simpa using k0)] at hc
    unfold loginM at hc
    simp only [Bool.and_eq_true, beq_iff_eq] at hc
    exact absurd hc.2.1 hu
  · rw [if_neg (by simpa using k0)] at hc
    split at hc
    · rename_i k1; exact ⟨.inl (by simpa using k1), hc⟩
    · split at hc
      · rename_i k2
        simp only [Bool.and_eq_true, decide_eq_true_eq] at hc
        exact ⟨.inr ⟨by simpa using k2, hc.2⟩, hc.1⟩
      · cases hc
theorem narrow_of {s p : SesM} (h : mayS s = true) (hu : s.upB ≠ 0) (hf : fitsM s p = true) :
    scIn s.scopes p.scopes = true ∧ s.deadline ≤ p.deadline ∧ s.depth = IntKind.i64.wrap (p.depth + 1) ∧ s.user = p.user ∧ (s.level ≤ p.level → s.level = p.level ∧ s.kind = 1) ∧ (p.level < s.level → s.kind = 2 ∧ s.deadline ≤ s.born + 300) := by
  have hk := (child_parts h hu).1
  unfold fitsM at hf
  simp only [Bool.and_eq_true, beq_iff_eq, decide_eq_true_eq] at hf
  obtain ⟨f1, f2, f3, f4, f5⟩ := hf
  refine ⟨f3, f4, f1, f2, fun hl => ?_, fun hl => ?_⟩
  · rcases hk with k | ⟨k, _⟩
    · rw [if_neg (by omega)] at f5
      exact ⟨by simpa using f5, k⟩
    · rw [if_pos k] at f5
      have : p.level < s.level := by simpa using f5
      omega
  · rcases hk with k | ⟨k, kd⟩
    · rw [if_neg (by omega)] at f5
      have : s.level = p.level := by simpa using f5
      omega
    · exact ⟨k, kd⟩
theorem depth_of {s : SesM} (h : mayS s = true) : 0 ≤ s.depth ∧ s.depth ≤ 6 := by
  by_cases hu : s.upB = 0
  · have := (root_parts h hu).2; omega
  · have hc := (child_parts h hu).2
    unfold childM at hc
    simp only [Bool.and_eq_true] at hc
    have := fromM_yes hc.2.2.2
    omega
end Go.Proofs.YtgcnolapjppbpaaGreatDoor
namespace Go.Proofs.YtgcnolapjppbpaaGreatDoor
open Go.RowKit
set_option maxRecDepth 100000
theorem withoutM_len (f : SesM → Bool) (l : List SesM) : (withoutM f l).length ≤ l.length := List.length_filter_le _ _
theorem applyM_len (st : StM) (e : EvtM) : (applyM st e).2.l.length ≤ st.l.length + 1 := by
  have h1 := withoutM_len (fun s => s.birth == e.birth) st.l
  have h2 := withoutM_len (fun s => decide (s.deadline ≤ st.clock + e.ticks)) st.l
  unfold applyM
  repeat' split
  all_goals simp [noSt] <;> omega
end Go.Proofs.YtgcnolapjppbpaaGreatDoor
namespace Go.Proofs.YtgcnolapjppbpaaGreatDoor
open Go.RowKit
set_option maxRecDepth 100000
theorem allM_one (S : StM) (e : EvtM) (r : List EvtM) (h0 : (applyM S e).1 = 0) : allM S (e :: r) = ((allM (applyM S e).2 r).1, (allM (applyM S e).2 r).2 + 1) := by rw [allM, if_pos h0]
theorem allM_no (S : StM) (e : EvtM) (r : List EvtM) (h0 : (applyM S e).1 ≠ 0) : allM S (e :: r) = (S, 0) := by rw [allM, if_neg h0]
theorem allM_take {st S : StM} {l : List EvtM} {k : Nat} (hk : k < l.length) (h : allM st (l.take k) = (S, k)) (h0 : (applyM S l[k]).1 = 0) : allM st (l.take (k + 1)) = ((applyM S l[k]).2, k + 1) := by
  have h1 : (l.take k).length = k := by rw [List.length_take]; omega
  rw [List.take_succ_eq_append_getElem hk, allM_app _ _ _ (by rw [h, h1]), h, h1]
  simp only
  rw [allM_one _ _ _ h0]; rfl
theorem allM_stop {st S : StM} {l : List EvtM} {k : Nat} (hk : k < l.length) (h : allM st (l.take k) = (S, k)) (h0 : (applyM S l[k]).1 ≠ 0) : allM st l = (S, k) := by
  have h1 : (l.take k).length = k := by rw [List.length_take]; omega
  have e : l = l.take k ++ l[k] :: l.drop (k + 1) := by rw [List.getElem_cons_drop, List.take_append_drop]
  rw [e, allM_app _ _ _ (by rw [h, h1]), h, h1]
  simp only
  rw [allM_no _ _ _ h0]; rfl
theorem allM_end {st S : StM} {l : List EvtM} (h : allM st (l.take l.length) = (S, l.length)) : allM st l = (S, l.length) := by rwa [List.take_length] at h
structure AllI (w w' : World) (st : StM) (l : List EvtM) (k : Nat) (C B : Int) (sv : Value) (L : List SesM) : Prop where
  bx : Box w' w.heap.size #[.int .i64 C, .int .i64 B, sv] 30
  bz : Box w' (w.heap.size + 1) #[.int .i64 0, .int .i64 0, .slice none 0 0] 30
  ow : OwnS w' (w.heap.size + 2) sv L
  al : allM st (l.take k) = (⟨C, B, L⟩, k)
  ln : L.length ≤ st.l.length + k
  bel : Below w.heap.size w w'
theorem AllI.below {w w' w2 : World} {st : StM} {l : List EvtM} {k : Nat} {C B : Int} {sv : Value} {L : List SesM} (h : AllI w w' st l k C B sv L) (hb : Below w'.heap.size w' w2) : AllI w w2 st l k C B sv L :=
  ⟨h.bx.below hb, h.bz.below hb, h.ow.below hb, h.al, h.ln, h.bel.trans (hb.mono h.bel.size)⟩
theorem AllI.put {w w' : World} {st : StM} {l : List EvtM} {k : Nat} {C B : Int} {sv : Value} {L : List SesM} (h : AllI w w' st l k C B sv L) (k2 : Nat) (C2 B2 : Int) (o : Value) (L2 : List SesM) (ho : OwnS w' (w.heap.size + 2) o L2) (hal : allM st (l.take k2) = (⟨C2, B2, L2⟩, k2)) (hln : L2.length ≤ st.l.length + k2) :
    AllI w (((w'.setCell ⟨w.heap.size, 0, none⟩ (.int .i64 C2)).setCell ⟨w.heap.size, 1, none⟩ (.int .i64 B2)).setCell ⟨w.heap.size, 2, none⟩ o) st l k2 C2 B2 o L2 := by
  have hm := Mod.set3 w.heap.size w' (.int .i64 C2) (.int .i64 B2) o
  exact ⟨((h.bx.set 0 (.int .i64 C2)).set 1 (.int .i64 B2)).set 2 o, h.bz.mod hm (by omega), ho.mod hm (fun k hk e => by have := (ho.lt k hk).1; omega), hal, hln, h.bel.trans (hm.below h.bel.size (fun i hi => by omega))⟩
theorem AllI.fill {w w' : World} {st : StM} {l : List EvtM} {k : Nat} {C B : Int} {sv : Value} {L : List SesM} (h : AllI w w' st l k C B sv L) :
    Box (((w'.setCell ⟨w.heap.size + 1, 0, none⟩ (.int .i64 C)).setCell ⟨w.heap.size + 1, 1, none⟩ (.int .i64 B)).setCell ⟨w.heap.size + 1, 2, none⟩ sv) (w.heap.size + 1) #[.int .i64 C, .int .i64 B, sv] 30 ∧ OwnS (((w'.setCell ⟨w.heap.size + 1, 0, none⟩ (.int .i64 C)).setCell ⟨w.heap.size + 1, 1, none⟩ (.int .i64 B)).setCell ⟨w.heap.size + 1, 2, none⟩ sv) w.heap.size sv L ∧ Below w.heap.size w (((w'.setCell ⟨w.heap.size + 1, 0, none⟩ (.int .i64 C)).setCell ⟨w.heap.size + 1, 1, none⟩ (.int .i64 B)).setCell ⟨w.heap.size + 1, 2, none⟩ sv) := by
  have hm := Mod.set3 (w.heap.size + 1) w' (.int .i64 C) (.int .i64 B) sv
  exact ⟨((h.bz.set 0 (.int .i64 C)).set 1 (.int .i64 B)).set 2 sv, (h.ow.mod hm (fun k hk e => by have := (h.ow.lt k hk).1; omega)).base (by omega), h.bel.trans (hm.below h.bel.size (fun i hi => by omega))⟩
set_option maxHeartbeats 6400000 in
theorem allP_calls (st : StM) (l : List EvtM) (v ev : Value) (w : World) (hv : RdS w v st.l) (hev : RdE w ev l) (hn : st.l.length + l.length ≤ 1000000000) (hok : ∀ e ∈ l, EvOk e) :
    Calls Tryz.prog 94 #[.agg #[.int .i64 st.clock, .int .i64 st.births, v], ev] w fun e w' => ∃ o, e = .returned (.tuple #[.agg #[.int .i64 (allM st l).1.clock, .int .i64 (allM st l).1.births, o], .int .i64 ((allM st l).2 : Int)]) ∧ OwnS w' w.heap.size o (allM st l).1.l ∧ Below w.heap.size w w' := by
  have HAP := Lib.hid (fun (S : StM) (e : EvtM) (he : e ∈ l) v' w' h hn' => apply_calls S e v' w' h hn' (Nat.le_trans (hok e he).user (by decide)) (Nat.le_trans (hok e he).label (by decide)) (hok e he).scopes)
  have HEV := Lib.hid hev
  have HNN := Lib.hid hn
  have HST0 := Lib.hid (show allM st (l.take 0) = (st, 0) from rfl)
  obtain ⟨D, hD⟩ : ∃ D, D = allM st l := ⟨_, rfl⟩
  have HD := Lib.hid hD
  rw [← hD]
  obtain ⟨ea, ec, rfl, _, he2⟩ := hev.slice
  obtain ⟨va, vc, rfl, hv1, hv2⟩ := hv.slice
  have HCL := Lib.hid (fun w' hb => cloneS_calls (.slice va st.l.length vc) st.l w' (hv.below hb) (by omega))
  have hln : l.length ≤ 9223372036854775807 := by omega
  clear hev hv hD hok he2 hv2 hv1 hn
  obtain ⟨n, hN⟩ : ∃ n, n = l.length := ⟨_, rfl⟩
  rw [← hN] at hln HEV ⊢
  have HN := Lib.hid hN
  clear hN
  obtain ⟨vn, hVN⟩ : ∃ vn, vn = st.l.length := ⟨_, rfl⟩
  rw [← hVN] at HCL ⊢
  clear hVN
  obtain ⟨c, hc⟩ : ∃ c, c = st.clock := ⟨_, rfl⟩
  obtain ⟨b, hb⟩ : ∃ b, b = st.births := ⟨_, rfl⟩
  rw [← hc, ← hb]
  have HCB := Lib.hid (And.intro hc hb)
  clear hc hb
  have HB0 := Lib.hid (below_two w (.cells #[.int .i64 c, .int .i64 b, .slice va vn vc] 30) (.cells #[.int .i64 0, .int .i64 0, .slice none 0 0] 30))
  have HX0 := Lib.hid ((Box.new w #[.int .i64 c, .int .i64 b, .slice va vn vc] 30).below (below_alloc _ (.cells #[.int .i64 0, .int .i64 0, .slice none 0 0] 30)))
  have HZ0 := Lib.hid (show Box ((w.alloc (.cells #[.int .i64 c, .int .i64 b, .slice va vn vc] 30)).alloc (.cells #[.int .i64 0, .int .i64 0, .slice none 0 0] 30)) (w.heap.size + 1) #[.int .i64 0, .int .i64 0, .slice none 0 0] 30 by have h := Box.new (w.alloc (.cells #[.int .i64 c, .int .i64 b, .slice va vn vc] 30)) #[.int .i64 0, .int .i64 0, .slice none 0 0] 30; rw [World.size_alloc] at h; exact h)
  go_enter Tryz.func94, Tryz.ntmps94
  go_wp2_with fail
  refine (HCL.out _ HB0.out).mono ?_
  rintro e1 w1 ⟨o, rfl, ho, hb1⟩
  obtain ⟨sa, sc, rfl, _⟩ := ho.slice
  obtain ⟨sn, hSN⟩ : ∃ sn, sn = st.l.length := ⟨_, rfl⟩
  rw [← hSN] at ho ⊢
  clear hSN
  have hx1 := HX0.out.below hb1
  have hz1 := HZ0.out.below hb1
  have hs := HB0.out.size
  have f2 := hx1.free 2
  have c2 : w1.cell? ⟨w.heap.size, 2, none⟩ = some (.slice va vn vc) := hx1.cell 2 _ rfl
  have hm := Mod.set (fun i => i = w.heap.size) w1 ⟨w.heap.size, 2, none⟩ (.slice sa sn sc) rfl
  have ho2 := ho.base (base' := w.heap.size + 2) (by simp)
  have HI1 := Lib.hid (show AllI w (w1.setCell ⟨w.heap.size, 2, none⟩ (.slice sa sn sc)) st l 0 c b (.slice sa sn sc) st.l from
    ⟨hx1.set 2 (.slice sa sn sc), hz1.mod hm (by omega), ho2.mod hm (fun k hk e => by have := (ho2.lt k hk).1; omega), by rw [HST0.out, HCB.out.1, HCB.out.2], by omega, (HB0.out.trans (hb1.mono hs)).trans (hm.below (HB0.out.trans (hb1.mono hs)).size (fun i hi => by omega))⟩)
  clear ho ho2 hb1 hx1 hz1 hs hm HX0 HZ0 HB0 HCL
  go_wp2_with fail
  go_loopg [16] n (fun gk iv wr => ∃ (k : Nat) (C B : Int) (sv : Value) (L : List SesM), gk + k = n ∧ iv = .int .i64 (k : Int) ∧ AllI w wr st l k C B sv L)
  case atStart => exact ⟨0, _, _, _, _, Nat.add_zero _, rfl, HI1.out⟩
  case round =>
    clear c2 f2 HI1 HST0 HCB
    obtain ⟨k, C, B, sv, L, hgk, rfl, hI⟩ := hrel
    have k0 : (0 : Int) ≤ (k : Int) := by omega
    have HGK := Lib.hid hgk
    have HI := Lib.hid hI
    obtain ⟨sa, sc, rfl, _⟩ := hI.ow.slice
    obtain ⟨sn, hSN⟩ : ∃ sn, sn = L.length := ⟨_, rfl⟩
    rw [← hSN] at HI
    clear hgk hI hSN
    by_cases hk : k < n
    rotate_left
    · have k1 : ¬ (k : Int) < (n : Int) := by omega
      obtain rfl : k = n := by have := HGK.out; omega
      have HD4 := Lib.hid (show D = (⟨C, B, L⟩, k) by
        have h := HI.out.al
        rw [HN.out] at h ⊢
        rw [HD.out]; exact allM_end h)
      have c0 : (wr).cell? ⟨w.heap.size, 0, none⟩ = some (.int .i64 C) := HI.out.bx.cell 0 _ rfl
      have c1 : (wr).cell? ⟨w.heap.size, 1, none⟩ = some (.int .i64 B) := HI.out.bx.cell 1 _ rfl
      have c2 : (wr).cell? ⟨w.heap.size, 2, none⟩ = some (.slice sa sn sc) := HI.out.bx.cell 2 _ rfl
      have z0 : (wr).cell? ⟨w.heap.size + 1, 0, none⟩ = some (.int .i64 0) := HI.out.bz.cell 0 _ rfl
      have y0 := HI.out.bz.free 0
      have z1 : (wr).cell? ⟨w.heap.size + 1, 1, none⟩ = some (.int .i64 0) := HI.out.bz.cell 1 _ rfl
      have y1 := HI.out.bz.free 1
      have z2 : (wr).cell? ⟨w.heap.size + 1, 2, none⟩ = some (.slice none 0 0) := HI.out.bz.cell 2 _ rfl
      have y2 := HI.out.bz.free 2
      have HF := Lib.hid HI.out.fill
      clear hk HI
      go_wp2_with fail
      exact ret_cell_tmp rfl rfl (w.heap.size + 1) 0 rfl [.int .i64 C, .int .i64 B, .slice sa sn sc] _ (zrangeS HF.out.1) Tryz.underlying30 rfl (by kernel_rfl) _ rfl ⟨_, by rw [HD4.out]; rfl, by rw [HD4.out]; exact HF.out.2.1, HF.out.2.2⟩
    have k1 : (k : Int) < (n : Int) := by omega
    have hkl : k < l.length := by have := HN.out; omega
    obtain ⟨e, he⟩ : ∃ e, e = l[k] := ⟨_, rfl⟩
    obtain ⟨rb, ro, hra, hrow⟩ := (HEV.out.below HI.out.bel).row k hkl
    subst hra
    rw [← he] at hrow
    have HROW := Lib.hid hrow
    have HK := Lib.hid hk
    have HMEM := Lib.hid (show e ∈ l by rw [he]; exact List.getElem_mem hkl)
    have HLE := Lib.hid (show L.length ≤ 1000000000 by have h := HI.out.ln; have := HNN.out; omega)
    have HTA := Lib.hid (fun h0 => @allM_take st ⟨C, B, L⟩ l k hkl HI.out.al h0)
    have HTO := Lib.hid (fun h0 => @allM_stop st ⟨C, B, L⟩ l k hkl HI.out.al h0)
    have HLN := Lib.hid (Nat.le_trans (applyM_len ⟨C, B, L⟩ e) (Nat.add_le_add_right HI.out.ln 1))
    rw [← he] at HTA HTO
    clear hk hkl he hrow
    go_wp2_with ((with_reducible refine wpList_load_k ?b01 47 (.tmp 19) ?b11 rb (ro + k * 15) ?b21 e.cells.toList _ HROW.out Tryz.underlying47 ?b31 ?b41 ?b81); (case b11 => rfl); (case b01 => rfl); (case b21 => rfl); (case b31 => rfl); (case b41 => kernel_rfl))
    intro cv hcv
    go_wp2_with ((with_reducible refine wpList_store_k ?a0 47 (.tmp 7) (.tmp 20) ?a1 wr.heap.size 0 e.cells.toList ?a2 cv ?a3 hcv ?a5 ?a6 ?a7 ?a8); (case a1 => rfl); (case a0 => rfl); (case a2 => rfl); (case a3 => rfl); (case a5 => exact thereZE _ _); (case a6 => kernel_rfl); (case a7 => exact EvtM.oneE _))
    intro w2 hw2
    obtain ⟨hpx, hb2⟩ := putZE hw2
    have HPX := Lib.hid hpx.rangeV
    have HI2 := Lib.hid (HI.out.below hb2)
    clear hw2 hcv hpx hb2 HROW HI
    have c0 : (w2).cell? ⟨w.heap.size, 0, none⟩ = some (.int .i64 C) := HI2.out.bx.cell 0 _ rfl
    have f0 := HI2.out.bx.free 0
    have c1 : (w2).cell? ⟨w.heap.size, 1, none⟩ = some (.int .i64 B) := HI2.out.bx.cell 1 _ rfl
    have f1 := HI2.out.bx.free 1
    have c2 : (w2).cell? ⟨w.heap.size, 2, none⟩ = some (.slice sa sn sc) := HI2.out.bx.cell 2 _ rfl
    have f2 := HI2.out.bx.free 2
    go_wp2_with ((with_reducible refine wpList_load_k ?b02 47 (.tmp 7) ?b12 wr.heap.size 0 ?b22 e.cells.toList _ HPX.out Tryz.underlying47 ?b32 ?b42 ?b82); (case b12 => rfl); (case b02 => rfl); (case b22 => rfl); (case b32 => rfl); (case b42 => kernel_rfl))
    intro cv hcv
    have ecv : cv = e.cells := by rw [hcv.out]
    subst ecv
    clear hcv HPX
    go_wp2_with fail
    refine (HAP.out ⟨C, B, L⟩ e HMEM.out _ w2 HI2.out.ow.rd HLE.out).mono ?_
    rintro e3 w3 ⟨o, rfl, ho, hb3⟩
    obtain ⟨A, hA⟩ : ∃ A, A = applyM ⟨C, B, L⟩ e := ⟨_, rfl⟩
    rw [← hA] at ho HTA HTO HLN ⊢
    clear hA c0 c1 c2 f0 f1 f2
    obtain ⟨er, C2, B2, L2⟩ := A
    simp only at ho HTA HTO HLN ⊢
    have hs2 : w.heap.size + 2 ≤ w2.heap.size := by have := HI2.out.bz.lt; omega
    have HI3 := Lib.hid (HI2.out.below hb3)
    obtain ⟨oa, oc, rfl, _⟩ := ho.slice
    obtain ⟨m, hM⟩ : ∃ m, m = L2.length := ⟨_, rfl⟩
    rw [← hM] at ho ⊢
    clear hM
    have hba := below_alloc w3 (.cells #[.int .i64 C2, .int .i64 B2, .slice oa m oc] 30)
    have HI4 := Lib.hid (HI3.out.below hba)
    have HO4 := Lib.hid ((ho.base hs2).below hba)
    have HX4 := Lib.hid (Box.new w3 #[.int .i64 C2, .int .i64 B2, .slice oa m oc] 30)
    clear ho hb3 hba hs2 HI3 HI2
    by_cases h0 : er = 0
    · subst h0
      rw [show errV 0 = .nilIface from rfl]
      have HN2 := Lib.hid (HI4.out.put (k + 1) C2 B2 (.slice oa m oc) L2 HO4.out (HTA.out rfl) HLN.out)
      have c0 : (w3.alloc (.cells #[.int .i64 C2, .int .i64 B2, .slice oa m oc] 30)).cell? ⟨w.heap.size, 0, none⟩ = some (.int .i64 C) := HI4.out.bx.cell 0 _ rfl
      have f0 := HI4.out.bx.free 0
      have c1 : (w3.alloc (.cells #[.int .i64 C2, .int .i64 B2, .slice oa m oc] 30)).cell? ⟨w.heap.size, 1, none⟩ = some (.int .i64 B) := HI4.out.bx.cell 1 _ rfl
      have f1 := HI4.out.bx.free 1
      have c2 : (w3.alloc (.cells #[.int .i64 C2, .int .i64 B2, .slice oa m oc] 30)).cell? ⟨w.heap.size, 2, none⟩ = some (.slice sa sn sc) := HI4.out.bx.cell 2 _ rfl
      have f2 := HI4.out.bx.free 2
      have d0 : (w3.alloc (.cells #[.int .i64 C2, .int .i64 B2, .slice oa m oc] 30)).cell? ⟨w3.heap.size, 0, none⟩ = some (.int .i64 C2) := HX4.out.cell 0 _ rfl
      have d1 : (w3.alloc (.cells #[.int .i64 C2, .int .i64 B2, .slice oa m oc] 30)).cell? ⟨w3.heap.size, 1, none⟩ = some (.int .i64 B2) := HX4.out.cell 1 _ rfl
      have d2 : (w3.alloc (.cells #[.int .i64 C2, .int .i64 B2, .slice oa m oc] 30)).cell? ⟨w3.heap.size, 2, none⟩ = some (.slice oa m oc) := HX4.out.cell 2 _ rfl
      clear HI4 HO4 HX4 HTA HTO HLN
      go_wp2_with fail
      go_roundg (n - (k + 1))
      case measure => have := HGK.out; have := HK.out; omega
      case rel => exact ⟨k + 1, _, _, _, _, by have := HGK.out; have := HK.out; omega, by go_num, HN2.out⟩
    rw [errV_nz h0]
    have HD4 := Lib.hid (show D = (⟨C, B, L⟩, k) by rw [HD.out]; exact HTO.out h0)
    have c0 : (w3.alloc (.cells #[.int .i64 C2, .int .i64 B2, .slice oa m oc] 30)).cell? ⟨w.heap.size, 0, none⟩ = some (.int .i64 C) := HI4.out.bx.cell 0 _ rfl
    have c1 : (w3.alloc (.cells #[.int .i64 C2, .int .i64 B2, .slice oa m oc] 30)).cell? ⟨w.heap.size, 1, none⟩ = some (.int .i64 B) := HI4.out.bx.cell 1 _ rfl
    have c2 : (w3.alloc (.cells #[.int .i64 C2, .int .i64 B2, .slice oa m oc] 30)).cell? ⟨w.heap.size, 2, none⟩ = some (.slice sa sn sc) := HI4.out.bx.cell 2 _ rfl
    have z0 : (w3.alloc (.cells #[.int .i64 C2, .int .i64 B2, .slice oa m oc] 30)).cell? ⟨w.heap.size + 1, 0, none⟩ = some (.int .i64 0) := HI4.out.bz.cell 0 _ rfl
    have y0 := HI4.out.bz.free 0
    have z1 : (w3.alloc (.cells #[.int .i64 C2, .int .i64 B2, .slice oa m oc] 30)).cell? ⟨w.heap.size + 1, 1, none⟩ = some (.int .i64 0) := HI4.out.bz.cell 1 _ rfl
    have y1 := HI4.out.bz.free 1
    have z2 : (w3.alloc (.cells #[.int .i64 C2, .int .i64 B2, .slice oa m oc] 30)).cell? ⟨w.heap.size + 1, 2, none⟩ = some (.slice none 0 0) := HI4.out.bz.cell 2 _ rfl
    have y2 := HI4.out.bz.free 2
    have HF := Lib.hid HI4.out.fill
    clear h0 HI4 HO4 HX4 HTA HTO HLN
    go_wp2_with fail
    exact ret_cell_tmp rfl rfl (w.heap.size + 1) 0 rfl [.int .i64 C, .int .i64 B, .slice sa sn sc] _ (zrangeS HF.out.1) Tryz.underlying30 rfl (by kernel_rfl) _ rfl ⟨_, by rw [HD4.out]; rfl, by rw [HD4.out]; exact HF.out.2.1, HF.out.2.2⟩
end Go.Proofs.YtgcnolapjppbpaaGreatDoor
