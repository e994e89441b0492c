/-
  The document's With: what goes with some sessions, found turn by turn.
-/
import Derived.Test.YthnabnieajojjaaGreatDoorRepM
namespace Go.Proofs.YthnabnieajojjaaGreatDoor
open Go.RowKit
set_option maxRecDepth 100000

/-- Does one hang below another one? -/
def edge (l : List SesM) (i k : Nat) : Bool := match l[i]?, l[k]? with
  | some s, some p => s.upB != 0 && (s.upB == p.birth)
  | _, _ => false
theorem edge_at {l : List SesM} {i k : Nat} (hi : i < l.length) (hk : k < l.length) : edge l i k = (l[i].upB != 0 && (l[i].upB == l[k].birth)) := by
  unfold edge; rw [List.getElem?_eq_getElem hi, List.getElem?_eq_getElem hk]
abbrev gat (g : List Bool) (i : Nat) : Bool := g.getD i false
theorem gat_set {g : List Bool} {i j : Nat} {v : Bool} (hi : i < g.length) : gat (g.set i v) j = if j = i then v else gat g j := by
  unfold gat
  rw [List.getD, List.getD, List.getElem?_set]
  by_cases h : j = i
  · subst h; rw [if_pos rfl, if_pos hi, if_pos rfl]; rfl
  · rw [if_neg (fun e => h e.symm), if_neg h]
theorem gat_ext {g h : List Bool} (hl : g.length = h.length) (he : ∀ i, gat g i = gat h i) : g = h := by
  refine List.ext_getElem hl fun i h1 h2 => ?_
  have := he i
  unfold gat at this
  rw [List.getD, List.getD, List.getElem?_eq_getElem h1, List.getElem?_eq_getElem h2] at this
  exact this
def stepW (l : List SesM) (g : List Bool) (i k : Nat) : List Bool := g.set i (gat g i || (gat g k && edge l i k))
structure WInv (goes : SesM → Bool) (l : List SesM) (g : List Bool) : Prop where
  len : g.length = l.length
  one : ∀ i (hi : i < l.length), goes l[i] = true → gat g i = true
  sound : ∀ i (hi : i < l.length), gat g i = true → Dies goes l l[i]
def Clo (l : List SesM) (g : List Bool) : Prop := ∀ i k, i < l.length → k < l.length → gat g k = true → edge l i k = true → gat g i = true
/-- What stands amid a turn. -/
structure TurnR (goes : SesM → Bool) (l : List SesM) (g0 g : List Bool) (i k : Nat) : Prop where
  inv : WInv goes l g
  len0 : g0.length = l.length
  ext : ∀ j, gat g0 j = true → gat g j = true
  stay : Clo l g0 → g = g0
  chk : g = g0 → ∀ i' k', (i' < i ∨ (i' = i ∧ k' < k)) → i' < l.length → k' < l.length → gat g0 k' = true → edge l i' k' = true → gat g0 i' = true
theorem TurnR.start {goes : SesM → Bool} {l : List SesM} {g : List Bool} (h : WInv goes l g) : TurnR goes l g g 0 0 :=
  ⟨h, h.len, fun _ h => h, fun _ => rfl, fun _ i' k' hh => by omega⟩
theorem TurnR.next {goes : SesM → Bool} {l : List SesM} {g0 g : List Bool} {i k : Nat} (h : TurnR goes l g0 g i k) (hi : i < l.length) (hk : k < l.length) : TurnR goes l g0 (stepW l g i k) i (k + 1) := by
  have hgi : i < g.length := by rw [h.inv.len]; exact hi
  have hat : ∀ j, gat (stepW l g i k) j = if j = i then (gat g i || (gat g k && edge l i k)) else gat g j := fun j => gat_set hgi
  have hup : ∀ j, gat g j = true → gat (stepW l g i k) j = true := fun j hj => by
    rw [hat]
    by_cases e : j = i
    · subst e; rw [if_pos rfl, hj]; rfl
    · rw [if_neg e]; exact hj
  refine ⟨⟨by unfold stepW; rw [List.length_set]; exact h.inv.len, fun j hj hg => hup j (h.inv.one j hj hg), fun j hj hg => ?_⟩, h.len0, fun j hj => hup j (h.ext j hj), fun hc => ?_, fun he => ?_⟩
  · rw [hat] at hg
    by_cases e : j = i
    · subst e
      rw [if_pos rfl, Bool.or_eq_true, Bool.and_eq_true] at hg
      rcases hg with hg | ⟨h1, h2⟩
      · exact h.inv.sound j hj hg
      · rw [edge_at hj hk, Bool.and_eq_true, bne_iff_ne, beq_iff_eq] at h2
        exact .up (List.getElem_mem _) (h.inv.sound k hk h1) h2.2 h2.1
    · rw [if_neg e] at hg; exact h.inv.sound j hj hg
  · have e0 := h.stay hc
    subst e0
    refine gat_ext (by unfold stepW; rw [List.length_set]) fun j => ?_
    rw [hat]
    by_cases e : j = i
    · subst e
      rw [if_pos rfl]
      cases hg : gat g j
      · cases hk2 : gat g k && edge l j k
        · rfl
        · rw [Bool.and_eq_true] at hk2
          have := hc j k hi hk hk2.1 hk2.2
          rw [hg] at this; cases this
      · rfl
    · rw [if_neg e]
  · have e0 : g = g0 := gat_ext (by rw [h.inv.len, h.len0]) fun j => by
      cases h1 : gat g j
      · cases h2 : gat g0 j
        · rfl
        · have := h.ext j h2; rw [h1] at this; cases this
      · rw [← he]; exact (hup j h1).symm
    intro i' k' hh hi' hk' h1 h2
    rcases hh with hh | ⟨rfl, hh⟩
    · exact h.chk e0 i' k' (.inl hh) hi' hk' h1 h2
    · by_cases e : k' = k
      · subst e
        have h3 := hat i'
        rw [if_pos rfl, he, e0, h1, h2] at h3
        rw [h3]; simp
      · exact h.chk e0 i' k' (.inr ⟨rfl, by omega⟩) hi' hk' h1 h2
theorem TurnR.row {goes : SesM → Bool} {l : List SesM} {g0 g : List Bool} {i : Nat} (h : TurnR goes l g0 g i l.length) : TurnR goes l g0 g (i + 1) 0 :=
  ⟨h.inv, h.len0, h.ext, h.stay, fun he i' k' hh hi' hk' => h.chk he i' k' (by omega) hi' hk'⟩
theorem count_lt : ∀ {g h : List Bool}, g.length = h.length → (∀ i, gat g i = true → gat h i = true) → g ≠ h → g.count true < h.count true
  | [], [], _, _, hne => absurd rfl hne
  | [], _ :: _, hl, _, _ => by simp at hl
  | _ :: _, [], hl, _, _ => by simp at hl
  | a :: g, b :: h, hl, hs, hne => by
    have hl' : g.length = h.length := by simpa using hl
    have hs' : ∀ i, gat g i = true → gat h i = true := fun i hi => hs (i + 1) hi
    have h0 : a = true → b = true := fun e => hs 0 e
    have hle : ∀ {g h : List Bool}, g.length = h.length → (∀ i, gat g i = true → gat h i = true) → g.count true ≤ h.count true := by
      intro g
      induction g with
      | nil => intro h _ _; simp
      | cons x g ih =>
        intro h hl hs
        cases h with
        | nil => simp at hl
        | cons y h =>
          have := ih (h := h) (by simpa using hl) (fun i hi => hs (i + 1) hi)
          have hxy : x = true → y = true := fun e => hs 0 e
          rw [List.count_cons, List.count_cons]
          cases x <;> cases y
          · simpa using this
          · simp; omega
          · cases hxy rfl
          · simpa using this
    rw [List.count_cons, List.count_cons]
    by_cases e : g = h
    · subst e
      cases a <;> cases b
      · exact absurd rfl hne
      · simp
      · cases h0 rfl
      · exact absurd rfl hne
    · have := count_lt hl' hs' e
      cases a <;> cases b
      · simpa using this
      · simp; omega
      · cases h0 rfl
      · simpa using this
def Prog (l : List SesM) (t : Nat) (g : List Bool) : Prop := Clo l g ∨ t ≤ g.count true
theorem Prog.zero (l : List SesM) (g : List Bool) : Prog l 0 g := .inr (Nat.zero_le _)
theorem TurnR.done {goes : SesM → Bool} {l : List SesM} {g0 g : List Bool} {t : Nat} (h : TurnR goes l g0 g l.length 0) (hp : Prog l t g0) : Prog l (t + 1) g := by
  by_cases e : g = g0
  · left
    intro i k hi hk h1 h2
    rw [e] at h1 ⊢
    exact h.chk e i k (.inl hi) hi hk h1 h2
  · right
    rcases hp with hp | hp
    · exact absurd (h.stay hp) e
    · have := count_lt (by rw [h.inv.len, h.len0]) h.ext (fun e2 => e e2.symm)
      omega
theorem clo_end {l : List SesM} {g : List Bool} (hl : g.length = l.length) (h : Prog l l.length g) : Clo l g := by
  rcases h with h | h
  · exact h
  · intro i k hi hk _ _
    have h1 : g.count true = g.length := Nat.le_antisymm List.count_le_length (by omega)
    have h2 := List.count_eq_length.1 h1
    unfold gat
    rw [List.getD, List.getElem?_eq_getElem (by omega)]
    exact (h2 _ (List.getElem_mem _)).symm
theorem dies_end {goes : SesM → Bool} {l : List SesM} {g : List Bool} (h : WInv goes l g) (hc : Clo l g) : ∀ i (hi : i < l.length), gat g i = true ↔ Dies goes l l[i] := by
  have hd : ∀ s, Dies goes l s → ∀ i (hi : i < l.length), l[i] = s → gat g i = true := by
    intro s hs
    induction hs with
    | one hm hg => intro i hi e; exact h.one i hi (by rw [e]; exact hg)
    | up hm hp he hn ih =>
      intro i hi e
      obtain ⟨k, hk, ek⟩ := List.getElem_of_mem hp.mem
      refine hc i k hi hk (ih k hk ek) ?_
      rw [edge_at hi hk, e, ek, Bool.and_eq_true, bne_iff_ne, beq_iff_eq]
      exact ⟨hn, he⟩
  exact fun i hi => ⟨h.sound i hi, fun hs => hd _ hs i hi rfl⟩
end Go.Proofs.YthnabnieajojjaaGreatDoor
