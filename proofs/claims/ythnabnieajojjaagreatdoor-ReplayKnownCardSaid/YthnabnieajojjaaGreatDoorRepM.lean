/-
  Package replay: what is told behind an event.
-/
import Derived.Test.YthnabnieajojjaaGreatDoorImM
namespace Go.Proofs.YthnabnieajojjaaGreatDoor
open Go.RowKit
set_option maxRecDepth 100000

/-- The first session of a birth number. -/
def findM (b : Int) : List SesM → Option SesM
  | [] => none
  | s :: l => if s.birth = b then some s else findM b l
def fitsM (s p : SesM) : Bool := (s.depth == IntKind.i64.wrap (p.depth + 1)) && ((s.user == p.user) && (scIn s.scopes p.scopes && (decide (s.deadline ≤ p.deadline) && (if s.kind = 2 then decide (p.level < s.level) else s.level == p.level))))
/-- What refuses a birth. -/
def upM (s : SesM) (l : List SesM) : Int :=
  if s.upB = 0 then 0 else match findM s.upB l with
    | none => 16
    | some p => if p.slot = s.upS then (if fitsM s p = true then 0 else 24) else 16
def refM (st : StM) (s : SesM) : Int :=
  if s.birth = IntKind.i64.wrap (st.births + 1) then (if s.born = st.clock then (if 32 ≤ st.l.length then 19 else if st.l.any (fun x => x.slot == s.slot) = true then 9 else upM s st.l) else 12) else 18
/-- Births that go: one pass, some passes, all that are wanted. -/
def upIn (G : List Int) (s : SesM) : Bool := G.contains s.upB && s.upB != 0
def stepM (goes : SesM → Bool) (G : List Int) (s : SesM) : List Int := if (!G.contains s.birth && (goes s || upIn G s)) = true then G ++ [s.birth] else G
def passM (goes : SesM → Bool) (G : List Int) (l : List SesM) : List Int := l.foldl (stepM goes) G
def iterM (goes : SesM → Bool) (l : List SesM) : Nat → List Int
  | 0 => []
  | n + 1 => passM goes (iterM goes l n) l
def closeM (goes : SesM → Bool) (l : List SesM) : List Int := iterM goes l l.length
def withoutM (goes : SesM → Bool) (l : List SesM) : List SesM := l.filter (fun s => !goes s && !upIn (closeM goes l) s)
def applyM (st : StM) (e : EvtM) : Int × StM :=
  if mayE e = true then
    (if e.kind = 0 then (if refM st e.s = 0 then (0, ⟨st.clock, IntKind.i64.wrap (st.births + 1), st.l ++ [e.s]⟩) else (refM st e.s, noSt))
    else if e.kind = 1 then (if st.l.any (fun s => s.birth == e.birth) = true then (0, ⟨st.clock, st.births, withoutM (fun s => s.birth == e.birth) st.l⟩) else (16, noSt))
    else if st.clock < 0 ∨ 1099511627776 - e.ticks < st.clock then (12, noSt) else (0, ⟨st.clock + e.ticks, st.births, withoutM (fun s => decide (s.deadline ≤ st.clock + e.ticks)) st.l⟩))
  else (1, noSt)
def allM : StM → List EvtM → StM × Nat
  | st, [] => (st, 0)
  | st, e :: l => if (applyM st e).1 = 0 then ((allM (applyM st e).2 l).1, (allM (applyM st e).2 l).2 + 1) else (st, 0)
theorem passM_nil (goes : SesM → Bool) (G : List Int) : passM goes G [] = G := rfl
theorem passM_snoc (goes : SesM → Bool) (G : List Int) (l : List SesM) (s : SesM) : passM goes G (l ++ [s]) = stepM goes (passM goes G l) s := by simp [passM]
theorem stepM_pre (goes : SesM → Bool) (G : List Int) (s : SesM) : stepM goes G s = G ∨ stepM goes G s = G ++ [s.birth] := by
  unfold stepM; split <;> simp
theorem stepM_mono (goes : SesM → Bool) (G : List Int) (s : SesM) {b : Int} (h : b ∈ G) : b ∈ stepM goes G s := by
  rcases stepM_pre goes G s with e | e <;> rw [e]
  · exact h
  · simp [h]
theorem passM_mono (goes : SesM → Bool) : ∀ (l : List SesM) (G : List Int) {b : Int}, b ∈ G → b ∈ passM goes G l
  | [], _, _, h => h
  | s :: l, G, _, h => passM_mono goes l (stepM goes G s) (stepM_mono goes G s h)
/-- What stands of the births that go. -/
structure GoodG (l : List SesM) (G : List Int) : Prop where
  nd : G.Nodup
  sub : ∀ b ∈ G, ∃ s ∈ l, s.birth = b
theorem GoodG.nil (l : List SesM) : GoodG l [] := ⟨List.nodup_nil, fun _ h => by cases h⟩
theorem GoodG.step {goes : SesM → Bool} {l : List SesM} {G : List Int} (h : GoodG l G) {s : SesM} (hs : s ∈ l) : GoodG l (stepM goes G s) := by
  unfold stepM
  split
  · rename_i hc
    rw [Bool.and_eq_true, Bool.not_eq_true'] at hc
    have hn : s.birth ∉ G := fun hm => by have := List.contains_iff_mem.2 hm; rw [this] at hc; cases hc.1
    refine ⟨?_, fun b hb => ?_⟩
    · rw [List.nodup_append]
      exact ⟨h.nd, by simp, fun a ha b hb e => hn (by rw [List.mem_singleton.1 hb] at e; exact e ▸ ha)⟩
    · rcases List.mem_append.1 hb with hb | hb
      · exact h.sub b hb
      · exact ⟨s, hs, (List.mem_singleton.1 hb).symm⟩
  · exact h
theorem GoodG.pass {goes : SesM → Bool} {l : List SesM} : ∀ {m : List SesM} {G : List Int}, GoodG l G → (∀ s ∈ m, s ∈ l) → GoodG l (passM goes G m)
  | [], _, h, _ => h
  | s :: m, _, h, hm => GoodG.pass (m := m) (h.step (hm s (by simp))) (fun x hx => hm x (by simp [hx]))
theorem GoodG.iter (goes : SesM → Bool) (l : List SesM) : ∀ n, GoodG l (iterM goes l n)
  | 0 => GoodG.nil l
  | n + 1 => (GoodG.iter goes l n).pass (fun _ h => h)
theorem nodup_le : ∀ {G B : List Int}, G.Nodup → (∀ b ∈ G, b ∈ B) → G.length ≤ B.length
  | [], _, _, _ => Nat.zero_le _
  | g :: G, B, h, hs => by
    have hg := hs g (by simp)
    rw [List.nodup_cons] at h
    have := nodup_le (G := G) (B := B.erase g) h.2 (fun b hb => (List.mem_erase_of_ne (fun e : b = g => h.1 (by rw [← e]; exact hb))).2 (hs b (by simp [hb])))
    rw [List.length_erase_of_mem hg] at this
    have : 0 < B.length := List.length_pos_of_mem hg
    rw [List.length_cons]; omega
theorem GoodG.le {l : List SesM} {G : List Int} (h : GoodG l G) : G.length ≤ l.length := by
  have := nodup_le (B := l.map (·.birth)) h.nd (fun b hb => by obtain ⟨s, hs, e⟩ := h.sub b hb; exact List.mem_map.2 ⟨s, hs, e⟩)
  rwa [List.length_map] at this
theorem passM_len (goes : SesM → Bool) : ∀ (l : List SesM) (G : List Int), passM goes G l = G ∨ G.length < (passM goes G l).length
  | [], _ => .inl rfl
  | s :: l, G => by
    show passM goes (stepM goes G s) l = G ∨ G.length < (passM goes (stepM goes G s) l).length
    rcases stepM_pre goes G s with e | e <;> rw [e]
    · exact passM_len goes l G
    · rcases passM_len goes l (G ++ [s.birth]) with h | h
      · rw [h]; right; simp
      · right; rw [List.length_append] at h; simp at h; omega
theorem passM_le (goes : SesM → Bool) (l : List SesM) (G : List Int) : G.length ≤ (passM goes G l).length := by
  rcases passM_len goes l G with h | h
  · rw [h]; exact Nat.le_refl _
  · omega
/-- A pass that adds nothing has nothing to add. -/
theorem passM_fix {goes : SesM → Bool} : ∀ {l : List SesM} {G : List Int}, passM goes G l = G → ∀ s ∈ l, stepM goes G s = G
  | [], _, _, _, h => by cases h
  | s :: l, G, h, x, hx => by
    have h1 : passM goes (stepM goes G s) l = G := h
    have h2 : stepM goes G s = G := by
      rcases stepM_pre goes G s with e | e
      · exact e
      · have := passM_le goes l (stepM goes G s)
        rw [h1, e, List.length_append] at this
        simp at this
        omega
    rw [h2] at h1
    rcases List.mem_cons.1 hx with rfl | hx
    · exact h2
    · exact passM_fix h1 x hx
theorem iterM_len (goes : SesM → Bool) (l : List SesM) : ∀ n, passM goes (iterM goes l n) l = iterM goes l n ∨ n ≤ (iterM goes l n).length
  | 0 => .inr (Nat.zero_le _)
  | n + 1 => by
    show passM goes (passM goes (iterM goes l n) l) l = passM goes (iterM goes l n) l ∨ n + 1 ≤ (passM goes (iterM goes l n) l).length
    rcases iterM_len goes l n with h | h
    · rw [h]; exact .inl h
    · rcases passM_len goes l (iterM goes l n) with h1 | h1
      · rw [h1]; exact .inl h1
      · exact .inr (by omega)
theorem full_fix {goes : SesM → Bool} {l : List SesM} {G : List Int} (h : GoodG l G) (hl : l.length ≤ G.length) : passM goes G l = G := by
  rcases passM_len goes l G with h1 | h1
  · exact h1
  · have := (h.pass (goes := goes) (m := l) (fun _ h => h)).le; omega
theorem closeM_fix (goes : SesM → Bool) (l : List SesM) : passM goes (closeM goes l) l = closeM goes l := by
  rcases iterM_len goes l l.length with h | h
  · exact h
  · exact full_fix (GoodG.iter goes l _) h
theorem iterM_stay {goes : SesM → Bool} {l : List SesM} {n : Nat} (h : passM goes (iterM goes l n) l = iterM goes l n) : ∀ k, iterM goes l (n + k) = iterM goes l n
  | 0 => rfl
  | k + 1 => by
    show passM goes (iterM goes l (n + k)) l = _
    rw [iterM_stay h k]; exact h
/-- Where the passes stand still, all is found. -/
theorem iterM_close {goes : SesM → Bool} {l : List SesM} {n : Nat} (h : passM goes (iterM goes l n) l = iterM goes l n) : iterM goes l n = closeM goes l := by
  rcases Nat.le_total n l.length with h1 | h1
  · have := iterM_stay h (l.length - n)
    rw [show n + (l.length - n) = l.length by omega] at this
    exact this.symm
  · have := iterM_stay (closeM_fix goes l) (n - l.length)
    rw [show l.length + (n - l.length) = n by omega] at this
    exact this
/-- What goes with some sessions, these too. -/
inductive Dies (goes : SesM → Bool) (l : List SesM) : SesM → Prop
  | one {s : SesM} : s ∈ l → goes s = true → Dies goes l s
  | up {s p : SesM} : s ∈ l → Dies goes l p → s.upB = p.birth → s.upB ≠ 0 → Dies goes l s
theorem Dies.mem {goes : SesM → Bool} {l : List SesM} {s : SesM} (h : Dies goes l s) : s ∈ l := by cases h <;> assumption
theorem upIn_iff {G : List Int} {s : SesM} : upIn G s = true ↔ s.upB ∈ G ∧ s.upB ≠ 0 := by
  unfold upIn; rw [Bool.and_eq_true, List.contains_iff_mem]; simp
theorem stepM_sound {goes : SesM → Bool} {l : List SesM} {G : List Int} (h : ∀ b ∈ G, ∃ s, Dies goes l s ∧ s.birth = b) {s : SesM} (hs : s ∈ l) : ∀ b ∈ stepM goes G s, ∃ s, Dies goes l s ∧ s.birth = b := by
  intro b hb
  unfold stepM at hb
  split at hb
  · rename_i hc
    rcases List.mem_append.1 hb with hb | hb
    · exact h b hb
    · rw [Bool.and_eq_true, Bool.or_eq_true] at hc
      rw [List.mem_singleton.1 hb]
      rcases hc.2 with hg | hu
      · exact ⟨s, .one hs hg, rfl⟩
      · obtain ⟨h1, h2⟩ := upIn_iff.1 hu
        obtain ⟨p, h3, h4⟩ := h _ h1
        exact ⟨s, .up hs h3 h4.symm h2, rfl⟩
  · exact h b hb
theorem passM_sound {goes : SesM → Bool} {l : List SesM} : ∀ {m : List SesM} {G : List Int}, (∀ b ∈ G, ∃ s, Dies goes l s ∧ s.birth = b) → (∀ s ∈ m, s ∈ l) → ∀ b ∈ passM goes G m, ∃ s, Dies goes l s ∧ s.birth = b
  | [], _, h, _ => h
  | s :: m, _, h, hm => passM_sound (m := m) (stepM_sound h (hm s (by simp))) (fun x hx => hm x (by simp [hx]))
theorem iterM_sound (goes : SesM → Bool) (l : List SesM) : ∀ n, ∀ b ∈ iterM goes l n, ∃ s, Dies goes l s ∧ s.birth = b
  | 0 => fun _ h => by cases h
  | n + 1 => passM_sound (iterM_sound goes l n) (fun _ h => h)
theorem closeM_dies {goes : SesM → Bool} {l : List SesM} {s : SesM} (h : Dies goes l s) : s.birth ∈ closeM goes l := by
  have hf : ∀ s ∈ l, (goes s || upIn (closeM goes l) s) = true → s.birth ∈ closeM goes l := fun s hs hg => by
    have h1 := passM_fix (closeM_fix goes l) s hs
    rcases Bool.eq_false_or_eq_true ((closeM goes l).contains s.birth) with h2 | h2
    · exact List.contains_iff_mem.1 h2
    · unfold stepM at h1
      rw [h2, hg] at h1
      have := congrArg List.length h1
      simp at this
  induction h with
  | one hs hg => exact hf _ hs (by rw [hg]; rfl)
  | up hs _ he hn ih => exact hf _ hs (by rw [Bool.or_eq_true]; right; exact upIn_iff.2 ⟨by rw [he]; exact ih, hn⟩)
/-- Who goes. -/
theorem goes_iff {goes : SesM → Bool} {l : List SesM} {s : SesM} (hs : s ∈ l) : (goes s = true ∨ upIn (closeM goes l) s = true) ↔ Dies goes l s := by
  constructor
  · rintro (h | h)
    · exact .one hs h
    · obtain ⟨h1, h2⟩ := upIn_iff.1 h
      obtain ⟨p, h3, h4⟩ := iterM_sound goes l _ _ h1
      exact .up hs h3 h4.symm h2
  · intro h
    cases h with
    | one _ hg => exact .inl hg
    | up _ hp he hn => exact .inr (upIn_iff.2 ⟨by rw [he]; exact closeM_dies hp, hn⟩)
theorem mem_without {goes : SesM → Bool} {l : List SesM} {s : SesM} : s ∈ withoutM goes l ↔ s ∈ l ∧ ¬ Dies goes l s := by
  unfold withoutM
  rw [List.mem_filter]
  constructor
  · rintro ⟨h1, h2⟩
    refine ⟨h1, fun h => ?_⟩
    rw [Bool.and_eq_true, Bool.not_eq_true', Bool.not_eq_true'] at h2
    rcases (goes_iff h1).2 h with h3 | h3
    · rw [h3] at h2; cases h2.1
    · rw [h3] at h2; cases h2.2
  · rintro ⟨h1, h2⟩
    refine ⟨h1, ?_⟩
    rw [Bool.and_eq_true, Bool.not_eq_true', Bool.not_eq_true']
    constructor
    · cases e : goes s
      · rfl
      · exact absurd ((goes_iff h1).1 (.inl e)) h2
    · cases e : upIn (closeM goes l) s
      · rfl
      · exact absurd ((goes_iff h1).1 (.inr e)) h2
/-- A list without those that go, told by any test that says who goes. -/
theorem without_eq {goes : SesM → Bool} {l : List SesM} {f : SesM → Bool} (h : ∀ s ∈ l, (f s = true ↔ Dies goes l s)) : l.filter (fun s => !f s) = withoutM goes l := by
  unfold withoutM
  refine List.filter_congr fun s hs => ?_
  have h1 := h s hs
  have h2 := goes_iff (goes := goes) (l := l) hs
  cases hf : f s
  · cases e1 : goes s
    · cases e2 : upIn (closeM goes l) s
      · rfl
      · exact absurd (h1.2 (h2.1 (.inr e2))) (by rw [hf]; decide)
    · exact absurd (h1.2 (h2.1 (.inl e1))) (by rw [hf]; decide)
  · rcases h2.2 (h1.1 hf) with e | e
    · rw [e]; rfl
    · rw [e, Bool.and_comm]; rfl
end Go.Proofs.YthnabnieajojjaaGreatDoor
