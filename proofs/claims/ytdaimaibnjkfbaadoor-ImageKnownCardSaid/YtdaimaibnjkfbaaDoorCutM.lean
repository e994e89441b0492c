/-
  An event's bytes that are cut off, or go on.
-/
import Derived.Test.YtdaimaibnjkfbaaDoorBackM
namespace Go.Proofs.YtdaimaibnjkfbaaDoor
open Go.RowKit
set_option maxRecDepth 100000

theorem numGo_cut : ∀ (k n i u p : Nat), k + i = 10 → n * 2 ^ (7 * i) < 2 ^ 64 → p < (sevF k n).length → numGo i u ((sevF k n).take p) = (2, 0, 0)
  | 0, _, _, _, p, _, _, hp => by simp [sevF] at hp
  | k + 1, n, i, u, p, hk, hn, hp => by
    cases p with
    | zero => rfl
    | succ p =>
      unfold sevF at hp ⊢
      by_cases h : n < 128
      · rw [if_pos h] at hp; simp at hp
      · rw [if_neg h] at hp ⊢
        have h9 : i = 9 → n ≤ 1 := fun e => by subst e; simp only [Nat.reduceMul, Nat.reducePow] at hn; omega
        have hb : (UInt8.ofNat (n % 128 + 128)).toNat = n % 128 + 128 := by
          have : (UInt8.ofNat (n % 128 + 128)).toNat = (n % 128 + 128) % 256 := rfl
          omega
        have hi : i < 9 := by
          rcases Nat.lt_or_ge i 9 with h1 | h1
          · exact h1
          · have := h9 (by omega); omega
        have hq : 2 ^ (7 * (i + 1)) = 2 ^ (7 * i) * 128 := by rw [show 7 * (i + 1) = 7 * i + 7 by omega, Nat.pow_add]
        have hdm : n / 128 * 128 + n % 128 = n := by omega
        have hle : n / 128 * 2 ^ (7 * (i + 1)) + n % 128 * 2 ^ (7 * i) = n * 2 ^ (7 * i) := by
          rw [hq, Nat.mul_comm (2 ^ (7 * i)) 128, ← Nat.mul_assoc, ← Nat.add_mul, hdm]
        show numGo i u (UInt8.ofNat (n % 128 + 128) :: (sevF k (n / 128)).take p) = _
        unfold numGo
        rw [hb, if_neg (by omega), if_neg (by omega)]
        exact numGo_cut k (n / 128) (i + 1) _ p (by omega) (by omega) (by simpa using hp)
theorem numR_cut (n p : Nat) (r : List UInt8) (h : n < 2 ^ 64) (hp : p < (sevM n).length) : numR ((sevM n ++ r).take p) = (2, 0, 0) := by
  rw [List.take_append_of_le_length (by omega)]
  exact numGo_cut 10 n 0 0 p (by omega) (by simpa using h) hp
theorem take_app (A B : List UInt8) (p : Nat) (h : A.length ≤ p) : (A ++ B).take p = A ++ B.take (p - A.length) := by
  rw [List.take_append]; rw [List.take_of_length_le h]
/-- Taken so far, of bytes that are cut off. -/
def Cut (s : TkM) (A : List UInt8) (p : Nat) : Prop := (At s (A.take p) ∧ p < A.length) ∨ s.er = 2
theorem num_stay {s : TkM} (h : s.er = 2) : s.num.2.er = 2 := by unfold TkM.num; rw [if_neg (by omega)]; exact h
theorem txt_stay {s : TkM} (h : s.er = 2) : s.txt.2.er = 2 := by unfold TkM.txt; rw [if_neg (by omega)]; exact h
theorem Cut.num {s : TkM} {n p : Nat} {r : List UInt8} (h : Cut s (sevM n ++ r) p) (hn : n < 2 ^ 64) : Cut s.num.2 r (p - (sevM n).length) ∧ (s.num.2.er = 0 → s.num.1 = n) := by
  rcases h with ⟨ha, hp⟩ | h
  · rcases Nat.lt_or_ge p (sevM n).length with h1 | h1
    · have hr := ha.rest
      have h2 : s.num = (0, ⟨s.l, s.k, 2, s.big⟩) := by
        unfold TkM.num; rw [if_pos ha.er, hr, numR_cut n p r hn h1]; rfl
      rw [h2]; exact ⟨.inr rfl, fun h => absurd h (by show ¬ (2 : Int) = 0; decide)⟩
    · rw [take_app _ _ _ h1] at ha
      obtain ⟨h3, h4⟩ := ha.num hn
      rw [List.length_append] at hp
      exact ⟨.inl ⟨h4, by omega⟩, fun _ => h3⟩
  · have := num_stay h
    exact ⟨.inr this, fun e => by omega⟩
theorem Cut.int {s : TkM} {n : Int} {p : Nat} {r : List UInt8} (h : Cut s (numB n ++ r) p) (hn : N63 n) : Cut s.int.2 r (p - (numB n).length) := by
  rcases h with ⟨ha, hp⟩ | h
  · rcases Nat.lt_or_ge p (numB n).length with h1 | h1
    · have hr := ha.rest
      have h2 : s.num = (0, ⟨s.l, s.k, 2, s.big⟩) := by
        unfold TkM.num; rw [if_pos ha.er, hr]
        unfold numB at h1 ⊢
        rw [numR_cut n.toNat p r (by obtain ⟨_, _⟩ := hn; omega) h1]; rfl
      refine .inr ?_
      show s.num.2.er = 2
      rw [h2]
    · rw [take_app _ _ _ h1] at ha
      have h4 := (ha.int hn).2
      rw [List.length_append] at hp
      exact .inl ⟨h4, by omega⟩
  · exact .inr (num_stay h)
theorem Cut.txt {s : TkM} {m r : List UInt8} {p : Nat} (h : Cut s (textB m ++ r) p) (hm : m.length ≤ 32) : Cut s.txt.2 r (p - (textB m).length) := by
  rcases h with ⟨ha, hp⟩ | h
  · rcases Nat.lt_or_ge p (textB m).length with h1 | h1
    · have hr := ha.rest
      have h2 : textR ((textB m ++ r).take p) = (2, [], 0) := by
        unfold textB at h1 ⊢
        rcases Nat.lt_or_ge p (sevM m.length).length with h3 | h3
        · rw [List.append_assoc]
          unfold textR
          rw [numR_cut m.length p _ (by omega) h3]; rfl
        · rw [List.append_assoc, take_app _ _ _ h3]
          unfold textR
          rw [numR_sev m.length _ (by omega)]
          simp only [if_true]
          rw [List.length_append] at h1
          rw [if_neg (by omega), if_pos (by rw [List.length_append, List.length_take, List.length_append]; omega)]
      have h5 : s.txt = ([], ⟨s.l, s.k, 2, s.big⟩) := by
        unfold TkM.txt; rw [if_pos ha.er, hr, h2]; rfl
      rw [h5]; exact .inr rfl
    · rw [take_app _ _ _ h1] at ha
      have h4 := (ha.txt hm).2
      rw [List.length_append] at hp
      exact .inl ⟨h4, by omega⟩
  · exact .inr (txt_stay h)
theorem Cut.nil {s : TkM} {p : Nat} (h : Cut s [] p) : s.er = 2 := by
  rcases h with ⟨_, h⟩ | h
  · simp at h
  · exact h
theorem Cut.end {s : TkM} {p : Nat} (h : Cut s [] p) (e : EvtM) : endM s e = (2, noEvt) := by
  unfold endM; rw [if_neg (by rw [h.nil]; decide), h.nil]
theorem Cut.born {s : TkM} {q : SesM} {p : Nat} (h : Cut s (sesOn [] q) p) (hq : SesN q) (hsc : q.scopes < 2 ^ 64) : ∃ p', Cut (bornM s).2 [] p' := by
  unfold sesOn at h
  simp only [List.append_assoc, List.nil_append] at h
  have a := h.int hq.slot
  have b := a.int hq.birth
  have c := b.int hq.upS
  have d := c.int hq.upB
  have f := d.int hq.kind
  have u := f.txt hq.user
  have l := u.txt hq.label
  have sc := (l.num hsc).1
  have g := sc.int hq.level
  have hh := g.int hq.born
  have i := hh.int hq.deadline
  have j := Cut.int (r := []) (by rw [List.append_nil]; exact i) hq.depth
  exact ⟨_, j⟩
theorem decM_cut {e : EvtM} (hm : mayE e = true) (hsc : e.s.scopes < 2 ^ 64) (p : Nat) (hp : p < (evB e).length) : decM ((evB e).take p) = (2, noEvt) := by
  have fin : ∀ k A, evB e = sevM k ++ A → k ≤ 2 → (∀ s : TkM, ∀ p', Cut s A p' → s.er = 0 → s.big = s.big → (if 2 < k then ((1 : Int), noEvt) else if k = 0 then endM (bornM s).2 ⟨0, (bornM s).1, 0, 0⟩ else if k = 1 then endM s.int.2 ⟨1, noSes, s.int.1, 0⟩ else endM s.int.2 ⟨2, noSes, 0, s.int.1⟩) = (2, noEvt)) → decM ((evB e).take p) = (2, noEvt) := fun k A he hk hs => by
    have hc : Cut ⟨(evB e).take p, 0, 0, false⟩ (sevM k ++ A) p := .inl ⟨⟨by rw [← he]; rfl, rfl, rfl, Nat.zero_le _⟩, by rw [← he]; exact hp⟩
    obtain ⟨c1, c2⟩ := hc.num (by omega)
    unfold decM
    simp only
    by_cases h0 : (TkM.num ⟨(evB e).take p, 0, 0, false⟩).2.er = 0
    · rw [if_pos h0, c2 h0]
      exact hs _ _ c1 h0 rfl
    · rw [if_neg h0]
      rcases c1 with ⟨h1, _⟩ | h1
      · exact absurd h1.er h0
      · rw [h1]
  cases k1 : (e.kind == 1)
  · cases k2 : (e.kind == 2)
    · have k0 : (e.kind == 0) = true := by
        cases k0 : (e.kind == 0)
        · rw [no_other k0 k1 k2] at hm; cases hm
        · rfl
      have hk : e.kind = 0 := by simpa using k0
      have he : evB e = sevM 0 ++ sesOn [] e.s := by
        unfold evB; rw [k1, k2]
        show sesOn (numB e.kind) e.s = _
        rw [sesOn_app, hk]; rfl
      refine fin 0 _ he (by omega) (fun s p' hc _ _ => ?_)
      obtain ⟨p2, h2⟩ := hc.born (SesN.of (mayE_ses hm k0)) hsc
      rw [if_neg (by omega), if_pos rfl]
      exact h2.end _
    · have hk : e.kind = 2 := by simpa using k2
      have k0 : (e.kind == 0) = false := by rw [hk]; rfl
      have he : evB e = sevM 2 ++ numB e.ticks := by
        unfold evB; rw [k1, k2]
        show numB e.kind ++ numB e.ticks = _
        rw [hk]; rfl
      refine fin 2 _ he (by omega) (fun s p' hc _ _ => ?_)
      have h2 := Cut.int (r := []) (by rw [List.append_nil]; exact hc) (mayE_tick hm k0 k1).2
      rw [if_neg (by omega), if_neg (by omega), if_neg (by omega)]
      exact h2.end _
  · have hk : e.kind = 1 := by simpa using k1
    have k0 : (e.kind == 0) = false := by rw [hk]; rfl
    have he : evB e = sevM 1 ++ numB e.birth := by
      unfold evB; rw [k1]
      show numB e.kind ++ numB e.birth = _
      rw [hk]; rfl
    refine fin 1 _ he (by omega) (fun s p' hc _ _ => ?_)
    have h2 := Cut.int (r := []) (by rw [List.append_nil]; exact hc) (mayE_revoke hm k0 k1)
    rw [if_neg (by omega), if_neg (by omega), if_pos rfl]
    exact h2.end _
theorem At.more {s : TkM} {c : UInt8} (h : At s [c]) (e : EvtM) : endM s e = (3, noEvt) := by
  have hk : s.k < s.l.length := by
    have := congrArg List.length h.rest
    unfold TkM.rest at this
    rw [List.length_drop] at this
    simp at this; omega
  unfold endM
  rw [if_pos h.er, if_pos hk]
theorem At.bornR {s : TkM} {q : SesM} {r : List UInt8} (h : At s (sesOn [] q ++ r)) (hq : SesN q) (hsc : q.scopes < 2 ^ 64) : At (bornM s).2 r := by
  unfold sesOn at h
  simp only [List.append_assoc, List.nil_append] at h
  have a := (h.int hq.slot).2
  have b := (a.int hq.birth).2
  have c := (b.int hq.upS).2
  have d := (c.int hq.upB).2
  have f := (d.int hq.kind).2
  have u := (f.txt hq.user).2
  have l := (u.txt hq.label).2
  have sc := (l.num hsc).2
  have g := (sc.int hq.level).2
  have hh := (g.int hq.born).2
  have i := (hh.int hq.deadline).2
  exact (i.int hq.depth).2
theorem decM_more {e : EvtM} (hm : mayE e = true) (hsc : e.s.scopes < 2 ^ 64) (c : UInt8) : decM (evB e ++ [c]) = (3, noEvt) := by
  unfold decM
  simp only
  cases k1 : (e.kind == 1)
  · cases k2 : (e.kind == 2)
    · have k0 : (e.kind == 0) = true := by
        cases k0 : (e.kind == 0)
        · rw [no_other k0 k1 k2] at hm; cases hm
        · rfl
      have hk : e.kind = 0 := by simpa using k0
      have he : evB e ++ [c] = sevM 0 ++ (sesOn [] e.s ++ [c]) := by
        unfold evB; rw [k1, k2]
        show sesOn (numB e.kind) e.s ++ _ = _
        rw [sesOn_app, hk, List.append_assoc]; rfl
      have hh : At ⟨evB e ++ [c], 0, 0, false⟩ (sevM 0 ++ (sesOn [] e.s ++ [c])) := ⟨he, rfl, rfl, Nat.zero_le _⟩
      obtain ⟨p1, p2⟩ := hh.num (by omega)
      rw [if_pos p2.er, p1, if_neg (by omega), if_pos rfl]
      exact (p2.bornR (SesN.of (mayE_ses hm k0)) hsc).more _
    · have hk : e.kind = 2 := by simpa using k2
      have k0 : (e.kind == 0) = false := by rw [hk]; rfl
      have he : evB e ++ [c] = sevM 2 ++ (numB e.ticks ++ [c]) := by
        unfold evB; rw [k1, k2]
        show (numB e.kind ++ numB e.ticks) ++ _ = _
        rw [hk, List.append_assoc]; rfl
      have hh : At ⟨evB e ++ [c], 0, 0, false⟩ (sevM 2 ++ (numB e.ticks ++ [c])) := ⟨he, rfl, rfl, Nat.zero_le _⟩
      obtain ⟨p1, p2⟩ := hh.num (by omega)
      rw [if_pos p2.er, p1, if_neg (by omega), if_neg (by omega), if_neg (by omega)]
      exact (p2.int (mayE_tick hm k0 k1).2).2.more _
  · have hk : e.kind = 1 := by simpa using k1
    have k0 : (e.kind == 0) = false := by rw [hk]; rfl
    have he : evB e ++ [c] = sevM 1 ++ (numB e.birth ++ [c]) := by
      unfold evB; rw [k1]
      show (numB e.kind ++ numB e.birth) ++ _ = _
      rw [hk, List.append_assoc]; rfl
    have hh : At ⟨evB e ++ [c], 0, 0, false⟩ (sevM 1 ++ (numB e.birth ++ [c])) := ⟨he, rfl, rfl, Nat.zero_le _⟩
    obtain ⟨p1, p2⟩ := hh.num (by omega)
    rw [if_pos p2.er, p1, if_neg (by omega), if_neg (by omega), if_pos rfl]
    exact (p2.int (mayE_revoke hm k0 k1)).2.more _
theorem evB_pos {e : EvtM} : 0 < (evB e).length := by
  have hs : ∀ n, 0 < (sevM n).length := fun n => by
    unfold sevM sevF; split <;> simp
  unfold evB
  split
  · rw [List.length_append]; have := hs e.kind.toNat; unfold numB; omega
  split
  · rw [List.length_append]; have := hs e.kind.toNat; unfold numB; omega
  · rw [sesOn_app, List.length_append]; have := hs e.kind.toNat; unfold numB; omega
end Go.Proofs.YtdaimaibnjkfbaaDoor
