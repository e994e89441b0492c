/-
  An event's bytes that are cut off, or go on.
-/
import Derived.Test.YtdaimaibnjkfbaaDoorZ5
namespace Go.Proofs.YtdaimaibnjkfbaaDoor
open Go.RowKit
set_option maxRecDepth 100000

theorem numGo_cut : ∀ (k n i u p : Nat), k + i = 10 → n * 2 ^ (7 * i) < 2 ^ 64 → p < (sevF k n).length → numGo i u ((sevF k n).take p) = (2, 0, 0)
  | 0, _, _, _, p, _, _, hp => by simp [sevF] at hp
  | k + 1, n, i, u, p, hk, hn, hp => by
    cases p with
    | zero => rfl
    | succ p =>
      unfold sevF at hp ⊢
      by_cases h : n < 128
      · rw [if_pos h] at hp; simp at hp
      · rw [if_neg h] at hp ⊢
        have h9 : i = 9 → n ≤ 1 := fun e => by subst e; simp only [Nat.reduceMul, Nat.reducePow] at hn; omega
        have hb : (UInt8.ofNat (n % 128 + 128)).toNat = n % 128 + 128 := by
          have : (UInt8.ofNat (n % 128 + 128)).toNat = (n % 128 + 128) % 256 := rfl
          omega
        have hi : i < 9 := by
          rcases Nat.lt_or_ge i 9 with h1 | h1
          · exact h1
          · have := h9 (by omega); omega
        have hq : 2 ^ (7 * (i + 1)) = 2 ^ (7 * i) * 128 := by rw [show 7 * (i + 1) = 7 * i + 7 by omega, Nat.pow_add]
        have hdm : n / 128 * 128 + n % 128 = n := by omega
        have hle : n / 128 * 2 ^ (7 * (i + 1)) + n % 128 * 2 ^ (7 * i) = n * 2 ^ (7 * i) := by
          rw [hq, Nat.mul_comm (2 ^ (7 * i)) 128, ← Nat.mul_assoc, ← Nat.add_mul, hdm]
        show numGo i u (UInt8.ofNat (n % 128 + 128) :: (sevF k (n / 128)).take p) = _
        unfold numGo
        rw [hb, if_neg (by omega), if_neg (by omega)]
        exact numGo_cut k (n / 128) (i + 1) _ p (by omega) (by omega) (by simpa using hp)
theorem numR_cut (n p : Nat) (r : List UInt8) (h : n < 2 ^ 64) (hp : p < (sevM n).length) : numR ((sevM n ++ r).take p) = (2, 0, 0) := by
  rw [List.take_append_of_le_length (by omega)]
  exact numGo_cut 10 n 0 0 p (by omega) (by simpa using h) hp
theorem take_app (A B : List UInt8) (p : Nat) (h : A.length ≤ p) : (A ++ B).take p = A ++ B.take (p - A.length) := by
  rw [List.take_append]; rw [List.take_of_length_le h]
/-- Taken so far, of bytes that are cut off. -/
def Cut (s : TkM) (A : List UInt8) (p : Nat) : Prop := (At s (A.take p) ∧ p < A.length) ∨ s.er = 2
theorem num_stay {s : TkM} (h : s.er = 2) : s.num.2.er = 2 := by unfold TkM.num; rw [if_neg (by omega)]; exact h
theorem txt_stay {s : TkM} (h : s.er = 2) : s.txt.2.er = 2 := by unfold TkM.txt; rw [if_neg (by omega)]; exact h
theorem Cut.num {s : TkM} {n p : Nat} {r : List UInt8} (h : Cut s (sevM n ++ r) p) (hn : n < 2 ^ 64) : Cut s.num.2 r (p - (sevM n).length) ∧ (s.num.2.er = 0 → s.num.1 = n) := by
  rcases h with ⟨ha, hp⟩ | h
  · rcases Nat.lt_or_ge p (sevM n).length with h1 | h1
    · have hr := ha.rest
      have h2 : s.num = (0, ⟨s.l, s.k, 2, s.big⟩) := by
        unfold TkM.num; rw [if_pos ha.er, hr, numR_cut n p r hn h1]; rfl
      rw [h2]; exact ⟨.inr rfl, fun h => absurd h (by show ¬ (2 : Int) = 0; decide)⟩
    · rw [take_app _ _ _ h1] at ha
      obtain ⟨h3, h4⟩ := ha.num hn
      rw [List.length_append] at hp
      exact ⟨.inl ⟨h4, by omega⟩, fun _ => h3⟩
  · have := num_stay h
    exact ⟨.inr this, fun e => by omega⟩
theorem Cut.int {s : TkM} {n : Int} {p : Nat} {r : List UInt8} (h : Cut s (numB n ++ r) p) (hn : N63 n) : Cut s.int.2 r (p - (numB n).length) := by
  rcases h with ⟨ha, hp⟩ | h
  · rcases Nat.lt_or_ge p (numB n).length with h1 | h1
    · have hr := ha.rest
      have h2 : s.num = (0, ⟨s.l, s.k, 2, s.big⟩) := by
        unfold TkM.num; rw [if_pos ha.er, hr]
        unfold numB at h1 ⊢
        rw [numR_cut n.toNat p r (by obtain ⟨_, _⟩ := hn; omega) h1]; rfl
      refine .inr ?_
      show s.num.2.er = 2
      rw [h2]
    · rw [take_app _ _ _ h1] at ha
      have h4 := (ha.int hn).2
      rw [List.length_append] at hp
      exact .inl ⟨h4, by omega⟩
  · exact .inr (num_stay h)
theorem Cut.txt {s : TkM} {m r : List UInt8} {p : Nat} (h : Cut s (textB m ++ r) p) (hm : m.length ≤ 32) : Cut s.txt.2 r (p - (textB m).length) := by
  rcases h with ⟨ha, hp⟩ | h
  · rcases Nat.lt_or_ge p (textB m).length with h1 | h1
    · have hr := ha.rest
      have h2 : textR ((textB m ++ r).take p) = (2, [], 0) := by
        unfold textB at h1 ⊢
        rcases Nat.lt_or_ge p (sevM m.length).length with h3 | h3
        · rw [List.append_assoc]
          unfold textR
          rw [numR_cut m.length p _ (by omega) h3]; rfl
        · rw [List.append_assoc, take_app _ _ _ h3]
          unfold textR
          rw [numR_sev m.length _ (by omega)]
          simp only [if_true]
          rw [List.length_append] at h1
          rw [if_neg (by omega), if_pos (by rw [List.length_append, List.length_take, List.length_append]; omega)]
      have h5 : s.txt = ([], ⟨s.l, s.k, 2, s.big⟩) := by
        unfold TkM.txt; rw [if_pos ha.er, hr, h2]; rfl
      rw [h5]; exact .inr rfl
    · rw [take_app _ _ _ h1] at ha
      have h4 := (ha.txt hm).2
      rw [List.length_append] at hp
      exact .inl ⟨h4, by omega⟩
  · exact .inr (txt_stay h)
theorem Cut.nil {s : TkM} {p : Nat} (h : Cut s [] p) : s.er = 2 := by
  rcases h with ⟨_, h⟩ | h
  · simp at h
  · exact h
theorem Cut.end {s : TkM} {p : Nat} (h : Cut s [] p) (e : EvtM) : endM s e = (2, noEvt) := by
  unfold endM; rw [if_neg (by rw [h.nil]; decide), h.nil]
theorem Cut.born {s : TkM} {q : SesM} {p : Nat} (h : Cut s (sesOn [] q) p) (hq : SesN q) (hsc : q.scopes < 2 ^ 64) : ∃ p', Cut (bornM s).2 [] p' := by
  unfold sesOn at h
  simp only [List.append_assoc, List.nil_append] at h
  have a := h.int hq.slot
  have b := a.int hq.birth
  have c := b.int hq.upS
  have d := c.int hq.upB
  have f := d.int hq.kind
  have u := f.txt hq.user
  have l := u.txt hq.label
  have sc := (l.num hsc).1
  have g := sc.int hq.level
  have hh := g.int hq.born
  have i := hh.int hq.deadline
  have j := Cut.int (r := []) (by rw [List.append_nil]; exact i) hq.depth
  exact ⟨_, j⟩
theorem decM_cut {e : EvtM} (hm : mayE e = true) (hsc : e.s.scopes < 2 ^ 64) (p : Nat) (hp : p < (evB e).length) : decM ((evB e).take p) = (2, noEvt) := by
  have fin : ∀ k A, evB e = sevM k ++ A → k ≤ 2 → (∀ s : TkM, ∀ p', Cut s A p' → s.er = 0 → s.big = s.big → (if 2 < k then ((1 : Int), noEvt) else if k = 0 then endM (bornM s).2 ⟨0, (bornM s).1, 0, 0⟩ else if k = 1 then endM s.int.2 ⟨1, noSes, s.int.1, 0⟩ else endM s.int.2 ⟨2, noSes, 0, s.int.1⟩) = (2, noEvt)) → decM ((evB e).take p) = (2, noEvt) := fun k A he hk hs => by
    have hc : Cut ⟨(evB e).take p, 0, 0, false⟩ (sevM k ++ A) p := .inl ⟨⟨by rw [← he]; rfl, rfl, rfl, Nat.zero_le _⟩, by rw [← he]; exact hp⟩
    obtain ⟨c1, c2⟩ := hc.num (by omega)
    unfold decM
    simp only
    by_cases h0 : (TkM.num ⟨(evB e).take p, 0, 0, false⟩).2.er = 0
    · rw [if_pos h0, c2 h0]
      exact hs _ _ c1 h0 rfl
    · rw [if_neg h0]
      rcases c1 with ⟨h1, _⟩ | h1
      · exact absurd h1.er h0
      · rw [h1]
  cases k1 : (e.kind == 1)
  · cases k2 : (e.kind == 2)
    · have k0 : (e.kind == 0) = true := by
        cases k0 : (e.kind == 0)
        · rw [no_other k0 k1 k2] at hm; cases hm
        · rfl
      have hk : e.kind = 0 := by simpa using k0
      have he : evB e = sevM 0 ++ sesOn [] e.s := by
        unfold evB; rw [k1, k2]
        show sesOn (numB e.kind) e.s = _
        rw [sesOn_app, hk]; rfl
      refine fin 0 _ he (by omega) (fun s p' hc _ _ => ?_)
      obtain ⟨p2, h2⟩ := hc.born (SesN.of (mayE_ses hm k0)) hsc
      rw [if_neg (by omega), if_pos rfl]
      exact h2.end _
    · have hk : e.kind = 2 := by simpa using k2
      have k0 : (e.kind == 0) = false := by rw [hk]; rfl
      have he : evB e = sevM 2 ++ numB e.ticks := by
        unfold evB; rw [k1, k2]
        show numB e.kind ++ numB e.ticks = _
        rw [hk]; rfl
      refine fin 2 _ he (by omega) (fun s p' hc _ _ => ?_)
      have h2 := Cut.int (r := []) (by rw [List.append_nil]; exact hc) (mayE_tick hm k0 k1).2
      rw [if_neg (by omega), if_neg (by omega), if_neg (by omega)]
      exact h2.end _
  · have hk : e.kind = 1 := by simpa using k1
    have k0 : (e.kind == 0) = false := by rw [hk]; rfl
    have he : evB e = sevM 1 ++ numB e.birth := by
      unfold evB; rw [k1]
      show numB e.kind ++ numB e.birth = _
      rw [hk]; rfl
    refine fin 1 _ he (by omega) (fun s p' hc _ _ => ?_)
    have h2 := Cut.int (r := []) (by rw [List.append_nil]; exact hc) (mayE_revoke hm k0 k1)
    rw [if_neg (by omega), if_neg (by omega), if_pos rfl]
    exact h2.end _
theorem At.more {s : TkM} {c : UInt8} (h : At s [c]) (e : EvtM) : endM s e = (3, noEvt) := by
  have hk : s.k < s.l.length := by
    have := congrArg List.length h.rest
    unfold TkM.rest at this
    rw [List.length_drop] at this
    simp at this; omega
  unfold endM
  rw [if_pos h.er, if_pos hk]
theorem At.bornR {s : TkM} {q : SesM} {r : List UInt8} (h : At s (sesOn [] q ++ r)) (hq : SesN q) (hsc : q.scopes < 2 ^ 64) : At (bornM s).2 r := by
  unfold sesOn at h
  simp only [List.append_assoc, List.nil_append] at h
  have a := (h.int hq.slot).2
  have b := (a.int hq.birth).2
  have c := (b.int hq.upS).2
  have d := (c.int hq.upB).2
  have f := (d.int hq.kind).2
  have u := (f.txt hq.user).2
  have l := (u.txt hq.label).2
  have sc := (l.num hsc).2
  have g := (sc.int hq.level).2
  have hh := (g.int hq.born).2
  have i := (hh.int hq.deadline).2
  exact (i.int hq.depth).2
theorem decM_more {e : EvtM} (hm : mayE e = true) (hsc : e.s.scopes < 2 ^ 64) (c : UInt8) : decM (evB e ++ [c]) = (3, noEvt) := by
  unfold decM
  simp only
  cases k1 : (e.kind == 1)
  · cases k2 : (e.kind == 2)
    · have k0 : (e.kind == 0) = true := by
        cases k0 : (e.kind == 0)
        · rw [no_other k0 k1 k2] at hm; cases hm
        · rfl
      have hk : e.kind = 0 := by simpa using k0
      have he : evB e ++ [c] = sevM 0 ++ (sesOn [] e.s ++ [c]) := by
        unfold evB; rw [k1, k2]
        show sesOn (numB e.kind) e.s ++ _ = _
        rw [sesOn_app, hk, List.append_assoc]; rfl
      have hh : At ⟨evB e ++ [c], 0, 0, false⟩ (sevM 0 ++ (sesOn [] e.s ++ [c])) := ⟨he, rfl, rfl, Nat.zero_le _⟩
      obtain ⟨p1, p2⟩ := hh.num (by omega)
      rw [if_pos p2.er, p1, if_neg (by omega), if_pos rfl]
      exact (p2.bornR (SesN.of (mayE_ses hm k0)) hsc).more _
    · have hk : e.kind = 2 := by simpa using k2
      have k0 : (e.kind == 0) = false := by rw [hk]; rfl
      have he : evB e ++ [c] = sevM 2 ++ (numB e.ticks ++ [c]) := by
        unfold evB; rw [k1, k2]
        show (numB e.kind ++ numB e.ticks) ++ _ = _
        rw [hk, List.append_assoc]; rfl
      have hh : At ⟨evB e ++ [c], 0, 0, false⟩ (sevM 2 ++ (numB e.ticks ++ [c])) := ⟨he, rfl, rfl, Nat.zero_le _⟩
      obtain ⟨p1, p2⟩ := hh.num (by omega)
      rw [if_pos p2.er, p1, if_neg (by omega), if_neg (by omega), if_neg (by omega)]
      exact (p2.int (mayE_tick hm k0 k1).2).2.more _
  · have hk : e.kind = 1 := by simpa using k1
    have k0 : (e.kind == 0) = false := by rw [hk]; rfl
    have he : evB e ++ [c] = sevM 1 ++ (numB e.birth ++ [c]) := by
      unfold evB; rw [k1]
      show (numB e.kind ++ numB e.birth) ++ _ = _
      rw [hk, List.append_assoc]; rfl
    have hh : At ⟨evB e ++ [c], 0, 0, false⟩ (sevM 1 ++ (numB e.birth ++ [c])) := ⟨he, rfl, rfl, Nat.zero_le _⟩
    obtain ⟨p1, p2⟩ := hh.num (by omega)
    rw [if_pos p2.er, p1, if_neg (by omega), if_neg (by omega), if_pos rfl]
    exact (p2.int (mayE_revoke hm k0 k1)).2.more _
theorem evB_pos {e : EvtM} : 0 < (evB e).length := by
  have hs : ∀ n, 0 < (sevM n).length := fun n => by
    unfold sevM sevF; split <;> simp
  unfold evB
  split
  · rw [List.length_append]; have := hs e.kind.toNat; unfold numB; omega
  split
  · rw [List.length_append]; have := hs e.kind.toNat; unfold numB; omega
  · rw [sesOn_app, List.length_append]; have := hs e.kind.toNat; unfold numB; omega
end Go.Proofs.YtdaimaibnjkfbaaDoor
/-
  Bytes that tell an event are its own.
-/
namespace Go.Proofs.YtdaimaibnjkfbaaDoor
open Go.RowKit
set_option maxRecDepth 100000

theorem ofNat_toNat8 (c : UInt8) : UInt8.ofNat c.toNat = c := by
  apply UInt8.toNat.inj
  have := c.toNat_lt
  show c.toNat % 256 = c.toNat
  omega
theorem numGo_inv : ∀ (l : List UInt8) (i u v j : Nat), i ≤ 9 → numGo i u l = (0, v, j) → ∃ n, v = u + n * 2 ^ (7 * i) ∧ i < j ∧ l.take (j - i) = sevF (10 - i) n ∧ n * 2 ^ (7 * i) < 2 ^ 64 ∧ (0 < i → 0 < n)
  | [], i, u, v, j, _, h => by simp [numGo] at h
  | c :: l, i, u, v, j, hi, h => by
    have hc := c.toNat_lt
    unfold numGo at h
    split at h
    · simp at h
    · rename_i hf
      split at h
      · rename_i h8
        simp only [Prod.mk.injEq, true_and] at h
        obtain ⟨rfl, rfl⟩ := h
        refine ⟨c.toNat, rfl, by omega, ?_, ?_, by omega⟩
        · rw [show i + 1 - i = 1 by omega, show 10 - i = (9 - i) + 1 by omega]
          unfold sevF
          rw [if_pos h8, ofNat_toNat8]; rfl
        · rcases Nat.lt_or_ge i 9 with h9 | h9
          · have : c.toNat * 2 ^ (7 * i) ≤ 127 * 2 ^ 56 := Nat.mul_le_mul (by omega) (Nat.pow_le_pow_right (by omega) (by omega))
            omega
          · obtain rfl : i = 9 := by omega
            have : c.toNat * 2 ^ (7 * 9) ≤ 1 * 2 ^ (7 * 9) := Nat.mul_le_mul_right _ (by omega)
            omega
      · rename_i h8
        have h9 : i < 9 := by
          rcases Nat.lt_or_ge i 9 with h1 | h1
          · exact h1
          · exact absurd (.inl ⟨by omega, by omega⟩) hf
        obtain ⟨n, h1, h2, h3, h4, h5⟩ := numGo_inv l (i + 1) _ v j (by omega) h
        have hp : 2 ^ (7 * (i + 1)) = 2 ^ (7 * i) * 128 := by rw [show 7 * (i + 1) = 7 * i + 7 by omega, Nat.pow_add]
        have hn := h5 (by omega)
        have hle : n * 2 ^ (7 * (i + 1)) + (c.toNat - 128) * 2 ^ (7 * i) = (n * 128 + (c.toNat - 128)) * 2 ^ (7 * i) := by
          rw [hp, Nat.mul_comm (2 ^ (7 * i)) 128, ← Nat.mul_assoc, ← Nat.add_mul]
        refine ⟨n * 128 + (c.toNat - 128), by omega, by omega, ?_, ?_, by omega⟩
        · rw [show j - i = (j - (i + 1)) + 1 by omega, List.take_succ_cons, h3, show 10 - i = (10 - (i + 1)) + 1 by omega]
          conv => rhs; unfold sevF
          rw [if_neg (by omega), show (n * 128 + (c.toNat - 128)) % 128 + 128 = c.toNat by omega, show (n * 128 + (c.toNat - 128)) / 128 = n by omega, ofNat_toNat8]
        · rw [← hle]
          -- the number's upper part is below 2^64, so is the whole
          have hq : n * 2 ^ (7 * (i + 1)) < 2 ^ 64 := h4
          have hm : 2 ^ (7 * (i + 1)) * 2 ^ (64 - 7 * (i + 1)) = 2 ^ 64 := by rw [← Nat.pow_add]; congr 1; omega
          have hn2 : n < 2 ^ (64 - 7 * (i + 1)) := by
            rcases Nat.lt_or_ge n (2 ^ (64 - 7 * (i + 1))) with h | h
            · exact h
            · have := Nat.mul_le_mul_right (2 ^ (7 * (i + 1))) h
              rw [Nat.mul_comm (2 ^ (64 - 7 * (i + 1)))] at this; omega
          have h6 : (n + 1) * 2 ^ (7 * (i + 1)) ≤ 2 ^ (64 - 7 * (i + 1)) * 2 ^ (7 * (i + 1)) := Nat.mul_le_mul_right _ hn2
          rw [Nat.mul_comm (2 ^ (64 - 7 * (i + 1))), hm, Nat.add_mul] at h6
          have h7 : (c.toNat - 128) * 2 ^ (7 * i) < 128 * 2 ^ (7 * i) := Nat.mul_lt_mul_of_pos_right (by omega) (Nat.pow_pos (by omega))
          rw [Nat.mul_comm 128, ← hp] at h7
          omega
theorem numGo_end : ∀ (l : List UInt8) (i u : Nat), (numGo i u l).1 = 0 → (numGo i u l).2.2 ≤ i + l.length
  | [], i, u => by intro h; unfold numGo at h; exact absurd h (by decide)
  | c :: l, i, u => by
    intro h
    unfold numGo at h ⊢
    split at h
    · exact absurd h (by decide)
    · rename_i hf
      rw [if_neg hf]
      split at h
      · rename_i h8
        rw [if_pos h8]
        simp only [List.length_cons]; omega
      · rename_i h8
        rw [if_neg h8]
        have := numGo_end l (i + 1) _ h
        simp only [List.length_cons]; omega
theorem numR_end (l : List UInt8) (h : (numR l).1 = 0) : (numR l).2.2 ≤ l.length := by
  have := numGo_end l 0 0 h
  unfold numR; omega
theorem numR_inv {l : List UInt8} (h : (numR l).1 = 0) : (numR l).2.1 < 2 ^ 64 ∧ l = sevM (numR l).2.1 ++ l.drop (numR l).2.2 := by
  obtain ⟨v, j, hv⟩ : ∃ v j, numR l = (0, v, j) := ⟨(numR l).2.1, (numR l).2.2, by rw [← h]⟩
  rw [hv]
  obtain ⟨n, h1, h2, h3, h4, _⟩ := numGo_inv l 0 0 v j (by omega) hv
  simp only [Nat.mul_zero, Nat.pow_zero, Nat.mul_one, Nat.zero_add, Nat.sub_zero] at h1 h3 h4
  subst h1
  refine ⟨h4, ?_⟩
  show l = sevM v ++ l.drop j
  unfold sevM
  rw [← h3, List.take_append_drop]
theorem textR_inv {l : List UInt8} (h : (textR l).1 = 0) : l = textB (textR l).2.1 ++ l.drop (textR l).2.2 := by
  unfold textR at h ⊢
  split at h
  · rename_i h0
    rw [if_pos h0]
    split at h
    · simp at h
    · rename_i h1
      rw [if_neg h1]
      split at h
      · simp at h
      · rename_i h2
        rw [if_neg h2]
        have h3 := (numR_inv h0).2
        have h4 := numR_end l h0
        unfold textB
        simp only
        rw [List.length_take, List.length_drop, Nat.min_eq_left (by omega), List.append_assoc, ← List.drop_drop, List.take_append_drop]
        exact h3
  · rename_i h0; exact absurd h h0
/-- What was taken so far of bytes, where nothing was wrong: A. -/
structure Got (b : List UInt8) (s : TkM) (A : List UInt8) : Prop where
  eq : b = A ++ s.rest
  le : s.k ≤ s.l.length
theorem er_num {s : TkM} (h : s.num.2.er = 0) : s.er = 0 := by
  unfold TkM.num at h
  split at h
  · assumption
  · exact h
theorem er_txt {s : TkM} (h : s.txt.2.er = 0) : s.er = 0 := by
  unfold TkM.txt at h
  split at h
  · assumption
  · exact h
theorem er_int {s : TkM} (h : s.int.2.er = 0) : s.er = 0 := er_num h
theorem num_big (s : TkM) : s.num.2.big = s.big := by
  unfold TkM.num
  split
  · split <;> rfl
  · rfl
theorem txt_big (s : TkM) : s.txt.2.big = s.big := by
  unfold TkM.txt
  split
  · split <;> rfl
  · rfl
theorem int_big {s : TkM} (h : s.int.2.big = false) : s.big = false ∧ s.num.1 ≤ 9223372036854775807 := by
  have h1 : (s.num.2.big || !(decide (s.num.1 ≤ 9223372036854775807))) = false := h
  rw [Bool.or_eq_false_iff] at h1
  rw [num_big] at h1
  exact ⟨h1.1, by simpa using h1.2⟩
theorem Got.num {b : List UInt8} {s : TkM} {A : List UInt8} (h : Got b s A) (he : s.num.2.er = 0) : Got b s.num.2 (A ++ sevM s.num.1) ∧ s.num.1 < 2 ^ 64 := by
  have h0 := er_num he
  have hn : (numR s.rest).1 = 0 := by
    unfold TkM.num at he; rw [if_pos h0] at he
    split at he
    · assumption
    · exact he
  have h1 : s.num = ((numR s.rest).2.1, ⟨s.l, s.k + (numR s.rest).2.2, 0, s.big⟩) := by
    unfold TkM.num; rw [if_pos h0, if_pos hn]
  obtain ⟨h2, h3⟩ := numR_inv hn
  have h4 := numR_end _ hn
  rw [h1]
  refine ⟨⟨?_, ?_⟩, h2⟩
  · show b = (A ++ sevM (numR s.rest).2.1) ++ s.l.drop (s.k + (numR s.rest).2.2)
    have e : s.l.drop (s.k + (numR s.rest).2.2) = s.rest.drop (numR s.rest).2.2 := by unfold TkM.rest; rw [List.drop_drop]
    rw [e, List.append_assoc, ← h3]; exact h.eq
  · show s.k + (numR s.rest).2.2 ≤ s.l.length
    have : s.rest.length = s.l.length - s.k := by unfold TkM.rest; rw [List.length_drop]
    have := h.le
    omega
theorem textR_used (l : List UInt8) (h : (textR l).1 = 0) : (textR l).2.2 ≤ l.length := by
  unfold textR at h ⊢
  split at h
  · rename_i h0
    rw [if_pos h0]
    split at h
    · simp at h
    · rename_i h1
      rw [if_neg h1]
      split at h
      · simp at h
      · rename_i h2
        rw [if_neg h2]
        have := numR_end l h0
        show (numR l).2.2 + (numR l).2.1 ≤ l.length
        omega
  · rename_i h0; exact absurd h h0
theorem Got.txt {b : List UInt8} {s : TkM} {A : List UInt8} (h : Got b s A) (he : s.txt.2.er = 0) : Got b s.txt.2 (A ++ textB s.txt.1) := by
  have h0 := er_txt he
  have hn : (textR s.rest).1 = 0 := by
    unfold TkM.txt at he; rw [if_pos h0] at he
    split at he
    · assumption
    · exact he
  have h1 : s.txt = ((textR s.rest).2.1, ⟨s.l, s.k + (textR s.rest).2.2, 0, s.big⟩) := by
    unfold TkM.txt; rw [if_pos h0, if_pos hn]
  have h3 := textR_inv hn
  have h4 := textR_used _ hn
  rw [h1]
  refine ⟨?_, ?_⟩
  · show b = (A ++ textB (textR s.rest).2.1) ++ s.l.drop (s.k + (textR s.rest).2.2)
    have e : s.l.drop (s.k + (textR s.rest).2.2) = s.rest.drop (textR s.rest).2.2 := by unfold TkM.rest; rw [List.drop_drop]
    rw [e, List.append_assoc, ← h3]; exact h.eq
  · show s.k + (textR s.rest).2.2 ≤ s.l.length
    have : s.rest.length = s.l.length - s.k := by unfold TkM.rest; rw [List.length_drop]
    have := h.le
    omega
theorem Got.int {b : List UInt8} {s : TkM} {A : List UInt8} (h : Got b s A) (he : s.int.2.er = 0) (hb : s.int.2.big = false) : Got b s.int.2 (A ++ numB s.int.1) := by
  obtain ⟨h1, _⟩ := h.num he
  obtain ⟨_, h2⟩ := int_big hb
  have e : s.int.1 = (s.num.1 : Int) := by show asInt s.num.1 = _; unfold asInt; rw [if_pos h2]
  rw [e]
  exact ⟨h1.eq, h1.le⟩
theorem Got.born {b : List UInt8} {s : TkM} {A : List UInt8} (h : Got b s A) (he : (bornM s).2.er = 0) (hb : (bornM s).2.big = false) : Got b (bornM s).2 (sesOn A (bornM s).1) ∧ (bornM s).1.scopes < 2 ^ 64 := by
  unfold bornM at he hb ⊢
  simp only at he hb ⊢
  have e11 := er_int he
  have e10 := er_int e11
  have e9 := er_int e10
  have e8 := er_int e9
  have e7 := er_num e8
  have e6 := er_txt e7
  have e5 := er_txt e6
  have e4 := er_int e5
  have e3 := er_int e4
  have e2 := er_int e3
  have e1 := er_int e2
  have b11 := (int_big hb).1
  have b10 := (int_big b11).1
  have b9 := (int_big b10).1
  have b8 := (int_big b9).1
  have b5 : s.int.2.int.2.int.2.int.2.int.2.big = false := by rw [← txt_big, ← txt_big, ← num_big]; exact b8
  have b4 := (int_big b5).1
  have b3 := (int_big b4).1
  have b2 := (int_big b3).1
  have b1 := (int_big b2).1
  have g1 := h.int e1 b1
  have g2 := g1.int e2 b2
  have g3 := g2.int e3 b3
  have g4 := g3.int e4 b4
  have g5 := g4.int e5 b5
  have g6 := g5.txt e6
  have g7 := g6.txt e7
  have g8 := (g7.num e8).1
  have g9 := g8.int e9 b9
  have g10 := g9.int e10 b10
  have g11 := g10.int e11 b11
  have g12 := g11.int he hb
  exact ⟨g12, (g7.num e8).2⟩
theorem endM_inv {s : TkM} {e f : EvtM} (h : endM s e = (0, f)) : s.er = 0 ∧ ¬ s.k < s.l.length ∧ s.big = false ∧ mayE e = true ∧ e = f := by
  unfold endM at h
  split at h
  · rename_i h0
    split at h
    · simp at h
    · rename_i h1
      split at h
      · simp at h
      · rename_i h2
        split at h
        · rename_i h3
          simp only [Prod.mk.injEq, true_and] at h
          exact ⟨h0, h1, by simpa using h2, h3, h⟩
        · simp at h
  · rename_i h0
    simp only [Prod.mk.injEq] at h
    exact absurd h.1 h0
theorem Got.all {b : List UInt8} {s : TkM} {A : List UInt8} (h : Got b s A) (hk : ¬ s.k < s.l.length) : b = A := by
  have := h.eq
  rw [show s.rest = [] from by unfold TkM.rest; exact List.drop_of_length_le (by omega), List.append_nil] at this
  exact this
theorem evB_birth (q : SesM) : evB ⟨0, q, 0, 0⟩ = sesOn (sevM 0) q := rfl
theorem evB_revoke (n : Int) : evB ⟨1, noSes, n, 0⟩ = sevM 1 ++ numB n := rfl
theorem evB_tick (n : Int) : evB ⟨2, noSes, 0, n⟩ = sevM 2 ++ numB n := rfl
theorem decM_inv {b : List UInt8} {e : EvtM} (h : decM b = (0, e)) : mayE e = true ∧ e.s.scopes < 2 ^ 64 ∧ evB e = b := by
  have h0 : Got b ⟨b, 0, 0, false⟩ [] := ⟨rfl, Nat.zero_le _⟩
  have g1 := fun he => (h0.num he).1
  unfold decM at h
  simp only at h
  generalize TkM.num ⟨b, 0, 0, false⟩ = p at h g1
  clear h0
  split at h
  · rename_i he
    have g1 := g1 he
    rw [List.nil_append] at g1
    split at h
    · simp at h
    split at h
    · rename_i _ hk
      obtain ⟨h1, h2, h3, h4, h5⟩ := endM_inv h
      obtain ⟨g2, g3⟩ := g1.born h1 h3
      rw [hk] at g2
      have g4 := g2.all h2
      generalize (bornM p.2).1 = q at h4 h5 g3 g4
      subst h5
      exact ⟨h4, g3, (evB_birth q).trans g4.symm⟩
    split at h
    · rename_i _ _ hk
      obtain ⟨h1, h2, h3, h4, h5⟩ := endM_inv h
      have g2 := g1.int h1 h3
      rw [hk] at g2
      have g4 := g2.all h2
      generalize p.2.int.1 = q at h4 h5 g4
      subst h5
      exact ⟨h4, show noSes.scopes < 2 ^ 64 by decide, (evB_revoke q).trans g4.symm⟩
    · rename_i h5 h6 h7
      obtain ⟨h1, h2, h3, h4, h5⟩ := endM_inv h
      have g2 := g1.int h1 h3
      rw [show p.1 = 2 by omega] at g2
      have g4 := g2.all h2
      generalize p.2.int.1 = q at h4 h5 g4
      subst h5
      exact ⟨h4, show noSes.scopes < 2 ^ 64 by decide, (evB_tick q).trans g4.symm⟩
  · rename_i he
    simp only [Prod.mk.injEq] at h
    exact absurd h.1 he
theorem endM_no {s : TkM} {e f : EvtM} {n : Int} (h : endM s e = (n, f)) (hn : n ≠ 0) : f = noEvt := by
  unfold endM at h
  split at h
  · split at h
    · simp only [Prod.mk.injEq] at h; exact h.2.symm
    · split at h
      · simp only [Prod.mk.injEq] at h; exact h.2.symm
      · split at h
        · simp only [Prod.mk.injEq] at h; exact absurd h.1.symm hn
        · simp only [Prod.mk.injEq] at h; exact h.2.symm
  · simp only [Prod.mk.injEq] at h; exact h.2.symm
theorem decM_no {b : List UInt8} {n : Int} {f : EvtM} (h : decM b = (n, f)) (hn : n ≠ 0) : f = noEvt := by
  unfold decM at h
  simp only at h
  split at h
  · split at h
    · simp only [Prod.mk.injEq] at h; exact h.2.symm
    split at h
    · exact endM_no h hn
    split at h
    · exact endM_no h hn
    · exact endM_no h hn
  · simp only [Prod.mk.injEq] at h; exact h.2.symm
theorem evB_small {e : EvtM} (hm : mayE e = true) : (evB e).length ≤ 245 := by
  unfold evB
  have h1 := fun n => numB_len n
  split
  · rw [List.length_append]; have := h1 e.kind; have := h1 e.birth; omega
  split
  · rw [List.length_append]; have := h1 e.kind; have := h1 e.ticks; omega
  · rename_i k1 k2
    have k0 : (e.kind == 0) = true := by
      cases k0 : (e.kind == 0)
      · rw [no_other k0 (by simpa using k1) (by simpa using k2)] at hm; cases hm
      · rfl
    have hs := SesN.of (mayE_ses hm k0)
    unfold sesOn
    have h2 := fun n => sevM_len n
    have h3 := textB_len hs.user
    have h4 := textB_len hs.label
    simp only [List.length_append]
    have := h1 e.kind; have := h1 e.s.slot; have := h1 e.s.birth; have := h1 e.s.upS; have := h1 e.s.upB; have := h1 e.s.kind; have := h2 e.s.scopes; have := h1 e.s.level; have := h1 e.s.born; have := h1 e.s.deadline; have := h1 e.s.depth
    omega
end Go.Proofs.YtdaimaibnjkfbaaDoor
/-
  States: which may be.
-/
namespace Go.Proofs.YtdaimaibnjkfbaaDoor
open Go.RowKit
set_option maxRecDepth 100000

/-- A state. -/
structure StM where
  clock : Int
  births : Int
  l : List SesM
def noSt : StM := ⟨0, 0, []⟩
/-- Are scopes among others? -/
def scIn (a b : Nat) : Bool := bits .andNot .u64 (a : Int) (b : Int) == 0
def belowM (s p : SesM) : Bool := (s.depth == p.depth + 1) && ((s.user == p.user) && (decide (s.deadline ≤ p.deadline) && (scIn s.scopes p.scopes && (decide (p.level < s.level) == (s.kind == 2)))))
/-- What hangs: with those ahead of it. -/
def hangM (s : SesM) : List SesM → Bool → Option Bool
  | [], h => some h
  | p :: ps, h => if p.slot = s.slot then none else hangM s ps (if s.upS = p.slot ∧ s.upB = p.birth then belowM s p else h)
def lastB : List SesM → Int
  | [] => 0
  | [p] => p.birth
  | _ :: p :: ps => lastB (p :: ps)
def upNo (s : SesM) : Bool := (s.upS == 0) && (s.upB == 0)
def mayI (c b : Int) (s : SesM) (a : List SesM) : Bool := mayS s && (!(!a.isEmpty && decide (s.birth ≤ lastB a)) && (decide (s.birth ≤ b) && (decide (s.born ≤ c) && (decide (c < s.deadline) && (hangM s a (upNo s) == some true)))))
def checkGo (c b : Int) (a : List SesM) (k : Int) : List SesM → Option Int
  | [] => none
  | s :: r => if mayI c b s a = true then checkGo c b (a ++ [s]) (k + 1) r else some k
def boundsM (st : StM) : Bool := fromM st.clock 0 1099511627776 && (fromM st.births 0 1048576 && decide (st.l.length ≤ 32))
def checkM (st : StM) : Option Int := if boundsM st = true then checkGo st.clock st.births [] 0 st.l else some (-1)
theorem lastB_snoc (a : List SesM) (s : SesM) : lastB (a ++ [s]) = s.birth := by
  induction a with
  | nil => rfl
  | cons p a ih =>
    cases a with
    | nil => rfl
    | cons q a => exact ih
theorem checkGo_none {c b : Int} : ∀ {r a : List SesM} {k : Int}, checkGo c b a k r = none ↔ ∀ i (h : i < r.length), mayI c b r[i] (a ++ r.take i) = true
  | [], a, k => by simp [checkGo]
  | s :: r, a, k => by
    unfold checkGo
    by_cases h : mayI c b s a = true
    · rw [if_pos h, checkGo_none]
      constructor
      · intro g i hi
        cases i with
        | zero => simpa using h
        | succ i =>
          have := g i (by simpa using hi)
          simpa using this
      · intro g i hi
        have := g (i + 1) (by simpa using hi)
        simpa using this
    · rw [if_neg h]
      constructor
      · intro g; cases g
      · intro g
        exact absurd (by have := g 0 (by simp); rw [List.take_zero, List.append_nil] at this; exact this) h
theorem checkM_none {st : StM} : checkM st = none ↔ boundsM st = true ∧ ∀ i (h : i < st.l.length), mayI st.clock st.births st.l[i] (st.l.take i) = true := by
  unfold checkM
  by_cases h : boundsM st = true
  · rw [if_pos h, checkGo_none]; simp [h]
  · rw [if_neg h]; simp [h]
/-- What one that may be says. -/
structure MayI (c b : Int) (s : SesM) (a : List SesM) : Prop where
  may : mayS s = true
  asc : a ≠ [] → lastB a < s.birth
  births : s.birth ≤ b
  born : s.born ≤ c
  dead : c < s.deadline
  hang : hangM s a (upNo s) = some true
theorem mayI_iff {c b : Int} {s : SesM} {a : List SesM} : mayI c b s a = true ↔ MayI c b s a := by
  unfold mayI
  simp only [Bool.and_eq_true, decide_eq_true_eq, beq_iff_eq, Bool.not_eq_true', Bool.and_eq_false_iff, Bool.not_eq_false', decide_eq_false_iff_not, Int.not_le]
  constructor
  · rintro ⟨h1, h2, h3, h4, h5, h6⟩
    exact ⟨h1, fun h => h2.elim (fun g => absurd (List.isEmpty_iff.1 g) h) id, h3, h4, h5, h6⟩
  · rintro ⟨h1, h2, h3, h4, h5, h6⟩
    refine ⟨h1, ?_, h3, h4, h5, h6⟩
    cases a with
    | nil => exact .inl rfl
    | cons p a => exact .inr (h2 (by simp))
/-- In a state that may be the birth numbers ascend. -/
theorem asc_of {c b : Int} {l : List SesM} (h : ∀ i (h : i < l.length), MayI c b l[i] (l.take i)) : ∀ j (hj : j < l.length) i (hi : i < j), (l[i]'(by omega)).birth < l[j].birth := by
  intro j
  induction j with
  | zero => intro _ i hi; omega
  | succ j ih =>
    intro hj i hi
    have h1 := (h (j + 1) hj).asc (by simp; intro hh; rw [hh] at hj; simp at hj)
    rw [List.take_succ_eq_append_getElem (by omega), lastB_snoc] at h1
    rcases Nat.lt_or_ge i j with h2 | h2
    · have := ih (by omega) i h2; omega
    · obtain rfl : i = j := by omega
      exact h1
theorem hangM_true {s : SesM} : ∀ {a : List SesM} {h : Bool}, hangM s a h = some true → (∀ p ∈ a, p.slot ≠ s.slot) ∧ ((h = true ∧ ∀ p ∈ a, ¬ (s.upS = p.slot ∧ s.upB = p.birth)) ∨ ∃ p ∈ a, (s.upS = p.slot ∧ s.upB = p.birth) ∧ belowM s p = true)
  | [], h, g => by
    unfold hangM at g
    injection g with g
    exact ⟨by simp, .inl ⟨g, by simp⟩⟩
  | p :: ps, h, g => by
    unfold hangM at g
    split at g
    · cases g
    · rename_i hs
      obtain ⟨h1, h2⟩ := hangM_true g
      refine ⟨fun q hq => (List.mem_cons.1 hq).elim (fun e => e ▸ hs) (h1 q), ?_⟩
      rcases h2 with ⟨h3, h4⟩ | ⟨q, h3, h4⟩
      · by_cases hu : s.upS = p.slot ∧ s.upB = p.birth
        · rw [if_pos hu] at h3
          exact .inr ⟨p, by simp, hu, h3⟩
        · rw [if_neg hu] at h3
          exact .inl ⟨h3, fun q hq => (List.mem_cons.1 hq).elim (fun e => e ▸ hu) (h4 q)⟩
      · exact .inr ⟨q, by simp [h3], h4⟩
theorem upNo_false {s : SesM} (h : s.upB ≠ 0) : upNo s = false := by unfold upNo; simp [h]
/-- A session's parent, where it has one. -/
theorem MayI.parent {c b : Int} {s : SesM} {a : List SesM} (h : MayI c b s a) (hu : s.upB ≠ 0) : ∃ p ∈ a, (s.upS = p.slot ∧ s.upB = p.birth) ∧ belowM s p = true := by
  rcases (hangM_true h.hang).2 with ⟨h1, _⟩ | h1
  · rw [upNo_false hu] at h1; cases h1
  · exact h1
structure BelowM (s p : SesM) : Prop where
  depth : s.depth = p.depth + 1
  user : s.user = p.user
  dead : s.deadline ≤ p.deadline
  sc : scIn s.scopes p.scopes = true
  level : p.level < s.level ↔ s.kind = 2
theorem belowM_iff {s p : SesM} : belowM s p = true ↔ BelowM s p := by
  unfold belowM
  simp only [Bool.and_eq_true, decide_eq_true_eq, beq_iff_eq]
  constructor
  · rintro ⟨h1, h2, h3, h4, h5⟩
    refine ⟨h1, h2, h3, h4, ?_⟩
    by_cases h : p.level < s.level
    · rw [decide_eq_true h] at h5; have := h5.symm; rw [beq_iff_eq] at this; exact ⟨fun _ => this, fun _ => h⟩
    · rw [decide_eq_false h] at h5; have := h5.symm; rw [beq_eq_false_iff_ne] at this; exact ⟨fun g => absurd g h, fun g => absurd g this⟩
  · rintro ⟨h1, h2, h3, h4, h5⟩
    refine ⟨h1, h2, h3, h4, ?_⟩
    by_cases h : p.level < s.level
    · rw [decide_eq_true h]; have := h5.1 h; rw [this]; rfl
    · rw [decide_eq_false h]; symm; rw [beq_eq_false_iff_ne]; exact fun g => h (h5.2 g)
/-- What mayS says of a session's kind. -/
theorem mayS_root {s : SesM} (h : mayS s = true) (hu : s.upB = 0) : s.kind = 0 ∧ s.depth = 0 := by
  unfold mayS at h
  simp only [Bool.and_eq_true] at h
  obtain ⟨h1, h2, h3, h4, h5, h6, h7⟩ := h
  have hc : childM s = true → False := fun hc => by
    unfold childM at hc
    simp only [Bool.and_eq_true] at hc
    have := fromM_yes hc.2.1; omega
  split at h7
  · rename_i k0
    unfold loginM at h7
    simp only [Bool.and_eq_true, beq_iff_eq] at h7
    exact ⟨by simpa using k0, h7.2.2.2⟩
  split at h7
  · exact (hc h7).elim
  split at h7
  · rw [Bool.and_eq_true] at h7; exact (hc h7.1).elim
  · cases h7
theorem mayS_step {s : SesM} (h : mayS s = true) (hk : s.kind = 2) : s.deadline ≤ s.born + 300 := by
  unfold mayS at h
  simp only [Bool.and_eq_true] at h
  obtain ⟨h1, h2, h3, h4, h5, h6, h7⟩ := h
  rw [hk] at h7
  simp at h7
  exact h7.2
/-- A state with less, earlier. -/
theorem checkM_less {st : StM} (h : checkM st = none) {c b : Int} (hc0 : 0 ≤ c) (hc : c ≤ st.clock) (hb : st.births ≤ b) (hb2 : b ≤ 1048576) (hl : ∀ s ∈ st.l, s.born ≤ c) : checkM ⟨c, b, st.l⟩ = none := by
  rw [checkM_none] at h ⊢
  obtain ⟨h1, h2⟩ := h
  unfold boundsM at h1 ⊢
  simp only [Bool.and_eq_true, decide_eq_true_eq] at h1
  obtain ⟨b1, b2, b3⟩ := h1
  have b1' := fromM_yes b1
  have b2' := fromM_yes b2
  refine ⟨by simp [fromM]; omega, fun i hi => ?_⟩
  have g := mayI_iff.1 (h2 i hi)
  exact mayI_iff.2 ⟨g.may, g.asc, Int.le_trans g.births hb, hl _ (List.getElem_mem _), Int.lt_of_le_of_lt hc g.dead, g.hang⟩
theorem checkM_drop {st : StM} (h : checkM st = none) (n : Nat) : checkM ⟨st.clock, st.births, st.l.take n⟩ = none := by
  rw [checkM_none] at h ⊢
  obtain ⟨h1, h2⟩ := h
  refine ⟨?_, fun i hi => ?_⟩
  · unfold boundsM at h1 ⊢
    simp only [Bool.and_eq_true, decide_eq_true_eq, List.length_take] at h1 ⊢
    exact ⟨h1.1, h1.2.1, by omega⟩
  · simp only [List.length_take] at hi
    have g := h2 i (by omega)
    simp only [List.getElem_take, List.take_take]
    rw [Nat.min_eq_left (by omega)]
    exact g
end Go.Proofs.YtdaimaibnjkfbaaDoor
/-
  Lists of sessions in memory.
-/
namespace Go.Proofs.YtdaimaibnjkfbaaDoor
open Go.RowKit
set_option maxRecDepth 100000

/-- The bounds of a session that is handed in. -/
structure SesOk (s : SesM) : Prop where
  user : s.user.length ≤ 9223372036854775807
  label : s.label.length ≤ 9223372036854775807
  scopes : s.scopes < 2 ^ 64
/-- The cells of a list of sessions. -/
def flatS (l : List SesM) : List Value := l.flatMap (fun s => s.cells.toList)
theorem flatS_nil : flatS [] = [] := rfl
theorem flatS_length (l : List SesM) : (flatS l).length = l.length * 12 := by
  induction l with
  | nil => rfl
  | cons s l ih =>
    have : (flatS (s :: l)).length = 12 + (flatS l).length := by unfold flatS; rw [List.flatMap_cons, List.length_append]; rfl
    rw [this, ih, List.length_cons]; omega
theorem flatS_append (a b : List SesM) : flatS (a ++ b) = flatS a ++ flatS b := by unfold flatS; rw [List.flatMap_append]
theorem flatS_one (s : SesM) : flatS [s] = s.cells.toList := by unfold flatS; simp
theorem flatS_at : ∀ (l : List SesM) (k j : Nat), j < 12 → (flatS l)[k * 12 + j]? = l[k]?.bind (fun s => s.cells.toList[j]?)
  | [], _, _, _ => by simp [flatS]
  | e :: l, k, j, hj => by
    have h12 : e.cells.toList.length = 12 := rfl
    unfold flatS
    rw [List.flatMap_cons]
    cases k with
    | zero =>
      rw [List.getElem?_append_left (by omega)]
      simp
    | succ k =>
      rw [List.getElem?_append_right (by omega), h12, show (k + 1) * 12 + j - 12 = k * 12 + j by omega]
      have := flatS_at l k j hj
      unfold flatS at this
      rw [this]
      simp
/-- A list of sessions, as a slice reads. -/
def RdS (w : World) (v : Value) (l : List SesM) : Prop := Rd w v l.length (flatS l)
theorem RdS.below {w w' : World} {v : Value} {l : List SesM} (h : RdS w v l) (hb : Below w.heap.size w w') : RdS w' v l := Rd.below h hb
theorem RdS.slice {w : World} {v : Value} {l : List SesM} (h : RdS w v l) : ∃ a cap, v = .slice a l.length cap ∧ l.length ≤ cap ∧ cap ≤ 9223372036854775807 := by
  obtain ⟨a, cap, h1, h2, h3, _⟩ := h; exact ⟨a, cap, h1, h2, h3⟩
/-- The k-th session's cells. -/
theorem RdS.row {w : World} {a : Option Addr} {n cap : Nat} {l : List SesM} (h : RdS w (.slice a n cap) l) (k : Nat) (hk : k < l.length) : ∃ b off, a = some ⟨b, off, none⟩ ∧ w.rangeAt b (off + k * 12) (l[k]).cells.toList := by
  obtain ⟨a', cap', e, h1, h2, _, h3⟩ := h
  injection e with e1 e2 e3
  subst e1
  have hl := flatS_length l
  obtain ⟨b, off, rfl, _⟩ := h3 (k * 12) (by omega)
  refine ⟨b, off, rfl, fun j v hv => ?_⟩
  have hj : j < 12 := (List.getElem?_eq_some_iff.1 hv).1
  obtain ⟨b', off', e', h4⟩ := h3 (k * 12 + j) (by omega)
  injection e' with e'; injection e' with e5 e6
  subst e5; subst e6
  rw [Nat.add_assoc, h4]
  have h5 := flatS_at l k j hj
  rw [List.getElem?_eq_getElem hk] at h5
  rw [List.getD, h5]
  show some ((l[k].cells.toList[j]?).getD undef) = some v
  rw [hv]; rfl
theorem RdS.cut {w : World} {a : Option Addr} {cap : Nat} {l : List SesM} (h : RdS w (.slice a l.length cap) l) (k : Nat) (hk : k ≤ l.length) : RdS w (.slice a k cap) (l.take k) := by
  have hc : l.length ≤ cap := by obtain ⟨_, _, e, h5, _⟩ := h; injection e with _ _ e3; omega
  have := Rd.cut (m := k) h (by omega) (k * 12)
  unfold RdS
  have e : flatS (l.take k) = (flatS l).take (k * 12) := by
    have h1 : flatS l = flatS (l.take k) ++ flatS (l.drop k) := by rw [← flatS_append, List.take_append_drop]
    rw [h1, List.take_left' (by rw [flatS_length, List.length_take]; omega)]
  rw [e, List.length_take, Nat.min_eq_left hk]; exact this
theorem SesM.oneS (s : SesM) : ∀ v ∈ s.cells.toList, v.oneCell' = true := by
  intro v hv
  unfold SesM.cells at hv
  simp only [List.mem_cons, List.not_mem_nil, or_false] at hv
  rcases hv with rfl | rfl | rfl | rfl | rfl | rfl | rfl | rfl | rfl | rfl | rfl | rfl <;> rfl
theorem SesM.listS (s : SesM) : Hid (s.cells = s.cells.toList.toArray) := Lib.hid rfl
/-- A variable of a session's kind that is laid and filled. -/
theorem thereZ (w : World) (s : SesM) : (w.alloc (.cells #[.int .i64 0, .int .i64 0, .int .i64 0, .int .i64 0, .int .i64 0, .string ⟨#[]⟩, .string ⟨#[]⟩, .int .u64 0, .int .i64 0, .int .i64 0, .int .i64 0, .int .i64 0] 56)).there w.heap.size 0 s.cells.toList.length := by
  intro j hj
  have hj : j < 12 := hj
  have hb := Box.new w #[.int .i64 0, .int .i64 0, .int .i64 0, .int .i64 0, .int .i64 0, .string ⟨#[]⟩, .string ⟨#[]⟩, .int .u64 0, .int .i64 0, .int .i64 0, .int .i64 0, .int .i64 0] 56
  obtain ⟨v, hv⟩ : ∃ v, (#[.int .i64 0, .int .i64 0, .int .i64 0, .int .i64 0, .int .i64 0, .string ⟨#[]⟩, .string ⟨#[]⟩, .int .u64 0, .int .i64 0, .int .i64 0, .int .i64 0, .int .i64 0] : Array Value)[j]? = some v := ⟨_, Array.getElem?_eq_getElem (show j < 12 from hj)⟩
  rw [Nat.zero_add]
  exact ⟨by rw [hb.cell _ v hv]; rfl, hb.free _⟩
theorem put_below (w : World) (o : Obj) (L : List Value) : Below w.heap.size w ((w.alloc o).setCells w.heap.size 0 L) := by
  have h := Mod.setCells (fun k => k = w.heap.size) w.heap.size rfl L 0 (w.alloc o)
  exact (below_alloc w o).trans (h.below (below_alloc w o).size (fun _ hi => Nat.le_of_eq hi.symm))
theorem putZ {w w' : World} {s : SesM} (h : Hid (w' = (w.alloc (.cells #[.int .i64 0, .int .i64 0, .int .i64 0, .int .i64 0, .int .i64 0, .string ⟨#[]⟩, .string ⟨#[]⟩, .int .u64 0, .int .i64 0, .int .i64 0, .int .i64 0, .int .i64 0] 56)).setCells w.heap.size 0 s.cells.toList)) : Box w' w.heap.size s.cells 56 ∧ Below w.heap.size w w' := by
  rw [h.out]
  have hb := Box.new w #[.int .i64 0, .int .i64 0, .int .i64 0, .int .i64 0, .int .i64 0, .string ⟨#[]⟩, .string ⟨#[]⟩, .int .u64 0, .int .i64 0, .int .i64 0, .int .i64 0, .int .i64 0] 56
  obtain ⟨cs', h1, h2, h3, _⟩ := Box.setCells s.cells.toList 0 hb (by show 0 + 12 ≤ 12; decide)
  have e1 : cs' = s.cells := by
    apply Array.ext_getElem?
    intro j
    by_cases hj : j < 12
    · have := h3 j _ (List.getElem?_eq_getElem (show j < s.cells.toList.length from hj))
      rw [Nat.zero_add] at this
      rw [this, ← Array.getElem?_toList, List.getElem?_eq_getElem (show j < s.cells.toList.length from hj)]
    · rw [Array.getElem?_eq_none (by rw [h2]; show 12 ≤ j; omega), Array.getElem?_eq_none (by show 12 ≤ j; omega)]
  rw [e1] at h1
  exact ⟨h1, put_below w _ _⟩
theorem Box.rangeS {w : World} {b : Nat} {s : SesM} {t : TypeId} (h : Box w b s.cells t) : w.rangeAt b 0 s.cells.toList := fun j v hv => by rw [Nat.zero_add]; exact h.cell j v (by simpa using hv)
end Go.Proofs.YtdaimaibnjkfbaaDoor
/-
  SameBytes: of two lists that are the same it says so.
-/
namespace Go.Proofs.YtdaimaibnjkfbaaDoor
open Go.RowKit

theorem below_drewN (w : World) (k : Nat) : Below w.heap.size w (w.drewN k) := ⟨rfl, rfl, rfl, Nat.le_refl _, fun _ _ => rfl⟩
theorem sameBytes_calls (v v' : Value) (l : List UInt8) (w : World) (hv : Rd w v l.length (l.map V8)) (hv' : Rd w v' l.length (l.map V8)) :
    Calls Tryd.prog 16 #[v, v'] w fun e w' => e = .returned (.bool true) ∧ ∃ k, w' = w.drewN k := by
  have hlen := hv.len
  obtain ⟨a, cap, rfl, hc1, hc2, _, hc⟩ := hv
  obtain ⟨a', cap', rfl, hd1, hd2, _, hd⟩ := hv'
  have Hc := Lib.hid hc
  have Hd := Lib.hid hd
  clear hc hd
  go_enter Tryd.func16, Tryd.ntmps16
  go_wp2
  go_loopw [5] (fun i wr => ∃ k : Nat, k ≤ l.length ∧ i = .int .i64 k ∧ ∃ m, wr = w.drewN m) (fun i _ => l.length - (intOf i).toNat)
  case atStart => exact ⟨0, by omega, rfl, 0, rfl⟩
  case round =>
    obtain ⟨k, hk, rfl, m, rfl⟩ := hrel
    by_cases hlt : k < l.length
    · obtain ⟨b, off, rfl, hcell'⟩ := Hc.out k (by simpa using hlt)
      obtain ⟨b', off', rfl, hdell'⟩ := Hd.out k (by simpa using hlt)
      have hcell : w.cell? ⟨b, off + k, none⟩ = some (.int .u8 (l[k].toNat : Int)) := by rw [hcell']; simp [hlt, V8]
      have hdell : w.cell? ⟨b', off' + k, none⟩ = some (.int .u8 (l[k].toNat : Int)) := by rw [hdell']; simp [hlt, V8]
      have h1 : (0 : Int) ≤ (k : Int) := by omega
      have h2 : (k : Int) < (l.length : Int) := by omega
      clear hcell' hdell' Hc Hd
      go_wp2
      go_quiet (fail)
      go_wp2
      go_roundw
      case rel => exact ⟨k + 1, by omega, by go_num, _, rfl⟩
      case measure => simp [intOf]; omega
    · obtain rfl : k = l.length := by omega
      clear Hc Hd
      go_wp2
      go_ret
      exact ⟨rfl, m, rfl⟩
end Go.Proofs.YtdaimaibnjkfbaaDoor
