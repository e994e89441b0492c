/-
  Bytes that tell an event are its own.
-/
import Derived.Test.YtdaimaibnjkfbaaDoorCutM
namespace Go.Proofs.YtdaimaibnjkfbaaDoor
open Go.RowKit
set_option maxRecDepth 100000

theorem ofNat_toNat8 (c : UInt8) : UInt8.ofNat c.toNat = c := by
  apply UInt8.toNat.inj
  have := c.toNat_lt
  show c.toNat % 256 = c.toNat
  omega
theorem numGo_inv : ∀ (l : List UInt8) (i u v j : Nat), i ≤ 9 → numGo i u l = (0, v, j) → ∃ n, v = u + n * 2 ^ (7 * i) ∧ i < j ∧ l.take (j - i) = sevF (10 - i) n ∧ n * 2 ^ (7 * i) < 2 ^ 64 ∧ (0 < i → 0 < n)
  | [], i, u, v, j, _, h => by simp [numGo] at h
  | c :: l, i, u, v, j, hi, h => by
    have hc := c.toNat_lt
    unfold numGo at h
    split at h
    · simp at h
    · rename_i hf
      split at h
      · rename_i h8
        simp only [Prod.mk.injEq, true_and] at h
        obtain ⟨rfl, rfl⟩ := h
        refine ⟨c.toNat, rfl, by omega, ?_, ?_, by omega⟩
        · rw [show i + 1 - i = 1 by omega, show 10 - i = (9 - i) + 1 by omega]
          unfold sevF
          rw [if_pos h8, ofNat_toNat8]; rfl
        · rcases Nat.lt_or_ge i 9 with h9 | h9
          · have : c.toNat * 2 ^ (7 * i) ≤ 127 * 2 ^ 56 := Nat.mul_le_mul (by omega) (Nat.pow_le_pow_right (by omega) (by omega))
            omega
          · obtain rfl : i = 9 := by omega
            have : c.toNat * 2 ^ (7 * 9) ≤ 1 * 2 ^ (7 * 9) := Nat.mul_le_mul_right _ (by omega)
            omega
      · rename_i h8
        have h9 : i < 9 := by
          rcases Nat.lt_or_ge i 9 with h1 | h1
          · exact h1
          · exact absurd (.inl ⟨by omega, by omega⟩) hf
        obtain ⟨n, h1, h2, h3, h4, h5⟩ := numGo_inv l (i + 1) _ v j (by omega) h
        have hp : 2 ^ (7 * (i + 1)) = 2 ^ (7 * i) * 128 := by rw [show 7 * (i + 1) = 7 * i + 7 by omega, Nat.pow_add]
        have hn := h5 (by omega)
        have hle : n * 2 ^ (7 * (i + 1)) + (c.toNat - 128) * 2 ^ (7 * i) = (n * 128 + (c.toNat - 128)) * 2 ^ (7 * i) := by
          rw [hp, Nat.mul_comm (2 ^ (7 * i)) 128, ← Nat.mul_assoc, ← Nat.add_mul]
        refine ⟨n * 128 + (c.toNat - 128), by omega, by omega, ?_, ?_, by omega⟩
        · rw [show j - i = (j - (i + 1)) + 1 by omega, List.take_succ_cons, h3, show 10 - i = (10 - (i + 1)) + 1 by omega]
          conv => rhs; unfold sevF
          rw [if_neg (by omega), show (n * 128 + (c.toNat - 128)) % 128 + 128 = c.toNat by omega, show (n * 128 + (c.toNat - 128)) / 128 = n by omega, ofNat_toNat8]
        · rw [← hle]
          -- the number's upper part is below 2^64, so is the whole
          have hq : n * 2 ^ (7 * (i + 1)) < 2 ^ 64 := h4
          have hm : 2 ^ (7 * (i + 1)) * 2 ^ (64 - 7 * (i + 1)) = 2 ^ 64 := by rw [← Nat.pow_add]; congr 1; omega
          have hn2 : n < 2 ^ (64 - 7 * (i + 1)) := by
            rcases Nat.lt_or_ge n (2 ^ (64 - 7 * (i + 1))) with h | h
            · exact h
            · have := Nat.mul_le_mul_right (2 ^ (7 * (i + 1))) h
              rw [Nat.mul_comm (2 ^ (64 - 7 * (i + 1)))] at this; omega
          have h6 : (n + 1) * 2 ^ (7 * (i + 1)) ≤ 2 ^ (64 - 7 * (i + 1)) * 2 ^ (7 * (i + 1)) := Nat.mul_le_mul_right _ hn2
          rw [Nat.mul_comm (2 ^ (64 - 7 * (i + 1))), hm, Nat.add_mul] at h6
          have h7 : (c.toNat - 128) * 2 ^ (7 * i) < 128 * 2 ^ (7 * i) := Nat.mul_lt_mul_of_pos_right (by omega) (Nat.pow_pos (by omega))
          rw [Nat.mul_comm 128, ← hp] at h7
          omega
theorem numGo_end : ∀ (l : List UInt8) (i u : Nat), (numGo i u l).1 = 0 → (numGo i u l).2.2 ≤ i + l.length
  | [], i, u => by intro h; unfold numGo at h; exact absurd h (by decide)
  | c :: l, i, u => by
    intro h
    unfold numGo at h ⊢
    split at h
    · exact absurd h (by decide)
    · rename_i hf
      rw [if_neg hf]
      split at h
      · rename_i h8
        rw [if_pos h8]
        simp only [List.length_cons]; omega
      · rename_i h8
        rw [if_neg h8]
        have := numGo_end l (i + 1) _ h
        simp only [List.length_cons]; omega
theorem numR_end (l : List UInt8) (h : (numR l).1 = 0) : (numR l).2.2 ≤ l.length := by
  have := numGo_end l 0 0 h
  unfold numR; omega
theorem numR_inv {l : List UInt8} (h : (numR l).1 = 0) : (numR l).2.1 < 2 ^ 64 ∧ l = sevM (numR l).2.1 ++ l.drop (numR l).2.2 := by
  obtain ⟨v, j, hv⟩ : ∃ v j, numR l = (0, v, j) := ⟨(numR l).2.1, (numR l).2.2, by rw [← h]⟩
  rw [hv]
  obtain ⟨n, h1, h2, h3, h4, _⟩ := numGo_inv l 0 0 v j (by omega) hv
  simp only [Nat.mul_zero, Nat.pow_zero, Nat.mul_one, Nat.zero_add, Nat.sub_zero] at h1 h3 h4
  subst h1
  refine ⟨h4, ?_⟩
  show l = sevM v ++ l.drop j
  unfold sevM
  rw [← h3, List.take_append_drop]
theorem textR_inv {l : List UInt8} (h : (textR l).1 = 0) : l = textB (textR l).2.1 ++ l.drop (textR l).2.2 := by
  unfold textR at h ⊢
  split at h
  · rename_i h0
    rw [if_pos h0]
    split at h
    · simp at h
    · rename_i h1
      rw [if_neg h1]
      split at h
      · simp at h
      · rename_i h2
        rw [if_neg h2]
        have h3 := (numR_inv h0).2
        have h4 := numR_end l h0
        unfold textB
        simp only
        rw [List.length_take, List.length_drop, Nat.min_eq_left (by omega), List.append_assoc, ← List.drop_drop, List.take_append_drop]
        exact h3
  · rename_i h0; exact absurd h h0
/-- What was taken so far of bytes, where nothing was wrong: A. -/
structure Got (b : List UInt8) (s : TkM) (A : List UInt8) : Prop where
  eq : b = A ++ s.rest
  le : s.k ≤ s.l.length
theorem er_num {s : TkM} (h : s.num.2.er = 0) : s.er = 0 := by
  unfold TkM.num at h
  split at h
  · assumption
  · exact h
theorem er_txt {s : TkM} (h : s.txt.2.er = 0) : s.er = 0 := by
  unfold TkM.txt at h
  split at h
  · assumption
  · exact h
theorem er_int {s : TkM} (h : s.int.2.er = 0) : s.er = 0 := er_num h
theorem num_big (s : TkM) : s.num.2.big = s.big := by
  unfold TkM.num
  split
  · split <;> rfl
  · rfl
theorem txt_big (s : TkM) : s.txt.2.big = s.big := by
  unfold TkM.txt
  split
  · split <;> rfl
  · rfl
theorem int_big {s : TkM} (h : s.int.2.big = false) : s.big = false ∧ s.num.1 ≤ 9223372036854775807 := by
  have h1 : (s.num.2.big || !(decide (s.num.1 ≤ 9223372036854775807))) = false := h
  rw [Bool.or_eq_false_iff] at h1
  rw [num_big] at h1
  exact ⟨h1.1, by simpa using h1.2⟩
theorem Got.num {b : List UInt8} {s : TkM} {A : List UInt8} (h : Got b s A) (he : s.num.2.er = 0) : Got b s.num.2 (A ++ sevM s.num.1) ∧ s.num.1 < 2 ^ 64 := by
  have h0 := er_num he
  have hn : (numR s.rest).1 = 0 := by
    unfold TkM.num at he; rw [if_pos h0] at he
    split at he
    · assumption
    · exact he
  have h1 : s.num = ((numR s.rest).2.1, ⟨s.l, s.k + (numR s.rest).2.2, 0, s.big⟩) := by
    unfold TkM.num; rw [if_pos h0, if_pos hn]
  obtain ⟨h2, h3⟩ := numR_inv hn
  have h4 := numR_end _ hn
  rw [h1]
  refine ⟨⟨?_, ?_⟩, h2⟩
  · show b = (A ++ sevM (numR s.rest).2.1) ++ s.l.drop (s.k + (numR s.rest).2.2)
    have e : s.l.drop (s.k + (numR s.rest).2.2) = s.rest.drop (numR s.rest).2.2 := by unfold TkM.rest; rw [List.drop_drop]
    rw [e, List.append_assoc, ← h3]; exact h.eq
  · show s.k + (numR s.rest).2.2 ≤ s.l.length
    have : s.rest.length = s.l.length - s.k := by unfold TkM.rest; rw [List.length_drop]
    have := h.le
    omega
theorem textR_used (l : List UInt8) (h : (textR l).1 = 0) : (textR l).2.2 ≤ l.length := by
  unfold textR at h ⊢
  split at h
  · rename_i h0
    rw [if_pos h0]
    split at h
    · simp at h
    · rename_i h1
      rw [if_neg h1]
      split at h
      · simp at h
      · rename_i h2
        rw [if_neg h2]
        have := numR_end l h0
        show (numR l).2.2 + (numR l).2.1 ≤ l.length
        omega
  · rename_i h0; exact absurd h h0
theorem Got.txt {b : List UInt8} {s : TkM} {A : List UInt8} (h : Got b s A) (he : s.txt.2.er = 0) : Got b s.txt.2 (A ++ textB s.txt.1) := by
  have h0 := er_txt he
  have hn : (textR s.rest).1 = 0 := by
    unfold TkM.txt at he; rw [if_pos h0] at he
    split at he
    · assumption
    · exact he
  have h1 : s.txt = ((textR s.rest).2.1, ⟨s.l, s.k + (textR s.rest).2.2, 0, s.big⟩) := by
    unfold TkM.txt; rw [if_pos h0, if_pos hn]
  have h3 := textR_inv hn
  have h4 := textR_used _ hn
  rw [h1]
  refine ⟨?_, ?_⟩
  · show b = (A ++ textB (textR s.rest).2.1) ++ s.l.drop (s.k + (textR s.rest).2.2)
    have e : s.l.drop (s.k + (textR s.rest).2.2) = s.rest.drop (textR s.rest).2.2 := by unfold TkM.rest; rw [List.drop_drop]
    rw [e, List.append_assoc, ← h3]; exact h.eq
  · show s.k + (textR s.rest).2.2 ≤ s.l.length
    have : s.rest.length = s.l.length - s.k := by unfold TkM.rest; rw [List.length_drop]
    have := h.le
    omega
theorem Got.int {b : List UInt8} {s : TkM} {A : List UInt8} (h : Got b s A) (he : s.int.2.er = 0) (hb : s.int.2.big = false) : Got b s.int.2 (A ++ numB s.int.1) := by
  obtain ⟨h1, _⟩ := h.num he
  obtain ⟨_, h2⟩ := int_big hb
  have e : s.int.1 = (s.num.1 : Int) := by show asInt s.num.1 = _; unfold asInt; rw [if_pos h2]
  rw [e]
  exact ⟨h1.eq, h1.le⟩
theorem Got.born {b : List UInt8} {s : TkM} {A : List UInt8} (h : Got b s A) (he : (bornM s).2.er = 0) (hb : (bornM s).2.big = false) : Got b (bornM s).2 (sesOn A (bornM s).1) ∧ (bornM s).1.scopes < 2 ^ 64 := by
  unfold bornM at he hb ⊢
  simp only at he hb ⊢
  have e11 := er_int he
  have e10 := er_int e11
  have e9 := er_int e10
  have e8 := er_int e9
  have e7 := er_num e8
  have e6 := er_txt e7
  have e5 := er_txt e6
  have e4 := er_int e5
  have e3 := er_int e4
  have e2 := er_int e3
  have e1 := er_int e2
  have b11 := (int_big hb).1
  have b10 := (int_big b11).1
  have b9 := (int_big b10).1
  have b8 := (int_big b9).1
  have b5 : s.int.2.int.2.int.2.int.2.int.2.big = false := by rw [← txt_big, ← txt_big, ← num_big]; exact b8
  have b4 := (int_big b5).1
  have b3 := (int_big b4).1
  have b2 := (int_big b3).1
  have b1 := (int_big b2).1
  have g1 := h.int e1 b1
  have g2 := g1.int e2 b2
  have g3 := g2.int e3 b3
  have g4 := g3.int e4 b4
  have g5 := g4.int e5 b5
  have g6 := g5.txt e6
  have g7 := g6.txt e7
  have g8 := (g7.num e8).1
  have g9 := g8.int e9 b9
  have g10 := g9.int e10 b10
  have g11 := g10.int e11 b11
  have g12 := g11.int he hb
  exact ⟨g12, (g7.num e8).2⟩
theorem endM_inv {s : TkM} {e f : EvtM} (h : endM s e = (0, f)) : s.er = 0 ∧ ¬ s.k < s.l.length ∧ s.big = false ∧ mayE e = true ∧ e = f := by
  unfold endM at h
  split at h
  · rename_i h0
    split at h
    · simp at h
    · rename_i h1
      split at h
      · simp at h
      · rename_i h2
        split at h
        · rename_i h3
          simp only [Prod.mk.injEq, true_and] at h
          exact ⟨h0, h1, by simpa using h2, h3, h⟩
        · simp at h
  · rename_i h0
    simp only [Prod.mk.injEq] at h
    exact absurd h.1 h0
theorem Got.all {b : List UInt8} {s : TkM} {A : List UInt8} (h : Got b s A) (hk : ¬ s.k < s.l.length) : b = A := by
  have := h.eq
  rw [show s.rest = [] from by unfold TkM.rest; exact List.drop_of_length_le (by omega), List.append_nil] at this
  exact this
theorem evB_birth (q : SesM) : evB ⟨0, q, 0, 0⟩ = sesOn (sevM 0) q := rfl
theorem evB_revoke (n : Int) : evB ⟨1, noSes, n, 0⟩ = sevM 1 ++ numB n := rfl
theorem evB_tick (n : Int) : evB ⟨2, noSes, 0, n⟩ = sevM 2 ++ numB n := rfl
theorem decM_inv {b : List UInt8} {e : EvtM} (h : decM b = (0, e)) : mayE e = true ∧ e.s.scopes < 2 ^ 64 ∧ evB e = b := by
  have h0 : Got b ⟨b, 0, 0, false⟩ [] := ⟨rfl, Nat.zero_le _⟩
  have g1 := fun he => (h0.num he).1
  unfold decM at h
  simp only at h
  generalize TkM.num ⟨b, 0, 0, false⟩ = p at h g1
  clear h0
  split at h
  · rename_i he
    have g1 := g1 he
    rw [List.nil_append] at g1
    split at h
    · simp at h
    split at h
    · rename_i _ hk
      obtain ⟨h1, h2, h3, h4, h5⟩ := endM_inv h
      obtain ⟨g2, g3⟩ := g1.born h1 h3
      rw [hk] at g2
      have g4 := g2.all h2
      generalize (bornM p.2).1 = q at h4 h5 g3 g4
      subst h5
      exact ⟨h4, g3, (evB_birth q).trans g4.symm⟩
    split at h
    · rename_i _ _ hk
      obtain ⟨h1, h2, h3, h4, h5⟩ := endM_inv h
      have g2 := g1.int h1 h3
      rw [hk] at g2
      have g4 := g2.all h2
      generalize p.2.int.1 = q at h4 h5 g4
      subst h5
      exact ⟨h4, show noSes.scopes < 2 ^ 64 by decide, (evB_revoke q).trans g4.symm⟩
    · rename_i h5 h6 h7
      obtain ⟨h1, h2, h3, h4, h5⟩ := endM_inv h
      have g2 := g1.int h1 h3
      rw [show p.1 = 2 by omega] at g2
      have g4 := g2.all h2
      generalize p.2.int.1 = q at h4 h5 g4
      subst h5
      exact ⟨h4, show noSes.scopes < 2 ^ 64 by decide, (evB_tick q).trans g4.symm⟩
  · rename_i he
    simp only [Prod.mk.injEq] at h
    exact absurd h.1 he
theorem endM_no {s : TkM} {e f : EvtM} {n : Int} (h : endM s e = (n, f)) (hn : n ≠ 0) : f = noEvt := by
  unfold endM at h
  split at h
  · split at h
    · simp only [Prod.mk.injEq] at h; exact h.2.symm
    · split at h
      · simp only [Prod.mk.injEq] at h; exact h.2.symm
      · split at h
        · simp only [Prod.mk.injEq] at h; exact absurd h.1.symm hn
        · simp only [Prod.mk.injEq] at h; exact h.2.symm
  · simp only [Prod.mk.injEq] at h; exact h.2.symm
theorem decM_no {b : List UInt8} {n : Int} {f : EvtM} (h : decM b = (n, f)) (hn : n ≠ 0) : f = noEvt := by
  unfold decM at h
  simp only at h
  split at h
  · split at h
    · simp only [Prod.mk.injEq] at h; exact h.2.symm
    split at h
    · exact endM_no h hn
    split at h
    · exact endM_no h hn
    · exact endM_no h hn
  · simp only [Prod.mk.injEq] at h; exact h.2.symm
theorem evB_small {e : EvtM} (hm : mayE e = true) : (evB e).length ≤ 245 := by
  unfold evB
  have h1 := fun n => numB_len n
  split
  · rw [List.length_append]; have := h1 e.kind; have := h1 e.birth; omega
  split
  · rw [List.length_append]; have := h1 e.kind; have := h1 e.ticks; omega
  · rename_i k1 k2
    have k0 : (e.kind == 0) = true := by
      cases k0 : (e.kind == 0)
      · rw [no_other k0 (by simpa using k1) (by simpa using k2)] at hm; cases hm
      · rfl
    have hs := SesN.of (mayE_ses hm k0)
    unfold sesOn
    have h2 := fun n => sevM_len n
    have h3 := textB_len hs.user
    have h4 := textB_len hs.label
    simp only [List.length_append]
    have := h1 e.kind; have := h1 e.s.slot; have := h1 e.s.birth; have := h1 e.s.upS; have := h1 e.s.upB; have := h1 e.s.kind; have := h2 e.s.scopes; have := h1 e.s.level; have := h1 e.s.born; have := h1 e.s.deadline; have := h1 e.s.depth
    omega
end Go.Proofs.YtdaimaibnjkfbaaDoor
