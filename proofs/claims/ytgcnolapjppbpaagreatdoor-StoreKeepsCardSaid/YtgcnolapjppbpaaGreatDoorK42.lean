/-
  Texts of one proof, one behind the other.
-/
import Derived.Test.YtgcnolapjppbpaaGreatDoorK41
import Derived.Test.YtgcnolapjppbpaaGreatDoorK24
import Derived.Test.YtgcnolapjppbpaaGreatDoorK22
namespace Go.Proofs.YtgcnolapjppbpaaGreatDoor
open Go.RowKit
set_option maxRecDepth 100000
theorem ofNat_toNat8 (c : UInt8) : UInt8.ofNat c.toNat = c := by
  apply UInt8.toNat.inj
  have := c.toNat_lt
  show c.toNat % 256 = c.toNat
  omega
theorem numGo_inv : ∀ (l : List UInt8) (i u v j : Nat), i ≤ 9 → numGo i u l = (0, v, j) → ∃ n, v = u + n * 2 ^ (7 * i) ∧ i < j ∧ l.take (j - i) = sevF (10 - i) n ∧ n * 2 ^ (7 * i) < 2 ^ 64 ∧ (0 < i → 0 < n)
  | [], i, u, v, j, _, h => by simp [numGo] at h
  | c :: l, i, u, v, j, hi, h => by
    have hc := c.toNat_lt
    unfold numGo at h
    split at h
    · simp at h
    · rename_i hf
      split at h
      · rename_i h8
        simp only [Prod.mk.injEq, true_and] at h
        obtain ⟨rfl, rfl⟩ := h
        refine ⟨c.toNat, rfl, by omega, ?_, ?_, by omega⟩
        · rw [show i + 1 - i = 1 by omega, show 10 - i = (9 - i) + 1 by omega]
          unfold sevF
          rw [if_pos h8, ofNat_toNat8]; rfl
        · rcases Nat.lt_or_ge i 9 with h9 | h9
          · have : c.toNat * 2 ^ (7 * i) ≤ 127 * 2 ^ 56 := Nat.mul_le_mul (by omega) (Nat.pow_le_pow_right (by omega) (by omega))
            omega
          · obtain rfl : i = 9 := by omega
            have : c.toNat * 2 ^ (7 * 9) ≤ 1 * 2 ^ (7 * 9) := Nat.mul_le_mul_right _ (by omega)
            omega
      · rename_i h8
        have h9 : i < 9 := by
          rcases Nat.lt_or_ge i 9 with h1 | h1
          · exact h1
          · exact absurd (.inl ⟨by omega, by omega⟩) hf
        obtain ⟨n, h1, h2, h3, h4, h5⟩ := numGo_inv l (i + 1) _ v j (by omega) h
        have hp : 2 ^ (7 * (i + 1)) = 2 ^ (7 * i) * 128 := by rw [show 7 * (i + 1) = 7 * i + 7 by omega, Nat.pow_add]
        have hn := h5 (by omega)
        have hle : n * 2 ^ (7 * (i + 1)) + (c.toNat - 128) * 2 ^ (7 * i) = (n * 128 + (c.toNat - 128)) * 2 ^ (7 * i) := by
          rw [hp, Nat.mul_comm (2 ^ (7 * i)) 128, ← Nat.mul_assoc, ← Nat.add_mul]
        refine ⟨n * 128 + (c.toNat - 128), by omega, by omega, ?_, ?_, by omega⟩
        · rw [show j - i = (j - (i + 1)) + 1 by omega, List.take_succ_cons, h3, show 10 - i = (10 - (i + 1)) + 1 by omega]
          conv => rhs; unfold sevF
          rw [if_neg (by omega), show (n * 128 + (c.toNat - 128)) % 128 + 128 = c.toNat by omega, show (n * 128 + (c.toNat - 128)) / 128 = n by omega, ofNat_toNat8]
        · rw [← hle]
          -- the number's upper part is below 2^64, so is the whole
          have hq : n * 2 ^ (7 * (i + 1)) < 2 ^ 64 := h4
          have hm : 2 ^ (7 * (i + 1)) * 2 ^ (64 - 7 * (i + 1)) = 2 ^ 64 := by rw [← Nat.pow_add]; congr 1; omega
          have hn2 : n < 2 ^ (64 - 7 * (i + 1)) := by
            rcases Nat.lt_or_ge n (2 ^ (64 - 7 * (i + 1))) with h | h
            · exact h
            · have := Nat.mul_le_mul_right (2 ^ (7 * (i + 1))) h
              rw [Nat.mul_comm (2 ^ (64 - 7 * (i + 1)))] at this; omega
          have h6 : (n + 1) * 2 ^ (7 * (i + 1)) ≤ 2 ^ (64 - 7 * (i + 1)) * 2 ^ (7 * (i + 1)) := Nat.mul_le_mul_right _ hn2
          rw [Nat.mul_comm (2 ^ (64 - 7 * (i + 1))), hm, Nat.add_mul] at h6
          have h7 : (c.toNat - 128) * 2 ^ (7 * i) < 128 * 2 ^ (7 * i) := Nat.mul_lt_mul_of_pos_right (by omega) (Nat.pow_pos (by omega))
          rw [Nat.mul_comm 128, ← hp] at h7
          omega
theorem numGo_end : ∀ (l : List UInt8) (i u : Nat), (numGo i u l).1 = 0 → (numGo i u l).2.2 ≤ i + l.length
  | [], i, u => by intro h; unfold numGo at h; exact absurd h (by decide)
  | c :: l, i, u => by
    intro h
    unfold numGo at h ⊢
    split at h
    · exact absurd h (by decide)
    · rename_i hf
      rw [if_neg hf]
      split at h
      · rename_i h8
        rw [if_pos h8]
        simp only [List.length_cons]; omega
      · rename_i h8
        rw [if_neg h8]
        have := numGo_end l (i + 1) _ h
        simp only [List.length_cons]; omega
theorem numR_end (l : List UInt8) (h : (numR l).1 = 0) : (numR l).2.2 ≤ l.length := by
  have := numGo_end l 0 0 h
  unfold numR; omega
theorem numR_inv {l : List UInt8} (h : (numR l).1 = 0) : (numR l).2.1 < 2 ^ 64 ∧ l = sevM (numR l).2.1 ++ l.drop (numR l).2.2 := by
  obtain ⟨v, j, hv⟩ : ∃ v j, numR l = (0, v, j) := ⟨(numR l).2.1, (numR l).2.2, by rw [← h]⟩
  rw [hv]
  obtain ⟨n, h1, h2, h3, h4, _⟩ := numGo_inv l 0 0 v j (by omega) hv
  simp only [Nat.mul_zero, Nat.pow_zero, Nat.mul_one, Nat.zero_add, Nat.sub_zero] at h1 h3 h4
  subst h1
  refine ⟨h4, ?_⟩
  show l = sevM v ++ l.drop j
  unfold sevM
  rw [← h3, List.take_append_drop]
theorem textR_inv {l : List UInt8} (h : (textR l).1 = 0) : l = textB (textR l).2.1 ++ l.drop (textR l).2.2 := by
  unfold textR at h ⊢
  split at h
  · rename_i h0
    rw [if_pos h0]
    split at h
    · simp at h
    · rename_i h1
      rw [if_neg h1]
      split at h
      · simp at h
      · rename_i h2
        rw [if_neg h2]
        have h3 := (numR_inv h0).2
        have h4 := numR_end l h0
        unfold textB
        simp only
        rw [List.length_take, List.length_drop, Nat.min_eq_left (by omega), List.append_assoc, ← List.drop_drop, List.take_append_drop]
        exact h3
  · rename_i h0; exact absurd h h0
structure Got (b : List UInt8) (s : TkM) (A : List UInt8) : Prop where
  eq : b = A ++ s.rest
  le : s.k ≤ s.l.length
theorem er_num {s : TkM} (h : s.num.2.er = 0) : s.er = 0 := by
  unfold TkM.num at h
  split at h
  · assumption
  · exact h
theorem er_txt {s : TkM} (h : s.txt.2.er = 0) : s.er = 0 := by
  unfold TkM.txt at h
  split at h
  · assumption
  · exact h
theorem er_int {s : TkM} (h : s.int.2.er = 0) : s.er = 0 := er_num h
theorem num_big (s : TkM) : s.num.2.big = s.big := by
  unfold TkM.num
  split
  · split <;> rfl
  · rfl
theorem txt_big (s : TkM) : s.txt.2.big = s.big := by
  unfold TkM.txt
  split
  · split <;> rfl
  · rfl
theorem int_big {s : TkM} (h : s.int.2.big = false) : s.big = false ∧ s.num.1 ≤ 9223372036854775807 := by
  have h1 : (s.num.2.big || !(decide (s.num.1 ≤ 9223372036854775807))) = false := h
  rw [Bool.or_eq_false_iff] at h1
  rw [num_big] at h1
  exact ⟨h1.1, by simpa using h1.2⟩
theorem Got.num {b : List UInt8} {s : TkM} {A : List UInt8} (h : Got b s A) (he : s.num.2.er = 0) : Got b s.num.2 (A ++ sevM s.num.1) ∧ s.num.1 < 2 ^ 64 := by
  have h0 := er_num he
  have hn : (numR s.rest).1 = 0 := by
    unfold TkM.num at he; rw [if_pos h0] at he
    split at he
    · assumption
    · exact he
  have h1 : s.num = ((numR s.rest).2.1, ⟨s.l, s.k + (numR s.rest).2.2, 0, s.big⟩) := by
    unfold TkM.num; rw [if_pos h0, if_pos hn]
  obtain ⟨h2, h3⟩ := numR_inv hn
  have h4 := numR_end _ hn
  rw [h1]
  refine ⟨⟨?_, ?_⟩, h2⟩
  · show b = (A ++ sevM (numR s.rest).2.1) ++ s.l.drop (s.k + (numR s.rest).2.2)
    have e : s.l.drop (s.k + (numR s.rest).2.2) = s.rest.drop (numR s.rest).2.2 := by unfold TkM.rest; rw [List.drop_drop]
    rw [e, List.append_assoc, ← h3]; exact h.eq
  · show s.k + (numR s.rest).2.2 ≤ s.l.length
    have : s.rest.length = s.l.length - s.k := by unfold TkM.rest; rw [List.length_drop]
    have := h.le
    omega
theorem textR_used (l : List UInt8) (h : (textR l).1 = 0) : (textR l).2.2 ≤ l.length := by
  unfold textR at h ⊢
  split at h
  · rename_i h0
    rw [if_pos h0]
    split at h
    · simp at h
    · rename_i h1
      rw [if_neg h1]
      split at h
      · simp at h
      · rename_i h2
        rw [if_neg h2]
        have := numR_end l h0
        show (numR l).2.2 + (numR l).2.1 ≤ l.length
        omega
  · rename_i h0; exact absurd h h0
theorem Got.txt {b : List UInt8} {s : TkM} {A : List UInt8} (h : Got b s A) (he : s.txt.2.er = 0) : Got b s.txt.2 (A ++ textB s.txt.1) := by
  have h0 := er_txt he
  have hn : (textR s.rest).1 = 0 := by
    unfold TkM.txt at he; rw [if_pos h0] at he
    split at he
    · assumption
    · exact he
  have h1 : s.txt = ((textR s.rest).2.1, ⟨s.l, s.k + (textR s.rest).2.2, 0, s.big⟩) := by
    unfold TkM.txt; rw [if_pos h0, if_pos hn]
  have h3 := textR_inv hn
  have h4 := textR_used _ hn
  rw [h1]
  refine ⟨?_, ?_⟩
  · show b = (A ++ textB (textR s.rest).2.1) ++ s.l.drop (s.k + (textR s.rest).2.2)
    have e : s.l.drop (s.k + (textR s.rest).2.2) = s.rest.drop (textR s.rest).2.2 := by unfold TkM.rest; rw [List.drop_drop]
    rw [e, List.append_assoc, ← h3]; exact h.eq
  · show s.k + (textR s.rest).2.2 ≤ s.l.length
    have : s.rest.length = s.l.length - s.k := by unfold TkM.rest; rw [List.length_drop]
    have := h.le
    omega
theorem Got.int {b : List UInt8} {s : TkM} {A : List UInt8} (h : Got b s A) (he : s.int.2.er = 0) (hb : s.int.2.big = false) : Got b s.int.2 (A ++ numB s.int.1) := by
  obtain ⟨h1, _⟩ := h.num he
  obtain ⟨_, h2⟩ := int_big hb
  have e : s.int.1 = (s.num.1 : Int) := by show asInt s.num.1 = _; unfold asInt; rw [if_pos h2]
  rw [e]
  exact ⟨h1.eq, h1.le⟩
theorem Got.born {b : List UInt8} {s : TkM} {A : List UInt8} (h : Got b s A) (he : (bornM s).2.er = 0) (hb : (bornM s).2.big = false) : Got b (bornM s).2 (sesOn A (bornM s).1) ∧ (bornM s).1.scopes < 2 ^ 64 := by
  unfold bornM at he hb ⊢
  simp only at he hb ⊢
  have e11 := er_int he
  have e10 := er_int e11
  have e9 := er_int e10
  have e8 := er_int e9
  have e7 := er_num e8
  have e6 := er_txt e7
  have e5 := er_txt e6
  have e4 := er_int e5
  have e3 := er_int e4
  have e2 := er_int e3
  have e1 := er_int e2
  have b11 := (int_big hb).1
  have b10 := (int_big b11).1
  have b9 := (int_big b10).1
  have b8 := (int_big b9).1
  have b5 : s.int.2.int.2.int.2.int.2.int.2.big = false := by rw [← txt_big, ← txt_big, ← num_big]; exact b8
  have b4 := (int_big b5).1
  have b3 := (int_big b4).1
  have b2 := (int_big b3).1
  have b1 := (int_big b2).1
  have g1 := h.int e1 b1
  have g2 := g1.int e2 b2
  have g3 := g2.int e3 b3
  have g4 := g3.int e4 b4
  have g5 := g4.int e5 b5
  have g6 := g5.txt e6
  have g7 := g6.txt e7
  have g8 := (g7.num e8).1
  have g9 := g8.int e9 b9
  have g10 := g9.int e10 b10
  have g11 := g10.int e11 b11
  have g12 := g11.int he hb
  exact ⟨g12, (g7.num e8).2⟩
theorem endM_inv {s : TkM} {e f : EvtM} (h : endM s e = (0, f)) : s.er = 0 ∧ ¬ s.k < s.l.length ∧ s.big = false ∧ mayE e = true ∧ e = f := by
  unfold endM at h
  split at h
  · rename_i h0
    split at h
    · simp at h
    · rename_i h1
      split at h
      · simp at h
      · rename_i h2
        split at h
        · rename_i h3
          simp only [Prod.mk.injEq, true_and] at h
          exact ⟨h0, h1, by simpa using h2, h3, h⟩
        · simp at h
  · rename_i h0
    simp only [Prod.mk.injEq] at h
    exact absurd h.1 h0
theorem Got.all {b : List UInt8} {s : TkM} {A : List UInt8} (h : Got b s A) (hk : ¬ s.k < s.l.length) : b = A := by
  have := h.eq
  rw [show s.rest = [] from by unfold TkM.rest; exact List.drop_of_length_le (by omega), List.append_nil] at this
  exact this
theorem evB_birth (q : SesM) : evB ⟨0, q, 0, 0⟩ = sesOn (sevM 0) q := rfl
theorem evB_revoke (n : Int) : evB ⟨1, noSes, n, 0⟩ = sevM 1 ++ numB n := rfl
theorem evB_tick (n : Int) : evB ⟨2, noSes, 0, n⟩ = sevM 2 ++ numB n := rfl
theorem decM_inv {b : List UInt8} {e : EvtM} (h : decM b = (0, e)) : mayE e = true ∧ e.s.scopes < 2 ^ 64 ∧ evB e = b := by
  have h0 : Got b ⟨b, 0, 0, false⟩ [] := ⟨rfl, Nat.zero_le _⟩
  have g1 := fun he => (h0.num he).1
  unfold decM at h
  simp only at h
  generalize TkM.num ⟨b, 0, 0, false⟩ = p at h g1
  clear h0
  split at h
  · rename_i he
    have g1 := g1 he
    rw [List.nil_append] at g1
    split at h
    · simp at h
    split at h
    · rename_i _ hk
      obtain ⟨h1, h2, h3, h4, h5⟩ := endM_inv h
      obtain ⟨g2, g3⟩ := g1.born h1 h3
      rw [hk] at g2
      have g4 := g2.all h2
      generalize (bornM p.2).1 = q at h4 h5 g3 g4
      subst h5
      exact ⟨h4, g3, (evB_birth q).trans g4.symm⟩
    split at h
    · rename_i _ _ hk
      obtain ⟨h1, h2, h3, h4, h5⟩ := endM_inv h
      have g2 := g1.int h1 h3
      rw [hk] at g2
      have g4 := g2.all h2
      generalize p.2.int.1 = q at h4 h5 g4
      subst h5
      exact ⟨h4, show noSes.scopes < 2 ^ 64 by decide, (evB_revoke q).trans g4.symm⟩
    · rename_i h5 h6 h7
      obtain ⟨h1, h2, h3, h4, h5⟩ := endM_inv h
      have g2 := g1.int h1 h3
      rw [show p.1 = 2 by omega] at g2
      have g4 := g2.all h2
      generalize p.2.int.1 = q at h4 h5 g4
      subst h5
      exact ⟨h4, show noSes.scopes < 2 ^ 64 by decide, (evB_tick q).trans g4.symm⟩
  · rename_i he
    simp only [Prod.mk.injEq] at h
    exact absurd h.1 he
theorem evB_small {e : EvtM} (hm : mayE e = true) : (evB e).length ≤ 245 := by
  unfold evB
  have h1 := fun n => numB_len n
  split
  · rw [List.length_append]; have := h1 e.kind; have := h1 e.birth; omega
  split
  · rw [List.length_append]; have := h1 e.kind; have := h1 e.ticks; omega
  · rename_i k1 k2
    have k0 : (e.kind == 0) = true := by
      cases k0 : (e.kind == 0)
      · rw [no_other k0 (by simpa using k1) (by simpa using k2)] at hm; cases hm
      · rfl
    have hs := SesN.of (mayE_ses hm k0)
    unfold sesOn
    have h2 := fun n => sevM_len n
    have h3 := textB_len hs.user
    have h4 := textB_len hs.label
    simp only [List.length_append]
    have := h1 e.kind; have := h1 e.s.slot; have := h1 e.s.birth; have := h1 e.s.upS; have := h1 e.s.upB; have := h1 e.s.kind; have := h2 e.s.scopes; have := h1 e.s.level; have := h1 e.s.born; have := h1 e.s.deadline; have := h1 e.s.depth
    omega
end Go.Proofs.YtgcnolapjppbpaaGreatDoor
namespace Go.Proofs.YtgcnolapjppbpaaGreatDoor
open Go.RowKit
set_option maxRecDepth 100000
theorem At.bornV {s : TkM} {q : SesM} {r : List UInt8} (h : At s (sesOn [] q ++ r)) (hq : SesN q) (hsc : q.scopes < 2 ^ 64) : (bornM s).1 = q ∧ At (bornM s).2 r := by
  unfold sesOn at h
  simp only [List.append_assoc, List.nil_append] at h
  obtain ⟨a1, a2⟩ := h.int hq.slot
  obtain ⟨b1, b2⟩ := a2.int hq.birth
  obtain ⟨c1, c2⟩ := b2.int hq.upS
  obtain ⟨d1, d2⟩ := c2.int hq.upB
  obtain ⟨f1, f2⟩ := d2.int hq.kind
  obtain ⟨u1, u2⟩ := f2.txt hq.user
  obtain ⟨l1, l2⟩ := u2.txt hq.label
  obtain ⟨s1, s2⟩ := l2.num hsc
  obtain ⟨g1, g2⟩ := s2.int hq.level
  obtain ⟨h1, h2⟩ := g2.int hq.born
  obtain ⟨i1, i2⟩ := h2.int hq.deadline
  obtain ⟨j1, j2⟩ := i2.int hq.depth
  exact ⟨by unfold bornM; simp only [a1, b1, c1, d1, f1, u1, l1, s1, g1, h1, i1, j1], j2⟩
def SesW (l : List SesM) : Prop := ∀ q ∈ l, SesN q ∧ q.scopes < 2 ^ 64
theorem SesW.head {q : SesM} {l : List SesM} (h : SesW (q :: l)) : SesN q ∧ q.scopes < 2 ^ 64 := h q (by simp)
theorem SesW.tail {q : SesM} {l : List SesM} (h : SesW (q :: l)) : SesW l := fun x hx => h x (by simp [hx])
theorem At.sesTs : ∀ (l : List SesM) (s : TkM) (r : List UInt8), At s (l.flatMap (sesOn []) ++ r) → SesW l → (sesTs l.length s).1 = l ∧ At (sesTs l.length s).2 r
  | [], s, r, h, _ => ⟨rfl, by rw [List.flatMap_nil, List.nil_append] at h; exact h⟩
  | q :: l, s, r, h, hw => by
    rw [List.flatMap_cons, List.append_assoc] at h
    obtain ⟨h1, h2⟩ := h.bornV hw.head.1 hw.head.2
    obtain ⟨h3, h4⟩ := At.sesTs l (bornM s).2 r h2 hw.tail
    refine ⟨?_, h4⟩
    show (bornM s).1 :: (Go.Proofs.YtgcnolapjppbpaaGreatDoor.sesTs l.length (bornM s).2).1 = _
    rw [h1, h3]
theorem At.fin {s : TkM} {st : StM} (h : At s []) (hc : checkM st = none) : finI s st = (0, st) := by
  have hk : ¬ s.k < s.l.length := by
    have := congrArg List.length h.rest
    unfold TkM.rest at this
    rw [List.length_drop] at this
    simp at this; omega
  unfold finI
  rw [if_pos h.er, if_neg hk, h.big, if_neg (by decide), if_pos hc]
theorem imgB_eq (st : StM) (r : List UInt8) : imgB st ++ r = numB st.clock ++ (numB st.births ++ (sevM st.l.length ++ (st.l.flatMap (sesOn []) ++ r))) := by
  unfold imgB numsB
  simp only [List.flatMap_cons, List.flatMap_nil, List.append_nil, List.append_assoc]
  rfl
theorem decI_at {st : StM} (hc : checkM st = none) (hw : SesW st.l) (r : List UInt8) : ∃ s, At s r ∧ decI (imgB st ++ r) = finI s st := by
  obtain ⟨n1, n2, n3, _⟩ := check_parts hc
  have h0 : At ⟨imgB st ++ r, 0, 0, false⟩ (numB st.clock ++ (numB st.births ++ (sevM st.l.length ++ (st.l.flatMap (sesOn []) ++ r)))) := ⟨imgB_eq st r, rfl, rfl, Nat.zero_le _⟩
  obtain ⟨a1, a2⟩ := h0.int n1
  obtain ⟨b1, b2⟩ := a2.int n2
  obtain ⟨p1, p2⟩ := b2.num (by omega)
  obtain ⟨q1, q2⟩ := At.sesTs _ _ _ p2 hw
  refine ⟨_, q2, ?_⟩
  unfold decI
  simp only
  rw [a1, b1, p1, if_neg (by omega), q1]
theorem decI_imgB {st : StM} (hc : checkM st = none) (hw : SesW st.l) : decI (imgB st) = (0, st) := by
  obtain ⟨s, h1, h2⟩ := decI_at hc hw []
  rw [List.append_nil] at h2
  rw [h2]; exact h1.fin hc
theorem Cut.bornR {s : TkM} {q : SesM} {r : List UInt8} {p : Nat} (h : Cut s (sesOn [] q ++ r) p) (hq : SesN q) (hsc : q.scopes < 2 ^ 64) : ∃ p', Cut (bornM s).2 r p' := by
  unfold sesOn at h
  simp only [List.append_assoc, List.nil_append] at h
  have a := h.int hq.slot
  have b := a.int hq.birth
  have c := b.int hq.upS
  have d := c.int hq.upB
  have f := d.int hq.kind
  have u := f.txt hq.user
  have l := u.txt hq.label
  have sc := (l.num hsc).1
  have g := sc.int hq.level
  have hh := g.int hq.born
  have i := hh.int hq.deadline
  exact ⟨_, i.int hq.depth⟩
theorem Cut.sesTs : ∀ (l : List SesM) (s : TkM) (p : Nat), Cut s (l.flatMap (sesOn [])) p → SesW l → (sesTs l.length s).2.er = 2
  | [], s, p, h, _ => h.nil
  | q :: l, s, p, h, hw => by
    rw [List.flatMap_cons] at h
    obtain ⟨p', h1⟩ := h.bornR hw.head.1 hw.head.2
    exact Cut.sesTs l _ p' h1 hw.tail
theorem er_born {s : TkM} (h : (bornM s).2.er = 0) : s.er = 0 := by
  unfold bornM at h
  exact er_int (er_int (er_int (er_int (er_int (er_txt (er_txt (er_num (er_int (er_int (er_int (er_int h)))))))))))
theorem big_born {s : TkM} (h : (bornM s).2.big = false) : s.big = false := by
  unfold bornM at h
  simp only at h
  have h1 := (int_big (int_big (int_big (int_big h).1).1).1).1
  rw [num_big, txt_big, txt_big] at h1
  exact (int_big (int_big (int_big (int_big (int_big h1).1).1).1).1).1
theorem er_ses : ∀ (n : Nat) (s : TkM), (sesTs n s).2.er = 0 → s.er = 0
  | 0, _, h => h
  | n + 1, s, h => er_born (er_ses n (bornM s).2 h)
theorem big_ses : ∀ (n : Nat) (s : TkM), (sesTs n s).2.big = false → s.big = false
  | 0, _, h => h
  | n + 1, s, h => big_born (big_ses n (bornM s).2 h)
theorem Got.sesTs {b : List UInt8} : ∀ (n : Nat) (s : TkM) (A : List UInt8), Got b s A → (sesTs n s).2.er = 0 → (sesTs n s).2.big = false → Got b (sesTs n s).2 (A ++ (sesTs n s).1.flatMap (sesOn [])) ∧ ∀ q ∈ (sesTs n s).1, q.scopes < 2 ^ 64
  | 0, s, A, h, _, _ => ⟨by show Got b s (A ++ []); rwa [List.append_nil], fun q hq => by cases hq⟩
  | n + 1, s, A, h, he, hb => by
    obtain ⟨h1, h2⟩ := h.born (er_ses n _ he) (big_ses n _ hb)
    obtain ⟨h3, h4⟩ := Got.sesTs n (bornM s).2 _ h1 he hb
    refine ⟨?_, fun q hq => ?_⟩
    · show Got b (Go.Proofs.YtgcnolapjppbpaaGreatDoor.sesTs n (bornM s).2).2 (A ++ ((bornM s).1 :: (Go.Proofs.YtgcnolapjppbpaaGreatDoor.sesTs n (bornM s).2).1).flatMap (sesOn []))
      rw [List.flatMap_cons, ← List.append_assoc, ← sesOn_app]; exact h3
    · rcases List.mem_cons.1 hq with rfl | hq
      · exact h2
      · exact h4 q hq
theorem finI_inv {s : TkM} {e f : StM} (h : finI s e = (0, f)) : s.er = 0 ∧ ¬ s.k < s.l.length ∧ s.big = false ∧ checkM e = none ∧ e = f := by
  unfold finI at h
  split at h
  · rename_i h0
    split at h
    · simp at h
    · rename_i h1
      split at h
      · simp at h
      · rename_i h2
        split at h
        · rename_i h3
          simp only [Prod.mk.injEq, true_and] at h
          exact ⟨h0, h1, by simpa using h2, h3, h⟩
        · simp at h
  · rename_i h0
    simp only [Prod.mk.injEq] at h
    exact absurd h.1 h0
theorem decI_inv {b : List UInt8} {st : StM} (h : decI b = (0, st)) : checkM st = none ∧ (∀ q ∈ st.l, q.scopes < 2 ^ 64) ∧ imgB st = b := by
  unfold decI at h
  simp only at h
  split at h
  · simp at h
  · obtain ⟨h1, h2, h3, h4, h5⟩ := finI_inv h
    have g0 : Got b ⟨b, 0, 0, false⟩ [] := ⟨rfl, Nat.zero_le _⟩
    have e3 := er_ses _ _ h1
    have b3 := big_ses _ _ h3
    rw [num_big] at b3
    have e2 := er_num e3
    have e1 := er_int e2
    have b1 := (int_big b3).1
    have g1 := g0.int e1 b1
    have g2 := g1.int e2 b3
    obtain ⟨g3, _⟩ := g2.num e3
    obtain ⟨g4, g5⟩ := Got.sesTs _ _ _ g3 h1 h3
    have g6 := g4.all h2
    subst h5
    refine ⟨h4, g5, Eq.trans ?_ g6.symm⟩
    have hb := imgB_eq (⟨(⟨b, 0, 0, false⟩ : TkM).int.1, (⟨b, 0, 0, false⟩ : TkM).int.2.int.1, (sesTs (⟨b, 0, 0, false⟩ : TkM).int.2.int.2.num.1 (⟨b, 0, 0, false⟩ : TkM).int.2.int.2.num.2).1⟩ : StM) []
    rw [List.append_nil, List.append_nil] at hb
    simp only at hb
    rw [sesTs_len] at hb
    generalize (⟨b, 0, 0, false⟩ : TkM).int = p at hb ⊢
    rw [hb]
    simp only [List.nil_append, List.append_assoc]
theorem numB_one {n : Int} (h1 : n < 128) : (numB n).length = 1 := by
  unfold numB sevM sevF
  rw [if_pos (by omega)]; rfl
theorem sesOn_tight {q : SesM} (h : mayS q = true) : (sesOn [] q).length ≤ 190 := by
  have hs := SesN.of h
  have hq := h
  unfold mayS at hq
  simp only [Bool.and_eq_true] at hq
  have a1 := numB_one (n := q.slot) (by have := fromM_yes hq.1; omega)
  have a2 := numB_one (n := q.level) (by have := fromM_yes hq.2.2.2.1; omega)
  unfold sesOn
  have h1 := fun n => numB_len n
  have h2 := fun n => sevM_len n
  have h3 := textB_len hs.user
  have h4 := textB_len hs.label
  simp only [List.length_append, List.length_nil]
  have := h1 q.birth; have := h1 q.upS; have := h1 q.upB; have := h1 q.kind; have := h2 q.scopes; have := h1 q.born; have := h1 q.deadline; have := h1 q.depth
  omega
theorem sesOns_tight : ∀ {l : List SesM}, (∀ s ∈ l, mayS s = true) → (l.flatMap (sesOn [])).length ≤ 190 * l.length
  | [], _ => by simp
  | s :: l, h => by
    have h1 := sesOn_tight (h s (by simp))
    have h2 := sesOns_tight (l := l) (fun q hq => h q (by simp [hq]))
    rw [List.flatMap_cons, List.length_append, List.length_cons]; omega
theorem imgB_tight {st : StM} (h : checkM st = none) : (imgB st).length ≤ 6144 := by
  obtain ⟨_, _, h3, h4⟩ := check_parts h
  have h5 := sesOns_tight h4
  have := numB_len3 st.clock st.births st.l.length
  unfold imgB
  rw [List.length_append]; omega
theorem imgB_pos {st : StM} : 0 < (imgB st).length := by
  have hs : ∀ n, 0 < (sevM n).length := fun n => by
    unfold sevM sevF; split <;> simp
  have := imgB_eq st []
  rw [List.append_nil, List.append_nil] at this
  rw [this, List.length_append]
  have := hs st.clock.toNat
  unfold numB; omega
end Go.Proofs.YtgcnolapjppbpaaGreatDoor
