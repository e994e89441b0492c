/-
  Texts of one proof, one behind the other.
-/
import Derived.Test.YtgcnolapjppbpaaGreatDoorK22
namespace Go.Proofs.YtgcnolapjppbpaaGreatDoor
open Go.RowKit
set_option maxRecDepth 100000
theorem numGo_sev : ∀ (k n i u : Nat) (r : List UInt8), 1 ≤ k → k + i = 10 → n * 2 ^ (7 * i) < 2 ^ 64 → (0 < i → 0 < n) → numGo i u (sevF k n ++ r) = (0, u + n * 2 ^ (7 * i), i + (sevF k n).length)
  | 0, _, _, _, _, h, _, _, _ => by omega
  | k + 1, n, i, u, r, _, hk, hn, hz => by
    have h9 : i = 9 → n ≤ 1 := fun e => by subst e; simp only [Nat.reduceMul, Nat.reducePow] at hn; omega
    unfold sevF
    by_cases h : n < 128
    · rw [if_pos h]
      have hb : (UInt8.ofNat n).toNat = n := by
        have : (UInt8.ofNat n).toNat = n % 256 := rfl
        omega
      show numGo i u (UInt8.ofNat n :: r) = _
      unfold numGo
      rw [hb, if_neg (by rintro (⟨h1, h2⟩ | ⟨h1, h2⟩); · have := h9 h1; omega
                         · have := hz h1; omega), if_pos h]
      rfl
    · rw [if_neg h]
      have hb : (UInt8.ofNat (n % 128 + 128)).toNat = n % 128 + 128 := by
        have : (UInt8.ofNat (n % 128 + 128)).toNat = (n % 128 + 128) % 256 := rfl
        omega
      show numGo i u (UInt8.ofNat (n % 128 + 128) :: (sevF k (n / 128) ++ r)) = _
      unfold numGo
      have hi : i < 9 := by
        rcases Nat.lt_or_ge i 9 with h1 | h1
        · exact h1
        · have := h9 (by omega); omega
      have hp : 2 ^ (7 * (i + 1)) = 2 ^ (7 * i) * 128 := by rw [show 7 * (i + 1) = 7 * i + 7 by omega, Nat.pow_add]
      have hdm : n / 128 * 128 + n % 128 = n := by omega
      have hle : n / 128 * 2 ^ (7 * (i + 1)) + n % 128 * 2 ^ (7 * i) = n * 2 ^ (7 * i) := by
        rw [hp, Nat.mul_comm (2 ^ (7 * i)) 128, ← Nat.mul_assoc, ← Nat.add_mul, hdm]
      rw [hb, if_neg (by omega), if_neg (by omega), numGo_sev k (n / 128) (i + 1) _ r (by omega) (by omega) (by omega) (fun _ => by omega)]
      rw [show n % 128 + 128 - 128 = n % 128 by omega, List.length_cons, ← hle]
      simp only [Prod.mk.injEq, true_and]
      exact ⟨by omega, by omega⟩
theorem numR_sev (n : Nat) (r : List UInt8) (h : n < 2 ^ 64) : numR (sevM n ++ r) = (0, n, (sevM n).length) := by
  unfold numR sevM
  rw [numGo_sev 10 n 0 0 r (by omega) (by omega) (by simpa using h) (fun h => by omega)]
  simp
theorem textR_text (m r : List UInt8) (h : m.length ≤ 32) : textR (textB m ++ r) = (0, m, (textB m).length) := by
  unfold textB textR
  rw [List.append_assoc, numR_sev m.length (m ++ r) (by omega)]
  simp only [if_true]
  rw [if_neg (by omega), if_neg (by rw [List.length_append, List.length_append]; omega), List.drop_left, List.take_left, List.length_append]
structure At (s : TkM) (A : List UInt8) : Prop where
  rest : s.rest = A
  er : s.er = 0
  big : s.big = false
  le : s.k ≤ s.l.length
theorem At.num {s : TkM} {n : Nat} {r : List UInt8} (h : At s (sevM n ++ r)) (hn : n < 2 ^ 64) : s.num.1 = n ∧ At s.num.2 r := by
  have h1 : s.num = (n, ⟨s.l, s.k + (sevM n).length, 0, s.big⟩) := by
    unfold TkM.num; rw [if_pos h.er, h.rest, numR_sev n r hn]; rfl
  have hl : s.l.length - s.k = (sevM n).length + r.length := by
    have := congrArg List.length h.rest
    unfold TkM.rest at this
    rwa [List.length_drop, List.length_append] at this
  have hle := h.le
  rw [h1]
  refine ⟨rfl, ?_, rfl, h.big, by show s.k + (sevM n).length ≤ s.l.length; omega⟩
  show s.l.drop (s.k + (sevM n).length) = r
  rw [← List.drop_drop]
  have := h.rest
  unfold TkM.rest at this
  rw [this, List.drop_left]
theorem At.txt {s : TkM} {m r : List UInt8} (h : At s (textB m ++ r)) (hm : m.length ≤ 32) : s.txt.1 = m ∧ At s.txt.2 r := by
  have h1 : s.txt = (m, ⟨s.l, s.k + (textB m).length, 0, s.big⟩) := by
    unfold TkM.txt; rw [if_pos h.er, h.rest, textR_text m r hm]; rfl
  have hl : s.l.length - s.k = (textB m).length + r.length := by
    have := congrArg List.length h.rest
    unfold TkM.rest at this
    rwa [List.length_drop, List.length_append] at this
  have hle := h.le
  rw [h1]
  refine ⟨rfl, ?_, rfl, h.big, by show s.k + (textB m).length ≤ s.l.length; omega⟩
  show s.l.drop (s.k + (textB m).length) = r
  rw [← List.drop_drop]
  have := h.rest
  unfold TkM.rest at this
  rw [this, List.drop_left]
theorem At.int {s : TkM} {n : Int} {r : List UInt8} (h : At s (numB n ++ r)) (hn : N63 n) : s.int.1 = n ∧ At s.int.2 r := by
  obtain ⟨n1, n2⟩ := hn
  obtain ⟨k, rfl⟩ : ∃ k : Nat, n = (k : Int) := ⟨n.toNat, by omega⟩
  obtain ⟨h1, h2⟩ := At.num (n := k) h (by omega)
  unfold TkM.int
  rw [h1]
  refine ⟨by show asInt k = _; unfold asInt; rw [if_pos (by omega)], h2.rest, h2.er, ?_, h2.le⟩
  show (s.num.2.big || !(decide (k ≤ 9223372036854775807))) = false
  rw [h2.big, decide_eq_true (by omega)]; rfl
theorem At.end {s : TkM} {e : EvtM} (h : At s []) (hm : mayE e = true) : endM s e = (0, e) := by
  have hk : ¬ s.k < s.l.length := by
    have := congrArg List.length h.rest
    unfold TkM.rest at this
    rw [List.length_drop] at this
    simp at this; omega
  unfold endM
  rw [if_pos h.er, if_neg hk, h.big, if_neg (by decide), if_pos hm]
theorem At.born {s : TkM} {q : SesM} (h : At s (sesOn [] q)) (hq : SesN q) (hsc : q.scopes < 2 ^ 64) : (bornM s).1 = q ∧ At (bornM s).2 [] := by
  unfold sesOn at h
  simp only [List.append_assoc, List.nil_append] at h
  obtain ⟨a1, a2⟩ := h.int hq.slot
  obtain ⟨b1, b2⟩ := a2.int hq.birth
  obtain ⟨c1, c2⟩ := b2.int hq.upS
  obtain ⟨d1, d2⟩ := c2.int hq.upB
  obtain ⟨f1, f2⟩ := d2.int hq.kind
  obtain ⟨u1, u2⟩ := f2.txt hq.user
  obtain ⟨l1, l2⟩ := u2.txt hq.label
  obtain ⟨s1, s2⟩ := l2.num hsc
  obtain ⟨g1, g2⟩ := s2.int hq.level
  obtain ⟨h1, h2⟩ := g2.int hq.born
  obtain ⟨i1, i2⟩ := h2.int hq.deadline
  obtain ⟨j1, j2⟩ := At.int (r := []) (by rw [List.append_nil]; exact i2) hq.depth
  exact ⟨by unfold bornM; simp only [a1, b1, c1, d1, f1, u1, l1, s1, g1, h1, i1, j1], j2⟩
theorem sesOn_app (A : List UInt8) (q : SesM) : sesOn A q = A ++ sesOn [] q := by unfold sesOn; simp only [List.append_assoc, List.nil_append]
theorem decM_evB {e : EvtM} (hm : mayE e = true) (hsc : e.s.scopes < 2 ^ 64) : decM (evB e) = (0, e) := by
  have h0 : At ⟨evB e, 0, 0, false⟩ (evB e) := ⟨rfl, rfl, rfl, Nat.zero_le _⟩
  unfold decM
  simp only
  cases k1 : (e.kind == 1)
  · cases k2 : (e.kind == 2)
    · have k0 : (e.kind == 0) = true := by
        cases k0 : (e.kind == 0)
        · rw [no_other k0 k1 k2] at hm; cases hm
        · rfl
      have hk : e.kind = 0 := by simpa using k0
      have he : evB e = sevM 0 ++ sesOn [] e.s := by
        unfold evB; rw [k1, k2]
        show sesOn (numB e.kind) e.s = _
        rw [sesOn_app, hk]; rfl
      have hh : At ⟨evB e, 0, 0, false⟩ (sevM 0 ++ sesOn [] e.s) := ⟨he, rfl, rfl, Nat.zero_le _⟩
      obtain ⟨p1, p2⟩ := hh.num (by omega)
      obtain ⟨q1, q2⟩ := p2.born (SesN.of (mayE_ses hm k0)) hsc
      rw [if_pos p2.er, p1, if_neg (by omega), if_pos rfl, q1]
      have hee : (⟨0, e.s, 0, 0⟩ : EvtM) = e := by
        unfold mayE at hm
        rw [k0] at hm
        simp only [if_true, Bool.and_eq_true, beq_iff_eq] at hm
        cases e; simp_all
      rw [hee]; exact q2.end hm
    · have hk : e.kind = 2 := by simpa using k2
      have k0 : (e.kind == 0) = false := by rw [hk]; rfl
      have he : evB e = sevM 2 ++ numB e.ticks := by
        unfold evB; rw [k1, k2]
        show numB e.kind ++ numB e.ticks = _
        rw [hk]; rfl
      have hh : At ⟨evB e, 0, 0, false⟩ (sevM 2 ++ numB e.ticks) := ⟨he, rfl, rfl, Nat.zero_le _⟩
      obtain ⟨p1, p2⟩ := hh.num (by omega)
      obtain ⟨q1, q2⟩ := At.int (r := []) (by rw [List.append_nil]; exact p2) (mayE_tick hm k0 k1).2
      rw [if_pos p2.er, p1, if_neg (by omega), if_neg (by omega), if_neg (by omega), q1]
      have hee : (⟨2, noSes, 0, e.ticks⟩ : EvtM) = e := by
        unfold mayE at hm
        rw [k0, k1, k2] at hm
        simp only [if_true, Bool.and_eq_true, beq_iff_eq, Bool.false_eq_true, if_false, sameS_iff] at hm
        cases e; simp_all
      rw [hee]; exact q2.end hm
  · have hk : e.kind = 1 := by simpa using k1
    have k0 : (e.kind == 0) = false := by rw [hk]; rfl
    have he : evB e = sevM 1 ++ numB e.birth := by
      unfold evB; rw [k1]
      show numB e.kind ++ numB e.birth = _
      rw [hk]; rfl
    have hh : At ⟨evB e, 0, 0, false⟩ (sevM 1 ++ numB e.birth) := ⟨he, rfl, rfl, Nat.zero_le _⟩
    obtain ⟨p1, p2⟩ := hh.num (by omega)
    obtain ⟨q1, q2⟩ := At.int (r := []) (by rw [List.append_nil]; exact p2) (mayE_revoke hm k0 k1)
    rw [if_pos p2.er, p1, if_neg (by omega), if_neg (by omega), if_pos rfl, q1]
    have hee : (⟨1, noSes, e.birth, 0⟩ : EvtM) = e := by
      unfold mayE at hm
      rw [k0, k1] at hm
      simp only [if_true, Bool.and_eq_true, beq_iff_eq, Bool.false_eq_true, if_false, sameS_iff] at hm
      cases e; simp_all
    rw [hee]; exact q2.end hm
end Go.Proofs.YtgcnolapjppbpaaGreatDoor
namespace Go.Proofs.YtgcnolapjppbpaaGreatDoor
open Go.RowKit
set_option maxRecDepth 100000
theorem numGo_cut : ∀ (k n i u p : Nat), k + i = 10 → n * 2 ^ (7 * i) < 2 ^ 64 → p < (sevF k n).length → numGo i u ((sevF k n).take p) = (2, 0, 0)
  | 0, _, _, _, p, _, _, hp => by simp [sevF] at hp
  | k + 1, n, i, u, p, hk, hn, hp => by
    cases p with
    | zero => rfl
    | succ p =>
      unfold sevF at hp ⊢
      by_cases h : n < 128
      · rw [if_pos h] at hp; simp at hp
      · rw [if_neg h] at hp ⊢
        have h9 : i = 9 → n ≤ 1 := fun e => by subst e; simp only [Nat.reduceMul, Nat.reducePow] at hn; omega
        have hb : (UInt8.ofNat (n % 128 + 128)).toNat = n % 128 + 128 := by
          have : (UInt8.ofNat (n % 128 + 128)).toNat = (n % 128 + 128) % 256 := rfl
          omega
        have hi : i < 9 := by
          rcases Nat.lt_or_ge i 9 with h1 | h1
          · exact h1
          · have := h9 (by omega); omega
        have hq : 2 ^ (7 * (i + 1)) = 2 ^ (7 * i) * 128 := by rw [show 7 * (i + 1) = 7 * i + 7 by omega, Nat.pow_add]
        have hdm : n / 128 * 128 + n % 128 = n := by omega
        have hle : n / 128 * 2 ^ (7 * (i + 1)) + n % 128 * 2 ^ (7 * i) = n * 2 ^ (7 * i) := by
          rw [hq, Nat.mul_comm (2 ^ (7 * i)) 128, ← Nat.mul_assoc, ← Nat.add_mul, hdm]
        show numGo i u (UInt8.ofNat (n % 128 + 128) :: (sevF k (n / 128)).take p) = _
        unfold numGo
        rw [hb, if_neg (by omega), if_neg (by omega)]
        exact numGo_cut k (n / 128) (i + 1) _ p (by omega) (by omega) (by simpa using hp)
theorem numR_cut (n p : Nat) (r : List UInt8) (h : n < 2 ^ 64) (hp : p < (sevM n).length) : numR ((sevM n ++ r).take p) = (2, 0, 0) := by
  rw [List.take_append_of_le_length (by omega)]
  exact numGo_cut 10 n 0 0 p (by omega) (by simpa using h) hp
theorem take_app (A B : List UInt8) (p : Nat) (h : A.length ≤ p) : (A ++ B).take p = A ++ B.take (p - A.length) := by
  rw [List.take_append]; rw [List.take_of_length_le h]
def Cut (s : TkM) (A : List UInt8) (p : Nat) : Prop := (At s (A.take p) ∧ p < A.length) ∨ s.er = 2
theorem num_stay {s : TkM} (h : s.er = 2) : s.num.2.er = 2 := by unfold TkM.num; rw [if_neg (by omega)]; exact h
theorem txt_stay {s : TkM} (h : s.er = 2) : s.txt.2.er = 2 := by unfold TkM.txt; rw [if_neg (by omega)]; exact h
theorem Cut.num {s : TkM} {n p : Nat} {r : List UInt8} (h : Cut s (sevM n ++ r) p) (hn : n < 2 ^ 64) : Cut s.num.2 r (p - (sevM n).length) ∧ (s.num.2.er = 0 → s.num.1 = n) := by
  rcases h with ⟨ha, hp⟩ | h
  · rcases Nat.lt_or_ge p (sevM n).length with h1 | h1
    · have hr := ha.rest
      have h2 : s.num = (0, ⟨s.l, s.k, 2, s.big⟩) := by
        unfold TkM.num; rw [if_pos ha.er, hr, numR_cut n p r hn h1]; rfl
      rw [h2]; exact ⟨.inr rfl, fun h => absurd h (by show ¬ (2 : Int) = 0; decide)⟩
    · rw [take_app _ _ _ h1] at ha
      obtain ⟨h3, h4⟩ := ha.num hn
      rw [List.length_append] at hp
      exact ⟨.inl ⟨h4, by omega⟩, fun _ => h3⟩
  · have := num_stay h
    exact ⟨.inr this, fun e => by omega⟩
theorem Cut.int {s : TkM} {n : Int} {p : Nat} {r : List UInt8} (h : Cut s (numB n ++ r) p) (hn : N63 n) : Cut s.int.2 r (p - (numB n).length) := by
  rcases h with ⟨ha, hp⟩ | h
  · rcases Nat.lt_or_ge p (numB n).length with h1 | h1
    · have hr := ha.rest
      have h2 : s.num = (0, ⟨s.l, s.k, 2, s.big⟩) := by
        unfold TkM.num; rw [if_pos ha.er, hr]
        unfold numB at h1 ⊢
        rw [numR_cut n.toNat p r (by obtain ⟨_, _⟩ := hn; omega) h1]; rfl
      refine .inr ?_
      show s.num.2.er = 2
      rw [h2]
    · rw [take_app _ _ _ h1] at ha
      have h4 := (ha.int hn).2
      rw [List.length_append] at hp
      exact .inl ⟨h4, by omega⟩
  · exact .inr (num_stay h)
theorem Cut.txt {s : TkM} {m r : List UInt8} {p : Nat} (h : Cut s (textB m ++ r) p) (hm : m.length ≤ 32) : Cut s.txt.2 r (p - (textB m).length) := by
  rcases h with ⟨ha, hp⟩ | h
  · rcases Nat.lt_or_ge p (textB m).length with h1 | h1
    · have hr := ha.rest
      have h2 : textR ((textB m ++ r).take p) = (2, [], 0) := by
        unfold textB at h1 ⊢
        rcases Nat.lt_or_ge p (sevM m.length).length with h3 | h3
        · rw [List.append_assoc]
          unfold textR
          rw [numR_cut m.length p _ (by omega) h3]; rfl
        · rw [List.append_assoc, take_app _ _ _ h3]
          unfold textR
          rw [numR_sev m.length _ (by omega)]
          simp only [if_true]
          rw [List.length_append] at h1
          rw [if_neg (by omega), if_pos (by rw [List.length_append, List.length_take, List.length_append]; omega)]
      have h5 : s.txt = ([], ⟨s.l, s.k, 2, s.big⟩) := by
        unfold TkM.txt; rw [if_pos ha.er, hr, h2]; rfl
      rw [h5]; exact .inr rfl
    · rw [take_app _ _ _ h1] at ha
      have h4 := (ha.txt hm).2
      rw [List.length_append] at hp
      exact .inl ⟨h4, by omega⟩
  · exact .inr (txt_stay h)
theorem Cut.nil {s : TkM} {p : Nat} (h : Cut s [] p) : s.er = 2 := by
  rcases h with ⟨_, h⟩ | h
  · simp at h
  · exact h
theorem Cut.end {s : TkM} {p : Nat} (h : Cut s [] p) (e : EvtM) : endM s e = (2, noEvt) := by
  unfold endM; rw [if_neg (by rw [h.nil]; decide), h.nil]
theorem Cut.born {s : TkM} {q : SesM} {p : Nat} (h : Cut s (sesOn [] q) p) (hq : SesN q) (hsc : q.scopes < 2 ^ 64) : ∃ p', Cut (bornM s).2 [] p' := by
  unfold sesOn at h
  simp only [List.append_assoc, List.nil_append] at h
  have a := h.int hq.slot
  have b := a.int hq.birth
  have c := b.int hq.upS
  have d := c.int hq.upB
  have f := d.int hq.kind
  have u := f.txt hq.user
  have l := u.txt hq.label
  have sc := (l.num hsc).1
  have g := sc.int hq.level
  have hh := g.int hq.born
  have i := hh.int hq.deadline
  have j := Cut.int (r := []) (by rw [List.append_nil]; exact i) hq.depth
  exact ⟨_, j⟩
theorem At.more {s : TkM} {c : UInt8} (h : At s [c]) (e : EvtM) : endM s e = (3, noEvt) := by
  have hk : s.k < s.l.length := by
    have := congrArg List.length h.rest
    unfold TkM.rest at this
    rw [List.length_drop] at this
    simp at this; omega
  unfold endM
  rw [if_pos h.er, if_pos hk]
theorem At.bornR {s : TkM} {q : SesM} {r : List UInt8} (h : At s (sesOn [] q ++ r)) (hq : SesN q) (hsc : q.scopes < 2 ^ 64) : At (bornM s).2 r := by
  unfold sesOn at h
  simp only [List.append_assoc, List.nil_append] at h
  have a := (h.int hq.slot).2
  have b := (a.int hq.birth).2
  have c := (b.int hq.upS).2
  have d := (c.int hq.upB).2
  have f := (d.int hq.kind).2
  have u := (f.txt hq.user).2
  have l := (u.txt hq.label).2
  have sc := (l.num hsc).2
  have g := (sc.int hq.level).2
  have hh := (g.int hq.born).2
  have i := (hh.int hq.deadline).2
  exact (i.int hq.depth).2
end Go.Proofs.YtgcnolapjppbpaaGreatDoor
