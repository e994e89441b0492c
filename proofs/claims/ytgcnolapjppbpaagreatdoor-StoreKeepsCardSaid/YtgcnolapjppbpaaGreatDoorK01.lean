/-
  Texts of one proof, one behind the other.
-/

namespace Go.Proofs.YtgcnolapjppbpaaGreatDoor
def crcStep (r : UInt32) : UInt32 := (r >>> 1) ^^^ (0xedb88320 &&& -(r &&& 1))
def crcSteps : Nat → UInt32 → UInt32
  | 0, r => r
  | n + 1, r => crcStep (crcSteps n r)
def crcByte (r : UInt32) (c : UInt8) : UInt32 := crcSteps 8 (r ^^^ c.toUInt32)
def crcRun (r : UInt32) (l : List UInt8) : UInt32 := l.foldl crcByte r
def crc (l : List UInt8) : UInt32 := ~~~(crcRun 0xffffffff l)
theorem crcRun_snoc (r : UInt32) (l : List UInt8) (k : Nat) (h : k < l.length) : crcRun r (l.take (k + 1)) = crcByte (crcRun r (l.take k)) l[k] := by
  rw [List.take_succ_eq_append_getElem h, crcRun, List.foldl_append]; rfl
theorem crcRun_append (r : UInt32) (a b : List UInt8) : crcRun r (a ++ b) = crcRun (crcRun r a) b := by rw [crcRun, List.foldl_append]; rfl
end Go.Proofs.YtgcnolapjppbpaaGreatDoor
namespace Go.Proofs.YtgcnolapjppbpaaGreatDoor
def le (v : Nat) : Nat → List UInt8
  | 0 => []
  | n + 1 => UInt8.ofNat v :: le (v / 256) n
theorem le_length (v n : Nat) : (le v n).length = n := by induction n generalizing v with | zero => rfl | succ n ih => simp [le, ih]
def pre (e : UInt32) (n : Nat) : List UInt8 := 104 :: (le e.toNat 4 ++ le n 2)
def headM (e : UInt32) (p : List UInt8) : List UInt8 := pre e p.length ++ le (crc (pre e p.length ++ p)).toNat 4
theorem pre_length (e : UInt32) (n : Nat) : (pre e n).length = 7 := by simp [pre, le_length]
theorem headM_length (e : UInt32) (p : List UInt8) : (headM e p).length = 11 := by simp [headM, pre_length, le_length]
def restM : Nat → List UInt8 → List (List UInt8)
  | 0, _ => []
  | f + 1, p => if p.length = 0 then [] else (99 :: p.take 255) :: restM f (p.drop 255)
def frameM (e : UInt32) (p : List UInt8) : List (List UInt8) := (headM e p ++ p.take 245) :: restM 3 (p.drop 245)
def gather (size : Nat) : List UInt8 → List (List UInt8) → Nat → List UInt8 × Nat
  | p, [], n => (p, n)
  | p, s :: r, n => if p.length < size then (if s.length = 1 + min (size - p.length) 255 ∧ s.head? = some 99 then gather size (p ++ s.tail) r (n + 1) else (p, n)) else (p, n)
def sizeOf0 (b : List UInt8) : Nat := (b.getD 5 0).toNat + 256 * (b.getD 6 0).toNat
def oneM (e : UInt32) : List (List UInt8) → Option (List UInt8 × Nat)
  | [] => none
  | b :: r =>
    if b.length < 11 then none else
    if sizeOf0 b > 512 ∨ b.length ≠ 11 + min (sizeOf0 b) 245 then none else
    let g := gather (sizeOf0 b) (b.drop 11) r 1
    if g.1.length ≠ sizeOf0 b ∨ headM e g.1 ≠ b.take 11 then none else some g
def IsOne (e : UInt32) (l : List (List UInt8)) (p : List UInt8) (k : Nat) : Prop := p.length ≤ 512 ∧ k = (frameM e p).length ∧ l.take k = frameM e p
theorem sizeOf_head (e : UInt32) (p q : List UInt8) (h : p.length ≤ 512) : sizeOf0 (headM e p ++ q) = p.length := by
  have h5 : (headM e p ++ q).getD 5 0 = UInt8.ofNat p.length := by simp [headM, pre, le]
  have h6 : (headM e p ++ q).getD 6 0 = UInt8.ofNat (p.length / 256) := by simp [headM, pre, le]
  unfold sizeOf0
  rw [h5, h6]
  have a1 : (UInt8.ofNat p.length).toNat = p.length % 256 := by show p.length % 2 ^ 8 = _; rfl
  have a2 : (UInt8.ofNat (p.length / 256)).toNat = p.length / 256 % 256 := by show p.length / 256 % 2 ^ 8 = _; rfl
  rw [a1, a2]; omega
theorem gather_rest (size : Nat) : ∀ (f : Nat) (q p : List UInt8) (t : List (List UInt8)) (n : Nat), q.length ≤ 255 * f → p.length + q.length = size →
    gather size p (restM f q ++ t) n = (p ++ q, n + (restM f q).length)
  | 0, q, p, t, n, hq, hs => by
    have : q = [] := List.eq_nil_of_length_eq_zero (by omega)
    subst this
    simp only [restM, List.nil_append, List.append_nil, List.length_nil, Nat.add_zero]
    cases t with
    | nil => rfl
    | cons s t => rw [gather, if_neg (by simp at hs; omega)]
  | f + 1, q, p, t, n, hq, hs => by
    rw [restM]
    by_cases h0 : q.length = 0
    · have : q = [] := List.eq_nil_of_length_eq_zero h0
      subst this
      simp only [List.length_nil, if_true, List.nil_append, List.append_nil, Nat.add_zero]
      cases t with
      | nil => rfl
      | cons s t => rw [gather, if_neg (by simp at hs; omega)]
    · rw [if_neg h0, List.cons_append, gather, if_pos (by omega), if_pos ⟨by simp; omega, rfl⟩, List.tail_cons,
        gather_rest size f (q.drop 255) (p ++ q.take 255) t (n + 1) (by simp; omega) (by simp; omega)]
      simp only [List.append_assoc, List.take_append_drop, List.length_cons, Prod.mk.injEq, true_and]; omega
theorem oneM_frame (e : UInt32) (p : List UInt8) (t : List (List UInt8)) (h : p.length ≤ 512) : oneM e (frameM e p ++ t) = some (p, (frameM e p).length) := by
  have hsz := sizeOf_head e p (p.take 245) h
  have hl := headM_length e p
  unfold frameM
  rw [List.cons_append, oneM]
  rw [if_neg (by simp [hl]), hsz, if_neg (by simp [hl]; omega)]
  have hd : (headM e p ++ p.take 245).drop 11 = p.take 245 := by rw [← hl, List.drop_left]
  have ht : (headM e p ++ p.take 245).take 11 = headM e p := by rw [← hl, List.take_left]
  rw [hd, ht, gather_rest p.length 3 (p.drop 245) (p.take 245) t 1 (by simp; omega) (by simp; omega), List.take_append_drop]
  simp only [ne_eq, not_true_eq_false, or_self, if_false, List.length_cons, Option.some.injEq, Prod.mk.injEq, true_and]; omega
theorem gather_back (size : Nat) : ∀ (f : Nat) (r : List (List UInt8)) (p : List UInt8) (n : Nat), (gather size p r n).1.length = size → size - p.length ≤ 255 * f → p.length ≤ size →
    ∃ q, (gather size p r n).1 = p ++ q ∧ q.length = size - p.length ∧ (gather size p r n).2 = n + (restM f q).length ∧ r.take (restM f q).length = restM f q
  | f, [], p, n, hg, hf, hp => by
    rw [gather] at hg ⊢
    refine ⟨[], by simp, by simp at hg ⊢; omega, ?_, ?_⟩
    · cases f <;> simp [restM]
    · cases f <;> simp [restM]
  | f, s :: r, p, n, hg, hf, hp => by
    rw [gather] at hg ⊢
    by_cases h1 : p.length < size
    · rw [if_pos h1] at hg ⊢
      by_cases h2 : s.length = 1 + min (size - p.length) 255 ∧ s.head? = some 99
      · rw [if_pos h2] at hg ⊢
        obtain ⟨h2, h3⟩ := h2
        match f, hf with
        | 0, hf => omega
        | f + 1, hf =>
          have htl : s.tail.length = min (size - p.length) 255 := by simp; omega
          obtain ⟨q, g1, g2, g3, g4⟩ := gather_back size f r (p ++ s.tail) (n + 1) hg (by rw [List.length_append, htl]; omega) (by rw [List.length_append, htl]; omega)
          rw [List.length_append, htl] at g2
          have hql : (s.tail ++ q).length ≠ 0 := by rw [List.length_append, htl]; omega
          have ht : (s.tail ++ q).take 255 = s.tail := by
            by_cases hc : size - p.length ≤ 255
            · have : q = [] := List.eq_nil_of_length_eq_zero (by omega)
              subst this
              rw [List.append_nil, List.take_of_length_le (by omega)]
            · rw [List.take_append_of_le_length (by omega), List.take_of_length_le (by omega)]
          have hd : (s.tail ++ q).drop 255 = q := by
            by_cases hc : size - p.length ≤ 255
            · have : q = [] := List.eq_nil_of_length_eq_zero (by omega)
              subst this
              rw [List.append_nil, List.drop_eq_nil_of_le (by omega)]
            · have : s.tail.length = 255 := by omega
              rw [← this, List.drop_left]
          have hs : 99 :: s.tail = s := by
            cases s with
            | nil => simp at h3
            | cons a s => simp at h3; rw [h3]; rfl
          refine ⟨s.tail ++ q, by rw [g1, List.append_assoc], by rw [List.length_append, htl]; omega, ?_, ?_⟩
          · rw [restM, if_neg hql, hd, List.length_cons, g3]; omega
          · rw [restM, if_neg hql, hd, ht, List.length_cons, List.take_succ_cons, g4, hs]
      · rw [if_neg h2] at hg
        simp only at hg; omega
    · rw [if_neg h1] at hg ⊢
      refine ⟨[], by simp, by simp; omega, ?_, ?_⟩
      · cases f <;> simp [restM]
      · cases f <;> simp [restM]
theorem oneM_isOne (e : UInt32) (l : List (List UInt8)) (p : List UInt8) (k : Nat) : oneM e l = some (p, k) ↔ IsOne e l p k := by
  constructor
  · intro h
    cases l with
    | nil => cases h
    | cons b r =>
      rw [oneM] at h
      by_cases h1 : b.length < 11
      · rw [if_pos h1] at h; cases h
      rw [if_neg h1] at h
      by_cases h2 : sizeOf0 b > 512 ∨ b.length ≠ 11 + min (sizeOf0 b) 245
      · rw [if_pos h2] at h; cases h
      rw [if_neg h2] at h
      simp only at h
      by_cases h3 : (gather (sizeOf0 b) (b.drop 11) r 1).1.length ≠ sizeOf0 b ∨ headM e (gather (sizeOf0 b) (b.drop 11) r 1).1 ≠ b.take 11
      · rw [if_pos h3] at h; cases h
      rw [if_neg h3] at h
      simp only [not_or, Decidable.not_not] at h3
      obtain ⟨h4, h5⟩ := h3
      have hb : b.length = 11 + min (sizeOf0 b) 245 := by
        by_cases hb : b.length = 11 + min (sizeOf0 b) 245
        · exact hb
        · exact absurd (.inr hb) h2
      have h512 : sizeOf0 b ≤ 512 := by
        by_cases hs : sizeOf0 b ≤ 512
        · exact hs
        · exact absurd (.inl (by omega)) h2
      obtain ⟨q, g1, g2, g3, g4⟩ := gather_back (sizeOf0 b) 3 r (b.drop 11) 1 h4 (by simp; omega) (by simp; omega)
      simp only [Option.some.injEq] at h
      rw [h] at g1 g3 h4 h5
      simp only at g1 g3 h4 h5
      have hdl : (b.drop 11).length = min (sizeOf0 b) 245 := by simp; omega
      have ht : p.take 245 = b.drop 11 := by
        rw [g1]
        by_cases hc : sizeOf0 b ≤ 245
        · have : q = [] := List.eq_nil_of_length_eq_zero (by omega)
          subst this
          rw [List.append_nil, List.take_of_length_le (by omega)]
        · rw [List.take_append_of_le_length (by omega), List.take_of_length_le (by omega)]
      have hd : p.drop 245 = q := by
        rw [g1]
        by_cases hc : sizeOf0 b ≤ 245
        · have : q = [] := List.eq_nil_of_length_eq_zero (by omega)
          subst this
          rw [List.append_nil, List.drop_eq_nil_of_le (by omega)]
        · have : (b.drop 11).length = 245 := by omega
          rw [← this, List.drop_left]
      refine ⟨by omega, ?_, ?_⟩
      · unfold frameM; rw [List.length_cons, hd, g3]; omega
      · unfold frameM
        rw [hd, ht, h5, g3, List.take_append_drop, Nat.add_comm, List.take_succ_cons, g4]
  · rintro ⟨h1, h2, h3⟩
    have := oneM_frame e p (l.drop k) h1
    rw [← h3, List.take_append_drop] at this
    rw [this, h3, h2]
theorem frameM_pos (e : UInt32) (p : List UInt8) : 0 < (frameM e p).length := by simp [frameM]
theorem oneM_pos {e : UInt32} {l : List (List UInt8)} {p : List UInt8} {k : Nat} (h : oneM e l = some (p, k)) : 0 < k ∧ k ≤ l.length := by
  obtain ⟨h1, h2, h3⟩ := (oneM_isOne e l p k).1 h
  have := frameM_pos e p
  refine ⟨by omega, ?_⟩
  have := congrArg List.length h3
  simp at this; omega
end Go.Proofs.YtgcnolapjppbpaaGreatDoor
