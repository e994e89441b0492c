/-
  Texts of one proof, one behind the other.
-/
import Derived.Test.YtgcnolapjppbpaaGreatDoorK07
namespace Go.Proofs.YtgcnolapjppbpaaGreatDoor
open Go.RowKit
set_option maxRecDepth 100000
theorem write_yes (d : DiskM) (i : Int) (s : ByteArray) (h : 0 ≤ i ∧ i < d.strs.length) (hs : s.size ≤ 256) (hl : d.left ≠ some 0) : d.write i s = ({ strs := d.strs.set i.toNat s, trail := d.trail ++ [(i, s)], left := d.left.map (· - 1) }, 0) := by
  unfold DiskM.write
  rw [if_neg (by omega), if_neg (by omega), if_neg hl]
theorem write_cut (d : DiskM) (i : Int) (s : ByteArray) (h : 0 ≤ i ∧ i < d.strs.length) (hs : s.size ≤ 256) (hl : d.left = some 0) : d.write i s = (d, 22) := by
  unfold DiskM.write
  rw [if_neg (by omega), if_neg (by omega), if_pos hl]
theorem write_same (d : DiskM) (i : Int) (s : ByteArray) (h : (d.write i s).2 ≠ 0) : (d.write i s).1 = d := by
  unfold DiskM.write at *
  split
  · rfl
  split
  · rfl
  split
  · rfl
  · rename_i h1 h2 h3
    rw [if_neg h1, if_neg h2, if_neg h3] at h
    exact absurd rfl h
theorem readB_in (d : DiskM) (i : Int) (h : 0 ≤ i ∧ i < d.strs.length) : readB d i = LB (d.strs.getD i.toNat ByteArray.empty) := by
  unfold readB DiskM.read; rw [if_pos h]
theorem readB_out (d : DiskM) (i : Int) (h : ¬ (0 ≤ i ∧ i < d.strs.length)) : readB d i = [] := by
  unfold readB DiskM.read; rw [if_neg h]; rfl
theorem readB_other (d : DiskM) (i j : Int) (s : ByteArray) (h : i ≠ j) : readB (d.write i s).1 j = readB d j := by
  by_cases hw : (d.write i s).2 = 0
  · by_cases hj : 0 ≤ j ∧ j < d.strs.length
    · have hl := d.write_len i s
      rw [readB_in _ _ (by rw [hl]; exact hj), readB_in _ _ hj]
      unfold DiskM.write at *
      split at hw
      · simp at hw
      split at hw
      · simp at hw
      split at hw
      · simp at hw
      · rename_i h1 h2 h3
        rw [if_neg h1, if_neg h2, if_neg h3]
        have : i.toNat ≠ j.toNat := by omega
        simp only [List.getD, List.getElem?_set]
        rw [if_neg this]
    · have hl := d.write_len i s
      rw [readB_out _ _ (by rw [hl]; exact hj), readB_out _ _ hj]
  · rw [write_same d i s hw]
theorem readB_self (d : DiskM) (i : Int) (s : ByteArray) (h : (d.write i s).2 = 0) : readB (d.write i s).1 i = LB s := by
  unfold DiskM.write at *
  split at h
  · simp at h
  split at h
  · simp at h
  split at h
  · simp at h
  · rename_i h1 h2 h3
    rw [if_neg h1, if_neg h2, if_neg h3, readB_in _ _ (by simp; omega)]
    have : i.toNat < d.strs.length := by omega
    simp [List.getD, this]
theorem putAll_other : ∀ (l : List (List UInt8)) (d : DiskM) (b j : Int), (j < b ∨ b + l.length ≤ j) → readB (putAll d b l).1 j = readB d j
  | [], d, b, j, _ => rfl
  | c :: r, d, b, j, h => by
    rw [List.length_cons] at h
    rw [putAll]
    split
    · rw [putAll_other r _ (b + 1) j (by omega), readB_other _ _ _ _ (by omega)]
    · exact readB_other _ _ _ _ (by omega)
theorem putAll_yes : ∀ (l : List (List UInt8)) (d : DiskM) (b : Int), 0 ≤ b → b + l.length ≤ d.strs.length → (∀ c ∈ l, c.length ≤ 256) → (∀ k, d.left = some k → l.length ≤ k) →
    (putAll d b l).2 = 0 ∧ (∀ i, i < l.length → readB (putAll d b l).1 (b + i) = l.getD i []) ∧ (putAll d b l).1.left = d.left.map (· - l.length)
  | [], d, b, _, _, _, _ => by
    refine ⟨rfl, fun i hi => by simp at hi, ?_⟩
    cases hd : d.left with
    | none => simp [putAll, hd]
    | some k => simp [putAll, hd]
  | c :: r, d, b, h0, hb, hc, hk => by
    rw [List.length_cons] at hb hk
    have hw := write_yes d b (SB c) ⟨h0, by omega⟩ (by rw [SB_size]; exact hc c (by simp)) (fun e => by have := hk 0 e; omega)
    have h1 : (d.write b (SB c)).2 = 0 := by rw [hw]
    have hl := d.write_len b (SB c)
    have hle : (d.write b (SB c)).1.left = d.left.map (· - 1) := by rw [hw]
    obtain ⟨g1, g2, g3⟩ := putAll_yes r (d.write b (SB c)).1 (b + 1) (by omega) (by rw [hl]; omega) (fun x hx => hc x (by simp [hx])) (fun k hk' => by
      rw [hle] at hk'
      cases hd : d.left with
      | none => rw [hd] at hk'; cases hk'
      | some m => rw [hd] at hk'; simp at hk'; have := hk m hd; omega)
    rw [putAll, if_pos h1]
    refine ⟨g1, fun i hi => ?_, ?_⟩
    · cases i with
      | zero =>
        rw [putAll_other r _ _ _ (by left; simp; omega)]
        simp only [Int.natCast_zero, Int.add_zero, List.getD_cons_zero]
        rw [readB_self _ _ _ h1, LB_SB]
      | succ i =>
        rw [List.length_cons] at hi
        have := g2 i (by omega)
        rw [show b + ((i + 1 : Nat) : Int) = b + 1 + (i : Int) by omega, this, List.getD_cons_succ]
    · rw [g3, hle]
      cases d.left with
      | none => rfl
      | some k => simp; omega
theorem putAll_cut : ∀ (l : List (List UInt8)) (d : DiskM) (b : Int) (k : Nat), 0 ≤ b → b + l.length ≤ d.strs.length → (∀ c ∈ l, c.length ≤ 256) → d.left = some k → k < l.length → (putAll d b l).2 = 22
  | [], d, b, k, _, _, _, _, h => by simp at h
  | c :: r, d, b, k, h0, hb, hc, hk, h => by
    rw [List.length_cons] at hb h
    cases k with
    | zero =>
      have hw := write_cut d b (SB c) ⟨h0, by omega⟩ (by rw [SB_size]; exact hc c (by simp)) hk
      rw [putAll, if_neg (by rw [hw]; simp), hw]
    | succ k =>
      have hw := write_yes d b (SB c) ⟨h0, by omega⟩ (by rw [SB_size]; exact hc c (by simp)) (by rw [hk]; simp)
      rw [putAll, if_pos (by rw [hw])]
      exact putAll_cut r _ (b + 1) k (by omega) (by rw [d.write_len]; omega) (fun x hx => hc x (by simp [hx])) (by rw [hw, hk]; rfl) (by omega)
theorem chunks_le : ∀ (f : Nat) (p : List UInt8), ∀ c ∈ chunks f p, c.length ≤ 256
  | 0, p, c, h => by simp [chunks] at h
  | f + 1, p, c, h => by
    rw [chunks] at h
    split at h
    · simp at h
    · rcases List.mem_cons.1 h with rfl | h
      · rw [List.length_take]; omega
      · exact chunks_le f _ c h
def blocksA (m : Nat) : Nat := (m + 255) / 256
theorem chunks_count : ∀ (f : Nat) (p : List UInt8), p.length ≤ f → (chunks f p).length = blocksA p.length
  | 0, p, h => by
    have : p = [] := List.eq_nil_of_length_eq_zero (by omega)
    subst this; rfl
  | f + 1, p, h => by
    rw [chunks]
    split
    · rename_i h1; subst h1; rfl
    · rename_i h1
      have hp : 0 < p.length := List.length_pos_iff.2 h1
      rw [List.length_cons, chunks_count f _ (by rw [List.length_drop]; omega), List.length_drop]
      unfold blocksA; omega
theorem chunks_get : ∀ (f : Nat) (p : List UInt8) (i : Nat), p.length ≤ f → i < (chunks f p).length → (chunks f p).getD i [] = (p.drop (i * 256)).take 256
  | 0, p, i, h, hi => by simp [chunks] at hi
  | f + 1, p, i, h, hi => by
    rw [chunks] at hi ⊢
    split
    · rename_i h1; rw [if_pos h1] at hi; simp at hi
    · rename_i h1
      rw [if_neg h1, List.length_cons] at hi
      have hp : 0 < p.length := List.length_pos_iff.2 h1
      cases i with
      | zero => simp
      | succ i =>
        rw [List.getD_cons_succ, chunks_get f _ i (by rw [List.length_drop]; omega) (by omega), List.drop_drop]
        congr 2; omega
structure Holds (d : DiskM) (at_ n : Int) (e : Nat) (p : List UInt8) : Prop where
  may : mayA d.strs.length at_ n
  fits : (p.length : Int) ≤ n * 256
  small : d.strs.length ≤ 4096
  head : readB d at_ = hdrM e p
  body : ∀ i, i < blocksA p.length → readB d (firstA at_ n e + i) = (p.drop (i * 256)).take 256
theorem Holds.room {d : DiskM} {at_ n : Int} {e : Nat} {p : List UInt8} (h : Holds d at_ n e p) : (blocksA p.length : Int) ≤ n ∧ n ≤ 2048 ∧ p.length ≤ 524288 := by
  have h1 := h.fits
  have h2 := h.may
  have h3 := h.small
  unfold mayA at h2
  unfold blocksA
  omega
theorem num4_le (m : Nat) (hm : m < 4294967296) (a b : List UInt8) : num4 (a ++ le m 4 ++ b) a.length = m := by
  have hof : ∀ k : Nat, (UInt8.ofNat k).toNat = k % 256 := fun k => by show k % 2 ^ 8 = _; rfl
  have hg : ∀ j, j < 4 → (a ++ le m 4 ++ b).getD (a.length + j) 0 = (le m 4).getD j 0 := fun j hj => by
    rw [List.append_assoc, List.getD, List.getElem?_append_right (by omega), List.getElem?_append_left (by rw [le_length]; omega)]
    rw [Nat.add_sub_cancel_left]; rfl
  have h0 := hg 0 (by omega)
  rw [Nat.add_zero] at h0
  unfold num4
  rw [h0, hg 1 (by omega), hg 2 (by omega), hg 3 (by omega)]
  simp only [le, List.getD_cons_zero, List.getD_cons_succ, hof]
  omega
theorem hdr_num (e : Nat) (p : List UInt8) (he : e < 4294967296) (hp : p.length < 4294967296) : num4 (hdrM e p) 0 = e ∧ num4 (hdrM e p) 4 = p.length := by
  constructor
  · have := num4_le e he [] (le p.length 4 ++ le (crc p).toNat 4 ++ le (crc (hd12 e p)).toNat 4)
    simpa [hdrM, hd12, List.append_assoc] using this
  · have := num4_le p.length hp (le e 4) (le (crc p).toNat 4 ++ le (crc (hd12 e p)).toNat 4)
    rw [le_length] at this
    simpa [hdrM, hd12, List.append_assoc] using this
theorem lies_holds (d : DiskM) (p : List UInt8) (fb : Int) (hb : ∀ i, i < blocksA p.length → readB d (fb + i) = (p.drop (i * 256)).take 256) :
    ∀ (f i : Nat), p.length - min (i * 256) p.length < f → liesM d f (fb + i) p.length (p.take (i * 256)) = some p
  | 0, i, h => by omega
  | f + 1, i, h => by
    by_cases hi : i * 256 < p.length
    · have hib : i < blocksA p.length := by unfold blocksA; omega
      have hl : (p.take (i * 256)).length = i * 256 := by rw [List.length_take]; omega
      have hr := hb i hib
      have hrl : (readB d (fb + i)).length = min 256 (p.length - i * 256) := by rw [hr, List.length_take, List.length_drop]
      rw [liesM, if_pos (by rw [hl]; exact hi), if_neg (by rw [hl, hrl]; omega)]
      have ht : (readB d (fb + i)).take (min (p.length - (p.take (i * 256)).length) 256) = (p.drop (i * 256)).take 256 := by
        rw [List.take_of_length_le (by rw [hrl, hl]; omega), hr]
      have hap : p.take (i * 256) ++ (p.drop (i * 256)).take 256 = p.take ((i + 1) * 256) := by
        rw [show (i + 1) * 256 = i * 256 + 256 by omega, List.take_add]
      rw [ht, hap, show fb + (i : Int) + 1 = fb + ((i + 1 : Nat) : Int) by omega]
      exact lies_holds d p fb hb f (i + 1) (by omega)
    · rw [List.take_of_length_le (by omega), liesM, if_neg (by omega)]
theorem hdrM_ne (e : Nat) (p : List UInt8) : hdrM e p ≠ [] := fun h => by
  have := congrArg List.length h
  rw [hdrM_length] at this; simp at this
theorem Holds.load {d : DiskM} {at_ n : Int} {e : Nat} {p : List UInt8} (h : Holds d at_ n e p) (he : e < 4294967296) : loadM d at_ n = (e, p, 0) := by
  have hr := h.room
  obtain ⟨h1, h2⟩ := hdr_num e p he (by omega)
  unfold loadM
  rw [if_pos h.may, h.head, if_neg (hdrM_ne e p), if_pos (hdrM_length e p), h1, h2, if_neg (by have := h.fits; omega)]
  have := lies_holds d p (firstA at_ n e) h.body (p.length + 1) 0 (by omega)
  simp only [Int.natCast_zero, Int.add_zero, Nat.zero_mul, List.take_zero] at this
  rw [this]
  simp
theorem Holds.write {d : DiskM} {at_ n : Int} {e : Nat} {p : List UInt8} (h : Holds d at_ n e p) (i : Int) (s : ByteArray) (hi : i < at_ ∨ at_ + 2 * n < i) : Holds (d.write i s).1 at_ n e p := by
  have hm := h.may
  unfold mayA at hm
  have hr := h.room
  have hf : at_ + 1 ≤ firstA at_ n e ∧ firstA at_ n e + n ≤ at_ + 1 + 2 * n := by
    unfold firstA
    rcases Nat.mod_two_eq_zero_or_one e with h2 | h2 <;> rw [h2] <;> simp <;> omega
  refine ⟨by rw [d.write_len]; exact h.may, h.fits, by rw [d.write_len]; exact h.small, ?_, fun j hj => ?_⟩
  · rw [readB_other _ _ _ _ (by omega)]; exact h.head
  · rw [readB_other _ _ _ _ (by omega)]; exact h.body j hj
theorem save_yes (d : DiskM) (at_ n : Int) (e : Nat) (p : List UInt8) (hm : mayA d.strs.length at_ n) (hs : d.strs.length ≤ 4096) (hp : (p.length : Int) ≤ n * 256) (hk : ∀ k, d.left = some k → blocksA p.length < k) :
    (saveM d at_ n e p).2 = 0 ∧ Holds (saveM d at_ n e p).1 at_ n e p ∧ (saveM d at_ n e p).1.left = d.left.map (· - (blocksA p.length + 1)) := by
  have hm' := hm
  unfold mayA at hm'
  have hcl := chunks_count p.length p (Nat.le_refl _)
  have hb : (blocksA p.length : Int) ≤ n := by unfold blocksA; omega
  have hf : at_ + 1 ≤ firstA at_ n e ∧ firstA at_ n e + n ≤ at_ + 1 + 2 * n := by
    unfold firstA
    rcases Nat.mod_two_eq_zero_or_one e with h2 | h2 <;> rw [h2] <;> simp <;> omega
  obtain ⟨g1, g2, g3⟩ := putAll_yes (chunks p.length p) d (firstA at_ n e) (by omega) (by rw [hcl]; omega) (chunks_le _ _) (fun k h => by rw [hcl]; have := hk k h; omega)
  have hl := putAll_len d (firstA at_ n e) (chunks p.length p)
  obtain ⟨d1, hd1⟩ : ∃ d1, d1 = (putAll d (firstA at_ n e) (chunks p.length p)).1 := ⟨_, rfl⟩
  have hsv : saveM d at_ n e p = d1.write at_ (SB (hdrM e p)) := by
    unfold saveM; rw [if_pos hm, if_neg (by omega), if_pos g1, hd1]
  rw [← hd1] at g2 g3 hl
  have hw := write_yes d1 at_ (SB (hdrM e p)) (by rw [hl]; omega) (by rw [SB_size, hdrM_length]; omega) (fun h => by
    rw [g3] at h
    cases hd : d.left with
    | none => rw [hd] at h; cases h
    | some k => rw [hd] at h; simp at h; have := hk k hd; rw [hcl] at h; omega)
  have hw0 : (d1.write at_ (SB (hdrM e p))).2 = 0 := by rw [hw]
  rw [hsv]
  refine ⟨hw0, ⟨by rw [d1.write_len, hl]; exact hm, hp, by rw [d1.write_len, hl]; exact hs, ?_, fun i hi => ?_⟩, ?_⟩
  · rw [readB_self _ _ _ hw0, LB_SB]
  · rw [readB_other _ _ _ _ (by omega), g2 i (by rw [hcl]; exact hi), chunks_get _ _ _ (Nat.le_refl _) (by rw [hcl]; exact hi)]
  · rw [hw]
    show d1.left.map (· - 1) = _
    rw [g3, hcl]
    cases d.left with
    | none => rfl
    | some k => simp; omega
theorem save_cut (d : DiskM) (at_ n : Int) (e e2 : Nat) (p q : List UInt8) (h : Holds d at_ n e p) (hq : (q.length : Int) ≤ n * 256) (k : Nat) (hk : d.left = some k) (hkb : k ≤ blocksA q.length) (he : e2 % 2 ≠ e % 2) :
    (saveM d at_ n e2 q).2 = 22 ∧ Holds (saveM d at_ n e2 q).1 at_ n e p := by
  have hm := h.may
  have hm' := hm
  unfold mayA at hm'
  have hr := h.room
  have hcl := chunks_count q.length q (Nat.le_refl _)
  have hb : (blocksA q.length : Int) ≤ n := by unfold blocksA; omega
  have hf : at_ + 1 ≤ firstA at_ n e2 ∧ firstA at_ n e2 + n ≤ at_ + 1 + 2 * n ∧ (firstA at_ n e + n ≤ firstA at_ n e2 ∨ firstA at_ n e2 + n ≤ firstA at_ n e) ∧ at_ + 1 ≤ firstA at_ n e := by
    unfold firstA
    rcases Nat.mod_two_eq_zero_or_one e with h1 | h1 <;> rcases Nat.mod_two_eq_zero_or_one e2 with h2 | h2 <;> rw [h1, h2] <;> simp <;> omega
  obtain ⟨d1, hd1⟩ : ∃ d1, d1 = (putAll d (firstA at_ n e2) (chunks q.length q)).1 := ⟨_, rfl⟩
  have hl := putAll_len d (firstA at_ n e2) (chunks q.length q)
  have hold : Holds d1 at_ n e p := by
    refine ⟨by rw [hd1, hl]; exact hm, h.fits, by rw [hd1, hl]; exact h.small, ?_, fun j hj => ?_⟩
    · rw [hd1, putAll_other _ _ _ _ (by rw [hcl]; omega)]; exact h.head
    · rw [hd1, putAll_other _ _ _ _ (by rw [hcl]; omega)]; exact h.body j hj
  rcases Nat.lt_or_ge k (blocksA q.length) with h1 | h1
  · have h22 := putAll_cut (chunks q.length q) d (firstA at_ n e2) k (by omega) (by rw [hcl]; omega) (chunks_le _ _) hk (by rw [hcl]; exact h1)
    have hsv : saveM d at_ n e2 q = putAll d (firstA at_ n e2) (chunks q.length q) := by
      unfold saveM; rw [if_pos hm, if_neg (by omega), if_neg (by rw [h22]; simp)]
    rw [hsv, h22, ← hd1]
    exact ⟨rfl, hold⟩
  · obtain ⟨g1, g2, g3⟩ := putAll_yes (chunks q.length q) d (firstA at_ n e2) (by omega) (by rw [hcl]; omega) (chunks_le _ _) (fun k' h' => by rw [hk] at h'; injection h' with h'; rw [hcl]; omega)
    have hle : d1.left = some 0 := by rw [hd1, g3, hk, hcl]; simp; omega
    have hw := write_cut d1 at_ (SB (hdrM e2 q)) (by rw [hd1, hl]; omega) (by rw [SB_size, hdrM_length]; omega) hle
    have hsv : saveM d at_ n e2 q = d1.write at_ (SB (hdrM e2 q)) := by
      unfold saveM; rw [if_pos hm, if_neg (by omega), if_pos g1, hd1]
    rw [hsv, hw]
    exact ⟨rfl, hold⟩
end Go.Proofs.YtgcnolapjppbpaaGreatDoor
