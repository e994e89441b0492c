/-
  AreaKnown, plainly: an image of which a byte is turned isn't told.
-/
import Derived.Test.YtbmijamailfaeaaDoorAreaK1
namespace Go.Proofs.YtbmijamailfaeaaDoor
open Go.RowKit
set_option maxRecDepth 100000

/-- A byte is turned. -/
def turnB (l : List UInt8) (k : Nat) : List UInt8 := l.set k (l.getD k 0 ^^^ 64)
theorem turnB_length (l : List UInt8) (k : Nat) : (turnB l k).length = l.length := by simp [turnB]
theorem turnB_cut (l : List UInt8) (k : Nat) (h : k < l.length) : l.take k ++ [l.getD k 0 ^^^ 64] ++ l.drop (k + 1) = turnB l k := by
  unfold turnB
  rw [List.set_eq_take_append_cons_drop, if_pos h]; simp
theorem crc_turn (l : List UInt8) (k : Nat) (h : k < l.length) : crc (turnB l k) ≠ crc l := by
  have hf := crc_flip 0xffffffff l (8 * k + 6) (by omega)
  rw [show (8 * k + 6) / 8 = k by omega, show (8 * k + 6) % 8 = 6 by omega] at hf
  intro e
  have := (crc_ne hf).1 e.symm
  exact absurd this (by decide)
theorem turnB_ne (l : List UInt8) (k : Nat) (h : k < l.length) : turnB l k ≠ l := fun e => crc_turn l k h (by rw [e])
theorem le4_inj {a b : Nat} (ha : a < 4294967296) (hb : b < 4294967296) (h : le a 4 = le b 4) : a = b := by
  have h1 := num4_le a ha [] []
  have h2 := num4_le b hb [] []
  simp only [List.nil_append, List.append_nil, List.length_nil] at h1 h2
  rw [← h1, ← h2, h]
theorem crc4_inj {a b : List UInt8} (h : le (crc a).toNat 4 = le (crc b).toNat 4) : crc a = crc b := UInt32.toNat_inj.1 (le4_inj (crc a).toNat_lt (crc b).toNat_lt h)
/-- A header says of itself. -/
theorem hdr_own (e : Nat) (p : List UInt8) : (hdrM e p).drop 12 = le (crc ((hdrM e p).take 12)).toNat 4 := by
  unfold hdrM
  rw [List.drop_append_of_le_length (by rw [hd12_length]; omega), List.drop_eq_nil_of_le (by rw [hd12_length]; omega), List.nil_append, List.take_append_of_le_length (by rw [hd12_length]; omega), List.take_of_length_le (by rw [hd12_length]; omega)]
theorem hdr_turn (e : Nat) (p : List UInt8) (k : Nat) (hk : k < 16) (e' : Nat) (q : List UInt8) : hdrM e' q ≠ turnB (hdrM e p) k := by
  intro h
  have h1 := hdr_own e' q
  have h2 := hdr_own e p
  rw [h] at h1
  have hl := hdrM_length e p
  generalize hdrM e p = s at h1 h2 hl
  by_cases hk2 : k < 12
  · have a1 : (turnB s k).drop 12 = s.drop 12 := by
      unfold turnB
      rw [List.drop_set, if_pos (by omega)]
    have a2 : (turnB s k).take 12 = turnB (s.take 12) k := by
      unfold turnB
      rw [List.take_set]
      congr 2
      simp [List.getD, hk2]
    rw [a1, a2, h2] at h1
    exact crc_turn (s.take 12) k (by rw [List.length_take]; omega) (crc4_inj h1).symm
  · have a1 : (turnB s k).take 12 = s.take 12 := by
      unfold turnB
      rw [List.take_set_of_le (by omega)]
    have a2 : (turnB s k).drop 12 = turnB (s.drop 12) (k - 12) := by
      unfold turnB
      rw [List.drop_set, if_neg (by omega)]
      congr 2
      simp [List.getD, List.getElem?_drop, show 12 + (k - 12) = k by omega]
    rw [a1, a2, ← h2] at h1
    exact turnB_ne (s.drop 12) (k - 12) (by rw [List.length_drop]; omega) h1
theorem load_bad_head (d : DiskM) (at_ n : Int) (e : Nat) (p : List UInt8) (k : Nat) (hk : k < 16) (hm : mayA d.strs.length at_ n) (h : readB d at_ = turnB (hdrM e p) k) : (loadM d at_ n).2.2 = 21 := by
  have hl : (turnB (hdrM e p) k).length = 16 := by rw [turnB_length, hdrM_length]
  unfold loadM
  rw [if_pos hm, h, if_neg (fun e => by rw [e] at hl; simp at hl), if_pos hl]
  split
  · rfl
  · split
    · rfl
    · rw [if_neg (hdr_turn _ _ _ hk _ _)]
theorem load_long_head (d : DiskM) (at_ n : Int) (hm : mayA d.strs.length at_ n) (h : (readB d at_).length = 17) : (loadM d at_ n).2.2 = 21 := by
  unfold loadM
  rw [if_pos hm, if_neg (fun e => by rw [e] at h; simp at h), if_neg (by omega)]
/-- A byte of a block is turned. -/
theorem load_bad_body (d d' : DiskM) (at_ n : Int) (e : Nat) (p : List UInt8) (j k : Nat) (h : Holds d at_ n e p) (he : e < 4294967296) (hj : j < blocksA p.length) (hk : j * 256 + k < p.length) (hk2 : k < 256) (hN : d'.strs.length = d.strs.length)
    (hhead : readB d' at_ = readB d at_) (hself : readB d' (firstA at_ n e + j) = turnB ((p.drop (j * 256)).take 256) k) (hoth : ∀ i, i < blocksA p.length → i ≠ j → readB d' (firstA at_ n e + i) = readB d (firstA at_ n e + i)) : (loadM d' at_ n).2.2 = 21 := by
  have hr := h.room
  obtain ⟨h1, h2⟩ := hdr_num e p he (by omega)
  obtain ⟨p', hp'⟩ : ∃ p', p' = turnB p (j * 256 + k) := ⟨_, rfl⟩
  have hpl : p'.length = p.length := by rw [hp', turnB_length]
  have hb : ∀ i, i < blocksA p'.length → readB d' (firstA at_ n e + i) = (p'.drop (i * 256)).take 256 := fun i hi => by
    rw [hpl] at hi
    by_cases hij : i = j
    · subst hij
      rw [hself, hp']
      unfold turnB
      rw [List.drop_set, if_neg (by omega), List.take_set, show i * 256 + k - i * 256 = k by omega]
      congr 2
      simp [List.getD, List.getElem?_drop, hk2]
    · rw [hoth i hi hij, h.body i hi, hp']
      unfold turnB
      rw [List.drop_set]
      split
      · rfl
      · rw [List.take_set_of_le (by omega)]
  have hlies := lies_holds d' p' (firstA at_ n e) hb (p'.length + 1) 0 (by omega)
  simp only [Int.natCast_zero, Int.add_zero, Nat.zero_mul, List.take_zero] at hlies
  unfold loadM
  rw [if_pos (by rw [hN]; exact h.may), hhead, h.head, if_neg (hdrM_ne e p), if_pos (hdrM_length e p), h1, h2, if_neg (by have := h.fits; omega), ← hpl, hlies]
  have hne : hdrM e p' ≠ hdrM e p := fun e1 => by
    have e2 := congrArg (fun l => (l.take 12).drop 8) e1
    have hh : ∀ q : List UInt8, ((hdrM e q).take 12).drop 8 = le (crc q).toNat 4 := fun q => by
      unfold hdrM
      rw [List.take_append_of_le_length (by rw [hd12_length]; omega), List.take_of_length_le (by rw [hd12_length]; omega)]
      unfold hd12
      rw [List.drop_append_of_le_length (by simp [le_length]), List.drop_eq_nil_of_le (by simp [le_length])]; rfl
    simp only [hh] at e2
    have := crc4_inj e2
    rw [hp'] at this
    exact crc_turn p (j * 256 + k) hk this
  show (if hdrM e p' = hdrM e p then (e, p', (0 : Int)) else (0, [], 21)).2.2 = 21
  rw [if_neg hne]
/-- An image of 300 bytes on a disk of five blocks: its texts, and where they lie. -/
def txT (p : List UInt8) : Nat → List UInt8
  | 0 => p.take 256
  | 1 => p.drop 256
  | _ => hdrM 4 p
def blT : Nat → Int
  | 0 => 1
  | 1 => 2
  | _ => 0
theorem txT_len (p : List UInt8) (hp : p.length = 300) (i : Nat) : (txT p i).length ≤ 256 := by
  match i with
  | 0 => show (p.take 256).length ≤ 256; rw [List.length_take]; omega
  | 1 => show (p.drop 256).length ≤ 256; rw [List.length_drop]; omega
  | i + 2 => show (hdrM 4 p).length ≤ 256; rw [hdrM_length]; omega
structure Five (d : DiskM) (p : List UInt8) : Prop where
  holds : Holds d 0 2 4 p
  n5 : d.strs.length = 5
  left : d.left = none
  wf : d.Wf
theorem write_left {d : DiskM} (h : d.left = none) (i : Int) (s : ByteArray) : (d.write i s).1.left = none := by
  by_cases hw : (d.write i s).2 = 0
  · unfold DiskM.write at *
    split
    · exact h
    split
    · exact h
    split
    · exact h
    · simp [h]
  · rw [write_same d i s hw]; exact h
theorem blT_in (i : Nat) : 0 ≤ blT i ∧ blT i < 5 := by
  match i with
  | 0 => exact ⟨by decide, by decide⟩
  | 1 => exact ⟨by decide, by decide⟩
  | i + 2 => exact ⟨(show (0 : Int) ≤ 0 by decide), (show (0 : Int) < 5 by decide)⟩
theorem five_blocks (p : List UInt8) (hp : p.length = 300) : blocksA p.length = 2 := by rw [hp]; rfl
theorem Five.read {d : DiskM} {p : List UInt8} (h : Five d p) (hp : p.length = 300) (i : Nat) : readB d (blT i) = txT p i := by
  match i with
  | 0 =>
    have := h.holds.body 0 (by rw [five_blocks p hp]; omega)
    rw [show firstA 0 2 4 + ((0 : Nat) : Int) = 1 from rfl, Nat.zero_mul, List.drop_zero] at this
    exact this
  | 1 =>
    have := h.holds.body 1 (by rw [five_blocks p hp]; omega)
    rw [List.take_of_length_le (by rw [List.length_drop]; omega), show firstA 0 2 4 + ((1 : Nat) : Int) = 2 from rfl, Nat.one_mul] at this
    exact this
  | i + 2 => exact h.holds.head
/-- Another text in such a block: it is written; Load refuses; the text again: as before. -/
theorem Five.turned {d : DiskM} {p : List UInt8} (h : Five d p) (hp : p.length = 300) (i : Nat) (hi : i < 3) (k : Nat) (hk : k < (txT p i).length) :
    (d.write (blT i) (SB (turnB (txT p i) k))).2 = 0 ∧ (loadM (d.write (blT i) (SB (turnB (txT p i) k))).1 0 2).2.2 = 21 ∧
      (((d.write (blT i) (SB (turnB (txT p i) k))).1).write (blT i) (SB (txT p i))).2 = 0 ∧ Five (((d.write (blT i) (SB (turnB (txT p i) k))).1).write (blT i) (SB (txT p i))).1 p := by
  have hin := blT_in i
  have hl := txT_len p hp i
  have w1 : (d.write (blT i) (SB (turnB (txT p i) k))).2 = 0 := by
    rw [write_yes d (blT i) _ (by rw [h.n5]; exact hin) (by rw [SB_size, turnB_length]; exact hl) (by rw [h.left]; simp)]
  have r1 := readB_self d (blT i) _ w1
  rw [LB_SB] at r1
  have o1 := fun j hj => readB_other d (blT i) j (SB (turnB (txT p i) k)) hj
  have n1 := d.write_len (blT i) (SB (turnB (txT p i) k))
  have l1 := write_left h.left (blT i) (SB (turnB (txT p i) k))
  have f1 := h.wf.write (blT i) (SB (turnB (txT p i) k))
  obtain ⟨d1, hd1⟩ : ∃ d1, d1 = (d.write (blT i) (SB (turnB (txT p i) k))).1 := ⟨_, rfl⟩
  rw [← hd1] at r1 o1 n1 l1 f1 ⊢
  have w2 : (d1.write (blT i) (SB (txT p i))).2 = 0 := by
    rw [write_yes d1 (blT i) _ (by rw [n1, h.n5]; exact hin) (by rw [SB_size]; exact hl) (by rw [l1]; simp)]
  have r2 := readB_self d1 (blT i) _ w2
  rw [LB_SB] at r2
  have o2 := fun j hj => readB_other d1 (blT i) j (SB (txT p i)) hj
  have hm : mayA d1.strs.length 0 2 := by rw [n1, h.n5]; decide
  refine ⟨w1, ?_, w2, ⟨⟨by rw [d1.write_len, n1]; exact h.holds.may, h.holds.fits, by rw [d1.write_len, n1]; exact h.holds.small, ?_, fun j hj => ?_⟩, by rw [d1.write_len, n1]; exact h.n5, write_left l1 _ _, f1.write _ _⟩⟩
  · have hb2 := five_blocks p hp
    rcases (show i = 0 ∨ i = 1 ∨ i = 2 by omega) with rfl | rfl | rfl
    · refine load_bad_body d d1 0 2 4 p 0 k h.holds (by omega) (by omega) (by have : (p.take 256).length = 256 := (by rw [List.length_take]; omega)
                                                                              have hk : k < (p.take 256).length := hk
                                                                              omega) (by have hk : k < (p.take 256).length := hk
                                                                                         rw [List.length_take] at hk; omega) n1 (o1 0 (by decide)) ?_ (fun j hj hne => ?_)
      · rw [show firstA 0 2 4 + ((0 : Nat) : Int) = 1 from rfl, Nat.zero_mul, List.drop_zero]
        exact r1
      · obtain rfl : j = 1 := by omega
        exact o1 _ (by decide)
    · have hk' : k < 44 := by
        have hk : k < (p.drop 256).length := hk
        rw [List.length_drop] at hk; omega
      refine load_bad_body d d1 0 2 4 p 1 k h.holds (by omega) (by omega) (by omega) (by omega) n1 (o1 0 (by decide)) ?_ (fun j hj hne => ?_)
      · rw [List.take_of_length_le (by rw [List.length_drop]; omega), show firstA 0 2 4 + ((1 : Nat) : Int) = 2 from rfl, Nat.one_mul]
        exact r1
      · obtain rfl : j = 0 := by omega
        exact o1 _ (by decide)
    · have hk' : k < 16 := by
        have hk : k < (hdrM 4 p).length := hk
        rw [hdrM_length] at hk; exact hk
      exact load_bad_head d1 0 2 4 p k hk' hm r1
  · by_cases e0 : blT i = 0
    · rw [← e0, r2]
      have := h.read hp i
      rw [e0, h.holds.head] at this
      exact this.symm
    · rw [o2 0 e0, o1 0 e0]; exact h.holds.head
  · by_cases e0 : blT i = firstA 0 2 4 + j
    · rw [← e0, r2]
      have := h.read hp i
      rw [e0, h.holds.body j hj] at this
      exact this.symm
    · rw [o2 _ e0, o1 _ e0]; exact h.holds.body j hj
end Go.Proofs.YtbmijamailfaeaaDoor
