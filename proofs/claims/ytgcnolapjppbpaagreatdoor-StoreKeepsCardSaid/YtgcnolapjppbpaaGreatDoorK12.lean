/-
  Texts of one proof, one behind the other.
-/
import Derived.Test.YtgcnolapjppbpaaGreatDoorK04
import Derived.Test.YtgcnolapjppbpaaGreatDoorK10
import Derived.Test.YtgcnolapjppbpaaGreatDoorK11
namespace Go.Proofs.YtgcnolapjppbpaaGreatDoor
open Go.RowKit
theorem frameM_le4 (e : UInt32) (p : List UInt8) : (frameM e p).length ≤ 4 := by
  have : ∀ f q, (restM f q).length ≤ f := by
    intro f
    induction f with
    | zero => intro q; simp [restM]
    | succ f ih => intro q; rw [restM]; split
                   · simp
                   · have := ih (q.drop 255); simp only [List.length_cons]; omega
  unfold frameM
  rw [List.length_cons]
  have := this 3 (p.drop 245)
  omega
theorem laidM_append1 (e : UInt32) (ps : List (List UInt8)) (p : List UInt8) : laidM e (ps ++ [p]) = laidM e ps ++ frameM e p := by simp [laidM]
def DiskM.back (d : DiskM) : Nat → List (List UInt8) → DiskM × Int
  | _, [] => (d, 0)
  | a, b :: r => if (DiskM.back d (a + 1) r).2 ≠ 0 then DiskM.back d (a + 1) r else (DiskM.back d (a + 1) r).1.write (a : Int) (SB b)
structure LogM where
  base : Nat
  n : Nat
  epoch : UInt32
  used : Nat
  records : Nat
  dead : Bool
def LogM.append (l : LogM) (d : DiskM) (p : List UInt8) : LogM × DiskM × Int :=
  if l.dead = true then (l, d, 22)
  else if 512 < p.length then (l, d, 3)
  else if l.n - l.used < (frameM l.epoch p).length then (l, d, 19)
  else if (d.back (l.base + l.used) (frameM l.epoch p)).2 ≠ 0 then ({ l with dead := true }, (d.back (l.base + l.used) (frameM l.epoch p)).1, 22)
  else ({ l with used := l.used + (frameM l.epoch p).length, records := l.records + 1 }, (d.back (l.base + l.used) (frameM l.epoch p)).1, 0)
theorem back_cons (d : DiskM) (a : Nat) (b : List UInt8) (r : List (List UInt8)) : d.back a (b :: r) = if (d.back (a + 1) r).2 ≠ 0 then d.back (a + 1) r else (d.back (a + 1) r).1.write (a : Int) (SB b) := rfl
theorem back_len (d : DiskM) : ∀ (bs : List (List UInt8)) (a : Nat), (d.back a bs).1.strs.length = d.strs.length ∧ (d.back a bs).1.trail.length ≤ d.trail.length + bs.length
  | [], a => ⟨rfl, Nat.le_refl _⟩
  | b :: r, a => by
    obtain ⟨h1, h2⟩ := back_len d r (a + 1)
    rw [back_cons]
    split
    · exact ⟨h1, by rw [List.length_cons]; omega⟩
    · have h3 := (d.back (a + 1) r).1.write_len (a : Int) (SB b)
      have h4 := (d.back (a + 1) r).1.write_trail (a : Int) (SB b)
      exact ⟨by rw [h3, h1], by rw [List.length_cons]; omega⟩
theorem back_wf {d : DiskM} (h : d.Wf) : ∀ (bs : List (List UInt8)) (a : Nat), (d.back a bs).1.Wf
  | [], _ => h
  | b :: r, a => by
    rw [back_cons]
    split
    · exact back_wf h r (a + 1)
    · exact (back_wf h r (a + 1)).write _ _
theorem back_err (d : DiskM) : ∀ (bs : List (List UInt8)) (a : Nat), (∀ b ∈ bs, b.length ≤ 256) → a + bs.length ≤ d.strs.length → (d.back a bs).2 = 0 ∨ (d.back a bs).2 = 22
  | [], _, _, _ => .inl rfl
  | b :: r, a, hb, ha => by
    rw [List.length_cons] at ha
    have ih := back_err d r (a + 1) (fun x hx => hb x (List.mem_cons_of_mem _ hx)) (by omega)
    rw [back_cons]
    split
    · exact ih
    · have h1 := (back_len d r (a + 1)).1
      have h2 := hb b (List.mem_cons_self ..)
      unfold DiskM.write
      rw [if_neg (by rw [h1]; omega), if_neg (by rw [SB_size]; omega)]
      split
      · exact .inr rfl
      · exact .inl rfl
theorem write_get (d : DiskM) (i : Nat) (s : ByteArray) (j : Nat) : (d.write (i : Int) s).1.strs[j]? = if (d.write (i : Int) s).2 = 0 ∧ j = i then some s else d.strs[j]? := by
  unfold DiskM.write
  split
  · rw [if_neg (by simp)]
  split
  · rw [if_neg (by simp)]
  split
  · rw [if_neg (by simp)]
  · rename_i h1 _ _
    have h1 : i < d.strs.length := by omega
    by_cases hj : j = i
    · subst hj; simp [h1]
    · rw [if_neg (by simp [hj])]
      simp only [Int.toNat_natCast]
      rw [List.getElem?_set_ne (by omega)]
theorem back_get (d : DiskM) : ∀ (bs : List (List UInt8)) (a j : Nat), ((d.back a bs).1.strs[j]? = d.strs[j]? ∧ ((d.back a bs).2 = 0 → j < a ∨ a + bs.length ≤ j)) ∨ (a ≤ j ∧ j < a + bs.length ∧ (d.back a bs).1.strs[j]? = some (SB (bs.getD (j - a) [])) ∧ ((d.back a bs).2 ≠ 0 → a < j))
  | [], a, j => .inl ⟨rfl, fun _ => by simp only [List.length_nil]; omega⟩
  | b :: r, a, j => by
    have ih := back_get d r (a + 1) j
    rw [back_cons, List.length_cons]
    by_cases he : (d.back (a + 1) r).2 ≠ 0
    · rw [if_pos he]
      rcases ih with ⟨h1, _⟩ | ⟨h1, h2, h3, h4⟩
      · exact .inl ⟨h1, fun h => absurd h he⟩
      · refine .inr ⟨by omega, by omega, ?_, fun _ => by omega⟩
        rw [h3, show j - a = j - (a + 1) + 1 by omega, List.getD_cons_succ]
    · rw [if_neg he, write_get]
      have he : (d.back (a + 1) r).2 = 0 := by simpa using he
      by_cases hw : ((d.back (a + 1) r).1.write (a : Int) (SB b)).2 = 0
      · by_cases hj : j = a
        · rw [if_pos ⟨hw, hj⟩]
          refine .inr ⟨by omega, by omega, ?_, fun h => absurd hw h⟩
          rw [hj, Nat.sub_self]; rfl
        · rw [if_neg (by simp [hj])]
          rcases ih with ⟨h1, h2⟩ | ⟨h1, h2, h3, h4⟩
          · exact .inl ⟨h1, fun _ => by have := h2 he; omega⟩
          · refine .inr ⟨by omega, by omega, ?_, fun _ => by omega⟩
            rw [h3, show j - a = j - (a + 1) + 1 by omega, List.getD_cons_succ]
      · rw [if_neg (by simp [hw])]
        rcases ih with ⟨h1, h2⟩ | ⟨h1, h2, h3, h4⟩
        · exact .inl ⟨h1, fun h => absurd h hw⟩
        · refine .inr ⟨by omega, by omega, ?_, fun _ => by omega⟩
          rw [h3, show j - a = j - (a + 1) + 1 by omega, List.getD_cons_succ]
def NoB (e : UInt32) (s : ByteArray) : Prop := ¬ s.data.toList.take 5 = 104 :: le e.toNat 4
theorem le_inj4 {a b : UInt32} (h : le a.toNat 4 = le b.toNat 4) : a = b := by
  have ha := a.toNat_lt; have hb := b.toNat_lt
  have h2 : ∀ v : Nat, v < 4294967296 → ((le v 4).getD 0 0).toNat + 256 * ((le v 4).getD 1 0).toNat + 65536 * ((le v 4).getD 2 0).toNat + 16777216 * ((le v 4).getD 3 0).toNat = v := fun v hv => by
    simp only [le, List.getD_cons_zero, List.getD_cons_succ, UInt8.toNat_ofNat']
    omega
  have h3 := h2 a.toNat (by omega)
  rw [h, h2 b.toNat (by omega)] at h3
  exact UInt32.toNat_inj.1 h3.symm
theorem restM_head : ∀ (f : Nat) (q : List UInt8) (b : List UInt8), b ∈ restM f q → ∃ r, b = 99 :: r ∧ r.length ≤ 255
  | 0, q, b, h => by simp [restM] at h
  | f + 1, q, b, h => by
    rw [restM] at h
    split at h
    · simp at h
    · rcases List.mem_cons.1 h with rfl | h
      · exact ⟨_, rfl, by rw [List.length_take]; omega⟩
      · exact restM_head f _ b h
theorem frameM_le256 {e : UInt32} {p b : List UInt8} (h : b ∈ frameM e p) : b.length ≤ 256 := by
  unfold frameM at h
  rcases List.mem_cons.1 h with rfl | h
  · rw [List.length_append, headM_length, List.length_take]; omega
  · obtain ⟨r, rfl, hr⟩ := restM_head _ _ _ h
    rw [List.length_cons]; omega
theorem frame_noB {e e' : UInt32} (he : e ≠ e') {p b : List UInt8} (h : b ∈ frameM e p) : NoB e' (SB b) := by
  unfold NoB
  rw [SB_data]
  unfold frameM at h
  rcases List.mem_cons.1 h with rfl | h
  · intro h2
    rw [List.take_append_of_le_length (by rw [headM_length]; omega), headM, List.take_append_of_le_length (by rw [pre_length]; omega)] at h2
    have h3 : (pre e p.length).take 5 = 104 :: le e.toNat 4 := by
      unfold pre
      rw [List.take_succ_cons, List.take_append_of_le_length (by rw [le_length]; omega), List.take_of_length_le (by rw [le_length]; omega)]
    rw [h3] at h2
    injection h2 with _ h2
    exact he (le_inj4 h2)
  · obtain ⟨r, rfl, _⟩ := restM_head _ _ _ h
    intro h2
    rw [List.take_succ_cons] at h2
    injection h2 with h2 _
    revert h2; decide
theorem frame_rest_noB {e e' : UInt32} {p : List UInt8} {i : Nat} (hi : 0 < i) (hl : i < (frameM e p).length) : NoB e' (SB ((frameM e p).getD i [])) := by
  unfold NoB
  rw [SB_data]
  obtain ⟨k, rfl⟩ : ∃ k, i = k + 1 := ⟨i - 1, by omega⟩
  unfold frameM at hl ⊢
  rw [List.length_cons] at hl
  rw [List.getD_cons_succ]
  have hm : (restM 3 (p.drop 245)).getD k [] ∈ restM 3 (p.drop 245) := by
    rw [List.getD, List.getElem?_eq_getElem (by omega)]; exact List.getElem_mem (by omega)
  obtain ⟨r, h, _⟩ := restM_head _ _ _ hm
  rw [h]
  intro h2
  rw [List.take_succ_cons] at h2
  injection h2 with h2 _
  revert h2; decide
theorem frame_getD_mem {e : UInt32} {p : List UInt8} {i : Nat} (hl : i < (frameM e p).length) : (frameM e p).getD i [] ∈ frameM e p := by
  rw [List.getD, List.getElem?_eq_getElem hl]; exact List.getElem_mem hl
structure LogI (e : UInt32) (base n : Nat) (want : List (List UInt8)) (l : LogM) (d : DiskM) : Prop where
  same : l.base = base ∧ l.n = n ∧ l.epoch = e
  used : l.used = (laidM e want).length
  le : l.used ≤ n
  recs : l.records = want.length
  short : ∀ p ∈ want, p.length ≤ 512
  len : base + n ≤ d.strs.length
  stand : ∀ j, j < l.used → d.strs[base + j]? = some (SB ((laidM e want).getD j []))
  no : ∀ j, l.used ≤ j → j < n → ∀ s, d.strs[base + j]? = some s → NoB e s
theorem append_len (l : LogM) (d : DiskM) (p : List UInt8) : (l.append d p).2.1.strs.length = d.strs.length ∧ (l.append d p).2.1.trail.length ≤ d.trail.length + 4 := by
  unfold LogM.append
  split
  · exact ⟨rfl, Nat.le_add_right _ _⟩
  split
  · exact ⟨rfl, Nat.le_add_right _ _⟩
  split
  · exact ⟨rfl, Nat.le_add_right _ _⟩
  have h1 := back_len d (frameM l.epoch p) (l.base + l.used)
  have h2 := frameM_le4 l.epoch p
  split <;> exact ⟨h1.1, by have := h1.2; simp only; omega⟩
theorem append_wf (l : LogM) {d : DiskM} (h : d.Wf) (p : List UInt8) : (l.append d p).2.1.Wf := by
  unfold LogM.append
  split
  · exact h
  split
  · exact h
  split
  · exact h
  split <;> exact back_wf h _ _
theorem LogI.append {e : UInt32} {base n : Nat} {want : List (List UInt8)} {l : LogM} {d : DiskM} (h : LogI e base n want l d) (p : List UInt8) :
    ((l.append d p).2.2 = 0 ∧ l.dead = false ∧ (l.append d p).1.dead = false ∧ p.length ≤ 512 ∧ (l.append d p).1.used = l.used + (frameM e p).length ∧ LogI e base n (want ++ [p]) (l.append d p).1 (l.append d p).2.1) ∨
    ((l.append d p).2.2 = 22 ∧ (l.append d p).1.dead = true ∧ LogI e base n want (l.append d p).1 (l.append d p).2.1) ∨
    ((l.append d p).2.2 = 3 ∧ 512 < p.length ∧ l.dead = false ∧ (l.append d p).1 = l ∧ (l.append d p).2.1 = d) ∨ ((l.append d p).2.2 = 19 ∧ p.length ≤ 512 ∧ l.dead = false ∧ (l.append d p).1 = l ∧ (l.append d p).2.1 = d) := by
  unfold LogM.append
  split
  · rename_i hd; exact .inr (.inl ⟨rfl, hd, h⟩)
  rename_i hd
  have hd : l.dead = false := by simpa using hd
  split
  · rename_i h2; exact .inr (.inr (.inl ⟨rfl, h2, hd, rfl, rfl⟩))
  rename_i h2
  split
  · exact .inr (.inr (.inr ⟨rfl, by omega, hd, rfl, rfl⟩))
  rename_i h3
  obtain ⟨e1, e2, e3⟩ := h.same
  rw [e1, e3] at *
  rw [e2, h.same.2.2] at h3
  have hg := back_get d (frameM e p) (base + l.used)
  have hl := back_len d (frameM e p) (base + l.used)
  have hle := h.le
  by_cases he : (d.back (base + l.used) (frameM e p)).2 ≠ 0
  · rw [if_pos he]
    refine .inr (.inl ⟨rfl, rfl, ⟨e1, e2, e3⟩, h.used, h.le, h.recs, h.short, by rw [hl.1]; exact h.len, fun j hj => ?_, fun j hj hj2 s hs => ?_⟩)
    · rcases hg (base + j) with ⟨h1, _⟩ | ⟨h1, _⟩
      · rw [h1]; exact h.stand j hj
      · simp only at hj; omega
    · simp only at hj hs
      rcases hg (base + j) with ⟨h1, _⟩ | ⟨h1, h4, h5, h6⟩
      · exact h.no j hj hj2 s (h1 ▸ hs)
      · have h7 := h6 he
        rw [h5] at hs
        injection hs with hs
        rw [← hs]
        exact frame_rest_noB (by omega) (by omega)
  · have he : (d.back (base + l.used) (frameM e p)).2 = 0 := by simpa using he
    rw [if_neg (by simp [he])]
    have hu : (laidM e (want ++ [p])).length = l.used + (frameM e p).length := by rw [laidM_append1, List.length_append, h.used]
    refine .inl ⟨rfl, hd, hd, by omega, rfl, ⟨e1, e2, e3⟩, hu.symm, by simp only; omega, by simp only; rw [h.recs, List.length_append, List.length_singleton], fun q hq => ?_, by rw [hl.1]; exact h.len, fun j hj => ?_, fun j hj hj2 s hs => ?_⟩
    · rcases List.mem_append.1 hq with hq | hq
      · exact h.short q hq
      · have := List.mem_singleton.1 hq; subst this; omega
    · simp only at hj ⊢
      rw [laidM_append1]
      rcases hg (base + j) with ⟨h1, h4⟩ | ⟨h1, h4, h5, _⟩
      · have := h4 he
        rw [h1, h.stand j (by omega), List.getD, List.getD, List.getElem?_append_left (by have := h.used; omega)]
      · rw [h5]
        have e4 : base + j - (base + l.used) = j - l.used := by omega
        rw [e4, List.getD, List.getD, List.getElem?_append_right (by have := h.used; omega), h.used]
    · simp only at hj hs
      rcases hg (base + j) with ⟨h1, _⟩ | ⟨h1, h4, _⟩
      · exact h.no j (by omega) hj2 s (h1 ▸ hs)
      · omega
theorem LogI.le2 {e : UInt32} {base n : Nat} {want : List (List UInt8)} {l : LogM} {d : DiskM} (h : LogI e base n want l d) : l.used ≤ l.n := by rw [h.same.2.1]; exact h.le
theorem LogI.blocks {e : UInt32} {base n : Nat} {want : List (List UInt8)} {l : LogM} {d : DiskM} (h : LogI e base n want l d) (bl : List (List UInt8)) (hl : bl.length = n) (hb : ∀ j, j < n → d.strs[base + j]? = some (SB (bl.getD j []))) :
    ∃ t, bl = laidM e want ++ t ∧ oneM e t = none := by
  have hu := h.used
  have hle := h.le
  refine ⟨bl.drop l.used, ?_, ?_⟩
  · refine List.ext_getElem (by rw [List.length_append, List.length_drop]; omega) (fun j h1 h2 => ?_)
    by_cases hj : j < l.used
    · have e1 := h.stand j hj
      rw [hb j (by omega)] at e1
      injection e1 with e1
      have e1 := SB_inj e1
      rw [List.getElem_append_left (by omega)]
      simpa [List.getD, h1, show j < (laidM e want).length by omega] using e1
    · rw [List.getElem_append_right (by omega), List.getElem_drop]
      congr 1; omega
  · cases hd : bl.drop l.used with
    | nil => rfl
    | cons b r =>
      have hlt : l.used < bl.length := by
        rcases Nat.lt_or_ge l.used bl.length with h1 | h1
        · exact h1
        · rw [List.drop_eq_nil_of_le h1] at hd; cases hd
      refine one_begins e b r (fun hc => ?_)
      have hbe : bl.getD l.used [] = b := by
        have : bl.drop l.used = bl[l.used] :: bl.drop (l.used + 1) := List.drop_eq_getElem_cons hlt
        rw [this] at hd
        injection hd with hd _
        simp [List.getD, hlt, hd]
      have := h.no l.used (Nat.le_refl _) (by omega) _ (hb l.used (by omega))
      unfold NoB at this
      rw [SB_data, hbe] at this
      exact this hc
theorem back_none {d : DiskM} (h : d.left = none) : ∀ (bs : List (List UInt8)) (a : Nat), (∀ b ∈ bs, b.length ≤ 256) → a + bs.length ≤ d.strs.length → (d.back a bs).2 = 0 ∧ (d.back a bs).1.left = none
  | [], _, _, _ => ⟨rfl, h⟩
  | b :: r, a, hb, ha => by
    rw [List.length_cons] at ha
    have ih := back_none h r (a + 1) (fun x hx => hb x (List.mem_cons_of_mem _ hx)) (by omega)
    rw [back_cons, if_neg (by rw [ih.1]; simp)]
    have h1 := (back_len d r (a + 1)).1
    have h2 := hb b (List.mem_cons_self ..)
    refine ⟨?_, DiskM.write_left ih.2 _ _⟩
    unfold DiskM.write
    rw [if_neg (by rw [h1]; omega), if_neg (by rw [SB_size]; omega), if_neg (by rw [ih.2]; simp)]
theorem append_left (l : LogM) {d : DiskM} (h : d.left = none) (hl : l.base + l.n ≤ d.strs.length) (hu : l.used ≤ l.n) (p : List UInt8) : (l.append d p).2.1.left = none := by
  unfold LogM.append
  split
  · exact h
  split
  · exact h
  split
  · exact h
  have h1 := (back_none h (frameM l.epoch p) (l.base + l.used) (fun b hb => frameM_le256 hb) (by omega)).2
  split <;> exact h1
theorem append_ok {l : LogM} {d : DiskM} {p : List UInt8} (h : d.left = none) (hd : l.dead = false) (hp : p.length ≤ 512) (hl : l.base + l.n ≤ d.strs.length) (hu : l.used + (frameM l.epoch p).length ≤ l.n) : (l.append d p).2.2 = 0 := by
  unfold LogM.append
  have h1 := (back_none h (frameM l.epoch p) (l.base + l.used) (fun b hb => frameM_le256 hb) (by omega)).1
  rw [if_neg (by rw [hd]; simp), if_neg (by omega), if_neg (by omega), if_neg (by rw [h1]; simp)]
theorem frame_count (e : UInt32) (p : List UInt8) (h : p.length ≤ 512) : (frameM e p).length = if 245 < p.length then 1 + (p.length - 245 + 254) / 255 else 1 := by
  have hr : ∀ f (q : List UInt8), q.length ≤ 255 * f → (restM f q).length = (q.length + 254) / 255 := by
    intro f
    induction f with
    | zero => intro q hq; simp [restM]; omega
    | succ f ih =>
      intro q hq
      rw [restM]
      by_cases h0 : q.length = 0
      · rw [if_pos h0, h0]; rfl
      · rw [if_neg h0, List.length_cons, ih _ (by rw [List.length_drop]; omega), List.length_drop]; omega
  unfold frameM
  rw [List.length_cons, hr 3 _ (by rw [List.length_drop]; omega), List.length_drop]
  split <;> omega
theorem LogI.new {e : UInt32} {base n : Nat} {d : DiskM} (hl : base + n ≤ d.strs.length) (hn : ∀ (j : Nat) (s : ByteArray), d.strs[j]? = some s → NoB e s) : LogI e base n [] ⟨base, n, e, 0, 0, false⟩ d :=
  ⟨⟨rfl, rfl, rfl⟩, rfl, Nat.zero_le _, rfl, fun _ h => by simp at h, hl, fun j hj => by simp at hj, fun j _ _ s hs => hn _ s hs⟩
theorem noB_new (e : UInt32) (n : Nat) (j : Nat) (s : ByteArray) (h : (List.replicate n ByteArray.empty)[j]? = some s) : NoB e s := by
  rw [List.getElem?_replicate] at h
  split at h
  · injection h with h; rw [← h]; unfold NoB; simp
  · cases h
end Go.Proofs.YtgcnolapjppbpaaGreatDoor
