/-
  What holds between two acts of DiskPlays; one act.
-/
import Derived.Test.YtmlckfdjiljjhaaDoorDiskQ
import Derived.Test.YtmlckfdjiljjhaaDoorPick
import Derived.StillTailTactics
namespace Go.Proofs.YtmlckfdjiljjhaaDoor
open Go.RowKit
set_option maxRecDepth 100000

structure PlayI (B : Nat) (W0 : World) (p rp bp c : Nat) (d : DiskM) (F G : Nat → Prop) (bv : Value) (ys : List Value) (W : World) : Prop where
  disk : IsDisk W d p F
  ref : IsRef W d rp G
  wf : d.Wf
  trail : d.trail.length ≤ c
  book : Box W bp (bookC bv) 43
  brow : W.ownsRow B 57 1 bv ys.length ys
  rows : ∀ i, i < ys.length → ∃ l : List (Int × ByteArray), l.length ≤ c ∧ W.ownsRow B 53 2 (ys.getD i undef) l.length (flatRaws l)
  rap : ∀ i j, i < j → j < ys.length → Apart (ys.getD i undef) (ys.getD j undef)
  ycnt : ys.length ≤ c
  bne : bv.ownBlock ≠ some bp
  fg : ∀ k, F k → ¬ G k
  fb : ∀ k, F k ∨ G k → k ≠ bp ∧ bv.ownBlock ≠ some k ∧ ∀ i, i < ys.length → (ys.getD i undef).ownBlock ≠ some k
  bap : ∀ i, i < ys.length → Apart bv (ys.getD i undef)
  yne : ∀ i, i < ys.length → (ys.getD i undef).ownBlock ≠ some bp
  ge : (∀ k, F k ∨ G k → B ≤ k) ∧ B ≤ bp
  below : Below B W0 W
  size : B ≤ W.heap.size
theorem PlayI.to {B : Nat} {W0 : World} {p rp bp c : Nat} {d : DiskM} {F G : Nat → Prop} {bv : Value} {ys : List Value} {W W' : World} (h : PlayI B W0 p rp bp c d F G bv ys W) (hb : Below W.heap.size W W') : PlayI B W0 p rp bp c d F G bv ys W' :=
  ⟨h.disk.mod (Mod.of_below (F := fun _ => False) hb) (fun _ _ h => h), h.ref.below hb, h.wf, h.trail, Box.below h.book hb, own_below h.brow hb, fun i hi => by obtain ⟨l, h1, h2⟩ := h.rows i hi; exact ⟨l, h1, own_below h2 hb⟩, h.rap, h.ycnt, h.bne, h.fg, h.fb, h.bap, h.yne, h.ge, h.below.trans (hb.mono h.size), Nat.le_trans h.size hb.size⟩
theorem PlayI.more {B : Nat} {W0 : World} {p rp bp c c' : Nat} {d : DiskM} {F G : Nat → Prop} {bv : Value} {ys : List Value} {W : World} (h : PlayI B W0 p rp bp c d F G bv ys W) (hc : c ≤ c') : PlayI B W0 p rp bp c' d F G bv ys W :=
  ⟨h.disk, h.ref, h.wf, Nat.le_trans h.trail hc, h.book, h.brow, fun i hi => by obtain ⟨l, h1, h2⟩ := h.rows i hi; exact ⟨l, Nat.le_trans h1 hc, h2⟩, h.rap, Nat.le_trans h.ycnt hc, h.bne, h.fg, h.fb, h.bap, h.yne, h.ge, h.below, h.size⟩
/-- Both disks have turned. -/
theorem PlayI.both {B : Nat} {W0 : World} {p rp bp c c' : Nat} {d d' : DiskM} {F G F' G' : Nat → Prop} {bv : Value} {ys : List Value} {W W1 W2 : World} (h : PlayI B W0 p rp bp c d F G bv ys W) (hd : IsDisk W1 d' p F') (hm1 : Mod F W W1) (hF : ∀ k, F' k → F k ∨ W.heap.size ≤ k)
    (hr : IsRef W2 d' rp G') (hm2 : Mod G W1 W2) (hG : ∀ k, G' k → G k ∨ W1.heap.size ≤ k) (hw : d'.Wf) (ht : d'.trail.length ≤ c') (hc : c ≤ c') : PlayI B W0 p rp bp c' d' F' G' bv ys W2 := by
  have hs1 := hm1.size
  have hd1lt := hd.lt
  have hlt := h.disk.lt
  have hrlt := h.ref.lt
  have hbk := h.book.lt
  have hm : Mod (fun k => F k ∨ G k) W W2 := (hm1.mono (fun k hk => .inl hk)).trans (hm2.mono (fun k hk => .inr hk))
  have hFG : ∀ k, F' k → ¬ G k := fun k hk hg => by
    rcases hF k hk with h1 | h1
    · exact h.fg k h1 hg
    · have := hrlt k hg; omega
  refine ⟨hd.mod hm2 hFG, hr, hw, ht, Box.mod h.book hm (fun e => (h.fb bp e).1 rfl), own_mod h.brow hm (fun k hk e => (h.fb k e).2.1 hk), fun i hi => ?_, h.rap, Nat.le_trans h.ycnt hc, h.bne, fun k hk hg => ?_, fun k hk => ?_, h.bap, h.yne, ⟨fun k hk => ?_, h.ge.2⟩, h.below.trans (hm.below h.size (fun k hk => h.ge.1 k hk)), Nat.le_trans h.size hm.size⟩
  · obtain ⟨l, h1, h2⟩ := h.rows i hi
    exact ⟨l, Nat.le_trans h1 hc, own_mod h2 hm (fun k hk e => (h.fb k e).2.2 i hi hk)⟩
  · rcases hG k hg with h1 | h1
    · exact hFG k hk h1
    · have := hd1lt k hk; omega
  · have hcase : (F k ∨ G k) ∨ W.heap.size ≤ k := by
      rcases hk with hk | hk
      · rcases hF k hk with h1 | h1
        · exact .inl (.inl h1)
        · exact .inr h1
      · rcases hG k hk with h1 | h1
        · exact .inl (.inr h1)
        · exact .inr (Nat.le_trans hs1 h1)
    rcases hcase with h1 | h1
    · exact h.fb k h1
    · refine ⟨by omega, fun e => ?_, fun i hi e => ?_⟩
      · have := (h.brow.lt k e).2; omega
      · obtain ⟨l, _, h3⟩ := h.rows i hi
        have := (h3.lt k e).2; omega
  · have hz := h.size
    rcases hk with hk | hk
    · rcases hF k hk with h1 | h1
      · exact h.ge.1 k (.inl h1)
      · omega
    · rcases hG k hk with h1 | h1
      · exact h.ge.1 k (.inr h1)
      · omega
/-- A list more in the book. -/
theorem PlayI.asked {B : Nat} {W0 : World} {p rp bp c : Nat} {d : DiskM} {F G : Nat → Prop} {bv bv' tv : Value} {ys : List Value} {W W' : World} (h : PlayI B W0 p rp bp c d F G bv ys W) (h1 : Box W' bp (bookC bv') 43) (h2 : W'.ownsRow B 57 1 bv' (ys.length + 1) (ys ++ [tv]))
    (h3 : W'.ownsRow W.heap.size 53 2 tv d.trail.length (flatRaws d.trail)) (hm : Mod (fun b => b = bp ∨ bv.ownBlock = some b) W W') (h5 : bv'.ownBlock = bv.ownBlock ∨ ∃ k, bv'.ownBlock = some k ∧ W.heap.size ≤ k) (h6 : bv'.ownBlock ≠ some bp) (h7 : Apart bv' tv) :
    PlayI B W0 p rp bp (c + 1) d F G bv' (ys ++ [tv]) W' := by
  have hlt := h.disk.lt
  have hrlt := h.ref.lt
  have hbk := h.book.lt
  have hz := h.size
  have hg : ∀ i, i < ys.length → (ys ++ [tv]).getD i undef = ys.getD i undef := fun i hi => by rw [List.getD, List.getElem?_append_left hi]; rfl
  have hl : (ys ++ [tv]).getD ys.length undef = tv := by rw [List.getD, List.getElem?_append_right (Nat.le_refl _), Nat.sub_self]; rfl
  have hyl : ∀ i, i < ys.length → ∀ k, (ys.getD i undef).ownBlock = some k → k < W.heap.size := fun i hi k hk => by
    obtain ⟨l, _, h8⟩ := h.rows i hi
    exact (h8.lt k hk).2
  have hgl : ∀ k, F k ∨ G k → k < W.heap.size := fun k hk => by
    rcases hk with hk | hk
    · exact hlt k hk
    · exact hrlt k hk
  refine ⟨h.disk.mod hm (fun k hk e => ?_), h.ref.mod hm (fun k hk e => ?_), h.wf, Nat.le_succ_of_le h.trail, h1, by rw [List.length_append, List.length_singleton]; exact h2, fun i hi => ?_, fun i j hij hj => ?_, by rw [List.length_append, List.length_singleton]; have := h.ycnt; omega, h6, h.fg, fun k hk => ⟨(h.fb k hk).1, fun e => ?_, fun i hi e => ?_⟩, fun i hi => ?_, fun i hi e => ?_, h.ge, h.below.trans (hm.below hz (fun k hk => ?_)), Nat.le_trans hz hm.size⟩
  · rcases e with e | e
    · exact (h.fb k (.inl hk)).1 e
    · exact (h.fb k (.inl hk)).2.1 e
  · rcases e with e | e
    · exact (h.fb k (.inr hk)).1 e
    · exact (h.fb k (.inr hk)).2.1 e
  · rw [List.length_append, List.length_singleton] at hi
    rcases Nat.lt_or_ge i ys.length with hi2 | hi2
    · rw [hg i hi2]
      obtain ⟨l, h8, h9⟩ := h.rows i hi2
      refine ⟨l, Nat.le_succ_of_le h8, own_mod h9 hm (fun k hk e => ?_)⟩
      rcases e with e | e
      · exact h.yne i hi2 (e ▸ hk)
      · exact h.bap i hi2 k e hk
    · obtain rfl : i = ys.length := by omega
      rw [hl]
      exact ⟨d.trail, Nat.le_succ_of_le h.trail, own_base h3 hz⟩
  · rw [List.length_append, List.length_singleton] at hj
    rw [hg i (by omega)]
    rcases Nat.lt_or_ge j ys.length with hj2 | hj2
    · rw [hg j hj2]; exact h.rap i j hij hj2
    · obtain rfl : j = ys.length := by omega
      rw [hl]
      intro k hk hk2
      have := hyl i (by omega) k hk
      have := (h3.lt k hk2).1
      omega
  · rcases h5 with e5 | ⟨k', e5, h8⟩
    · rw [e5] at e; exact (h.fb k hk).2.1 e
    · rw [e5] at e; injection e with e
      have := hgl k hk; omega
  · rw [List.length_append, List.length_singleton] at hi
    rcases Nat.lt_or_ge i ys.length with hi2 | hi2
    · rw [hg i hi2] at e; exact (h.fb k hk).2.2 i hi2 e
    · obtain rfl : i = ys.length := by omega
      rw [hl] at e
      have := (h3.lt k e).1
      have := hgl k hk; omega
  · rw [List.length_append, List.length_singleton] at hi
    rcases Nat.lt_or_ge i ys.length with hi2 | hi2
    · rw [hg i hi2]
      intro k hk hk2
      rcases h5 with e5 | ⟨k', e5, h8⟩
      · rw [e5] at hk; exact h.bap i hi2 k hk hk2
      · rw [e5] at hk; injection hk with hk
        have := hyl i hi2 k hk2; omega
    · obtain rfl : i = ys.length := by omega
      rw [hl]; exact h7
  · rw [List.length_append, List.length_singleton] at hi
    rcases Nat.lt_or_ge i ys.length with hi2 | hi2
    · rw [hg i hi2] at e; exact h.yne i hi2 e
    · obtain rfl : i = ys.length := by omega
      rw [hl] at e
      have := (h3.lt _ e).1; omega
  · rcases hk with rfl | hk
    · exact h.ge.2
    · exact (h.brow.lt k hk).1
end Go.Proofs.YtmlckfdjiljjhaaDoor
