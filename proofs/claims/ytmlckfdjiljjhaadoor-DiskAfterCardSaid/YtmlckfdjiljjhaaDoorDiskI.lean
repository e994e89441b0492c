/-
  What holds between two acts of DiskPlays and of DiskAfter.
-/
import Derived.Test.YtmlckfdjiljjhaaDoorDiskQ
import Derived.Test.YtmlckfdjiljjhaaDoorPick
import Derived.StillTailTactics
namespace Go.Proofs.YtmlckfdjiljjhaaDoor
open Go.RowKit
set_option maxRecDepth 100000

/-- The blocks of a disk, of the document's one, of a book and of its lists. -/
def ownAll (F G : Nat → Prop) (bp : Nat) (bv : Value) (ys : List Value) : Nat → Prop := fun k => F k ∨ G k ∨ k = bp ∨ bv.ownBlock = some k ∨ ∃ i, i < ys.length ∧ (ys.getD i undef).ownBlock = some k
/-- A disk, the document's one and a book, each of memory of its own; since W0 just what A names has turned, and what was made since. -/
structure PlayI (A : Nat → Prop) (W0 : World) (p rp bp c : Nat) (d : DiskM) (F G : Nat → Prop) (bv : Value) (ys : List Value) (W : World) : Prop where
  disk : IsDisk W d p F
  ref : IsRef W d rp G
  wf : d.Wf
  trail : d.trail.length ≤ c
  book : Box W bp (bookC bv) 43
  brow : W.ownsRow 0 57 1 bv ys.length ys
  rows : ∀ i, i < ys.length → ∃ l : List (Int × ByteArray), l.length ≤ c ∧ W.ownsRow 0 53 2 (ys.getD i undef) l.length (flatRaws l)
  rap : ∀ i j, i < j → j < ys.length → Apart (ys.getD i undef) (ys.getD j undef)
  ycnt : ys.length ≤ c
  bne : bv.ownBlock ≠ some bp
  fg : ∀ k, F k → ¬ G k
  fb : ∀ k, F k ∨ G k → k ≠ bp ∧ bv.ownBlock ≠ some k ∧ ∀ i, i < ys.length → (ys.getD i undef).ownBlock ≠ some k
  bap : ∀ i, i < ys.length → Apart bv (ys.getD i undef)
  yne : ∀ i, i < ys.length → (ys.getD i undef).ownBlock ≠ some bp
  all : ∀ k, ownAll F G bp bv ys k → A k ∨ W0.heap.size ≤ k
  a0 : ¬ A 0
  below : Mod A W0 W
theorem ErrType.keep {B : Nat} {w w' : World} (h : ErrType w) (hb : Below B w w') (hB : 0 < B) : ErrType w' := by
  unfold ErrType at *
  have := hb.block 0 hB
  simp only [World.cell?] at *
  rw [this]; exact h
theorem PlayI.err {A : Nat → Prop} {W0 : World} {p rp bp c : Nat} {d : DiskM} {F G : Nat → Prop} {bv : Value} {ys : List Value} {W : World} (h : PlayI A W0 p rp bp c d F G bv ys W) (hg : ErrType W0) : ErrType W :=
  hg.keep (B := 1) (h.below.below hg.lt (fun i hi => Nat.pos_of_ne_zero fun e => h.a0 (e ▸ hi))) (by omega)
theorem PlayI.lt {A : Nat → Prop} {W0 : World} {p rp bp c : Nat} {d : DiskM} {F G : Nat → Prop} {bv : Value} {ys : List Value} {W : World} (h : PlayI A W0 p rp bp c d F G bv ys W) : ∀ k, ownAll F G bp bv ys k → k < W.heap.size := by
  rintro k (hk | hk | rfl | hk | ⟨i, hi, hk⟩)
  · exact h.disk.lt k hk
  · exact h.ref.lt k hk
  · exact h.book.lt
  · exact (h.brow.lt k hk).2
  · obtain ⟨l, _, h3⟩ := h.rows i hi
    exact (h3.lt k hk).2
theorem PlayI.to {A : Nat → Prop} {W0 : World} {p rp bp c : Nat} {d : DiskM} {F G : Nat → Prop} {bv : Value} {ys : List Value} {W W' : World} (h : PlayI A W0 p rp bp c d F G bv ys W) (hb : Below W.heap.size W W') : PlayI A W0 p rp bp c d F G bv ys W' :=
  ⟨h.disk.mod (Mod.of_below (F := fun _ => False) hb) (fun _ _ h => h), h.ref.below hb, h.wf, h.trail, Box.below h.book hb, own_below h.brow hb, fun i hi => by obtain ⟨l, h1, h2⟩ := h.rows i hi; exact ⟨l, h1, own_below h2 hb⟩, h.rap, h.ycnt, h.bne, h.fg, h.fb, h.bap, h.yne, h.all, h.a0, h.below.then (Mod.of_below (F := fun _ => False) hb) (fun _ h => h.elim)⟩
theorem PlayI.more {A : Nat → Prop} {W0 : World} {p rp bp c c' : Nat} {d : DiskM} {F G : Nat → Prop} {bv : Value} {ys : List Value} {W : World} (h : PlayI A W0 p rp bp c d F G bv ys W) (hc : c ≤ c') : PlayI A W0 p rp bp c' d F G bv ys W :=
  ⟨h.disk, h.ref, h.wf, Nat.le_trans h.trail hc, h.book, h.brow, fun i hi => by obtain ⟨l, h1, h2⟩ := h.rows i hi; exact ⟨l, Nat.le_trans h1 hc, h2⟩, h.rap, Nat.le_trans h.ycnt hc, h.bne, h.fg, h.fb, h.bap, h.yne, h.all, h.a0, h.below⟩
/-- Both disks have turned. -/
theorem PlayI.both {A : Nat → Prop} {W0 : World} {p rp bp c c' : Nat} {d d' : DiskM} {F G F' G' : Nat → Prop} {bv : Value} {ys : List Value} {W W1 W2 : World} (h : PlayI A W0 p rp bp c d F G bv ys W) (hd : IsDisk W1 d' p F') (hm1 : Mod F W W1) (hF : ∀ k, F' k → F k ∨ W.heap.size ≤ k)
    (hr : IsRef W2 d' rp G') (hm2 : Mod G W1 W2) (hG : ∀ k, G' k → G k ∨ W1.heap.size ≤ k) (hw : d'.Wf) (ht : d'.trail.length ≤ c') (hc : c ≤ c') : PlayI A W0 p rp bp c' d' F' G' bv ys W2 := by
  have hs1 := hm1.size
  have hs0 := h.below.size
  have hd1lt := hd.lt
  have hlt := h.disk.lt
  have hrlt := h.ref.lt
  have hbk := h.book.lt
  have hm : Mod (fun k => F k ∨ G k) W W2 := (hm1.mono (fun k hk => .inl hk)).trans (hm2.mono (fun k hk => .inr hk))
  have hFG : ∀ k, F' k → ¬ G k := fun k hk hg => by
    rcases hF k hk with h1 | h1
    · exact h.fg k h1 hg
    · have := hrlt k hg; omega
  have hcase : ∀ k, F' k ∨ G' k → (F k ∨ G k) ∨ W.heap.size ≤ k := fun k hk => by
    rcases hk with hk | hk
    · rcases hF k hk with h1 | h1
      · exact .inl (.inl h1)
      · exact .inr h1
    · rcases hG k hk with h1 | h1
      · exact .inl (.inr h1)
      · exact .inr (Nat.le_trans hs1 h1)
  refine ⟨hd.mod hm2 hFG, hr, hw, ht, Box.mod h.book hm (fun e => (h.fb bp e).1 rfl), own_mod h.brow hm (fun k hk e => (h.fb k e).2.1 hk), fun i hi => ?_, h.rap, Nat.le_trans h.ycnt hc, h.bne, fun k hk hg => ?_, fun k hk => ?_, h.bap, h.yne, fun k hk => ?_, h.a0, h.below.then hm (fun k hk => ?_)⟩
  · obtain ⟨l, h1, h2⟩ := h.rows i hi
    exact ⟨l, Nat.le_trans h1 hc, own_mod h2 hm (fun k hk e => (h.fb k e).2.2 i hi hk)⟩
  · rcases hG k hg with h1 | h1
    · exact hFG k hk h1
    · have := hd1lt k hk; omega
  · rcases hcase k hk with h1 | h1
    · exact h.fb k h1
    · refine ⟨by omega, fun e => ?_, fun i hi e => ?_⟩
      · have := (h.brow.lt k e).2; omega
      · obtain ⟨l, _, h3⟩ := h.rows i hi
        have := (h3.lt k e).2; omega
  · have key : F' k ∨ G' k → A k ∨ W0.heap.size ≤ k := fun hk => by
      rcases hcase k hk with (h1 | h1) | h1
      · exact h.all k (.inl h1)
      · exact h.all k (.inr (.inl h1))
      · right; omega
    rcases hk with hk | hk | hk
    · exact key (.inl hk)
    · exact key (.inr hk)
    · exact h.all k (.inr (.inr hk))
  · rcases hk with hk | hk
    · exact h.all k (.inl hk)
    · exact h.all k (.inr (.inl hk))
/-- A list more in the book. -/
theorem PlayI.listed {A : Nat → Prop} {W0 : World} {p rp bp c : Nat} {d : DiskM} {F G : Nat → Prop} {bv bv' tv : Value} {ys : List Value} {W W' : World} (h : PlayI A W0 p rp bp c d F G bv ys W) (l0 : List (Int × ByteArray)) (hl0 : l0.length ≤ c) (h1 : Box W' bp (bookC bv') 43) (h2 : W'.ownsRow 0 57 1 bv' (ys.length + 1) (ys ++ [tv]))
    (h3 : W'.ownsRow W.heap.size 53 2 tv l0.length (flatRaws l0)) (hm : Mod (fun b => b = bp ∨ bv.ownBlock = some b) W W') (h5 : bv'.ownBlock = bv.ownBlock ∨ ∃ k, bv'.ownBlock = some k ∧ W.heap.size ≤ k) (h6 : bv'.ownBlock ≠ some bp) (h7 : Apart bv' tv) :
    PlayI A W0 p rp bp (c + 1) d F G bv' (ys ++ [tv]) W' := by
  have hlt := h.disk.lt
  have hrlt := h.ref.lt
  have hbk := h.book.lt
  have hz := h.below.size
  have hg : ∀ i, i < ys.length → (ys ++ [tv]).getD i undef = ys.getD i undef := fun i hi => by rw [List.getD, List.getElem?_append_left hi]; rfl
  have hl : (ys ++ [tv]).getD ys.length undef = tv := by rw [List.getD, List.getElem?_append_right (Nat.le_refl _), Nat.sub_self]; rfl
  have hyl : ∀ i, i < ys.length → ∀ k, (ys.getD i undef).ownBlock = some k → k < W.heap.size := fun i hi k hk => by
    obtain ⟨l, _, h8⟩ := h.rows i hi
    exact (h8.lt k hk).2
  have hgl : ∀ k, F k ∨ G k → k < W.heap.size := fun k hk => by
    rcases hk with hk | hk
    · exact hlt k hk
    · exact hrlt k hk
  refine ⟨h.disk.mod hm (fun k hk e => ?_), h.ref.mod hm (fun k hk e => ?_), h.wf, Nat.le_succ_of_le h.trail, h1, by rw [List.length_append, List.length_singleton]; exact h2, fun i hi => ?_, fun i j hij hj => ?_, by rw [List.length_append, List.length_singleton]; have := h.ycnt; omega, h6, h.fg, fun k hk => ⟨(h.fb k hk).1, fun e => ?_, fun i hi e => ?_⟩, fun i hi => ?_, fun i hi e => ?_, fun k hk => ?_, h.a0, h.below.then hm (fun k hk => ?_)⟩
  · rcases e with e | e
    · exact (h.fb k (.inl hk)).1 e
    · exact (h.fb k (.inl hk)).2.1 e
  · rcases e with e | e
    · exact (h.fb k (.inr hk)).1 e
    · exact (h.fb k (.inr hk)).2.1 e
  · rw [List.length_append, List.length_singleton] at hi
    rcases Nat.lt_or_ge i ys.length with hi2 | hi2
    · rw [hg i hi2]
      obtain ⟨l, h8, h9⟩ := h.rows i hi2
      refine ⟨l, Nat.le_succ_of_le h8, own_mod h9 hm (fun k hk e => ?_)⟩
      rcases e with e | e
      · exact h.yne i hi2 (e ▸ hk)
      · exact h.bap i hi2 k e hk
    · obtain rfl : i = ys.length := by omega
      rw [hl]
      exact ⟨l0, Nat.le_succ_of_le hl0, own_base h3 (Nat.zero_le _)⟩
  · rw [List.length_append, List.length_singleton] at hj
    rw [hg i (by omega)]
    rcases Nat.lt_or_ge j ys.length with hj2 | hj2
    · rw [hg j hj2]; exact h.rap i j hij hj2
    · obtain rfl : j = ys.length := by omega
      rw [hl]
      intro k hk hk2
      have := hyl i (by omega) k hk
      have := (h3.lt k hk2).1
      omega
  · rcases h5 with e5 | ⟨k', e5, h8⟩
    · rw [e5] at e; exact (h.fb k hk).2.1 e
    · rw [e5] at e; injection e with e
      have := hgl k hk; omega
  · rw [List.length_append, List.length_singleton] at hi
    rcases Nat.lt_or_ge i ys.length with hi2 | hi2
    · rw [hg i hi2] at e; exact (h.fb k hk).2.2 i hi2 e
    · obtain rfl : i = ys.length := by omega
      rw [hl] at e
      have := (h3.lt k e).1
      have := hgl k hk; omega
  · rw [List.length_append, List.length_singleton] at hi
    rcases Nat.lt_or_ge i ys.length with hi2 | hi2
    · rw [hg i hi2]
      intro k hk hk2
      rcases h5 with e5 | ⟨k', e5, h8⟩
      · rw [e5] at hk; exact h.bap i hi2 k hk hk2
      · rw [e5] at hk; injection hk with hk
        have := hyl i hi2 k hk2; omega
    · obtain rfl : i = ys.length := by omega
      rw [hl]; exact h7
  · rw [List.length_append, List.length_singleton] at hi
    rcases Nat.lt_or_ge i ys.length with hi2 | hi2
    · rw [hg i hi2] at e; exact h.yne i hi2 e
    · obtain rfl : i = ys.length := by omega
      rw [hl] at e
      have := (h3.lt _ e).1; omega
  · rcases hk with hk | hk | hk | hk | ⟨i, hi, hk⟩
    · exact h.all k (.inl hk)
    · exact h.all k (.inr (.inl hk))
    · exact h.all k (.inr (.inr (.inl hk)))
    · rcases h5 with e5 | ⟨k', e5, h8⟩
      · rw [e5] at hk; exact h.all k (.inr (.inr (.inr (.inl hk))))
      · rw [e5] at hk; injection hk with hk; right; omega
    · rw [List.length_append, List.length_singleton] at hi
      rcases Nat.lt_or_ge i ys.length with hi2 | hi2
      · rw [hg i hi2] at hk; exact h.all k (.inr (.inr (.inr (.inr ⟨i, hi2, hk⟩))))
      · obtain rfl : i = ys.length := by omega
        rw [hl] at hk
        have := (h3.lt k hk).1; right; omega
  · rcases hk with rfl | hk
    · exact h.all _ (.inr (.inr (.inl rfl)))
    · exact h.all k (.inr (.inr (.inr (.inl hk))))
theorem PlayI.asked {A : Nat → Prop} {W0 : World} {p rp bp c : Nat} {d : DiskM} {F G : Nat → Prop} {bv bv' tv : Value} {ys : List Value} {W W' : World} (h : PlayI A W0 p rp bp c d F G bv ys W) (h1 : Box W' bp (bookC bv') 43) (h2 : W'.ownsRow 0 57 1 bv' (ys.length + 1) (ys ++ [tv]))
    (h3 : W'.ownsRow W.heap.size 53 2 tv d.trail.length (flatRaws d.trail)) (hm : Mod (fun b => b = bp ∨ bv.ownBlock = some b) W W') (h5 : bv'.ownBlock = bv.ownBlock ∨ ∃ k, bv'.ownBlock = some k ∧ W.heap.size ≤ k) (h6 : bv'.ownBlock ≠ some bp) (h7 : Apart bv' tv) :
    PlayI A W0 p rp bp (c + 1) d F G bv' (ys ++ [tv]) W' := h.listed d.trail h.trail h1 h2 h3 hm h5 h6 h7
/-- Another disk and the document's one. -/
structure Oth (d : DiskM) (p rp : Nat) (F G : Nat → Prop) (W : World) : Prop where
  disk : IsDisk W d p F
  ref : IsRef W d rp G
  wf : d.Wf
  fg : ∀ k, F k → ¬ G k
theorem Oth.lt {d : DiskM} {p rp : Nat} {F G : Nat → Prop} {W : World} (h : Oth d p rp F G W) : ∀ k, F k ∨ G k → k < W.heap.size := fun k hk => by
  rcases hk with hk | hk
  · exact h.disk.lt k hk
  · exact h.ref.lt k hk
theorem Oth.keep {d : DiskM} {p rp : Nat} {F G A : Nat → Prop} {W W' : World} (h : Oth d p rp F G W) (hm : Mod A W W') (hx : ∀ k, F k ∨ G k → ¬ A k) : Oth d p rp F G W' :=
  ⟨h.disk.mod hm (fun k hk => hx k (.inl hk)), h.ref.mod hm (fun k hk => hx k (.inr hk)), h.wf, h.fg⟩
theorem PlayI.restart {A : Nat → Prop} {W0 : World} {p rp bp c c' : Nat} {d : DiskM} {F G : Nat → Prop} {bv : Value} {ys : List Value} {W : World} (h : PlayI A W0 p rp bp c d F G bv ys W) (h0 : ¬ ownAll F G bp bv ys 0) (hc : c ≤ c') : PlayI (ownAll F G bp bv ys) W p rp bp c' d F G bv ys W :=
  ⟨h.disk, h.ref, h.wf, Nat.le_trans h.trail hc, h.book, h.brow, fun i hi => by obtain ⟨l, h1, h2⟩ := h.rows i hi; exact ⟨l, Nat.le_trans h1 hc, h2⟩, h.rap, Nat.le_trans h.ycnt hc, h.bne, h.fg, h.fb, h.bap, h.yne, fun k hk => .inl hk, h0, Mod.refl _ _⟩
/-- Two disks, the document's ones, and a book: each of memory of its own, above B. -/
structure TwoI (B : Nat) (Wi : World) (p rp : Nat) (d : DiskM) (F G : Nat → Prop) (p2 rp2 : Nat) (o : DiskM) (F2 G2 : Nat → Prop) (bp c : Nat) (bv : Value) (ys : List Value) (W : World) : Prop where
  main : PlayI (ownAll F G bp bv ys) W p rp bp c d F G bv ys W
  oth : Oth o p2 rp2 F2 G2 W
  otr : o.trail.length ≤ c
  sep : ∀ k, F2 k ∨ G2 k → ¬ ownAll F G bp bv ys k
  lo : (∀ k, ownAll F G bp bv ys k → B ≤ k) ∧ (∀ k, F2 k ∨ G2 k → B ≤ k)
  bel : Below B Wi W ∧ 0 < B ∧ B ≤ W.heap.size
theorem TwoI.next {B : Nat} {Wi : World} {p rp : Nat} {d d' : DiskM} {F G F' G' : Nat → Prop} {p2 rp2 : Nat} {o : DiskM} {F2 G2 : Nat → Prop} {bp c c' : Nat} {bv bv' : Value} {ys ys' : List Value} {W W' : World} (h : TwoI B Wi p rp d F G p2 rp2 o F2 G2 bp c bv ys W)
    (k : PlayI (ownAll F G bp bv ys) W p rp bp c' d' F' G' bv' ys' W') (hc : c ≤ c') : TwoI B Wi p rp d' F' G' p2 rp2 o F2 G2 bp c' bv' ys' W' := by
  have hlo : ∀ i, ownAll F' G' bp bv' ys' i → B ≤ i := fun i hi => by
    rcases k.all i hi with h1 | h1
    · exact h.lo.1 i h1
    · exact Nat.le_trans h.bel.2.2 h1
  refine ⟨k.restart (fun e => by have := hlo 0 e; have := h.bel.2.1; omega) (Nat.le_refl _), h.oth.keep k.below h.sep, Nat.le_trans h.otr hc, fun i hi e => ?_, ⟨hlo, h.lo.2⟩, h.bel.1.trans (k.below.below h.bel.2.2 h.lo.1), h.bel.2.1, Nat.le_trans h.bel.2.2 k.below.size⟩
  rcases k.all i e with h1 | h1
  · exact h.sep i hi h1
  · have := h.oth.lt i hi; omega
theorem TwoI.to {B : Nat} {Wi : World} {p rp : Nat} {d : DiskM} {F G : Nat → Prop} {p2 rp2 : Nat} {o : DiskM} {F2 G2 : Nat → Prop} {bp c : Nat} {bv : Value} {ys : List Value} {W W' : World} (h : TwoI B Wi p rp d F G p2 rp2 o F2 G2 bp c bv ys W) (hb : Below W.heap.size W W') : TwoI B Wi p rp d F G p2 rp2 o F2 G2 bp c bv ys W' :=
  h.next (h.main.to hb) (Nat.le_refl _)
theorem TwoI.swap {B : Nat} {Wi : World} {p rp : Nat} {d : DiskM} {F G : Nat → Prop} {p2 rp2 : Nat} {o : DiskM} {F2 G2 : Nat → Prop} {bp c : Nat} {bv : Value} {ys : List Value} {W : World} (h : TwoI B Wi p rp d F G p2 rp2 o F2 G2 bp c bv ys W) : TwoI B Wi p2 rp2 o F2 G2 p rp d F G bp c bv ys W := by
  have hlo : ∀ k, ownAll F2 G2 bp bv ys k → B ≤ k := by
    rintro k (hk | hk | hk)
    · exact h.lo.2 k (.inl hk)
    · exact h.lo.2 k (.inr hk)
    · exact h.lo.1 k (.inr (.inr hk))
  have m := h.main
  have hfg : ∀ k, F k ∨ G k → ownAll F G bp bv ys k := fun k hk => by
    rcases hk with hk | hk
    · exact .inl hk
    · exact .inr (.inl hk)
  refine ⟨⟨h.oth.disk, h.oth.ref, h.oth.wf, h.otr, m.book, m.brow, m.rows, m.rap, m.ycnt, m.bne, h.oth.fg, fun k hk => ⟨fun e => h.sep k hk (.inr (.inr (.inl e))), fun e => h.sep k hk (.inr (.inr (.inr (.inl e)))), fun i hi e => h.sep k hk (.inr (.inr (.inr (.inr ⟨i, hi, e⟩))))⟩, m.bap, m.yne, fun k hk => .inl hk, fun e => by have := hlo 0 e; have := h.bel.2.1; omega, Mod.refl _ _⟩,
    ⟨m.disk, m.ref, m.wf, m.fg⟩, m.trail, fun k hk e => ?_, ⟨hlo, fun k hk => h.lo.1 k (hfg k hk)⟩, h.bel⟩
  rcases e with e | e | e | e | ⟨i, hi, e⟩
  · exact h.sep k (.inl e) (hfg k hk)
  · exact h.sep k (.inr e) (hfg k hk)
  · exact (m.fb k hk).1 e
  · exact (m.fb k hk).2.1 e
  · exact (m.fb k hk).2.2 i hi e
theorem TwoI.err {B : Nat} {Wi : World} {p rp : Nat} {d : DiskM} {F G : Nat → Prop} {p2 rp2 : Nat} {o : DiskM} {F2 G2 : Nat → Prop} {bp c : Nat} {bv : Value} {ys : List Value} {W : World} (h : TwoI B Wi p rp d F G p2 rp2 o F2 G2 bp c bv ys W) (hg : ErrType Wi) : ErrType W := hg.keep h.bel.1 h.bel.2.1
/-- The disk behind its first raw writes is made. -/
theorem PlayI.two {W0 : World} {p rp bp c c' : Nat} {d : DiskM} {F G : Nat → Prop} {bv : Value} {ys : List Value} {W W1 W2 W3 : World} (h : PlayI (fun _ => False) W0 p rp bp c d F G bv ys W) (hw : 0 < W0.heap.size) {o : DiskM} {p2 rp2 : Nat} {F2 G2 : Nat → Prop} (hr : IsRef W1 o rp2 G2) (hb1 : Below W.heap.size W W1) (hG : ∀ k, G2 k → W.heap.size ≤ k)
    (hd : IsDisk W2 o p2 F2) (hb2 : Below W1.heap.size W1 W2) (hF : ∀ k, F2 k → W1.heap.size ≤ k) (hb3 : Below W2.heap.size W2 W3) (hwf : o.Wf) (ho : o.trail.length ≤ c') (hc : c ≤ c') : TwoI W0.heap.size W0 p rp d F G p2 rp2 o F2 G2 bp c' bv ys W3 := by
  have hb13 := below_trans hb2 hb3
  have hb03 := below_trans hb1 hb13
  have h3 := h.to hb03
  have hs := h.below.size
  have hs1 := hb1.size
  have hrl := hr.lt
  have hlo : ∀ k, ownAll F G bp bv ys k → W0.heap.size ≤ k := fun k hk => by
    rcases h.all k hk with h1 | h1
    · exact h1.elim
    · exact h1
  refine ⟨h3.restart (fun e => by have := hlo 0 e; omega) hc, ⟨hd.mod (Mod.of_below (F := fun _ => False) hb3) (fun _ _ h => h), hr.below hb13, hwf, fun k hk hg => ?_⟩, ho, fun k hk e => ?_, ⟨hlo, fun k hk => ?_⟩, h3.below.below (Nat.le_refl _) (fun _ h => h.elim), hw, Nat.le_trans hs hb03.size⟩
  · have := hF k hk; have := hrl k hg; omega
  · have := h.lt k e
    rcases hk with hk | hk
    · have := hF k hk; omega
    · have := hG k hk; omega
  · rcases hk with hk | hk
    · have := hF k hk; omega
    · have := hG k hk; omega
end Go.Proofs.YtmlckfdjiljjhaaDoor
