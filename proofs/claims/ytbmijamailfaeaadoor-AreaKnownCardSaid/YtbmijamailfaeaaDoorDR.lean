/-
  A disk and the document's one, each of memory of its own; two lists of bytes that were handed out.
-/
import Derived.Test.YtbmijamailfaeaaDoorRefDisk
import Derived.Test.YtbmijamailfaeaaDoorApartB
import Derived.Test.YtbmijamailfaeaaDoorKitB
namespace Go.Proofs.YtbmijamailfaeaaDoor
open Go.RowKit
set_option maxRecDepth 100000

structure DR (W : World) (p rp c : Nat) (d : DiskM) (F G : Nat → Prop) (wr : World) : Prop where
  disk : IsDisk wr d p F
  ref : IsRef wr d rp G
  wf : d.Wf
  small : d.strs.length ≤ 4096
  trail : d.trail.length ≤ c
  fg : ∀ k, F k → ¬ G k
  lo : ∀ k, F k ∨ G k → W.heap.size ≤ k
  below : Below W.heap.size W wr
theorem DR.to {W : World} {p rp c : Nat} {d : DiskM} {F G : Nat → Prop} {wr w2 : World} (h : DR W p rp c d F G wr) (hb : Below wr.heap.size wr w2) : DR W p rp c d F G w2 :=
  ⟨h.disk.mod (Mod.of_below (F := fun _ => False) hb) (fun _ _ h => h), h.ref.below hb, h.wf, h.small, h.trail, h.fg, h.lo, h.below.trans (hb.mono h.below.size)⟩
theorem DR.more {W : World} {p rp c c' : Nat} {d : DiskM} {F G : Nat → Prop} {wr : World} (h : DR W p rp c d F G wr) (hc : c ≤ c') : DR W p rp c' d F G wr :=
  ⟨h.disk, h.ref, h.wf, h.small, Nat.le_trans h.trail hc, h.fg, h.lo, h.below⟩
/-- Other memory has turned. -/
theorem DR.aside {W : World} {p rp c : Nat} {d : DiskM} {F G A : Nat → Prop} {wr w2 : World} (h : DR W p rp c d F G wr) (hm : Mod A wr w2) (hx : ∀ k, F k ∨ G k → ¬ A k) (ha : ∀ k, A k → W.heap.size ≤ k) : DR W p rp c d F G w2 :=
  ⟨h.disk.mod hm (fun k hk => hx k (.inl hk)), h.ref.mod hm (fun k hk => hx k (.inr hk)), h.wf, h.small, h.trail, h.fg, h.lo, h.below.trans (hm.below h.below.size ha)⟩
/-- Both have turned. -/
theorem DR.both {W : World} {p rp c c' : Nat} {d d' : DiskM} {F G F' G' : Nat → Prop} {wr w1 w2 : World} (h : DR W p rp c d F G wr) (hd : IsDisk w1 d' p F') (hm1 : Mod F wr w1) (hF : ∀ k, F' k → F k ∨ wr.heap.size ≤ k)
    (hr : IsRef w2 d' rp G') (hm2 : Mod G w1 w2) (hG : ∀ k, G' k → G k ∨ w1.heap.size ≤ k) (hw : d'.Wf) (hn : d'.strs.length ≤ 4096) (ht : d'.trail.length ≤ c') : DR W p rp c' d' F' G' w2 := by
  have hs0 := h.below.size
  have hs1 := hm1.size
  have hd1 := hd.lt
  have hrl := h.ref.lt
  have hm : Mod (fun k => F k ∨ G k) wr w2 := (hm1.mono (fun k hk => .inl hk)).trans (hm2.mono (fun k hk => .inr hk))
  have hFG : ∀ k, F' k → ¬ G k := fun k hk hg => by
    rcases hF k hk with h1 | h1
    · exact h.fg k h1 hg
    · have := hrl k hg; omega
  refine ⟨hd.mod hm2 hFG, hr, hw, hn, ht, fun k hk hg => ?_, fun k hk => ?_, h.below.trans (hm.below hs0 h.lo)⟩
  · rcases hG k hg with h1 | h1
    · exact hFG k hk h1
    · have := hd1 k hk; omega
  · rcases hk with hk | hk
    · rcases hF k hk with h1 | h1
      · exact h.lo k (.inl h1)
      · omega
    · rcases hG k hk with h1 | h1
      · exact h.lo k (.inr h1)
      · omega
theorem DR.err {W : World} {p rp c : Nat} {d : DiskM} {F G : Nat → Prop} {wr : World} (h : DR W p rp c d F G wr) {P : Prop} (hp : Below W.heap.size W wr → P) : P := hp h.below
theorem LentB.mod {w w' : World} {base : Nat} {v : Value} {l : List UInt8} {A : Nat → Prop} (h : LentB w base v l) (hm : Mod A w w') (hx : ∀ k, A k → k < base ∨ w.heap.size ≤ k) : LentB w' base v l := by
  obtain ⟨g, cap, e, h2⟩ := h
  refine ⟨g, cap, e, own_mod h2 hm (fun k hk ha => ?_)⟩
  have := h2.lt k hk
  have := hx k ha
  omega
theorem LentB.mod' {w w' : World} {base : Nat} {v : Value} {l : List UInt8} {A : Nat → Prop} (h : LentB w base v l) (hm : Mod A w w') (hx : ∀ k, v.ownBlock = some k → ¬ A k) : LentB w' base v l := by
  obtain ⟨g, cap, rfl, h2⟩ := h
  exact ⟨g, cap, rfl, own_mod h2 hm (fun k hk ha => hx k hk ha)⟩
theorem LentB.lt {w : World} {base : Nat} {v : Value} {l : List UInt8} (h : LentB w base v l) : ∀ k, v.ownBlock = some k → base ≤ k ∧ k < w.heap.size := by
  obtain ⟨g, cap, rfl, h2⟩ := h
  exact fun k hk => h2.lt k hk
theorem OwnM.apart_new {w w' : World} {B : Nat} {e e' : TypeId} {u v : Value} {n m : Nat} {xs ys : List Value} (h : OwnM w B e u n xs) (h' : OwnM w' w.heap.size e' v m ys) : Apart u v := fun k hk hk2 => by
  have := (h.lt k hk).2
  have := (h'.lt k hk2).1
  omega
/-- Two lists that were handed out. -/
theorem apartB_two (w : World) (B n0 n1 : Nat) (av bv lsv : Value) (xs ys : List Value) (ha : OwnM w B 5 av n0 xs) (hb : OwnM w B 5 bv n1 ys) (hab : Apart av bv) (hl : Rd w lsv 2 [av, bv]) (h1 : Apart lsv av) (h2 : Apart lsv bv) (hn0 : n0 ≤ 1000000000000) (hn1 : n1 ≤ 1000000000000) (hlt : ∀ b, lsv.ownBlock = some b → b < w.heap.size) (hB : B ≤ w.heap.size) :
    Calls Tryd.prog 42 #[lsv] w fun e w' => e = .returned (.bool true) ∧ Mod (fun b => B ≤ b) w w' := by
  refine (apartB_calls ⟨2, fun j => if j = 0 then av else bv, fun j => if j = 0 then n0 else n1, B, 5⟩ lsv w rfl ⟨⟨fun j => if j = 0 then xs else ys, fun j hj => ?_, fun j hj _ => by omega, fun _ => rfl⟩, fun j j' hj hj' hne => ?_, ?_, fun j hj => ?_, Mod.refl _ _, KeepsOthers.refl _⟩ (show 2 ≤ _ by omega) (fun j hj => ?_) hlt hB).mono (fun e w' h => ⟨h.1, h.2.1⟩)
  · have hj : j < 2 := hj
    rcases (show j = 0 ∨ j = 1 by omega) with rfl | rfl
    · exact ha
    · exact hb
  · have hj : j < 2 := hj
    have hj' : j' < 2 := hj'
    rcases (show j = 0 ∨ j = 1 by omega) with rfl | rfl
    · obtain rfl : j' = 1 := by omega
      exact hab
    · obtain rfl : j' = 0 := by omega
      exact hab.symm
  · exact hl
  · have hj : j < 2 := hj
    rcases (show j = 0 ∨ j = 1 by omega) with rfl | rfl
    · exact h1
    · exact h2
  · show (if j = 0 then n0 else n1) ≤ _
    split <;> omega
theorem rd_two (w : World) (u v : Value) (t : TypeId) : Rd (w.alloc (.cells #[u, v] t)) (.slice (some ⟨w.heap.size, 0, none⟩) 2 2) 2 [u, v] := by
  refine ⟨_, 2, rfl, Nat.le_refl _, by omega, (fun h => by cases h), fun j hj => ⟨w.heap.size, 0, rfl, ?_⟩⟩
  have hj : j < 2 := hj
  rw [Nat.zero_add]
  refine (Box.new w #[u, v] t).cell j _ ?_
  rcases (show j = 0 ∨ j = 1 by omega) with rfl | rfl
  · rfl
  · rfl
end Go.Proofs.YtbmijamailfaeaaDoor
