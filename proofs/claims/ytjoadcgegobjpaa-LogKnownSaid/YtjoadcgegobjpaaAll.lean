/-
  The walk of record.All: an iterator is made.
-/
import Derived.Test.YtjoadcgegobjpaaFrame
import Derived.Test.YtjoadcgegobjpaaRange
namespace Go.Proofs.Ytjoadcgegobjpaa
open Go.RowKit

/-- What the iterator has captured. -/
structure AllAt (n₀ : Nat) (e : UInt32) (bl : List (List UInt8)) (E B : Nat) (w : World) : Prop where
  lo : n₀ ≤ E ∧ n₀ ≤ B
  ec : w.cell? ⟨E, 0, none⟩ = some (.int .u32 (e.toNat : Int))
  bc : ∃ bv, w.cell? ⟨B, 0, none⟩ = some bv ∧ Rd w bv bl.length (bl.map SV) ∧ ∀ k, bv.ownBlock = some k → n₀ ≤ k
theorem AllAt.below {n₀ : Nat} {e : UInt32} {bl : List (List UInt8)} {E B : Nat} {w w' : World} (h : AllAt n₀ e bl E B w) (hb : Below w.heap.size w w') : AllAt n₀ e bl E B w' := by
  obtain ⟨bv, h1, h2, h3⟩ := h.bc
  exact ⟨h.lo, below_heap hb h.ec, bv, below_heap hb h1, h2.below hb, h3⟩
theorem mod_cell {F : Nat → Prop} {w w' : World} (hm : Mod F w w') {a : Addr} {x : Value} (h : w.cell? a = some x) (hF : ¬ F a.block) : w'.cell? a = some x := by
  rw [World.cell?_of_block (hm.block a.block (cell_lt h) hF)]; exact h
theorem AllAt.kept {n₀ : Nat} {e : UInt32} {bl : List (List UInt8)} {E B : Nat} {w w' : World} (h : AllAt n₀ e bl E B w) (hm : Mod (fun b => b < n₀ ∨ w.heap.size ≤ b) w w') : AllAt n₀ e bl E B w' := by
  obtain ⟨bv, h1, h2, h3⟩ := h.bc
  have hE := cell_lt h.ec
  have hB := cell_lt h1
  obtain ⟨l1, l2⟩ := h.lo
  refine ⟨h.lo, mod_cell hm h.ec (by simp only at hE ⊢; omega), bv, mod_cell hm h1 (by simp only at hB ⊢; omega), h2.keep (fun k hk hl => hm.block k hl (by have := h3 k hk; omega)), h3⟩
theorem all_calls (e : UInt32) (lv : Value) (bl : List (List UInt8)) (w : World) (hl : Rd w lv bl.length (bl.map SV)) (hn : bl.length ≤ 8796093022208) :
    Calls Try.prog 35 #[.int .u32 (e.toNat : Int), lv] w fun r w' => ∃ E B, r = .returned (.func (.func 41) #[] #[.pointer (some ⟨E, 0, none⟩), .pointer (some ⟨B, 0, none⟩)]) ∧ AllAt w.heap.size e bl E B w' ∧ Below w.heap.size w w' := by
  obtain ⟨la, lc, rfl⟩ : ∃ a c, lv = .slice a bl.length c := by obtain ⟨a, c, h, _⟩ := hl; exact ⟨a, c, h⟩
  have hb1 := below_alloc w (.cells #[.int .u32 (e.toNat : Int)] 32)
  have Hb1 := Lib.hid hb1
  have HX1 := Lib.hid (Box.new w #[.int .u32 (e.toNat : Int)] 32)
  have HL1 := Lib.hid (hl.below hb1)
  have Hn := Lib.hid (show 0 + bl.length ≤ 8796093022208 by omega)
  clear hl hb1
  go_enter Try.func35, Try.ntmps35
  go_wp2_with (at_builtin; refine appT rfl _ _ rfl w.heap.size _ 0 [] rfl (World.ownsRow_nil _ _ _ _) _ bl rfl HL1.out Hn.out Hb1.out.size ?_)
  intro v' w2 ho2 hg2 _
  obtain ⟨ra, rc, rfl⟩ : ∃ a c, v' = .slice a bl.length c := by
    obtain ⟨a, c, h, _⟩ := own_slice ho2
    exact ⟨a, c, by simpa using h⟩
  have hg3 : Below (w.alloc (.cells #[.int .u32 (e.toNat : Int)] 32)).heap.size (w.alloc (.cells #[.int .u32 (e.toNat : Int)] 32)) w2 := below_of_grown hg2 (Nat.le_refl _) (fun k h => by simp [Value.ownBlock] at h)
  have hb2 := Hb1.out.trans (hg3.mono Hb1.out.size)
  have hx2 := HX1.out.below hg3
  have Hb2 := Lib.hid hb2
  have HX2 := Lib.hid hx2
  have HR2 := Lib.hid (rd_of_own ho2)
  have HO2 := Lib.hid (fun k hk => (ho2.lt k hk).1)
  clear hg3 hb2 hx2 ho2 hg2 HX1 HL1 Hb1
  go_wp2_with fail
  go_ret
  have hm := below_alloc w2 (.cells #[.slice ra bl.length rc] 50)
  refine ⟨_, _, rfl, ⟨⟨Nat.le_refl _, Hb2.out.size⟩, (HX2.out.below hm).cell 0 _ rfl, _, (Box.new w2 #[.slice ra bl.length rc] 50).cell 0 _ rfl, ?_, HO2.out⟩, Hb2.out.trans (hm.mono Hb2.out.size)⟩
  have := HR2.out.below hm
  simpa using this
end Go.Proofs.Ytjoadcgegobjpaa
