/-
  The helpers of DiskPlays: the book, asked.
-/
import Derived.Test.YtmlckfdjiljjhaaDoorDiskP
import Derived.Maps.AppendAt
namespace Go.Proofs.YtmlckfdjiljjhaaDoor
open Go.RowKit
set_option maxRecDepth 100000

theorem info_raws : (Tryd.prog.info? 57).map (fun i => (i.zero, i.size, i.bytes)) = some (some (.slice none 0 0), 1, 24) := by kernel_rfl
/-- A book's cells: only raw writes are in it. -/
def bookC (bv : Value) : Array Value := #[.slice none 0 0, .slice none 0 0, .slice none 0 0, .slice none 0 0, .slice none 0 0, .slice none 0 0, .slice none 0 0, .slice none 0 0, bv, .slice none 0 0]
theorem bookRaws_calls (bp B n m : Nat) (bv : Value) (ys : List Value) (ta : Option Addr) (tc : Nat) (w : World) (hb : Box w bp (bookC bv) 43) (ho : w.ownsRow B 57 1 bv n ys) (hne : bv.ownBlock ≠ some bp) (hn : n ≤ 1000000) (hB : B ≤ w.heap.size) :
    Calls Tryd.prog 29 #[.pointer (some ⟨bp, 0, none⟩), .slice ta m tc] w fun e w' => e = .returned (.tuple #[]) ∧ ∃ bv', Box w' bp (bookC bv') 43 ∧ w'.ownsRow B 57 1 bv' (n + 1) (ys ++ [.slice ta m tc]) ∧
      Mod (fun b => b = bp ∨ bv.ownBlock = some b) w w' ∧ (bv'.ownBlock = bv.ownBlock ∨ ∃ k, bv'.ownBlock = some k ∧ w.heap.size ≤ k) ∧ bv'.ownBlock ≠ some bp := by
  obtain ⟨ba, bc, rfl, _⟩ := own_form ho
  have c8 := hb.cell 8 _ rfl
  have HBx := Lib.hid hb
  have HOwn := Lib.hid (own_below ho (below_alloc w (.cells #[.slice ta m tc] 57)))
  have HsA := Lib.hid (Nat.le_trans hB (below_alloc w (.cells #[.slice ta m tc] 57)).size)
  have Hne := Lib.hid hne
  obtain ⟨i0, hi, hz0, hz1, hz2⟩ := info_parts info_raws
  clear hb ho hne hB
  go_enter Tryd.func29, Tryd.ntmps29
  go_wp2_with (at_builtin; refine wpList_append_own2 rfl _ _ 40 rfl B 57 i0 (.slice none 0 0) 1 24 Tryd.underlying40 hi hz0 hz1 hz2 rfl (by decide) _ n ys rfl HOwn.out ⟨w.heap.size, 0, none⟩ 1 1 [.slice ta m tc] rfl rfl (cell_one_new _ _ _) (by simp [Value.oneCell']) (by unfold maxLen; omega) (by omega) HsA.out ?_)
  intro v' w3 hv3 hg3 hm3
  obtain ⟨na, nc, rfl, _, _⟩ := own_form hv3
  have m4 := Mod.of_grown (F := fun k => (Value.slice ba n bc).ownBlock = some k) hg3 (fun _ h => h)
  have l1 := Box.mod (Box.below HBx.out (below_alloc w (.cells #[.slice ta m tc] 57))) m4 (fun e => Hne.out e)
  have f8 := l1.free 8
  have c8' := l1.cell 8 _ rfl
  have Hl1 := Lib.hid (l1.set 8 (.slice na (n + 1) nc))
  have Hv3 := Lib.hid hv3
  have Hm4 := Lib.hid m4
  have Hm3 := Lib.hid hm3
  have hbpl : bp < w.heap.size := HBx.out.lt
  clear l1 hv3 hg3 hm3 m4 c8
  go_wp2_with fail
  refine bodyPost_end (results_none rfl _ _ _) rfl ?_
  have hm5 := Mod.set (fun b => b = bp) w3 ⟨bp, 8, none⟩ (.slice na (n + 1) nc) rfl
  have hno : (Value.slice na (n + 1) nc).ownBlock ≠ some bp := by
    intro e
    rcases Hm3.out with h | h
    · rw [h] at e; exact Hne.out e
    · rw [h, World.size_alloc] at e; injection e with e; omega
  refine ⟨rfl, .slice na (n + 1) nc, Hl1.out, own_mod Hv3.out hm5 (fun k hk e => hno (e ▸ hk)), ?_, ?_, hno⟩
  · exact (((Mod.alloc (fun b => (Value.slice ba n bc).ownBlock = some b) w (.cells #[.slice ta m tc] 57)).trans Hm4.out).mono (fun b hb => .inr hb)).trans (hm5.mono (fun b hb => .inl hb))
  · rcases Hm3.out with h | h
    · exact .inl h
    · exact .inr ⟨_, h, by simp⟩
set_option maxHeartbeats 800000 in
theorem asked_calls (d : DiskM) (p rp bp B n : Nat) (F G : Nat → Prop) (bv : Value) (ys : List Value) (w : World) (hd : IsDisk w d p F) (hr : IsRef w d rp G) (hb : Box w bp (bookC bv) 43) (ho : w.ownsRow B 57 1 bv n ys) (hne : bv.ownBlock ≠ some bp) (hn : n ≤ 1000000) (hB : B ≤ w.heap.size) (ht : d.trail.length ≤ 1000000) :
    Calls Tryd.prog 9 #[.pointer (some ⟨p, 0, none⟩), .pointer (some ⟨rp, 0, none⟩), .pointer (some ⟨bp, 0, none⟩)] w fun e w' => e = .returned (.bool true) ∧ ∃ bv' tv, Box w' bp (bookC bv') 43 ∧ w'.ownsRow B 57 1 bv' (n + 1) (ys ++ [tv]) ∧
      w'.ownsRow w.heap.size 53 2 tv d.trail.length (flatRaws d.trail) ∧ Mod (fun b => b = bp ∨ bv.ownBlock = some b) w w' ∧ (bv'.ownBlock = bv.ownBlock ∨ ∃ k, bv'.ownBlock = some k ∧ w.heap.size ≤ k) ∧ bv'.ownBlock ≠ some bp ∧ Apart bv' tv := by
  have Htr := Lib.hid (trail_calls d p F w hd (by omega))
  have HD := Lib.hid hd
  have HR := Lib.hid hr
  have HBk := Lib.hid hb
  have HO := Lib.hid ho
  have Hne := Lib.hid hne
  clear hd hr hb ho hne
  go_enter Tryd.func9, Tryd.ntmps9
  go_wp2_with fail
  refine Htr.out.mono ?_
  rintro r w1 ⟨ta, tc, rfl, hto, hb1⟩
  have hd1 := HD.out.mod (Mod.of_below (F := fun _ => False) hb1) (fun _ _ h => h)
  have hr1 := HR.out.below hb1
  obtain ⟨rv, g1, g2, _⟩ := hr1
  obtain ⟨ra, rc, rfl, _, _⟩ := own_form g2
  have c0 := g1.cell 0 _ rfl
  have c1 := g1.cell 1 _ rfl
  have HBl := Lib.hid (fun j => (blocks_calls d p F (w1.drewN j) (hd1.mod (Mod.of_below (F := fun _ => False) (show Below w1.heap.size w1 (w1.drewN j) from ⟨rfl, rfl, rfl, Nat.le_refl _, fun _ _ => rfl⟩)) (fun _ _ h => h))).mono (fun e w' h => (⟨h.1, h.2.symm⟩ : e = _ ∧ w' = w1.drewN j)))
  have HWr := Lib.hid (fun j => (writes_calls d p F (w1.drewN j) (hd1.mod (Mod.of_below (F := fun _ => False) (show Below w1.heap.size w1 (w1.drewN j) from ⟨rfl, rfl, rfl, Nat.le_refl _, fun _ _ => rfl⟩)) (fun _ _ h => h))).mono (fun e w' h => (⟨h.1, h.2.symm⟩ : e = _ ∧ w' = w1.drewN j)))
  have HSr := Lib.hid (fun j => sameRaws_calls (.slice ta d.trail.length tc) (.slice ra d.trail.length rc) d.trail (w1.drewN j) ((rd_of_own hto).below (show Below w1.heap.size w1 (w1.drewN j) from ⟨rfl, rfl, rfl, Nat.le_refl _, fun _ _ => rfl⟩)) ((rd_of_own g2).below (show Below w1.heap.size w1 (w1.drewN j) from ⟨rfl, rfl, rfl, Nat.le_refl _, fun _ _ => rfl⟩)))
  have HTo := Lib.hid hto
  have HB1 := Lib.hid hb1
  clear hd1 g1 g2 hto hb1 Htr HD HR
  go_wp2_with fail
  go_quiet (first | (go_at_call 26; exact Calls.quiet_of_same (HBl.out _)) | (go_at_call 27; exact Calls.quiet_of_same (HWr.out _)) | (go_at_call 28; exact Calls.quiet_of (HSr.out _)))
  clear c0 c1 HBl HWr HSr
  have hb2 : Below w1.heap.size w1 (w1.drewN nq) := ⟨rfl, rfl, rfl, Nat.le_refl _, fun _ _ => rfl⟩
  have HB2 := Lib.hid (below_trans HB1.out hb2)
  have HTo2 := Lib.hid (own_below HTo.out hb2)
  generalize w1.drewN nq = w2 at HB2 HTo2 hb2 ⊢
  have Hbk := Lib.hid (bookRaws_calls bp B n d.trail.length bv ys ta tc w2 (Box.below HBk.out HB2.out) (own_below HO.out HB2.out) Hne.out hn (Nat.le_trans hB HB2.out.size))
  clear hb2 HTo HB1
  go_wp2_with fail
  refine Hbk.out.mono ?_
  rintro r w3 ⟨rfl, bv', a1, a2, a3, a4, a5⟩
  have hlt := HO.out.lt
  have hbpl : bp < w.heap.size := HBk.out.lt
  have ht3 := own_mod HTo2.out a3 (fun k hk e => by
    have h1 := (HTo2.out.lt k hk).1
    rcases e with e | e
    · omega
    · have := (hlt k e).2; omega)
  have hap : Apart bv' (.slice ta d.trail.length tc) := by
    intro k hk hk2
    have h1 := HTo2.out.lt k hk2
    rcases a4 with e | ⟨k', e, h2⟩
    · rw [e] at hk; have := (hlt k hk).2; omega
    · rw [e] at hk; injection hk with hk; omega
  have HN := Lib.hid (And.intro a1 (And.intro a2 (And.intro ht3 (And.intro ((Mod.of_below (F := fun b => b = bp ∨ bv.ownBlock = some b) HB2.out).trans a3) (And.intro a4 (And.intro a5 hap))))))
  have Hsz := Lib.hid HB2.out.size
  clear a1 a2 a3 a4 a5 ht3 hap Hbk
  go_wp2_with fail
  go_ret
  obtain ⟨a1, a2, a3, a4, a5, a6, a7⟩ := HN.out
  refine ⟨rfl, bv', _, a1, a2, a3, a4, ?_, a6, a7⟩
  rcases a5 with e | ⟨k, e, h⟩
  · exact .inl e
  · exact .inr ⟨k, e, by have := Hsz.out; omega⟩
end Go.Proofs.YtmlckfdjiljjhaaDoor
