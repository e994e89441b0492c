/-
  The statement of layer, proved out of its walk: whatever the input, the law answers true and leaves its arguments as they were; package errors' variable errorType reads as the program's text lays it (the card ties it).
-/
import Derived.Test.YthnabnieajojjaaGreatDoorZ1PReplayKnown
import Derived.Test.YthnabnieajojjaaGreatDoorRepA
import Derived.Test.YthnabnieajojjaaGreatDoorRepX
import Derived.Test.YthnabnieajojjaaGreatDoorSesK
import Derived.BigQuiet
import Derived.Test.YthnabnieajojjaaGreatDoorStoreK
import Derived.LaidLaws
import Derived.LaidHandle
import Derived.ChangeSame
import Derived.ChangeVars
import Derived.JoinedOf
import Derived.RowKit
import Derived.RowKitTokens
import Derived.Stop.Joined
import Derived.Test.YthnabnieajojjaaGreatDoorTie
import Derived.Test.YthnabnieajojjaaGreatDoorCards
import Derived.SevenTiedAt
/-
  Chapter 24: births that are refused, each for what comes first.
-/
namespace Go.Proofs.YthnabnieajojjaaGreatDoor
open Go.RowKit
set_option maxRecDepth 100000

def wrL : List SesM := [⟨0, 11, 2, 5, 1, [97, 110, 110], [98, 111, 116, 57], 4, 1, 40, 90, 2⟩, ⟨0, 10, 2, 5, 1, [97, 110, 110], [98, 111, 116, 57], 4, 1, 39, 90, 2⟩, ⟨2, 10, 2, 5, 1, [97, 110, 110], [98, 111, 116, 57], 4, 1, 40, 90, 2⟩, ⟨0, 10, 1, 5, 1, [97, 110, 110], [98, 111, 116, 57], 4, 1, 40, 90, 2⟩, ⟨0, 10, 2, 5, 1, [97, 110, 110], [98, 111, 116, 57], 2, 1, 40, 90, 2⟩, ⟨0, 10, 2, 5, 1, [97, 110, 110], [98, 111, 116, 57], 4, 1, 40, 91, 2⟩, ⟨0, 10, 2, 5, 1, [97, 110, 110], [98, 111, 116, 57], 4, 2, 40, 90, 2⟩, ⟨0, 10, 2, 5, 1, [98, 111, 98], [98, 111, 116, 57], 4, 1, 40, 90, 2⟩, ⟨0, 10, 2, 5, 1, [97, 110, 110], [98, 111, 116, 57], 4, 1, 40, 90, 3⟩, ⟨0, 10, 2, 5, 2, [97, 110, 110], [98, 111, 116, 57], 4, 1, 40, 90, 2⟩]
def wnL : List Int := [18, 12, 9, 16, 24, 24, 24, 24, 24, 24]
def modS (k : Nat) (s : SesM) : SesM := if k = 0 then { s with birth := 11 } else if k = 1 then { s with born := 39 } else if k = 2 then { s with slot := 1 } else s
theorem wr_no : ∀ i, i < 10 → (applyM twoM (birE (wrL.getD i noSes))).1 = wnL.getD i 0 := by decide +kernel
theorem wr_mod : ∀ i, i < 5 → ∀ k, k < i → k < 3 → (applyM twoM (birE (modS k (wrL.getD i noSes)))).1 = wnL.getD k 0 := by decide +kernel
theorem wr_ok : ∀ s ∈ wrL, SesOk s := by
  intro s hs
  simp only [wrL, List.mem_cons, List.not_mem_nil, or_false] at hs
  rcases hs with rfl | rfl | rfl | rfl | rfl | rfl | rfl | rfl | rfl | rfl <;> exact ⟨by decide, by decide, by decide⟩
theorem wr_get (i : Nat) (hi : i < wrL.length) : wrL[i] = wrL.getD i noSes := by rw [List.getD, List.getElem?_eq_getElem hi]; rfl
theorem modS_ok {s : SesM} (h : SesOk s) (k : Nat) : SesOk (modS k s) := by
  unfold modS
  split
  · exact ⟨h.user, h.label, h.scopes⟩
  split
  · exact ⟨h.user, h.label, h.scopes⟩
  split
  · exact ⟨h.user, h.label, h.scopes⟩
  · exact h
/-- What stands in the rounds. -/
structure BirI (w wr : World) (la na : Option Addr) : Prop where
  l : RdS wr (.slice la 10 10) wrL
  n : Rd wr (.slice na 10 10) 10 (wnL.map (Value.int .i64))
  g : ErrType wr
  bel : Below w.heap.size w wr
theorem BirI.below {w wr w2 : World} {la na : Option Addr} (h : BirI w wr la na) (hb : Below wr.heap.size wr w2) : BirI w w2 la na :=
  ⟨h.l.below hb, h.n.below hb, h.g.below hb, h.bel.trans (hb.mono h.bel.size)⟩
theorem BirI.want {w wr : World} {la na : Option Addr} (h : BirI w wr la na) (i : Nat) (hi : i < 10) : ∃ b off, na = some ⟨b, off, none⟩ ∧ wr.cell? ⟨b, off + i, none⟩ = some (.int .i64 (wnL.getD i 0)) := by
  obtain ⟨a', cap', e, _, _, _, h3⟩ := h.n
  injection e with e1 e2 e3
  subst e1
  obtain ⟨b, off, h4, h5⟩ := h3 i (by rw [List.length_map]; exact hi)
  refine ⟨b, off, h4, ?_⟩
  rw [h5, List.getD, List.getD, List.getElem?_map, List.getElem?_eq_getElem (show i < wnL.length from hi)]; rfl
theorem wrap_nat (x : Int) : ∃ sc : Nat, IntKind.u64.wrap x = (sc : Int) ∧ sc < 2 ^ 64 := by
  refine ⟨(x % 18446744073709551616).toNat, ?_, ?_⟩
  · simp [IntKind.wrap, IntKind.signed, IntKind.bits]; omega
  · omega
def wideB : SesM := ⟨2, 5, 1, 3, 1, [97, 110, 110], [112, 104, 111, 110, 101], 6, 1, 0, 90, 1⟩
def wideL : List SesM := [twoA, wideB]
def upK : SesM := ⟨0, 10, 2, 5, 2, [97, 110, 110], [98, 111, 116, 57], 4, 2, 40, 90, 2⟩
def scS (n : Nat) : SesM := { thirdS with scopes := n }
theorem two_ok : ∀ y ∈ twoM.l, SesOk y := fun y hy => by
  simp only [twoM, twoL, List.mem_cons, List.not_mem_nil, or_false] at hy
  rcases hy with rfl | rfl <;> exact ⟨by decide, by decide, by decide⟩
theorem wide_ok : ∀ y ∈ (⟨40, 9, wideL⟩ : StM).l, SesOk y := fun y hy => by
  simp only [wideL, List.mem_cons, List.not_mem_nil, or_false] at hy
  rcases hy with rfl | rfl <;> exact ⟨by decide, by decide, by decide⟩
theorem up_no : (applyM twoM (birE upK)).1 = 0 := by kernel_rfl
/-- A wider parent's state. -/
structure WidI (w wr : World) (q g : Nat) : Prop where
  bx : Box wr q #[.int .i64 40, .int .i64 9, .slice (some ⟨g, 0, none⟩) 2 2] 25
  og : OwnG wr w.heap.size g 2 wideL
  g : ErrType wr
  bel : Below w.heap.size w wr
theorem WidI.below {w wr w2 : World} {q g : Nat} (h : WidI w wr q g) (hb : Below wr.heap.size wr w2) : WidI w w2 q g :=
  ⟨h.bx.below hb, h.og.below hb, h.g.below hb, h.bel.trans (hb.mono h.bel.size)⟩
theorem rd_ints {w : World} {b : Nat} {cs : Array Value} {T : TypeId} (h : Box w b cs T) (l : List Int) (n : Nat) (hn : n = l.length) (hl : n ≤ 9223372036854775807) (hc : cs.toList = l.map (Value.int .i64)) : Rd w (.slice (some ⟨b, 0, none⟩) n n) n (l.map (Value.int .i64)) := by
  subst hn
  exact ⟨_, _, rfl, Nat.le_refl _, hl, (fun h => by cases h), fun j hj => ⟨b, 0, rfl, by
    rw [Nat.zero_add]
    refine h.cell j _ ?_
    rw [← Array.getElem?_toList, hc, List.getD, List.getElem?_eq_getElem hj]; rfl⟩⟩
theorem buildT (t : SesM) (w : World) : (Instr.buildSlice 23 10 #[(0, .agg t.cells), (1, .agg t.cells), (2, .agg t.cells), (3, .agg t.cells), (4, .agg t.cells), (5, .agg t.cells), (6, .agg t.cells), (7, .agg t.cells), (8, .agg t.cells), (9, .agg t.cells)]).run Tryz.prog w = .ok (.slice (some ⟨w.heap.size, 0, none⟩) 10 10) (w.alloc (.cells (flatS [t, t, t, t, t, t, t, t, t, t]).toArray 36)) := by kernel_rfl
set_option maxHeartbeats 25600000 in
theorem knownBirths_calls (w : World) (hg : ErrType w) : Calls Tryz.prog 5 #[] w fun e w' => e = .returned (.bool true) ∧ Below w.heap.size w w' := by
  have HG := Lib.hid hg
  have HB0 := Lib.hid (Below.refl w.heap.size w)
  clear hg
  go_enter Tryz.func5, Tryz.ntmps5
  obtain ⟨t3, ht3⟩ : ∃ t, t = thirdS := ⟨_, rfl⟩
  have HTC := Lib.hid (fun w => third_calls w)
  rw [← ht3] at HTC
  have HT3 := Lib.hid ht3
  clear ht3
  go_wp2_with fail
  refine (HTC.out w).mono ?_
  rintro ev a0 ⟨rfl, hb⟩
  have HB0' := Lib.hid (HB0.out.trans (hb.mono HB0.out.size))
  clear HB0 hb
  have HB0 := HB0'
  clear HB0'
  go_wp2_with fail
  refine (HTC.out a0).mono ?_
  rintro ev a1 ⟨rfl, hb⟩
  have HB0' := Lib.hid (HB0.out.trans (hb.mono HB0.out.size))
  clear HB0 hb
  have HB0 := HB0'
  clear HB0'
  go_wp2_with fail
  refine (HTC.out a1).mono ?_
  rintro ev a2 ⟨rfl, hb⟩
  have HB0' := Lib.hid (HB0.out.trans (hb.mono HB0.out.size))
  clear HB0 hb
  have HB0 := HB0'
  clear HB0'
  go_wp2_with fail
  refine (HTC.out a2).mono ?_
  rintro ev a3 ⟨rfl, hb⟩
  have HB0' := Lib.hid (HB0.out.trans (hb.mono HB0.out.size))
  clear HB0 hb
  have HB0 := HB0'
  clear HB0'
  go_wp2_with fail
  refine (HTC.out a3).mono ?_
  rintro ev a4 ⟨rfl, hb⟩
  have HB0' := Lib.hid (HB0.out.trans (hb.mono HB0.out.size))
  clear HB0 hb
  have HB0 := HB0'
  clear HB0'
  go_wp2_with fail
  refine (HTC.out a4).mono ?_
  rintro ev a5 ⟨rfl, hb⟩
  have HB0' := Lib.hid (HB0.out.trans (hb.mono HB0.out.size))
  clear HB0 hb
  have HB0 := HB0'
  clear HB0'
  go_wp2_with fail
  refine (HTC.out a5).mono ?_
  rintro ev a6 ⟨rfl, hb⟩
  have HB0' := Lib.hid (HB0.out.trans (hb.mono HB0.out.size))
  clear HB0 hb
  have HB0 := HB0'
  clear HB0'
  go_wp2_with fail
  refine (HTC.out a6).mono ?_
  rintro ev a7 ⟨rfl, hb⟩
  have HB0' := Lib.hid (HB0.out.trans (hb.mono HB0.out.size))
  clear HB0 hb
  have HB0 := HB0'
  clear HB0'
  go_wp2_with fail
  refine (HTC.out a7).mono ?_
  rintro ev a8 ⟨rfl, hb⟩
  have HB0' := Lib.hid (HB0.out.trans (hb.mono HB0.out.size))
  clear HB0 hb
  have HB0 := HB0'
  clear HB0'
  go_wp2_with fail
  refine (HTC.out a8).mono ?_
  rintro ev a9 ⟨rfl, hb⟩
  have HB0' := Lib.hid (HB0.out.trans (hb.mono HB0.out.size))
  clear HB0 hb
  have HB0 := HB0'
  clear HB0'
  clear HTC
  go_wp2_with (refine wpList_buildSlice_s (op := ⟨some 20, _, _, _, _, _⟩) (by rfl) 23 10 #[(0, .tmp 10), (1, .tmp 11), (2, .tmp 12), (3, .tmp 13), (4, .tmp 14), (5, .tmp 15), (6, .tmp 16), (7, .tmp 17), (8, .tmp 18), (9, .tmp 19)] rfl #[(0, .agg t3.cells), (1, .agg t3.cells), (2, .agg t3.cells), (3, .agg t3.cells), (4, .agg t3.cells), (5, .agg t3.cells), (6, .agg t3.cells), (7, .agg t3.cells), (8, .agg t3.cells), (9, .agg t3.cells)] (by kernel_rfl) _ _ (buildT t3 _) ?_)
  intro w2 hw2
  have hb2 : Below a9.heap.size a9 w2 := by rw [hw2.out]; exact below_alloc _ _
  have HO0 := Lib.hid (show OwnG w2 w.heap.size a9.heap.size 10 [t3, t3, t3, t3, t3, t3, t3, t3, t3, t3] by
    rw [hw2.out]; exact OwnG.lit [t3, t3, t3, t3, t3, t3, t3, t3, t3, t3] (Box.new _ _ _) rfl (show 10 ≤ 1000000 by omega) HB0.out.size)
  have HB1 := Lib.hid (HB0.out.trans (hb2.mono HB0.out.size))
  have HBQ := Lib.hid HB0.out.size
  clear hw2 hb2 HB0
  obtain ⟨b, hb⟩ : ∃ b, b = a9.heap.size := ⟨_, rfl⟩
  rw [← hb] at HO0 HBQ ⊢
  clear hb
  have e0 : w2.cell? ⟨b, 1, none⟩ = some (.int .i64 t3.birth) := HO0.out.cell 0 1 (show 0 < 10 by omega) (by decide) _ rfl
  have p0 := HO0.out.free 1
  have HO1 := Lib.hid (show OwnG (w2.setCell ⟨b, 1, none⟩ (.int .i64 11)) w.heap.size b 10 [{ t3 with birth := 11 }, t3, t3, t3, t3, t3, t3, t3, t3, t3] from HO0.out.set 0 1 (show 0 < 10 by omega) (by decide) (.int .i64 11) { t3 with birth := 11 } rfl)
  have e1 : (w2.setCell ⟨b, 1, none⟩ (.int .i64 11)).cell? ⟨b, 21, none⟩ = some (.int .i64 t3.born) := HO1.out.cell 1 9 (show 1 < 10 by omega) (by decide) _ rfl
  have p1 := HO1.out.free 21
  have HO2 := Lib.hid (show OwnG ((w2.setCell ⟨b, 1, none⟩ (.int .i64 11)).setCell ⟨b, 21, none⟩ (.int .i64 39)) w.heap.size b 10 [{ t3 with birth := 11 }, { t3 with born := 39 }, t3, t3, t3, t3, t3, t3, t3, t3] from HO1.out.set 1 9 (show 1 < 10 by omega) (by decide) (.int .i64 39) { t3 with born := 39 } rfl)
  have e2 : ((w2.setCell ⟨b, 1, none⟩ (.int .i64 11)).setCell ⟨b, 21, none⟩ (.int .i64 39)).cell? ⟨b, 24, none⟩ = some (.int .i64 t3.slot) := HO2.out.cell 2 0 (show 2 < 10 by omega) (by decide) _ rfl
  have p2 := HO2.out.free 24
  have HO3 := Lib.hid (show OwnG (((w2.setCell ⟨b, 1, none⟩ (.int .i64 11)).setCell ⟨b, 21, none⟩ (.int .i64 39)).setCell ⟨b, 24, none⟩ (.int .i64 2)) w.heap.size b 10 [{ t3 with birth := 11 }, { t3 with born := 39 }, { t3 with slot := 2 }, t3, t3, t3, t3, t3, t3, t3] from HO2.out.set 2 0 (show 2 < 10 by omega) (by decide) (.int .i64 2) { t3 with slot := 2 } rfl)
  have e3 : (((w2.setCell ⟨b, 1, none⟩ (.int .i64 11)).setCell ⟨b, 21, none⟩ (.int .i64 39)).setCell ⟨b, 24, none⟩ (.int .i64 2)).cell? ⟨b, 38, none⟩ = some (.int .i64 t3.upS) := HO3.out.cell 3 2 (show 3 < 10 by omega) (by decide) _ rfl
  have p3 := HO3.out.free 38
  have HO4 := Lib.hid (show OwnG ((((w2.setCell ⟨b, 1, none⟩ (.int .i64 11)).setCell ⟨b, 21, none⟩ (.int .i64 39)).setCell ⟨b, 24, none⟩ (.int .i64 2)).setCell ⟨b, 38, none⟩ (.int .i64 1)) w.heap.size b 10 [{ t3 with birth := 11 }, { t3 with born := 39 }, { t3 with slot := 2 }, { t3 with upS := 1 }, t3, t3, t3, t3, t3, t3] from HO3.out.set 3 2 (show 3 < 10 by omega) (by decide) (.int .i64 1) { t3 with upS := 1 } rfl)
  have e4 : ((((w2.setCell ⟨b, 1, none⟩ (.int .i64 11)).setCell ⟨b, 21, none⟩ (.int .i64 39)).setCell ⟨b, 24, none⟩ (.int .i64 2)).setCell ⟨b, 38, none⟩ (.int .i64 1)).cell? ⟨b, 55, none⟩ = some (.int .u64 (t3.scopes : Int)) := HO4.out.cell 4 7 (show 4 < 10 by omega) (by decide) _ rfl
  have p4 := HO4.out.free 55
  have HO5 := Lib.hid (show OwnG (((((w2.setCell ⟨b, 1, none⟩ (.int .i64 11)).setCell ⟨b, 21, none⟩ (.int .i64 39)).setCell ⟨b, 24, none⟩ (.int .i64 2)).setCell ⟨b, 38, none⟩ (.int .i64 1)).setCell ⟨b, 55, none⟩ (.int .u64 2)) w.heap.size b 10 [{ t3 with birth := 11 }, { t3 with born := 39 }, { t3 with slot := 2 }, { t3 with upS := 1 }, { t3 with scopes := 2 }, t3, t3, t3, t3, t3] from HO4.out.set 4 7 (show 4 < 10 by omega) (by decide) (.int .u64 2) { t3 with scopes := 2 } rfl)
  have e5 : (((((w2.setCell ⟨b, 1, none⟩ (.int .i64 11)).setCell ⟨b, 21, none⟩ (.int .i64 39)).setCell ⟨b, 24, none⟩ (.int .i64 2)).setCell ⟨b, 38, none⟩ (.int .i64 1)).setCell ⟨b, 55, none⟩ (.int .u64 2)).cell? ⟨b, 70, none⟩ = some (.int .i64 t3.deadline) := HO5.out.cell 5 10 (show 5 < 10 by omega) (by decide) _ rfl
  have p5 := HO5.out.free 70
  have HO6 := Lib.hid (show OwnG ((((((w2.setCell ⟨b, 1, none⟩ (.int .i64 11)).setCell ⟨b, 21, none⟩ (.int .i64 39)).setCell ⟨b, 24, none⟩ (.int .i64 2)).setCell ⟨b, 38, none⟩ (.int .i64 1)).setCell ⟨b, 55, none⟩ (.int .u64 2)).setCell ⟨b, 70, none⟩ (.int .i64 91)) w.heap.size b 10 [{ t3 with birth := 11 }, { t3 with born := 39 }, { t3 with slot := 2 }, { t3 with upS := 1 }, { t3 with scopes := 2 }, { t3 with deadline := 91 }, t3, t3, t3, t3] from HO5.out.set 5 10 (show 5 < 10 by omega) (by decide) (.int .i64 91) { t3 with deadline := 91 } rfl)
  have e6 : ((((((w2.setCell ⟨b, 1, none⟩ (.int .i64 11)).setCell ⟨b, 21, none⟩ (.int .i64 39)).setCell ⟨b, 24, none⟩ (.int .i64 2)).setCell ⟨b, 38, none⟩ (.int .i64 1)).setCell ⟨b, 55, none⟩ (.int .u64 2)).setCell ⟨b, 70, none⟩ (.int .i64 91)).cell? ⟨b, 80, none⟩ = some (.int .i64 t3.level) := HO6.out.cell 6 8 (show 6 < 10 by omega) (by decide) _ rfl
  have p6 := HO6.out.free 80
  have HO7 := Lib.hid (show OwnG (((((((w2.setCell ⟨b, 1, none⟩ (.int .i64 11)).setCell ⟨b, 21, none⟩ (.int .i64 39)).setCell ⟨b, 24, none⟩ (.int .i64 2)).setCell ⟨b, 38, none⟩ (.int .i64 1)).setCell ⟨b, 55, none⟩ (.int .u64 2)).setCell ⟨b, 70, none⟩ (.int .i64 91)).setCell ⟨b, 80, none⟩ (.int .i64 2)) w.heap.size b 10 [{ t3 with birth := 11 }, { t3 with born := 39 }, { t3 with slot := 2 }, { t3 with upS := 1 }, { t3 with scopes := 2 }, { t3 with deadline := 91 }, { t3 with level := 2 }, t3, t3, t3] from HO6.out.set 6 8 (show 6 < 10 by omega) (by decide) (.int .i64 2) { t3 with level := 2 } rfl)
  have e7 : (((((((w2.setCell ⟨b, 1, none⟩ (.int .i64 11)).setCell ⟨b, 21, none⟩ (.int .i64 39)).setCell ⟨b, 24, none⟩ (.int .i64 2)).setCell ⟨b, 38, none⟩ (.int .i64 1)).setCell ⟨b, 55, none⟩ (.int .u64 2)).setCell ⟨b, 70, none⟩ (.int .i64 91)).setCell ⟨b, 80, none⟩ (.int .i64 2)).cell? ⟨b, 89, none⟩ = some (.string (SB t3.user)) := HO7.out.cell 7 5 (show 7 < 10 by omega) (by decide) _ rfl
  have p7 := HO7.out.free 89
  have HO8 := Lib.hid (show OwnG ((((((((w2.setCell ⟨b, 1, none⟩ (.int .i64 11)).setCell ⟨b, 21, none⟩ (.int .i64 39)).setCell ⟨b, 24, none⟩ (.int .i64 2)).setCell ⟨b, 38, none⟩ (.int .i64 1)).setCell ⟨b, 55, none⟩ (.int .u64 2)).setCell ⟨b, 70, none⟩ (.int .i64 91)).setCell ⟨b, 80, none⟩ (.int .i64 2)).setCell ⟨b, 89, none⟩ (.string ⟨#[98, 111, 98]⟩)) w.heap.size b 10 [{ t3 with birth := 11 }, { t3 with born := 39 }, { t3 with slot := 2 }, { t3 with upS := 1 }, { t3 with scopes := 2 }, { t3 with deadline := 91 }, { t3 with level := 2 }, { t3 with user := [98, 111, 98] }, t3, t3] from HO7.out.set 7 5 (show 7 < 10 by omega) (by decide) (.string ⟨#[98, 111, 98]⟩) { t3 with user := [98, 111, 98] } rfl)
  have e8 : ((((((((w2.setCell ⟨b, 1, none⟩ (.int .i64 11)).setCell ⟨b, 21, none⟩ (.int .i64 39)).setCell ⟨b, 24, none⟩ (.int .i64 2)).setCell ⟨b, 38, none⟩ (.int .i64 1)).setCell ⟨b, 55, none⟩ (.int .u64 2)).setCell ⟨b, 70, none⟩ (.int .i64 91)).setCell ⟨b, 80, none⟩ (.int .i64 2)).setCell ⟨b, 89, none⟩ (.string ⟨#[98, 111, 98]⟩)).cell? ⟨b, 107, none⟩ = some (.int .i64 t3.depth) := HO8.out.cell 8 11 (show 8 < 10 by omega) (by decide) _ rfl
  have p8 := HO8.out.free 107
  have HO9 := Lib.hid (show OwnG (((((((((w2.setCell ⟨b, 1, none⟩ (.int .i64 11)).setCell ⟨b, 21, none⟩ (.int .i64 39)).setCell ⟨b, 24, none⟩ (.int .i64 2)).setCell ⟨b, 38, none⟩ (.int .i64 1)).setCell ⟨b, 55, none⟩ (.int .u64 2)).setCell ⟨b, 70, none⟩ (.int .i64 91)).setCell ⟨b, 80, none⟩ (.int .i64 2)).setCell ⟨b, 89, none⟩ (.string ⟨#[98, 111, 98]⟩)).setCell ⟨b, 107, none⟩ (.int .i64 3)) w.heap.size b 10 [{ t3 with birth := 11 }, { t3 with born := 39 }, { t3 with slot := 2 }, { t3 with upS := 1 }, { t3 with scopes := 2 }, { t3 with deadline := 91 }, { t3 with level := 2 }, { t3 with user := [98, 111, 98] }, { t3 with depth := 3 }, t3] from HO8.out.set 8 11 (show 8 < 10 by omega) (by decide) (.int .i64 3) { t3 with depth := 3 } rfl)
  have e9 : (((((((((w2.setCell ⟨b, 1, none⟩ (.int .i64 11)).setCell ⟨b, 21, none⟩ (.int .i64 39)).setCell ⟨b, 24, none⟩ (.int .i64 2)).setCell ⟨b, 38, none⟩ (.int .i64 1)).setCell ⟨b, 55, none⟩ (.int .u64 2)).setCell ⟨b, 70, none⟩ (.int .i64 91)).setCell ⟨b, 80, none⟩ (.int .i64 2)).setCell ⟨b, 89, none⟩ (.string ⟨#[98, 111, 98]⟩)).setCell ⟨b, 107, none⟩ (.int .i64 3)).cell? ⟨b, 112, none⟩ = some (.int .i64 t3.kind) := HO9.out.cell 9 4 (show 9 < 10 by omega) (by decide) _ rfl
  have p9 := HO9.out.free 112
  have HO10 := Lib.hid (show OwnG ((((((((((w2.setCell ⟨b, 1, none⟩ (.int .i64 11)).setCell ⟨b, 21, none⟩ (.int .i64 39)).setCell ⟨b, 24, none⟩ (.int .i64 2)).setCell ⟨b, 38, none⟩ (.int .i64 1)).setCell ⟨b, 55, none⟩ (.int .u64 2)).setCell ⟨b, 70, none⟩ (.int .i64 91)).setCell ⟨b, 80, none⟩ (.int .i64 2)).setCell ⟨b, 89, none⟩ (.string ⟨#[98, 111, 98]⟩)).setCell ⟨b, 107, none⟩ (.int .i64 3)).setCell ⟨b, 112, none⟩ (.int .i64 2)) w.heap.size b 10 [{ t3 with birth := 11 }, { t3 with born := 39 }, { t3 with slot := 2 }, { t3 with upS := 1 }, { t3 with scopes := 2 }, { t3 with deadline := 91 }, { t3 with level := 2 }, { t3 with user := [98, 111, 98] }, { t3 with depth := 3 }, { t3 with kind := 2 }] from HO9.out.set 9 4 (show 9 < 10 by omega) (by decide) (.int .i64 2) { t3 with kind := 2 } rfl)
  have hmod : Mod (fun i => i = b) w2 ((((((((((w2.setCell ⟨b, 1, none⟩ (.int .i64 11)).setCell ⟨b, 21, none⟩ (.int .i64 39)).setCell ⟨b, 24, none⟩ (.int .i64 2)).setCell ⟨b, 38, none⟩ (.int .i64 1)).setCell ⟨b, 55, none⟩ (.int .u64 2)).setCell ⟨b, 70, none⟩ (.int .i64 91)).setCell ⟨b, 80, none⟩ (.int .i64 2)).setCell ⟨b, 89, none⟩ (.string ⟨#[98, 111, 98]⟩)).setCell ⟨b, 107, none⟩ (.int .i64 3)).setCell ⟨b, 112, none⟩ (.int .i64 2)) := ((((((((((Mod.refl (fun i => i = b) w2).trans (Mod.set (fun i => i = b) _ ⟨b, 1, none⟩ (.int .i64 11) rfl)).trans (Mod.set (fun i => i = b) _ ⟨b, 21, none⟩ (.int .i64 39) rfl)).trans (Mod.set (fun i => i = b) _ ⟨b, 24, none⟩ (.int .i64 2) rfl)).trans (Mod.set (fun i => i = b) _ ⟨b, 38, none⟩ (.int .i64 1) rfl)).trans (Mod.set (fun i => i = b) _ ⟨b, 55, none⟩ (.int .u64 2) rfl)).trans (Mod.set (fun i => i = b) _ ⟨b, 70, none⟩ (.int .i64 91) rfl)).trans (Mod.set (fun i => i = b) _ ⟨b, 80, none⟩ (.int .i64 2) rfl)).trans (Mod.set (fun i => i = b) _ ⟨b, 89, none⟩ (.string ⟨#[98, 111, 98]⟩) rfl)).trans (Mod.set (fun i => i = b) _ ⟨b, 107, none⟩ (.int .i64 3) rfl)).trans (Mod.set (fun i => i = b) _ ⟨b, 112, none⟩ (.int .i64 2) rfl)
  have HB2 := Lib.hid (HB1.out.trans (hmod.below HB1.out.size (fun i hi => by have := HBQ.out; omega)))
  clear hmod HB1
  go_wp2_with fail
  clear e0 e1 e2 e3 e4 e5 e6 e7 e8 e9 p0 p1 p2 p3 p4 p5 p6 p7 p8 p9
  have hsz : ((((((((((w2.setCell ⟨b, 1, none⟩ (.int .i64 11)).setCell ⟨b, 21, none⟩ (.int .i64 39)).setCell ⟨b, 24, none⟩ (.int .i64 2)).setCell ⟨b, 38, none⟩ (.int .i64 1)).setCell ⟨b, 55, none⟩ (.int .u64 2)).setCell ⟨b, 70, none⟩ (.int .i64 91)).setCell ⟨b, 80, none⟩ (.int .i64 2)).setCell ⟨b, 89, none⟩ (.string ⟨#[98, 111, 98]⟩)).setCell ⟨b, 107, none⟩ (.int .i64 3)).setCell ⟨b, 112, none⟩ (.int .i64 2)).heap.size = w2.heap.size := by simp
  generalize ((((((((((w2.setCell ⟨b, 1, none⟩ (.int .i64 11)).setCell ⟨b, 21, none⟩ (.int .i64 39)).setCell ⟨b, 24, none⟩ (.int .i64 2)).setCell ⟨b, 38, none⟩ (.int .i64 1)).setCell ⟨b, 55, none⟩ (.int .u64 2)).setCell ⟨b, 70, none⟩ (.int .i64 91)).setCell ⟨b, 80, none⟩ (.int .i64 2)).setCell ⟨b, 89, none⟩ (.string ⟨#[98, 111, 98]⟩)).setCell ⟨b, 107, none⟩ (.int .i64 3)).setCell ⟨b, 112, none⟩ (.int .i64 2)) = w3 at HO10 HB2 hsz ⊢
  rw [← hsz]
  clear hsz
  clear HO0 HO1 HO2 HO3 HO4 HO5 HO6 HO7 HO8 HO9
  have hl1 := HO10.out.own.rd
  rw [HT3.out] at hl1
  have hbb := below_alloc w3 (.cells #[.int .i64 18, .int .i64 12, .int .i64 9, .int .i64 16, .int .i64 24, .int .i64 24, .int .i64 24, .int .i64 24, .int .i64 24, .int .i64 24] 3)
  have hl2 := rd_ints (Box.new w3 #[.int .i64 18, .int .i64 12, .int .i64 9, .int .i64 16, .int .i64 24, .int .i64 24, .int .i64 24, .int .i64 24, .int .i64 24, .int .i64 24] 3) wnL 10 rfl (by decide) rfl
  have hb2 := HB2.out.trans (hbb.mono HB2.out.size)
  have HI0 := Lib.hid (show BirI w (w3.alloc (.cells #[.int .i64 18, .int .i64 12, .int .i64 9, .int .i64 16, .int .i64 24, .int .i64 24, .int .i64 24, .int .i64 24, .int .i64 24, .int .i64 24] 3)) (some ⟨b, 0, none⟩) (some ⟨w3.heap.size, 0, none⟩) from
    ⟨RdS.below (show RdS w3 (.slice (some ⟨b, 0, none⟩) 10 10) wrL from hl1) hbb, hl2, HG.out.below hb2, hb2⟩)
  clear hbb hl1 hl2 hb2 HB2 HO10
  generalize w3.alloc (.cells #[.int .i64 18, .int .i64 12, .int .i64 9, .int .i64 16, .int .i64 24, .int .i64 24, .int .i64 24, .int .i64 24, .int .i64 24, .int .i64 24] 3) = w2 at HI0 ⊢
  generalize (some ⟨b, 0, none⟩ : Option Addr) = la at HI0 ⊢
  generalize (some ⟨w3.heap.size, 0, none⟩ : Option Addr) = na at HI0 ⊢
  go_loopg [3] 10 (fun gk iv wr => ∃ (k : Nat), gk + k = 10 ∧ iv = .int .i64 (k : Int) ∧ BirI w wr la na)
  case atStart => exact ⟨0, Nat.add_zero _, rfl, HI0.out⟩
  case round =>
    clear HI0
    obtain ⟨k, hgk, rfl, hI⟩ := hrel
    have k0 : (0 : Int) ≤ (k : Int) := by omega
    have HGK := Lib.hid hgk
    have HI := Lib.hid hI
    clear hgk hI
    by_cases hk : k < 10
    rotate_left
    · have k1 : ¬ (k : Int) < 10 := by omega
      clear hk
      go_wp2_with fail
      refine (two_calls wr).mono ?_
      rintro ev w5 ⟨g, rfl, ho, hb⟩
      have hm := Mod.set (fun k => k = g) w5 ⟨g, 19, none⟩ (.int .u64 6) rfl
      have hba := below_alloc (w5.setCell ⟨g, 19, none⟩ (.int .u64 6)) (.cells #[.int .i64 40, .int .i64 9, .slice (some ⟨g, 0, none⟩) 2 2] 25)
      have hbx := Box.new (w5.setCell ⟨g, 19, none⟩ (.int .u64 6)) #[.int .i64 40, .int .i64 9, .slice (some ⟨g, 0, none⟩) 2 2] 25
      rw [show (w5.setCell ⟨g, 19, none⟩ (.int .u64 6)).heap.size = w5.heap.size by simp] at hbx hba
      have hb6 := HI.out.bel.trans (hb.mono HI.out.bel.size)
      have hg0 := ho.ge
      have hg1 := ho.lt
      have hsz := HI.out.bel.size
      have hb7 := hb6.trans (hm.below hb6.size (fun k hk => by omega))
      have hb8 := hb7.trans (hba.mono (Nat.le_trans hb6.size (Nat.le_refl _)))
      have e19 : w5.cell? ⟨g, 19, none⟩ = some (.int .u64 5) := ho.cell 1 7 (by decide) (by decide) _ rfl
      have p19 := ho.free 19
      have hog := ho.set 1 7 (by decide) (by decide) (.int .u64 6) wideB rfl
      have hgn : g ≠ w5.heap.size := by omega
      have HW0 := Lib.hid (show WidI w ((w5.setCell ⟨g, 19, none⟩ (.int .u64 6)).alloc (.cells #[.int .i64 40, .int .i64 9, .slice (some ⟨g, 0, none⟩) 2 2] 25)) w5.heap.size g from
        ⟨hbx, ⟨hog.own.base hsz |>.below (by rw [show (w5.setCell ⟨g, 19, none⟩ (.int .u64 6)).heap.size = w5.heap.size by simp]; exact hba), by omega, by rw [World.size_alloc]; simp; omega⟩, HG.out.below hb8, hb8⟩)
      clear ho hb hba hbx hb6 hb7 hm hog hg0 hsz hb8 HI
      go_wp2_with fail
      clear e19 p19
      try clear hg1 hgn
      generalize ((w5.setCell ⟨g, 19, none⟩ (.int .u64 6)).alloc (.cells #[.int .i64 40, .int .i64 9, .slice (some ⟨g, 0, none⟩) 2 2] 25)) = w8 at HW0 ⊢
      generalize w5.heap.size = q at HW0 ⊢
      go_loopg [7] 64 (fun gk iv wr => ∃ (m : Nat), gk + m = 64 ∧ iv = .int .i64 (m : Int) ∧ WidI w wr q g)
      case atStart => exact ⟨0, Nat.add_zero _, rfl, HW0.out⟩
      case round =>
        clear HW0
        obtain ⟨m, hgm, rfl, hI⟩ := hrel
        have m0 : (0 : Int) ≤ (m : Int) := by omega
        have HGM := Lib.hid hgm
        have HI := Lib.hid hI
        clear hgm hI
        by_cases hm : m < 64
        rotate_left
        · have m1 : ¬ (m : Int) < 64 := by omega
          clear hm
          go_wp2_with fail
          refine (third_calls wr).mono ?_
          rintro ev w9 ⟨rfl, hb⟩
          rw [show thirdS.cells = #[.int .i64 0, .int .i64 10, .int .i64 2, .int .i64 5, .int .i64 1, .string ⟨#[97, 110, 110]⟩, .string ⟨#[98, 111, 116, 57]⟩, .int .u64 4, .int .i64 1, .int .i64 40, .int .i64 90, .int .i64 2] from rfl]
          have hb9 := HI.out.bel.trans (hb.mono HI.out.bel.size)
          have HB9 := Lib.hid (hb9.trans ((below_alloc w9 (.cells upK.cells 36)).mono hb9.size))
          clear hb hb9 HI
          have hnoc := fun w' => no_calls upK ⟨by decide, by decide, by decide⟩ w'
          rw [up_no] at hnoc
          have HNOU := Lib.hid hnoc
          clear hnoc
          go_wp2_with fail
          refine (HNOU.out _).mono ?_
          rintro ev wz ⟨rfl, hb⟩
          have HBZ := Lib.hid (HB9.out.trans (hb.mono HB9.out.size))
          clear hb HB9
          go_wp2_with fail
          go_ret
          exact ⟨rfl, HBZ.out⟩
        have m1 : (m : Int) < 64 := by omega
        have HM := Lib.hid hm
        clear hm
        go_wp2_with fail
        refine (third_calls wr).mono ?_
        rintro ev w9 ⟨rfl, hb⟩
        rw [show thirdS.cells = #[.int .i64 0, .int .i64 10, .int .i64 2, .int .i64 5, .int .i64 1, .string ⟨#[97, 110, 110]⟩, .string ⟨#[98, 111, 116, 57]⟩, .int .u64 4, .int .i64 1, .int .i64 40, .int .i64 90, .int .i64 2] from rfl]
        have HI9 := Lib.hid (HI.out.below hb)
        clear hb HI
        go_wp2_with fail
        obtain ⟨sc, hsc, hsl⟩ := wrap_nat (2 ^ m)
        rw [hsc]
        have hba := below_alloc w9 (.cells #[.int .i64 0, .int .i64 10, .int .i64 2, .int .i64 5, .int .i64 1, .string ⟨#[97, 110, 110]⟩, .string ⟨#[98, 111, 116, 57]⟩, .int .u64 (sc : Int), .int .i64 1, .int .i64 40, .int .i64 90, .int .i64 2] 36)
        have HT := Lib.hid (show Box (w9.alloc (.cells #[.int .i64 0, .int .i64 10, .int .i64 2, .int .i64 5, .int .i64 1, .string ⟨#[97, 110, 110]⟩, .string ⟨#[98, 111, 116, 57]⟩, .int .u64 (sc : Int), .int .i64 1, .int .i64 40, .int .i64 90, .int .i64 2] 36)) w9.heap.size (scS sc).cells 36 from Box.new w9 (scS sc).cells 36)
        have HIT := Lib.hid (HI9.out.below hba)
        clear hba HI9 hsc
        generalize w9.alloc (.cells #[.int .i64 0, .int .i64 10, .int .i64 2, .int .i64 5, .int .i64 1, .string ⟨#[97, 110, 110]⟩, .string ⟨#[98, 111, 116, 57]⟩, .int .u64 (sc : Int), .int .i64 1, .int .i64 40, .int .i64 90, .int .i64 2] 36) = w4 at HT HIT ⊢
        generalize w9.heap.size = q9 at HT ⊢
        obtain ⟨t, ht⟩ : ∃ t, t = scS sc := ⟨_, rfl⟩
        rw [← ht] at HT
        have hokt : SesOk t := by rw [ht]; exact ⟨show (3 : Nat) ≤ 9223372036854775807 by decide, show (4 : Nat) ≤ 9223372036854775807 by decide, hsl⟩
        clear ht hsl
        have HRAT := Lib.hid (fun v w' h hg => replayApplies_calls twoM (birE t) v w' h two_ok hokt.user hokt.label hokt.scopes hg)
        have HRAW := Lib.hid (fun v w' h hg => replayApplies_calls ⟨40, 9, wideL⟩ (birE t) v w' h wide_ok hokt.user hokt.label hokt.scopes hg)
        clear hokt
        refine wp_region_held_drew (S := fun W => Below w4.heap.size w4 W) (by kernel_rfl) (below_drew w4) (fun hHeld => ?_)
        refine wpAnyH_take (i := 1) (oi := ⟨some 133, .load _ _, _, _, _, _⟩) (v := .agg #[.int .i64 t.slot, .int .i64 t.birth, .int .i64 t.upS, .int .i64 t.upB, .int .i64 t.kind, .string (SB t.user), .string (SB t.label), .int .u64 (t.scopes : Int), .int .i64 t.level, .int .i64 t.born, .int .i64 t.deadline, .int .i64 t.depth]) rfl (by kernel_rfl) (by kernel_rfl) (by kernel_rfl) (fun _ _ _ h => h) (Or.inl ⟨by kernel_rfl, fun w' hw' => exec_load_m 36 (.tmp 8) rfl (q9) (0) rfl (#[.int .i64 t.slot, .int .i64 t.birth, .int .i64 t.upS, .int .i64 t.upB, .int .i64 t.kind, .string (SB t.user), .string (SB t.label), .int .u64 (t.scopes : Int), .int .i64 t.level, .int .i64 t.born, .int .i64 t.deadline, .int .i64 t.depth]).toList _ (fun j v hv => by rw [Nat.zero_add]; exact (HT.out.below hw').cell j v (by rw [← Array.getElem?_toList]; exact hv)) Tryz.underlying36 rfl (by kernel_rfl)⟩) (by assumption) ?_
        try simp only [Act.put, List.setIfInBounds_toArray, List.set_cons_zero, List.set_cons_succ]
        refine wpAnyH_take (i := 2) (oi := ⟨some 134, _, _, _, _, _⟩) (v := ?_) rfl (by kernel_rfl) (by kernel_rfl) (by kernel_rfl) (fun _ _ _ h => h) (Or.inl ⟨by kernel_rfl, ?_⟩) (by assumption) ?_
        rotate_left 1
        · intro w' hw'; clear hw'; go_simp; try with_reducible rfl
        try simp only [Act.put, List.setIfInBounds_toArray, List.set_cons_zero, List.set_cons_succ]
        refine wpAnyH_ready (rs := [0]) (by kernel_rfl) (by simp) (AllReadyH.cons (o := ⟨some 132, .call _, _, _, _, _⟩) rfl (fun K hK => ?_) AllReadyH.nil)
        go_simp
        refine (two_calls _).mono ?_
        rintro e3 w5 ⟨gg, rfl, ho, hb3⟩
        have h5' := below_trans hHeld hb3
        refine hK.out _ _ h5' (fun h5 => ?_)
        have HO := Lib.hid ho.own.rd
        clear ho
        clear hK K hb3 h5'
        try simp only [Act.put, List.setIfInBounds_toArray, List.set_cons_zero, List.set_cons_succ]
        refine wpAnyH_ready (rs := [3]) (by kernel_rfl) (by simp) (AllReadyH.cons (o := ⟨some 135, .call _, _, _, _, _⟩) rfl (fun K hK => ?_) AllReadyH.nil)
        go_simp
        refine (HRAT.out _ w5 HO.out (HIT.out.g.below h5)).mono ?_
        rintro e3 w6 ⟨rfl, hb3⟩
        have h6' := below_trans h5 hb3
        refine hK.out _ _ h6' (fun h6 => ?_)
        clear HO
        clear hK K hb3 h6'
        try simp only [Act.put, List.setIfInBounds_toArray, List.set_cons_zero, List.set_cons_succ]
        refine wpAnyH_take (i := 4) (oi := ⟨some 136, _, _, _, _, _⟩) (v := ?_) rfl (by kernel_rfl) (by kernel_rfl) (by kernel_rfl) (fun _ _ _ h => h) (Or.inl ⟨by kernel_rfl, ?_⟩) (by assumption) ?_
        rotate_left 1
        · intro w' hw'; clear hw'; go_simp; try with_reducible rfl
        try simp only [Act.put, List.setIfInBounds_toArray, List.set_cons_zero, List.set_cons_succ]
        refine wpAnyH_take (i := 5) (oi := ⟨some 137, _, _, _, _, _⟩) (v := ?_) rfl (by kernel_rfl) (by kernel_rfl) (by kernel_rfl) (fun _ _ _ h => h) (Or.inl ⟨by kernel_rfl, ?_⟩) (by assumption) ?_
        rotate_left 1
        · intro w' hw'; clear hw'; go_simp; try with_reducible rfl
        try simp only [Act.put, List.setIfInBounds_toArray, List.set_cons_zero, List.set_cons_succ]
        refine wpAnyH_take (i := 6) (oi := ⟨some 138, .load _ _, _, _, _, _⟩) (v := .agg #[.int .i64 40, .int .i64 9, .slice (some ⟨g, 0, none⟩) 2 2]) rfl (by kernel_rfl) (by kernel_rfl) (by kernel_rfl) (fun _ _ _ h => h) (Or.inl ⟨by kernel_rfl, fun w' hw' => exec_load_m 25 (.tmp 6) rfl (q) (0) rfl (#[.int .i64 40, .int .i64 9, .slice (some ⟨g, 0, none⟩) 2 2]).toList _ (zrangeS (HIT.out.bx.below hw')) Tryz.underlying25 rfl (by kernel_rfl)⟩) (by assumption) ?_
        try simp only [Act.put, List.setIfInBounds_toArray, List.set_cons_zero, List.set_cons_succ]
        refine wpAnyH_take (i := 7) (oi := ⟨some 139, .load _ _, _, _, _, _⟩) (v := .agg #[.int .i64 t.slot, .int .i64 t.birth, .int .i64 t.upS, .int .i64 t.upB, .int .i64 t.kind, .string (SB t.user), .string (SB t.label), .int .u64 (t.scopes : Int), .int .i64 t.level, .int .i64 t.born, .int .i64 t.deadline, .int .i64 t.depth]) rfl (by kernel_rfl) (by kernel_rfl) (by kernel_rfl) (fun _ _ _ h => h) (Or.inl ⟨by kernel_rfl, fun w' hw' => exec_load_m 36 (.tmp 8) rfl (q9) (0) rfl (#[.int .i64 t.slot, .int .i64 t.birth, .int .i64 t.upS, .int .i64 t.upB, .int .i64 t.kind, .string (SB t.user), .string (SB t.label), .int .u64 (t.scopes : Int), .int .i64 t.level, .int .i64 t.born, .int .i64 t.deadline, .int .i64 t.depth]).toList _ (fun j v hv => by rw [Nat.zero_add]; exact (HT.out.below hw').cell j v (by rw [← Array.getElem?_toList]; exact hv)) Tryz.underlying36 rfl (by kernel_rfl)⟩) (by assumption) ?_
        try simp only [Act.put, List.setIfInBounds_toArray, List.set_cons_zero, List.set_cons_succ]
        refine wpAnyH_take (i := 8) (oi := ⟨some 140, _, _, _, _, _⟩) (v := ?_) rfl (by kernel_rfl) (by kernel_rfl) (by kernel_rfl) (fun _ _ _ h => h) (Or.inl ⟨by kernel_rfl, ?_⟩) (by assumption) ?_
        rotate_left 1
        · intro w' hw'; clear hw'; go_simp; try with_reducible rfl
        try simp only [Act.put, List.setIfInBounds_toArray, List.set_cons_zero, List.set_cons_succ]
        refine wpAnyH_ready (rs := [9]) (by kernel_rfl) (by simp) (AllReadyH.cons (o := ⟨some 141, .call _, _, _, _, _⟩) rfl (fun K hK => ?_) AllReadyH.nil)
        go_simp
        refine (HRAW.out _ w6 (HIT.out.og.below h6).own.rd (HIT.out.g.below h6)).mono ?_
        rintro e3 w7 ⟨rfl, hb3⟩
        have h7' := below_trans h6 hb3
        refine hK.out _ _ h7' (fun h7 => ?_)
        clear hK K hb3 h7'
        try simp only [Act.put, List.setIfInBounds_toArray, List.set_cons_zero, List.set_cons_succ]
        refine wpAnyH_take (i := 10) (oi := ⟨some 142, _, _, _, _, _⟩) (v := ?_) rfl (by kernel_rfl) (by kernel_rfl) (by kernel_rfl) (fun _ _ _ h => h) (Or.inl ⟨by kernel_rfl, ?_⟩) (by assumption) ?_
        rotate_left 1
        · intro w' hw'; clear hw'; go_simp; try with_reducible rfl
        try simp only [Act.put, List.setIfInBounds_toArray, List.set_cons_zero, List.set_cons_succ]
        refine wpAnyH_take (i := 11) (oi := ⟨some 143, _, _, _, _, _⟩) (v := ?_) rfl (by kernel_rfl) (by kernel_rfl) (by kernel_rfl) (fun _ _ _ h => h) (Or.inl ⟨by kernel_rfl, ?_⟩) (by assumption) ?_
        rotate_left 1
        · intro w' hw'; clear hw'; go_simp; try with_reducible rfl
        try simp only [Act.put, List.setIfInBounds_toArray, List.set_cons_zero, List.set_cons_succ]
        refine wpAnyH_done (by kernel_rfl) ?_ _
        have HI9 := Lib.hid (HIT.out.below h7)
        clear h5 h6 h7 HT HIT
        go_wp2_with fail
        go_roundg (64 - (m + 1))
        case measure => have := HGM.out; have := HM.out; omega
        case rel => exact ⟨m + 1, by have := HGM.out; have := HM.out; omega, by go_num, HI9.out⟩
    have k1 : (k : Int) < 10 := by omega
    have hkl : k < wrL.length := hk
    obtain ⟨s, hs⟩ : ∃ s, s = wrL[k] := ⟨_, rfl⟩
    obtain ⟨rb, ro, hra, hrow⟩ := HI.out.l.row k hkl
    obtain ⟨nb, no, hna, hnc⟩ := HI.out.want k hk
    rw [← hs] at hrow
    have hok : SesOk s := by rw [hs]; exact wr_ok _ (List.getElem_mem hkl)
    have hse : s = wrL.getD k noSes := by rw [hs, wr_get]
    have hno := wr_no k hk
    rw [← hse] at hno
    obtain ⟨x, hx⟩ : ∃ x, x = wnL.getD k 0 := ⟨_, rfl⟩
    rw [← hx] at hnc hno
    have hnoc := fun w' => no_calls s hok w'
    rw [hno] at hnoc
    have HNOC := Lib.hid hnoc
    have HRAC := Lib.hid (fun v w' h hg => replayApplies_calls twoM (birE s) v w' h two_ok hok.user hok.label hok.scopes hg)
    have HROW := Lib.hid hrow
    have HNC := Lib.hid hnc
    have HK := Lib.hid hk
    have HSE := Lib.hid hse
    have HOK := Lib.hid hok
    subst hra
    subst hna
    clear hk hkl hs hrow hnc hok hse hno hx hnoc
    go_wp2_with fail
    refine wp_region_held_drew (S := fun W => Below wr.heap.size wr W) (by kernel_rfl) (below_drew wr) (fun hHeld => ?_)
    refine wpAnyH_take (i := 0) (oi := ⟨some 59, _, _, _, _, _⟩) (v := ?_) rfl (by kernel_rfl) (by kernel_rfl) (by kernel_rfl) (fun _ _ _ h => h) (Or.inl ⟨by kernel_rfl, ?_⟩) (by assumption) ?_
    rotate_left 1
    · intro w' hw'; clear hw'; go_simp; try with_reducible rfl
    try simp only [Act.put, List.setIfInBounds_toArray, List.set_cons_zero, List.set_cons_succ]
    refine wpAnyH_take (i := 1) (oi := ⟨some 60, _, _, _, _, _⟩) (v := ?_) rfl (by kernel_rfl) (by kernel_rfl) (by kernel_rfl) (fun _ _ _ h => h) (Or.inl ⟨by kernel_rfl, ?_⟩) (by assumption) ?_
    rotate_left 1
    · intro w' hw'; clear hw'; go_simp; try with_reducible rfl
    try simp only [Act.put, List.setIfInBounds_toArray, List.set_cons_zero, List.set_cons_succ]
    refine wpAnyH_take (i := 2) (oi := ⟨some 61, _, _, _, _, _⟩) (v := ?_) rfl (by kernel_rfl) (by kernel_rfl) (by kernel_rfl) (fun _ _ _ h => h) (Or.inl ⟨by kernel_rfl, ?_⟩) (by assumption) ?_
    rotate_left 1
    · intro w' hw'; clear hw'; go_simp; try with_reducible rfl
    try simp only [Act.put, List.setIfInBounds_toArray, List.set_cons_zero, List.set_cons_succ]
    refine wpAnyH_take (i := 3) (oi := ⟨some 62, .load _ _, _, _, _, _⟩) (v := .agg #[.int .i64 s.slot, .int .i64 s.birth, .int .i64 s.upS, .int .i64 s.upB, .int .i64 s.kind, .string (SB s.user), .string (SB s.label), .int .u64 (s.scopes : Int), .int .i64 s.level, .int .i64 s.born, .int .i64 s.deadline, .int .i64 s.depth]) rfl (by kernel_rfl) (by kernel_rfl) (by kernel_rfl) (fun _ _ _ h => h) (Or.inl ⟨by kernel_rfl, fun w' hw' => exec_load_m 36 (.tmp 61) rfl (rb) (ro + k * 12) rfl (#[.int .i64 s.slot, .int .i64 s.birth, .int .i64 s.upS, .int .i64 s.upB, .int .i64 s.kind, .string (SB s.user), .string (SB s.label), .int .u64 (s.scopes : Int), .int .i64 s.level, .int .i64 s.born, .int .i64 s.deadline, .int .i64 s.depth]).toList _ (fun j v hv => below_heap hw' (HROW.out j v (by exact hv))) Tryz.underlying36 rfl (by kernel_rfl)⟩) (by assumption) ?_
    try simp only [Act.put, List.setIfInBounds_toArray, List.set_cons_zero, List.set_cons_succ]
    refine wpAnyH_take (i := 5) (oi := ⟨some 64, _, _, _, _, _⟩) (v := ?_) rfl (by kernel_rfl) (by kernel_rfl) (by kernel_rfl) (fun _ _ _ h => h) (Or.inl ⟨by kernel_rfl, ?_⟩) (by assumption) ?_
    rotate_left 1
    · intro w' hw'; clear hw'; go_simp; try with_reducible rfl
    try simp only [Act.put, List.setIfInBounds_toArray, List.set_cons_zero, List.set_cons_succ]
    refine wpAnyH_take (i := 6) (oi := ⟨some 65, _, _, _, _, _⟩) (v := ?_) rfl (by kernel_rfl) (by kernel_rfl) (by kernel_rfl) (fun _ _ _ h => h) (Or.inl ⟨by kernel_rfl, ?_⟩) (by assumption) ?_
    rotate_left 1
    · intro w' hw'; clear hw'; go_simp; try with_reducible rfl
    try simp only [Act.put, List.setIfInBounds_toArray, List.set_cons_zero, List.set_cons_succ]
    refine wpAnyH_take (i := 7) (oi := ⟨some 66, _, _, _, _, _⟩) (v := ?_) rfl (by kernel_rfl) (by kernel_rfl) (by kernel_rfl) (fun _ _ _ h => h) (Or.inl ⟨by kernel_rfl, ?_⟩) (by assumption) ?_
    rotate_left 1
    · intro w' hw'; clear hw'; go_simp; try with_reducible rfl
    try simp only [Act.put, List.setIfInBounds_toArray, List.set_cons_zero, List.set_cons_succ]
    refine wpAnyH_take (i := 8) (oi := ⟨some 67, _, _, _, _, _⟩) (v := ?_) rfl (by kernel_rfl) (by kernel_rfl) (by kernel_rfl) (fun _ _ _ h => h) (Or.inl ⟨by kernel_rfl, ?_⟩) (by assumption) ?_
    rotate_left 1
    · intro w' hw'; have u1 := below_heap hw' HNC.out; clear hw'; go_simp; try with_reducible rfl
    try simp only [Act.put, List.setIfInBounds_toArray, List.set_cons_zero, List.set_cons_succ]
    refine wpAnyH_ready (rs := [4]) (by kernel_rfl) (by simp) (AllReadyH.cons (o := ⟨some 63, .call _, _, _, _, _⟩) rfl (fun K hK => ?_) AllReadyH.nil)
    go_simp
    refine (HNOC.out _).mono ?_
    rintro e3 w3 ⟨rfl, hb3⟩
    have h3' := below_trans hHeld hb3
    refine hK.out _ _ h3' (fun h3 => ?_)
    clear hK K hb3 h3'
    try simp only [Act.put, List.setIfInBounds_toArray, List.set_cons_zero, List.set_cons_succ]
    refine wpAnyH_take (i := 9) (oi := ⟨some 68, _, _, _, _, _⟩) (v := ?_) rfl (by kernel_rfl) (by kernel_rfl) (by kernel_rfl) (fun _ _ _ h => h) (Or.inl ⟨by kernel_rfl, ?_⟩) (by assumption) ?_
    rotate_left 1
    · intro w' hw'; clear hw'; go_simp; try with_reducible rfl
    try simp only [Act.put, List.setIfInBounds_toArray, List.set_cons_zero, List.set_cons_succ]
    refine wpAnyH_take (i := 10) (oi := ⟨some 69, _, _, _, _, _⟩) (v := ?_) rfl (by kernel_rfl) (by kernel_rfl) (by kernel_rfl) (fun _ _ _ h => h) (Or.inl ⟨by kernel_rfl, ?_⟩) (by assumption) ?_
    rotate_left 1
    · intro w' hw'; clear hw'; go_simp; try with_reducible rfl
    try simp only [Act.put, List.setIfInBounds_toArray, List.set_cons_zero, List.set_cons_succ]
    refine wpAnyH_take (i := 12) (oi := ⟨some 71, _, _, _, _, _⟩) (v := ?_) rfl (by kernel_rfl) (by kernel_rfl) (by kernel_rfl) (fun _ _ _ h => h) (Or.inl ⟨by kernel_rfl, ?_⟩) (by assumption) ?_
    rotate_left 1
    · intro w' hw'; clear hw'; go_simp; try with_reducible rfl
    try simp only [Act.put, List.setIfInBounds_toArray, List.set_cons_zero, List.set_cons_succ]
    refine wpAnyH_take (i := 13) (oi := ⟨some 72, _, _, _, _, _⟩) (v := ?_) rfl (by kernel_rfl) (by kernel_rfl) (by kernel_rfl) (fun _ _ _ h => h) (Or.inl ⟨by kernel_rfl, ?_⟩) (by assumption) ?_
    rotate_left 1
    · intro w' hw'; clear hw'; go_simp; try with_reducible rfl
    try simp only [Act.put, List.setIfInBounds_toArray, List.set_cons_zero, List.set_cons_succ]
    refine wpAnyH_take (i := 14) (oi := ⟨some 73, _, _, _, _, _⟩) (v := ?_) rfl (by kernel_rfl) (by kernel_rfl) (by kernel_rfl) (fun _ _ _ h => h) (Or.inl ⟨by kernel_rfl, ?_⟩) (by assumption) ?_
    rotate_left 1
    · intro w' hw'; clear hw'; go_simp; try with_reducible rfl
    try simp only [Act.put, List.setIfInBounds_toArray, List.set_cons_zero, List.set_cons_succ]
    refine wpAnyH_take (i := 15) (oi := ⟨some 74, .load _ _, _, _, _, _⟩) (v := .agg #[.int .i64 s.slot, .int .i64 s.birth, .int .i64 s.upS, .int .i64 s.upB, .int .i64 s.kind, .string (SB s.user), .string (SB s.label), .int .u64 (s.scopes : Int), .int .i64 s.level, .int .i64 s.born, .int .i64 s.deadline, .int .i64 s.depth]) rfl (by kernel_rfl) (by kernel_rfl) (by kernel_rfl) (fun _ _ _ h => h) (Or.inl ⟨by kernel_rfl, fun w' hw' => exec_load_m 36 (.tmp 73) rfl (rb) (ro + k * 12) rfl (#[.int .i64 s.slot, .int .i64 s.birth, .int .i64 s.upS, .int .i64 s.upB, .int .i64 s.kind, .string (SB s.user), .string (SB s.label), .int .u64 (s.scopes : Int), .int .i64 s.level, .int .i64 s.born, .int .i64 s.deadline, .int .i64 s.depth]).toList _ (fun j v hv => below_heap hw' (HROW.out j v (by exact hv))) Tryz.underlying36 rfl (by kernel_rfl)⟩) (by assumption) ?_
    try simp only [Act.put, List.setIfInBounds_toArray, List.set_cons_zero, List.set_cons_succ]
    refine wpAnyH_take (i := 16) (oi := ⟨some 75, _, _, _, _, _⟩) (v := ?_) rfl (by kernel_rfl) (by kernel_rfl) (by kernel_rfl) (fun _ _ _ h => h) (Or.inl ⟨by kernel_rfl, ?_⟩) (by assumption) ?_
    rotate_left 1
    · intro w' hw'; clear hw'; go_simp; try with_reducible rfl
    try simp only [Act.put, List.setIfInBounds_toArray, List.set_cons_zero, List.set_cons_succ]
    refine wpAnyH_ready (rs := [11]) (by kernel_rfl) (by simp) (AllReadyH.cons (o := ⟨some 70, .call _, _, _, _, _⟩) rfl (fun K hK => ?_) AllReadyH.nil)
    go_simp
    refine (two_calls w3).mono ?_
    rintro e3 w4 ⟨g, rfl, ho, hb3⟩
    have h4' := below_trans h3 hb3
    refine hK.out _ _ h4' (fun h4 => ?_)
    have HO := Lib.hid ho.own.rd
    clear ho
    clear hK K hb3 h4'
    try simp only [Act.put, List.setIfInBounds_toArray, List.set_cons_zero, List.set_cons_succ]
    refine wpAnyH_ready (rs := [17]) (by kernel_rfl) (by simp) (AllReadyH.cons (o := ⟨some 76, .call _, _, _, _, _⟩) rfl (fun K hK => ?_) AllReadyH.nil)
    go_simp
    refine (HRAC.out _ w4 HO.out (HI.out.g.below h4)).mono ?_
    rintro e3 w5 ⟨rfl, hb3⟩
    have h5' := below_trans h4 hb3
    refine hK.out _ _ h5' (fun h5 => ?_)
    clear HO
    clear hK K hb3 h5'
    try simp only [Act.put, List.setIfInBounds_toArray, List.set_cons_zero, List.set_cons_succ]
    refine wpAnyH_take (i := 18) (oi := ⟨some 77, _, _, _, _, _⟩) (v := ?_) rfl (by kernel_rfl) (by kernel_rfl) (by kernel_rfl) (fun _ _ _ h => h) (Or.inl ⟨by kernel_rfl, ?_⟩) (by assumption) ?_
    rotate_left 1
    · intro w' hw'; clear hw'; go_simp; try with_reducible rfl
    try simp only [Act.put, List.setIfInBounds_toArray, List.set_cons_zero, List.set_cons_succ]
    refine wpAnyH_take (i := 19) (oi := ⟨some 78, _, _, _, _, _⟩) (v := ?_) rfl (by kernel_rfl) (by kernel_rfl) (by kernel_rfl) (fun _ _ _ h => h) (Or.inl ⟨by kernel_rfl, ?_⟩) (by assumption) ?_
    rotate_left 1
    · intro w' hw'; clear hw'; go_simp; try with_reducible rfl
    try simp only [Act.put, List.setIfInBounds_toArray, List.set_cons_zero, List.set_cons_succ]
    refine wpAnyH_done (by kernel_rfl) ?_ _
    have HI5 := Lib.hid (HI.out.below h5)
    clear h3 h4 h5 hHeld HI HNOC HRAC HNC HROW
    go_wp2_with fail
    go_loopg [4] k (fun gj jv wr => ∃ (j : Nat), gj + j = k ∧ jv = .int .i64 (j : Int) ∧ BirI w wr (some ⟨rb, ro, none⟩) (some ⟨nb, no, none⟩))
    case atStart => exact ⟨0, Nat.add_zero _, rfl, HI5.out⟩
    case round =>
      clear HI5
      obtain ⟨j, hgj, rfl, hI⟩ := hrel
      have j0 : (0 : Int) ≤ (j : Int) := by omega
      have HGJ := Lib.hid hgj
      have HI := Lib.hid hI
      clear hgj hI
      by_cases hj : j < k
      rotate_left
      · have j1 : ¬ (j : Int) < (k : Int) := by omega
        have j2 : decide ((j : Int) < (k : Int)) = false := by simpa using j1
        clear hj
        go_wp2_with fail
        go_roundg (10 - (k + 1))
        case measure => have := HGK.out; have := HK.out; omega
        case rel => exact ⟨k + 1, by have := HGK.out; have := HK.out; omega, by go_num, HI.out⟩
      have j1 : (j : Int) < (k : Int) := by omega
      have j2 : decide ((j : Int) < (k : Int)) = true := by simpa using j1
      have HJ := Lib.hid hj
      by_cases h5 : k < 5
      rotate_left
      · have j3 : ¬ (k : Int) < 5 := by omega
        have j4 : decide ((k : Int) < 5) = false := by simpa using j3
        clear hj h5
        go_wp2_with fail
        go_roundg (10 - (k + 1))
        case measure => have := HGK.out; have := HK.out; omega
        case rel => exact ⟨k + 1, by have := HGK.out; have := HK.out; omega, by go_num, HI.out⟩
      have j3 : (k : Int) < 5 := by omega
      have j4 : decide ((k : Int) < 5) = true := by simpa using j3
      have H5 := Lib.hid h5
      obtain ⟨rb', ro', hra, hrow⟩ := HI.out.l.row k HK.out
      obtain ⟨nb', no', hna, hnc⟩ := HI.out.want j (by omega)
      injection hra with hra
      injection hra with hra1 hra2
      injection hna with hna
      injection hna with hna1 hna2
      subst hra1
      subst hra2
      subst hna1
      subst hna2
      have e9 : wrL[k]'(HK.out) = s := by rw [HSE.out]; exact wr_get k HK.out
      rw [e9] at hrow
      have HROW := Lib.hid hrow
      have HNC := Lib.hid hnc
      obtain ⟨y, hy⟩ : ∃ y, y = wnL.getD j 0 := ⟨_, rfl⟩
      rw [← hy] at HNC
      have HY := Lib.hid hy
      clear hj h5 hrow hnc hy e9
      go_wp2_with ((with_reducible refine wpList_load_k ?b01 36 (.tmp 90) ?b11 rb (ro + k * 12) ?b21 s.cells.toList _ HROW.out Tryz.underlying36 ?b31 ?b41 ?b81); (case b11 => rfl); (case b01 => rfl); (case b21 => rfl); (case b31 => rfl); (case b41 => kernel_rfl))
      intro cv hcv
      go_wp2_with ((with_reducible refine wpList_store_k ?a01 36 (.tmp 5) (.tmp 91) ?a11 wr.heap.size 0 s.cells.toList ?a21 cv ?a31 hcv ?a51 ?a61 ?a71 ?a81); (case a11 => rfl); (case a01 => rfl); (case a21 => rfl); (case a31 => rfl); (case a51 => exact thereZ _ _); (case a61 => kernel_rfl); (case a71 => exact SesM.oneS _))
      intro w3 hw3
      obtain ⟨hpx, hb3⟩ := putZ hw3
      have HPX := Lib.hid hpx
      have HI3 := Lib.hid (HI.out.below hb3)
      have HNC3 := Lib.hid (below_heap hb3 HNC.out)
      have HQ := Lib.hid (Nat.le_refl wr.heap.size)
      have HQ3 := Lib.hid (show wr.heap.size < w3.heap.size from hpx.lt)
      have HB3 := Lib.hid hb3
      clear hcv hw3 hpx hb3 HROW
      by_cases hj : j = 0
      · skip
        subst hj
        have x0 : w3.cell? ⟨wr.heap.size, 1, none⟩ = some (.int .i64 s.birth) := HPX.out.cell 1 _ rfl
        have f0 := HPX.out.free 1
        have hmm := Mod.set (fun i => i = wr.heap.size) w3 ⟨wr.heap.size, 1, none⟩ (.int .i64 11) rfl
        have HT := Lib.hid (show Box (w3.setCell ⟨wr.heap.size, 1, none⟩ (.int .i64 11)) wr.heap.size (modS 0 s).cells 36 from HPX.out.set 1 (.int .i64 11))
        have hb4 := HB3.out.trans (hmm.below HB3.out.size (fun i hi => by omega))
        have HI4 := Lib.hid (HI.out.below hb4)
        have HNC4 := Lib.hid (show (w3.setCell ⟨wr.heap.size, 1, none⟩ (.int .i64 11)).cell? ⟨nb, no, none⟩ = some (.int .i64 y) from below_heap hb4 HNC.out)
        clear hmm hb4 HI HI3 HPX HB3 HNC
        clear j0 j1 j2 j3 j4
        go_wp2_with fail
        clear x0 f0
        generalize w3.setCell ⟨wr.heap.size, 1, none⟩ (.int .i64 11) = w4 at HT HI4 HNC4 ⊢
        obtain ⟨t, ht⟩ : ∃ t, t = modS 0 s := ⟨_, rfl⟩
        rw [← ht] at HT
        have hokt : SesOk t := by rw [ht]; exact modS_ok HOK.out 0
        have hno := wr_mod k H5.out 0 HJ.out (by decide)
        rw [← HSE.out, ← ht, ← HY.out] at hno
        have hnoc := fun w' => no_calls t hokt w'
        rw [hno] at hnoc
        have HNOT := Lib.hid hnoc
        clear ht hno hnoc
        have HRAT := Lib.hid (fun v w' h hg => replayApplies_calls twoM (birE t) v w' h two_ok hokt.user hokt.label hokt.scopes hg)
        clear hokt
        refine wp_region_held_drew (S := fun W => Below w4.heap.size w4 W) (by kernel_rfl) (below_drew w4) (fun hHeld => ?_)
        refine wpAnyH_take (i := 1) (oi := ⟨some 102, .load _ _, _, _, _, _⟩) (v := .agg #[.int .i64 t.slot, .int .i64 t.birth, .int .i64 t.upS, .int .i64 t.upB, .int .i64 t.kind, .string (SB t.user), .string (SB t.label), .int .u64 (t.scopes : Int), .int .i64 t.level, .int .i64 t.born, .int .i64 t.deadline, .int .i64 t.depth]) rfl (by kernel_rfl) (by kernel_rfl) (by kernel_rfl) (fun _ _ _ h => h) (Or.inl ⟨by kernel_rfl, fun w' hw' => exec_load_m 36 (.tmp 5) rfl (wr.heap.size) (0) rfl (#[.int .i64 t.slot, .int .i64 t.birth, .int .i64 t.upS, .int .i64 t.upB, .int .i64 t.kind, .string (SB t.user), .string (SB t.label), .int .u64 (t.scopes : Int), .int .i64 t.level, .int .i64 t.born, .int .i64 t.deadline, .int .i64 t.depth]).toList _ (fun j v hv => by rw [Nat.zero_add]; exact (HT.out.below hw').cell j v (by rw [← Array.getElem?_toList]; exact hv)) Tryz.underlying36 rfl (by kernel_rfl)⟩) (by assumption) ?_
        try simp only [Act.put, List.setIfInBounds_toArray, List.set_cons_zero, List.set_cons_succ]
        refine wpAnyH_take (i := 2) (oi := ⟨some 103, _, _, _, _, _⟩) (v := ?_) rfl (by kernel_rfl) (by kernel_rfl) (by kernel_rfl) (fun _ _ _ h => h) (Or.inl ⟨by kernel_rfl, ?_⟩) (by assumption) ?_
        rotate_left 1
        · intro w' hw'; clear hw'; go_simp; try with_reducible rfl
        try simp only [Act.put, List.setIfInBounds_toArray, List.set_cons_zero, List.set_cons_succ]
        refine wpAnyH_ready (rs := [0]) (by kernel_rfl) (by simp) (AllReadyH.cons (o := ⟨some 101, .call _, _, _, _, _⟩) rfl (fun K hK => ?_) AllReadyH.nil)
        go_simp
        refine (two_calls _).mono ?_
        rintro e3 w5 ⟨g, rfl, ho, hb3⟩
        have h5' := below_trans hHeld hb3
        refine hK.out _ _ h5' (fun h5 => ?_)
        have HO := Lib.hid ho.own.rd
        clear ho
        clear hK K hb3 h5'
        try simp only [Act.put, List.setIfInBounds_toArray, List.set_cons_zero, List.set_cons_succ]
        refine wpAnyH_ready (rs := [3]) (by kernel_rfl) (by simp) (AllReadyH.cons (o := ⟨some 104, .call _, _, _, _, _⟩) rfl (fun K hK => ?_) AllReadyH.nil)
        go_simp
        refine (HRAT.out _ w5 HO.out (HI4.out.g.below h5)).mono ?_
        rintro e3 w6 ⟨rfl, hb3⟩
        have h6' := below_trans h5 hb3
        refine hK.out _ _ h6' (fun h6 => ?_)
        clear HO
        clear hK K hb3 h6'
        try simp only [Act.put, List.setIfInBounds_toArray, List.set_cons_zero, List.set_cons_succ]
        refine wpAnyH_take (i := 4) (oi := ⟨some 105, _, _, _, _, _⟩) (v := ?_) rfl (by kernel_rfl) (by kernel_rfl) (by kernel_rfl) (fun _ _ _ h => h) (Or.inl ⟨by kernel_rfl, ?_⟩) (by assumption) ?_
        rotate_left 1
        · intro w' hw'; clear hw'; go_simp; try with_reducible rfl
        try simp only [Act.put, List.setIfInBounds_toArray, List.set_cons_zero, List.set_cons_succ]
        refine wpAnyH_take (i := 5) (oi := ⟨some 106, _, _, _, _, _⟩) (v := ?_) rfl (by kernel_rfl) (by kernel_rfl) (by kernel_rfl) (fun _ _ _ h => h) (Or.inl ⟨by kernel_rfl, ?_⟩) (by assumption) ?_
        rotate_left 1
        · intro w' hw'; clear hw'; go_simp; try with_reducible rfl
        try simp only [Act.put, List.setIfInBounds_toArray, List.set_cons_zero, List.set_cons_succ]
        refine wpAnyH_take (i := 6) (oi := ⟨some 107, _, _, _, _, _⟩) (v := ?_) rfl (by kernel_rfl) (by kernel_rfl) (by kernel_rfl) (fun _ _ _ h => h) (Or.inl ⟨by kernel_rfl, ?_⟩) (by assumption) ?_
        rotate_left 1
        · intro w' hw'; clear hw'; go_simp; try with_reducible rfl
        try simp only [Act.put, List.setIfInBounds_toArray, List.set_cons_zero, List.set_cons_succ]
        refine wpAnyH_take (i := 7) (oi := ⟨some 108, _, _, _, _, _⟩) (v := ?_) rfl (by kernel_rfl) (by kernel_rfl) (by kernel_rfl) (fun _ _ _ h => h) (Or.inl ⟨by kernel_rfl, ?_⟩) (by assumption) ?_
        rotate_left 1
        · intro w' hw'; clear hw'; go_simp; try with_reducible rfl
        try simp only [Act.put, List.setIfInBounds_toArray, List.set_cons_zero, List.set_cons_succ]
        refine wpAnyH_take (i := 8) (oi := ⟨some 109, _, _, _, _, _⟩) (v := ?_) rfl (by kernel_rfl) (by kernel_rfl) (by kernel_rfl) (fun _ _ _ h => h) (Or.inl ⟨by kernel_rfl, ?_⟩) (by assumption) ?_
        rotate_left 1
        · intro w' hw'; clear hw'; go_simp; try with_reducible rfl
        try simp only [Act.put, List.setIfInBounds_toArray, List.set_cons_zero, List.set_cons_succ]
        refine wpAnyH_take (i := 9) (oi := ⟨some 110, .load _ _, _, _, _, _⟩) (v := .agg #[.int .i64 t.slot, .int .i64 t.birth, .int .i64 t.upS, .int .i64 t.upB, .int .i64 t.kind, .string (SB t.user), .string (SB t.label), .int .u64 (t.scopes : Int), .int .i64 t.level, .int .i64 t.born, .int .i64 t.deadline, .int .i64 t.depth]) rfl (by kernel_rfl) (by kernel_rfl) (by kernel_rfl) (fun _ _ _ h => h) (Or.inl ⟨by kernel_rfl, fun w' hw' => exec_load_m 36 (.tmp 5) rfl (wr.heap.size) (0) rfl (#[.int .i64 t.slot, .int .i64 t.birth, .int .i64 t.upS, .int .i64 t.upB, .int .i64 t.kind, .string (SB t.user), .string (SB t.label), .int .u64 (t.scopes : Int), .int .i64 t.level, .int .i64 t.born, .int .i64 t.deadline, .int .i64 t.depth]).toList _ (fun j v hv => by rw [Nat.zero_add]; exact (HT.out.below hw').cell j v (by rw [← Array.getElem?_toList]; exact hv)) Tryz.underlying36 rfl (by kernel_rfl)⟩) (by assumption) ?_
        try simp only [Act.put, List.setIfInBounds_toArray, List.set_cons_zero, List.set_cons_succ]
        refine wpAnyH_take (i := 11) (oi := ⟨some 112, _, _, _, _, _⟩) (v := ?_) rfl (by kernel_rfl) (by kernel_rfl) (by kernel_rfl) (fun _ _ _ h => h) (Or.inl ⟨by kernel_rfl, ?_⟩) (by assumption) ?_
        rotate_left 1
        · intro w' hw'; clear hw'; go_simp; try with_reducible rfl
        try simp only [Act.put, List.setIfInBounds_toArray, List.set_cons_zero, List.set_cons_succ]
        refine wpAnyH_take (i := 12) (oi := ⟨some 113, _, _, _, _, _⟩) (v := ?_) rfl (by kernel_rfl) (by kernel_rfl) (by kernel_rfl) (fun _ _ _ h => h) (Or.inl ⟨by kernel_rfl, ?_⟩) (by assumption) ?_
        rotate_left 1
        · intro w' hw'; clear hw'; go_simp; try with_reducible rfl
        try simp only [Act.put, List.setIfInBounds_toArray, List.set_cons_zero, List.set_cons_succ]
        refine wpAnyH_take (i := 13) (oi := ⟨some 114, _, _, _, _, _⟩) (v := ?_) rfl (by kernel_rfl) (by kernel_rfl) (by kernel_rfl) (fun _ _ _ h => h) (Or.inl ⟨by kernel_rfl, ?_⟩) (by assumption) ?_
        rotate_left 1
        · intro w' hw'; clear hw'; go_simp; try with_reducible rfl
        try simp only [Act.put, List.setIfInBounds_toArray, List.set_cons_zero, List.set_cons_succ]
        refine wpAnyH_take (i := 14) (oi := ⟨some 115, _, _, _, _, _⟩) (v := ?_) rfl (by kernel_rfl) (by kernel_rfl) (by kernel_rfl) (fun _ _ _ h => h) (Or.inl ⟨by kernel_rfl, ?_⟩) (by assumption) ?_
        rotate_left 1
        · intro w' hw'; have u1 := below_heap hw' HNC4.out; clear hw'; go_simp; try with_reducible rfl
        try simp only [Act.put, List.setIfInBounds_toArray, List.set_cons_zero, List.set_cons_succ]
        refine wpAnyH_ready (rs := [10]) (by kernel_rfl) (by simp) (AllReadyH.cons (o := ⟨some 111, .call _, _, _, _, _⟩) rfl (fun K hK => ?_) AllReadyH.nil)
        go_simp
        refine (HNOT.out w6).mono ?_
        rintro e3 w7 ⟨rfl, hb3⟩
        have h7' := below_trans h6 hb3
        refine hK.out _ _ h7' (fun h7 => ?_)
        clear hK K hb3 h7'
        try simp only [Act.put, List.setIfInBounds_toArray, List.set_cons_zero, List.set_cons_succ]
        refine wpAnyH_take (i := 15) (oi := ⟨some 116, _, _, _, _, _⟩) (v := ?_) rfl (by kernel_rfl) (by kernel_rfl) (by kernel_rfl) (fun _ _ _ h => h) (Or.inl ⟨by kernel_rfl, ?_⟩) (by assumption) ?_
        rotate_left 1
        · intro w' hw'; clear hw'; go_simp; try with_reducible rfl
        try simp only [Act.put, List.setIfInBounds_toArray, List.set_cons_zero, List.set_cons_succ]
        refine wpAnyH_take (i := 16) (oi := ⟨some 117, _, _, _, _, _⟩) (v := ?_) rfl (by kernel_rfl) (by kernel_rfl) (by kernel_rfl) (fun _ _ _ h => h) (Or.inl ⟨by kernel_rfl, ?_⟩) (by assumption) ?_
        rotate_left 1
        · intro w' hw'; clear hw'; go_simp; try with_reducible rfl
        try simp only [Act.put, List.setIfInBounds_toArray, List.set_cons_zero, List.set_cons_succ]
        refine wpAnyH_take (i := 17) (oi := ⟨some 118, _, _, _, _, _⟩) (v := ?_) rfl (by kernel_rfl) (by kernel_rfl) (by kernel_rfl) (fun _ _ _ h => h) (Or.inl ⟨by kernel_rfl, ?_⟩) (by assumption) ?_
        rotate_left 1
        · intro w' hw'; clear hw'; go_simp; try with_reducible rfl
        try simp only [Act.put, List.setIfInBounds_toArray, List.set_cons_zero, List.set_cons_succ]
        refine wpAnyH_done (by kernel_rfl) ?_ _
        have HI9 := Lib.hid (HI4.out.below h7)
        clear h7 HT HI4
        go_wp2_with fail
        go_roundg (k - (0 + 1))
        case measure => have := HGJ.out; have := HJ.out; omega
        case rel => exact ⟨0 + 1, by have := HGJ.out; have := HJ.out; omega, by go_num, HI9.out⟩
      have hj0 := hj
      clear hj
      by_cases hj : j = 1
      · clear hj0
        subst hj
        have x0 : w3.cell? ⟨wr.heap.size, 9, none⟩ = some (.int .i64 s.born) := HPX.out.cell 9 _ rfl
        have f0 := HPX.out.free 9
        have hmm := Mod.set (fun i => i = wr.heap.size) w3 ⟨wr.heap.size, 9, none⟩ (.int .i64 39) rfl
        have HT := Lib.hid (show Box (w3.setCell ⟨wr.heap.size, 9, none⟩ (.int .i64 39)) wr.heap.size (modS 1 s).cells 36 from HPX.out.set 9 (.int .i64 39))
        have hb4 := HB3.out.trans (hmm.below HB3.out.size (fun i hi => by omega))
        have HI4 := Lib.hid (HI.out.below hb4)
        have HNC4 := Lib.hid (show (w3.setCell ⟨wr.heap.size, 9, none⟩ (.int .i64 39)).cell? ⟨nb, no + 1, none⟩ = some (.int .i64 y) from below_heap hb4 HNC.out)
        clear hmm hb4 HI HI3 HPX HB3 HNC
        clear j0 j1 j2 j3 j4
        go_wp2_with fail
        clear x0 f0
        generalize w3.setCell ⟨wr.heap.size, 9, none⟩ (.int .i64 39) = w4 at HT HI4 HNC4 ⊢
        obtain ⟨t, ht⟩ : ∃ t, t = modS 1 s := ⟨_, rfl⟩
        rw [← ht] at HT
        have hokt : SesOk t := by rw [ht]; exact modS_ok HOK.out 1
        have hno := wr_mod k H5.out 1 HJ.out (by decide)
        rw [← HSE.out, ← ht, ← HY.out] at hno
        have hnoc := fun w' => no_calls t hokt w'
        rw [hno] at hnoc
        have HNOT := Lib.hid hnoc
        clear ht hno hnoc
        have HRAT := Lib.hid (fun v w' h hg => replayApplies_calls twoM (birE t) v w' h two_ok hokt.user hokt.label hokt.scopes hg)
        clear hokt
        refine wp_region_held_drew (S := fun W => Below w4.heap.size w4 W) (by kernel_rfl) (below_drew w4) (fun hHeld => ?_)
        refine wpAnyH_take (i := 1) (oi := ⟨some 102, .load _ _, _, _, _, _⟩) (v := .agg #[.int .i64 t.slot, .int .i64 t.birth, .int .i64 t.upS, .int .i64 t.upB, .int .i64 t.kind, .string (SB t.user), .string (SB t.label), .int .u64 (t.scopes : Int), .int .i64 t.level, .int .i64 t.born, .int .i64 t.deadline, .int .i64 t.depth]) rfl (by kernel_rfl) (by kernel_rfl) (by kernel_rfl) (fun _ _ _ h => h) (Or.inl ⟨by kernel_rfl, fun w' hw' => exec_load_m 36 (.tmp 5) rfl (wr.heap.size) (0) rfl (#[.int .i64 t.slot, .int .i64 t.birth, .int .i64 t.upS, .int .i64 t.upB, .int .i64 t.kind, .string (SB t.user), .string (SB t.label), .int .u64 (t.scopes : Int), .int .i64 t.level, .int .i64 t.born, .int .i64 t.deadline, .int .i64 t.depth]).toList _ (fun j v hv => by rw [Nat.zero_add]; exact (HT.out.below hw').cell j v (by rw [← Array.getElem?_toList]; exact hv)) Tryz.underlying36 rfl (by kernel_rfl)⟩) (by assumption) ?_
        try simp only [Act.put, List.setIfInBounds_toArray, List.set_cons_zero, List.set_cons_succ]
        refine wpAnyH_take (i := 2) (oi := ⟨some 103, _, _, _, _, _⟩) (v := ?_) rfl (by kernel_rfl) (by kernel_rfl) (by kernel_rfl) (fun _ _ _ h => h) (Or.inl ⟨by kernel_rfl, ?_⟩) (by assumption) ?_
        rotate_left 1
        · intro w' hw'; clear hw'; go_simp; try with_reducible rfl
        try simp only [Act.put, List.setIfInBounds_toArray, List.set_cons_zero, List.set_cons_succ]
        refine wpAnyH_ready (rs := [0]) (by kernel_rfl) (by simp) (AllReadyH.cons (o := ⟨some 101, .call _, _, _, _, _⟩) rfl (fun K hK => ?_) AllReadyH.nil)
        go_simp
        refine (two_calls _).mono ?_
        rintro e3 w5 ⟨g, rfl, ho, hb3⟩
        have h5' := below_trans hHeld hb3
        refine hK.out _ _ h5' (fun h5 => ?_)
        have HO := Lib.hid ho.own.rd
        clear ho
        clear hK K hb3 h5'
        try simp only [Act.put, List.setIfInBounds_toArray, List.set_cons_zero, List.set_cons_succ]
        refine wpAnyH_ready (rs := [3]) (by kernel_rfl) (by simp) (AllReadyH.cons (o := ⟨some 104, .call _, _, _, _, _⟩) rfl (fun K hK => ?_) AllReadyH.nil)
        go_simp
        refine (HRAT.out _ w5 HO.out (HI4.out.g.below h5)).mono ?_
        rintro e3 w6 ⟨rfl, hb3⟩
        have h6' := below_trans h5 hb3
        refine hK.out _ _ h6' (fun h6 => ?_)
        clear HO
        clear hK K hb3 h6'
        try simp only [Act.put, List.setIfInBounds_toArray, List.set_cons_zero, List.set_cons_succ]
        refine wpAnyH_take (i := 4) (oi := ⟨some 105, _, _, _, _, _⟩) (v := ?_) rfl (by kernel_rfl) (by kernel_rfl) (by kernel_rfl) (fun _ _ _ h => h) (Or.inl ⟨by kernel_rfl, ?_⟩) (by assumption) ?_
        rotate_left 1
        · intro w' hw'; clear hw'; go_simp; try with_reducible rfl
        try simp only [Act.put, List.setIfInBounds_toArray, List.set_cons_zero, List.set_cons_succ]
        refine wpAnyH_take (i := 5) (oi := ⟨some 106, _, _, _, _, _⟩) (v := ?_) rfl (by kernel_rfl) (by kernel_rfl) (by kernel_rfl) (fun _ _ _ h => h) (Or.inl ⟨by kernel_rfl, ?_⟩) (by assumption) ?_
        rotate_left 1
        · intro w' hw'; clear hw'; go_simp; try with_reducible rfl
        try simp only [Act.put, List.setIfInBounds_toArray, List.set_cons_zero, List.set_cons_succ]
        refine wpAnyH_take (i := 6) (oi := ⟨some 107, _, _, _, _, _⟩) (v := ?_) rfl (by kernel_rfl) (by kernel_rfl) (by kernel_rfl) (fun _ _ _ h => h) (Or.inl ⟨by kernel_rfl, ?_⟩) (by assumption) ?_
        rotate_left 1
        · intro w' hw'; clear hw'; go_simp; try with_reducible rfl
        try simp only [Act.put, List.setIfInBounds_toArray, List.set_cons_zero, List.set_cons_succ]
        refine wpAnyH_take (i := 7) (oi := ⟨some 108, _, _, _, _, _⟩) (v := ?_) rfl (by kernel_rfl) (by kernel_rfl) (by kernel_rfl) (fun _ _ _ h => h) (Or.inl ⟨by kernel_rfl, ?_⟩) (by assumption) ?_
        rotate_left 1
        · intro w' hw'; clear hw'; go_simp; try with_reducible rfl
        try simp only [Act.put, List.setIfInBounds_toArray, List.set_cons_zero, List.set_cons_succ]
        refine wpAnyH_take (i := 8) (oi := ⟨some 109, _, _, _, _, _⟩) (v := ?_) rfl (by kernel_rfl) (by kernel_rfl) (by kernel_rfl) (fun _ _ _ h => h) (Or.inl ⟨by kernel_rfl, ?_⟩) (by assumption) ?_
        rotate_left 1
        · intro w' hw'; clear hw'; go_simp; try with_reducible rfl
        try simp only [Act.put, List.setIfInBounds_toArray, List.set_cons_zero, List.set_cons_succ]
        refine wpAnyH_take (i := 9) (oi := ⟨some 110, .load _ _, _, _, _, _⟩) (v := .agg #[.int .i64 t.slot, .int .i64 t.birth, .int .i64 t.upS, .int .i64 t.upB, .int .i64 t.kind, .string (SB t.user), .string (SB t.label), .int .u64 (t.scopes : Int), .int .i64 t.level, .int .i64 t.born, .int .i64 t.deadline, .int .i64 t.depth]) rfl (by kernel_rfl) (by kernel_rfl) (by kernel_rfl) (fun _ _ _ h => h) (Or.inl ⟨by kernel_rfl, fun w' hw' => exec_load_m 36 (.tmp 5) rfl (wr.heap.size) (0) rfl (#[.int .i64 t.slot, .int .i64 t.birth, .int .i64 t.upS, .int .i64 t.upB, .int .i64 t.kind, .string (SB t.user), .string (SB t.label), .int .u64 (t.scopes : Int), .int .i64 t.level, .int .i64 t.born, .int .i64 t.deadline, .int .i64 t.depth]).toList _ (fun j v hv => by rw [Nat.zero_add]; exact (HT.out.below hw').cell j v (by rw [← Array.getElem?_toList]; exact hv)) Tryz.underlying36 rfl (by kernel_rfl)⟩) (by assumption) ?_
        try simp only [Act.put, List.setIfInBounds_toArray, List.set_cons_zero, List.set_cons_succ]
        refine wpAnyH_take (i := 11) (oi := ⟨some 112, _, _, _, _, _⟩) (v := ?_) rfl (by kernel_rfl) (by kernel_rfl) (by kernel_rfl) (fun _ _ _ h => h) (Or.inl ⟨by kernel_rfl, ?_⟩) (by assumption) ?_
        rotate_left 1
        · intro w' hw'; clear hw'; go_simp; try with_reducible rfl
        try simp only [Act.put, List.setIfInBounds_toArray, List.set_cons_zero, List.set_cons_succ]
        refine wpAnyH_take (i := 12) (oi := ⟨some 113, _, _, _, _, _⟩) (v := ?_) rfl (by kernel_rfl) (by kernel_rfl) (by kernel_rfl) (fun _ _ _ h => h) (Or.inl ⟨by kernel_rfl, ?_⟩) (by assumption) ?_
        rotate_left 1
        · intro w' hw'; clear hw'; go_simp; try with_reducible rfl
        try simp only [Act.put, List.setIfInBounds_toArray, List.set_cons_zero, List.set_cons_succ]
        refine wpAnyH_take (i := 13) (oi := ⟨some 114, _, _, _, _, _⟩) (v := ?_) rfl (by kernel_rfl) (by kernel_rfl) (by kernel_rfl) (fun _ _ _ h => h) (Or.inl ⟨by kernel_rfl, ?_⟩) (by assumption) ?_
        rotate_left 1
        · intro w' hw'; clear hw'; go_simp; try with_reducible rfl
        try simp only [Act.put, List.setIfInBounds_toArray, List.set_cons_zero, List.set_cons_succ]
        refine wpAnyH_take (i := 14) (oi := ⟨some 115, _, _, _, _, _⟩) (v := ?_) rfl (by kernel_rfl) (by kernel_rfl) (by kernel_rfl) (fun _ _ _ h => h) (Or.inl ⟨by kernel_rfl, ?_⟩) (by assumption) ?_
        rotate_left 1
        · intro w' hw'; have u1 := below_heap hw' HNC4.out; clear hw'; go_simp; try with_reducible rfl
        try simp only [Act.put, List.setIfInBounds_toArray, List.set_cons_zero, List.set_cons_succ]
        refine wpAnyH_ready (rs := [10]) (by kernel_rfl) (by simp) (AllReadyH.cons (o := ⟨some 111, .call _, _, _, _, _⟩) rfl (fun K hK => ?_) AllReadyH.nil)
        go_simp
        refine (HNOT.out w6).mono ?_
        rintro e3 w7 ⟨rfl, hb3⟩
        have h7' := below_trans h6 hb3
        refine hK.out _ _ h7' (fun h7 => ?_)
        clear hK K hb3 h7'
        try simp only [Act.put, List.setIfInBounds_toArray, List.set_cons_zero, List.set_cons_succ]
        refine wpAnyH_take (i := 15) (oi := ⟨some 116, _, _, _, _, _⟩) (v := ?_) rfl (by kernel_rfl) (by kernel_rfl) (by kernel_rfl) (fun _ _ _ h => h) (Or.inl ⟨by kernel_rfl, ?_⟩) (by assumption) ?_
        rotate_left 1
        · intro w' hw'; clear hw'; go_simp; try with_reducible rfl
        try simp only [Act.put, List.setIfInBounds_toArray, List.set_cons_zero, List.set_cons_succ]
        refine wpAnyH_take (i := 16) (oi := ⟨some 117, _, _, _, _, _⟩) (v := ?_) rfl (by kernel_rfl) (by kernel_rfl) (by kernel_rfl) (fun _ _ _ h => h) (Or.inl ⟨by kernel_rfl, ?_⟩) (by assumption) ?_
        rotate_left 1
        · intro w' hw'; clear hw'; go_simp; try with_reducible rfl
        try simp only [Act.put, List.setIfInBounds_toArray, List.set_cons_zero, List.set_cons_succ]
        refine wpAnyH_take (i := 17) (oi := ⟨some 118, _, _, _, _, _⟩) (v := ?_) rfl (by kernel_rfl) (by kernel_rfl) (by kernel_rfl) (fun _ _ _ h => h) (Or.inl ⟨by kernel_rfl, ?_⟩) (by assumption) ?_
        rotate_left 1
        · intro w' hw'; clear hw'; go_simp; try with_reducible rfl
        try simp only [Act.put, List.setIfInBounds_toArray, List.set_cons_zero, List.set_cons_succ]
        refine wpAnyH_done (by kernel_rfl) ?_ _
        have HI9 := Lib.hid (HI4.out.below h7)
        clear h7 HT HI4
        go_wp2_with fail
        go_roundg (k - (1 + 1))
        case measure => have := HGJ.out; have := HJ.out; omega
        case rel => exact ⟨1 + 1, by have := HGJ.out; have := HJ.out; omega, by go_num, HI9.out⟩
      have hj1 := hj
      clear hj
      by_cases hj : j = 2
      · clear hj0 hj1
        subst hj
        have x0 : w3.cell? ⟨wr.heap.size, 0, none⟩ = some (.int .i64 s.slot) := HPX.out.cell 0 _ rfl
        have f0 := HPX.out.free 0
        have hmm := Mod.set (fun i => i = wr.heap.size) w3 ⟨wr.heap.size, 0, none⟩ (.int .i64 1) rfl
        have HT := Lib.hid (show Box (w3.setCell ⟨wr.heap.size, 0, none⟩ (.int .i64 1)) wr.heap.size (modS 2 s).cells 36 from HPX.out.set 0 (.int .i64 1))
        have hb4 := HB3.out.trans (hmm.below HB3.out.size (fun i hi => by omega))
        have HI4 := Lib.hid (HI.out.below hb4)
        have HNC4 := Lib.hid (show (w3.setCell ⟨wr.heap.size, 0, none⟩ (.int .i64 1)).cell? ⟨nb, no + 2, none⟩ = some (.int .i64 y) from below_heap hb4 HNC.out)
        clear hmm hb4 HI HI3 HPX HB3 HNC
        clear j0 j1 j2 j3 j4
        go_wp2_with fail
        clear x0 f0
        generalize w3.setCell ⟨wr.heap.size, 0, none⟩ (.int .i64 1) = w4 at HT HI4 HNC4 ⊢
        obtain ⟨t, ht⟩ : ∃ t, t = modS 2 s := ⟨_, rfl⟩
        rw [← ht] at HT
        have hokt : SesOk t := by rw [ht]; exact modS_ok HOK.out 2
        have hno := wr_mod k H5.out 2 HJ.out (by decide)
        rw [← HSE.out, ← ht, ← HY.out] at hno
        have hnoc := fun w' => no_calls t hokt w'
        rw [hno] at hnoc
        have HNOT := Lib.hid hnoc
        clear ht hno hnoc
        have HRAT := Lib.hid (fun v w' h hg => replayApplies_calls twoM (birE t) v w' h two_ok hokt.user hokt.label hokt.scopes hg)
        clear hokt
        refine wp_region_held_drew (S := fun W => Below w4.heap.size w4 W) (by kernel_rfl) (below_drew w4) (fun hHeld => ?_)
        refine wpAnyH_take (i := 1) (oi := ⟨some 102, .load _ _, _, _, _, _⟩) (v := .agg #[.int .i64 t.slot, .int .i64 t.birth, .int .i64 t.upS, .int .i64 t.upB, .int .i64 t.kind, .string (SB t.user), .string (SB t.label), .int .u64 (t.scopes : Int), .int .i64 t.level, .int .i64 t.born, .int .i64 t.deadline, .int .i64 t.depth]) rfl (by kernel_rfl) (by kernel_rfl) (by kernel_rfl) (fun _ _ _ h => h) (Or.inl ⟨by kernel_rfl, fun w' hw' => exec_load_m 36 (.tmp 5) rfl (wr.heap.size) (0) rfl (#[.int .i64 t.slot, .int .i64 t.birth, .int .i64 t.upS, .int .i64 t.upB, .int .i64 t.kind, .string (SB t.user), .string (SB t.label), .int .u64 (t.scopes : Int), .int .i64 t.level, .int .i64 t.born, .int .i64 t.deadline, .int .i64 t.depth]).toList _ (fun j v hv => by rw [Nat.zero_add]; exact (HT.out.below hw').cell j v (by rw [← Array.getElem?_toList]; exact hv)) Tryz.underlying36 rfl (by kernel_rfl)⟩) (by assumption) ?_
        try simp only [Act.put, List.setIfInBounds_toArray, List.set_cons_zero, List.set_cons_succ]
        refine wpAnyH_take (i := 2) (oi := ⟨some 103, _, _, _, _, _⟩) (v := ?_) rfl (by kernel_rfl) (by kernel_rfl) (by kernel_rfl) (fun _ _ _ h => h) (Or.inl ⟨by kernel_rfl, ?_⟩) (by assumption) ?_
        rotate_left 1
        · intro w' hw'; clear hw'; go_simp; try with_reducible rfl
        try simp only [Act.put, List.setIfInBounds_toArray, List.set_cons_zero, List.set_cons_succ]
        refine wpAnyH_ready (rs := [0]) (by kernel_rfl) (by simp) (AllReadyH.cons (o := ⟨some 101, .call _, _, _, _, _⟩) rfl (fun K hK => ?_) AllReadyH.nil)
        go_simp
        refine (two_calls _).mono ?_
        rintro e3 w5 ⟨g, rfl, ho, hb3⟩
        have h5' := below_trans hHeld hb3
        refine hK.out _ _ h5' (fun h5 => ?_)
        have HO := Lib.hid ho.own.rd
        clear ho
        clear hK K hb3 h5'
        try simp only [Act.put, List.setIfInBounds_toArray, List.set_cons_zero, List.set_cons_succ]
        refine wpAnyH_ready (rs := [3]) (by kernel_rfl) (by simp) (AllReadyH.cons (o := ⟨some 104, .call _, _, _, _, _⟩) rfl (fun K hK => ?_) AllReadyH.nil)
        go_simp
        refine (HRAT.out _ w5 HO.out (HI4.out.g.below h5)).mono ?_
        rintro e3 w6 ⟨rfl, hb3⟩
        have h6' := below_trans h5 hb3
        refine hK.out _ _ h6' (fun h6 => ?_)
        clear HO
        clear hK K hb3 h6'
        try simp only [Act.put, List.setIfInBounds_toArray, List.set_cons_zero, List.set_cons_succ]
        refine wpAnyH_take (i := 4) (oi := ⟨some 105, _, _, _, _, _⟩) (v := ?_) rfl (by kernel_rfl) (by kernel_rfl) (by kernel_rfl) (fun _ _ _ h => h) (Or.inl ⟨by kernel_rfl, ?_⟩) (by assumption) ?_
        rotate_left 1
        · intro w' hw'; clear hw'; go_simp; try with_reducible rfl
        try simp only [Act.put, List.setIfInBounds_toArray, List.set_cons_zero, List.set_cons_succ]
        refine wpAnyH_take (i := 5) (oi := ⟨some 106, _, _, _, _, _⟩) (v := ?_) rfl (by kernel_rfl) (by kernel_rfl) (by kernel_rfl) (fun _ _ _ h => h) (Or.inl ⟨by kernel_rfl, ?_⟩) (by assumption) ?_
        rotate_left 1
        · intro w' hw'; clear hw'; go_simp; try with_reducible rfl
        try simp only [Act.put, List.setIfInBounds_toArray, List.set_cons_zero, List.set_cons_succ]
        refine wpAnyH_take (i := 6) (oi := ⟨some 107, _, _, _, _, _⟩) (v := ?_) rfl (by kernel_rfl) (by kernel_rfl) (by kernel_rfl) (fun _ _ _ h => h) (Or.inl ⟨by kernel_rfl, ?_⟩) (by assumption) ?_
        rotate_left 1
        · intro w' hw'; clear hw'; go_simp; try with_reducible rfl
        try simp only [Act.put, List.setIfInBounds_toArray, List.set_cons_zero, List.set_cons_succ]
        refine wpAnyH_take (i := 7) (oi := ⟨some 108, _, _, _, _, _⟩) (v := ?_) rfl (by kernel_rfl) (by kernel_rfl) (by kernel_rfl) (fun _ _ _ h => h) (Or.inl ⟨by kernel_rfl, ?_⟩) (by assumption) ?_
        rotate_left 1
        · intro w' hw'; clear hw'; go_simp; try with_reducible rfl
        try simp only [Act.put, List.setIfInBounds_toArray, List.set_cons_zero, List.set_cons_succ]
        refine wpAnyH_take (i := 8) (oi := ⟨some 109, _, _, _, _, _⟩) (v := ?_) rfl (by kernel_rfl) (by kernel_rfl) (by kernel_rfl) (fun _ _ _ h => h) (Or.inl ⟨by kernel_rfl, ?_⟩) (by assumption) ?_
        rotate_left 1
        · intro w' hw'; clear hw'; go_simp; try with_reducible rfl
        try simp only [Act.put, List.setIfInBounds_toArray, List.set_cons_zero, List.set_cons_succ]
        refine wpAnyH_take (i := 9) (oi := ⟨some 110, .load _ _, _, _, _, _⟩) (v := .agg #[.int .i64 t.slot, .int .i64 t.birth, .int .i64 t.upS, .int .i64 t.upB, .int .i64 t.kind, .string (SB t.user), .string (SB t.label), .int .u64 (t.scopes : Int), .int .i64 t.level, .int .i64 t.born, .int .i64 t.deadline, .int .i64 t.depth]) rfl (by kernel_rfl) (by kernel_rfl) (by kernel_rfl) (fun _ _ _ h => h) (Or.inl ⟨by kernel_rfl, fun w' hw' => exec_load_m 36 (.tmp 5) rfl (wr.heap.size) (0) rfl (#[.int .i64 t.slot, .int .i64 t.birth, .int .i64 t.upS, .int .i64 t.upB, .int .i64 t.kind, .string (SB t.user), .string (SB t.label), .int .u64 (t.scopes : Int), .int .i64 t.level, .int .i64 t.born, .int .i64 t.deadline, .int .i64 t.depth]).toList _ (fun j v hv => by rw [Nat.zero_add]; exact (HT.out.below hw').cell j v (by rw [← Array.getElem?_toList]; exact hv)) Tryz.underlying36 rfl (by kernel_rfl)⟩) (by assumption) ?_
        try simp only [Act.put, List.setIfInBounds_toArray, List.set_cons_zero, List.set_cons_succ]
        refine wpAnyH_take (i := 11) (oi := ⟨some 112, _, _, _, _, _⟩) (v := ?_) rfl (by kernel_rfl) (by kernel_rfl) (by kernel_rfl) (fun _ _ _ h => h) (Or.inl ⟨by kernel_rfl, ?_⟩) (by assumption) ?_
        rotate_left 1
        · intro w' hw'; clear hw'; go_simp; try with_reducible rfl
        try simp only [Act.put, List.setIfInBounds_toArray, List.set_cons_zero, List.set_cons_succ]
        refine wpAnyH_take (i := 12) (oi := ⟨some 113, _, _, _, _, _⟩) (v := ?_) rfl (by kernel_rfl) (by kernel_rfl) (by kernel_rfl) (fun _ _ _ h => h) (Or.inl ⟨by kernel_rfl, ?_⟩) (by assumption) ?_
        rotate_left 1
        · intro w' hw'; clear hw'; go_simp; try with_reducible rfl
        try simp only [Act.put, List.setIfInBounds_toArray, List.set_cons_zero, List.set_cons_succ]
        refine wpAnyH_take (i := 13) (oi := ⟨some 114, _, _, _, _, _⟩) (v := ?_) rfl (by kernel_rfl) (by kernel_rfl) (by kernel_rfl) (fun _ _ _ h => h) (Or.inl ⟨by kernel_rfl, ?_⟩) (by assumption) ?_
        rotate_left 1
        · intro w' hw'; clear hw'; go_simp; try with_reducible rfl
        try simp only [Act.put, List.setIfInBounds_toArray, List.set_cons_zero, List.set_cons_succ]
        refine wpAnyH_take (i := 14) (oi := ⟨some 115, _, _, _, _, _⟩) (v := ?_) rfl (by kernel_rfl) (by kernel_rfl) (by kernel_rfl) (fun _ _ _ h => h) (Or.inl ⟨by kernel_rfl, ?_⟩) (by assumption) ?_
        rotate_left 1
        · intro w' hw'; have u1 := below_heap hw' HNC4.out; clear hw'; go_simp; try with_reducible rfl
        try simp only [Act.put, List.setIfInBounds_toArray, List.set_cons_zero, List.set_cons_succ]
        refine wpAnyH_ready (rs := [10]) (by kernel_rfl) (by simp) (AllReadyH.cons (o := ⟨some 111, .call _, _, _, _, _⟩) rfl (fun K hK => ?_) AllReadyH.nil)
        go_simp
        refine (HNOT.out w6).mono ?_
        rintro e3 w7 ⟨rfl, hb3⟩
        have h7' := below_trans h6 hb3
        refine hK.out _ _ h7' (fun h7 => ?_)
        clear hK K hb3 h7'
        try simp only [Act.put, List.setIfInBounds_toArray, List.set_cons_zero, List.set_cons_succ]
        refine wpAnyH_take (i := 15) (oi := ⟨some 116, _, _, _, _, _⟩) (v := ?_) rfl (by kernel_rfl) (by kernel_rfl) (by kernel_rfl) (fun _ _ _ h => h) (Or.inl ⟨by kernel_rfl, ?_⟩) (by assumption) ?_
        rotate_left 1
        · intro w' hw'; clear hw'; go_simp; try with_reducible rfl
        try simp only [Act.put, List.setIfInBounds_toArray, List.set_cons_zero, List.set_cons_succ]
        refine wpAnyH_take (i := 16) (oi := ⟨some 117, _, _, _, _, _⟩) (v := ?_) rfl (by kernel_rfl) (by kernel_rfl) (by kernel_rfl) (fun _ _ _ h => h) (Or.inl ⟨by kernel_rfl, ?_⟩) (by assumption) ?_
        rotate_left 1
        · intro w' hw'; clear hw'; go_simp; try with_reducible rfl
        try simp only [Act.put, List.setIfInBounds_toArray, List.set_cons_zero, List.set_cons_succ]
        refine wpAnyH_take (i := 17) (oi := ⟨some 118, _, _, _, _, _⟩) (v := ?_) rfl (by kernel_rfl) (by kernel_rfl) (by kernel_rfl) (fun _ _ _ h => h) (Or.inl ⟨by kernel_rfl, ?_⟩) (by assumption) ?_
        rotate_left 1
        · intro w' hw'; clear hw'; go_simp; try with_reducible rfl
        try simp only [Act.put, List.setIfInBounds_toArray, List.set_cons_zero, List.set_cons_succ]
        refine wpAnyH_done (by kernel_rfl) ?_ _
        have HI9 := Lib.hid (HI4.out.below h7)
        clear h7 HT HI4
        go_wp2_with fail
        go_roundg (k - (2 + 1))
        case measure => have := HGJ.out; have := HJ.out; omega
        case rel => exact ⟨2 + 1, by have := HGJ.out; have := HJ.out; omega, by go_num, HI9.out⟩
      have hj2 := hj
      clear hj
      have b0 : ((j : Int) == 0) = false := by simp; omega
      have b1 : ((j : Int) == 1) = false := by simp; omega
      have b2 : ((j : Int) == 2) = false := by simp; omega
      have b3 : ¬ (j : Int) < 3 := by omega
      have b4 : decide ((j : Int) < 3) = false := by simpa using b3
      clear hj0 hj1 hj2
      have HT := HPX
      have HI4 := HI3
      clear HI HPX HI3 HNC HB3
      go_wp2_with fail
      obtain ⟨w4, hw4⟩ : ∃ w4, w4 = w3 := ⟨_, rfl⟩
      rw [← hw4] at HT HI4 HQ3 ⊢
      obtain ⟨t, ht⟩ : ∃ t, t = s := ⟨_, rfl⟩
      rw [← ht] at HT
      have hokt : SesOk t := by rw [ht]; exact HOK.out
      clear ht hw4
      have HRAT := Lib.hid (fun v w' h hg => replayApplies_calls twoM (birE t) v w' h two_ok hokt.user hokt.label hokt.scopes hg)
      clear hokt
      refine wp_region_held_drew (S := fun W => Below w4.heap.size w4 W) (by kernel_rfl) (below_drew w4) (fun hHeld => ?_)
      refine wpAnyH_take (i := 1) (oi := ⟨some 102, .load _ _, _, _, _, _⟩) (v := .agg #[.int .i64 t.slot, .int .i64 t.birth, .int .i64 t.upS, .int .i64 t.upB, .int .i64 t.kind, .string (SB t.user), .string (SB t.label), .int .u64 (t.scopes : Int), .int .i64 t.level, .int .i64 t.born, .int .i64 t.deadline, .int .i64 t.depth]) rfl (by kernel_rfl) (by kernel_rfl) (by kernel_rfl) (fun _ _ _ h => h) (Or.inl ⟨by kernel_rfl, fun w' hw' => exec_load_m 36 (.tmp 5) rfl (wr.heap.size) (0) rfl (#[.int .i64 t.slot, .int .i64 t.birth, .int .i64 t.upS, .int .i64 t.upB, .int .i64 t.kind, .string (SB t.user), .string (SB t.label), .int .u64 (t.scopes : Int), .int .i64 t.level, .int .i64 t.born, .int .i64 t.deadline, .int .i64 t.depth]).toList _ (fun j v hv => by rw [Nat.zero_add]; exact (HT.out.below hw').cell j v (by rw [← Array.getElem?_toList]; exact hv)) Tryz.underlying36 rfl (by kernel_rfl)⟩) (by assumption) ?_
      try simp only [Act.put, List.setIfInBounds_toArray, List.set_cons_zero, List.set_cons_succ]
      refine wpAnyH_take (i := 2) (oi := ⟨some 103, _, _, _, _, _⟩) (v := ?_) rfl (by kernel_rfl) (by kernel_rfl) (by kernel_rfl) (fun _ _ _ h => h) (Or.inl ⟨by kernel_rfl, ?_⟩) (by assumption) ?_
      rotate_left 1
      · intro w' hw'; clear hw'; go_simp; try with_reducible rfl
      try simp only [Act.put, List.setIfInBounds_toArray, List.set_cons_zero, List.set_cons_succ]
      refine wpAnyH_ready (rs := [0]) (by kernel_rfl) (by simp) (AllReadyH.cons (o := ⟨some 101, .call _, _, _, _, _⟩) rfl (fun K hK => ?_) AllReadyH.nil)
      go_simp
      refine (two_calls _).mono ?_
      rintro e3 w5 ⟨g, rfl, ho, hb3⟩
      have h5' := below_trans hHeld hb3
      refine hK.out _ _ h5' (fun h5 => ?_)
      have HO := Lib.hid ho.own.rd
      clear ho
      clear hK K hb3 h5'
      try simp only [Act.put, List.setIfInBounds_toArray, List.set_cons_zero, List.set_cons_succ]
      refine wpAnyH_ready (rs := [3]) (by kernel_rfl) (by simp) (AllReadyH.cons (o := ⟨some 104, .call _, _, _, _, _⟩) rfl (fun K hK => ?_) AllReadyH.nil)
      go_simp
      refine (HRAT.out _ w5 HO.out (HI4.out.g.below h5)).mono ?_
      rintro e3 w6 ⟨rfl, hb3⟩
      have h6' := below_trans h5 hb3
      refine hK.out _ _ h6' (fun h6 => ?_)
      clear HO
      clear hK K hb3 h6'
      try simp only [Act.put, List.setIfInBounds_toArray, List.set_cons_zero, List.set_cons_succ]
      refine wpAnyH_take (i := 4) (oi := ⟨some 105, _, _, _, _, _⟩) (v := ?_) rfl (by kernel_rfl) (by kernel_rfl) (by kernel_rfl) (fun _ _ _ h => h) (Or.inl ⟨by kernel_rfl, ?_⟩) (by assumption) ?_
      rotate_left 1
      · intro w' hw'; clear hw'; go_simp; try with_reducible rfl
      try simp only [Act.put, List.setIfInBounds_toArray, List.set_cons_zero, List.set_cons_succ]
      refine wpAnyH_take (i := 5) (oi := ⟨some 106, _, _, _, _, _⟩) (v := ?_) rfl (by kernel_rfl) (by kernel_rfl) (by kernel_rfl) (fun _ _ _ h => h) (Or.inl ⟨by kernel_rfl, ?_⟩) (by assumption) ?_
      rotate_left 1
      · intro w' hw'; clear hw'; go_simp; try with_reducible rfl
      try simp only [Act.put, List.setIfInBounds_toArray, List.set_cons_zero, List.set_cons_succ]
      refine wpAnyH_take (i := 6) (oi := ⟨some 107, _, _, _, _, _⟩) (v := ?_) rfl (by kernel_rfl) (by kernel_rfl) (by kernel_rfl) (fun _ _ _ h => h) (Or.inl ⟨by kernel_rfl, ?_⟩) (by assumption) ?_
      rotate_left 1
      · intro w' hw'; clear hw'; go_simp; try with_reducible rfl
      try simp only [Act.put, List.setIfInBounds_toArray, List.set_cons_zero, List.set_cons_succ]
      refine wpAnyH_take (i := 7) (oi := ⟨some 108, _, _, _, _, _⟩) (v := ?_) rfl (by kernel_rfl) (by kernel_rfl) (by kernel_rfl) (fun _ _ _ h => h) (Or.inl ⟨by kernel_rfl, ?_⟩) (by assumption) ?_
      rotate_left 1
      · intro w' hw'; clear hw'; go_simp; try with_reducible rfl
      try simp only [Act.put, List.setIfInBounds_toArray, List.set_cons_zero, List.set_cons_succ]
      refine wpAnyH_take (i := 8) (oi := ⟨some 109, _, _, _, _, _⟩) (v := ?_) rfl (by kernel_rfl) (by kernel_rfl) (by kernel_rfl) (fun _ _ _ h => h) (Or.inl ⟨by kernel_rfl, ?_⟩) (by assumption) ?_
      rotate_left 1
      · intro w' hw'; clear hw'; go_simp; try with_reducible rfl
      try simp only [Act.put, List.setIfInBounds_toArray, List.set_cons_zero, List.set_cons_succ]
      refine wpAnyH_take (i := 9) (oi := ⟨some 110, _, _, _, _, _⟩) rfl (by kernel_rfl) (by kernel_rfl) (by kernel_rfl) (fun _ _ _ h => h) (Or.inr ⟨by kernel_rfl, rfl⟩) (by assumption) ?_
      try simp only [Act.put, List.setIfInBounds_toArray, List.set_cons_zero, List.set_cons_succ]
      refine wpAnyH_take (i := 10) (oi := ⟨some 111, _, _, _, _, _⟩) rfl (by kernel_rfl) (by kernel_rfl) (by kernel_rfl) (fun _ _ _ h => h) (Or.inr ⟨by kernel_rfl, rfl⟩) (by assumption) ?_
      try simp only [Act.put, List.setIfInBounds_toArray, List.set_cons_zero, List.set_cons_succ]
      refine wpAnyH_take (i := 11) (oi := ⟨some 112, _, _, _, _, _⟩) rfl (by kernel_rfl) (by kernel_rfl) (by kernel_rfl) (fun _ _ _ h => h) (Or.inr ⟨by kernel_rfl, rfl⟩) (by assumption) ?_
      try simp only [Act.put, List.setIfInBounds_toArray, List.set_cons_zero, List.set_cons_succ]
      refine wpAnyH_take (i := 12) (oi := ⟨some 113, _, _, _, _, _⟩) rfl (by kernel_rfl) (by kernel_rfl) (by kernel_rfl) (fun _ _ _ h => h) (Or.inr ⟨by kernel_rfl, rfl⟩) (by assumption) ?_
      try simp only [Act.put, List.setIfInBounds_toArray, List.set_cons_zero, List.set_cons_succ]
      refine wpAnyH_take (i := 13) (oi := ⟨some 114, _, _, _, _, _⟩) rfl (by kernel_rfl) (by kernel_rfl) (by kernel_rfl) (fun _ _ _ h => h) (Or.inr ⟨by kernel_rfl, rfl⟩) (by assumption) ?_
      try simp only [Act.put, List.setIfInBounds_toArray, List.set_cons_zero, List.set_cons_succ]
      refine wpAnyH_take (i := 14) (oi := ⟨some 115, _, _, _, _, _⟩) rfl (by kernel_rfl) (by kernel_rfl) (by kernel_rfl) (fun _ _ _ h => h) (Or.inr ⟨by kernel_rfl, rfl⟩) (by assumption) ?_
      try simp only [Act.put, List.setIfInBounds_toArray, List.set_cons_zero, List.set_cons_succ]
      refine wpAnyH_take (i := 15) (oi := ⟨some 116, _, _, _, _, _⟩) rfl (by kernel_rfl) (by kernel_rfl) (by kernel_rfl) (fun _ _ _ h => h) (Or.inr ⟨by kernel_rfl, rfl⟩) (by assumption) ?_
      try simp only [Act.put, List.setIfInBounds_toArray, List.set_cons_zero, List.set_cons_succ]
      refine wpAnyH_take (i := 16) (oi := ⟨some 117, _, _, _, _, _⟩) (v := ?_) rfl (by kernel_rfl) (by kernel_rfl) (by kernel_rfl) (fun _ _ _ h => h) (Or.inl ⟨by kernel_rfl, ?_⟩) (by assumption) ?_
      rotate_left 1
      · intro w' hw'; clear hw'; go_simp; try with_reducible rfl
      try simp only [Act.put, List.setIfInBounds_toArray, List.set_cons_zero, List.set_cons_succ]
      refine wpAnyH_take (i := 17) (oi := ⟨some 118, _, _, _, _, _⟩) (v := ?_) rfl (by kernel_rfl) (by kernel_rfl) (by kernel_rfl) (fun _ _ _ h => h) (Or.inl ⟨by kernel_rfl, ?_⟩) (by assumption) ?_
      rotate_left 1
      · intro w' hw'; clear hw'; go_simp; try with_reducible rfl
      try simp only [Act.put, List.setIfInBounds_toArray, List.set_cons_zero, List.set_cons_succ]
      refine wpAnyH_done (by kernel_rfl) ?_ _
      have HI9 := Lib.hid (HI4.out.below h6)
      clear h6 HT HI4
      go_wp2_with fail
      go_roundg (k - (j + 1))
      case measure => have := HGJ.out; have := HJ.out; omega
      case rel => exact ⟨j + 1, by have := HGJ.out; have := HJ.out; omega, by go_num, HI9.out⟩
end Go.Proofs.YthnabnieajojjaaGreatDoor

/-
  What the laws of replay ask of a state: parent, narrower, has, sound.
-/
namespace Go.Proofs.YthnabnieajojjaaGreatDoor
open Go.RowKit
set_option maxRecDepth 100000

theorem Snd.parAt {st : StM} (h : Snd st) {k : Nat} (hk : k < st.l.length) (hu : (st.l[k]).upB ≠ 0) : ∃ j0, ∃ hj : j0 < st.l.length, j0 < k ∧ (st.l[j0]).birth = (st.l[k]).upB ∧ (st.l[j0]).slot = (st.l[k]).upS ∧ fitsM st.l[k] st.l[j0] = true ∧ ∀ j (hj' : j < j0), (st.l[j]).birth ≠ (st.l[k]).upB := by
  obtain ⟨p, hp, e1, e2, e3, e4⟩ := h.par _ (List.getElem_mem hk) hu
  obtain ⟨j0, hj, rfl⟩ := List.getElem_of_mem hp
  have hi := List.pairwise_iff_getElem.1 h.inc
  refine ⟨j0, hj, ?_, e1, e2, e4, fun j hj' => ?_⟩
  · rcases Nat.lt_trichotomy j0 k with h1 | h1 | h1
    · exact h1
    · subst h1; omega
    · have := hi k j0 hk hj h1; omega
  · have := hi j j0 (by omega) hj hj'; omega
/-- The bounds of a session that stands. -/
structure SndS (C B : Int) (s : SesM) : Prop where
  b1 : decide (s.birth < 1) = false
  b2 : decide (B < s.birth) = false
  d : decide (s.deadline ≤ C) = false
  n : decide (C < s.born) = false
theorem Snd.one {C B : Int} {L : List SesM} (h : Snd ⟨C, B, L⟩) {s : SesM} (hs : s ∈ L) : SndS C B s := by
  have h1 := h.pos s hs
  have h2 := h.dead s hs
  have h3 := h.born s hs
  simp only at h1 h2 h3
  exact ⟨by simp; omega, by simp; omega, by simp; omega, by simp; omega⟩
set_option maxHeartbeats 1600000 in
theorem has_calls (v : Value) (l : List SesM) (b : Int) (w : World) (hr : RdS w v l) :
    Calls Tryz.prog 34 #[v, .int .i64 b] w fun ev w' => ev = .returned (.bool (l.any (fun s => s.birth == b))) ∧ w' = w := by
  obtain ⟨a, cap, rfl, hc1, hc2⟩ := hr.slice
  have hln : l.length ≤ 9223372036854775807 := by omega
  have HR := Lib.hid hr
  obtain ⟨n, hN⟩ : ∃ n, n = l.length := ⟨_, rfl⟩
  rw [← hN] at hln HR ⊢
  have HN := Lib.hid hN
  clear hr hc1 hN
  go_enter Tryz.func34, Tryz.ntmps34
  go_wp2_with fail
  go_loopg [5] n (fun gk iv wr => ∃ k : Nat, gk + k = n ∧ iv = .int .i64 (k : Int) ∧ wr = w ∧ Hid ((l.take k).any (fun s => s.birth == b) = false))
  case atStart => exact ⟨0, rfl, rfl, rfl, Lib.hid rfl⟩
  case round =>
    obtain ⟨k, hgk, rfl, rfl, HF⟩ := hrel
    have k0 : (0 : Int) ≤ (k : Int) := by omega
    have HGK := Lib.hid hgk
    clear hgk
    by_cases hk : k < n
    rotate_left
    · have k1 : ¬ (k : Int) < (n : Int) := by omega
      have HE := Lib.hid (show l.any (fun s => s.birth == b) = false by have h := HF.out; rwa [List.take_of_length_le (by have := HN.out; omega)] at h)
      clear hk
      go_wp2_with fail
      go_ret
      exact ⟨by rw [HE.out]; rfl, rfl⟩
    have k1 : (k : Int) < (n : Int) := by omega
    have hkl : k < l.length := by have := HN.out; omega
    obtain ⟨s, hs⟩ : ∃ s, s = l[k] := ⟨_, rfl⟩
    obtain ⟨rb, ro, hra, hrow⟩ := HR.out.row k hkl
    subst hra
    rw [← hs] at hrow
    have r1 : wr.cell? ⟨rb, ro + k * 12 + 1, none⟩ = some (.int .i64 s.birth) := hrow 1 _ rfl
    have HT := Lib.hid (show (l.take (k + 1)).any (fun s => s.birth == b) = (s.birth == b) by
      have h := HF.out
      rw [List.take_succ_eq_append_getElem hkl, List.any_append, h, hs]; simp)
    have HM := Lib.hid (show (s.birth == b) = true → l.any (fun s => s.birth == b) = true from fun h => List.any_eq_true.2 ⟨s, by rw [hs]; exact List.getElem_mem hkl, h⟩)
    have HK := Lib.hid hk
    clear hk hkl hs hrow
    cases t1 : (s.birth == b)
    · rw [t1] at HT
      go_wp2_with fail
      go_roundg (n - (k + 1))
      case measure => have := HGK.out; have := HK.out; omega
      case rel => exact ⟨k + 1, by have := HGK.out; have := HK.out; omega, by go_num, rfl, HT⟩
    have HE := Lib.hid (HM.out t1)
    go_wp2_with fail
    go_ret
    exact ⟨by rw [HE.out]; rfl, rfl⟩
set_option maxHeartbeats 3200000 in
theorem parent_calls (a : Option Addr) (n cap i j0 : Nat) (l : List SesM) (w : World) (hn : n = l.length) (hr : RdS w (.slice a n cap) l) (hi : i < l.length) (hj : j0 < l.length) (hji : j0 < i) (he1 : (l[j0]).birth = (l[i]).upB) (he2 : (l[j0]).slot = (l[i]).upS) (hmin : ∀ j (hj' : j < j0), (l[j]).birth ≠ (l[i]).upB) :
    Calls Tryz.prog 57 #[.slice a n cap, .int .i64 (i : Int)] w fun ev w' => ev = .returned (.tuple #[.agg (l[j0]).cells, .bool true]) ∧ Below w.heap.size w w' := by
  have HB := Lib.hid (below_alloc w (.cells #[.int .i64 0, .int .i64 0, .int .i64 0, .int .i64 0, .int .i64 0, .string ⟨#[]⟩, .string ⟨#[]⟩, .int .u64 0, .int .i64 0, .int .i64 0, .int .i64 0, .int .i64 0] 36))
  have HR := Lib.hid (hr.below HB.out)
  have HN := Lib.hid hn
  have hln : n ≤ 9223372036854775807 := by obtain ⟨_, _, e, h5, h6, _⟩ := hr; omega
  obtain ⟨s, hs⟩ : ∃ s, s = l[i] := ⟨_, rfl⟩
  obtain ⟨P, hP⟩ : ∃ P, P = l[j0] := ⟨_, rfl⟩
  obtain ⟨rb, ro, hra, hrow⟩ := HR.out.row i hi
  subst hra
  rw [← hs] at hrow he1 he2 hmin
  rw [← hP] at he1 he2 ⊢
  obtain ⟨hset, hth⟩ := (Box.new w #[.int .i64 0, .int .i64 0, .int .i64 0, .int .i64 0, .int .i64 0, .string ⟨#[]⟩, .string ⟨#[]⟩, .int .u64 0, .int .i64 0, .int .i64 0, .int .i64 0, .int .i64 0] 36).setAllS rfl P
  have HTH := Lib.hid (fun m => (show ((w.alloc (.cells #[.int .i64 0, .int .i64 0, .int .i64 0, .int .i64 0, .int .i64 0, .string ⟨#[]⟩, .string ⟨#[]⟩, .int .u64 0, .int .i64 0, .int .i64 0, .int .i64 0, .int .i64 0] 36)).drewN m).there w.heap.size 0 P.cells.toList.length from hth))
  have HSE := Lib.hid (fun m => (show Box (((w.alloc (.cells #[.int .i64 0, .int .i64 0, .int .i64 0, .int .i64 0, .int .i64 0, .string ⟨#[]⟩, .string ⟨#[]⟩, .int .u64 0, .int .i64 0, .int .i64 0, .int .i64 0, .int .i64 0] 36)).drewN m).setCells w.heap.size 0 P.cells.toList) w.heap.size P.cells 36 from ((Box.new w #[.int .i64 0, .int .i64 0, .int .i64 0, .int .i64 0, .int .i64 0, .string ⟨#[]⟩, .string ⟨#[]⟩, .int .u64 0, .int .i64 0, .int .i64 0, .int .i64 0, .int .i64 0] 36).setAllS (w := w.alloc (.cells #[.int .i64 0, .int .i64 0, .int .i64 0, .int .i64 0, .int .i64 0, .string ⟨#[]⟩, .string ⟨#[]⟩, .int .u64 0, .int .i64 0, .int .i64 0, .int .i64 0, .int .i64 0] 36)) rfl P).1 |> fun _ => ((show Box ((w.alloc (.cells #[.int .i64 0, .int .i64 0, .int .i64 0, .int .i64 0, .int .i64 0, .string ⟨#[]⟩, .string ⟨#[]⟩, .int .u64 0, .int .i64 0, .int .i64 0, .int .i64 0, .int .i64 0] 36)).drewN m) w.heap.size #[.int .i64 0, .int .i64 0, .int .i64 0, .int .i64 0, .int .i64 0, .string ⟨#[]⟩, .string ⟨#[]⟩, .int .u64 0, .int .i64 0, .int .i64 0, .int .i64 0, .int .i64 0] 36 from Box.new w #[.int .i64 0, .int .i64 0, .int .i64 0, .int .i64 0, .int .i64 0, .string ⟨#[]⟩, .string ⟨#[]⟩, .int .u64 0, .int .i64 0, .int .i64 0, .int .i64 0, .int .i64 0] 36).setAllS rfl P).1))
  have HMIN := Lib.hid hmin
  have HJ0 := Lib.hid (And.intro hj hji)
  have HPP := Lib.hid hP
  have HE := Lib.hid (And.intro he1 he2)
  have s2 : (w.alloc (.cells #[.int .i64 0, .int .i64 0, .int .i64 0, .int .i64 0, .int .i64 0, .string ⟨#[]⟩, .string ⟨#[]⟩, .int .u64 0, .int .i64 0, .int .i64 0, .int .i64 0, .int .i64 0] 36)).cell? ⟨rb, ro + i * 12 + 2, none⟩ = some (.int .i64 s.upS) := hrow 2 _ rfl
  have s3' : (w.alloc (.cells #[.int .i64 0, .int .i64 0, .int .i64 0, .int .i64 0, .int .i64 0, .string ⟨#[]⟩, .string ⟨#[]⟩, .int .u64 0, .int .i64 0, .int .i64 0, .int .i64 0, .int .i64 0] 36)).cell? ⟨rb, ro + i * 12 + 2 + 1, none⟩ = some (.int .i64 s.upB) := hrow 3 _ rfl
  have k0 : (0 : Int) ≤ (i : Int) := by omega
  have kn : (i : Int) < (n : Int) := by omega
  have HI := Lib.hid hi
  have HIN := Lib.hid hji
  clear hs hrow hn hr hset hth he1 he2 hmin hP
  go_enter Tryz.func57, Tryz.ntmps57
  go_wp2_with fail
  generalize hw1 : (w.alloc (.cells #[.int .i64 0, .int .i64 0, .int .i64 0, .int .i64 0, .int .i64 0, .string ⟨#[]⟩, .string ⟨#[]⟩, .int .u64 0, .int .i64 0, .int .i64 0, .int .i64 0, .int .i64 0] 36)) = w1 at HR HB HTH HSE s2 s3' ⊢
  clear hw1
  go_loopg [6] i (fun gk iv wr => ∃ j : Nat, gk + j = i ∧ iv = .int .i64 (j : Int) ∧ j ≤ j0 ∧ ∃ m, wr = w1.drewN m)
  case atStart => exact ⟨0, rfl, rfl, Nat.zero_le _, 0, rfl⟩
  case round =>
    obtain ⟨j, hgj, rfl, hjj, m, rfl⟩ := hrel
    have j0' : (0 : Int) ≤ (j : Int) := by omega
    have HGJ := Lib.hid hgj
    have hj : j < i := by have := HIN.out; omega
    have j1 : (j : Int) < (i : Int) := by omega
    have j2 : (j : Int) < (n : Int) := by omega
    have hjl : j < l.length := by have := HI.out; omega
    obtain ⟨p, hp⟩ : ∃ p, p = l[j] := ⟨_, rfl⟩
    obtain ⟨rb', ro', hra, hrow⟩ := HR.out.row j hjl
    injection hra with hra
    injection hra with e5 e6
    subst e5
    subst e6
    rw [← hp] at hrow
    have r0 : w1.cell? ⟨rb, ro + j * 12, none⟩ = some (.int .i64 p.slot) := hrow 0 _ rfl
    have r1 : w1.cell? ⟨rb, ro + j * 12 + 1, none⟩ = some (.int .i64 p.birth) := hrow 1 _ rfl
    have HJ := Lib.hid hj
    have HJJ := Lib.hid hjj
    by_cases hlt : j < j0
    · have t1 : (p.birth == s.upB) = false := by rw [beq_eq_false_iff_ne, hp]; exact HMIN.out j hlt
      have HLT := Lib.hid hlt
      clear hp hrow hgj hjj hlt
      go_wp2_with fail
      go_quiet (fail)
      go_wp2_with fail
      go_roundg (i - (j + 1))
      case measure => have := HGJ.out; have := HJ.out; omega
      case rel => exact ⟨j + 1, by have := HGJ.out; have := HJ.out; omega, by go_num, HLT.out, _, rfl⟩
    obtain rfl : j = j0 := by omega
    obtain rfl : p = P := by rw [hp, HPP.out]
    have t1 : (p.birth == s.upB) = true := by rw [beq_iff_eq]; exact HE.out.1
    have t2 : (p.slot == s.upS) = true := by rw [beq_iff_eq]; exact HE.out.2
    have HROW := Lib.hid (show ∀ q, (w1.drewN q).rangeAt rb (ro + j * 12) p.cells.toList from fun q => hrow)
    clear hp hrow hgj hjj hlt HJJ
    go_wp2_with fail
    go_quiet (fail)
    go_wp2_with ((with_reducible refine wpList_load_k ?L1a 36 (.tmp 40) ?L1b (rb) (ro + j * 12) ?L1c p.cells.toList _ (HROW.out _) Tryz.underlying36 ?L1d ?L1e ?L1f); (case L1b => rfl); (case L1a => rfl); (case L1c => rfl); (case L1d => rfl); (case L1e => kernel_rfl))
    intro cv hcv
    go_wp2_with ((with_reducible refine wpList_store_k ?S2a 36 (.tmp 4) (.tmp 41) ?S2b (w.heap.size) (0) p.cells.toList ?S2c cv ?S2d hcv ?S2e ?S2f ?S2g ?S2h); (case S2b => rfl); (case S2a => rfl); (case S2c => rfl); (case S2d => rfl); (case S2e => exact HTH.out _); (case S2f => kernel_rfl); (case S2g => exact SesM.oneS _))
    intro w2 hw2
    have HS2 := Lib.hid (show Box w2 w.heap.size p.cells 36 by rw [hw2.out]; exact HSE.out _)
    have HB2 := Lib.hid (show Below w.heap.size w w2 by
      rw [hw2.out]
      generalize p.cells.toList = L
      exact (HB.out.trans ((below_drewN _ _).mono HB.out.size)).trans ((Mod.setCells (fun q => q = w.heap.size) w.heap.size rfl L 0 _).below HB.out.size (fun i hi => Nat.le_of_eq hi.symm)))
    clear hw2 hcv HTH HSE HROW
    go_wp2_with fail
    exact ret_cell_tmp rfl rfl w.heap.size 0 rfl p.cells.toList _ (Box.rangeS HS2.out) Tryz.underlying36 rfl (by kernel_rfl) _ rfl ⟨rfl, HB2.out⟩
/-- A session beside its parent, as the law asks it. -/
structure NarS (s p : SesM) : Prop where
  sc : scIn s.scopes p.scopes = true
  dl : s.deadline ≤ p.deadline
  dp : s.depth = IntKind.i64.wrap (p.depth + 1)
  us : s.user = p.user
  le : s.level ≤ p.level → s.level = p.level ∧ s.kind = 1
  gt : p.level < s.level → s.kind = 2 ∧ s.deadline ≤ s.born + 300
  bo : 0 ≤ s.born ∧ s.born ≤ 1099511627776
theorem Snd.nar {st : StM} (h : Snd st) {s p : SesM} (hs : s ∈ st.l) (hu : s.upB ≠ 0) (hf : fitsM s p = true) : NarS s p := by
  obtain ⟨h1, h2, h3, h4, h5, h6⟩ := narrow_of (h.may s hs) hu hf
  have hb : 0 ≤ s.born ∧ s.born ≤ 1099511627776 := by
    have hm := h.may s hs
    unfold mayS at hm
    simp only [Bool.and_eq_true] at hm
    have := fromM_yes hm.2.2.2.2.1
    omega
  exact ⟨h1, h2, h3, h4, h5, h6, hb⟩
set_option maxHeartbeats 3200000 in
theorem narrower_calls (s p : SesM) (w : World) (h : NarS s p) :
    Calls Tryz.prog 58 #[.agg s.cells, .agg p.cells] w fun e w' => e = .returned (.bool true) ∧ Below w.heap.size w w' := by
  have HB := Lib.hid (fun o o2 => below_two w o o2)
  obtain ⟨D, hD⟩ : ∃ D, IntKind.i64.wrap (p.depth + 1) = D := ⟨_, rfl⟩
  have HWI := Lib.hid (fun w => within_calls s.scopes p.scopes w)
  have h2 := h.dp
  rw [hD] at h2
  have t1 : decide (p.deadline < s.deadline) = false := by have := h.dl; simp; omega
  have t2 : (s.depth != D) = false := by rw [h2]; simp
  have t3 : ((SB s.user).toList == (SB p.user).toList) = true := by rw [h.us]; simp
  have hz : IntKind.i64.wrap (s.born + 300) = s.born + 300 := by have := h.bo; simp [IntKind.wrap, IntKind.bits, IntKind.signed]; omega
  have HSCI := Lib.hid h.sc
  have HLE := Lib.hid h.le
  have HGT := Lib.hid h.gt
  clear h h2
  have HSC := Lib.hid s.cellsE
  have HPC := Lib.hid p.cellsE
  rw [HSC.out, HPC.out]
  clear HSC HPC
  go_enter Tryz.func58, Tryz.ntmps58
  go_wp2_with fail
  refine (HWI.out _).mono ?_
  rintro e w4 ⟨rfl, rfl⟩
  rw [HSCI.out]
  clear HWI HSCI
  by_cases hl : s.level ≤ p.level
  · obtain ⟨h5, h6⟩ := HLE.out hl
    have t5 : (s.level == p.level) = true := by rw [h5]; simp
    have t6 : (s.kind == 1) = true := by rw [h6]; rfl
    clear h5 h6
    go_wp2_with fail
    go_ret
    exact ⟨rfl, HB.out _ _⟩
  obtain ⟨h5, h6⟩ := HGT.out (by omega)
  have t6 : (s.kind == 2) = true := by rw [h5]; rfl
  clear h5
  go_wp2_with fail
  go_ret
  exact ⟨rfl, HB.out _ _⟩
set_option maxHeartbeats 6400000 in
theorem sound_calls (C B : Int) (v : Value) (l : List SesM) (w : World) (hr : RdS w v l) (hs : Snd ⟨C, B, l⟩) :
    Calls Tryz.prog 33 #[.agg #[.int .i64 C, .int .i64 B, v]] w fun e w' => e = .returned (.bool true) ∧ Below w.heap.size w w' := by
  obtain ⟨a, cap, rfl, hc1, hc2⟩ := hr.slice
  have HB1 := Lib.hid (below_alloc w (.cells #[.int .i64 C, .int .i64 B, .slice a l.length cap] 25))
  have HX1 := Lib.hid (Box.new w #[.int .i64 C, .int .i64 B, .slice a l.length cap] 25)
  have HR := Lib.hid (hr.below HB1.out)
  have HS := Lib.hid hs
  have hlen : ¬ (32 : Int) < (l.length : Int) := by have := hs.len; simp only at this; omega
  obtain ⟨n, hN⟩ : ∃ n, n = l.length := ⟨_, rfl⟩
  rw [← hN] at hlen HB1 HX1 HR ⊢
  have HN := Lib.hid hN
  clear hr hs hc1 hN
  have hln : n ≤ 9223372036854775807 := by omega
  have c0 : (w.alloc (.cells #[.int .i64 C, .int .i64 B, .slice a n cap] 25)).cell? ⟨w.heap.size, 0, none⟩ = some (.int .i64 C) := HX1.out.cell 0 _ rfl
  have c1 : (w.alloc (.cells #[.int .i64 C, .int .i64 B, .slice a n cap] 25)).cell? ⟨w.heap.size, 1, none⟩ = some (.int .i64 B) := HX1.out.cell 1 _ rfl
  have c2 : (w.alloc (.cells #[.int .i64 C, .int .i64 B, .slice a n cap] 25)).cell? ⟨w.heap.size, 2, none⟩ = some (.slice a n cap) := HX1.out.cell 2 _ rfl
  go_enter Tryz.func33, Tryz.ntmps33
  go_wp2_with fail
  generalize (w.alloc (.cells #[.int .i64 C, .int .i64 B, .slice a n cap] 25)) = w1 at HB1 HX1 HR c0 c1 c2 ⊢
  clear c0 c1 c2 hlen
  go_loopg [4] n (fun gk iv wr => ∃ k : Nat, gk + k = n ∧ iv = .int .i64 (k : Int) ∧ Below w1.heap.size w1 wr)
  case atStart => exact ⟨0, rfl, rfl, Below.refl _ _⟩
  case round =>
    obtain ⟨k, hgk, rfl, hb⟩ := hrel
    have k0 : (0 : Int) ≤ (k : Int) := by omega
    have HGK := Lib.hid hgk
    have HBr := Lib.hid hb
    clear hgk hb
    by_cases hk : k < n
    rotate_left
    · have k1 : ¬ (k : Int) < (n : Int) := by omega
      have HB9 := Lib.hid (HB1.out.trans (HBr.out.mono HB1.out.size))
      clear hk
      go_wp2_with fail
      go_ret
      exact ⟨rfl, HB9.out⟩
    have k1 : (k : Int) < (n : Int) := by omega
    have hkl : k < l.length := by have := HN.out; omega
    obtain ⟨s, hs⟩ : ∃ s, s = l[k] := ⟨_, rfl⟩
    have hRr := HR.out.below HBr.out
    obtain ⟨rb, ro, hra, hrow⟩ := hRr.row k hkl
    subst hra
    rw [← hs] at hrow
    have hmem : s ∈ l := by rw [hs]; exact List.getElem_mem hkl
    obtain ⟨g1, g2, g3, g4⟩ := HS.out.one hmem
    have HMEM := Lib.hid hmem
    have HPAR := Lib.hid (fun hu => HS.out.parAt hkl hu)
    have HSL := Lib.hid (show ∀ j (hj : j < k) (hjl : j < l.length), (l[j]).slot ≠ s.slot from fun j hj hjl => by rw [hs]; exact List.pairwise_iff_getElem.1 HS.out.slots j k hjl hkl hj)
    have HSL2 := Lib.hid (show ∀ j (hj : j < k) (hjl : j < l.length), (l[j]).birth < s.birth from fun j hj hjl => by rw [hs]; exact List.pairwise_iff_getElem.1 HS.out.inc j k hjl hkl hj)
    have HROOT := Lib.hid (fun hu => root_parts (HS.out.may s hmem) hu)
    have HRr := Lib.hid hRr
    have HROW := Lib.hid hrow
    have HXr := Lib.hid (HX1.out.below HBr.out)
    have c0 : wr.cell? ⟨w.heap.size, 0, none⟩ = some (.int .i64 C) := HXr.out.cell 0 _ rfl
    have c1 : wr.cell? ⟨w.heap.size, 1, none⟩ = some (.int .i64 B) := HXr.out.cell 1 _ rfl
    have r1 : wr.cell? ⟨rb, ro + k * 12 + 1, none⟩ = some (.int .i64 s.birth) := hrow 1 _ rfl
    have r8 : wr.cell? ⟨rb, ro + k * 12 + 9, none⟩ = some (.int .i64 s.born) := hrow 9 _ rfl
    have r9 : wr.cell? ⟨rb, ro + k * 12 + 10, none⟩ = some (.int .i64 s.deadline) := hrow 10 _ rfl
    have HK := Lib.hid (And.intro hk hkl)
    have HSE := Lib.hid hs
    clear hs hrow hRr hmem
    have HTAIL : True := trivial
    by_cases hz : k = 0
    · have kpos : decide ((0 : Int) < (k : Int)) = false := by simp; omega
      have kpos' : decide (0 < k) = false := by simp; omega
      clear hk hz
      go_wp2_with fail
      go_quiet (fail)
      have HBq := Lib.hid (fun q => HBr.out.trans ((below_drewN wr q).mono HBr.out.size))
      clear HBr g1 g2 g3 g4 c0 c1 r1 r8 r9 HXr
      go_wp2_with fail
      go_loopg [5] k (fun gj iv wr2 => ∃ j : Nat, gj + j = k ∧ iv = .int .i64 (j : Int) ∧ Below w1.heap.size w1 wr2)
      case atStart => exact ⟨0, Nat.add_zero _, rfl, HBq.out _⟩
      case round =>
        clear HBq HROW HRr
        obtain ⟨j, hgj, rfl, hb⟩ := hrel
        rename_i wr0 _ _ _ _ _
        have j0' : (0 : Int) ≤ (j : Int) := by omega
        have HGJ := Lib.hid hgj
        have HBj := Lib.hid hb
        have HRj := Lib.hid (HR.out.below hb)
        obtain ⟨rb', ro', hra, hrow⟩ := HRj.out.row k hkl
        injection hra with hra
        injection hra with e5 e6
        subst e5
        subst e6
        rw [← HSE.out] at hrow
        clear hgj hb
        by_cases hj : j < k
        · have j1 : (j : Int) < (k : Int) := by omega
          have j2 : (j : Int) < (n : Int) := by omega
          have hjl : j < l.length := by omega
          obtain ⟨p, hp⟩ : ∃ p, p = l[j] := ⟨_, rfl⟩
          obtain ⟨rb', ro', hra, hrow2⟩ := HRj.out.row j hjl
          injection hra with hra
          injection hra with e5 e6
          subst e5
          subst e6
          rw [← hp] at hrow2
          have r0 := hrow2 0 _ rfl
          have s0 := hrow 0 _ rfl
          simp only [Nat.add_zero] at r0 s0
          have t1 : (p.slot == s.slot) = false := by rw [beq_eq_false_iff_ne, hp]; exact HSL.out j hj hjl
          have HBj2 := Lib.hid (fun q => HBj.out.trans ((below_drewN _ q).mono HBj.out.size))
          have HJ := Lib.hid hj
          clear hp hrow hrow2 hj
          go_wp2_with fail
          go_quiet (fail)
          go_wp2_with fail
          go_roundg (k - (j + 1))
          case measure => have := HGJ.out; have := HJ.out; omega
          case rel => exact ⟨j + 1, by have := HGJ.out; have := HJ.out; omega, by go_num, HBj2.out _⟩
        have j1 : ¬ (j : Int) < (k : Int) := by omega
        have s3 := hrow 3 _ rfl
        have s4 := hrow 4 _ rfl
        have s11 := hrow 11 _ rfl
        have HRW := Lib.hid hrow
        clear hj hrow
        by_cases hu : s.upB = 0
        · obtain ⟨hk1, hk2⟩ := HROOT.out hu
          have t1 : (s.upB == 0) = true := by rw [hu]; rfl
          have t2 : (s.depth == 0) = true := by rw [hk2]; rfl
          have t3 : (s.kind == 0) = true := by rw [hk1]; rfl
          have t1' : (s.upB != 0) = false := by rw [hu]; rfl
          have t2' : (s.depth != 0) = false := by rw [hk2]; rfl
          have t3' : (s.kind != 0) = false := by rw [hk1]; rfl
          clear hu hk1 hk2
          go_wp2_with fail
          go_roundg (n - (k + 1))
          case measure => have := HGK.out; have := HK.out; omega
          case rel => exact ⟨k + 1, by have := HGK.out; have := HK.out; omega, by go_num, HBj.out⟩
        have t1 : (s.upB == 0) = false := by rw [beq_eq_false_iff_ne]; exact hu
        have t1' : (s.upB != 0) = true := by rw [bne_iff_ne]; exact hu
        have hpar := HPAR.out (by rw [← HSE.out]; exact hu)
        obtain ⟨j0, hj0, hjk, e1, e2, e3, e4⟩ := hpar
        have HNA := Lib.hid (show NarS s l[j0] from HS.out.nar HMEM.out hu (by rw [HSE.out]; exact e3))
        have HPC := Lib.hid (fun wq hq => parent_calls (some ⟨rb, ro, none⟩) n cap k j0 l wq HN.out hq hkl hj0 hjk e1 e2 e4)
        obtain ⟨P, hP⟩ : ∃ P, P = l[j0] := ⟨_, rfl⟩
        rw [← hP] at HNA HPC
        clear hu e1 e2 e3 e4 hP HPAR
        go_wp2_with fail
        refine (HPC.out _ HRj.out).mono ?_
        rintro e3 w3 ⟨rfl, hb3⟩
        have HB3 := Lib.hid (HBj.out.trans (hb3.mono HBj.out.size))
        have HRW3 := Lib.hid (fun j v hv => below_heap hb3 (HRW.out j v hv))
        clear hb3 HPC HRj HBj HRW s3 s4 s11
        go_wp2_with ((with_reducible refine wpList_store_k ?S3a 36 (.tmp 6) (.tmp 100) ?S3b (w3.heap.size) (0) P.cells.toList ?S3c P.cells ?S3d (SesM.listS _) ?S3e ?S3f ?S3g ?S3h); (case S3b => rfl); (case S3a => rfl); (case S3c => rfl); (case S3d => rfl); (case S3e => exact thereZ _ _); (case S3f => kernel_rfl); (case S3g => exact SesM.oneS _))
        intro w4 hw4
        obtain ⟨hpx, hb4⟩ := putZ hw4
        have HPX := Lib.hid (Box.rangeS hpx)
        have HB4 := Lib.hid (HB3.out.trans (hb4.mono HB3.out.size))
        have HRW4 := Lib.hid (show w4.rangeAt rb (ro + k * 12) s.cells.toList from fun j v hv => below_heap hb4 (HRW3.out j v hv))
        have HNC := Lib.hid (fun w => narrower_calls s P w HNA.out)
        clear hw4 hpx hb4 HB3 HRW3 HNA
        generalize w3.heap.size = q3 at HPX ⊢
        go_wp2_with fail
        refine wp_region_held_drew (S := fun W => Below w4.heap.size w4 W) (by kernel_rfl) (below_drew w4) (fun hHeld => ?_)
        refine wpAnyH_take (i := 0) (oi := ⟨some 102, _, _, _, _, _⟩) (v := ?_) rfl (by kernel_rfl) (by kernel_rfl) (by kernel_rfl) (fun _ _ _ h => h) (Or.inl ⟨by kernel_rfl, ?_⟩) (by assumption) ?_
        rotate_left 1
        · intro w' hw'; clear hw'; go_simp; try with_reducible rfl
        try simp only [Act.put, List.setIfInBounds_toArray, List.set_cons_zero, List.set_cons_succ]
        refine wpAnyH_take (i := 1) (oi := ⟨some 103, _, _, _, _, _⟩) (v := ?_) rfl (by kernel_rfl) (by kernel_rfl) (by kernel_rfl) (fun _ _ _ h => h) (Or.inl ⟨by kernel_rfl, ?_⟩) (by assumption) ?_
        rotate_left 1
        · intro w' hw'; clear hw'; go_simp; try with_reducible rfl
        try simp only [Act.put, List.setIfInBounds_toArray, List.set_cons_zero, List.set_cons_succ]
        refine wpAnyH_take (i := 2) (oi := ⟨some 104, _, _, _, _, _⟩) (v := ?_) rfl (by kernel_rfl) (by kernel_rfl) (by kernel_rfl) (fun _ _ _ h => h) (Or.inl ⟨by kernel_rfl, ?_⟩) (by assumption) ?_
        rotate_left 1
        · intro w' hw'; clear hw'; go_simp; try with_reducible rfl
        try simp only [Act.put, List.setIfInBounds_toArray, List.set_cons_zero, List.set_cons_succ]
        refine wpAnyH_take (i := 3) (oi := ⟨some 105, _, _, _, _, _⟩) (v := ?_) rfl (by kernel_rfl) (by kernel_rfl) (by kernel_rfl) (fun _ _ _ h => h) (Or.inl ⟨by kernel_rfl, ?_⟩) (by assumption) ?_
        rotate_left 1
        · intro w' hw'; clear hw'; go_simp; try with_reducible rfl
        try simp only [Act.put, List.setIfInBounds_toArray, List.set_cons_zero, List.set_cons_succ]
        refine wpAnyH_take (i := 4) (oi := ⟨some 106, _, _, _, _, _⟩) (v := ?_) rfl (by kernel_rfl) (by kernel_rfl) (by kernel_rfl) (fun _ _ _ h => h) (Or.inl ⟨by kernel_rfl, ?_⟩) (by assumption) ?_
        rotate_left 1
        · intro w' hw'; clear hw'; go_simp; try with_reducible rfl
        try simp only [Act.put, List.setIfInBounds_toArray, List.set_cons_zero, List.set_cons_succ]
        refine wpAnyH_take (i := 5) (oi := ⟨some 107, _, _, _, _, _⟩) (v := ?_) rfl (by kernel_rfl) (by kernel_rfl) (by kernel_rfl) (fun _ _ _ h => h) (Or.inl ⟨by kernel_rfl, ?_⟩) (by assumption) ?_
        rotate_left 1
        · intro w' hw'; clear hw'; go_simp; try with_reducible rfl
        try simp only [Act.put, List.setIfInBounds_toArray, List.set_cons_zero, List.set_cons_succ]
        refine wpAnyH_take (i := 6) (oi := ⟨some 108, .load _ _, _, _, _, _⟩) (v := .agg s.cells) rfl (by kernel_rfl) (by kernel_rfl) (by kernel_rfl) (fun _ _ _ h => h) (Or.inl ⟨by kernel_rfl, fun w' hw' => exec_load_m 36 (.tmp 107) rfl (rb) (ro + k * 12) rfl (s.cells).toList _ (fun j v hv => below_heap hw' (HRW4.out j v hv)) Tryz.underlying36 rfl (by kernel_rfl)⟩) (by assumption) ?_
        try simp only [Act.put, List.setIfInBounds_toArray, List.set_cons_zero, List.set_cons_succ]
        refine wpAnyH_take (i := 7) (oi := ⟨some 109, .load _ _, _, _, _, _⟩) (v := .agg P.cells) rfl (by kernel_rfl) (by kernel_rfl) (by kernel_rfl) (fun _ _ _ h => h) (Or.inl ⟨by kernel_rfl, fun w' hw' => exec_load_m 36 (.tmp 6) rfl (q3) (0) rfl (P.cells).toList _ (fun j v hv => below_heap hw' (HPX.out j v hv)) Tryz.underlying36 rfl (by kernel_rfl)⟩) (by assumption) ?_
        try simp only [Act.put, List.setIfInBounds_toArray, List.set_cons_zero, List.set_cons_succ]
        refine wpAnyH_ready (rs := [8]) (by kernel_rfl) (by simp) (AllReadyH.cons (o := ⟨some 110, .call _, _, _, _, _⟩) rfl (fun K hK => ?_) AllReadyH.nil)
        go_simp
        refine (HNC.out _).mono ?_
        rintro e5 w5 ⟨rfl, hb5⟩
        refine hK.out _ _ (below_trans hHeld hb5) (fun hHeld2 => ?_)
        clear hK K hb5
        try simp only [Act.put, List.setIfInBounds_toArray, List.set_cons_zero, List.set_cons_succ]
        refine wpAnyH_take (i := 9) (oi := ⟨some 111, _, _, _, _, _⟩) (v := ?_) rfl (by kernel_rfl) (by kernel_rfl) (by kernel_rfl) (fun _ _ _ h => h) (Or.inl ⟨by kernel_rfl, ?_⟩) (by assumption) ?_
        rotate_left 1
        · intro w' hw'; clear hw'; go_simp; try with_reducible rfl
        try simp only [Act.put, List.setIfInBounds_toArray, List.set_cons_zero, List.set_cons_succ]
        refine wpAnyH_take (i := 10) (oi := ⟨some 112, _, _, _, _, _⟩) (v := ?_) rfl (by kernel_rfl) (by kernel_rfl) (by kernel_rfl) (fun _ _ _ h => h) (Or.inl ⟨by kernel_rfl, ?_⟩) (by assumption) ?_
        rotate_left 1
        · intro w' hw'; clear hw'; go_simp; try with_reducible rfl
        try simp only [Act.put, List.setIfInBounds_toArray, List.set_cons_zero, List.set_cons_succ]
        refine wpAnyH_done (by kernel_rfl) ?_ _
        have HB5 := Lib.hid (HB4.out.trans (hHeld2.mono HB4.out.size))
        clear hHeld hHeld2 HB4 HRW4 HPX HNC
        go_wp2_with fail
        go_roundg (n - (k + 1))
        case measure => have := HGK.out; have := HK.out; omega
        case rel => exact ⟨k + 1, by have := HGK.out; have := HK.out; omega, by go_num, HB5.out⟩
    obtain ⟨k', hk'⟩ : ∃ k', k' + 1 = k := ⟨k - 1, by omega⟩
    have hkl' : k' < l.length := by omega
    obtain ⟨p', hp'⟩ : ∃ p', p' = l[k'] := ⟨_, rfl⟩
    obtain ⟨rb', ro', hra, hrow'⟩ := HRr.out.row k' hkl'
    injection hra with hra
    injection hra with e5 e6
    subst e5
    subst e6
    rw [← hp'] at hrow'
    have q1 : wr.cell? ⟨rb, ro + k' * 12 + 1, none⟩ = some (.int .i64 p'.birth) := hrow' 1 _ rfl
    have hw : IntKind.i64.wrap ((k : Int) - 1) = (k' : Int) := by simp [IntKind.wrap, IntKind.bits, IntKind.signed]; omega
    have kp0 : (0 : Int) ≤ (k' : Int) := by omega
    have kp1 : (k' : Int) < (n : Int) := by omega
    have kpos : decide ((0 : Int) < (k : Int)) = true := by simp; omega
    have kpos' : decide (0 < k) = true := by simp; omega
    have g5 : decide (s.birth ≤ p'.birth) = false := by have := HSL2.out k' (by omega) hkl'; rw [← hp'] at this; simp; omega
    clear hk hz hk' hp' hrow'
    go_wp2_with fail
    go_quiet (fail)
    have HBq := Lib.hid (fun q => HBr.out.trans ((below_drewN wr q).mono HBr.out.size))
    clear HBr g1 g2 g3 g4 c0 c1 r1 r8 r9 HXr
    go_wp2_with fail
    go_loopg [5] k (fun gj iv wr2 => ∃ j : Nat, gj + j = k ∧ iv = .int .i64 (j : Int) ∧ Below w1.heap.size w1 wr2)
    case atStart => exact ⟨0, Nat.add_zero _, rfl, HBq.out _⟩
    case round =>
      clear HBq HROW HRr
      obtain ⟨j, hgj, rfl, hb⟩ := hrel
      rename_i wr0 _ _ _ _ _
      have j0' : (0 : Int) ≤ (j : Int) := by omega
      have HGJ := Lib.hid hgj
      have HBj := Lib.hid hb
      have HRj := Lib.hid (HR.out.below hb)
      obtain ⟨rb', ro', hra, hrow⟩ := HRj.out.row k hkl
      injection hra with hra
      injection hra with e5 e6
      subst e5
      subst e6
      rw [← HSE.out] at hrow
      clear hgj hb
      by_cases hj : j < k
      · have j1 : (j : Int) < (k : Int) := by omega
        have j2 : (j : Int) < (n : Int) := by omega
        have hjl : j < l.length := by omega
        obtain ⟨p, hp⟩ : ∃ p, p = l[j] := ⟨_, rfl⟩
        obtain ⟨rb', ro', hra, hrow2⟩ := HRj.out.row j hjl
        injection hra with hra
        injection hra with e5 e6
        subst e5
        subst e6
        rw [← hp] at hrow2
        have r0 := hrow2 0 _ rfl
        have s0 := hrow 0 _ rfl
        simp only [Nat.add_zero] at r0 s0
        have t1 : (p.slot == s.slot) = false := by rw [beq_eq_false_iff_ne, hp]; exact HSL.out j hj hjl
        have HBj2 := Lib.hid (fun q => HBj.out.trans ((below_drewN _ q).mono HBj.out.size))
        have HJ := Lib.hid hj
        clear hp hrow hrow2 hj
        go_wp2_with fail
        go_quiet (fail)
        go_wp2_with fail
        go_roundg (k - (j + 1))
        case measure => have := HGJ.out; have := HJ.out; omega
        case rel => exact ⟨j + 1, by have := HGJ.out; have := HJ.out; omega, by go_num, HBj2.out _⟩
      have j1 : ¬ (j : Int) < (k : Int) := by omega
      have s3 := hrow 3 _ rfl
      have s4 := hrow 4 _ rfl
      have s11 := hrow 11 _ rfl
      have HRW := Lib.hid hrow
      clear hj hrow
      by_cases hu : s.upB = 0
      · obtain ⟨hk1, hk2⟩ := HROOT.out hu
        have t1 : (s.upB == 0) = true := by rw [hu]; rfl
        have t2 : (s.depth == 0) = true := by rw [hk2]; rfl
        have t3 : (s.kind == 0) = true := by rw [hk1]; rfl
        have t1' : (s.upB != 0) = false := by rw [hu]; rfl
        have t2' : (s.depth != 0) = false := by rw [hk2]; rfl
        have t3' : (s.kind != 0) = false := by rw [hk1]; rfl
        clear hu hk1 hk2
        go_wp2_with fail
        go_roundg (n - (k + 1))
        case measure => have := HGK.out; have := HK.out; omega
        case rel => exact ⟨k + 1, by have := HGK.out; have := HK.out; omega, by go_num, HBj.out⟩
      have t1 : (s.upB == 0) = false := by rw [beq_eq_false_iff_ne]; exact hu
      have t1' : (s.upB != 0) = true := by rw [bne_iff_ne]; exact hu
      have hpar := HPAR.out (by rw [← HSE.out]; exact hu)
      obtain ⟨j0, hj0, hjk, e1, e2, e3, e4⟩ := hpar
      have HNA := Lib.hid (show NarS s l[j0] from HS.out.nar HMEM.out hu (by rw [HSE.out]; exact e3))
      have HPC := Lib.hid (fun wq hq => parent_calls (some ⟨rb, ro, none⟩) n cap k j0 l wq HN.out hq hkl hj0 hjk e1 e2 e4)
      obtain ⟨P, hP⟩ : ∃ P, P = l[j0] := ⟨_, rfl⟩
      rw [← hP] at HNA HPC
      clear hu e1 e2 e3 e4 hP HPAR
      go_wp2_with fail
      refine (HPC.out _ HRj.out).mono ?_
      rintro e3 w3 ⟨rfl, hb3⟩
      have HB3 := Lib.hid (HBj.out.trans (hb3.mono HBj.out.size))
      have HRW3 := Lib.hid (fun j v hv => below_heap hb3 (HRW.out j v hv))
      clear hb3 HPC HRj HBj HRW s3 s4 s11
      go_wp2_with ((with_reducible refine wpList_store_k ?S4a 36 (.tmp 6) (.tmp 100) ?S4b (w3.heap.size) (0) P.cells.toList ?S4c P.cells ?S4d (SesM.listS _) ?S4e ?S4f ?S4g ?S4h); (case S4b => rfl); (case S4a => rfl); (case S4c => rfl); (case S4d => rfl); (case S4e => exact thereZ _ _); (case S4f => kernel_rfl); (case S4g => exact SesM.oneS _))
      intro w4 hw4
      obtain ⟨hpx, hb4⟩ := putZ hw4
      have HPX := Lib.hid (Box.rangeS hpx)
      have HB4 := Lib.hid (HB3.out.trans (hb4.mono HB3.out.size))
      have HRW4 := Lib.hid (show w4.rangeAt rb (ro + k * 12) s.cells.toList from fun j v hv => below_heap hb4 (HRW3.out j v hv))
      have HNC := Lib.hid (fun w => narrower_calls s P w HNA.out)
      clear hw4 hpx hb4 HB3 HRW3 HNA
      generalize w3.heap.size = q3 at HPX ⊢
      go_wp2_with fail
      refine wp_region_held_drew (S := fun W => Below w4.heap.size w4 W) (by kernel_rfl) (below_drew w4) (fun hHeld => ?_)
      refine wpAnyH_take (i := 0) (oi := ⟨some 102, _, _, _, _, _⟩) (v := ?_) rfl (by kernel_rfl) (by kernel_rfl) (by kernel_rfl) (fun _ _ _ h => h) (Or.inl ⟨by kernel_rfl, ?_⟩) (by assumption) ?_
      rotate_left 1
      · intro w' hw'; clear hw'; go_simp; try with_reducible rfl
      try simp only [Act.put, List.setIfInBounds_toArray, List.set_cons_zero, List.set_cons_succ]
      refine wpAnyH_take (i := 1) (oi := ⟨some 103, _, _, _, _, _⟩) (v := ?_) rfl (by kernel_rfl) (by kernel_rfl) (by kernel_rfl) (fun _ _ _ h => h) (Or.inl ⟨by kernel_rfl, ?_⟩) (by assumption) ?_
      rotate_left 1
      · intro w' hw'; clear hw'; go_simp; try with_reducible rfl
      try simp only [Act.put, List.setIfInBounds_toArray, List.set_cons_zero, List.set_cons_succ]
      refine wpAnyH_take (i := 2) (oi := ⟨some 104, _, _, _, _, _⟩) (v := ?_) rfl (by kernel_rfl) (by kernel_rfl) (by kernel_rfl) (fun _ _ _ h => h) (Or.inl ⟨by kernel_rfl, ?_⟩) (by assumption) ?_
      rotate_left 1
      · intro w' hw'; clear hw'; go_simp; try with_reducible rfl
      try simp only [Act.put, List.setIfInBounds_toArray, List.set_cons_zero, List.set_cons_succ]
      refine wpAnyH_take (i := 3) (oi := ⟨some 105, _, _, _, _, _⟩) (v := ?_) rfl (by kernel_rfl) (by kernel_rfl) (by kernel_rfl) (fun _ _ _ h => h) (Or.inl ⟨by kernel_rfl, ?_⟩) (by assumption) ?_
      rotate_left 1
      · intro w' hw'; clear hw'; go_simp; try with_reducible rfl
      try simp only [Act.put, List.setIfInBounds_toArray, List.set_cons_zero, List.set_cons_succ]
      refine wpAnyH_take (i := 4) (oi := ⟨some 106, _, _, _, _, _⟩) (v := ?_) rfl (by kernel_rfl) (by kernel_rfl) (by kernel_rfl) (fun _ _ _ h => h) (Or.inl ⟨by kernel_rfl, ?_⟩) (by assumption) ?_
      rotate_left 1
      · intro w' hw'; clear hw'; go_simp; try with_reducible rfl
      try simp only [Act.put, List.setIfInBounds_toArray, List.set_cons_zero, List.set_cons_succ]
      refine wpAnyH_take (i := 5) (oi := ⟨some 107, _, _, _, _, _⟩) (v := ?_) rfl (by kernel_rfl) (by kernel_rfl) (by kernel_rfl) (fun _ _ _ h => h) (Or.inl ⟨by kernel_rfl, ?_⟩) (by assumption) ?_
      rotate_left 1
      · intro w' hw'; clear hw'; go_simp; try with_reducible rfl
      try simp only [Act.put, List.setIfInBounds_toArray, List.set_cons_zero, List.set_cons_succ]
      refine wpAnyH_take (i := 6) (oi := ⟨some 108, .load _ _, _, _, _, _⟩) (v := .agg s.cells) rfl (by kernel_rfl) (by kernel_rfl) (by kernel_rfl) (fun _ _ _ h => h) (Or.inl ⟨by kernel_rfl, fun w' hw' => exec_load_m 36 (.tmp 107) rfl (rb) (ro + k * 12) rfl (s.cells).toList _ (fun j v hv => below_heap hw' (HRW4.out j v hv)) Tryz.underlying36 rfl (by kernel_rfl)⟩) (by assumption) ?_
      try simp only [Act.put, List.setIfInBounds_toArray, List.set_cons_zero, List.set_cons_succ]
      refine wpAnyH_take (i := 7) (oi := ⟨some 109, .load _ _, _, _, _, _⟩) (v := .agg P.cells) rfl (by kernel_rfl) (by kernel_rfl) (by kernel_rfl) (fun _ _ _ h => h) (Or.inl ⟨by kernel_rfl, fun w' hw' => exec_load_m 36 (.tmp 6) rfl (q3) (0) rfl (P.cells).toList _ (fun j v hv => below_heap hw' (HPX.out j v hv)) Tryz.underlying36 rfl (by kernel_rfl)⟩) (by assumption) ?_
      try simp only [Act.put, List.setIfInBounds_toArray, List.set_cons_zero, List.set_cons_succ]
      refine wpAnyH_ready (rs := [8]) (by kernel_rfl) (by simp) (AllReadyH.cons (o := ⟨some 110, .call _, _, _, _, _⟩) rfl (fun K hK => ?_) AllReadyH.nil)
      go_simp
      refine (HNC.out _).mono ?_
      rintro e5 w5 ⟨rfl, hb5⟩
      refine hK.out _ _ (below_trans hHeld hb5) (fun hHeld2 => ?_)
      clear hK K hb5
      try simp only [Act.put, List.setIfInBounds_toArray, List.set_cons_zero, List.set_cons_succ]
      refine wpAnyH_take (i := 9) (oi := ⟨some 111, _, _, _, _, _⟩) (v := ?_) rfl (by kernel_rfl) (by kernel_rfl) (by kernel_rfl) (fun _ _ _ h => h) (Or.inl ⟨by kernel_rfl, ?_⟩) (by assumption) ?_
      rotate_left 1
      · intro w' hw'; clear hw'; go_simp; try with_reducible rfl
      try simp only [Act.put, List.setIfInBounds_toArray, List.set_cons_zero, List.set_cons_succ]
      refine wpAnyH_take (i := 10) (oi := ⟨some 112, _, _, _, _, _⟩) (v := ?_) rfl (by kernel_rfl) (by kernel_rfl) (by kernel_rfl) (fun _ _ _ h => h) (Or.inl ⟨by kernel_rfl, ?_⟩) (by assumption) ?_
      rotate_left 1
      · intro w' hw'; clear hw'; go_simp; try with_reducible rfl
      try simp only [Act.put, List.setIfInBounds_toArray, List.set_cons_zero, List.set_cons_succ]
      refine wpAnyH_done (by kernel_rfl) ?_ _
      have HB5 := Lib.hid (HB4.out.trans (hHeld2.mono HB4.out.size))
      clear hHeld hHeld2 HB4 HRW4 HPX HNC
      go_wp2_with fail
      go_roundg (n - (k + 1))
      case measure => have := HGK.out; have := HK.out; omega
      case rel => exact ⟨k + 1, by have := HGK.out; have := HK.out; omega, by go_num, HB5.out⟩
end Go.Proofs.YthnabnieajojjaaGreatDoor

/-
  A state that events make, through the laws' rounds.
-/
namespace Go.Proofs.YthnabnieajojjaaGreatDoor
open Go.RowKit
set_option maxRecDepth 100000

/-- A state that events make, in a block of its own. -/
structure StI (w w' : World) (q : Nat) (C B : Int) (sv : Value) (L : List SesM) : Prop where
  bx : Box w' q #[.int .i64 C, .int .i64 B, sv] 25
  ow : OwnS w' (q + 1) sv L
  sn : Snd ⟨C, B, L⟩
  ge : w.heap.size ≤ q
  bel : Below w.heap.size w w'
theorem StI.below {w w' w2 : World} {q : Nat} {C B : Int} {sv : Value} {L : List SesM} (h : StI w w' q C B sv L) (hb : Below w'.heap.size w' w2) : StI w w2 q C B sv L :=
  ⟨h.bx.below hb, h.ow.below hb, h.sn, h.ge, h.bel.trans (hb.mono h.bel.size)⟩
theorem StI.put {w w' : World} {q : Nat} {C B : Int} {sv : Value} {L : List SesM} (h : StI w w' q C B sv L) (C2 B2 : Int) (o : Value) (L2 : List SesM) (ho : OwnS w' (q + 1) o L2) (hs : Snd ⟨C2, B2, L2⟩) :
    StI w (((w'.setCell ⟨q, 0, none⟩ (.int .i64 C2)).setCell ⟨q, 1, none⟩ (.int .i64 B2)).setCell ⟨q, 2, none⟩ o) q C2 B2 o L2 := by
  have hm := Mod.set3 q w' (.int .i64 C2) (.int .i64 B2) o
  have hq := h.ge
  exact ⟨((h.bx.set 0 (.int .i64 C2)).set 1 (.int .i64 B2)).set 2 o, ho.mod hm (fun k hk e => by have := (ho.lt k hk).1; omega), hs, hq, h.bel.trans (hm.below h.bel.size (fun i hi => by omega))⟩
/-- What an application in the round leaves. -/
structure AppI (w W : World) (q q8 : Nat) (C B : Int) (sv : Value) (L : List SesM) (C2 B2 : Int) (o : Value) (L2 : List SesM) : Prop where
  j : StI w W q C B sv L
  b8 : Box W q8 #[.int .i64 C2, .int .i64 B2, o] 25
  ow : OwnS W (q + 1) o L2
  ne : q8 ≠ q
theorem AppI.below {w W W2 : World} {q q8 : Nat} {C B : Int} {sv : Value} {L : List SesM} {C2 B2 : Int} {o : Value} {L2 : List SesM} (h : AppI w W q q8 C B sv L C2 B2 o L2) (hb : Below W.heap.size W W2) : AppI w W2 q q8 C B sv L C2 B2 o L2 :=
  ⟨h.j.below hb, h.b8.below hb, h.ow.below hb, h.ne⟩
theorem Snd.applied {S : StM} {e : EvtM} {er C2 B2 : Int} {L2 : List SesM} (h : Snd S) (he : applyM S e = (er, ⟨C2, B2, L2⟩)) (h0 : er = 0) : Snd ⟨C2, B2, L2⟩ := by
  have h1 := h.apply (e := e) (by rw [he]; exact h0)
  rw [he] at h1; exact h1
end Go.Proofs.YthnabnieajojjaaGreatDoor

/-
  The law ReplayNarrower.
-/
namespace Go.Proofs.YthnabnieajojjaaGreatDoor
open Go.RowKit
set_option maxRecDepth 100000

set_option maxHeartbeats 6400000 in
theorem replayNarrower_calls (l : List EvtM) (ev : Value) (w : World) (hev : RdE w ev l) (hok : ∀ e ∈ l, EvOk e) :
    Calls Tryz.prog 16 #[ev] w fun e w' => e = .returned (.bool true) ∧ Below w.heap.size w w' := by
  have HAP := Lib.hid (fun (S : StM) (e : EvtM) (he : e ∈ l) v' w' h hn' => apply_calls S e v' w' h hn' (Nat.le_trans (hok e he).user (by decide)) (Nat.le_trans (hok e he).label (by decide)) (hok e he).scopes)
  have HEV := Lib.hid hev
  obtain ⟨ea, ec, rfl, _, he2⟩ := hev.slice
  have hln : l.length ≤ 9223372036854775807 := by omega
  clear hev hok he2
  obtain ⟨n, hN⟩ : ∃ n, n = l.length := ⟨_, rfl⟩
  rw [← hN] at hln HEV ⊢
  have HN := Lib.hid hN
  clear hN
  go_enter Tryz.func16, Tryz.ntmps16
  go_wp2_with fail
  refine (worksR_calls w).mono ?_
  rintro ev w1 ⟨rfl, hb1⟩
  have HB1 := Lib.hid hb1
  clear hb1
  by_cases hlen : (300 : Int) < (n : Int)
  · go_wp2_with fail
    refine (worksR_calls w1).mono ?_
    rintro ev w2 ⟨rfl, hb2⟩
    have HB2 := Lib.hid (HB1.out.trans (hb2.mono HB1.out.size))
    clear hb2 HB1
    go_wp2_with fail
    go_ret
    exact ⟨rfl, HB2.out⟩
  have HLEN := Lib.hid (show n ≤ 300 by omega)
  have hba := below_alloc w1 (.cells #[.int .i64 0, .int .i64 0, .slice none 0 0] 25)
  have HI0 := Lib.hid (show StI w (w1.alloc (.cells #[.int .i64 0, .int .i64 0, .slice none 0 0] 25)) w1.heap.size 0 0 (.slice none 0 0) [] from
    ⟨Box.new _ _ _, OwnS.nil _ _, Snd.zero, HB1.out.size, HB1.out.trans (hba.mono HB1.out.size)⟩)
  clear hba
  go_wp2_with fail
  generalize (w1.alloc (.cells #[.int .i64 0, .int .i64 0, .slice none 0 0] 25)) = w2 at HI0 ⊢
  generalize w1.heap.size = q at HI0 ⊢
  clear HB1 hlen
  go_loopg [4] n (fun gk iv wr => ∃ (k : Nat) (C B : Int) (sv : Value) (L : List SesM), gk + k = n ∧ iv = .int .i64 (k : Int) ∧ StI w wr q C B sv L)
  case atStart => exact ⟨0, _, _, _, _, Nat.add_zero _, rfl, HI0.out⟩
  case round =>
    clear HI0
    obtain ⟨k, C, B, sv, L, hgk, rfl, hI⟩ := hrel
    have k0 : (0 : Int) ≤ (k : Int) := by omega
    have HGK := Lib.hid hgk
    have HI := Lib.hid hI
    obtain ⟨sa, sc, rfl, _⟩ := hI.ow.slice
    obtain ⟨sn, hSN⟩ : ∃ sn, sn = L.length := ⟨_, rfl⟩
    rw [← hSN] at HI
    clear hgk hI hSN
    by_cases hk : k < n
    rotate_left
    · have k1 : ¬ (k : Int) < (n : Int) := by omega
      clear hk
      go_wp2_with fail
      go_ret
      exact ⟨rfl, HI.out.bel⟩
    have k1 : (k : Int) < (n : Int) := by omega
    have hkl : k < l.length := by have := HN.out; omega
    obtain ⟨e, he⟩ : ∃ e, e = l[k] := ⟨_, rfl⟩
    obtain ⟨rb, ro, hra, hrow⟩ := (HEV.out.below HI.out.bel).row k hkl
    subst hra
    rw [← he] at hrow
    have HROW := Lib.hid hrow
    have HK := Lib.hid hk
    have hmem : e ∈ l := by rw [he]; exact List.getElem_mem hkl
    have HLE := Lib.hid (show L.length ≤ 1000000000 by have h := HI.out.sn.len; simp only at h; omega)
    have HCA := Lib.hid (fun w' (hb : Below wr.heap.size wr w') => HAP.out ⟨C, B, L⟩ e hmem _ w' (HI.out.below hb).ow.rd HLE.out)
    have HSND := HI.out.sn
    obtain ⟨A, hA⟩ : ∃ A, A = applyM ⟨C, B, L⟩ e := ⟨_, rfl⟩
    rw [← hA] at HCA
    obtain ⟨er, C2, B2, L2⟩ := A
    simp only at HCA
    have HAE := Lib.hid hA.symm
    have HSN2 := Lib.hid (fun h0 => HSND.applied hA.symm h0)
    obtain ⟨m, hM⟩ : ∃ m, m = L2.length := ⟨_, rfl⟩
    have HM := Lib.hid hM
    clear hA hk hkl he hrow hmem hM HSND HLE
    have HSQ := Lib.hid (show q < wr.heap.size from HI.out.bx.lt)
    go_wp2_with fail
    refine wp_region_held_drew (S := fun W => Below wr.heap.size wr W) (by kernel_rfl) (below_drew wr) (fun hHeld => ?_)
    refine wpAnyH_take (i := 0) (oi := ⟨some 23, .load _ _, _, _, _, _⟩) (v := .agg #[.int .i64 C, .int .i64 B, .slice sa sn sc]) rfl (by kernel_rfl) (by kernel_rfl) (by kernel_rfl) (fun _ _ _ h => h) (Or.inl ⟨by kernel_rfl, fun w' hw' => exec_load_m 25 (.tmp 3) rfl (q) (0) rfl (#[.int .i64 C, .int .i64 B, .slice sa sn sc]).toList _ (zrangeS (HI.out.bx.below hw')) Tryz.underlying25 rfl (by kernel_rfl)⟩) (by assumption) ?_
    try simp only [Act.put, List.setIfInBounds_toArray, List.set_cons_zero, List.set_cons_succ]
    refine wpAnyH_take (i := 1) (oi := ⟨some 24, _, _, _, _, _⟩) (v := ?_) rfl (by kernel_rfl) (by kernel_rfl) (by kernel_rfl) (fun _ _ _ h => h) (Or.inl ⟨by kernel_rfl, ?_⟩) (by assumption) ?_
    rotate_left 1
    · intro w' hw'; clear hw'; go_simp; try with_reducible rfl
    try simp only [Act.put, List.setIfInBounds_toArray, List.set_cons_zero, List.set_cons_succ]
    refine wpAnyH_take (i := 2) (oi := ⟨some 25, _, _, _, _, _⟩) (v := ?_) rfl (by kernel_rfl) (by kernel_rfl) (by kernel_rfl) (fun _ _ _ h => h) (Or.inl ⟨by kernel_rfl, ?_⟩) (by assumption) ?_
    rotate_left 1
    · intro w' hw'; clear hw'; go_simp; try with_reducible rfl
    try simp only [Act.put, List.setIfInBounds_toArray, List.set_cons_zero, List.set_cons_succ]
    refine wpAnyH_take (i := 3) (oi := ⟨some 26, _, _, _, _, _⟩) (v := ?_) rfl (by kernel_rfl) (by kernel_rfl) (by kernel_rfl) (fun _ _ _ h => h) (Or.inl ⟨by kernel_rfl, ?_⟩) (by assumption) ?_
    rotate_left 1
    · intro w' hw'; clear hw'; go_simp; try with_reducible rfl
    try simp only [Act.put, List.setIfInBounds_toArray, List.set_cons_zero, List.set_cons_succ]
    refine wpAnyH_take (i := 4) (oi := ⟨some 27, .load _ _, _, _, _, _⟩) (v := .agg e.cells) rfl (by kernel_rfl) (by kernel_rfl) (by kernel_rfl) (fun _ _ _ h => h) (Or.inl ⟨by kernel_rfl, fun w' hw' => exec_load_m 38 (.tmp 26) rfl (rb) (ro + k * 15) rfl (e.cells).toList _ (fun j v hv => below_heap hw' (HROW.out j v hv)) Tryz.underlying38 rfl (by kernel_rfl)⟩) (by assumption) ?_
    try simp only [Act.put, List.setIfInBounds_toArray, List.set_cons_zero, List.set_cons_succ]
    refine wpAnyH_ready (rs := [5, 9]) (by kernel_rfl) (by simp) (AllReadyH.cons (o := ⟨some 28, .call _, _, _, _, _⟩) rfl (fun K hK => ?_) (AllReadyH.cons (o := ⟨some 5, .alloc _, _, _, _, _⟩) rfl (fun K hK => ?_) AllReadyH.nil))
    · go_simp
      refine (HCA.out _ hHeld).mono ?_
      rintro e3 w3 ⟨o, rfl, ho, hb3⟩
      refine hK.out _ _ (below_trans hHeld hb3) (fun hHeld2 => ?_)
      obtain ⟨oa, oc, rfl, _⟩ := ho.slice
      rw [← HM.out] at ho ⊢
      have HO3 := Lib.hid ho
      clear hK K ho hb3
      try simp only [Act.put, List.setIfInBounds_toArray, List.set_cons_zero, List.set_cons_succ]
      refine wpAnyH_take (i := 6) (oi := ⟨some 22, _, _, _, _, _⟩) (v := ?_) rfl (by kernel_rfl) (by kernel_rfl) (by kernel_rfl) (fun _ _ _ h => h) (Or.inl ⟨by kernel_rfl, ?_⟩) (by assumption) ?_
      rotate_left 1
      · intro w' hw'; clear hw'; go_simp; try with_reducible rfl
      try simp only [Act.put, List.setIfInBounds_toArray, List.set_cons_zero, List.set_cons_succ]
      refine wpAnyH_take (i := 7) (oi := ⟨some 29, _, _, _, _, _⟩) (v := ?_) rfl (by kernel_rfl) (by kernel_rfl) (by kernel_rfl) (fun _ _ _ h => h) (Or.inl ⟨by kernel_rfl, ?_⟩) (by assumption) ?_
      rotate_left 1
      · intro w' hw'; clear hw'; go_simp; try with_reducible rfl
      try simp only [Act.put, List.setIfInBounds_toArray, List.set_cons_zero, List.set_cons_succ]
      refine wpAnyH_take (i := 8) (oi := ⟨some 30, _, _, _, _, _⟩) (v := ?_) rfl (by kernel_rfl) (by kernel_rfl) (by kernel_rfl) (fun _ _ _ h => h) (Or.inl ⟨by kernel_rfl, ?_⟩) (by assumption) ?_
      rotate_left 1
      · intro w' hw'; clear hw'; go_simp; try with_reducible rfl
      try simp only [Act.put, List.setIfInBounds_toArray, List.set_cons_zero, List.set_cons_succ]
      refine wpAnyH_ready (rs := [9]) (by kernel_rfl) (by simp) (AllReadyH.cons (o := ⟨some 5, .alloc _, _, _, _, _⟩) rfl (fun K hK => ?_) AllReadyH.nil)
      go_simp
      have hba := below_alloc w3 (.cells #[.int .i64 0, .int .i64 0, .slice none 0 0] 25)
      refine hK.out _ _ (below_trans hHeld2 hba) (fun hHeld3 => ?_)
      have HX8 := Lib.hid (Box.new w3 #[.int .i64 0, .int .i64 0, .slice none 0 0] 25)
      have HO8 := Lib.hid (HO3.out.below hba)
      have HQ8 := Lib.hid (show wr.heap.size ≤ w3.heap.size from hHeld2.size)
      have HNE8 := Lib.hid (show ∀ k, (Value.slice oa m oc).ownBlock = some k → k ≠ w3.heap.size from fun k hk e => by have := (HO3.out.lt k hk).2; omega)
      clear hK K HO3 hba hHeld2 hHeld
      try simp only [Act.put, List.setIfInBounds_toArray, List.set_cons_zero, List.set_cons_succ]
      refine wpAnyH_ready (rs := [10]) (by kernel_rfl) (by simp) (AllReadyH.cons (o := ⟨none, .store 25 (.tmp 5) (.tmp 29), _, _, _, none⟩) rfl (fun K hK => ?_) AllReadyH.nil)
      rw [if_pos (by kernel_rfl)]
      refine wp_store_kk 25 (.tmp 5) (.tmp 29) rfl (w3.heap.size) 0 [.int .i64 C2, .int .i64 B2, .slice oa m oc] rfl rfl HX8.out.there3 (by kernel_rfl) (one3 _ _ _ _ _) ?_
      obtain ⟨hx9, hm9⟩ := HX8.out.set3 (.int .i64 C2) (.int .i64 B2) (.slice oa m oc)
      have HW9 := Lib.hid (hm9.below (B := wr.heap.size) (by have := HX8.out.lt; have := HQ8.out; omega) (fun i hi => by have := HQ8.out; omega))
      refine hK.out _ _ (hHeld3.trans (HW9.out)) (fun hHeld4 => ?_)
      have HAJ := Lib.hid (show AppI w _ q (w3.heap.size) C B (.slice sa sn sc) L C2 B2 (.slice oa m oc) L2 from
        ⟨HI.out.below hHeld4, hx9, (HO8.out.mod hm9 (fun k hk e => HNE8.out k hk e)).base (show q + 1 ≤ wr.heap.size by have := HSQ.out; omega), by have h2 : wr.heap.size ≤ w3.heap.size := HQ8.out; have := HSQ.out; omega⟩)
      clear hK K hx9 hm9 HW9 HX8 HO8 HNE8 hHeld3 HCA HI HROW
      generalize (World.setCells _ _ _ _) = w9 at HAJ hHeld4 ⊢
      clear HQ8
      try simp only [Act.put]
      refine wpAnyH_take (i := 11) (oi := ⟨some 6, _, _, _, _, _⟩) (v := ?_) rfl (by kernel_rfl) (by kernel_rfl) (by kernel_rfl) (fun _ _ _ h => h) (Or.inl ⟨by kernel_rfl, ?_⟩) (by assumption) ?_
      rotate_left 1
      · intro w' hw'; clear hw'; go_simp; try with_reducible rfl
      try simp only [Act.put, List.setIfInBounds_toArray, List.set_cons_zero, List.set_cons_succ]
      refine wpAnyH_done (by kernel_rfl) ?_ _
      clear hHeld4
      generalize (w3.heap.size) = q8 at HAJ ⊢
      by_cases h0 : er = 0
      · subst h0
        rw [show errV 0 = .nilIface from rfl]
        have HN2 := Lib.hid (HAJ.out.j.put C2 B2 (.slice oa m oc) L2 HAJ.out.ow (HSN2.out rfl))
        have c0 : (w9).cell? ⟨q, 0, none⟩ = some (.int .i64 C) := HAJ.out.j.bx.cell 0 _ rfl
        have f0 := HAJ.out.j.bx.free 0
        have c1 : (w9).cell? ⟨q, 1, none⟩ = some (.int .i64 B) := HAJ.out.j.bx.cell 1 _ rfl
        have f1 := HAJ.out.j.bx.free 1
        have c2 : (w9).cell? ⟨q, 2, none⟩ = some (.slice sa sn sc) := HAJ.out.j.bx.cell 2 _ rfl
        have f2 := HAJ.out.j.bx.free 2
        have d0 : (w9).cell? ⟨q8, 0, none⟩ = some (.int .i64 C2) := HAJ.out.b8.cell 0 _ rfl
        have d1 : (w9).cell? ⟨q8, 1, none⟩ = some (.int .i64 B2) := HAJ.out.b8.cell 1 _ rfl
        have d2 : (w9).cell? ⟨q8, 2, none⟩ = some (.slice oa m oc) := HAJ.out.b8.cell 2 _ rfl
        have g0 : (((w9.setCell ⟨q, 0, none⟩ (.int .i64 C2)).setCell ⟨q, 1, none⟩ (.int .i64 B2)).setCell ⟨q, 2, none⟩ (.slice oa m oc)).cell? ⟨q, 0, none⟩ = some (.int .i64 C2) := HN2.out.bx.cell 0 _ rfl
        have g1 : (((w9.setCell ⟨q, 0, none⟩ (.int .i64 C2)).setCell ⟨q, 1, none⟩ (.int .i64 B2)).setCell ⟨q, 2, none⟩ (.slice oa m oc)).cell? ⟨q, 1, none⟩ = some (.int .i64 B2) := HN2.out.bx.cell 1 _ rfl
        have g2 : (((w9.setCell ⟨q, 0, none⟩ (.int .i64 C2)).setCell ⟨q, 1, none⟩ (.int .i64 B2)).setCell ⟨q, 2, none⟩ (.slice oa m oc)).cell? ⟨q, 2, none⟩ = some (.slice oa m oc) := HN2.out.bx.cell 2 _ rfl
        clear HAJ HSN2 HAE
        go_wp2_with fail
        generalize ((w9.setCell ⟨q, 0, none⟩ (.int .i64 C2)).setCell ⟨q, 1, none⟩ (.int .i64 B2)).setCell ⟨q, 2, none⟩ (.slice oa m oc) = wz at HN2 ⊢
        refine (sound_calls C2 B2 _ L2 wz HN2.out.ow.rd HN2.out.sn).mono ?_
        rintro e4 w4 ⟨rfl, hb4⟩
        have HN3 := Lib.hid (HN2.out.below hb4)
        clear hb4 HN2 c0 c1 c2 d0 d1 d2 f0 f1 f2 g0 g1 g2
        go_wp2_with fail
        go_roundg (n - (k + 1))
        case measure => have := HGK.out; have := HK.out; omega
        case rel => exact ⟨k + 1, _, _, _, _, by have := HGK.out; have := HK.out; omega, by go_num, HN3.out⟩
      rw [errV_nz h0]
      have HN2 := Lib.hid HAJ.out.j
      have c0 : (w9).cell? ⟨q, 0, none⟩ = some (.int .i64 C) := HAJ.out.j.bx.cell 0 _ rfl
      have c1 : (w9).cell? ⟨q, 1, none⟩ = some (.int .i64 B) := HAJ.out.j.bx.cell 1 _ rfl
      have c2 : (w9).cell? ⟨q, 2, none⟩ = some (.slice sa sn sc) := HAJ.out.j.bx.cell 2 _ rfl
      clear h0 HAJ HSN2 HAE
      go_wp2_with fail
      refine (sound_calls C B _ L w9 HN2.out.ow.rd HN2.out.sn).mono ?_
      rintro e4 w4 ⟨rfl, hb4⟩
      have HN3 := Lib.hid (HN2.out.below hb4)
      clear hb4 HN2 c0 c1 c2
      go_wp2_with fail
      go_roundg (n - (k + 1))
      case measure => have := HGK.out; have := HK.out; omega
      case rel => exact ⟨k + 1, _, _, _, _, by have := HGK.out; have := HK.out; omega, by go_num, HN3.out⟩
    · go_simp
      have hba := below_alloc wr.drew (.cells #[.int .i64 0, .int .i64 0, .slice none 0 0] 25)
      have hHeldA := below_trans hHeld hba
      refine hK.out _ _ hHeldA (fun hHeld2 => ?_)
      have HXA := Lib.hid (show Box (wr.drew.alloc (.cells #[.int .i64 0, .int .i64 0, .slice none 0 0] 25)) wr.heap.size #[.int .i64 0, .int .i64 0, .slice none 0 0] 25 from Box.new wr.drew #[.int .i64 0, .int .i64 0, .slice none 0 0] 25)
      clear hK K
      try simp only [Act.put, List.setIfInBounds_toArray, List.set_cons_zero, List.set_cons_succ]
      refine wpAnyH_ready (rs := [5]) (by kernel_rfl) (by simp) (AllReadyH.cons (o := ⟨some 28, .call _, _, _, _, _⟩) rfl (fun K hK => ?_) AllReadyH.nil)
      go_simp
      refine (HCA.out _ hHeldA).mono ?_
      rintro e3 w3 ⟨o, rfl, ho, hb3⟩
      have hHeld3 := below_trans hHeldA hb3
      refine hK.out _ _ hHeld3 (fun _ => ?_)
      obtain ⟨oa, oc, rfl, _⟩ := ho.slice
      rw [← HM.out] at ho ⊢
      have HX8 := Lib.hid (HXA.out.below hb3)
      have HQ8 := Lib.hid (Nat.le_refl wr.heap.size)
      have HO8 := Lib.hid (ho.base (base' := wr.heap.size) (Nat.le_of_lt HXA.out.lt))
      have HNE8 := Lib.hid (show ∀ k, (Value.slice oa m oc).ownBlock = some k → k ≠ wr.heap.size from fun k hk e => by have := (ho.lt k hk).1; have := HXA.out.lt; omega)
      clear hK K ho hb3 HXA hHeldA hHeld hHeld2
      try simp only [Act.put, List.setIfInBounds_toArray, List.set_cons_zero, List.set_cons_succ]
      refine wpAnyH_take (i := 6) (oi := ⟨some 22, _, _, _, _, _⟩) (v := ?_) rfl (by kernel_rfl) (by kernel_rfl) (by kernel_rfl) (fun _ _ _ h => h) (Or.inl ⟨by kernel_rfl, ?_⟩) (by assumption) ?_
      rotate_left 1
      · intro w' hw'; clear hw'; go_simp; try with_reducible rfl
      try simp only [Act.put, List.setIfInBounds_toArray, List.set_cons_zero, List.set_cons_succ]
      refine wpAnyH_take (i := 7) (oi := ⟨some 29, _, _, _, _, _⟩) (v := ?_) rfl (by kernel_rfl) (by kernel_rfl) (by kernel_rfl) (fun _ _ _ h => h) (Or.inl ⟨by kernel_rfl, ?_⟩) (by assumption) ?_
      rotate_left 1
      · intro w' hw'; clear hw'; go_simp; try with_reducible rfl
      try simp only [Act.put, List.setIfInBounds_toArray, List.set_cons_zero, List.set_cons_succ]
      refine wpAnyH_take (i := 8) (oi := ⟨some 30, _, _, _, _, _⟩) (v := ?_) rfl (by kernel_rfl) (by kernel_rfl) (by kernel_rfl) (fun _ _ _ h => h) (Or.inl ⟨by kernel_rfl, ?_⟩) (by assumption) ?_
      rotate_left 1
      · intro w' hw'; clear hw'; go_simp; try with_reducible rfl
      try simp only [Act.put, List.setIfInBounds_toArray, List.set_cons_zero, List.set_cons_succ]
      refine wpAnyH_ready (rs := [10]) (by kernel_rfl) (by simp) (AllReadyH.cons (o := ⟨none, .store 25 (.tmp 5) (.tmp 29), _, _, _, none⟩) rfl (fun K hK => ?_) AllReadyH.nil)
      rw [if_pos (by kernel_rfl)]
      refine wp_store_kk 25 (.tmp 5) (.tmp 29) rfl (wr.heap.size) 0 [.int .i64 C2, .int .i64 B2, .slice oa m oc] rfl rfl HX8.out.there3 (by kernel_rfl) (one3 _ _ _ _ _) ?_
      obtain ⟨hx9, hm9⟩ := HX8.out.set3 (.int .i64 C2) (.int .i64 B2) (.slice oa m oc)
      have HW9 := Lib.hid (hm9.below (B := wr.heap.size) (by have := HX8.out.lt; have := HQ8.out; omega) (fun i hi => by have := HQ8.out; omega))
      refine hK.out _ _ (hHeld3.trans (HW9.out)) (fun hHeld4 => ?_)
      have HAJ := Lib.hid (show AppI w _ q (wr.heap.size) C B (.slice sa sn sc) L C2 B2 (.slice oa m oc) L2 from
        ⟨HI.out.below hHeld4, hx9, (HO8.out.mod hm9 (fun k hk e => HNE8.out k hk e)).base (show q + 1 ≤ wr.heap.size by have := HSQ.out; omega), by have h2 : wr.heap.size ≤ wr.heap.size := HQ8.out; have := HSQ.out; omega⟩)
      clear hK K hx9 hm9 HW9 HX8 HO8 HNE8 hHeld3 HCA HI HROW
      generalize (World.setCells _ _ _ _) = w9 at HAJ hHeld4 ⊢
      clear HQ8
      try simp only [Act.put]
      refine wpAnyH_take (i := 11) (oi := ⟨some 6, _, _, _, _, _⟩) (v := ?_) rfl (by kernel_rfl) (by kernel_rfl) (by kernel_rfl) (fun _ _ _ h => h) (Or.inl ⟨by kernel_rfl, ?_⟩) (by assumption) ?_
      rotate_left 1
      · intro w' hw'; clear hw'; go_simp; try with_reducible rfl
      try simp only [Act.put, List.setIfInBounds_toArray, List.set_cons_zero, List.set_cons_succ]
      refine wpAnyH_done (by kernel_rfl) ?_ _
      clear hHeld4
      generalize (wr.heap.size) = q8 at HAJ ⊢
      by_cases h0 : er = 0
      · subst h0
        rw [show errV 0 = .nilIface from rfl]
        have HN2 := Lib.hid (HAJ.out.j.put C2 B2 (.slice oa m oc) L2 HAJ.out.ow (HSN2.out rfl))
        have c0 : (w9).cell? ⟨q, 0, none⟩ = some (.int .i64 C) := HAJ.out.j.bx.cell 0 _ rfl
        have f0 := HAJ.out.j.bx.free 0
        have c1 : (w9).cell? ⟨q, 1, none⟩ = some (.int .i64 B) := HAJ.out.j.bx.cell 1 _ rfl
        have f1 := HAJ.out.j.bx.free 1
        have c2 : (w9).cell? ⟨q, 2, none⟩ = some (.slice sa sn sc) := HAJ.out.j.bx.cell 2 _ rfl
        have f2 := HAJ.out.j.bx.free 2
        have d0 : (w9).cell? ⟨q8, 0, none⟩ = some (.int .i64 C2) := HAJ.out.b8.cell 0 _ rfl
        have d1 : (w9).cell? ⟨q8, 1, none⟩ = some (.int .i64 B2) := HAJ.out.b8.cell 1 _ rfl
        have d2 : (w9).cell? ⟨q8, 2, none⟩ = some (.slice oa m oc) := HAJ.out.b8.cell 2 _ rfl
        have g0 : (((w9.setCell ⟨q, 0, none⟩ (.int .i64 C2)).setCell ⟨q, 1, none⟩ (.int .i64 B2)).setCell ⟨q, 2, none⟩ (.slice oa m oc)).cell? ⟨q, 0, none⟩ = some (.int .i64 C2) := HN2.out.bx.cell 0 _ rfl
        have g1 : (((w9.setCell ⟨q, 0, none⟩ (.int .i64 C2)).setCell ⟨q, 1, none⟩ (.int .i64 B2)).setCell ⟨q, 2, none⟩ (.slice oa m oc)).cell? ⟨q, 1, none⟩ = some (.int .i64 B2) := HN2.out.bx.cell 1 _ rfl
        have g2 : (((w9.setCell ⟨q, 0, none⟩ (.int .i64 C2)).setCell ⟨q, 1, none⟩ (.int .i64 B2)).setCell ⟨q, 2, none⟩ (.slice oa m oc)).cell? ⟨q, 2, none⟩ = some (.slice oa m oc) := HN2.out.bx.cell 2 _ rfl
        clear HAJ HSN2 HAE
        go_wp2_with fail
        generalize ((w9.setCell ⟨q, 0, none⟩ (.int .i64 C2)).setCell ⟨q, 1, none⟩ (.int .i64 B2)).setCell ⟨q, 2, none⟩ (.slice oa m oc) = wz at HN2 ⊢
        refine (sound_calls C2 B2 _ L2 wz HN2.out.ow.rd HN2.out.sn).mono ?_
        rintro e4 w4 ⟨rfl, hb4⟩
        have HN3 := Lib.hid (HN2.out.below hb4)
        clear hb4 HN2 c0 c1 c2 d0 d1 d2 f0 f1 f2 g0 g1 g2
        go_wp2_with fail
        go_roundg (n - (k + 1))
        case measure => have := HGK.out; have := HK.out; omega
        case rel => exact ⟨k + 1, _, _, _, _, by have := HGK.out; have := HK.out; omega, by go_num, HN3.out⟩
      rw [errV_nz h0]
      have HN2 := Lib.hid HAJ.out.j
      have c0 : (w9).cell? ⟨q, 0, none⟩ = some (.int .i64 C) := HAJ.out.j.bx.cell 0 _ rfl
      have c1 : (w9).cell? ⟨q, 1, none⟩ = some (.int .i64 B) := HAJ.out.j.bx.cell 1 _ rfl
      have c2 : (w9).cell? ⟨q, 2, none⟩ = some (.slice sa sn sc) := HAJ.out.j.bx.cell 2 _ rfl
      clear h0 HAJ HSN2 HAE
      go_wp2_with fail
      refine (sound_calls C B _ L w9 HN2.out.ow.rd HN2.out.sn).mono ?_
      rintro e4 w4 ⟨rfl, hb4⟩
      have HN3 := Lib.hid (HN2.out.below hb4)
      clear hb4 HN2 c0 c1 c2
      go_wp2_with fail
      go_roundg (n - (k + 1))
      case measure => have := HGK.out; have := HK.out; omega
      case rel => exact ⟨k + 1, _, _, _, _, by have := HGK.out; have := HK.out; omega, by go_num, HN3.out⟩
end Go.Proofs.YthnabnieajojjaaGreatDoor

/-
  The law ReplayEnded.
-/
namespace Go.Proofs.YthnabnieajojjaaGreatDoor
open Go.RowKit
set_option maxRecDepth 100000

theorem info_int24 : (Tryz.prog.info? 3).map (fun i => (i.zero, i.size, i.bytes)) = some (some (.int .i64 0), 1, 8) := by kernel_rfl
/-- A list of numbers that a call owns. -/
def OwnN (w : World) (base : Nat) (v : Value) (l : List Int) : Prop := w.ownsRow base 3 1 v l.length (l.map (Value.int .i64))
theorem OwnN.nil (w : World) (base : Nat) : OwnN w base (.slice none 0 0) [] := ⟨rfl, .inl ⟨rfl, rfl⟩⟩
theorem OwnN.below {w w' : World} {base : Nat} {v : Value} {l : List Int} (h : OwnN w base v l) (hb : Below w.heap.size w w') : OwnN w' base v l := own_below h hb
theorem OwnN.slice {w : World} {base : Nat} {v : Value} {l : List Int} (h : OwnN w base v l) : ∃ a cap, v = .slice a l.length cap ∧ l.length ≤ cap ∧ cap ≤ 9223372036854775807 := by
  obtain ⟨a, cap, h1, h2, h3, _⟩ := rd_of_own h; exact ⟨a, cap, h1, h2, h3⟩
theorem OwnN.lt {w : World} {base : Nat} {v : Value} {l : List Int} (h : OwnN w base v l) : ∀ k, v.ownBlock = some k → base ≤ k ∧ k < w.heap.size := own_lt h
theorem OwnN.mod {w w' : World} {base : Nat} {v : Value} {l : List Int} {F : Nat → Prop} (h : OwnN w base v l) (hm : Mod F w w') (hb : ∀ k, v.ownBlock = some k → ¬ F k) : OwnN w' base v l := own_mod h hm hb
theorem OwnN.at {w : World} {base : Nat} {a : Option Addr} {n cap : Nat} {l : List Int} (h : OwnN w base (.slice a n cap) l) (k : Nat) (hk : k < l.length) : ∃ b off, a = some ⟨b, off, none⟩ ∧ w.cell? ⟨b, off + k, none⟩ = some (.int .i64 l[k]) := by
  obtain ⟨a', cap', e, _, _, _, h3⟩ := rd_of_own h
  injection e with e1 e2 e3
  subst e1
  obtain ⟨b, off, h4, h5⟩ := h3 k (by rw [List.length_map]; exact hk)
  refine ⟨b, off, h4, ?_⟩
  rw [h5, List.getD, List.getElem?_map, List.getElem?_eq_getElem hk]; rfl
theorem appNum {w : World} {ops : Array Oper} {rest : List Oper} {o : Oper} {a : Act} {Q : Exit → Act → World → Prop} (hgd : o.guard = none) (s x : Operand)
    (ho : o.op = .call { callee := .builtin .append, args := #[s, x], argTypes := #[41, 41] })
    (base : Nat) (v : Value) (l : List Int) (hs : a.eval s = v) (hown : OwnN w base v l)
    (nb c : Nat) (y : Int) (hx : a.eval x = .slice (some ⟨nb, 0, none⟩) 1 c) (hy : w.cell? ⟨nb, 0, none⟩ = some (.int .i64 y))
    (hroom : l.length + 1 ≤ 17592186044416) (hbase : base ≤ w.heap.size)
    (h : ∀ v' w', OwnN w' base v' (l ++ [y]) → w.grownBy w' v.ownBlock → Moved w v v' → wpList Tryz.prog ops Q rest (a.put o.dst v') w') : wpList Tryz.prog ops Q (o :: rest) a w := by
  obtain ⟨i0, hi, hz0, hz1, hz2⟩ := info_parts info_int24
  refine wpList_append_own2 hgd s x 41 ho base 3 i0 (.int .i64 0) 1 8 Tryz.underlying41 hi hz0 hz1 hz2 rfl (by decide) v l.length (l.map (Value.int .i64)) hs hown ⟨nb, 0, none⟩ 1 c [.int .i64 y] hx rfl (fun j u hj => ?_) (by simp [Value.oneCell']) (by unfold maxLen; omega) (by omega) hbase (fun v' w' h1 h2 h3 => h v' w' ?_ h2 h3)
  · cases j with
    | zero => simp at hj; subst hj; exact hy
    | succ j => simp at hj
  · unfold OwnN
    rw [List.length_append, List.map_append]; exact h1
/-- Both states, and the list of those that have ended. -/
structure EnI (w W : World) (q q8 : Nat) (C B : Int) (sv : Value) (L : List SesM) (C2 B2 : Int) (o : Value) (L2 : List SesM) (ov : Value) (E : List Int) : Prop where
  a : AppI w W q q8 C B sv L C2 B2 o L2
  e : OwnN W (q + 1) ov E
  n1 : Apart ov sv
  n2 : Apart ov o
  n8 : ∀ k, ov.ownBlock = some k → k ≠ q8
theorem EnI.below {w W W2 : World} {q q8 : Nat} {C B : Int} {sv : Value} {L : List SesM} {C2 B2 : Int} {o : Value} {L2 : List SesM} {ov : Value} {E : List Int} (h : EnI w W q q8 C B sv L C2 B2 o L2 ov E) (hb : Below W.heap.size W W2) : EnI w W2 q q8 C B sv L C2 B2 o L2 ov E :=
  ⟨h.a.below hb, h.e.below hb, h.n1, h.n2, h.n8⟩
theorem EnI.app {w W W2 : World} {q q8 : Nat} {C B : Int} {sv : Value} {L : List SesM} {C2 B2 : Int} {o : Value} {L2 : List SesM} {ov ov' : Value} {E E' : List Int} (h : EnI w W q q8 C B sv L C2 B2 o L2 ov E) (ho : OwnN W2 (q + 1) ov' E') (hg : W.grownBy W2 ov.ownBlock) (hm : Moved W ov ov') : EnI w W2 q q8 C B sv L C2 B2 o L2 ov' E' := by
  have hmod : Mod (fun i => ov.ownBlock = some i) W W2 := Mod.of_grown hg (fun k hk => hk)
  have hq := h.a.j.ge
  have hne : ∀ k, ov.ownBlock = some k → k ≠ q := fun k hk e => by have := (h.e.lt k hk).1; omega
  refine ⟨⟨⟨h.a.j.bx.mod hmod (fun e => hne q e rfl), h.a.j.ow.mod hmod (fun k hk e => h.n1 k e hk), h.a.j.sn, h.a.j.ge, h.a.j.bel.trans (hmod.below h.a.j.bel.size (fun i hi => by have := (h.e.lt i hi).1; omega))⟩, h.a.b8.mod hmod (fun e => h.n8 _ e rfl), h.a.ow.mod hmod (fun k hk e => h.n2 k e hk), h.a.ne⟩, ho, ?_, ?_, ?_⟩
  · intro k hk hk2
    rcases hm with e | e
    · rw [e] at hk; exact h.n1 k hk hk2
    · rw [e] at hk; injection hk with hk; have := (h.a.j.ow.lt k hk2).2; omega
  · intro k hk hk2
    rcases hm with e | e
    · rw [e] at hk; exact h.n2 k hk hk2
    · rw [e] at hk; injection hk with hk; have := (h.a.ow.lt k hk2).2; omega
  · intro k hk
    rcases hm with e | e
    · rw [e] at hk; exact h.n8 k hk
    · rw [e] at hk; injection hk with hk; have := h.a.b8.lt; omega
/-- The state and the list, between two events. -/
structure EnS (w W : World) (q : Nat) (C B : Int) (sv : Value) (L : List SesM) (ov : Value) (E : List Int) : Prop where
  j : StI w W q C B sv L
  e : OwnN W (q + 1) ov E
  n : Apart ov sv
  d : ∀ b ∈ E, Ended ⟨C, B, L⟩ b
theorem EnS.below {w W W2 : World} {q : Nat} {C B : Int} {sv : Value} {L : List SesM} {ov : Value} {E : List Int} (h : EnS w W q C B sv L ov E) (hb : Below W.heap.size W W2) : EnS w W2 q C B sv L ov E :=
  ⟨h.j.below hb, h.e.below hb, h.n, h.d⟩
theorem EnS.there {w W : World} {q : Nat} {C B : Int} {sv : Value} {L : List SesM} {ov : Value} {E : List Int} (h : EnS w W q C B sv L ov E) (b : Int) (hb : b ∈ E) : L.any (fun s => s.birth == b) = false := by
  rw [List.any_eq_false]
  intro s hs hh
  exact (h.d b hb).2 s hs (by simpa using hh)
set_option maxHeartbeats 6400000 in
theorem replayEnded_calls (l : List EvtM) (ev : Value) (w : World) (hev : RdE w ev l) (hok : ∀ e ∈ l, EvOk e) :
    Calls Tryz.prog 17 #[ev] w fun e w' => e = .returned (.bool true) ∧ Below w.heap.size w w' := by
  have HAP := Lib.hid (fun (S : StM) (e : EvtM) (he : e ∈ l) v' w' h hn' => apply_calls S e v' w' h hn' (Nat.le_trans (hok e he).user (by decide)) (Nat.le_trans (hok e he).label (by decide)) (hok e he).scopes)
  have HEV := Lib.hid hev
  obtain ⟨ea, ec, rfl, _, he2⟩ := hev.slice
  have hln : l.length ≤ 9223372036854775807 := by omega
  clear hev hok he2
  obtain ⟨n, hN⟩ : ∃ n, n = l.length := ⟨_, rfl⟩
  rw [← hN] at hln HEV ⊢
  have HN := Lib.hid hN
  clear hN
  go_enter Tryz.func17, Tryz.ntmps17
  go_wp2_with fail
  refine (worksR_calls w).mono ?_
  rintro ev w1 ⟨rfl, hb1⟩
  have HB1 := Lib.hid hb1
  clear hb1
  by_cases hlen : (200 : Int) < (n : Int)
  · go_wp2_with fail
    refine (worksR_calls w1).mono ?_
    rintro ev w2 ⟨rfl, hb2⟩
    have HB2 := Lib.hid (HB1.out.trans (hb2.mono HB1.out.size))
    clear hb2 HB1
    go_wp2_with fail
    go_ret
    exact ⟨rfl, HB2.out⟩
  have HLEN := Lib.hid (show n ≤ 200 by omega)
  have hba := below_alloc w1 (.cells #[.int .i64 0, .int .i64 0, .slice none 0 0] 25)
  have HI0 := Lib.hid (show StI w (w1.alloc (.cells #[.int .i64 0, .int .i64 0, .slice none 0 0] 25)) w1.heap.size 0 0 (.slice none 0 0) [] from
    ⟨Box.new _ _ _, OwnS.nil _ _, Snd.zero, HB1.out.size, HB1.out.trans (hba.mono HB1.out.size)⟩)
  clear hba
  go_wp2_with fail
  generalize (w1.alloc (.cells #[.int .i64 0, .int .i64 0, .slice none 0 0] 25)) = w2 at HI0 ⊢
  generalize w1.heap.size = q at HI0 ⊢
  clear HB1 hlen
  go_loopg [4, 5] n (fun gk ov iv wr => ∃ (k : Nat) (C B : Int) (sv : Value) (L : List SesM) (E : List Int), gk + k = n ∧ iv = .int .i64 (k : Int) ∧ EnS w wr q C B sv L ov E ∧ E.length ≤ 32 * k)
  case atStart => exact ⟨0, _, _, _, _, [], Nat.add_zero _, rfl, ⟨HI0.out, OwnN.nil _ _, nil_apart _, fun b hb => (by cases hb)⟩, Nat.le_refl _⟩
  case round =>
    clear HI0
    obtain ⟨k, C, B, sv, L, E, hgk, rfl, hS, hEl⟩ := hrel
    have k0 : (0 : Int) ≤ (k : Int) := by omega
    have HGK := Lib.hid hgk
    have HEL := Lib.hid hEl
    have HS0 := Lib.hid hS
    obtain ⟨sa, sc, rfl, _⟩ := hS.j.ow.slice
    obtain ⟨oa4, oc4, rfl, _⟩ := hS.e.slice
    obtain ⟨sn, hSN⟩ : ∃ sn, sn = L.length := ⟨_, rfl⟩
    obtain ⟨en, hEN⟩ : ∃ en, en = E.length := ⟨_, rfl⟩
    rw [← hSN, ← hEN] at HS0
    rw [← hEN] at HEL ⊢
    have HSN := Lib.hid hSN
    have HEN := Lib.hid hEN
    have HI := Lib.hid HS0.out.j
    clear hgk hS hSN hEN hEl
    by_cases hk : k < n
    rotate_left
    · have k1 : ¬ (k : Int) < (n : Int) := by omega
      clear hk
      go_wp2_with fail
      go_ret
      exact ⟨rfl, HI.out.bel⟩
    have k1 : (k : Int) < (n : Int) := by omega
    have hkl : k < l.length := by have := HN.out; omega
    obtain ⟨e, he⟩ : ∃ e, e = l[k] := ⟨_, rfl⟩
    obtain ⟨rb, ro, hra, hrow⟩ := (HEV.out.below HI.out.bel).row k hkl
    subst hra
    rw [← he] at hrow
    have HROW := Lib.hid hrow
    have HK := Lib.hid hk
    have hmem : e ∈ l := by rw [he]; exact List.getElem_mem hkl
    have HLE := Lib.hid (show L.length ≤ 1000000000 by have h := HI.out.sn.len; simp only at h; omega)
    have HCA := Lib.hid (fun w' (hb : Below wr.heap.size wr w') => HAP.out ⟨C, B, L⟩ e hmem _ w' (HI.out.below hb).ow.rd HLE.out)
    have HSND := HI.out.sn
    obtain ⟨A, hA⟩ : ∃ A, A = applyM ⟨C, B, L⟩ e := ⟨_, rfl⟩
    rw [← hA] at HCA
    obtain ⟨er, C2, B2, L2⟩ := A
    simp only at HCA
    have HAE := Lib.hid hA.symm
    have HSN2 := Lib.hid (fun h0 => HSND.applied hA.symm h0)
    obtain ⟨m, hM⟩ : ∃ m, m = L2.length := ⟨_, rfl⟩
    have HM := Lib.hid hM
    clear hA hk hkl he hrow hmem hM HSND HLE
    have HSQ := Lib.hid (show q < wr.heap.size from HI.out.bx.lt)
    obtain ⟨B9, hB9⟩ : ∃ B9, B9 = wr.heap.size := ⟨_, rfl⟩
    have HSL := Lib.hid (fun (W : World) (hW : Below wr.heap.size wr W) => HS0.out.e.below hW)
    have HEE := Lib.hid HS0.out.d
    have HOLT := Lib.hid (show ∀ k, (Value.slice oa4 en oc4).ownBlock = some k → k < B9 from fun k hk => by have := (HS0.out.e.lt k hk).2; rw [hB9]; exact this)
    have HB9 := Lib.hid hB9
    clear hB9
    have HN1 := Lib.hid HS0.out.n
    clear HS0
    go_wp2_with fail
    refine wp_region_held_drew (S := fun W => Below wr.heap.size wr W) (by kernel_rfl) (below_drew wr) (fun hHeld => ?_)
    refine wpAnyH_take (i := 0) (oi := ⟨some 26, .load _ _, _, _, _, _⟩) (v := .agg #[.int .i64 C, .int .i64 B, .slice sa sn sc]) rfl (by kernel_rfl) (by kernel_rfl) (by kernel_rfl) (fun _ _ _ h => h) (Or.inl ⟨by kernel_rfl, fun w' hw' => exec_load_m 25 (.tmp 3) rfl (q) (0) rfl (#[.int .i64 C, .int .i64 B, .slice sa sn sc]).toList _ (zrangeS (HI.out.bx.below hw')) Tryz.underlying25 rfl (by kernel_rfl)⟩) (by assumption) ?_
    try simp only [Act.put, List.setIfInBounds_toArray, List.set_cons_zero, List.set_cons_succ]
    refine wpAnyH_take (i := 1) (oi := ⟨some 27, _, _, _, _, _⟩) (v := ?_) rfl (by kernel_rfl) (by kernel_rfl) (by kernel_rfl) (fun _ _ _ h => h) (Or.inl ⟨by kernel_rfl, ?_⟩) (by assumption) ?_
    rotate_left 1
    · intro w' hw'; clear hw'; go_simp; try with_reducible rfl
    try simp only [Act.put, List.setIfInBounds_toArray, List.set_cons_zero, List.set_cons_succ]
    refine wpAnyH_take (i := 2) (oi := ⟨some 28, _, _, _, _, _⟩) (v := ?_) rfl (by kernel_rfl) (by kernel_rfl) (by kernel_rfl) (fun _ _ _ h => h) (Or.inl ⟨by kernel_rfl, ?_⟩) (by assumption) ?_
    rotate_left 1
    · intro w' hw'; clear hw'; go_simp; try with_reducible rfl
    try simp only [Act.put, List.setIfInBounds_toArray, List.set_cons_zero, List.set_cons_succ]
    refine wpAnyH_take (i := 3) (oi := ⟨some 29, _, _, _, _, _⟩) (v := ?_) rfl (by kernel_rfl) (by kernel_rfl) (by kernel_rfl) (fun _ _ _ h => h) (Or.inl ⟨by kernel_rfl, ?_⟩) (by assumption) ?_
    rotate_left 1
    · intro w' hw'; clear hw'; go_simp; try with_reducible rfl
    try simp only [Act.put, List.setIfInBounds_toArray, List.set_cons_zero, List.set_cons_succ]
    refine wpAnyH_take (i := 4) (oi := ⟨some 30, .load _ _, _, _, _, _⟩) (v := .agg e.cells) rfl (by kernel_rfl) (by kernel_rfl) (by kernel_rfl) (fun _ _ _ h => h) (Or.inl ⟨by kernel_rfl, fun w' hw' => exec_load_m 38 (.tmp 29) rfl (rb) (ro + k * 15) rfl (e.cells).toList _ (fun j v hv => below_heap hw' (HROW.out j v hv)) Tryz.underlying38 rfl (by kernel_rfl)⟩) (by assumption) ?_
    try simp only [Act.put, List.setIfInBounds_toArray, List.set_cons_zero, List.set_cons_succ]
    refine wpAnyH_ready (rs := [5, 9]) (by kernel_rfl) (by simp) (AllReadyH.cons (o := ⟨some 31, .call _, _, _, _, _⟩) rfl (fun K hK => ?_) (AllReadyH.cons (o := ⟨some 6, .alloc _, _, _, _, _⟩) rfl (fun K hK => ?_) AllReadyH.nil))
    · go_simp
      refine (HCA.out _ hHeld).mono ?_
      rintro e3 w3 ⟨o, rfl, ho, hb3⟩
      refine hK.out _ _ (below_trans hHeld hb3) (fun hHeld2 => ?_)
      obtain ⟨oa, oc, rfl, _⟩ := ho.slice
      rw [← HM.out] at ho ⊢
      have HO3 := Lib.hid ho
      clear hK K ho hb3
      try simp only [Act.put, List.setIfInBounds_toArray, List.set_cons_zero, List.set_cons_succ]
      refine wpAnyH_take (i := 6) (oi := ⟨some 25, _, _, _, _, _⟩) (v := ?_) rfl (by kernel_rfl) (by kernel_rfl) (by kernel_rfl) (fun _ _ _ h => h) (Or.inl ⟨by kernel_rfl, ?_⟩) (by assumption) ?_
      rotate_left 1
      · intro w' hw'; clear hw'; go_simp; try with_reducible rfl
      try simp only [Act.put, List.setIfInBounds_toArray, List.set_cons_zero, List.set_cons_succ]
      refine wpAnyH_take (i := 7) (oi := ⟨some 32, _, _, _, _, _⟩) (v := ?_) rfl (by kernel_rfl) (by kernel_rfl) (by kernel_rfl) (fun _ _ _ h => h) (Or.inl ⟨by kernel_rfl, ?_⟩) (by assumption) ?_
      rotate_left 1
      · intro w' hw'; clear hw'; go_simp; try with_reducible rfl
      try simp only [Act.put, List.setIfInBounds_toArray, List.set_cons_zero, List.set_cons_succ]
      refine wpAnyH_take (i := 8) (oi := ⟨some 33, _, _, _, _, _⟩) (v := ?_) rfl (by kernel_rfl) (by kernel_rfl) (by kernel_rfl) (fun _ _ _ h => h) (Or.inl ⟨by kernel_rfl, ?_⟩) (by assumption) ?_
      rotate_left 1
      · intro w' hw'; clear hw'; go_simp; try with_reducible rfl
      try simp only [Act.put, List.setIfInBounds_toArray, List.set_cons_zero, List.set_cons_succ]
      refine wpAnyH_ready (rs := [9]) (by kernel_rfl) (by simp) (AllReadyH.cons (o := ⟨some 6, .alloc _, _, _, _, _⟩) rfl (fun K hK => ?_) AllReadyH.nil)
      go_simp
      have hba := below_alloc w3 (.cells #[.int .i64 0, .int .i64 0, .slice none 0 0] 25)
      refine hK.out _ _ (below_trans hHeld2 hba) (fun hHeld3 => ?_)
      have HX8 := Lib.hid (Box.new w3 #[.int .i64 0, .int .i64 0, .slice none 0 0] 25)
      have HO8 := Lib.hid (HO3.out.below hba)
      have HQ8 := Lib.hid (show wr.heap.size ≤ w3.heap.size from hHeld2.size)
      have HNE8 := Lib.hid (show ∀ k, (Value.slice oa m oc).ownBlock = some k → k ≠ w3.heap.size from fun k hk e => by have := (HO3.out.lt k hk).2; omega)
      clear hK K HO3 hba hHeld2 hHeld
      try simp only [Act.put, List.setIfInBounds_toArray, List.set_cons_zero, List.set_cons_succ]
      refine wpAnyH_ready (rs := [10]) (by kernel_rfl) (by simp) (AllReadyH.cons (o := ⟨none, .store 25 (.tmp 6) (.tmp 32), _, _, _, none⟩) rfl (fun K hK => ?_) AllReadyH.nil)
      rw [if_pos (by kernel_rfl)]
      refine wp_store_kk 25 (.tmp 6) (.tmp 32) rfl (w3.heap.size) 0 [.int .i64 C2, .int .i64 B2, .slice oa m oc] rfl rfl HX8.out.there3 (by kernel_rfl) (one3 _ _ _ _ _) ?_
      obtain ⟨hx9, hm9⟩ := HX8.out.set3 (.int .i64 C2) (.int .i64 B2) (.slice oa m oc)
      have HW9 := Lib.hid (hm9.below (B := wr.heap.size) (by have := HX8.out.lt; have := HQ8.out; omega) (fun i hi => by have := HQ8.out; omega))
      refine hK.out _ _ (hHeld3.trans (HW9.out)) (fun hHeld4 => ?_)
      have HN2 := Lib.hid (show ∀ k, (Value.slice oa m oc).ownBlock = some k → B9 ≤ k from fun k hk => by rw [HB9.out]; exact (HO8.out.lt k hk).1)
      have HN8 := Lib.hid (show B9 ≤ w3.heap.size from by rw [HB9.out]; exact HQ8.out)
      have HAJ := Lib.hid (show AppI w _ q (w3.heap.size) C B (.slice sa sn sc) L C2 B2 (.slice oa m oc) L2 from
        ⟨HI.out.below hHeld4, hx9, (HO8.out.mod hm9 (fun k hk e => HNE8.out k hk e)).base (show q + 1 ≤ wr.heap.size by have := HSQ.out; omega), by have h2 : wr.heap.size ≤ w3.heap.size := HQ8.out; have := HSQ.out; omega⟩)
      have HBK := Lib.hid hHeld4
      clear hK K hx9 hm9 HW9 HX8 HO8 HNE8 hHeld3 HCA HROW
      have HW9 := HBK
      clear HBK
      generalize (World.setCells _ _ _ _) = w9 at HAJ HW9 hHeld4 ⊢
      clear HQ8
      try simp only [Act.put]
      refine wpAnyH_take (i := 11) (oi := ⟨some 7, _, _, _, _, _⟩) (v := ?_) rfl (by kernel_rfl) (by kernel_rfl) (by kernel_rfl) (fun _ _ _ h => h) (Or.inl ⟨by kernel_rfl, ?_⟩) (by assumption) ?_
      rotate_left 1
      · intro w' hw'; clear hw'; go_simp; try with_reducible rfl
      try simp only [Act.put, List.setIfInBounds_toArray, List.set_cons_zero, List.set_cons_succ]
      refine wpAnyH_done (by kernel_rfl) ?_ _
      clear hHeld4
      generalize (w3.heap.size) = q8 at HAJ HN8 ⊢
      by_cases h0 : er = 0
      rotate_left
      · rw [errV_nz h0]
        have HSX := Lib.hid (show EnS w w9 q C B (.slice sa sn sc) L (.slice oa4 en oc4) E from ⟨HAJ.out.j, HSL.out w9 HW9.out, HN1.out, HEE.out⟩)
        clear h0 HAJ HSN2 HAE HSL HEE HOLT HN1 HW9
        go_wp2_with fail
        go_roundg (n - (k + 1))
        case measure => have := HGK.out; have := HK.out; omega
        case rel => exact ⟨k + 1, _, _, _, _, _, by have := HGK.out; have := HK.out; omega, by go_num, HSX.out, by have := HEL.out; have := HEN.out; omega⟩
      subst h0
      rw [show errV 0 = .nilIface from rfl]
      have HED := Lib.hid (show ∀ b ∈ E, Ended ⟨C2, B2, L2⟩ b from fun b hb => by
        have h := Ended.apply HAJ.out.j.sn (e := e) (by rw [HAE.out]) (HEE.out b hb)
        rw [HAE.out] at h; exact h)
      have HNEW := Lib.hid (show ∀ s ∈ L, L2.any (fun x => x.birth == s.birth) = false → Ended ⟨C2, B2, L2⟩ s.birth from fun s hs hn => by
        have h := Ended.new HAJ.out.j.sn (e := e) (by rw [HAE.out]) hs (by
          rw [HAE.out]
          intro x hx hxe
          exact List.any_eq_false.1 hn x hx (by simpa using hxe))
        rw [HAE.out] at h; exact h)
      have HSN3 := Lib.hid (HSN2.out rfl)
      have HE9 := Lib.hid (show EnI w w9 q q8 C B (.slice sa sn sc) L C2 B2 (.slice oa m oc) L2 (.slice oa4 en oc4) E from
        ⟨HAJ.out, HSL.out w9 HW9.out, HN1.out, fun k h1 h2 => by have := HOLT.out k h1; have := HN2.out k h2; omega, fun k h1 e => by have := HOLT.out k h1; have := HN8.out; omega⟩)
      have hsn63 : sn ≤ 32 := by have h := HAJ.out.j.sn.len; simp only at h; have := HSN.out; omega
      clear HAJ HSN2 HAE HSL HEE HOLT HN1 HW9 HN2 HN8 HI
      go_wp2_with fail
      go_loopg [4, 8] sn (fun gj ov jv wr => ∃ (j : Nat) (E' : List Int), gj + j = sn ∧ jv = .int .i64 (j : Int) ∧ EnI w wr q q8 C B (.slice sa sn sc) L C2 B2 (.slice oa m oc) L2 ov E' ∧ (∀ b ∈ E', Ended ⟨C2, B2, L2⟩ b) ∧ E'.length ≤ 32 * k + j)
      case atStart => exact ⟨0, E, Nat.add_zero _, rfl, HE9.out, HED.out, by have := HEL.out; have := HEN.out; omega⟩
      case round =>
        clear HE9 HED HEL HEN
        obtain ⟨j, E', hgj, rfl, hE, hD, hEl⟩ := hrel
        have j0 : (0 : Int) ≤ (j : Int) := by omega
        have HGJ := Lib.hid hgj
        have HD := Lib.hid hD
        have HEL := Lib.hid hEl
        have HE := Lib.hid hE
        have HJ1 := Lib.hid hE.a.j
        have HJA := Lib.hid hE.a
        obtain ⟨ea, ecc, rfl, _⟩ := hE.e.slice
        obtain ⟨en', hEN⟩ : ∃ en', en' = E'.length := ⟨_, rfl⟩
        rw [← hEN] at HE ⊢
        have hen63 : en' ≤ 9223372036854775807 := by have h1 := hEl; have h2 := HK.out; have h3 := HLEN.out; have h4 := HGJ.out; omega
        have HEN := Lib.hid hEN
        have c2 : wr.cell? ⟨q, 2, none⟩ = some (.slice sa sn sc) := HJ1.out.bx.cell 2 _ rfl
        clear hgj hE hD hEl hEN
        by_cases hj : j < sn
        · have j1 : (j : Int) < (sn : Int) := by omega
          have hjl : j < L.length := by have := HSN.out; omega
          obtain ⟨s, hs⟩ : ∃ s, s = L[j] := ⟨_, rfl⟩
          obtain ⟨rb2, ro2, hra, hrow⟩ := HJ1.out.ow.rd.row j hjl
          subst hra
          rw [← hs] at hrow
          have HR1 := Lib.hid (show wr.cell? ⟨rb2, ro2 + j * 12 + 1, none⟩ = some (.int .i64 s.birth) from hrow 1 _ rfl)
          have HMEM := Lib.hid (show s ∈ L by rw [hs]; exact List.getElem_mem hjl)
          have HC2 := Lib.hid c2
          have HD2 := Lib.hid (show wr.cell? ⟨q8, 2, none⟩ = some (.slice oa m oc) from HJA.out.b8.cell 2 _ rfl)
          have HHS := Lib.hid (fun wq (hq : Below wr.heap.size wr wq) => has_calls (.slice oa m oc) L2 s.birth wq (HJA.out.below hq).ow.rd)
          have HJ := Lib.hid hj
          clear hs hrow hj hjl
          go_wp2_with fail
          clear c2
          refine wp_region_held_drew (S := fun W => Below wr.heap.size wr W) (by kernel_rfl) (below_drew wr) (fun hHeld => ?_)
          refine wpAnyH_take (i := 0) (oi := ⟨some 43, _, _, _, _, _⟩) (v := ?_) rfl (by kernel_rfl) (by kernel_rfl) (by kernel_rfl) (fun _ _ _ h => h) (Or.inl ⟨by kernel_rfl, ?_⟩) (by assumption) ?_
          rotate_left 1
          · intro w' hw'; clear hw'; go_simp; try with_reducible rfl
          try simp only [Act.put, List.setIfInBounds_toArray, List.set_cons_zero, List.set_cons_succ]
          refine wpAnyH_take (i := 1) (oi := ⟨some 44, _, _, _, _, _⟩) (v := ?_) rfl (by kernel_rfl) (by kernel_rfl) (by kernel_rfl) (fun _ _ _ h => h) (Or.inl ⟨by kernel_rfl, ?_⟩) (by assumption) ?_
          rotate_left 1
          · intro w' hw'; have u1 := below_heap hw' HD2.out; clear hw'; go_simp; try with_reducible rfl
          try simp only [Act.put, List.setIfInBounds_toArray, List.set_cons_zero, List.set_cons_succ]
          refine wpAnyH_take (i := 2) (oi := ⟨some 45, _, _, _, _, _⟩) (v := ?_) rfl (by kernel_rfl) (by kernel_rfl) (by kernel_rfl) (fun _ _ _ h => h) (Or.inl ⟨by kernel_rfl, ?_⟩) (by assumption) ?_
          rotate_left 1
          · intro w' hw'; clear hw'; go_simp; try with_reducible rfl
          try simp only [Act.put, List.setIfInBounds_toArray, List.set_cons_zero, List.set_cons_succ]
          refine wpAnyH_take (i := 3) (oi := ⟨some 46, _, _, _, _, _⟩) (v := ?_) rfl (by kernel_rfl) (by kernel_rfl) (by kernel_rfl) (fun _ _ _ h => h) (Or.inl ⟨by kernel_rfl, ?_⟩) (by assumption) ?_
          rotate_left 1
          · intro w' hw'; have u1 := below_heap hw' HC2.out; clear hw'; go_simp; try with_reducible rfl
          try simp only [Act.put, List.setIfInBounds_toArray, List.set_cons_zero, List.set_cons_succ]
          refine wpAnyH_take (i := 4) (oi := ⟨some 47, _, _, _, _, _⟩) (v := ?_) rfl (by kernel_rfl) (by kernel_rfl) (by kernel_rfl) (fun _ _ _ h => h) (Or.inl ⟨by kernel_rfl, ?_⟩) (by assumption) ?_
          rotate_left 1
          · intro w' hw'; clear hw'; go_simp; try with_reducible rfl
          try simp only [Act.put, List.setIfInBounds_toArray, List.set_cons_zero, List.set_cons_succ]
          refine wpAnyH_take (i := 5) (oi := ⟨some 48, _, _, _, _, _⟩) (v := ?_) rfl (by kernel_rfl) (by kernel_rfl) (by kernel_rfl) (fun _ _ _ h => h) (Or.inl ⟨by kernel_rfl, ?_⟩) (by assumption) ?_
          rotate_left 1
          · intro w' hw'; clear hw'; go_simp; try with_reducible rfl
          try simp only [Act.put, List.setIfInBounds_toArray, List.set_cons_zero, List.set_cons_succ]
          refine wpAnyH_take (i := 6) (oi := ⟨some 49, _, _, _, _, _⟩) (v := ?_) rfl (by kernel_rfl) (by kernel_rfl) (by kernel_rfl) (fun _ _ _ h => h) (Or.inl ⟨by kernel_rfl, ?_⟩) (by assumption) ?_
          rotate_left 1
          · intro w' hw'; clear hw'; go_simp; try with_reducible rfl
          try simp only [Act.put, List.setIfInBounds_toArray, List.set_cons_zero, List.set_cons_succ]
          refine wpAnyH_take (i := 7) (oi := ⟨some 50, _, _, _, _, _⟩) (v := ?_) rfl (by kernel_rfl) (by kernel_rfl) (by kernel_rfl) (fun _ _ _ h => h) (Or.inl ⟨by kernel_rfl, ?_⟩) (by assumption) ?_
          rotate_left 1
          · intro w' hw'; have u1 := below_heap hw' HR1.out; clear hw'; go_simp; try with_reducible rfl
          try simp only [Act.put, List.setIfInBounds_toArray, List.set_cons_zero, List.set_cons_succ]
          refine wpAnyH_ready (rs := [8]) (by kernel_rfl) (by simp) (AllReadyH.cons (o := ⟨some 51, .call _, _, _, _, _⟩) rfl (fun K hK => ?_) AllReadyH.nil)
          go_simp
          refine (HHS.out _ hHeld).mono ?_
          rintro e5 w5 ⟨rfl, rfl⟩
          refine hK.out _ _ hHeld (fun hHeld2 => ?_)
          obtain ⟨r, hr⟩ : ∃ r, r = L2.any (fun x => x.birth == s.birth) := ⟨_, rfl⟩
          rw [← hr]
          have HRR := Lib.hid hr
          clear hK K hr hHeld
          try simp only [Act.put, List.setIfInBounds_toArray, List.set_cons_zero, List.set_cons_succ]
          refine wpAnyH_take (i := 9) (oi := ⟨some 52, _, _, _, _, _⟩) (v := ?_) rfl (by kernel_rfl) (by kernel_rfl) (by kernel_rfl) (fun _ _ _ h => h) (Or.inl ⟨by kernel_rfl, ?_⟩) (by assumption) ?_
          rotate_left 1
          · intro w' hw'; clear hw'; go_simp; try with_reducible rfl
          try simp only [Act.put, List.setIfInBounds_toArray, List.set_cons_zero, List.set_cons_succ]
          refine wpAnyH_done (by kernel_rfl) ?_ _
          have HE5 := Lib.hid (HE.out.below hHeld2)
          have c2 := below_heap hHeld2 HC2.out
          have r1 := below_heap hHeld2 HR1.out
          clear hHeld2 HE HJ1 HJA HC2 HD2 HR1 HHS
          generalize wr.drew = w5 at HE5 c2 r1 ⊢
          cases r
          rotate_left
          · clear c2 r1
            go_wp2_with fail
            go_roundg (sn - (j + 1))
            case measure => have := HGJ.out; have := HJ.out; omega
            case rel => exact ⟨j + 1, _, by have := HGJ.out; have := HJ.out; omega, by go_num, HE5.out, HD.out, by have := HEL.out; omega⟩
          have hba := below_alloc w5 (.cells #[.int .i64 s.birth] 3)
          have HE6 := Lib.hid (HE5.out.below hba)
          have HY := Lib.hid (show (w5.alloc (.cells #[.int .i64 s.birth] 3)).cell? ⟨w5.heap.size, 0, none⟩ = some (.int .i64 s.birth) from (Box.new w5 #[.int .i64 s.birth] 3).cell 0 _ rfl)
          have HB6 := Lib.hid (show q + 1 ≤ (w5.alloc (.cells #[.int .i64 s.birth] 3)).heap.size by have := HE6.out.a.j.bx.lt; omega)
          have HRM := Lib.hid (show E'.length + 1 ≤ 17592186044416 by have := HEL.out; have := HJ.out; have := HK.out; have := HLEN.out; have h1 := HE5.out.a.j.sn.len; simp only at h1; have := HSN.out; omega)
          have HDN := Lib.hid (HNEW.out s HMEM.out HRR.out.symm)
          clear hba HE5
          go_wp2_with (at_builtin; refine appNum rfl _ _ rfl (q + 1) _ E' rfl HE6.out.e w5.heap.size 1 s.birth rfl HY.out HRM.out HB6.out ?_)
          intro v' w7 hown' hg' hmv
          have HE7 := Lib.hid (HE6.out.app hown' hg' hmv)
          clear hown' hg' hmv HE6 HY HB6 HRM c2 r1
          go_wp2_with fail
          go_roundg (sn - (j + 1))
          case measure => have := HGJ.out; have := HJ.out; omega
          case rel => exact ⟨j + 1, _, by have := HGJ.out; have := HJ.out; omega, by go_num, HE7.out, fun b hb => by
              rcases List.mem_append.1 hb with hb | hb
              · exact HD.out b hb
              · rw [List.mem_singleton.1 hb]; exact HDN.out, by have := HEL.out; simp only [List.length_append, List.length_singleton]; omega⟩
        have j1 : ¬ (j : Int) < (sn : Int) := by omega
        obtain ⟨wz, hwz⟩ : ∃ wz, wz = wr := ⟨_, rfl⟩
        rw [← hwz] at HE HJ1 HJA c2 ⊢
        clear hwz hj
        have hput := HJ1.out.put C2 B2 (.slice oa m oc) L2 HJA.out.ow HSN3.out
        have HS9 := Lib.hid (show EnS w (((wz.setCell ⟨q, 0, none⟩ (.int .i64 C2)).setCell ⟨q, 1, none⟩ (.int .i64 B2)).setCell ⟨q, 2, none⟩ (.slice oa m oc)) q C2 B2 (.slice oa m oc) L2 (.slice ea en' ecc) E' from
          ⟨hput, HE.out.e.mod (Mod.set3 q wz (.int .i64 C2) (.int .i64 B2) (.slice oa m oc)) (fun k hk e => by have := (HE.out.e.lt k hk).1; omega), HE.out.n2, HD.out⟩)
        have HELS := Lib.hid (show E'.length ≤ 32 * (k + 1) by have := HEL.out; have h1 := HJ1.out.sn.len; simp only at h1; have := HSN.out; have := HGJ.out; omega)
        clear hput
        have x0 : (wz).cell? ⟨q, 0, none⟩ = some (.int .i64 C) := HJ1.out.bx.cell 0 _ rfl
        have f0 := HJ1.out.bx.free 0
        have x1 : (wz).cell? ⟨q, 1, none⟩ = some (.int .i64 B) := HJ1.out.bx.cell 1 _ rfl
        have f1 := HJ1.out.bx.free 1
        have x2 : (wz).cell? ⟨q, 2, none⟩ = some (.slice sa sn sc) := HJ1.out.bx.cell 2 _ rfl
        have f2 := HJ1.out.bx.free 2
        have d0 : (wz).cell? ⟨q8, 0, none⟩ = some (.int .i64 C2) := HJA.out.b8.cell 0 _ rfl
        have d1 : (wz).cell? ⟨q8, 1, none⟩ = some (.int .i64 B2) := HJA.out.b8.cell 1 _ rfl
        have d2 : (wz).cell? ⟨q8, 2, none⟩ = some (.slice oa m oc) := HJA.out.b8.cell 2 _ rfl
        clear HE HJ1 HJA HD HEL HNEW
        go_wp2_with fail
        generalize ((wz.setCell ⟨q, 0, none⟩ (.int .i64 C2)).setCell ⟨q, 1, none⟩ (.int .i64 B2)).setCell ⟨q, 2, none⟩ (.slice oa m oc) = wy at HS9 ⊢
        clear x0 x1 x2 d0 d1 d2 f0 f1 f2 c2
        go_loopg [9] en' (fun gi iv wr => ∃ i : Nat, gi + i = en' ∧ iv = .int .i64 (i : Int) ∧ EnS w wr q C2 B2 (.slice oa m oc) L2 (.slice ea en' ecc) E')
        case atStart => exact ⟨0, Nat.add_zero _, rfl, HS9.out⟩
        case round =>
          clear HS9
          obtain ⟨i, hgi, rfl, hS⟩ := hrel
          have i0 : (0 : Int) ≤ (i : Int) := by omega
          have HGI := Lib.hid hgi
          have HS := Lib.hid hS
          clear hgi hS
          by_cases hi : i < en'
          rotate_left
          · have i1 : ¬ (i : Int) < (en' : Int) := by omega
            clear hi
            go_wp2_with fail
            go_roundg (n - (k + 1))
            case measure => have := HGK.out; have := HK.out; omega
            case rel => exact ⟨k + 1, _, _, _, _, _, by have := HGK.out; have := HK.out; omega, by go_num, HS.out, HELS.out⟩
          have i1 : (i : Int) < (en' : Int) := by omega
          have hil : i < E'.length := by have := HEN.out; omega
          obtain ⟨b, hb⟩ : ∃ b, b = E'[i] := ⟨_, rfl⟩
          obtain ⟨eb, eo, hea, hcell⟩ := HS.out.e.at i hil
          subst hea
          rw [← hb] at hcell
          have HAN := Lib.hid (HS.out.there b (by rw [hb]; exact List.getElem_mem hil))
          have HC2 := Lib.hid (show wr.cell? ⟨q, 2, none⟩ = some (.slice oa m oc) from HS.out.j.bx.cell 2 _ rfl)
          have HR1 := Lib.hid hcell
          have HHS := Lib.hid (fun wq (hq : Below wr.heap.size wr wq) => has_calls (.slice oa m oc) L2 b wq (HS.out.below hq).j.ow.rd)
          have HI3 := Lib.hid hi
          clear hb hcell hi hil
          go_wp2_with fail
          refine wp_region_held_drew (S := fun W => Below wr.heap.size wr W) (by kernel_rfl) (below_drew wr) (fun hHeld => ?_)
          refine wpAnyH_take (i := 0) (oi := ⟨some 69, _, _, _, _, _⟩) (v := ?_) rfl (by kernel_rfl) (by kernel_rfl) (by kernel_rfl) (fun _ _ _ h => h) (Or.inl ⟨by kernel_rfl, ?_⟩) (by assumption) ?_
          rotate_left 1
          · intro w' hw'; clear hw'; go_simp; try with_reducible rfl
          try simp only [Act.put, List.setIfInBounds_toArray, List.set_cons_zero, List.set_cons_succ]
          refine wpAnyH_take (i := 1) (oi := ⟨some 70, _, _, _, _, _⟩) (v := ?_) rfl (by kernel_rfl) (by kernel_rfl) (by kernel_rfl) (fun _ _ _ h => h) (Or.inl ⟨by kernel_rfl, ?_⟩) (by assumption) ?_
          rotate_left 1
          · intro w' hw'; have u1 := below_heap hw' HC2.out; clear hw'; go_simp; try with_reducible rfl
          try simp only [Act.put, List.setIfInBounds_toArray, List.set_cons_zero, List.set_cons_succ]
          refine wpAnyH_take (i := 2) (oi := ⟨some 71, _, _, _, _, _⟩) (v := ?_) rfl (by kernel_rfl) (by kernel_rfl) (by kernel_rfl) (fun _ _ _ h => h) (Or.inl ⟨by kernel_rfl, ?_⟩) (by assumption) ?_
          rotate_left 1
          · intro w' hw'; clear hw'; go_simp; try with_reducible rfl
          try simp only [Act.put, List.setIfInBounds_toArray, List.set_cons_zero, List.set_cons_succ]
          refine wpAnyH_take (i := 3) (oi := ⟨some 72, _, _, _, _, _⟩) (v := ?_) rfl (by kernel_rfl) (by kernel_rfl) (by kernel_rfl) (fun _ _ _ h => h) (Or.inl ⟨by kernel_rfl, ?_⟩) (by assumption) ?_
          rotate_left 1
          · intro w' hw'; clear hw'; go_simp; try with_reducible rfl
          try simp only [Act.put, List.setIfInBounds_toArray, List.set_cons_zero, List.set_cons_succ]
          refine wpAnyH_take (i := 4) (oi := ⟨some 73, _, _, _, _, _⟩) (v := ?_) rfl (by kernel_rfl) (by kernel_rfl) (by kernel_rfl) (fun _ _ _ h => h) (Or.inl ⟨by kernel_rfl, ?_⟩) (by assumption) ?_
          rotate_left 1
          · intro w' hw'; clear hw'; go_simp; try with_reducible rfl
          try simp only [Act.put, List.setIfInBounds_toArray, List.set_cons_zero, List.set_cons_succ]
          refine wpAnyH_take (i := 5) (oi := ⟨some 74, _, _, _, _, _⟩) (v := ?_) rfl (by kernel_rfl) (by kernel_rfl) (by kernel_rfl) (fun _ _ _ h => h) (Or.inl ⟨by kernel_rfl, ?_⟩) (by assumption) ?_
          rotate_left 1
          · intro w' hw'; have u1 := below_heap hw' HR1.out; clear hw'; go_simp; try with_reducible rfl
          try simp only [Act.put, List.setIfInBounds_toArray, List.set_cons_zero, List.set_cons_succ]
          refine wpAnyH_ready (rs := [6]) (by kernel_rfl) (by simp) (AllReadyH.cons (o := ⟨some 75, .call _, _, _, _, _⟩) rfl (fun K hK => ?_) AllReadyH.nil)
          go_simp
          refine (HHS.out _ hHeld).mono ?_
          rintro e5 w5 ⟨rfl, rfl⟩
          refine hK.out _ _ hHeld (fun hHeld2 => ?_)
          rw [HAN.out]
          clear hK K hHeld
          try simp only [Act.put, List.setIfInBounds_toArray, List.set_cons_zero, List.set_cons_succ]
          refine wpAnyH_done (by kernel_rfl) ?_ _
          have HS5 := Lib.hid (HS.out.below hHeld2)
          clear hHeld2 HS HC2 HR1 HHS HAN
          go_wp2_with fail
          go_roundg (en' - (i + 1))
          case measure => have := HGI.out; have := HI3.out; omega
          case rel => exact ⟨i + 1, by have := HGI.out; have := HI3.out; omega, by go_num, HS5.out⟩
    · go_simp
      have hba := below_alloc wr.drew (.cells #[.int .i64 0, .int .i64 0, .slice none 0 0] 25)
      have hHeldA := below_trans hHeld hba
      refine hK.out _ _ hHeldA (fun hHeld2 => ?_)
      have HXA := Lib.hid (show Box (wr.drew.alloc (.cells #[.int .i64 0, .int .i64 0, .slice none 0 0] 25)) wr.heap.size #[.int .i64 0, .int .i64 0, .slice none 0 0] 25 from Box.new wr.drew #[.int .i64 0, .int .i64 0, .slice none 0 0] 25)
      clear hK K
      try simp only [Act.put, List.setIfInBounds_toArray, List.set_cons_zero, List.set_cons_succ]
      refine wpAnyH_ready (rs := [5]) (by kernel_rfl) (by simp) (AllReadyH.cons (o := ⟨some 31, .call _, _, _, _, _⟩) rfl (fun K hK => ?_) AllReadyH.nil)
      go_simp
      refine (HCA.out _ hHeldA).mono ?_
      rintro e3 w3 ⟨o, rfl, ho, hb3⟩
      have hHeld3 := below_trans hHeldA hb3
      refine hK.out _ _ hHeld3 (fun _ => ?_)
      obtain ⟨oa, oc, rfl, _⟩ := ho.slice
      rw [← HM.out] at ho ⊢
      have HX8 := Lib.hid (HXA.out.below hb3)
      have HQ8 := Lib.hid (Nat.le_refl wr.heap.size)
      have HO8 := Lib.hid (ho.base (base' := wr.heap.size) (Nat.le_of_lt HXA.out.lt))
      have HNE8 := Lib.hid (show ∀ k, (Value.slice oa m oc).ownBlock = some k → k ≠ wr.heap.size from fun k hk e => by have := (ho.lt k hk).1; have := HXA.out.lt; omega)
      clear hK K ho hb3 HXA hHeldA hHeld hHeld2
      try simp only [Act.put, List.setIfInBounds_toArray, List.set_cons_zero, List.set_cons_succ]
      refine wpAnyH_take (i := 6) (oi := ⟨some 25, _, _, _, _, _⟩) (v := ?_) rfl (by kernel_rfl) (by kernel_rfl) (by kernel_rfl) (fun _ _ _ h => h) (Or.inl ⟨by kernel_rfl, ?_⟩) (by assumption) ?_
      rotate_left 1
      · intro w' hw'; clear hw'; go_simp; try with_reducible rfl
      try simp only [Act.put, List.setIfInBounds_toArray, List.set_cons_zero, List.set_cons_succ]
      refine wpAnyH_take (i := 7) (oi := ⟨some 32, _, _, _, _, _⟩) (v := ?_) rfl (by kernel_rfl) (by kernel_rfl) (by kernel_rfl) (fun _ _ _ h => h) (Or.inl ⟨by kernel_rfl, ?_⟩) (by assumption) ?_
      rotate_left 1
      · intro w' hw'; clear hw'; go_simp; try with_reducible rfl
      try simp only [Act.put, List.setIfInBounds_toArray, List.set_cons_zero, List.set_cons_succ]
      refine wpAnyH_take (i := 8) (oi := ⟨some 33, _, _, _, _, _⟩) (v := ?_) rfl (by kernel_rfl) (by kernel_rfl) (by kernel_rfl) (fun _ _ _ h => h) (Or.inl ⟨by kernel_rfl, ?_⟩) (by assumption) ?_
      rotate_left 1
      · intro w' hw'; clear hw'; go_simp; try with_reducible rfl
      try simp only [Act.put, List.setIfInBounds_toArray, List.set_cons_zero, List.set_cons_succ]
      refine wpAnyH_ready (rs := [10]) (by kernel_rfl) (by simp) (AllReadyH.cons (o := ⟨none, .store 25 (.tmp 6) (.tmp 32), _, _, _, none⟩) rfl (fun K hK => ?_) AllReadyH.nil)
      rw [if_pos (by kernel_rfl)]
      refine wp_store_kk 25 (.tmp 6) (.tmp 32) rfl (wr.heap.size) 0 [.int .i64 C2, .int .i64 B2, .slice oa m oc] rfl rfl HX8.out.there3 (by kernel_rfl) (one3 _ _ _ _ _) ?_
      obtain ⟨hx9, hm9⟩ := HX8.out.set3 (.int .i64 C2) (.int .i64 B2) (.slice oa m oc)
      have HW9 := Lib.hid (hm9.below (B := wr.heap.size) (by have := HX8.out.lt; have := HQ8.out; omega) (fun i hi => by have := HQ8.out; omega))
      refine hK.out _ _ (hHeld3.trans (HW9.out)) (fun hHeld4 => ?_)
      have HN2 := Lib.hid (show ∀ k, (Value.slice oa m oc).ownBlock = some k → B9 ≤ k from fun k hk => by rw [HB9.out]; exact (HO8.out.lt k hk).1)
      have HN8 := Lib.hid (show B9 ≤ wr.heap.size from by rw [HB9.out]; exact HQ8.out)
      have HAJ := Lib.hid (show AppI w _ q (wr.heap.size) C B (.slice sa sn sc) L C2 B2 (.slice oa m oc) L2 from
        ⟨HI.out.below hHeld4, hx9, (HO8.out.mod hm9 (fun k hk e => HNE8.out k hk e)).base (show q + 1 ≤ wr.heap.size by have := HSQ.out; omega), by have h2 : wr.heap.size ≤ wr.heap.size := HQ8.out; have := HSQ.out; omega⟩)
      have HBK := Lib.hid hHeld4
      clear hK K hx9 hm9 HW9 HX8 HO8 HNE8 hHeld3 HCA HROW
      have HW9 := HBK
      clear HBK
      generalize (World.setCells _ _ _ _) = w9 at HAJ HW9 hHeld4 ⊢
      clear HQ8
      try simp only [Act.put]
      refine wpAnyH_take (i := 11) (oi := ⟨some 7, _, _, _, _, _⟩) (v := ?_) rfl (by kernel_rfl) (by kernel_rfl) (by kernel_rfl) (fun _ _ _ h => h) (Or.inl ⟨by kernel_rfl, ?_⟩) (by assumption) ?_
      rotate_left 1
      · intro w' hw'; clear hw'; go_simp; try with_reducible rfl
      try simp only [Act.put, List.setIfInBounds_toArray, List.set_cons_zero, List.set_cons_succ]
      refine wpAnyH_done (by kernel_rfl) ?_ _
      clear hHeld4
      generalize (wr.heap.size) = q8 at HAJ HN8 ⊢
      by_cases h0 : er = 0
      rotate_left
      · rw [errV_nz h0]
        have HSX := Lib.hid (show EnS w w9 q C B (.slice sa sn sc) L (.slice oa4 en oc4) E from ⟨HAJ.out.j, HSL.out w9 HW9.out, HN1.out, HEE.out⟩)
        clear h0 HAJ HSN2 HAE HSL HEE HOLT HN1 HW9
        go_wp2_with fail
        go_roundg (n - (k + 1))
        case measure => have := HGK.out; have := HK.out; omega
        case rel => exact ⟨k + 1, _, _, _, _, _, by have := HGK.out; have := HK.out; omega, by go_num, HSX.out, by have := HEL.out; have := HEN.out; omega⟩
      subst h0
      rw [show errV 0 = .nilIface from rfl]
      have HED := Lib.hid (show ∀ b ∈ E, Ended ⟨C2, B2, L2⟩ b from fun b hb => by
        have h := Ended.apply HAJ.out.j.sn (e := e) (by rw [HAE.out]) (HEE.out b hb)
        rw [HAE.out] at h; exact h)
      have HNEW := Lib.hid (show ∀ s ∈ L, L2.any (fun x => x.birth == s.birth) = false → Ended ⟨C2, B2, L2⟩ s.birth from fun s hs hn => by
        have h := Ended.new HAJ.out.j.sn (e := e) (by rw [HAE.out]) hs (by
          rw [HAE.out]
          intro x hx hxe
          exact List.any_eq_false.1 hn x hx (by simpa using hxe))
        rw [HAE.out] at h; exact h)
      have HSN3 := Lib.hid (HSN2.out rfl)
      have HE9 := Lib.hid (show EnI w w9 q q8 C B (.slice sa sn sc) L C2 B2 (.slice oa m oc) L2 (.slice oa4 en oc4) E from
        ⟨HAJ.out, HSL.out w9 HW9.out, HN1.out, fun k h1 h2 => by have := HOLT.out k h1; have := HN2.out k h2; omega, fun k h1 e => by have := HOLT.out k h1; have := HN8.out; omega⟩)
      have hsn63 : sn ≤ 32 := by have h := HAJ.out.j.sn.len; simp only at h; have := HSN.out; omega
      clear HAJ HSN2 HAE HSL HEE HOLT HN1 HW9 HN2 HN8 HI
      go_wp2_with fail
      go_loopg [4, 8] sn (fun gj ov jv wr => ∃ (j : Nat) (E' : List Int), gj + j = sn ∧ jv = .int .i64 (j : Int) ∧ EnI w wr q q8 C B (.slice sa sn sc) L C2 B2 (.slice oa m oc) L2 ov E' ∧ (∀ b ∈ E', Ended ⟨C2, B2, L2⟩ b) ∧ E'.length ≤ 32 * k + j)
      case atStart => exact ⟨0, E, Nat.add_zero _, rfl, HE9.out, HED.out, by have := HEL.out; have := HEN.out; omega⟩
      case round =>
        clear HE9 HED HEL HEN
        obtain ⟨j, E', hgj, rfl, hE, hD, hEl⟩ := hrel
        have j0 : (0 : Int) ≤ (j : Int) := by omega
        have HGJ := Lib.hid hgj
        have HD := Lib.hid hD
        have HEL := Lib.hid hEl
        have HE := Lib.hid hE
        have HJ1 := Lib.hid hE.a.j
        have HJA := Lib.hid hE.a
        obtain ⟨ea, ecc, rfl, _⟩ := hE.e.slice
        obtain ⟨en', hEN⟩ : ∃ en', en' = E'.length := ⟨_, rfl⟩
        rw [← hEN] at HE ⊢
        have hen63 : en' ≤ 9223372036854775807 := by have h1 := hEl; have h2 := HK.out; have h3 := HLEN.out; have h4 := HGJ.out; omega
        have HEN := Lib.hid hEN
        have c2 : wr.cell? ⟨q, 2, none⟩ = some (.slice sa sn sc) := HJ1.out.bx.cell 2 _ rfl
        clear hgj hE hD hEl hEN
        by_cases hj : j < sn
        · have j1 : (j : Int) < (sn : Int) := by omega
          have hjl : j < L.length := by have := HSN.out; omega
          obtain ⟨s, hs⟩ : ∃ s, s = L[j] := ⟨_, rfl⟩
          obtain ⟨rb2, ro2, hra, hrow⟩ := HJ1.out.ow.rd.row j hjl
          subst hra
          rw [← hs] at hrow
          have HR1 := Lib.hid (show wr.cell? ⟨rb2, ro2 + j * 12 + 1, none⟩ = some (.int .i64 s.birth) from hrow 1 _ rfl)
          have HMEM := Lib.hid (show s ∈ L by rw [hs]; exact List.getElem_mem hjl)
          have HC2 := Lib.hid c2
          have HD2 := Lib.hid (show wr.cell? ⟨q8, 2, none⟩ = some (.slice oa m oc) from HJA.out.b8.cell 2 _ rfl)
          have HHS := Lib.hid (fun wq (hq : Below wr.heap.size wr wq) => has_calls (.slice oa m oc) L2 s.birth wq (HJA.out.below hq).ow.rd)
          have HJ := Lib.hid hj
          clear hs hrow hj hjl
          go_wp2_with fail
          clear c2
          refine wp_region_held_drew (S := fun W => Below wr.heap.size wr W) (by kernel_rfl) (below_drew wr) (fun hHeld => ?_)
          refine wpAnyH_take (i := 0) (oi := ⟨some 43, _, _, _, _, _⟩) (v := ?_) rfl (by kernel_rfl) (by kernel_rfl) (by kernel_rfl) (fun _ _ _ h => h) (Or.inl ⟨by kernel_rfl, ?_⟩) (by assumption) ?_
          rotate_left 1
          · intro w' hw'; clear hw'; go_simp; try with_reducible rfl
          try simp only [Act.put, List.setIfInBounds_toArray, List.set_cons_zero, List.set_cons_succ]
          refine wpAnyH_take (i := 1) (oi := ⟨some 44, _, _, _, _, _⟩) (v := ?_) rfl (by kernel_rfl) (by kernel_rfl) (by kernel_rfl) (fun _ _ _ h => h) (Or.inl ⟨by kernel_rfl, ?_⟩) (by assumption) ?_
          rotate_left 1
          · intro w' hw'; have u1 := below_heap hw' HD2.out; clear hw'; go_simp; try with_reducible rfl
          try simp only [Act.put, List.setIfInBounds_toArray, List.set_cons_zero, List.set_cons_succ]
          refine wpAnyH_take (i := 2) (oi := ⟨some 45, _, _, _, _, _⟩) (v := ?_) rfl (by kernel_rfl) (by kernel_rfl) (by kernel_rfl) (fun _ _ _ h => h) (Or.inl ⟨by kernel_rfl, ?_⟩) (by assumption) ?_
          rotate_left 1
          · intro w' hw'; clear hw'; go_simp; try with_reducible rfl
          try simp only [Act.put, List.setIfInBounds_toArray, List.set_cons_zero, List.set_cons_succ]
          refine wpAnyH_take (i := 3) (oi := ⟨some 46, _, _, _, _, _⟩) (v := ?_) rfl (by kernel_rfl) (by kernel_rfl) (by kernel_rfl) (fun _ _ _ h => h) (Or.inl ⟨by kernel_rfl, ?_⟩) (by assumption) ?_
          rotate_left 1
          · intro w' hw'; have u1 := below_heap hw' HC2.out; clear hw'; go_simp; try with_reducible rfl
          try simp only [Act.put, List.setIfInBounds_toArray, List.set_cons_zero, List.set_cons_succ]
          refine wpAnyH_take (i := 4) (oi := ⟨some 47, _, _, _, _, _⟩) (v := ?_) rfl (by kernel_rfl) (by kernel_rfl) (by kernel_rfl) (fun _ _ _ h => h) (Or.inl ⟨by kernel_rfl, ?_⟩) (by assumption) ?_
          rotate_left 1
          · intro w' hw'; clear hw'; go_simp; try with_reducible rfl
          try simp only [Act.put, List.setIfInBounds_toArray, List.set_cons_zero, List.set_cons_succ]
          refine wpAnyH_take (i := 5) (oi := ⟨some 48, _, _, _, _, _⟩) (v := ?_) rfl (by kernel_rfl) (by kernel_rfl) (by kernel_rfl) (fun _ _ _ h => h) (Or.inl ⟨by kernel_rfl, ?_⟩) (by assumption) ?_
          rotate_left 1
          · intro w' hw'; clear hw'; go_simp; try with_reducible rfl
          try simp only [Act.put, List.setIfInBounds_toArray, List.set_cons_zero, List.set_cons_succ]
          refine wpAnyH_take (i := 6) (oi := ⟨some 49, _, _, _, _, _⟩) (v := ?_) rfl (by kernel_rfl) (by kernel_rfl) (by kernel_rfl) (fun _ _ _ h => h) (Or.inl ⟨by kernel_rfl, ?_⟩) (by assumption) ?_
          rotate_left 1
          · intro w' hw'; clear hw'; go_simp; try with_reducible rfl
          try simp only [Act.put, List.setIfInBounds_toArray, List.set_cons_zero, List.set_cons_succ]
          refine wpAnyH_take (i := 7) (oi := ⟨some 50, _, _, _, _, _⟩) (v := ?_) rfl (by kernel_rfl) (by kernel_rfl) (by kernel_rfl) (fun _ _ _ h => h) (Or.inl ⟨by kernel_rfl, ?_⟩) (by assumption) ?_
          rotate_left 1
          · intro w' hw'; have u1 := below_heap hw' HR1.out; clear hw'; go_simp; try with_reducible rfl
          try simp only [Act.put, List.setIfInBounds_toArray, List.set_cons_zero, List.set_cons_succ]
          refine wpAnyH_ready (rs := [8]) (by kernel_rfl) (by simp) (AllReadyH.cons (o := ⟨some 51, .call _, _, _, _, _⟩) rfl (fun K hK => ?_) AllReadyH.nil)
          go_simp
          refine (HHS.out _ hHeld).mono ?_
          rintro e5 w5 ⟨rfl, rfl⟩
          refine hK.out _ _ hHeld (fun hHeld2 => ?_)
          obtain ⟨r, hr⟩ : ∃ r, r = L2.any (fun x => x.birth == s.birth) := ⟨_, rfl⟩
          rw [← hr]
          have HRR := Lib.hid hr
          clear hK K hr hHeld
          try simp only [Act.put, List.setIfInBounds_toArray, List.set_cons_zero, List.set_cons_succ]
          refine wpAnyH_take (i := 9) (oi := ⟨some 52, _, _, _, _, _⟩) (v := ?_) rfl (by kernel_rfl) (by kernel_rfl) (by kernel_rfl) (fun _ _ _ h => h) (Or.inl ⟨by kernel_rfl, ?_⟩) (by assumption) ?_
          rotate_left 1
          · intro w' hw'; clear hw'; go_simp; try with_reducible rfl
          try simp only [Act.put, List.setIfInBounds_toArray, List.set_cons_zero, List.set_cons_succ]
          refine wpAnyH_done (by kernel_rfl) ?_ _
          have HE5 := Lib.hid (HE.out.below hHeld2)
          have c2 := below_heap hHeld2 HC2.out
          have r1 := below_heap hHeld2 HR1.out
          clear hHeld2 HE HJ1 HJA HC2 HD2 HR1 HHS
          generalize wr.drew = w5 at HE5 c2 r1 ⊢
          cases r
          rotate_left
          · clear c2 r1
            go_wp2_with fail
            go_roundg (sn - (j + 1))
            case measure => have := HGJ.out; have := HJ.out; omega
            case rel => exact ⟨j + 1, _, by have := HGJ.out; have := HJ.out; omega, by go_num, HE5.out, HD.out, by have := HEL.out; omega⟩
          have hba := below_alloc w5 (.cells #[.int .i64 s.birth] 3)
          have HE6 := Lib.hid (HE5.out.below hba)
          have HY := Lib.hid (show (w5.alloc (.cells #[.int .i64 s.birth] 3)).cell? ⟨w5.heap.size, 0, none⟩ = some (.int .i64 s.birth) from (Box.new w5 #[.int .i64 s.birth] 3).cell 0 _ rfl)
          have HB6 := Lib.hid (show q + 1 ≤ (w5.alloc (.cells #[.int .i64 s.birth] 3)).heap.size by have := HE6.out.a.j.bx.lt; omega)
          have HRM := Lib.hid (show E'.length + 1 ≤ 17592186044416 by have := HEL.out; have := HJ.out; have := HK.out; have := HLEN.out; have h1 := HE5.out.a.j.sn.len; simp only at h1; have := HSN.out; omega)
          have HDN := Lib.hid (HNEW.out s HMEM.out HRR.out.symm)
          clear hba HE5
          go_wp2_with (at_builtin; refine appNum rfl _ _ rfl (q + 1) _ E' rfl HE6.out.e w5.heap.size 1 s.birth rfl HY.out HRM.out HB6.out ?_)
          intro v' w7 hown' hg' hmv
          have HE7 := Lib.hid (HE6.out.app hown' hg' hmv)
          clear hown' hg' hmv HE6 HY HB6 HRM c2 r1
          go_wp2_with fail
          go_roundg (sn - (j + 1))
          case measure => have := HGJ.out; have := HJ.out; omega
          case rel => exact ⟨j + 1, _, by have := HGJ.out; have := HJ.out; omega, by go_num, HE7.out, fun b hb => by
              rcases List.mem_append.1 hb with hb | hb
              · exact HD.out b hb
              · rw [List.mem_singleton.1 hb]; exact HDN.out, by have := HEL.out; simp only [List.length_append, List.length_singleton]; omega⟩
        have j1 : ¬ (j : Int) < (sn : Int) := by omega
        obtain ⟨wz, hwz⟩ : ∃ wz, wz = wr := ⟨_, rfl⟩
        rw [← hwz] at HE HJ1 HJA c2 ⊢
        clear hwz hj
        have hput := HJ1.out.put C2 B2 (.slice oa m oc) L2 HJA.out.ow HSN3.out
        have HS9 := Lib.hid (show EnS w (((wz.setCell ⟨q, 0, none⟩ (.int .i64 C2)).setCell ⟨q, 1, none⟩ (.int .i64 B2)).setCell ⟨q, 2, none⟩ (.slice oa m oc)) q C2 B2 (.slice oa m oc) L2 (.slice ea en' ecc) E' from
          ⟨hput, HE.out.e.mod (Mod.set3 q wz (.int .i64 C2) (.int .i64 B2) (.slice oa m oc)) (fun k hk e => by have := (HE.out.e.lt k hk).1; omega), HE.out.n2, HD.out⟩)
        have HELS := Lib.hid (show E'.length ≤ 32 * (k + 1) by have := HEL.out; have h1 := HJ1.out.sn.len; simp only at h1; have := HSN.out; have := HGJ.out; omega)
        clear hput
        have x0 : (wz).cell? ⟨q, 0, none⟩ = some (.int .i64 C) := HJ1.out.bx.cell 0 _ rfl
        have f0 := HJ1.out.bx.free 0
        have x1 : (wz).cell? ⟨q, 1, none⟩ = some (.int .i64 B) := HJ1.out.bx.cell 1 _ rfl
        have f1 := HJ1.out.bx.free 1
        have x2 : (wz).cell? ⟨q, 2, none⟩ = some (.slice sa sn sc) := HJ1.out.bx.cell 2 _ rfl
        have f2 := HJ1.out.bx.free 2
        have d0 : (wz).cell? ⟨q8, 0, none⟩ = some (.int .i64 C2) := HJA.out.b8.cell 0 _ rfl
        have d1 : (wz).cell? ⟨q8, 1, none⟩ = some (.int .i64 B2) := HJA.out.b8.cell 1 _ rfl
        have d2 : (wz).cell? ⟨q8, 2, none⟩ = some (.slice oa m oc) := HJA.out.b8.cell 2 _ rfl
        clear HE HJ1 HJA HD HEL HNEW
        go_wp2_with fail
        generalize ((wz.setCell ⟨q, 0, none⟩ (.int .i64 C2)).setCell ⟨q, 1, none⟩ (.int .i64 B2)).setCell ⟨q, 2, none⟩ (.slice oa m oc) = wy at HS9 ⊢
        clear x0 x1 x2 d0 d1 d2 f0 f1 f2 c2
        go_loopg [9] en' (fun gi iv wr => ∃ i : Nat, gi + i = en' ∧ iv = .int .i64 (i : Int) ∧ EnS w wr q C2 B2 (.slice oa m oc) L2 (.slice ea en' ecc) E')
        case atStart => exact ⟨0, Nat.add_zero _, rfl, HS9.out⟩
        case round =>
          clear HS9
          obtain ⟨i, hgi, rfl, hS⟩ := hrel
          have i0 : (0 : Int) ≤ (i : Int) := by omega
          have HGI := Lib.hid hgi
          have HS := Lib.hid hS
          clear hgi hS
          by_cases hi : i < en'
          rotate_left
          · have i1 : ¬ (i : Int) < (en' : Int) := by omega
            clear hi
            go_wp2_with fail
            go_roundg (n - (k + 1))
            case measure => have := HGK.out; have := HK.out; omega
            case rel => exact ⟨k + 1, _, _, _, _, _, by have := HGK.out; have := HK.out; omega, by go_num, HS.out, HELS.out⟩
          have i1 : (i : Int) < (en' : Int) := by omega
          have hil : i < E'.length := by have := HEN.out; omega
          obtain ⟨b, hb⟩ : ∃ b, b = E'[i] := ⟨_, rfl⟩
          obtain ⟨eb, eo, hea, hcell⟩ := HS.out.e.at i hil
          subst hea
          rw [← hb] at hcell
          have HAN := Lib.hid (HS.out.there b (by rw [hb]; exact List.getElem_mem hil))
          have HC2 := Lib.hid (show wr.cell? ⟨q, 2, none⟩ = some (.slice oa m oc) from HS.out.j.bx.cell 2 _ rfl)
          have HR1 := Lib.hid hcell
          have HHS := Lib.hid (fun wq (hq : Below wr.heap.size wr wq) => has_calls (.slice oa m oc) L2 b wq (HS.out.below hq).j.ow.rd)
          have HI3 := Lib.hid hi
          clear hb hcell hi hil
          go_wp2_with fail
          refine wp_region_held_drew (S := fun W => Below wr.heap.size wr W) (by kernel_rfl) (below_drew wr) (fun hHeld => ?_)
          refine wpAnyH_take (i := 0) (oi := ⟨some 69, _, _, _, _, _⟩) (v := ?_) rfl (by kernel_rfl) (by kernel_rfl) (by kernel_rfl) (fun _ _ _ h => h) (Or.inl ⟨by kernel_rfl, ?_⟩) (by assumption) ?_
          rotate_left 1
          · intro w' hw'; clear hw'; go_simp; try with_reducible rfl
          try simp only [Act.put, List.setIfInBounds_toArray, List.set_cons_zero, List.set_cons_succ]
          refine wpAnyH_take (i := 1) (oi := ⟨some 70, _, _, _, _, _⟩) (v := ?_) rfl (by kernel_rfl) (by kernel_rfl) (by kernel_rfl) (fun _ _ _ h => h) (Or.inl ⟨by kernel_rfl, ?_⟩) (by assumption) ?_
          rotate_left 1
          · intro w' hw'; have u1 := below_heap hw' HC2.out; clear hw'; go_simp; try with_reducible rfl
          try simp only [Act.put, List.setIfInBounds_toArray, List.set_cons_zero, List.set_cons_succ]
          refine wpAnyH_take (i := 2) (oi := ⟨some 71, _, _, _, _, _⟩) (v := ?_) rfl (by kernel_rfl) (by kernel_rfl) (by kernel_rfl) (fun _ _ _ h => h) (Or.inl ⟨by kernel_rfl, ?_⟩) (by assumption) ?_
          rotate_left 1
          · intro w' hw'; clear hw'; go_simp; try with_reducible rfl
          try simp only [Act.put, List.setIfInBounds_toArray, List.set_cons_zero, List.set_cons_succ]
          refine wpAnyH_take (i := 3) (oi := ⟨some 72, _, _, _, _, _⟩) (v := ?_) rfl (by kernel_rfl) (by kernel_rfl) (by kernel_rfl) (fun _ _ _ h => h) (Or.inl ⟨by kernel_rfl, ?_⟩) (by assumption) ?_
          rotate_left 1
          · intro w' hw'; clear hw'; go_simp; try with_reducible rfl
          try simp only [Act.put, List.setIfInBounds_toArray, List.set_cons_zero, List.set_cons_succ]
          refine wpAnyH_take (i := 4) (oi := ⟨some 73, _, _, _, _, _⟩) (v := ?_) rfl (by kernel_rfl) (by kernel_rfl) (by kernel_rfl) (fun _ _ _ h => h) (Or.inl ⟨by kernel_rfl, ?_⟩) (by assumption) ?_
          rotate_left 1
          · intro w' hw'; clear hw'; go_simp; try with_reducible rfl
          try simp only [Act.put, List.setIfInBounds_toArray, List.set_cons_zero, List.set_cons_succ]
          refine wpAnyH_take (i := 5) (oi := ⟨some 74, _, _, _, _, _⟩) (v := ?_) rfl (by kernel_rfl) (by kernel_rfl) (by kernel_rfl) (fun _ _ _ h => h) (Or.inl ⟨by kernel_rfl, ?_⟩) (by assumption) ?_
          rotate_left 1
          · intro w' hw'; have u1 := below_heap hw' HR1.out; clear hw'; go_simp; try with_reducible rfl
          try simp only [Act.put, List.setIfInBounds_toArray, List.set_cons_zero, List.set_cons_succ]
          refine wpAnyH_ready (rs := [6]) (by kernel_rfl) (by simp) (AllReadyH.cons (o := ⟨some 75, .call _, _, _, _, _⟩) rfl (fun K hK => ?_) AllReadyH.nil)
          go_simp
          refine (HHS.out _ hHeld).mono ?_
          rintro e5 w5 ⟨rfl, rfl⟩
          refine hK.out _ _ hHeld (fun hHeld2 => ?_)
          rw [HAN.out]
          clear hK K hHeld
          try simp only [Act.put, List.setIfInBounds_toArray, List.set_cons_zero, List.set_cons_succ]
          refine wpAnyH_done (by kernel_rfl) ?_ _
          have HS5 := Lib.hid (HS.out.below hHeld2)
          clear hHeld2 HS HC2 HR1 HHS HAN
          go_wp2_with fail
          go_roundg (en' - (i + 1))
          case measure => have := HGI.out; have := HI3.out; omega
          case rel => exact ⟨i + 1, by have := HGI.out; have := HI3.out; omega, by go_num, HS5.out⟩
end Go.Proofs.YthnabnieajojjaaGreatDoor

/-
  Chapter 24: a full forest; clocks at their limits. The law ReplayKnown.
-/
namespace Go.Proofs.YthnabnieajojjaaGreatDoor
open Go.RowKit
set_option maxRecDepth 100000

def logL (n : Nat) : List EvtM := (List.range n).map (fun i : Nat => loginE ((i : Int) + 1) i 0 (10 + (i : Int)))
theorem logL_len (n : Nat) : (logL n).length = n := by simp [logL]
theorem logL_succ (n : Nat) : logL (n + 1) = logL n ++ [loginE ((n : Int) + 1) n 0 (10 + (n : Int))] := by simp [logL, List.range_succ]
theorem logL_ok {n : Nat} (h : n ≤ 32) : ∀ e ∈ logL n, EvOk e := fun e he => by
  obtain ⟨i, hi, rfl⟩ := List.mem_map.1 he
  have := List.mem_range.1 hi
  exact loginE_ok _ _ _ _ ⟨by omega, by omega⟩ ⟨by omega, by omega⟩ ⟨by decide, by decide⟩ ⟨by omega, by omega⟩
def fullM : StM := (allM ⟨0, 0, []⟩ (logL 32)).1
theorem full_clock : fullM.clock = 0 ∧ fullM.births = 32 ∧ fullM.l.length = 32 ∧ (allM ⟨0, 0, []⟩ (logL 32)).2 = 32 := by decide +kernel
theorem full_19 : (applyM fullM (loginE 33 3 0 9)).1 = 19 := by decide +kernel
theorem full_l : fullM.l = (logL 32).map (·.s) := by kernel_rfl
theorem full_may : ∀ t : Nat, t < 50 → 1 ≤ t → mayE (tickR (t : Int)) = true := by decide +kernel
theorem full_cnt : ∀ t : Nat, t < 50 → 1 ≤ t → (((((logL 32).map (·.s)).filter (fun s => !decide (s.deadline ≤ 0 + (t : Int)))).length : Nat) : Int) = min 32 (max 0 (41 - (t : Int))) := by decide +kernel
theorem full_ticks (t : Nat) (h1 : t < 50) (h2 : 1 ≤ t) : (applyM fullM (tickR (t : Int))).1 = 0 ∧ (((applyM fullM (tickR (t : Int))).2.l.length : Nat) : Int) = min 32 (max 0 (41 - (t : Int))) := by
  have hm := full_may t h1 h2
  have hs : Snd fullM := Snd.zero.all _
  have e : applyM fullM (tickR (t : Int)) = (0, ⟨fullM.clock + (t : Int), fullM.births, withoutM (fun s => decide (s.deadline ≤ fullM.clock + (t : Int))) fullM.l⟩) := by
    unfold applyM
    rw [if_pos hm, if_neg (show ¬ (tickR (t : Int)).kind = 0 by show ¬ (2 : Int) = 0; decide), if_neg (show ¬ (tickR (t : Int)).kind = 1 by show ¬ (2 : Int) = 1; decide), if_neg (by rw [full_clock.1]; show ¬ ((0 : Int) < 0 ∨ 1099511627776 - (t : Int) < 0); omega)]
    rfl
  rw [e]
  refine ⟨rfl, ?_⟩
  show (((withoutM (fun s => decide (s.deadline ≤ fullM.clock + (t : Int))) fullM.l).length : Nat) : Int) = _
  rw [hs.tick, full_clock.1, full_l]
  exact full_cnt t h1 h2
def clockL : List Int := [(-9223372036854775808), (-1), 0, 1099511627773, 1099511627776, 1099511627777, 9223372036854775807]
theorem clock_64 : ∀ i, i < 7 → I64 (clockL.getD i 0) := by
  intro i hi
  have h : i = 0 ∨ i = 1 ∨ i = 2 ∨ i = 3 ∨ i = 4 ∨ i = 5 ∨ i = 6 := by omega
  rcases h with rfl | rfl | rfl | rfl | rfl | rfl | rfl <;> exact ⟨by decide, by decide⟩
def revR (n : Int) : EvtM := ⟨1, noSes, n, 0⟩
theorem revR_ok (n : Int) (h : I64 n) : EvOk (revR n) := by
  have z : ∀ n : Int, -9223372036854775808 ≤ n → n ≤ 9223372036854775807 → I64 n := fun n a b => ⟨a, b⟩
  exact ⟨(show (0 : Nat) ≤ 140737488351232 by decide), (show (0 : Nat) ≤ 140737488351232 by decide), (show (0 : Nat) < 2 ^ 64 by decide), z 1 (by decide) (by decide), h, z 0 (by decide) (by decide), z 0 (by decide) (by decide), z 0 (by decide) (by decide), z 0 (by decide) (by decide), z 0 (by decide) (by decide), z 0 (by decide) (by decide), z 0 (by decide) (by decide), z 0 (by decide) (by decide), z 0 (by decide) (by decide), z 0 (by decide) (by decide)⟩
theorem end_ok : ∀ e ∈ logL 32 ++ [tickR 20, revR 30], EvOk e := fun e he => by
  rcases List.mem_append.1 he with he | he
  · exact logL_ok (Nat.le_refl 32) e he
  · simp only [List.mem_cons, List.not_mem_nil, or_false] at he
    rcases he with rfl | rfl
    · exact tickR_ok _ ⟨by decide, by decide⟩
    · exact revR_ok _ ⟨by decide, by decide⟩
theorem appEvt2 {w : World} {ops : Array Oper} {rest : List Oper} {o : Oper} {a : Act} {Q : Exit → Act → World → Prop} (hgd : o.guard = none) (s x : Operand)
    (ho : o.op = .call { callee := .builtin .append, args := #[s, x], argTypes := #[44, 44] })
    (base : Nat) (v : Value) (l : List EvtM) (hs : a.eval s = v) (hown : OwnE w base v l)
    (ad : Addr) (c : Nat) (y y2 : EvtM) (hx : a.eval x = .slice (some ad) 2 c) (hy : ∀ j u, (y.cells.toList ++ y2.cells.toList)[j]? = some u → w.cell? (ad.add j) = some u)
    (hroom : l.length + 2 ≤ 1034834473200) (hbase : base ≤ w.heap.size)
    (h : ∀ v' w', OwnE w' base v' (l ++ [y, y2]) → w.grownBy w' v.ownBlock → Moved w v v' → wpList Tryz.prog ops Q rest (a.put o.dst v') w') : wpList Tryz.prog ops Q (o :: rest) a w := by
  obtain ⟨i0, hi, hz0, hz1, hz2⟩ := info_parts info_evt
  refine wpList_append_own2 hgd s x 44 ho base 38 i0 _ 15 136 Tryz.underlying44 hi hz0 hz1 hz2 rfl (by decide) v l.length (flatE l) hs hown ad 2 c (y.cells.toList ++ y2.cells.toList) hx rfl hy (fun u hu => ?_) (by unfold maxLen; omega) (by omega) hbase (fun v' w' h1 h2 h3 => h v' w' ?_ h2 h3)
  · rcases List.mem_append.1 hu with hu | hu
    · exact y.oneE u hu
    · exact y2.oneE u hu
  · unfold OwnE
    rw [show l ++ [y, y2] = (l ++ [y]) ++ [y2] by simp, flatE_append, flatE_append, flatE_one, flatE_one, List.length_append, List.length_append, List.append_assoc]; exact h1
/-- What stands in the rounds: the list, the full forest. -/
structure FulK (w wr : World) (ov : Value) (q : Nat) (sa : Option Addr) (sc : Nat) : Prop where
  l : OwnE wr w.heap.size ov (logL 32)
  bx : Box wr q #[.int .i64 0, .int .i64 32, .slice sa 32 sc] 25
  ow : RdS wr (.slice sa 32 sc) fullM.l
  g : ErrType wr
  bel : Below w.heap.size w wr
theorem FulK.below {w wr w2 : World} {ov : Value} {q : Nat} {sa : Option Addr} {sc : Nat} (h : FulK w wr ov q sa sc) (hb : Below wr.heap.size wr w2) : FulK w w2 ov q sa sc :=
  ⟨h.l.below hb, h.bx.below hb, h.ow.below hb, h.g.below hb, h.bel.trans (hb.mono h.bel.size)⟩
/-- And the clocks. -/
structure ClkI (w wr : World) (ov : Value) (q : Nat) (sa : Option Addr) (sc : Nat) (ca : Option Addr) : Prop where
  f : FulK w wr ov q sa sc
  c : Rd wr (.slice ca 7 7) 7 (clockL.map (Value.int .i64))
theorem ClkI.below {w wr w2 : World} {ov : Value} {q : Nat} {sa : Option Addr} {sc : Nat} {ca : Option Addr} (h : ClkI w wr ov q sa sc ca) (hb : Below wr.heap.size wr w2) : ClkI w w2 ov q sa sc ca := ⟨h.f.below hb, h.c.below hb⟩
theorem ClkI.at {w wr : World} {ov : Value} {q : Nat} {sa : Option Addr} {sc : Nat} {ca : Option Addr} (h : ClkI w wr ov q sa sc ca) (i : Nat) (hi : i < 7) : ∃ b off, ca = some ⟨b, off, none⟩ ∧ wr.cell? ⟨b, off + i, none⟩ = some (.int .i64 (clockL.getD i 0)) := by
  obtain ⟨a', cap', e, _, _, _, h3⟩ := h.c
  injection e with e1 e2 e3
  subst e1
  obtain ⟨b, off, h4, h5⟩ := h3 i (by rw [List.length_map]; exact hi)
  refine ⟨b, off, h4, ?_⟩
  rw [h5, List.getD, List.getD, List.getElem?_map, List.getElem?_eq_getElem (show i < clockL.length from hi)]; rfl
theorem maxI {P : Program} (x y z : Int) (h : z = max x y) (ts : Array TypeId) (t : TypeId) (w : World) : (Builtin.max_ ts t #[.int .i64 x, .int .i64 y]).run P w = .ok (.int .i64 z) w := by
  rw [run_max_int2, h]
  have : (if y > x then y else x) = max x y := by split <;> omega
  rw [this]
theorem minK {P : Program} (x y z : Int) (h : z = min x y) (ts : Array TypeId) (t : TypeId) (w : World) : (Builtin.min_ ts t #[.int .i64 x, .int .i64 y]).run P w = .ok (.int .i64 z) w := by
  rw [run_min_int2, h]
  have : (if y < x then y else x) = min x y := by split <;> omega
  rw [this]
set_option maxHeartbeats 25600000 in
theorem knownFull_calls (w : World) (hg : ErrType w) : Calls Tryz.prog 6 #[] w fun e w' => e = .returned (.bool true) ∧ Below w.heap.size w w' := by
  have HG := Lib.hid hg
  clear hg
  go_enter Tryz.func6, Tryz.ntmps6
  go_wp2_with fail
  go_loopg [1, 2] 32 (fun gk ov iv wr => ∃ k : Nat, gk + k = 32 ∧ iv = .int .i64 (k : Int) ∧ OwnE wr w.heap.size ov (logL k) ∧ Below w.heap.size w wr)
  case atStart => exact ⟨0, rfl, rfl, OwnE.nil _ _, Below.refl _ _⟩
  case round =>
    obtain ⟨k, hgk, rfl, hown, hb⟩ := hrel
    have k0 : (0 : Int) ≤ (k : Int) := by omega
    have HGK := Lib.hid hgk
    have HO := Lib.hid hown
    have HB := Lib.hid hb
    clear hgk hown hb
    by_cases hk : k < 32
    · have k1 : (k : Int) < 32 := by omega
      have HK := Lib.hid hk
      have HLK := Lib.hid (show (logL k).length + 1 ≤ 1034834473200 by rw [logL_len]; omega)
      have HT := Lib.hid (logL_succ k)
      obtain ⟨e, he⟩ : ∃ e, e = loginE ((k : Int) + 1) k 0 (10 + (k : Int)) := ⟨_, rfl⟩
      have hlc := fun w' => login_calls ((k : Int) + 1) k 0 (10 + (k : Int)) w'
      rw [← he] at HT hlc
      have HLC := Lib.hid hlc
      clear hk he hlc
      go_wp2_with fail
      refine (HLC.out wr).mono ?_
      rintro ev w1 ⟨rfl, hb1⟩
      have HO1 := Lib.hid (HO.out.below hb1)
      have HB1 := Lib.hid (HB.out.trans (hb1.mono HB.out.size))
      clear hb1 HO HB HLC
      go_wp2_with (refine wpList_buildSlice_s (op := ⟨some 25, _, _, _, _, _⟩) (by rfl) 44 1 #[(0, .tmp 24)] rfl #[(0, .agg e.cells)] (by kernel_rfl) _ _ (buildE e w1) ?_)
      intro w2 hw2
      have hb2 : Below w1.heap.size w1 w2 := by rw [hw2.out]; exact below_alloc _ _
      have HC2 := Lib.hid (show ∀ j u, e.cells.toList[j]? = some u → w2.cell? ((⟨w1.heap.size, 0, none⟩ : Addr).add j) = some u by rw [hw2.out]; exact newCellsE w1 e _)
      have HO2 := Lib.hid (HO1.out.below hb2)
      have HB2 := Lib.hid (HB1.out.trans (hb2.mono HB1.out.size))
      clear hw2 hb2 HO1 HB1
      go_wp2_with (at_builtin; refine appEvt rfl _ _ rfl w.heap.size _ (logL k) rfl HO2.out ⟨w1.heap.size, 0, none⟩ 1 e rfl HC2.out HLK.out (by have := HB2.out.size; omega) ?_)
      intro v' w3 hown' hg' _
      have HB3 := Lib.hid (HB2.out.trans (below_grown hg' HB2.out.size (fun q hq => (HO2.out.lt q hq).1)))
      have HO3 := Lib.hid hown'
      clear hg' hown' HO2 HB2 HC2
      go_wp2_with fail
      go_roundg (32 - (k + 1))
      case measure => have := HGK.out; have := HK.out; omega
      case rel => exact ⟨k + 1, by have := HGK.out; have := HK.out; omega, by go_num, by rw [HT.out]; exact HO3.out, HB3.out⟩
    have k1 : ¬ (k : Int) < 32 := by omega
    obtain rfl : k = 32 := by have := HGK.out; omega
    clear hk k0 HGK
    obtain ⟨oa, oc, rfl, _⟩ := HO.out.slice
    rw [logL_len] at HO ⊢
    have hac := allP_calls ⟨0, 0, []⟩ (logL 32) (.slice none 0 0) (.slice oa 32 oc) wr (Rd.nil wr) HO.out.rd (by rw [logL_len]; decide) (logL_ok (Nat.le_refl 32))
    rw [show (allM ⟨0, 0, []⟩ (logL 32)).1 = fullM from rfl, full_clock.1, full_clock.2.1, full_clock.2.2.2] at hac
    have HAC := Lib.hid hac
    clear hac
    go_wp2_with fail
    refine HAC.out.mono ?_
    rintro e3 w3 ⟨sv, rfl, ho, hb3⟩
    obtain ⟨sa, sc, rfl, _⟩ := ho.slice
    rw [full_clock.2.2.1] at ho ⊢
    have hba := below_alloc w3 (.cells #[.int .i64 0, .int .i64 32, .slice sa 32 sc] 25)
    have hb4 := HB.out.trans (hb3.mono HB.out.size)
    have hb5 := hb4.trans (hba.mono hb4.size)
    have HF := Lib.hid (show FulK w (w3.alloc (.cells #[.int .i64 0, .int .i64 32, .slice sa 32 sc] 25)) (.slice oa 32 oc) w3.heap.size sa sc from
      ⟨(HO.out.below hb3).below hba, Box.new _ _ _, ho.rd.below hba, HG.out.below hb5, hb5⟩)
    clear ho hb3 hba hb4 hb5 HO HB HAC
    go_wp2_with fail
    generalize (w3.alloc (.cells #[.int .i64 0, .int .i64 32, .slice sa 32 sc] 25)) = wr4 at HF ⊢
    generalize w3.heap.size = q at HF ⊢
    have hap := fun v w' h => apply_calls fullM (loginE 33 3 0 9) v w' h (by rw [full_clock.2.2.1]; decide) (by decide) (by decide) (by decide)
    have hap0 := fun (t : Nat) v w' h => apply_calls fullM (tickR (t : Int)) v w' h (by rw [full_clock.2.2.1]; decide) (show (0 : Nat) ≤ 9223372036854775807 by decide) (show (0 : Nat) ≤ 9223372036854775807 by decide) (show (0 : Nat) < 2 ^ 64 by decide)
    rw [full_19, full_clock.1, full_clock.2.1] at hap
    rw [full_clock.1, full_clock.2.1] at hap0
    have HT0 := Lib.hid hap0
    obtain ⟨C2, hC2⟩ : ∃ c, c = (applyM fullM (loginE 33 3 0 9)).2.clock := ⟨_, rfl⟩
    obtain ⟨B2, hB2⟩ : ∃ c, c = (applyM fullM (loginE 33 3 0 9)).2.births := ⟨_, rfl⟩
    obtain ⟨L2, hL2⟩ : ∃ c, c = (applyM fullM (loginE 33 3 0 9)).2.l := ⟨_, rfl⟩
    rw [← hC2, ← hB2, ← hL2] at hap
    obtain ⟨m, hM⟩ : ∃ m, m = L2.length := ⟨_, rfl⟩
    have HM := Lib.hid hM
    have HAP := Lib.hid hap
    clear hap hap0 hC2 hB2 hL2 hM
    obtain ⟨x33, hx33⟩ : ∃ x, x = loginE 33 3 0 9 := ⟨_, rfl⟩
    have hlc := fun w' => login_calls 33 3 0 9 w'
    rw [← hx33] at HAP hlc
    have HLC := Lib.hid hlc
    clear hx33 hlc
    have HQ := Lib.hid (show q < wr4.heap.size from HF.out.bx.lt)
    go_upto_region 7 with (fail)
    go_cut [6] (fun s6 wx => s6 = errV 19 ∧ FulK w wx (.slice oa 32 oc) q sa sc)
    case first =>
      refine wp_region_held_drew (S := fun W => Below wr4.heap.size wr4 W) (by kernel_rfl) (below_drew wr4) (fun hHeld => ?_)
      refine wpAnyH_take (i := 0) (oi := ⟨some 34, .load _ _, _, _, _, _⟩) (v := .agg #[.int .i64 0, .int .i64 32, .slice sa 32 sc]) rfl (by kernel_rfl) (by kernel_rfl) (by kernel_rfl) (fun _ _ _ h => h) (Or.inl ⟨by kernel_rfl, fun w' hw' => exec_load_m 25 (.tmp 3) rfl (q) (0) rfl (#[.int .i64 0, .int .i64 32, .slice sa 32 sc]).toList _ (zrangeS (HF.out.bx.below hw')) Tryz.underlying25 rfl (by kernel_rfl)⟩) (by assumption) ?_
      try simp only [Act.put, List.setIfInBounds_toArray, List.set_cons_zero, List.set_cons_succ]
      refine wpAnyH_ready (rs := [1, 6]) (by kernel_rfl) (by simp) (AllReadyH.cons (o := ⟨some 35, .call _, _, _, _, _⟩) rfl (fun K hK => ?_) (AllReadyH.cons (o := ⟨some 5, .alloc _, _, _, _, _⟩) rfl (fun K hK => ?_) AllReadyH.nil))
      · skip
        go_simp
        refine (HLC.out _).mono ?_
        rintro e3 w5 ⟨rfl, hb3⟩
        have h5' := below_trans hHeld hb3
        refine hK.out _ _ h5' (fun h5 => ?_)
        clear hK K hb3 h5'
        try simp only [Act.put, List.setIfInBounds_toArray, List.set_cons_zero, List.set_cons_succ]
        refine wpAnyH_ready (rs := [2, 6]) (by kernel_rfl) (by simp) (AllReadyH.cons (o := ⟨some 36, .call _, _, _, _, _⟩) rfl (fun K hK => ?_) (AllReadyH.cons (o := ⟨some 5, .alloc _, _, _, _, _⟩) rfl (fun K hK => ?_) AllReadyH.nil))
        · skip
          go_simp
          refine (HAP.out _ w5 (HF.out.ow.below h5)).mono ?_
          rintro e3 w6 ⟨v, rfl, ho, hb3⟩
          have h6' := below_trans h5 hb3
          refine hK.out _ _ h6' (fun h6 => ?_)
          obtain ⟨pa, pc, rfl, _⟩ := ho.slice
          rw [← HM.out]
          clear ho
          clear hK K hb3 h6'
          try simp only [Act.put, List.setIfInBounds_toArray, List.set_cons_zero, List.set_cons_succ]
          refine wpAnyH_take (i := 3) (oi := ⟨some 33, _, _, _, _, _⟩) (v := ?_) rfl (by kernel_rfl) (by kernel_rfl) (by kernel_rfl) (fun _ _ _ h => h) (Or.inl ⟨by kernel_rfl, ?_⟩) (by assumption) ?_
          rotate_left 1
          · intro w' hw'; clear hw'; go_simp; try with_reducible rfl
          try simp only [Act.put, List.setIfInBounds_toArray, List.set_cons_zero, List.set_cons_succ]
          refine wpAnyH_take (i := 4) (oi := ⟨some 37, _, _, _, _, _⟩) (v := ?_) rfl (by kernel_rfl) (by kernel_rfl) (by kernel_rfl) (fun _ _ _ h => h) (Or.inl ⟨by kernel_rfl, ?_⟩) (by assumption) ?_
          rotate_left 1
          · intro w' hw'; clear hw'; go_simp; try with_reducible rfl
          try simp only [Act.put, List.setIfInBounds_toArray, List.set_cons_zero, List.set_cons_succ]
          refine wpAnyH_take (i := 5) (oi := ⟨some 38, _, _, _, _, _⟩) (v := ?_) rfl (by kernel_rfl) (by kernel_rfl) (by kernel_rfl) (fun _ _ _ h => h) (Or.inl ⟨by kernel_rfl, ?_⟩) (by assumption) ?_
          rotate_left 1
          · intro w' hw'; clear hw'; go_simp; try with_reducible rfl
          try simp only [Act.put, List.setIfInBounds_toArray, List.set_cons_zero, List.set_cons_succ]
          refine wpAnyH_ready (rs := [6]) (by kernel_rfl) (by simp) (AllReadyH.cons (o := ⟨some 5, .alloc _, _, _, _, _⟩) rfl (fun K hK => ?_) AllReadyH.nil)
          go_simp
          have hba := below_alloc w6 (.cells #[.int .i64 0, .int .i64 0, .slice none 0 0] 25)
          have h7' := below_trans h6 hba
          refine hK.out _ _ h7' (fun h7 => ?_)
          have HX8 := Lib.hid (Box.new w6 #[.int .i64 0, .int .i64 0, .slice none 0 0] 25)
          have HQ8 := Lib.hid (show wr4.heap.size ≤ (w6).heap.size from (h6).size)
          clear hK K h7' hba
          try simp only [Act.put, List.setIfInBounds_toArray, List.set_cons_zero, List.set_cons_succ]
          refine wpAnyH_ready (rs := [7]) (by kernel_rfl) (by simp) (AllReadyH.cons (o := ⟨none, .store 25 (.tmp 5) (.tmp 37), _, _, _, none⟩) rfl (fun K hK => ?_) AllReadyH.nil)
          rw [if_pos (by kernel_rfl)]
          refine wp_store_kk 25 (.tmp 5) (.tmp 37) rfl (w6.heap.size) 0 [.int .i64 C2, .int .i64 B2, .slice pa m pc] rfl rfl HX8.out.there3 (by kernel_rfl) (one3 _ _ _ _ _) ?_
          obtain ⟨hx9, hm9⟩ := HX8.out.set3 (.int .i64 C2) (.int .i64 B2) (.slice pa m pc)
          have HW9 := Lib.hid ((h7).trans (hm9.below (B := wr4.heap.size) (h7).size (fun i hi => by have := HQ8.out; omega)))
          refine hK.out _ _ HW9.out (fun _ => ?_)
          clear hK K hx9 hm9 HX8 HQ8
          generalize (World.setCells _ _ _ _) = w9 at HW9 ⊢
          try simp only [Act.put]
          refine wpAnyH_take (i := 8) (oi := ⟨some 6, _, _, _, _, _⟩) (v := ?_) rfl (by kernel_rfl) (by kernel_rfl) (by kernel_rfl) (fun _ _ _ h => h) (Or.inl ⟨by kernel_rfl, ?_⟩) (by assumption) ?_
          rotate_left 1
          · intro w' hw'; clear hw'; go_simp; try with_reducible rfl
          try simp only [Act.put, List.setIfInBounds_toArray, List.set_cons_zero, List.set_cons_succ]
          refine wpAnyH_done (by kernel_rfl) ?_ _
          have HF9 := Lib.hid (HF.out.below HW9.out)
          clear HW9 HF HAP HLC HM HQ
          clear hHeld
          go_wp2_with fail
          go_meet
          exact ⟨rfl, HF9.out⟩
        · skip
          go_simp
          have hba := below_alloc w5 (.cells #[.int .i64 0, .int .i64 0, .slice none 0 0] 25)
          have h6' := below_trans h5 hba
          refine hK.out _ _ h6' (fun h6 => ?_)
          have HX8 := Lib.hid (Box.new w5 #[.int .i64 0, .int .i64 0, .slice none 0 0] 25)
          have HQ8 := Lib.hid (show wr4.heap.size ≤ (w5).heap.size from (h5).size)
          clear hK K h6' hba
          try simp only [Act.put, List.setIfInBounds_toArray, List.set_cons_zero, List.set_cons_succ]
          refine wpAnyH_ready (rs := [2]) (by kernel_rfl) (by simp) (AllReadyH.cons (o := ⟨some 36, .call _, _, _, _, _⟩) rfl (fun K hK => ?_) AllReadyH.nil)
          go_simp
          refine (HAP.out _ _ (HF.out.ow.below h6)).mono ?_
          rintro e3 w6 ⟨v, rfl, ho, hb3⟩
          have h7' := below_trans h6 hb3
          refine hK.out _ _ h7' (fun h7 => ?_)
          have HX9 := Lib.hid (HX8.out.below hb3)
          clear HX8
          have HX8 := HX9
          clear HX9
          obtain ⟨pa, pc, rfl, _⟩ := ho.slice
          rw [← HM.out]
          clear ho
          clear hK K hb3 h7'
          try simp only [Act.put, List.setIfInBounds_toArray, List.set_cons_zero, List.set_cons_succ]
          refine wpAnyH_take (i := 3) (oi := ⟨some 33, _, _, _, _, _⟩) (v := ?_) rfl (by kernel_rfl) (by kernel_rfl) (by kernel_rfl) (fun _ _ _ h => h) (Or.inl ⟨by kernel_rfl, ?_⟩) (by assumption) ?_
          rotate_left 1
          · intro w' hw'; clear hw'; go_simp; try with_reducible rfl
          try simp only [Act.put, List.setIfInBounds_toArray, List.set_cons_zero, List.set_cons_succ]
          refine wpAnyH_take (i := 4) (oi := ⟨some 37, _, _, _, _, _⟩) (v := ?_) rfl (by kernel_rfl) (by kernel_rfl) (by kernel_rfl) (fun _ _ _ h => h) (Or.inl ⟨by kernel_rfl, ?_⟩) (by assumption) ?_
          rotate_left 1
          · intro w' hw'; clear hw'; go_simp; try with_reducible rfl
          try simp only [Act.put, List.setIfInBounds_toArray, List.set_cons_zero, List.set_cons_succ]
          refine wpAnyH_take (i := 5) (oi := ⟨some 38, _, _, _, _, _⟩) (v := ?_) rfl (by kernel_rfl) (by kernel_rfl) (by kernel_rfl) (fun _ _ _ h => h) (Or.inl ⟨by kernel_rfl, ?_⟩) (by assumption) ?_
          rotate_left 1
          · intro w' hw'; clear hw'; go_simp; try with_reducible rfl
          try simp only [Act.put, List.setIfInBounds_toArray, List.set_cons_zero, List.set_cons_succ]
          refine wpAnyH_ready (rs := [7]) (by kernel_rfl) (by simp) (AllReadyH.cons (o := ⟨none, .store 25 (.tmp 5) (.tmp 37), _, _, _, none⟩) rfl (fun K hK => ?_) AllReadyH.nil)
          rw [if_pos (by kernel_rfl)]
          refine wp_store_kk 25 (.tmp 5) (.tmp 37) rfl (w5.heap.size) 0 [.int .i64 C2, .int .i64 B2, .slice pa m pc] rfl rfl HX8.out.there3 (by kernel_rfl) (one3 _ _ _ _ _) ?_
          obtain ⟨hx9, hm9⟩ := HX8.out.set3 (.int .i64 C2) (.int .i64 B2) (.slice pa m pc)
          have HW9 := Lib.hid ((h7).trans (hm9.below (B := wr4.heap.size) (h7).size (fun i hi => by have := HQ8.out; omega)))
          refine hK.out _ _ HW9.out (fun _ => ?_)
          clear hK K hx9 hm9 HX8 HQ8
          generalize (World.setCells _ _ _ _) = w9 at HW9 ⊢
          try simp only [Act.put]
          refine wpAnyH_take (i := 8) (oi := ⟨some 6, _, _, _, _, _⟩) (v := ?_) rfl (by kernel_rfl) (by kernel_rfl) (by kernel_rfl) (fun _ _ _ h => h) (Or.inl ⟨by kernel_rfl, ?_⟩) (by assumption) ?_
          rotate_left 1
          · intro w' hw'; clear hw'; go_simp; try with_reducible rfl
          try simp only [Act.put, List.setIfInBounds_toArray, List.set_cons_zero, List.set_cons_succ]
          refine wpAnyH_done (by kernel_rfl) ?_ _
          have HF9 := Lib.hid (HF.out.below HW9.out)
          clear HW9 HF HAP HLC HM HQ
          clear hHeld
          go_wp2_with fail
          go_meet
          exact ⟨rfl, HF9.out⟩
      · skip
        go_simp
        have hba := below_alloc wr4.drew (.cells #[.int .i64 0, .int .i64 0, .slice none 0 0] 25)
        have h5' := below_trans hHeld hba
        refine hK.out _ _ h5' (fun h5 => ?_)
        have HX8 := Lib.hid (Box.new wr4.drew #[.int .i64 0, .int .i64 0, .slice none 0 0] 25)
        have HQ8 := Lib.hid (show wr4.heap.size ≤ (wr4.drew).heap.size from (hHeld).size)
        clear hK K h5' hba
        try simp only [Act.put, List.setIfInBounds_toArray, List.set_cons_zero, List.set_cons_succ]
        refine wpAnyH_ready (rs := [1]) (by kernel_rfl) (by simp) (AllReadyH.cons (o := ⟨some 35, .call _, _, _, _, _⟩) rfl (fun K hK => ?_) AllReadyH.nil)
        go_simp
        refine (HLC.out _).mono ?_
        rintro e3 w5 ⟨rfl, hb3⟩
        have h6' := below_trans h5 hb3
        refine hK.out _ _ h6' (fun h6 => ?_)
        have HX9 := Lib.hid (HX8.out.below hb3)
        clear HX8
        have HX8 := HX9
        clear HX9
        clear hK K hb3 h6'
        try simp only [Act.put, List.setIfInBounds_toArray, List.set_cons_zero, List.set_cons_succ]
        refine wpAnyH_ready (rs := [2]) (by kernel_rfl) (by simp) (AllReadyH.cons (o := ⟨some 36, .call _, _, _, _, _⟩) rfl (fun K hK => ?_) AllReadyH.nil)
        go_simp
        refine (HAP.out _ w5 (HF.out.ow.below h6)).mono ?_
        rintro e3 w6 ⟨v, rfl, ho, hb3⟩
        have h7' := below_trans h6 hb3
        refine hK.out _ _ h7' (fun h7 => ?_)
        have HX9 := Lib.hid (HX8.out.below hb3)
        clear HX8
        have HX8 := HX9
        clear HX9
        obtain ⟨pa, pc, rfl, _⟩ := ho.slice
        rw [← HM.out]
        clear ho
        clear hK K hb3 h7'
        try simp only [Act.put, List.setIfInBounds_toArray, List.set_cons_zero, List.set_cons_succ]
        refine wpAnyH_take (i := 3) (oi := ⟨some 33, _, _, _, _, _⟩) (v := ?_) rfl (by kernel_rfl) (by kernel_rfl) (by kernel_rfl) (fun _ _ _ h => h) (Or.inl ⟨by kernel_rfl, ?_⟩) (by assumption) ?_
        rotate_left 1
        · intro w' hw'; clear hw'; go_simp; try with_reducible rfl
        try simp only [Act.put, List.setIfInBounds_toArray, List.set_cons_zero, List.set_cons_succ]
        refine wpAnyH_take (i := 4) (oi := ⟨some 37, _, _, _, _, _⟩) (v := ?_) rfl (by kernel_rfl) (by kernel_rfl) (by kernel_rfl) (fun _ _ _ h => h) (Or.inl ⟨by kernel_rfl, ?_⟩) (by assumption) ?_
        rotate_left 1
        · intro w' hw'; clear hw'; go_simp; try with_reducible rfl
        try simp only [Act.put, List.setIfInBounds_toArray, List.set_cons_zero, List.set_cons_succ]
        refine wpAnyH_take (i := 5) (oi := ⟨some 38, _, _, _, _, _⟩) (v := ?_) rfl (by kernel_rfl) (by kernel_rfl) (by kernel_rfl) (fun _ _ _ h => h) (Or.inl ⟨by kernel_rfl, ?_⟩) (by assumption) ?_
        rotate_left 1
        · intro w' hw'; clear hw'; go_simp; try with_reducible rfl
        try simp only [Act.put, List.setIfInBounds_toArray, List.set_cons_zero, List.set_cons_succ]
        refine wpAnyH_ready (rs := [7]) (by kernel_rfl) (by simp) (AllReadyH.cons (o := ⟨none, .store 25 (.tmp 5) (.tmp 37), _, _, _, none⟩) rfl (fun K hK => ?_) AllReadyH.nil)
        rw [if_pos (by kernel_rfl)]
        refine wp_store_kk 25 (.tmp 5) (.tmp 37) rfl (wr4.drew.heap.size) 0 [.int .i64 C2, .int .i64 B2, .slice pa m pc] rfl rfl HX8.out.there3 (by kernel_rfl) (one3 _ _ _ _ _) ?_
        obtain ⟨hx9, hm9⟩ := HX8.out.set3 (.int .i64 C2) (.int .i64 B2) (.slice pa m pc)
        have HW9 := Lib.hid ((h7).trans (hm9.below (B := wr4.heap.size) (h7).size (fun i hi => by have := HQ8.out; omega)))
        refine hK.out _ _ HW9.out (fun _ => ?_)
        clear hK K hx9 hm9 HX8 HQ8
        generalize (World.setCells _ _ _ _) = w9 at HW9 ⊢
        try simp only [Act.put]
        refine wpAnyH_take (i := 8) (oi := ⟨some 6, _, _, _, _, _⟩) (v := ?_) rfl (by kernel_rfl) (by kernel_rfl) (by kernel_rfl) (fun _ _ _ h => h) (Or.inl ⟨by kernel_rfl, ?_⟩) (by assumption) ?_
        rotate_left 1
        · intro w' hw'; clear hw'; go_simp; try with_reducible rfl
        try simp only [Act.put, List.setIfInBounds_toArray, List.set_cons_zero, List.set_cons_succ]
        refine wpAnyH_done (by kernel_rfl) ?_ _
        have HF9 := Lib.hid (HF.out.below HW9.out)
        clear HW9 HF HAP HLC HM HQ
        clear hHeld
        go_wp2_with fail
        go_meet
        exact ⟨rfl, HF9.out⟩
    case rest =>
      obtain ⟨rfl, hf⟩ := hcut
      clear HF HAP HLC HM HQ
      have HF := Lib.hid hf
      have HPL := Lib.hid (plain_any 19 wc (by decide) (by decide) hf.g)
      clear hf
      go_wp2_with fail
      refine HPL.out.mono ?_
      rintro ev w5 ⟨rfl, hb⟩
      have HF5 := Lib.hid (HF.out.below hb)
      clear hb HF HPL
      go_wp2_with fail
      refine (replayNarrower_calls (logL 32) (.slice oa 32 oc) w5 HF5.out.l.rd (logL_ok (Nat.le_refl 32))).mono ?_
      rintro ev w6 ⟨rfl, hb⟩
      have hba := below_alloc w6 (.cells #[.int .i64 (-9223372036854775808), .int .i64 (-1), .int .i64 0, .int .i64 1099511627773, .int .i64 1099511627776, .int .i64 1099511627777, .int .i64 9223372036854775807] 3)
      have hcl := rd_ints (Box.new w6 #[.int .i64 (-9223372036854775808), .int .i64 (-1), .int .i64 0, .int .i64 1099511627773, .int .i64 1099511627776, .int .i64 1099511627777, .int .i64 9223372036854775807] 3) clockL 7 rfl (by decide) rfl
      have HC := Lib.hid (show ClkI w (w6.alloc (.cells #[.int .i64 (-9223372036854775808), .int .i64 (-1), .int .i64 0, .int .i64 1099511627773, .int .i64 1099511627776, .int .i64 1099511627777, .int .i64 9223372036854775807] 3)) (.slice oa 32 oc) q sa sc (some ⟨w6.heap.size, 0, none⟩) from ⟨(HF5.out.below hb).below hba, hcl⟩)
      clear hb hba hcl HF5
      go_wp2_with fail
      generalize (w6.alloc (.cells #[.int .i64 (-9223372036854775808), .int .i64 (-1), .int .i64 0, .int .i64 1099511627773, .int .i64 1099511627776, .int .i64 1099511627777, .int .i64 9223372036854775807] 3)) = w7 at HC ⊢
      generalize (some ⟨w6.heap.size, 0, none⟩ : Option Addr) = ca at HC ⊢
      go_loopg [8] 7 (fun gk iv wr => ∃ i : Nat, gk + i = 7 ∧ iv = .int .i64 (i : Int) ∧ ClkI w wr (.slice oa 32 oc) q sa sc ca)
      case atStart => exact ⟨0, rfl, rfl, HC.out⟩
      case round =>
        clear HC
        obtain ⟨i, hgi, rfl, hI⟩ := hrel
        have i0 : (0 : Int) ≤ (i : Int) := by omega
        have HGI := Lib.hid hgi
        have HC := Lib.hid hI
        clear hgi hI
        by_cases hi : i < 7
        · have i1 : (i : Int) < 7 := by omega
          have HI := Lib.hid hi
          clear hi
          go_wp2_with fail
          go_loopg [9] 5 (fun gj jv wr => ∃ j : Nat, gj + j = 6 ∧ jv = .int .i64 (j : Int) ∧ 1 ≤ j ∧ ClkI w wr (.slice oa 32 oc) q sa sc ca)
          case atStart => exact ⟨1, rfl, rfl, Nat.le_refl _, HC.out⟩
          case round =>
            clear HC
            obtain ⟨j, hgj, rfl, hj1, hI⟩ := hrel
            have j0 : (0 : Int) ≤ (j : Int) := by omega
            have HGJ := Lib.hid hgj
            have HJ1 := Lib.hid hj1
            have HC := Lib.hid hI
            clear hgj hI hj1
            by_cases hj : j < 6
            rotate_left
            · have j1 : ¬ (j : Int) < 6 := by omega
              clear hj
              go_wp2_with fail
              go_roundg (7 - (i + 1))
              case measure => have := HGI.out; have := HI.out; omega
              case rel => exact ⟨i + 1, by have := HGI.out; have := HI.out; omega, by go_num, HC.out⟩
            have j1 : (j : Int) < 6 := by omega
            have HJ := Lib.hid hj
            clear hj
            go_wp2_with fail
            refine (two_calls wr).mono ?_
            rintro ev w8 ⟨g, rfl, ho, hb⟩
            obtain ⟨cb, co, hca, hcc⟩ := HC.out.at i HI.out
            subst hca
            obtain ⟨c, hcd⟩ : ∃ c, c = clockL.getD i 0 := ⟨_, rfl⟩
            rw [← hcd] at hcc
            have hba := below_alloc w8 (.cells #[.int .i64 c, .int .i64 9, .slice (some ⟨g, 0, none⟩) 2 2] 25)
            have HX := Lib.hid (Box.new w8 #[.int .i64 c, .int .i64 9, .slice (some ⟨g, 0, none⟩) 2 2] 25)
            have HO := Lib.hid (ho.own.rd.below hba)
            have hcc8 := below_heap hb hcc
            have u1 : (w8.alloc (.cells #[.int .i64 40, .int .i64 9, .slice (some ⟨g, 0, none⟩) 2 2] 25)).cell? ⟨cb, co + i, none⟩ = some (.int .i64 c) := below_heap (below_alloc w8 _) hcc8
            have HC9 := Lib.hid ((HC.out.below hb).below hba)
            have hc64 := clock_64 i HI.out
            rw [← hcd] at hc64
            have HRA := Lib.hid (fun (n : Int) v w' h hg => replayApplies_calls ⟨c, 9, twoL⟩ (tickR n) v w' h two_ok (show (0 : Nat) ≤ 9223372036854775807 by decide) (show (0 : Nat) ≤ 9223372036854775807 by decide) (show (0 : Nat) < 2 ^ 64 by decide) hg)
            clear ho hb hba hcc hcc8 HC hc64 hcd
            go_wp2_with fail
            refine (show Calls _ _ #[.agg #[.int .i64 c, .int .i64 9, .slice (some ⟨g, 0, none⟩) 2 2], .agg #[.int .i64 2, .int .i64 0, .int .i64 0, .int .i64 0, .int .i64 0, .int .i64 0, .string ⟨#[]⟩, .string ⟨#[]⟩, .int .u64 0, .int .i64 0, .int .i64 0, .int .i64 0, .int .i64 0, .int .i64 0, .int .i64 (j : Int)]] (w8.alloc (.cells #[.int .i64 c, .int .i64 9, .slice (some ⟨g, 0, none⟩) 2 2] 25)) _ from HRA.out (j : Int) _ _ HO.out HC9.out.f.g).mono ?_
            rintro ev w10 ⟨rfl, hb⟩
            have HX10 := Lib.hid (HX.out.below hb)
            have HO10 := Lib.hid (HO.out.below hb)
            have HC10 := Lib.hid (HC9.out.below hb)
            clear hb HX HO HC9 u1
            have c0 : w10.cell? ⟨w8.heap.size, 0, none⟩ = some (.int .i64 c) := HX10.out.cell 0 _ rfl
            have c1 : w10.cell? ⟨w8.heap.size, 1, none⟩ = some (.int .i64 9) := HX10.out.cell 1 _ rfl
            have c2 : w10.cell? ⟨w8.heap.size, 2, none⟩ = some (.slice (some ⟨g, 0, none⟩) 2 2) := HX10.out.cell 2 _ rfl
            go_wp2_with fail
            refine (show Calls _ _ #[.agg #[.int .i64 c, .int .i64 9, .slice (some ⟨g, 0, none⟩) 2 2], .agg #[.int .i64 2, .int .i64 0, .int .i64 0, .int .i64 0, .int .i64 0, .int .i64 0, .string ⟨#[]⟩, .string ⟨#[]⟩, .int .u64 0, .int .i64 0, .int .i64 0, .int .i64 0, .int .i64 0, .int .i64 0, .int .i64 1073741824]] w10 _ from HRA.out 1073741824 _ _ HO10.out HC10.out.f.g).mono ?_
            rintro ev w11 ⟨rfl, hb⟩
            have HC11 := Lib.hid (HC10.out.below hb)
            clear hb HX10 HO10 HC10 c0 c1 c2 HRA
            go_wp2_with fail
            go_roundg (5 - j)
            case measure => have := HGJ.out; have := HJ.out; omega
            case rel => exact ⟨j + 1, by have := HGJ.out; have := HJ.out; omega, by go_num, by omega, HC11.out⟩
        have i1 : ¬ (i : Int) < 7 := by omega
        have HF := Lib.hid HC.out.f
        clear hi HC
        go_wp2_with fail
        go_loopg [11] 49 (fun gk tv wr => ∃ t : Nat, gk + t = 50 ∧ tv = .int .i64 (t : Int) ∧ 1 ≤ t ∧ FulK w wr (.slice oa 32 oc) q sa sc)
        case atStart => exact ⟨1, rfl, rfl, Nat.le_refl _, HF.out⟩
        case round =>
          clear HF
          obtain ⟨t, hgt, rfl, ht1, hI⟩ := hrel
          have t0 : (0 : Int) ≤ (t : Int) := by omega
          have HGT := Lib.hid hgt
          have HT1 := Lib.hid ht1
          have HF := Lib.hid hI
          clear hgt hI ht1
          by_cases ht : t < 50
          · have t1 : (t : Int) < 50 := by omega
            have HT := Lib.hid ht
            clear ht
            have hap := HT0.out t _ wr HF.out.ow
            obtain ⟨f1, f2⟩ := full_ticks t HT.out HT1.out
            rw [f1, show errV 0 = .nilIface from rfl] at hap
            obtain ⟨L, hL⟩ : ∃ L, L = (applyM fullM (tickR (t : Int))).2.l := ⟨_, rfl⟩
            obtain ⟨C, hC⟩ : ∃ C, C = (applyM fullM (tickR (t : Int))).2.clock := ⟨_, rfl⟩
            obtain ⟨B, hB⟩ : ∃ B, B = (applyM fullM (tickR (t : Int))).2.births := ⟨_, rfl⟩
            rw [← hL] at hap f2
            rw [← hC, ← hB] at hap
            obtain ⟨m, hm⟩ : ∃ m, m = L.length := ⟨_, rfl⟩
            rw [← hm] at f2
            have HAP := Lib.hid hap
            have HM := Lib.hid hm
            have HF2 := Lib.hid f2
            have c0 : wr.cell? ⟨q, 0, none⟩ = some (.int .i64 0) := HF.out.bx.cell 0 _ rfl
            have c1 : wr.cell? ⟨q, 1, none⟩ = some (.int .i64 32) := HF.out.bx.cell 1 _ rfl
            have c2 : wr.cell? ⟨q, 2, none⟩ = some (.slice sa 32 sc) := HF.out.bx.cell 2 _ rfl
            clear hap f1 f2 hL hC hB hm
            go_wp2_with fail
            refine (show Calls _ _ #[.agg #[.int .i64 0, .int .i64 32, .slice sa 32 sc], .agg #[.int .i64 2, .int .i64 0, .int .i64 0, .int .i64 0, .int .i64 0, .int .i64 0, .string ⟨#[]⟩, .string ⟨#[]⟩, .int .u64 0, .int .i64 0, .int .i64 0, .int .i64 0, .int .i64 0, .int .i64 0, .int .i64 (t : Int)]] wr _ from HAP.out).mono ?_
            rintro ev w8 ⟨v, rfl, ho, hb⟩
            obtain ⟨pa, pc, rfl, _⟩ := ho.slice
            rw [← HM.out]
            have HF9 := Lib.hid ((HF.out.below hb).below (below_alloc w8 (.cells #[.int .i64 C, .int .i64 B, .slice pa m pc] 25)))
            obtain ⟨mx, hmx⟩ : ∃ mx, mx = max 0 (41 - (t : Int)) := ⟨_, rfl⟩
            have hma : ∀ ts tt w', (Builtin.max_ ts tt #[.int .i64 0, .int .i64 (41 - (t : Int))]).run Tryz.prog w' = .ok (.int .i64 mx) w' := fun ts tt w' => maxI _ _ _ hmx ts tt w'
            have hmi : ∀ ts tt w', (Builtin.min_ ts tt #[.int .i64 32, .int .i64 mx]).run Tryz.prog w' = .ok (.int .i64 (m : Int)) w' := fun ts tt w' => minK _ _ _ (by rw [HF2.out, hmx]) ts tt w'
            clear ho hb HF c0 c1 c2 hmx
            go_wp2_with fail
            go_roundg (49 - t)
            case measure => have := HGT.out; have := HT.out; omega
            case rel => exact ⟨t + 1, by have := HGT.out; have := HT.out; omega, by go_num, by omega, HF9.out⟩
          have t1 : ¬ (t : Int) < 50 := by omega
          clear ht
          have hba := below_alloc wr (.cells #[.int .i64 2, .int .i64 0, .int .i64 0, .int .i64 0, .int .i64 0, .int .i64 0, .string ⟨#[]⟩, .string ⟨#[]⟩, .int .u64 0, .int .i64 0, .int .i64 0, .int .i64 0, .int .i64 0, .int .i64 0, .int .i64 20, .int .i64 1, .int .i64 0, .int .i64 0, .int .i64 0, .int .i64 0, .int .i64 0, .string ⟨#[]⟩, .string ⟨#[]⟩, .int .u64 0, .int .i64 0, .int .i64 0, .int .i64 0, .int .i64 0, .int .i64 30, .int .i64 0] 38)
          have HO := Lib.hid (HF.out.l.below hba)
          have HC2 := Lib.hid (show ∀ j u, ((tickR 20).cells.toList ++ (revR 30).cells.toList)[j]? = some u → (wr.alloc (.cells #[.int .i64 2, .int .i64 0, .int .i64 0, .int .i64 0, .int .i64 0, .int .i64 0, .string ⟨#[]⟩, .string ⟨#[]⟩, .int .u64 0, .int .i64 0, .int .i64 0, .int .i64 0, .int .i64 0, .int .i64 0, .int .i64 20, .int .i64 1, .int .i64 0, .int .i64 0, .int .i64 0, .int .i64 0, .int .i64 0, .string ⟨#[]⟩, .string ⟨#[]⟩, .int .u64 0, .int .i64 0, .int .i64 0, .int .i64 0, .int .i64 0, .int .i64 30, .int .i64 0] 38)).cell? ((⟨wr.heap.size, 0, none⟩ : Addr).add j) = some u from fun j u hj => World.news_of_block (heap_alloc_new wr (.cells #[.int .i64 2, .int .i64 0, .int .i64 0, .int .i64 0, .int .i64 0, .int .i64 0, .string ⟨#[]⟩, .string ⟨#[]⟩, .int .u64 0, .int .i64 0, .int .i64 0, .int .i64 0, .int .i64 0, .int .i64 0, .int .i64 20, .int .i64 1, .int .i64 0, .int .i64 0, .int .i64 0, .int .i64 0, .int .i64 0, .string ⟨#[]⟩, .string ⟨#[]⟩, .int .u64 0, .int .i64 0, .int .i64 0, .int .i64 0, .int .i64 0, .int .i64 30, .int .i64 0] 38)) j u hj)
          have HB := Lib.hid (HF.out.bel.trans (hba.mono HF.out.bel.size))
          clear hba HF
          go_wp2_with (at_builtin; refine appEvt2 rfl _ _ rfl w.heap.size _ (logL 32) rfl HO.out ⟨wr.heap.size, 0, none⟩ 2 (tickR 20) (revR 30) rfl HC2.out (by rw [logL_len]; decide) HB.out.size ?_)
          intro v' w9 hown' hg' _
          have HB9 := Lib.hid (HB.out.trans (below_grown hg' HB.out.size (fun q hq => (HO.out.lt q hq).1)))
          have HO9 := Lib.hid hown'
          clear hg' hown' HO HB HC2
          go_wp2_with fail
          refine (replayEnded_calls (logL 32 ++ [tickR 20, revR 30]) v' w9 HO9.out.rd end_ok).mono ?_
          rintro ev wz ⟨rfl, hb⟩
          have HBZ := Lib.hid (HB9.out.trans (hb.mono HB9.out.size))
          clear hb HB9 HO9
          go_wp2_with fail
          go_ret
          exact ⟨rfl, HBZ.out⟩
set_option maxHeartbeats 1600000 in
theorem replayKnown_calls (w : World) (hg : ErrType w) : Calls Tryz.prog 3 #[] w fun e w' => e = .returned (.bool true) ∧ Below w.heap.size w w' := by
  have HG := Lib.hid hg
  clear hg
  go_enter Tryz.func3, Tryz.ntmps3
  go_wp2_with fail
  refine (knownSaid_calls w HG.out).mono ?_
  rintro ev w1 ⟨rfl, hb⟩
  have HB1 := Lib.hid hb
  clear hb
  go_wp2_with fail
  refine (knownBirths_calls w1 (HG.out.below HB1.out)).mono ?_
  rintro ev w2 ⟨rfl, hb⟩
  have HB2 := Lib.hid (HB1.out.trans (hb.mono HB1.out.size))
  clear hb HB1
  go_wp2_with fail
  refine (knownFull_calls w2 (HG.out.below HB2.out)).mono ?_
  rintro ev w3 ⟨rfl, hb⟩
  have HB3 := Lib.hid (HB2.out.trans (hb.mono HB2.out.size))
  clear hb HB2
  go_wp2_with fail
  go_ret
  exact ⟨rfl, HB3.out⟩
end Go.Proofs.YthnabnieajojjaaGreatDoor

/-
  What errors.As reads of package errors, out of the condition that the card ties; a law's row out of its walk at such a world.
-/
namespace Go.Proofs.YthnabnieajojjaaGreatDoor
open Go.ChangeShapes Go.WideShapes Go.ChangeAt Go.RowKit
set_option maxRecDepth 100000

/-- The variables that are listed. -/
def laidL : List (String × DataW Unit) := [("errors.errorType", Rows.laid_errors_errorType)]
theorem L.et : Tryz.prog.globalNamed "errors.errorType" = some 0 := by kernel_rfl
theorem L.rt : (Tryz.prog.cutTypes.find? (·.1 == "internal/reflectlite.rtype")).map (·.2) = some 120 := by kernel_rfl
theorem L.oneRow : ((List.range 176).filter fun t => Tryz.prog.rowNamed t [101, 114, 114, 111, 114]) = [27] := by kernel_rfl
theorem L.size : Tryz.prog.types.size = 176 := by kernel_rfl
theorem errType_of_laid {W : World} (h : laidMetH Tryz.prog laidL W) : ErrType W := by
  have h' : laidMet Tryz.prog [] W ∧ handlesMet Tryz.prog laidL W := h
  obtain ⟨name, u, ty, e1, e2, e3, e4, e5⟩ := h'.2 _ (List.mem_singleton.2 rfl)
  have en : name = [101, 114, 114, 111, 114] := (Option.some.inj e1).symm
  subst en
  obtain rfl := Option.some.inj (L.rt.symm.trans e2)
  have hm : ty ∈ (List.range 176).filter fun t => Tryz.prog.rowNamed t [101, 114, 114, 111, 114] := List.mem_filter.2 ⟨List.mem_range.2 (by rw [← L.size]; exact e3), e4⟩
  rw [L.oneRow] at hm
  obtain rfl := List.mem_singleton.1 hm
  have hh : typeHandle Tryz.prog 27 = .pointer (some ⟨2, 27, none⟩) := by kernel_rfl
  rw [hh] at e5
  have := World.var?_cell L.et e5 0
  unfold ErrType
  simpa using this
/-- A world that meets the condition. -/
noncomputable def laidWorld (os : Os) : World :=
  let w0 := World.holding Tryz.prog os ⟨#[], #[], []⟩
  { w0 with heap := w0.heap.modify 0 fun
      | .cells _ t frozen => .cells #[.iface 120 (.agg #[.pointer (some ⟨2, 27, none⟩)])] t frozen
      | o => o }
theorem laidWorld_met (os : Os) (args : Array Value) : laidMetH Tryz.prog laidL ((laidWorld os).forCall (fun _ _ => 0) ⟨#[], args, []⟩).memory :=
  laidMetH_of_parts (laidMet_nil _ _) (by kernel_rfl)
theorem law_contract_at {up : Bool} {vt : List TypeId} (hvt : vt = []) {f : FuncId} {fn : Func} {s : ChangeSpec} {ts : List TypeId} (hp : fn.params.toList = ts) (hres : fn.resultTypes = #[4]) (hvars : s.vars = [])
    (hr : ∀ t ∈ ts, Tryz.prog.readableRec t = true ∧ t < Tryz.prog.types.size) (hs : ∀ (H : Type) (ds : List (DataW H)), ds.length = ts.length → (s.fn H ds).results = [.lit (.bool true)] ∧ (s.fn H ds).args = ds ∧ (s.fn H ds).vars = [])
    (H : Type) (enc : TypeId × Value → H) (W : World) (base : Nat) (args : Array Value) (ds gs : List (DataW H)) (before : List MemPlace)
    (hval : ∀ (j : Nat) t v, fn.params[j]? = some t → args[j]? = some v → Value.okWide Tryz.prog W .any base t v)
    (hW : DataW.Whole enc Tryz.prog fn.params.toList s.vars false W args.toList ds gs before)
    (hsz : match up with | true => Rows.uptoSmall H (ds ++ gs) = true | false => (DataW.weightsEach Tryz.prog (fn.params.toList ++ vt) (ds ++ gs)).all (· ≤ reachBytes) = true)
    (walkAt : ArgAll up W ts args.toList → Calls Tryz.prog f args W fun e W' => e = .returned (.bool true) ∧ Below W.heap.size W W') :
    Calls Tryz.prog f args W fun e W' => ∃ v, e = .returned v ∧ s.post enc Tryz.prog fn false true false false W args v W' := by
  have hW' := hW
  obtain ⟨p, q, hA, hV, rfl, _, _⟩ := hW
  rw [hvars] at hV
  have hg : gs = [] ∧ q = [] := by
    cases gs with
    | nil => exact ⟨rfl, hV⟩
    | cons g gs => exact hV.elim
  obtain ⟨rfl, rfl⟩ := hg
  have hlt : ∀ x ∈ p, x.block < W.heap.size := fun x hx => by simpa using hW'.lt x (by simpa using hx)
  have hlen : ds.length = ts.length := by
    have : ∀ {ts : List TypeId} {vs : List Value} {ds : List (DataW H)} {ps : List MemPlace}, DataW.TrodAll enc Tryz.prog W 0 (fun _ => true) true ts vs ds ps → ds.length = ts.length := by
      intro ts
      induction ts with
      | nil => intro vs ds ps h; cases vs with
        | nil => cases ds with
          | nil => rfl
          | cons _ _ => exact h.elim
        | cons _ _ => exact h.elim
      | cons t ts ih => intro vs ds ps h; cases vs with
        | nil => exact h.elim
        | cons v vs => cases ds with
          | nil => exact h.elim
          | cons d ds => obtain ⟨_, _, _, h2, _⟩ := h; simp [ih h2]
    rw [hp] at hA
    exact this hA
  have hall : ArgAll up W ts args.toList := by
    rw [← hp]
    refine argAll_mk (base := base) hA (fun j t v ht hv => hval j t v (by simpa using ht) (by simpa using hv)) ?_
    cases up with
    | true => have h : Rows.uptoBulkAll (ds ++ []) ≤ 1048576 := of_decide_eq_true hsz
              simpa using h
    | false => subst hvt; simpa using hsz
  have hwalk := walkAt hall
  refine hwalk.mono fun e W' ⟨he, hb⟩ => ?_
  obtain ⟨s1, s2, s3⟩ := hs H (ds ++ []) (by simpa using hlen)
  refine ⟨_, he, _, _, _, [], p, [], hW', ?_, ?_, ?_, hb.frame _, fun h => by cases h⟩
  · rw [s1, hres]; exact ⟨[], [], shut_bool (by kernel_rfl) true, rfl, rfl⟩
  · rw [s2, List.append_nil]; exact trodAll_below hb (by rw [hp]; exact hr) hA hlt
  · rw [s3, hvars]; rfl
end Go.Proofs.YthnabnieajojjaaGreatDoor

/-
  The statement of layer, proved out of its walk: whatever the input, the law answers true and leaves its arguments as they were; package errors' variable errorType reads as the program's text lays it (the card ties it).
-/
namespace Go.Proofs.YthnabnieajojjaaGreatDoor
open Go.ChangeShapes Go.WideShapes Go.ChangeAt Go.RowKit
set_option maxRecDepth 100000


theorem replayKnown_at (W : World) (vs : Array Value) (hg : ErrType W) (h : ArgAll false W [] vs.toList) : Calls Tryz.prog 3 vs W fun e W' => e = .returned (.bool true) ∧ Below W.heap.size W W' := by
  obtain ⟨vs⟩ := vs
  match vs, h with
  | [], _ =>
    exact replayKnown_calls W hg
theorem replayKnown_lifted (os : Os) (started : os.Started) (H : Type) (enc : TypeId × Value → H) :
    ReturnsInHanded {} Tryz.checked os 3 .any (fun w args => (Rows.replayKnownSpec.pre enc Tryz.prog Tryz.f3 [] false w args ∧ laidMetH Tryz.prog laidL w) ∧ sizedMet enc Tryz.prog Tryz.f3 (OpenSpec.ofChange Rows.replayKnownSpec) false w args)
      (Rows.replayKnownSpec.post enc Tryz.prog Tryz.f3 false true false false) := by
  refine returnsInHanded_of_change_and (C := Tryz.checked) (X := fun w _ => laidMetH Tryz.prog laidL w) (fun _ _ _ hh h => h.of_heap hh) L.own started (by kernel_rfl) Tryz.func3
    (ChangeSpec.witness_at (enc := enc) (C := Tryz.checked) (os := os) (X := fun w _ => laidMetH Tryz.prog laidL w) false (laidWorld os) #[] 8 rfl (by kernel_rfl) (by kernel_rfl) (by kernel_rfl) (by kernel_rfl) (by kernel_rfl) (laidWorld_met os _)) ?_
  intro W base args ds gs before hval hW _ hsz hL _
  exact law_contract_at (up := false) (vt := Rows.replayKnownSpec.plain.varTypes Tryz.prog) rfl (ts := []) rfl rfl rfl (by decide +kernel) (fun H ds h => by
      rcases ds with _ | ⟨d0, _ | ⟨d1, _ | ⟨d2, _ | ⟨d3, _ | ⟨d4, _ | ⟨d5, ds⟩⟩⟩⟩⟩⟩ <;> first | exact ⟨rfl, rfl, rfl⟩ | (exfalso; simp at h; done) | (exfalso; simp at h; omega)) H enc W base args ds gs before hval hW hsz (fun h => replayKnown_at W args (errType_of_laid hL) h)
theorem replayKnown_row : Rows.ReplayKnownSaid :=
  OpenClaim.holds_of_wide 3 Tryz.f3 rfl rfl rfl rfl rfl rfl rfl ⟨rfl, rfl, rfl, rfl, rfl⟩ rfl rfl rfl rfl rfl (by kernel_rfl) Tryz.func3 (by kernel_rfl)
    (of_decide_eq_true (by kernel_rfl)) (by unfold Func.isWrapper; first | (rw [if_pos (by decide +kernel)]; kernel_rfl) | (rw [if_neg (by decide +kernel)]; exact ⟨rfl, rfl⟩))
    (fun os started H enc _ => replayKnown_lifted os started H enc)
theorem replayKnown_card : Rows.ReplayKnownCardSaid :=
  Claim7.holds_tied_plain_at .later [] [.handle] true (true, "b4dd9b08421d76df2abab6b2e521f1a7a46cbbbcbe1c31df0d1160082deab632") true
    replayKnown_row (fun _ h => by cases h) (by kernel_rfl) (fun _ h => by cases h) replayKnown_row_tie rfl ⟨rfl, rfl⟩ (by kernel_rfl) rfl
    (fun f fn hf hfn => by
      obtain rfl : f = 3 := Option.some.inj ((show Tryz.prog.funcNamed "lineage/lineagelaw24.ReplayKnown" = some 3 by kernel_rfl).symm.trans hf) |>.symm
      obtain rfl : fn = Tryz.f3 := (Option.some.inj (Tryz.func3.symm.trans hfn)).symm
      exact ⟨by kernel_rfl, fun j t ht => by
        have hp : Tryz.f3.params = #[] := rfl
        rw [hp] at ht
        simp at ht⟩)
    (by kernel_rfl)
#print axioms replayKnown_card
end Go.Proofs.YthnabnieajojjaaGreatDoor
