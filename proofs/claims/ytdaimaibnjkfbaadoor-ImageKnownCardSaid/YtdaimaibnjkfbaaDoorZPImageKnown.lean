/-
  A field of a session in a list that the call owns is set.
-/
import Derived.Test.YtdaimaibnjkfbaaDoorSesA
import Derived.Test.YtdaimaibnjkfbaaDoorImWorks
import Derived.Test.YtdaimaibnjkfbaaDoorImEnc
import Derived.Test.YtdaimaibnjkfbaaDoorPlaceF
import Derived.Test.YtdaimaibnjkfbaaDoorPlainA
import Derived.Test.YtdaimaibnjkfbaaDoorImDM
import Derived.Test.YtdaimaibnjkfbaaDoorImChk
import Derived.Test.YtdaimaibnjkfbaaDoorStr
import Derived.Outline
import Derived.Deep.LoopGhost
import Derived.Test.YtdaimaibnjkfbaaDoorSameB
import Derived.BigQuiet
import Derived.Deep.RegionHeld3
import Derived.Test.YtdaimaibnjkfbaaDoorBase
import Derived.Deep.RegionHeld
import Derived.Test.YtdaimaibnjkfbaaDoorSetCells
import Derived.Deep.MidRow
import Derived.Test.YtdaimaibnjkfbaaDoorImBk
import Derived.Test.YtdaimaibnjkfbaaDoorCardB
import Derived.Test.YtdaimaibnjkfbaaDoorTie
import Derived.Test.YtdaimaibnjkfbaaDoorCards
import Derived.SevenTiedAt
namespace Go.Proofs.YtdaimaibnjkfbaaDoor
open Go.RowKit
set_option maxRecDepth 100000

theorem flatS_cons (s : SesM) (l : List SesM) : flatS (s :: l) = s.cells.toList ++ flatS l := by unfold flatS; rw [List.flatMap_cons]
theorem list_set_app {α : Type} (a b : List α) (x : α) (j : Nat) (h : j < a.length) : (a ++ b).set j x = a.set j x ++ b := by rw [List.set_append]; simp [h]
theorem flatS_set {s' : SesM} {x : Value} {j : Nat} (hj : j < 12) : ∀ (l : List SesM) (i : Nat) (hi : i < l.length), s'.cells.toList = (l[i]).cells.toList.set j x → flatS (l.set i s') = (flatS l).set (i * 12 + j) x
  | [], i, hi, _ => by simp at hi
  | s :: l, 0, _, h => by
    show flatS (s' :: l) = _
    have h : s'.cells.toList = s.cells.toList.set j x := h
    have hl : s.cells.toList.length = 12 := rfl
    rw [flatS_cons, flatS_cons, Nat.zero_mul, Nat.zero_add, list_set_app _ _ _ _ (by omega), h]
  | s :: l, i + 1, hi, h => by
    show flatS (s :: l.set i s') = _
    have hl : s.cells.toList.length = 12 := rfl
    have ih := flatS_set hj l i (by simpa using hi) (by simpa using h)
    rw [flatS_cons, flatS_cons, ih, List.set_append, if_neg (by omega), hl]
    congr 2
    omega
/-- A list that a call owns, in a block of its own. -/
structure OwnG (w : World) (base g cap : Nat) (l : List SesM) : Prop where
  own : OwnS w base (.slice (some ⟨g, 0, none⟩) l.length cap) l
  ge : base ≤ g
  lt : g < w.heap.size
theorem OwnG.raw {w : World} {base g cap : Nat} {l : List SesM} (h : OwnG w base g cap l) : ∃ cur : Array Value, w.heap[g]? = some (.cells cur 56 (0, 0)) ∧ l.length ≤ cap ∧ cap ≤ maxLen ∧ cur.size = cap * 12 ∧ cur.toList.take (l.length * 12) = flatS l := by
  rcases h.own.2 with ⟨e, _⟩ | ⟨g', cap', cur, e, _, hg, hn, hc, hs, ht⟩
  · injection e with e1 e2; cases e1
  · injection e with e1 e2 e3
    injection e1 with e1
    injection e1 with e1
    subst e1; subst e3
    exact ⟨cur, hg, hn, hc, hs, ht⟩
theorem OwnG.of {w : World} {base : Nat} {v : Value} {l : List SesM} (h : OwnS w base v l) (hl : 0 < l.length) : ∃ g cap, v = .slice (some ⟨g, 0, none⟩) l.length cap ∧ OwnG w base g cap l := by
  rcases h.2 with ⟨e, e2⟩ | ⟨g, cap, cur, e, hb, hg, hr⟩
  · omega
  · subst e
    exact ⟨g, cap, rfl, ⟨h, hb, lt_of_block hg⟩⟩
theorem OwnG.cell {w : World} {base g cap : Nat} {l : List SesM} (h : OwnG w base g cap l) (i j : Nat) (hi : i < l.length) (hj : j < 12) (x : Value) (hx : (l[i]).cells.toList[j]? = some x) : w.cell? ⟨g, i * 12 + j, none⟩ = some x := by
  obtain ⟨cur, hg, _, _, hs, ht⟩ := h.raw
  have h1 : w.cell? ⟨g, i * 12 + j, none⟩ = cur[i * 12 + j]? := cell_of_row w g (i * 12 + j) cur 56 (0, 0) hg
  rw [h1, ← Array.getElem?_toList]
  have h2 : (cur.toList.take (l.length * 12))[i * 12 + j]? = cur.toList[i * 12 + j]? := by
    rw [List.getElem?_take, if_pos (by have := Nat.mul_le_mul_right 12 (show i + 1 ≤ l.length from hi); omega)]
  rw [← h2, ht, flatS_at l i j hj, List.getElem?_eq_getElem hi]
  exact hx
theorem OwnG.free {w : World} {base g cap : Nat} {l : List SesM} (h : OwnG w base g cap l) (k : Nat) : w.frozen? ⟨g, k, none⟩ = false := by
  obtain ⟨cur, hg, _⟩ := h.raw
  simp [World.frozen?, hg]
theorem OwnG.below {w w' : World} {base g cap : Nat} {l : List SesM} (h : OwnG w base g cap l) (hb : Below w.heap.size w w') : OwnG w' base g cap l := ⟨h.own.below hb, h.ge, Nat.lt_of_lt_of_le h.lt hb.size⟩
theorem OwnG.mod {w w' : World} {base g cap : Nat} {l : List SesM} {F : Nat → Prop} (h : OwnG w base g cap l) (hm : Mod F w w') (hn : ¬ F g) : OwnG w' base g cap l := ⟨h.own.mod hm (fun k hk => by have hk : some g = some k := hk; injection hk with hk; subst hk; exact hn), h.ge, Nat.lt_of_lt_of_le h.lt hm.size⟩
theorem OwnG.set {w : World} {base g cap : Nat} {l : List SesM} (h : OwnG w base g cap l) (i j : Nat) (hi : i < l.length) (hj : j < 12) (x : Value) (s' : SesM) (hs' : s'.cells.toList = (l[i]).cells.toList.set j x) : OwnG (w.setCell ⟨g, i * 12 + j, none⟩ x) base g cap (l.set i s') := by
  obtain ⟨cur, hg, hn, hc, hs, ht⟩ := h.raw
  have hg' : (w.setCell ⟨g, i * 12 + j, none⟩ x).heap[g]? = some (.cells (cur.setIfInBounds (i * 12 + j) x) 56 (0, 0)) := by
    simp only [World.setCell, Array.getElem?_modify, if_true, hg]; rfl
  refine ⟨⟨?_, .inr ⟨g, cap, cur.setIfInBounds (i * 12 + j) x, by rw [List.length_set], h.ge, hg', by rw [List.length_set]; exact hn, hc, by rw [Array.size_setIfInBounds]; exact hs, ?_⟩⟩, h.ge, by simpa using h.lt⟩
  · rw [flatS_length]
  · rw [List.length_set, Array.toList_setIfInBounds, List.take_set, ht, flatS_set hj l i hi hs']
/-- A literal list. -/
theorem OwnG.lit {w : World} {g base : Nat} {cs : Array Value} (l : List SesM) (h : Box w g cs 56) (hc : cs.toList = flatS l) (hl : l.length ≤ 1000000) (hb : base ≤ g) : OwnG w base g l.length l := by
  have hsz : cs.size = l.length * 12 := by rw [← Array.length_toList, hc, flatS_length]
  refine ⟨⟨by rw [flatS_length], .inr ⟨g, l.length, cs, rfl, hb, h, Nat.le_refl _, by unfold maxLen; omega, hsz, ?_⟩⟩, hb, h.lt⟩
  rw [List.take_of_length_le (by rw [Array.length_toList]; omega), hc]
end Go.Proofs.YtdaimaibnjkfbaaDoor
/-
  A state of a login, of a login and its child; a state that is wrong.
-/
namespace Go.Proofs.YtdaimaibnjkfbaaDoor
open Go.RowKit
set_option maxRecDepth 100000

theorem imgN_some {st : StM} {m : Int} (h : checkM st = some m) : imgN st = 24 := by unfold imgN; rw [if_neg (by rw [h]; intro e; cases e)]
theorem imgM_some {st : StM} {m : Int} (h : checkM st = some m) : imgM st = [] := by unfold imgM; rw [if_neg (by rw [h]; intro e; cases e)]
set_option maxHeartbeats 1600000 in
theorem wrong_calls (st : StM) (v : Value) (at_ : Int) (w : World) (hr : RdS w v st.l) (ho : ∀ s ∈ st.l, SesOk s) (hck : checkM st = some at_) (hg : ErrType w) :
    Calls Tryd.prog 24 #[.agg #[.int .i64 st.clock, .int .i64 st.births, v], .int .i64 at_] w fun e w' => e = .returned (.bool true) ∧ Below w.heap.size w w' := by
  have HE := Lib.hid (fun w' h => encImg_calls st v w' h ho)
  have HC := Lib.hid (fun w' h => check_calls st v w' h ho)
  rw [imgN_some hck, imgM_some hck] at HE
  rw [hck] at HC
  obtain ⟨a, cap, rfl, _, _⟩ := hr.slice
  have hb0 := below_alloc w (.cells #[.int .i64 st.clock, .int .i64 st.births, .slice a st.l.length cap] 24)
  have HR := Lib.hid (hr.below hb0)
  have HG := Lib.hid (hg.below hb0)
  have HB := Lib.hid hb0
  have HX := Lib.hid (Box.new w #[.int .i64 st.clock, .int .i64 st.births, .slice a st.l.length cap] 24)
  obtain ⟨n, hn⟩ : ∃ n, n = st.l.length := ⟨_, rfl⟩
  rw [← hn] at HE HC HR HG HB HX ⊢
  obtain ⟨c, hc⟩ : ∃ c, c = st.clock := ⟨_, rfl⟩
  obtain ⟨b, hb⟩ : ∃ b, b = st.births := ⟨_, rfl⟩
  rw [← hc, ← hb] at HE HC HR HG HB HX ⊢
  clear hr ho hck hg hb0 hn hc hb
  go_enter Tryd.func24, Tryd.ntmps24
  go_wp2_with fail
  generalize (w.alloc (.cells #[.int .i64 c, .int .i64 b, .slice a n cap] 24)) = w1 at HR HG HB HX ⊢
  refine (HE.out w1 HR.out).mono ?_
  rintro e w2 ⟨o, rfl, ho, hb⟩
  obtain ⟨oa, oc, rfl, _⟩ := ho.rd
  have HR2 := Lib.hid (HR.out.below hb)
  have HG2 := Lib.hid (HG.out.below hb)
  have HB2 := Lib.hid (HB.out.trans (hb.mono HB.out.size))
  have hx2 := HX.out.below hb
  have c0 : w2.cell? ⟨w.heap.size, 0, none⟩ = some (.int .i64 c) := hx2.cell 0 _ rfl
  have c1 : w2.cell? ⟨w.heap.size, 1, none⟩ = some (.int .i64 b) := hx2.cell 1 _ rfl
  have c2 : w2.cell? ⟨w.heap.size, 2, none⟩ = some (.slice a n cap) := hx2.cell 2 _ rfl
  rw [show errV 24 = .iface 68 (.int .i64 24) from rfl]
  rw [show ([] : List UInt8).length = 0 from rfl]
  clear ho hb hx2 HR HG HB HX HE
  go_wp2_with fail
  refine (HC.out w2 HR2.out).mono ?_
  rintro e w3 ⟨rfl, hb⟩
  have HG3 := Lib.hid (HG2.out.below hb)
  have HB3 := Lib.hid (HB2.out.trans (hb.mono HB2.out.size))
  rw [show chkV (some at_) = errF 24 at_ from rfl]
  clear hb HR2 HG2 HB2 HC c0 c1 c2
  go_wp2_with fail
  refine (show Calls Tryd.prog _ #[errF 24 at_, .int .i64 24, .int .i64 at_] w3 _ from atF_calls 24 at_ w3 (by decide) (by decide) HG3.out).mono ?_
  rintro e w4 ⟨rfl, hb⟩
  have HG4 := Lib.hid (HG3.out.below hb)
  have HB4 := Lib.hid (HB3.out.trans (hb.mono HB3.out.size))
  have HPL := Lib.hid (plain_any 24 w4 (by decide) (by decide) (HG3.out.below hb))
  rw [show errV 24 = .iface 68 (.int .i64 24) from rfl] at HPL
  clear hb HG3 HB3
  go_wp2_with fail
  refine HPL.out.mono ?_
  rintro e w5 ⟨rfl, hb⟩
  have HB5 := Lib.hid (HB4.out.trans (hb.mono HB4.out.size))
  clear hb HB4 HG4 HPL
  go_wp2_with fail
  go_ret
  exact ⟨rfl, HB5.out⟩
theorem oneG_calls (w : World) :
    Calls Tryd.prog 23 #[] w fun ev w' => ∃ g, ev = .returned (.agg #[.int .i64 300, .int .i64 2, .slice (some ⟨g, 0, none⟩) 1 1]) ∧ OwnG w' w.heap.size g 1 [oneS] ∧ Below w.heap.size w w' := by
  have HX := Lib.hid (Box.new w #[.int .i64 0, .int .i64 0, .slice none 0 0] 24)
  have HB := Lib.hid (below_alloc w (.cells #[.int .i64 0, .int .i64 0, .slice none 0 0] 24))
  go_enter Tryd.func23, Tryd.ntmps23
  go_wp2_with (refine wpList_buildSlice_s (op := ⟨some 2, _, _, _, _, _⟩) (by rfl) 22 1 #[(0, .tmp 1)] rfl #[(0, .agg oneS.cells)] (by kernel_rfl) _ _ (buildS oneS _) ?_)
  intro w2 hw2
  have hb2 : Below (w.alloc (.cells #[.int .i64 0, .int .i64 0, .slice none 0 0] 24)).heap.size (w.alloc (.cells #[.int .i64 0, .int .i64 0, .slice none 0 0] 24)) w2 := by rw [hw2.out]; exact below_alloc _ _
  have hbx : Box w2 (w.heap.size + 1) oneS.cells 56 := by
    rw [hw2.out]
    have h := Box.new (w.alloc (.cells #[.int .i64 0, .int .i64 0, .slice none 0 0] 24)) oneS.cells 56
    rw [World.size_alloc] at h; exact h
  have hx := HX.out.below hb2
  have HX2 := Lib.hid hx
  have HB2 := Lib.hid (HB.out.trans (hb2.mono HB.out.size))
  have HBX := Lib.hid hbx
  have d0 : w2.cell? ⟨w.heap.size, 0, none⟩ = some (.int .i64 0) := hx.cell 0 _ rfl
  have d1 : w2.cell? ⟨w.heap.size, 1, none⟩ = some (.int .i64 0) := hx.cell 1 _ rfl
  have d2 : w2.cell? ⟨w.heap.size, 2, none⟩ = some (.slice none 0 0) := hx.cell 2 _ rfl
  have g0 := hx.free 0
  have g1 := hx.free 1
  have g2 := hx.free 2
  clear hw2 hb2 hbx hx HX HB
  go_wp2_with fail
  have hb4 := ((HX2.out.set 0 (.int .i64 300)).set 1 (.int .i64 2)).set 2 (.slice (some ⟨w.heap.size + 1, 0, none⟩) 1 1)
  have hset : ∀ (W : World) (o : Nat) (v : Value), Mod (fun q => q = w.heap.size) w2 W → Mod (fun q => q = w.heap.size) w2 (W.setCell ⟨w.heap.size, o, none⟩ v) := fun W o v h => h.trans (Mod.set _ _ _ _ rfl)
  have hm := hset _ 2 (.slice (some ⟨w.heap.size + 1, 0, none⟩) 1 1) (hset _ 1 (.int .i64 2) (hset _ 0 (.int .i64 300) (Mod.refl _ w2)))
  refine ret_cell rfl rfl w.heap.size 0 rfl [.int .i64 300, .int .i64 2, .slice (some ⟨w.heap.size + 1, 0, none⟩) 1 1] _ ?_ Tryd.underlying24 rfl (by kernel_rfl) ⟨_, rfl, OwnG.lit [oneS] (HBX.out.mod hm (by omega)) rfl (by decide) (by omega), HB2.out.trans (hm.below HB2.out.size (fun i hi => by omega))⟩
  intro j v hv
  rw [Nat.zero_add]
  exact hb4.cell j v (by simpa using hv)
def kidS : SesM := ⟨4, 2, 3, 1, 1, [97, 110, 110], [116, 118], 5, 1, 0, 301, 1⟩
set_option maxHeartbeats 1600000 in
theorem twoG_calls (w : World) :
    Calls Tryd.prog 25 #[] w fun ev w' => ∃ g cap, ev = .returned (.agg #[.int .i64 300, .int .i64 2, .slice (some ⟨g, 0, none⟩) 2 cap]) ∧ OwnG w' w.heap.size g cap [oneS, kidS] ∧ Below w.heap.size w w' := by
  have HX := Lib.hid (Box.new w #[.int .i64 0, .int .i64 0, .slice none 0 0] 24)
  have HB := Lib.hid (below_alloc w (.cells #[.int .i64 0, .int .i64 0, .slice none 0 0] 24))
  go_enter Tryd.func25, Tryd.ntmps25
  go_wp2_with fail
  generalize (w.alloc (.cells #[.int .i64 0, .int .i64 0, .slice none 0 0] 24)) = w1 at HX HB ⊢
  have HXL := Lib.hid (show w.heap.size < w1.heap.size from HX.out.lt)
  refine (oneG_calls w1).mono ?_
  rintro e w2 ⟨g, rfl, ho, hb⟩
  have hba := below_alloc w2 (.cells #[.int .i64 300, .int .i64 2, .slice (some ⟨g, 0, none⟩) 1 1] 24)
  have HO3 := Lib.hid (ho.own.below hba)
  have HX3 := Lib.hid ((HX.out.below hb).below hba)
  have HS3 := Lib.hid (Box.new w2 #[.int .i64 300, .int .i64 2, .slice (some ⟨g, 0, none⟩) 1 1] 24)
  have HB3 := Lib.hid ((HB.out.trans (hb.mono HB.out.size)).trans (hba.mono (HB.out.trans (hb.mono HB.out.size)).size))
  have HGL := Lib.hid (show w1.heap.size ≤ g ∧ g < w2.heap.size from ⟨ho.ge, ho.lt⟩)
  have c2 : (w2.alloc (.cells #[.int .i64 300, .int .i64 2, .slice (some ⟨g, 0, none⟩) 1 1] 24)).cell? ⟨w2.heap.size, 2, none⟩ = some (.slice (some ⟨g, 0, none⟩) 1 1) := HS3.out.cell 2 _ rfl
  clear ho hb hba HX
  have hb4 := below_alloc (w2.alloc (.cells #[.int .i64 300, .int .i64 2, .slice (some ⟨g, 0, none⟩) 1 1] 24)) (.cells kidS.cells 56)
  have hc4 := newCells (w2.alloc (.cells #[.int .i64 300, .int .i64 2, .slice (some ⟨g, 0, none⟩) 1 1] 24)) kidS 56
  have HO4 := Lib.hid (HO3.out.below hb4)
  have HX4 := Lib.hid (HX3.out.below hb4)
  have HS4 := Lib.hid (HS3.out.below hb4)
  have HB4 := Lib.hid (HB3.out.trans (hb4.mono HB3.out.size))
  rw [World.size_alloc] at hc4
  have HC4 := Lib.hid hc4
  rw [show kidS.cells = #[.int .i64 4, .int .i64 2, .int .i64 3, .int .i64 1, .int .i64 1, .string ⟨#[97, 110, 110]⟩, .string ⟨#[116, 118]⟩, .int .u64 5, .int .i64 1, .int .i64 0, .int .i64 301, .int .i64 1] from rfl] at HO4 HX4 HS4 HB4
  rw [show (w2.alloc (.cells #[.int .i64 300, .int .i64 2, .slice (some ⟨g, 0, none⟩) 1 1] 24)).alloc (.cells kidS.cells 56) = (w2.alloc (.cells #[.int .i64 300, .int .i64 2, .slice (some ⟨g, 0, none⟩) 1 1] 24)).alloc (.cells #[.int .i64 4, .int .i64 2, .int .i64 3, .int .i64 1, .int .i64 1, .string ⟨#[97, 110, 110]⟩, .string ⟨#[116, 118]⟩, .int .u64 5, .int .i64 1, .int .i64 0, .int .i64 301, .int .i64 1] 56) from rfl] at HC4
  obtain ⟨w4, hw4⟩ : ∃ w4, w4 = (w2.alloc (.cells #[.int .i64 300, .int .i64 2, .slice (some ⟨g, 0, none⟩) 1 1] 24)).alloc (.cells #[.int .i64 4, .int .i64 2, .int .i64 3, .int .i64 1, .int .i64 1, .string ⟨#[97, 110, 110]⟩, .string ⟨#[116, 118]⟩, .int .u64 5, .int .i64 1, .int .i64 0, .int .i64 301, .int .i64 1] 56) := ⟨_, rfl⟩
  have HSZ := Lib.hid (show w1.heap.size ≤ ((w2.alloc (.cells #[.int .i64 300, .int .i64 2, .slice (some ⟨g, 0, none⟩) 1 1] 24)).alloc (.cells #[.int .i64 4, .int .i64 2, .int .i64 3, .int .i64 1, .int .i64 1, .string ⟨#[97, 110, 110]⟩, .string ⟨#[116, 118]⟩, .int .u64 5, .int .i64 1, .int .i64 0, .int .i64 301, .int .i64 1] 56)).heap.size by have := HO4.out.lt g rfl; omega)
  clear hb4 hc4 HO3 HX3 HS3 HB3
  go_wp2_with (at_builtin; refine appSes rfl _ _ rfl w1.heap.size _ [oneS] rfl HO4.out ⟨w2.heap.size + 1, 0, none⟩ 1 kidS rfl HC4.out (by decide) HSZ.out ?_)
  rw [← hw4] at HO4 HX4 HS4 HB4 HC4 HSZ ⊢
  clear hw4
  intro v' w5 hown' hg' hmv
  have hg5 := hg'
  obtain ⟨g5, cap5, rfl, HG5⟩ := OwnG.of (l := [oneS, kidS]) hown' (by decide)
  rw [show [oneS, kidS].length = 2 from rfl]
  have hx5 := HX4.out.grown hg' (fun e => by have e : some g = some w.heap.size := e; injection e with e; have := HGL.out.1; have := HB.out.size; have := HXL.out; omega)
  have hs5 := HS4.out.grown hg' (fun e => by have e : some g = some w2.heap.size := e; injection e with e; have := HGL.out.2; omega)
  have hb5 := HB4.out.trans (below_grown hg' HB4.out.size (fun q hq => by have hq : some g = some q := hq; injection hq with hq; have := HGL.out.1; have := HXL.out; omega))
  have hne : g5 ≠ w2.heap.size := fun e => by
    rcases hmv with h | h
    · have h : some g5 = some g := h
      injection h with h; have := HGL.out.2; omega
    · have h : some g5 = some w4.heap.size := h
      injection h with h; have := HS4.out.lt; omega
  have HQ := Lib.hid (show w.heap.size < w2.heap.size ∧ w.heap.size < g5 from ⟨by have := HGL.out; have := HXL.out; omega, by have := HG5.ge; have := HXL.out; omega⟩)
  generalize w2.heap.size = q at hs5 hne HQ ⊢
  have c2 : w5.cell? ⟨q, 2, none⟩ = some (.slice (some ⟨g, 0, none⟩) 1 1) := hs5.cell 2 _ rfl
  have f2 := hs5.free 2
  have hm := Mod.set (fun k => k = q) w5 ⟨q, 2, none⟩ (.slice (some ⟨g5, 0, none⟩) 2 cap5) rfl
  have HX6 := Lib.hid (hx5.mod hm (by have := HQ.out.1; omega))
  have HS6 := Lib.hid (hs5.set 2 (.slice (some ⟨g5, 0, none⟩) 2 cap5))
  have HG6 := Lib.hid (HG5.mod hm hne)
  have HB6 := Lib.hid (hb5.trans (hm.below hb5.size (fun k hk => by have := HQ.out.1; omega)))
  clear hx5 hs5 hb5 hm hg' hg5 hmv hown' HG5 HX4 HS4 HO4 HB4 HC4 HGL HSZ
  have x0 : (w5.setCell ⟨q, 2, none⟩ (.slice (some ⟨g5, 0, none⟩) 2 cap5)).cell? ⟨q, 0, none⟩ = some (.int .i64 300) := HS6.out.cell 0 _ rfl
  have x1 : (w5.setCell ⟨q, 2, none⟩ (.slice (some ⟨g5, 0, none⟩) 2 cap5)).cell? ⟨q, 1, none⟩ = some (.int .i64 2) := HS6.out.cell 1 _ rfl
  have x2 : (w5.setCell ⟨q, 2, none⟩ (.slice (some ⟨g5, 0, none⟩) 2 cap5)).cell? ⟨q, 2, none⟩ = some (.slice (some ⟨g5, 0, none⟩) 2 cap5) := HS6.out.cell 2 _ rfl
  have z0 : (w5.setCell ⟨q, 2, none⟩ (.slice (some ⟨g5, 0, none⟩) 2 cap5)).cell? ⟨w.heap.size, 0, none⟩ = some (.int .i64 0) := HX6.out.cell 0 _ rfl
  have z1 : (w5.setCell ⟨q, 2, none⟩ (.slice (some ⟨g5, 0, none⟩) 2 cap5)).cell? ⟨w.heap.size, 1, none⟩ = some (.int .i64 0) := HX6.out.cell 1 _ rfl
  have z2 : (w5.setCell ⟨q, 2, none⟩ (.slice (some ⟨g5, 0, none⟩) 2 cap5)).cell? ⟨w.heap.size, 2, none⟩ = some (.slice none 0 0) := HX6.out.cell 2 _ rfl
  have y0 := HX6.out.free 0
  have y1 := HX6.out.free 1
  have y2 := HX6.out.free 2
  go_wp2_with fail
  generalize (w5.setCell ⟨q, 2, none⟩ (.slice (some ⟨g5, 0, none⟩) 2 cap5)) = w6 at HX6 HG6 HB6 ⊢
  have hm := (Mod.set (fun i => i = w.heap.size) w6 ⟨w.heap.size, 0, none⟩ (.int .i64 300) rfl).trans ((Mod.set (fun i => i = w.heap.size) _ ⟨w.heap.size, 1, none⟩ (.int .i64 2) rfl).trans (Mod.set (fun i => i = w.heap.size) _ ⟨w.heap.size, 2, none⟩ (.slice (some ⟨g5, 0, none⟩) 2 cap5) rfl))
  have hb4 := ((HX6.out.set 0 (.int .i64 300)).set 1 (.int .i64 2)).set 2 (.slice (some ⟨g5, 0, none⟩) 2 cap5)
  have hgF := HG6.out.mod hm (by have := HQ.out.2; omega)
  refine ret_cell rfl rfl w.heap.size 0 rfl [.int .i64 300, .int .i64 2, .slice (some ⟨g5, 0, none⟩) 2 cap5] _ ?_ Tryd.underlying24 rfl (by kernel_rfl) ⟨_, _, rfl, ⟨hgF.own.base (by have := HQ.out.2; have := HXL.out; omega), by have := HQ.out.2; omega, hgF.lt⟩, HB6.out.trans (hm.below HB6.out.size (fun i hi => by omega))⟩
  intro j v hv
  rw [Nat.zero_add]
  exact hb4.cell j v (by simpa using hv)
end Go.Proofs.YtdaimaibnjkfbaaDoor
/-
  Package image: Decode.
-/
namespace Go.Proofs.YtdaimaibnjkfbaaDoor
open Go.RowKit
set_option maxRecDepth 100000

/-- What the taker has behind Open. -/
theorem ImSt.start {w w1 : World} {r : Nat} {v : Value} {l : List UInt8} (hi : IsR w1 r v l 0) (hb : Below (w.alloc (.cells #[.int .i64 0, .int .i64 0, .slice none 0 0] 24)).heap.size (w.alloc (.cells #[.int .i64 0, .int .i64 0, .slice none 0 0] 24)) w1)
    (hr : w.heap.size + 1 ≤ r) (hv : ∀ b, v.ownBlock = some b → w.heap.size + 1 ≤ b ∧ b < w1.heap.size) :
    ImSt w ((w1.alloc (.cells #[.pointer (some ⟨r, 0, none⟩), .nilIface, .bool false] 86)).alloc (.cells #[.int .i64 0, .int .i64 0, .slice none 0 0] 24)) w1.heap.size r w.heap.size (w1.heap.size + 1) v ⟨l, 0, 0, false⟩ 0 0 (.slice none 0 0) [] := by
  have hsz : w.heap.size + 1 ≤ w1.heap.size := by have := hb.size; rw [World.size_alloc] at this; exact this
  have hrl := hi.box.lt
  have hit : IsTI (w1.alloc (.cells #[.pointer (some ⟨r, 0, none⟩), .nilIface, .bool false] 86)) w1.heap.size r v ⟨l, 0, 0, false⟩ :=
    ⟨Box.new _ _ _, hi.below (below_alloc _ _), by omega, fun e => by have := (hv _ e).2; omega, fun b hbb => by have := (hv b hbb).2; simp; omega⟩
  have hbx := Box.new (w1.alloc (.cells #[.pointer (some ⟨r, 0, none⟩), .nilIface, .bool false] 86)) #[.int .i64 0, .int .i64 0, .slice none 0 0] 24
  rw [World.size_alloc] at hbx
  exact ⟨hit.below (below_alloc _ _), (((Box.new w _ _).below hb).below (below_alloc _ _)).below (below_alloc _ _), hbx, OwnS.nil _ _,
    (((below_alloc w _).trans (hb.mono (by simp))).trans ((below_alloc _ _).mono (by omega))).trans ((below_alloc _ _).mono (by rw [World.size_alloc]; omega)), Nat.le_refl _, by omega, by omega, by omega, fun k hk => ⟨by have := (hv k hk).1; omega, (hv k hk).2⟩⟩
theorem num_nz (s : TkM) (h : s.num.2.er ≠ 0) : s.num.1 = 0 := by
  unfold TkM.num at h ⊢
  split
  · rename_i h0
    rw [if_pos h0] at h
    split
    · rename_i h1; rw [if_pos h1] at h; exact absurd rfl h
    · rfl
  · rfl
theorem ImSt.zero {w0 w : World} {t r b2 b8 : Nat} {v x : Value} {s : TkM} {c b : Int} {l : List SesM} (h : ImSt w0 w t r b2 b8 v s c b x l) :
    Box (((w.setCell ⟨b2, 0, none⟩ (.int .i64 0)).setCell ⟨b2, 1, none⟩ (.int .i64 0)).setCell ⟨b2, 2, none⟩ (.slice none 0 0)) b2 #[.int .i64 0, .int .i64 0, .slice none 0 0] 24 ∧ Below w0.heap.size w0 (((w.setCell ⟨b2, 0, none⟩ (.int .i64 0)).setCell ⟨b2, 1, none⟩ (.int .i64 0)).setCell ⟨b2, 2, none⟩ (.slice none 0 0)) :=
  ⟨((h.bz.set 0 (.int .i64 0)).set 1 (.int .i64 0)).set 2 (.slice none 0 0), h.bel.trans ((((Mod.set (fun i => i = b2) w ⟨b2, 0, none⟩ (.int .i64 0) rfl).trans (Mod.set (fun i => i = b2) _ ⟨b2, 1, none⟩ (.int .i64 0) rfl)).trans (Mod.set (fun i => i = b2) _ ⟨b2, 2, none⟩ (.slice none 0 0) rfl)).below h.bel.size (fun _ e => e ▸ h.g))⟩
theorem ImSt.full {w0 w : World} {t r b2 b8 : Nat} {v x : Value} {s : TkM} {c b : Int} {l : List SesM} (h : ImSt w0 w t r b2 b8 v s c b x l) :
    Box (((w.setCell ⟨b2, 0, none⟩ (.int .i64 c)).setCell ⟨b2, 1, none⟩ (.int .i64 b)).setCell ⟨b2, 2, none⟩ x) b2 #[.int .i64 c, .int .i64 b, x] 24 ∧ OwnS (((w.setCell ⟨b2, 0, none⟩ (.int .i64 c)).setCell ⟨b2, 1, none⟩ (.int .i64 b)).setCell ⟨b2, 2, none⟩ x) w0.heap.size x l ∧ Below w0.heap.size w0 (((w.setCell ⟨b2, 0, none⟩ (.int .i64 c)).setCell ⟨b2, 1, none⟩ (.int .i64 b)).setCell ⟨b2, 2, none⟩ x) := by
  have hm := (((Mod.set (fun i => i = b2) w ⟨b2, 0, none⟩ (.int .i64 c) rfl).trans (Mod.set (fun i => i = b2) _ ⟨b2, 1, none⟩ (.int .i64 b) rfl)).trans (Mod.set (fun i => i = b2) _ ⟨b2, 2, none⟩ x rfl))
  have := h.g; have := h.o1; have := h.o2; have := h.o3
  exact ⟨((h.bz.set 0 (.int .i64 c)).set 1 (.int .i64 b)).set 2 x, (h.own.base (by omega)).mod hm (fun k hk e => by have := (h.own.lt k hk).1; omega), h.bel.trans (hm.below h.bel.size (fun _ e => e ▸ h.g))⟩
theorem bornM_ok (s : TkM) : SesOk (bornM s).1 := ⟨Nat.le_trans (TkM.txt_len _) (by decide), Nat.le_trans (TkM.txt_len _) (by decide), TkM.num_lt _⟩
theorem sesTs_ok : ∀ (n : Nat) (s : TkM), ∀ x ∈ (sesTs n s).1, SesOk x
  | 0, s, x, h => by cases h
  | n + 1, s, x, h => by
    rcases List.mem_cons.1 h with rfl | h
    · exact bornM_ok s
    · exact sesTs_ok n _ x h
theorem zrange {w : World} {b : Nat} {cs : List Value} {t : TypeId} (h : Box w b cs.toArray t) : w.rangeAt b 0 cs := h.range 0 _ (fun j v hv => by rw [Nat.zero_add]; simpa using hv)
set_option maxHeartbeats 12800000 in
theorem decI_calls (x : Value) (l : List UInt8) (w : World) (hx : Rd w x l.length (l.map V8)) (hl : l.length ≤ 1000000000000) :
    Calls Tryd.prog 19 #[x] w fun ev w' => ∃ o, ev = .returned (.tuple #[.agg #[.int .i64 (decI l).2.clock, .int .i64 (decI l).2.births, o], errV (decI l).1]) ∧ OwnS w' w.heap.size o (decI l).2.l ∧ Below w.heap.size w w' := by
  have Hop := Lib.hid (fun o => open_calls x l (w.alloc o) (hx.below (below_alloc w o)) hl)
  obtain ⟨D, hD⟩ : ∃ D, D = decI l := ⟨_, rfl⟩
  rw [← hD]
  unfold decI at hD
  simp only at hD
  have HD := Lib.hid hD
  obtain ⟨xa, xc, rfl, hx0⟩ := hx
  clear hl hD hx0
  go_enter Tryd.func19, Tryd.ntmps19
  go_wp2_with fail
  refine (Hop.out _).mono ?_
  rintro ev w1 ⟨r, v, rfl, hi, hb, hr, hv⟩
  rw [World.size_alloc] at hr hv
  have HST := Lib.hid (ImSt.start hi hb hr hv)
  clear hi hb hr hv Hop
  go_wp2_with fail
  have hit := HST.out.below (below_alloc _ (.cells #[.pointer (some ⟨w1.heap.size + 1, 0, none⟩), .pointer (some ⟨w1.heap.size + 1, 1, none⟩)] 90))
  have hsb := Box.new ((w1.alloc (.cells #[.pointer (some ⟨r, 0, none⟩), .nilIface, .bool false] 86)).alloc (.cells #[.int .i64 0, .int .i64 0, .slice none 0 0] 24)) #[.pointer (some ⟨w1.heap.size + 1, 0, none⟩), .pointer (some ⟨w1.heap.size + 1, 1, none⟩)] 90
  rw [World.size_alloc, World.size_alloc] at hsb
  have hwr := HST.out.o2
  have hwv := HST.out.ov
  have HI := Lib.hid (imInts_calls w1.heap.size r (w1.heap.size + 1) (w1.heap.size + 1 + 1) v ⟨l, 0, 0, false⟩ [0, 1] _ 24 90 _ hit.it hit.bs hsb (by decide) (by omega) (by omega) (by omega) (by omega) (by omega) (fun e => by have := (hwv _ e).2; omega) (by decide))
  have HI2 := Lib.hid hit
  clear hit hsb hwr hwv HST
  refine HI.out.mono ?_
  rintro ev w4 ⟨rfl, hi4, hb4, hm4⟩
  have hs4 := HI2.out.clocks (c' := (⟨l, 0, 0, false⟩ : TkM).int.1) (b' := (⟨l, 0, 0, false⟩ : TkM).int.2.int.1) hi4 hb4 hm4
  change ImSt _ _ _ _ _ _ _ (⟨l, 0, 0, false⟩ : TkM).int.2.int.2 _ _ _ _ at hs4
  clear hi4 hb4 hm4 HI HI2
  have hDD := HD.out
  clear HD
  generalize (⟨l, 0, 0, false⟩ : TkM).int = p at hs4 hDD
  obtain ⟨c, s1⟩ := p
  simp only at hs4 hDD
  generalize s1.int = p at hs4 hDD
  obtain ⟨bb, s2⟩ := p
  simp only at hs4 hDD
  have HS4 := Lib.hid hs4
  have HD := Lib.hid hDD
  generalize w1.heap.size = t at *
  clear hs4 hDD
  go_wp2_with fail
  refine (imNumber_calls t r v s2 w4 HS4.out.it).mono ?_
  rintro ev w5 ⟨rfl, hi, hm⟩
  have hs5 := HS4.out.step hi hm
  have hDD := HD.out
  clear hi hm HS4 HD
  have hnz := num_nz s2
  generalize s2.num = p at hs5 hDD hnz ⊢
  obtain ⟨n, s3⟩ := p
  simp only at hs5 hDD hnz ⊢
  have HS5 := Lib.hid hs5
  have c1 : w5.cell? ⟨t, 1, none⟩ = some (errV s3.er) := hs5.it.box.cell 1 _ rfl
  clear hs5
  by_cases hbig : s3.er = 0 ∧ 32 < n
  · rw [if_pos hbig] at hDD
    obtain ⟨he, hn⟩ := hbig
    rw [show errV s3.er = .nilIface by unfold errV; rw [if_pos he]] at c1
    have g2 : (32 : Int) < (n : Int) := by omega
    have d0 : w5.cell? ⟨w.heap.size, 0, none⟩ = some (.int .i64 0) := HS5.out.bz.cell 0 _ rfl
    have d1 : w5.cell? ⟨w.heap.size, 1, none⟩ = some (.int .i64 0) := HS5.out.bz.cell 1 _ rfl
    have d2 : w5.cell? ⟨w.heap.size, 2, none⟩ = some (.slice none 0 0) := HS5.out.bz.cell 2 _ rfl
    have e0 := HS5.out.bz.free 0
    have e1 := HS5.out.bz.free 1
    have e2 := HS5.out.bz.free 2
    have HZ := Lib.hid HS5.out.zero
    subst hDD
    clear he hn hnz HS5
    go_wp2_with fail
    exact ret_cell_tmp rfl rfl w.heap.size 0 rfl [.int .i64 0, .int .i64 0, .slice none 0 0] _ (zrange HZ.out.1) Tryd.underlying24 rfl (by kernel_rfl) _ rfl ⟨_, rfl, OwnS.nil _ _, HZ.out.2⟩
  rw [if_neg hbig] at hDD
  have hn : n ≤ 32 := by
    by_cases he : s3.er = 0
    · exact Nat.le_of_not_lt (fun h => hbig ⟨he, h⟩)
    · rw [hnz he]; exact Nat.zero_le _
  have HNZ := Lib.hid hnz
  have HN := Lib.hid hn
  have HD := Lib.hid hDD
  clear hbig hnz hDD
  by_cases he : s3.er = 0
  rotate_left
  · rw [errV_no he] at c1
    have hn0 := HNZ.out he
    have hDD := HD.out
    rw [hn0] at hDD
    unfold finI at hDD
    change D = (if s3.er = 0 then _ else _) at hDD
    rw [if_neg he] at hDD
    change D = (s3.er, noSt) at hDD
    have HER := Lib.hid he
    subst hDD
    subst hn0
    clear HNZ HN HD hn he
    go_wp2_with fail
    go_loopg [41] 0 (fun gk iv wr => iv = .int .u64 0 ∧ ImSt w wr t r w.heap.size (t + 1) v s3 c bb (.slice none 0 0) [])
    case atStart => exact ⟨rfl, HS5.out⟩
    case round =>
      obtain ⟨rfl, hst⟩ := hrel
      have HSR := Lib.hid hst
      have c2 : wr.cell? ⟨t, 1, none⟩ = some (errV s3.er) := hst.it.box.cell 1 _ rfl
      rw [errV_no HER.out] at c2
      clear hst c1 HS5
      have HX := Lib.hid (⟨c2, HSR.out.bz, HSR.out.bel, by have := HSR.out.o1; have := HSR.out.o2; omega, HSR.out.g⟩ : ExI w t w.heap.size (.iface 68 (.int .i64 s3.er)) wr)
      have hke : ∀ w', ExI w t w.heap.size (.iface 68 (.int .i64 s3.er)) w' → w'.cell? ⟨t, 1, none⟩ = some (.iface 68 (.int .i64 s3.er)) := fun w' h => h.ce
      clear HSR
      go_wp2_with fail
      clear c2
      refine wp_region_held_drew (S := ExI w t w.heap.size (.iface 68 (.int .i64 s3.er))) (by kernel_rfl) HX.out.drew (fun hHeld => ?_)
      refine wpAnyH_take (i := 0) (oi := ⟨some 81, _, _, _, _, _⟩) (v := ?_) rfl (by kernel_rfl) (by kernel_rfl) (by kernel_rfl) (fun _ _ _ h => h) (Or.inl ⟨by kernel_rfl, ?_⟩) (by assumption) ?_
      rotate_left 1
      · intro w' hw'; go_simp; try with_reducible rfl
      simp only [Act.put, List.setIfInBounds_toArray, List.set_cons_zero, List.set_cons_succ]
      refine wpAnyH_take (i := 1) (oi := ⟨some 82, _, _, _, _, _⟩) (v := ?_) rfl (by kernel_rfl) (by kernel_rfl) (by kernel_rfl) (fun _ _ _ h => h) (Or.inl ⟨by kernel_rfl, ?_⟩) (by assumption) ?_
      rotate_left 1
      · intro w' hw'; go_simp; try with_reducible rfl
      simp only [Act.put, List.setIfInBounds_toArray, List.set_cons_zero, List.set_cons_succ]
      refine wpAnyH_take (i := 2) (oi := ⟨some 83, _, _, _, _, _⟩) (v := ?_) rfl (by kernel_rfl) (by kernel_rfl) (by kernel_rfl) (fun _ _ _ h => h) (Or.inl ⟨by kernel_rfl, ?_⟩) (by assumption) ?_
      rotate_left 1
      · intro w' hw'; go_simp; try with_reducible rfl
      simp only [Act.put, List.setIfInBounds_toArray, List.set_cons_zero, List.set_cons_succ]
      refine wpAnyH_take (i := 3) (oi := ⟨some 84, _, _, _, _, _⟩) (v := ?_) rfl (by kernel_rfl) (by kernel_rfl) (by kernel_rfl) (fun _ _ _ h => h) (Or.inl ⟨by kernel_rfl, ?_⟩) (by assumption) ?_
      rotate_left 1
      · intro w' hw'; go_simp; try with_reducible rfl
      simp only [Act.put, List.setIfInBounds_toArray, List.set_cons_zero, List.set_cons_succ]
      refine wpAnyH_take (i := 4) (oi := ⟨some 85, _, _, _, _, _⟩) (v := ?_) rfl (by kernel_rfl) (by kernel_rfl) (by kernel_rfl) (fun _ _ _ h => h) (Or.inl ⟨by kernel_rfl, ?_⟩) (by assumption) ?_
      rotate_left 1
      · intro w' hw'; go_simp; try with_reducible rfl
      simp only [Act.put, List.setIfInBounds_toArray, List.set_cons_zero, List.set_cons_succ]
      refine wpAnyH_ready (rs := [5]) (by kernel_rfl) (by simp) (AllReadyH.cons (o := ⟨none, .store 24 (.tmp 2) (.tmp 81), _, _, _, none⟩) rfl (fun K hK => ?_) AllReadyH.nil)
      rw [if_pos (by kernel_rfl)]
      refine wp_store_k 24 (.tmp 2) (.tmp 81) rfl w.heap.size 0 [.int .i64 0, .int .i64 0, .slice none 0 0] rfl rfl (hHeld.bz.there 0 3 (by decide)) (by kernel_rfl) zst_one ?_
      refine hK.out _ _ hHeld.store (fun hHeld2 => ?_)
      clear hK K
      try simp only [Act.put]
      refine wpAnyH_take (i := 6) (oi := ⟨some 3, _, _, _, _, _⟩) (v := ?_) rfl (by kernel_rfl) (by kernel_rfl) (by kernel_rfl) (fun _ _ _ h => h) (Or.inl ⟨by kernel_rfl, ?_⟩) (by assumption) ?_
      rotate_left 1
      · intro w' hw'; go_simp; try with_reducible rfl
      simp only [Act.put, List.setIfInBounds_toArray, List.set_cons_zero, List.set_cons_succ]
      refine wpAnyH_done (by kernel_rfl) ?_ _
      have HZ := Lib.hid hHeld2
      clear hHeld hHeld2 hke HX
      generalize World.setCells _ _ _ _ = wz at HZ ⊢
      go_wp2_with fail
      exact ret_cell_tmp rfl rfl w.heap.size 0 rfl [.int .i64 0, .int .i64 0, .slice none 0 0] _ (zrange HZ.out.bz) Tryd.underlying24 rfl (by kernel_rfl) _ rfl ⟨_, by rw [errV_no HER.out]; rfl, OwnS.nil _ _, HZ.out.bel⟩
  rw [show errV s3.er = .nilIface by unfold errV; rw [if_pos he]] at c1
  have g2 : ¬ (32 : Int) < (n : Int) := by omega
  clear he hn
  go_wp2_with fail
  go_loopg [41] n (fun gk iv wr => ∃ (k : Nat) (x : Value), gk + k = n ∧ iv = .int .u64 (k : Int) ∧ ImSt w wr t r w.heap.size (t + 1) v (sesTs k s3).2 c bb x (sesTs k s3).1)
  case atStart => exact ⟨0, _, rfl, rfl, HS5.out⟩
  case round =>
    obtain ⟨k, x, hgk, rfl, hst⟩ := hrel
    have k0 : (0 : Int) ≤ (k : Int) := by omega
    have HGK := Lib.hid hgk
    have HSR := Lib.hid hst
    have HTS := Lib.hid (sesTs_snoc k s3)
    by_cases hk : k < n
    · have k1 : (k : Int) < (n : Int) := by omega
      have HK := Lib.hid hk
      clear hst hk hgk
      have HLL := Lib.hid (sesTs_len k s3)
      generalize sesTs k s3 = p at HSR HTS HLL
      obtain ⟨l, sk⟩ := p
      simp only at HSR HTS HLL
      unfold bornM at HTS
      simp only at HTS
      have hlt : t + 1 < wr.heap.size := HSR.out.bs.lt
      have hrt : r < t := HSR.out.o2
      have hsz : (wr.alloc (.cells #[.int .i64 0, .int .i64 0, .int .i64 0, .int .i64 0, .int .i64 0, .string ⟨#[]⟩, .string ⟨#[]⟩, .int .u64 0, .int .i64 0, .int .i64 0, .int .i64 0, .int .i64 0] 56)).heap.size = wr.heap.size + 1 := World.size_alloc _ _
      have hst1 := HSR.out.below (below_alloc _ (.cells #[.int .i64 0, .int .i64 0, .int .i64 0, .int .i64 0, .int .i64 0, .string ⟨#[]⟩, .string ⟨#[]⟩, .int .u64 0, .int .i64 0, .int .i64 0, .int .i64 0, .int .i64 0] 56))
      have hbx1 : Box (wr.alloc (.cells #[.int .i64 0, .int .i64 0, .int .i64 0, .int .i64 0, .int .i64 0, .string ⟨#[]⟩, .string ⟨#[]⟩, .int .u64 0, .int .i64 0, .int .i64 0, .int .i64 0, .int .i64 0] 56)) wr.heap.size #[.int .i64 0, .int .i64 0, .int .i64 0, .int .i64 0, .int .i64 0, .string ⟨#[]⟩, .string ⟨#[]⟩, .int .u64 0, .int .i64 0, .int .i64 0, .int .i64 0, .int .i64 0] 56 := Box.new wr _ _
      have hxo : ∀ eb, eb = wr.heap.size → x.ownBlock ≠ some eb := fun eb he e => by have := (HSR.out.own.lt _ e).2; omega
      have hvo : ∀ eb, eb = wr.heap.size → v.ownBlock ≠ some eb := fun eb he e => by have := (HSR.out.ov _ e).2; omega
      obtain ⟨eb, heb⟩ : ∃ eb, eb = wr.heap.size := ⟨_, rfl⟩
      have HXO := Lib.hid (hxo eb heb)
      have HVO := Lib.hid (hvo eb heb)
      have HW1 := Lib.hid (And.intro hst1 hbx1)
      have HLT := Lib.hid (show t + 1 < eb ∧ r < t by omega)
      clear hst1 hbx1 hxo hvo hlt hrt HSR
      go_wp2_with fail
      rw [← heb] at HW1 hsz ⊢
      have hsb := Box.new (wr.alloc (.cells #[.int .i64 0, .int .i64 0, .int .i64 0, .int .i64 0, .int .i64 0, .string ⟨#[]⟩, .string ⟨#[]⟩, .int .u64 0, .int .i64 0, .int .i64 0, .int .i64 0, .int .i64 0] 56)) #[.pointer (some ⟨eb, 0, none⟩), .pointer (some ⟨eb, 1, none⟩), .pointer (some ⟨eb, 2, none⟩), .pointer (some ⟨eb, 3, none⟩), .pointer (some ⟨eb, 4, none⟩)] 90
      rw [hsz] at hsb
      have hst2 := HW1.out.1.below (below_alloc _ (.cells #[.pointer (some ⟨eb, 0, none⟩), .pointer (some ⟨eb, 1, none⟩), .pointer (some ⟨eb, 2, none⟩), .pointer (some ⟨eb, 3, none⟩), .pointer (some ⟨eb, 4, none⟩)] 90))
      have hbx2 := HW1.out.2.below (below_alloc _ (.cells #[.pointer (some ⟨eb, 0, none⟩), .pointer (some ⟨eb, 1, none⟩), .pointer (some ⟨eb, 2, none⟩), .pointer (some ⟨eb, 3, none⟩), .pointer (some ⟨eb, 4, none⟩)] 90))
      have HI := Lib.hid (imInts_calls t r eb (eb + 1) v sk [0, 1, 2, 3, 4] _ 56 90 _ hst2.it hbx2 hsb (by decide) (by have := HLT.out; omega) (by have := HLT.out; omega) (by have := HLT.out; omega) (by have := HLT.out; omega) (by omega) HVO.out (by decide))
      have HS2 := Lib.hid hst2
      clear hst2 hbx2 hsb HW1 heb hsz
      refine HI.out.mono ?_
      rintro ev w4 ⟨rfl, hi4, hb4, hm4⟩
      have hs4 := HS2.out.ints hi4 hm4 HLT.out.1 HXO.out
      change ImSt _ _ _ _ _ _ _ sk.int.2.int.2.int.2.int.2.int.2 _ _ _ _ at hs4
      change Box w4 eb (SesM.cells ⟨sk.int.1, sk.int.2.int.1, sk.int.2.int.2.int.1, sk.int.2.int.2.int.2.int.1, sk.int.2.int.2.int.2.int.2.int.1, [], [], 0, 0, 0, 0, 0⟩) 56 at hb4
      clear hi4 hm4 HI HS2
      generalize sk.int = p at hs4 hb4 HTS
      obtain ⟨n1, q2⟩ := p
      simp only at hs4 hb4 HTS
      generalize q2.int = p at hs4 hb4 HTS
      obtain ⟨n2, q3⟩ := p
      simp only at hs4 hb4 HTS
      generalize q3.int = p at hs4 hb4 HTS
      obtain ⟨n3, q4⟩ := p
      simp only at hs4 hb4 HTS
      generalize q4.int = p at hs4 hb4 HTS
      obtain ⟨n4, q5⟩ := p
      simp only at hs4 hb4 HTS
      generalize q5.int = p at hs4 hb4 HTS
      obtain ⟨n5, q6⟩ := p
      simp only at hs4 hb4 HTS
      have HS4 := Lib.hid hs4
      have HE4 := Lib.hid hb4
      clear hs4 hb4
      go_wp2_with fail
      refine (imText_calls t r v q6 _ HS4.out.it).mono ?_
      rintro ev w5 ⟨rfl, hi, hm⟩
      have hst := HS4.out.step hi hm
      have hE := HE4.out.mod hm (by rintro (e | e) <;> (have := HLT.out; omega))
      clear hi hm
      generalize q6.txt = p at hst HTS ⊢
      obtain ⟨u, q7⟩ := p
      simp only at hst HTS ⊢
      have HS5 := Lib.hid hst
      have HE5 := Lib.hid hE
      clear hst hE HS4 HE4
      go_wp2_with fail
      refine (imText_calls t r v q7 _ HS5.out.it).mono ?_
      rintro ev w6 ⟨rfl, hi, hm⟩
      have hst := HS5.out.step hi hm
      have hE := HE5.out.mod hm (by rintro (e | e) <;> (have := HLT.out; omega))
      clear hi hm
      generalize q7.txt = p at hst HTS ⊢
      obtain ⟨lb, q8⟩ := p
      simp only at hst HTS ⊢
      have HS6 := Lib.hid hst
      have HE6 := Lib.hid hE
      clear hst hE HS5 HE5
      have k5 := HE6.out.cell 5 _ rfl
      have f5 := HE6.out.free 5
      have hEa : Box (w6.setCell ⟨eb, 5, none⟩ (.string (SB u))) eb (SesM.cells ⟨n1, n2, n3, n4, n5, u, [], 0, 0, 0, 0, 0⟩) 56 := HE6.out.set 5 _
      have hSa := HS6.out.mod (Mod.set (fun i => i = eb) w6 ⟨eb, 5, none⟩ (.string (SB u)) rfl) HLT.out.1 HXO.out
      have k6 := hEa.cell 6 _ rfl
      have f6 := hEa.free 6
      have hEb : Box ((w6.setCell ⟨eb, 5, none⟩ (.string (SB u))).setCell ⟨eb, 6, none⟩ (.string (SB lb))) eb (SesM.cells ⟨n1, n2, n3, n4, n5, u, lb, 0, 0, 0, 0, 0⟩) 56 := hEa.set 6 _
      have hSb := hSa.mod (Mod.set (fun i => i = eb) (w6.setCell ⟨eb, 5, none⟩ (.string (SB u))) ⟨eb, 6, none⟩ (.string (SB lb)) rfl) HLT.out.1 HXO.out
      have HEb := Lib.hid hEb
      have HSb := Lib.hid hSb
      clear hEa hEb hSa hSb HE6 HS6
      go_wp2_with fail
      refine (imNumber_calls t r v q8 _ HSb.out.it).mono ?_
      rintro ev w7 ⟨rfl, hi, hm⟩
      have hst := HSb.out.step hi hm
      have hE := HEb.out.mod hm (by rintro (e | e) <;> (have := HLT.out; omega))
      clear hi hm k5 f5 k6 f6 HSb HEb
      generalize q8.num = p at hst HTS ⊢
      obtain ⟨sc, q9⟩ := p
      simp only at hst HTS ⊢
      have k7 := hE.cell 7 _ rfl
      have f7 := hE.free 7
      have hEa : Box (w7.setCell ⟨eb, 7, none⟩ (.int .u64 (sc : Int))) eb (SesM.cells ⟨n1, n2, n3, n4, n5, u, lb, sc, 0, 0, 0, 0⟩) 56 := hE.set 7 _
      have hSa := hst.mod (Mod.set (fun i => i = eb) w7 ⟨eb, 7, none⟩ (.int .u64 (sc : Int)) rfl) HLT.out.1 HXO.out
      have hEl : eb < w7.heap.size := hE.lt
      have HE7 := Lib.hid hEa
      have HS7 := Lib.hid hSa
      clear hE hst hEa hSa
      go_wp2_with fail
      clear k7 f7
      have hst2 := HS7.out.below (below_alloc _ (.cells #[.pointer (some ⟨eb, 8, none⟩), .pointer (some ⟨eb, 9, none⟩), .pointer (some ⟨eb, 10, none⟩), .pointer (some ⟨eb, 11, none⟩)] 90))
      have hbx2 := HE7.out.below (below_alloc _ (.cells #[.pointer (some ⟨eb, 8, none⟩), .pointer (some ⟨eb, 9, none⟩), .pointer (some ⟨eb, 10, none⟩), .pointer (some ⟨eb, 11, none⟩)] 90))
      have hsb := Box.new (w7.setCell ⟨eb, 7, none⟩ (.int .u64 (sc : Int))) #[.pointer (some ⟨eb, 8, none⟩), .pointer (some ⟨eb, 9, none⟩), .pointer (some ⟨eb, 10, none⟩), .pointer (some ⟨eb, 11, none⟩)] 90
      rw [show (w7.setCell ⟨eb, 7, none⟩ (.int .u64 (sc : Int))).heap.size = w7.heap.size by simp] at hsb
      have HI := Lib.hid (imInts_calls t r eb w7.heap.size v q9 [8, 9, 10, 11] _ 56 90 _ hst2.it hbx2 hsb (show ∀ o ∈ [8, 9, 10, 11], o < 12 by decide) (by have := HLT.out; omega) (by have := HLT.out; omega) (by have := HLT.out; omega) (by have := HLT.out; omega) (by omega) HVO.out (by decide))
      have HS2 := Lib.hid hst2
      clear hst2 hbx2 hsb HE7 HS7 hEl
      refine HI.out.mono ?_
      rintro ev w8 ⟨rfl, hi4, hb4, hm4⟩
      have hs4 := HS2.out.ints hi4 hm4 HLT.out.1 HXO.out
      change ImSt _ _ _ _ _ _ _ q9.int.2.int.2.int.2.int.2 _ _ _ _ at hs4
      change Box w8 eb (SesM.cells ⟨n1, n2, n3, n4, n5, u, lb, sc, q9.int.1, q9.int.2.int.1, q9.int.2.int.2.int.1, q9.int.2.int.2.int.2.int.1⟩) 56 at hb4
      clear hi4 hm4 HI HS2
      generalize q9.int = p at hs4 hb4 HTS
      obtain ⟨n6, q10⟩ := p
      simp only at hs4 hb4 HTS
      generalize q10.int = p at hs4 hb4 HTS
      obtain ⟨n7, q11⟩ := p
      simp only at hs4 hb4 HTS
      generalize q11.int = p at hs4 hb4 HTS
      obtain ⟨n8, q12⟩ := p
      simp only at hs4 hb4 HTS
      generalize q12.int = p at hs4 hb4 HTS
      obtain ⟨n9, q13⟩ := p
      simp only at hs4 hb4 HTS
      obtain ⟨y, hy⟩ : ∃ y : SesM, y = ⟨n1, n2, n3, n4, n5, u, lb, sc, n6, n7, n8, n9⟩ := ⟨_, rfl⟩
      rw [← hy] at hb4 HTS
      clear hy
      have HRG := Lib.hid (Box.rangeS hb4)
      have s2 : w8.cell? ⟨t + 1, 2, none⟩ = some x := hs4.bs.cell 2 _ rfl
      have HS8 := Lib.hid hs4
      clear hs4 hb4
      go_wp2_with ((with_reducible refine wpList_load_k ?b01 56 (.tmp 10) ?b11 eb 0 ?b21 y.cells.toList _ HRG.out Tryd.underlying56 ?b31 ?b41 ?b81); (case b11 => rfl); (case b01 => rfl); (case b21 => rfl); (case b31 => rfl); (case b41 => kernel_rfl))
      intro cv hcv
      have ecv : cv = y.cells := by rw [hcv.out]
      subst ecv
      clear hcv
      go_wp2_with (refine wpList_buildSlice_s (op := ⟨some 72, _, _, _, _, _⟩) (by rfl) 22 1 #[(0, .tmp 71)] rfl #[(0, .agg y.cells)] (by kernel_rfl) _ _ (buildS y w8) ?_)
      intro w9 hw9
      have hb9 : Below w8.heap.size w8 w9 := by rw [hw9.out]; exact below_alloc _ _
      have HC9 := Lib.hid (show ∀ j u, y.cells.toList[j]? = some u → w9.cell? ((⟨w8.heap.size, 0, none⟩ : Addr).add j) = some u by rw [hw9.out]; exact newCells w8 y _)
      have HS9 := Lib.hid (HS8.out.below hb9)
      have HLK := Lib.hid (show l.length + 1 ≤ 1256584717458 by have := HLL.out; have := HK.out; have := HN.out; omega)
      have HBS := Lib.hid (show t + 1 + 1 ≤ w9.heap.size by have := HS9.out.bs.lt; omega)
      clear hw9 hb9 HS8 HRG s2
      go_wp2_with (at_builtin; refine appSes rfl _ _ rfl (t + 1 + 1) _ l rfl HS9.out.own ⟨w8.heap.size, 0, none⟩ 1 y rfl HC9.out HLK.out HBS.out ?_)
      intro x' w10 hown' hg' _
      obtain ⟨va, vc, hve, _⟩ := hown'.slice
      rw [List.length_append, List.length_singleton] at hve
      subst hve
      have hb10 := HS9.out.grown hg'
      have hm10 : Mod (fun i => t + 1 + 1 ≤ i) w9 w10 := ⟨hb10.os, hb10.tape, hb10.output, hb10.size, fun i _ hn => hb10.block i (by omega)⟩
      have hbs10 := HS9.out.bs.mod hm10 (by omega)
      have g2 : w10.cell? ⟨t + 1, 2, none⟩ = some x := hbs10.cell 2 _ rfl
      have e2 := hbs10.free 2
      have HSF := Lib.hid (HS9.out.put hb10 hown')
      clear hown' hg' hb10 hm10 hbs10 HS9 HC9 HLK HBS
      go_wp2_with fail
      go_roundg (n - (k + 1))
      case measure => have := HGK.out; have := HK.out; omega
      case rel => exact ⟨k + 1, _, by have := HGK.out; have := HK.out; omega, by go_num, by rw [HTS.out]; exact HSF.out⟩
    · have hkn : k = n := by omega
      subst hkn
      have k1 : ¬ (k : Int) < (k : Int) := by omega
      clear hgk hk hst HTS HGK HNZ HN HS5 c1
      have hDD := HD.out
      clear HD
      have hok := sesTs_ok k s3
      generalize sesTs k s3 = p at HSR hDD hok
      obtain ⟨L, sN⟩ := p
      simp only at HSR hDD hok
      have HOK := Lib.hid hok
      clear hok
      have c2 : wr.cell? ⟨t, 1, none⟩ = some (errV sN.er) := HSR.out.it.box.cell 1 _ rfl
      unfold finI at hDD
      by_cases he : sN.er = 0
      rotate_left
      · rw [if_neg he] at hDD
        rw [errV_no he] at c2
        have HER := Lib.hid he
        subst hDD
        clear he
        have HX := Lib.hid (⟨c2, HSR.out.bz, HSR.out.bel, by have := HSR.out.o1; have := HSR.out.o2; omega, HSR.out.g⟩ : ExI w t w.heap.size (.iface 68 (.int .i64 sN.er)) wr)
        have hke : ∀ w', ExI w t w.heap.size (.iface 68 (.int .i64 sN.er)) w' → w'.cell? ⟨t, 1, none⟩ = some (.iface 68 (.int .i64 sN.er)) := fun w' h => h.ce
        clear HSR
        go_wp2_with fail
        clear c2
        refine wp_region_held_drew (S := ExI w t w.heap.size (.iface 68 (.int .i64 sN.er))) (by kernel_rfl) HX.out.drew (fun hHeld => ?_)
        refine wpAnyH_take (i := 0) (oi := ⟨some 81, _, _, _, _, _⟩) (v := ?_) rfl (by kernel_rfl) (by kernel_rfl) (by kernel_rfl) (fun _ _ _ h => h) (Or.inl ⟨by kernel_rfl, ?_⟩) (by assumption) ?_
        rotate_left 1
        · intro w' hw'; go_simp; try with_reducible rfl
        simp only [Act.put, List.setIfInBounds_toArray, List.set_cons_zero, List.set_cons_succ]
        refine wpAnyH_take (i := 1) (oi := ⟨some 82, _, _, _, _, _⟩) (v := ?_) rfl (by kernel_rfl) (by kernel_rfl) (by kernel_rfl) (fun _ _ _ h => h) (Or.inl ⟨by kernel_rfl, ?_⟩) (by assumption) ?_
        rotate_left 1
        · intro w' hw'; go_simp; try with_reducible rfl
        simp only [Act.put, List.setIfInBounds_toArray, List.set_cons_zero, List.set_cons_succ]
        refine wpAnyH_take (i := 2) (oi := ⟨some 83, _, _, _, _, _⟩) (v := ?_) rfl (by kernel_rfl) (by kernel_rfl) (by kernel_rfl) (fun _ _ _ h => h) (Or.inl ⟨by kernel_rfl, ?_⟩) (by assumption) ?_
        rotate_left 1
        · intro w' hw'; go_simp; try with_reducible rfl
        simp only [Act.put, List.setIfInBounds_toArray, List.set_cons_zero, List.set_cons_succ]
        refine wpAnyH_take (i := 3) (oi := ⟨some 84, _, _, _, _, _⟩) (v := ?_) rfl (by kernel_rfl) (by kernel_rfl) (by kernel_rfl) (fun _ _ _ h => h) (Or.inl ⟨by kernel_rfl, ?_⟩) (by assumption) ?_
        rotate_left 1
        · intro w' hw'; go_simp; try with_reducible rfl
        simp only [Act.put, List.setIfInBounds_toArray, List.set_cons_zero, List.set_cons_succ]
        refine wpAnyH_take (i := 4) (oi := ⟨some 85, _, _, _, _, _⟩) (v := ?_) rfl (by kernel_rfl) (by kernel_rfl) (by kernel_rfl) (fun _ _ _ h => h) (Or.inl ⟨by kernel_rfl, ?_⟩) (by assumption) ?_
        rotate_left 1
        · intro w' hw'; go_simp; try with_reducible rfl
        simp only [Act.put, List.setIfInBounds_toArray, List.set_cons_zero, List.set_cons_succ]
        refine wpAnyH_ready (rs := [5]) (by kernel_rfl) (by simp) (AllReadyH.cons (o := ⟨none, .store 24 (.tmp 2) (.tmp 81), _, _, _, none⟩) rfl (fun K hK => ?_) AllReadyH.nil)
        rw [if_pos (by kernel_rfl)]
        refine wp_store_k 24 (.tmp 2) (.tmp 81) rfl w.heap.size 0 [.int .i64 0, .int .i64 0, .slice none 0 0] rfl rfl (hHeld.bz.there 0 3 (by decide)) (by kernel_rfl) zst_one ?_
        refine hK.out _ _ hHeld.store (fun hHeld2 => ?_)
        clear hK K
        try simp only [Act.put]
        refine wpAnyH_take (i := 6) (oi := ⟨some 3, _, _, _, _, _⟩) (v := ?_) rfl (by kernel_rfl) (by kernel_rfl) (by kernel_rfl) (fun _ _ _ h => h) (Or.inl ⟨by kernel_rfl, ?_⟩) (by assumption) ?_
        rotate_left 1
        · intro w' hw'; go_simp; try with_reducible rfl
        simp only [Act.put, List.setIfInBounds_toArray, List.set_cons_zero, List.set_cons_succ]
        refine wpAnyH_done (by kernel_rfl) ?_ _
        have HZ := Lib.hid hHeld2
        clear hHeld hHeld2 hke HX
        generalize World.setCells _ _ _ _ = wz at HZ ⊢
        go_wp2_with fail
        exact ret_cell_tmp rfl rfl w.heap.size 0 rfl [.int .i64 0, .int .i64 0, .slice none 0 0] _ (zrange HZ.out.bz) Tryd.underlying24 rfl (by kernel_rfl) _ rfl ⟨_, by rw [errV_no HER.out]; rfl, OwnS.nil _ _, HZ.out.bel⟩
      rw [if_pos he] at hDD
      rw [show errV sN.er = .nilIface by unfold errV; rw [if_pos he]] at c2
      have c3 := HSR.out.it.box.cell 0 _ rfl
      clear he
      go_wp2_with fail
      refine (end_calls r sN.k v sN.l _ HSR.out.it.rd).mono ?_
      rintro ev w7 ⟨rfl, hb7⟩
      have HS7 := Lib.hid (HSR.out.below hb7)
      clear c2 c3 hb7 HSR
      by_cases hk : sN.k < sN.l.length
      · rw [if_pos hk, errV_no (by decide : (3 : Int) ≠ 0)]
        rw [if_pos hk] at hDD
        subst hDD
        clear hk
        have d0 : w7.cell? ⟨w.heap.size, 0, none⟩ = some (.int .i64 0) := HS7.out.bz.cell 0 _ rfl
        have e0 := HS7.out.bz.free 0
        have d1 : w7.cell? ⟨w.heap.size, 1, none⟩ = some (.int .i64 0) := HS7.out.bz.cell 1 _ rfl
        have e1 := HS7.out.bz.free 1
        have d2 : w7.cell? ⟨w.heap.size, 2, none⟩ = some (.slice none 0 0) := HS7.out.bz.cell 2 _ rfl
        have e2 := HS7.out.bz.free 2
        have HZ := Lib.hid HS7.out.zero
        clear HS7
        go_wp2_with fail
        exact ret_cell_tmp rfl rfl w.heap.size 0 rfl [.int .i64 0, .int .i64 0, .slice none 0 0] _ (zrange HZ.out.1) Tryd.underlying24 rfl (by kernel_rfl) _ rfl ⟨_, rfl, OwnS.nil _ _, HZ.out.2⟩
      rw [if_neg hk, show errV 0 = .nilIface from rfl]
      rw [if_neg hk] at hDD
      clear hk
      have c4 : w7.cell? ⟨t, 2, none⟩ = some (.bool sN.big) := HS7.out.it.box.cell 2 _ rfl
      cases hbg : sN.big
      rotate_left
      · rw [hbg] at c4 hDD
        rw [if_pos rfl] at hDD
        subst hDD
        clear hbg
        have d0 : w7.cell? ⟨w.heap.size, 0, none⟩ = some (.int .i64 0) := HS7.out.bz.cell 0 _ rfl
        have e0 := HS7.out.bz.free 0
        have d1 : w7.cell? ⟨w.heap.size, 1, none⟩ = some (.int .i64 0) := HS7.out.bz.cell 1 _ rfl
        have e1 := HS7.out.bz.free 1
        have d2 : w7.cell? ⟨w.heap.size, 2, none⟩ = some (.slice none 0 0) := HS7.out.bz.cell 2 _ rfl
        have e2 := HS7.out.bz.free 2
        have HZ := Lib.hid HS7.out.zero
        clear HS7
        go_wp2_with fail
        exact ret_cell_tmp rfl rfl w.heap.size 0 rfl [.int .i64 0, .int .i64 0, .slice none 0 0] _ (zrange HZ.out.1) Tryd.underlying24 rfl (by kernel_rfl) _ rfl ⟨_, rfl, OwnS.nil _ _, HZ.out.2⟩
      rw [hbg] at c4 hDD
      rw [if_neg (by decide)] at hDD
      have HD := Lib.hid hDD
      clear hDD hbg
      have s0 : w7.cell? ⟨t + 1, 0, none⟩ = some (.int .i64 c) := HS7.out.bs.cell 0 _ rfl
      have s1 : w7.cell? ⟨t + 1, 1, none⟩ = some (.int .i64 bb) := HS7.out.bs.cell 1 _ rfl
      have s2 : w7.cell? ⟨t + 1, 2, none⟩ = some x := HS7.out.bs.cell 2 _ rfl
      obtain ⟨xa, xc, rfl, _⟩ := HS7.out.own.slice
      go_wp2_with fail
      refine (check_calls ⟨c, bb, L⟩ _ w7 HS7.out.own.rd HOK.out).mono ?_
      rintro ev w8 ⟨rfl, hb8⟩
      have HS8 := Lib.hid (HS7.out.below hb8)
      have hDD := HD.out
      clear s0 s1 s2 c4 hb8 HS7 HD HOK
      generalize checkM ⟨c, bb, L⟩ = C at hDD ⊢
      cases C with
      | some f =>
        rw [if_neg (by simp)] at hDD
        subst hDD
        rw [show chkV (some f) = .iface 78 (.agg #[.int .i64 24, .int .i64 f]) from rfl]
        have d0 : w8.cell? ⟨w.heap.size, 0, none⟩ = some (.int .i64 0) := HS8.out.bz.cell 0 _ rfl
        have e0 := HS8.out.bz.free 0
        have d1 : w8.cell? ⟨w.heap.size, 1, none⟩ = some (.int .i64 0) := HS8.out.bz.cell 1 _ rfl
        have e1 := HS8.out.bz.free 1
        have d2 : w8.cell? ⟨w.heap.size, 2, none⟩ = some (.slice none 0 0) := HS8.out.bz.cell 2 _ rfl
        have e2 := HS8.out.bz.free 2
        have HZ := Lib.hid HS8.out.zero
        clear HS8
        go_wp2_with fail
        exact ret_cell_tmp rfl rfl w.heap.size 0 rfl [.int .i64 0, .int .i64 0, .slice none 0 0] _ (zrange HZ.out.1) Tryd.underlying24 rfl (by kernel_rfl) _ rfl ⟨_, rfl, OwnS.nil _ _, HZ.out.2⟩
      | none =>
        rw [if_pos rfl] at hDD
        subst hDD
        rw [show chkV none = .nilIface from rfl]
        have s0 : w8.cell? ⟨t + 1, 0, none⟩ = some (.int .i64 c) := HS8.out.bs.cell 0 _ rfl
        have s1 : w8.cell? ⟨t + 1, 1, none⟩ = some (.int .i64 bb) := HS8.out.bs.cell 1 _ rfl
        have s2 := HS8.out.bs.cell 2 _ rfl
        have HZ := Lib.hid HS8.out.full
        have d0 : w8.cell? ⟨w.heap.size, 0, none⟩ = some (.int .i64 0) := HS8.out.bz.cell 0 _ rfl
        have e0 := HS8.out.bz.free 0
        have d1 : w8.cell? ⟨w.heap.size, 1, none⟩ = some (.int .i64 0) := HS8.out.bz.cell 1 _ rfl
        have e1 := HS8.out.bz.free 1
        have d2 : w8.cell? ⟨w.heap.size, 2, none⟩ = some (.slice none 0 0) := HS8.out.bz.cell 2 _ rfl
        have e2 := HS8.out.bz.free 2
        clear HS8
        go_wp2_with fail
        exact ret_cell_tmp rfl rfl w.heap.size 0 rfl [.int .i64 c, .int .i64 bb, _] _ (zrange HZ.out.1) Tryd.underlying24 rfl (by kernel_rfl) _ rfl ⟨_, rfl, HZ.out.2.1, HZ.out.2.2⟩
end Go.Proofs.YtdaimaibnjkfbaaDoor
/-
  The mark of a place in a list of texts: MarkText, markTexts.
-/
namespace Go.Proofs.YtdaimaibnjkfbaaDoor
open Go.RowKit

/-- The mark of a place. -/
def markT (k i : Int) : List UInt8 := [35, B8 k, B8 (k / 256), B8 i, B8 (i / 256)]
theorem markText_calls (k i : Int) (w : World) :
    Calls Tryd.prog 79 #[.int .i64 k, .int .i64 i] w fun e w' => e = .returned (.string (SB (markT k i))) ∧ Below w.heap.size w w' := by
  have hrd := rd_lit w #[.int .u8 35, .int .u8 (k % 256), .int .u8 (k / 256 % 256), .int .u8 (i % 256), .int .u8 (i / 256 % 256)] 5 (markT k i) (by
    show _ = [V8 35, V8 (B8 k), V8 (B8 (k / 256)), V8 (B8 i), V8 (B8 (i / 256))]
    rw [V8_B8, V8_B8, V8_B8, V8_B8]; rfl) (by show 5 ≤ _; decide)
  have kc := convS (markT k i) hrd rfl
  have hb := below_alloc w (.cells #[.int .u8 35, .int .u8 (k % 256), .int .u8 (k / 256 % 256), .int .u8 (i % 256), .int .u8 (i / 256 % 256)] 5)
  have HB := Lib.hid hb
  obtain ⟨s, hs⟩ : ∃ s, s = SB (markT k i) := ⟨_, rfl⟩
  rw [← hs] at kc ⊢
  have kc : (convert 34 9 (.slice (some ⟨w.heap.size, 0, none⟩) 5 5)).run Tryd.prog (w.alloc (.cells #[.int .u8 35, .int .u8 (k % 256), .int .u8 (k / 256 % 256), .int .u8 (i % 256), .int .u8 (i / 256 % 256)] 5)) = .ok (.string s) (w.alloc (.cells #[.int .u8 35, .int .u8 (k % 256), .int .u8 (k / 256 % 256), .int .u8 (i % 256), .int .u8 (i / 256 % 256)] 5)) := kc
  clear hrd hb hs
  go_enter Tryd.func79, Tryd.ntmps79
  go_wp2_with fail
  go_ret
  exact ⟨rfl, HB.out⟩
end Go.Proofs.YtdaimaibnjkfbaaDoor
/-
  Sessions and states that are lent, and kept.
-/
namespace Go.Proofs.YtdaimaibnjkfbaaDoor
open Go.RowKit
set_option maxRecDepth 100000

theorem run_neqS (s t : SesM) (w : World) : (binOp .neq 56 (.agg s.cells) (.agg t.cells)).run Tryd.prog w = .ok (.bool (!(sameS s t))) w := by
  obtain ⟨r, hr⟩ : ∃ r, r = sameS s t := ⟨_, rfl⟩
  rw [← hr]
  unfold SesM.cells
  go_simp
  subst hr
  unfold sameS
  simp only [SB_toList]
  refine ite_step (fun b => Value.bool (!b)) bdec rfl ?_
  refine ite_step (fun b => Value.bool (!b)) bdec rfl ?_
  refine ite_step (fun b => Value.bool (!b)) bdec rfl ?_
  refine ite_step (fun b => Value.bool (!b)) bdec rfl ?_
  refine ite_step (fun b => Value.bool (!b)) bdec rfl ?_
  refine ite_step (fun b => Value.bool (!b)) bdec rfl ?_
  refine ite_step (fun b => Value.bool (!b)) bdec rfl ?_
  refine ite_step (fun b => Value.bool (!b)) bdec rfl ?_
  refine ite_step (fun b => Value.bool (!b)) bdec rfl ?_
  refine ite_step (fun b => Value.bool (!b)) bdec rfl ?_
  refine ite_step (fun b => Value.bool (!b)) bdec rfl ?_
  exact ite_last (fun b => Value.bool (!b)) bdec rfl rfl
theorem Box.setAllS {w : World} {b : Nat} {cs : Array Value} {t : TypeId} (h : Box w b cs t) (hs : cs.size = 12) (s : SesM) : Box (w.setCells b 0 s.cells.toList) b s.cells t ∧ w.there b 0 s.cells.toList.length := by
  constructor
  · obtain ⟨cs', h1, h2, h3, _⟩ := Box.setCells s.cells.toList 0 h (by show 0 + 12 ≤ cs.size; omega)
    have e1 : cs' = s.cells := by
      apply Array.ext_getElem?
      intro j
      by_cases hj : j < 12
      · have := h3 j _ (List.getElem?_eq_getElem (show j < s.cells.toList.length from hj))
        rw [Nat.zero_add] at this
        rw [this, ← Array.getElem?_toList, List.getElem?_eq_getElem (show j < s.cells.toList.length from hj)]
      · rw [Array.getElem?_eq_none (by omega), Array.getElem?_eq_none (by show 12 ≤ j; omega)]
    rw [e1] at h1
    exact h1
  · intro j hj
    have hj : j < 12 := hj
    obtain ⟨v, hv⟩ : ∃ v, cs[j]? = some v := ⟨_, Array.getElem?_eq_getElem (by omega)⟩
    rw [Nat.zero_add]
    exact ⟨by rw [h.cell _ v hv]; rfl, h.free _⟩
/-- The mark of a place. -/
def markS (k i : Int) : SesM := ⟨0, -7 - k, 0, 0, 0, [], markT k i, 0, 0, 0, 0, 0⟩
theorem markS_cells (k i : Int) : (markS k i).cells = #[.int .i64 0, .int .i64 (-7 - k), .int .i64 0, .int .i64 0, .int .i64 0, .string ⟨#[]⟩, .string (SB (markT k i)), .int .u64 0, .int .i64 0, .int .i64 0, .int .i64 0, .int .i64 0] := rfl
set_option maxHeartbeats 1600000 in
theorem markS_calls (k i : Int) (w : World) (h0 : 0 ≤ k) (h1 : k ≤ 1000000000) :
    Calls Tryd.prog 69 #[.int .i64 k, .int .i64 i] w fun e w' => e = .returned (.agg (markS k i).cells) ∧ Below w.heap.size w w' := by
  have HMT := Lib.hid (fun w => markText_calls k i w)
  have HX := Lib.hid (Box.new w #[.int .i64 0, .int .i64 0, .int .i64 0, .int .i64 0, .int .i64 0, .string ⟨#[]⟩, .string ⟨#[]⟩, .int .u64 0, .int .i64 0, .int .i64 0, .int .i64 0, .int .i64 0] 56)
  have HB := Lib.hid (below_alloc w (.cells #[.int .i64 0, .int .i64 0, .int .i64 0, .int .i64 0, .int .i64 0, .string ⟨#[]⟩, .string ⟨#[]⟩, .int .u64 0, .int .i64 0, .int .i64 0, .int .i64 0, .int .i64 0] 56))
  have hz : IntKind.i64.wrap (-7 - k) = -7 - k := by simp [IntKind.wrap, IntKind.bits, IntKind.signed]; omega
  have HMC := Lib.hid (markS_cells k i)
  go_enter Tryd.func69, Tryd.ntmps69
  go_wp2_with fail
  refine (HMT.out _).mono ?_
  rintro e w1 ⟨rfl, hb1⟩
  have hx1 := HX.out.below hb1
  have HB1 := Lib.hid (HB.out.trans (hb1.mono HB.out.size))
  obtain ⟨hset, hth⟩ := hx1.setAllS rfl (markS k i)
  have HTH := Lib.hid hth
  have HSE := Lib.hid hset
  have HLE := Lib.hid (show w.heap.size ≤ w.heap.size from Nat.le_refl _)
  clear hb1 hx1 HX HB HMT hset hth
  go_wp2_with ((with_reducible refine wpList_store_k ?a0 56 (.tmp 4) (.tmp 10) ?a1 w.heap.size 0 (markS k i).cells.toList ?a2 (markS k i).cells ?a3 (SesM.listS _) HTH.out ?a6 ?a7 ?a8); (case a1 => rfl); (case a0 => rfl); (case a2 => rfl); (case a3 => rfl); (case a6 => kernel_rfl); (case a7 => exact SesM.oneS _))
  intro w2 hw2
  rw [← hw2.out] at HSE
  have HB2 := Lib.hid (show Below w.heap.size w w2 by
    rw [hw2.out]
    generalize (markS k i).cells.toList = L
    exact HB1.out.trans ((Mod.setCells (fun q => q = w.heap.size) w.heap.size rfl L 0 w1).below HB1.out.size (fun i hi => Nat.le_of_eq hi.symm)))
  clear hw2 HTH HB1
  go_wp2_with fail
  exact ret_cell rfl rfl w.heap.size 0 rfl (markS k i).cells.toList _ (Box.rangeS HSE.out) Tryd.underlying56 rfl (by kernel_rfl) ⟨rfl, HB2.out⟩
def mksS (n : Nat) : List SesM := (List.range n).map (fun i : Nat => markS 90 (i : Int))
theorem mksS_length (n : Nat) : (mksS n).length = n := by simp [mksS]
theorem mksS_succ (n : Nat) : mksS (n + 1) = mksS n ++ [markS 90 n] := by simp [mksS, List.range_succ]
theorem mksS_get (n j : Nat) (h : j < (mksS n).length) : (mksS n)[j] = markS 90 j := by simp [mksS]
set_option maxHeartbeats 3200000 in
theorem fullS_calls (v : Value) (l : List SesM) (w : World) (hv : RdS w v l) (hn : l.length + 16 ≤ 1256584717457) :
    Calls Tryd.prog 52 #[v] w fun e w' => ∃ o, e = .returned o ∧ OwnS w' w.heap.size o (l ++ mksS 16) ∧ Below w.heap.size w w' := by
  obtain ⟨a, cap, rfl, hc1, hc2⟩ := hv.slice
  have HV := Lib.hid hv
  have hln : l.length ≤ 9223372036854775807 := by omega
  obtain ⟨n, hN⟩ : ∃ n, n = l.length := ⟨_, rfl⟩
  rw [← hN] at hln hn HV hc1 ⊢
  have HN := Lib.hid hN
  have HNN := Lib.hid hn
  clear hv hc1 hN hn
  go_enter Tryd.func52, Tryd.ntmps52
  go_wp2_with fail
  go_loopg [3, 4] n (fun gk o iv wr => ∃ k : Nat, gk + k = n ∧ iv = .int .i64 (k : Int) ∧ OwnS wr w.heap.size o (l.take k) ∧ Below w.heap.size w wr)
  case atStart => exact ⟨0, rfl, rfl, OwnS.nil _ _, Below.refl _ _⟩
  case round =>
    obtain ⟨k, hgk, rfl, hown, hb⟩ := hrel
    have k0 : (0 : Int) ≤ (k : Int) := by omega
    have HGK := Lib.hid hgk
    have HO := Lib.hid hown
    have HB := Lib.hid hb
    clear hgk
    by_cases hk : k < n
    · have k1 : (k : Int) < (n : Int) := by omega
      have hkl : k < l.length := by have := HN.out; omega
      obtain ⟨s, hs⟩ : ∃ s, s = l[k] := ⟨_, rfl⟩
      have hV := (HV.out.below hb)
      obtain ⟨rb, ro, hra, hrow⟩ := hV.row k hkl
      subst hra
      rw [← hs] at hrow
      have HT := Lib.hid (show l.take (k + 1) = l.take k ++ [s] by rw [List.take_succ_eq_append_getElem hkl, hs])
      have HROW := Lib.hid hrow
      have HK := Lib.hid hk
      have HLK := Lib.hid (show (l.take k).length + 1 ≤ 1256584717458 by rw [List.length_take]; have := HNN.out; omega)
      clear hkl hs hrow hV hb hown hk
      go_wp2_with ((with_reducible refine wpList_load_k ?b01 56 (.tmp 15) ?b11 rb (ro + k * 12) ?b21 s.cells.toList _ HROW.out Tryd.underlying56 ?b31 ?b41 ?b81); (case b11 => rfl); (case b01 => rfl); (case b21 => rfl); (case b31 => rfl); (case b41 => kernel_rfl))
      intro cv hcv
      have ecv : cv = s.cells := by rw [hcv.out]
      subst ecv
      clear hcv
      go_wp2_with (refine wpList_buildSlice_s (op := ⟨some 17, _, _, _, _, _⟩) (by rfl) 22 1 #[(0, .tmp 16)] rfl #[(0, .agg s.cells)] (by kernel_rfl) _ _ (buildS s wr) ?_)
      intro w2 hw2
      have hb2 : Below wr.heap.size wr w2 := by rw [hw2.out]; exact below_alloc _ _
      have HC2 := Lib.hid (show ∀ j u, s.cells.toList[j]? = some u → w2.cell? ((⟨wr.heap.size, 0, none⟩ : Addr).add j) = some u by rw [hw2.out]; exact newCells wr s _)
      have HO2 := Lib.hid (HO.out.below hb2)
      have HB2 := Lib.hid (HB.out.trans (hb2.mono HB.out.size))
      clear hw2 hb2 HO HROW
      go_wp2_with (at_builtin; refine appSes rfl _ _ rfl w.heap.size _ (l.take k) rfl HO2.out ⟨wr.heap.size, 0, none⟩ 1 s rfl HC2.out HLK.out (by have := HB2.out.size; omega) ?_)
      intro v' w3 hown' hg' _
      have HB3 := Lib.hid (HB2.out.trans (below_grown hg' HB2.out.size (fun q hq => (HO2.out.lt q hq).1)))
      have HO3 := Lib.hid hown'
      clear hg' hown' HO2 HB2 HC2
      go_wp2_with fail
      go_roundg (n - (k + 1))
      case measure => have := HGK.out; have := HK.out; omega
      case rel => exact ⟨k + 1, by have := HGK.out; have := HK.out; omega, by go_num, by rw [HT.out]; exact HO3.out, HB3.out⟩
    have k1 : ¬ (k : Int) < (n : Int) := by omega
    rw [List.take_of_length_le (by have := HN.out; omega)] at HO
    clear hk hown hb
    go_wp2_with fail
    go_loopg [3, 5] 16 (fun gk o iv wr => ∃ j : Nat, gk + j = 16 ∧ iv = .int .i64 (j : Int) ∧ OwnS wr w.heap.size o (l ++ mksS j) ∧ Below w.heap.size w wr)
    case atStart => exact ⟨0, rfl, rfl, by rw [show mksS 0 = [] from rfl, List.append_nil]; exact HO.out, HB.out⟩
    case round =>
      clear HO HB
      obtain ⟨j, hgj, rfl, hown, hb⟩ := hrel
      have j0 : (0 : Int) ≤ (j : Int) := by omega
      have HGJ := Lib.hid hgj
      have HO := Lib.hid hown
      have HB := Lib.hid hb
      clear hgj hown hb
      by_cases hj : j < 16
      · have j1 : (j : Int) < 16 := by omega
        have HJ := Lib.hid hj
        have HLK := Lib.hid (show (l ++ mksS j).length + 1 ≤ 1256584717458 by rw [List.length_append, mksS_length]; have := HNN.out; have := HN.out; omega)
        have HT := Lib.hid (show l ++ mksS (j + 1) = (l ++ mksS j) ++ [markS 90 j] by rw [mksS_succ, List.append_assoc])
        clear hj
        go_wp2_with fail
        refine (markS_calls 90 (j : Int) _ (by omega) (by omega)).mono ?_
        rintro e w1 ⟨rfl, hb1⟩
        have HO1 := Lib.hid (HO.out.below hb1)
        have HB1 := Lib.hid (HB.out.trans (hb1.mono HB.out.size))
        clear hb1 HO HB
        generalize markS 90 (j : Int) = s at HT ⊢
        go_wp2_with (refine wpList_buildSlice_s (op := ⟨some 26, _, _, _, _, _⟩) (by rfl) 22 1 #[(0, .tmp 25)] rfl #[(0, .agg s.cells)] (by kernel_rfl) _ _ (buildS s w1) ?_)
        intro w2 hw2
        have hb2 : Below w1.heap.size w1 w2 := by rw [hw2.out]; exact below_alloc _ _
        have HC2 := Lib.hid (show ∀ j u, s.cells.toList[j]? = some u → w2.cell? ((⟨w1.heap.size, 0, none⟩ : Addr).add j) = some u by rw [hw2.out]; exact newCells w1 s _)
        have HO2 := Lib.hid (HO1.out.below hb2)
        have HB2 := Lib.hid (HB1.out.trans (hb2.mono HB1.out.size))
        clear hw2 hb2 HO1 HB1
        go_wp2_with (at_builtin; refine appSes rfl _ _ rfl w.heap.size _ (l ++ mksS j) rfl HO2.out ⟨w1.heap.size, 0, none⟩ 1 s rfl HC2.out HLK.out (by have := HB2.out.size; omega) ?_)
        intro v' w3 hown' hg' _
        have HB3 := Lib.hid (HB2.out.trans (below_grown hg' HB2.out.size (fun q hq => (HO2.out.lt q hq).1)))
        have HO3 := Lib.hid hown'
        clear hg' hown' HO2 HB2 HC2
        go_wp2_with fail
        go_roundg (16 - (j + 1))
        case measure => have := HGJ.out; have := HJ.out; omega
        case rel => exact ⟨j + 1, by have := HGJ.out; have := HJ.out; omega, by go_num, by rw [HT.out]; first | exact HO3.out | (rw [List.append_assoc]; exact HO3.out), HB3.out⟩
      have j1 : ¬ (j : Int) < 16 := by omega
      obtain rfl : j = 16 := by have := HGJ.out; omega
      clear hj
      go_wp2_with fail
      go_ret
      exact ⟨_, rfl, HO.out, HB.out⟩
/-- A list of sessions that is lent: in its spare room stand marks. -/
def LentS (w : World) (base : Nat) (v : Value) (l : List SesM) : Prop := ∃ a cap, v = .slice a l.length cap ∧ OwnS w base (.slice a (l.length + 16) cap) (l ++ mksS 16)
theorem LentS.below {w w' : World} {base : Nat} {v : Value} {l : List SesM} (h : LentS w base v l) (hb : Below w.heap.size w w') : LentS w' base v l := by
  obtain ⟨a, cap, h1, h2⟩ := h; exact ⟨a, cap, h1, h2.below hb⟩
theorem full_len (l : List SesM) : (l ++ mksS 16).length = l.length + 16 := by rw [List.length_append, mksS_length]
theorem LentS.rd {w : World} {base : Nat} {v : Value} {l : List SesM} (h : LentS w base v l) : RdS w v l := by
  obtain ⟨a, cap, rfl, h2⟩ := h
  have h3 := h2.rd
  rw [← full_len] at h3
  have := h3.cut l.length (by rw [full_len]; omega)
  rw [List.take_left] at this
  exact this
theorem LentS.mod {w w' : World} {base : Nat} {v : Value} {l : List SesM} {F : Nat → Prop} (h : LentS w base v l) (hm : Mod F w w') (hb : ∀ k, v.ownBlock = some k → ¬ F k) : LentS w' base v l := by
  obtain ⟨a, cap, rfl, h2⟩ := h; exact ⟨a, cap, rfl, h2.mod hm (fun k hk => hb k (by cases a <;> exact hk))⟩
theorem lentS_calls (v : Value) (l : List SesM) (w : World) (hv : RdS w v l) (hn : l.length + 16 ≤ 1256584717457) :
    Calls Tryd.prog 28 #[v] w fun e w' => ∃ o, e = .returned o ∧ LentS w' w.heap.size o l ∧ Below w.heap.size w w' := by
  have HF := Lib.hid (fullS_calls v l w hv hn)
  obtain ⟨a, cap, rfl, hc1, hc2⟩ := hv.slice
  have hln : l.length ≤ 9223372036854775807 := by omega
  clear hv hc1 hn
  go_enter Tryd.func28, Tryd.ntmps28
  go_wp2_with fail
  refine HF.out.mono ?_
  rintro e w1 ⟨o, rfl, ho, hb⟩
  have HB := Lib.hid hb
  obtain ⟨oa, oc, rfl, hoc⟩ := ho.slice
  rw [full_len] at ho hoc ⊢
  have hhd := fun w => headS oa (l.length + 16) oc l.length (by omega) w
  have HO := Lib.hid (show LentS w1 w.heap.size (.slice oa l.length oc) l from ⟨oa, oc, rfl, ho⟩)
  clear ho hb hoc HF
  go_wp2_with fail
  go_ret
  exact ⟨_, rfl, HO.out, HB.out⟩
theorem wpQuiet_load_k {P : Program} {ops : Array Oper} {rest : List Oper} {op : Oper} {a : Act} {C : World → Prop} {Q : Act → Prop} (hw : Region.wanted op (yielded ops a.tmps) = true) (ty : TypeId) (x : Operand) (ho : op.op = .load ty x)
    (b o : Nat) (hx : a.eval x = .pointer (some ⟨b, o, none⟩)) (cs : List Value) (d : TypeDesc) (hc : ∀ w, C w → w.rangeAt b o cs)
    (hu : P.underlying ty = some d) (hd : d.isRow = true) (hi : (P.info? ty).map (·.size) = some cs.length)
    (h : ∀ c, Hid (c = cs.toArray) → wpQuiet P ops C Q rest (a.put op.dst (.agg c))) : wpQuiet P ops C Q (op :: rest) a := by
  unfold wpQuiet
  rw [if_pos hw]
  refine ⟨.agg cs.toArray, fun w hC => ?_, h _ (Lib.hid rfl)⟩
  unfold Oper.quietAt execOp
  simp only [ho, hx, Instr.loadAt, Instr.sureAddr, Sem.run_bind, Sem.run_pure, Result.andThen_ok, run_loadVar_mid w b o ty cs d (hc w hC) hu hd hi]
  exact ⟨rfl, rfl⟩
set_option maxHeartbeats 3200000 in
theorem keptFullS_calls (v v' : Value) (l : List SesM) (w : World) (hv : RdS w v (l ++ mksS 16)) (hv' : RdS w v' l) (hn : l.length ≤ 1256584717457) :
    Calls Tryd.prog 56 #[v, v'] w fun e w' => e = .returned (.bool true) ∧ Below w.heap.size w w' := by
  obtain ⟨a, cap, rfl, hc1, hc2⟩ := hv.slice
  obtain ⟨a2, cap2, rfl, hd1, hd2⟩ := hv'.slice
  have HV := Lib.hid hv
  have HV2 := Lib.hid hv'
  rw [full_len] at HV hc1 ⊢
  obtain ⟨n, hN⟩ : ∃ n, n = l.length := ⟨_, rfl⟩
  rw [← hN] at HV HV2 hc1 hd1 hn ⊢
  have hn2 : n + 16 ≤ 9223372036854775807 := by omega
  have HN := Lib.hid hN
  have hsum : ((n + 16 : Nat) : Int) = (n : Int) + 16 := by omega
  clear hv hv' hc1 hd1 hc2 hd2 hN hn
  rw [show ((n + 16 : Nat)) = n + 16 from rfl]
  obtain ⟨N, hNN⟩ : ∃ N, N = n + 16 := ⟨_, rfl⟩
  rw [← hNN] at HV hsum hn2 ⊢
  have HNN := Lib.hid hNN
  have n0 : (0 : Int) ≤ (n : Int) := by omega
  have n1 : (n : Int) + 16 ≤ 9223372036854775807 := by omega
  have hne : ((N : Int) != (n : Int) + 16) = false := by rw [bne, hsum]; simp
  clear hNN hsum
  go_enter Tryd.func56, Tryd.ntmps56
  go_wp2_with fail
  clear hne
  go_loopg [5] N (fun gk iv wr => ∃ k : Nat, gk + k = N ∧ iv = .int .i64 (k : Int) ∧ Below w.heap.size w wr)
  case atStart => exact ⟨0, rfl, rfl, Below.refl _ _⟩
  case round =>
    obtain ⟨k, hgk, rfl, hb⟩ := hrel
    have k0 : (0 : Int) ≤ (k : Int) := by omega
    have HGK := Lib.hid hgk
    have HB := Lib.hid hb
    clear hgk hb
    by_cases hk : k < N
    rotate_left
    · have k1 : ¬ (k : Int) < (N : Int) := by omega
      clear hk
      go_wp2_with fail
      go_ret
      exact ⟨rfl, HB.out⟩
    have k1 : (k : Int) < (N : Int) := by omega
    have HK := Lib.hid hk
    have hkl : k < (l ++ mksS 16).length := by rw [full_len]; have := HNN.out; have := HN.out; omega
    obtain ⟨s, hs⟩ : ∃ s, s = (l ++ mksS 16)[k] := ⟨_, rfl⟩
    obtain ⟨rb, ro, hra, hrow⟩ := (HV.out.below HB.out).row k hkl
    subst hra
    rw [← hs] at hrow
    have HROW := Lib.hid hrow
    have HSM := Lib.hid (show ¬ k < n → s = markS 90 ((k : Int) - (n : Int)) from fun h => by
      have e := HN.out
      rw [hs, List.getElem_append_right (by omega), mksS_get]
      congr 1
      omega)
    have HSL := Lib.hid (show ∀ h : k < n, ∃ hl : k < l.length, s = l[k] from fun h => by
      have e := HN.out
      refine ⟨by omega, ?_⟩
      rw [hs, List.getElem_append_left (by omega)])
    have hz : IntKind.i64.wrap ((k : Int) - (n : Int)) = (k : Int) - (n : Int) := by simp [IntKind.wrap, IntKind.bits, IntKind.signed]; omega
    clear hk hkl hs hrow
    go_wp2_with fail
    refine (markS_calls 90 ((k : Int) - (n : Int)) _ (by omega) (by omega)).mono ?_
    rintro e w1 ⟨rfl, hb1⟩
    obtain ⟨mk, hmk⟩ : ∃ mk, mk = markS 90 ((k : Int) - (n : Int)) := ⟨_, rfl⟩
    rw [← hmk] at HSM ⊢
    have HB1 := Lib.hid (HB.out.trans (hb1.mono HB.out.size))
    have HROW1 := Lib.hid (show w1.rangeAt rb (ro + k * 12) s.cells.toList from fun j v hv => below_heap hb1 (HROW.out j v hv))
    clear hb1 hmk HB HROW hz
    go_wp2_with ((with_reducible refine wpList_store_k ?a0 56 (.tmp 6) (.tmp 23) ?a1 w1.heap.size 0 mk.cells.toList ?a2 mk.cells ?a3 (SesM.listS _) ?a5 ?a6 ?a7 ?a8); (case a1 => rfl); (case a0 => rfl); (case a2 => rfl); (case a3 => rfl); (case a5 => exact thereZ _ _); (case a6 => kernel_rfl); (case a7 => exact SesM.oneS _))
    intro w2 hw2
    obtain ⟨hpx, hb2⟩ := putZ hw2
    have HPX := Lib.hid hpx
    have HB2 := Lib.hid (HB1.out.trans (hb2.mono HB1.out.size))
    have HROW2 := Lib.hid (show w2.rangeAt rb (ro + k * 12) s.cells.toList from fun j v hv => below_heap hb2 (HROW1.out j v hv))
    have HNE := Lib.hid (show rb < w1.heap.size from World.block_lt_of_cell? w1 _ (HROW1.out 0 _ rfl))
    have HLE := Lib.hid (show w.heap.size ≤ w1.heap.size from HB1.out.size)
    clear hw2 hpx hb2 HB1 HROW1
    generalize w1.heap.size = pb at HPX HNE HLE ⊢
    by_cases hkn : k < n
    · have kn : (k : Int) < (n : Int) := by omega
      obtain ⟨hl, hsl⟩ := HSL.out hkn
      obtain ⟨sb, so, hsa, hsrow⟩ := (HV2.out.below HB2.out).row k hl
      subst hsa
      rw [← hsl] at hsrow
      have HSR := Lib.hid hsrow
      obtain ⟨hset, hth⟩ := HPX.out.setAllS rfl s
      have HSE := Lib.hid hset
      have HTH := Lib.hid hth
      clear hkn hsl hsrow hset hth HSM HSL hl
      go_wp2_with ((with_reducible refine wpList_load_k ?b02 56 (.tmp 30) ?b12 sb (so + k * 12) ?b22 s.cells.toList _ HSR.out Tryd.underlying56 ?b32 ?b42 ?b82); (case b12 => rfl); (case b02 => rfl); (case b22 => rfl); (case b32 => rfl); (case b42 => kernel_rfl))
      intro cv hcv
      go_wp2_with ((with_reducible refine wpList_store_k ?d0 56 (.tmp 6) (.tmp 31) ?d1 pb 0 s.cells.toList ?d2 cv ?d3 hcv HTH.out ?d6 ?d7 ?d8); (case d1 => rfl); (case d0 => rfl); (case d2 => rfl); (case d3 => rfl); (case d6 => kernel_rfl); (case d7 => exact SesM.oneS _))
      intro w3 hw3
      have HX3 := Lib.hid (show Box w3 pb s.cells 56 by rw [hw3.out]; exact HSE.out)
      have hm : Mod (fun q => q = pb) w2 w3 := by
        rw [hw3.out]
        generalize s.cells.toList = L
        exact Mod.setCells (fun q => q = pb) pb rfl L 0 w2
      have HB3 := Lib.hid (HB2.out.trans (hm.below HB2.out.size (fun i hi => by have := HLE.out; omega)))
      have HROW3 := Lib.hid (show ∀ wq, (∃ n, wq = w3.drewN n) → wq.rangeAt rb (ro + k * 12) s.cells.toList from fun wq hq j v hv => by
        obtain ⟨q, rfl⟩ := hq
        have h1 := HROW2.out j v hv
        show w3.cell? _ = _
        rw [World.cell?_of_block (w := w2) (hm.block rb (World.block_lt_of_cell? w2 _ (HROW2.out 0 _ rfl)) (by have := HNE.out; omega))]
        exact h1)
      have HRX3 := Lib.hid (show ∀ wq, (∃ n, wq = w3.drewN n) → wq.rangeAt pb 0 s.cells.toList from fun wq hq => by
        obtain ⟨q, rfl⟩ := hq
        exact Box.rangeS (show Box (w3.drewN q) pb s.cells 56 from HX3.out))
      clear hcv hw3 hm HTH HSE HPX HB2 HROW2 HSR HX3
      go_wp2_with fail
      refine wp_region_quiet_lit (by kernel_rfl) (by kernel_rfl) ?_
      repeat (go_big_quiet_step (fail))
      refine wpQuiet_load_k rfl 56 (.tmp 34) rfl rb (ro + k * 12) rfl s.cells.toList _ HROW3.out Tryd.underlying56 rfl (by kernel_rfl) ?_
      intro c1 hc1
      have ec1 : c1 = s.cells := by rw [hc1.out]
      subst ec1
      simp only [Act.put, List.setIfInBounds_toArray, List.set_cons_zero, List.set_cons_succ]
      refine wpQuiet_load_k rfl 56 (.tmp 6) rfl pb 0 rfl s.cells.toList _ HRX3.out Tryd.underlying56 rfl (by kernel_rfl) ?_
      intro c2 hc2
      have ec2 : c2 = s.cells := by rw [hc2.out]
      subst ec2
      simp only [Act.put, List.setIfInBounds_toArray, List.set_cons_zero, List.set_cons_succ]
      have hneq : ∀ w, (binOp .neq 56 (.agg s.cells) (.agg s.cells)).run Tryd.prog w = .ok (.bool false) w := fun w => by rw [run_neqS, sameS_iff.2 rfl]; rfl
      repeat (go_big_quiet_step (fail))
      refine wpQuiet_nil ?_
      intro wq hwq
      obtain ⟨nq, rfl⟩ := hwq
      have HB4 := Lib.hid (HB3.out.trans ((below_drewN _ nq).mono HB3.out.size))
      clear hneq hc1 hc2 HROW3 HRX3
      go_wp2_with fail
      go_roundg (N - (k + 1))
      case measure => have := HGK.out; have := HK.out; omega
      case rel => exact ⟨k + 1, by have := HGK.out; have := HK.out; omega, by go_num, HB4.out⟩
    have kn : ¬ (k : Int) < (n : Int) := by omega
    obtain rfl := HSM.out hkn
    have HB3 := HB2
    have HROW3 := Lib.hid (show ∀ wq, (∃ n, wq = w2.drewN n) → wq.rangeAt rb (ro + k * 12) s.cells.toList from fun wq hq => by
      obtain ⟨q, rfl⟩ := hq
      exact HROW2.out)
    have HRX3 := Lib.hid (show ∀ wq, (∃ n, wq = w2.drewN n) → wq.rangeAt pb 0 s.cells.toList from fun wq hq => by
      obtain ⟨q, rfl⟩ := hq
      exact Box.rangeS (show Box (w2.drewN q) pb s.cells 56 from HPX.out))
    clear hkn HPX HB2 HROW2 HSM HSL
    go_wp2_with fail
    refine wp_region_quiet_lit (by kernel_rfl) (by kernel_rfl) ?_
    repeat (go_big_quiet_step (fail))
    refine wpQuiet_load_k rfl 56 (.tmp 34) rfl rb (ro + k * 12) rfl s.cells.toList _ HROW3.out Tryd.underlying56 rfl (by kernel_rfl) ?_
    intro c1 hc1
    have ec1 : c1 = s.cells := by rw [hc1.out]
    subst ec1
    simp only [Act.put, List.setIfInBounds_toArray, List.set_cons_zero, List.set_cons_succ]
    refine wpQuiet_load_k rfl 56 (.tmp 6) rfl pb 0 rfl s.cells.toList _ HRX3.out Tryd.underlying56 rfl (by kernel_rfl) ?_
    intro c2 hc2
    have ec2 : c2 = s.cells := by rw [hc2.out]
    subst ec2
    simp only [Act.put, List.setIfInBounds_toArray, List.set_cons_zero, List.set_cons_succ]
    have hneq : ∀ w, (binOp .neq 56 (.agg s.cells) (.agg s.cells)).run Tryd.prog w = .ok (.bool false) w := fun w => by rw [run_neqS, sameS_iff.2 rfl]; rfl
    repeat (go_big_quiet_step (fail))
    refine wpQuiet_nil ?_
    intro wq hwq
    obtain ⟨nq, rfl⟩ := hwq
    have HB4 := Lib.hid (HB3.out.trans ((below_drewN _ nq).mono HB3.out.size))
    clear hneq hc1 hc2 HROW3 HRX3
    go_wp2_with fail
    go_roundg (N - (k + 1))
    case measure => have := HGK.out; have := HK.out; omega
    case rel => exact ⟨k + 1, by have := HGK.out; have := HK.out; omega, by go_num, HB4.out⟩
end Go.Proofs.YtdaimaibnjkfbaaDoor
/-
  Lists of sessions, and states, that are the same.
-/
namespace Go.Proofs.YtdaimaibnjkfbaaDoor
open Go.RowKit
set_option maxRecDepth 100000

def sameL : List SesM → List SesM → Bool
  | [], [] => true
  | a :: l, b :: m => sameS a b && sameL l m
  | _, _ => false
theorem sameL_iff : ∀ {l m : List SesM}, sameL l m = true ↔ l = m
  | [], [] => by simp [sameL]
  | [], b :: m => by simp [sameL]
  | a :: l, [] => by simp [sameL]
  | a :: l, b :: m => by
    unfold sameL
    rw [Bool.and_eq_true, sameS_iff, sameL_iff]
    simp
theorem sameL_no {l m : List SesM} (h : l ≠ m) : sameL l m = false := by
  cases e : sameL l m
  · rfl
  · exact absurd (sameL_iff.1 e) h
def sameSt (a b : StM) : Bool := (a.clock == b.clock) && ((a.births == b.births) && sameL a.l b.l)
theorem sameSt_iff {a b : StM} : sameSt a b = true ↔ a = b := by
  obtain ⟨c, x, l⟩ := a
  obtain ⟨d, y, m⟩ := b
  simp [sameSt, sameL_iff]
set_option maxHeartbeats 1600000 in
theorem sameSes_calls (v v' : Value) (l m : List SesM) (w : World) (hv : RdS w v l) (hv' : RdS w v' m) :
    Calls Tryd.prog 48 #[v, v'] w fun e w' => e = .returned (.bool (sameL l m)) ∧ Below w.heap.size w w' := by
  obtain ⟨a, cap, rfl, hc1, hc2⟩ := hv.slice
  obtain ⟨a2, cap2, rfl, hd1, hd2⟩ := hv'.slice
  have HV := Lib.hid hv
  have HV2 := Lib.hid hv'
  have hln : l.length ≤ 9223372036854775807 := by omega
  have hln2 : m.length ≤ 9223372036854775807 := by omega
  by_cases hlm : l.length = m.length
  rotate_left
  · have HR := Lib.hid (sameL_no (l := l) (m := m) (fun e => hlm (by rw [e])))
    have hne : ((l.length : Int) != (m.length : Int)) = true := by rw [bne_iff_ne]; omega
    clear hlm hv hv' hc1 hd1 HV HV2
    go_enter Tryd.func48, Tryd.ntmps48
    go_wp2_with fail
    go_ret
    rw [HR.out]
    exact ⟨rfl, Below.refl _ _⟩
  obtain ⟨n, hN⟩ : ∃ n, n = l.length := ⟨_, rfl⟩
  rw [← hlm] at HV2 hd1 ⊢
  rw [← hN] at HV HV2 hc1 hd1 hln ⊢
  have HN := Lib.hid hN
  have HLM := Lib.hid hlm
  have hne : ((n : Int) != (n : Int)) = false := by rw [bne_eq_false_iff_eq]
  clear hlm hv hv' hc1 hd1 hN hln2
  go_enter Tryd.func48, Tryd.ntmps48
  go_wp2_with fail
  go_loopg [5] n (fun gk iv wr => ∃ k : Nat, gk + k = n ∧ iv = .int .i64 (k : Int) ∧ Below w.heap.size w wr ∧ Hid (l.take k = m.take k))
  case atStart => exact ⟨0, rfl, rfl, Below.refl _ _, Lib.hid rfl⟩
  case round =>
    obtain ⟨k, hgk, rfl, hb, HT⟩ := hrel
    have k0 : (0 : Int) ≤ (k : Int) := by omega
    have HGK := Lib.hid hgk
    have HB := Lib.hid hb
    clear hgk
    by_cases hk : k < n
    · have k1 : (k : Int) < (n : Int) := by omega
      have hkl : k < l.length := by have := HN.out; omega
      have hkm : k < m.length := by have := HLM.out; omega
      obtain ⟨s, hs⟩ : ∃ s, s = l[k] := ⟨_, rfl⟩
      obtain ⟨u, hu⟩ : ∃ u, u = m[k] := ⟨_, rfl⟩
      obtain ⟨rb, ro, hra, hrow⟩ := (HV.out.below hb).row k hkl
      subst hra
      rw [← hs] at hrow
      obtain ⟨qb, qo, hqa, hqow⟩ := (HV2.out.below hb).row k hkm
      subst hqa
      rw [← hu] at hqow
      have HROW := Lib.hid (show ∀ wq, (∃ n, wq = wr.drewN n) → wq.rangeAt rb (ro + k * 12) s.cells.toList from fun wq hq => by
        obtain ⟨q, rfl⟩ := hq
        exact hrow)
      have HQOW := Lib.hid (show ∀ wq, (∃ n, wq = wr.drewN n) → wq.rangeAt qb (qo + k * 12) u.cells.toList from fun wq hq => by
        obtain ⟨q, rfl⟩ := hq
        exact hqow)
      have HLK := Lib.hid (show s = l[k] ∧ u = m[k] from ⟨hs, hu⟩)
      have HK := Lib.hid hk
      clear hrow hqow hs hu hk hb
      obtain ⟨r, hr⟩ : ∃ r, r = sameS s u := ⟨_, rfl⟩
      have HR := Lib.hid hr
      have hneq : ∀ w, (binOp .neq 56 (.agg s.cells) (.agg u.cells)).run Tryd.prog w = .ok (.bool (!r)) w := fun w => by rw [run_neqS, HR.out]
      clear hr
      go_wp2_with fail
      refine wp_region_quiet_lit (by kernel_rfl) (by kernel_rfl) ?_
      repeat (go_big_quiet_step (fail))
      refine wpQuiet_load_k rfl 56 (.tmp 19) rfl rb (ro + k * 12) rfl s.cells.toList _ HROW.out Tryd.underlying56 rfl (by kernel_rfl) ?_
      intro c1 hc1
      have ec1 : c1 = s.cells := by rw [hc1.out]
      subst ec1
      simp only [Act.put, List.setIfInBounds_toArray, List.set_cons_zero, List.set_cons_succ]
      repeat (go_big_quiet_step (fail))
      refine wpQuiet_load_k rfl 56 (.tmp 23) rfl qb (qo + k * 12) rfl u.cells.toList _ HQOW.out Tryd.underlying56 rfl (by kernel_rfl) ?_
      intro c2 hc2
      have ec2 : c2 = u.cells := by rw [hc2.out]
      subst ec2
      simp only [Act.put, List.setIfInBounds_toArray, List.set_cons_zero, List.set_cons_succ]
      repeat (go_big_quiet_step (fail))
      refine wpQuiet_nil ?_
      intro wq hwq
      obtain ⟨nq, rfl⟩ := hwq
      have HB4 := Lib.hid (HB.out.trans ((below_drewN _ nq).mono HB.out.size))
      clear hneq hc1 hc2 HROW HQOW
      cases r
      · have HF := Lib.hid (sameL_no (l := l) (m := m) (fun e => by
          obtain ⟨h1, h2⟩ := HLK.out
          have h3 := HR.out
          rw [h1, h2] at h3
          subst e
          rw [sameS_iff.2 rfl] at h3
          cases h3))
        clear HB HR HLK
        go_wp2_with fail
        go_ret
        rw [HF.out]
        exact ⟨rfl, HB4.out⟩
      · have HT2 := Lib.hid (show l.take (k + 1) = m.take (k + 1) by
          rw [List.take_succ_eq_append_getElem hkl, List.take_succ_eq_append_getElem hkm, HT.out, ← HLK.out.1, ← HLK.out.2, sameS_iff.1 HR.out.symm])
        clear HB HR HLK HT
        go_wp2_with fail
        go_roundg (n - (k + 1))
        case measure => have := HGK.out; have := HK.out; omega
        case rel => exact ⟨k + 1, by have := HGK.out; have := HK.out; omega, by go_num, HB4.out, HT2⟩
    · have k1 : ¬ (k : Int) < (n : Int) := by omega
      have HE := Lib.hid (show sameL l m = true from sameL_iff.2 (by
        have h := HT.out
        rw [List.take_of_length_le (by have := HN.out; omega), List.take_of_length_le (by have := HN.out; have := HLM.out; omega)] at h
        exact h))
      clear hk hb HT
      go_wp2_with fail
      go_ret
      rw [HE.out]
      exact ⟨rfl, HB.out⟩
set_option maxHeartbeats 1600000 in
theorem sameState_calls (a b : StM) (v v' : Value) (w : World) (hv : RdS w v a.l) (hv' : RdS w v' b.l) :
    Calls Tryd.prog 20 #[.agg #[.int .i64 a.clock, .int .i64 a.births, v], .agg #[.int .i64 b.clock, .int .i64 b.births, v']] w fun e w' => e = .returned (.bool (sameSt a b)) ∧ Below w.heap.size w w' := by
  have HB0 := Lib.hid (fun o o2 => below_two w o o2)
  have HK := Lib.hid (fun w' hb => sameSes_calls v v' a.l b.l w' (hv.below hb) (hv'.below hb))
  obtain ⟨xa, xc, rfl, _⟩ := hv.slice
  obtain ⟨ya, yc, rfl, _⟩ := hv'.slice
  unfold sameSt
  generalize sameL a.l b.l = r at HK ⊢
  clear hv hv'
  obtain ⟨c1, b1, l1⟩ := a
  obtain ⟨c2, b2, l2⟩ := b
  simp only at HK ⊢
  go_enter Tryd.func20, Tryd.ntmps20
  cases e1 : (c1 == c2)
  · go_wp2_with fail
    go_ret
    exact ⟨rfl, HB0.out _ _⟩
  cases e2 : (b1 == b2)
  · go_wp2_with fail
    go_ret
    exact ⟨rfl, HB0.out _ _⟩
  go_wp2_with fail
  refine (HK.out _ (HB0.out _ _)).mono ?_
  rintro e w1 ⟨rfl, hb⟩
  have HB := Lib.hid ((HB0.out _ _).trans (hb.mono (HB0.out (.cells #[.int .i64 c1, .int .i64 b1, .slice xa l1.length xc] 24) (.cells #[.int .i64 c2, .int .i64 b2, .slice ya l2.length yc] 24)).size))
  clear hb HK HB0
  go_wp2_with fail
  go_ret
  exact ⟨rfl, HB.out⟩
end Go.Proofs.YtdaimaibnjkfbaaDoor
/-
  Operations of regions that draw their order: a session is loaded, a slice of one is made, it is appended; slices.Clone of sessions.
-/
namespace Go.Proofs.YtdaimaibnjkfbaaDoor
open Go.RowKit
set_option maxRecDepth 100000

theorem exec_load_m {P : Program} {a : Act} {w : World} {op : Oper} (ty : TypeId) (x : Operand) (ho : op.op = .load ty x)
    (b o : Nat) (hx : a.eval x = .pointer (some ⟨b, o, none⟩)) (cs : List Value) (d : TypeDesc) (hc : w.rangeAt b o cs)
    (hu : P.underlying ty = some d) (hd : d.isRow = true) (hi : (P.info? ty).map (·.size) = some cs.length) : (execOp a.eval op).run P w = .ok (.value (.agg cs.toArray)) w := by
  unfold execOp
  simp only [ho, hx, Instr.loadAt, Instr.sureAddr, Sem.run_bind, Sem.run_pure, Result.andThen_ok, run_loadVar_mid w b o ty cs d hc hu hd hi]
theorem wp_buildSes {op : Oper} {a : Act} {w : World} {K : Act → World → Prop} {Q : Exit → Act → World → Prop} (x : Operand) (ho : op.op = .buildSlice 22 1 #[(0, x)]) (s : SesM) (hx : a.eval x = .agg s.cells)
    (h : K (a.put op.dst (.slice (some ⟨w.heap.size, 0, none⟩) 1 1)) (w.alloc (.cells s.cells 56))) : op.wp Tryd.prog a w K Q := by
  have hr := buildS s w
  unfold Oper.wp execOp
  simp only [ho, Sem.run_bind, List.map_toArray, List.map_cons, List.map_nil, hx, hr, Result.andThen_ok, Sem.run_pure]
  exact h
theorem wp_appSes {op : Oper} {a : Act} {w : World} {K : Act → World → Prop} {Q : Exit → Act → World → Prop} (s x : Operand)
    (ho : op.op = .call { callee := .builtin .append, args := #[s, x], argTypes := #[22, 22] })
    (base : Nat) (v : Value) (l : List SesM) (hs : a.eval s = v) (hown : OwnS w base v l)
    (ad : Addr) (c : Nat) (y : SesM) (hx : a.eval x = .slice (some ad) 1 c) (hy : ∀ j u, y.cells.toList[j]? = some u → w.cell? (ad.add j) = some u)
    (hroom : l.length + 1 ≤ 1256584717458) (hbase : base ≤ w.heap.size)
    (h : ∀ v' w', OwnS w' base v' (l ++ [y]) → w.grownBy w' v.ownBlock → Moved w v v' → K (a.put op.dst v') w') : op.wp Tryd.prog a w K Q := by
  obtain ⟨i0, hi, hz0, hz1, hz2⟩ := info_parts info_ses
  obtain ⟨v', w', hr, h2, h3, h4⟩ := run_append_own2 (P := Tryd.prog) w base 22 op.type 56 i0 _ 12 112 Tryd.underlying22 hi hz0 hz1 hz2 rfl (by decide) v l.length (flatS l) hown ad 1 c y.cells.toList rfl hy y.oneS (by unfold maxLen; omega) (by omega) hbase
  unfold Oper.wp execOp
  simp only [ho, resolve, invoke, builtin, Sem.run_bind, Sem.run_pure, Result.andThen_ok, List.map_toArray, List.map_cons, List.map_nil, hs, hx, hr]
  refine h v' w' ?_ h3 h4
  unfold OwnS
  rw [flatS_append, flatS_one, List.length_append]; exact h2
theorem flatS_one' (l : List SesM) : ∀ u ∈ flatS l, u.oneCell' = true := by
  intro u hu
  unfold flatS at hu
  obtain ⟨s, _, hs⟩ := List.mem_flatMap.1 hu
  exact s.oneS u hs
theorem RdS.news {w : World} {a : Addr} {n cap : Nat} {l : List SesM} (h : RdS w (.slice (some a) n cap) l) : ∀ j u, (flatS l)[j]? = some u → w.cell? (a.add j) = some u := by
  obtain ⟨a', cap', e, _, _, _, h4⟩ := h
  injection e with e1 e2 e3
  intro j u hu
  obtain ⟨hj, hu'⟩ := List.getElem?_eq_some_iff.1 hu
  obtain ⟨b, off, e4, h5⟩ := h4 j hj
  rw [← e1] at e4
  injection e4 with e4
  subst e4
  rw [Go.WideShapes.add_plain, h5, List.getD, hu]; rfl
end Go.Proofs.YtdaimaibnjkfbaaDoor
/-
  Regions that draw their order and end in a store that hits what was loaded: till that store a condition holds of the world, behind it none is asked.
-/
namespace Go.Proofs.YtdaimaibnjkfbaaDoor
open Go.RowKit

section
variable {P : Program} {ops : Array Oper} {Q : Exit → Act → World → Prop} {md : Region.Mode} {F : World → Prop} {t : Nat}

/-- Whatever order is picked from here on, and F holds behind every operation that is carried out, but for number t. -/
def wpAnyL (P : Program) (md : Region.Mode) (ops : Array Oper) (Q : Exit → Act → World → Prop) (F : World → Prop) (t : Nat) : Nat → Array Bool → Act → World → Prop
  | 0, listed, a, w => Region.ready md ops listed = [] ∧ Q .normal a w
  | fuel + 1, listed, a, w =>
    (Region.ready md ops listed = [] → Q .normal a w) ∧
    ∀ i ∈ Region.ready md ops listed, wpOp P ops Q i (fun a' w' => (i = t ∨ F w') ∧ wpAnyL P md ops Q F t fuel (listed.setIfInBounds i true) a' w') a w
theorem wpAny_of_last : ∀ (fuel : Nat) (listed : Array Bool) (a : Act) (w : World), wpAnyL P md ops Q F t fuel listed a w → wpAny P md ops Q fuel listed a w
  | 0, _, _, _, h => h
  | fuel + 1, _, _, _, h => ⟨h.1, fun i hi => wpOp_mono (fun a' w' h' => wpAny_of_last fuel _ a' w' h'.2) (h.2 i hi)⟩
/-- Does number t wait for number i? -/
def waitsFor (md : Region.Mode) (ops : Array Oper) (t i : Nat) : Bool := match ops[t]? with
  | some o => o.after.toList.any (fun e => Region.binds md e && e.on == i)
  | none => false
theorem waits_spec {i : Nat} (h : waitsFor md ops t i = true) {listed : Array Bool} (hi : i ∈ Region.ready md ops listed) : t ∉ Region.ready md ops listed := fun ht => by
  obtain ⟨_, ot, hot, hall⟩ := mem_ready.1 ht
  unfold waitsFor at h
  rw [hot] at h
  obtain ⟨e, he, h2⟩ := List.any_eq_true.1 h
  rw [Bool.and_eq_true, beq_iff_eq] at h2
  have h1 := hall e (Array.mem_toList_iff.1 he) h2.1
  have h0 := (mem_ready.1 hi).1
  rw [h2.2] at h1
  rcases Nat.lt_or_ge i listed.size with h' | h'
  · simp [h'] at h0 h1; rw [h0] at h1; cases h1
  · simp [Array.getElem?_eq_none h'] at h1
theorem wpAnyL_first {i : Nat} {oi : Oper} {v : Value} (hi : ops[i]? = some oi) (hsel : ∀ (j : Nat) (o : Oper) cs b, ops[j]? = some o → o.op ≠ .select cs b)
    (hQ : ∀ c a w, Q (.panic c) (a.put oi.dst v) w → Q (.panic c) a w) (hwt : waitsFor md ops t i = true) :
    ∀ (fuel : Nat) (listed : Array Bool) (a : Act) (w : World),
      (∀ j oj, ops[j]? = some oj → j ≠ i → listed.getD j true = false → (∀ e ∈ oj.after, Region.binds md e = true → e.on ≠ i) → oi.apart ops oj = true) →
      i ∈ Region.ready md ops listed → YieldsIf P ops F oi v a → F w →
      wpAnyL P md ops Q F t fuel (listed.setIfInBounds i true) (a.put oi.dst v) w → wpAnyL P md ops Q F t (fuel + 1) listed a w := by
  intro fuel
  induction fuel with
  | zero =>
    intro listed a w _ hr hy hS H
    refine ⟨fun h => (by rw [h] at hr; cases hr), fun j hj => ?_⟩
    by_cases hji : j = i
    · subst hji; exact hy.wpOp hi hS ⟨.inr hS, H⟩
    · have := ready_mono hj hji
      rw [H.1] at this
      cases this
  | succ fuel ih =>
    intro listed a w hfree hr hy hS H
    refine ⟨fun h => (by rw [h] at hr; cases hr), fun j hj => ?_⟩
    by_cases hji : j = i
    · subst hji; exact hy.wpOp hi hS ⟨.inr hS, H⟩
    · have hjt : j ≠ t := fun e => waits_spec hwt hr (e ▸ hj)
      have h1 := H.2 j (ready_mono hj hji)
      obtain ⟨hjun, oj, hoj, hall⟩ := mem_ready.1 hj
      have hnot : ∀ e ∈ oj.after, Region.binds md e = true → e.on ≠ i := fun e he hb heq => by
        have h1 := hall e he hb
        have h0 := (mem_ready.1 hr).1
        rw [heq] at h1
        rcases Nat.lt_or_ge i listed.size with h' | h'
        · simp [h'] at h0 h1; rw [h0] at h1; cases h1
        · simp [Array.getElem?_eq_none h'] at h1
      have h2 := wpOp_putIf hoj (hfree j oj hoj hji hjun hnot) (fun cs b => hsel i oi cs b hi) (fun cs b => hsel j oj cs b hoj) hQ hy h1
      have hfree' : ∀ k ok, ops[k]? = some ok → k ≠ i → (listed.setIfInBounds j true).getD k true = false →
          (∀ e ∈ ok.after, Region.binds md e = true → e.on ≠ i) → oi.apart ops ok = true := fun k ok hk hki hun hno => by
        refine hfree k ok hk hki ?_ hno
        by_cases hjk : j = k
        · subst hjk; exact hjun
        · rw [getD_set_ne true hjk] at hun; exact hun
      refine wpOp_mono (fun a' w' h3 => ?_) h2
      have hF : F w' := h3.2.1.resolve_left hjt
      refine ⟨.inr hF, ih (listed.setIfInBounds j true) a' w' hfree' (ready_mono hr (Ne.symm hji)) h3.1 hF ?_⟩
      rw [Array.setIfInBounds_comm _ _ hji]
      exact h3.2.2
theorem wpAnyL_take {i : Nat} {oi : Oper} {v : Value} {fuel : Nat} {listed : Array Bool} {a : Act} {w : World} (hi : ops[i]? = some oi)
    (hs : Region.noSelect ops = true) (hf : Region.free md ops listed i = true) (hr : (Region.ready md ops listed).contains i = true) (hwt : waitsFor md ops t i = true)
    (hQ : ∀ c a w, Q (.panic c) (a.put oi.dst v) w → Q (.panic c) a w) (hy : YieldsIf P ops F oi v a) (hS : F w)
    (h : wpAnyL P md ops Q F t fuel (listed.setIfInBounds i true) (a.put oi.dst v) w) : wpAnyL P md ops Q F t (fuel + 1) listed a w :=
  wpAnyL_first hi (Region.noSelect_spec hs) hQ hwt fuel listed a w (Region.free_spec hi hf) (by simpa using hr) hy hS h
def AllReadyL (P : Program) (md : Region.Mode) (ops : Array Oper) (Q : Exit → Act → World → Prop) (F : World → Prop) (t : Nat) (fuel : Nat) (listed : Array Bool) (a : Act) (w : World) (rs : List Nat) : Prop :=
  ∀ i ∈ rs, wpOp P ops Q i (fun a' w' => (i = t ∨ F w') ∧ wpAnyL P md ops Q F t fuel (listed.setIfInBounds i true) a' w') a w
theorem AllReadyL.nil {fuel : Nat} {listed : Array Bool} {a : Act} {w : World} : AllReadyL P md ops Q F t fuel listed a w [] := fun _ h => by cases h
theorem AllReadyL.cons {fuel : Nat} {listed : Array Bool} {a : Act} {w : World} {i : Nat} {o : Oper} {rs : List Nat} (ho : ops[i]? = some o)
    (h : ∀ K' : Act → World → Prop, Shut (∀ a w, F w → (F w → wpAnyL P md ops Q F t fuel (listed.setIfInBounds i true) a w) → K' a w) → if Region.wanted o (yielded ops a.tmps) = true then Oper.wp P o a w K' Q else K' (a.put o.dst undef) w)
    (hs : AllReadyL P md ops Q F t fuel listed a w rs) : AllReadyL P md ops Q F t fuel listed a w (i :: rs) := fun j hj => by
  rcases List.mem_cons.1 hj with rfl | hj
  · exact wpOp_step ho (fun K' hK => h K' (fun a w hS hW => hK a w ⟨.inr hS, hW hS⟩))
  · exact hs j hj
theorem AllReadyL.last {fuel : Nat} {listed : Array Bool} {a : Act} {w : World} {i : Nat} {o : Oper} (hit : i = t) (ho : ops[i]? = some o)
    (h : ∀ K' : Act → World → Prop, Shut (∀ a w, wpAnyL P md ops Q F t fuel (listed.setIfInBounds i true) a w → K' a w) → if Region.wanted o (yielded ops a.tmps) = true then Oper.wp P o a w K' Q else K' (a.put o.dst undef) w) : AllReadyL P md ops Q F t fuel listed a w [i] := fun j hj => by
  rw [List.mem_singleton] at hj
  subst hj
  exact wpOp_step ho (fun K' hK => h K' (fun a w hW => hK a w ⟨.inl hit, hW⟩))
theorem wpAnyL_ready {rs : List Nat} {fuel : Nat} {listed : Array Bool} {a : Act} {w : World} (hr : Region.ready md ops listed = rs) (hne : rs ≠ [])
    (h : AllReadyL P md ops Q F t fuel listed a w rs) : wpAnyL P md ops Q F t (fuel + 1) listed a w := ⟨fun h0 => absurd (hr ▸ h0) hne, hr ▸ h⟩
theorem wpAnyL_done {listed : Array Bool} {a : Act} {w : World} (hr : Region.ready md ops listed = []) (h : Q .normal a w) : ∀ fuel, wpAnyL P md ops Q F t fuel listed a w
  | 0 => ⟨hr, h⟩
  | _ + 1 => ⟨fun _ => h, by rw [hr]; simp⟩
/-- The beginning: number t is the last store. -/
theorem wp_region_last (t : Nat) {id : Nat} {a : Act} {w : World} (hm : P.follows .mixedOrders = true) (hS : F w.drew)
    (h : F w.drew → wpAnyL P .any ops Q F t ops.size (Array.replicate ops.size false) a w.drew) : (Code.region id ops true).wp P Q a w :=
  wp_region_any hm (wpAny_of_last _ _ _ _ (h hS))
end
end Go.Proofs.YtdaimaibnjkfbaaDoor
/-
  Small laws of worlds: a state of three cells is stored, in a region that draws its order.
-/
namespace Go.Proofs.YtdaimaibnjkfbaaDoor
open Go.RowKit
set_option maxRecDepth 100000

theorem Mod.set3 (b : Nat) (w : World) (x y z : Value) : Mod (fun i => i = b) w (((w.setCell ⟨b, 0, none⟩ x).setCell ⟨b, 1, none⟩ y).setCell ⟨b, 2, none⟩ z) :=
  ((Mod.set (fun i => i = b) w ⟨b, 0, none⟩ x rfl).trans (Mod.set (fun i => i = b) _ ⟨b, 1, none⟩ y rfl)).trans (Mod.set (fun i => i = b) _ ⟨b, 2, none⟩ z rfl)
theorem modCell {w w' : World} {F : Nat → Prop} {a : Addr} {x : Value} (hm : Mod F w w') (hc : w.cell? a = some x) (hn : ¬ F a.block) : w'.cell? a = some x := by
  rw [World.cell?_of_block (w := w) (hm.block a.block (World.block_lt_of_cell? w _ hc) hn)]; exact hc
theorem wp_store_kk {P : Program} {op : Oper} {a : Act} {w : World} {K : Act → World → Prop} {Q : Exit → Act → World → Prop} (ty : TypeId) (x y : Operand) (ho : op.op = .store ty x y)
    (b o : Nat) (cs : List Value) (hx : a.eval x = .pointer (some ⟨b, o, none⟩)) (hy : a.eval y = .agg cs.toArray) (ht : w.there b o cs.length) (hi : (P.info? ty).map (·.size) = some cs.length) (h1 : ∀ v ∈ cs, v.oneCell' = true)
    (h : K (a.put op.dst undef) (w.setCells b o cs)) : op.wp P a w K Q := by
  refine wp_store_mid ty x y ho b o cs.toArray hx hy ?_ ?_ (all_oneCell_toArray h1) ?_
  · rw [List.size_toArray]; exact ht
  · rw [List.size_toArray]; exact hi
  · exact h
theorem Box.there3 {w : World} {b : Nat} {x y z : Value} {t : TypeId} (h : Box w b #[x, y, z] t) : w.there b 0 3 := by
  intro j hj
  rw [Nat.zero_add]
  match j, hj with
  | 0, _ => exact ⟨by rw [h.cell 0 _ rfl]; rfl, h.free _⟩
  | 1, _ => exact ⟨by rw [h.cell 1 _ rfl]; rfl, h.free _⟩
  | 2, _ => exact ⟨by rw [h.cell 2 _ rfl]; rfl, h.free _⟩
theorem Box.set3 {w : World} {b : Nat} {x y z : Value} {t : TypeId} (h : Box w b #[x, y, z] t) (x' y' z' : Value) : Box (w.setCells b 0 [x', y', z']) b #[x', y', z'] t ∧ Mod (fun i => i = b) w (w.setCells b 0 [x', y', z']) :=
  ⟨((h.set 0 x').set 1 y').set 2 z', Mod.set3 b w x' y' z'⟩
theorem one3 (x y : Int) (a : Option Addr) (n c : Nat) : ∀ v ∈ [Value.int .i64 x, Value.int .i64 y, Value.slice a n c], v.oneCell' = true := by
  intro v hv
  simp only [List.mem_cons, List.not_mem_nil, or_false] at hv
  rcases hv with rfl | rfl | rfl <;> rfl
end Go.Proofs.YtdaimaibnjkfbaaDoor
/-
  As many sessions as may be, with names as long as may be; and one more.
-/
namespace Go.Proofs.YtdaimaibnjkfbaaDoor
open Go.RowKit
set_option maxRecDepth 100000

theorem wp_load_m {P : Program} {op : Oper} {a : Act} {w : World} {K : Act → World → Prop} {Q : Exit → Act → World → Prop} (ty : TypeId) (x : Operand) (ho : op.op = .load ty x)
    (b o : Nat) (hx : a.eval x = .pointer (some ⟨b, o, none⟩)) (cs : List Value) (d : TypeDesc) (hc : w.rangeAt b o cs)
    (hu : P.underlying ty = some d) (hd : d.isRow = true) (hi : (P.info? ty).map (·.size) = some cs.length)
    (h : K (a.put op.dst (.agg cs.toArray)) w) : op.wp P a w K Q := by
  unfold Oper.wp
  rw [exec_load_m ty x ho b o hx cs d hc hu hd hi]
  exact h
/-- A state in a block of its own, its list in another one. -/
structure StK (w0 w : World) (q : Nat) (c b : Int) (g n cap : Nat) (l : List SesM) : Prop where
  bx : Box w q #[.int .i64 c, .int .i64 b, .slice (some ⟨g, 0, none⟩) n cap] 24
  nl : n = l.length
  og : OwnG w w0.heap.size g cap l
  ne : g ≠ q
  ge : w0.heap.size ≤ q
  bel : Below w0.heap.size w0 w
theorem StK.rd {w0 w : World} {q g n cap : Nat} {c b : Int} {l : List SesM} (h : StK w0 w q c b g n cap l) : RdS w (.slice (some ⟨g, 0, none⟩) n cap) l := by have := h.og.own.rd; rwa [← h.nl] at this
theorem StK.below {w0 w w' : World} {q g n cap : Nat} {c b : Int} {l : List SesM} (h : StK w0 w q c b g n cap l) (hb : Below w.heap.size w w') : StK w0 w' q c b g n cap l :=
  ⟨h.bx.below hb, h.nl, h.og.below hb, h.ne, h.ge, h.bel.trans (hb.mono h.bel.size)⟩
theorem StK.clock {w0 w : World} {q g n cap : Nat} {c b : Int} {l : List SesM} (h : StK w0 w q c b g n cap l) (c' : Int) : StK w0 (w.setCell ⟨q, 0, none⟩ (.int .i64 c')) q c' b g n cap l := by
  have hm := Mod.set (fun i => i = q) w ⟨q, 0, none⟩ (.int .i64 c') rfl
  exact ⟨h.bx.set 0 _, h.nl, h.og.mod hm h.ne, h.ne, h.ge, h.bel.trans (hm.below h.bel.size (fun i hi => by have := h.ge; omega))⟩
theorem StK.birth {w0 w : World} {q g n cap : Nat} {c b : Int} {l : List SesM} (h : StK w0 w q c b g n cap l) (b' : Int) : StK w0 (w.setCell ⟨q, 1, none⟩ (.int .i64 b')) q c b' g n cap l := by
  have hm := Mod.set (fun i => i = q) w ⟨q, 1, none⟩ (.int .i64 b') rfl
  exact ⟨h.bx.set 1 _, h.nl, h.og.mod hm h.ne, h.ne, h.ge, h.bel.trans (hm.below h.bel.size (fun i hi => by have := h.ge; omega))⟩
theorem StK.ses {w0 w : World} {q g n cap : Nat} {c b : Int} {l : List SesM} (h : StK w0 w q c b g n cap l) (i j : Nat) (hi : i < l.length) (hj : j < 12) (x : Value) (s' : SesM) (hs' : s'.cells.toList = (l[i]).cells.toList.set j x) : StK w0 (w.setCell ⟨g, i * 12 + j, none⟩ x) q c b g n cap (l.set i s') := by
  have hm := Mod.set (fun k => k = g) w ⟨g, i * 12 + j, none⟩ x rfl
  exact ⟨h.bx.mod hm (fun e => h.ne e.symm), by rw [List.length_set]; exact h.nl, h.og.set i j hi hj x s' hs', h.ne, h.ge, h.bel.trans (hm.below h.bel.size (fun k hk => by have := h.og.ge; omega))⟩
/-- A new state is laid. -/
theorem StK.put {w0 w : World} {q g n cap g' n' cap' : Nat} {c b c' b' : Int} {l l' : List SesM} (h : StK w0 w q c b g n cap l) (ho : OwnG w w0.heap.size g' cap' l') (hn : n' = l'.length) (hne : g' ≠ q) : StK w0 (((w.setCell ⟨q, 0, none⟩ (.int .i64 c')).setCell ⟨q, 1, none⟩ (.int .i64 b')).setCell ⟨q, 2, none⟩ (.slice (some ⟨g', 0, none⟩) n' cap')) q c' b' g' n' cap' l' := by
  have hm := (Mod.set (fun i => i = q) w ⟨q, 0, none⟩ (.int .i64 c') rfl).trans ((Mod.set (fun i => i = q) _ ⟨q, 1, none⟩ (.int .i64 b') rfl).trans (Mod.set (fun i => i = q) _ ⟨q, 2, none⟩ (.slice (some ⟨g', 0, none⟩) n' cap') rfl))
  exact ⟨((h.bx.set 0 _).set 1 _).set 2 _, hn, ho.mod hm hne, hne, h.ge, h.bel.trans (hm.below h.bel.size (fun i hi => by have := h.ge; omega))⟩
/-- One more session, its list stored. -/
theorem StK.app {w0 w w' : World} {q g n cap : Nat} {c b : Int} {l l' : List SesM} {v' : Value} (h : StK w0 w q c b g n cap l) (hg : w.grownBy w' (some g)) (ho : OwnS w' w0.heap.size v' l') (hm' : Moved w (.slice (some ⟨g, 0, none⟩) n cap) v') (hl : 0 < l'.length) : ∃ g' cap', v' = .slice (some ⟨g', 0, none⟩) l'.length cap' ∧ Box w' q #[.int .i64 c, .int .i64 b, .slice (some ⟨g, 0, none⟩) n cap] 24 ∧ StK w0 (w'.setCell ⟨q, 2, none⟩ v') q c b g' l'.length cap' l' := by
  obtain ⟨g', cap', rfl, hG⟩ := OwnG.of ho hl
  have hne : g' ≠ q := fun e => by
    rcases hm' with h1 | h1
    · have h1 : some g' = some g := h1
      injection h1 with h1; exact h.ne (h1.symm.trans e)
    · have h1 : some g' = some w.heap.size := h1
      injection h1 with h1; have := h.bx.lt; omega
  have hbx := h.bx.grown hg (fun e => h.ne (by injection e))
  have hb := h.bel.trans (below_grown (v := .slice (some ⟨g, 0, none⟩) n cap) hg h.bel.size (fun k hk => by have hk : some g = some k := hk; injection hk with hk; have := h.og.ge; omega))
  have hm := Mod.set (fun i => i = q) w' ⟨q, 2, none⟩ (.slice (some ⟨g', 0, none⟩) l'.length cap') rfl
  exact ⟨g', cap', rfl, hbx, ⟨hbx.set 2 _, rfl, hG.mod hm hne, hne, h.ge, hb.trans (hm.below hb.size (fun i hi => by have := h.ge; omega))⟩⟩
def nameL : List UInt8 := [97, 98, 99, 100, 101, 102, 103, 104, 105, 106, 107, 108, 109, 110, 111, 112, 113, 114, 115, 116, 117, 118, 119, 120, 121, 122, 48, 49, 50, 51, 52, 53]
def fullS (i : Nat) : SesM := if i = 0 then ⟨0, 1048545, 0, 0, 0, nameL, [], 18446744073709551615, 2, 1099511627775, 1099511627776, 0⟩ else ⟨(i : Int), 1048545 + (i : Int), 0, 1048545, 1, nameL, nameL, 18446744073709551615, 2, 1099511627775, 1099511627776, 1⟩
def fullL (n : Nat) : List SesM := (List.range n).map fullS
theorem fullL_succ (n : Nat) : fullL (n + 1) = fullL n ++ [fullS n] := by simp [fullL, List.range_succ]
theorem fullL_len (n : Nat) : (fullL n).length = n := by simp [fullL]
def fullSt : StM := ⟨1099511627775, 1048576, fullL 32⟩
theorem full_chk : checkM fullSt = none := by decide +kernel
theorem full_more : checkM ⟨1099511627775, 1048576, fullL 32 ++ [fullS 0]⟩ = some (-1) := by decide +kernel
theorem full_bytes : (imgB fullSt).length ≤ 6144 := by decide +kernel
theorem fullS_ok (i : Nat) : SesOk (fullS i) := by
  unfold fullS
  split <;> exact ⟨by show (32 : Nat) ≤ _; omega, by first | (show (0 : Nat) ≤ _; omega) | (show (32 : Nat) ≤ _; omega), by show (18446744073709551615 : Nat) < 2 ^ 64; omega⟩
theorem full_ok : ∀ s ∈ fullSt.l, SesOk s := fun s hs => by
  obtain ⟨i, _, rfl⟩ := List.mem_map.1 (show s ∈ (List.range 32).map fullS from hs)
  exact fullS_ok i
theorem full_ok2 : ∀ s ∈ (fullL 32 ++ [fullS 0]), SesOk s := fun s hs => by
  rcases List.mem_append.1 hs with hs | hs
  · exact full_ok s hs
  · rw [List.mem_singleton.1 hs]; exact fullS_ok 0
theorem full_w : SesW fullSt.l := fun q hq => by
  obtain ⟨i, hi, rfl⟩ := List.mem_map.1 (show q ∈ (List.range 32).map fullS from hq)
  have hi := List.mem_range.1 hi
  have z : ∀ n : Int, 0 ≤ n → n ≤ 9223372036854775807 → N63 n := fun n a b => ⟨a, b⟩
  refine ⟨?_, (fullS_ok i).scopes⟩
  unfold fullS
  split
  · exact ⟨z 0 (by decide) (by decide), z 1048545 (by decide) (by decide), z 0 (by decide) (by decide), z 0 (by decide) (by decide), z 0 (by decide) (by decide), (show (32 : Nat) ≤ 32 by omega), (show (0 : Nat) ≤ 32 by omega), z 2 (by decide) (by decide), z 1099511627775 (by decide) (by decide), z 1099511627776 (by decide) (by decide), z 0 (by decide) (by decide)⟩
  · exact ⟨z (i : Int) (by omega) (by omega), z (1048545 + (i : Int)) (by omega) (by omega), z 0 (by decide) (by decide), z 1048545 (by decide) (by decide), z 1 (by decide) (by decide), (show (32 : Nat) ≤ 32 by omega), (show (32 : Nat) ≤ 32 by omega), z 2 (by decide) (by decide), z 1099511627775 (by decide) (by decide), z 1099511627776 (by decide) (by decide), z 1 (by decide) (by decide)⟩
/-- What stands while the sessions are laid. -/
structure FulI (w0 w : World) (q : Nat) (x : Value) (n : Nat) : Prop where
  bx : Box w q #[.int .i64 1099511627775, .int .i64 1048576, x] 24
  ow : OwnS w (q + 1) x (fullL n)
  ge : w0.heap.size ≤ q
  bel : Below w0.heap.size w0 w
theorem FulI.below {w0 w w' : World} {q n : Nat} {x : Value} (h : FulI w0 w q x n) (hb : Below w.heap.size w w') : FulI w0 w' q x n := ⟨h.bx.below hb, h.ow.below hb, h.ge, h.bel.trans (hb.mono h.bel.size)⟩
theorem FulI.put {w0 w w' : World} {q n : Nat} {x x' : Value} (h : FulI w0 w q x n) (hg : w.grownBy w' x.ownBlock) (ho : OwnS w' (q + 1) x' (fullL (n + 1))) : FulI w0 (w'.setCell ⟨q, 2, none⟩ x') q x' (n + 1) := by
  have hbx := h.bx.grown hg (fun e => by have := (h.ow.lt _ e).1; omega)
  have hb := h.bel.trans (below_grown hg h.bel.size (fun k hk => by have := (h.ow.lt k hk).1; have := h.ge; omega))
  have hm := Mod.set (fun i => i = q) w' ⟨q, 2, none⟩ x' rfl
  have := h.ge
  exact ⟨hbx.set 2 x', ho.mod hm (fun k hk e => by have := (ho.lt k hk).1; omega), h.ge, hb.trans (hm.below hb.size (fun i hi => by omega))⟩
set_option maxHeartbeats 6400000 in
theorem full_calls (w : World) (hg : ErrType w) : Calls Tryd.prog 26 #[] w fun ev w' => ev = .returned (.bool true) ∧ Below w.heap.size w w' := by
  have HG := Lib.hid hg
  have HE := Lib.hid (fun v w' h => encImg_calls fullSt v w' h full_ok)
  have HC := Lib.hid (fun v w' h => check_calls fullSt v w' h full_ok)
  have HD := Lib.hid (fun x w' h => decI_calls x (imgB fullSt) w' h (Nat.le_trans full_bytes (by decide)))
  rw [show imgM fullSt = imgB fullSt by unfold imgM; rw [if_pos full_chk], show imgN fullSt = 0 by unfold imgN; rw [if_pos full_chk]] at HE
  rw [full_chk, show chkV none = .nilIface from rfl] at HC
  rw [decI_imgB full_chk full_w] at HD
  have HLB := Lib.hid full_bytes
  obtain ⟨IB, hIB⟩ : ∃ IB, IB = imgB fullSt := ⟨_, rfl⟩
  rw [← hIB] at HE HD HLB
  clear hIB hg
  have HI0 := Lib.hid (show FulI w (w.alloc (.cells #[.int .i64 1099511627775, .int .i64 1048576, .slice none 0 0] 24)) w.heap.size (.slice none 0 0) 0 from ⟨Box.new _ _ _, OwnS.nil _ _, Nat.le_refl _, below_alloc _ _⟩)
  go_enter Tryd.func26, Tryd.ntmps26
  go_wp2_with fail
  generalize (w.alloc (.cells #[.int .i64 1099511627775, .int .i64 1048576, .slice none 0 0] 24)) = w1 at HI0 ⊢
  obtain ⟨q, hq⟩ : ∃ q, q = w.heap.size := ⟨_, rfl⟩
  rw [← hq] at HI0 ⊢
  clear hq
  go_loopg [3] 32 (fun gk iv wr => ∃ (i : Nat) (x : Value), gk + i = 32 ∧ iv = .int .i64 (i : Int) ∧ FulI w wr q x i)
  case atStart => exact ⟨0, _, rfl, rfl, HI0.out⟩
  case round =>
    clear HI0
    obtain ⟨i, x, hgk, rfl, hI⟩ := hrel
    have i0 : (0 : Int) ≤ (i : Int) := by omega
    have HGK := Lib.hid hgk
    obtain ⟨xa, xc, rfl, _⟩ := hI.ow.slice
    obtain ⟨xn, hxn⟩ : ∃ xn, xn = (fullL i).length := ⟨_, rfl⟩
    rw [← hxn] at hI
    have HI := Lib.hid hI
    have HXN := Lib.hid (show xn = i by rw [hxn, fullL_len])
    have c2 : wr.cell? ⟨q, 2, none⟩ = some (.slice xa xn xc) := hI.bx.cell 2 _ rfl
    clear hgk hI hxn
    by_cases hi : i < 32
    · have i1 : (i : Int) < 32 := by omega
      have wz : IntKind.i64.wrap (1048545 + (i : Int)) = 1048545 + (i : Int) := by simp [IntKind.wrap, IntKind.bits, IntKind.signed]; omega
      have HII := Lib.hid hi
      have HLK := Lib.hid (show (fullL i).length + 1 ≤ 1256584717458 by rw [fullL_len]; omega)
      by_cases hz : i = 0
      · have HFS := Lib.hid (show fullS i = ⟨(i : Int), 1048545 + (i : Int), 0, 0, 0, nameL, [], 18446744073709551615, 2, 1099511627775, 1099511627776, 0⟩ by unfold fullS; rw [if_pos hz, hz]; rfl)
        have tp : decide ((0 : Int) < (i : Int)) = false := by simp; omega
        have tp' : decide (0 < i) = false := by simp; omega
        have hb1 := below_alloc wr (.cells #[.int .i64 (i : Int), .int .i64 (1048545 + (i : Int)), .int .i64 0, .int .i64 0, .int .i64 0, .string ⟨#[97, 98, 99, 100, 101, 102, 103, 104, 105, 106, 107, 108, 109, 110, 111, 112, 113, 114, 115, 116, 117, 118, 119, 120, 121, 122, 48, 49, 50, 51, 52, 53]⟩, .string ⟨#[]⟩, .int .u64 18446744073709551615, .int .i64 2, .int .i64 1099511627775, .int .i64 1099511627776, .int .i64 0] 56)
        have HI1 := Lib.hid (HI.out.below hb1)
        have hb2 := below_alloc (wr.alloc (.cells #[.int .i64 (i : Int), .int .i64 (1048545 + (i : Int)), .int .i64 0, .int .i64 0, .int .i64 0, .string ⟨#[97, 98, 99, 100, 101, 102, 103, 104, 105, 106, 107, 108, 109, 110, 111, 112, 113, 114, 115, 116, 117, 118, 119, 120, 121, 122, 48, 49, 50, 51, 52, 53]⟩, .string ⟨#[]⟩, .int .u64 18446744073709551615, .int .i64 2, .int .i64 1099511627775, .int .i64 1099511627776, .int .i64 0] 56)) (.cells #[.int .i64 (i : Int), .int .i64 (1048545 + (i : Int)), .int .i64 0, .int .i64 0, .int .i64 0, .string ⟨#[97, 98, 99, 100, 101, 102, 103, 104, 105, 106, 107, 108, 109, 110, 111, 112, 113, 114, 115, 116, 117, 118, 119, 120, 121, 122, 48, 49, 50, 51, 52, 53]⟩, .string ⟨#[]⟩, .int .u64 18446744073709551615, .int .i64 2, .int .i64 1099511627775, .int .i64 1099511627776, .int .i64 0] 56)
        have HI2 := Lib.hid (HI1.out.below hb2)
        have hc := newCells (wr.alloc (.cells #[.int .i64 (i : Int), .int .i64 (1048545 + (i : Int)), .int .i64 0, .int .i64 0, .int .i64 0, .string ⟨#[97, 98, 99, 100, 101, 102, 103, 104, 105, 106, 107, 108, 109, 110, 111, 112, 113, 114, 115, 116, 117, 118, 119, 120, 121, 122, 48, 49, 50, 51, 52, 53]⟩, .string ⟨#[]⟩, .int .u64 18446744073709551615, .int .i64 2, .int .i64 1099511627775, .int .i64 1099511627776, .int .i64 0] 56)) ⟨(i : Int), 1048545 + (i : Int), 0, 0, 0, nameL, [], 18446744073709551615, 2, 1099511627775, 1099511627776, 0⟩ 56
        rw [World.size_alloc] at hc
        have HCC := Lib.hid (show ∀ j u, (SesM.cells ⟨(i : Int), 1048545 + (i : Int), 0, 0, 0, nameL, [], 18446744073709551615, 2, 1099511627775, 1099511627776, 0⟩).toList[j]? = some u → ((wr.alloc (.cells #[.int .i64 (i : Int), .int .i64 (1048545 + (i : Int)), .int .i64 0, .int .i64 0, .int .i64 0, .string ⟨#[97, 98, 99, 100, 101, 102, 103, 104, 105, 106, 107, 108, 109, 110, 111, 112, 113, 114, 115, 116, 117, 118, 119, 120, 121, 122, 48, 49, 50, 51, 52, 53]⟩, .string ⟨#[]⟩, .int .u64 18446744073709551615, .int .i64 2, .int .i64 1099511627775, .int .i64 1099511627776, .int .i64 0] 56)).alloc (.cells #[.int .i64 (i : Int), .int .i64 (1048545 + (i : Int)), .int .i64 0, .int .i64 0, .int .i64 0, .string ⟨#[97, 98, 99, 100, 101, 102, 103, 104, 105, 106, 107, 108, 109, 110, 111, 112, 113, 114, 115, 116, 117, 118, 119, 120, 121, 122, 48, 49, 50, 51, 52, 53]⟩, .string ⟨#[]⟩, .int .u64 18446744073709551615, .int .i64 2, .int .i64 1099511627775, .int .i64 1099511627776, .int .i64 0] 56)).cell? ((⟨wr.heap.size + 1, 0, none⟩ : Addr).add j) = some u from hc)
        have HSZ := Lib.hid (show q + 1 ≤ ((wr.alloc (.cells #[.int .i64 (i : Int), .int .i64 (1048545 + (i : Int)), .int .i64 0, .int .i64 0, .int .i64 0, .string ⟨#[97, 98, 99, 100, 101, 102, 103, 104, 105, 106, 107, 108, 109, 110, 111, 112, 113, 114, 115, 116, 117, 118, 119, 120, 121, 122, 48, 49, 50, 51, 52, 53]⟩, .string ⟨#[]⟩, .int .u64 18446744073709551615, .int .i64 2, .int .i64 1099511627775, .int .i64 1099511627776, .int .i64 0] 56)).alloc (.cells #[.int .i64 (i : Int), .int .i64 (1048545 + (i : Int)), .int .i64 0, .int .i64 0, .int .i64 0, .string ⟨#[97, 98, 99, 100, 101, 102, 103, 104, 105, 106, 107, 108, 109, 110, 111, 112, 113, 114, 115, 116, 117, 118, 119, 120, 121, 122, 48, 49, 50, 51, 52, 53]⟩, .string ⟨#[]⟩, .int .u64 18446744073709551615, .int .i64 2, .int .i64 1099511627775, .int .i64 1099511627776, .int .i64 0] 56)).heap.size by have := HI2.out.bx.lt; omega)
        have c2 : (wr.alloc (.cells #[.int .i64 (i : Int), .int .i64 (1048545 + (i : Int)), .int .i64 0, .int .i64 0, .int .i64 0, .string ⟨#[97, 98, 99, 100, 101, 102, 103, 104, 105, 106, 107, 108, 109, 110, 111, 112, 113, 114, 115, 116, 117, 118, 119, 120, 121, 122, 48, 49, 50, 51, 52, 53]⟩, .string ⟨#[]⟩, .int .u64 18446744073709551615, .int .i64 2, .int .i64 1099511627775, .int .i64 1099511627776, .int .i64 0] 56)).cell? ⟨q, 2, none⟩ = some (.slice xa xn xc) := HI1.out.bx.cell 2 _ rfl
        have HOW := Lib.hid (show OwnS ((wr.alloc (.cells #[.int .i64 (i : Int), .int .i64 (1048545 + (i : Int)), .int .i64 0, .int .i64 0, .int .i64 0, .string ⟨#[97, 98, 99, 100, 101, 102, 103, 104, 105, 106, 107, 108, 109, 110, 111, 112, 113, 114, 115, 116, 117, 118, 119, 120, 121, 122, 48, 49, 50, 51, 52, 53]⟩, .string ⟨#[]⟩, .int .u64 18446744073709551615, .int .i64 2, .int .i64 1099511627775, .int .i64 1099511627776, .int .i64 0] 56)).alloc (.cells #[.int .i64 (i : Int), .int .i64 (1048545 + (i : Int)), .int .i64 0, .int .i64 0, .int .i64 0, .string ⟨#[97, 98, 99, 100, 101, 102, 103, 104, 105, 106, 107, 108, 109, 110, 111, 112, 113, 114, 115, 116, 117, 118, 119, 120, 121, 122, 48, 49, 50, 51, 52, 53]⟩, .string ⟨#[]⟩, .int .u64 18446744073709551615, .int .i64 2, .int .i64 1099511627775, .int .i64 1099511627776, .int .i64 0] 56)) (q + 1) (.slice xa xn xc) (fullL i) from HI2.out.ow)
        clear hb1 hb2 hc HI HI1 hz
        go_wp2_with (at_builtin; refine appSes rfl _ _ rfl (q + 1) _ (fullL i) rfl HOW.out ⟨wr.heap.size + 1, 0, none⟩ 1 ⟨(i : Int), 1048545 + (i : Int), 0, 0, 0, nameL, [], 18446744073709551615, 2, 1099511627775, 1099511627776, 0⟩ rfl HCC.out HLK.out HSZ.out ?_)
        intro y wa hown' hg' _
        rw [← HFS.out, ← fullL_succ] at hown'
        obtain ⟨ya, yc, rfl, _⟩ := hown'.slice
        obtain ⟨yn, hyn⟩ : ∃ yn, yn = (fullL (i + 1)).length := ⟨_, rfl⟩
        rw [← hyn] at hown' ⊢
        have HP := Lib.hid (HI2.out.put hg' hown')
        have hbx := HI2.out.bx.grown hg' (fun e => by have := (HI2.out.ow.lt _ e).1; omega)
        have d2 : wa.cell? ⟨q, 2, none⟩ = some (.slice xa xn xc) := hbx.cell 2 _ rfl
        have f2 := hbx.free 2
        clear hg' hown' hbx HI2 HCC HSZ HOW c2 hyn
        go_wp2_with fail
        go_roundg (32 - (i + 1))
        case measure => have := HGK.out; have := HII.out; omega
        case rel => exact ⟨i + 1, _, by have := HGK.out; have := HII.out; omega, by go_num, HP.out⟩
      · have HFS := Lib.hid (show fullS i = ⟨(i : Int), 1048545 + (i : Int), 0, 1048545, 1, nameL, nameL, 18446744073709551615, 2, 1099511627775, 1099511627776, 1⟩ by unfold fullS; rw [if_neg hz])
        have tp : decide ((0 : Int) < (i : Int)) = true := by simp; omega
        have tp' : decide (0 < i) = true := by simp; omega
        have hb1 := below_alloc wr (.cells #[.int .i64 (i : Int), .int .i64 (1048545 + (i : Int)), .int .i64 0, .int .i64 1048545, .int .i64 1, .string ⟨#[97, 98, 99, 100, 101, 102, 103, 104, 105, 106, 107, 108, 109, 110, 111, 112, 113, 114, 115, 116, 117, 118, 119, 120, 121, 122, 48, 49, 50, 51, 52, 53]⟩, .string ⟨#[97, 98, 99, 100, 101, 102, 103, 104, 105, 106, 107, 108, 109, 110, 111, 112, 113, 114, 115, 116, 117, 118, 119, 120, 121, 122, 48, 49, 50, 51, 52, 53]⟩, .int .u64 18446744073709551615, .int .i64 2, .int .i64 1099511627775, .int .i64 1099511627776, .int .i64 1] 56)
        have HI1 := Lib.hid (HI.out.below hb1)
        have hb2 := below_alloc (wr.alloc (.cells #[.int .i64 (i : Int), .int .i64 (1048545 + (i : Int)), .int .i64 0, .int .i64 1048545, .int .i64 1, .string ⟨#[97, 98, 99, 100, 101, 102, 103, 104, 105, 106, 107, 108, 109, 110, 111, 112, 113, 114, 115, 116, 117, 118, 119, 120, 121, 122, 48, 49, 50, 51, 52, 53]⟩, .string ⟨#[97, 98, 99, 100, 101, 102, 103, 104, 105, 106, 107, 108, 109, 110, 111, 112, 113, 114, 115, 116, 117, 118, 119, 120, 121, 122, 48, 49, 50, 51, 52, 53]⟩, .int .u64 18446744073709551615, .int .i64 2, .int .i64 1099511627775, .int .i64 1099511627776, .int .i64 1] 56)) (.cells #[.int .i64 (i : Int), .int .i64 (1048545 + (i : Int)), .int .i64 0, .int .i64 1048545, .int .i64 1, .string ⟨#[97, 98, 99, 100, 101, 102, 103, 104, 105, 106, 107, 108, 109, 110, 111, 112, 113, 114, 115, 116, 117, 118, 119, 120, 121, 122, 48, 49, 50, 51, 52, 53]⟩, .string ⟨#[97, 98, 99, 100, 101, 102, 103, 104, 105, 106, 107, 108, 109, 110, 111, 112, 113, 114, 115, 116, 117, 118, 119, 120, 121, 122, 48, 49, 50, 51, 52, 53]⟩, .int .u64 18446744073709551615, .int .i64 2, .int .i64 1099511627775, .int .i64 1099511627776, .int .i64 1] 56)
        have HI2 := Lib.hid (HI1.out.below hb2)
        have hc := newCells (wr.alloc (.cells #[.int .i64 (i : Int), .int .i64 (1048545 + (i : Int)), .int .i64 0, .int .i64 1048545, .int .i64 1, .string ⟨#[97, 98, 99, 100, 101, 102, 103, 104, 105, 106, 107, 108, 109, 110, 111, 112, 113, 114, 115, 116, 117, 118, 119, 120, 121, 122, 48, 49, 50, 51, 52, 53]⟩, .string ⟨#[97, 98, 99, 100, 101, 102, 103, 104, 105, 106, 107, 108, 109, 110, 111, 112, 113, 114, 115, 116, 117, 118, 119, 120, 121, 122, 48, 49, 50, 51, 52, 53]⟩, .int .u64 18446744073709551615, .int .i64 2, .int .i64 1099511627775, .int .i64 1099511627776, .int .i64 1] 56)) ⟨(i : Int), 1048545 + (i : Int), 0, 1048545, 1, nameL, nameL, 18446744073709551615, 2, 1099511627775, 1099511627776, 1⟩ 56
        rw [World.size_alloc] at hc
        have HCC := Lib.hid (show ∀ j u, (SesM.cells ⟨(i : Int), 1048545 + (i : Int), 0, 1048545, 1, nameL, nameL, 18446744073709551615, 2, 1099511627775, 1099511627776, 1⟩).toList[j]? = some u → ((wr.alloc (.cells #[.int .i64 (i : Int), .int .i64 (1048545 + (i : Int)), .int .i64 0, .int .i64 1048545, .int .i64 1, .string ⟨#[97, 98, 99, 100, 101, 102, 103, 104, 105, 106, 107, 108, 109, 110, 111, 112, 113, 114, 115, 116, 117, 118, 119, 120, 121, 122, 48, 49, 50, 51, 52, 53]⟩, .string ⟨#[97, 98, 99, 100, 101, 102, 103, 104, 105, 106, 107, 108, 109, 110, 111, 112, 113, 114, 115, 116, 117, 118, 119, 120, 121, 122, 48, 49, 50, 51, 52, 53]⟩, .int .u64 18446744073709551615, .int .i64 2, .int .i64 1099511627775, .int .i64 1099511627776, .int .i64 1] 56)).alloc (.cells #[.int .i64 (i : Int), .int .i64 (1048545 + (i : Int)), .int .i64 0, .int .i64 1048545, .int .i64 1, .string ⟨#[97, 98, 99, 100, 101, 102, 103, 104, 105, 106, 107, 108, 109, 110, 111, 112, 113, 114, 115, 116, 117, 118, 119, 120, 121, 122, 48, 49, 50, 51, 52, 53]⟩, .string ⟨#[97, 98, 99, 100, 101, 102, 103, 104, 105, 106, 107, 108, 109, 110, 111, 112, 113, 114, 115, 116, 117, 118, 119, 120, 121, 122, 48, 49, 50, 51, 52, 53]⟩, .int .u64 18446744073709551615, .int .i64 2, .int .i64 1099511627775, .int .i64 1099511627776, .int .i64 1] 56)).cell? ((⟨wr.heap.size + 1, 0, none⟩ : Addr).add j) = some u from hc)
        have HSZ := Lib.hid (show q + 1 ≤ ((wr.alloc (.cells #[.int .i64 (i : Int), .int .i64 (1048545 + (i : Int)), .int .i64 0, .int .i64 1048545, .int .i64 1, .string ⟨#[97, 98, 99, 100, 101, 102, 103, 104, 105, 106, 107, 108, 109, 110, 111, 112, 113, 114, 115, 116, 117, 118, 119, 120, 121, 122, 48, 49, 50, 51, 52, 53]⟩, .string ⟨#[97, 98, 99, 100, 101, 102, 103, 104, 105, 106, 107, 108, 109, 110, 111, 112, 113, 114, 115, 116, 117, 118, 119, 120, 121, 122, 48, 49, 50, 51, 52, 53]⟩, .int .u64 18446744073709551615, .int .i64 2, .int .i64 1099511627775, .int .i64 1099511627776, .int .i64 1] 56)).alloc (.cells #[.int .i64 (i : Int), .int .i64 (1048545 + (i : Int)), .int .i64 0, .int .i64 1048545, .int .i64 1, .string ⟨#[97, 98, 99, 100, 101, 102, 103, 104, 105, 106, 107, 108, 109, 110, 111, 112, 113, 114, 115, 116, 117, 118, 119, 120, 121, 122, 48, 49, 50, 51, 52, 53]⟩, .string ⟨#[97, 98, 99, 100, 101, 102, 103, 104, 105, 106, 107, 108, 109, 110, 111, 112, 113, 114, 115, 116, 117, 118, 119, 120, 121, 122, 48, 49, 50, 51, 52, 53]⟩, .int .u64 18446744073709551615, .int .i64 2, .int .i64 1099511627775, .int .i64 1099511627776, .int .i64 1] 56)).heap.size by have := HI2.out.bx.lt; omega)
        have c2 : (wr.alloc (.cells #[.int .i64 (i : Int), .int .i64 (1048545 + (i : Int)), .int .i64 0, .int .i64 1048545, .int .i64 1, .string ⟨#[97, 98, 99, 100, 101, 102, 103, 104, 105, 106, 107, 108, 109, 110, 111, 112, 113, 114, 115, 116, 117, 118, 119, 120, 121, 122, 48, 49, 50, 51, 52, 53]⟩, .string ⟨#[97, 98, 99, 100, 101, 102, 103, 104, 105, 106, 107, 108, 109, 110, 111, 112, 113, 114, 115, 116, 117, 118, 119, 120, 121, 122, 48, 49, 50, 51, 52, 53]⟩, .int .u64 18446744073709551615, .int .i64 2, .int .i64 1099511627775, .int .i64 1099511627776, .int .i64 1] 56)).cell? ⟨q, 2, none⟩ = some (.slice xa xn xc) := HI1.out.bx.cell 2 _ rfl
        have HOW := Lib.hid (show OwnS ((wr.alloc (.cells #[.int .i64 (i : Int), .int .i64 (1048545 + (i : Int)), .int .i64 0, .int .i64 1048545, .int .i64 1, .string ⟨#[97, 98, 99, 100, 101, 102, 103, 104, 105, 106, 107, 108, 109, 110, 111, 112, 113, 114, 115, 116, 117, 118, 119, 120, 121, 122, 48, 49, 50, 51, 52, 53]⟩, .string ⟨#[97, 98, 99, 100, 101, 102, 103, 104, 105, 106, 107, 108, 109, 110, 111, 112, 113, 114, 115, 116, 117, 118, 119, 120, 121, 122, 48, 49, 50, 51, 52, 53]⟩, .int .u64 18446744073709551615, .int .i64 2, .int .i64 1099511627775, .int .i64 1099511627776, .int .i64 1] 56)).alloc (.cells #[.int .i64 (i : Int), .int .i64 (1048545 + (i : Int)), .int .i64 0, .int .i64 1048545, .int .i64 1, .string ⟨#[97, 98, 99, 100, 101, 102, 103, 104, 105, 106, 107, 108, 109, 110, 111, 112, 113, 114, 115, 116, 117, 118, 119, 120, 121, 122, 48, 49, 50, 51, 52, 53]⟩, .string ⟨#[97, 98, 99, 100, 101, 102, 103, 104, 105, 106, 107, 108, 109, 110, 111, 112, 113, 114, 115, 116, 117, 118, 119, 120, 121, 122, 48, 49, 50, 51, 52, 53]⟩, .int .u64 18446744073709551615, .int .i64 2, .int .i64 1099511627775, .int .i64 1099511627776, .int .i64 1] 56)) (q + 1) (.slice xa xn xc) (fullL i) from HI2.out.ow)
        clear hb1 hb2 hc HI HI1 hz
        go_wp2_with (at_builtin; refine appSes rfl _ _ rfl (q + 1) _ (fullL i) rfl HOW.out ⟨wr.heap.size + 1, 0, none⟩ 1 ⟨(i : Int), 1048545 + (i : Int), 0, 1048545, 1, nameL, nameL, 18446744073709551615, 2, 1099511627775, 1099511627776, 1⟩ rfl HCC.out HLK.out HSZ.out ?_)
        intro y wa hown' hg' _
        rw [← HFS.out, ← fullL_succ] at hown'
        obtain ⟨ya, yc, rfl, _⟩ := hown'.slice
        obtain ⟨yn, hyn⟩ : ∃ yn, yn = (fullL (i + 1)).length := ⟨_, rfl⟩
        rw [← hyn] at hown' ⊢
        have HP := Lib.hid (HI2.out.put hg' hown')
        have hbx := HI2.out.bx.grown hg' (fun e => by have := (HI2.out.ow.lt _ e).1; omega)
        have d2 : wa.cell? ⟨q, 2, none⟩ = some (.slice xa xn xc) := hbx.cell 2 _ rfl
        have f2 := hbx.free 2
        clear hg' hown' hbx HI2 HCC HSZ HOW c2 hyn
        go_wp2_with fail
        go_roundg (32 - (i + 1))
        case measure => have := HGK.out; have := HII.out; omega
        case rel => exact ⟨i + 1, _, by have := HGK.out; have := HII.out; omega, by go_num, HP.out⟩
    have i1 : ¬ (i : Int) < 32 := by omega
    obtain rfl : i = 32 := by have := HGK.out; omega
    have HRD := Lib.hid (show RdS wr (.slice xa xn xc) fullSt.l from HI.out.ow.rd)
    have c0 : wr.cell? ⟨q, 0, none⟩ = some (.int .i64 1099511627775) := HI.out.bx.cell 0 _ rfl
    have c1 : wr.cell? ⟨q, 1, none⟩ = some (.int .i64 1048576) := HI.out.bx.cell 1 _ rfl
    clear hi
    go_wp2_with fail
    refine (show Calls _ _ #[.agg #[.int .i64 1099511627775, .int .i64 1048576, .slice xa xn xc]] wr _ from HE.out _ wr HRD.out).mono ?_
    rintro ev w2 ⟨o, rfl, ho, hb⟩
    have HI2 := Lib.hid (HI.out.below hb)
    have HOR := Lib.hid ho.rd
    obtain ⟨oa, oc, rfl, _⟩ := ho.rd
    obtain ⟨on, hon⟩ : ∃ on, on = IB.length := ⟨_, rfl⟩
    rw [← hon] at HOR HLB ⊢
    have HON := Lib.hid hon
    rw [show errV 0 = .nilIface from rfl]
    clear ho hb HI HRD c0 c1 c2 hon
    go_wp2_with fail
    refine (HD.out _ w2 (by rw [← HON.out]; exact HOR.out)).mono ?_
    rintro ev w3 ⟨s, rfl, hs, hb⟩
    obtain ⟨sa, sc, rfl, _⟩ := hs.slice
    obtain ⟨sn, hsn⟩ : ∃ sn, sn = fullSt.l.length := ⟨_, rfl⟩
    rw [← hsn] at hs ⊢
    rw [show fullSt.clock = 1099511627775 from rfl, show fullSt.births = 1048576 from rfl, show errV 0 = .nilIface from rfl]
    have hal := below_alloc w3 (.cells #[.int .i64 1099511627775, .int .i64 1048576, .slice sa sn sc] 24)
    have hnx := below_trans hb hal
    have HI4 := Lib.hid (HI2.out.below hnx)
    have HS4 := Lib.hid (hs.below hal)
    have HX4 := Lib.hid (Box.new w3 #[.int .i64 1099511627775, .int .i64 1048576, .slice sa sn sc] 24)
    clear hs hb hal hnx HI2 HOR HD hsn HE
    have c0 : (w3.alloc (.cells #[.int .i64 1099511627775, .int .i64 1048576, .slice sa sn sc] 24)).cell? ⟨q, 0, none⟩ = some (.int .i64 1099511627775) := HI4.out.bx.cell 0 _ rfl
    have c1 : (w3.alloc (.cells #[.int .i64 1099511627775, .int .i64 1048576, .slice sa sn sc] 24)).cell? ⟨q, 1, none⟩ = some (.int .i64 1048576) := HI4.out.bx.cell 1 _ rfl
    have c2 : (w3.alloc (.cells #[.int .i64 1099511627775, .int .i64 1048576, .slice sa sn sc] 24)).cell? ⟨q, 2, none⟩ = some (.slice xa xn xc) := HI4.out.bx.cell 2 _ rfl
    go_wp2_with fail
    generalize (w3.alloc (.cells #[.int .i64 1099511627775, .int .i64 1048576, .slice sa sn sc] 24)) = w4 at HI4 HS4 HX4 c0 c1 c2 ⊢
    generalize w3.heap.size = q7 at HX4 ⊢
    refine (show Calls _ _ #[.agg #[.int .i64 1099511627775, .int .i64 1048576, .slice xa xn xc]] w4 _ from HC.out _ w4 (show RdS w4 _ fullSt.l from HI4.out.ow.rd)).mono ?_
    rintro ev w5 ⟨rfl, hb⟩
    have HI5 := Lib.hid (HI4.out.below hb)
    have HS5 := Lib.hid (HS4.out.below hb)
    have HX5 := Lib.hid (HX4.out.below hb)
    clear hb HI4 HS4 HX4 c0 c1 c2 HC
    have c0 : w5.cell? ⟨q, 0, none⟩ = some (.int .i64 1099511627775) := HI5.out.bx.cell 0 _ rfl
    have c1 : w5.cell? ⟨q, 1, none⟩ = some (.int .i64 1048576) := HI5.out.bx.cell 1 _ rfl
    have c2 : w5.cell? ⟨q, 2, none⟩ = some (.slice xa xn xc) := HI5.out.bx.cell 2 _ rfl
    have d0 : w5.cell? ⟨q7, 0, none⟩ = some (.int .i64 1099511627775) := HX5.out.cell 0 _ rfl
    have d1 : w5.cell? ⟨q7, 1, none⟩ = some (.int .i64 1048576) := HX5.out.cell 1 _ rfl
    have d2 : w5.cell? ⟨q7, 2, none⟩ = some (.slice sa sn sc) := HX5.out.cell 2 _ rfl
    go_wp2_with fail
    refine (show Calls _ _ #[.agg #[.int .i64 1099511627775, .int .i64 1048576, .slice sa sn sc], .agg #[.int .i64 1099511627775, .int .i64 1048576, .slice xa xn xc]] w5 _ from sameState_calls fullSt fullSt _ _ w5 HS5.out.rd (show RdS w5 _ fullSt.l from HI5.out.ow.rd)).mono ?_
    rintro ev w6 ⟨rfl, hb⟩
    rw [sameSt_iff.2 rfl]
    have HI6 := Lib.hid (HI5.out.below hb)
    clear hb HI5 HS5 HX5 c0 c1 c2 d0 d1 d2
    have tl : decide ((6144 : Int) < (on : Int)) = false := by have := HLB.out; simp; omega
    have tl' : decide (6144 < on) = false := by have := HLB.out; simp; omega
    obtain ⟨wr, hwr⟩ : ∃ wr, wr = w6 := ⟨_, rfl⟩
    rw [← hwr] at HI6 ⊢
    clear hwr
    obtain ⟨g, hga⟩ : ∃ g, xa = some ⟨g, 0, none⟩ := by
      obtain ⟨g, cap, e, _⟩ := OwnG.of HI6.out.ow (by rw [fullL_len]; omega)
      injection e with e1 e2 e3
      exact ⟨g, e1⟩
    subst hga
    obtain ⟨n, hn⟩ : ∃ n, n = xn := ⟨_, rfl⟩
    obtain ⟨cap, hcap⟩ : ∃ cap, cap = xc := ⟨_, rfl⟩
    rw [← hn] at HI6 HXN ⊢
    rw [← hcap] at HI6 ⊢
    clear hn hcap
    obtain ⟨l, hl⟩ : ∃ l, l = fullL 32 := ⟨_, rfl⟩
    have HS := Lib.hid (show StK w wr q 1099511627775 1048576 g n cap l by
      obtain ⟨g', cap', e, hG⟩ := OwnG.of HI6.out.ow (by rw [fullL_len]; omega)
      injection e with e1 e2 e3
      injection e1 with e1
      injection e1 with e1
      subst e1; subst e3; subst hl
      exact ⟨HI6.out.bx, e2, ⟨hG.own.base (by have := HI6.out.ge; omega), by have := hG.ge; have := HI6.out.ge; omega, hG.lt⟩, by have := hG.ge; omega, HI6.out.ge, HI6.out.bel⟩)
    obtain ⟨s0, hs0⟩ : ∃ s0, s0 = fullS 0 := ⟨_, rfl⟩
    have HL0 := Lib.hid (show ∃ h : 0 < l.length, l[0] = s0 by subst hl; exact ⟨by rw [fullL_len]; omega, by rw [hs0]; rfl⟩)
    have HLN := Lib.hid (show l.length ≤ 32 by rw [hl, fullL_len]; omega)
    have HMO := Lib.hid (show checkM ⟨1099511627775, 1048576, l ++ [s0]⟩ = some (-1) ∧ (∀ s ∈ l ++ [s0], SesOk s) by rw [hl, hs0]; exact ⟨full_more, full_ok2⟩)
    have hnp : 0 < n := by have := HXN.out; omega
    have hnp' : (0 : Int) < (n : Int) := by omega
    clear hl hs0 HI6 HGK
    have hc2 : wr.cell? ⟨q, 2, none⟩ = some (.slice (some ⟨g, 0, none⟩) n cap) := HS.out.bx.cell 2 _ rfl
    have hf2 := HS.out.bx.free 2
    have HC2 := Lib.hid (And.intro hc2 hf2)
    have HRW := Lib.hid (show wr.rangeAt g 0 s0.cells.toList from fun j v hv => by
      have hj : j < 12 := (List.getElem?_eq_some_iff.1 hv).1
      have h := HS.out.og.cell 0 j HL0.out.1 hj v (by rw [HL0.out.2]; exact hv)
      rw [Nat.zero_mul] at h; exact h)
    clear hc2 hf2
    go_wp2_with fail
    have HGQ := Lib.hid HS.out.ne
    refine wp_region_last 9 (F := fun W => Mod (fun i => i = g) wr W) (by kernel_rfl) (Mod.drew _ wr) (fun hHeld => ?_)
    refine wpAnyL_take (i := 0) (oi := ⟨some 65, _, _, _, _, _⟩) (v := ?_) rfl (by kernel_rfl) (by kernel_rfl) (by kernel_rfl) (by kernel_rfl) (fun _ _ _ h => h) (Or.inl ⟨by kernel_rfl, ?_⟩) (by assumption) ?_
    rotate_left 1
    · intro w' hw'; clear hw'; go_simp; try with_reducible rfl
    try simp only [Act.put, List.setIfInBounds_toArray, List.set_cons_zero, List.set_cons_succ]
    refine wpAnyL_take (i := 1) (oi := ⟨some 66, _, _, _, _, _⟩) (v := ?_) rfl (by kernel_rfl) (by kernel_rfl) (by kernel_rfl) (by kernel_rfl) (fun _ _ _ h => h) (Or.inl ⟨by kernel_rfl, ?_⟩) (by assumption) ?_
    rotate_left 1
    · intro w' hw'; have u1 := modCell hw' HC2.out.1 (fun e => HGQ.out e.symm); clear hw'; go_simp; try with_reducible rfl
    try simp only [Act.put, List.setIfInBounds_toArray, List.set_cons_zero, List.set_cons_succ]
    refine wpAnyL_take (i := 2) (oi := ⟨some 67, _, _, _, _, _⟩) (v := ?_) rfl (by kernel_rfl) (by kernel_rfl) (by kernel_rfl) (by kernel_rfl) (fun _ _ _ h => h) (Or.inl ⟨by kernel_rfl, ?_⟩) (by assumption) ?_
    rotate_left 1
    · intro w' hw'; clear hw'; go_simp; try with_reducible rfl
    try simp only [Act.put, List.setIfInBounds_toArray, List.set_cons_zero, List.set_cons_succ]
    refine wpAnyL_take (i := 3) (oi := ⟨some 68, _, _, _, _, _⟩) (v := ?_) rfl (by kernel_rfl) (by kernel_rfl) (by kernel_rfl) (by kernel_rfl) (fun _ _ _ h => h) (Or.inl ⟨by kernel_rfl, ?_⟩) (by assumption) ?_
    rotate_left 1
    · intro w' hw'; have u1 := modCell hw' HC2.out.1 (fun e => HGQ.out e.symm); clear hw'; go_simp; try with_reducible rfl
    try simp only [Act.put, List.setIfInBounds_toArray, List.set_cons_zero, List.set_cons_succ]
    refine wpAnyL_take (i := 4) (oi := ⟨some 69, _, _, _, _, _⟩) (v := ?_) rfl (by kernel_rfl) (by kernel_rfl) (by kernel_rfl) (by kernel_rfl) (fun _ _ _ h => h) (Or.inl ⟨by kernel_rfl, ?_⟩) (by assumption) ?_
    rotate_left 1
    · intro w' hw'; clear hw'; go_simp; try with_reducible rfl
    try simp only [Act.put, List.setIfInBounds_toArray, List.set_cons_zero, List.set_cons_succ]
    refine wpAnyL_ready (rs := [5]) (by kernel_rfl) (by simp) (AllReadyL.cons (o := ⟨some 70, .load _ _, _, _, _, _⟩) rfl (fun K hK => ?_) AllReadyL.nil)
    rw [if_pos (by kernel_rfl)]
    refine wp_load_m 56 (.tmp 69) rfl g 0 rfl s0.cells.toList _ (show wr.drew.rangeAt g 0 s0.cells.toList from HRW.out) Tryd.underlying56 rfl (by kernel_rfl) ?_
    refine hK.out _ _ hHeld (fun _ => ?_)
    clear hK K
    try simp only [Act.put, List.setIfInBounds_toArray, List.set_cons_zero, List.set_cons_succ]
    refine wpAnyL_ready (rs := [6]) (by kernel_rfl) (by simp) (AllReadyL.cons (o := ⟨some 71, .buildSlice _ 1 _, _, _, _, _⟩) rfl (fun K hK => ?_) AllReadyL.nil)
    rw [if_pos (by kernel_rfl)]
    refine wp_buildSes (.tmp 70) rfl s0 rfl ?_
    have hba := below_alloc wr.drew (.cells s0.cells 56)
    refine hK.out _ _ (hHeld.trans (Mod.alloc _ wr.drew (.cells s0.cells 56))) (fun hHeld2 => ?_)
    have HCQ := Lib.hid (show ∀ j u, s0.cells.toList[j]? = some u → (wr.drew.alloc (.cells s0.cells 56)).cell? ((⟨wr.drew.heap.size, 0, none⟩ : Addr).add j) = some u from newCells wr.drew s0 _)
    have HS2 := Lib.hid ((HS.out.below (below_drew wr)).below hba)
    clear hK K hba hHeld
    try simp only [Act.put, List.setIfInBounds_toArray, List.set_cons_zero, List.set_cons_succ]
    refine wpAnyL_ready (rs := [7]) (by kernel_rfl) (by simp) (AllReadyL.cons (o := ⟨some 72, .call _, _, _, _, _⟩) rfl (fun K hK => ?_) AllReadyL.nil)
    rw [if_pos (by kernel_rfl)]
    have hown := HS2.out.og.own
    rw [← HS2.out.nl] at hown
    refine wp_appSes (.tmp 66) (.tmp 71) rfl w.heap.size _ l rfl hown ⟨wr.drew.heap.size, 0, none⟩ 1 s0 rfl HCQ.out (by have := HLN.out; omega) HS2.out.bel.size ?_
    intro v' w7 hown' hg' hmv
    obtain ⟨g', cap', hve, hbx7, hst⟩ := HS2.out.app hg' hown' hmv (by rw [List.length_append]; simp)
    refine hK.out _ _ (hHeld2.trans (Mod.of_grown hg' (fun k hk => by have hk : some g = some k := hk; injection hk with hk; exact hk.symm))) (fun hHeld3 => ?_)
    subst hve
    obtain ⟨m, hm⟩ : ∃ m, m = (l ++ [s0]).length := ⟨_, rfl⟩
    rw [← hm] at hst ⊢
    clear hm
    have q2 : w7.cell? ⟨q, 2, none⟩ = some (.slice (some ⟨g, 0, none⟩) n cap) := hbx7.cell 2 _ rfl
    have r2 := hbx7.free 2
    have HST := Lib.hid hst
    clear hK K hown hown' hg' hmv hbx7 hst HCQ HS2 hHeld2 HS HRW HC2
    try simp only [Act.put, List.setIfInBounds_toArray, List.set_cons_zero, List.set_cons_succ]
    refine wpAnyL_take (i := 8) (oi := ⟨some 73, _, _, _, _, _⟩) (v := ?_) rfl (by kernel_rfl) (by kernel_rfl) (by kernel_rfl) (by kernel_rfl) (fun _ _ _ h => h) (Or.inl ⟨by kernel_rfl, ?_⟩) (by assumption) ?_
    rotate_left 1
    · intro w' hw'; clear hw'; go_simp; try with_reducible rfl
    try simp only [Act.put, List.setIfInBounds_toArray, List.set_cons_zero, List.set_cons_succ]
    refine wpAnyL_ready (rs := [9]) (by kernel_rfl) (by simp) (AllReadyL.last rfl (o := ⟨none, .store _ _ _, _, _, _, _⟩) rfl (fun K hK => ?_))
    go_simp
    refine hK.out _ _ ?_
    clear hK K q2 r2
    try simp only [Act.put, List.setIfInBounds_toArray, List.set_cons_zero, List.set_cons_succ]
    refine wpAnyL_done (by kernel_rfl) ?_ _
    generalize World.setCell w7 _ _ = wz at HST ⊢
    clear hHeld3
    have c0 : wz.cell? ⟨q, 0, none⟩ = some (.int .i64 1099511627775) := HST.out.bx.cell 0 _ rfl
    have c1 : wz.cell? ⟨q, 1, none⟩ = some (.int .i64 1048576) := HST.out.bx.cell 1 _ rfl
    have c2 : wz.cell? ⟨q, 2, none⟩ = some (.slice (some ⟨g', 0, none⟩) m cap') := HST.out.bx.cell 2 _ rfl
    go_wp2_with fail
    refine (show Calls _ _ #[.agg #[.int .i64 1099511627775, .int .i64 1048576, .slice (some ⟨g', 0, none⟩) m cap'], .int .i64 (-1)] wz _ from wrong_calls ⟨1099511627775, 1048576, l ++ [s0]⟩ _ (-1) wz HST.out.rd HMO.out.2 HMO.out.1 (HG.out.below HST.out.bel)).mono ?_
    rintro ev w9 ⟨rfl, hb⟩
    have HB9 := Lib.hid (HST.out.bel.trans (hb.mono HST.out.bel.size))
    clear hb HST c0 c1 c2
    go_wp2_with fail
    go_ret
    exact ⟨rfl, HB9.out⟩
end Go.Proofs.YtdaimaibnjkfbaaDoor
/-
  The law ImageKnown.
-/
namespace Go.Proofs.YtdaimaibnjkfbaaDoor
open Go.RowKit
set_option maxRecDepth 100000

theorem OwnG.base {w : World} {b b' g cap : Nat} {l : List SesM} (h : OwnG w b g cap l) (hb : b' ≤ b) : OwnG w b' g cap l := ⟨h.own.base hb, Nat.le_trans hb h.ge, h.lt⟩
theorem below_more {w w' : World} {o : Obj} (h : Below w.heap.size w w') : Below w.heap.size w (w'.alloc o) := h.trans ((below_alloc w' o).mono h.size)
def oneB : SesM := ⟨3, 2, 0, 0, 0, [97, 110, 110], [], 7, 1, 0, 301, 0⟩
def oneC : SesM := ⟨4, 2, 0, 0, 0, [97, 110, 110], [], 7, 1, 0, 301, 0⟩
def oneD : SesM := ⟨4, 1, 0, 0, 0, [97, 110, 110], [], 7, 1, 0, 301, 0⟩
theorem sesOk2 {a b : SesM} (ha : SesOk a) (hb : SesOk b) : ∀ s ∈ [a, b], SesOk s := fun s hs => by
  simp only [List.mem_cons, List.not_mem_nil, or_false] at hs
  rcases hs with rfl | rfl
  · exact ha
  · exact hb
theorem okS1 : SesOk oneS := oneS_ok oneS (List.mem_singleton.2 rfl)
theorem okS2 : SesOk oneB := ⟨by decide, by decide, by decide⟩
theorem okS3 : SesOk oneC := ⟨by decide, by decide, by decide⟩
theorem okS4 : SesOk oneD := ⟨by decide, by decide, by decide⟩
theorem okS5 : SesOk kidS := ⟨by decide, by decide, by decide⟩
theorem ckA1 : checkM ⟨301, 2, [oneS]⟩ = some 0 := by decide +kernel
theorem ckA2 : checkM ⟨-1, 2, [oneS]⟩ = some (-1) := by decide +kernel
theorem ckA3 : checkM ⟨300, 0, [oneS]⟩ = some 0 := by decide +kernel
theorem ckA4 : checkM ⟨300, 2, [oneS, oneS]⟩ = some 1 := by decide +kernel
theorem ckA5 : checkM ⟨300, 2, [oneS, oneB]⟩ = some 1 := by decide +kernel
theorem ckA6 : checkM ⟨300, 2, [oneS, oneD]⟩ = some 1 := by decide +kernel
theorem ckA7 : checkM ⟨300, 2, [oneS, oneC]⟩ = none := by decide +kernel
theorem ckTwo : checkM ⟨300, 2, [oneS, kidS]⟩ = none := by decide +kernel
theorem noSt_no : imgN ⟨0, 0, []⟩ = 0 := by decide +kernel
theorem noSt_img : imgM ⟨0, 0, []⟩ = [0, 0, 0] := by decide +kernel
def kid0 : SesM := ⟨4, 2, 3, 1, 1, [97, 110, 110], [116, 118], 8, 1, 0, 301, 1⟩
theorem okK0 : SesOk kid0 := ⟨by decide, by decide, by decide⟩
theorem ckK0 : checkM ⟨300, 2, [oneS, kid0]⟩ = some 1 := by decide +kernel
def kid1 : SesM := ⟨4, 2, 3, 1, 1, [97, 110, 110], [116, 118], 5, 1, 0, 302, 1⟩
theorem okK1 : SesOk kid1 := ⟨by decide, by decide, by decide⟩
theorem ckK1 : checkM ⟨300, 2, [oneS, kid1]⟩ = some 1 := by decide +kernel
def kid2 : SesM := ⟨4, 2, 3, 1, 1, [97, 110, 110], [116, 118], 5, 1, 0, 301, 2⟩
theorem okK2 : SesOk kid2 := ⟨by decide, by decide, by decide⟩
theorem ckK2 : checkM ⟨300, 2, [oneS, kid2]⟩ = some 1 := by decide +kernel
def kid3 : SesM := ⟨4, 2, 3, 1, 1, [97, 110, 110], [116, 118], 5, 2, 0, 301, 1⟩
theorem okK3 : SesOk kid3 := ⟨by decide, by decide, by decide⟩
theorem ckK3 : checkM ⟨300, 2, [oneS, kid3]⟩ = some 1 := by decide +kernel
def kid4 : SesM := ⟨4, 2, 3, 2, 1, [97, 110, 110], [116, 118], 5, 1, 0, 301, 1⟩
theorem okK4 : SesOk kid4 := ⟨by decide, by decide, by decide⟩
theorem ckK4 : checkM ⟨300, 2, [oneS, kid4]⟩ = some 1 := by decide +kernel
def kid5 : SesM := ⟨4, 2, 4, 1, 1, [97, 110, 110], [116, 118], 5, 1, 0, 301, 1⟩
theorem okK5 : SesOk kid5 := ⟨by decide, by decide, by decide⟩
theorem ckK5 : checkM ⟨300, 2, [oneS, kid5]⟩ = some 1 := by decide +kernel
def kid6 : SesM := ⟨4, 2, 3, 1, 1, [98, 111, 98], [116, 118], 5, 1, 0, 301, 1⟩
theorem okK6 : SesOk kid6 := ⟨by decide, by decide, by decide⟩
theorem ckK6 : checkM ⟨300, 2, [oneS, kid6]⟩ = some 1 := by decide +kernel
def kid7 : SesM := ⟨4, 2, 3, 1, 2, [97, 110, 110], [116, 118], 5, 1, 0, 301, 1⟩
theorem okK7 : SesOk kid7 := ⟨by decide, by decide, by decide⟩
theorem ckK7 : checkM ⟨300, 2, [oneS, kid7]⟩ = some 1 := by decide +kernel
def kid8 : SesM := ⟨4, 2, 3, 1, 1, [97, 110, 110], [116, 118], 5, 1, 301, 301, 1⟩
theorem okK8 : SesOk kid8 := ⟨by decide, by decide, by decide⟩
theorem ckK8 : checkM ⟨300, 2, [oneS, kid8]⟩ = some 1 := by decide +kernel
def kid9 : SesM := ⟨4, 3, 3, 1, 1, [97, 110, 110], [116, 118], 5, 1, 0, 301, 1⟩
theorem okK9 : SesOk kid9 := ⟨by decide, by decide, by decide⟩
theorem ckK9 : checkM ⟨300, 2, [oneS, kid9]⟩ = some 1 := by decide +kernel
theorem dec0 : decI [] = (2, noSt) := by kernel_rfl
theorem dec1 : decI [0, 0, 0, 0] = (3, noSt) := by kernel_rfl
theorem dec2 : decI [0, 0, 33] = (24, noSt) := by kernel_rfl
theorem dec3 : decI [0, 0, 1] = (2, noSt) := by kernel_rfl
theorem dec4 : decI [0, 128, 0] = (4, noSt) := by kernel_rfl
theorem dec5 : decI [0, 1] = (2, noSt) := by kernel_rfl
/-- The bytes that are asked. -/
structure KnB (w : World) (p : Nat) : Prop where
  x : Box w (p + 5) #[.slice none 0 0, .slice (some ⟨p + 0, 0, none⟩) 4 4, .slice (some ⟨p + 1, 0, none⟩) 3 3, .slice (some ⟨p + 2, 0, none⟩) 3 3, .slice (some ⟨p + 3, 0, none⟩) 3 3, .slice (some ⟨p + 4, 0, none⟩) 2 2] 34
  n : Box w (p + 6) #[.int .i64 2, .int .i64 3, .int .i64 24, .int .i64 2, .int .i64 4, .int .i64 2] 3
  r1 : Rd w (.slice (some ⟨p + 0, 0, none⟩) 4 4) 4 (List.map V8 [0, 0, 0, 0])
  r2 : Rd w (.slice (some ⟨p + 1, 0, none⟩) 3 3) 3 (List.map V8 [0, 0, 33])
  r3 : Rd w (.slice (some ⟨p + 2, 0, none⟩) 3 3) 3 (List.map V8 [0, 0, 1])
  r4 : Rd w (.slice (some ⟨p + 3, 0, none⟩) 3 3) 3 (List.map V8 [0, 128, 0])
  r5 : Rd w (.slice (some ⟨p + 4, 0, none⟩) 2 2) 2 (List.map V8 [0, 1])
theorem KnB.below {w w' : World} {p : Nat} (h : KnB w p) (hb : Below w.heap.size w w') : KnB w' p := ⟨h.x.below hb, h.n.below hb, h.r1.below hb, h.r2.below hb, h.r3.below hb, h.r4.below hb, h.r5.below hb⟩
theorem KnB.lit (w : World) : KnB (((((((w.alloc (.cells #[.int .u8 0, .int .u8 0, .int .u8 0, .int .u8 0] 5)).alloc (.cells #[.int .u8 0, .int .u8 0, .int .u8 33] 5)).alloc (.cells #[.int .u8 0, .int .u8 0, .int .u8 1] 5)).alloc (.cells #[.int .u8 0, .int .u8 128, .int .u8 0] 5)).alloc (.cells #[.int .u8 0, .int .u8 1] 5)).alloc (.cells #[.slice none 0 0, .slice (some ⟨w.heap.size + 0, 0, none⟩) 4 4, .slice (some ⟨w.heap.size + 1, 0, none⟩) 3 3, .slice (some ⟨w.heap.size + 2, 0, none⟩) 3 3, .slice (some ⟨w.heap.size + 3, 0, none⟩) 3 3, .slice (some ⟨w.heap.size + 4, 0, none⟩) 2 2] 34)).alloc (.cells #[.int .i64 2, .int .i64 3, .int .i64 24, .int .i64 2, .int .i64 4, .int .i64 2] 3)) w.heap.size := by
  have r1 := rd_lit w #[.int .u8 0, .int .u8 0, .int .u8 0, .int .u8 0] 5 [0, 0, 0, 0] rfl (by decide)
  have r2 := rd_lit (w.alloc (.cells #[.int .u8 0, .int .u8 0, .int .u8 0, .int .u8 0] 5)) #[.int .u8 0, .int .u8 0, .int .u8 33] 5 [0, 0, 33] rfl (by decide)
  have r3 := rd_lit ((w.alloc (.cells #[.int .u8 0, .int .u8 0, .int .u8 0, .int .u8 0] 5)).alloc (.cells #[.int .u8 0, .int .u8 0, .int .u8 33] 5)) #[.int .u8 0, .int .u8 0, .int .u8 1] 5 [0, 0, 1] rfl (by decide)
  have r4 := rd_lit (((w.alloc (.cells #[.int .u8 0, .int .u8 0, .int .u8 0, .int .u8 0] 5)).alloc (.cells #[.int .u8 0, .int .u8 0, .int .u8 33] 5)).alloc (.cells #[.int .u8 0, .int .u8 0, .int .u8 1] 5)) #[.int .u8 0, .int .u8 128, .int .u8 0] 5 [0, 128, 0] rfl (by decide)
  have r5 := rd_lit ((((w.alloc (.cells #[.int .u8 0, .int .u8 0, .int .u8 0, .int .u8 0] 5)).alloc (.cells #[.int .u8 0, .int .u8 0, .int .u8 33] 5)).alloc (.cells #[.int .u8 0, .int .u8 0, .int .u8 1] 5)).alloc (.cells #[.int .u8 0, .int .u8 128, .int .u8 0] 5)) #[.int .u8 0, .int .u8 1] 5 [0, 1] rfl (by decide)
  have x := Box.new (((((w.alloc (.cells #[.int .u8 0, .int .u8 0, .int .u8 0, .int .u8 0] 5)).alloc (.cells #[.int .u8 0, .int .u8 0, .int .u8 33] 5)).alloc (.cells #[.int .u8 0, .int .u8 0, .int .u8 1] 5)).alloc (.cells #[.int .u8 0, .int .u8 128, .int .u8 0] 5)).alloc (.cells #[.int .u8 0, .int .u8 1] 5)) #[.slice none 0 0, .slice (some ⟨w.heap.size + 0, 0, none⟩) 4 4, .slice (some ⟨w.heap.size + 1, 0, none⟩) 3 3, .slice (some ⟨w.heap.size + 2, 0, none⟩) 3 3, .slice (some ⟨w.heap.size + 3, 0, none⟩) 3 3, .slice (some ⟨w.heap.size + 4, 0, none⟩) 2 2] 34
  have n := Box.new ((((((w.alloc (.cells #[.int .u8 0, .int .u8 0, .int .u8 0, .int .u8 0] 5)).alloc (.cells #[.int .u8 0, .int .u8 0, .int .u8 33] 5)).alloc (.cells #[.int .u8 0, .int .u8 0, .int .u8 1] 5)).alloc (.cells #[.int .u8 0, .int .u8 128, .int .u8 0] 5)).alloc (.cells #[.int .u8 0, .int .u8 1] 5)).alloc (.cells #[.slice none 0 0, .slice (some ⟨w.heap.size + 0, 0, none⟩) 4 4, .slice (some ⟨w.heap.size + 1, 0, none⟩) 3 3, .slice (some ⟨w.heap.size + 2, 0, none⟩) 3 3, .slice (some ⟨w.heap.size + 3, 0, none⟩) 3 3, .slice (some ⟨w.heap.size + 4, 0, none⟩) 2 2] 34)) #[.int .i64 2, .int .i64 3, .int .i64 24, .int .i64 2, .int .i64 4, .int .i64 2] 3
  simp only [World.size_alloc] at r1 r2 r3 r4 r5 x n
  exact ⟨(x).below (below_alloc _ _), n, ((((((r1).below (below_alloc _ _)).below (below_alloc _ _)).below (below_alloc _ _)).below (below_alloc _ _)).below (below_alloc _ _)).below (below_alloc _ _), (((((r2).below (below_alloc _ _)).below (below_alloc _ _)).below (below_alloc _ _)).below (below_alloc _ _)).below (below_alloc _ _), ((((r3).below (below_alloc _ _)).below (below_alloc _ _)).below (below_alloc _ _)).below (below_alloc _ _), (((r4).below (below_alloc _ _)).below (below_alloc _ _)).below (below_alloc _ _), ((r5).below (below_alloc _ _)).below (below_alloc _ _)⟩
set_option maxHeartbeats 12800000 in
theorem imageKnown_calls (w : World) (hg : ErrType w) : Calls Tryd.prog 6 #[] w fun ev w' => ev = .returned (.bool true) ∧ Below w.heap.size w w' := by
  have HG := Lib.hid hg
  have HE := Lib.hid (fun w' => encImg_calls ⟨0, 0, []⟩ (.slice none 0 0) w' (Rd.nil w') (fun s hs => by cases hs))
  rw [noSt_no, noSt_img, show errV 0 = .nilIface from rfl] at HE
  clear hg
  go_enter Tryd.func6, Tryd.ntmps6
  go_wp2_with fail
  refine (HE.out w).mono ?_
  rintro ev w1 ⟨ob, rfl, ho, hb⟩
  have HB1 := Lib.hid hb
  have HO1 := Lib.hid ho.rd
  obtain ⟨oa, oc, rfl, _⟩ := ho.rd
  rw [show [(0 : UInt8), 0, 0].length = 3 from rfl] at HO1 ⊢
  clear ho hb HE
  go_wp2_with fail
  refine (worksIm_calls w1).mono ?_
  rintro ev w2 ⟨rfl, hb⟩
  have HB2 := Lib.hid (HB1.out.trans (hb.mono HB1.out.size))
  have HO2 := Lib.hid (HO1.out.below hb)
  clear hb HB1 HO1
  have hl1 := rd_lit w2 #[.int .u8 0, .int .u8 0, .int .u8 0] 5 [0, 0, 0] rfl (by decide)
  have hba := below_alloc w2 (.cells #[.int .u8 0, .int .u8 0, .int .u8 0] 5)
  have HSB := Lib.hid (sameBytes_calls _ _ [0, 0, 0] _ (HO2.out.below hba) hl1)
  have HB3 := Lib.hid (HB2.out.trans (hba.mono HB2.out.size))
  clear hl1 hba HB2 HO2
  go_wp2_with fail
  refine HSB.out.mono ?_
  rintro ev w3 ⟨rfl, k3, rfl⟩
  have HB4 := Lib.hid (HB3.out.trans ((below_drewN _ k3).mono HB3.out.size))
  generalize (World.drewN _ k3) = w4 at HB4 ⊢
  clear HB3 HSB
  go_wp2_with fail
  refine (oneG_calls w4).mono ?_
  rintro ev w5 ⟨g, rfl, ho, hb⟩
  have hb5 := HB4.out.trans (hb.mono HB4.out.size)
  have hba := below_alloc w5 (.cells #[.int .i64 301, .int .i64 2, .slice (some ⟨g, 0, none⟩) 1 1] 24)
  have HS := Lib.hid (show StK w (w5.alloc (.cells #[.int .i64 301, .int .i64 2, .slice (some ⟨g, 0, none⟩) 1 1] 24)) w5.heap.size 301 2 g 1 1 [oneS] from
    ⟨Box.new _ _ _, rfl, (ho.below hba).base HB4.out.size, by have := ho.lt; omega, hb5.size, hb5.trans (hba.mono hb5.size)⟩)
  clear ho hb hb5 hba HB4
  have c0 : (w5.alloc (.cells #[.int .i64 301, .int .i64 2, .slice (some ⟨g, 0, none⟩) 1 1] 24)).cell? ⟨w5.heap.size, 0, none⟩ = some (.int .i64 301) := HS.out.bx.cell 0 _ rfl
  have c1 : (w5.alloc (.cells #[.int .i64 301, .int .i64 2, .slice (some ⟨g, 0, none⟩) 1 1] 24)).cell? ⟨w5.heap.size, 1, none⟩ = some (.int .i64 2) := HS.out.bx.cell 1 _ rfl
  have c2 : (w5.alloc (.cells #[.int .i64 301, .int .i64 2, .slice (some ⟨g, 0, none⟩) 1 1] 24)).cell? ⟨w5.heap.size, 2, none⟩ = some (.slice (some ⟨g, 0, none⟩) 1 1) := HS.out.bx.cell 2 _ rfl
  go_wp2_with fail
  refine (show Calls _ _ #[.agg #[.int .i64 301, .int .i64 2, .slice (some ⟨g, 0, none⟩) 1 1], .int .i64 0] (w5.alloc (.cells #[.int .i64 301, .int .i64 2, .slice (some ⟨g, 0, none⟩) 1 1] 24)) _ from wrong_calls ⟨301, 2, [oneS]⟩ _ 0 _ HS.out.rd oneS_ok ckA1 (HG.out.below HS.out.bel)).mono ?_
  rintro ev v6 ⟨rfl, hb⟩
  have HS' := Lib.hid (HS.out.below hb)
  clear hb HS c0 c1 c2
  have HS := HS'
  clear HS'
  have d0 : v6.cell? ⟨w5.heap.size, 0, none⟩ = some (.int .i64 301) := HS.out.bx.cell 0 _ rfl
  have f0 := HS.out.bx.free 0
  have HS' := Lib.hid (HS.out.clock (-1))
  clear HS
  have HS := HS'
  clear HS'
  have c0 : (v6.setCell ⟨w5.heap.size, 0, none⟩ (.int .i64 (-1))).cell? ⟨w5.heap.size, 0, none⟩ = some (.int .i64 (-1)) := HS.out.bx.cell 0 _ rfl
  have c1 : (v6.setCell ⟨w5.heap.size, 0, none⟩ (.int .i64 (-1))).cell? ⟨w5.heap.size, 1, none⟩ = some (.int .i64 2) := HS.out.bx.cell 1 _ rfl
  have c2 : (v6.setCell ⟨w5.heap.size, 0, none⟩ (.int .i64 (-1))).cell? ⟨w5.heap.size, 2, none⟩ = some (.slice (some ⟨g, 0, none⟩) 1 1) := HS.out.bx.cell 2 _ rfl
  go_wp2_with fail
  refine (show Calls _ _ #[.agg #[.int .i64 (-1), .int .i64 2, .slice (some ⟨g, 0, none⟩) 1 1], .int .i64 (-1)] (v6.setCell ⟨w5.heap.size, 0, none⟩ (.int .i64 (-1))) _ from wrong_calls ⟨-1, 2, [oneS]⟩ _ (-1) _ HS.out.rd oneS_ok ckA2 (HG.out.below HS.out.bel)).mono ?_
  rintro ev v7 ⟨rfl, hb⟩
  have HS' := Lib.hid (HS.out.below hb)
  clear hb HS c0 c1 c2
  have HS := HS'
  clear HS'
  clear d0 f0
  go_wp2_with fail
  refine (oneG_calls v7).mono ?_
  rintro ev v8 ⟨v10, rfl, ho, hb⟩
  have HS' := Lib.hid (HS.out.below hb)
  have HON := Lib.hid (And.intro (ho.base HS.out.bel.size) (show v10 ≠ w5.heap.size by have := ho.ge; have := HS.out.bx.lt; omega))
  clear ho hb HS
  have HS := HS'
  clear HS'
  have c0 : v8.cell? ⟨w5.heap.size, 0, none⟩ = some (.int .i64 (-1)) := HS.out.bx.cell 0 _ rfl
  have c1 : v8.cell? ⟨w5.heap.size, 1, none⟩ = some (.int .i64 2) := HS.out.bx.cell 1 _ rfl
  have c2 : v8.cell? ⟨w5.heap.size, 2, none⟩ = some (.slice (some ⟨g, 0, none⟩) 1 1) := HS.out.bx.cell 2 _ rfl
  have f0 := HS.out.bx.free 0
  have f1 := HS.out.bx.free 1
  have f2 := HS.out.bx.free 2
  have HS' := Lib.hid (HS.out.put (c' := 300) (b' := 2) (n' := 1) HON.out.1 rfl HON.out.2)
  clear HS HON
  have HS := HS'
  clear HS'
  have d1 : (((v8.setCell ⟨w5.heap.size, 0, none⟩ (.int .i64 300)).setCell ⟨w5.heap.size, 1, none⟩ (.int .i64 2)).setCell ⟨w5.heap.size, 2, none⟩ (.slice (some ⟨v10, 0, none⟩) 1 1)).cell? ⟨w5.heap.size, 1, none⟩ = some (.int .i64 2) := HS.out.bx.cell 1 _ rfl
  have e1 := HS.out.bx.free 1
  have HS' := Lib.hid (HS.out.birth 0)
  clear HS
  have HS := HS'
  clear HS'
  have x0 : ((((v8.setCell ⟨w5.heap.size, 0, none⟩ (.int .i64 300)).setCell ⟨w5.heap.size, 1, none⟩ (.int .i64 2)).setCell ⟨w5.heap.size, 2, none⟩ (.slice (some ⟨v10, 0, none⟩) 1 1)).setCell ⟨w5.heap.size, 1, none⟩ (.int .i64 0)).cell? ⟨w5.heap.size, 0, none⟩ = some (.int .i64 300) := HS.out.bx.cell 0 _ rfl
  have x1 : ((((v8.setCell ⟨w5.heap.size, 0, none⟩ (.int .i64 300)).setCell ⟨w5.heap.size, 1, none⟩ (.int .i64 2)).setCell ⟨w5.heap.size, 2, none⟩ (.slice (some ⟨v10, 0, none⟩) 1 1)).setCell ⟨w5.heap.size, 1, none⟩ (.int .i64 0)).cell? ⟨w5.heap.size, 1, none⟩ = some (.int .i64 0) := HS.out.bx.cell 1 _ rfl
  have x2 : ((((v8.setCell ⟨w5.heap.size, 0, none⟩ (.int .i64 300)).setCell ⟨w5.heap.size, 1, none⟩ (.int .i64 2)).setCell ⟨w5.heap.size, 2, none⟩ (.slice (some ⟨v10, 0, none⟩) 1 1)).setCell ⟨w5.heap.size, 1, none⟩ (.int .i64 0)).cell? ⟨w5.heap.size, 2, none⟩ = some (.slice (some ⟨v10, 0, none⟩) 1 1) := HS.out.bx.cell 2 _ rfl
  go_wp2_with fail
  refine (show Calls _ _ #[.agg #[.int .i64 300, .int .i64 0, .slice (some ⟨v10, 0, none⟩) 1 1], .int .i64 0] ((((v8.setCell ⟨w5.heap.size, 0, none⟩ (.int .i64 300)).setCell ⟨w5.heap.size, 1, none⟩ (.int .i64 2)).setCell ⟨w5.heap.size, 2, none⟩ (.slice (some ⟨v10, 0, none⟩) 1 1)).setCell ⟨w5.heap.size, 1, none⟩ (.int .i64 0)) _ from wrong_calls ⟨300, 0, [oneS]⟩ _ 0 _ HS.out.rd oneS_ok ckA3 (HG.out.below HS.out.bel)).mono ?_
  rintro ev v11 ⟨rfl, hb⟩
  have HS' := Lib.hid (HS.out.below hb)
  clear hb HS c0 c1 c2 x0 x1 x2 f0 f1 f2 d1 e1
  have HS := HS'
  clear HS'
  go_wp2_with fail
  refine (oneG_calls v11).mono ?_
  rintro ev v12 ⟨v14, rfl, ho, hb⟩
  have HS' := Lib.hid (HS.out.below hb)
  have HON := Lib.hid (And.intro (ho.base HS.out.bel.size) (show v14 ≠ w5.heap.size by have := ho.ge; have := HS.out.bx.lt; omega))
  clear ho hb HS
  have HS := HS'
  clear HS'
  have c0 : v12.cell? ⟨w5.heap.size, 0, none⟩ = some (.int .i64 300) := HS.out.bx.cell 0 _ rfl
  have c1 : v12.cell? ⟨w5.heap.size, 1, none⟩ = some (.int .i64 0) := HS.out.bx.cell 1 _ rfl
  have c2 : v12.cell? ⟨w5.heap.size, 2, none⟩ = some (.slice (some ⟨v10, 0, none⟩) 1 1) := HS.out.bx.cell 2 _ rfl
  have f0 := HS.out.bx.free 0
  have f1 := HS.out.bx.free 1
  have f2 := HS.out.bx.free 2
  have HS' := Lib.hid (HS.out.put (c' := 300) (b' := 2) (n' := 1) HON.out.1 rfl HON.out.2)
  clear HS HON
  have HS := HS'
  clear HS'
  go_wp2_with fail
  generalize (((v12.setCell ⟨w5.heap.size, 0, none⟩ (.int .i64 300)).setCell ⟨w5.heap.size, 1, none⟩ (.int .i64 2)).setCell ⟨w5.heap.size, 2, none⟩ (.slice (some ⟨v14, 0, none⟩) 1 1)) = wr at HS ⊢
  clear c0 c1 c2 f0 f1 f2
  generalize w5.heap.size = q at HS ⊢
  generalize v14 = g at HS ⊢
  obtain ⟨n, hn⟩ : ∃ n, n = 1 := ⟨_, rfl⟩
  obtain ⟨cap, hcap⟩ : ∃ cap, cap = 1 := ⟨_, rfl⟩
  obtain ⟨l, hl⟩ : ∃ l, l = [oneS] := ⟨_, rfl⟩
  obtain ⟨s0, hs0⟩ : ∃ s0, s0 = oneS := ⟨_, rfl⟩
  have HS' := Lib.hid (show StK w wr q 300 2 g n cap l by rw [hn, hcap, hl]; exact HS.out)
  have HL0 := Lib.hid (show ∃ h : 0 < l.length, l[0] = s0 by subst hl; exact ⟨by decide, by rw [hs0]; rfl⟩)
  have HLN := Lib.hid (show l.length ≤ 32 by rw [hl]; decide)
  have HLS := Lib.hid (show l ++ [s0] = [oneS, oneS] by rw [hl, hs0]; rfl)
  have hnp : 0 < n := by omega
  have hnp' : (0 : Int) < (n : Int) := by omega
  clear HS hn hcap hl hs0
  have HS := HS'
  clear HS'
  have hc2 : wr.cell? ⟨q, 2, none⟩ = some (.slice (some ⟨g, 0, none⟩) n cap) := HS.out.bx.cell 2 _ rfl
  have hf2 := HS.out.bx.free 2
  have HC2 := Lib.hid (And.intro hc2 hf2)
  have HRW := Lib.hid (show wr.rangeAt g 0 s0.cells.toList from fun j v hv => by
    have hj : j < 12 := (List.getElem?_eq_some_iff.1 hv).1
    have h := HS.out.og.cell 0 j HL0.out.1 hj v (by rw [HL0.out.2]; exact hv)
    rw [Nat.zero_mul] at h; exact h)
  clear hc2 hf2
  go_wp2_with fail
  have HGQ := Lib.hid HS.out.ne
  refine wp_region_last 9 (F := fun W => Mod (fun i => i = g) wr W) (by kernel_rfl) (Mod.drew _ wr) (fun hHeld => ?_)
  refine wpAnyL_take (i := 0) (oi := ⟨some 45, _, _, _, _, _⟩) (v := ?_) rfl (by kernel_rfl) (by kernel_rfl) (by kernel_rfl) (by kernel_rfl) (fun _ _ _ h => h) (Or.inl ⟨by kernel_rfl, ?_⟩) (by assumption) ?_
  rotate_left 1
  · intro w' hw'; clear hw'; go_simp; try with_reducible rfl
  try simp only [Act.put, List.setIfInBounds_toArray, List.set_cons_zero, List.set_cons_succ]
  refine wpAnyL_take (i := 1) (oi := ⟨some 46, _, _, _, _, _⟩) (v := ?_) rfl (by kernel_rfl) (by kernel_rfl) (by kernel_rfl) (by kernel_rfl) (fun _ _ _ h => h) (Or.inl ⟨by kernel_rfl, ?_⟩) (by assumption) ?_
  rotate_left 1
  · intro w' hw'; have u1 := modCell hw' HC2.out.1 (fun e => HGQ.out e.symm); clear hw'; go_simp; try with_reducible rfl
  try simp only [Act.put, List.setIfInBounds_toArray, List.set_cons_zero, List.set_cons_succ]
  refine wpAnyL_take (i := 2) (oi := ⟨some 47, _, _, _, _, _⟩) (v := ?_) rfl (by kernel_rfl) (by kernel_rfl) (by kernel_rfl) (by kernel_rfl) (fun _ _ _ h => h) (Or.inl ⟨by kernel_rfl, ?_⟩) (by assumption) ?_
  rotate_left 1
  · intro w' hw'; clear hw'; go_simp; try with_reducible rfl
  try simp only [Act.put, List.setIfInBounds_toArray, List.set_cons_zero, List.set_cons_succ]
  refine wpAnyL_take (i := 3) (oi := ⟨some 48, _, _, _, _, _⟩) (v := ?_) rfl (by kernel_rfl) (by kernel_rfl) (by kernel_rfl) (by kernel_rfl) (fun _ _ _ h => h) (Or.inl ⟨by kernel_rfl, ?_⟩) (by assumption) ?_
  rotate_left 1
  · intro w' hw'; have u1 := modCell hw' HC2.out.1 (fun e => HGQ.out e.symm); clear hw'; go_simp; try with_reducible rfl
  try simp only [Act.put, List.setIfInBounds_toArray, List.set_cons_zero, List.set_cons_succ]
  refine wpAnyL_take (i := 4) (oi := ⟨some 49, _, _, _, _, _⟩) (v := ?_) rfl (by kernel_rfl) (by kernel_rfl) (by kernel_rfl) (by kernel_rfl) (fun _ _ _ h => h) (Or.inl ⟨by kernel_rfl, ?_⟩) (by assumption) ?_
  rotate_left 1
  · intro w' hw'; clear hw'; go_simp; try with_reducible rfl
  try simp only [Act.put, List.setIfInBounds_toArray, List.set_cons_zero, List.set_cons_succ]
  refine wpAnyL_ready (rs := [5]) (by kernel_rfl) (by simp) (AllReadyL.cons (o := ⟨some 50, .load _ _, _, _, _, _⟩) rfl (fun K hK => ?_) AllReadyL.nil)
  rw [if_pos (by kernel_rfl)]
  refine wp_load_m 56 (.tmp 49) rfl g 0 rfl s0.cells.toList _ (show wr.drew.rangeAt g 0 s0.cells.toList from HRW.out) Tryd.underlying56 rfl (by kernel_rfl) ?_
  refine hK.out _ _ hHeld (fun _ => ?_)
  clear hK K
  try simp only [Act.put, List.setIfInBounds_toArray, List.set_cons_zero, List.set_cons_succ]
  refine wpAnyL_ready (rs := [6]) (by kernel_rfl) (by simp) (AllReadyL.cons (o := ⟨some 51, .buildSlice _ 1 _, _, _, _, _⟩) rfl (fun K hK => ?_) AllReadyL.nil)
  rw [if_pos (by kernel_rfl)]
  refine wp_buildSes (.tmp 50) rfl s0 rfl ?_
  have hba := below_alloc wr.drew (.cells s0.cells 56)
  refine hK.out _ _ (hHeld.trans (Mod.alloc _ wr.drew (.cells s0.cells 56))) (fun hHeld2 => ?_)
  have HCQ := Lib.hid (show ∀ j u, s0.cells.toList[j]? = some u → (wr.drew.alloc (.cells s0.cells 56)).cell? ((⟨wr.drew.heap.size, 0, none⟩ : Addr).add j) = some u from newCells wr.drew s0 _)
  have HS2 := Lib.hid ((HS.out.below (below_drew wr)).below hba)
  clear hK K hba hHeld
  try simp only [Act.put, List.setIfInBounds_toArray, List.set_cons_zero, List.set_cons_succ]
  refine wpAnyL_ready (rs := [7]) (by kernel_rfl) (by simp) (AllReadyL.cons (o := ⟨some 52, .call _, _, _, _, _⟩) rfl (fun K hK => ?_) AllReadyL.nil)
  rw [if_pos (by kernel_rfl)]
  have hown := HS2.out.og.own
  rw [← HS2.out.nl] at hown
  refine wp_appSes (.tmp 46) (.tmp 51) rfl w.heap.size _ l rfl hown ⟨wr.drew.heap.size, 0, none⟩ 1 s0 rfl HCQ.out (by have := HLN.out; omega) HS2.out.bel.size ?_
  intro v' w7 hown' hg' hmv
  obtain ⟨g', cap', hve, hbx7, hst⟩ := HS2.out.app hg' hown' hmv (by rw [List.length_append]; simp)
  refine hK.out _ _ (hHeld2.trans (Mod.of_grown hg' (fun k hk => by have hk : some g = some k := hk; injection hk with hk; exact hk.symm))) (fun hHeld3 => ?_)
  subst hve
  obtain ⟨m, hm⟩ : ∃ m, m = (l ++ [s0]).length := ⟨_, rfl⟩
  rw [← hm] at hst ⊢
  clear hm
  have q2 : w7.cell? ⟨q, 2, none⟩ = some (.slice (some ⟨g, 0, none⟩) n cap) := hbx7.cell 2 _ rfl
  have r2 := hbx7.free 2
  have HST := Lib.hid hst
  clear hK K hown hown' hg' hmv hbx7 hst HCQ HS2 hHeld2 HS HRW HC2
  try simp only [Act.put, List.setIfInBounds_toArray, List.set_cons_zero, List.set_cons_succ]
  refine wpAnyL_take (i := 8) (oi := ⟨some 53, _, _, _, _, _⟩) (v := ?_) rfl (by kernel_rfl) (by kernel_rfl) (by kernel_rfl) (by kernel_rfl) (fun _ _ _ h => h) (Or.inl ⟨by kernel_rfl, ?_⟩) (by assumption) ?_
  rotate_left 1
  · intro w' hw'; clear hw'; go_simp; try with_reducible rfl
  try simp only [Act.put, List.setIfInBounds_toArray, List.set_cons_zero, List.set_cons_succ]
  refine wpAnyL_ready (rs := [9]) (by kernel_rfl) (by simp) (AllReadyL.last rfl (o := ⟨none, .store _ _ _, _, _, _, _⟩) rfl (fun K hK => ?_))
  go_simp
  refine hK.out _ _ ?_
  clear hK K q2 r2
  try simp only [Act.put, List.setIfInBounds_toArray, List.set_cons_zero, List.set_cons_succ]
  refine wpAnyL_done (by kernel_rfl) ?_ _
  generalize World.setCell w7 _ _ = wz at HST ⊢
  clear hHeld3
  have HS := Lib.hid (show StK w wz q 300 2 g' 2 cap' [oneS, oneS] by
    have h := HST.out
    have h2 := h.nl
    rw [HLS.out] at h h2
    have h3 : m = 2 := h2
    rw [h3] at h; exact h)
  clear HST HLS HL0 HLN hnp hnp' HGQ
  have c0 : wz.cell? ⟨q, 0, none⟩ = some (.int .i64 300) := HS.out.bx.cell 0 _ rfl
  have c1 : wz.cell? ⟨q, 1, none⟩ = some (.int .i64 2) := HS.out.bx.cell 1 _ rfl
  have c2 : wz.cell? ⟨q, 2, none⟩ = some (.slice (some ⟨g', 0, none⟩) 2 cap') := HS.out.bx.cell 2 _ rfl
  go_wp2_with fail
  refine (show Calls _ _ #[.agg #[.int .i64 300, .int .i64 2, .slice (some ⟨g', 0, none⟩) 2 cap'], .int .i64 1] wz _ from wrong_calls ⟨300, 2, [oneS, oneS]⟩ _ 1 _ HS.out.rd (sesOk2 okS1 okS1) ckA4 (HG.out.below HS.out.bel)).mono ?_
  rintro ev v15 ⟨rfl, hb⟩
  have HS' := Lib.hid (HS.out.below hb)
  clear hb HS c0 c1 c2
  have HS := HS'
  clear HS'
  have b2 : v15.cell? ⟨q, 2, none⟩ = some (.slice (some ⟨g', 0, none⟩) 2 cap') := HS.out.bx.cell 2 _ rfl
  have e1 : v15.cell? ⟨g', 13, none⟩ = some (.int .i64 1) := HS.out.og.cell 1 1 (by decide) (by decide) _ rfl
  have p1 := HS.out.og.free 13
  have HS' := Lib.hid (show StK w (v15.setCell ⟨g', 13, none⟩ (.int .i64 2)) q 300 2 g' 2 cap' [oneS, oneB] from HS.out.ses 1 1 (by decide) (by decide) (.int .i64 2) oneB rfl)
  clear HS
  have HS := HS'
  clear HS'
  have c0 : (v15.setCell ⟨g', 13, none⟩ (.int .i64 2)).cell? ⟨q, 0, none⟩ = some (.int .i64 300) := HS.out.bx.cell 0 _ rfl
  have c1 : (v15.setCell ⟨g', 13, none⟩ (.int .i64 2)).cell? ⟨q, 1, none⟩ = some (.int .i64 2) := HS.out.bx.cell 1 _ rfl
  have c2 : (v15.setCell ⟨g', 13, none⟩ (.int .i64 2)).cell? ⟨q, 2, none⟩ = some (.slice (some ⟨g', 0, none⟩) 2 cap') := HS.out.bx.cell 2 _ rfl
  go_wp2_with fail
  refine (show Calls _ _ #[.agg #[.int .i64 300, .int .i64 2, .slice (some ⟨g', 0, none⟩) 2 cap'], .int .i64 1] (v15.setCell ⟨g', 13, none⟩ (.int .i64 2)) _ from wrong_calls ⟨300, 2, [oneS, oneB]⟩ _ 1 _ HS.out.rd (sesOk2 okS1 okS2) ckA5 (HG.out.below HS.out.bel)).mono ?_
  rintro ev v16 ⟨rfl, hb⟩
  have HS' := Lib.hid (HS.out.below hb)
  clear hb HS c0 c1 c2
  have HS := HS'
  clear HS'
  clear b2 e1 p1
  have b2 : v16.cell? ⟨q, 2, none⟩ = some (.slice (some ⟨g', 0, none⟩) 2 cap') := HS.out.bx.cell 2 _ rfl
  have e0 : v16.cell? ⟨g', 12, none⟩ = some (.int .i64 3) := HS.out.og.cell 1 0 (by decide) (by decide) _ rfl
  have p0 := HS.out.og.free 12
  have HS' := Lib.hid (show StK w (v16.setCell ⟨g', 12, none⟩ (.int .i64 4)) q 300 2 g' 2 cap' [oneS, oneC] from HS.out.ses 1 0 (by decide) (by decide) (.int .i64 4) oneC rfl)
  clear HS
  have HS := HS'
  clear HS'
  have b3 : (v16.setCell ⟨g', 12, none⟩ (.int .i64 4)).cell? ⟨q, 2, none⟩ = some (.slice (some ⟨g', 0, none⟩) 2 cap') := HS.out.bx.cell 2 _ rfl
  have e1 : (v16.setCell ⟨g', 12, none⟩ (.int .i64 4)).cell? ⟨g', 13, none⟩ = some (.int .i64 2) := HS.out.og.cell 1 1 (by decide) (by decide) _ rfl
  have p1 := HS.out.og.free 13
  have HS' := Lib.hid (show StK w ((v16.setCell ⟨g', 12, none⟩ (.int .i64 4)).setCell ⟨g', 13, none⟩ (.int .i64 1)) q 300 2 g' 2 cap' [oneS, oneD] from HS.out.ses 1 1 (by decide) (by decide) (.int .i64 1) oneD rfl)
  clear HS
  have HS := HS'
  clear HS'
  have c0 : ((v16.setCell ⟨g', 12, none⟩ (.int .i64 4)).setCell ⟨g', 13, none⟩ (.int .i64 1)).cell? ⟨q, 0, none⟩ = some (.int .i64 300) := HS.out.bx.cell 0 _ rfl
  have c1 : ((v16.setCell ⟨g', 12, none⟩ (.int .i64 4)).setCell ⟨g', 13, none⟩ (.int .i64 1)).cell? ⟨q, 1, none⟩ = some (.int .i64 2) := HS.out.bx.cell 1 _ rfl
  have c2 : ((v16.setCell ⟨g', 12, none⟩ (.int .i64 4)).setCell ⟨g', 13, none⟩ (.int .i64 1)).cell? ⟨q, 2, none⟩ = some (.slice (some ⟨g', 0, none⟩) 2 cap') := HS.out.bx.cell 2 _ rfl
  go_wp2_with fail
  refine (show Calls _ _ #[.agg #[.int .i64 300, .int .i64 2, .slice (some ⟨g', 0, none⟩) 2 cap'], .int .i64 1] ((v16.setCell ⟨g', 12, none⟩ (.int .i64 4)).setCell ⟨g', 13, none⟩ (.int .i64 1)) _ from wrong_calls ⟨300, 2, [oneS, oneD]⟩ _ 1 _ HS.out.rd (sesOk2 okS1 okS4) ckA6 (HG.out.below HS.out.bel)).mono ?_
  rintro ev v17 ⟨rfl, hb⟩
  have HS' := Lib.hid (HS.out.below hb)
  clear hb HS c0 c1 c2
  have HS := HS'
  clear HS'
  clear b2 b3 e0 p0 e1 p1
  have b2 : v17.cell? ⟨q, 2, none⟩ = some (.slice (some ⟨g', 0, none⟩) 2 cap') := HS.out.bx.cell 2 _ rfl
  have e1 : v17.cell? ⟨g', 13, none⟩ = some (.int .i64 1) := HS.out.og.cell 1 1 (by decide) (by decide) _ rfl
  have p1 := HS.out.og.free 13
  have HS' := Lib.hid (show StK w (v17.setCell ⟨g', 13, none⟩ (.int .i64 2)) q 300 2 g' 2 cap' [oneS, oneC] from HS.out.ses 1 1 (by decide) (by decide) (.int .i64 2) oneC rfl)
  clear HS
  have HS := HS'
  clear HS'
  have c0 : (v17.setCell ⟨g', 13, none⟩ (.int .i64 2)).cell? ⟨q, 0, none⟩ = some (.int .i64 300) := HS.out.bx.cell 0 _ rfl
  have c1 : (v17.setCell ⟨g', 13, none⟩ (.int .i64 2)).cell? ⟨q, 1, none⟩ = some (.int .i64 2) := HS.out.bx.cell 1 _ rfl
  have c2 : (v17.setCell ⟨g', 13, none⟩ (.int .i64 2)).cell? ⟨q, 2, none⟩ = some (.slice (some ⟨g', 0, none⟩) 2 cap') := HS.out.bx.cell 2 _ rfl
  go_wp2_with fail
  refine (show Calls _ _ #[.agg #[.int .i64 300, .int .i64 2, .slice (some ⟨g', 0, none⟩) 2 cap']] (v17.setCell ⟨g', 13, none⟩ (.int .i64 2)) _ from check_calls ⟨300, 2, [oneS, oneC]⟩ _ _ HS.out.rd (sesOk2 okS1 okS3)).mono ?_
  rw [ckA7, show chkV none = .nilIface from rfl]
  rintro ev v18 ⟨rfl, hb⟩
  have HS' := Lib.hid (HS.out.below hb)
  clear hb HS c0 c1 c2 b2 e1 p1
  have HS := HS'
  clear HS'
  go_wp2_with fail
  refine (twoG_calls v18).mono ?_
  rintro ev v19 ⟨ga, capa, rfl, ho, hb⟩
  have HS' := Lib.hid (HS.out.below hb)
  have HOA := Lib.hid ho.own.rd
  clear hb HS ho
  have HS := HS'
  clear HS'
  go_wp2_with fail
  refine (show Calls _ _ #[.agg #[.int .i64 300, .int .i64 2, .slice (some ⟨ga, 0, none⟩) 2 capa]] v19 _ from check_calls ⟨300, 2, [oneS, kidS]⟩ _ _ HOA.out (sesOk2 okS1 okS5)).mono ?_
  rw [ckTwo, show chkV none = .nilIface from rfl]
  rintro ev v20 ⟨rfl, hb⟩
  have HS' := Lib.hid (HS.out.below hb)
  clear hb HS HOA
  have HS := HS'
  clear HS'
  go_wp2_with fail
  go_loopg [9] 10 (fun gk iv wr => ∃ (k : Nat) (c b : Int) (g n cap : Nat) (l : List SesM), gk + k = 10 ∧ iv = .int .i64 (k : Int) ∧ StK w wr q c b g n cap l)
  case atStart => exact ⟨0, _, _, _, _, _, _, rfl, rfl, HS.out⟩
  case round =>
    clear HS
    obtain ⟨k, c, b, g, n, cap, l, hgk, rfl, hS⟩ := hrel
    have k0 : (0 : Int) ≤ (k : Int) := by omega
    have HGK := Lib.hid hgk
    have HS := Lib.hid hS
    clear hgk hS
    by_cases hk : k < 10
    · have k1 : (k : Int) < 10 := by omega
      go_wp2_with fail
      refine (twoG_calls wr).mono ?_
      rintro ev u1 ⟨ga, capa, rfl, ho, hb⟩
      have HS' := Lib.hid (HS.out.below hb)
      have HON := Lib.hid (And.intro (ho.base HS.out.bel.size) (show ga ≠ q by have := ho.ge; have := HS.out.bx.lt; omega))
      clear ho hb HS
      have HS := HS'
      clear HS'
      have c0 : u1.cell? ⟨q, 0, none⟩ = some (.int .i64 c) := HS.out.bx.cell 0 _ rfl
      have c1 : u1.cell? ⟨q, 1, none⟩ = some (.int .i64 b) := HS.out.bx.cell 1 _ rfl
      have c2 : u1.cell? ⟨q, 2, none⟩ = some (.slice (some ⟨g, 0, none⟩) n cap) := HS.out.bx.cell 2 _ rfl
      have f0 := HS.out.bx.free 0
      have f1 := HS.out.bx.free 1
      have f2 := HS.out.bx.free 2
      have HS' := Lib.hid (HS.out.put (c' := 300) (b' := 2) (n' := 2) HON.out.1 rfl HON.out.2)
      clear HS HON
      have HS := HS'
      clear HS'
      have x2 : (((u1.setCell ⟨q, 0, none⟩ (.int .i64 300)).setCell ⟨q, 1, none⟩ (.int .i64 2)).setCell ⟨q, 2, none⟩ (.slice (some ⟨ga, 0, none⟩) 2 capa)).cell? ⟨q, 2, none⟩ = some (.slice (some ⟨ga, 0, none⟩) 2 capa) := HS.out.bx.cell 2 _ rfl
      have HK := Lib.hid hk
      clear hk
      by_cases hk0 : k = 0
      · subst hk0
        rw [show ((0 : Nat) : Int) = 0 from rfl]
        have e7 : (((u1.setCell ⟨q, 0, none⟩ (.int .i64 300)).setCell ⟨q, 1, none⟩ (.int .i64 2)).setCell ⟨q, 2, none⟩ (.slice (some ⟨ga, 0, none⟩) 2 capa)).cell? ⟨ga, 19, none⟩ = some (.int .u64 5) := HS.out.og.cell 1 7 (by decide) (by decide) _ rfl
        have p7 := HS.out.og.free 19
        have HS' := Lib.hid (show StK w ((((u1.setCell ⟨q, 0, none⟩ (.int .i64 300)).setCell ⟨q, 1, none⟩ (.int .i64 2)).setCell ⟨q, 2, none⟩ (.slice (some ⟨ga, 0, none⟩) 2 capa)).setCell ⟨ga, 19, none⟩ (.int .u64 8)) q 300 2 ga 2 capa [oneS, kid0] from HS.out.ses 1 7 (by decide) (by decide) (.int .u64 8) kid0 rfl)
        clear HS
        have HS := HS'
        clear HS'
        have z0 : ((((u1.setCell ⟨q, 0, none⟩ (.int .i64 300)).setCell ⟨q, 1, none⟩ (.int .i64 2)).setCell ⟨q, 2, none⟩ (.slice (some ⟨ga, 0, none⟩) 2 capa)).setCell ⟨ga, 19, none⟩ (.int .u64 8)).cell? ⟨q, 0, none⟩ = some (.int .i64 300) := HS.out.bx.cell 0 _ rfl
        have z1 : ((((u1.setCell ⟨q, 0, none⟩ (.int .i64 300)).setCell ⟨q, 1, none⟩ (.int .i64 2)).setCell ⟨q, 2, none⟩ (.slice (some ⟨ga, 0, none⟩) 2 capa)).setCell ⟨ga, 19, none⟩ (.int .u64 8)).cell? ⟨q, 1, none⟩ = some (.int .i64 2) := HS.out.bx.cell 1 _ rfl
        have z2 : ((((u1.setCell ⟨q, 0, none⟩ (.int .i64 300)).setCell ⟨q, 1, none⟩ (.int .i64 2)).setCell ⟨q, 2, none⟩ (.slice (some ⟨ga, 0, none⟩) 2 capa)).setCell ⟨ga, 19, none⟩ (.int .u64 8)).cell? ⟨q, 2, none⟩ = some (.slice (some ⟨ga, 0, none⟩) 2 capa) := HS.out.bx.cell 2 _ rfl
        go_wp2_with fail
        refine (show Calls _ _ #[.agg #[.int .i64 300, .int .i64 2, .slice (some ⟨ga, 0, none⟩) 2 capa], .int .i64 1] ((((u1.setCell ⟨q, 0, none⟩ (.int .i64 300)).setCell ⟨q, 1, none⟩ (.int .i64 2)).setCell ⟨q, 2, none⟩ (.slice (some ⟨ga, 0, none⟩) 2 capa)).setCell ⟨ga, 19, none⟩ (.int .u64 8)) _ from wrong_calls ⟨300, 2, [oneS, kid0]⟩ _ 1 _ HS.out.rd (sesOk2 okS1 okK0) ckK0 (HG.out.below HS.out.bel)).mono ?_
        rintro ev v21 ⟨rfl, hb⟩
        have HS' := Lib.hid (HS.out.below hb)
        clear hb HS z0 z1 z2
        have HS := HS'
        clear HS'
        go_wp2_with fail
        go_roundg (9)
        case measure => have := HGK.out; omega
        case rel => exact ⟨1, _, _, _, _, _, _, by have := HGK.out; omega, by first | rfl | go_num, HS.out⟩
      by_cases hk1 : k = 1
      · subst hk1
        rw [show ((1 : Nat) : Int) = 1 from rfl]
        have e10 : (((u1.setCell ⟨q, 0, none⟩ (.int .i64 300)).setCell ⟨q, 1, none⟩ (.int .i64 2)).setCell ⟨q, 2, none⟩ (.slice (some ⟨ga, 0, none⟩) 2 capa)).cell? ⟨ga, 22, none⟩ = some (.int .i64 301) := HS.out.og.cell 1 10 (by decide) (by decide) _ rfl
        have p10 := HS.out.og.free 22
        have HS' := Lib.hid (show StK w ((((u1.setCell ⟨q, 0, none⟩ (.int .i64 300)).setCell ⟨q, 1, none⟩ (.int .i64 2)).setCell ⟨q, 2, none⟩ (.slice (some ⟨ga, 0, none⟩) 2 capa)).setCell ⟨ga, 22, none⟩ (.int .i64 302)) q 300 2 ga 2 capa [oneS, kid1] from HS.out.ses 1 10 (by decide) (by decide) (.int .i64 302) kid1 rfl)
        clear HS
        have HS := HS'
        clear HS'
        have z0 : ((((u1.setCell ⟨q, 0, none⟩ (.int .i64 300)).setCell ⟨q, 1, none⟩ (.int .i64 2)).setCell ⟨q, 2, none⟩ (.slice (some ⟨ga, 0, none⟩) 2 capa)).setCell ⟨ga, 22, none⟩ (.int .i64 302)).cell? ⟨q, 0, none⟩ = some (.int .i64 300) := HS.out.bx.cell 0 _ rfl
        have z1 : ((((u1.setCell ⟨q, 0, none⟩ (.int .i64 300)).setCell ⟨q, 1, none⟩ (.int .i64 2)).setCell ⟨q, 2, none⟩ (.slice (some ⟨ga, 0, none⟩) 2 capa)).setCell ⟨ga, 22, none⟩ (.int .i64 302)).cell? ⟨q, 1, none⟩ = some (.int .i64 2) := HS.out.bx.cell 1 _ rfl
        have z2 : ((((u1.setCell ⟨q, 0, none⟩ (.int .i64 300)).setCell ⟨q, 1, none⟩ (.int .i64 2)).setCell ⟨q, 2, none⟩ (.slice (some ⟨ga, 0, none⟩) 2 capa)).setCell ⟨ga, 22, none⟩ (.int .i64 302)).cell? ⟨q, 2, none⟩ = some (.slice (some ⟨ga, 0, none⟩) 2 capa) := HS.out.bx.cell 2 _ rfl
        go_wp2_with fail
        refine (show Calls _ _ #[.agg #[.int .i64 300, .int .i64 2, .slice (some ⟨ga, 0, none⟩) 2 capa], .int .i64 1] ((((u1.setCell ⟨q, 0, none⟩ (.int .i64 300)).setCell ⟨q, 1, none⟩ (.int .i64 2)).setCell ⟨q, 2, none⟩ (.slice (some ⟨ga, 0, none⟩) 2 capa)).setCell ⟨ga, 22, none⟩ (.int .i64 302)) _ from wrong_calls ⟨300, 2, [oneS, kid1]⟩ _ 1 _ HS.out.rd (sesOk2 okS1 okK1) ckK1 (HG.out.below HS.out.bel)).mono ?_
        rintro ev v22 ⟨rfl, hb⟩
        have HS' := Lib.hid (HS.out.below hb)
        clear hb HS z0 z1 z2
        have HS := HS'
        clear HS'
        go_wp2_with fail
        go_roundg (8)
        case measure => have := HGK.out; omega
        case rel => exact ⟨2, _, _, _, _, _, _, by have := HGK.out; omega, by first | rfl | go_num, HS.out⟩
      by_cases hk2 : k = 2
      · subst hk2
        rw [show ((2 : Nat) : Int) = 2 from rfl]
        have e11 : (((u1.setCell ⟨q, 0, none⟩ (.int .i64 300)).setCell ⟨q, 1, none⟩ (.int .i64 2)).setCell ⟨q, 2, none⟩ (.slice (some ⟨ga, 0, none⟩) 2 capa)).cell? ⟨ga, 23, none⟩ = some (.int .i64 1) := HS.out.og.cell 1 11 (by decide) (by decide) _ rfl
        have p11 := HS.out.og.free 23
        have HS' := Lib.hid (show StK w ((((u1.setCell ⟨q, 0, none⟩ (.int .i64 300)).setCell ⟨q, 1, none⟩ (.int .i64 2)).setCell ⟨q, 2, none⟩ (.slice (some ⟨ga, 0, none⟩) 2 capa)).setCell ⟨ga, 23, none⟩ (.int .i64 2)) q 300 2 ga 2 capa [oneS, kid2] from HS.out.ses 1 11 (by decide) (by decide) (.int .i64 2) kid2 rfl)
        clear HS
        have HS := HS'
        clear HS'
        have z0 : ((((u1.setCell ⟨q, 0, none⟩ (.int .i64 300)).setCell ⟨q, 1, none⟩ (.int .i64 2)).setCell ⟨q, 2, none⟩ (.slice (some ⟨ga, 0, none⟩) 2 capa)).setCell ⟨ga, 23, none⟩ (.int .i64 2)).cell? ⟨q, 0, none⟩ = some (.int .i64 300) := HS.out.bx.cell 0 _ rfl
        have z1 : ((((u1.setCell ⟨q, 0, none⟩ (.int .i64 300)).setCell ⟨q, 1, none⟩ (.int .i64 2)).setCell ⟨q, 2, none⟩ (.slice (some ⟨ga, 0, none⟩) 2 capa)).setCell ⟨ga, 23, none⟩ (.int .i64 2)).cell? ⟨q, 1, none⟩ = some (.int .i64 2) := HS.out.bx.cell 1 _ rfl
        have z2 : ((((u1.setCell ⟨q, 0, none⟩ (.int .i64 300)).setCell ⟨q, 1, none⟩ (.int .i64 2)).setCell ⟨q, 2, none⟩ (.slice (some ⟨ga, 0, none⟩) 2 capa)).setCell ⟨ga, 23, none⟩ (.int .i64 2)).cell? ⟨q, 2, none⟩ = some (.slice (some ⟨ga, 0, none⟩) 2 capa) := HS.out.bx.cell 2 _ rfl
        go_wp2_with fail
        refine (show Calls _ _ #[.agg #[.int .i64 300, .int .i64 2, .slice (some ⟨ga, 0, none⟩) 2 capa], .int .i64 1] ((((u1.setCell ⟨q, 0, none⟩ (.int .i64 300)).setCell ⟨q, 1, none⟩ (.int .i64 2)).setCell ⟨q, 2, none⟩ (.slice (some ⟨ga, 0, none⟩) 2 capa)).setCell ⟨ga, 23, none⟩ (.int .i64 2)) _ from wrong_calls ⟨300, 2, [oneS, kid2]⟩ _ 1 _ HS.out.rd (sesOk2 okS1 okK2) ckK2 (HG.out.below HS.out.bel)).mono ?_
        rintro ev v23 ⟨rfl, hb⟩
        have HS' := Lib.hid (HS.out.below hb)
        clear hb HS z0 z1 z2
        have HS := HS'
        clear HS'
        go_wp2_with fail
        go_roundg (7)
        case measure => have := HGK.out; omega
        case rel => exact ⟨3, _, _, _, _, _, _, by have := HGK.out; omega, by first | rfl | go_num, HS.out⟩
      by_cases hk3 : k = 3
      · subst hk3
        rw [show ((3 : Nat) : Int) = 3 from rfl]
        have e8 : (((u1.setCell ⟨q, 0, none⟩ (.int .i64 300)).setCell ⟨q, 1, none⟩ (.int .i64 2)).setCell ⟨q, 2, none⟩ (.slice (some ⟨ga, 0, none⟩) 2 capa)).cell? ⟨ga, 20, none⟩ = some (.int .i64 1) := HS.out.og.cell 1 8 (by decide) (by decide) _ rfl
        have p8 := HS.out.og.free 20
        have HS' := Lib.hid (show StK w ((((u1.setCell ⟨q, 0, none⟩ (.int .i64 300)).setCell ⟨q, 1, none⟩ (.int .i64 2)).setCell ⟨q, 2, none⟩ (.slice (some ⟨ga, 0, none⟩) 2 capa)).setCell ⟨ga, 20, none⟩ (.int .i64 2)) q 300 2 ga 2 capa [oneS, kid3] from HS.out.ses 1 8 (by decide) (by decide) (.int .i64 2) kid3 rfl)
        clear HS
        have HS := HS'
        clear HS'
        have z0 : ((((u1.setCell ⟨q, 0, none⟩ (.int .i64 300)).setCell ⟨q, 1, none⟩ (.int .i64 2)).setCell ⟨q, 2, none⟩ (.slice (some ⟨ga, 0, none⟩) 2 capa)).setCell ⟨ga, 20, none⟩ (.int .i64 2)).cell? ⟨q, 0, none⟩ = some (.int .i64 300) := HS.out.bx.cell 0 _ rfl
        have z1 : ((((u1.setCell ⟨q, 0, none⟩ (.int .i64 300)).setCell ⟨q, 1, none⟩ (.int .i64 2)).setCell ⟨q, 2, none⟩ (.slice (some ⟨ga, 0, none⟩) 2 capa)).setCell ⟨ga, 20, none⟩ (.int .i64 2)).cell? ⟨q, 1, none⟩ = some (.int .i64 2) := HS.out.bx.cell 1 _ rfl
        have z2 : ((((u1.setCell ⟨q, 0, none⟩ (.int .i64 300)).setCell ⟨q, 1, none⟩ (.int .i64 2)).setCell ⟨q, 2, none⟩ (.slice (some ⟨ga, 0, none⟩) 2 capa)).setCell ⟨ga, 20, none⟩ (.int .i64 2)).cell? ⟨q, 2, none⟩ = some (.slice (some ⟨ga, 0, none⟩) 2 capa) := HS.out.bx.cell 2 _ rfl
        go_wp2_with fail
        refine (show Calls _ _ #[.agg #[.int .i64 300, .int .i64 2, .slice (some ⟨ga, 0, none⟩) 2 capa], .int .i64 1] ((((u1.setCell ⟨q, 0, none⟩ (.int .i64 300)).setCell ⟨q, 1, none⟩ (.int .i64 2)).setCell ⟨q, 2, none⟩ (.slice (some ⟨ga, 0, none⟩) 2 capa)).setCell ⟨ga, 20, none⟩ (.int .i64 2)) _ from wrong_calls ⟨300, 2, [oneS, kid3]⟩ _ 1 _ HS.out.rd (sesOk2 okS1 okK3) ckK3 (HG.out.below HS.out.bel)).mono ?_
        rintro ev v24 ⟨rfl, hb⟩
        have HS' := Lib.hid (HS.out.below hb)
        clear hb HS z0 z1 z2
        have HS := HS'
        clear HS'
        go_wp2_with fail
        go_roundg (6)
        case measure => have := HGK.out; omega
        case rel => exact ⟨4, _, _, _, _, _, _, by have := HGK.out; omega, by first | rfl | go_num, HS.out⟩
      by_cases hk4 : k = 4
      · subst hk4
        rw [show ((4 : Nat) : Int) = 4 from rfl]
        have e3 : (((u1.setCell ⟨q, 0, none⟩ (.int .i64 300)).setCell ⟨q, 1, none⟩ (.int .i64 2)).setCell ⟨q, 2, none⟩ (.slice (some ⟨ga, 0, none⟩) 2 capa)).cell? ⟨ga, 15, none⟩ = some (.int .i64 1) := HS.out.og.cell 1 3 (by decide) (by decide) _ rfl
        have p3 := HS.out.og.free 15
        have HS' := Lib.hid (show StK w ((((u1.setCell ⟨q, 0, none⟩ (.int .i64 300)).setCell ⟨q, 1, none⟩ (.int .i64 2)).setCell ⟨q, 2, none⟩ (.slice (some ⟨ga, 0, none⟩) 2 capa)).setCell ⟨ga, 15, none⟩ (.int .i64 2)) q 300 2 ga 2 capa [oneS, kid4] from HS.out.ses 1 3 (by decide) (by decide) (.int .i64 2) kid4 rfl)
        clear HS
        have HS := HS'
        clear HS'
        have z0 : ((((u1.setCell ⟨q, 0, none⟩ (.int .i64 300)).setCell ⟨q, 1, none⟩ (.int .i64 2)).setCell ⟨q, 2, none⟩ (.slice (some ⟨ga, 0, none⟩) 2 capa)).setCell ⟨ga, 15, none⟩ (.int .i64 2)).cell? ⟨q, 0, none⟩ = some (.int .i64 300) := HS.out.bx.cell 0 _ rfl
        have z1 : ((((u1.setCell ⟨q, 0, none⟩ (.int .i64 300)).setCell ⟨q, 1, none⟩ (.int .i64 2)).setCell ⟨q, 2, none⟩ (.slice (some ⟨ga, 0, none⟩) 2 capa)).setCell ⟨ga, 15, none⟩ (.int .i64 2)).cell? ⟨q, 1, none⟩ = some (.int .i64 2) := HS.out.bx.cell 1 _ rfl
        have z2 : ((((u1.setCell ⟨q, 0, none⟩ (.int .i64 300)).setCell ⟨q, 1, none⟩ (.int .i64 2)).setCell ⟨q, 2, none⟩ (.slice (some ⟨ga, 0, none⟩) 2 capa)).setCell ⟨ga, 15, none⟩ (.int .i64 2)).cell? ⟨q, 2, none⟩ = some (.slice (some ⟨ga, 0, none⟩) 2 capa) := HS.out.bx.cell 2 _ rfl
        go_wp2_with fail
        refine (show Calls _ _ #[.agg #[.int .i64 300, .int .i64 2, .slice (some ⟨ga, 0, none⟩) 2 capa], .int .i64 1] ((((u1.setCell ⟨q, 0, none⟩ (.int .i64 300)).setCell ⟨q, 1, none⟩ (.int .i64 2)).setCell ⟨q, 2, none⟩ (.slice (some ⟨ga, 0, none⟩) 2 capa)).setCell ⟨ga, 15, none⟩ (.int .i64 2)) _ from wrong_calls ⟨300, 2, [oneS, kid4]⟩ _ 1 _ HS.out.rd (sesOk2 okS1 okK4) ckK4 (HG.out.below HS.out.bel)).mono ?_
        rintro ev v25 ⟨rfl, hb⟩
        have HS' := Lib.hid (HS.out.below hb)
        clear hb HS z0 z1 z2
        have HS := HS'
        clear HS'
        go_wp2_with fail
        go_roundg (5)
        case measure => have := HGK.out; omega
        case rel => exact ⟨5, _, _, _, _, _, _, by have := HGK.out; omega, by first | rfl | go_num, HS.out⟩
      by_cases hk5 : k = 5
      · subst hk5
        rw [show ((5 : Nat) : Int) = 5 from rfl]
        have e2 : (((u1.setCell ⟨q, 0, none⟩ (.int .i64 300)).setCell ⟨q, 1, none⟩ (.int .i64 2)).setCell ⟨q, 2, none⟩ (.slice (some ⟨ga, 0, none⟩) 2 capa)).cell? ⟨ga, 14, none⟩ = some (.int .i64 3) := HS.out.og.cell 1 2 (by decide) (by decide) _ rfl
        have p2 := HS.out.og.free 14
        have HS' := Lib.hid (show StK w ((((u1.setCell ⟨q, 0, none⟩ (.int .i64 300)).setCell ⟨q, 1, none⟩ (.int .i64 2)).setCell ⟨q, 2, none⟩ (.slice (some ⟨ga, 0, none⟩) 2 capa)).setCell ⟨ga, 14, none⟩ (.int .i64 4)) q 300 2 ga 2 capa [oneS, kid5] from HS.out.ses 1 2 (by decide) (by decide) (.int .i64 4) kid5 rfl)
        clear HS
        have HS := HS'
        clear HS'
        have z0 : ((((u1.setCell ⟨q, 0, none⟩ (.int .i64 300)).setCell ⟨q, 1, none⟩ (.int .i64 2)).setCell ⟨q, 2, none⟩ (.slice (some ⟨ga, 0, none⟩) 2 capa)).setCell ⟨ga, 14, none⟩ (.int .i64 4)).cell? ⟨q, 0, none⟩ = some (.int .i64 300) := HS.out.bx.cell 0 _ rfl
        have z1 : ((((u1.setCell ⟨q, 0, none⟩ (.int .i64 300)).setCell ⟨q, 1, none⟩ (.int .i64 2)).setCell ⟨q, 2, none⟩ (.slice (some ⟨ga, 0, none⟩) 2 capa)).setCell ⟨ga, 14, none⟩ (.int .i64 4)).cell? ⟨q, 1, none⟩ = some (.int .i64 2) := HS.out.bx.cell 1 _ rfl
        have z2 : ((((u1.setCell ⟨q, 0, none⟩ (.int .i64 300)).setCell ⟨q, 1, none⟩ (.int .i64 2)).setCell ⟨q, 2, none⟩ (.slice (some ⟨ga, 0, none⟩) 2 capa)).setCell ⟨ga, 14, none⟩ (.int .i64 4)).cell? ⟨q, 2, none⟩ = some (.slice (some ⟨ga, 0, none⟩) 2 capa) := HS.out.bx.cell 2 _ rfl
        go_wp2_with fail
        refine (show Calls _ _ #[.agg #[.int .i64 300, .int .i64 2, .slice (some ⟨ga, 0, none⟩) 2 capa], .int .i64 1] ((((u1.setCell ⟨q, 0, none⟩ (.int .i64 300)).setCell ⟨q, 1, none⟩ (.int .i64 2)).setCell ⟨q, 2, none⟩ (.slice (some ⟨ga, 0, none⟩) 2 capa)).setCell ⟨ga, 14, none⟩ (.int .i64 4)) _ from wrong_calls ⟨300, 2, [oneS, kid5]⟩ _ 1 _ HS.out.rd (sesOk2 okS1 okK5) ckK5 (HG.out.below HS.out.bel)).mono ?_
        rintro ev v26 ⟨rfl, hb⟩
        have HS' := Lib.hid (HS.out.below hb)
        clear hb HS z0 z1 z2
        have HS := HS'
        clear HS'
        go_wp2_with fail
        go_roundg (4)
        case measure => have := HGK.out; omega
        case rel => exact ⟨6, _, _, _, _, _, _, by have := HGK.out; omega, by first | rfl | go_num, HS.out⟩
      by_cases hk6 : k = 6
      · subst hk6
        rw [show ((6 : Nat) : Int) = 6 from rfl]
        have e5 : (((u1.setCell ⟨q, 0, none⟩ (.int .i64 300)).setCell ⟨q, 1, none⟩ (.int .i64 2)).setCell ⟨q, 2, none⟩ (.slice (some ⟨ga, 0, none⟩) 2 capa)).cell? ⟨ga, 17, none⟩ = some (.string (SB [97, 110, 110])) := HS.out.og.cell 1 5 (by decide) (by decide) _ rfl
        have p5 := HS.out.og.free 17
        have HS' := Lib.hid (show StK w ((((u1.setCell ⟨q, 0, none⟩ (.int .i64 300)).setCell ⟨q, 1, none⟩ (.int .i64 2)).setCell ⟨q, 2, none⟩ (.slice (some ⟨ga, 0, none⟩) 2 capa)).setCell ⟨ga, 17, none⟩ (.string ⟨#[98, 111, 98]⟩)) q 300 2 ga 2 capa [oneS, kid6] from HS.out.ses 1 5 (by decide) (by decide) (.string ⟨#[98, 111, 98]⟩) kid6 rfl)
        clear HS
        have HS := HS'
        clear HS'
        have z0 : ((((u1.setCell ⟨q, 0, none⟩ (.int .i64 300)).setCell ⟨q, 1, none⟩ (.int .i64 2)).setCell ⟨q, 2, none⟩ (.slice (some ⟨ga, 0, none⟩) 2 capa)).setCell ⟨ga, 17, none⟩ (.string ⟨#[98, 111, 98]⟩)).cell? ⟨q, 0, none⟩ = some (.int .i64 300) := HS.out.bx.cell 0 _ rfl
        have z1 : ((((u1.setCell ⟨q, 0, none⟩ (.int .i64 300)).setCell ⟨q, 1, none⟩ (.int .i64 2)).setCell ⟨q, 2, none⟩ (.slice (some ⟨ga, 0, none⟩) 2 capa)).setCell ⟨ga, 17, none⟩ (.string ⟨#[98, 111, 98]⟩)).cell? ⟨q, 1, none⟩ = some (.int .i64 2) := HS.out.bx.cell 1 _ rfl
        have z2 : ((((u1.setCell ⟨q, 0, none⟩ (.int .i64 300)).setCell ⟨q, 1, none⟩ (.int .i64 2)).setCell ⟨q, 2, none⟩ (.slice (some ⟨ga, 0, none⟩) 2 capa)).setCell ⟨ga, 17, none⟩ (.string ⟨#[98, 111, 98]⟩)).cell? ⟨q, 2, none⟩ = some (.slice (some ⟨ga, 0, none⟩) 2 capa) := HS.out.bx.cell 2 _ rfl
        go_wp2_with fail
        refine (show Calls _ _ #[.agg #[.int .i64 300, .int .i64 2, .slice (some ⟨ga, 0, none⟩) 2 capa], .int .i64 1] ((((u1.setCell ⟨q, 0, none⟩ (.int .i64 300)).setCell ⟨q, 1, none⟩ (.int .i64 2)).setCell ⟨q, 2, none⟩ (.slice (some ⟨ga, 0, none⟩) 2 capa)).setCell ⟨ga, 17, none⟩ (.string ⟨#[98, 111, 98]⟩)) _ from wrong_calls ⟨300, 2, [oneS, kid6]⟩ _ 1 _ HS.out.rd (sesOk2 okS1 okK6) ckK6 (HG.out.below HS.out.bel)).mono ?_
        rintro ev v27 ⟨rfl, hb⟩
        have HS' := Lib.hid (HS.out.below hb)
        clear hb HS z0 z1 z2
        have HS := HS'
        clear HS'
        go_wp2_with fail
        go_roundg (3)
        case measure => have := HGK.out; omega
        case rel => exact ⟨7, _, _, _, _, _, _, by have := HGK.out; omega, by first | rfl | go_num, HS.out⟩
      by_cases hk7 : k = 7
      · subst hk7
        rw [show ((7 : Nat) : Int) = 7 from rfl]
        have e4 : (((u1.setCell ⟨q, 0, none⟩ (.int .i64 300)).setCell ⟨q, 1, none⟩ (.int .i64 2)).setCell ⟨q, 2, none⟩ (.slice (some ⟨ga, 0, none⟩) 2 capa)).cell? ⟨ga, 16, none⟩ = some (.int .i64 1) := HS.out.og.cell 1 4 (by decide) (by decide) _ rfl
        have p4 := HS.out.og.free 16
        have HS' := Lib.hid (show StK w ((((u1.setCell ⟨q, 0, none⟩ (.int .i64 300)).setCell ⟨q, 1, none⟩ (.int .i64 2)).setCell ⟨q, 2, none⟩ (.slice (some ⟨ga, 0, none⟩) 2 capa)).setCell ⟨ga, 16, none⟩ (.int .i64 2)) q 300 2 ga 2 capa [oneS, kid7] from HS.out.ses 1 4 (by decide) (by decide) (.int .i64 2) kid7 rfl)
        clear HS
        have HS := HS'
        clear HS'
        have z0 : ((((u1.setCell ⟨q, 0, none⟩ (.int .i64 300)).setCell ⟨q, 1, none⟩ (.int .i64 2)).setCell ⟨q, 2, none⟩ (.slice (some ⟨ga, 0, none⟩) 2 capa)).setCell ⟨ga, 16, none⟩ (.int .i64 2)).cell? ⟨q, 0, none⟩ = some (.int .i64 300) := HS.out.bx.cell 0 _ rfl
        have z1 : ((((u1.setCell ⟨q, 0, none⟩ (.int .i64 300)).setCell ⟨q, 1, none⟩ (.int .i64 2)).setCell ⟨q, 2, none⟩ (.slice (some ⟨ga, 0, none⟩) 2 capa)).setCell ⟨ga, 16, none⟩ (.int .i64 2)).cell? ⟨q, 1, none⟩ = some (.int .i64 2) := HS.out.bx.cell 1 _ rfl
        have z2 : ((((u1.setCell ⟨q, 0, none⟩ (.int .i64 300)).setCell ⟨q, 1, none⟩ (.int .i64 2)).setCell ⟨q, 2, none⟩ (.slice (some ⟨ga, 0, none⟩) 2 capa)).setCell ⟨ga, 16, none⟩ (.int .i64 2)).cell? ⟨q, 2, none⟩ = some (.slice (some ⟨ga, 0, none⟩) 2 capa) := HS.out.bx.cell 2 _ rfl
        go_wp2_with fail
        refine (show Calls _ _ #[.agg #[.int .i64 300, .int .i64 2, .slice (some ⟨ga, 0, none⟩) 2 capa], .int .i64 1] ((((u1.setCell ⟨q, 0, none⟩ (.int .i64 300)).setCell ⟨q, 1, none⟩ (.int .i64 2)).setCell ⟨q, 2, none⟩ (.slice (some ⟨ga, 0, none⟩) 2 capa)).setCell ⟨ga, 16, none⟩ (.int .i64 2)) _ from wrong_calls ⟨300, 2, [oneS, kid7]⟩ _ 1 _ HS.out.rd (sesOk2 okS1 okK7) ckK7 (HG.out.below HS.out.bel)).mono ?_
        rintro ev v28 ⟨rfl, hb⟩
        have HS' := Lib.hid (HS.out.below hb)
        clear hb HS z0 z1 z2
        have HS := HS'
        clear HS'
        go_wp2_with fail
        go_roundg (2)
        case measure => have := HGK.out; omega
        case rel => exact ⟨8, _, _, _, _, _, _, by have := HGK.out; omega, by first | rfl | go_num, HS.out⟩
      by_cases hk8 : k = 8
      · subst hk8
        rw [show ((8 : Nat) : Int) = 8 from rfl]
        have e9 : (((u1.setCell ⟨q, 0, none⟩ (.int .i64 300)).setCell ⟨q, 1, none⟩ (.int .i64 2)).setCell ⟨q, 2, none⟩ (.slice (some ⟨ga, 0, none⟩) 2 capa)).cell? ⟨ga, 21, none⟩ = some (.int .i64 0) := HS.out.og.cell 1 9 (by decide) (by decide) _ rfl
        have p9 := HS.out.og.free 21
        have HS' := Lib.hid (show StK w ((((u1.setCell ⟨q, 0, none⟩ (.int .i64 300)).setCell ⟨q, 1, none⟩ (.int .i64 2)).setCell ⟨q, 2, none⟩ (.slice (some ⟨ga, 0, none⟩) 2 capa)).setCell ⟨ga, 21, none⟩ (.int .i64 301)) q 300 2 ga 2 capa [oneS, kid8] from HS.out.ses 1 9 (by decide) (by decide) (.int .i64 301) kid8 rfl)
        clear HS
        have HS := HS'
        clear HS'
        have z0 : ((((u1.setCell ⟨q, 0, none⟩ (.int .i64 300)).setCell ⟨q, 1, none⟩ (.int .i64 2)).setCell ⟨q, 2, none⟩ (.slice (some ⟨ga, 0, none⟩) 2 capa)).setCell ⟨ga, 21, none⟩ (.int .i64 301)).cell? ⟨q, 0, none⟩ = some (.int .i64 300) := HS.out.bx.cell 0 _ rfl
        have z1 : ((((u1.setCell ⟨q, 0, none⟩ (.int .i64 300)).setCell ⟨q, 1, none⟩ (.int .i64 2)).setCell ⟨q, 2, none⟩ (.slice (some ⟨ga, 0, none⟩) 2 capa)).setCell ⟨ga, 21, none⟩ (.int .i64 301)).cell? ⟨q, 1, none⟩ = some (.int .i64 2) := HS.out.bx.cell 1 _ rfl
        have z2 : ((((u1.setCell ⟨q, 0, none⟩ (.int .i64 300)).setCell ⟨q, 1, none⟩ (.int .i64 2)).setCell ⟨q, 2, none⟩ (.slice (some ⟨ga, 0, none⟩) 2 capa)).setCell ⟨ga, 21, none⟩ (.int .i64 301)).cell? ⟨q, 2, none⟩ = some (.slice (some ⟨ga, 0, none⟩) 2 capa) := HS.out.bx.cell 2 _ rfl
        go_wp2_with fail
        refine (show Calls _ _ #[.agg #[.int .i64 300, .int .i64 2, .slice (some ⟨ga, 0, none⟩) 2 capa], .int .i64 1] ((((u1.setCell ⟨q, 0, none⟩ (.int .i64 300)).setCell ⟨q, 1, none⟩ (.int .i64 2)).setCell ⟨q, 2, none⟩ (.slice (some ⟨ga, 0, none⟩) 2 capa)).setCell ⟨ga, 21, none⟩ (.int .i64 301)) _ from wrong_calls ⟨300, 2, [oneS, kid8]⟩ _ 1 _ HS.out.rd (sesOk2 okS1 okK8) ckK8 (HG.out.below HS.out.bel)).mono ?_
        rintro ev v29 ⟨rfl, hb⟩
        have HS' := Lib.hid (HS.out.below hb)
        clear hb HS z0 z1 z2
        have HS := HS'
        clear HS'
        go_wp2_with fail
        go_roundg (1)
        case measure => have := HGK.out; omega
        case rel => exact ⟨9, _, _, _, _, _, _, by have := HGK.out; omega, by first | rfl | go_num, HS.out⟩
      obtain rfl : k = 9 := by have := HK.out; omega
      rw [show ((9 : Nat) : Int) = 9 from rfl]
      have e1 : (((u1.setCell ⟨q, 0, none⟩ (.int .i64 300)).setCell ⟨q, 1, none⟩ (.int .i64 2)).setCell ⟨q, 2, none⟩ (.slice (some ⟨ga, 0, none⟩) 2 capa)).cell? ⟨ga, 13, none⟩ = some (.int .i64 2) := HS.out.og.cell 1 1 (by decide) (by decide) _ rfl
      have p1 := HS.out.og.free 13
      have HS' := Lib.hid (show StK w ((((u1.setCell ⟨q, 0, none⟩ (.int .i64 300)).setCell ⟨q, 1, none⟩ (.int .i64 2)).setCell ⟨q, 2, none⟩ (.slice (some ⟨ga, 0, none⟩) 2 capa)).setCell ⟨ga, 13, none⟩ (.int .i64 3)) q 300 2 ga 2 capa [oneS, kid9] from HS.out.ses 1 1 (by decide) (by decide) (.int .i64 3) kid9 rfl)
      clear HS
      have HS := HS'
      clear HS'
      have z0 : ((((u1.setCell ⟨q, 0, none⟩ (.int .i64 300)).setCell ⟨q, 1, none⟩ (.int .i64 2)).setCell ⟨q, 2, none⟩ (.slice (some ⟨ga, 0, none⟩) 2 capa)).setCell ⟨ga, 13, none⟩ (.int .i64 3)).cell? ⟨q, 0, none⟩ = some (.int .i64 300) := HS.out.bx.cell 0 _ rfl
      have z1 : ((((u1.setCell ⟨q, 0, none⟩ (.int .i64 300)).setCell ⟨q, 1, none⟩ (.int .i64 2)).setCell ⟨q, 2, none⟩ (.slice (some ⟨ga, 0, none⟩) 2 capa)).setCell ⟨ga, 13, none⟩ (.int .i64 3)).cell? ⟨q, 1, none⟩ = some (.int .i64 2) := HS.out.bx.cell 1 _ rfl
      have z2 : ((((u1.setCell ⟨q, 0, none⟩ (.int .i64 300)).setCell ⟨q, 1, none⟩ (.int .i64 2)).setCell ⟨q, 2, none⟩ (.slice (some ⟨ga, 0, none⟩) 2 capa)).setCell ⟨ga, 13, none⟩ (.int .i64 3)).cell? ⟨q, 2, none⟩ = some (.slice (some ⟨ga, 0, none⟩) 2 capa) := HS.out.bx.cell 2 _ rfl
      go_wp2_with fail
      refine (show Calls _ _ #[.agg #[.int .i64 300, .int .i64 2, .slice (some ⟨ga, 0, none⟩) 2 capa], .int .i64 1] ((((u1.setCell ⟨q, 0, none⟩ (.int .i64 300)).setCell ⟨q, 1, none⟩ (.int .i64 2)).setCell ⟨q, 2, none⟩ (.slice (some ⟨ga, 0, none⟩) 2 capa)).setCell ⟨ga, 13, none⟩ (.int .i64 3)) _ from wrong_calls ⟨300, 2, [oneS, kid9]⟩ _ 1 _ HS.out.rd (sesOk2 okS1 okK9) ckK9 (HG.out.below HS.out.bel)).mono ?_
      rintro ev v30 ⟨rfl, hb⟩
      have HS' := Lib.hid (HS.out.below hb)
      clear hb HS z0 z1 z2
      have HS := HS'
      clear HS'
      go_wp2_with fail
      go_roundg (0)
      case measure => have := HGK.out; omega
      case rel => exact ⟨10, _, _, _, _, _, _, by have := HGK.out; omega, by first | rfl | go_num, HS.out⟩
    have k1 : ¬ (k : Int) < 10 := by omega
    have HKB := Lib.hid (KnB.lit wr)
    have HBA0 := HS.out.bel
    have HBW : Hid (Below w.heap.size w (((((((wr.alloc (.cells #[.int .u8 0, .int .u8 0, .int .u8 0, .int .u8 0] 5)).alloc (.cells #[.int .u8 0, .int .u8 0, .int .u8 33] 5)).alloc (.cells #[.int .u8 0, .int .u8 0, .int .u8 1] 5)).alloc (.cells #[.int .u8 0, .int .u8 128, .int .u8 0] 5)).alloc (.cells #[.int .u8 0, .int .u8 1] 5)).alloc (.cells #[.slice none 0 0, .slice (some ⟨wr.heap.size, 0, none⟩) 4 4, .slice (some ⟨wr.heap.size + 1, 0, none⟩) 3 3, .slice (some ⟨wr.heap.size + 1 + 1, 0, none⟩) 3 3, .slice (some ⟨wr.heap.size + 1 + 1 + 1, 0, none⟩) 3 3, .slice (some ⟨wr.heap.size + 1 + 1 + 1 + 1, 0, none⟩) 2 2] 34)).alloc (.cells #[.int .i64 2, .int .i64 3, .int .i64 24, .int .i64 2, .int .i64 4, .int .i64 2] 3))) := Lib.hid (below_more (below_more (below_more (below_more (below_more (below_more (below_more HBA0)))))))
    clear hk HGK HS HBA0
    go_wp2_with fail
    generalize (((((((wr.alloc (.cells #[.int .u8 0, .int .u8 0, .int .u8 0, .int .u8 0] 5)).alloc (.cells #[.int .u8 0, .int .u8 0, .int .u8 33] 5)).alloc (.cells #[.int .u8 0, .int .u8 0, .int .u8 1] 5)).alloc (.cells #[.int .u8 0, .int .u8 128, .int .u8 0] 5)).alloc (.cells #[.int .u8 0, .int .u8 1] 5)).alloc (.cells #[.slice none 0 0, .slice (some ⟨wr.heap.size, 0, none⟩) 4 4, .slice (some ⟨wr.heap.size + 1, 0, none⟩) 3 3, .slice (some ⟨wr.heap.size + 1 + 1, 0, none⟩) 3 3, .slice (some ⟨wr.heap.size + 1 + 1 + 1, 0, none⟩) 3 3, .slice (some ⟨wr.heap.size + 1 + 1 + 1 + 1, 0, none⟩) 2 2] 34)).alloc (.cells #[.int .i64 2, .int .i64 3, .int .i64 24, .int .i64 2, .int .i64 4, .int .i64 2] 3)) = wb at HKB HBW ⊢
    rw [show wr.heap.size + 1 + 1 + 1 + 1 + 1 + 1 = wr.heap.size + 6 from rfl, show wr.heap.size + 1 + 1 + 1 + 1 + 1 = wr.heap.size + 5 from rfl]
    generalize wr.heap.size = p at HKB ⊢
    go_loopg [13] 6 (fun gk iv wr => ∃ (k : Nat), gk + k = 6 ∧ iv = .int .i64 (k : Int) ∧ KnB wr p ∧ Below w.heap.size w wr)
    case atStart => exact ⟨0, rfl, rfl, HKB.out, HBW.out⟩
    case round =>
      clear HKB HBW
      obtain ⟨k, hgk, rfl, hK, hB⟩ := hrel
      have k0 : (0 : Int) ≤ (k : Int) := by omega
      have HGK := Lib.hid hgk
      have HK := Lib.hid hK
      have HB := Lib.hid hB
      clear hgk hK hB
      by_cases hk : k < 6
      · have k1 : (k : Int) < 6 := by omega
        have HKK := Lib.hid hk
        clear hk
        by_cases hk0 : k = 0
        · subst hk0
          rw [show ((0 : Nat) : Int) = 0 from rfl]
          have c1 : wr.cell? ⟨p + 5, 0, none⟩ = some (.slice none 0 0) := HK.out.x.cell 0 _ rfl
          have HD := Lib.hid (decI_calls (.slice none 0 0) [] wr (Rd.nil wr) (by decide))
          rw [dec0] at HD
          go_wp2_with fail
          refine HD.out.mono ?_
          rintro ev u1 ⟨ob, rfl, ho, hb⟩
          obtain ⟨oa9, oc9, rfl, _⟩ := ho.slice
          rw [show (noSt.l).length = 0 from rfl, show noSt.clock = 0 from rfl, show noSt.births = 0 from rfl]
          have HK' := Lib.hid (HK.out.below hb)
          have HB' := Lib.hid (HB.out.trans (hb.mono HB.out.size))
          clear ho hb HK HB HD c1
          have HK := HK'
          have HB := HB'
          clear HK' HB'
          have c2 : (u1.alloc (.cells #[.int .i64 0, .int .i64 0, .slice oa9 0 oc9] 24)).cell? ⟨p + 6, 0, none⟩ = some (.int .i64 2) := (HK.out.below (below_alloc u1 _)).n.cell 0 _ rfl
          have HPL := Lib.hid (plain_any 2 (u1.alloc (.cells #[.int .i64 0, .int .i64 0, .slice oa9 0 oc9] 24)) (by decide) (by decide) (HG.out.below (below_more HB.out)))
          go_wp2_with fail
          refine HPL.out.mono ?_
          rintro ev u2 ⟨rfl, hb⟩
          have HK' := Lib.hid ((HK.out.below (below_alloc u1 _)).below hb)
          have HB' := Lib.hid ((below_more (o := .cells #[.int .i64 0, .int .i64 0, .slice oa9 0 oc9] 24) HB.out).trans (hb.mono (below_more HB.out).size))
          clear hb HK HB HPL c2
          go_wp2_with fail
          go_roundg (5)
          case measure => have := HGK.out; omega
          case rel => exact ⟨1, by have := HGK.out; omega, by first | rfl | go_num, HK'.out, HB'.out⟩
        by_cases hk1 : k = 1
        · subst hk1
          rw [show ((1 : Nat) : Int) = 1 from rfl]
          have c1 : wr.cell? ⟨p + 5, 1, none⟩ = some (.slice (some ⟨p + 0, 0, none⟩) 4 4) := HK.out.x.cell 1 _ rfl
          have HD := Lib.hid (decI_calls (.slice (some ⟨p + 0, 0, none⟩) 4 4) [0, 0, 0, 0] wr (HK.out.r1) (by decide))
          rw [dec1] at HD
          go_wp2_with fail
          refine HD.out.mono ?_
          rintro ev u1 ⟨ob, rfl, ho, hb⟩
          obtain ⟨oa9, oc9, rfl, _⟩ := ho.slice
          rw [show (noSt.l).length = 0 from rfl, show noSt.clock = 0 from rfl, show noSt.births = 0 from rfl]
          have HK' := Lib.hid (HK.out.below hb)
          have HB' := Lib.hid (HB.out.trans (hb.mono HB.out.size))
          clear ho hb HK HB HD c1
          have HK := HK'
          have HB := HB'
          clear HK' HB'
          have c2 : (u1.alloc (.cells #[.int .i64 0, .int .i64 0, .slice oa9 0 oc9] 24)).cell? ⟨p + 6, 1, none⟩ = some (.int .i64 3) := (HK.out.below (below_alloc u1 _)).n.cell 1 _ rfl
          have HPL := Lib.hid (plain_any 3 (u1.alloc (.cells #[.int .i64 0, .int .i64 0, .slice oa9 0 oc9] 24)) (by decide) (by decide) (HG.out.below (below_more HB.out)))
          go_wp2_with fail
          refine HPL.out.mono ?_
          rintro ev u2 ⟨rfl, hb⟩
          have HK' := Lib.hid ((HK.out.below (below_alloc u1 _)).below hb)
          have HB' := Lib.hid ((below_more (o := .cells #[.int .i64 0, .int .i64 0, .slice oa9 0 oc9] 24) HB.out).trans (hb.mono (below_more HB.out).size))
          clear hb HK HB HPL c2
          go_wp2_with fail
          go_roundg (4)
          case measure => have := HGK.out; omega
          case rel => exact ⟨2, by have := HGK.out; omega, by first | rfl | go_num, HK'.out, HB'.out⟩
        by_cases hk2 : k = 2
        · subst hk2
          rw [show ((2 : Nat) : Int) = 2 from rfl]
          have c1 : wr.cell? ⟨p + 5, 2, none⟩ = some (.slice (some ⟨p + 1, 0, none⟩) 3 3) := HK.out.x.cell 2 _ rfl
          have HD := Lib.hid (decI_calls (.slice (some ⟨p + 1, 0, none⟩) 3 3) [0, 0, 33] wr (HK.out.r2) (by decide))
          rw [dec2] at HD
          go_wp2_with fail
          refine HD.out.mono ?_
          rintro ev u1 ⟨ob, rfl, ho, hb⟩
          obtain ⟨oa9, oc9, rfl, _⟩ := ho.slice
          rw [show (noSt.l).length = 0 from rfl, show noSt.clock = 0 from rfl, show noSt.births = 0 from rfl]
          have HK' := Lib.hid (HK.out.below hb)
          have HB' := Lib.hid (HB.out.trans (hb.mono HB.out.size))
          clear ho hb HK HB HD c1
          have HK := HK'
          have HB := HB'
          clear HK' HB'
          have c2 : (u1.alloc (.cells #[.int .i64 0, .int .i64 0, .slice oa9 0 oc9] 24)).cell? ⟨p + 6, 2, none⟩ = some (.int .i64 24) := (HK.out.below (below_alloc u1 _)).n.cell 2 _ rfl
          have HPL := Lib.hid (plain_any 24 (u1.alloc (.cells #[.int .i64 0, .int .i64 0, .slice oa9 0 oc9] 24)) (by decide) (by decide) (HG.out.below (below_more HB.out)))
          go_wp2_with fail
          refine HPL.out.mono ?_
          rintro ev u2 ⟨rfl, hb⟩
          have HK' := Lib.hid ((HK.out.below (below_alloc u1 _)).below hb)
          have HB' := Lib.hid ((below_more (o := .cells #[.int .i64 0, .int .i64 0, .slice oa9 0 oc9] 24) HB.out).trans (hb.mono (below_more HB.out).size))
          clear hb HK HB HPL c2
          go_wp2_with fail
          go_roundg (3)
          case measure => have := HGK.out; omega
          case rel => exact ⟨3, by have := HGK.out; omega, by first | rfl | go_num, HK'.out, HB'.out⟩
        by_cases hk3 : k = 3
        · subst hk3
          rw [show ((3 : Nat) : Int) = 3 from rfl]
          have c1 : wr.cell? ⟨p + 5, 3, none⟩ = some (.slice (some ⟨p + 2, 0, none⟩) 3 3) := HK.out.x.cell 3 _ rfl
          have HD := Lib.hid (decI_calls (.slice (some ⟨p + 2, 0, none⟩) 3 3) [0, 0, 1] wr (HK.out.r3) (by decide))
          rw [dec3] at HD
          go_wp2_with fail
          refine HD.out.mono ?_
          rintro ev u1 ⟨ob, rfl, ho, hb⟩
          obtain ⟨oa9, oc9, rfl, _⟩ := ho.slice
          rw [show (noSt.l).length = 0 from rfl, show noSt.clock = 0 from rfl, show noSt.births = 0 from rfl]
          have HK' := Lib.hid (HK.out.below hb)
          have HB' := Lib.hid (HB.out.trans (hb.mono HB.out.size))
          clear ho hb HK HB HD c1
          have HK := HK'
          have HB := HB'
          clear HK' HB'
          have c2 : (u1.alloc (.cells #[.int .i64 0, .int .i64 0, .slice oa9 0 oc9] 24)).cell? ⟨p + 6, 3, none⟩ = some (.int .i64 2) := (HK.out.below (below_alloc u1 _)).n.cell 3 _ rfl
          have HPL := Lib.hid (plain_any 2 (u1.alloc (.cells #[.int .i64 0, .int .i64 0, .slice oa9 0 oc9] 24)) (by decide) (by decide) (HG.out.below (below_more HB.out)))
          go_wp2_with fail
          refine HPL.out.mono ?_
          rintro ev u2 ⟨rfl, hb⟩
          have HK' := Lib.hid ((HK.out.below (below_alloc u1 _)).below hb)
          have HB' := Lib.hid ((below_more (o := .cells #[.int .i64 0, .int .i64 0, .slice oa9 0 oc9] 24) HB.out).trans (hb.mono (below_more HB.out).size))
          clear hb HK HB HPL c2
          go_wp2_with fail
          go_roundg (2)
          case measure => have := HGK.out; omega
          case rel => exact ⟨4, by have := HGK.out; omega, by first | rfl | go_num, HK'.out, HB'.out⟩
        by_cases hk4 : k = 4
        · subst hk4
          rw [show ((4 : Nat) : Int) = 4 from rfl]
          have c1 : wr.cell? ⟨p + 5, 4, none⟩ = some (.slice (some ⟨p + 3, 0, none⟩) 3 3) := HK.out.x.cell 4 _ rfl
          have HD := Lib.hid (decI_calls (.slice (some ⟨p + 3, 0, none⟩) 3 3) [0, 128, 0] wr (HK.out.r4) (by decide))
          rw [dec4] at HD
          go_wp2_with fail
          refine HD.out.mono ?_
          rintro ev u1 ⟨ob, rfl, ho, hb⟩
          obtain ⟨oa9, oc9, rfl, _⟩ := ho.slice
          rw [show (noSt.l).length = 0 from rfl, show noSt.clock = 0 from rfl, show noSt.births = 0 from rfl]
          have HK' := Lib.hid (HK.out.below hb)
          have HB' := Lib.hid (HB.out.trans (hb.mono HB.out.size))
          clear ho hb HK HB HD c1
          have HK := HK'
          have HB := HB'
          clear HK' HB'
          have c2 : (u1.alloc (.cells #[.int .i64 0, .int .i64 0, .slice oa9 0 oc9] 24)).cell? ⟨p + 6, 4, none⟩ = some (.int .i64 4) := (HK.out.below (below_alloc u1 _)).n.cell 4 _ rfl
          have HPL := Lib.hid (plain_any 4 (u1.alloc (.cells #[.int .i64 0, .int .i64 0, .slice oa9 0 oc9] 24)) (by decide) (by decide) (HG.out.below (below_more HB.out)))
          go_wp2_with fail
          refine HPL.out.mono ?_
          rintro ev u2 ⟨rfl, hb⟩
          have HK' := Lib.hid ((HK.out.below (below_alloc u1 _)).below hb)
          have HB' := Lib.hid ((below_more (o := .cells #[.int .i64 0, .int .i64 0, .slice oa9 0 oc9] 24) HB.out).trans (hb.mono (below_more HB.out).size))
          clear hb HK HB HPL c2
          go_wp2_with fail
          go_roundg (1)
          case measure => have := HGK.out; omega
          case rel => exact ⟨5, by have := HGK.out; omega, by first | rfl | go_num, HK'.out, HB'.out⟩
        obtain rfl : k = 5 := by have := HKK.out; omega
        rw [show ((5 : Nat) : Int) = 5 from rfl]
        have c1 : wr.cell? ⟨p + 5, 5, none⟩ = some (.slice (some ⟨p + 4, 0, none⟩) 2 2) := HK.out.x.cell 5 _ rfl
        have HD := Lib.hid (decI_calls (.slice (some ⟨p + 4, 0, none⟩) 2 2) [0, 1] wr (HK.out.r5) (by decide))
        rw [dec5] at HD
        go_wp2_with fail
        refine HD.out.mono ?_
        rintro ev u1 ⟨ob, rfl, ho, hb⟩
        obtain ⟨oa9, oc9, rfl, _⟩ := ho.slice
        rw [show (noSt.l).length = 0 from rfl, show noSt.clock = 0 from rfl, show noSt.births = 0 from rfl]
        have HK' := Lib.hid (HK.out.below hb)
        have HB' := Lib.hid (HB.out.trans (hb.mono HB.out.size))
        clear ho hb HK HB HD c1
        have HK := HK'
        have HB := HB'
        clear HK' HB'
        have c2 : (u1.alloc (.cells #[.int .i64 0, .int .i64 0, .slice oa9 0 oc9] 24)).cell? ⟨p + 6, 5, none⟩ = some (.int .i64 2) := (HK.out.below (below_alloc u1 _)).n.cell 5 _ rfl
        have HPL := Lib.hid (plain_any 2 (u1.alloc (.cells #[.int .i64 0, .int .i64 0, .slice oa9 0 oc9] 24)) (by decide) (by decide) (HG.out.below (below_more HB.out)))
        go_wp2_with fail
        refine HPL.out.mono ?_
        rintro ev u2 ⟨rfl, hb⟩
        have HK' := Lib.hid ((HK.out.below (below_alloc u1 _)).below hb)
        have HB' := Lib.hid ((below_more (o := .cells #[.int .i64 0, .int .i64 0, .slice oa9 0 oc9] 24) HB.out).trans (hb.mono (below_more HB.out).size))
        clear hb HK HB HPL c2
        go_wp2_with fail
        go_roundg (0)
        case measure => have := HGK.out; omega
        case rel => exact ⟨6, by have := HGK.out; omega, by first | rfl | go_num, HK'.out, HB'.out⟩
      · have k1 : ¬ (k : Int) < 6 := by omega
        clear hk HGK HK
        go_wp2_with fail
        refine (full_calls wr (HG.out.below HB.out)).mono ?_
        rintro ev wf ⟨rfl, hb⟩
        have HBF := Lib.hid (HB.out.trans (hb.mono HB.out.size))
        clear hb HB
        go_wp2_with fail
        go_ret
        exact ⟨rfl, HBF.out⟩
end Go.Proofs.YtdaimaibnjkfbaaDoor
/-
  The statement of layer, proved out of its walk: whatever the input, the law answers true and leaves its arguments as they were; package errors' variable errorType reads as the program's text lays it (the card ties it).
-/
namespace Go.Proofs.YtdaimaibnjkfbaaDoor
open Go.ChangeShapes Go.WideShapes Go.ChangeAt Go.RowKit
set_option maxRecDepth 100000


theorem imageKnown_at (W : World) (vs : Array Value) (hg : ErrType W) (h : ArgAll false W [] vs.toList) : Calls Tryd.prog 6 vs W fun e W' => e = .returned (.bool true) ∧ Below W.heap.size W W' := by
  obtain ⟨vs⟩ := vs
  match vs, h with
  | [], _ =>
    exact imageKnown_calls W hg
theorem imageKnown_lifted (os : Os) (started : os.Started) (H : Type) (enc : TypeId × Value → H) :
    ReturnsInHanded {} Tryd.checked os 6 .any (fun w args => (Rows.imageKnownSpec.pre enc Tryd.prog Tryd.f6 [] false w args ∧ laidMetH Tryd.prog laidL w) ∧ sizedMet enc Tryd.prog Tryd.f6 (OpenSpec.ofChange Rows.imageKnownSpec) false w args)
      (Rows.imageKnownSpec.post enc Tryd.prog Tryd.f6 false true false false) := by
  refine returnsInHanded_of_change_and (C := Tryd.checked) (X := fun w _ => laidMetH Tryd.prog laidL w) (fun _ _ _ hh h => h.of_heap hh) L.own started (by kernel_rfl) Tryd.func6
    (ChangeSpec.witness_at (enc := enc) (C := Tryd.checked) (os := os) (X := fun w _ => laidMetH Tryd.prog laidL w) false (laidWorld os) #[] 8 rfl (by kernel_rfl) (by kernel_rfl) (by kernel_rfl) (by kernel_rfl) (by kernel_rfl) (laidWorld_met os _)) ?_
  intro W base args ds gs before hval hW _ hsz hL _
  exact law_contract_at (up := false) (vt := Rows.imageKnownSpec.plain.varTypes Tryd.prog) rfl (ts := []) rfl rfl rfl (by decide +kernel) (fun H ds h => by
      rcases ds with _ | ⟨d0, _ | ⟨d1, _ | ⟨d2, _ | ⟨d3, _ | ⟨d4, _ | ⟨d5, ds⟩⟩⟩⟩⟩⟩ <;> first | exact ⟨rfl, rfl, rfl⟩ | (exfalso; simp at h; done) | (exfalso; simp at h; omega)) H enc W base args ds gs before hval hW hsz (fun h => imageKnown_at W args (errType_of_laid hL) h)
theorem imageKnown_row : Rows.ImageKnownSaid :=
  OpenClaim.holds_of_wide 6 Tryd.f6 rfl rfl rfl rfl rfl rfl rfl ⟨rfl, rfl, rfl, rfl, rfl⟩ rfl rfl rfl rfl rfl (by kernel_rfl) Tryd.func6 (by kernel_rfl)
    (of_decide_eq_true (by kernel_rfl)) (by unfold Func.isWrapper; first | (rw [if_pos (by decide +kernel)]; kernel_rfl) | (rw [if_neg (by decide +kernel)]; exact ⟨rfl, rfl⟩))
    (fun os started H enc _ => imageKnown_lifted os started H enc)
theorem imageKnown_card : Rows.ImageKnownCardSaid :=
  Claim7.holds_tied_plain_at .later [] [.handle] true (true, "2597d146cbe1f9029f0037bb1624727bb9267c161e77bd2b6f195f7206062017") true
    imageKnown_row (fun _ h => by cases h) (by kernel_rfl) (fun _ h => by cases h) imageKnown_row_tie rfl ⟨rfl, rfl⟩ (by kernel_rfl) rfl
    (fun f fn hf hfn => by
      obtain rfl : f = 6 := Option.some.inj ((show Tryd.prog.funcNamed "lineage/lineagelaw25.ImageKnown" = some 6 by kernel_rfl).symm.trans hf) |>.symm
      obtain rfl : fn = Tryd.f6 := (Option.some.inj (Tryd.func6.symm.trans hfn)).symm
      exact ⟨by kernel_rfl, fun j t ht => by
        have hp : Tryd.f6.params = #[] := rfl
        rw [hp] at ht
        simp at ht⟩)
    (by kernel_rfl)
#print axioms imageKnown_card
end Go.Proofs.YtdaimaibnjkfbaaDoor
