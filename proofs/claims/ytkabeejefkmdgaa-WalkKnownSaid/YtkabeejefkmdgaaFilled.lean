/-
  Of the statements of the walk: filled.
-/
import Derived.Test.YtkabeejefkmdgaaRefUp
import Derived.Outline
namespace Go.Proofs.Ytkabeejefkmdgaa
open Go.RowKit

/-- A load of many cells, under a guard that holds. -/
theorem wpList_load_w {P : Program} {ops : Array Oper} {rest : List Oper} {op : Oper} {a : Act} {w : World} {Q : Exit → Act → World → Prop} (hw : Region.wanted op (yielded ops a.tmps) = true) (ty : TypeId) (x : Operand) (ho : op.op = .load ty x)
    (b o : Nat) (hx : a.eval x = .pointer (some ⟨b, o, none⟩)) (cs : List Value) (d : TypeDesc) (hc : w.rangeAt b o cs)
    (hu : P.underlying ty = some d) (hd : d.isRow = true) (hi : (P.info? ty).map (·.size) = some cs.length)
    (h : ∀ c, Hid (c = cs.toArray) → wpList P ops Q rest (a.put op.dst (.agg c)) w) : wpList P ops Q (op :: rest) a w := by
  rw [wpList, if_pos hw]
  exact .inl (wp_load_mid ty x ho b o hx cs d hc hu hd hi (h _ (Lib.hid rfl)))
/-- Slots of which the first i are filled. -/
def fillL (l : List SlotM) : Nat → List SlotM
  | 0 => List.replicate 32 SlotM.bare
  | i + 1 => (fillL l i).set i (l.getD i SlotM.none)
theorem fillL_len (l : List SlotM) : ∀ i, (fillL l i).length = 32
  | 0 => by simp [fillL]
  | i + 1 => by simp [fillL, fillL_len l i]
/-- Cells of one element of a slice of slots. -/
theorem rd_slot {w : World} {v : Value} {l : List SlotM} (h : Rd w v l.length (l.flatMap SlotM.vals)) (i : Nat) (hi : i < l.length) :
    ∃ b off cap, v = .slice (some ⟨b, off, none⟩) l.length cap ∧ w.rangeAt b (off + i * 17) (l.getD i SlotM.none).vals := by
  have hl := flatMap_len17 l
  obtain ⟨a, cap, rfl, h1, h2, h3, h4⟩ := h
  obtain ⟨b, off, rfl, _⟩ := h4 0 (by omega)
  refine ⟨b, off, cap, rfl, fun j x hj => ?_⟩
  have hj17 : j < 17 := by have := (List.getElem?_eq_some_iff.1 hj).1; rwa [SlotM.vals_length] at this
  obtain ⟨b', off', e, h5⟩ := h4 (17 * i + j) (by omega)
  injection e with e; injection e with e1 e2
  subst e1; subst e2
  rw [show off + i * 17 + j = off + (17 * i + j) by omega, h5, List.getD, flatMap_get17 l i (l.getD i SlotM.none) (by simp [List.getD, hi]) j x hj]; rfl
/-- What 'filled' has made. -/
structure Filled (w0 : World) (l : List SlotM) (i b B rb : Nat) (sv fv : Value) (ys : List Value) (w : World) : Prop where
  arena : IsArena w (fillL l i) i b
  ref : RefAt w B rb 32 (fillL l i) i sv fv ys
  below : Below w0.heap.size w0 w
  ge : w0.heap.size ≤ b
  lt : b < B
theorem Filled.keep {w0 : World} {l : List SlotM} {i b B rb : Nat} {sv fv : Value} {ys : List Value} {w w' : World} (h : Filled w0 l i b B rb sv fv ys w) (hb : Below w.heap.size w w') : Filled w0 l i b B rb sv fv ys w' :=
  ⟨h.arena.below hb, h.ref.below hb, h.below.trans (hb.mono h.below.size), h.ge, h.lt⟩
theorem RefAt.mod {w w' : World} {B rb k : Nat} {l : List SlotM} {n : Int} {sv fv : Value} {ys : List Value} {F : Nat → Prop} (h : RefAt w B rb k l n sv fv ys) (hm : Mod F w w') (hF : ∀ q, F q → q < B) : RefAt w' B rb k l n sv fv ys :=
  ⟨h.box.mod hm (fun e => by have := hF _ e; have := h.le; omega), own_mod h.slots hm (fun q hq e => by have := hF _ e; have := (h.slots.lt q hq).1; omega), own_mod h.free hm (fun q hq e => by have := hF _ e; have := (h.free.lt q hq).1; omega), h.apart, h.sne, h.fne, h.le⟩
set_option maxHeartbeats 1600000 in
theorem filled_calls (v : Value) (l : List SlotM) (w : World) (hv : Rd w v l.length (l.flatMap SlotM.vals)) :
    Calls Try.prog 15 #[v] w fun e w' => ∃ b B rb sv fv ys, e = .returned (.tuple #[.pointer (some ⟨b, 0, none⟩), .pointer (some ⟨rb, 0, none⟩), .bool true]) ∧ Filled w l (min l.length 32) b B rb sv fv ys w' := by
  have hlen := hv.len
  obtain ⟨va, vc, rfl⟩ : ∃ a c, v = .slice a l.length c := by obtain ⟨a, c, e, _⟩ := hv; exact ⟨a, c, e⟩
  have HV := Lib.hid hv
  clear hv
  obtain ⟨m, hm⟩ : ∃ m, m = min l.length 32 := ⟨_, rfl⟩
  have hm1 : m ≤ l.length := by omega
  have hm2 : m ≤ 32 := by omega
  have Hm := Lib.hid hm
  rw [← hm]
  clear hm
  go_enter Try.func15, Try.ntmps15
  go_wp2_with fail
  refine (arenaNew_calls w).mono ?_
  rintro e w1 ⟨b, rfl, hA, hb1, hbb⟩
  have hblt := hA.lt
  have hs1 := hb1.size
  have HA := Lib.hid hA
  have HB := Lib.hid hb1
  clear hA hb1
  go_wp2_with fail
  refine (refNew_calls w1).mono ?_
  rintro e w2 ⟨rb, sv, fv, ys, rfl, hR, hb2⟩
  have hs2 := hb2.size
  have HF := Lib.hid (show Filled w l 0 b w1.heap.size rb sv fv ys w2 from ⟨HA.out.below hb2, hR, HB.out.trans (hb2.mono hs1), hbb, hblt⟩)
  clear hR hb2 HA HB
  go_wp2_with fail
  go_loopg [7] m (fun gk iv wr => ∃ i : Nat, gk + i = m ∧ iv = .int .i64 (i : Int) ∧ Filled w l i b w1.heap.size rb sv fv ys wr)
  case atStart => exact ⟨0, rfl, rfl, HF.out⟩
  case round =>
    clear HF
    obtain ⟨i, hgi, rfl, hF⟩ := hrel
    have hi0 : (0 : Int) ≤ (i : Int) := by omega
    have HF := Lib.hid hF
    have Hgi := Lib.hid hgi
    clear hF hgi
    by_cases hi : i < m
    · have hil : (i : Int) < (l.length : Int) := by omega
      have hi32 : (i : Int) < 32 := by omega
      obtain ⟨bl, off, cap, e1, hr⟩ := rd_slot HV.out i (by omega)
      injection e1 with e2 _ e3
      subst e2; subst e3
      obtain ⟨s, hs⟩ : ∃ s, s = l.getD i SlotM.none := ⟨_, rfl⟩
      rw [← hs] at hr
      have HR := Lib.hid (fun w2 (hb : Below w.heap.size w w2) (j : Nat) (x : Value) (hj : s.vals[j]? = some x) => show w2.cell? ⟨bl, off + i * 17 + j, none⟩ = some x from below_heap hb (hr j x hj))
      have Hs := Lib.hid hs
      clear hr hs
      go_wp2_with (refine wpList_load_k (op := ⟨some 27, .load _ _, _, _, _, _⟩) rfl 37 (.tmp 26) rfl bl (off + i * 17) rfl s.vals _ (HR.out wr HF.out.below) Try.underlying37 rfl (by kernel_rfl) ?_)
      intro cv hcv
      go_wp2_with fail
      rw [hcv.out]
      clear hcv
      refine (put_calls _ _ b i s wr HF.out.arena (by omega) (by omega)).mono ?_
      rintro e w3 ⟨rfl, hA3, hm3⟩
      have hb3 : Below w.heap.size w w3 := HF.out.below.trans (hm3.below HF.out.below.size (fun q hq => by have := HF.out.ge; omega))
      have hR3 := HF.out.ref.mod hm3 (fun q hq => by have := HF.out.lt; omega)
      have HA3 := Lib.hid hA3
      have HB3 := Lib.hid hb3
      have HR3 := Lib.hid hR3
      have Hge := Lib.hid HF.out.ge
      clear hA3 hm3 hb3 hR3 HF
      go_wp2_with (refine wpList_load_w (op := ⟨some 36, .load _ _, _, _, _, _⟩) (by rfl) 37 (.tmp 35) rfl bl (off + i * 17) rfl s.vals _ (HR.out w3 HB3.out) Try.underlying37 rfl (by kernel_rfl) ?_)
      intro cv hcv
      go_wp2_with fail
      rw [hcv.out]
      clear hcv
      refine (refPut_calls w1.heap.size rb 32 _ _ sv fv ys i s w3 HR3.out (fillL_len l i) (by omega) (by omega)).mono ?_
      rintro e w4 ⟨rfl, hR4, hm4⟩
      have hge1 : ∀ q, (q = rb ∨ sv.ownBlock = some q) → w1.heap.size ≤ q := fun q hq => by
        rcases hq with hq | hq
        · rw [hq]; exact HR3.out.le
        · exact (HR3.out.slots.lt q hq).1
      have hA4 := HA3.out.mod hm4 (fun hq => by have := hge1 b hq; omega)
      have hb4 : Below w.heap.size w w4 := HB3.out.trans (hm4.below HB3.out.size (fun q hq => by have := hge1 q hq; omega))
      rw [Hs.out, show ((i : Int) + 1) = ((i + 1 : Nat) : Int) by omega] at hA4 hR4
      have HF4 := Lib.hid (show Filled w l (i + 1) b w1.heap.size rb sv fv ys w4 from ⟨hA4, hR4, hb4, Hge.out, hblt⟩)
      clear hR4 hm4 hA4 hb4 hge1 HA3 HB3 HR3
      go_wp2_with fail
      go_roundg (m - (i + 1))
      case measure => have := Hgi.out; omega
      case rel => exact ⟨i + 1, by have := Hgi.out; omega, by go_num, HF4.out⟩
    · obtain rfl : i = m := by have := Hgi.out; omega
      by_cases hl : i < l.length
      · obtain rfl : i = 32 := by have := Hm.out; omega
        have ht1 : ((32 : Nat) : Int) < (l.length : Int) := by omega
        rw [show ((32 : Nat) : Int) = 32 from rfl] at *
        go_wp2_with fail
        go_ret3
        exact ⟨b, _, rb, sv, fv, ys, rfl, HF.out⟩
      · have ht : decide (i < l.length) = false := by simp; omega
        go_wp2_with fail
        go_ret3
        exact ⟨b, _, rb, sv, fv, ys, rfl, HF.out⟩
end Go.Proofs.Ytkabeejefkmdgaa
