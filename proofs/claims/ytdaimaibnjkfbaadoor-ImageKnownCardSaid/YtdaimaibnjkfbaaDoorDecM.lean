/-
  What bytes tell: an event, or an error.
-/
import Derived.Test.YtdaimaibnjkfbaaDoorTkInts
import Derived.Test.YtdaimaibnjkfbaaDoorEnc
namespace Go.Proofs.YtdaimaibnjkfbaaDoor
open Go.RowKit
set_option maxRecDepth 100000

def noEvt : EvtM := ⟨0, noSes, 0, 0⟩
def bornM (s : TkM) : SesM × TkM :=
  let a := s.int
  let b := a.2.int
  let c := b.2.int
  let d := c.2.int
  let f := d.2.int
  let u := f.2.txt
  let l := u.2.txt
  let sc := l.2.num
  let g := sc.2.int
  let h := g.2.int
  let i := h.2.int
  let j := i.2.int
  (⟨a.1, b.1, c.1, d.1, f.1, u.1, l.1, sc.1, g.1, h.1, i.1, j.1⟩, j.2)
def endM (s : TkM) (e : EvtM) : Int × EvtM := if s.er = 0 then (if s.k < s.l.length then (3, noEvt) else if s.big = true then (1, noEvt) else if mayE e = true then (0, e) else (1, noEvt)) else (s.er, noEvt)
def decM (l : List UInt8) : Int × EvtM :=
  let p := (⟨l, 0, 0, false⟩ : TkM).num
  if p.2.er = 0 then (if 2 < p.1 then (1, noEvt) else if p.1 = 0 then endM (bornM p.2).2 ⟨0, (bornM p.2).1, 0, 0⟩
    else if p.1 = 1 then endM p.2.int.2 ⟨1, noSes, p.2.int.1, 0⟩ else endM p.2.int.2 ⟨2, noSes, 0, p.2.int.1⟩) else (p.2.er, noEvt)
theorem EvtM.one (e : EvtM) : ∀ v ∈ e.cells.toList, v.oneCell' = true := by
  intro v hv
  unfold EvtM.cells at hv
  simp only [List.mem_cons, List.not_mem_nil, or_false] at hv
  rcases hv with rfl | rfl | rfl | rfl | rfl | rfl | rfl | rfl | rfl | rfl | rfl | rfl | rfl | rfl | rfl <;> rfl
theorem Box.thereE {w : World} {b : Nat} {e : EvtM} {t : TypeId} (h : Box w b e.cells t) : w.there b 0 e.cells.toList.length := h.there 0 15 (by show 0 + 15 ≤ 15; decide)
theorem Box.thereF {w : World} {b : Nat} {e : EvtM} {t : TypeId} (h : Box w b e.cells t) (f : EvtM) : w.there b 0 f.cells.toList.length := h.there 0 15 (by show 0 + 15 ≤ 15; decide)
theorem Box.rangeE {w : World} {b : Nat} {e : EvtM} {t : TypeId} (h : Box w b e.cells t) : w.rangeAt b 0 e.cells.toList := h.range 0 _ (fun j v hv => by rw [Nat.zero_add]; simpa using hv)
theorem Box.setAll {w : World} {b : Nat} {cs : Array Value} {t : TypeId} (h : Box w b cs t) (vs : List Value) (hs : vs.length = cs.size) : Box (w.setCells b 0 vs) b vs.toArray t := by
  obtain ⟨cs', h1, h2, h3, _⟩ := Box.setCells vs 0 h (by omega)
  have e1 : cs' = vs.toArray := by
    apply Array.ext_getElem?
    intro j
    by_cases hj : j < vs.length
    · have := h3 j _ (List.getElem?_eq_getElem hj)
      rw [Nat.zero_add] at this
      rw [this, List.getElem?_toArray, List.getElem?_eq_getElem hj]
    · rw [Array.getElem?_eq_none (by omega), Array.getElem?_eq_none (by simp; omega)]
  rw [← e1]; exact h1
theorem Box.setE {w : World} {b : Nat} {e : EvtM} {t : TypeId} (h : Box w b e.cells t) (f : EvtM) : Box (w.setCells b 0 f.cells.toList) b f.cells t := by
  have := h.setAll f.cells.toList rfl
  rwa [Array.toArray_toList] at this
theorem wp_store_k {P : Program} {op : Oper} {a : Act} {w : World} {K : Act → World → Prop} {Q : Exit → Act → World → Prop} (ty : TypeId) (x y : Operand) (ho : op.op = .store ty x y)
    (b o : Nat) (cs : List Value) (hx : a.eval x = .pointer (some ⟨b, o, none⟩)) (hy : a.eval y = .agg cs.toArray) (ht : w.there b o cs.length) (hi : (P.info? ty).map (·.size) = some cs.length) (h1 : ∀ v ∈ cs, v.oneCell' = true)
    (h : K (a.put op.dst undef) (w.setCells b o cs)) : op.wp P a w K Q := by
  refine wp_store_mid ty x y ho b o cs.toArray hx hy ?_ ?_ (all_oneCell_toArray h1) ?_
  · rw [List.size_toArray]; exact ht
  · rw [List.size_toArray]; exact hi
  · exact h
theorem ofV_iface {e : EvtM} (h : mayE e = true) : ∃ t u, ofV e = .iface t u := by
  unfold ofV
  rw [if_pos h]
  split
  · exact ⟨_, _, rfl⟩
  split
  · exact ⟨_, _, rfl⟩
  · exact ⟨_, _, rfl⟩
theorem textR_len (l : List UInt8) : (textR l).2.1.length ≤ 32 := by
  unfold textR
  split
  · split
    · simp
    · split
      · simp
      · rw [List.length_take]; omega
  · simp
theorem TkM.txt_len (s : TkM) : s.txt.1.length ≤ 32 := by
  unfold TkM.txt
  split
  · split
    · exact textR_len _
    · simp
  · simp
theorem noEvt_list : Hid (noEvt.cells = noEvt.cells.toList.toArray) := Lib.hid rfl
/-- What stands where an error is handed out. -/
structure ExS (w0 : World) (t b2 : Nat) (er : Value) (w' : World) : Prop where
  ce : w'.cell? ⟨t, 1, none⟩ = some er
  bz : Box w' b2 noEvt.cells 126
  bel : Below w0.heap.size w0 w'
  ne : b2 ≠ t
  ge : w0.heap.size ≤ b2
theorem ExS.drew {w0 : World} {t b2 : Nat} {er : Value} {w : World} (h : ExS w0 t b2 er w) : ExS w0 t b2 er w.drew := ⟨h.ce, h.bz, h.bel.drew, h.ne, h.ge⟩
theorem ExS.store {w0 : World} {t b2 : Nat} {er : Value} {w : World} (h : ExS w0 t b2 er w) : ExS w0 t b2 er (w.setCells b2 0 noEvt.cells.toList) := by
  have hb := h.bz.setE noEvt
  generalize noEvt.cells.toList = L at hb ⊢
  have hm := Mod.setCells (fun k => k = b2) b2 rfl L 0 w
  have hlt : t < w.heap.size := World.block_lt_of_cell? w _ h.ce
  exact ⟨by rw [World.cell?_of_block (w := w) (hm.block t hlt (fun e => h.ne e.symm))]; exact h.ce, hb, h.bel.trans (hm.below h.bel.size (fun _ hi => hi ▸ h.ge)), h.ne, h.ge⟩
end Go.Proofs.YtdaimaibnjkfbaaDoor
