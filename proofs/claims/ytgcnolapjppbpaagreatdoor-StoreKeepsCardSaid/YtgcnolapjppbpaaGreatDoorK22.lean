/-
  Texts of one proof, one behind the other.
-/
import Derived.Test.YtgcnolapjppbpaaGreatDoorK17
import Derived.Test.YtgcnolapjppbpaaGreatDoorK21
import Derived.Test.YtgcnolapjppbpaaGreatDoorK20
import Derived.Test.YtgcnolapjppbpaaGreatDoorK19
import Derived.Test.YtgcnolapjppbpaaGreatDoorK06
namespace Go.Proofs.YtgcnolapjppbpaaGreatDoor
open Go.RowKit
set_option maxRecDepth 100000
def noEvt : EvtM := ⟨0, noSes, 0, 0⟩
def bornM (s : TkM) : SesM × TkM :=
  let a := s.int
  let b := a.2.int
  let c := b.2.int
  let d := c.2.int
  let f := d.2.int
  let u := f.2.txt
  let l := u.2.txt
  let sc := l.2.num
  let g := sc.2.int
  let h := g.2.int
  let i := h.2.int
  let j := i.2.int
  (⟨a.1, b.1, c.1, d.1, f.1, u.1, l.1, sc.1, g.1, h.1, i.1, j.1⟩, j.2)
def endM (s : TkM) (e : EvtM) : Int × EvtM := if s.er = 0 then (if s.k < s.l.length then (3, noEvt) else if s.big = true then (1, noEvt) else if mayE e = true then (0, e) else (1, noEvt)) else (s.er, noEvt)
def decM (l : List UInt8) : Int × EvtM :=
  let p := (⟨l, 0, 0, false⟩ : TkM).num
  if p.2.er = 0 then (if 2 < p.1 then (1, noEvt) else if p.1 = 0 then endM (bornM p.2).2 ⟨0, (bornM p.2).1, 0, 0⟩
    else if p.1 = 1 then endM p.2.int.2 ⟨1, noSes, p.2.int.1, 0⟩ else endM p.2.int.2 ⟨2, noSes, 0, p.2.int.1⟩) else (p.2.er, noEvt)
structure DecSt (w0 w : World) (t r b2 : Nat) (v : Value) (s : TkM) : Prop where
  it : IsT w t r v s
  bz : Box w b2 noEvt.cells 47
  bel : Below w0.heap.size w0 w
  n1 : b2 ≠ t
  n2 : b2 ≠ r
  nv : v.ownBlock ≠ some b2
  g1 : w0.heap.size ≤ t
  g2 : w0.heap.size ≤ r
  g3 : w0.heap.size ≤ b2
theorem DecSt.below {w0 w w' : World} {t r b2 : Nat} {v : Value} {s : TkM} (h : DecSt w0 w t r b2 v s) (hb : Below w.heap.size w w') : DecSt w0 w' t r b2 v s :=
  ⟨h.it.below hb, h.bz.below hb, h.bel.trans (hb.mono h.bel.size), h.n1, h.n2, h.nv, h.g1, h.g2, h.g3⟩
theorem DecSt.step {w0 w w' : World} {t r b2 : Nat} {v : Value} {s s' : TkM} (h : DecSt w0 w t r b2 v s) (hi : IsT w' t r v s') (hm : Mod (fun i => i = r ∨ i = t) w w') : DecSt w0 w' t r b2 v s' :=
  ⟨hi, h.bz.mod hm (fun e => e.elim h.n2 h.n1), h.bel.trans (hm.below h.bel.size (fun _ hi => hi.elim (fun e => e ▸ h.g2) (fun e => e ▸ h.g1))), h.n1, h.n2, h.nv, h.g1, h.g2, h.g3⟩
theorem DecSt.mod {w0 w w' : World} {t r b2 eb : Nat} {v : Value} {s : TkM} (h : DecSt w0 w t r b2 v s) (hm : Mod (fun i => i = eb) w w') (h1 : eb ≠ t) (h2 : eb ≠ r) (h3 : eb ≠ b2) (h4 : v.ownBlock ≠ some eb) (h5 : w0.heap.size ≤ eb) : DecSt w0 w' t r b2 v s :=
  ⟨h.it.mod hm (fun e => h1 e.symm) (fun e => h2 e.symm) (fun b hb e => h4 (by rw [hb, e])), h.bz.mod hm (fun e => h3 e.symm), h.bel.trans (hm.below h.bel.size (fun i hi => by rw [hi]; exact h5)), h.n1, h.n2, h.nv, h.g1, h.g2, h.g3⟩
theorem DecSt.ints {w0 w w' : World} {t r b2 eb : Nat} {v : Value} {s s' : TkM} (h : DecSt w0 w t r b2 v s) (hi : IsT w' t r v s') (hm : Mod (fun i => i = r ∨ i = t ∨ i = eb) w w') (h3 : eb ≠ b2) (h5 : w0.heap.size ≤ eb) : DecSt w0 w' t r b2 v s' :=
  ⟨hi, h.bz.mod hm (fun e => e.elim h.n2 (fun e => e.elim h.n1 (fun e => h3 e.symm))), h.bel.trans (hm.below h.bel.size (fun _ hi => hi.elim (fun e => e ▸ h.g2) (fun e => e.elim (fun e => e ▸ h.g1) (fun e => e ▸ h5)))), h.n1, h.n2, h.nv, h.g1, h.g2, h.g3⟩
theorem EvtM.one (e : EvtM) : ∀ v ∈ e.cells.toList, v.oneCell' = true := by
  intro v hv
  unfold EvtM.cells at hv
  simp only [List.mem_cons, List.not_mem_nil, or_false] at hv
  rcases hv with rfl | rfl | rfl | rfl | rfl | rfl | rfl | rfl | rfl | rfl | rfl | rfl | rfl | rfl | rfl <;> rfl
theorem Box.thereE {w : World} {b : Nat} {e : EvtM} {t : TypeId} (h : Box w b e.cells t) : w.there b 0 e.cells.toList.length := h.there 0 15 (by show 0 + 15 ≤ 15; decide)
theorem Box.thereF {w : World} {b : Nat} {e : EvtM} {t : TypeId} (h : Box w b e.cells t) (f : EvtM) : w.there b 0 f.cells.toList.length := h.there 0 15 (by show 0 + 15 ≤ 15; decide)
theorem Box.rangeE {w : World} {b : Nat} {e : EvtM} {t : TypeId} (h : Box w b e.cells t) : w.rangeAt b 0 e.cells.toList := h.range 0 _ (fun j v hv => by rw [Nat.zero_add]; simpa using hv)
theorem Box.setAll {w : World} {b : Nat} {cs : Array Value} {t : TypeId} (h : Box w b cs t) (vs : List Value) (hs : vs.length = cs.size) : Box (w.setCells b 0 vs) b vs.toArray t := by
  obtain ⟨cs', h1, h2, h3, _⟩ := Box.setCells vs 0 h (by omega)
  have e1 : cs' = vs.toArray := by
    apply Array.ext_getElem?
    intro j
    by_cases hj : j < vs.length
    · have := h3 j _ (List.getElem?_eq_getElem hj)
      rw [Nat.zero_add] at this
      rw [this, List.getElem?_toArray, List.getElem?_eq_getElem hj]
    · rw [Array.getElem?_eq_none (by omega), Array.getElem?_eq_none (by simp; omega)]
  rw [← e1]; exact h1
theorem Box.setE {w : World} {b : Nat} {e : EvtM} {t : TypeId} (h : Box w b e.cells t) (f : EvtM) : Box (w.setCells b 0 f.cells.toList) b f.cells t := by
  have := h.setAll f.cells.toList rfl
  rwa [Array.toArray_toList] at this
theorem wp_store_k {P : Program} {op : Oper} {a : Act} {w : World} {K : Act → World → Prop} {Q : Exit → Act → World → Prop} (ty : TypeId) (x y : Operand) (ho : op.op = .store ty x y)
    (b o : Nat) (cs : List Value) (hx : a.eval x = .pointer (some ⟨b, o, none⟩)) (hy : a.eval y = .agg cs.toArray) (ht : w.there b o cs.length) (hi : (P.info? ty).map (·.size) = some cs.length) (h1 : ∀ v ∈ cs, v.oneCell' = true)
    (h : K (a.put op.dst undef) (w.setCells b o cs)) : op.wp P a w K Q := by
  refine wp_store_mid ty x y ho b o cs.toArray hx hy ?_ ?_ (all_oneCell_toArray h1) ?_
  · rw [List.size_toArray]; exact ht
  · rw [List.size_toArray]; exact hi
  · exact h
theorem DecSt.out {w0 w : World} {t r b2 : Nat} {v : Value} {s : TkM} (h : DecSt w0 w t r b2 v s) (f : EvtM) : Box (w.setCells b2 0 f.cells.toList) b2 f.cells 47 ∧ Below w0.heap.size w0 (w.setCells b2 0 f.cells.toList) := by
  have hb := h.bz.setE f
  have hg := h.g3
  generalize f.cells.toList = L at hb ⊢
  have hm := Mod.setCells (fun k => k = b2) b2 rfl L 0 w
  exact ⟨hb, h.bel.trans (hm.below h.bel.size (fun _ hi => hi ▸ hg))⟩
theorem ofV_iface {e : EvtM} (h : mayE e = true) : ∃ t u, ofV e = .iface t u := by
  unfold ofV
  rw [if_pos h]
  split
  · exact ⟨_, _, rfl⟩
  split
  · exact ⟨_, _, rfl⟩
  · exact ⟨_, _, rfl⟩
theorem textR_len (l : List UInt8) : (textR l).2.1.length ≤ 32 := by
  unfold textR
  split
  · split
    · simp
    · split
      · simp
      · rw [List.length_take]; omega
  · simp
theorem TkM.txt_len (s : TkM) : s.txt.1.length ≤ 32 := by
  unfold TkM.txt
  split
  · split
    · exact textR_len _
    · simp
  · simp
theorem noEvt_list : Hid (noEvt.cells = noEvt.cells.toList.toArray) := Lib.hid rfl
structure ExS (w0 : World) (t b2 : Nat) (er : Value) (w' : World) : Prop where
  ce : w'.cell? ⟨t, 1, none⟩ = some er
  bz : Box w' b2 noEvt.cells 47
  bel : Below w0.heap.size w0 w'
  ne : b2 ≠ t
  ge : w0.heap.size ≤ b2
theorem ExS.drew {w0 : World} {t b2 : Nat} {er : Value} {w : World} (h : ExS w0 t b2 er w) : ExS w0 t b2 er w.drew := ⟨h.ce, h.bz, h.bel.drew, h.ne, h.ge⟩
theorem ExS.store {w0 : World} {t b2 : Nat} {er : Value} {w : World} (h : ExS w0 t b2 er w) : ExS w0 t b2 er (w.setCells b2 0 noEvt.cells.toList) := by
  have hb := h.bz.setE noEvt
  generalize noEvt.cells.toList = L at hb ⊢
  have hm := Mod.setCells (fun k => k = b2) b2 rfl L 0 w
  have hlt : t < w.heap.size := World.block_lt_of_cell? w _ h.ce
  exact ⟨by rw [World.cell?_of_block (w := w) (hm.block t hlt (fun e => h.ne e.symm))]; exact h.ce, hb, h.bel.trans (hm.below h.bel.size (fun _ hi => hi ▸ h.ge)), h.ne, h.ge⟩
end Go.Proofs.YtgcnolapjppbpaaGreatDoor
namespace Go.Proofs.YtgcnolapjppbpaaGreatDoor
open Go.RowKit
set_option maxRecDepth 100000
structure StM where
  clock : Int
  births : Int
  l : List SesM
def noSt : StM := ⟨0, 0, []⟩
def scIn (a b : Nat) : Bool := bits .andNot .u64 (a : Int) (b : Int) == 0
def belowM (s p : SesM) : Bool := (s.depth == p.depth + 1) && ((s.user == p.user) && (decide (s.deadline ≤ p.deadline) && (scIn s.scopes p.scopes && (decide (p.level < s.level) == (s.kind == 2)))))
def hangM (s : SesM) : List SesM → Bool → Option Bool
  | [], h => some h
  | p :: ps, h => if p.slot = s.slot then none else hangM s ps (if s.upS = p.slot ∧ s.upB = p.birth then belowM s p else h)
def lastB : List SesM → Int
  | [] => 0
  | [p] => p.birth
  | _ :: p :: ps => lastB (p :: ps)
def upNo (s : SesM) : Bool := (s.upS == 0) && (s.upB == 0)
def mayI (c b : Int) (s : SesM) (a : List SesM) : Bool := mayS s && (!(!a.isEmpty && decide (s.birth ≤ lastB a)) && (decide (s.birth ≤ b) && (decide (s.born ≤ c) && (decide (c < s.deadline) && (hangM s a (upNo s) == some true)))))
def checkGo (c b : Int) (a : List SesM) (k : Int) : List SesM → Option Int
  | [] => none
  | s :: r => if mayI c b s a = true then checkGo c b (a ++ [s]) (k + 1) r else some k
def boundsM (st : StM) : Bool := fromM st.clock 0 1099511627776 && (fromM st.births 0 1048576 && decide (st.l.length ≤ 32))
def checkM (st : StM) : Option Int := if boundsM st = true then checkGo st.clock st.births [] 0 st.l else some (-1)
theorem lastB_snoc (a : List SesM) (s : SesM) : lastB (a ++ [s]) = s.birth := by
  induction a with
  | nil => rfl
  | cons p a ih =>
    cases a with
    | nil => rfl
    | cons q a => exact ih
theorem checkGo_none {c b : Int} : ∀ {r a : List SesM} {k : Int}, checkGo c b a k r = none ↔ ∀ i (h : i < r.length), mayI c b r[i] (a ++ r.take i) = true
  | [], a, k => by simp [checkGo]
  | s :: r, a, k => by
    unfold checkGo
    by_cases h : mayI c b s a = true
    · rw [if_pos h, checkGo_none]
      constructor
      · intro g i hi
        cases i with
        | zero => simpa using h
        | succ i =>
          have := g i (by simpa using hi)
          simpa using this
      · intro g i hi
        have := g (i + 1) (by simpa using hi)
        simpa using this
    · rw [if_neg h]
      constructor
      · intro g; cases g
      · intro g
        exact absurd (by have := g 0 (by simp); rw [List.take_zero, List.append_nil] at this; exact this) h
theorem checkM_none {st : StM} : checkM st = none ↔ boundsM st = true ∧ ∀ i (h : i < st.l.length), mayI st.clock st.births st.l[i] (st.l.take i) = true := by
  unfold checkM
  by_cases h : boundsM st = true
  · rw [if_pos h, checkGo_none]; simp [h]
  · rw [if_neg h]; simp [h]
structure MayI (c b : Int) (s : SesM) (a : List SesM) : Prop where
  may : mayS s = true
  asc : a ≠ [] → lastB a < s.birth
  births : s.birth ≤ b
  born : s.born ≤ c
  dead : c < s.deadline
  hang : hangM s a (upNo s) = some true
theorem mayI_iff {c b : Int} {s : SesM} {a : List SesM} : mayI c b s a = true ↔ MayI c b s a := by
  unfold mayI
  simp only [Bool.and_eq_true, decide_eq_true_eq, beq_iff_eq, Bool.not_eq_true', Bool.and_eq_false_iff, Bool.not_eq_false', decide_eq_false_iff_not, Int.not_le]
  constructor
  · rintro ⟨h1, h2, h3, h4, h5, h6⟩
    exact ⟨h1, fun h => h2.elim (fun g => absurd (List.isEmpty_iff.1 g) h) id, h3, h4, h5, h6⟩
  · rintro ⟨h1, h2, h3, h4, h5, h6⟩
    refine ⟨h1, ?_, h3, h4, h5, h6⟩
    cases a with
    | nil => exact .inl rfl
    | cons p a => exact .inr (h2 (by simp))
end Go.Proofs.YtgcnolapjppbpaaGreatDoor
namespace Go.Proofs.YtgcnolapjppbpaaGreatDoor
open Go.RowKit
set_option maxRecDepth 100000
def sesTs : Nat → TkM → List SesM × TkM
  | 0, s => ([], s)
  | n + 1, s => ((bornM s).1 :: (sesTs n (bornM s).2).1, (sesTs n (bornM s).2).2)
def finI (s : TkM) (st : StM) : Int × StM := if s.er = 0 then (if s.k < s.l.length then (3, noSt) else if s.big = true then (24, noSt) else if checkM st = none then (0, st) else (24, noSt)) else (s.er, noSt)
def decI (l : List UInt8) : Int × StM :=
  let c := (⟨l, 0, 0, false⟩ : TkM).int
  let b := c.2.int
  let p := b.2.num
  if p.2.er = 0 ∧ 32 < p.1 then (24, noSt) else finI (sesTs p.1 p.2).2 ⟨c.1, b.1, (sesTs p.1 p.2).1⟩
theorem sesTs_snoc : ∀ (n : Nat) (s : TkM), sesTs (n + 1) s = ((sesTs n s).1 ++ [(bornM (sesTs n s).2).1], (bornM (sesTs n s).2).2)
  | 0, s => rfl
  | n + 1, s => by
    have ih := sesTs_snoc n (bornM s).2
    show ((bornM s).1 :: (sesTs (n + 1) (bornM s).2).1, (sesTs (n + 1) (bornM s).2).2) = _
    rw [ih]
    rfl
theorem sesTs_len : ∀ (n : Nat) (s : TkM), (sesTs n s).1.length = n
  | 0, _ => rfl
  | n + 1, s => by show ((sesTs n (bornM s).2).1).length + 1 = n + 1; rw [sesTs_len n]
end Go.Proofs.YtgcnolapjppbpaaGreatDoor
namespace Go.Proofs.YtgcnolapjppbpaaGreatDoor
open Go.RowKit
set_option maxRecDepth 100000
def findM (b : Int) : List SesM → Option SesM
  | [] => none
  | s :: l => if s.birth = b then some s else findM b l
def fitsM (s p : SesM) : Bool := (s.depth == IntKind.i64.wrap (p.depth + 1)) && ((s.user == p.user) && (scIn s.scopes p.scopes && (decide (s.deadline ≤ p.deadline) && (if s.kind = 2 then decide (p.level < s.level) else s.level == p.level))))
def upM (s : SesM) (l : List SesM) : Int :=
  if s.upB = 0 then 0 else match findM s.upB l with
    | none => 16
    | some p => if p.slot = s.upS then (if fitsM s p = true then 0 else 24) else 16
def refM (st : StM) (s : SesM) : Int :=
  if s.birth = IntKind.i64.wrap (st.births + 1) then (if s.born = st.clock then (if 32 ≤ st.l.length then 19 else if st.l.any (fun x => x.slot == s.slot) = true then 9 else upM s st.l) else 12) else 18
def upIn (G : List Int) (s : SesM) : Bool := G.contains s.upB && s.upB != 0
def stepM (goes : SesM → Bool) (G : List Int) (s : SesM) : List Int := if (!G.contains s.birth && (goes s || upIn G s)) = true then G ++ [s.birth] else G
def passM (goes : SesM → Bool) (G : List Int) (l : List SesM) : List Int := l.foldl (stepM goes) G
def iterM (goes : SesM → Bool) (l : List SesM) : Nat → List Int
  | 0 => []
  | n + 1 => passM goes (iterM goes l n) l
def closeM (goes : SesM → Bool) (l : List SesM) : List Int := iterM goes l l.length
def withoutM (goes : SesM → Bool) (l : List SesM) : List SesM := l.filter (fun s => !goes s && !upIn (closeM goes l) s)
def applyM (st : StM) (e : EvtM) : Int × StM :=
  if mayE e = true then
    (if e.kind = 0 then (if refM st e.s = 0 then (0, ⟨st.clock, IntKind.i64.wrap (st.births + 1), st.l ++ [e.s]⟩) else (refM st e.s, noSt))
    else if e.kind = 1 then (if st.l.any (fun s => s.birth == e.birth) = true then (0, ⟨st.clock, st.births, withoutM (fun s => s.birth == e.birth) st.l⟩) else (16, noSt))
    else if st.clock < 0 ∨ 1099511627776 - e.ticks < st.clock then (12, noSt) else (0, ⟨st.clock + e.ticks, st.births, withoutM (fun s => decide (s.deadline ≤ st.clock + e.ticks)) st.l⟩))
  else (1, noSt)
def allM : StM → List EvtM → StM × Nat
  | st, [] => (st, 0)
  | st, e :: l => if (applyM st e).1 = 0 then ((allM (applyM st e).2 l).1, (allM (applyM st e).2 l).2 + 1) else (st, 0)
theorem passM_snoc (goes : SesM → Bool) (G : List Int) (l : List SesM) (s : SesM) : passM goes G (l ++ [s]) = stepM goes (passM goes G l) s := by simp [passM]
theorem stepM_pre (goes : SesM → Bool) (G : List Int) (s : SesM) : stepM goes G s = G ∨ stepM goes G s = G ++ [s.birth] := by
  unfold stepM; split <;> simp
structure GoodG (l : List SesM) (G : List Int) : Prop where
  nd : G.Nodup
  sub : ∀ b ∈ G, ∃ s ∈ l, s.birth = b
theorem GoodG.nil (l : List SesM) : GoodG l [] := ⟨List.nodup_nil, fun _ h => by cases h⟩
theorem GoodG.step {goes : SesM → Bool} {l : List SesM} {G : List Int} (h : GoodG l G) {s : SesM} (hs : s ∈ l) : GoodG l (stepM goes G s) := by
  unfold stepM
  split
  · rename_i hc
    rw [Bool.and_eq_true, Bool.not_eq_true'] at hc
    have hn : s.birth ∉ G := fun hm => by have := List.contains_iff_mem.2 hm; rw [this] at hc; cases hc.1
    refine ⟨?_, fun b hb => ?_⟩
    · rw [List.nodup_append]
      exact ⟨h.nd, by simp, fun a ha b hb e => hn (by rw [List.mem_singleton.1 hb] at e; exact e ▸ ha)⟩
    · rcases List.mem_append.1 hb with hb | hb
      · exact h.sub b hb
      · exact ⟨s, hs, (List.mem_singleton.1 hb).symm⟩
  · exact h
theorem GoodG.pass {goes : SesM → Bool} {l : List SesM} : ∀ {m : List SesM} {G : List Int}, GoodG l G → (∀ s ∈ m, s ∈ l) → GoodG l (passM goes G m)
  | [], _, h, _ => h
  | s :: m, _, h, hm => GoodG.pass (m := m) (h.step (hm s (by simp))) (fun x hx => hm x (by simp [hx]))
theorem GoodG.iter (goes : SesM → Bool) (l : List SesM) : ∀ n, GoodG l (iterM goes l n)
  | 0 => GoodG.nil l
  | n + 1 => (GoodG.iter goes l n).pass (fun _ h => h)
theorem nodup_le : ∀ {G B : List Int}, G.Nodup → (∀ b ∈ G, b ∈ B) → G.length ≤ B.length
  | [], _, _, _ => Nat.zero_le _
  | g :: G, B, h, hs => by
    have hg := hs g (by simp)
    rw [List.nodup_cons] at h
    have := nodup_le (G := G) (B := B.erase g) h.2 (fun b hb => (List.mem_erase_of_ne (fun e : b = g => h.1 (by rw [← e]; exact hb))).2 (hs b (by simp [hb])))
    rw [List.length_erase_of_mem hg] at this
    have : 0 < B.length := List.length_pos_of_mem hg
    rw [List.length_cons]; omega
theorem GoodG.le {l : List SesM} {G : List Int} (h : GoodG l G) : G.length ≤ l.length := by
  have := nodup_le (B := l.map (·.birth)) h.nd (fun b hb => by obtain ⟨s, hs, e⟩ := h.sub b hb; exact List.mem_map.2 ⟨s, hs, e⟩)
  rwa [List.length_map] at this
theorem passM_len (goes : SesM → Bool) : ∀ (l : List SesM) (G : List Int), passM goes G l = G ∨ G.length < (passM goes G l).length
  | [], _ => .inl rfl
  | s :: l, G => by
    show passM goes (stepM goes G s) l = G ∨ G.length < (passM goes (stepM goes G s) l).length
    rcases stepM_pre goes G s with e | e <;> rw [e]
    · exact passM_len goes l G
    · rcases passM_len goes l (G ++ [s.birth]) with h | h
      · rw [h]; right; simp
      · right; rw [List.length_append] at h; simp at h; omega
theorem passM_le (goes : SesM → Bool) (l : List SesM) (G : List Int) : G.length ≤ (passM goes G l).length := by
  rcases passM_len goes l G with h | h
  · rw [h]; exact Nat.le_refl _
  · omega
theorem passM_fix {goes : SesM → Bool} : ∀ {l : List SesM} {G : List Int}, passM goes G l = G → ∀ s ∈ l, stepM goes G s = G
  | [], _, _, _, h => by cases h
  | s :: l, G, h, x, hx => by
    have h1 : passM goes (stepM goes G s) l = G := h
    have h2 : stepM goes G s = G := by
      rcases stepM_pre goes G s with e | e
      · exact e
      · have := passM_le goes l (stepM goes G s)
        rw [h1, e, List.length_append] at this
        simp at this
        omega
    rw [h2] at h1
    rcases List.mem_cons.1 hx with rfl | hx
    · exact h2
    · exact passM_fix h1 x hx
theorem iterM_len (goes : SesM → Bool) (l : List SesM) : ∀ n, passM goes (iterM goes l n) l = iterM goes l n ∨ n ≤ (iterM goes l n).length
  | 0 => .inr (Nat.zero_le _)
  | n + 1 => by
    show passM goes (passM goes (iterM goes l n) l) l = passM goes (iterM goes l n) l ∨ n + 1 ≤ (passM goes (iterM goes l n) l).length
    rcases iterM_len goes l n with h | h
    · rw [h]; exact .inl h
    · rcases passM_len goes l (iterM goes l n) with h1 | h1
      · rw [h1]; exact .inl h1
      · exact .inr (by omega)
theorem full_fix {goes : SesM → Bool} {l : List SesM} {G : List Int} (h : GoodG l G) (hl : l.length ≤ G.length) : passM goes G l = G := by
  rcases passM_len goes l G with h1 | h1
  · exact h1
  · have := (h.pass (goes := goes) (m := l) (fun _ h => h)).le; omega
theorem closeM_fix (goes : SesM → Bool) (l : List SesM) : passM goes (closeM goes l) l = closeM goes l := by
  rcases iterM_len goes l l.length with h | h
  · exact h
  · exact full_fix (GoodG.iter goes l _) h
theorem iterM_stay {goes : SesM → Bool} {l : List SesM} {n : Nat} (h : passM goes (iterM goes l n) l = iterM goes l n) : ∀ k, iterM goes l (n + k) = iterM goes l n
  | 0 => rfl
  | k + 1 => by
    show passM goes (iterM goes l (n + k)) l = _
    rw [iterM_stay h k]; exact h
theorem iterM_close {goes : SesM → Bool} {l : List SesM} {n : Nat} (h : passM goes (iterM goes l n) l = iterM goes l n) : iterM goes l n = closeM goes l := by
  rcases Nat.le_total n l.length with h1 | h1
  · have := iterM_stay h (l.length - n)
    rw [show n + (l.length - n) = l.length by omega] at this
    exact this.symm
  · have := iterM_stay (closeM_fix goes l) (n - l.length)
    rw [show l.length + (n - l.length) = n by omega] at this
    exact this
inductive Dies (goes : SesM → Bool) (l : List SesM) : SesM → Prop
  | one {s : SesM} : s ∈ l → goes s = true → Dies goes l s
  | up {s p : SesM} : s ∈ l → Dies goes l p → s.upB = p.birth → s.upB ≠ 0 → Dies goes l s
theorem Dies.mem {goes : SesM → Bool} {l : List SesM} {s : SesM} (h : Dies goes l s) : s ∈ l := by cases h <;> assumption
theorem upIn_iff {G : List Int} {s : SesM} : upIn G s = true ↔ s.upB ∈ G ∧ s.upB ≠ 0 := by
  unfold upIn; rw [Bool.and_eq_true, List.contains_iff_mem]; simp
theorem stepM_sound {goes : SesM → Bool} {l : List SesM} {G : List Int} (h : ∀ b ∈ G, ∃ s, Dies goes l s ∧ s.birth = b) {s : SesM} (hs : s ∈ l) : ∀ b ∈ stepM goes G s, ∃ s, Dies goes l s ∧ s.birth = b := by
  intro b hb
  unfold stepM at hb
  split at hb
  · rename_i hc
    rcases List.mem_append.1 hb with hb | hb
    · exact h b hb
    · rw [Bool.and_eq_true, Bool.or_eq_true] at hc
      rw [List.mem_singleton.1 hb]
      rcases hc.2 with hg | hu
      · exact ⟨s, .one hs hg, rfl⟩
      · obtain ⟨h1, h2⟩ := upIn_iff.1 hu
        obtain ⟨p, h3, h4⟩ := h _ h1
        exact ⟨s, .up hs h3 h4.symm h2, rfl⟩
  · exact h b hb
theorem passM_sound {goes : SesM → Bool} {l : List SesM} : ∀ {m : List SesM} {G : List Int}, (∀ b ∈ G, ∃ s, Dies goes l s ∧ s.birth = b) → (∀ s ∈ m, s ∈ l) → ∀ b ∈ passM goes G m, ∃ s, Dies goes l s ∧ s.birth = b
  | [], _, h, _ => h
  | s :: m, _, h, hm => passM_sound (m := m) (stepM_sound h (hm s (by simp))) (fun x hx => hm x (by simp [hx]))
theorem iterM_sound (goes : SesM → Bool) (l : List SesM) : ∀ n, ∀ b ∈ iterM goes l n, ∃ s, Dies goes l s ∧ s.birth = b
  | 0 => fun _ h => by cases h
  | n + 1 => passM_sound (iterM_sound goes l n) (fun _ h => h)
theorem closeM_dies {goes : SesM → Bool} {l : List SesM} {s : SesM} (h : Dies goes l s) : s.birth ∈ closeM goes l := by
  have hf : ∀ s ∈ l, (goes s || upIn (closeM goes l) s) = true → s.birth ∈ closeM goes l := fun s hs hg => by
    have h1 := passM_fix (closeM_fix goes l) s hs
    rcases Bool.eq_false_or_eq_true ((closeM goes l).contains s.birth) with h2 | h2
    · exact List.contains_iff_mem.1 h2
    · unfold stepM at h1
      rw [h2, hg] at h1
      have := congrArg List.length h1
      simp at this
  induction h with
  | one hs hg => exact hf _ hs (by rw [hg]; rfl)
  | up hs _ he hn ih => exact hf _ hs (by rw [Bool.or_eq_true]; right; exact upIn_iff.2 ⟨by rw [he]; exact ih, hn⟩)
theorem goes_iff {goes : SesM → Bool} {l : List SesM} {s : SesM} (hs : s ∈ l) : (goes s = true ∨ upIn (closeM goes l) s = true) ↔ Dies goes l s := by
  constructor
  · rintro (h | h)
    · exact .one hs h
    · obtain ⟨h1, h2⟩ := upIn_iff.1 h
      obtain ⟨p, h3, h4⟩ := iterM_sound goes l _ _ h1
      exact .up hs h3 h4.symm h2
  · intro h
    cases h with
    | one _ hg => exact .inl hg
    | up _ hp he hn => exact .inr (upIn_iff.2 ⟨by rw [he]; exact closeM_dies hp, hn⟩)
theorem mem_without {goes : SesM → Bool} {l : List SesM} {s : SesM} : s ∈ withoutM goes l ↔ s ∈ l ∧ ¬ Dies goes l s := by
  unfold withoutM
  rw [List.mem_filter]
  constructor
  · rintro ⟨h1, h2⟩
    refine ⟨h1, fun h => ?_⟩
    rw [Bool.and_eq_true, Bool.not_eq_true', Bool.not_eq_true'] at h2
    rcases (goes_iff h1).2 h with h3 | h3
    · rw [h3] at h2; cases h2.1
    · rw [h3] at h2; cases h2.2
  · rintro ⟨h1, h2⟩
    refine ⟨h1, ?_⟩
    rw [Bool.and_eq_true, Bool.not_eq_true', Bool.not_eq_true']
    constructor
    · cases e : goes s
      · rfl
      · exact absurd ((goes_iff h1).1 (.inl e)) h2
    · cases e : upIn (closeM goes l) s
      · rfl
      · exact absurd ((goes_iff h1).1 (.inr e)) h2
theorem without_eq {goes : SesM → Bool} {l : List SesM} {f : SesM → Bool} (h : ∀ s ∈ l, (f s = true ↔ Dies goes l s)) : l.filter (fun s => !f s) = withoutM goes l := by
  unfold withoutM
  refine List.filter_congr fun s hs => ?_
  have h1 := h s hs
  have h2 := goes_iff (goes := goes) (l := l) hs
  cases hf : f s
  · cases e1 : goes s
    · cases e2 : upIn (closeM goes l) s
      · rfl
      · exact absurd (h1.2 (h2.1 (.inr e2))) (by rw [hf]; decide)
    · exact absurd (h1.2 (h2.1 (.inl e1))) (by rw [hf]; decide)
  · rcases h2.2 (h1.1 hf) with e | e
    · rw [e]; rfl
    · rw [e, Bool.and_comm]; rfl
end Go.Proofs.YtgcnolapjppbpaaGreatDoor
namespace Go.Proofs.YtgcnolapjppbpaaGreatDoor
open Go.RowKit
set_option maxRecDepth 100000
structure SesOk (s : SesM) : Prop where
  user : s.user.length ≤ 9223372036854775807
  label : s.label.length ≤ 9223372036854775807
  scopes : s.scopes < 2 ^ 64
def flatS (l : List SesM) : List Value := l.flatMap (fun s => s.cells.toList)
theorem flatS_nil : flatS [] = [] := rfl
theorem flatS_length (l : List SesM) : (flatS l).length = l.length * 12 := by
  induction l with
  | nil => rfl
  | cons s l ih =>
    have : (flatS (s :: l)).length = 12 + (flatS l).length := by unfold flatS; rw [List.flatMap_cons, List.length_append]; rfl
    rw [this, ih, List.length_cons]; omega
theorem flatS_append (a b : List SesM) : flatS (a ++ b) = flatS a ++ flatS b := by unfold flatS; rw [List.flatMap_append]
theorem flatS_one (s : SesM) : flatS [s] = s.cells.toList := by unfold flatS; simp
theorem flatS_at : ∀ (l : List SesM) (k j : Nat), j < 12 → (flatS l)[k * 12 + j]? = l[k]?.bind (fun s => s.cells.toList[j]?)
  | [], _, _, _ => by simp [flatS]
  | e :: l, k, j, hj => by
    have h12 : e.cells.toList.length = 12 := rfl
    unfold flatS
    rw [List.flatMap_cons]
    cases k with
    | zero =>
      rw [List.getElem?_append_left (by omega)]
      simp
    | succ k =>
      rw [List.getElem?_append_right (by omega), h12, show (k + 1) * 12 + j - 12 = k * 12 + j by omega]
      have := flatS_at l k j hj
      unfold flatS at this
      rw [this]
      simp
def RdS (w : World) (v : Value) (l : List SesM) : Prop := Rd w v l.length (flatS l)
theorem RdS.below {w w' : World} {v : Value} {l : List SesM} (h : RdS w v l) (hb : Below w.heap.size w w') : RdS w' v l := Rd.below h hb
theorem RdS.slice {w : World} {v : Value} {l : List SesM} (h : RdS w v l) : ∃ a cap, v = .slice a l.length cap ∧ l.length ≤ cap ∧ cap ≤ 9223372036854775807 := by
  obtain ⟨a, cap, h1, h2, h3, _⟩ := h; exact ⟨a, cap, h1, h2, h3⟩
theorem RdS.row {w : World} {a : Option Addr} {n cap : Nat} {l : List SesM} (h : RdS w (.slice a n cap) l) (k : Nat) (hk : k < l.length) : ∃ b off, a = some ⟨b, off, none⟩ ∧ w.rangeAt b (off + k * 12) (l[k]).cells.toList := by
  obtain ⟨a', cap', e, h1, h2, _, h3⟩ := h
  injection e with e1 e2 e3
  subst e1
  have hl := flatS_length l
  obtain ⟨b, off, rfl, _⟩ := h3 (k * 12) (by omega)
  refine ⟨b, off, rfl, fun j v hv => ?_⟩
  have hj : j < 12 := (List.getElem?_eq_some_iff.1 hv).1
  obtain ⟨b', off', e', h4⟩ := h3 (k * 12 + j) (by omega)
  injection e' with e'; injection e' with e5 e6
  subst e5; subst e6
  rw [Nat.add_assoc, h4]
  have h5 := flatS_at l k j hj
  rw [List.getElem?_eq_getElem hk] at h5
  rw [List.getD, h5]
  show some ((l[k].cells.toList[j]?).getD undef) = some v
  rw [hv]; rfl
theorem RdS.cut {w : World} {a : Option Addr} {cap : Nat} {l : List SesM} (h : RdS w (.slice a l.length cap) l) (k : Nat) (hk : k ≤ l.length) : RdS w (.slice a k cap) (l.take k) := by
  have hc : l.length ≤ cap := by obtain ⟨_, _, e, h5, _⟩ := h; injection e with _ _ e3; omega
  have := Rd.cut (m := k) h (by omega) (k * 12)
  unfold RdS
  have e : flatS (l.take k) = (flatS l).take (k * 12) := by
    have h1 : flatS l = flatS (l.take k) ++ flatS (l.drop k) := by rw [← flatS_append, List.take_append_drop]
    rw [h1, List.take_left' (by rw [flatS_length, List.length_take]; omega)]
  rw [e, List.length_take, Nat.min_eq_left hk]; exact this
theorem SesM.oneS (s : SesM) : ∀ v ∈ s.cells.toList, v.oneCell' = true := by
  intro v hv
  unfold SesM.cells at hv
  simp only [List.mem_cons, List.not_mem_nil, or_false] at hv
  rcases hv with rfl | rfl | rfl | rfl | rfl | rfl | rfl | rfl | rfl | rfl | rfl | rfl <;> rfl
theorem SesM.listS (s : SesM) : Hid (s.cells = s.cells.toList.toArray) := Lib.hid rfl
theorem thereZ (w : World) (s : SesM) : (w.alloc (.cells #[.int .i64 0, .int .i64 0, .int .i64 0, .int .i64 0, .int .i64 0, .string ⟨#[]⟩, .string ⟨#[]⟩, .int .u64 0, .int .i64 0, .int .i64 0, .int .i64 0, .int .i64 0] 45)).there w.heap.size 0 s.cells.toList.length := by
  intro j hj
  have hj : j < 12 := hj
  have hb := Box.new w #[.int .i64 0, .int .i64 0, .int .i64 0, .int .i64 0, .int .i64 0, .string ⟨#[]⟩, .string ⟨#[]⟩, .int .u64 0, .int .i64 0, .int .i64 0, .int .i64 0, .int .i64 0] 45
  obtain ⟨v, hv⟩ : ∃ v, (#[.int .i64 0, .int .i64 0, .int .i64 0, .int .i64 0, .int .i64 0, .string ⟨#[]⟩, .string ⟨#[]⟩, .int .u64 0, .int .i64 0, .int .i64 0, .int .i64 0, .int .i64 0] : Array Value)[j]? = some v := ⟨_, Array.getElem?_eq_getElem (show j < 12 from hj)⟩
  rw [Nat.zero_add]
  exact ⟨by rw [hb.cell _ v hv]; rfl, hb.free _⟩
theorem put_below (w : World) (o : Obj) (L : List Value) : Below w.heap.size w ((w.alloc o).setCells w.heap.size 0 L) := by
  have h := Mod.setCells (fun k => k = w.heap.size) w.heap.size rfl L 0 (w.alloc o)
  exact (below_alloc w o).trans (h.below (below_alloc w o).size (fun _ hi => Nat.le_of_eq hi.symm))
theorem putZ {w w' : World} {s : SesM} (h : Hid (w' = (w.alloc (.cells #[.int .i64 0, .int .i64 0, .int .i64 0, .int .i64 0, .int .i64 0, .string ⟨#[]⟩, .string ⟨#[]⟩, .int .u64 0, .int .i64 0, .int .i64 0, .int .i64 0, .int .i64 0] 45)).setCells w.heap.size 0 s.cells.toList)) : Box w' w.heap.size s.cells 45 ∧ Below w.heap.size w w' := by
  rw [h.out]
  have hb := Box.new w #[.int .i64 0, .int .i64 0, .int .i64 0, .int .i64 0, .int .i64 0, .string ⟨#[]⟩, .string ⟨#[]⟩, .int .u64 0, .int .i64 0, .int .i64 0, .int .i64 0, .int .i64 0] 45
  obtain ⟨cs', h1, h2, h3, _⟩ := Box.setCells s.cells.toList 0 hb (by show 0 + 12 ≤ 12; decide)
  have e1 : cs' = s.cells := by
    apply Array.ext_getElem?
    intro j
    by_cases hj : j < 12
    · have := h3 j _ (List.getElem?_eq_getElem (show j < s.cells.toList.length from hj))
      rw [Nat.zero_add] at this
      rw [this, ← Array.getElem?_toList, List.getElem?_eq_getElem (show j < s.cells.toList.length from hj)]
    · rw [Array.getElem?_eq_none (by rw [h2]; show 12 ≤ j; omega), Array.getElem?_eq_none (by show 12 ≤ j; omega)]
  rw [e1] at h1
  exact ⟨h1, put_below w _ _⟩
theorem Box.rangeS {w : World} {b : Nat} {s : SesM} {t : TypeId} (h : Box w b s.cells t) : w.rangeAt b 0 s.cells.toList := fun j v hv => by rw [Nat.zero_add]; exact h.cell j v (by simpa using hv)
end Go.Proofs.YtgcnolapjppbpaaGreatDoor
namespace Go.Proofs.YtgcnolapjppbpaaGreatDoor
open Go.RowKit
theorem below_drewN (w : World) (k : Nat) : Below w.heap.size w (w.drewN k) := ⟨rfl, rfl, rfl, Nat.le_refl _, fun _ _ => rfl⟩
end Go.Proofs.YtgcnolapjppbpaaGreatDoor
