/-
  Texts of one proof, one behind the other.
-/
import Derived.Test.YtgcnolapjppbpaaGreatDoorK22
import Derived.Test.YtgcnolapjppbpaaGreatDoorK19
import Derived.Test.YtgcnolapjppbpaaGreatDoorK35
import Derived.Test.YtgcnolapjppbpaaGreatDoorK31
import Derived.Test.YtgcnolapjppbpaaGreatDoorK26
import Derived.Test.YtgcnolapjppbpaaGreatDoorK06
namespace Go.Proofs.YtgcnolapjppbpaaGreatDoor
open Go.RowKit
set_option maxRecDepth 100000
def flatE (l : List EvtM) : List Value := l.flatMap (fun s => s.cells.toList)
theorem flatE_length (l : List EvtM) : (flatE l).length = l.length * 15 := by
  induction l with
  | nil => rfl
  | cons s l ih =>
    have : (flatE (s :: l)).length = 15 + (flatE l).length := by unfold flatE; rw [List.flatMap_cons, List.length_append]; rfl
    rw [this, ih, List.length_cons]; omega
theorem flatE_append (a b : List EvtM) : flatE (a ++ b) = flatE a ++ flatE b := by unfold flatE; rw [List.flatMap_append]
theorem flatE_one (s : EvtM) : flatE [s] = s.cells.toList := by unfold flatE; simp
theorem flatE_at : ∀ (l : List EvtM) (k j : Nat), j < 15 → (flatE l)[k * 15 + j]? = l[k]?.bind (fun s => s.cells.toList[j]?)
  | [], _, _, _ => by simp [flatE]
  | e :: l, k, j, hj => by
    have h15 : e.cells.toList.length = 15 := rfl
    unfold flatE
    rw [List.flatMap_cons]
    cases k with
    | zero =>
      rw [List.getElem?_append_left (by omega)]
      simp
    | succ k =>
      rw [List.getElem?_append_right (by omega), h15, show (k + 1) * 15 + j - 15 = k * 15 + j by omega]
      have := flatE_at l k j hj
      unfold flatE at this
      rw [this]
      simp
def RdE (w : World) (v : Value) (l : List EvtM) : Prop := Rd w v l.length (flatE l)
theorem RdE.below {w w' : World} {v : Value} {l : List EvtM} (h : RdE w v l) (hb : Below w.heap.size w w') : RdE w' v l := Rd.below h hb
theorem RdE.slice {w : World} {v : Value} {l : List EvtM} (h : RdE w v l) : ∃ a cap, v = .slice a l.length cap ∧ l.length ≤ cap ∧ cap ≤ 9223372036854775807 := by
  obtain ⟨a, cap, h1, h2, h3, _⟩ := h; exact ⟨a, cap, h1, h2, h3⟩
theorem RdE.row {w : World} {a : Option Addr} {n cap : Nat} {l : List EvtM} (h : RdE w (.slice a n cap) l) (k : Nat) (hk : k < l.length) : ∃ b off, a = some ⟨b, off, none⟩ ∧ w.rangeAt b (off + k * 15) (l[k]).cells.toList := by
  obtain ⟨a', cap', e, h1, h2, _, h3⟩ := h
  injection e with e1 e2 e3
  subst e1
  have hl := flatE_length l
  obtain ⟨b, off, rfl, _⟩ := h3 (k * 15) (by omega)
  refine ⟨b, off, rfl, fun j v hv => ?_⟩
  have hj : j < 15 := (List.getElem?_eq_some_iff.1 hv).1
  obtain ⟨b', off', e', h4⟩ := h3 (k * 15 + j) (by omega)
  injection e' with e'; injection e' with e5 e6
  subst e5; subst e6
  rw [Nat.add_assoc, h4]
  have h5 := flatE_at l k j hj
  rw [List.getElem?_eq_getElem hk] at h5
  rw [List.getD, h5]
  show some ((l[k].cells.toList[j]?).getD undef) = some v
  rw [hv]; rfl
theorem RdE.cut {w : World} {a : Option Addr} {cap : Nat} {l : List EvtM} (h : RdE w (.slice a l.length cap) l) (k : Nat) (hk : k ≤ l.length) : RdE w (.slice a k cap) (l.take k) := by
  have hc : l.length ≤ cap := by obtain ⟨_, _, e, h5, _⟩ := h; injection e with _ _ e3; omega
  have := Rd.cut (m := k) h (by omega) (k * 15)
  unfold RdE
  have e : flatE (l.take k) = (flatE l).take (k * 15) := by
    have h1 : flatE l = flatE (l.take k) ++ flatE (l.drop k) := by rw [← flatE_append, List.take_append_drop]
    rw [h1, List.take_left' (by rw [flatE_length, List.length_take]; omega)]
  rw [e, List.length_take, Nat.min_eq_left hk]; exact this
theorem EvtM.oneE (e0 : EvtM) : ∀ v ∈ e0.cells.toList, v.oneCell' = true := by
  intro v hv
  rw [e0.cellsE] at hv
  simp only [List.mem_cons, List.not_mem_nil, or_false] at hv
  rcases hv with rfl | rfl | rfl | rfl | rfl | rfl | rfl | rfl | rfl | rfl | rfl | rfl | rfl | rfl | rfl <;> rfl
def OwnE (w : World) (base : Nat) (v : Value) (l : List EvtM) : Prop := w.ownsRow base 47 15 v l.length (flatE l)
theorem OwnE.nil (w : World) (base : Nat) : OwnE w base (.slice none 0 0) [] := ⟨rfl, .inl ⟨rfl, rfl⟩⟩
theorem OwnE.rd {w : World} {base : Nat} {v : Value} {l : List EvtM} (h : OwnE w base v l) : RdE w v l := rd_of_own h
theorem OwnE.below {w w' : World} {base : Nat} {v : Value} {l : List EvtM} (h : OwnE w base v l) (hb : Below w.heap.size w w') : OwnE w' base v l := own_below h hb
end Go.Proofs.YtgcnolapjppbpaaGreatDoor
namespace Go.Proofs.YtgcnolapjppbpaaGreatDoor
open Go.RowKit
set_option maxRecDepth 100000
theorem LentS.slice {w : World} {base : Nat} {v : Value} {l : List SesM} (h : LentS w base v l) : ∃ a cap, v = .slice a l.length cap ∧ l.length ≤ cap := by
  obtain ⟨a, cap, h1, h2⟩ := h
  obtain ⟨a', cap', e, h3⟩ := h2.slice
  injection e with e1 e2 e3
  exact ⟨a, cap, h1, by rw [full_len] at h3; omega⟩
theorem LentS.lt {w : World} {base : Nat} {v : Value} {l : List SesM} (h : LentS w base v l) : ∀ k, v.ownBlock = some k → base ≤ k ∧ k < w.heap.size := by
  obtain ⟨a, cap, rfl, h2⟩ := h
  exact fun k hk => h2.lt k (by cases a <;> exact hk)
theorem LentS.base {w : World} {base base' : Nat} {v : Value} {l : List SesM} (h : LentS w base v l) (hb : base' ≤ base) : LentS w base' v l := by
  obtain ⟨a, cap, rfl, h2⟩ := h; exact ⟨a, cap, rfl, h2.base hb⟩
end Go.Proofs.YtgcnolapjppbpaaGreatDoor
namespace Go.Proofs.YtgcnolapjppbpaaGreatDoor
open Go.RowKit
set_option maxRecDepth 100000
theorem info_evt : (Tryz.prog.info? 47).map (fun i => (i.zero, i.size, i.bytes)) = some (some (.agg #[.int .i64 0, .int .i64 0, .int .i64 0, .int .i64 0, .int .i64 0, .int .i64 0, .string ⟨#[]⟩, .string ⟨#[]⟩, .int .u64 0, .int .i64 0, .int .i64 0, .int .i64 0, .int .i64 0, .int .i64 0, .int .i64 0]), 15, 136) := by kernel_rfl
theorem EvtM.listE (s : EvtM) : Hid (s.cells = s.cells.toList.toArray) := Lib.hid rfl
theorem OwnE.slice {w : World} {base : Nat} {v : Value} {l : List EvtM} (h : OwnE w base v l) : ∃ a cap, v = .slice a l.length cap ∧ l.length ≤ cap := by
  obtain ⟨a, cap, h1, h2, _⟩ := h.rd.slice; exact ⟨a, cap, h1, h2⟩
theorem OwnE.lt {w : World} {base : Nat} {v : Value} {l : List EvtM} (h : OwnE w base v l) : ∀ k, v.ownBlock = some k → base ≤ k ∧ k < w.heap.size := own_lt h
theorem OwnE.mod {w w' : World} {base : Nat} {v : Value} {l : List EvtM} {F : Nat → Prop} (h : OwnE w base v l) (hm : Mod F w w') (hb : ∀ k, v.ownBlock = some k → ¬ F k) : OwnE w' base v l := own_mod h hm hb
theorem OwnE.base {w : World} {base base' : Nat} {v : Value} {l : List EvtM} (h : OwnE w base v l) (hb : base' ≤ base) : OwnE w base' v l := own_base h hb
theorem thereZE (w : World) (s : EvtM) : (w.alloc (.cells #[.int .i64 0, .int .i64 0, .int .i64 0, .int .i64 0, .int .i64 0, .int .i64 0, .string ⟨#[]⟩, .string ⟨#[]⟩, .int .u64 0, .int .i64 0, .int .i64 0, .int .i64 0, .int .i64 0, .int .i64 0, .int .i64 0] 47)).there w.heap.size 0 s.cells.toList.length := by
  intro j hj
  have hj : j < 15 := hj
  have hb := Box.new w #[.int .i64 0, .int .i64 0, .int .i64 0, .int .i64 0, .int .i64 0, .int .i64 0, .string ⟨#[]⟩, .string ⟨#[]⟩, .int .u64 0, .int .i64 0, .int .i64 0, .int .i64 0, .int .i64 0, .int .i64 0, .int .i64 0] 47
  obtain ⟨v, hv⟩ : ∃ v, (#[.int .i64 0, .int .i64 0, .int .i64 0, .int .i64 0, .int .i64 0, .int .i64 0, .string ⟨#[]⟩, .string ⟨#[]⟩, .int .u64 0, .int .i64 0, .int .i64 0, .int .i64 0, .int .i64 0, .int .i64 0, .int .i64 0] : Array Value)[j]? = some v := ⟨_, Array.getElem?_eq_getElem (show j < 15 from hj)⟩
  rw [Nat.zero_add]
  exact ⟨by rw [hb.cell _ v hv]; rfl, hb.free _⟩
theorem putZE {w w' : World} {s : EvtM} (h : Hid (w' = (w.alloc (.cells #[.int .i64 0, .int .i64 0, .int .i64 0, .int .i64 0, .int .i64 0, .int .i64 0, .string ⟨#[]⟩, .string ⟨#[]⟩, .int .u64 0, .int .i64 0, .int .i64 0, .int .i64 0, .int .i64 0, .int .i64 0, .int .i64 0] 47)).setCells w.heap.size 0 s.cells.toList)) : Box w' w.heap.size s.cells 47 ∧ Below w.heap.size w w' := by
  rw [h.out]
  have hb := Box.new w #[.int .i64 0, .int .i64 0, .int .i64 0, .int .i64 0, .int .i64 0, .int .i64 0, .string ⟨#[]⟩, .string ⟨#[]⟩, .int .u64 0, .int .i64 0, .int .i64 0, .int .i64 0, .int .i64 0, .int .i64 0, .int .i64 0] 47
  obtain ⟨cs', h1, h2, h3, _⟩ := Box.setCells s.cells.toList 0 hb (by show 0 + 15 ≤ 15; decide)
  have e1 : cs' = s.cells := by
    apply Array.ext_getElem?
    intro j
    by_cases hj : j < 15
    · have := h3 j _ (List.getElem?_eq_getElem (show j < s.cells.toList.length from hj))
      rw [Nat.zero_add] at this
      rw [this, ← Array.getElem?_toList, List.getElem?_eq_getElem (show j < s.cells.toList.length from hj)]
    · rw [Array.getElem?_eq_none (by rw [h2]; show 15 ≤ j; omega), Array.getElem?_eq_none (by show 15 ≤ j; omega)]
  rw [e1] at h1
  exact ⟨h1, put_below w _ _⟩
theorem buildE (s : EvtM) (w : World) : (Instr.buildSlice 22 1 #[(0, .agg s.cells)]).run Tryz.prog w = .ok (.slice (some ⟨w.heap.size, 0, none⟩) 1 1) (w.alloc (.cells s.cells 47)) := by kernel_rfl
theorem appEvt {w : World} {ops : Array Oper} {rest : List Oper} {o : Oper} {a : Act} {Q : Exit → Act → World → Prop} (hgd : o.guard = none) (s x : Operand)
    (ho : o.op = .call { callee := .builtin .append, args := #[s, x], argTypes := #[22, 22] })
    (base : Nat) (v : Value) (l : List EvtM) (hs : a.eval s = v) (hown : OwnE w base v l)
    (ad : Addr) (c : Nat) (y : EvtM) (hx : a.eval x = .slice (some ad) 1 c) (hy : ∀ j u, y.cells.toList[j]? = some u → w.cell? (ad.add j) = some u)
    (hroom : l.length + 1 ≤ 1034834473200) (hbase : base ≤ w.heap.size)
    (h : ∀ v' w', OwnE w' base v' (l ++ [y]) → w.grownBy w' v.ownBlock → Moved w v v' → wpList Tryz.prog ops Q rest (a.put o.dst v') w') : wpList Tryz.prog ops Q (o :: rest) a w := by
  obtain ⟨i0, hi, hz0, hz1, hz2⟩ := info_parts info_evt
  refine wpList_append_own2 hgd s x 22 ho base 47 i0 _ 15 136 Tryz.underlying22 hi hz0 hz1 hz2 rfl (by decide) v l.length (flatE l) hs hown ad 1 c y.cells.toList hx rfl hy y.oneE (by unfold maxLen; omega) (by omega) hbase (fun v' w' h1 h2 h3 => h v' w' ?_ h2 h3)
  unfold OwnE
  rw [flatE_append, flatE_one, List.length_append]; exact h1
theorem newCellsE (w : World) (s : EvtM) (t : TypeId) : ∀ j u, s.cells.toList[j]? = some u → (w.alloc (.cells s.cells t)).cell? ((⟨w.heap.size, 0, none⟩ : Addr).add j) = some u := fun j u hj => World.news_of_block (heap_alloc_new w (.cells s.cells t)) j u hj
theorem Box.setAllE {w : World} {b : Nat} {cs : Array Value} {t : TypeId} (h : Box w b cs t) (hs : cs.size = 15) (s : EvtM) : Box (w.setCells b 0 s.cells.toList) b s.cells t ∧ w.there b 0 s.cells.toList.length := by
  constructor
  · obtain ⟨cs', h1, h2, h3, _⟩ := Box.setCells s.cells.toList 0 h (by show 0 + 15 ≤ cs.size; omega)
    have e1 : cs' = s.cells := by
      apply Array.ext_getElem?
      intro j
      by_cases hj : j < 15
      · have := h3 j _ (List.getElem?_eq_getElem (show j < s.cells.toList.length from hj))
        rw [Nat.zero_add] at this
        rw [this, ← Array.getElem?_toList, List.getElem?_eq_getElem (show j < s.cells.toList.length from hj)]
      · rw [Array.getElem?_eq_none (by omega), Array.getElem?_eq_none (by show 15 ≤ j; omega)]
    rw [e1] at h1
    exact h1
  · intro j hj
    have hj : j < 15 := hj
    obtain ⟨v, hv⟩ : ∃ v, cs[j]? = some v := ⟨_, Array.getElem?_eq_getElem (by omega)⟩
    rw [Nat.zero_add]
    exact ⟨by rw [h.cell _ v hv]; rfl, h.free _⟩
def markEv (k i : Int) : EvtM := ⟨-7 - k, noSes, 0, i⟩
def mksE (n : Nat) : List EvtM := (List.range n).map (fun i : Nat => markEv 90 (i : Int))
theorem mksE_length (n : Nat) : (mksE n).length = n := by simp [mksE]
def LentE (w : World) (base : Nat) (v : Value) (l : List EvtM) : Prop := ∃ a cap, v = .slice a l.length cap ∧ OwnE w base (.slice a (l.length + 16) cap) (l ++ mksE 16)
theorem LentE.below {w w' : World} {base : Nat} {v : Value} {l : List EvtM} (h : LentE w base v l) (hb : Below w.heap.size w w') : LentE w' base v l := by
  obtain ⟨a, cap, h1, h2⟩ := h; exact ⟨a, cap, h1, h2.below hb⟩
theorem full_lenE (l : List EvtM) : (l ++ mksE 16).length = l.length + 16 := by rw [List.length_append, mksE_length]
theorem LentE.rd {w : World} {base : Nat} {v : Value} {l : List EvtM} (h : LentE w base v l) : RdE w v l := by
  obtain ⟨a, cap, rfl, h2⟩ := h
  have h3 := h2.rd
  rw [← full_lenE] at h3
  have := h3.cut l.length (by rw [full_lenE]; omega)
  rw [List.take_left] at this
  exact this
theorem LentE.mod {w w' : World} {base : Nat} {v : Value} {l : List EvtM} {F : Nat → Prop} (h : LentE w base v l) (hm : Mod F w w') (hb : ∀ k, v.ownBlock = some k → ¬ F k) : LentE w' base v l := by
  obtain ⟨a, cap, rfl, h2⟩ := h; exact ⟨a, cap, rfl, h2.mod hm (fun k hk => hb k (by cases a <;> exact hk))⟩
theorem LentE.slice {w : World} {base : Nat} {v : Value} {l : List EvtM} (h : LentE w base v l) : ∃ a cap, v = .slice a l.length cap ∧ l.length ≤ cap := by
  obtain ⟨a, cap, h1, h2⟩ := h
  obtain ⟨a', cap', e, h3⟩ := h2.slice
  injection e with e1 e2 e3
  exact ⟨a, cap, h1, by rw [full_lenE] at h3; omega⟩
theorem LentE.lt {w : World} {base : Nat} {v : Value} {l : List EvtM} (h : LentE w base v l) : ∀ k, v.ownBlock = some k → base ≤ k ∧ k < w.heap.size := by
  obtain ⟨a, cap, rfl, h2⟩ := h
  exact fun k hk => h2.lt k (by cases a <;> exact hk)
theorem LentE.base {w : World} {base base' : Nat} {v : Value} {l : List EvtM} (h : LentE w base v l) (hb : base' ≤ base) : LentE w base' v l := by
  obtain ⟨a, cap, rfl, h2⟩ := h; exact ⟨a, cap, rfl, h2.base hb⟩
end Go.Proofs.YtgcnolapjppbpaaGreatDoor
namespace Go.Proofs.YtgcnolapjppbpaaGreatDoor
set_option maxRecDepth 100000
open Go.RowKit
theorem u8_of_wf {n : Int} (h : (Lit.int .u8 n).wf = true) : ∃ c : UInt8, n = (c.toNat : Int) := by
  simp [Lit.wf, IntKind.min, IntKind.max, IntKind.signed, IntKind.bits] at h
  refine ⟨UInt8.ofNat n.toNat, ?_⟩
  have : (UInt8.ofNat n.toNat).toNat = n.toNat := by show n.toNat % 2 ^ 8 = _; omega
  rw [this]; omega
theorem u32_of_wf {n : Int} (h : (Lit.int .u32 n).wf = true) : ∃ c : UInt32, n = (c.toNat : Int) := by
  simp [Lit.wf, IntKind.min, IntKind.max, IntKind.signed, IntKind.bits] at h
  refine ⟨UInt32.ofNat n.toNat, ?_⟩
  have : (UInt32.ofNat n.toNat).toNat = n.toNat := by show n.toNat % 2 ^ 32 = _; omega
  rw [this]; omega
theorem Arg.u32 {up : Bool} {W : World} {v : Value} (h : Arg up 87 W v) : ∃ e : UInt32, v = .int .u32 (e.toNat : Int) := by
  obtain ⟨n, rfl, hw⟩ := h.int (k := .u32) Tryz.underlying87
  obtain ⟨c, rfl⟩ := u32_of_wf hw
  exact ⟨c, rfl⟩
theorem ArgC.bytes {up : Bool} {N : Nat} {W : World} {v : Value} (h : ArgC up N 92 W [v]) :
    ∃ l : List UInt8, Rd W v l.length (l.map V8) ∧ (up = true → l.length + 1 ≤ N) ∧ (up = false → l.length ≤ 140737488351232) := by
  obtain ⟨l, h1, h2, Ns, h3, h4, h5⟩ := h.flat 0 (fun n : UInt8 => [V8 n]) (fun _ => rfl) (by decide) (fun _ _ => True) Tryz.underlying92 (by kernel_rfl) (fun N cs hl hc => by
    match cs, hl with
    | [c0], _ =>
      obtain ⟨n, e1, hw⟩ := hc.int (k := .u8) Tryz.underlying5
      simp only [List.cons.injEq, and_true] at e1
      obtain ⟨c, hc⟩ := u8_of_wf hw
      exact ⟨c, by rw [e1, hc]; rfl, trivial⟩)
  refine ⟨l, ?_, fun hu => (h4 hu).2, fun hu => ?_⟩
  · have e : l.flatMap (fun n : UInt8 => [V8 n]) = l.map V8 := List.map_eq_flatMap.symm
    rw [e] at h1; exact h1
  · have := h2 hu
    rw [show Tryz.prog.bytesOf 5 = 1 by kernel_rfl] at this; omega
end Go.Proofs.YtgcnolapjppbpaaGreatDoor
namespace Go.Proofs.YtgcnolapjppbpaaGreatDoor
open Go.RowKit
structure EvOk (e : EvtM) : Prop where
  user : e.s.user.length ≤ 140737488351232
  label : e.s.label.length ≤ 140737488351232
  scopes : e.s.scopes < 2 ^ 64
  kind : I64 e.kind
  birth : I64 e.birth
  ticks : I64 e.ticks
  sSlot : I64 e.s.slot
  sBirth : I64 e.s.birth
  sUpS : I64 e.s.upS
  sUpB : I64 e.s.upB
  sKind : I64 e.s.kind
  sLevel : I64 e.s.level
  sBorn : I64 e.s.born
  sDeadline : I64 e.s.deadline
  sDepth : I64 e.s.depth
theorem u64_of_wf {n : Int} (h : (Lit.int .u64 n).wf = true) : ∃ k : Nat, n = (k : Int) ∧ k < 2 ^ 64 := by
  have h1 : 0 ≤ n ∧ n ≤ 18446744073709551615 := by simpa [Lit.wf, IntKind.min, IntKind.max, IntKind.bits, IntKind.signed] using h
  exact ⟨n.toNat, by omega, by omega⟩
set_option maxRecDepth 100000 in
theorem ArgC.event {N : Nat} {W : World} {cs : List Value} (hl : cs.length = 15) (h : ArgC false N 47 W cs) : ∃ e : EvtM, cs = e.cells.toList ∧ EvOk e := by
  match cs, hl with
  | [c0, c1, c2, c3, c4, c5, c6, c7, c8, c9, c10, c11, c12, c13, c14], _ =>
    have ci : Tryz.prog.cellsOf 3 = 1 := by kernel_rfl
    have cs' : Tryz.prog.cellsOf 9 = 1 := by kernel_rfl
    have cu : Tryz.prog.cellsOf 43 = 1 := by kernel_rfl
    have cl : Tryz.prog.cellsOf 41 = 2 := by kernel_rfl
    have cx : Tryz.prog.cellsOf 45 = 12 := by kernel_rfl
    have hs := Tryz.underlying47
    obtain ⟨n0, rfl, b0⟩ := h.fint hs 0 _ rfl ci c0 rfl .i64 Tryz.underlying3
    obtain ⟨M, _, g⟩ := h.fstruct hs 1 _ rfl 45 1 12 rfl rfl cx
    have g' : ArgC false M 45 W [c1, c2, c3, c4, c5, c6, c7, c8, c9, c10, c11, c12] := g
    have hx := Tryz.underlying45
    obtain ⟨n1, rfl, b1⟩ := g'.fint hx 0 _ rfl ci c1 rfl .i64 Tryz.underlying3
    obtain ⟨n2, rfl, b2⟩ := g'.fint hx 1 _ rfl ci c2 rfl .i64 Tryz.underlying3
    obtain ⟨M2, _, k⟩ := g'.fstruct hx 2 _ rfl 41 2 2 rfl rfl cl
    have k' : ArgC false M2 41 W [c3, c4] := k
    have hk := Tryz.underlying41
    obtain ⟨n3, rfl, b3⟩ := k'.fint hk 0 _ rfl ci c3 rfl .i64 Tryz.underlying3
    obtain ⟨n4, rfl, b4⟩ := k'.fint hk 1 _ rfl ci c4 rfl .i64 Tryz.underlying3
    obtain ⟨n5, rfl, b5⟩ := g'.fint hx 3 _ rfl ci c5 rfl .i64 Tryz.underlying3
    obtain ⟨s6, rfl, _, _, b6⟩ := g'.fstring hx 4 _ rfl cs' c6 rfl Tryz.underlying9
    obtain ⟨s7, rfl, _, _, b7⟩ := g'.fstring hx 5 _ rfl cs' c7 rfl Tryz.underlying9
    obtain ⟨n8, rfl, b8⟩ := g'.fint hx 6 _ rfl cu c8 rfl .u64 Tryz.underlying43
    obtain ⟨n9, rfl, b9⟩ := g'.fint hx 7 _ rfl ci c9 rfl .i64 Tryz.underlying3
    obtain ⟨n10, rfl, b10⟩ := g'.fint hx 8 _ rfl ci c10 rfl .i64 Tryz.underlying3
    obtain ⟨n11, rfl, b11⟩ := g'.fint hx 9 _ rfl ci c11 rfl .i64 Tryz.underlying3
    obtain ⟨n12, rfl, b12⟩ := g'.fint hx 10 _ rfl ci c12 rfl .i64 Tryz.underlying3
    obtain ⟨n13, rfl, b13⟩ := h.fint hs 2 _ rfl ci c13 rfl .i64 Tryz.underlying3
    obtain ⟨n14, rfl, b14⟩ := h.fint hs 3 _ rfl ci c14 rfl .i64 Tryz.underlying3
    obtain ⟨u, rfl, hu⟩ := SB_of s6
    obtain ⟨l, rfl, hl⟩ := SB_of s7
    obtain ⟨sc, rfl, hsc⟩ := u64_of_wf b8
    exact ⟨⟨n0, ⟨n1, n2, n3, n4, n5, u, l, sc, n9, n10, n11, n12⟩, n13, n14⟩, rfl, by rw [hu]; exact b6 rfl, by rw [hl]; exact b7 rfl, hsc, i64_of_wf b0, i64_of_wf b13, i64_of_wf b14, i64_of_wf b1, i64_of_wf b2, i64_of_wf b3, i64_of_wf b4, i64_of_wf b5, i64_of_wf b9, i64_of_wf b10, i64_of_wf b11, i64_of_wf b12⟩
set_option maxRecDepth 100000 in
theorem Arg.event {W : World} {v : Value} (h : Arg false 47 W v) : ∃ e : EvtM, v = .agg e.cells ∧ EvOk e := by
  obtain ⟨cs, rfl, h1⟩ := h.struct Tryz.underlying47
  have hl : cs.toList.length = 15 := by
    have := (h1.struct Tryz.underlying47).1
    rw [show Tryz.prog.cellsOf 47 = 15 by kernel_rfl] at this; exact this
  obtain ⟨e, he, hok⟩ := h1.event hl
  exact ⟨e, by rw [show cs = e.cells from Array.ext' he], hok⟩
end Go.Proofs.YtgcnolapjppbpaaGreatDoor
