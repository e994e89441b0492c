/-
  Small laws for all walks of this seat: numbers as Go holds them; slices that read as lists; what is owned.
-/
import Derived.Test.YtdaimaibnjkfbaaDoorRows
import Derived.WalkKit
import Derived.WalkSpells
import Derived.WalkLawsBesides
import Derived.Lib.Hide
import Derived.Handy
import Derived.StillTailTactics
import Derived.BigQuiet
import Derived.Deep.QuietTactic
import Derived.Deep.RegionHeld3
import Derived.Deep.RegionWith
import Derived.Deep.AppendLies
import Derived.Laws.EntriesVeiled
import Derived.Deep.DeepCutAuto
import Derived.Deep.CutBlock
import Derived.Deep.LoopGhost
import Derived.Deep.DeepMust
import Derived.Lib.ConvBytes
import Derived.Lib.AppendStr
namespace Go.Proofs.YtdaimaibnjkfbaaDoor
open Go.RowKit

/-- A number of 32 bits as Go holds it. -/
def I32 (u : UInt32) : Int := (u.toNat : Int)
theorem I32_lt (u : UInt32) : 0 ≤ I32 u ∧ I32 u < 4294967296 := by unfold I32; have := u.toNat_lt; omega
theorem I32_inj {a b : UInt32} (h : I32 a = I32 b) : a = b := by unfold I32 at h; exact UInt32.toNat_inj.1 (by omega)
theorem I32_ofInt (u : UInt32) : BitVec.ofInt 32 (I32 u) = u.toBitVec := by
  unfold I32; rw [BitVec.ofInt_natCast]; simp
theorem wrap_u32n (n : Nat) (h : n < 4294967296) : IntKind.u32.wrap (n : Int) = (n : Int) := by
  simp [IntKind.wrap, IntKind.bits, IntKind.signed]; omega
theorem I32_of_bv (b : BitVec 32) : IntKind.u32.wrap (b.toNat : Int) = I32 (UInt32.ofBitVec b) := by
  rw [wrap_u32n _ b.isLt]; rfl
@[go_sem] theorem I32_and (a b : UInt32) : bits .and .u32 (I32 a) (I32 b) = I32 (a &&& b) := by
  show IntKind.u32.wrap ((BitVec.ofInt 32 (I32 a) &&& BitVec.ofInt 32 (I32 b)).toNat : Int) = _
  rw [I32_of_bv, I32_ofInt, I32_ofInt]; rfl
@[go_sem] theorem I32_xor (a b : UInt32) : bits .xor .u32 (I32 a) (I32 b) = I32 (a ^^^ b) := by
  show IntKind.u32.wrap ((BitVec.ofInt 32 (I32 a) ^^^ BitVec.ofInt 32 (I32 b)).toNat : Int) = _
  rw [I32_of_bv, I32_ofInt, I32_ofInt]; rfl
@[go_sem] theorem I32_or (a b : UInt32) : bits .or .u32 (I32 a) (I32 b) = I32 (a ||| b) := by
  show IntKind.u32.wrap ((BitVec.ofInt 32 (I32 a) ||| BitVec.ofInt 32 (I32 b)).toNat : Int) = _
  rw [I32_of_bv, I32_ofInt, I32_ofInt]; rfl
@[go_sem] theorem I32_not (a : UInt32) : bits .xor .u32 IntKind.u32.max (I32 a) = I32 (~~~a) := by
  show IntKind.u32.wrap ((BitVec.ofInt 32 IntKind.u32.max ^^^ BitVec.ofInt 32 (I32 a)).toNat : Int) = _
  have h : BitVec.ofInt 32 IntKind.u32.max = BitVec.allOnes 32 := by decide
  rw [I32_of_bv, h, I32_ofInt, BitVec.allOnes_xor]; rfl
@[go_sem] theorem I32_byte (c : UInt8) : ((c.toNat : Int) % 4294967296) = I32 c.toUInt32 := by
  unfold I32; have := c.toNat_lt; simp; omega
theorem I32_shr1 (x : UInt32) : I32 x / (2 : Int) = I32 (x >>> 1) := by
  unfold I32; simp [Nat.shiftRight_eq_div_pow]
theorem I32_neg (x : UInt32) : -(I32 x) % 4294967296 = I32 (-x) := by
  unfold I32; have := x.toNat_lt
  rw [UInt32.toNat_neg]; unfold UInt32.size; omega

/-- A byte as a value. -/
def V8 (c : UInt8) : Value := .int .u8 (c.toNat : Int)
theorem V8_inj {a b : UInt8} (h : V8 a = V8 b) : a = b := by
  unfold V8 at h; injection h with _ h; exact UInt8.toNat_inj.1 (by omega)
theorem map_V8_inj {a b : List UInt8} (h : a.map V8 = b.map V8) : a = b := by
  induction a generalizing b with
  | nil => cases b with
    | nil => rfl
    | cons _ _ => simp at h
  | cons x a ih => cases b with
    | nil => simp at h
    | cons y b => simp only [List.map_cons, List.cons.injEq] at h; rw [V8_inj h.1, ih h.2]

theorem below_heap {w w' : World} (hb : Below w.heap.size w w') {a : Addr} {x : Value} (h : w.cell? a = some x) : w'.cell? a = some x := by
  rw [hb.cell (World.block_lt_of_cell? w a h)]; exact h

/-- What a slice reads as: n elements, so many cells. -/
def Rd (w : World) (v : Value) (n : Nat) (xs : List Value) : Prop :=
  ∃ a cap, v = .slice a n cap ∧ n ≤ cap ∧ cap ≤ 9223372036854775807 ∧ (a = none → cap = 0) ∧ (∀ j, j < xs.length → ∃ b off, a = some ⟨b, off, none⟩ ∧ w.cell? ⟨b, off + j, none⟩ = some (xs.getD j undef))
theorem Rd.nil (w : World) : Rd w (.slice none 0 0) 0 [] := ⟨none, 0, rfl, by omega, by omega, fun _ => rfl, fun j h => by simp at h⟩
theorem Rd.below {w w' : World} {v : Value} {n : Nat} {xs : List Value} (h : Rd w v n xs) (hb : Below w.heap.size w w') : Rd w' v n xs := by
  obtain ⟨a, cap, rfl, h1, h2, h0, h3⟩ := h
  refine ⟨a, cap, rfl, h1, h2, h0, fun j hj => ?_⟩
  obtain ⟨b, off, rfl, h4⟩ := h3 j hj
  exact ⟨b, off, rfl, below_heap hb h4⟩
theorem Rd.keep {w w' : World} {v : Value} {n : Nat} {xs : List Value} (h : Rd w v n xs) (hb : ∀ k, v.ownBlock = some k → k < w.heap.size → w'.heap[k]? = w.heap[k]?) : Rd w' v n xs := by
  obtain ⟨a, cap, rfl, h1, h2, h0, h3⟩ := h
  refine ⟨a, cap, rfl, h1, h2, h0, fun j hj => ?_⟩
  obtain ⟨b, off, rfl, h4⟩ := h3 j hj
  refine ⟨b, off, rfl, ?_⟩
  rw [World.cell?_of_block (w := w) (hb b rfl (World.block_lt_of_cell? w _ h4))]; exact h4
/-- A shorter slice of the same. -/
theorem Rd.cut {w : World} {a : Option Addr} {cap n m : Nat} {xs : List Value} (h : Rd w (.slice a n cap) n xs) (hm : m ≤ cap) (k : Nat) : Rd w (.slice a m cap) m (xs.take k) := by
  obtain ⟨a', cap', h0, h1, h2, h9, h3⟩ := h
  injection h0 with e1 e2 e3
  subst e1; subst e3
  refine ⟨a, cap, rfl, hm, h2, h9, fun j hj => ?_⟩
  rw [List.length_take] at hj
  obtain ⟨b, off, rfl, h4⟩ := h3 j (by omega)
  refine ⟨b, off, rfl, ?_⟩
  rw [h4, List.getD, List.getD, List.getElem?_take, if_pos (by omega)]
theorem Rd.len {w : World} {v : Value} {n : Nat} {xs : List Value} (h : Rd w v n xs) : n ≤ 9223372036854775807 := by
  obtain ⟨a, cap, rfl, h1, h2, _⟩ := h; omega
theorem rd_of_own {w : World} {base : Nat} {e : TypeId} {size n : Nat} {v : Value} {xs : List Value} (h : w.ownsRow base e size v n xs) : Rd w v n xs := by
  obtain ⟨h0, h⟩ := h
  rcases h with ⟨rfl, rfl⟩ | ⟨g, cap, cur, rfl, hb, hg, hn, hc, hs, ht⟩
  · have : xs = [] := List.eq_nil_of_length_eq_zero (by simpa using h0)
    subst this; exact Rd.nil w
  · refine ⟨_, cap, rfl, hn, by unfold maxLen at hc; omega, (fun h => by cases h), fun j hj => ⟨g, 0, rfl, ?_⟩⟩
    have hc2 : w.cell? ⟨g, 0 + j, none⟩ = cur[0 + j]? := cell_of_row w g (0 + j) cur e (0, 0) hg
    rw [hc2, Nat.zero_add, ← ht, List.getD, List.getElem?_take, if_pos (by omega)]
    have : j < cur.size := by
      have h1 : (cur.toList.take (n * size)).length = xs.length := by rw [ht]
      rw [List.length_take, Array.length_toList] at h1; omega
    simp [Array.getElem?_eq_getElem this]
theorem own_lt {w : World} {base : Nat} {e : TypeId} {size n : Nat} {v : Value} {xs : List Value} (h : w.ownsRow base e size v n xs) : ∀ k, v.ownBlock = some k → base ≤ k ∧ k < w.heap.size := h.lt
/-- An owned row stays where the blocks below its end stay. -/
theorem own_below {w w' : World} {base : Nat} {e : TypeId} {size n : Nat} {v : Value} {xs : List Value} (h : w.ownsRow base e size v n xs) (hb : Below w.heap.size w w') : w'.ownsRow base e size v n xs := by
  refine ⟨h.1, ?_⟩
  rcases h.2 with hn | ⟨g, cap, cur, rfl, hbg, hg, rest⟩
  · exact .inl hn
  · exact .inr ⟨g, cap, cur, rfl, hbg, by rw [hb.block g (lt_of_block hg)]; exact hg, rest⟩
theorem own_base {w : World} {base base' : Nat} {e : TypeId} {size n : Nat} {v : Value} {xs : List Value} (h : w.ownsRow base e size v n xs) (hb : base' ≤ base) : w.ownsRow base' e size v n xs := by
  refine ⟨h.1, ?_⟩
  rcases h.2 with hn | ⟨g, cap, cur, rfl, hbg, rest⟩
  · exact .inl hn
  · exact .inr ⟨g, cap, cur, rfl, by omega, rest⟩
theorem below_grown {B : Nat} {w w' : World} {v : Value} (hg : w.grownBy w' v.ownBlock) (hB : B ≤ w.heap.size) (hv : ∀ k, v.ownBlock = some k → B ≤ k) : Below B w w' :=
  (Below.refl B w).grown hg hB hv
theorem below_alloc (w : World) (o : Obj) : Below w.heap.size w (w.alloc o) := (Below.refl _ _).alloc (Nat.le_refl _) o
/-- Below the first heap's end, through a second step that keeps all of the first's end. -/
theorem below_trans {a b c : World} (h : Below a.heap.size a b) (k : Below b.heap.size b c) : Below a.heap.size a c := h.trans (k.mono h.size)
theorem ret_eq {v v' : Value} (h : v = v') : Ending.returned v = .returned v' := by rw [h]
/-- Two values lie in different blocks. -/
def Apart (u v : Value) : Prop := ∀ k, u.ownBlock = some k → v.ownBlock ≠ some k
/-- Behind an append the row is where it was, or in a new block. -/
def Moved (w : World) (v v' : Value) : Prop := v'.ownBlock = v.ownBlock ∨ v'.ownBlock = some w.heap.size
theorem Apart.symm {u v : Value} (h : Apart u v) : Apart v u := fun k h1 h2 => h k h2 h1
theorem Apart.moved {w : World} {u v v' : Value} (h : Apart u v) (hm : Moved w v v') (hu : ∀ k, u.ownBlock = some k → k < w.heap.size) : Apart u v' := by
  intro k hk
  rcases hm with e | e
  · rw [e]; exact h k hk
  · rw [e]; intro e2; injection e2 with e2; have := hu k hk; omega
theorem apart_nil (u : Value) : Apart u (.slice none 0 0) := fun k _ h => by simp [Value.ownBlock] at h
theorem nil_apart (u : Value) : Apart (.slice none 0 0) u := fun k h => by simp [Value.ownBlock] at h
theorem own_other {w w' : World} {base : Nat} {e : TypeId} {size n : Nat} {u v : Value} {xs : List Value} (h : w.ownsRow base e size u n xs) (hg : w.grownBy w' v.ownBlock) (ha : Apart u v) : w'.ownsRow base e size u n xs := by
  refine h.kept hg ?_
  cases hu : u.ownBlock with
  | none => exact .inl rfl
  | some k => exact .inr (fun e => ha k hu e.symm)
theorem run_append_own2 {P : Program} (w : World) (base : Nat) (t ty e : TypeId) (i : TypeInfo) (z : Value) (size bytes : Nat) (ht : P.underlying t = some (.slice e)) (hi : P.info? e = some i) (hz : i.zero = some z)
    (hsize : i.size = size) (hby : i.bytes = bytes) (hzs : z.cells.size = size) (hsz : 0 < size)
    (v : Value) (n : Nat) (xs : List Value) (hown : w.ownsRow base e size v n xs)
    (a : Addr) (m c : Nat) (news : List Value) (hl : news.length = m * size) (hnews : ∀ j u, news[j]? = some u → w.cell? (a.add j) = some u) (h1 : ∀ u ∈ news, u.oneCell' = true)
    (h63 : n + m ≤ maxLen) (hbytes : (n + m) * bytes ≤ 140737488355328) (hbase : base ≤ w.heap.size) :
    ∃ v' w', (Builtin.append_ #[t, t] ty #[v, .slice (some a) m c]).run P w = .ok v' w' ∧ w'.ownsRow base e size v' (n + m) (xs ++ news) ∧ w.grownBy w' v.ownBlock ∧ Moved w v v' := by
  obtain ⟨v', w', hr, h2, h3, h4⟩ := run_append_own (P := P) w base t ty e i z size bytes ht hi hz hsize hby hzs hsz v n xs hown a m c news hl hnews h1 h63 hbytes hbase
  refine ⟨v', w', hr, h2, h3, ?_⟩
  have hsmall : n + m ≤ 9223372036854775807 := by simp only [maxLen] at h63; omega
  rcases hown.2 with ⟨rfl, rfl⟩ | ⟨g, cap, cur, rfl, hbg, hg, hnc, hcm, hcs, htake⟩
  · by_cases hm : m = 0
    · subst hm
      have := (h4.2 ⟨rfl, rfl⟩); subst this; exact .inl rfl
    · subst hsize; subst hby
      have hr2 := run_append_nil (P := P) w t ty e i z ht hi hz a m c news hl hnews (by omega) (by omega) (by have hb := hbytes; simp only [Nat.zero_add] at hb; omega)
      rw [hr2] at hr
      injection hr with e1 e2
      subst e1; exact .inr rfl
  · by_cases hroom : n + m ≤ cap
    · subst hsize
      have hr2 := run_append_room (P := P) w t ty e i ht hi g n cap cur hg a m c news hl hnews h1 hroom (by rw [hl, hcs, ← Nat.add_mul]; exact Nat.mul_le_mul_right _ hroom)
      rw [hr2] at hr
      injection hr with e1 e2
      subst e1; exact .inl rfl
    · subst hsize; subst hby
      have hr2 := run_append_grow (P := P) w t ty e i z ht hi hz ⟨g, 0, none⟩ n cap xs hown.1 (hown.cells (g := g) rfl) a m c news hl hnews (by omega) (by omega) (growslice_fits (by omega) hbytes)
      rw [hr2] at hr
      injection hr with e1 e2
      subst e1; exact .inr rfl
theorem wpList_append_own2 {P : Program} {w : World} {ops : Array Oper} {rest : List Oper} {o : Oper} {a : Act} {Q : Exit → Act → World → Prop} (hgd : o.guard = none) (s x : Operand) (t : TypeId)
    (ho : o.op = .call { callee := .builtin .append, args := #[s, x], argTypes := #[t, t] })
    (base : Nat) (e : TypeId) (i : TypeInfo) (z : Value) (size bytes : Nat) (ht : P.underlying t = some (.slice e)) (hi : P.info? e = some i) (hz : i.zero = some z)
    (hsize : i.size = size) (hby : i.bytes = bytes) (hzs : z.cells.size = size) (hsz : 0 < size)
    (v : Value) (n : Nat) (xs : List Value) (hs : a.eval s = v) (hown : w.ownsRow base e size v n xs)
    (ad : Addr) (m c : Nat) (news : List Value) (hx : a.eval x = .slice (some ad) m c) (hl : news.length = m * size) (hnews : ∀ j u, news[j]? = some u → w.cell? (ad.add j) = some u) (h1 : ∀ u ∈ news, u.oneCell' = true)
    (h63 : n + m ≤ maxLen) (hbytes : (n + m) * bytes ≤ 140737488355328) (hbase : base ≤ w.heap.size)
    (h : ∀ v' w', w'.ownsRow base e size v' (n + m) (xs ++ news) → w.grownBy w' v.ownBlock → Moved w v v' → wpList P ops Q rest (a.put o.dst v') w') : wpList P ops Q (o :: rest) a w := by
  refine wpList_plain hgd fun _ hK => ?_
  obtain ⟨v', w', hr, h2, h3, h4⟩ := run_append_own2 (P := P) w base t o.type e i z size bytes ht hi hz hsize hby hzs hsz v n xs hown ad m c news hl hnews h1 h63 hbytes hbase
  unfold Oper.wp execOp
  simp only [ho, resolve, invoke, builtin, Sem.run_bind, Sem.run_pure, Result.andThen_ok, List.map_toArray, List.map_cons, List.map_nil, hs, hx, hr]
  exact hK _ _ (h v' w' h2 h3 h4)
/-- 's[k:]' of a slice of one-cell elements. -/
def tailV (a : Option Addr) (n cap k : Nat) : Value := .slice (if cap = k then a else a.map (·.add k)) (n - k) (cap - k)
theorem run_tail {P : Program} {t e : TypeId} (ht : P.underlying t = some (.slice e)) (hs : (P.info? e).map (·.size) = some 1) (a : Option Addr) (n cap k : Nat) (hk : k ≤ n) (w : World) :
    (Instr.slice t (.slice a n cap) (some (.int .i64 (k : Int))) none none).run P w = .ok (tailV a n cap k) w := by
  have hx : P.elem t = e := by unfold Program.elem; rw [ht]
  have hsz : (sizeOf e).run P w = .ok 1 w := by
    cases hi : P.info? e with
    | none => rw [hi] at hs; cases hs
    | some i =>
      rw [hi] at hs
      simp only [Option.map_some, Option.some.injEq] at hs
      simp [sizeOf, typeInfo, hi, hs]
  rw [run_slice_l w t a n cap (by rw [hx]; exact ht) .i64 (k : Int) (by omega) (by omega), hx, hsz]
  simp [Result.andThen, sliced, tailV]
theorem run_head {P : Program} {t e : TypeId} (ht : P.underlying t = some (.slice e)) (hs : ∃ k, (P.info? e).map (·.size) = some k) (a : Option Addr) (n cap k : Nat) (hk : k ≤ cap) (w : World) :
    (Instr.slice t (.slice a n cap) none (some (.int .i64 (k : Int))) none).run P w = .ok (.slice a k cap) w := by
  have hx : P.elem t = e := by unfold Program.elem; rw [ht]
  obtain ⟨sz, hs⟩ := hs
  have hsz : (sizeOf e).run P w = .ok sz w := by
    cases hi : P.info? e with
    | none => rw [hi] at hs; cases hs
    | some i =>
      rw [hi] at hs
      simp only [Option.map_some, Option.some.injEq] at hs
      simp [sizeOf, typeInfo, hi, hs]
  rw [run_slice_h w t a n cap (by rw [hx]; exact ht) .i64 (k : Int) (by omega) (by omega), hx, hsz]
  have : a.map (fun x => x.add 0) = a := by cases a <;> rfl
  simp [Result.andThen, sliced, this]
theorem tailV_rd {w : World} {a : Option Addr} {n cap k : Nat} {xs : List Value} (h : Rd w (.slice a n cap) n xs) (hk : k ≤ n) (hx : xs.length ≤ n) : Rd w (tailV a n cap k) (n - k) (xs.drop k) := by
  obtain ⟨a', cap', h0, h1, h2, h9, h3⟩ := h
  injection h0 with e1 e2 e3
  subst e1; subst e3
  refine ⟨_, _, rfl, by omega, by omega, (fun h => by
    have : cap = 0 := by
      by_cases hc : cap = k
      · rw [if_pos hc] at h; exact h9 h
      · rw [if_neg hc] at h; cases a with
        | none => exact h9 rfl
        | some _ => cases h
    omega), fun j hj => ?_⟩
  rw [List.length_drop] at hj
  obtain ⟨b, off, rfl, h4⟩ := h3 (k + j) (by omega)
  rw [if_neg (by omega)]
  refine ⟨b, off + k, by simp [Go.WideShapes.add_plain], ?_⟩
  rw [Nat.add_assoc, h4]; simp [List.getD]
theorem tailV_shape (a : Option Addr) (n cap k : Nat) : ∃ a', tailV a n cap k = .slice a' (n - k) (cap - k) := ⟨_, rfl⟩
/-- A block that is known whole. -/
def Box (w : World) (b : Nat) (cs : Array Value) (t : TypeId) : Prop := w.heap[b]? = some (.cells cs t (0, 0))
theorem Box.lt {w : World} {b : Nat} {cs : Array Value} {t : TypeId} (h : Box w b cs t) : b < w.heap.size := lt_of_block h
theorem Box.cell {w : World} {b : Nat} {cs : Array Value} {t : TypeId} (h : Box w b cs t) (j : Nat) (x : Value) (hx : cs[j]? = some x) : w.cell? ⟨b, j, none⟩ = some x := by
  unfold Box at h; simp [World.cell?, h, hx]
theorem Box.free {w : World} {b : Nat} {cs : Array Value} {t : TypeId} (h : Box w b cs t) (j : Nat) : w.frozen? ⟨b, j, none⟩ = false := by
  unfold Box at h; simp [World.frozen?, h]
theorem Box.new (w : World) (cs : Array Value) (t : TypeId) : Box (w.alloc (.cells cs t)) w.heap.size cs t := heap_alloc_new w _
theorem Box.below {w w' : World} {b : Nat} {cs : Array Value} {t : TypeId} (h : Box w b cs t) (hb : Below w.heap.size w w') : Box w' b cs t := by
  unfold Box; rw [hb.block b h.lt]; exact h
theorem Box.keep {w w' : World} {b : Nat} {cs : Array Value} {t : TypeId} (h : Box w b cs t) (hb : w'.heap[b]? = w.heap[b]?) : Box w' b cs t := by
  unfold Box; rw [hb]; exact h
theorem Box.set {w : World} {b : Nat} {cs : Array Value} {t : TypeId} (h : Box w b cs t) (j : Nat) (u : Value) : Box (w.setCell ⟨b, j, none⟩ u) b (cs.setIfInBounds j u) t := by
  unfold Box at h ⊢
  simp only [World.setCell, Array.getElem?_modify, if_true, h]; rfl
theorem Box.set_other {w : World} {b : Nat} {cs : Array Value} {t : TypeId} (h : Box w b cs t) {p : Addr} (hp : p.block ≠ b) (u : Value) : Box (w.setCell p u) b cs t :=
  h.keep (Below.heap_setCell w p u b (fun e => hp e.symm))
theorem Box.drew {w : World} {b : Nat} {cs : Array Value} {t : TypeId} (h : Box w b cs t) : Box w.drew b cs t := h
theorem below_drew (w : World) : Below w.heap.size w w.drew := (Below.refl _ _).drew
theorem Rd.drew {w : World} {v : Value} {n : Nat} {xs : List Value} (h : Rd w v n xs) : Rd w.drew v n xs := h
/-- A row that is owned: its value, its elements' type, their cells, how many, the cells. -/
structure ORow where
  v : Value
  e : TypeId
  size : Nat
  n : Nat
  xs : List Value
def ORow.at (r : ORow) (w : World) (B : Nat) : Prop := w.ownsRow B r.e r.size r.v r.n r.xs
/-- Rows that are owned, pairwise apart. -/
def OwnAll (w : World) (B : Nat) : List ORow → Prop
  | [] => True
  | r :: l => r.at w B ∧ (∀ p ∈ l, Apart r.v p.v) ∧ OwnAll w B l
theorem OwnAll.below {w w' : World} {B : Nat} (hb : Below w.heap.size w w') : ∀ {l : List ORow}, OwnAll w B l → OwnAll w' B l
  | [], _ => trivial
  | _ :: _, ⟨h1, h2, h3⟩ => ⟨own_below h1 hb, h2, OwnAll.below hb h3⟩
theorem OwnAll.alloc {w : World} {B : Nat} {l : List ORow} (h : OwnAll w B l) (o : Obj) : OwnAll (w.alloc o) B l := h.below (below_alloc w o)
theorem OwnAll.mem {w : World} {B : Nat} : ∀ {l : List ORow} {r : ORow}, OwnAll w B l → r ∈ l → r.at w B
  | _ :: _, r, ⟨h1, _, h3⟩, hr => by
    cases List.mem_cons.1 hr with
    | inl e => subst e; exact h1
    | inr e => exact OwnAll.mem h3 e
theorem OwnAll.kept {w w' : World} {B : Nat} {v : Value} (hg : w.grownBy w' v.ownBlock) : ∀ {l : List ORow}, OwnAll w B l → (∀ p ∈ l, Apart v p.v) → OwnAll w' B l
  | [], _, _ => trivial
  | r :: l, ⟨h1, h2, h3⟩, ha => ⟨own_other h1 hg (ha r (by simp)).symm, h2, OwnAll.kept hg h3 (fun p hp => ha p (by simp [hp]))⟩
theorem OwnAll.step {w w' : World} {B : Nat} {r : ORow} {l : List ORow} (h : OwnAll w B (r :: l)) {v' : Value} {n' : Nat} {xs' : List Value} (hown : w'.ownsRow B r.e r.size v' n' xs') (hg : w.grownBy w' r.v.ownBlock) (hm : Moved w r.v v') :
    OwnAll w' B (⟨v', r.e, r.size, n', xs'⟩ :: l) :=
  ⟨hown, fun p hp => ((h.2.1 p hp).symm.moved hm (fun k hk => ((h.2.2.mem hp).lt k hk).2)).symm, h.2.2.kept hg h.2.1⟩
theorem OwnAll.append {w : World} {B : Nat} {r : ORow} : ∀ {l : List ORow}, OwnAll w B l → r.at w B → (∀ p ∈ l, Apart r.v p.v) → OwnAll w B (l ++ [r])
  | [], _, h, _ => ⟨h, (fun _ hp => by simp at hp), trivial⟩
  | q :: l, ⟨h1, h2, h3⟩, h, ha => by
    refine ⟨h1, fun p hp => ?_, OwnAll.append h3 h (fun p hp => ha p (by simp [hp]))⟩
    rcases List.mem_append.1 hp with hp | hp
    · exact h2 p hp
    · have : p = r := by simpa using hp
      subst this; exact (ha q (by simp)).symm
theorem OwnAll.rotate {w : World} {B : Nat} {r : ORow} {l : List ORow} (h : OwnAll w B (r :: l)) : OwnAll w B (l ++ [r]) := h.2.2.append h.1 h.2.1
/-- A step of a round: what was owned below B, grown. -/
theorem below_step {B : Nat} {w w1 w2 : World} {v : Value} (hb : Below B w w1) (hB : B ≤ w1.heap.size) (hg : w1.grownBy w2 v.ownBlock) (hv : ∀ k, v.ownBlock = some k → B ≤ k) : Below B w w2 := hb.trans (below_grown hg hB hv)
theorem oneC_int (k : IntKind) (n : Int) : ∀ u ∈ [Value.int k n], u.oneCell' = true := by simp [Value.oneCell']
theorem oneC_string (b : ByteArray) : ∀ u ∈ [Value.string b], u.oneCell' = true := by simp [Value.oneCell']
theorem oneC_slice (a : Option Addr) (n c : Nat) : ∀ u ∈ [Value.slice a n c], u.oneCell' = true := by simp [Value.oneCell']
/-- The lowest byte of a number. -/
def B8 (n : Int) : UInt8 := UInt8.ofNat (n % 256).toNat
theorem B8_val (n : Int) : ((B8 n).toNat : Int) = n % 256 := by
  unfold B8
  have : (UInt8.ofNat (n % 256).toNat).toNat = (n % 256).toNat := by show (n % 256).toNat % 2 ^ 8 = _; omega
  rw [this]; omega
theorem V8_B8 (n : Int) : V8 (B8 n) = .int .u8 (n % 256) := by unfold V8; rw [B8_val]
theorem V8_B8' (n : Int) (h : 0 ≤ n ∧ n ≤ 255) : V8 (B8 n) = .int .u8 n := by rw [V8_B8]; congr 1; omega
/-- A literal list of bytes. -/
theorem rd_lit (w : World) (cs : Array Value) (T : TypeId) (l : List UInt8) (h : cs.toList = l.map V8) (hl : l.length ≤ 9223372036854775807) : Rd (w.alloc (.cells cs T)) (.slice (some ⟨w.heap.size, 0, none⟩) l.length l.length) l.length (l.map V8) := by
  refine ⟨_, _, rfl, Nat.le_refl _, hl, (fun h => by cases h), fun j hj => ⟨w.heap.size, 0, rfl, ?_⟩⟩
  rw [Nat.zero_add]
  refine (Box.new w cs T).cell j _ ?_
  rw [← Array.getElem?_toList, h, List.getD, List.getElem?_eq_getElem hj]; rfl
/-- 'append(s, x...)': whatever the source. -/
theorem wpList_append_src {P : Program} {w : World} {ops : Array Oper} {rest : List Oper} {o : Oper} {a : Act} {Q : Exit → Act → World → Prop} (hgd : o.guard = none) (s x : Operand) (t : TypeId)
    (ho : o.op = .call { callee := .builtin .append, args := #[s, x], argTypes := #[t, t] })
    (base : Nat) (e : TypeId) (i : TypeInfo) (z : Value) (size bytes : Nat) (ht : P.underlying t = some (.slice e)) (hi : P.info? e = some i) (hz : i.zero = some z)
    (hsize : i.size = size) (hby : i.bytes = bytes) (hzs : z.cells.size = size) (hsz : 0 < size)
    (v : Value) (n : Nat) (xs : List Value) (hs : a.eval s = v) (hown : w.ownsRow base e size v n xs)
    (src : Value) (m : Nat) (news : List Value) (hx : a.eval x = src) (hsrc : Rd w src m news) (hl : news.length = m * size) (h1 : ∀ u ∈ news, u.oneCell' = true)
    (h63 : n + m ≤ maxLen) (hbytes : (n + m) * bytes ≤ 140737488355328) (hbase : base ≤ w.heap.size)
    (h : ∀ v' w', w'.ownsRow base e size v' (n + m) (xs ++ news) → w.grownBy w' v.ownBlock → Moved w v v' → wpList P ops Q rest (a.put o.dst v') w') : wpList P ops Q (o :: rest) a w := by
  obtain ⟨ad, cap, rfl, hmc, _, hnil, hcell⟩ := hsrc
  cases ad with
  | some ad =>
    refine wpList_append_own2 hgd s x t ho base e i z size bytes ht hi hz hsize hby hzs hsz v n xs hs hown ad m cap news hx hl (fun j u hj => ?_) h1 h63 hbytes hbase h
    have hjl : j < news.length := (List.getElem?_eq_some_iff.1 hj).1
    obtain ⟨b, off, e1, e2⟩ := hcell j hjl
    injection e1 with e1; subst e1
    rw [Go.WideShapes.add_plain, e2, List.getD, hj]; rfl
  | none =>
    have hc0 := hnil rfl
    subst hc0
    have hm0 : m = 0 := by omega
    subst hm0
    have hn0 : news = [] := List.eq_nil_of_length_eq_zero (by simpa using hl)
    subst hn0
    refine wpList_plain hgd fun _ hK => ?_
    have hk : ∃ v' w', (Builtin.append_ #[t, t] o.type #[v, .slice none 0 0]).run P w = .ok v' w' ∧ v' = v ∧ w' = w := by
      rcases hown.2 with ⟨rfl, _⟩ | ⟨g, cap, cur, rfl, _, hg, hnc, _⟩
      · exact ⟨_, _, by simp [Builtin.append_, run_underlying ht, sizeOf, typeInfo, hi, Builtin.lenOf, Builtin.firstCells], rfl, rfl⟩
      · refine ⟨_, _, ?_, rfl, rfl⟩
        simp [Builtin.append_, run_underlying ht, sizeOf, typeInfo, hi, Builtin.lenOf, Builtin.firstCells, hnc, loadCells, storeCells]
    obtain ⟨v', w', hr, rfl, rfl⟩ := hk
    unfold Oper.wp execOp
    simp only [ho, resolve, invoke, builtin, Sem.run_bind, Sem.run_pure, Result.andThen_ok, List.map_toArray, List.map_cons, List.map_nil, hs, hx, hr]
    exact hK _ _ (h v' w' (by simpa using hown) ⟨rfl, rfl, rfl, Nat.le_refl _, fun _ _ _ => rfl⟩ (.inl rfl))
theorem OwnAll.setBelow {w : World} {B : Nat} {p : Addr} (hp : p.block < B) (u : Value) : ∀ {l : List ORow}, OwnAll w B l → OwnAll (w.setCell p u) B l
  | [], _ => trivial
  | _ :: _, ⟨h1, h2, h3⟩ => ⟨ownsRow_setCell_below h1 hp u, h2, OwnAll.setBelow hp u h3⟩
/-- A block that is not the row's stays. -/
theorem Box.grown {w w' : World} {b : Nat} {cs : Array Value} {t : TypeId} {r : Option Nat} (h : Box w b cs t) (hg : w.grownBy w' r) (hr : r ≠ some b) : Box w' b cs t :=
  h.keep (hg.block b h.lt (fun e => hr e.symm))
theorem grown_trans {w w1 w2 : World} {r : Option Nat} (h : w.grownBy w1 r) (k : w1.grownBy w2 r) : w.grownBy w2 r :=
  ⟨k.os.trans h.os, k.tape.trans h.tape, k.output.trans h.output, Nat.le_trans h.size k.size, fun i hi hne => (k.block i (Nat.lt_of_lt_of_le hi h.size) hne).trans (h.block i hi hne)⟩
theorem grown_refl (w : World) (r : Option Nat) : w.grownBy w r := ⟨rfl, rfl, rfl, Nat.le_refl _, fun _ _ _ => rfl⟩
theorem below_of_grown {w w' : World} {B : Nat} {r : Option Nat} (hg : w.grownBy w' r) (hB : B ≤ w.heap.size) (hr : ∀ k, r = some k → B ≤ k) : Below B w w' :=
  (Below.refl B w).grown hg hB hr
theorem V8_succ (c : UInt8) : Value.int .u8 (((c.toNat : Int) + 1) % 256) = V8 (c + 1) := by
  unfold V8
  have h : ((c + 1).toNat : Int) = ((c.toNat : Int) + 1) % 256 := by rw [UInt8.toNat_add]; simp
  rw [h]
theorem OwnAll.third {w w' : World} {B : Nat} {r0 r1 r2 : ORow} (h : OwnAll w B [r0, r1, r2]) (hg : w.grownBy w' r2.v.ownBlock) : OwnAll w' B [r0, r1] :=
  ⟨own_other h.1 hg (h.2.1 r2 (by simp)), fun q hq => h.2.1 q (by simp at hq; simp [hq]), own_other h.2.2.1 hg (h.2.2.2.1 r2 (by simp)), fun q hq => by simp at hq, trivial⟩
theorem OwnAll.swap {w : World} {B : Nat} {r0 r1 : ORow} {l : List ORow} (h : OwnAll w B (r0 :: r1 :: l)) : OwnAll w B (r1 :: r0 :: l) :=
  ⟨h.2.2.1, fun q hq => by
    rcases List.mem_cons.1 hq with rfl | hq
    · exact (h.2.1 r1 (by simp)).symm
    · exact h.2.2.2.1 q hq, h.1, fun q hq => h.2.1 q (by simp [hq]), h.2.2.2.2⟩
/-- Of what was there only blocks in F have turned. -/
structure Mod (F : Nat → Prop) (w w' : World) : Prop where
  os : w'.os = w.os
  tape : w'.tape = w.tape
  output : w'.output = w.output
  size : w.heap.size ≤ w'.heap.size
  block : ∀ k, k < w.heap.size → ¬ F k → w'.heap[k]? = w.heap[k]?
theorem Mod.refl (F : Nat → Prop) (w : World) : Mod F w w := ⟨rfl, rfl, rfl, Nat.le_refl _, fun _ _ _ => rfl⟩
theorem Mod.trans {F : Nat → Prop} {a b c : World} (h : Mod F a b) (k : Mod F b c) : Mod F a c :=
  ⟨k.os.trans h.os, k.tape.trans h.tape, k.output.trans h.output, Nat.le_trans h.size k.size, fun i hi hn => (k.block i (Nat.lt_of_lt_of_le hi h.size) hn).trans (h.block i hi hn)⟩
/-- A second step that may turn, besides, what the first has made. -/
theorem Mod.then {F G : Nat → Prop} {a b c : World} (h : Mod F a b) (k : Mod G b c) (hg : ∀ i, G i → F i ∨ a.heap.size ≤ i) : Mod F a c :=
  ⟨k.os.trans h.os, k.tape.trans h.tape, k.output.trans h.output, Nat.le_trans h.size k.size, fun i hi hn => (k.block i (Nat.lt_of_lt_of_le hi h.size) (fun hgi => by
    rcases hg i hgi with h1 | h1
    · exact hn h1
    · omega)).trans (h.block i hi hn)⟩
theorem Mod.mono {F G : Nat → Prop} {a b : World} (h : Mod F a b) (hg : ∀ i, F i → G i) : Mod G a b :=
  ⟨h.os, h.tape, h.output, h.size, fun i hi hn => h.block i hi (fun hf => hn (hg i hf))⟩
theorem Mod.below {F : Nat → Prop} {a b : World} {B : Nat} (h : Mod F a b) (hB : B ≤ a.heap.size) (hf : ∀ i, F i → B ≤ i) : Below B a b :=
  ⟨h.os, h.tape, h.output, h.size, fun i hi => h.block i (by omega) (fun hfi => by have := hf i hfi; omega)⟩
theorem Mod.of_below {F : Nat → Prop} {a b : World} (h : Below a.heap.size a b) : Mod F a b := ⟨h.os, h.tape, h.output, h.size, fun i hi _ => h.block i hi⟩
theorem Mod.of_grown {F : Nat → Prop} {a b : World} {r : Option Nat} (h : a.grownBy b r) (hr : ∀ k, r = some k → F k) : Mod F a b :=
  ⟨h.os, h.tape, h.output, h.size, fun i hi hn => h.block i hi (fun e => hn (hr i e.symm))⟩
theorem Mod.set (F : Nat → Prop) (a : World) (p : Addr) (u : Value) (hp : F p.block) : Mod F a (a.setCell p u) :=
  ⟨rfl, rfl, rfl, by simp, fun i _ hn => Below.heap_setCell a p u i (fun e => hn (by rw [e]; exact hp))⟩
theorem Mod.drew (F : Nat → Prop) (a : World) : Mod F a a.drew := ⟨rfl, rfl, rfl, Nat.le_refl _, fun _ _ _ => rfl⟩
theorem Mod.alloc (F : Nat → Prop) (a : World) (o : Obj) : Mod F a (a.alloc o) := Mod.of_below (below_alloc a o)
theorem Box.mod {w w' : World} {b : Nat} {cs : Array Value} {t : TypeId} {F : Nat → Prop} (h : Box w b cs t) (hm : Mod F w w') (hb : ¬ F b) : Box w' b cs t := h.keep (hm.block b h.lt hb)
theorem own_mod {w w' : World} {base : Nat} {e : TypeId} {size n : Nat} {v : Value} {xs : List Value} {F : Nat → Prop} (h : w.ownsRow base e size v n xs) (hm : Mod F w w') (hb : ∀ k, v.ownBlock = some k → ¬ F k) : w'.ownsRow base e size v n xs := by
  refine ⟨h.1, ?_⟩
  rcases h.2 with hn | ⟨g, cap, cur, rfl, hbg, hg, rest⟩
  · exact .inl hn
  · exact .inr ⟨g, cap, cur, rfl, hbg, by rw [hm.block g (lt_of_block hg) (hb g rfl)]; exact hg, rest⟩
theorem Rd.mod {w w' : World} {v : Value} {n : Nat} {xs : List Value} {F : Nat → Prop} (h : Rd w v n xs) (hm : Mod F w w') (hb : ∀ k, v.ownBlock = some k → ¬ F k) : Rd w' v n xs :=
  h.keep (fun k hk hl => hm.block k hl (hb k hk))
end Go.Proofs.YtdaimaibnjkfbaaDoor
/-
  Lists that were handed out have memory of their own: what an append of one element does to a row and to a shorter slice of it.
-/
namespace Go.Proofs.YtdaimaibnjkfbaaDoor
open Go.RowKit

/-- Behind an append of one: the same row, or a new one while all else stays. -/
def Grew (w w' : World) (v v' : Value) (n : Nat) : Prop :=
  (∃ b c, v = .slice (some ⟨b, 0, none⟩) n c ∧ v' = .slice (some ⟨b, 0, none⟩) (n + 1) c) ∨ (v'.ownBlock = some w.heap.size ∧ Below w.heap.size w w')
theorem run_append_own3 {P : Program} (w : World) (base : Nat) (t ty e : TypeId) (i : TypeInfo) (z : Value) (size bytes : Nat) (ht : P.underlying t = some (.slice e)) (hi : P.info? e = some i) (hz : i.zero = some z)
    (hsize : i.size = size) (hby : i.bytes = bytes) (hzs : z.cells.size = size) (hsz : 0 < size)
    (v : Value) (n : Nat) (xs : List Value) (hown : w.ownsRow base e size v n xs)
    (a : Addr) (c : Nat) (news : List Value) (hl : news.length = size) (hnews : ∀ j u, news[j]? = some u → w.cell? (a.add j) = some u) (h1 : ∀ u ∈ news, u.oneCell' = true)
    (h63 : n + 1 ≤ maxLen) (hbytes : (n + 1) * bytes ≤ 140737488355328) (hbase : base ≤ w.heap.size) :
    ∃ v' w', (Builtin.append_ #[t, t] ty #[v, .slice (some a) 1 c]).run P w = .ok v' w' ∧ w'.ownsRow base e size v' (n + 1) (xs ++ news) ∧ w.grownBy w' v.ownBlock ∧ Moved w v v' ∧ Grew w w' v v' n := by
  obtain ⟨v', w', hr, h2, h3, h4⟩ := run_append_own2 (P := P) w base t ty e i z size bytes ht hi hz hsize hby hzs hsz v n xs hown a 1 c news (by omega) hnews h1 h63 hbytes hbase
  refine ⟨v', w', hr, h2, h3, h4, ?_⟩
  have hsmall : n + 1 ≤ 9223372036854775807 := by simp only [maxLen] at h63; omega
  rcases hown.2 with ⟨rfl, rfl⟩ | ⟨g, cap, cur, rfl, hbg, hg, hnc, hcm, hcs, htake⟩
  · subst hsize; subst hby
    have hr2 := run_append_nil (P := P) w t ty e i z ht hi hz a 1 c news (by omega) hnews (by omega) (by omega) (by have hb := hbytes; simp only [Nat.zero_add] at hb; omega)
    rw [hr2] at hr
    injection hr with e1 e2
    subst e1; subst e2; exact .inr ⟨rfl, (below_drew w).trans ((Below.refl _ _).alloc (by simp) _)⟩
  · by_cases hroom : n + 1 ≤ cap
    · subst hsize
      have hr2 := run_append_room (P := P) w t ty e i ht hi g n cap cur hg a 1 c news (by omega) hnews h1 hroom (by rw [hl, hcs]; have := Nat.mul_le_mul_right i.size hroom; rw [Nat.add_mul] at this; omega)
      rw [hr2] at hr
      injection hr with e1 e2
      subst e1; exact .inl ⟨g, cap, rfl, rfl⟩
    · subst hsize; subst hby
      have hr2 := run_append_grow (P := P) w t ty e i z ht hi hz ⟨g, 0, none⟩ n cap xs hown.1 (hown.cells (g := g) rfl) a 1 c news (by omega) hnews (by omega) (by omega) (growslice_fits (by omega) hbytes)
      rw [hr2] at hr
      injection hr with e1 e2
      subst e1; subst e2; exact .inr ⟨rfl, (below_drew w).trans ((Below.refl _ _).alloc (by simp) _)⟩
theorem wpList_append_own3 {P : Program} {w : World} {ops : Array Oper} {rest : List Oper} {o : Oper} {a : Act} {Q : Exit → Act → World → Prop} (hgd : o.guard = none) (s x : Operand) (t : TypeId)
    (ho : o.op = .call { callee := .builtin .append, args := #[s, x], argTypes := #[t, t] })
    (base : Nat) (e : TypeId) (i : TypeInfo) (z : Value) (size bytes : Nat) (ht : P.underlying t = some (.slice e)) (hi : P.info? e = some i) (hz : i.zero = some z)
    (hsize : i.size = size) (hby : i.bytes = bytes) (hzs : z.cells.size = size) (hsz : 0 < size)
    (v : Value) (n : Nat) (xs : List Value) (hs : a.eval s = v) (hown : w.ownsRow base e size v n xs)
    (ad : Addr) (c : Nat) (news : List Value) (hx : a.eval x = .slice (some ad) 1 c) (hl : news.length = size) (hnews : ∀ j u, news[j]? = some u → w.cell? (ad.add j) = some u) (h1 : ∀ u ∈ news, u.oneCell' = true)
    (h63 : n + 1 ≤ maxLen) (hbytes : (n + 1) * bytes ≤ 140737488355328) (hbase : base ≤ w.heap.size)
    (h : ∀ v' w', w'.ownsRow base e size v' (n + 1) (xs ++ news) → w.grownBy w' v.ownBlock → Moved w v v' → Grew w w' v v' n → wpList P ops Q rest (a.put o.dst v') w') : wpList P ops Q (o :: rest) a w := by
  refine wpList_plain hgd fun _ hK => ?_
  obtain ⟨v', w', hr, h2, h3, h4, h5⟩ := run_append_own3 (P := P) w base t o.type e i z size bytes ht hi hz hsize hby hzs hsz v n xs hown ad c news hl hnews h1 h63 hbytes hbase
  unfold Oper.wp execOp
  simp only [ho, resolve, invoke, builtin, Sem.run_bind, Sem.run_pure, Result.andThen_ok, List.map_toArray, List.map_cons, List.map_nil, hs, hx, hr]
  exact hK _ _ (h v' w' h2 h3 h4 h5)
/-- A slice u of n elements beside a row g of m: apart, or its beginning. -/
def Twin (u g : Value) (n m : Nat) : Prop := Apart u g ∨ ∃ b c c', u = .slice (some ⟨b, 0, none⟩) n c ∧ g = .slice (some ⟨b, 0, none⟩) m c' ∧ n ≤ m
/-- A shorter slice reads as it did behind an append to the row. -/
theorem Twin.append {w w' : World} {base : Nat} {e : TypeId} {u v v' x : Value} {n m : Nat} {xs ys : List Value} (h : Twin u v n m) (hr : Rd w u n ys) (hy : ys.length = n) (hown : w.ownsRow base e 1 v m xs)
    (hown' : w'.ownsRow base e 1 v' (m + 1) (xs ++ [x])) (hg : w.grownBy w' v.ownBlock) (hgr : Grew w w' v v' m) (hu : ∀ k, u.ownBlock = some k → k < w.heap.size) : Twin u v' n (m + 1) ∧ Rd w' u n ys := by
  rcases hgr with ⟨b, c, rfl, rfl⟩ | ⟨hn, hb⟩
  · rcases h with h | ⟨b', c1, c2, rfl, e2, hnm⟩
    · refine ⟨.inl (fun k hk => by have := h k hk; simpa [Value.ownBlock] using this), hr.keep (fun k hk hl => hg.block k hl (fun e => h k hk e.symm))⟩
    · injection e2 with e3 e4 e5
      injection e3 with e3
      injection e3 with e3
      subst e3
      refine ⟨.inr ⟨_, c1, c, rfl, rfl, by omega⟩, ?_⟩
      obtain ⟨a0, cap0, h0, h1, h2, h3, h4⟩ := hr
      injection h0 with g1 g2 g3
      subst g1; subst g3
      refine ⟨_, _, rfl, h1, h2, h3, fun j hj => ?_⟩
      obtain ⟨b2, o2, g4, g5⟩ := h4 j hj
      injection g4 with g4
      injection g4 with g4 g6
      subst g4; subst g6
      refine ⟨_, 0, rfl, ?_⟩
      have hjm : j < m := by omega
      have hl : xs.length = m := by have := hown.1; omega
      have q1 := hown.cells (g := _) rfl j xs[j] (by simp [show j < xs.length by omega])
      have q2 := hown'.cells (g := _) rfl j xs[j] (by rw [List.getElem?_append_left (by omega)]; simp [show j < xs.length by omega])
      rw [Go.WideShapes.add_plain] at q1 q2
      rw [q2, ← q1, g5]
  · exact ⟨.inl (fun k hk e => by have := hu k hk; rw [hn] at e; injection e with e; omega), hr.below hb⟩
/-- A cell of an owned row is written. -/
theorem own_set {w : World} {base : Nat} {e : TypeId} {v : Value} {n : Nat} {xs : List Value} (h : w.ownsRow base e 1 v n xs) (i : Nat) (hi : i < n) (x : Value) :
    ∃ g cap, v = .slice (some ⟨g, 0, none⟩) n cap ∧ base ≤ g ∧ (∃ y, w.cell? ⟨g, i, none⟩ = some y) ∧ w.frozen? ⟨g, i, none⟩ = false ∧ (w.setCell ⟨g, i, none⟩ x).ownsRow base e 1 v n (xs.set i x) := by
  rcases h.2 with ⟨rfl, rfl⟩ | ⟨g, cap, cur, rfl, hbg, hg, hnc, hcm, hcs, htake⟩
  · omega
  · have hB : Box w g cur e := hg
    have hic : i < cur.size := by omega
    refine ⟨g, cap, rfl, hbg, ⟨cur[i], hB.cell i _ (by simp [hic])⟩, hB.free i, ?_, .inr ⟨g, cap, cur.setIfInBounds i x, rfl, hbg, hB.set i x, hnc, hcm, by simpa using hcs, ?_⟩⟩
    · simpa using h.1
    · rw [Array.toList_setIfInBounds, ← htake, List.take_set]
theorem own_len {w : World} {base : Nat} {e : TypeId} {v : Value} {n : Nat} {xs : List Value} (h : w.ownsRow base e 1 v n xs) : xs.length = n := by have := h.1; omega
theorem own_slice {w : World} {base : Nat} {e : TypeId} {size : Nat} {v : Value} {n : Nat} {xs : List Value} (h : w.ownsRow base e size v n xs) : ∃ a c, v = .slice a n c ∧ n ≤ 9223372036854775807 := by
  rcases h.2 with ⟨rfl, rfl⟩ | ⟨g, cap, cur, rfl, hbg, hg, hnc, hcm, hcs, htake⟩
  · exact ⟨_, _, rfl, by omega⟩
  · exact ⟨_, _, rfl, by unfold maxLen at hcm; omega⟩
/-- The marks of a list. -/
def marksOf (mk : Nat → Nat → Value) (k n : Nat) : List Value := (List.range n).map (mk k)
theorem marksOf_length (mk : Nat → Nat → Value) (k n : Nat) : (marksOf mk k n).length = n := by simp [marksOf]
theorem marksOf_succ (mk : Nat → Nat → Value) (k n : Nat) : marksOf mk k (n + 1) = marksOf mk k n ++ [mk k n] := by simp [marksOf, List.range_succ]
theorem marksOf_get (mk : Nat → Nat → Value) (k n i : Nat) (h : i < n) : (marksOf mk k n).getD i undef = mk k i := by simp [marksOf, List.getD, h]
/-- Rows that are handed in: their values, how many elements each has; where they begin; their elements' type. -/
structure Rows0 where
  N : Nat
  vs : Nat → Value
  ns : Nat → Nat
  B : Nat
  e : TypeId
/-- The first turn: the rows, of which the first k are written over, and i elements of the next one. -/
structure Turn1 (R : Rows0) (mk : Nat → Nat → Value) (lsv : Value) (w0 : World) (k i : Nat) (w : World) : Prop where
  own : ∃ xs : Nat → List Value, (∀ j, j < R.N → w.ownsRow R.B R.e 1 (R.vs j) (R.ns j) (xs j)) ∧ (∀ j, j < k → j < R.N → xs j = marksOf mk j (R.ns j)) ∧ (k < R.N → (xs k).take i = marksOf mk k i)
  apart : ∀ j j', j < R.N → j' < R.N → j ≠ j' → Apart (R.vs j) (R.vs j')
  ls : Rd w lsv R.N ((List.range R.N).map R.vs)
  lsa : ∀ j, j < R.N → Apart lsv (R.vs j)
  mod : Mod (fun b => R.B ≤ b) w0 w
theorem Turn1.drew {R : Rows0} {mk : Nat → Nat → Value} {lsv : Value} {w0 : World} {k i : Nat} {w : World} (h : Turn1 R mk lsv w0 k i w) : Turn1 R mk lsv w0 k i w.drew := by
  obtain ⟨⟨xs, h1, h2, h3⟩, h4, h5, h6, h7⟩ := h
  exact ⟨⟨xs, fun j hj => own_below (h1 j hj) (below_drew _), h2, h3⟩, h4, h5.drew, h6, h7.trans (Mod.drew _ _)⟩
theorem Turn1.row {R : Rows0} {mk : Nat → Nat → Value} {lsv : Value} {w0 : World} {k i : Nat} {w : World} (h : Turn1 R mk lsv w0 k i w) (hk : k < R.N) (hi : i < R.ns k) :
    ∃ g cap, R.vs k = .slice (some ⟨g, 0, none⟩) (R.ns k) cap ∧ (∃ y, w.cell? ⟨g, i, none⟩ = some y) ∧ w.frozen? ⟨g, i, none⟩ = false ∧ Turn1 R mk lsv w0 k (i + 1) (w.setCell ⟨g, i, none⟩ (mk k i)) := by
  obtain ⟨⟨xs, h1, h2, h3⟩, h4, h5, h6, h7⟩ := h
  obtain ⟨g, cap, e1, hb, hy, hf, hs⟩ := own_set (h1 k hk) i hi (mk k i)
  have hm : Mod (fun b => b = g) w (w.setCell ⟨g, i, none⟩ (mk k i)) := Mod.set (fun b => b = g) w ⟨g, i, none⟩ (mk k i) rfl
  have hl := own_len (h1 k hk)
  refine ⟨g, cap, e1, hy, hf, ⟨fun j => if j = k then (xs k).set i (mk k i) else xs j, fun j hj => ?_, fun j hj hj2 => ?_, fun _ => ?_⟩, h4, ?_, h6, h7.trans (hm.mono (fun _ hi => by subst hi; exact hb))⟩
  · dsimp only
    by_cases e : j = k
    · subst e; rw [if_pos rfl]; exact hs
    · rw [if_neg e]; exact own_mod (h1 j hj) hm (fun b hb e2 => h4 j k hj hk e b hb (by rw [e1, e2]; rfl))
  · dsimp only
    rw [if_neg (by omega)]; exact h2 j hj hj2
  · dsimp only
    rw [if_pos rfl, marksOf_succ, ← h3 hk, List.take_succ_eq_append_getElem (by simp; omega), List.take_set_of_le (Nat.le_refl _)]
    simp
  · exact h5.mod hm (fun b hb e2 => h6 k hk b hb (by rw [e1, e2]; rfl))
theorem Turn1.next {R : Rows0} {mk : Nat → Nat → Value} {lsv : Value} {w0 : World} {k : Nat} {w : World} (h : Turn1 R mk lsv w0 k (R.ns k) w) (hk : k < R.N) : Turn1 R mk lsv w0 (k + 1) 0 w := by
  obtain ⟨⟨xs, h1, h2, h3⟩, h4, h5, h6, h7⟩ := h
  refine ⟨⟨xs, h1, fun j hj hj2 => ?_, fun _ => rfl⟩, h4, h5, h6, h7⟩
  by_cases e : j = k
  · subst e
    have := h3 hk
    rw [List.take_of_length_le (by rw [own_len (h1 j hk)]; exact Nat.le_refl _)] at this
    exact this
  · exact h2 j (by omega) hj2
/-- The second turn: the first k rows have their marks behind; of the next one i. -/
structure Turn2 (R : Rows0) (mk : Nat → Nat → Value) (lsv : Value) (w0 : World) (E : TypeId) (k : Nat) (gsv : Value) (gl : List Value) (g : Value) (i : Nat) (w : World) : Prop where
  own : ∃ gv : Nat → Value, (∀ j, j < k → j < R.N → w.ownsRow R.B R.e 1 (gv j) (R.ns j + 64) (marksOf mk j (R.ns j + 64))) ∧ (∀ j, k < j → j < R.N → gv j = R.vs j ∧ w.ownsRow R.B R.e 1 (gv j) (R.ns j) (marksOf mk j (R.ns j))) ∧
    (k < R.N → gv k = g ∧ w.ownsRow R.B R.e 1 g (R.ns k + i) (marksOf mk k (R.ns k + i)) ∧ Twin (R.vs k) g (R.ns k) (R.ns k + i)) ∧ (∀ j j', j < R.N → j' < R.N → j ≠ j' → Apart (gv j) (gv j') ∧ Apart (R.vs j) (gv j')) ∧
    (∀ j, j < R.N → Apart lsv (gv j) ∧ Apart gsv (gv j)) ∧ gl = (List.range (min k R.N)).map gv
  rd : ∀ j, j < R.N → Rd w (R.vs j) (R.ns j) (marksOf mk j (R.ns j))
  lt : ∀ j, j < R.N → ∀ b, (R.vs j).ownBlock = some b → b < w.heap.size
  ls : Rd w lsv R.N ((List.range R.N).map R.vs)
  lsl : ∀ b, lsv.ownBlock = some b → b < w.heap.size
  gs : w.ownsRow R.B E 1 gsv (min k R.N) gl
  gsa : Apart lsv gsv ∧ ∀ j, j < R.N → Apart (R.vs j) gsv
  mod : Mod (fun b => R.B ≤ b) w0 w
  le : R.B ≤ w.heap.size
/-- When all rows are written. -/
theorem Turn1.two {R : Rows0} {mk : Nat → Nat → Value} {lsv : Value} {w0 : World} {w : World} {E : TypeId} (h : Turn1 R mk lsv w0 R.N 0 w) (hl : ∀ b, lsv.ownBlock = some b → b < w.heap.size) (hB : R.B ≤ w.heap.size) :
    Turn2 R mk lsv w0 E 0 (.slice none 0 0) [] (R.vs 0) 0 w := by
  obtain ⟨⟨xs, h1, h2, h3⟩, h4, h5, h6, h7⟩ := h
  have ho : ∀ j, j < R.N → w.ownsRow R.B R.e 1 (R.vs j) (R.ns j) (marksOf mk j (R.ns j)) := fun j hj => by
    have := h1 j hj
    rwa [h2 j hj hj] at this
  refine ⟨⟨R.vs, fun j hj _ => by omega, fun j _ hj => ⟨rfl, ho j hj⟩, fun h0 => ⟨rfl, ho 0 h0, ?_⟩, fun j j' hj hj' hne => ⟨h4 j j' hj hj' hne, h4 j j' hj hj' hne⟩, fun j hj => ⟨h6 j hj, nil_apart _⟩, by simp⟩,
    fun j hj => rd_of_own (ho j hj), fun j hj b hb => ((ho j hj).lt b hb).2, h5, hl, ?_, ⟨apart_nil _, fun j _ => apart_nil _⟩, h7, hB⟩
  · rcases (ho 0 h0).2 with ⟨e, _⟩ | ⟨g, cap, cur, e, _⟩
    · rw [e]; exact .inl (nil_apart _)
    · rw [e]; exact .inr ⟨g, cap, cap, rfl, rfl, by omega⟩
  · rw [Nat.zero_min]; exact World.ownsRow_nil _ _ _ _
/-- Something else is made. -/
theorem Turn2.below {R : Rows0} {mk : Nat → Nat → Value} {lsv : Value} {w0 : World} {E : TypeId} {k i : Nat} {gsv g : Value} {gl : List Value} {w w' : World} (h : Turn2 R mk lsv w0 E k gsv gl g i w) (hb : Below w.heap.size w w') : Turn2 R mk lsv w0 E k gsv gl g i w' := by
  obtain ⟨⟨gv, h1, h2, h3, h4, h5, h6⟩, k1, k2, k3, k4, k5, k6, k7, k8⟩ := h
  exact ⟨⟨gv, fun j a b => own_below (h1 j a b) hb, fun j a b => ⟨(h2 j a b).1, own_below (h2 j a b).2 hb⟩, fun a => ⟨(h3 a).1, own_below (h3 a).2.1 hb, (h3 a).2.2⟩, h4, h5, h6⟩, fun j hj => (k1 j hj).below hb,
    fun j hj b hb2 => Nat.lt_of_lt_of_le (k2 j hj b hb2) hb.size, k3.below hb, fun b hb2 => Nat.lt_of_lt_of_le (k4 b hb2) hb.size, own_below k5 hb, k6, k7.then (Mod.of_below (F := fun _ => False) hb) (fun _ h => h.elim), Nat.le_trans k8 hb.size⟩
/-- A mark more behind the row at hand. -/
theorem Turn2.step {R : Rows0} {mk : Nat → Nat → Value} {lsv : Value} {w0 : World} {E : TypeId} {k i : Nat} {gsv g g' : Value} {gl : List Value} {w w' : World} (h : Turn2 R mk lsv w0 E k gsv gl g i w) (hk : k < R.N)
    (hown' : w'.ownsRow R.B R.e 1 g' (R.ns k + i + 1) (marksOf mk k (R.ns k + i) ++ [mk k (R.ns k + i)])) (hg : w.grownBy w' g.ownBlock) (hm : Moved w g g') (hgr : Grew w w' g g' (R.ns k + i)) : Turn2 R mk lsv w0 E k gsv gl g' (i + 1) w' := by
  obtain ⟨⟨gv, h1, h2, h3, h4, h5, h6⟩, k1, k2, k3, k4, k5, k6, k7, k8⟩ := h
  obtain ⟨e0, ho, ht⟩ := h3 hk
  have hglt := fun j (hj : j < R.N) (hjk : j ≠ k) => (show ∀ b, (gv j).ownBlock = some b → b < w.heap.size from fun b hb => by
    rcases Nat.lt_or_gt_of_ne hjk with hlt | hlt
    · exact ((h1 j hlt hj).lt b hb).2
    · exact ((h2 j hlt hj).2.lt b hb).2)
  have hT := ht.append (k1 k hk) (marksOf_length _ _ _) ho hown' hg hgr (k2 k hk)
  rw [← marksOf_succ] at hown'
  refine ⟨⟨fun j => if j = k then g' else gv j, fun j a b => ?_, fun j a b => ?_, fun a => ⟨if_pos rfl, hown', hT.1⟩, fun j j' hj hj' hne => ?_, fun j hj => ?_, ?_⟩, fun j hj => ?_, fun j hj b hb => Nat.lt_of_lt_of_le (k2 j hj b hb) hg.size,
    k3.keep (fun b hb hl => hg.block b hl (fun e => (h5 k hk).1 b hb (by rw [e0]; exact e.symm))), fun b hb => Nat.lt_of_lt_of_le (k4 b hb) hg.size, own_other k5 hg (by rw [← e0]; exact (h5 k hk).2), k6,
    k7.then (Mod.of_grown hg (F := fun b => R.B ≤ b) (fun b hb => (ho.lt b hb).1)) (fun b hb => .inl hb), Nat.le_trans k8 hg.size⟩
  · show w'.ownsRow R.B R.e 1 (if j = k then g' else gv j) _ _
    rw [if_neg (by omega)]; exact own_other (h1 j a b) hg (by rw [← e0]; exact (h4 j k b hk (by omega)).1)
  · show (if j = k then g' else gv j) = _ ∧ w'.ownsRow R.B R.e 1 (if j = k then g' else gv j) _ _
    rw [if_neg (by omega)]; exact ⟨(h2 j a b).1, own_other (h2 j a b).2 hg (by rw [← e0]; exact (h4 j k b hk (by omega)).1)⟩
  · show Apart (if j = k then g' else gv j) (if j' = k then g' else gv j') ∧ Apart (R.vs j) (if j' = k then g' else gv j')
    by_cases ej : j = k
    · subst ej
      rw [if_pos rfl, if_neg (by omega)]
      have h := h4 j j' hj hj' hne
      refine ⟨?_, h.2⟩
      have h' := h.1.symm
      rw [e0] at h'
      exact (h'.moved hm (hglt j' hj' (by omega))).symm
    · rw [if_neg ej]
      by_cases ej' : j' = k
      · subst ej'
        rw [if_pos rfl]
        have h := h4 j j' hj hj' hne
        rw [e0] at h
        exact ⟨h.1.moved hm (hglt j hj ej), h.2.moved hm (k2 j hj)⟩
      · rw [if_neg ej']; exact h4 j j' hj hj' hne
  · show Apart lsv (if j = k then g' else gv j) ∧ Apart gsv (if j = k then g' else gv j)
    by_cases ej : j = k
    · subst ej
      rw [if_pos rfl]
      have h := h5 j hj
      rw [e0] at h
      exact ⟨h.1.moved hm k4, h.2.moved hm (fun b hb => (k5.lt b hb).2)⟩
    · rw [if_neg ej]; exact h5 j hj
  · rw [h6]
    refine List.map_congr_left fun j hj => ?_
    simp only [List.mem_range] at hj
    rw [if_neg (by omega)]
  · by_cases ej : j = k
    · subst ej; exact hT.2
    · exact (k1 j hj).keep (fun b hb hl => hg.block b hl (fun e => (h4 j k hj hk ej).2 b hb (by rw [e0]; exact e.symm)))
/-- The row goes among those that are held. -/
theorem Turn2.next {R : Rows0} {mk : Nat → Nat → Value} {lsv : Value} {w0 : World} {E : TypeId} {k : Nat} {gsv g gsv' : Value} {gl : List Value} {w w' : World} (h : Turn2 R mk lsv w0 E k gsv gl g 64 w) (hk : k < R.N)
    (hown' : w'.ownsRow R.B E 1 gsv' (k + 1) (gl ++ [g])) (hg : w.grownBy w' gsv.ownBlock) (hm : Moved w gsv gsv') : Turn2 R mk lsv w0 E (k + 1) gsv' (gl ++ [g]) (R.vs (k + 1)) 0 w' := by
  obtain ⟨⟨gv, h1, h2, h3, h4, h5, h6⟩, k1, k2, k3, k4, k5, k6, k7, k8⟩ := h
  obtain ⟨e0, ho, ht⟩ := h3 hk
  have hglt := fun j (hj : j < R.N) => (show ∀ b, (gv j).ownBlock = some b → b < w.heap.size from fun b hb => by
    rcases Nat.lt_trichotomy j k with hlt | rfl | hlt
    · exact ((h1 j hlt hj).lt b hb).2
    · rw [e0] at hb; exact (ho.lt b hb).2
    · exact ((h2 j hlt hj).2.lt b hb).2)
  refine ⟨⟨gv, fun j a b => ?_, fun j a b => ⟨(h2 j (by omega) b).1, own_other (h2 j (by omega) b).2 hg (h5 j b).2.symm⟩, fun a => ⟨(h2 _ (by omega) a).1, ?_, ?_⟩, h4, fun j hj => ⟨(h5 j hj).1, ((h5 j hj).2.symm.moved hm (hglt j hj)).symm⟩, ?_⟩,
    fun j hj => (k1 j hj).keep (fun b hb hl => hg.block b hl (fun e => k6.2 j hj b hb e.symm)), fun j hj b hb => Nat.lt_of_lt_of_le (k2 j hj b hb) hg.size,
    k3.keep (fun b hb hl => hg.block b hl (fun e => k6.1 b hb e.symm)), fun b hb => Nat.lt_of_lt_of_le (k4 b hb) hg.size, by rw [show min (k + 1) R.N = k + 1 by omega]; exact hown', ⟨k6.1.moved hm k4, fun j hj => (k6.2 j hj).moved hm (k2 j hj)⟩,
    k7.then (Mod.of_grown hg (F := fun b => R.B ≤ b) (fun b hb => (k5.lt b hb).1)) (fun b hb => .inl hb), Nat.le_trans k8 hg.size⟩
  · by_cases ej : j = k
    · subst ej; rw [e0]; exact own_other ho hg (by rw [← e0]; exact (h5 j b).2.symm)
    · exact own_other (h1 j (by omega) b) hg (h5 j b).2.symm
  · have h := h2 (k + 1) (by omega) a
    rw [h.1] at h
    exact own_other h.2 hg (by have := (h5 (k + 1) a).2.symm; rwa [(h2 (k + 1) (by omega) a).1] at this)
  · have h := h2 (k + 1) (by omega) a
    rw [h.1] at h
    rcases h.2.2 with ⟨e, _⟩ | ⟨g, cap, cur, e, _⟩
    · rw [e]; exact .inl (nil_apart _)
    · rw [e]; exact .inr ⟨g, cap, cap, rfl, rfl, by omega⟩
  · rw [h6, show min k R.N = k by omega, show min (k + 1) R.N = k + 1 by omega, List.range_succ, List.map_append]; simp [e0]
/-- What the third turn reads. -/
structure Turn3 (R : Rows0) (mk : Nat → Nat → Value) (lsv gsv : Value) (gl : List Value) (w : World) : Prop where
  ls : Rd w lsv R.N ((List.range R.N).map R.vs)
  gs : Rd w gsv R.N gl
  len : gl.length = R.N
  rd : ∀ j, j < R.N → Rd w (R.vs j) (R.ns j) (marksOf mk j (R.ns j))
  gd : ∀ j, j < R.N → Rd w (gl.getD j undef) (R.ns j + 64) (marksOf mk j (R.ns j + 64))
theorem Turn2.three {R : Rows0} {mk : Nat → Nat → Value} {lsv : Value} {w0 : World} {E : TypeId} {gsv g : Value} {gl : List Value} {w : World} {i : Nat} (h : Turn2 R mk lsv w0 E R.N gsv gl g i w) : Turn3 R mk lsv gsv gl w := by
  obtain ⟨⟨gv, h1, h2, h3, h4, h5, h6⟩, k1, k2, k3, k4, k5, k6, k7⟩ := h
  rw [Nat.min_self] at h6 k5
  refine ⟨k3, rd_of_own k5, by rw [h6]; simp, k1, fun j hj => ?_⟩
  have : gl.getD j undef = gv j := by rw [h6]; simp [List.getD, hj]
  rw [this]; exact rd_of_own (h1 j hj hj)
theorem Turn3.below {R : Rows0} {mk : Nat → Nat → Value} {lsv gsv : Value} {gl : List Value} {w w' : World} (h : Turn3 R mk lsv gsv gl w) (hb : Below w.heap.size w w') : Turn3 R mk lsv gsv gl w' :=
  ⟨h.ls.below hb, h.gs.below hb, h.len, fun j hj => (h.rd j hj).below hb, fun j hj => (h.gd j hj).below hb⟩
theorem Turn3.drew {R : Rows0} {mk : Nat → Nat → Value} {lsv gsv : Value} {gl : List Value} {w : World} (h : Turn3 R mk lsv gsv gl w) : Turn3 R mk lsv gsv gl w.drew := h.below (below_drew _)
/-- A read of a slice's element: the address and the cell. -/
theorem Rd.at {w : World} {v : Value} {n : Nat} {xs : List Value} (h : Rd w v n xs) (i : Nat) (hi : i < xs.length) : ∃ b off cap, v = .slice (some ⟨b, off, none⟩) n cap ∧ w.cell? ⟨b, off + i, none⟩ = some (xs.getD i undef) := by
  obtain ⟨a, cap, rfl, h1, h2, h3, h4⟩ := h
  obtain ⟨b, off, rfl, h5⟩ := h4 i hi
  exact ⟨b, off, cap, rfl, h5⟩
end Go.Proofs.YtdaimaibnjkfbaaDoor
/-
  Rows of one-cell elements that are owned, of which a mark behind their cells may stand (what '[]byte(s)' makes).
-/
namespace Go.Proofs.YtdaimaibnjkfbaaDoor
open Go.RowKit

def OwnM (w : World) (base : Nat) (e : TypeId) (v : Value) (n : Nat) (xs : List Value) : Prop :=
  xs.length = n ∧ ((v = .slice none 0 0 ∧ n = 0) ∨
   ∃ g cap cur fz, v = .slice (some ⟨g, 0, none⟩) n cap ∧ base ≤ g ∧ w.heap[g]? = some (.cells cur e fz) ∧ (fz = (0, 0) ∨ cur.size ≤ fz.1) ∧ n ≤ cap ∧ cap ≤ maxLen ∧ cap ≤ cur.size ∧ cur.toList.take n = xs)
section
variable {w : World} {base : Nat} {e : TypeId} {v : Value} {n : Nat} {xs : List Value}
theorem OwnM.of_own (h : w.ownsRow base e 1 v n xs) : OwnM w base e v n xs := by
  refine ⟨by have := h.1; omega, ?_⟩
  rcases h.2 with hn | ⟨g, cap, cur, hv, hb, hg, h1, h2, h3, h4⟩
  · exact .inl hn
  · exact .inr ⟨g, cap, cur, (0, 0), hv, hb, hg, .inl rfl, h1, h2, by omega, by rw [← h4, Nat.mul_one]⟩
theorem OwnM.nil (w : World) (base : Nat) (e : TypeId) : OwnM w base e (.slice none 0 0) 0 [] := ⟨rfl, .inl ⟨rfl, rfl⟩⟩
theorem OwnM.len (h : OwnM w base e v n xs) : xs.length = n := h.1
theorem OwnM.lt (h : OwnM w base e v n xs) : ∀ k, v.ownBlock = some k → base ≤ k ∧ k < w.heap.size := by
  intro k hk
  rcases h.2 with ⟨rfl, _⟩ | ⟨g, cap, cur, fz, rfl, hb, hg, _⟩
  · simp [Value.ownBlock] at hk
  · simp [Value.ownBlock] at hk
    subst hk
    exact ⟨hb, (Array.getElem?_eq_some_iff.1 hg).1⟩
theorem OwnM.keep {w' : World} (h : OwnM w base e v n xs) (hb : ∀ k, v.ownBlock = some k → k < w.heap.size → w'.heap[k]? = w.heap[k]?) : OwnM w' base e v n xs := by
  refine ⟨h.1, ?_⟩
  rcases h.2 with hn | ⟨g, cap, cur, fz, rfl, hbg, hg, rest⟩
  · exact .inl hn
  · exact .inr ⟨g, cap, cur, fz, rfl, hbg, by rw [hb g rfl (Array.getElem?_eq_some_iff.1 hg).1]; exact hg, rest⟩
theorem OwnM.below {w' : World} (h : OwnM w base e v n xs) (hb : Below w.heap.size w w') : OwnM w' base e v n xs := h.keep (fun k _ hl => hb.block k hl)
theorem OwnM.lower {base' : Nat} (h : OwnM w base e v n xs) (hb : base' ≤ base) : OwnM w base' e v n xs := by
  refine ⟨h.1, ?_⟩
  rcases h.2 with hn | ⟨g, cap, cur, fz, rfl, hbg, rest⟩
  · exact .inl hn
  · exact .inr ⟨g, cap, cur, fz, rfl, by omega, rest⟩
theorem OwnM.other {w' : World} {u : Value} (h : OwnM w base e v n xs) (hg : w.grownBy w' u.ownBlock) (ha : Apart v u) : OwnM w' base e v n xs :=
  h.keep (fun k hk hl => hg.block k hl (fun e => ha k hk e.symm))
theorem OwnM.mod {w' : World} {F : Nat → Prop} (h : OwnM w base e v n xs) (hm : Mod F w w') (hb : ∀ k, v.ownBlock = some k → ¬ F k) : OwnM w' base e v n xs :=
  h.keep (fun k hk hl => hm.block k hl (hb k hk))
theorem OwnM.rd (h : OwnM w base e v n xs) : Rd w v n xs := by
  obtain ⟨h0, h⟩ := h
  rcases h with ⟨rfl, rfl⟩ | ⟨g, cap, cur, fz, rfl, hb, hg, hf, hn, hc, hs, ht⟩
  · have : xs = [] := List.eq_nil_of_length_eq_zero h0
    subst this; exact Rd.nil w
  · refine ⟨_, cap, rfl, hn, by unfold maxLen at hc; omega, (fun h => by cases h), fun j hj => ⟨g, 0, rfl, ?_⟩⟩
    have hc2 : w.cell? ⟨g, 0 + j, none⟩ = cur[0 + j]? := cell_of_row w g (0 + j) cur e fz hg
    rw [hc2, Nat.zero_add, ← ht, List.getD, List.getElem?_take, if_pos (by omega)]
    have : j < cur.size := by omega
    simp [Array.getElem?_eq_getElem this]
theorem OwnM.slice (h : OwnM w base e v n xs) : ∃ a c, v = .slice a n c ∧ n ≤ 9223372036854775807 := by
  rcases h.2 with ⟨rfl, rfl⟩ | ⟨g, cap, cur, fz, rfl, hbg, hg, hf, hnc, hcm, hcs, htake⟩
  · exact ⟨_, _, rfl, by omega⟩
  · exact ⟨_, _, rfl, by unfold maxLen at hcm; omega⟩
theorem OwnM.cells (h : OwnM w base e v n xs) {g : Nat} (hg : v.ownBlock = some g) : ∀ j u, xs[j]? = some u → w.cell? ((⟨g, 0, none⟩ : Addr).add j) = some u := by
  intro j u hu
  rcases h.2 with ⟨rfl, _⟩ | ⟨g', cap, cur, fz, rfl, _, hgg, _, _, _, _, htake⟩
  · simp [Value.ownBlock] at hg
  · simp [Value.ownBlock] at hg
    subst hg
    have hadd : (⟨g', 0, none⟩ : Addr).add j = ⟨g', j, none⟩ := by unfold Addr.add; split <;> simp_all
    rw [hadd, cell_of_row w g' j cur e fz hgg]
    rw [← htake, List.getElem?_take] at hu
    split at hu
    · simpa using hu
    · cases hu
/-- What is not marked may be written. -/
theorem unfrozen {w : World} {g : Nat} {cur : Array Value} {e : TypeId} {fz : Nat × Nat} (hg : w.heap[g]? = some (.cells cur e fz)) (hf : fz = (0, 0) ∨ cur.size ≤ fz.1) (j : Nat) (hj : j < cur.size) : w.frozen? ⟨g, j, none⟩ = false := by
  obtain ⟨lo, hi⟩ := fz
  simp only [World.frozen?, hg, Bool.and_eq_false_iff, decide_eq_false_iff_not]
  rcases hf with hf | hf
  · simp only [Prod.mk.injEq] at hf; obtain ⟨rfl, rfl⟩ := hf; right; omega
  · left; simp only at hf; omega
theorem setM (w : World) (g i : Nat) (cur : Array Value) (e : TypeId) (fz : Nat × Nat) (x : Value) (hg : w.heap[g]? = some (.cells cur e fz)) : (w.setCell ⟨g, i, none⟩ x).heap[g]? = some (.cells (cur.setIfInBounds i x) e fz) := by
  simp only [World.setCell, Array.getElem?_modify, if_true, hg]; rfl
theorem setCellsM (g : Nat) (e : TypeId) (fz : Nat × Nat) : ∀ (vs : List Value) (o : Nat) (w : World) (cur : Array Value), w.heap[g]? = some (.cells cur e fz) → o + vs.length ≤ cur.size →
    ∃ cur', (w.setCells g o vs).heap[g]? = some (.cells cur' e fz) ∧ cur'.size = cur.size ∧ (∀ j v, vs[j]? = some v → cur'[o + j]? = some v) ∧ ∀ j, j < o ∨ o + vs.length ≤ j → cur'[j]? = cur[j]?
  | [], o, w, cur, h, hl => ⟨cur, h, rfl, fun j v hv => by simp at hv, fun _ _ => rfl⟩
  | x :: r, o, w, cur, h, hl => by
    simp only [List.length_cons] at hl
    obtain ⟨cur', h1, h2, h3, h4⟩ := setCellsM g e fz r (o + 1) (w.setCell ⟨g, o, none⟩ x) (cur.setIfInBounds o x) (setM w g o cur e fz x h) (by simp; omega)
    rw [World.setCells]
    refine ⟨cur', h1, by simpa using h2, fun j v hv => ?_, fun j hj => ?_⟩
    · cases j with
      | zero =>
        rw [Nat.add_zero, h4 o (by omega)]
        simp at hv
        subst hv
        simp [show o < cur.size by omega]
      | succ j =>
        have := h3 j v (by simpa using hv)
        rw [show o + (j + 1) = o + 1 + j by omega]; exact this
    · simp only [List.length_cons] at hj
      rw [h4 j (by omega)]
      simp [show o ≠ j by omega]
theorem modCells (F : Nat → Prop) (b : Nat) (hb : F b) : ∀ (vs : List Value) (o : Nat) (w : World), Mod F w (w.setCells b o vs)
  | [], _, _ => Mod.refl _ _
  | v :: r, o, w => (Mod.set F w ⟨b, o, none⟩ v hb).trans (modCells F b hb r (o + 1) _)
/-- A cell of an owned row is written. -/
theorem OwnM.set (h : OwnM w base e v n xs) (i : Nat) (hi : i < n) (x : Value) :
    ∃ g cap, v = .slice (some ⟨g, 0, none⟩) n cap ∧ base ≤ g ∧ (∃ y, w.cell? ⟨g, i, none⟩ = some y) ∧ w.frozen? ⟨g, i, none⟩ = false ∧ OwnM (w.setCell ⟨g, i, none⟩ x) base e v n (xs.set i x) := by
  rcases h.2 with ⟨rfl, rfl⟩ | ⟨g, cap, cur, fz, rfl, hbg, hg, hf, hnc, hcm, hcs, htake⟩
  · omega
  · have hic : i < cur.size := by omega
    refine ⟨g, cap, rfl, hbg, ⟨cur[i], ?_⟩, unfrozen hg hf i hic, by simpa using h.1, .inr ⟨g, cap, cur.setIfInBounds i x, fz, rfl, hbg, setM w g i cur e fz x hg, by simpa using hf, hnc, hcm, by simpa using hcs, ?_⟩⟩
    · rw [cell_of_row w g i cur e fz hg]; simp [hic]
    · rw [Array.toList_setIfInBounds, ← htake, List.take_set]
end
/-- Behind an append: the same row, or a new one while all else stays. -/
def GrewM (w w' : World) (v v' : Value) (n m : Nat) : Prop :=
  (∃ b c, v = .slice (some ⟨b, 0, none⟩) n c ∧ v' = .slice (some ⟨b, 0, none⟩) (n + m) c) ∨ (v'.ownBlock = some w.heap.size ∧ Below w.heap.size w w') ∨ (v' = v ∧ w' = w)
theorem run_append_M {P : Program} (w : World) (base : Nat) (t t2 ty e : TypeId) (d : TypeDesc) (i : TypeInfo) (z : Value) (bytes : Nat) (ht : P.underlying t = some (.slice e)) (ht2 : P.underlying t2 = some d) (hd : (∃ e2, d = .slice e2) ∨ d = .string)
    (hi : P.info? e = some i) (hz : i.zero = some z) (hsize : i.size = 1) (hby : i.bytes = bytes) (hzs : z.cells.size = 1)
    (v : Value) (n : Nat) (xs : List Value) (hown : OwnM w base e v n xs)
    (x : Value) (m : Nat) (news : List Value) (hl : news.length = m) (hlen : ∀ w : World, (Builtin.lenOf x).run P w = .ok m w) (hfc : ∀ wd : World, (∀ a, wd.cell? a = w.cell? a) → (Builtin.firstCells 1 m x).run P wd = .ok news.toArray wd) (h1 : ∀ u ∈ news, u.oneCell' = true)
    (h63 : n + m ≤ maxLen) (hbytes : (n + m) * bytes ≤ 140737488355328) (hbase : base ≤ w.heap.size) :
    ∃ v' w', (Builtin.append_ #[t, t2] ty #[v, x]).run P w = .ok v' w' ∧ OwnM w' base e v' (n + m) (xs ++ news) ∧ w.grownBy w' v.ownBlock ∧ Moved w v v' ∧ GrewM w w' v v' n m := by
  rcases hd with ⟨e2, rfl⟩ | rfl
  all_goals
    have hsmall : n + m ≤ 9223372036854775807 := by simp only [maxLen] at h63; omega
    have hf0 := hfc w (fun _ => rfl)
    have hf1 := hfc w.drew (fun _ => rfl)
    have hge := grownCap_ge w (n + m)
    rcases hown.2 with ⟨rfl, rfl⟩ | ⟨g, cap, cur, fz, rfl, hbg, hg, hf, hnc, hcm, hcs, htake⟩
    · have hx0 : xs = [] := List.eq_nil_of_length_eq_zero hown.1
      subst hx0
      by_cases hm : m = 0
      · subst hm
        have hn0 : news = [] := List.eq_nil_of_length_eq_zero hl
        subst hn0
        refine ⟨.slice none 0 0, w, ?_, OwnM.nil _ _ _, grown_refl _ _, .inl rfl, .inr (.inr ⟨rfl, rfl⟩)⟩
        simp [Builtin.append_, run_underlying ht, run_underlying ht2, sizeOf, typeInfo, hi, hsize, hlen, hf0]
      · have hn : ¬ (m = 0) := hm
        have h63' : ¬ (9223372036854775807 < (m : Int)) := by omega
        have h48' : ¬ (281474976710656 < Builtin.nextslicecap m 0 * bytes) := by rw [nextslicecap_zero (by omega)]; simp only [Nat.zero_add] at hbytes; omega
        have hr : (Builtin.append_ #[t, t2] ty #[.slice none 0 0, x]).run P w = .ok (.slice (some ⟨w.heap.size, 0, none⟩) m (grownCap w m 0 e)) (w.drew.alloc (.cells (news.toArray ++ Builtin.zeroCells z.cells (grownCap w m 0 e - m)) e)) := by
          simp [Builtin.append_, run_underlying ht, run_underlying ht2, sizeOf, typeInfo, zeroValue, hi, hz, hsize, hby, hlen, hn, h63', h48', Question.forced, run_firstCells_none, hf1, newRow, grownCap]
        have hc := grownCap_le_maxLen w m 0 e (by simpa using h63)
        have hg2 := grownCap_ge w m 0 e
        refine ⟨_, _, hr, ⟨by simpa using hl, .inr ⟨w.heap.size, _, _, (0, 0), by rw [Nat.zero_add], hbase, heap_alloc_new w.drew _, .inl rfl, by omega, hc, ?_, ?_⟩⟩, ⟨rfl, rfl, rfl, by simp, fun k hk _ => Below.heap_alloc w.drew _ k hk⟩, .inr rfl, .inr (.inl ⟨rfl, (below_drew w).trans ((Below.refl _ _).alloc (by simp) _)⟩)⟩
        · simp only [Array.size_append, List.size_toArray, size_zeroCells, hzs, hl]; omega
        · rw [Array.toList_append, Nat.zero_add, List.nil_append, ← hl]; exact List.take_left
    · by_cases hroom : n + m ≤ cap
      · have hst := run_storeCells_cells (P := P) g n news 0 w (fun j hj => by rw [Nat.add_zero, cell_of_row w g (n + j) cur e fz hg]; simp; omega) (fun j hj => by rw [Nat.add_zero]; exact unfrozen hg hf (n + j) (by omega)) h1
        simp only [Nat.add_zero] at hst
        have hr : (Builtin.append_ #[t, t2] ty #[.slice (some ⟨g, 0, none⟩) n cap, x]).run P w = .ok (.slice (some ⟨g, 0, none⟩) (n + m) cap) (w.setCells g n news) := by
          simp [Builtin.append_, run_underlying ht, run_underlying ht2, sizeOf, typeInfo, hi, hsize, hlen, hroom, hf0, Addr.add_lit, hst]
        obtain ⟨cur', k1, k2, k3, k4⟩ := setCellsM g e fz news n w cur hg (by omega)
        have hmod := modCells (fun q => q = g) g rfl news n w
        refine ⟨_, _, hr, ⟨by rw [List.length_append, hown.1, hl], .inr ⟨g, cap, cur', fz, rfl, hbg, k1, by rw [k2]; exact hf, hroom, hcm, by omega, ?_⟩⟩, ⟨hmod.os, hmod.tape, hmod.output, hmod.size, fun k hk hne => hmod.block k hk (fun e => hne (by rw [e]; rfl))⟩, .inl rfl, .inl ⟨g, cap, rfl, rfl⟩⟩
        apply List.ext_getElem?
        intro j
        rw [List.getElem?_take]
        by_cases hj : j < n + m
        · rw [if_pos hj, Array.getElem?_toList]
          by_cases hjn : j < n
          · rw [k4 j (.inl hjn), List.getElem?_append_left (by rw [hown.1]; exact hjn), ← htake, List.getElem?_take, if_pos hjn, Array.getElem?_toList]
          · have hjl : j - n < news.length := by omega
            have := k3 (j - n) news[j - n] (by simp [hjl])
            rw [show n + (j - n) = j by omega] at this
            rw [this, List.getElem?_append_right (by rw [hown.1]; omega), hown.1]; simp [hjl]
        · rw [if_neg hj, List.getElem?_eq_none (by rw [List.length_append, hown.1]; omega)]
      · have holds : ∀ j u, xs[j]? = some u → w.cell? ((⟨g, 0, none⟩ : Addr).add j) = some u := hown.cells (g := g) rfl
        have hfo := run_firstCells_some (P := P) w.drew 1 n ⟨g, 0, none⟩ n cap xs (by rw [hown.1]; omega) (by simpa using holds)
        have h63' : ¬ (9223372036854775807 < ((n : Int) + (m : Int))) := by omega
        have h48' : ¬ (281474976710656 < Builtin.nextslicecap (n + m) cap * bytes) := by have := growslice_fits (need := n + m) (old := cap) (bytes := bytes) (by omega) hbytes; omega
        have hr : (Builtin.append_ #[t, t2] ty #[.slice (some ⟨g, 0, none⟩) n cap, x]).run P w = .ok (.slice (some ⟨w.heap.size, 0, none⟩) (n + m) (grownCap w (n + m) cap e)) (w.drew.alloc (.cells (xs.toArray ++ news.toArray ++ Builtin.zeroCells z.cells (grownCap w (n + m) cap e - (n + m))) e)) := by
          simp [Builtin.append_, run_underlying ht, run_underlying ht2, sizeOf, typeInfo, zeroValue, hi, hz, hsize, hby, hlen, hroom, h63', h48', Question.forced, hf1, hfo, newRow, grownCap]
          congr 2
          apply Array.ext'
          simp [List.append_assoc]
        have hc := grownCap_le_maxLen w (n + m) cap e h63
        have hg2 := grownCap_ge w (n + m) cap e
        refine ⟨_, _, hr, ⟨by rw [List.length_append, hown.1, hl], .inr ⟨w.heap.size, _, _, (0, 0), rfl, hbase, heap_alloc_new w.drew _, .inl rfl, hg2, hc, ?_, ?_⟩⟩, ⟨rfl, rfl, rfl, by simp, fun k hk _ => Below.heap_alloc w.drew _ k hk⟩, .inr rfl, .inr (.inl ⟨rfl, (below_drew w).trans ((Below.refl _ _).alloc (by simp) _)⟩)⟩
        · simp only [Array.size_append, List.size_toArray, size_zeroCells, hzs, hl, hown.1]; omega
        · have hll : (xs ++ news).length = n + m := by rw [List.length_append, hown.1, hl]
          rw [Array.toList_append, Array.toList_append, ← hll]; exact List.take_left
end Go.Proofs.YtdaimaibnjkfbaaDoor
