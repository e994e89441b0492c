/-
  Small laws for all walks of this seat: numbers as Go holds them; slices that read as lists; what is owned.
-/
import Derived.Test.YtjoadcgegobjpaaDoorRows
import Derived.WalkKit
import Derived.WalkSpells
import Derived.WalkLawsBesides
import Derived.Lib.Hide
import Derived.Handy
import Derived.StillTailTactics
import Derived.BigQuiet
import Derived.Deep.QuietTactic
import Derived.Deep.RegionHeld3
import Derived.Deep.RegionWith
import Derived.Deep.AppendLies
import Derived.Laws.EntriesVeiled
import Derived.Deep.DeepCutAuto
import Derived.Deep.CutBlock
import Derived.Deep.LoopGhost
import Derived.Deep.DeepMust
namespace Go.Proofs.YtjoadcgegobjpaaDoor
open Go.RowKit

/-- A number of 32 bits as Go holds it. -/
def I32 (u : UInt32) : Int := (u.toNat : Int)
theorem I32_lt (u : UInt32) : 0 ≤ I32 u ∧ I32 u < 4294967296 := by unfold I32; have := u.toNat_lt; omega
theorem I32_inj {a b : UInt32} (h : I32 a = I32 b) : a = b := by unfold I32 at h; exact UInt32.toNat_inj.1 (by omega)
theorem I32_ofInt (u : UInt32) : BitVec.ofInt 32 (I32 u) = u.toBitVec := by
  unfold I32; rw [BitVec.ofInt_natCast]; simp
theorem wrap_u32n (n : Nat) (h : n < 4294967296) : IntKind.u32.wrap (n : Int) = (n : Int) := by
  simp [IntKind.wrap, IntKind.bits, IntKind.signed]; omega
theorem I32_of_bv (b : BitVec 32) : IntKind.u32.wrap (b.toNat : Int) = I32 (UInt32.ofBitVec b) := by
  rw [wrap_u32n _ b.isLt]; rfl
@[go_sem] theorem I32_and (a b : UInt32) : bits .and .u32 (I32 a) (I32 b) = I32 (a &&& b) := by
  show IntKind.u32.wrap ((BitVec.ofInt 32 (I32 a) &&& BitVec.ofInt 32 (I32 b)).toNat : Int) = _
  rw [I32_of_bv, I32_ofInt, I32_ofInt]; rfl
@[go_sem] theorem I32_xor (a b : UInt32) : bits .xor .u32 (I32 a) (I32 b) = I32 (a ^^^ b) := by
  show IntKind.u32.wrap ((BitVec.ofInt 32 (I32 a) ^^^ BitVec.ofInt 32 (I32 b)).toNat : Int) = _
  rw [I32_of_bv, I32_ofInt, I32_ofInt]; rfl
@[go_sem] theorem I32_or (a b : UInt32) : bits .or .u32 (I32 a) (I32 b) = I32 (a ||| b) := by
  show IntKind.u32.wrap ((BitVec.ofInt 32 (I32 a) ||| BitVec.ofInt 32 (I32 b)).toNat : Int) = _
  rw [I32_of_bv, I32_ofInt, I32_ofInt]; rfl
@[go_sem] theorem I32_not (a : UInt32) : bits .xor .u32 IntKind.u32.max (I32 a) = I32 (~~~a) := by
  show IntKind.u32.wrap ((BitVec.ofInt 32 IntKind.u32.max ^^^ BitVec.ofInt 32 (I32 a)).toNat : Int) = _
  have h : BitVec.ofInt 32 IntKind.u32.max = BitVec.allOnes 32 := by decide
  rw [I32_of_bv, h, I32_ofInt, BitVec.allOnes_xor]; rfl
@[go_sem] theorem I32_byte (c : UInt8) : ((c.toNat : Int) % 4294967296) = I32 c.toUInt32 := by
  unfold I32; have := c.toNat_lt; simp; omega
theorem I32_shr1 (x : UInt32) : I32 x / (2 : Int) = I32 (x >>> 1) := by
  unfold I32; simp [Nat.shiftRight_eq_div_pow]
theorem I32_neg (x : UInt32) : -(I32 x) % 4294967296 = I32 (-x) := by
  unfold I32; have := x.toNat_lt
  rw [UInt32.toNat_neg]; unfold UInt32.size; omega

/-- A byte as a value. -/
def V8 (c : UInt8) : Value := .int .u8 (c.toNat : Int)
theorem V8_inj {a b : UInt8} (h : V8 a = V8 b) : a = b := by
  unfold V8 at h; injection h with _ h; exact UInt8.toNat_inj.1 (by omega)
theorem map_V8_inj {a b : List UInt8} (h : a.map V8 = b.map V8) : a = b := by
  induction a generalizing b with
  | nil => cases b with
    | nil => rfl
    | cons _ _ => simp at h
  | cons x a ih => cases b with
    | nil => simp at h
    | cons y b => simp only [List.map_cons, List.cons.injEq] at h; rw [V8_inj h.1, ih h.2]

theorem below_heap {w w' : World} (hb : Below w.heap.size w w') {a : Addr} {x : Value} (h : w.cell? a = some x) : w'.cell? a = some x := by
  rw [hb.cell (World.block_lt_of_cell? w a h)]; exact h

/-- What a slice reads as: n elements, so many cells. -/
def Rd (w : World) (v : Value) (n : Nat) (xs : List Value) : Prop :=
  ∃ a cap, v = .slice a n cap ∧ n ≤ cap ∧ cap ≤ 9223372036854775807 ∧ (a = none → cap = 0) ∧ (∀ j, j < xs.length → ∃ b off, a = some ⟨b, off, none⟩ ∧ w.cell? ⟨b, off + j, none⟩ = some (xs.getD j undef))
theorem Rd.nil (w : World) : Rd w (.slice none 0 0) 0 [] := ⟨none, 0, rfl, by omega, by omega, fun _ => rfl, fun j h => by simp at h⟩
theorem Rd.below {w w' : World} {v : Value} {n : Nat} {xs : List Value} (h : Rd w v n xs) (hb : Below w.heap.size w w') : Rd w' v n xs := by
  obtain ⟨a, cap, rfl, h1, h2, h0, h3⟩ := h
  refine ⟨a, cap, rfl, h1, h2, h0, fun j hj => ?_⟩
  obtain ⟨b, off, rfl, h4⟩ := h3 j hj
  exact ⟨b, off, rfl, below_heap hb h4⟩
theorem Rd.keep {w w' : World} {v : Value} {n : Nat} {xs : List Value} (h : Rd w v n xs) (hb : ∀ k, v.ownBlock = some k → k < w.heap.size → w'.heap[k]? = w.heap[k]?) : Rd w' v n xs := by
  obtain ⟨a, cap, rfl, h1, h2, h0, h3⟩ := h
  refine ⟨a, cap, rfl, h1, h2, h0, fun j hj => ?_⟩
  obtain ⟨b, off, rfl, h4⟩ := h3 j hj
  refine ⟨b, off, rfl, ?_⟩
  rw [World.cell?_of_block (w := w) (hb b rfl (World.block_lt_of_cell? w _ h4))]; exact h4
/-- A shorter slice of the same. -/
theorem Rd.cut {w : World} {a : Option Addr} {cap n m : Nat} {xs : List Value} (h : Rd w (.slice a n cap) n xs) (hm : m ≤ cap) (k : Nat) : Rd w (.slice a m cap) m (xs.take k) := by
  obtain ⟨a', cap', h0, h1, h2, h9, h3⟩ := h
  injection h0 with e1 e2 e3
  subst e1; subst e3
  refine ⟨a, cap, rfl, hm, h2, h9, fun j hj => ?_⟩
  rw [List.length_take] at hj
  obtain ⟨b, off, rfl, h4⟩ := h3 j (by omega)
  refine ⟨b, off, rfl, ?_⟩
  rw [h4, List.getD, List.getD, List.getElem?_take, if_pos (by omega)]
theorem Rd.len {w : World} {v : Value} {n : Nat} {xs : List Value} (h : Rd w v n xs) : n ≤ 9223372036854775807 := by
  obtain ⟨a, cap, rfl, h1, h2, _⟩ := h; omega
theorem rd_of_own {w : World} {base : Nat} {e : TypeId} {size n : Nat} {v : Value} {xs : List Value} (h : w.ownsRow base e size v n xs) : Rd w v n xs := by
  obtain ⟨h0, h⟩ := h
  rcases h with ⟨rfl, rfl⟩ | ⟨g, cap, cur, rfl, hb, hg, hn, hc, hs, ht⟩
  · have : xs = [] := List.eq_nil_of_length_eq_zero (by simpa using h0)
    subst this; exact Rd.nil w
  · refine ⟨_, cap, rfl, hn, by unfold maxLen at hc; omega, (fun h => by cases h), fun j hj => ⟨g, 0, rfl, ?_⟩⟩
    have hc2 : w.cell? ⟨g, 0 + j, none⟩ = cur[0 + j]? := cell_of_row w g (0 + j) cur e (0, 0) hg
    rw [hc2, Nat.zero_add, ← ht, List.getD, List.getElem?_take, if_pos (by omega)]
    have : j < cur.size := by
      have h1 : (cur.toList.take (n * size)).length = xs.length := by rw [ht]
      rw [List.length_take, Array.length_toList] at h1; omega
    simp [Array.getElem?_eq_getElem this]
theorem own_lt {w : World} {base : Nat} {e : TypeId} {size n : Nat} {v : Value} {xs : List Value} (h : w.ownsRow base e size v n xs) : ∀ k, v.ownBlock = some k → base ≤ k ∧ k < w.heap.size := h.lt
/-- An owned row stays where the blocks below its end stay. -/
theorem own_below {w w' : World} {base : Nat} {e : TypeId} {size n : Nat} {v : Value} {xs : List Value} (h : w.ownsRow base e size v n xs) (hb : Below w.heap.size w w') : w'.ownsRow base e size v n xs := by
  refine ⟨h.1, ?_⟩
  rcases h.2 with hn | ⟨g, cap, cur, rfl, hbg, hg, rest⟩
  · exact .inl hn
  · exact .inr ⟨g, cap, cur, rfl, hbg, by rw [hb.block g (lt_of_block hg)]; exact hg, rest⟩
theorem own_base {w : World} {base base' : Nat} {e : TypeId} {size n : Nat} {v : Value} {xs : List Value} (h : w.ownsRow base e size v n xs) (hb : base' ≤ base) : w.ownsRow base' e size v n xs := by
  refine ⟨h.1, ?_⟩
  rcases h.2 with hn | ⟨g, cap, cur, rfl, hbg, rest⟩
  · exact .inl hn
  · exact .inr ⟨g, cap, cur, rfl, by omega, rest⟩
theorem below_grown {B : Nat} {w w' : World} {v : Value} (hg : w.grownBy w' v.ownBlock) (hB : B ≤ w.heap.size) (hv : ∀ k, v.ownBlock = some k → B ≤ k) : Below B w w' :=
  (Below.refl B w).grown hg hB hv
theorem below_alloc (w : World) (o : Obj) : Below w.heap.size w (w.alloc o) := (Below.refl _ _).alloc (Nat.le_refl _) o
/-- Below the first heap's end, through a second step that keeps all of the first's end. -/
theorem below_trans {a b c : World} (h : Below a.heap.size a b) (k : Below b.heap.size b c) : Below a.heap.size a c := h.trans (k.mono h.size)
theorem ret_eq {v v' : Value} (h : v = v') : Ending.returned v = .returned v' := by rw [h]
/-- Two values lie in different blocks. -/
def Apart (u v : Value) : Prop := ∀ k, u.ownBlock = some k → v.ownBlock ≠ some k
/-- Behind an append the row is where it was, or in a new block. -/
def Moved (w : World) (v v' : Value) : Prop := v'.ownBlock = v.ownBlock ∨ v'.ownBlock = some w.heap.size
theorem Apart.symm {u v : Value} (h : Apart u v) : Apart v u := fun k h1 h2 => h k h2 h1
theorem Apart.moved {w : World} {u v v' : Value} (h : Apart u v) (hm : Moved w v v') (hu : ∀ k, u.ownBlock = some k → k < w.heap.size) : Apart u v' := by
  intro k hk
  rcases hm with e | e
  · rw [e]; exact h k hk
  · rw [e]; intro e2; injection e2 with e2; have := hu k hk; omega
theorem apart_nil (u : Value) : Apart u (.slice none 0 0) := fun k _ h => by simp [Value.ownBlock] at h
theorem nil_apart (u : Value) : Apart (.slice none 0 0) u := fun k h => by simp [Value.ownBlock] at h
theorem own_other {w w' : World} {base : Nat} {e : TypeId} {size n : Nat} {u v : Value} {xs : List Value} (h : w.ownsRow base e size u n xs) (hg : w.grownBy w' v.ownBlock) (ha : Apart u v) : w'.ownsRow base e size u n xs := by
  refine h.kept hg ?_
  cases hu : u.ownBlock with
  | none => exact .inl rfl
  | some k => exact .inr (fun e => ha k hu e.symm)
theorem run_append_own2 {P : Program} (w : World) (base : Nat) (t ty e : TypeId) (i : TypeInfo) (z : Value) (size bytes : Nat) (ht : P.underlying t = some (.slice e)) (hi : P.info? e = some i) (hz : i.zero = some z)
    (hsize : i.size = size) (hby : i.bytes = bytes) (hzs : z.cells.size = size) (hsz : 0 < size)
    (v : Value) (n : Nat) (xs : List Value) (hown : w.ownsRow base e size v n xs)
    (a : Addr) (m c : Nat) (news : List Value) (hl : news.length = m * size) (hnews : ∀ j u, news[j]? = some u → w.cell? (a.add j) = some u) (h1 : ∀ u ∈ news, u.oneCell' = true)
    (h63 : n + m ≤ maxLen) (hbytes : (n + m) * bytes ≤ 140737488355328) (hbase : base ≤ w.heap.size) :
    ∃ v' w', (Builtin.append_ #[t, t] ty #[v, .slice (some a) m c]).run P w = .ok v' w' ∧ w'.ownsRow base e size v' (n + m) (xs ++ news) ∧ w.grownBy w' v.ownBlock ∧ Moved w v v' := by
  obtain ⟨v', w', hr, h2, h3, h4⟩ := run_append_own (P := P) w base t ty e i z size bytes ht hi hz hsize hby hzs hsz v n xs hown a m c news hl hnews h1 h63 hbytes hbase
  refine ⟨v', w', hr, h2, h3, ?_⟩
  have hsmall : n + m ≤ 9223372036854775807 := by simp only [maxLen] at h63; omega
  rcases hown.2 with ⟨rfl, rfl⟩ | ⟨g, cap, cur, rfl, hbg, hg, hnc, hcm, hcs, htake⟩
  · by_cases hm : m = 0
    · subst hm
      have := (h4.2 ⟨rfl, rfl⟩); subst this; exact .inl rfl
    · subst hsize; subst hby
      have hr2 := run_append_nil (P := P) w t ty e i z ht hi hz a m c news hl hnews (by omega) (by omega) (by have hb := hbytes; simp only [Nat.zero_add] at hb; omega)
      rw [hr2] at hr
      injection hr with e1 e2
      subst e1; exact .inr rfl
  · by_cases hroom : n + m ≤ cap
    · subst hsize
      have hr2 := run_append_room (P := P) w t ty e i ht hi g n cap cur hg a m c news hl hnews h1 hroom (by rw [hl, hcs, ← Nat.add_mul]; exact Nat.mul_le_mul_right _ hroom)
      rw [hr2] at hr
      injection hr with e1 e2
      subst e1; exact .inl rfl
    · subst hsize; subst hby
      have hr2 := run_append_grow (P := P) w t ty e i z ht hi hz ⟨g, 0, none⟩ n cap xs hown.1 (hown.cells (g := g) rfl) a m c news hl hnews (by omega) (by omega) (growslice_fits (by omega) hbytes)
      rw [hr2] at hr
      injection hr with e1 e2
      subst e1; exact .inr rfl
theorem wpList_append_own2 {P : Program} {w : World} {ops : Array Oper} {rest : List Oper} {o : Oper} {a : Act} {Q : Exit → Act → World → Prop} (hgd : o.guard = none) (s x : Operand) (t : TypeId)
    (ho : o.op = .call { callee := .builtin .append, args := #[s, x], argTypes := #[t, t] })
    (base : Nat) (e : TypeId) (i : TypeInfo) (z : Value) (size bytes : Nat) (ht : P.underlying t = some (.slice e)) (hi : P.info? e = some i) (hz : i.zero = some z)
    (hsize : i.size = size) (hby : i.bytes = bytes) (hzs : z.cells.size = size) (hsz : 0 < size)
    (v : Value) (n : Nat) (xs : List Value) (hs : a.eval s = v) (hown : w.ownsRow base e size v n xs)
    (ad : Addr) (m c : Nat) (news : List Value) (hx : a.eval x = .slice (some ad) m c) (hl : news.length = m * size) (hnews : ∀ j u, news[j]? = some u → w.cell? (ad.add j) = some u) (h1 : ∀ u ∈ news, u.oneCell' = true)
    (h63 : n + m ≤ maxLen) (hbytes : (n + m) * bytes ≤ 140737488355328) (hbase : base ≤ w.heap.size)
    (h : ∀ v' w', w'.ownsRow base e size v' (n + m) (xs ++ news) → w.grownBy w' v.ownBlock → Moved w v v' → wpList P ops Q rest (a.put o.dst v') w') : wpList P ops Q (o :: rest) a w := by
  refine wpList_plain hgd fun _ hK => ?_
  obtain ⟨v', w', hr, h2, h3, h4⟩ := run_append_own2 (P := P) w base t o.type e i z size bytes ht hi hz hsize hby hzs hsz v n xs hown ad m c news hl hnews h1 h63 hbytes hbase
  unfold Oper.wp execOp
  simp only [ho, resolve, invoke, builtin, Sem.run_bind, Sem.run_pure, Result.andThen_ok, List.map_toArray, List.map_cons, List.map_nil, hs, hx, hr]
  exact hK _ _ (h v' w' h2 h3 h4)
/-- 's[k:]' of a slice of one-cell elements. -/
def tailV (a : Option Addr) (n cap k : Nat) : Value := .slice (if cap = k then a else a.map (·.add k)) (n - k) (cap - k)
theorem run_tail {P : Program} {t e : TypeId} (ht : P.underlying t = some (.slice e)) (hs : (P.info? e).map (·.size) = some 1) (a : Option Addr) (n cap k : Nat) (hk : k ≤ n) (w : World) :
    (Instr.slice t (.slice a n cap) (some (.int .i64 (k : Int))) none none).run P w = .ok (tailV a n cap k) w := by
  have hx : P.elem t = e := by unfold Program.elem; rw [ht]
  have hsz : (sizeOf e).run P w = .ok 1 w := by
    cases hi : P.info? e with
    | none => rw [hi] at hs; cases hs
    | some i =>
      rw [hi] at hs
      simp only [Option.map_some, Option.some.injEq] at hs
      simp [sizeOf, typeInfo, hi, hs]
  rw [run_slice_l w t a n cap (by rw [hx]; exact ht) .i64 (k : Int) (by omega) (by omega), hx, hsz]
  simp [Result.andThen, sliced, tailV]
theorem run_head {P : Program} {t e : TypeId} (ht : P.underlying t = some (.slice e)) (hs : ∃ k, (P.info? e).map (·.size) = some k) (a : Option Addr) (n cap k : Nat) (hk : k ≤ cap) (w : World) :
    (Instr.slice t (.slice a n cap) none (some (.int .i64 (k : Int))) none).run P w = .ok (.slice a k cap) w := by
  have hx : P.elem t = e := by unfold Program.elem; rw [ht]
  obtain ⟨sz, hs⟩ := hs
  have hsz : (sizeOf e).run P w = .ok sz w := by
    cases hi : P.info? e with
    | none => rw [hi] at hs; cases hs
    | some i =>
      rw [hi] at hs
      simp only [Option.map_some, Option.some.injEq] at hs
      simp [sizeOf, typeInfo, hi, hs]
  rw [run_slice_h w t a n cap (by rw [hx]; exact ht) .i64 (k : Int) (by omega) (by omega), hx, hsz]
  have : a.map (fun x => x.add 0) = a := by cases a <;> rfl
  simp [Result.andThen, sliced, this]
theorem tailV_rd {w : World} {a : Option Addr} {n cap k : Nat} {xs : List Value} (h : Rd w (.slice a n cap) n xs) (hk : k ≤ n) (hx : xs.length ≤ n) : Rd w (tailV a n cap k) (n - k) (xs.drop k) := by
  obtain ⟨a', cap', h0, h1, h2, h9, h3⟩ := h
  injection h0 with e1 e2 e3
  subst e1; subst e3
  refine ⟨_, _, rfl, by omega, by omega, (fun h => by
    have : cap = 0 := by
      by_cases hc : cap = k
      · rw [if_pos hc] at h; exact h9 h
      · rw [if_neg hc] at h; cases a with
        | none => exact h9 rfl
        | some _ => cases h
    omega), fun j hj => ?_⟩
  rw [List.length_drop] at hj
  obtain ⟨b, off, rfl, h4⟩ := h3 (k + j) (by omega)
  rw [if_neg (by omega)]
  refine ⟨b, off + k, by simp [Go.WideShapes.add_plain], ?_⟩
  rw [Nat.add_assoc, h4]; simp [List.getD]
theorem tailV_shape (a : Option Addr) (n cap k : Nat) : ∃ a', tailV a n cap k = .slice a' (n - k) (cap - k) := ⟨_, rfl⟩
/-- A block that is known whole. -/
def Box (w : World) (b : Nat) (cs : Array Value) (t : TypeId) : Prop := w.heap[b]? = some (.cells cs t (0, 0))
theorem Box.lt {w : World} {b : Nat} {cs : Array Value} {t : TypeId} (h : Box w b cs t) : b < w.heap.size := lt_of_block h
theorem Box.cell {w : World} {b : Nat} {cs : Array Value} {t : TypeId} (h : Box w b cs t) (j : Nat) (x : Value) (hx : cs[j]? = some x) : w.cell? ⟨b, j, none⟩ = some x := by
  unfold Box at h; simp [World.cell?, h, hx]
theorem Box.free {w : World} {b : Nat} {cs : Array Value} {t : TypeId} (h : Box w b cs t) (j : Nat) : w.frozen? ⟨b, j, none⟩ = false := by
  unfold Box at h; simp [World.frozen?, h]
theorem Box.new (w : World) (cs : Array Value) (t : TypeId) : Box (w.alloc (.cells cs t)) w.heap.size cs t := heap_alloc_new w _
theorem Box.below {w w' : World} {b : Nat} {cs : Array Value} {t : TypeId} (h : Box w b cs t) (hb : Below w.heap.size w w') : Box w' b cs t := by
  unfold Box; rw [hb.block b h.lt]; exact h
theorem Box.keep {w w' : World} {b : Nat} {cs : Array Value} {t : TypeId} (h : Box w b cs t) (hb : w'.heap[b]? = w.heap[b]?) : Box w' b cs t := by
  unfold Box; rw [hb]; exact h
theorem Box.set {w : World} {b : Nat} {cs : Array Value} {t : TypeId} (h : Box w b cs t) (j : Nat) (u : Value) : Box (w.setCell ⟨b, j, none⟩ u) b (cs.setIfInBounds j u) t := by
  unfold Box at h ⊢
  simp only [World.setCell, Array.getElem?_modify, if_true, h]; rfl
theorem Box.set_other {w : World} {b : Nat} {cs : Array Value} {t : TypeId} (h : Box w b cs t) {p : Addr} (hp : p.block ≠ b) (u : Value) : Box (w.setCell p u) b cs t :=
  h.keep (Below.heap_setCell w p u b (fun e => hp e.symm))
theorem Box.drew {w : World} {b : Nat} {cs : Array Value} {t : TypeId} (h : Box w b cs t) : Box w.drew b cs t := h
theorem below_drew (w : World) : Below w.heap.size w w.drew := (Below.refl _ _).drew
theorem Rd.drew {w : World} {v : Value} {n : Nat} {xs : List Value} (h : Rd w v n xs) : Rd w.drew v n xs := h
/-- A row that is owned: its value, its elements' type, their cells, how many, the cells. -/
structure ORow where
  v : Value
  e : TypeId
  size : Nat
  n : Nat
  xs : List Value
def ORow.at (r : ORow) (w : World) (B : Nat) : Prop := w.ownsRow B r.e r.size r.v r.n r.xs
/-- Rows that are owned, pairwise apart. -/
def OwnAll (w : World) (B : Nat) : List ORow → Prop
  | [] => True
  | r :: l => r.at w B ∧ (∀ p ∈ l, Apart r.v p.v) ∧ OwnAll w B l
theorem OwnAll.below {w w' : World} {B : Nat} (hb : Below w.heap.size w w') : ∀ {l : List ORow}, OwnAll w B l → OwnAll w' B l
  | [], _ => trivial
  | _ :: _, ⟨h1, h2, h3⟩ => ⟨own_below h1 hb, h2, OwnAll.below hb h3⟩
theorem OwnAll.alloc {w : World} {B : Nat} {l : List ORow} (h : OwnAll w B l) (o : Obj) : OwnAll (w.alloc o) B l := h.below (below_alloc w o)
theorem OwnAll.mem {w : World} {B : Nat} : ∀ {l : List ORow} {r : ORow}, OwnAll w B l → r ∈ l → r.at w B
  | _ :: _, r, ⟨h1, _, h3⟩, hr => by
    cases List.mem_cons.1 hr with
    | inl e => subst e; exact h1
    | inr e => exact OwnAll.mem h3 e
theorem OwnAll.kept {w w' : World} {B : Nat} {v : Value} (hg : w.grownBy w' v.ownBlock) : ∀ {l : List ORow}, OwnAll w B l → (∀ p ∈ l, Apart v p.v) → OwnAll w' B l
  | [], _, _ => trivial
  | r :: l, ⟨h1, h2, h3⟩, ha => ⟨own_other h1 hg (ha r (by simp)).symm, h2, OwnAll.kept hg h3 (fun p hp => ha p (by simp [hp]))⟩
theorem OwnAll.step {w w' : World} {B : Nat} {r : ORow} {l : List ORow} (h : OwnAll w B (r :: l)) {v' : Value} {n' : Nat} {xs' : List Value} (hown : w'.ownsRow B r.e r.size v' n' xs') (hg : w.grownBy w' r.v.ownBlock) (hm : Moved w r.v v') :
    OwnAll w' B (⟨v', r.e, r.size, n', xs'⟩ :: l) :=
  ⟨hown, fun p hp => ((h.2.1 p hp).symm.moved hm (fun k hk => ((h.2.2.mem hp).lt k hk).2)).symm, h.2.2.kept hg h.2.1⟩
theorem OwnAll.append {w : World} {B : Nat} {r : ORow} : ∀ {l : List ORow}, OwnAll w B l → r.at w B → (∀ p ∈ l, Apart r.v p.v) → OwnAll w B (l ++ [r])
  | [], _, h, _ => ⟨h, (fun _ hp => by simp at hp), trivial⟩
  | q :: l, ⟨h1, h2, h3⟩, h, ha => by
    refine ⟨h1, fun p hp => ?_, OwnAll.append h3 h (fun p hp => ha p (by simp [hp]))⟩
    rcases List.mem_append.1 hp with hp | hp
    · exact h2 p hp
    · have : p = r := by simpa using hp
      subst this; exact (ha q (by simp)).symm
theorem OwnAll.rotate {w : World} {B : Nat} {r : ORow} {l : List ORow} (h : OwnAll w B (r :: l)) : OwnAll w B (l ++ [r]) := h.2.2.append h.1 h.2.1
/-- A step of a round: what was owned below B, grown. -/
theorem below_step {B : Nat} {w w1 w2 : World} {v : Value} (hb : Below B w w1) (hB : B ≤ w1.heap.size) (hg : w1.grownBy w2 v.ownBlock) (hv : ∀ k, v.ownBlock = some k → B ≤ k) : Below B w w2 := hb.trans (below_grown hg hB hv)
theorem oneC_int (k : IntKind) (n : Int) : ∀ u ∈ [Value.int k n], u.oneCell' = true := by simp [Value.oneCell']
theorem oneC_string (b : ByteArray) : ∀ u ∈ [Value.string b], u.oneCell' = true := by simp [Value.oneCell']
theorem oneC_slice (a : Option Addr) (n c : Nat) : ∀ u ∈ [Value.slice a n c], u.oneCell' = true := by simp [Value.oneCell']
/-- The lowest byte of a number. -/
def B8 (n : Int) : UInt8 := UInt8.ofNat (n % 256).toNat
theorem B8_val (n : Int) : ((B8 n).toNat : Int) = n % 256 := by
  unfold B8
  have : (UInt8.ofNat (n % 256).toNat).toNat = (n % 256).toNat := by show (n % 256).toNat % 2 ^ 8 = _; omega
  rw [this]; omega
theorem V8_B8 (n : Int) : V8 (B8 n) = .int .u8 (n % 256) := by unfold V8; rw [B8_val]
theorem V8_B8' (n : Int) (h : 0 ≤ n ∧ n ≤ 255) : V8 (B8 n) = .int .u8 n := by rw [V8_B8]; congr 1; omega
/-- A literal list of bytes. -/
theorem rd_lit (w : World) (cs : Array Value) (T : TypeId) (l : List UInt8) (h : cs.toList = l.map V8) (hl : l.length ≤ 9223372036854775807) : Rd (w.alloc (.cells cs T)) (.slice (some ⟨w.heap.size, 0, none⟩) l.length l.length) l.length (l.map V8) := by
  refine ⟨_, _, rfl, Nat.le_refl _, hl, (fun h => by cases h), fun j hj => ⟨w.heap.size, 0, rfl, ?_⟩⟩
  rw [Nat.zero_add]
  refine (Box.new w cs T).cell j _ ?_
  rw [← Array.getElem?_toList, h, List.getD, List.getElem?_eq_getElem hj]; rfl
/-- 'append(s, x...)': whatever the source. -/
theorem wpList_append_src {P : Program} {w : World} {ops : Array Oper} {rest : List Oper} {o : Oper} {a : Act} {Q : Exit → Act → World → Prop} (hgd : o.guard = none) (s x : Operand) (t : TypeId)
    (ho : o.op = .call { callee := .builtin .append, args := #[s, x], argTypes := #[t, t] })
    (base : Nat) (e : TypeId) (i : TypeInfo) (z : Value) (size bytes : Nat) (ht : P.underlying t = some (.slice e)) (hi : P.info? e = some i) (hz : i.zero = some z)
    (hsize : i.size = size) (hby : i.bytes = bytes) (hzs : z.cells.size = size) (hsz : 0 < size)
    (v : Value) (n : Nat) (xs : List Value) (hs : a.eval s = v) (hown : w.ownsRow base e size v n xs)
    (src : Value) (m : Nat) (news : List Value) (hx : a.eval x = src) (hsrc : Rd w src m news) (hl : news.length = m * size) (h1 : ∀ u ∈ news, u.oneCell' = true)
    (h63 : n + m ≤ maxLen) (hbytes : (n + m) * bytes ≤ 140737488355328) (hbase : base ≤ w.heap.size)
    (h : ∀ v' w', w'.ownsRow base e size v' (n + m) (xs ++ news) → w.grownBy w' v.ownBlock → Moved w v v' → wpList P ops Q rest (a.put o.dst v') w') : wpList P ops Q (o :: rest) a w := by
  obtain ⟨ad, cap, rfl, hmc, _, hnil, hcell⟩ := hsrc
  cases ad with
  | some ad =>
    refine wpList_append_own2 hgd s x t ho base e i z size bytes ht hi hz hsize hby hzs hsz v n xs hs hown ad m cap news hx hl (fun j u hj => ?_) h1 h63 hbytes hbase h
    have hjl : j < news.length := (List.getElem?_eq_some_iff.1 hj).1
    obtain ⟨b, off, e1, e2⟩ := hcell j hjl
    injection e1 with e1; subst e1
    rw [Go.WideShapes.add_plain, e2, List.getD, hj]; rfl
  | none =>
    have hc0 := hnil rfl
    subst hc0
    have hm0 : m = 0 := by omega
    subst hm0
    have hn0 : news = [] := List.eq_nil_of_length_eq_zero (by simpa using hl)
    subst hn0
    refine wpList_plain hgd fun _ hK => ?_
    have hk : ∃ v' w', (Builtin.append_ #[t, t] o.type #[v, .slice none 0 0]).run P w = .ok v' w' ∧ v' = v ∧ w' = w := by
      rcases hown.2 with ⟨rfl, _⟩ | ⟨g, cap, cur, rfl, _, hg, hnc, _⟩
      · exact ⟨_, _, by simp [Builtin.append_, run_underlying ht, sizeOf, typeInfo, hi, Builtin.lenOf, Builtin.firstCells], rfl, rfl⟩
      · refine ⟨_, _, ?_, rfl, rfl⟩
        simp [Builtin.append_, run_underlying ht, sizeOf, typeInfo, hi, Builtin.lenOf, Builtin.firstCells, hnc, loadCells, storeCells]
    obtain ⟨v', w', hr, rfl, rfl⟩ := hk
    unfold Oper.wp execOp
    simp only [ho, resolve, invoke, builtin, Sem.run_bind, Sem.run_pure, Result.andThen_ok, List.map_toArray, List.map_cons, List.map_nil, hs, hx, hr]
    exact hK _ _ (h v' w' (by simpa using hown) ⟨rfl, rfl, rfl, Nat.le_refl _, fun _ _ _ => rfl⟩ (.inl rfl))
theorem OwnAll.setBelow {w : World} {B : Nat} {p : Addr} (hp : p.block < B) (u : Value) : ∀ {l : List ORow}, OwnAll w B l → OwnAll (w.setCell p u) B l
  | [], _ => trivial
  | _ :: _, ⟨h1, h2, h3⟩ => ⟨ownsRow_setCell_below h1 hp u, h2, OwnAll.setBelow hp u h3⟩
/-- A block that is not the row's stays. -/
theorem Box.grown {w w' : World} {b : Nat} {cs : Array Value} {t : TypeId} {r : Option Nat} (h : Box w b cs t) (hg : w.grownBy w' r) (hr : r ≠ some b) : Box w' b cs t :=
  h.keep (hg.block b h.lt (fun e => hr e.symm))
theorem grown_trans {w w1 w2 : World} {r : Option Nat} (h : w.grownBy w1 r) (k : w1.grownBy w2 r) : w.grownBy w2 r :=
  ⟨k.os.trans h.os, k.tape.trans h.tape, k.output.trans h.output, Nat.le_trans h.size k.size, fun i hi hne => (k.block i (Nat.lt_of_lt_of_le hi h.size) hne).trans (h.block i hi hne)⟩
theorem grown_refl (w : World) (r : Option Nat) : w.grownBy w r := ⟨rfl, rfl, rfl, Nat.le_refl _, fun _ _ _ => rfl⟩
theorem below_of_grown {w w' : World} {B : Nat} {r : Option Nat} (hg : w.grownBy w' r) (hB : B ≤ w.heap.size) (hr : ∀ k, r = some k → B ≤ k) : Below B w w' :=
  (Below.refl B w).grown hg hB hr
theorem V8_succ (c : UInt8) : Value.int .u8 (((c.toNat : Int) + 1) % 256) = V8 (c + 1) := by
  unfold V8
  have h : ((c + 1).toNat : Int) = ((c.toNat : Int) + 1) % 256 := by rw [UInt8.toNat_add]; simp
  rw [h]
theorem OwnAll.third {w w' : World} {B : Nat} {r0 r1 r2 : ORow} (h : OwnAll w B [r0, r1, r2]) (hg : w.grownBy w' r2.v.ownBlock) : OwnAll w' B [r0, r1] :=
  ⟨own_other h.1 hg (h.2.1 r2 (by simp)), fun q hq => h.2.1 q (by simp at hq; simp [hq]), own_other h.2.2.1 hg (h.2.2.2.1 r2 (by simp)), fun q hq => by simp at hq, trivial⟩
theorem OwnAll.swap {w : World} {B : Nat} {r0 r1 : ORow} {l : List ORow} (h : OwnAll w B (r0 :: r1 :: l)) : OwnAll w B (r1 :: r0 :: l) :=
  ⟨h.2.2.1, fun q hq => by
    rcases List.mem_cons.1 hq with rfl | hq
    · exact (h.2.1 r1 (by simp)).symm
    · exact h.2.2.2.1 q hq, h.1, fun q hq => h.2.1 q (by simp [hq]), h.2.2.2.2⟩
/-- Of what was there only blocks in F have turned. -/
structure Mod (F : Nat → Prop) (w w' : World) : Prop where
  os : w'.os = w.os
  tape : w'.tape = w.tape
  output : w'.output = w.output
  size : w.heap.size ≤ w'.heap.size
  block : ∀ k, k < w.heap.size → ¬ F k → w'.heap[k]? = w.heap[k]?
theorem Mod.refl (F : Nat → Prop) (w : World) : Mod F w w := ⟨rfl, rfl, rfl, Nat.le_refl _, fun _ _ _ => rfl⟩
theorem Mod.trans {F : Nat → Prop} {a b c : World} (h : Mod F a b) (k : Mod F b c) : Mod F a c :=
  ⟨k.os.trans h.os, k.tape.trans h.tape, k.output.trans h.output, Nat.le_trans h.size k.size, fun i hi hn => (k.block i (Nat.lt_of_lt_of_le hi h.size) hn).trans (h.block i hi hn)⟩
/-- A second step that may turn, besides, what the first has made. -/
theorem Mod.then {F G : Nat → Prop} {a b c : World} (h : Mod F a b) (k : Mod G b c) (hg : ∀ i, G i → F i ∨ a.heap.size ≤ i) : Mod F a c :=
  ⟨k.os.trans h.os, k.tape.trans h.tape, k.output.trans h.output, Nat.le_trans h.size k.size, fun i hi hn => (k.block i (Nat.lt_of_lt_of_le hi h.size) (fun hgi => by
    rcases hg i hgi with h1 | h1
    · exact hn h1
    · omega)).trans (h.block i hi hn)⟩
theorem Mod.mono {F G : Nat → Prop} {a b : World} (h : Mod F a b) (hg : ∀ i, F i → G i) : Mod G a b :=
  ⟨h.os, h.tape, h.output, h.size, fun i hi hn => h.block i hi (fun hf => hn (hg i hf))⟩
theorem Mod.below {F : Nat → Prop} {a b : World} {B : Nat} (h : Mod F a b) (hB : B ≤ a.heap.size) (hf : ∀ i, F i → B ≤ i) : Below B a b :=
  ⟨h.os, h.tape, h.output, h.size, fun i hi => h.block i (by omega) (fun hfi => by have := hf i hfi; omega)⟩
theorem Mod.of_below {F : Nat → Prop} {a b : World} (h : Below a.heap.size a b) : Mod F a b := ⟨h.os, h.tape, h.output, h.size, fun i hi _ => h.block i hi⟩
theorem Mod.of_grown {F : Nat → Prop} {a b : World} {r : Option Nat} (h : a.grownBy b r) (hr : ∀ k, r = some k → F k) : Mod F a b :=
  ⟨h.os, h.tape, h.output, h.size, fun i hi hn => h.block i hi (fun e => hn (hr i e.symm))⟩
theorem Mod.set (F : Nat → Prop) (a : World) (p : Addr) (u : Value) (hp : F p.block) : Mod F a (a.setCell p u) :=
  ⟨rfl, rfl, rfl, by simp, fun i _ hn => Below.heap_setCell a p u i (fun e => hn (by rw [e]; exact hp))⟩
theorem Mod.drew (F : Nat → Prop) (a : World) : Mod F a a.drew := ⟨rfl, rfl, rfl, Nat.le_refl _, fun _ _ _ => rfl⟩
theorem Mod.alloc (F : Nat → Prop) (a : World) (o : Obj) : Mod F a (a.alloc o) := Mod.of_below (below_alloc a o)
theorem Box.mod {w w' : World} {b : Nat} {cs : Array Value} {t : TypeId} {F : Nat → Prop} (h : Box w b cs t) (hm : Mod F w w') (hb : ¬ F b) : Box w' b cs t := h.keep (hm.block b h.lt hb)
theorem own_mod {w w' : World} {base : Nat} {e : TypeId} {size n : Nat} {v : Value} {xs : List Value} {F : Nat → Prop} (h : w.ownsRow base e size v n xs) (hm : Mod F w w') (hb : ∀ k, v.ownBlock = some k → ¬ F k) : w'.ownsRow base e size v n xs := by
  refine ⟨h.1, ?_⟩
  rcases h.2 with hn | ⟨g, cap, cur, rfl, hbg, hg, rest⟩
  · exact .inl hn
  · exact .inr ⟨g, cap, cur, rfl, hbg, by rw [hm.block g (lt_of_block hg) (hb g rfl)]; exact hg, rest⟩
theorem Rd.mod {w w' : World} {v : Value} {n : Nat} {xs : List Value} {F : Nat → Prop} (h : Rd w v n xs) (hm : Mod F w w') (hb : ∀ k, v.ownBlock = some k → ¬ F k) : Rd w' v n xs :=
  h.keep (fun k hk hl => hm.block k hl (hb k hk))
end Go.Proofs.YtjoadcgegobjpaaDoor
/-
  A number out of any number: Pick of package lineagekit.
-/
namespace Go.Proofs.YtjoadcgegobjpaaDoor
open Go.RowKit

/-- A number from 0 to n - 1 out of any number. -/
def pickI (k n : Int) : Int := if n < 1 then 0 else k % n
theorem pickI_lt (k n : Int) (h : 1 ≤ n) : 0 ≤ pickI k n ∧ pickI k n < n := by
  unfold pickI; rw [if_neg (by omega)]; exact ⟨Int.emod_nonneg _ (by omega), Int.emod_lt_of_pos _ (by omega)⟩
theorem tmod_pick (k n : Int) (hn : 1 ≤ n) : (if k.tmod n < 0 then k.tmod n + n else k.tmod n) = k % n := by
  have h1 := Int.tmod_eq_emod (a := k) (b := n)
  have h5 : 0 ≤ k % n := Int.emod_nonneg _ (by omega)
  have h6 : k % n < n := Int.emod_lt_of_pos _ (by omega)
  by_cases h : 0 ≤ k ∨ n ∣ k
  · rw [if_pos h] at h1; rw [if_neg (by omega)]; omega
  · rw [if_neg h] at h1; rw [if_pos (by omega)]; omega
set_option maxHeartbeats 400000 in
theorem pick_calls (k n : Int) (w : World) (h1 : -9223372036854775808 ≤ k) (h2 : k ≤ 9223372036854775807) (h3 : -9223372036854775808 ≤ n) (h4 : n ≤ 9223372036854775807) :
    Calls Tryd.prog 4 #[.int .i64 k, .int .i64 n] w fun e w' => e = .returned (.int .i64 (pickI k n)) ∧ w = w' := by
  by_cases hn : n < 1
  · go_enter Tryd.func4, Tryd.ntmps4
    go_wp2
    go_ret
    exact ⟨by simp [pickI, hn], rfl⟩
  · have hne : Hid (pickI k n = k % n) := by unfold pickI; rw [if_neg hn]; rfl
    have ht := tmod_pick k n (by omega)
    have hm1 : 0 ≤ k % n := Int.emod_nonneg _ (by omega)
    have hm0 : k % n < n := Int.emod_lt_of_pos _ (by omega)
    by_cases hk : 0 ≤ k
    · clear ht
      go_enter Tryd.func4, Tryd.ntmps4
      go_wp2
      go_ret
      exact ⟨by rw [hne.out]; rfl, rfl⟩
    · by_cases hz : k.tmod n < 0
      · rw [if_pos hz] at ht
        have hm2 : -n ≤ k.tmod n := by omega
        have hm3 := Lib.hid ht
        clear ht
        go_enter Tryd.func4, Tryd.ntmps4
        go_wp2
        go_ret
        exact ⟨by rw [hne.out, ← hm3.out]; rfl, rfl⟩
      · rw [if_neg hz] at ht
        have hm3 := Lib.hid ht
        clear ht
        go_enter Tryd.func4, Tryd.ntmps4
        go_wp2
        go_ret
        exact ⟨by rw [hne.out, ← hm3.out]; rfl, rfl⟩

end Go.Proofs.YtjoadcgegobjpaaDoor
/-
  Lists of bytes: append, cut.
-/
namespace Go.Proofs.YtjoadcgegobjpaaDoor
open Go.RowKit

theorem info_u8 : (Tryd.prog.info? 5).map (fun i => (i.zero, i.size, i.bytes)) = some (some (.int .u8 0), 1, 1) := by kernel_rfl
/-- 'append(s, x..)' onto bytes that the call owns. -/
theorem appB {w : World} {ops : Array Oper} {rest : List Oper} {o : Oper} {a : Act} {Q : Exit → Act → World → Prop} (hgd : o.guard = none) (s x : Operand)
    (ho : o.op = .call { callee := .builtin .append, args := #[s, x], argTypes := #[46, 46] })
    (base : Nat) (v : Value) (n : Nat) (xs : List Value) (hs : a.eval s = v) (hown : w.ownsRow base 5 1 v n xs)
    (ad : Addr) (m c : Nat) (news : List Value) (hx : a.eval x = .slice (some ad) m c) (hl : news.length = m) (hnews : ∀ j u, news[j]? = some u → w.cell? (ad.add j) = some u) (h1 : ∀ u ∈ news, u.oneCell' = true)
    (hroom : n + m ≤ 140737488355328) (hbase : base ≤ w.heap.size)
    (h : ∀ v' w', w'.ownsRow base 5 1 v' (n + m) (xs ++ news) → w.grownBy w' v.ownBlock → Moved w v v' → wpList Tryd.prog ops Q rest (a.put o.dst v') w') : wpList Tryd.prog ops Q (o :: rest) a w := by
  obtain ⟨i0, hi, hz0, hz1, hz2⟩ := info_parts info_u8
  exact wpList_append_own2 hgd s x 46 ho base 5 i0 (.int .u8 0) 1 1 Tryd.underlying46 hi hz0 hz1 hz2 rfl (by decide) v n xs hs hown ad m c news hx (by omega) hnews h1 (by unfold maxLen; omega) (by omega) hbase h

theorem tailB (a : Option Addr) (n cap k : Nat) (hk : k ≤ n) (w : World) : (Instr.slice 46 (.slice a n cap) (some (.int .i64 (k : Int))) none none).run Tryd.prog w = .ok (tailV a n cap k) w :=
  run_tail Tryd.underlying46 (by kernel_rfl) a n cap k hk w
theorem headB (a : Option Addr) (n cap k : Nat) (hk : k ≤ cap) (w : World) : (Instr.slice 46 (.slice a n cap) none (some (.int .i64 (k : Int))) none).run Tryd.prog w = .ok (.slice a k cap) w :=
  run_head Tryd.underlying46 ⟨1, by kernel_rfl⟩ a n cap k hk w
/-- 'append(s, x...)' of whatever source, onto bytes that the call owns. -/
theorem appSB {w : World} {ops : Array Oper} {rest : List Oper} {o : Oper} {a : Act} {Q : Exit → Act → World → Prop} (hgd : o.guard = none) (s x : Operand)
    (ho : o.op = .call { callee := .builtin .append, args := #[s, x], argTypes := #[46, 46] })
    (base : Nat) (v : Value) (n : Nat) (xs : List Value) (hs : a.eval s = v) (hown : w.ownsRow base 5 1 v n xs)
    (src : Value) (l : List UInt8) (hx : a.eval x = src) (hsrc : Rd w src l.length (l.map V8))
    (hroom : n + l.length ≤ 140737488355328) (hbase : base ≤ w.heap.size)
    (h : ∀ v' w', w'.ownsRow base 5 1 v' (n + l.length) (xs ++ l.map V8) → w.grownBy w' v.ownBlock → Moved w v v' → wpList Tryd.prog ops Q rest (a.put o.dst v') w') : wpList Tryd.prog ops Q (o :: rest) a w := by
  obtain ⟨i0, hi, hz0, hz1, hz2⟩ := info_parts info_u8
  exact wpList_append_src hgd s x 46 ho base 5 i0 (.int .u8 0) 1 1 Tryd.underlying46 hi hz0 hz1 hz2 rfl (by decide) v n xs hs hown src l.length (l.map V8) hx hsrc (by simp) (by
    intro u hu
    obtain ⟨c, _, rfl⟩ := List.mem_map.1 hu
    simp [V8, Value.oneCell']) (by unfold maxLen; omega) (by omega) hbase h
end Go.Proofs.YtjoadcgegobjpaaDoor
/-
  Plain laws on the sum of 32 bits: no program in sight.
-/
namespace Go.Proofs.YtjoadcgegobjpaaDoor

def crcStep (r : UInt32) : UInt32 := (r >>> 1) ^^^ (0xedb88320 &&& -(r &&& 1))
def crcSteps : Nat → UInt32 → UInt32
  | 0, r => r
  | n + 1, r => crcStep (crcSteps n r)
def crcByte (r : UInt32) (c : UInt8) : UInt32 := crcSteps 8 (r ^^^ c.toUInt32)
def crcRun (r : UInt32) (l : List UInt8) : UInt32 := l.foldl crcByte r
/-- The sum of some bytes. -/
def crc (l : List UInt8) : UInt32 := ~~~(crcRun 0xffffffff l)
theorem crcRun_snoc (r : UInt32) (l : List UInt8) (k : Nat) (h : k < l.length) : crcRun r (l.take (k + 1)) = crcByte (crcRun r (l.take k)) l[k] := by
  rw [List.take_succ_eq_append_getElem h, crcRun, List.foldl_append]; rfl
theorem crcRun_append (r : UInt32) (a b : List UInt8) : crcRun r (a ++ b) = crcRun (crcRun r a) b := by rw [crcRun, List.foldl_append]; rfl
theorem low_cases (r : UInt32) : r &&& 1 = 0 ∨ r &&& 1 = 1 := by
  have h : (r &&& 1).toNat ≤ 1 := by
    rw [UInt32.toNat_and]; exact Nat.and_le_right
  have : (r &&& 1).toNat = 0 ∨ (r &&& 1).toNat = 1 := by omega
  rcases this with h | h
  · left; exact UInt32.toNat_inj.1 (by simpa using h)
  · right; exact UInt32.toNat_inj.1 (by simpa using h)
theorem crcStep_odd {r : UInt32} (h : r &&& 1 = 1) : crcStep r = (r >>> 1) ^^^ 0xedb88320 := by
  rw [crcStep, h]; rfl
theorem crcStep_even {r : UInt32} (h : r &&& 1 = 0) : crcStep r = r >>> 1 := by
  rw [crcStep, h, show (0xedb88320 &&& -(0 : UInt32)) = 0 from rfl, UInt32.xor_zero]
theorem xor_and (a b c : UInt32) : (a ^^^ b) &&& c = (a &&& c) ^^^ (b &&& c) := by
  apply UInt32.eq_of_toBitVec_eq
  simp only [UInt32.toBitVec_and, UInt32.toBitVec_xor]
  ext i hi
  simp only [BitVec.getElem_and, BitVec.getElem_xor]
  cases a.toBitVec[i] <;> cases b.toBitVec[i] <;> cases c.toBitVec[i] <;> rfl
theorem xor_shr (a b c : UInt32) : (a ^^^ b) >>> c = (a >>> c) ^^^ (b >>> c) := by
  apply UInt32.eq_of_toBitVec_eq
  simp only [UInt32.toBitVec_shiftRight, UInt32.toBitVec_xor]
  ext i hi
  simp
theorem crcStep_xor (a b : UInt32) : crcStep (a ^^^ b) = crcStep a ^^^ crcStep b := by
  have h : (a ^^^ b) &&& 1 = (a &&& 1) ^^^ (b &&& 1) := xor_and a b 1
  have hs : (a ^^^ b) >>> 1 = (a >>> 1) ^^^ (b >>> 1) := xor_shr a b 1
  rcases low_cases a with ha | ha <;> rcases low_cases b with hb | hb
  · rw [crcStep_even ha, crcStep_even hb, crcStep_even (by rw [h, ha, hb]; rfl), hs]
  · rw [crcStep_even ha, crcStep_odd hb, crcStep_odd (by rw [h, ha, hb]; rfl), hs, UInt32.xor_assoc]
  · rw [crcStep_odd ha, crcStep_even hb, crcStep_odd (by rw [h, ha, hb]; rfl), hs, UInt32.xor_assoc, UInt32.xor_assoc, UInt32.xor_comm (b >>> 1)]
  · rw [crcStep_odd ha, crcStep_odd hb, crcStep_even (by rw [h, ha, hb]; rfl), hs, UInt32.xor_assoc, ← UInt32.xor_assoc 0xedb88320, UInt32.xor_comm 0xedb88320, UInt32.xor_assoc, UInt32.xor_self, UInt32.xor_zero]
theorem crcStep_zero : crcStep 0 = 0 := rfl
theorem crcSteps_zero (n : Nat) : crcSteps n 0 = 0 := by induction n with | zero => rfl | succ n ih => rw [crcSteps, ih]; rfl
theorem crcSteps_xor (n : Nat) (a b : UInt32) : crcSteps n (a ^^^ b) = crcSteps n a ^^^ crcSteps n b := by
  induction n with
  | zero => rfl
  | succ n ih => rw [crcSteps, ih, crcStep_xor]; rfl
theorem crcSteps_add (m n : Nat) (r : UInt32) : crcSteps (m + n) r = crcSteps m (crcSteps n r) := by
  induction m with
  | zero => rw [Nat.zero_add]; rfl
  | succ m ih => rw [Nat.succ_add, crcSteps, ih]; rfl
theorem crcSteps_succ (n : Nat) (r : UInt32) : crcSteps (n + 1) r = crcSteps n (crcStep r) := crcSteps_add n 1 r
/-- The shift of what ends in zeros. -/
theorem crcSteps_shift (k m : Nat) : ∀ r : UInt32, r.toNat = m * 2 ^ k → (crcSteps k r).toNat = m := by
  induction k with
  | zero => intro r h; rw [crcSteps, h]; omega
  | succ k ih =>
    intro r h
    rw [crcSteps_succ]
    apply ih
    have hr : r.toNat = 2 * (m * 2 ^ k) := by rw [h, Nat.pow_succ]; rw [← Nat.mul_assoc, Nat.mul_comm]
    have he : r &&& 1 = 0 := by
      apply UInt32.toNat_inj.1
      rw [UInt32.toNat_and, show (1 : UInt32).toNat = 1 from rfl, Nat.and_one_is_mod, hr]
      simp
    rw [crcStep_even he, UInt32.toNat_shiftRight, hr]
    show (2 * (m * 2 ^ k)) >>> 1 = _
    rw [Nat.shiftRight_eq_div_pow]; omega
theorem crcSteps_shift1 (i : Nat) (hi : i < 32) : crcSteps i (UInt32.ofNat (2 ^ i)) = 1 := by
  apply UInt32.toNat_inj.1
  refine crcSteps_shift i 1 _ ?_
  have : 2 ^ i < 2 ^ 32 := Nat.pow_lt_pow_right (by omega) hi
  show 2 ^ i % 2 ^ 32 = _
  rw [Nat.mod_eq_of_lt this]; omega
/-- A step loses nothing. -/
theorem crcStep_eq_zero {r : UInt32} (h : crcStep r = 0) : r = 0 := by
  have hs : r.toNat = 2 * (r >>> 1).toNat + (r &&& 1).toNat := by
    rw [UInt32.toNat_shiftRight, UInt32.toNat_and, show (1 : UInt32).toNat = 1 from rfl, Nat.and_one_is_mod]
    show r.toNat = 2 * (r.toNat >>> 1) + _
    rw [Nat.shiftRight_eq_div_pow]; omega
  rcases low_cases r with hb | hb
  · rw [crcStep_even hb] at h
    rw [h, hb] at hs
    exact UInt32.toNat_inj.1 (by simpa using hs)
  · rw [crcStep_odd hb] at h
    have h2 : r >>> 1 = 0xedb88320 := by
      have := congrArg (fun x => x ^^^ (0xedb88320 : UInt32)) h
      simpa [UInt32.xor_assoc] using this
    have hl := r.toNat_lt
    rw [h2, hb, show (0xedb88320 : UInt32).toNat = 3988292384 from rfl] at hs
    omega
theorem crcSteps_eq_zero {n : Nat} {r : UInt32} (h : crcSteps n r = 0) : r = 0 := by
  induction n with
  | zero => exact h
  | succ n ih => exact ih (crcStep_eq_zero h)
theorem u8_xor32 (a b : UInt8) : (a ^^^ b).toUInt32 = a.toUInt32 ^^^ b.toUInt32 := by
  apply UInt32.toNat_inj.1; simp
theorem crcByte_xor (r s : UInt32) (a b : UInt8) : crcByte (r ^^^ s) (a ^^^ b) = crcByte r a ^^^ crcByte s b := by
  rw [crcByte, crcByte, crcByte, ← crcSteps_xor, u8_xor32]
  congr 1
  rw [UInt32.xor_assoc, UInt32.xor_assoc]; congr 1
  rw [← UInt32.xor_assoc, ← UInt32.xor_assoc, UInt32.xor_comm s]
theorem crcByte_xor0 (r s : UInt32) (a : UInt8) : crcByte (r ^^^ s) a = crcByte r a ^^^ crcSteps 8 s := by
  have h := crcByte_xor r s a 0
  rw [UInt8.xor_zero] at h
  have h0 : crcByte s 0 = crcSteps 8 s := by
    unfold crcByte
    rw [show (0 : UInt8).toUInt32 = 0 from rfl, UInt32.xor_zero]
  rw [h, h0]
theorem crcRun_xor (l : List UInt8) : ∀ r s : UInt32, crcRun (r ^^^ s) l = crcRun r l ^^^ crcSteps (8 * l.length) s := by
  induction l with
  | nil => intro r s; rfl
  | cons c l ih =>
    intro r s
    show crcRun (crcByte (r ^^^ s) c) l = crcRun (crcByte r c) l ^^^ _
    rw [crcByte_xor0, ih, ← crcSteps_add, List.length_cons, Nat.mul_add]
/-- Three rows laid over one another. -/
theorem crcRun_three (x y z all : List UInt8) (hy : y.length = x.length) (hz : z.length = x.length) (ha : all.length = x.length)
    (h : ∀ i, i < x.length → all.getD i 0 = x.getD i 0 ^^^ y.getD i 0 ^^^ z.getD i 0) : ∀ r s t : UInt32, crcRun (r ^^^ s ^^^ t) all = crcRun r x ^^^ crcRun s y ^^^ crcRun t z := by
  induction x generalizing y z all with
  | nil =>
    intro r s t
    rw [List.length_nil] at hy hz ha
    rw [List.eq_nil_of_length_eq_zero hy, List.eq_nil_of_length_eq_zero hz, List.eq_nil_of_length_eq_zero ha]; rfl
  | cons a x ih =>
    intro r s t
    cases y with
    | nil => simp at hy
    | cons b y => cases z with
      | nil => simp at hz
      | cons c z => cases all with
        | nil => simp at ha
        | cons d all =>
          have h0 := h 0 (by simp)
          simp only [List.getD_cons_zero] at h0
          subst h0
          show crcRun (crcByte _ _) all = crcRun (crcByte r a) x ^^^ crcRun (crcByte s b) y ^^^ crcRun (crcByte t c) z
          rw [crcByte_xor, crcByte_xor]
          exact ih y z all (by simpa using hy) (by simpa using hz) (by simpa using ha) (fun i hi => by simpa using h (i + 1) (by simpa using hi)) _ _ _
theorem crc_three (x y z all : List UInt8) (hy : y.length = x.length) (hz : z.length = x.length) (ha : all.length = x.length)
    (h : ∀ i, i < x.length → all.getD i 0 = x.getD i 0 ^^^ y.getD i 0 ^^^ z.getD i 0) : crc x ^^^ crc y ^^^ crc z = crc all := by
  have e := crcRun_three x y z all hy hz ha h 0xffffffff 0xffffffff 0xffffffff
  rw [show (0xffffffff : UInt32) ^^^ 0xffffffff ^^^ 0xffffffff = 0xffffffff from rfl] at e
  unfold crc
  rw [e]
  generalize crcRun 4294967295 x = p
  generalize crcRun 4294967295 y = q
  generalize crcRun 4294967295 z = r
  apply UInt32.eq_of_toBitVec_eq
  simp only [UInt32.toBitVec_xor, UInt32.toBitVec_not]
  ext i hi
  simp only [BitVec.getElem_xor, BitVec.getElem_not]
  cases p.toBitVec[i] <;> cases q.toBitVec[i] <;> cases r.toBitVec[i] <;> rfl
/-- The four bytes of a number. -/
def le32 (n : UInt32) : List UInt8 := [n.toUInt8, (n >>> 8).toUInt8, (n >>> 16).toUInt8, (n >>> 24).toUInt8]
theorem crcByte_le (r n : UInt32) : crcByte r n.toUInt8 ^^^ (n >>> 8) = crcSteps 8 (r ^^^ n) := by
  have hn : n = n.toUInt8.toUInt32 ^^^ ((n >>> 8) <<< 8) := by
    apply UInt32.toNat_inj.1
    have hl := n.toNat_lt
    apply Nat.eq_of_testBit_eq
    intro i
    simp only [UInt32.toNat_xor, UInt8.toNat_toUInt32, UInt32.toNat_toUInt8, UInt32.toNat_shiftLeft, UInt32.toNat_shiftRight, Nat.testBit_xor]
    show _ = ((n.toNat % 2 ^ 8).testBit i ^^ (n.toNat >>> 8 <<< 8 % 2 ^ 32).testBit i)
    rw [Nat.testBit_mod_two_pow, Nat.testBit_mod_two_pow, Nat.testBit_shiftLeft, Nat.testBit_shiftRight]
    by_cases h8 : i < 8
    · have h32 : i < 32 := by omega
      have h88 : ¬ 8 ≤ i := by omega
      simp [h8, h88]
    · by_cases h32 : i < 32
      · simp [h8, h32]; rw [show 8 + (i - 8) = i by omega]; simp; omega
      · have : n.toNat.testBit i = false := Nat.testBit_lt_two_pow (Nat.lt_of_lt_of_le hl (Nat.pow_le_pow_right (by omega) (by omega)))
        simp [h8, h32, this]
  have hs : crcSteps 8 ((n >>> 8) <<< 8) = n >>> 8 := by
    apply UInt32.toNat_inj.1
    refine crcSteps_shift 8 _ _ ?_
    have hl := n.toNat_lt
    simp [Nat.shiftRight_eq_div_pow, Nat.shiftLeft_eq]
    omega
  conv => rhs; rw [hn, ← UInt32.xor_assoc, crcSteps_xor, hs]
  rfl
theorem crcRun_le (r n : UInt32) : crcRun r (le32 n) = crcSteps 32 (r ^^^ n) := by
  have h1 := crcByte_le r n
  have e16 : (n >>> 8) >>> 8 = n >>> 16 := by
    apply UInt32.toNat_inj.1; simp [← Nat.shiftRight_add]
  have e24 : (n >>> 16) >>> 8 = n >>> 24 := by
    apply UInt32.toNat_inj.1; simp [← Nat.shiftRight_add]
  have e32 : (n >>> 24) >>> 8 = 0 := by
    apply UInt32.toNat_inj.1; have hl := n.toNat_lt; simp [Nat.shiftRight_eq_div_pow]; omega
  have h2 := crcByte_le (crcByte r n.toUInt8) (n >>> 8)
  have h3 := crcByte_le (crcByte (crcByte r n.toUInt8) (n >>> 8).toUInt8) (n >>> 16)
  have h4 := crcByte_le (crcByte (crcByte (crcByte r n.toUInt8) (n >>> 8).toUInt8) (n >>> 16).toUInt8) (n >>> 24)
  rw [e16] at h2; rw [e24] at h3; rw [e32, UInt32.xor_zero] at h4
  show crcByte (crcByte (crcByte (crcByte r n.toUInt8) (n >>> 8).toUInt8) (n >>> 16).toUInt8) (n >>> 24).toUInt8 = _
  rw [h4, h3, h2, h1, ← crcSteps_add, ← crcSteps_add, ← crcSteps_add]
/-- With its own sum behind. -/
theorem crc_own (n : UInt32) : ~~~(crcRun (~~~n) (le32 n)) = 0x2144df1c := by
  have h : ~~~n ^^^ n = 0xffffffff := by
    apply UInt32.eq_of_toBitVec_eq
    simp only [UInt32.toBitVec_xor, UInt32.toBitVec_not]
    rw [show (0xffffffff : UInt32).toBitVec = BitVec.allOnes 32 from rfl]
    ext i hi
    simp only [BitVec.getElem_xor, BitVec.getElem_not, BitVec.getElem_allOnes]
    cases n.toBitVec[i] <;> rfl
  rw [crcRun_le, h]; decide +kernel
/-- A bit turned. -/
theorem crc_flip' (r : UInt32) (pre post : List UInt8) (x : UInt8) (k : Nat) (hk : k < 8) :
    crcRun r (pre ++ (x ^^^ UInt8.ofNat (2 ^ k)) :: post) = crcRun r (pre ++ x :: post) ^^^ crcSteps (8 * post.length + (8 - k)) 1 := by
  rw [crcRun_append, crcRun_append]
  generalize crcRun r pre = t
  show crcRun (crcByte t _) post = crcRun (crcByte t x) post ^^^ _
  have e3 : (UInt8.ofNat (2 ^ k)).toUInt32 = UInt32.ofNat (2 ^ k) := by
    apply UInt32.toNat_inj.1
    have h1 : 2 ^ k < 2 ^ 8 := Nat.pow_lt_pow_right (by omega) hk
    have h2 : 2 ^ k < 2 ^ 32 := Nat.pow_lt_pow_right (by omega) (by omega)
    rw [UInt8.toNat_toUInt32]
    show 2 ^ k % 2 ^ 8 = 2 ^ k % 2 ^ 32
    rw [Nat.mod_eq_of_lt h1, Nat.mod_eq_of_lt h2]
  have e4 : crcByte 0 (UInt8.ofNat (2 ^ k)) = crcSteps (8 - k) 1 := by
    rw [crcByte, UInt32.zero_xor, e3, ← crcSteps_shift1 k (by omega), ← crcSteps_add, show 8 - k + k = 8 by omega]
  have h0 := crcByte_xor t 0 x (UInt8.ofNat (2 ^ k))
  rw [UInt32.xor_zero] at h0
  rw [h0, crcRun_xor, e4, ← crcSteps_add]
theorem crc_flip (r : UInt32) (l : List UInt8) (p : Nat) (hp : p < 8 * l.length) :
    crcRun r (l.set (p / 8) (l.getD (p / 8) 0 ^^^ UInt8.ofNat (2 ^ (p % 8)))) = crcRun r l ^^^ crcSteps (8 * l.length - p) 1 := by
  have hq : p / 8 < l.length := by omega
  have hg : l.getD (p / 8) 0 = l[p / 8] := by simp [hq]
  have e2 : l.set (p / 8) (l.getD (p / 8) 0 ^^^ UInt8.ofNat (2 ^ (p % 8))) = l.take (p / 8) ++ (l[p / 8] ^^^ UInt8.ofNat (2 ^ (p % 8))) :: l.drop (p / 8 + 1) := by
    rw [List.set_eq_take_append_cons_drop, if_pos hq, hg]
  have e1 : l.take (p / 8) ++ l[p / 8] :: l.drop (p / 8 + 1) = l := by simp
  have h := crc_flip' r (l.take (p / 8)) (l.drop (p / 8 + 1)) l[p / 8] (p % 8) (Nat.mod_lt _ (by omega))
  rw [e1] at h
  rw [e2, h, List.length_drop]
  congr 2
  omega
/-- The window: what was turned so far, as a number. -/
theorem window_step (r : UInt32) (l : List UInt8) (n k i : Nat) (acc : UInt32) (c : UInt32) (hn : l.length = n) (hi : i < 32) (hp : k + i < 8 * n) (hc : crcRun r l = c ^^^ crcSteps (8 * n - k) acc) :
    crcRun r (l.set ((k + i) / 8) (l.getD ((k + i) / 8) 0 ^^^ UInt8.ofNat (2 ^ ((k + i) % 8)))) = c ^^^ crcSteps (8 * n - k) (acc ^^^ UInt32.ofNat (2 ^ i)) := by
  subst hn
  rw [crc_flip r l (k + i) hp, hc, crcSteps_xor, UInt32.xor_assoc]
  congr 2
  rw [← crcSteps_shift1 i hi, ← crcSteps_add]
  congr 1; omega
theorem window_lt (acc : UInt32) (i : Nat) (hi : i < 32) (h : acc.toNat < 2 ^ i) : (acc ^^^ UInt32.ofNat (2 ^ i)).toNat < 2 ^ (i + 1) ∧ acc ^^^ UInt32.ofNat (2 ^ i) ≠ 0 := by
  have h1 : 2 ^ i < 2 ^ 32 := Nat.pow_lt_pow_right (by omega) hi
  have e : (UInt32.ofNat (2 ^ i)).toNat = 2 ^ i := by show 2 ^ i % 2 ^ 32 = _; rw [Nat.mod_eq_of_lt h1]
  have h2 : 2 ^ i < 2 ^ (i + 1) := Nat.pow_lt_pow_right (by omega) (by omega)
  refine ⟨?_, ?_⟩
  · rw [UInt32.toNat_xor, e]; exact Nat.xor_lt_two_pow (by omega) h2
  · intro h0
    have : acc = UInt32.ofNat (2 ^ i) := by
      have := congrArg (fun x => x ^^^ UInt32.ofNat (2 ^ i)) h0
      simpa [UInt32.xor_assoc] using this
    rw [this, e] at h; omega
theorem crc_ne {b c : List UInt8} {m : Nat} {acc : UInt32} (h : crcRun 0xffffffff c = crcRun 0xffffffff b ^^^ crcSteps m acc) : crc b = crc c ↔ acc = 0 := by
  unfold crc
  rw [h]
  constructor
  · intro e
    have e1 : ~~~(~~~(crcRun 4294967295 b)) = ~~~(~~~(crcRun 4294967295 b ^^^ crcSteps m acc)) := by rw [e]
    rw [UInt32.not_not, UInt32.not_not] at e1
    have e2 := congrArg (fun x => crcRun 4294967295 b ^^^ x) e1
    simp only [UInt32.xor_self, ← UInt32.xor_assoc, UInt32.zero_xor] at e2
    exact crcSteps_eq_zero e2.symm
  · rintro rfl; rw [crcSteps_zero, UInt32.xor_zero]
end Go.Proofs.YtjoadcgegobjpaaDoor
/-
  The walks of package sum.
-/
namespace Go.Proofs.YtjoadcgegobjpaaDoor
open Go.RowKit

theorem I32_step (x : UInt32) : bits .xor .u32 (I32 x / 2) (bits .and .u32 3988292384 (-bits .and .u32 (I32 x) 1 % 4294967296)) = I32 (crcStep x) := by
  rw [show (1 : Int) = I32 1 from rfl, show (3988292384 : Int) = I32 0xedb88320 from rfl, I32_and, I32_neg, I32_and, I32_shr1, I32_xor]; rfl

set_option maxHeartbeats 400000 in
theorem add_calls (p : Addr) (r : UInt32) (v : Value) (l : List UInt8) (w : World) (hp : w.cell? p = some (.int .u32 (I32 r))) (hf : w.frozen? p = false)
    (hv : Rd w v l.length (l.map V8)) :
    Calls Tryd.prog 66 #[.pointer (some p), v] w fun e w' => e = .returned (.tuple #[]) ∧ w' = w.setCell p (.int .u32 (I32 (~~~(crcRun (~~~r) l)))) := by
  have hm := hv.len
  obtain ⟨a, cap, rfl, hc1, hc2, _, hc⟩ := hv
  have Hc := Lib.hid hc
  clear hc
  go_enter Tryd.func66, Tryd.ntmps66
  go_wp2
  go_loop [4, 14] (fun x i => ∃ k : Nat, k ≤ l.length ∧ i = .int .i64 k ∧ x = .int .u32 (I32 (crcRun (~~~r) (l.take k)))) (fun _ i => l.length - (intOf i).toNat)
  case atStart => exact ⟨0, by omega, rfl, rfl⟩
  case round =>
    obtain ⟨k, hk, rfl, rfl⟩ := hrel
    by_cases hlt : k < l.length
    · obtain ⟨b, off, rfl, hcell'⟩ := Hc.out k (by simpa using hlt)
      have hcell : w.cell? ⟨b, off + k, none⟩ = some (.int .u8 (l[k].toNat : Int)) := by rw [hcell']; simp [hlt, V8]
      clear Hc hcell'
      have hsn := Lib.hid (crcRun_snoc (~~~r) l k hlt)
      go_wp2
      go_loop [4, 22] (fun x i => ∃ j : Nat, j ≤ 8 ∧ i = .int .i64 j ∧ x = .int .u32 (I32 (crcSteps j ((crcRun (~~~r) (l.take k)) ^^^ l[k].toUInt32)))) (fun _ i => 8 - (intOf i).toNat)
      case atStart => exact ⟨0, by omega, rfl, rfl⟩
      case round =>
        obtain ⟨j, hj, rfl, rfl⟩ := hrel
        by_cases hlt : j < 8
        · go_wp2
          go_round
          case rel => exact ⟨j + 1, by omega, by go_num, by rw [I32_step]; rfl⟩
          case measure => simp [intOf]; omega
        · go_wp2
          go_round
          case rel => exact ⟨k + 1, by omega, by go_num, by rw [hsn.out]; obtain rfl : j = 8 := by omega
                                                            rfl⟩
          case measure => simp [intOf]; omega
    · obtain rfl : k = l.length := by omega
      go_wp2
      go_end0
      exact ⟨rfl, rfl⟩

theorem new_calls (w : World) : Calls Tryd.prog 65 #[] w fun e w' => e = .returned (.pointer (some ⟨w.heap.size, 0, none⟩)) ∧ w' = w.alloc (.cells #[.int .u32 (I32 0)] 148) := by
  go_enter Tryd.func65, Tryd.ntmps65
  go_wp2
  go_ret
  exact ⟨rfl, rfl⟩
theorem value_calls (p : Addr) (x : Value) (w : World) (hp : w.cell? p = some x) : Calls Tryd.prog 67 #[.pointer (some p)] w fun e w' => e = .returned x ∧ w = w' := by
  go_enter Tryd.func67, Tryd.ntmps67
  go_wp2
  go_ret
  exact ⟨rfl, rfl⟩
end Go.Proofs.YtjoadcgegobjpaaDoor
/-
  Records, in plain mathematics: the blocks of a record; the record with which blocks begin.
-/
namespace Go.Proofs.YtjoadcgegobjpaaDoor

/-- The lowest n bytes of a number, the lowest first. -/
def le (v : Nat) : Nat → List UInt8
  | 0 => []
  | n + 1 => UInt8.ofNat v :: le (v / 256) n
theorem le_length (v n : Nat) : (le v n).length = n := by induction n generalizing v with | zero => rfl | succ n ih => simp [le, ih]
/-- What a first block's sum is of, but for the payload. -/
def pre (e : UInt32) (n : Nat) : List UInt8 := 104 :: (le e.toNat 4 ++ le n 2)
def headM (e : UInt32) (p : List UInt8) : List UInt8 := pre e p.length ++ le (crc (pre e p.length ++ p)).toNat 4
theorem pre_length (e : UInt32) (n : Nat) : (pre e n).length = 7 := by simp [pre, le_length]
theorem headM_length (e : UInt32) (p : List UInt8) : (headM e p).length = 11 := by simp [headM, pre_length, le_length]
/-- The blocks behind the first one. -/
def restM : Nat → List UInt8 → List (List UInt8)
  | 0, _ => []
  | f + 1, p => if p.length = 0 then [] else (99 :: p.take 255) :: restM f (p.drop 255)
def frameM (e : UInt32) (p : List UInt8) : List (List UInt8) := (headM e p ++ p.take 245) :: restM 3 (p.drop 245)
/-- The payload that is gathered out of the blocks behind the first one. -/
def gather (size : Nat) : List UInt8 → List (List UInt8) → Nat → List UInt8 × Nat
  | p, [], n => (p, n)
  | p, s :: r, n => if p.length < size then (if s.length = 1 + min (size - p.length) 255 ∧ s.head? = some 99 then gather size (p ++ s.tail) r (n + 1) else (p, n)) else (p, n)
def sizeOf0 (b : List UInt8) : Nat := (b.getD 5 0).toNat + 256 * (b.getD 6 0).toNat
/-- The record with which blocks begin: its payload, and how many blocks it has. -/
def oneM (e : UInt32) : List (List UInt8) → Option (List UInt8 × Nat)
  | [] => none
  | b :: r =>
    if b.length < 11 then none else
    if sizeOf0 b > 512 ∨ b.length ≠ 11 + min (sizeOf0 b) 245 then none else
    let g := gather (sizeOf0 b) (b.drop 11) r 1
    if g.1.length ≠ sizeOf0 b ∨ headM e g.1 ≠ b.take 11 then none else some g
/-- The record's blocks stand at the beginning. -/
def IsOne (e : UInt32) (l : List (List UInt8)) (p : List UInt8) (k : Nat) : Prop := p.length ≤ 512 ∧ k = (frameM e p).length ∧ l.take k = frameM e p
theorem le_get_two (n : Nat) : (le n 2).getD 0 0 = UInt8.ofNat n ∧ (le n 2).getD 1 0 = UInt8.ofNat (n / 256) := ⟨rfl, rfl⟩
theorem sizeOf_head (e : UInt32) (p q : List UInt8) (h : p.length ≤ 512) : sizeOf0 (headM e p ++ q) = p.length := by
  have h5 : (headM e p ++ q).getD 5 0 = UInt8.ofNat p.length := by simp [headM, pre, le]
  have h6 : (headM e p ++ q).getD 6 0 = UInt8.ofNat (p.length / 256) := by simp [headM, pre, le]
  unfold sizeOf0
  rw [h5, h6]
  have a1 : (UInt8.ofNat p.length).toNat = p.length % 256 := by show p.length % 2 ^ 8 = _; rfl
  have a2 : (UInt8.ofNat (p.length / 256)).toNat = p.length / 256 % 256 := by show p.length / 256 % 2 ^ 8 = _; rfl
  rw [a1, a2]; omega
/-- Gathering the blocks of what is left. -/
theorem gather_rest (size : Nat) : ∀ (f : Nat) (q p : List UInt8) (t : List (List UInt8)) (n : Nat), q.length ≤ 255 * f → p.length + q.length = size →
    gather size p (restM f q ++ t) n = (p ++ q, n + (restM f q).length)
  | 0, q, p, t, n, hq, hs => by
    have : q = [] := List.eq_nil_of_length_eq_zero (by omega)
    subst this
    simp only [restM, List.nil_append, List.append_nil, List.length_nil, Nat.add_zero]
    cases t with
    | nil => rfl
    | cons s t => rw [gather, if_neg (by simp at hs; omega)]
  | f + 1, q, p, t, n, hq, hs => by
    rw [restM]
    by_cases h0 : q.length = 0
    · have : q = [] := List.eq_nil_of_length_eq_zero h0
      subst this
      simp only [List.length_nil, if_true, List.nil_append, List.append_nil, Nat.add_zero]
      cases t with
      | nil => rfl
      | cons s t => rw [gather, if_neg (by simp at hs; omega)]
    · rw [if_neg h0, List.cons_append, gather, if_pos (by omega), if_pos ⟨by simp; omega, rfl⟩, List.tail_cons,
        gather_rest size f (q.drop 255) (p ++ q.take 255) t (n + 1) (by simp; omega) (by simp; omega)]
      simp only [List.append_assoc, List.take_append_drop, List.length_cons, Prod.mk.injEq, true_and]; omega
theorem oneM_frame (e : UInt32) (p : List UInt8) (t : List (List UInt8)) (h : p.length ≤ 512) : oneM e (frameM e p ++ t) = some (p, (frameM e p).length) := by
  have hsz := sizeOf_head e p (p.take 245) h
  have hl := headM_length e p
  unfold frameM
  rw [List.cons_append, oneM]
  rw [if_neg (by simp [hl]), hsz, if_neg (by simp [hl]; omega)]
  have hd : (headM e p ++ p.take 245).drop 11 = p.take 245 := by rw [← hl, List.drop_left]
  have ht : (headM e p ++ p.take 245).take 11 = headM e p := by rw [← hl, List.take_left]
  rw [hd, ht, gather_rest p.length 3 (p.drop 245) (p.take 245) t 1 (by simp; omega) (by simp; omega), List.take_append_drop]
  simp only [ne_eq, not_true_eq_false, or_self, if_false, List.length_cons, Option.some.injEq, Prod.mk.injEq, true_and]; omega
/-- What was gathered, laid out again. -/
theorem gather_back (size : Nat) : ∀ (f : Nat) (r : List (List UInt8)) (p : List UInt8) (n : Nat), (gather size p r n).1.length = size → size - p.length ≤ 255 * f → p.length ≤ size →
    ∃ q, (gather size p r n).1 = p ++ q ∧ q.length = size - p.length ∧ (gather size p r n).2 = n + (restM f q).length ∧ r.take (restM f q).length = restM f q
  | f, [], p, n, hg, hf, hp => by
    rw [gather] at hg ⊢
    refine ⟨[], by simp, by simp at hg ⊢; omega, ?_, ?_⟩
    · cases f <;> simp [restM]
    · cases f <;> simp [restM]
  | f, s :: r, p, n, hg, hf, hp => by
    rw [gather] at hg ⊢
    by_cases h1 : p.length < size
    · rw [if_pos h1] at hg ⊢
      by_cases h2 : s.length = 1 + min (size - p.length) 255 ∧ s.head? = some 99
      · rw [if_pos h2] at hg ⊢
        obtain ⟨h2, h3⟩ := h2
        match f, hf with
        | 0, hf => omega
        | f + 1, hf =>
          have htl : s.tail.length = min (size - p.length) 255 := by simp; omega
          obtain ⟨q, g1, g2, g3, g4⟩ := gather_back size f r (p ++ s.tail) (n + 1) hg (by rw [List.length_append, htl]; omega) (by rw [List.length_append, htl]; omega)
          rw [List.length_append, htl] at g2
          have hql : (s.tail ++ q).length ≠ 0 := by rw [List.length_append, htl]; omega
          have ht : (s.tail ++ q).take 255 = s.tail := by
            by_cases hc : size - p.length ≤ 255
            · have : q = [] := List.eq_nil_of_length_eq_zero (by omega)
              subst this
              rw [List.append_nil, List.take_of_length_le (by omega)]
            · rw [List.take_append_of_le_length (by omega), List.take_of_length_le (by omega)]
          have hd : (s.tail ++ q).drop 255 = q := by
            by_cases hc : size - p.length ≤ 255
            · have : q = [] := List.eq_nil_of_length_eq_zero (by omega)
              subst this
              rw [List.append_nil, List.drop_eq_nil_of_le (by omega)]
            · have : s.tail.length = 255 := by omega
              rw [← this, List.drop_left]
          have hs : 99 :: s.tail = s := by
            cases s with
            | nil => simp at h3
            | cons a s => simp at h3; rw [h3]; rfl
          refine ⟨s.tail ++ q, by rw [g1, List.append_assoc], by rw [List.length_append, htl]; omega, ?_, ?_⟩
          · rw [restM, if_neg hql, hd, List.length_cons, g3]; omega
          · rw [restM, if_neg hql, hd, ht, List.length_cons, List.take_succ_cons, g4, hs]
      · rw [if_neg h2] at hg
        simp only at hg; omega
    · rw [if_neg h1] at hg ⊢
      refine ⟨[], by simp, by simp; omega, ?_, ?_⟩
      · cases f <;> simp [restM]
      · cases f <;> simp [restM]
theorem oneM_isOne (e : UInt32) (l : List (List UInt8)) (p : List UInt8) (k : Nat) : oneM e l = some (p, k) ↔ IsOne e l p k := by
  constructor
  · intro h
    cases l with
    | nil => cases h
    | cons b r =>
      rw [oneM] at h
      by_cases h1 : b.length < 11
      · rw [if_pos h1] at h; cases h
      rw [if_neg h1] at h
      by_cases h2 : sizeOf0 b > 512 ∨ b.length ≠ 11 + min (sizeOf0 b) 245
      · rw [if_pos h2] at h; cases h
      rw [if_neg h2] at h
      simp only at h
      by_cases h3 : (gather (sizeOf0 b) (b.drop 11) r 1).1.length ≠ sizeOf0 b ∨ headM e (gather (sizeOf0 b) (b.drop 11) r 1).1 ≠ b.take 11
      · rw [if_pos h3] at h; cases h
      rw [if_neg h3] at h
      simp only [not_or, Decidable.not_not] at h3
      obtain ⟨h4, h5⟩ := h3
      have hb : b.length = 11 + min (sizeOf0 b) 245 := by
        by_cases hb : b.length = 11 + min (sizeOf0 b) 245
        · exact hb
        · exact absurd (.inr hb) h2
      have h512 : sizeOf0 b ≤ 512 := by
        by_cases hs : sizeOf0 b ≤ 512
        · exact hs
        · exact absurd (.inl (by omega)) h2
      obtain ⟨q, g1, g2, g3, g4⟩ := gather_back (sizeOf0 b) 3 r (b.drop 11) 1 h4 (by simp; omega) (by simp; omega)
      simp only [Option.some.injEq] at h
      rw [h] at g1 g3 h4 h5
      simp only at g1 g3 h4 h5
      have hdl : (b.drop 11).length = min (sizeOf0 b) 245 := by simp; omega
      have ht : p.take 245 = b.drop 11 := by
        rw [g1]
        by_cases hc : sizeOf0 b ≤ 245
        · have : q = [] := List.eq_nil_of_length_eq_zero (by omega)
          subst this
          rw [List.append_nil, List.take_of_length_le (by omega)]
        · rw [List.take_append_of_le_length (by omega), List.take_of_length_le (by omega)]
      have hd : p.drop 245 = q := by
        rw [g1]
        by_cases hc : sizeOf0 b ≤ 245
        · have : q = [] := List.eq_nil_of_length_eq_zero (by omega)
          subst this
          rw [List.append_nil, List.drop_eq_nil_of_le (by omega)]
        · have : (b.drop 11).length = 245 := by omega
          rw [← this, List.drop_left]
      refine ⟨by omega, ?_, ?_⟩
      · unfold frameM; rw [List.length_cons, hd, g3]; omega
      · unfold frameM
        rw [hd, ht, h5, g3, List.take_append_drop, Nat.add_comm, List.take_succ_cons, g4]
  · rintro ⟨h1, h2, h3⟩
    have := oneM_frame e p (l.drop k) h1
    rw [← h3, List.take_append_drop] at this
    rw [this, h3, h2]
theorem frameM_pos (e : UInt32) (p : List UInt8) : 0 < (frameM e p).length := by simp [frameM]
theorem oneM_pos {e : UInt32} {l : List (List UInt8)} {p : List UInt8} {k : Nat} (h : oneM e l = some (p, k)) : 0 < k ∧ k ≤ l.length := by
  obtain ⟨h1, h2, h3⟩ := (oneM_isOne e l p k).1 h
  have := frameM_pos e p
  refine ⟨by omega, ?_⟩
  have := congrArg List.length h3
  simp at this; omega
/-- The records with which blocks begin: where each begins, and its payload; fuel: the blocks that are left. -/
def scanM (e : UInt32) (l : List (List UInt8)) : Nat → Nat → List (Nat × List UInt8)
  | 0, _ => []
  | f + 1, at_ => match oneM e (l.drop at_) with
    | none => []
    | some (p, k) => (at_, p) :: scanM e l f (at_ + k)
end Go.Proofs.YtjoadcgegobjpaaDoor
