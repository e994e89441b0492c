/-
  Texts of one proof, one behind the other.
-/
import Derived.Test.YtgcnolapjppbpaaGreatDoorRows
import Derived.WalkKit
import Derived.WalkSpells
import Derived.WalkLawsBesides
import Derived.Lib.Hide
import Derived.Handy
import Derived.StillTailTactics
import Derived.BigQuiet
import Derived.Deep.QuietTactic
import Derived.Deep.RegionHeld3
import Derived.Deep.RegionWith
import Derived.Deep.AppendLies
import Derived.Laws.EntriesVeiled
import Derived.Deep.DeepCutAuto
import Derived.Deep.CutBlock
import Derived.Deep.LoopGhost
import Derived.Deep.DeepMust
namespace Go.Proofs.YtgcnolapjppbpaaGreatDoor
open Go.RowKit
def I32 (u : UInt32) : Int := (u.toNat : Int)
theorem I32_inj {a b : UInt32} (h : I32 a = I32 b) : a = b := by unfold I32 at h; exact UInt32.toNat_inj.1 (by omega)
theorem I32_ofInt (u : UInt32) : BitVec.ofInt 32 (I32 u) = u.toBitVec := by
  unfold I32; rw [BitVec.ofInt_natCast]; simp
theorem wrap_u32n (n : Nat) (h : n < 4294967296) : IntKind.u32.wrap (n : Int) = (n : Int) := by
  simp [IntKind.wrap, IntKind.bits, IntKind.signed]; omega
theorem I32_of_bv (b : BitVec 32) : IntKind.u32.wrap (b.toNat : Int) = I32 (UInt32.ofBitVec b) := by
  rw [wrap_u32n _ b.isLt]; rfl
@[go_sem] theorem I32_and (a b : UInt32) : bits .and .u32 (I32 a) (I32 b) = I32 (a &&& b) := by
  show IntKind.u32.wrap ((BitVec.ofInt 32 (I32 a) &&& BitVec.ofInt 32 (I32 b)).toNat : Int) = _
  rw [I32_of_bv, I32_ofInt, I32_ofInt]; rfl
@[go_sem] theorem I32_xor (a b : UInt32) : bits .xor .u32 (I32 a) (I32 b) = I32 (a ^^^ b) := by
  show IntKind.u32.wrap ((BitVec.ofInt 32 (I32 a) ^^^ BitVec.ofInt 32 (I32 b)).toNat : Int) = _
  rw [I32_of_bv, I32_ofInt, I32_ofInt]; rfl
@[go_sem] theorem I32_or (a b : UInt32) : bits .or .u32 (I32 a) (I32 b) = I32 (a ||| b) := by
  show IntKind.u32.wrap ((BitVec.ofInt 32 (I32 a) ||| BitVec.ofInt 32 (I32 b)).toNat : Int) = _
  rw [I32_of_bv, I32_ofInt, I32_ofInt]; rfl
@[go_sem] theorem I32_not (a : UInt32) : bits .xor .u32 IntKind.u32.max (I32 a) = I32 (~~~a) := by
  show IntKind.u32.wrap ((BitVec.ofInt 32 IntKind.u32.max ^^^ BitVec.ofInt 32 (I32 a)).toNat : Int) = _
  have h : BitVec.ofInt 32 IntKind.u32.max = BitVec.allOnes 32 := by decide
  rw [I32_of_bv, h, I32_ofInt, BitVec.allOnes_xor]; rfl
@[go_sem] theorem I32_byte (c : UInt8) : ((c.toNat : Int) % 4294967296) = I32 c.toUInt32 := by
  unfold I32; have := c.toNat_lt; simp; omega
theorem I32_shr1 (x : UInt32) : I32 x / (2 : Int) = I32 (x >>> 1) := by
  unfold I32; simp [Nat.shiftRight_eq_div_pow]
theorem I32_neg (x : UInt32) : -(I32 x) % 4294967296 = I32 (-x) := by
  unfold I32; have := x.toNat_lt
  rw [UInt32.toNat_neg]; unfold UInt32.size; omega
def V8 (c : UInt8) : Value := .int .u8 (c.toNat : Int)
theorem below_heap {w w' : World} (hb : Below w.heap.size w w') {a : Addr} {x : Value} (h : w.cell? a = some x) : w'.cell? a = some x := by
  rw [hb.cell (World.block_lt_of_cell? w a h)]; exact h
def Rd (w : World) (v : Value) (n : Nat) (xs : List Value) : Prop :=
  ∃ a cap, v = .slice a n cap ∧ n ≤ cap ∧ cap ≤ 9223372036854775807 ∧ (a = none → cap = 0) ∧ (∀ j, j < xs.length → ∃ b off, a = some ⟨b, off, none⟩ ∧ w.cell? ⟨b, off + j, none⟩ = some (xs.getD j undef))
theorem Rd.nil (w : World) : Rd w (.slice none 0 0) 0 [] := ⟨none, 0, rfl, by omega, by omega, fun _ => rfl, fun j h => by simp at h⟩
theorem Rd.below {w w' : World} {v : Value} {n : Nat} {xs : List Value} (h : Rd w v n xs) (hb : Below w.heap.size w w') : Rd w' v n xs := by
  obtain ⟨a, cap, rfl, h1, h2, h0, h3⟩ := h
  refine ⟨a, cap, rfl, h1, h2, h0, fun j hj => ?_⟩
  obtain ⟨b, off, rfl, h4⟩ := h3 j hj
  exact ⟨b, off, rfl, below_heap hb h4⟩
theorem Rd.keep {w w' : World} {v : Value} {n : Nat} {xs : List Value} (h : Rd w v n xs) (hb : ∀ k, v.ownBlock = some k → k < w.heap.size → w'.heap[k]? = w.heap[k]?) : Rd w' v n xs := by
  obtain ⟨a, cap, rfl, h1, h2, h0, h3⟩ := h
  refine ⟨a, cap, rfl, h1, h2, h0, fun j hj => ?_⟩
  obtain ⟨b, off, rfl, h4⟩ := h3 j hj
  refine ⟨b, off, rfl, ?_⟩
  rw [World.cell?_of_block (w := w) (hb b rfl (World.block_lt_of_cell? w _ h4))]; exact h4
theorem Rd.cut {w : World} {a : Option Addr} {cap n m : Nat} {xs : List Value} (h : Rd w (.slice a n cap) n xs) (hm : m ≤ cap) (k : Nat) : Rd w (.slice a m cap) m (xs.take k) := by
  obtain ⟨a', cap', h0, h1, h2, h9, h3⟩ := h
  injection h0 with e1 e2 e3
  subst e1; subst e3
  refine ⟨a, cap, rfl, hm, h2, h9, fun j hj => ?_⟩
  rw [List.length_take] at hj
  obtain ⟨b, off, rfl, h4⟩ := h3 j (by omega)
  refine ⟨b, off, rfl, ?_⟩
  rw [h4, List.getD, List.getD, List.getElem?_take, if_pos (by omega)]
theorem Rd.len {w : World} {v : Value} {n : Nat} {xs : List Value} (h : Rd w v n xs) : n ≤ 9223372036854775807 := by
  obtain ⟨a, cap, rfl, h1, h2, _⟩ := h; omega
theorem rd_of_own {w : World} {base : Nat} {e : TypeId} {size n : Nat} {v : Value} {xs : List Value} (h : w.ownsRow base e size v n xs) : Rd w v n xs := by
  obtain ⟨h0, h⟩ := h
  rcases h with ⟨rfl, rfl⟩ | ⟨g, cap, cur, rfl, hb, hg, hn, hc, hs, ht⟩
  · have : xs = [] := List.eq_nil_of_length_eq_zero (by simpa using h0)
    subst this; exact Rd.nil w
  · refine ⟨_, cap, rfl, hn, by unfold maxLen at hc; omega, (fun h => by cases h), fun j hj => ⟨g, 0, rfl, ?_⟩⟩
    have hc2 : w.cell? ⟨g, 0 + j, none⟩ = cur[0 + j]? := cell_of_row w g (0 + j) cur e (0, 0) hg
    rw [hc2, Nat.zero_add, ← ht, List.getD, List.getElem?_take, if_pos (by omega)]
    have : j < cur.size := by
      have h1 : (cur.toList.take (n * size)).length = xs.length := by rw [ht]
      rw [List.length_take, Array.length_toList] at h1; omega
    simp [Array.getElem?_eq_getElem this]
theorem own_lt {w : World} {base : Nat} {e : TypeId} {size n : Nat} {v : Value} {xs : List Value} (h : w.ownsRow base e size v n xs) : ∀ k, v.ownBlock = some k → base ≤ k ∧ k < w.heap.size := h.lt
theorem own_below {w w' : World} {base : Nat} {e : TypeId} {size n : Nat} {v : Value} {xs : List Value} (h : w.ownsRow base e size v n xs) (hb : Below w.heap.size w w') : w'.ownsRow base e size v n xs := by
  refine ⟨h.1, ?_⟩
  rcases h.2 with hn | ⟨g, cap, cur, rfl, hbg, hg, rest⟩
  · exact .inl hn
  · exact .inr ⟨g, cap, cur, rfl, hbg, by rw [hb.block g (lt_of_block hg)]; exact hg, rest⟩
theorem own_base {w : World} {base base' : Nat} {e : TypeId} {size n : Nat} {v : Value} {xs : List Value} (h : w.ownsRow base e size v n xs) (hb : base' ≤ base) : w.ownsRow base' e size v n xs := by
  refine ⟨h.1, ?_⟩
  rcases h.2 with hn | ⟨g, cap, cur, rfl, hbg, rest⟩
  · exact .inl hn
  · exact .inr ⟨g, cap, cur, rfl, by omega, rest⟩
theorem below_grown {B : Nat} {w w' : World} {v : Value} (hg : w.grownBy w' v.ownBlock) (hB : B ≤ w.heap.size) (hv : ∀ k, v.ownBlock = some k → B ≤ k) : Below B w w' :=
  (Below.refl B w).grown hg hB hv
theorem below_alloc (w : World) (o : Obj) : Below w.heap.size w (w.alloc o) := (Below.refl _ _).alloc (Nat.le_refl _) o
theorem below_trans {a b c : World} (h : Below a.heap.size a b) (k : Below b.heap.size b c) : Below a.heap.size a c := h.trans (k.mono h.size)
theorem ret_eq {v v' : Value} (h : v = v') : Ending.returned v = .returned v' := by rw [h]
def Apart (u v : Value) : Prop := ∀ k, u.ownBlock = some k → v.ownBlock ≠ some k
def Moved (w : World) (v v' : Value) : Prop := v'.ownBlock = v.ownBlock ∨ v'.ownBlock = some w.heap.size
theorem Apart.symm {u v : Value} (h : Apart u v) : Apart v u := fun k h1 h2 => h k h2 h1
theorem Apart.moved {w : World} {u v v' : Value} (h : Apart u v) (hm : Moved w v v') (hu : ∀ k, u.ownBlock = some k → k < w.heap.size) : Apart u v' := by
  intro k hk
  rcases hm with e | e
  · rw [e]; exact h k hk
  · rw [e]; intro e2; injection e2 with e2; have := hu k hk; omega
theorem apart_nil (u : Value) : Apart u (.slice none 0 0) := fun k _ h => by simp [Value.ownBlock] at h
theorem nil_apart (u : Value) : Apart (.slice none 0 0) u := fun k h => by simp [Value.ownBlock] at h
theorem own_other {w w' : World} {base : Nat} {e : TypeId} {size n : Nat} {u v : Value} {xs : List Value} (h : w.ownsRow base e size u n xs) (hg : w.grownBy w' v.ownBlock) (ha : Apart u v) : w'.ownsRow base e size u n xs := by
  refine h.kept hg ?_
  cases hu : u.ownBlock with
  | none => exact .inl rfl
  | some k => exact .inr (fun e => ha k hu e.symm)
theorem run_append_own2 {P : Program} (w : World) (base : Nat) (t ty e : TypeId) (i : TypeInfo) (z : Value) (size bytes : Nat) (ht : P.underlying t = some (.slice e)) (hi : P.info? e = some i) (hz : i.zero = some z)
    (hsize : i.size = size) (hby : i.bytes = bytes) (hzs : z.cells.size = size) (hsz : 0 < size)
    (v : Value) (n : Nat) (xs : List Value) (hown : w.ownsRow base e size v n xs)
    (a : Addr) (m c : Nat) (news : List Value) (hl : news.length = m * size) (hnews : ∀ j u, news[j]? = some u → w.cell? (a.add j) = some u) (h1 : ∀ u ∈ news, u.oneCell' = true)
    (h63 : n + m ≤ maxLen) (hbytes : (n + m) * bytes ≤ 140737488355328) (hbase : base ≤ w.heap.size) :
    ∃ v' w', (Builtin.append_ #[t, t] ty #[v, .slice (some a) m c]).run P w = .ok v' w' ∧ w'.ownsRow base e size v' (n + m) (xs ++ news) ∧ w.grownBy w' v.ownBlock ∧ Moved w v v' := by
  obtain ⟨v', w', hr, h2, h3, h4⟩ := run_append_own (P := P) w base t ty e i z size bytes ht hi hz hsize hby hzs hsz v n xs hown a m c news hl hnews h1 h63 hbytes hbase
  refine ⟨v', w', hr, h2, h3, ?_⟩
  have hsmall : n + m ≤ 9223372036854775807 := by simp only [maxLen] at h63; omega
  rcases hown.2 with ⟨rfl, rfl⟩ | ⟨g, cap, cur, rfl, hbg, hg, hnc, hcm, hcs, htake⟩
  · by_cases hm : m = 0
    · subst hm
      have := (h4.2 ⟨rfl, rfl⟩); subst this; exact .inl rfl
    · subst hsize; subst hby
      have hr2 := run_append_nil (P := P) w t ty e i z ht hi hz a m c news hl hnews (by omega) (by omega) (by have hb := hbytes; simp only [Nat.zero_add] at hb; omega)
      rw [hr2] at hr
      injection hr with e1 e2
      subst e1; exact .inr rfl
  · by_cases hroom : n + m ≤ cap
    · subst hsize
      have hr2 := run_append_room (P := P) w t ty e i ht hi g n cap cur hg a m c news hl hnews h1 hroom (by rw [hl, hcs, ← Nat.add_mul]; exact Nat.mul_le_mul_right _ hroom)
      rw [hr2] at hr
      injection hr with e1 e2
      subst e1; exact .inl rfl
    · subst hsize; subst hby
      have hr2 := run_append_grow (P := P) w t ty e i z ht hi hz ⟨g, 0, none⟩ n cap xs hown.1 (hown.cells (g := g) rfl) a m c news hl hnews (by omega) (by omega) (growslice_fits (by omega) hbytes)
      rw [hr2] at hr
      injection hr with e1 e2
      subst e1; exact .inr rfl
theorem wpList_append_own2 {P : Program} {w : World} {ops : Array Oper} {rest : List Oper} {o : Oper} {a : Act} {Q : Exit → Act → World → Prop} (hgd : o.guard = none) (s x : Operand) (t : TypeId)
    (ho : o.op = .call { callee := .builtin .append, args := #[s, x], argTypes := #[t, t] })
    (base : Nat) (e : TypeId) (i : TypeInfo) (z : Value) (size bytes : Nat) (ht : P.underlying t = some (.slice e)) (hi : P.info? e = some i) (hz : i.zero = some z)
    (hsize : i.size = size) (hby : i.bytes = bytes) (hzs : z.cells.size = size) (hsz : 0 < size)
    (v : Value) (n : Nat) (xs : List Value) (hs : a.eval s = v) (hown : w.ownsRow base e size v n xs)
    (ad : Addr) (m c : Nat) (news : List Value) (hx : a.eval x = .slice (some ad) m c) (hl : news.length = m * size) (hnews : ∀ j u, news[j]? = some u → w.cell? (ad.add j) = some u) (h1 : ∀ u ∈ news, u.oneCell' = true)
    (h63 : n + m ≤ maxLen) (hbytes : (n + m) * bytes ≤ 140737488355328) (hbase : base ≤ w.heap.size)
    (h : ∀ v' w', w'.ownsRow base e size v' (n + m) (xs ++ news) → w.grownBy w' v.ownBlock → Moved w v v' → wpList P ops Q rest (a.put o.dst v') w') : wpList P ops Q (o :: rest) a w := by
  refine wpList_plain hgd fun _ hK => ?_
  obtain ⟨v', w', hr, h2, h3, h4⟩ := run_append_own2 (P := P) w base t o.type e i z size bytes ht hi hz hsize hby hzs hsz v n xs hown ad m c news hl hnews h1 h63 hbytes hbase
  unfold Oper.wp execOp
  simp only [ho, resolve, invoke, builtin, Sem.run_bind, Sem.run_pure, Result.andThen_ok, List.map_toArray, List.map_cons, List.map_nil, hs, hx, hr]
  exact hK _ _ (h v' w' h2 h3 h4)
def tailV (a : Option Addr) (n cap k : Nat) : Value := .slice (if cap = k then a else a.map (·.add k)) (n - k) (cap - k)
theorem run_tail {P : Program} {t e : TypeId} (ht : P.underlying t = some (.slice e)) (hs : (P.info? e).map (·.size) = some 1) (a : Option Addr) (n cap k : Nat) (hk : k ≤ n) (w : World) :
    (Instr.slice t (.slice a n cap) (some (.int .i64 (k : Int))) none none).run P w = .ok (tailV a n cap k) w := by
  have hx : P.elem t = e := by unfold Program.elem; rw [ht]
  have hsz : (sizeOf e).run P w = .ok 1 w := by
    cases hi : P.info? e with
    | none => rw [hi] at hs; cases hs
    | some i =>
      rw [hi] at hs
      simp only [Option.map_some, Option.some.injEq] at hs
      simp [sizeOf, typeInfo, hi, hs]
  rw [run_slice_l w t a n cap (by rw [hx]; exact ht) .i64 (k : Int) (by omega) (by omega), hx, hsz]
  simp [Result.andThen, sliced, tailV]
theorem run_head {P : Program} {t e : TypeId} (ht : P.underlying t = some (.slice e)) (hs : ∃ k, (P.info? e).map (·.size) = some k) (a : Option Addr) (n cap k : Nat) (hk : k ≤ cap) (w : World) :
    (Instr.slice t (.slice a n cap) none (some (.int .i64 (k : Int))) none).run P w = .ok (.slice a k cap) w := by
  have hx : P.elem t = e := by unfold Program.elem; rw [ht]
  obtain ⟨sz, hs⟩ := hs
  have hsz : (sizeOf e).run P w = .ok sz w := by
    cases hi : P.info? e with
    | none => rw [hi] at hs; cases hs
    | some i =>
      rw [hi] at hs
      simp only [Option.map_some, Option.some.injEq] at hs
      simp [sizeOf, typeInfo, hi, hs]
  rw [run_slice_h w t a n cap (by rw [hx]; exact ht) .i64 (k : Int) (by omega) (by omega), hx, hsz]
  have : a.map (fun x => x.add 0) = a := by cases a <;> rfl
  simp [Result.andThen, sliced, this]
theorem tailV_rd {w : World} {a : Option Addr} {n cap k : Nat} {xs : List Value} (h : Rd w (.slice a n cap) n xs) (hk : k ≤ n) (hx : xs.length ≤ n) : Rd w (tailV a n cap k) (n - k) (xs.drop k) := by
  obtain ⟨a', cap', h0, h1, h2, h9, h3⟩ := h
  injection h0 with e1 e2 e3
  subst e1; subst e3
  refine ⟨_, _, rfl, by omega, by omega, (fun h => by
    have : cap = 0 := by
      by_cases hc : cap = k
      · rw [if_pos hc] at h; exact h9 h
      · rw [if_neg hc] at h; cases a with
        | none => exact h9 rfl
        | some _ => cases h
    omega), fun j hj => ?_⟩
  rw [List.length_drop] at hj
  obtain ⟨b, off, rfl, h4⟩ := h3 (k + j) (by omega)
  rw [if_neg (by omega)]
  refine ⟨b, off + k, by simp [Go.WideShapes.add_plain], ?_⟩
  rw [Nat.add_assoc, h4]; simp [List.getD]
theorem tailV_shape (a : Option Addr) (n cap k : Nat) : ∃ a', tailV a n cap k = .slice a' (n - k) (cap - k) := ⟨_, rfl⟩
def Box (w : World) (b : Nat) (cs : Array Value) (t : TypeId) : Prop := w.heap[b]? = some (.cells cs t (0, 0))
theorem Box.lt {w : World} {b : Nat} {cs : Array Value} {t : TypeId} (h : Box w b cs t) : b < w.heap.size := lt_of_block h
theorem Box.cell {w : World} {b : Nat} {cs : Array Value} {t : TypeId} (h : Box w b cs t) (j : Nat) (x : Value) (hx : cs[j]? = some x) : w.cell? ⟨b, j, none⟩ = some x := by
  unfold Box at h; simp [World.cell?, h, hx]
theorem Box.free {w : World} {b : Nat} {cs : Array Value} {t : TypeId} (h : Box w b cs t) (j : Nat) : w.frozen? ⟨b, j, none⟩ = false := by
  unfold Box at h; simp [World.frozen?, h]
theorem Box.new (w : World) (cs : Array Value) (t : TypeId) : Box (w.alloc (.cells cs t)) w.heap.size cs t := heap_alloc_new w _
theorem Box.below {w w' : World} {b : Nat} {cs : Array Value} {t : TypeId} (h : Box w b cs t) (hb : Below w.heap.size w w') : Box w' b cs t := by
  unfold Box; rw [hb.block b h.lt]; exact h
theorem Box.keep {w w' : World} {b : Nat} {cs : Array Value} {t : TypeId} (h : Box w b cs t) (hb : w'.heap[b]? = w.heap[b]?) : Box w' b cs t := by
  unfold Box; rw [hb]; exact h
theorem Box.set {w : World} {b : Nat} {cs : Array Value} {t : TypeId} (h : Box w b cs t) (j : Nat) (u : Value) : Box (w.setCell ⟨b, j, none⟩ u) b (cs.setIfInBounds j u) t := by
  unfold Box at h ⊢
  simp only [World.setCell, Array.getElem?_modify, if_true, h]; rfl
theorem Box.set_other {w : World} {b : Nat} {cs : Array Value} {t : TypeId} (h : Box w b cs t) {p : Addr} (hp : p.block ≠ b) (u : Value) : Box (w.setCell p u) b cs t :=
  h.keep (Below.heap_setCell w p u b (fun e => hp e.symm))
theorem Box.drew {w : World} {b : Nat} {cs : Array Value} {t : TypeId} (h : Box w b cs t) : Box w.drew b cs t := h
theorem below_drew (w : World) : Below w.heap.size w w.drew := (Below.refl _ _).drew
theorem Rd.drew {w : World} {v : Value} {n : Nat} {xs : List Value} (h : Rd w v n xs) : Rd w.drew v n xs := h
structure ORow where
  v : Value
  e : TypeId
  size : Nat
  n : Nat
  xs : List Value
def ORow.at (r : ORow) (w : World) (B : Nat) : Prop := w.ownsRow B r.e r.size r.v r.n r.xs
def OwnAll (w : World) (B : Nat) : List ORow → Prop
  | [] => True
  | r :: l => r.at w B ∧ (∀ p ∈ l, Apart r.v p.v) ∧ OwnAll w B l
theorem OwnAll.below {w w' : World} {B : Nat} (hb : Below w.heap.size w w') : ∀ {l : List ORow}, OwnAll w B l → OwnAll w' B l
  | [], _ => trivial
  | _ :: _, ⟨h1, h2, h3⟩ => ⟨own_below h1 hb, h2, OwnAll.below hb h3⟩
theorem OwnAll.alloc {w : World} {B : Nat} {l : List ORow} (h : OwnAll w B l) (o : Obj) : OwnAll (w.alloc o) B l := h.below (below_alloc w o)
theorem OwnAll.mem {w : World} {B : Nat} : ∀ {l : List ORow} {r : ORow}, OwnAll w B l → r ∈ l → r.at w B
  | _ :: _, r, ⟨h1, _, h3⟩, hr => by
    cases List.mem_cons.1 hr with
    | inl e => subst e; exact h1
    | inr e => exact OwnAll.mem h3 e
theorem OwnAll.kept {w w' : World} {B : Nat} {v : Value} (hg : w.grownBy w' v.ownBlock) : ∀ {l : List ORow}, OwnAll w B l → (∀ p ∈ l, Apart v p.v) → OwnAll w' B l
  | [], _, _ => trivial
  | r :: l, ⟨h1, h2, h3⟩, ha => ⟨own_other h1 hg (ha r (by simp)).symm, h2, OwnAll.kept hg h3 (fun p hp => ha p (by simp [hp]))⟩
theorem OwnAll.step {w w' : World} {B : Nat} {r : ORow} {l : List ORow} (h : OwnAll w B (r :: l)) {v' : Value} {n' : Nat} {xs' : List Value} (hown : w'.ownsRow B r.e r.size v' n' xs') (hg : w.grownBy w' r.v.ownBlock) (hm : Moved w r.v v') :
    OwnAll w' B (⟨v', r.e, r.size, n', xs'⟩ :: l) :=
  ⟨hown, fun p hp => ((h.2.1 p hp).symm.moved hm (fun k hk => ((h.2.2.mem hp).lt k hk).2)).symm, h.2.2.kept hg h.2.1⟩
theorem OwnAll.append {w : World} {B : Nat} {r : ORow} : ∀ {l : List ORow}, OwnAll w B l → r.at w B → (∀ p ∈ l, Apart r.v p.v) → OwnAll w B (l ++ [r])
  | [], _, h, _ => ⟨h, (fun _ hp => by simp at hp), trivial⟩
  | q :: l, ⟨h1, h2, h3⟩, h, ha => by
    refine ⟨h1, fun p hp => ?_, OwnAll.append h3 h (fun p hp => ha p (by simp [hp]))⟩
    rcases List.mem_append.1 hp with hp | hp
    · exact h2 p hp
    · have : p = r := by simpa using hp
      subst this; exact (ha q (by simp)).symm
def B8 (n : Int) : UInt8 := UInt8.ofNat (n % 256).toNat
theorem wpList_append_src {P : Program} {w : World} {ops : Array Oper} {rest : List Oper} {o : Oper} {a : Act} {Q : Exit → Act → World → Prop} (hgd : o.guard = none) (s x : Operand) (t : TypeId)
    (ho : o.op = .call { callee := .builtin .append, args := #[s, x], argTypes := #[t, t] })
    (base : Nat) (e : TypeId) (i : TypeInfo) (z : Value) (size bytes : Nat) (ht : P.underlying t = some (.slice e)) (hi : P.info? e = some i) (hz : i.zero = some z)
    (hsize : i.size = size) (hby : i.bytes = bytes) (hzs : z.cells.size = size) (hsz : 0 < size)
    (v : Value) (n : Nat) (xs : List Value) (hs : a.eval s = v) (hown : w.ownsRow base e size v n xs)
    (src : Value) (m : Nat) (news : List Value) (hx : a.eval x = src) (hsrc : Rd w src m news) (hl : news.length = m * size) (h1 : ∀ u ∈ news, u.oneCell' = true)
    (h63 : n + m ≤ maxLen) (hbytes : (n + m) * bytes ≤ 140737488355328) (hbase : base ≤ w.heap.size)
    (h : ∀ v' w', w'.ownsRow base e size v' (n + m) (xs ++ news) → w.grownBy w' v.ownBlock → Moved w v v' → wpList P ops Q rest (a.put o.dst v') w') : wpList P ops Q (o :: rest) a w := by
  obtain ⟨ad, cap, rfl, hmc, _, hnil, hcell⟩ := hsrc
  cases ad with
  | some ad =>
    refine wpList_append_own2 hgd s x t ho base e i z size bytes ht hi hz hsize hby hzs hsz v n xs hs hown ad m cap news hx hl (fun j u hj => ?_) h1 h63 hbytes hbase h
    have hjl : j < news.length := (List.getElem?_eq_some_iff.1 hj).1
    obtain ⟨b, off, e1, e2⟩ := hcell j hjl
    injection e1 with e1; subst e1
    rw [Go.WideShapes.add_plain, e2, List.getD, hj]; rfl
  | none =>
    have hc0 := hnil rfl
    subst hc0
    have hm0 : m = 0 := by omega
    subst hm0
    have hn0 : news = [] := List.eq_nil_of_length_eq_zero (by simpa using hl)
    subst hn0
    refine wpList_plain hgd fun _ hK => ?_
    have hk : ∃ v' w', (Builtin.append_ #[t, t] o.type #[v, .slice none 0 0]).run P w = .ok v' w' ∧ v' = v ∧ w' = w := by
      rcases hown.2 with ⟨rfl, _⟩ | ⟨g, cap, cur, rfl, _, hg, hnc, _⟩
      · exact ⟨_, _, by simp [Builtin.append_, run_underlying ht, sizeOf, typeInfo, hi, Builtin.lenOf, Builtin.firstCells], rfl, rfl⟩
      · refine ⟨_, _, ?_, rfl, rfl⟩
        simp [Builtin.append_, run_underlying ht, sizeOf, typeInfo, hi, Builtin.lenOf, Builtin.firstCells, hnc, loadCells, storeCells]
    obtain ⟨v', w', hr, rfl, rfl⟩ := hk
    unfold Oper.wp execOp
    simp only [ho, resolve, invoke, builtin, Sem.run_bind, Sem.run_pure, Result.andThen_ok, List.map_toArray, List.map_cons, List.map_nil, hs, hx, hr]
    exact hK _ _ (h v' w' (by simpa using hown) ⟨rfl, rfl, rfl, Nat.le_refl _, fun _ _ _ => rfl⟩ (.inl rfl))
theorem Box.grown {w w' : World} {b : Nat} {cs : Array Value} {t : TypeId} {r : Option Nat} (h : Box w b cs t) (hg : w.grownBy w' r) (hr : r ≠ some b) : Box w' b cs t :=
  h.keep (hg.block b h.lt (fun e => hr e.symm))
theorem grown_refl (w : World) (r : Option Nat) : w.grownBy w r := ⟨rfl, rfl, rfl, Nat.le_refl _, fun _ _ _ => rfl⟩
theorem below_of_grown {w w' : World} {B : Nat} {r : Option Nat} (hg : w.grownBy w' r) (hB : B ≤ w.heap.size) (hr : ∀ k, r = some k → B ≤ k) : Below B w w' :=
  (Below.refl B w).grown hg hB hr
structure Mod (F : Nat → Prop) (w w' : World) : Prop where
  os : w'.os = w.os
  tape : w'.tape = w.tape
  output : w'.output = w.output
  size : w.heap.size ≤ w'.heap.size
  block : ∀ k, k < w.heap.size → ¬ F k → w'.heap[k]? = w.heap[k]?
theorem Mod.refl (F : Nat → Prop) (w : World) : Mod F w w := ⟨rfl, rfl, rfl, Nat.le_refl _, fun _ _ _ => rfl⟩
theorem Mod.trans {F : Nat → Prop} {a b c : World} (h : Mod F a b) (k : Mod F b c) : Mod F a c :=
  ⟨k.os.trans h.os, k.tape.trans h.tape, k.output.trans h.output, Nat.le_trans h.size k.size, fun i hi hn => (k.block i (Nat.lt_of_lt_of_le hi h.size) hn).trans (h.block i hi hn)⟩
theorem Mod.then {F G : Nat → Prop} {a b c : World} (h : Mod F a b) (k : Mod G b c) (hg : ∀ i, G i → F i ∨ a.heap.size ≤ i) : Mod F a c :=
  ⟨k.os.trans h.os, k.tape.trans h.tape, k.output.trans h.output, Nat.le_trans h.size k.size, fun i hi hn => (k.block i (Nat.lt_of_lt_of_le hi h.size) (fun hgi => by
    rcases hg i hgi with h1 | h1
    · exact hn h1
    · omega)).trans (h.block i hi hn)⟩
theorem Mod.mono {F G : Nat → Prop} {a b : World} (h : Mod F a b) (hg : ∀ i, F i → G i) : Mod G a b :=
  ⟨h.os, h.tape, h.output, h.size, fun i hi hn => h.block i hi (fun hf => hn (hg i hf))⟩
theorem Mod.below {F : Nat → Prop} {a b : World} {B : Nat} (h : Mod F a b) (hB : B ≤ a.heap.size) (hf : ∀ i, F i → B ≤ i) : Below B a b :=
  ⟨h.os, h.tape, h.output, h.size, fun i hi => h.block i (by omega) (fun hfi => by have := hf i hfi; omega)⟩
theorem Mod.of_below {F : Nat → Prop} {a b : World} (h : Below a.heap.size a b) : Mod F a b := ⟨h.os, h.tape, h.output, h.size, fun i hi _ => h.block i hi⟩
theorem Mod.of_grown {F : Nat → Prop} {a b : World} {r : Option Nat} (h : a.grownBy b r) (hr : ∀ k, r = some k → F k) : Mod F a b :=
  ⟨h.os, h.tape, h.output, h.size, fun i hi hn => h.block i hi (fun e => hn (hr i e.symm))⟩
theorem Mod.set (F : Nat → Prop) (a : World) (p : Addr) (u : Value) (hp : F p.block) : Mod F a (a.setCell p u) :=
  ⟨rfl, rfl, rfl, by simp, fun i _ hn => Below.heap_setCell a p u i (fun e => hn (by rw [e]; exact hp))⟩
theorem Mod.drew (F : Nat → Prop) (a : World) : Mod F a a.drew := ⟨rfl, rfl, rfl, Nat.le_refl _, fun _ _ _ => rfl⟩
theorem Mod.alloc (F : Nat → Prop) (a : World) (o : Obj) : Mod F a (a.alloc o) := Mod.of_below (below_alloc a o)
theorem Box.mod {w w' : World} {b : Nat} {cs : Array Value} {t : TypeId} {F : Nat → Prop} (h : Box w b cs t) (hm : Mod F w w') (hb : ¬ F b) : Box w' b cs t := h.keep (hm.block b h.lt hb)
theorem own_mod {w w' : World} {base : Nat} {e : TypeId} {size n : Nat} {v : Value} {xs : List Value} {F : Nat → Prop} (h : w.ownsRow base e size v n xs) (hm : Mod F w w') (hb : ∀ k, v.ownBlock = some k → ¬ F k) : w'.ownsRow base e size v n xs := by
  refine ⟨h.1, ?_⟩
  rcases h.2 with hn | ⟨g, cap, cur, rfl, hbg, hg, rest⟩
  · exact .inl hn
  · exact .inr ⟨g, cap, cur, rfl, hbg, by rw [hm.block g (lt_of_block hg) (hb g rfl)]; exact hg, rest⟩
theorem Rd.mod {w w' : World} {v : Value} {n : Nat} {xs : List Value} {F : Nat → Prop} (h : Rd w v n xs) (hm : Mod F w w') (hb : ∀ k, v.ownBlock = some k → ¬ F k) : Rd w' v n xs :=
  h.keep (fun k hk hl => hm.block k hl (hb k hk))
end Go.Proofs.YtgcnolapjppbpaaGreatDoor
