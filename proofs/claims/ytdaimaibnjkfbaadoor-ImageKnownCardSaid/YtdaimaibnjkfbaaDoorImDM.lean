/-
  What stands while a state is taken out of bytes.
-/
import Derived.Test.YtdaimaibnjkfbaaDoorDecI
import Derived.Test.YtdaimaibnjkfbaaDoorImTk
import Derived.Test.YtdaimaibnjkfbaaDoorSesA
namespace Go.Proofs.YtdaimaibnjkfbaaDoor
open Go.RowKit
set_option maxRecDepth 100000

structure ImSt (w0 w : World) (t r b2 b8 : Nat) (v : Value) (s : TkM) (c b : Int) (x : Value) (l : List SesM) : Prop where
  it : IsTI w t r v s
  bz : Box w b2 #[.int .i64 0, .int .i64 0, .slice none 0 0] 24
  bs : Box w b8 #[.int .i64 c, .int .i64 b, x] 24
  own : OwnS w (b8 + 1) x l
  bel : Below w0.heap.size w0 w
  g : w0.heap.size ≤ b2
  o1 : b2 < r
  o2 : r < t
  o3 : t < b8
  ov : ∀ k, v.ownBlock = some k → b2 < k ∧ k < t
theorem ImSt.below {w0 w w' : World} {t r b2 b8 : Nat} {v x : Value} {s : TkM} {c b : Int} {l : List SesM} (h : ImSt w0 w t r b2 b8 v s c b x l) (hb : Below w.heap.size w w') : ImSt w0 w' t r b2 b8 v s c b x l :=
  ⟨h.it.below hb, h.bz.below hb, h.bs.below hb, h.own.below hb, h.bel.trans (hb.mono h.bel.size), h.g, h.o1, h.o2, h.o3, h.ov⟩
theorem ImSt.step {w0 w w' : World} {t r b2 b8 : Nat} {v x : Value} {s s' : TkM} {c b : Int} {l : List SesM} (h : ImSt w0 w t r b2 b8 v s c b x l) (hi : IsTI w' t r v s') (hm : Mod (fun i => i = r ∨ i = t) w w') : ImSt w0 w' t r b2 b8 v s' c b x l := by
  have := h.g; have := h.o1; have := h.o2; have := h.o3
  exact ⟨hi, h.bz.mod hm (by rintro (e | e) <;> omega), h.bs.mod hm (by rintro (e | e) <;> omega), h.own.mod hm (fun k hk => by have := (h.own.lt k hk).1; rintro (e | e) <;> omega), h.bel.trans (hm.below h.bel.size (fun i hi => by rcases hi with e | e <;> omega)), h.g, h.o1, h.o2, h.o3, h.ov⟩
/-- A block of its own, beside all, is turned. -/
theorem ImSt.ints {w0 w w' : World} {t r b2 b8 eb : Nat} {v x : Value} {s s' : TkM} {c b : Int} {l : List SesM} (h : ImSt w0 w t r b2 b8 v s c b x l) (hi : IsTI w' t r v s') (hm : Mod (fun i => i = r ∨ i = t ∨ i = eb) w w') (he : b8 < eb) (hx : x.ownBlock ≠ some eb) : ImSt w0 w' t r b2 b8 v s' c b x l := by
  have := h.g; have := h.o1; have := h.o2; have := h.o3
  exact ⟨hi, h.bz.mod hm (by rintro (e | e | e) <;> omega), h.bs.mod hm (by rintro (e | e | e) <;> omega), h.own.mod hm (fun k hk => by have := (h.own.lt k hk).1; rintro (e | e | e); omega; omega; exact hx (by rw [hk, e])), h.bel.trans (hm.below h.bel.size (fun i hi => by rcases hi with e | e | e <;> omega)), h.g, h.o1, h.o2, h.o3, h.ov⟩
theorem ImSt.mod {w0 w w' : World} {t r b2 b8 eb : Nat} {v x : Value} {s : TkM} {c b : Int} {l : List SesM} (h : ImSt w0 w t r b2 b8 v s c b x l) (hm : Mod (fun i => i = eb) w w') (he : b8 < eb) (hx : x.ownBlock ≠ some eb) : ImSt w0 w' t r b2 b8 v s c b x l :=
  h.ints (h.it.mod hm (by have := h.o3; omega) (by have := h.o2; have := h.o3; omega) (fun k hk => by have := (h.ov k hk).2; have := h.o3; omega)) (hm.mono (fun _ e => .inr (.inr e))) he hx
/-- The two clocks are taken. -/
theorem ImSt.clocks {w0 w w' : World} {t r b2 b8 : Nat} {v x : Value} {s s' : TkM} {c b c' b' : Int} {l : List SesM} (h : ImSt w0 w t r b2 b8 v s c b x l) (hi : IsTI w' t r v s') (hb : Box w' b8 #[.int .i64 c', .int .i64 b', x] 24) (hm : Mod (fun i => i = r ∨ i = t ∨ i = b8) w w') : ImSt w0 w' t r b2 b8 v s' c' b' x l := by
  have := h.g; have := h.o1; have := h.o2; have := h.o3
  exact ⟨hi, h.bz.mod hm (by rintro (e | e | e) <;> omega), hb, h.own.mod hm (fun k hk => by have := (h.own.lt k hk).1; rintro (e | e | e) <;> omega), h.bel.trans (hm.below h.bel.size (fun i hi => by rcases hi with e | e | e <;> omega)), h.g, h.o1, h.o2, h.o3, h.ov⟩
/-- One session more is appended, its list not yet stored. -/
theorem ImSt.grown {w0 w w' : World} {t r b2 b8 : Nat} {v x : Value} {s : TkM} {c b : Int} {l : List SesM} (h : ImSt w0 w t r b2 b8 v s c b x l) (hg : w.grownBy w' x.ownBlock) : Below (b8 + 1) w w' :=
  below_grown hg h.bs.lt (fun q hq => (h.own.lt q hq).1)
/-- The grown list is stored. -/
theorem ImSt.put {w0 w w' : World} {t r b2 b8 : Nat} {v x x' : Value} {s : TkM} {c b : Int} {l l' : List SesM} (h : ImSt w0 w t r b2 b8 v s c b x l) (hb : Below (b8 + 1) w w') (ho : OwnS w' (b8 + 1) x' l') : ImSt w0 (w'.setCell ⟨b8, 2, none⟩ x') t r b2 b8 v s c b x' l' := by
  have := h.g; have := h.o1; have := h.o2; have := h.o3
  have hm : Mod (fun i => b8 + 1 ≤ i) w w' := ⟨hb.os, hb.tape, hb.output, hb.size, fun i _ hn => hb.block i (by omega)⟩
  have hms := Mod.set (fun i => i = b8) w' ⟨b8, 2, none⟩ x' rfl
  have hi1 : IsTI w' t r v s := h.it.mod hm (by omega) (by omega) (fun k hk => by have := (h.ov k hk).2; omega)
  have hbs : Box w' b8 #[.int .i64 c, .int .i64 b, x] 24 := h.bs.mod hm (by omega)
  exact ⟨hi1.mod hms (by omega) (by omega) (fun k hk => by have := (h.ov k hk).2; omega), (h.bz.mod hm (by omega)).mod hms (by omega), hbs.set 2 x', ho.mod hms (fun k hk => by have := (ho.lt k hk).1; omega), (h.bel.trans (hb.mono (by omega))).trans (hms.below (Nat.le_trans h.bel.size hb.size) (fun i hi => by omega)), h.g, h.o1, h.o2, h.o3, h.ov⟩
theorem zst_one : ∀ v ∈ [Value.int .i64 0, .int .i64 0, .slice none 0 0], v.oneCell' = true := by
  intro v hv
  simp only [List.mem_cons, List.not_mem_nil, or_false] at hv
  rcases hv with rfl | rfl | rfl <;> rfl
/-- What stands where an error is handed out. -/
structure ExI (w0 : World) (t b2 : Nat) (er : Value) (w' : World) : Prop where
  ce : w'.cell? ⟨t, 1, none⟩ = some er
  bz : Box w' b2 #[.int .i64 0, .int .i64 0, .slice none 0 0] 24
  bel : Below w0.heap.size w0 w'
  ne : b2 ≠ t
  ge : w0.heap.size ≤ b2
theorem ExI.drew {w0 : World} {t b2 : Nat} {er : Value} {w : World} (h : ExI w0 t b2 er w) : ExI w0 t b2 er w.drew := ⟨h.ce, h.bz, h.bel.drew, h.ne, h.ge⟩
theorem ExI.store {w0 : World} {t b2 : Nat} {er : Value} {w : World} (h : ExI w0 t b2 er w) : ExI w0 t b2 er (w.setCells b2 0 [.int .i64 0, .int .i64 0, .slice none 0 0]) := by
  have hb := h.bz.setAll [.int .i64 0, .int .i64 0, .slice none 0 0] rfl
  have hm := Mod.setCells (fun k => k = b2) b2 rfl [.int .i64 0, .int .i64 0, .slice none 0 0] 0 w
  have hlt : t < w.heap.size := World.block_lt_of_cell? w _ h.ce
  exact ⟨by rw [World.cell?_of_block (w := w) (hm.block t hlt (fun e => h.ne e.symm))]; exact h.ce, hb, h.bel.trans (hm.below h.bel.size (fun _ hi => hi ▸ h.ge)), h.ne, h.ge⟩
end Go.Proofs.YtdaimaibnjkfbaaDoor
