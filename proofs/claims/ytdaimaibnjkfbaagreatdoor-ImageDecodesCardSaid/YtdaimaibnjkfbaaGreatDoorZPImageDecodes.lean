/-
  Small laws of worlds: a state of three cells is stored, in a region that draws its order.
-/
import Derived.Test.YtdaimaibnjkfbaaGreatDoorSetCells
import Derived.Deep.MidRow
import Derived.Test.YtdaimaibnjkfbaaGreatDoorRefBorn
import Derived.Test.YtdaimaibnjkfbaaGreatDoorDecI
import Derived.Test.YtdaimaibnjkfbaaGreatDoorImR3
import Derived.Test.YtdaimaibnjkfbaaGreatDoorSesA
import Derived.Test.YtdaimaibnjkfbaaGreatDoorMarkB
import Derived.Test.YtdaimaibnjkfbaaGreatDoorApartS
import Derived.Test.YtdaimaibnjkfbaaGreatDoorMarkT
import Derived.Test.YtdaimaibnjkfbaaGreatDoorImChk
import Derived.Test.YtdaimaibnjkfbaaGreatDoorSameB
import Derived.BigQuiet
import Derived.Deep.RegionHeld3
import Derived.Test.YtdaimaibnjkfbaaGreatDoorBase
import Derived.Deep.RegionHeld
import Derived.Test.YtdaimaibnjkfbaaGreatDoorSesL
import Derived.Outline
import Derived.Deep.LoopGhost
import Derived.Test.YtdaimaibnjkfbaaGreatDoorErr
import Derived.Test.YtdaimaibnjkfbaaGreatDoorErrV
import Derived.Test.YtdaimaibnjkfbaaGreatDoorImDec
import Derived.Test.YtdaimaibnjkfbaaGreatDoorArgs
import Derived.Test.YtdaimaibnjkfbaaGreatDoorLaw
import Derived.LaidLaws
import Derived.LaidHandle
import Derived.ChangeSame
import Derived.ChangeVars
import Derived.JoinedOf
import Derived.RowKit
import Derived.RowKitTokens
import Derived.Stop.Joined
import Derived.Test.YtdaimaibnjkfbaaGreatDoorArgsB
import Derived.Test.YtdaimaibnjkfbaaGreatDoorTie
import Derived.Test.YtdaimaibnjkfbaaGreatDoorCards
import Derived.SevenTiedAt
namespace Go.Proofs.YtdaimaibnjkfbaaGreatDoor
open Go.RowKit
set_option maxRecDepth 100000

theorem Mod.set3 (b : Nat) (w : World) (x y z : Value) : Mod (fun i => i = b) w (((w.setCell ⟨b, 0, none⟩ x).setCell ⟨b, 1, none⟩ y).setCell ⟨b, 2, none⟩ z) :=
  ((Mod.set (fun i => i = b) w ⟨b, 0, none⟩ x rfl).trans (Mod.set (fun i => i = b) _ ⟨b, 1, none⟩ y rfl)).trans (Mod.set (fun i => i = b) _ ⟨b, 2, none⟩ z rfl)
theorem modCell {w w' : World} {F : Nat → Prop} {a : Addr} {x : Value} (hm : Mod F w w') (hc : w.cell? a = some x) (hn : ¬ F a.block) : w'.cell? a = some x := by
  rw [World.cell?_of_block (w := w) (hm.block a.block (World.block_lt_of_cell? w _ hc) hn)]; exact hc
theorem wp_store_kk {P : Program} {op : Oper} {a : Act} {w : World} {K : Act → World → Prop} {Q : Exit → Act → World → Prop} (ty : TypeId) (x y : Operand) (ho : op.op = .store ty x y)
    (b o : Nat) (cs : List Value) (hx : a.eval x = .pointer (some ⟨b, o, none⟩)) (hy : a.eval y = .agg cs.toArray) (ht : w.there b o cs.length) (hi : (P.info? ty).map (·.size) = some cs.length) (h1 : ∀ v ∈ cs, v.oneCell' = true)
    (h : K (a.put op.dst undef) (w.setCells b o cs)) : op.wp P a w K Q := by
  refine wp_store_mid ty x y ho b o cs.toArray hx hy ?_ ?_ (all_oneCell_toArray h1) ?_
  · rw [List.size_toArray]; exact ht
  · rw [List.size_toArray]; exact hi
  · exact h
theorem Box.there3 {w : World} {b : Nat} {x y z : Value} {t : TypeId} (h : Box w b #[x, y, z] t) : w.there b 0 3 := by
  intro j hj
  rw [Nat.zero_add]
  match j, hj with
  | 0, _ => exact ⟨by rw [h.cell 0 _ rfl]; rfl, h.free _⟩
  | 1, _ => exact ⟨by rw [h.cell 1 _ rfl]; rfl, h.free _⟩
  | 2, _ => exact ⟨by rw [h.cell 2 _ rfl]; rfl, h.free _⟩
theorem Box.set3 {w : World} {b : Nat} {x y z : Value} {t : TypeId} (h : Box w b #[x, y, z] t) (x' y' z' : Value) : Box (w.setCells b 0 [x', y', z']) b #[x', y', z'] t ∧ Mod (fun i => i = b) w (w.setCells b 0 [x', y', z']) :=
  ⟨((h.set 0 x').set 1 y').set 2 z', Mod.set3 b w x' y' z'⟩
theorem one3 (x y : Int) (a : Option Addr) (n c : Nat) : ∀ v ∈ [Value.int .i64 x, Value.int .i64 y, Value.slice a n c], v.oneCell' = true := by
  intro v hv
  simp only [List.mem_cons, List.not_mem_nil, or_false] at hv
  rcases hv with rfl | rfl | rfl <;> rfl
end Go.Proofs.YtdaimaibnjkfbaaGreatDoor
/-
  The document's Decode: what bytes tell.
-/
namespace Go.Proofs.YtdaimaibnjkfbaaGreatDoor
open Go.RowKit
set_option maxRecDepth 100000

/-- So many sessions, taken one behind the other, up to the first error. -/
def rsTs : Nat → TkM → List SesM × TkM
  | 0, s => ([], s)
  | n + 1, s => if s.er = 0 then ((bornR s).1 :: (rsTs n (bornR s).2).1, (rsTs n (bornR s).2).2) else ([], s)
def finR (s : TkM) (st : StM) : Int × StM := if s.er = 0 then (if 0 < s.rest.length then (3, noSt) else if s.big = true then (24, noSt) else if checkM st = none then (0, st) else (24, noSt)) else (s.er, noSt)
def refDecI (l : List UInt8) : Int × StM :=
  let c := (⟨l, 0, 0, false⟩ : TkM).rint
  let b := c.2.rint
  let p := b.2.num
  if p.2.er = 0 ∧ 32 < p.1 then (24, noSt) else finR (rsTs p.1 p.2).2 ⟨c.1, b.1, (rsTs p.1 p.2).1⟩
theorem rsTs_er {s : TkM} (h : s.er ≠ 0) : ∀ n, rsTs n s = ([], s)
  | 0 => rfl
  | n + 1 => by unfold rsTs; rw [if_neg h]
theorem rsTs_snoc : ∀ (n : Nat) (s : TkM), (rsTs n s).2.er = 0 → rsTs (n + 1) s = ((rsTs n s).1 ++ [(bornR (rsTs n s).2).1], (bornR (rsTs n s).2).2)
  | 0, s, h => by
    have h : s.er = 0 := h
    unfold rsTs; rw [if_pos h]; rfl
  | n + 1, s, h => by
    by_cases h0 : s.er = 0
    · have e1 : rsTs (n + 1) s = ((bornR s).1 :: (rsTs n (bornR s).2).1, (rsTs n (bornR s).2).2) := by rw [rsTs, if_pos h0]
      rw [e1] at h ⊢
      have ih := rsTs_snoc n (bornR s).2 h
      rw [rsTs, if_pos h0, ih]; rfl
    · rw [rsTs_er h0] at h; exact absurd h h0
theorem rsTs_more {n m : Nat} {s : TkM} (hnm : n ≤ m) (h : (rsTs n s).2.er ≠ 0) : rsTs m s = rsTs n s := by
  induction n generalizing m s with
  | zero => exact rsTs_er h m
  | succ n ih =>
    by_cases h0 : s.er = 0
    · obtain ⟨m', rfl⟩ : ∃ m', m = m' + 1 := ⟨m - 1, by omega⟩
      have e1 : rsTs (n + 1) s = ((bornR s).1 :: (rsTs n (bornR s).2).1, (rsTs n (bornR s).2).2) := by rw [rsTs, if_pos h0]
      rw [e1] at h ⊢
      rw [rsTs, if_pos h0, ih (by omega) h]
    · rw [rsTs_er h0, rsTs_er h0]
theorem rsTs_len : ∀ (n : Nat) (s : TkM), (rsTs n s).1.length ≤ n
  | 0, _ => Nat.le_refl _
  | n + 1, s => by
    unfold rsTs
    split
    · have := rsTs_len n (bornR s).2; simp only [List.length_cons]; omega
    · simp
theorem refCnt {s : TkM} (h : ¬ (s.num.2.er = 0 ∧ 32 < s.num.1)) : s.num.1 ≤ 32 := by
  by_cases he : s.num.2.er = 0
  · rcases Nat.lt_or_ge 32 s.num.1 with h1 | h1
    · exact absurd ⟨he, h1⟩ h
    · exact h1
  · unfold TkM.num at he ⊢
    split
    · rename_i h0
      rw [if_pos h0] at he
      split
      · rename_i h1; rw [if_pos h1] at he; exact absurd rfl he
      · exact Nat.zero_le _
    · exact Nat.zero_le _
/-- What stands while a state is taken: Taken lies in block t, the state in block b8, the result ahead of both. -/
structure RkSt (w0 w : World) (t b8 : Nat) (v : Value) (s : TkM) (c b : Int) (x : Value) (l : List SesM) : Prop where
  it : IsK w t v s
  bz : Box w w0.heap.size #[.int .i64 0, .int .i64 0, .slice none 0 0] 25
  bs : Box w b8 #[.int .i64 c, .int .i64 b, x] 25
  own : OwnS w (b8 + 1) x l
  bel : Below w0.heap.size w0 w
  o1 : w0.heap.size < t
  o2 : t < b8
  ov : ∀ k, v.ownBlock = some k → k < w0.heap.size
theorem RkSt.below {w0 w w' : World} {t b8 : Nat} {v x : Value} {s : TkM} {c b : Int} {l : List SesM} (h : RkSt w0 w t b8 v s c b x l) (hb : Below w.heap.size w w') : RkSt w0 w' t b8 v s c b x l :=
  ⟨h.it.below hb, h.bz.below hb, h.bs.below hb, h.own.below hb, h.bel.trans (hb.mono h.bel.size), h.o1, h.o2, h.ov⟩
theorem RkSt.step {w0 w w' : World} {t b8 : Nat} {v v' x : Value} {s s' : TkM} {c b : Int} {l : List SesM} (h : RkSt w0 w t b8 v s c b x l) (hi : IsK w' t v' s') (hv : v'.ownBlock = v.ownBlock) (hm : Mod (fun i => i = t) w w') : RkSt w0 w' t b8 v' s' c b x l := by
  have := h.o1; have := h.o2
  exact ⟨hi, h.bz.mod hm (by omega), h.bs.mod hm (by omega), h.own.mod hm (fun k hk => by have := (h.own.lt k hk).1; omega), h.bel.trans (hm.below h.bel.size (fun i hi => by omega)), h.o1, h.o2, fun k hk => h.ov k (hv ▸ hk)⟩
/-- A cell of the state is stored. -/
theorem RkSt.clock {w0 w : World} {t b8 : Nat} {v x : Value} {s : TkM} {c b : Int} {l : List SesM} (h : RkSt w0 w t b8 v s c b x l) (c' : Int) : RkSt w0 (w.setCell ⟨b8, 0, none⟩ (.int .i64 c')) t b8 v s c' b x l := by
  have := h.o1; have := h.o2
  have hm := Mod.set (fun i => i = b8) w ⟨b8, 0, none⟩ (.int .i64 c') rfl
  exact ⟨h.it.mod hm (by omega) (fun k hk e => by have := h.ov k hk; omega), h.bz.mod hm (by omega), h.bs.set 0 _, h.own.mod hm (fun k hk e => by have := (h.own.lt k hk).1; omega), h.bel.trans (hm.below h.bel.size (fun i hi => by omega)), h.o1, h.o2, h.ov⟩
theorem RkSt.birth {w0 w : World} {t b8 : Nat} {v x : Value} {s : TkM} {c b : Int} {l : List SesM} (h : RkSt w0 w t b8 v s c b x l) (b' : Int) : RkSt w0 (w.setCell ⟨b8, 1, none⟩ (.int .i64 b')) t b8 v s c b' x l := by
  have := h.o1; have := h.o2
  have hm := Mod.set (fun i => i = b8) w ⟨b8, 1, none⟩ (.int .i64 b') rfl
  exact ⟨h.it.mod hm (by omega) (fun k hk e => by have := h.ov k hk; omega), h.bz.mod hm (by omega), h.bs.set 1 _, h.own.mod hm (fun k hk e => by have := (h.own.lt k hk).1; omega), h.bel.trans (hm.below h.bel.size (fun i hi => by omega)), h.o1, h.o2, h.ov⟩
/-- A session more. -/
theorem RkSt.put {w0 w w' : World} {t b8 : Nat} {v x x' : Value} {s : TkM} {c b : Int} {l l' : List SesM} (h : RkSt w0 w t b8 v s c b x l) (hg : w.grownBy w' x.ownBlock) (ho : OwnS w' (b8 + 1) x' l') : RkSt w0 (w'.setCell ⟨b8, 2, none⟩ x') t b8 v s c b x' l' := by
  have := h.o1; have := h.o2
  have hm : Mod (fun i => b8 + 1 ≤ i) w w' := Mod.of_grown hg (fun k hk => (h.own.lt k hk).1)
  have hms := Mod.set (fun i => i = b8) w' ⟨b8, 2, none⟩ x' rfl
  exact ⟨(h.it.mod hm (by omega) (fun k hk e => by have := h.ov k hk; omega)).mod hms (by omega) (fun k hk e => by have := h.ov k hk; omega), (h.bz.mod hm (by omega)).mod hms (by omega), (h.bs.mod hm (by omega)).set 2 x', ho.mod hms (fun k hk e => by have := (ho.lt k hk).1; omega), (h.bel.trans (hm.below h.bel.size (fun i hi => by omega))).trans (hms.below (Nat.le_trans h.bel.size hm.size) (fun i hi => by omega)), h.o1, h.o2, h.ov⟩
/-- The result's variable is filled. -/
theorem RkSt.fill {w0 w : World} {t b8 : Nat} {v x : Value} {s : TkM} {c b : Int} {l : List SesM} (h : RkSt w0 w t b8 v s c b x l) (c' b' : Int) (y : Value) :
    Box (((w.setCell ⟨w0.heap.size, 0, none⟩ (.int .i64 c')).setCell ⟨w0.heap.size, 1, none⟩ (.int .i64 b')).setCell ⟨w0.heap.size, 2, none⟩ y) w0.heap.size #[.int .i64 c', .int .i64 b', y] 25 ∧ OwnS (((w.setCell ⟨w0.heap.size, 0, none⟩ (.int .i64 c')).setCell ⟨w0.heap.size, 1, none⟩ (.int .i64 b')).setCell ⟨w0.heap.size, 2, none⟩ y) w0.heap.size x l ∧ Below w0.heap.size w0 (((w.setCell ⟨w0.heap.size, 0, none⟩ (.int .i64 c')).setCell ⟨w0.heap.size, 1, none⟩ (.int .i64 b')).setCell ⟨w0.heap.size, 2, none⟩ y) := by
  have := h.o1; have := h.o2
  have hm := (Mod.set (fun i => i = w0.heap.size) w ⟨w0.heap.size, 0, none⟩ (.int .i64 c') rfl).trans ((Mod.set (fun i => i = w0.heap.size) _ ⟨w0.heap.size, 1, none⟩ (.int .i64 b') rfl).trans (Mod.set (fun i => i = w0.heap.size) _ ⟨w0.heap.size, 2, none⟩ y rfl))
  exact ⟨((h.bz.set 0 _).set 1 _).set 2 y, (h.own.mod hm (fun k hk e => by have := (h.own.lt k hk).1; omega)).base (by omega), h.bel.trans (hm.below h.bel.size (fun i hi => by omega))⟩
theorem zrangeR {w : World} {b : Nat} {c d : Int} {x : Value} {t : TypeId} (h : Box w b #[.int .i64 c, .int .i64 d, x] t) : w.rangeAt b 0 [.int .i64 c, .int .i64 d, x] := h.range 0 _ (fun j v hv => by rw [Nat.zero_add]; simpa using hv)
theorem bornR_ok (s : TkM) : SesOk (bornR s).1 := ⟨Nat.le_trans (TkM.txt_len _) (by decide), Nat.le_trans (TkM.txt_len _) (by decide), TkM.num_lt _⟩
theorem rsTs_ok : ∀ (n : Nat) (s : TkM), ∀ x ∈ (rsTs n s).1, SesOk x
  | 0, _, _, h => by cases h
  | n + 1, s, x, h => by
    unfold rsTs at h
    split at h
    · rcases List.mem_cons.1 h with rfl | h
      · exact bornR_ok s
      · exact rsTs_ok n _ x h
    · cases h
set_option maxHeartbeats 6400000 in
theorem refDecI_calls (l : List UInt8) (v : Value) (w : World) (h : Rd w v l.length (l.map V8)) (hsm : l.length ≤ 1000000000000) (hvl : ∀ b, v.ownBlock = some b → b < w.heap.size) :
    Calls Tryz.prog 4 #[v] w fun e w' => ∃ o, e = .returned (.tuple #[.agg #[.int .i64 (refDecI l).2.clock, .int .i64 (refDecI l).2.births, o], .int .i64 (refDecI l).1]) ∧ OwnS w' w.heap.size o (refDecI l).2.l ∧ Below w.heap.size w w' := by
  have hRd := h
  obtain ⟨va, vcap, rfl, _⟩ := hRd
  generalize hvn : (Value.slice va l.length vcap) = v at h hvl
  have hvn' := hvn
  obtain ⟨vn, hn0⟩ : ∃ vn, vn = l.length := ⟨_, rfl⟩
  rw [← hn0] at hvn
  subst hvn
  clear hvn' hn0
  have hb3 : Below w.heap.size w (((w.alloc (.cells #[.int .i64 0, .int .i64 0, .slice none 0 0] 25)).alloc (.cells #[.slice va vn vcap, .int .i64 0, .bool false] 53)).alloc (.cells #[.int .i64 0, .int .i64 0, .slice none 0 0] 25)) := (below_two w (.cells #[.int .i64 0, .int .i64 0, .slice none 0 0] 25) (.cells #[.slice va vn vcap, .int .i64 0, .bool false] 53)).trans ((below_alloc ((w.alloc (.cells #[.int .i64 0, .int .i64 0, .slice none 0 0] 25)).alloc (.cells #[.slice va vn vcap, .int .i64 0, .bool false] 53)) (.cells #[.int .i64 0, .int .i64 0, .slice none 0 0] 25)).mono (below_two w _ _).size)
  have hst : RkSt w (((w.alloc (.cells #[.int .i64 0, .int .i64 0, .slice none 0 0] 25)).alloc (.cells #[.slice va vn vcap, .int .i64 0, .bool false] 53)).alloc (.cells #[.int .i64 0, .int .i64 0, .slice none 0 0] 25)) (w.heap.size + 1) (w.heap.size + 1 + 1) (.slice va vn vcap) ⟨l, 0, 0, false⟩ 0 0 (.slice none 0 0) [] := by
    have h1 := Box.new w #[.int .i64 0, .int .i64 0, .slice none 0 0] 25
    have h2 := Box.new (w.alloc (.cells #[.int .i64 0, .int .i64 0, .slice none 0 0] 25)) #[.slice va vn vcap, .int .i64 0, .bool false] 53
    have h3 := Box.new ((w.alloc (.cells #[.int .i64 0, .int .i64 0, .slice none 0 0] 25)).alloc (.cells #[.slice va vn vcap, .int .i64 0, .bool false] 53)) #[.int .i64 0, .int .i64 0, .slice none 0 0] 25
    rw [World.size_alloc] at h2
    rw [World.size_alloc, World.size_alloc] at h3
    exact ⟨⟨h2.below (below_alloc _ _), h.below hb3, fun e => by have := hvl _ e; omega, hsm⟩, (h1.below (below_alloc _ _)).below (below_alloc _ _), h3, OwnS.nil _ _, hb3, by omega, by omega, hvl⟩
  obtain ⟨D, hD⟩ : ∃ D, D = refDecI l := ⟨_, rfl⟩
  rw [← hD]
  unfold refDecI at hD
  simp only at hD
  obtain ⟨s0, hs0⟩ : ∃ s0 : TkM, s0 = ⟨l, 0, 0, false⟩ := ⟨_, rfl⟩
  rw [← hs0] at hst hD
  have HD := Lib.hid hD
  have HS := Lib.hid hst
  clear hst hD h hsm hvl hb3 hs0
  go_enter Tryz.func4, Tryz.ntmps4
  go_wp2_with fail
  generalize hw1 : World.alloc _ _ = w1 at HS ⊢
  clear hw1
  obtain ⟨p, hp⟩ : ∃ p, p = w.heap.size := ⟨_, rfl⟩
  generalize ht : w.heap.size + 1 = t at HS ⊢
  generalize hb8 : t + 1 = b8 at HS ⊢
  clear ht hb8
  refine (refTkInt_calls t (.slice va vn vcap) s0 w1 HS.out.it).mono ?_
  rintro e w2 ⟨rfl, ⟨v2, hk, hv2⟩, hm⟩
  have HS2 := Lib.hid (HS.out.step hk hv2 hm)
  obtain ⟨cc, hcc⟩ : ∃ cc, cc = s0.rint := ⟨_, rfl⟩
  rw [← hcc] at HS2 HD ⊢
  have c0 : w2.cell? ⟨b8, 0, none⟩ = some (.int .i64 0) := HS2.out.bs.cell 0 _ rfl
  have f0 := HS2.out.bs.free 0
  have HS3 := Lib.hid (HS2.out.clock cc.1)
  clear hk hv2 hm HS HS2 hcc
  go_wp2_with fail
  generalize (w2.setCell ⟨b8, 0, none⟩ (.int .i64 cc.1)) = w3 at HS3 ⊢
  clear c0 f0
  refine (refTkInt_calls t v2 cc.2 w3 HS3.out.it).mono ?_
  rintro e w4 ⟨rfl, ⟨v4, hk, hv4⟩, hm⟩
  have HS4 := Lib.hid (HS3.out.step hk hv4 hm)
  obtain ⟨bb, hbb⟩ : ∃ bb, bb = cc.2.rint := ⟨_, rfl⟩
  rw [← hbb] at HS4 HD ⊢
  have c1 : w4.cell? ⟨b8, 1, none⟩ = some (.int .i64 0) := HS4.out.bs.cell 1 _ rfl
  have f1 := HS4.out.bs.free 1
  have HS5 := Lib.hid (HS4.out.birth bb.1)
  clear hk hv4 hm HS3 HS4 hbb
  go_wp2_with fail
  generalize (w4.setCell ⟨b8, 1, none⟩ (.int .i64 bb.1)) = w5 at HS5 ⊢
  clear c1 f1
  refine (refTkNumber_calls t v4 bb.2 w5 HS5.out.it).mono ?_
  rintro e w6 ⟨rfl, ⟨v6, hk, hv6⟩, hm⟩
  have HS6 := Lib.hid (HS5.out.step hk hv6 hm)
  have hcnt := @refCnt bb.2
  obtain ⟨q, hq⟩ : ∃ q, q = bb.2.num := ⟨_, rfl⟩
  rw [← hq] at HS6 HD hcnt ⊢
  have HCN := Lib.hid hcnt
  clear hk hv6 hm HS5 hq hcnt
  obtain ⟨n, s⟩ := q
  simp only at HS6 HD HCN ⊢
  have k1 : w6.cell? ⟨t, 1, none⟩ = some (.int .i64 s.er) := HS6.out.it.box.cell 1 _ rfl
  by_cases hbig : s.er = 0 ∧ 32 < n
  · have HD4 := Lib.hid (show D = (24, noSt) by rw [HD.out, if_pos hbig])
    have t1 : (s.er == 0) = true := by rw [hbig.1]; rfl
    have t2 : decide ((32 : Int) < (n : Int)) = true := by simp; omega
    have t2' : decide (32 < n) = true := by simp; omega
    have z0 : (w6).cell? ⟨w.heap.size, 0, none⟩ = some (.int .i64 0) := HS6.out.bz.cell 0 _ rfl
    have y0 := HS6.out.bz.free 0
    have z1 : (w6).cell? ⟨w.heap.size, 1, none⟩ = some (.int .i64 0) := HS6.out.bz.cell 1 _ rfl
    have y1 := HS6.out.bz.free 1
    have z2 : (w6).cell? ⟨w.heap.size, 2, none⟩ = some (.slice none 0 0) := HS6.out.bz.cell 2 _ rfl
    have y2 := HS6.out.bz.free 2
    have HF := Lib.hid (HS6.out.fill 0 0 (.slice none 0 0))
    clear HS6 HCN hbig HD
    go_wp2_with fail
    exact ret_cell_tmp rfl rfl w.heap.size 0 rfl [.int .i64 0, .int .i64 0, .slice none 0 0] _ (zrangeR HF.out.1) Tryz.underlying25 rfl (by kernel_rfl) _ rfl ⟨_, by rw [HD4.out]; rfl, by rw [HD4.out]; exact OwnS.nil _ _, HF.out.2.2⟩
  have hn := HCN.out hbig
  have HD2 := Lib.hid (show D = finR (rsTs n s).2 ⟨cc.1, bb.1, (rsTs n s).1⟩ by rw [HD.out, if_neg hbig])
  have hz : IntKind.i64.wrap (n : Int) = (n : Int) := by simp [IntKind.wrap, IntKind.bits, IntKind.signed]; omega
  have HNN := Lib.hid hn
  have t4 : decide ((32 : Int) < (n : Int)) = false := by simp; omega
  have t4' : decide (32 < n) = false := by simp; omega
  cases t3 : (s.er == 0)
  · have hbig := hbig
    go_wp2_with fail
    clear t3 t4 t4'
    go_loopg [7] n (fun gk iv wr => ∃ (i : Nat) (v' x : Value), gk + i = n ∧ iv = .int .i64 (i : Int) ∧ RkSt w wr t b8 v' (rsTs i s).2 cc.1 bb.1 x (rsTs i s).1)
    case atStart => exact ⟨0, _, _, Nat.add_zero _, rfl, HS6.out⟩
    case round =>
      clear HS6 k1
      obtain ⟨i, v', x, hgk, rfl, hS⟩ := hrel
      have i0 : (0 : Int) ≤ (i : Int) := by omega
      have HGK := Lib.hid hgk
      have HLEN := Lib.hid (rsTs_len i s)
      have HOK := Lib.hid (rsTs_ok i s)
      have HSN := Lib.hid (rsTs_snoc i s)
      have HMO := Lib.hid (fun h1 h2 => @rsTs_more i n s h1 h2)
      obtain ⟨R, hR⟩ : ∃ R, R = rsTs i s := ⟨_, rfl⟩
      have HRR := Lib.hid hR
      rw [← hR] at hS HLEN HOK HSN HMO
      clear hR hgk
      obtain ⟨L, S⟩ := R
      simp only at hS HLEN HOK HSN HMO
      have HS := Lib.hid hS
      clear hS
      have k1 : wr.cell? ⟨t, 1, none⟩ = some (.int .i64 S.er) := HS.out.it.box.cell 1 _ rfl
      by_cases hi : i < n
      · have i1 : (i : Int) < (n : Int) := by omega
        by_cases he : S.er = 0
        rotate_left
        · have HD3 := Lib.hid (show D = finR S ⟨cc.1, bb.1, L⟩ by rw [HD2.out, HMO.out (by omega) he])
          have t0 : (S.er == 0) = false := by rw [beq_eq_false_iff_ne]; exact he
          clear hi HSN HMO HRR
          have HD5 := Lib.hid (show D = (S.er, noSt) by rw [HD3.out]; unfold finR; rw [if_neg he])
          have t1 : (S.er != 0) = true := by rw [bne_iff_ne]; exact he
          have t1' : (S.er == 0) = false := by rw [beq_eq_false_iff_ne]; exact he
          clear he HD3
          go_wp2_with fail
          clear k1 t1 t1'
          have hk1 := HS.out.it.box.cell 1 _ rfl
          have HK1 := Lib.hid hk1
          have HT0 := Lib.hid (And.intro HS.out.o1 HS.out.bel.size)
          clear hk1
          refine wp_region_held_drew (S := fun W => Mod (fun i => i = w.heap.size) wr W) (by kernel_rfl) (Mod.drew _ wr) (fun hHeld => ?_)
          refine wpAnyH_take (i := 0) (oi := ⟨some 59, _, _, _, _, _⟩) (v := ?_) rfl (by kernel_rfl) (by kernel_rfl) (by kernel_rfl) (fun _ _ _ h => h) (Or.inl ⟨by kernel_rfl, ?_⟩) (by assumption) ?_
          rotate_left 1
          · intro w' hw'; clear hw'; go_simp; try with_reducible rfl
          try simp only [Act.put, List.setIfInBounds_toArray, List.set_cons_zero, List.set_cons_succ]
          refine wpAnyH_take (i := 1) (oi := ⟨some 60, _, _, _, _, _⟩) (v := ?_) rfl (by kernel_rfl) (by kernel_rfl) (by kernel_rfl) (fun _ _ _ h => h) (Or.inl ⟨by kernel_rfl, ?_⟩) (by assumption) ?_
          rotate_left 1
          · intro w' hw'; clear hw'; go_simp; try with_reducible rfl
          try simp only [Act.put, List.setIfInBounds_toArray, List.set_cons_zero, List.set_cons_succ]
          refine wpAnyH_take (i := 2) (oi := ⟨some 61, _, _, _, _, _⟩) (v := ?_) rfl (by kernel_rfl) (by kernel_rfl) (by kernel_rfl) (fun _ _ _ h => h) (Or.inl ⟨by kernel_rfl, ?_⟩) (by assumption) ?_
          rotate_left 1
          · intro w' hw'; clear hw'; go_simp; try with_reducible rfl
          try simp only [Act.put, List.setIfInBounds_toArray, List.set_cons_zero, List.set_cons_succ]
          refine wpAnyH_take (i := 3) (oi := ⟨some 62, _, _, _, _, _⟩) (v := ?_) rfl (by kernel_rfl) (by kernel_rfl) (by kernel_rfl) (fun _ _ _ h => h) (Or.inl ⟨by kernel_rfl, ?_⟩) (by assumption) ?_
          rotate_left 1
          · intro w' hw'; clear hw'; go_simp; try with_reducible rfl
          try simp only [Act.put, List.setIfInBounds_toArray, List.set_cons_zero, List.set_cons_succ]
          refine wpAnyH_take (i := 4) (oi := ⟨some 63, _, _, _, _, _⟩) (v := ?_) rfl (by kernel_rfl) (by kernel_rfl) (by kernel_rfl) (fun _ _ _ h => h) (Or.inl ⟨by kernel_rfl, ?_⟩) (by assumption) ?_
          rotate_left 1
          · intro w' hw'; have u1 := modCell hw' HK1.out (fun e => by have h1 : t = w.heap.size := e; have := HT0.out.1; omega); clear hw'; go_simp; try with_reducible rfl
          try simp only [Act.put, List.setIfInBounds_toArray, List.set_cons_zero, List.set_cons_succ]
          refine wpAnyH_ready (rs := [5]) (by kernel_rfl) (by simp) (AllReadyH.cons (o := ⟨none, .store 25 (.tmp 2) (.tmp 59), _, _, _, none⟩) rfl (fun K hK => ?_) AllReadyH.nil)
          rw [if_pos (by kernel_rfl)]
          refine wp_store_kk 25 (.tmp 2) (.tmp 59) rfl w.heap.size 0 [.int .i64 0, .int .i64 0, .slice none 0 0] rfl rfl (show Box wr.drew w.heap.size #[.int .i64 0, .int .i64 0, .slice none 0 0] 25 from HS.out.bz).there3 (by kernel_rfl) (one3 _ _ _ _ _) ?_
          obtain ⟨hx9, hm9⟩ := (show Box wr.drew w.heap.size #[.int .i64 0, .int .i64 0, .slice none 0 0] 25 from HS.out.bz).set3 (.int .i64 0) (.int .i64 0) (.slice none 0 0)
          have hb9 := (HS.out.bel.drew).trans (hm9.below (B := w.heap.size) HT0.out.2 (fun i hi => Nat.le_of_eq hi.symm))
          refine hK.out _ _ (hHeld.trans hm9) (fun hHeld2 => ?_)
          have HF := Lib.hid (And.intro hx9 hb9)
          clear hK K hx9 hm9 hb9
          try simp only [Act.put]
          refine wpAnyH_take (i := 6) (oi := ⟨some 3, _, _, _, _, _⟩) (v := ?_) rfl (by kernel_rfl) (by kernel_rfl) (by kernel_rfl) (fun _ _ _ h => h) (Or.inl ⟨by kernel_rfl, ?_⟩) (by assumption) ?_
          rotate_left 1
          · intro w' hw'; clear hw'; go_simp; try with_reducible rfl
          try simp only [Act.put, List.setIfInBounds_toArray, List.set_cons_zero, List.set_cons_succ]
          refine wpAnyH_done (by kernel_rfl) ?_ _
          clear hHeld hHeld2 HS HK1 HD2
          generalize (World.setCells _ _ _ _) = w9 at HF ⊢
          go_wp2_with fail
          exact ret_cell_tmp rfl rfl w.heap.size 0 rfl [.int .i64 0, .int .i64 0, .slice none 0 0] _ (zrangeR HF.out.1) Tryz.underlying25 rfl (by kernel_rfl) _ rfl ⟨_, by rw [HD5.out]; rfl, by rw [HD5.out]; exact OwnS.nil _ _, HF.out.2⟩
        have t0 : (S.er == 0) = true := by rw [he]; rfl
        have HSN2 := Lib.hid (HSN.out he)
        have HI := Lib.hid hi
        clear hi he HSN HMO HRR
        go_wp2_with fail
        refine (refBorn_calls t v' S wr HS.out.it (fun k hk => by have := HS.out.ov k hk; have := HS.out.bel.size; omega)).mono ?_
        rintro e w7 ⟨rfl, ⟨v7, hk, hv7⟩, hm⟩
        have HS7 := Lib.hid (HS.out.step hk hv7 hm)
        obtain ⟨BR, hBR⟩ : ∃ BR, BR = bornR S := ⟨_, rfl⟩
        rw [← hBR] at HS7 HSN2 ⊢
        clear hk hv7 hm HS hBR k1 t0
        obtain ⟨bs, S'⟩ := BR
        simp only at HS7 HSN2 ⊢
        go_wp2_with ((with_reducible refine wpList_store_k ?S1a 61 (.tmp 8) (.tmp 47) ?S1b (w7.heap.size) (0) bs.cells.toList ?S1c bs.cells ?S1d (SesM.listS _) ?S1e ?S1f ?S1g ?S1h); (case S1b => rfl); (case S1a => rfl); (case S1c => rfl); (case S1d => rfl); (case S1e => exact thereZ _ _); (case S1f => kernel_rfl); (case S1g => exact SesM.oneS _))
        intro w8 hw8
        obtain ⟨hpx, hb8'⟩ := putZ hw8
        have HPX := Lib.hid hpx.rangeS
        have HS8 := Lib.hid (HS7.out.below hb8')
        obtain ⟨xa, xc, rfl, _⟩ := HS8.out.own.slice
        obtain ⟨xn, hxn⟩ : ∃ xn, xn = L.length := ⟨_, rfl⟩
        rw [← hxn] at HS8
        have c2 : w8.cell? ⟨b8, 2, none⟩ = some (.slice xa xn xc) := HS8.out.bs.cell 2 _ rfl
        clear hw8 hpx hb8' HS7 hxn
        go_wp2_with ((with_reducible refine wpList_load_k ?L2a 61 (.tmp 8) ?L2b (w7.heap.size) (0) ?L2c bs.cells.toList _ (HPX.out) Tryz.underlying61 ?L2d ?L2e ?L2f); (case L2b => rfl); (case L2a => rfl); (case L2c => rfl); (case L2d => rfl); (case L2e => kernel_rfl))
        intro cv hcv
        have ecv : cv = bs.cells := by rw [hcv.out]
        subst ecv
        clear hcv HPX
        go_wp2_with (refine wpList_buildSlice_s (op := ⟨some 51, _, _, _, _, _⟩) (by rfl) 23 1 #[(0, .tmp 50)] rfl #[(0, .agg bs.cells)] (by kernel_rfl) _ _ (buildS bs w8) ?_)
        intro w9 hw9
        have hb9 : Below w8.heap.size w8 w9 := by rw [hw9.out]; exact below_alloc _ _
        have HC9 := Lib.hid (show ∀ j u, bs.cells.toList[j]? = some u → w9.cell? ((⟨w8.heap.size, 0, none⟩ : Addr).add j) = some u by rw [hw9.out]; exact newCells w8 bs _)
        have HS9 := Lib.hid (HS8.out.below hb9)
        have HLK := Lib.hid (show L.length + 1 ≤ 1256584717458 by have := HLEN.out; have := HNN.out; have := HI.out; omega)
        clear hw9 hb9 HS8 c2
        go_wp2_with (at_builtin; refine appSes rfl _ _ rfl (b8 + 1) _ L rfl HS9.out.own ⟨w8.heap.size, 0, none⟩ 1 bs rfl HC9.out HLK.out (by have := HS9.out.bs.lt; omega) ?_)
        intro y wa hown' hg' _
        obtain ⟨ya, yc, rfl, _⟩ := hown'.slice
        obtain ⟨yn, hyn⟩ : ∃ yn, yn = (L ++ [bs]).length := ⟨_, rfl⟩
        rw [← hyn] at hown' ⊢
        clear hyn
        have HSA := Lib.hid (HS9.out.put hg' hown')
        have hbx : Box wa b8 #[.int .i64 cc.1, .int .i64 bb.1, .slice xa xn xc] 25 := HS9.out.bs.grown hg' (fun e => by have := (HS9.out.own.lt _ e).1; omega)
        have d2 : wa.cell? ⟨b8, 2, none⟩ = some (.slice xa xn xc) := hbx.cell 2 _ rfl
        have e2 := hbx.free 2
        clear hg' hown' HS9 HC9 hbx
        go_wp2_with fail
        go_roundg (n - (i + 1))
        case measure => have := HGK.out; have := HI.out; omega
        case rel => exact ⟨i + 1, _, _, by have := HGK.out; have := HI.out; omega, by go_num, by rw [HSN2.out]; exact HSA.out⟩
      have i1 : ¬ (i : Int) < (n : Int) := by omega
      have HD3 := Lib.hid (show D = finR S ⟨cc.1, bb.1, L⟩ by
        have : i = n := by have := HGK.out; omega
        rw [HD2.out, ← this, ← HRR.out])
      clear hi HSN HMO HRR
      by_cases he : S.er = 0
      rotate_left
      · have HD5 := Lib.hid (show D = (S.er, noSt) by rw [HD3.out]; unfold finR; rw [if_neg he])
        have t1 : (S.er != 0) = true := by rw [bne_iff_ne]; exact he
        have t1' : (S.er == 0) = false := by rw [beq_eq_false_iff_ne]; exact he
        clear he HD3
        go_wp2_with fail
        clear k1 t1 t1'
        have hk1 := HS.out.it.box.cell 1 _ rfl
        have HK1 := Lib.hid hk1
        have HT0 := Lib.hid (And.intro HS.out.o1 HS.out.bel.size)
        clear hk1
        refine wp_region_held_drew (S := fun W => Mod (fun i => i = w.heap.size) wr W) (by kernel_rfl) (Mod.drew _ wr) (fun hHeld => ?_)
        refine wpAnyH_take (i := 0) (oi := ⟨some 59, _, _, _, _, _⟩) (v := ?_) rfl (by kernel_rfl) (by kernel_rfl) (by kernel_rfl) (fun _ _ _ h => h) (Or.inl ⟨by kernel_rfl, ?_⟩) (by assumption) ?_
        rotate_left 1
        · intro w' hw'; clear hw'; go_simp; try with_reducible rfl
        try simp only [Act.put, List.setIfInBounds_toArray, List.set_cons_zero, List.set_cons_succ]
        refine wpAnyH_take (i := 1) (oi := ⟨some 60, _, _, _, _, _⟩) (v := ?_) rfl (by kernel_rfl) (by kernel_rfl) (by kernel_rfl) (fun _ _ _ h => h) (Or.inl ⟨by kernel_rfl, ?_⟩) (by assumption) ?_
        rotate_left 1
        · intro w' hw'; clear hw'; go_simp; try with_reducible rfl
        try simp only [Act.put, List.setIfInBounds_toArray, List.set_cons_zero, List.set_cons_succ]
        refine wpAnyH_take (i := 2) (oi := ⟨some 61, _, _, _, _, _⟩) (v := ?_) rfl (by kernel_rfl) (by kernel_rfl) (by kernel_rfl) (fun _ _ _ h => h) (Or.inl ⟨by kernel_rfl, ?_⟩) (by assumption) ?_
        rotate_left 1
        · intro w' hw'; clear hw'; go_simp; try with_reducible rfl
        try simp only [Act.put, List.setIfInBounds_toArray, List.set_cons_zero, List.set_cons_succ]
        refine wpAnyH_take (i := 3) (oi := ⟨some 62, _, _, _, _, _⟩) (v := ?_) rfl (by kernel_rfl) (by kernel_rfl) (by kernel_rfl) (fun _ _ _ h => h) (Or.inl ⟨by kernel_rfl, ?_⟩) (by assumption) ?_
        rotate_left 1
        · intro w' hw'; clear hw'; go_simp; try with_reducible rfl
        try simp only [Act.put, List.setIfInBounds_toArray, List.set_cons_zero, List.set_cons_succ]
        refine wpAnyH_take (i := 4) (oi := ⟨some 63, _, _, _, _, _⟩) (v := ?_) rfl (by kernel_rfl) (by kernel_rfl) (by kernel_rfl) (fun _ _ _ h => h) (Or.inl ⟨by kernel_rfl, ?_⟩) (by assumption) ?_
        rotate_left 1
        · intro w' hw'; have u1 := modCell hw' HK1.out (fun e => by have h1 : t = w.heap.size := e; have := HT0.out.1; omega); clear hw'; go_simp; try with_reducible rfl
        try simp only [Act.put, List.setIfInBounds_toArray, List.set_cons_zero, List.set_cons_succ]
        refine wpAnyH_ready (rs := [5]) (by kernel_rfl) (by simp) (AllReadyH.cons (o := ⟨none, .store 25 (.tmp 2) (.tmp 59), _, _, _, none⟩) rfl (fun K hK => ?_) AllReadyH.nil)
        rw [if_pos (by kernel_rfl)]
        refine wp_store_kk 25 (.tmp 2) (.tmp 59) rfl w.heap.size 0 [.int .i64 0, .int .i64 0, .slice none 0 0] rfl rfl (show Box wr.drew w.heap.size #[.int .i64 0, .int .i64 0, .slice none 0 0] 25 from HS.out.bz).there3 (by kernel_rfl) (one3 _ _ _ _ _) ?_
        obtain ⟨hx9, hm9⟩ := (show Box wr.drew w.heap.size #[.int .i64 0, .int .i64 0, .slice none 0 0] 25 from HS.out.bz).set3 (.int .i64 0) (.int .i64 0) (.slice none 0 0)
        have hb9 := (HS.out.bel.drew).trans (hm9.below (B := w.heap.size) HT0.out.2 (fun i hi => Nat.le_of_eq hi.symm))
        refine hK.out _ _ (hHeld.trans hm9) (fun hHeld2 => ?_)
        have HF := Lib.hid (And.intro hx9 hb9)
        clear hK K hx9 hm9 hb9
        try simp only [Act.put]
        refine wpAnyH_take (i := 6) (oi := ⟨some 3, _, _, _, _, _⟩) (v := ?_) rfl (by kernel_rfl) (by kernel_rfl) (by kernel_rfl) (fun _ _ _ h => h) (Or.inl ⟨by kernel_rfl, ?_⟩) (by assumption) ?_
        rotate_left 1
        · intro w' hw'; clear hw'; go_simp; try with_reducible rfl
        try simp only [Act.put, List.setIfInBounds_toArray, List.set_cons_zero, List.set_cons_succ]
        refine wpAnyH_done (by kernel_rfl) ?_ _
        clear hHeld hHeld2 HS HK1 HD2
        generalize (World.setCells _ _ _ _) = w9 at HF ⊢
        go_wp2_with fail
        exact ret_cell_tmp rfl rfl w.heap.size 0 rfl [.int .i64 0, .int .i64 0, .slice none 0 0] _ (zrangeR HF.out.1) Tryz.underlying25 rfl (by kernel_rfl) _ rfl ⟨_, by rw [HD5.out]; rfl, by rw [HD5.out]; exact OwnS.nil _ _, HF.out.2⟩
      have t1 : (S.er != 0) = false := by rw [he]; rfl
      have HD4 := Lib.hid (show D = (if 0 < S.rest.length then (3, noSt) else if S.big = true then (24, noSt) else if checkM ⟨cc.1, bb.1, L⟩ = none then (0, ⟨cc.1, bb.1, L⟩) else (24, noSt)) by rw [HD3.out]; unfold finR; rw [if_pos he])
      obtain ⟨ra, rc, hrv, _⟩ := HS.out.it.rd
      obtain ⟨rn, hrn⟩ : ∃ rn, rn = S.rest.length := ⟨_, rfl⟩
      rw [← hrn] at hrv HD4
      subst hrv
      have g0 : wr.cell? ⟨t, 0, none⟩ = some (.slice ra rn rc) := HS.out.it.box.cell 0 _ rfl
      clear he HD3 hrn
      by_cases hr : 0 < rn
      · have HD5 := Lib.hid (show D = (3, noSt) by rw [HD4.out, if_pos hr])
        have t2 : decide ((0 : Int) < (rn : Int)) = true := by simp; omega
        have t2' : decide (0 < rn) = true := by simp; omega
        clear hr HD4
        have z0 : (wr).cell? ⟨w.heap.size, 0, none⟩ = some (.int .i64 0) := HS.out.bz.cell 0 _ rfl
        have y0 := HS.out.bz.free 0
        have z1 : (wr).cell? ⟨w.heap.size, 1, none⟩ = some (.int .i64 0) := HS.out.bz.cell 1 _ rfl
        have y1 := HS.out.bz.free 1
        have z2 : (wr).cell? ⟨w.heap.size, 2, none⟩ = some (.slice none 0 0) := HS.out.bz.cell 2 _ rfl
        have y2 := HS.out.bz.free 2
        have HF := Lib.hid (HS.out.fill 0 0 (.slice none 0 0))
        clear HS HD2
        go_wp2_with fail
        exact ret_cell_tmp rfl rfl w.heap.size 0 rfl [.int .i64 0, .int .i64 0, .slice none 0 0] _ (zrangeR HF.out.1) Tryz.underlying25 rfl (by kernel_rfl) _ rfl ⟨_, by rw [HD5.out]; rfl, by rw [HD5.out]; exact OwnS.nil _ _, HF.out.2.2⟩
      have HD6 := Lib.hid (HD4.out.trans (if_neg hr))
      have t2 : decide ((0 : Int) < (rn : Int)) = false := by simp; omega
      have t2' : decide (0 < rn) = false := by simp; omega
      obtain ⟨xa, xc, rfl, _⟩ := HS.out.own.slice
      obtain ⟨xn, hxn⟩ : ∃ xn, xn = L.length := ⟨_, rfl⟩
      rw [← hxn] at HS
      clear hr HD4 hxn
      have c0 : (wr).cell? ⟨b8, 0, none⟩ = some (.int .i64 cc.1) := HS.out.bs.cell 0 _ rfl
      have c1 : (wr).cell? ⟨b8, 1, none⟩ = some (.int .i64 bb.1) := HS.out.bs.cell 1 _ rfl
      have c2 : (wr).cell? ⟨b8, 2, none⟩ = some (.slice xa xn xc) := HS.out.bs.cell 2 _ rfl
      go_wp2_with fail
      refine (refCheck_calls ⟨cc.1, bb.1, L⟩ _ wr HS.out.own.rd HOK.out).mono ?_
      rintro e7 w7 ⟨rfl, hb7⟩
      have HS7 := Lib.hid (HS.out.below hb7)
      clear hb7 HS k1 g0 c0 c1 c2 t1 t2 t2'
      obtain ⟨wr, hwr⟩ : ∃ wr, wr = w7 := ⟨_, rfl⟩
      rw [← hwr] at HS7 ⊢
      clear hwr
      have HS := HS7
      clear HS7
      have g2 : wr.cell? ⟨t, 2, none⟩ = some (.bool S.big) := HS.out.it.box.cell 2 _ rfl
      cases hbg : S.big
      rotate_left
      · have HD5 := Lib.hid (show D = (24, noSt) by rw [HD6.out, if_pos hbg])
        rw [hbg] at g2
        clear hbg HD6
        generalize (chkN (checkM ⟨cc.1, bb.1, L⟩)) = ck
        have z0 : (wr).cell? ⟨w.heap.size, 0, none⟩ = some (.int .i64 0) := HS.out.bz.cell 0 _ rfl
        have y0 := HS.out.bz.free 0
        have z1 : (wr).cell? ⟨w.heap.size, 1, none⟩ = some (.int .i64 0) := HS.out.bz.cell 1 _ rfl
        have y1 := HS.out.bz.free 1
        have z2 : (wr).cell? ⟨w.heap.size, 2, none⟩ = some (.slice none 0 0) := HS.out.bz.cell 2 _ rfl
        have y2 := HS.out.bz.free 2
        have HF := Lib.hid (HS.out.fill 0 0 (.slice none 0 0))
        clear HS HD2
        go_wp2_with fail
        exact ret_cell_tmp rfl rfl w.heap.size 0 rfl [.int .i64 0, .int .i64 0, .slice none 0 0] _ (zrangeR HF.out.1) Tryz.underlying25 rfl (by kernel_rfl) _ rfl ⟨_, by rw [HD5.out]; rfl, by rw [HD5.out]; exact OwnS.nil _ _, HF.out.2.2⟩
      rw [hbg] at g2
      cases hck : checkM ⟨cc.1, bb.1, L⟩ with
      | some m =>
        have HD5 := Lib.hid (show D = (24, noSt) by rw [HD6.out, if_neg (by rw [hbg]; decide), if_neg (by rw [hck]; intro h; cases h)])
        rw [show (chkN (some m)).1 = 24 from rfl, show (chkN (some m)).2 = m from rfl]
        clear hbg HD6 hck
        have z0 : (wr).cell? ⟨w.heap.size, 0, none⟩ = some (.int .i64 0) := HS.out.bz.cell 0 _ rfl
        have y0 := HS.out.bz.free 0
        have z1 : (wr).cell? ⟨w.heap.size, 1, none⟩ = some (.int .i64 0) := HS.out.bz.cell 1 _ rfl
        have y1 := HS.out.bz.free 1
        have z2 : (wr).cell? ⟨w.heap.size, 2, none⟩ = some (.slice none 0 0) := HS.out.bz.cell 2 _ rfl
        have y2 := HS.out.bz.free 2
        have HF := Lib.hid (HS.out.fill 0 0 (.slice none 0 0))
        clear HS HD2
        go_wp2_with fail
        exact ret_cell_tmp rfl rfl w.heap.size 0 rfl [.int .i64 0, .int .i64 0, .slice none 0 0] _ (zrangeR HF.out.1) Tryz.underlying25 rfl (by kernel_rfl) _ rfl ⟨_, by rw [HD5.out]; rfl, by rw [HD5.out]; exact OwnS.nil _ _, HF.out.2.2⟩
      | none =>
      have HD5 := Lib.hid (show D = (0, ⟨cc.1, bb.1, L⟩) by rw [HD6.out, if_neg (by rw [hbg]; decide), if_pos hck])
      rw [show (chkN none).1 = 0 from rfl, show (chkN none).2 = 0 from rfl]
      clear hbg HD6 hck
      have c0 : (wr).cell? ⟨b8, 0, none⟩ = some (.int .i64 cc.1) := HS.out.bs.cell 0 _ rfl
      have c1 : (wr).cell? ⟨b8, 1, none⟩ = some (.int .i64 bb.1) := HS.out.bs.cell 1 _ rfl
      have c2 : (wr).cell? ⟨b8, 2, none⟩ = some (.slice xa xn xc) := HS.out.bs.cell 2 _ rfl
      have z0 : (wr).cell? ⟨w.heap.size, 0, none⟩ = some (.int .i64 0) := HS.out.bz.cell 0 _ rfl
      have y0 := HS.out.bz.free 0
      have z1 : (wr).cell? ⟨w.heap.size, 1, none⟩ = some (.int .i64 0) := HS.out.bz.cell 1 _ rfl
      have y1 := HS.out.bz.free 1
      have z2 : (wr).cell? ⟨w.heap.size, 2, none⟩ = some (.slice none 0 0) := HS.out.bz.cell 2 _ rfl
      have y2 := HS.out.bz.free 2
      have HF := Lib.hid (HS.out.fill cc.1 bb.1 (.slice xa xn xc))
      clear HS HD2
      go_wp2_with fail
      exact ret_cell_tmp rfl rfl w.heap.size 0 rfl [.int .i64 cc.1, .int .i64 bb.1, .slice xa xn xc] _ (zrangeR HF.out.1) Tryz.underlying25 rfl (by kernel_rfl) _ rfl ⟨_, by rw [HD5.out]; rfl, by rw [HD5.out]; exact HF.out.2.1, HF.out.2.2⟩
  go_wp2_with fail
  clear t3 t4 t4'
  go_loopg [7] n (fun gk iv wr => ∃ (i : Nat) (v' x : Value), gk + i = n ∧ iv = .int .i64 (i : Int) ∧ RkSt w wr t b8 v' (rsTs i s).2 cc.1 bb.1 x (rsTs i s).1)
  case atStart => exact ⟨0, _, _, Nat.add_zero _, rfl, HS6.out⟩
  case round =>
    clear HS6 k1
    obtain ⟨i, v', x, hgk, rfl, hS⟩ := hrel
    have i0 : (0 : Int) ≤ (i : Int) := by omega
    have HGK := Lib.hid hgk
    have HLEN := Lib.hid (rsTs_len i s)
    have HOK := Lib.hid (rsTs_ok i s)
    have HSN := Lib.hid (rsTs_snoc i s)
    have HMO := Lib.hid (fun h1 h2 => @rsTs_more i n s h1 h2)
    obtain ⟨R, hR⟩ : ∃ R, R = rsTs i s := ⟨_, rfl⟩
    have HRR := Lib.hid hR
    rw [← hR] at hS HLEN HOK HSN HMO
    clear hR hgk
    obtain ⟨L, S⟩ := R
    simp only at hS HLEN HOK HSN HMO
    have HS := Lib.hid hS
    clear hS
    have k1 : wr.cell? ⟨t, 1, none⟩ = some (.int .i64 S.er) := HS.out.it.box.cell 1 _ rfl
    by_cases hi : i < n
    · have i1 : (i : Int) < (n : Int) := by omega
      by_cases he : S.er = 0
      rotate_left
      · have HD3 := Lib.hid (show D = finR S ⟨cc.1, bb.1, L⟩ by rw [HD2.out, HMO.out (by omega) he])
        have t0 : (S.er == 0) = false := by rw [beq_eq_false_iff_ne]; exact he
        clear hi HSN HMO HRR
        have HD5 := Lib.hid (show D = (S.er, noSt) by rw [HD3.out]; unfold finR; rw [if_neg he])
        have t1 : (S.er != 0) = true := by rw [bne_iff_ne]; exact he
        have t1' : (S.er == 0) = false := by rw [beq_eq_false_iff_ne]; exact he
        clear he HD3
        go_wp2_with fail
        clear k1 t1 t1'
        have hk1 := HS.out.it.box.cell 1 _ rfl
        have HK1 := Lib.hid hk1
        have HT0 := Lib.hid (And.intro HS.out.o1 HS.out.bel.size)
        clear hk1
        refine wp_region_held_drew (S := fun W => Mod (fun i => i = w.heap.size) wr W) (by kernel_rfl) (Mod.drew _ wr) (fun hHeld => ?_)
        refine wpAnyH_take (i := 0) (oi := ⟨some 59, _, _, _, _, _⟩) (v := ?_) rfl (by kernel_rfl) (by kernel_rfl) (by kernel_rfl) (fun _ _ _ h => h) (Or.inl ⟨by kernel_rfl, ?_⟩) (by assumption) ?_
        rotate_left 1
        · intro w' hw'; clear hw'; go_simp; try with_reducible rfl
        try simp only [Act.put, List.setIfInBounds_toArray, List.set_cons_zero, List.set_cons_succ]
        refine wpAnyH_take (i := 1) (oi := ⟨some 60, _, _, _, _, _⟩) (v := ?_) rfl (by kernel_rfl) (by kernel_rfl) (by kernel_rfl) (fun _ _ _ h => h) (Or.inl ⟨by kernel_rfl, ?_⟩) (by assumption) ?_
        rotate_left 1
        · intro w' hw'; clear hw'; go_simp; try with_reducible rfl
        try simp only [Act.put, List.setIfInBounds_toArray, List.set_cons_zero, List.set_cons_succ]
        refine wpAnyH_take (i := 2) (oi := ⟨some 61, _, _, _, _, _⟩) (v := ?_) rfl (by kernel_rfl) (by kernel_rfl) (by kernel_rfl) (fun _ _ _ h => h) (Or.inl ⟨by kernel_rfl, ?_⟩) (by assumption) ?_
        rotate_left 1
        · intro w' hw'; clear hw'; go_simp; try with_reducible rfl
        try simp only [Act.put, List.setIfInBounds_toArray, List.set_cons_zero, List.set_cons_succ]
        refine wpAnyH_take (i := 3) (oi := ⟨some 62, _, _, _, _, _⟩) (v := ?_) rfl (by kernel_rfl) (by kernel_rfl) (by kernel_rfl) (fun _ _ _ h => h) (Or.inl ⟨by kernel_rfl, ?_⟩) (by assumption) ?_
        rotate_left 1
        · intro w' hw'; clear hw'; go_simp; try with_reducible rfl
        try simp only [Act.put, List.setIfInBounds_toArray, List.set_cons_zero, List.set_cons_succ]
        refine wpAnyH_take (i := 4) (oi := ⟨some 63, _, _, _, _, _⟩) (v := ?_) rfl (by kernel_rfl) (by kernel_rfl) (by kernel_rfl) (fun _ _ _ h => h) (Or.inl ⟨by kernel_rfl, ?_⟩) (by assumption) ?_
        rotate_left 1
        · intro w' hw'; have u1 := modCell hw' HK1.out (fun e => by have h1 : t = w.heap.size := e; have := HT0.out.1; omega); clear hw'; go_simp; try with_reducible rfl
        try simp only [Act.put, List.setIfInBounds_toArray, List.set_cons_zero, List.set_cons_succ]
        refine wpAnyH_ready (rs := [5]) (by kernel_rfl) (by simp) (AllReadyH.cons (o := ⟨none, .store 25 (.tmp 2) (.tmp 59), _, _, _, none⟩) rfl (fun K hK => ?_) AllReadyH.nil)
        rw [if_pos (by kernel_rfl)]
        refine wp_store_kk 25 (.tmp 2) (.tmp 59) rfl w.heap.size 0 [.int .i64 0, .int .i64 0, .slice none 0 0] rfl rfl (show Box wr.drew w.heap.size #[.int .i64 0, .int .i64 0, .slice none 0 0] 25 from HS.out.bz).there3 (by kernel_rfl) (one3 _ _ _ _ _) ?_
        obtain ⟨hx9, hm9⟩ := (show Box wr.drew w.heap.size #[.int .i64 0, .int .i64 0, .slice none 0 0] 25 from HS.out.bz).set3 (.int .i64 0) (.int .i64 0) (.slice none 0 0)
        have hb9 := (HS.out.bel.drew).trans (hm9.below (B := w.heap.size) HT0.out.2 (fun i hi => Nat.le_of_eq hi.symm))
        refine hK.out _ _ (hHeld.trans hm9) (fun hHeld2 => ?_)
        have HF := Lib.hid (And.intro hx9 hb9)
        clear hK K hx9 hm9 hb9
        try simp only [Act.put]
        refine wpAnyH_take (i := 6) (oi := ⟨some 3, _, _, _, _, _⟩) (v := ?_) rfl (by kernel_rfl) (by kernel_rfl) (by kernel_rfl) (fun _ _ _ h => h) (Or.inl ⟨by kernel_rfl, ?_⟩) (by assumption) ?_
        rotate_left 1
        · intro w' hw'; clear hw'; go_simp; try with_reducible rfl
        try simp only [Act.put, List.setIfInBounds_toArray, List.set_cons_zero, List.set_cons_succ]
        refine wpAnyH_done (by kernel_rfl) ?_ _
        clear hHeld hHeld2 HS HK1 HD2
        generalize (World.setCells _ _ _ _) = w9 at HF ⊢
        go_wp2_with fail
        exact ret_cell_tmp rfl rfl w.heap.size 0 rfl [.int .i64 0, .int .i64 0, .slice none 0 0] _ (zrangeR HF.out.1) Tryz.underlying25 rfl (by kernel_rfl) _ rfl ⟨_, by rw [HD5.out]; rfl, by rw [HD5.out]; exact OwnS.nil _ _, HF.out.2⟩
      have t0 : (S.er == 0) = true := by rw [he]; rfl
      have HSN2 := Lib.hid (HSN.out he)
      have HI := Lib.hid hi
      clear hi he HSN HMO HRR
      go_wp2_with fail
      refine (refBorn_calls t v' S wr HS.out.it (fun k hk => by have := HS.out.ov k hk; have := HS.out.bel.size; omega)).mono ?_
      rintro e w7 ⟨rfl, ⟨v7, hk, hv7⟩, hm⟩
      have HS7 := Lib.hid (HS.out.step hk hv7 hm)
      obtain ⟨BR, hBR⟩ : ∃ BR, BR = bornR S := ⟨_, rfl⟩
      rw [← hBR] at HS7 HSN2 ⊢
      clear hk hv7 hm HS hBR k1 t0
      obtain ⟨bs, S'⟩ := BR
      simp only at HS7 HSN2 ⊢
      go_wp2_with ((with_reducible refine wpList_store_k ?S3a 61 (.tmp 8) (.tmp 47) ?S3b (w7.heap.size) (0) bs.cells.toList ?S3c bs.cells ?S3d (SesM.listS _) ?S3e ?S3f ?S3g ?S3h); (case S3b => rfl); (case S3a => rfl); (case S3c => rfl); (case S3d => rfl); (case S3e => exact thereZ _ _); (case S3f => kernel_rfl); (case S3g => exact SesM.oneS _))
      intro w8 hw8
      obtain ⟨hpx, hb8'⟩ := putZ hw8
      have HPX := Lib.hid hpx.rangeS
      have HS8 := Lib.hid (HS7.out.below hb8')
      obtain ⟨xa, xc, rfl, _⟩ := HS8.out.own.slice
      obtain ⟨xn, hxn⟩ : ∃ xn, xn = L.length := ⟨_, rfl⟩
      rw [← hxn] at HS8
      have c2 : w8.cell? ⟨b8, 2, none⟩ = some (.slice xa xn xc) := HS8.out.bs.cell 2 _ rfl
      clear hw8 hpx hb8' HS7 hxn
      go_wp2_with ((with_reducible refine wpList_load_k ?L4a 61 (.tmp 8) ?L4b (w7.heap.size) (0) ?L4c bs.cells.toList _ (HPX.out) Tryz.underlying61 ?L4d ?L4e ?L4f); (case L4b => rfl); (case L4a => rfl); (case L4c => rfl); (case L4d => rfl); (case L4e => kernel_rfl))
      intro cv hcv
      have ecv : cv = bs.cells := by rw [hcv.out]
      subst ecv
      clear hcv HPX
      go_wp2_with (refine wpList_buildSlice_s (op := ⟨some 51, _, _, _, _, _⟩) (by rfl) 23 1 #[(0, .tmp 50)] rfl #[(0, .agg bs.cells)] (by kernel_rfl) _ _ (buildS bs w8) ?_)
      intro w9 hw9
      have hb9 : Below w8.heap.size w8 w9 := by rw [hw9.out]; exact below_alloc _ _
      have HC9 := Lib.hid (show ∀ j u, bs.cells.toList[j]? = some u → w9.cell? ((⟨w8.heap.size, 0, none⟩ : Addr).add j) = some u by rw [hw9.out]; exact newCells w8 bs _)
      have HS9 := Lib.hid (HS8.out.below hb9)
      have HLK := Lib.hid (show L.length + 1 ≤ 1256584717458 by have := HLEN.out; have := HNN.out; have := HI.out; omega)
      clear hw9 hb9 HS8 c2
      go_wp2_with (at_builtin; refine appSes rfl _ _ rfl (b8 + 1) _ L rfl HS9.out.own ⟨w8.heap.size, 0, none⟩ 1 bs rfl HC9.out HLK.out (by have := HS9.out.bs.lt; omega) ?_)
      intro y wa hown' hg' _
      obtain ⟨ya, yc, rfl, _⟩ := hown'.slice
      obtain ⟨yn, hyn⟩ : ∃ yn, yn = (L ++ [bs]).length := ⟨_, rfl⟩
      rw [← hyn] at hown' ⊢
      clear hyn
      have HSA := Lib.hid (HS9.out.put hg' hown')
      have hbx : Box wa b8 #[.int .i64 cc.1, .int .i64 bb.1, .slice xa xn xc] 25 := HS9.out.bs.grown hg' (fun e => by have := (HS9.out.own.lt _ e).1; omega)
      have d2 : wa.cell? ⟨b8, 2, none⟩ = some (.slice xa xn xc) := hbx.cell 2 _ rfl
      have e2 := hbx.free 2
      clear hg' hown' HS9 HC9 hbx
      go_wp2_with fail
      go_roundg (n - (i + 1))
      case measure => have := HGK.out; have := HI.out; omega
      case rel => exact ⟨i + 1, _, _, by have := HGK.out; have := HI.out; omega, by go_num, by rw [HSN2.out]; exact HSA.out⟩
    have i1 : ¬ (i : Int) < (n : Int) := by omega
    have HD3 := Lib.hid (show D = finR S ⟨cc.1, bb.1, L⟩ by
      have : i = n := by have := HGK.out; omega
      rw [HD2.out, ← this, ← HRR.out])
    clear hi HSN HMO HRR
    by_cases he : S.er = 0
    rotate_left
    · have HD5 := Lib.hid (show D = (S.er, noSt) by rw [HD3.out]; unfold finR; rw [if_neg he])
      have t1 : (S.er != 0) = true := by rw [bne_iff_ne]; exact he
      have t1' : (S.er == 0) = false := by rw [beq_eq_false_iff_ne]; exact he
      clear he HD3
      go_wp2_with fail
      clear k1 t1 t1'
      have hk1 := HS.out.it.box.cell 1 _ rfl
      have HK1 := Lib.hid hk1
      have HT0 := Lib.hid (And.intro HS.out.o1 HS.out.bel.size)
      clear hk1
      refine wp_region_held_drew (S := fun W => Mod (fun i => i = w.heap.size) wr W) (by kernel_rfl) (Mod.drew _ wr) (fun hHeld => ?_)
      refine wpAnyH_take (i := 0) (oi := ⟨some 59, _, _, _, _, _⟩) (v := ?_) rfl (by kernel_rfl) (by kernel_rfl) (by kernel_rfl) (fun _ _ _ h => h) (Or.inl ⟨by kernel_rfl, ?_⟩) (by assumption) ?_
      rotate_left 1
      · intro w' hw'; clear hw'; go_simp; try with_reducible rfl
      try simp only [Act.put, List.setIfInBounds_toArray, List.set_cons_zero, List.set_cons_succ]
      refine wpAnyH_take (i := 1) (oi := ⟨some 60, _, _, _, _, _⟩) (v := ?_) rfl (by kernel_rfl) (by kernel_rfl) (by kernel_rfl) (fun _ _ _ h => h) (Or.inl ⟨by kernel_rfl, ?_⟩) (by assumption) ?_
      rotate_left 1
      · intro w' hw'; clear hw'; go_simp; try with_reducible rfl
      try simp only [Act.put, List.setIfInBounds_toArray, List.set_cons_zero, List.set_cons_succ]
      refine wpAnyH_take (i := 2) (oi := ⟨some 61, _, _, _, _, _⟩) (v := ?_) rfl (by kernel_rfl) (by kernel_rfl) (by kernel_rfl) (fun _ _ _ h => h) (Or.inl ⟨by kernel_rfl, ?_⟩) (by assumption) ?_
      rotate_left 1
      · intro w' hw'; clear hw'; go_simp; try with_reducible rfl
      try simp only [Act.put, List.setIfInBounds_toArray, List.set_cons_zero, List.set_cons_succ]
      refine wpAnyH_take (i := 3) (oi := ⟨some 62, _, _, _, _, _⟩) (v := ?_) rfl (by kernel_rfl) (by kernel_rfl) (by kernel_rfl) (fun _ _ _ h => h) (Or.inl ⟨by kernel_rfl, ?_⟩) (by assumption) ?_
      rotate_left 1
      · intro w' hw'; clear hw'; go_simp; try with_reducible rfl
      try simp only [Act.put, List.setIfInBounds_toArray, List.set_cons_zero, List.set_cons_succ]
      refine wpAnyH_take (i := 4) (oi := ⟨some 63, _, _, _, _, _⟩) (v := ?_) rfl (by kernel_rfl) (by kernel_rfl) (by kernel_rfl) (fun _ _ _ h => h) (Or.inl ⟨by kernel_rfl, ?_⟩) (by assumption) ?_
      rotate_left 1
      · intro w' hw'; have u1 := modCell hw' HK1.out (fun e => by have h1 : t = w.heap.size := e; have := HT0.out.1; omega); clear hw'; go_simp; try with_reducible rfl
      try simp only [Act.put, List.setIfInBounds_toArray, List.set_cons_zero, List.set_cons_succ]
      refine wpAnyH_ready (rs := [5]) (by kernel_rfl) (by simp) (AllReadyH.cons (o := ⟨none, .store 25 (.tmp 2) (.tmp 59), _, _, _, none⟩) rfl (fun K hK => ?_) AllReadyH.nil)
      rw [if_pos (by kernel_rfl)]
      refine wp_store_kk 25 (.tmp 2) (.tmp 59) rfl w.heap.size 0 [.int .i64 0, .int .i64 0, .slice none 0 0] rfl rfl (show Box wr.drew w.heap.size #[.int .i64 0, .int .i64 0, .slice none 0 0] 25 from HS.out.bz).there3 (by kernel_rfl) (one3 _ _ _ _ _) ?_
      obtain ⟨hx9, hm9⟩ := (show Box wr.drew w.heap.size #[.int .i64 0, .int .i64 0, .slice none 0 0] 25 from HS.out.bz).set3 (.int .i64 0) (.int .i64 0) (.slice none 0 0)
      have hb9 := (HS.out.bel.drew).trans (hm9.below (B := w.heap.size) HT0.out.2 (fun i hi => Nat.le_of_eq hi.symm))
      refine hK.out _ _ (hHeld.trans hm9) (fun hHeld2 => ?_)
      have HF := Lib.hid (And.intro hx9 hb9)
      clear hK K hx9 hm9 hb9
      try simp only [Act.put]
      refine wpAnyH_take (i := 6) (oi := ⟨some 3, _, _, _, _, _⟩) (v := ?_) rfl (by kernel_rfl) (by kernel_rfl) (by kernel_rfl) (fun _ _ _ h => h) (Or.inl ⟨by kernel_rfl, ?_⟩) (by assumption) ?_
      rotate_left 1
      · intro w' hw'; clear hw'; go_simp; try with_reducible rfl
      try simp only [Act.put, List.setIfInBounds_toArray, List.set_cons_zero, List.set_cons_succ]
      refine wpAnyH_done (by kernel_rfl) ?_ _
      clear hHeld hHeld2 HS HK1 HD2
      generalize (World.setCells _ _ _ _) = w9 at HF ⊢
      go_wp2_with fail
      exact ret_cell_tmp rfl rfl w.heap.size 0 rfl [.int .i64 0, .int .i64 0, .slice none 0 0] _ (zrangeR HF.out.1) Tryz.underlying25 rfl (by kernel_rfl) _ rfl ⟨_, by rw [HD5.out]; rfl, by rw [HD5.out]; exact OwnS.nil _ _, HF.out.2⟩
    have t1 : (S.er != 0) = false := by rw [he]; rfl
    have HD4 := Lib.hid (show D = (if 0 < S.rest.length then (3, noSt) else if S.big = true then (24, noSt) else if checkM ⟨cc.1, bb.1, L⟩ = none then (0, ⟨cc.1, bb.1, L⟩) else (24, noSt)) by rw [HD3.out]; unfold finR; rw [if_pos he])
    obtain ⟨ra, rc, hrv, _⟩ := HS.out.it.rd
    obtain ⟨rn, hrn⟩ : ∃ rn, rn = S.rest.length := ⟨_, rfl⟩
    rw [← hrn] at hrv HD4
    subst hrv
    have g0 : wr.cell? ⟨t, 0, none⟩ = some (.slice ra rn rc) := HS.out.it.box.cell 0 _ rfl
    clear he HD3 hrn
    by_cases hr : 0 < rn
    · have HD5 := Lib.hid (show D = (3, noSt) by rw [HD4.out, if_pos hr])
      have t2 : decide ((0 : Int) < (rn : Int)) = true := by simp; omega
      have t2' : decide (0 < rn) = true := by simp; omega
      clear hr HD4
      have z0 : (wr).cell? ⟨w.heap.size, 0, none⟩ = some (.int .i64 0) := HS.out.bz.cell 0 _ rfl
      have y0 := HS.out.bz.free 0
      have z1 : (wr).cell? ⟨w.heap.size, 1, none⟩ = some (.int .i64 0) := HS.out.bz.cell 1 _ rfl
      have y1 := HS.out.bz.free 1
      have z2 : (wr).cell? ⟨w.heap.size, 2, none⟩ = some (.slice none 0 0) := HS.out.bz.cell 2 _ rfl
      have y2 := HS.out.bz.free 2
      have HF := Lib.hid (HS.out.fill 0 0 (.slice none 0 0))
      clear HS HD2
      go_wp2_with fail
      exact ret_cell_tmp rfl rfl w.heap.size 0 rfl [.int .i64 0, .int .i64 0, .slice none 0 0] _ (zrangeR HF.out.1) Tryz.underlying25 rfl (by kernel_rfl) _ rfl ⟨_, by rw [HD5.out]; rfl, by rw [HD5.out]; exact OwnS.nil _ _, HF.out.2.2⟩
    have HD6 := Lib.hid (HD4.out.trans (if_neg hr))
    have t2 : decide ((0 : Int) < (rn : Int)) = false := by simp; omega
    have t2' : decide (0 < rn) = false := by simp; omega
    obtain ⟨xa, xc, rfl, _⟩ := HS.out.own.slice
    obtain ⟨xn, hxn⟩ : ∃ xn, xn = L.length := ⟨_, rfl⟩
    rw [← hxn] at HS
    clear hr HD4 hxn
    have c0 : (wr).cell? ⟨b8, 0, none⟩ = some (.int .i64 cc.1) := HS.out.bs.cell 0 _ rfl
    have c1 : (wr).cell? ⟨b8, 1, none⟩ = some (.int .i64 bb.1) := HS.out.bs.cell 1 _ rfl
    have c2 : (wr).cell? ⟨b8, 2, none⟩ = some (.slice xa xn xc) := HS.out.bs.cell 2 _ rfl
    go_wp2_with fail
    refine (refCheck_calls ⟨cc.1, bb.1, L⟩ _ wr HS.out.own.rd HOK.out).mono ?_
    rintro e7 w7 ⟨rfl, hb7⟩
    have HS7 := Lib.hid (HS.out.below hb7)
    clear hb7 HS k1 g0 c0 c1 c2 t1 t2 t2'
    obtain ⟨wr, hwr⟩ : ∃ wr, wr = w7 := ⟨_, rfl⟩
    rw [← hwr] at HS7 ⊢
    clear hwr
    have HS := HS7
    clear HS7
    have g2 : wr.cell? ⟨t, 2, none⟩ = some (.bool S.big) := HS.out.it.box.cell 2 _ rfl
    cases hbg : S.big
    rotate_left
    · have HD5 := Lib.hid (show D = (24, noSt) by rw [HD6.out, if_pos hbg])
      rw [hbg] at g2
      clear hbg HD6
      generalize (chkN (checkM ⟨cc.1, bb.1, L⟩)) = ck
      have z0 : (wr).cell? ⟨w.heap.size, 0, none⟩ = some (.int .i64 0) := HS.out.bz.cell 0 _ rfl
      have y0 := HS.out.bz.free 0
      have z1 : (wr).cell? ⟨w.heap.size, 1, none⟩ = some (.int .i64 0) := HS.out.bz.cell 1 _ rfl
      have y1 := HS.out.bz.free 1
      have z2 : (wr).cell? ⟨w.heap.size, 2, none⟩ = some (.slice none 0 0) := HS.out.bz.cell 2 _ rfl
      have y2 := HS.out.bz.free 2
      have HF := Lib.hid (HS.out.fill 0 0 (.slice none 0 0))
      clear HS HD2
      go_wp2_with fail
      exact ret_cell_tmp rfl rfl w.heap.size 0 rfl [.int .i64 0, .int .i64 0, .slice none 0 0] _ (zrangeR HF.out.1) Tryz.underlying25 rfl (by kernel_rfl) _ rfl ⟨_, by rw [HD5.out]; rfl, by rw [HD5.out]; exact OwnS.nil _ _, HF.out.2.2⟩
    rw [hbg] at g2
    cases hck : checkM ⟨cc.1, bb.1, L⟩ with
    | some m =>
      have HD5 := Lib.hid (show D = (24, noSt) by rw [HD6.out, if_neg (by rw [hbg]; decide), if_neg (by rw [hck]; intro h; cases h)])
      rw [show (chkN (some m)).1 = 24 from rfl, show (chkN (some m)).2 = m from rfl]
      clear hbg HD6 hck
      have z0 : (wr).cell? ⟨w.heap.size, 0, none⟩ = some (.int .i64 0) := HS.out.bz.cell 0 _ rfl
      have y0 := HS.out.bz.free 0
      have z1 : (wr).cell? ⟨w.heap.size, 1, none⟩ = some (.int .i64 0) := HS.out.bz.cell 1 _ rfl
      have y1 := HS.out.bz.free 1
      have z2 : (wr).cell? ⟨w.heap.size, 2, none⟩ = some (.slice none 0 0) := HS.out.bz.cell 2 _ rfl
      have y2 := HS.out.bz.free 2
      have HF := Lib.hid (HS.out.fill 0 0 (.slice none 0 0))
      clear HS HD2
      go_wp2_with fail
      exact ret_cell_tmp rfl rfl w.heap.size 0 rfl [.int .i64 0, .int .i64 0, .slice none 0 0] _ (zrangeR HF.out.1) Tryz.underlying25 rfl (by kernel_rfl) _ rfl ⟨_, by rw [HD5.out]; rfl, by rw [HD5.out]; exact OwnS.nil _ _, HF.out.2.2⟩
    | none =>
    have HD5 := Lib.hid (show D = (0, ⟨cc.1, bb.1, L⟩) by rw [HD6.out, if_neg (by rw [hbg]; decide), if_pos hck])
    rw [show (chkN none).1 = 0 from rfl, show (chkN none).2 = 0 from rfl]
    clear hbg HD6 hck
    have c0 : (wr).cell? ⟨b8, 0, none⟩ = some (.int .i64 cc.1) := HS.out.bs.cell 0 _ rfl
    have c1 : (wr).cell? ⟨b8, 1, none⟩ = some (.int .i64 bb.1) := HS.out.bs.cell 1 _ rfl
    have c2 : (wr).cell? ⟨b8, 2, none⟩ = some (.slice xa xn xc) := HS.out.bs.cell 2 _ rfl
    have z0 : (wr).cell? ⟨w.heap.size, 0, none⟩ = some (.int .i64 0) := HS.out.bz.cell 0 _ rfl
    have y0 := HS.out.bz.free 0
    have z1 : (wr).cell? ⟨w.heap.size, 1, none⟩ = some (.int .i64 0) := HS.out.bz.cell 1 _ rfl
    have y1 := HS.out.bz.free 1
    have z2 : (wr).cell? ⟨w.heap.size, 2, none⟩ = some (.slice none 0 0) := HS.out.bz.cell 2 _ rfl
    have y2 := HS.out.bz.free 2
    have HF := Lib.hid (HS.out.fill cc.1 bb.1 (.slice xa xn xc))
    clear HS HD2
    go_wp2_with fail
    exact ret_cell_tmp rfl rfl w.heap.size 0 rfl [.int .i64 cc.1, .int .i64 bb.1, .slice xa xn xc] _ (zrangeR HF.out.1) Tryz.underlying25 rfl (by kernel_rfl) _ rfl ⟨_, by rw [HD5.out]; rfl, by rw [HD5.out]; exact HF.out.2.1, HF.out.2.2⟩
end Go.Proofs.YtdaimaibnjkfbaaGreatDoor
/-
  The document's Decode.
-/
namespace Go.Proofs.YtdaimaibnjkfbaaGreatDoor
open Go.RowKit
set_option maxRecDepth 100000

def refDecM (l : List UInt8) : Int × EvtM :=
  let p := (⟨l, 0, 0, false⟩ : TkM).num
  if p.2.er = 0 then (if 2 < p.1 then (1, noEvt) else if p.1 = 0 then endM (bornR p.2).2 ⟨0, (bornR p.2).1, 0, 0⟩
    else if p.1 = 1 then endM p.2.rint.2 ⟨1, noSes, p.2.rint.1, 0⟩ else endM p.2.rint.2 ⟨2, noSes, 0, p.2.rint.1⟩) else (p.2.er, noEvt)
theorem bornR_len (s : TkM) : (bornR s).1.user.length ≤ 32 ∧ (bornR s).1.label.length ≤ 32 := ⟨TkM.txt_len _, TkM.txt_len _⟩
structure DkSt (w0 w : World) (t b2 : Nat) (v : Value) (s : TkM) : Prop where
  k : IsK w t v s
  bz : Box w b2 noEvt.cells 135
  bel : Below w0.heap.size w0 w
  n1 : b2 ≠ t
  g1 : w0.heap.size ≤ t
  g3 : w0.heap.size ≤ b2
  vl : ∀ b, v.ownBlock = some b → b < w0.heap.size
theorem DkSt.below {w0 w w' : World} {t b2 : Nat} {v : Value} {s : TkM} (h : DkSt w0 w t b2 v s) (hb : Below w.heap.size w w') : DkSt w0 w' t b2 v s :=
  ⟨h.k.below hb, h.bz.below hb, h.bel.trans (hb.mono h.bel.size), h.n1, h.g1, h.g3, h.vl⟩
theorem DkSt.step {w0 w w' : World} {t b2 : Nat} {v v' : Value} {s s' : TkM} (h : DkSt w0 w t b2 v s) (hk : IsK w' t v' s') (hv : v'.ownBlock = v.ownBlock) (hm : Mod (fun i => i = t) w w') : DkSt w0 w' t b2 v' s' :=
  ⟨hk, h.bz.mod hm h.n1, h.bel.trans (hm.below h.bel.size (fun _ hi => hi ▸ h.g1)), h.n1, h.g1, h.g3, fun b hb => h.vl b (hv ▸ hb)⟩
theorem DkSt.mod {w0 w w' : World} {t b2 eb : Nat} {v : Value} {s : TkM} (h : DkSt w0 w t b2 v s) (hm : Mod (fun i => i = eb) w w') (h1 : eb ≠ t) (h3 : eb ≠ b2) (h5 : w0.heap.size ≤ eb) : DkSt w0 w' t b2 v s :=
  ⟨h.k.mod hm (fun e => h1 e.symm) (fun b hb e => by have := h.vl b hb; omega), h.bz.mod hm (fun e => h3 e.symm), h.bel.trans (hm.below h.bel.size (fun _ hi => hi ▸ h5)), h.n1, h.g1, h.g3, h.vl⟩
theorem DkSt.out {w0 w : World} {t b2 : Nat} {v : Value} {s : TkM} (h : DkSt w0 w t b2 v s) (f : EvtM) : Box (w.setCells b2 0 f.cells.toList) b2 f.cells 135 ∧ Below w0.heap.size w0 (w.setCells b2 0 f.cells.toList) := by
  have hb := h.bz.setE f
  have hg := h.g3
  generalize f.cells.toList = L at hb ⊢
  have hm := Mod.setCells (fun k => k = b2) b2 rfl L 0 w
  exact ⟨hb, h.bel.trans (hm.below h.bel.size (fun _ hi => hi ▸ hg))⟩
theorem refTk0_calls (t : Nat) (v : Value) (w : World) (hb : Box w t #[v, .int .i64 0, .bool false] 53) (hv : Rd w v 0 []) :
    Calls Tryz.prog 13 #[.pointer (some ⟨t, 0, none⟩)] w fun e w' => e = .returned (.int .u64 0) ∧ w' = w.setCell ⟨t, 1, none⟩ (.int .i64 2) := by
  have Hc := Lib.hid (refNum_calls v [] w hv (by decide))
  change Hid (Calls _ _ _ _ fun e w' => e = .returned (.tuple #[.int .u64 0, .int .i64 0, .int .i64 2]) ∧ w' = w) at Hc
  obtain ⟨a, cap, rfl, _⟩ := hv
  have c0 := hb.cell 0 _ rfl
  have c1 := hb.cell 1 _ rfl
  have f1 := hb.free 1
  go_enter Tryz.func13, Tryz.ntmps13
  go_wp2_with fail
  refine Hc.out.mono ?_
  rintro e w1 ⟨rfl, rfl⟩
  go_wp2_with fail
  go_ret
  exact ⟨rfl, rfl⟩
end Go.Proofs.YtdaimaibnjkfbaaGreatDoor
/-
  The document's Decode and the program's tell the same.
-/
namespace Go.Proofs.YtdaimaibnjkfbaaGreatDoor
open Go.RowKit
set_option maxRecDepth 100000

theorem num_big (s : TkM) : s.num.2.big = s.big := by
  unfold TkM.num
  split
  · split <;> rfl
  · rfl
theorem txt_big (s : TkM) : s.txt.2.big = s.big := by
  unfold TkM.txt
  split
  · split <;> rfl
  · rfl
theorem int_eq {s : TkM} (h : s.int.2.big = false) : s.big = false ∧ s.rint.1 = s.int.1 := by
  have h2 : (s.num.2.big || !(decide (s.num.1 ≤ 9223372036854775807))) = false := h
  rw [num_big, Bool.or_eq_false_iff] at h2
  refine ⟨h2.1, ?_⟩
  have h3 : s.num.1 ≤ 9223372036854775807 := by simpa using h2.2
  show rAs s.num.1 = asInt s.num.1
  unfold rAs asInt
  rw [if_pos h3, if_pos h3]
theorem born_eq (s : TkM) (h : (bornM s).2.big = false) : bornR s = bornM s := by
  have h11 := int_eq (s := (((((((((((s).int.2).int.2).int.2).int.2).int.2).txt.2).txt.2).num.2).int.2).int.2).int.2) h
  have h10 := int_eq (s := ((((((((((s).int.2).int.2).int.2).int.2).int.2).txt.2).txt.2).num.2).int.2).int.2) h11.1
  have h9 := int_eq (s := (((((((((s).int.2).int.2).int.2).int.2).int.2).txt.2).txt.2).num.2).int.2) h10.1
  have h8 := int_eq (s := ((((((((s).int.2).int.2).int.2).int.2).int.2).txt.2).txt.2).num.2) h9.1
  have h7 : ((((((((s).int.2).int.2).int.2).int.2).int.2).txt.2).txt.2).big = false := by rw [← num_big]; exact h8.1
  have h6 : (((((((s).int.2).int.2).int.2).int.2).int.2).txt.2).big = false := by rw [← txt_big]; exact h7
  have h5 : ((((((s).int.2).int.2).int.2).int.2).int.2).big = false := by rw [← txt_big]; exact h6
  have h4 := int_eq (s := ((((s).int.2).int.2).int.2).int.2) h5
  have h3 := int_eq (s := (((s).int.2).int.2).int.2) h4.1
  have h2 := int_eq (s := ((s).int.2).int.2) h3.1
  have h1 := int_eq (s := (s).int.2) h2.1
  have h0 := int_eq (s := s) h1.1
  show ((⟨(s).rint.1, ((s).int.2).rint.1, (((s).int.2).int.2).rint.1, ((((s).int.2).int.2).int.2).rint.1, (((((s).int.2).int.2).int.2).int.2).rint.1, ((((((s).int.2).int.2).int.2).int.2).int.2).txt.1, (((((((s).int.2).int.2).int.2).int.2).int.2).txt.2).txt.1, ((((((((s).int.2).int.2).int.2).int.2).int.2).txt.2).txt.2).num.1, (((((((((s).int.2).int.2).int.2).int.2).int.2).txt.2).txt.2).num.2).rint.1, ((((((((((s).int.2).int.2).int.2).int.2).int.2).txt.2).txt.2).num.2).int.2).rint.1, (((((((((((s).int.2).int.2).int.2).int.2).int.2).txt.2).txt.2).num.2).int.2).int.2).rint.1, ((((((((((((s).int.2).int.2).int.2).int.2).int.2).txt.2).txt.2).num.2).int.2).int.2).int.2).rint.1⟩ : SesM), ((((((((((((s).int.2).int.2).int.2).int.2).int.2).txt.2).txt.2).num.2).int.2).int.2).int.2).int.2) = _
  rw [h0.2, h1.2, h2.2, h3.2, h4.2, h8.2, h9.2, h10.2, h11.2]
  rfl
theorem endM_big {s : TkM} (h : s.big = true) (e e' : EvtM) : endM s e = endM s e' := by
  unfold endM; rw [h]; rfl
theorem refDec_eq (l : List UInt8) : refDecM l = decM l := by
  unfold refDecM decM
  simp only
  generalize (TkM.num ⟨l, 0, 0, false⟩) = p
  have hi : ∀ f : Int → EvtM, endM p.2.rint.2 (f p.2.rint.1) = endM p.2.int.2 (f p.2.int.1) := fun f => by
    show endM p.2.int.2 _ = _
    cases hb : p.2.int.2.big
    · rw [(int_eq hb).2]
    · exact endM_big hb _ _
  have hbn : endM (bornR p.2).2 ⟨0, (bornR p.2).1, 0, 0⟩ = endM (bornM p.2).2 ⟨0, (bornM p.2).1, 0, 0⟩ := by
    cases hb : (bornM p.2).2.big
    · rw [born_eq _ hb]
    · show endM (bornM p.2).2 _ = _
      exact endM_big hb _ _
  rw [hbn, hi (fun n => ⟨1, noSes, n, 0⟩), hi (fun n => ⟨2, noSes, 0, n⟩)]
/-- The errors are few. -/
def Er (n : Int) : Prop := 0 ≤ n ∧ n ≤ 4
theorem numGo_er : ∀ (l : List UInt8) (i u : Nat), Er (numGo i u l).1
  | [], _, _ => by unfold numGo; exact ⟨by decide, by decide⟩
  | c :: l, i, u => by
    unfold numGo
    split
    · exact ⟨by show (0 : Int) ≤ 4; omega, by show (4 : Int) ≤ 4; omega⟩
    split
    · exact ⟨by show (0 : Int) ≤ 0; omega, by show (0 : Int) ≤ 4; omega⟩
    · exact numGo_er l _ _
theorem textR_er (l : List UInt8) : Er (textR l).1 := by
  unfold textR
  split
  · split
    · exact ⟨by show (0 : Int) ≤ 3; omega, by show (3 : Int) ≤ 4; omega⟩
    split
    · exact ⟨by show (0 : Int) ≤ 2; omega, by show (2 : Int) ≤ 4; omega⟩
    · exact ⟨by show (0 : Int) ≤ 0; omega, by show (0 : Int) ≤ 4; omega⟩
  · exact numGo_er _ _ _
theorem num_er {s : TkM} (h : Er s.er) : Er s.num.2.er := by
  unfold TkM.num
  split
  · split
    · exact ⟨by show (0 : Int) ≤ 0; omega, by show (0 : Int) ≤ 4; omega⟩
    · exact numGo_er _ _ _
  · exact h
theorem txt_er {s : TkM} (h : Er s.er) : Er s.txt.2.er := by
  unfold TkM.txt
  split
  · split
    · exact ⟨by show (0 : Int) ≤ 0; omega, by show (0 : Int) ≤ 4; omega⟩
    · exact textR_er _
  · exact h
theorem int_er {s : TkM} (h : Er s.er) : Er s.int.2.er := num_er h
theorem born_er {s : TkM} (h : Er s.er) : Er (bornM s).2.er := int_er (int_er (int_er (int_er (num_er (txt_er (txt_er (int_er (int_er (int_er (int_er (int_er h)))))))))))
theorem endM_er {s : TkM} (e : EvtM) (h : Er s.er) : Er (endM s e).1 := by
  unfold endM
  split
  · split
    · exact ⟨by show (0 : Int) ≤ 3; omega, by show (3 : Int) ≤ 4; omega⟩
    split
    · exact ⟨by show (0 : Int) ≤ 1; omega, by show (1 : Int) ≤ 4; omega⟩
    split
    · exact ⟨by show (0 : Int) ≤ 0; omega, by show (0 : Int) ≤ 4; omega⟩
    · exact ⟨by show (0 : Int) ≤ 1; omega, by show (1 : Int) ≤ 4; omega⟩
  · exact h
theorem decM_er (l : List UInt8) : Er (decM l).1 := by
  unfold decM
  simp only
  have hp : Er (TkM.num ⟨l, 0, 0, false⟩).2.er := num_er ⟨by show (0 : Int) ≤ 0; omega, by show (0 : Int) ≤ 4; omega⟩
  generalize (TkM.num ⟨l, 0, 0, false⟩) = p at hp ⊢
  split
  · split
    · exact ⟨by show (0 : Int) ≤ 1; omega, by show (1 : Int) ≤ 4; omega⟩
    split
    · exact endM_er _ (born_er hp)
    split
    · exact endM_er _ (int_er hp)
    · exact endM_er _ (int_er hp)
  · exact hp
end Go.Proofs.YtdaimaibnjkfbaaGreatDoor
/-
  The document's Decode of chapter 25 and the program's tell the same.
-/
namespace Go.Proofs.YtdaimaibnjkfbaaGreatDoor
open Go.RowKit
set_option maxRecDepth 100000

theorem int_er0 {s : TkM} (h : s.er ≠ 0) : s.int.2 = s := by
  show (⟨s.num.2.l, s.num.2.k, s.num.2.er, s.num.2.big || !(decide (s.num.1 ≤ 9223372036854775807))⟩ : TkM) = s
  rw [num_er0 h]
  cases s; simp
theorem txt_er0 {s : TkM} (h : s.er ≠ 0) : s.txt.2 = s := by unfold TkM.txt; rw [if_neg h]
theorem num_er2 {s : TkM} (h : s.er ≠ 0) : s.num.2 = s := by rw [num_er0 h]
theorem bornM_er {s : TkM} (h : s.er ≠ 0) : (bornM s).2 = s := by
  show (((((((((((s).int.2).int.2).int.2).int.2).int.2).txt.2).txt.2).num.2).int.2).int.2).int.2.int.2 = s
  simp only [int_er0 h, txt_er0 h, num_er2 h]
theorem born_two (s : TkM) : (bornR s).2 = (bornM s).2 := rfl
theorem sesTs_er {s : TkM} (h : s.er ≠ 0) : ∀ n, (sesTs n s).2 = s
  | 0 => rfl
  | n + 1 => by show (sesTs n (bornM s).2).2 = s; rw [bornM_er h]; exact sesTs_er h n
theorem rs_two : ∀ (n : Nat) (s : TkM), (rsTs n s).2 = (sesTs n s).2
  | 0, _ => rfl
  | n + 1, s => by
    by_cases h : s.er = 0
    · rw [rsTs, if_pos h]
      show (rsTs n (bornR s).2).2 = (sesTs n (bornM s).2).2
      rw [born_two, rs_two n]
    · rw [rsTs_er h, sesTs_er h]
theorem born_big {s : TkM} (h : (bornM s).2.big = false) : s.big = false := by
  have h11 := int_eq (s := (((((((((((s).int.2).int.2).int.2).int.2).int.2).txt.2).txt.2).num.2).int.2).int.2).int.2) h
  have h10 := int_eq (s := ((((((((((s).int.2).int.2).int.2).int.2).int.2).txt.2).txt.2).num.2).int.2).int.2) h11.1
  have h9 := int_eq (s := (((((((((s).int.2).int.2).int.2).int.2).int.2).txt.2).txt.2).num.2).int.2) h10.1
  have h8 := int_eq (s := ((((((((s).int.2).int.2).int.2).int.2).int.2).txt.2).txt.2).num.2) h9.1
  have h7 : ((((((((s).int.2).int.2).int.2).int.2).int.2).txt.2).txt.2).big = false := by rw [← num_big]; exact h8.1
  have h6 : (((((((s).int.2).int.2).int.2).int.2).int.2).txt.2).big = false := by rw [← txt_big]; exact h7
  have h5 : ((((((s).int.2).int.2).int.2).int.2).int.2).big = false := by rw [← txt_big]; exact h6
  have h4 := int_eq (s := ((((s).int.2).int.2).int.2).int.2) h5
  have h3 := int_eq (s := (((s).int.2).int.2).int.2) h4.1
  have h2 := int_eq (s := ((s).int.2).int.2) h3.1
  have h1 := int_eq (s := (s).int.2) h2.1
  exact (int_eq (s := s) h1.1).1
theorem ses_big : ∀ (n : Nat) {s : TkM}, (sesTs n s).2.big = false → s.big = false
  | 0, _, h => h
  | n + 1, _, h => born_big (ses_big n h)
theorem rs_one : ∀ (n : Nat) (s : TkM), (sesTs n s).2.er = 0 → (sesTs n s).2.big = false → (rsTs n s).1 = (sesTs n s).1
  | 0, _, _, _ => rfl
  | n + 1, s, he, hb => by
    by_cases h : s.er = 0
    · rw [rsTs, if_pos h]
      have h1 := born_eq s (ses_big n hb)
      show (bornR s).1 :: (rsTs n (bornR s).2).1 = (bornM s).1 :: (sesTs n (bornM s).2).1
      rw [h1, rs_one n _ he hb]
    · rw [sesTs_er h] at he; exact absurd he h
theorem fin_eq {S : TkM} {a b : StM} (h : S.er = 0 → S.big = false → a = b) : finR S a = finI S b := by
  unfold finR finI
  by_cases he : S.er = 0
  · rw [if_pos he, if_pos he]
    have hr : (0 < S.rest.length) = (S.k < S.l.length) := by
      unfold TkM.rest; rw [List.length_drop]; simp only [eq_iff_iff]; omega
    simp only [hr]
    by_cases hk : S.k < S.l.length
    · rw [if_pos hk, if_pos hk]
    · rw [if_neg hk, if_neg hk]
      by_cases hb : S.big = true
      · rw [if_pos hb, if_pos hb]
      · rw [if_neg hb, if_neg hb, h he (by simpa using hb)]
  · rw [if_neg he, if_neg he]
theorem refDecI_eq (l : List UInt8) : refDecI l = decI l := by
  unfold refDecI decI
  simp only
  generalize hs : (⟨l, 0, 0, false⟩ : TkM) = s
  show (if s.int.2.int.2.num.2.er = 0 ∧ 32 < s.int.2.int.2.num.1 then ((24 : Int), noSt) else finR (rsTs s.int.2.int.2.num.1 s.int.2.int.2.num.2).2 ⟨s.rint.1, s.int.2.rint.1, (rsTs s.int.2.int.2.num.1 s.int.2.int.2.num.2).1⟩) = _
  by_cases hc : s.int.2.int.2.num.2.er = 0 ∧ 32 < s.int.2.int.2.num.1
  · rw [if_pos hc, if_pos hc]
  · rw [if_neg hc, if_neg hc, rs_two]
    refine fin_eq fun he hb => ?_
    have h1 := ses_big _ hb
    rw [num_big] at h1
    have h2 := int_eq h1
    have h3 := int_eq h2.1
    rw [h2.2, h3.2, rs_one _ _ he hb]
theorem ses_er : ∀ (n : Nat) {s : TkM}, Er s.er → Er (sesTs n s).2.er
  | 0, _, h => h
  | n + 1, _, h => ses_er n (born_er h)
theorem decI_er (l : List UInt8) : 0 ≤ (decI l).1 ∧ (decI l).1 ≤ 24 := by
  unfold decI
  simp only
  generalize hs : (⟨l, 0, 0, false⟩ : TkM) = s
  have h0 : Er s.er := by rw [← hs]; exact ⟨by show (0 : Int) ≤ 0; omega, by show (0 : Int) ≤ 4; omega⟩
  have h1 := ses_er s.int.2.int.2.num.1 (num_er (int_er (int_er h0)))
  split
  · exact ⟨by show (0 : Int) ≤ 24; omega, by show (24 : Int) ≤ 24; omega⟩
  · unfold finI
    split
    · split
      · exact ⟨by show (0 : Int) ≤ 3; omega, by show (3 : Int) ≤ 24; omega⟩
      split
      · exact ⟨by show (0 : Int) ≤ 24; omega, by show (24 : Int) ≤ 24; omega⟩
      split
      · exact ⟨by show (0 : Int) ≤ 0; omega, by show (0 : Int) ≤ 24; omega⟩
      · exact ⟨by show (0 : Int) ≤ 24; omega, by show (24 : Int) ≤ 24; omega⟩
    · exact ⟨h1.1, Int.le_trans h1.2 (by decide)⟩
end Go.Proofs.YtdaimaibnjkfbaaGreatDoor
/-
  The walks of package lineagekit over lists of bytes.
-/
namespace Go.Proofs.YtdaimaibnjkfbaaGreatDoor
open Go.RowKit

/-- The marks behind a list. -/
def marksB : Nat → List Value
  | 0 => []
  | n + 1 => marksB n ++ [.int .u8 (markI 90 n)]
theorem marksB_length (n : Nat) : (marksB n).length = n := by induction n with | zero => rfl | succ n ih => simp [marksB, ih]

theorem marksB_get (n j : Nat) (h : j < n) : (marksB n).getD j undef = .int .u8 (markI 90 j) := by
  induction n with
  | zero => omega
  | succ n ih =>
    rw [marksB]
    by_cases hj : j < n
    · rw [List.getD, List.getElem?_append_left (by rw [marksB_length]; exact hj)]; exact ih hj
    · obtain rfl : j = n := by omega
      rw [List.getD, List.getElem?_append_right (by rw [marksB_length]; omega), marksB_length]; simp
set_option maxHeartbeats 400000 in
theorem fullB_calls (v : Value) (l : List UInt8) (w : World) (hv : Rd w v l.length (l.map V8)) (hn : l.length ≤ 140737488355000) :
    Calls Tryz.prog 16 #[v] w fun e w' => ∃ o, e = .returned o ∧ w'.ownsRow w.heap.size 5 1 o (l.length + 16) (l.map V8 ++ marksB 16) ∧ Below w.heap.size w w' := by
  obtain ⟨a, cap, rfl, hc1, hc2, _, hc⟩ := hv
  have Hc := Lib.hid hc
  clear hc
  go_enter Tryz.func16, Tryz.ntmps16
  go_wp2
  go_loopw [3, 4] (fun o i wr => ∃ k : Nat, k ≤ l.length ∧ i = .int .i64 k ∧ wr.ownsRow w.heap.size 5 1 o k ((l.map V8).take k) ∧ Below w.heap.size w wr) (fun _ i _ => l.length - (intOf i).toNat)
  case atStart => exact ⟨0, by omega, rfl, World.ownsRow_nil _ _ _ _, Below.refl _ _⟩
  case round =>
    obtain ⟨k, hk, rfl, hown, hb⟩ := hrel
    by_cases hlt : k < l.length
    · obtain ⟨b, off, rfl, hcell'⟩ := Hc.out k (by simpa using hlt)
      have hcell : wr.cell? ⟨b, off + k, none⟩ = some (.int .u8 (l[k].toNat : Int)) := below_heap hb (by rw [hcell']; simp [hlt, V8])
      clear hcell' Hc
      have hs := hb.size
      have htk := Lib.hid (show (l.map V8).take (k + 1) = (l.map V8).take k ++ [.int .u8 (l[k].toNat : Int)] from by rw [List.take_succ_eq_append_getElem (by simpa using hlt)]; simp [V8])
      go_wp2_with (at_builtin; refine appB rfl _ _ rfl w.heap.size _ _ _ rfl (hown.alloc _) ⟨wr.heap.size, 0, none⟩ 1 1 [.int .u8 (l[k].toNat : Int)] rfl rfl ?c1 ?c2 ?c3 ?c4 ?_)
      case c1 => exact cell_one_new _ _ _
      case c2 => simp [Value.oneCell']
      case c3 => omega
      case c4 => simp; omega
      intro v' w1 hown' hg' _
      have hb' := hb.trans ((below_alloc wr (.cells #[.int .u8 (l[k].toNat : Int)] 5)).mono hs)
      have hb1 := hb'.trans (below_grown hg' (by simp; omega) (fun q hq => (hown.lt q hq).1))
      clear hb' hg' hcell
      go_wp2
      go_roundw
      case rel => exact ⟨k + 1, by omega, by go_num, by rw [htk.out]; exact hown', hb1⟩
      case measure => simp [intOf]; omega
    · obtain rfl : k = l.length := by omega
      rw [List.take_of_length_le (by simp)] at hown
      clear Hc
      go_wp2
      obtain ⟨wo, rfl⟩ : ∃ wo : World, wo = wr := ⟨_, rfl⟩
      go_loopw [3, 5] (fun o i wr => ∃ k : Nat, k ≤ 16 ∧ i = .int .i64 k ∧ wr.ownsRow w.heap.size 5 1 o (l.length + k) (l.map V8 ++ marksB k) ∧ Below w.heap.size w wr) (fun _ i _ => 16 - (intOf i).toNat)
      case atStart => exact ⟨0, by omega, rfl, by simpa [marksB] using hown, hb⟩
      case round =>
        clear hown hb
        obtain ⟨k, hk, rfl, hown, hb⟩ := hrel
        have hs := hb.size
        by_cases hlt : k < 16
        · go_wp2_with fail
          refine (mark_calls 90 k _ (by omega) (by omega) (by omega) (by omega)).mono ?_
          rintro e w' ⟨rfl, rfl⟩
          go_wp2_with (at_builtin; refine appB rfl _ _ rfl w.heap.size _ _ _ rfl (hown.alloc _) ⟨wr.heap.size, 0, none⟩ 1 1 [.int .u8 (markI 90 k)] rfl rfl ?c1 ?c2 ?c3 ?c4 ?_)
          case c1 => exact cell_one_new _ _ _
          case c2 => simp [Value.oneCell']
          case c3 => omega
          case c4 => simp; omega
          intro v' w1 hown' hg' _
          have hb' := hb.trans ((below_alloc wr (.cells #[.int .u8 (markI 90 k)] 5)).mono hs)
          have hb1 := hb'.trans (below_grown hg' (by simp; omega) (fun q hq => (hown.lt q hq).1))
          clear hb' hg'
          go_wp2
          go_roundw
          case rel => exact ⟨k + 1, by omega, by go_num, by simpa [marksB, Nat.add_assoc] using hown', hb1⟩
          case measure => simp [intOf]; omega
        · obtain rfl : k = 16 := by omega
          go_wp2
          go_ret
          exact ⟨_, rfl, hown, hb⟩

/-- A list that was lent: it reads as the list, and behind it, in the same row, stand the marks. -/
def LentB (w : World) (base : Nat) (v : Value) (l : List UInt8) : Prop :=
  ∃ g cap, v = .slice (some ⟨g, 0, none⟩) l.length cap ∧ w.ownsRow base 5 1 (.slice (some ⟨g, 0, none⟩) (l.length + 16) cap) (l.length + 16) (l.map V8 ++ marksB 16)
theorem LentB.below {w w' : World} {base : Nat} {v : Value} {l : List UInt8} (h : LentB w base v l) (hb : Below w.heap.size w w') : LentB w' base v l := by
  obtain ⟨g, cap, rfl, h⟩ := h; exact ⟨g, cap, rfl, own_below h hb⟩
theorem LentB.full {w : World} {base : Nat} {v : Value} {l : List UInt8} (h : LentB w base v l) : ∃ g cap, v = .slice (some ⟨g, 0, none⟩) l.length cap ∧ l.length + 16 ≤ cap ∧ Rd w (.slice (some ⟨g, 0, none⟩) (l.length + 16) cap) (l.length + 16) (l.map V8 ++ marksB 16) := by
  obtain ⟨g, cap, rfl, h⟩ := h
  have hr := rd_of_own h
  have hr' := hr
  obtain ⟨_, _, e, h1, _⟩ := hr
  injection e with _ _ e; subst e
  exact ⟨g, cap, rfl, h1, hr'⟩
theorem LentB.rd {w : World} {base : Nat} {v : Value} {l : List UInt8} (h : LentB w base v l) : Rd w v l.length (l.map V8) := by
  obtain ⟨g, cap, rfl, h1, h2⟩ := h.full
  have := h2.cut (m := l.length) (by omega) l.length
  simpa [List.take_append_of_le_length] using this
theorem lentB_calls (v : Value) (l : List UInt8) (w : World) (hv : Rd w v l.length (l.map V8)) (hn : l.length ≤ 140737488355000) :
    Calls Tryz.prog 5 #[v] w fun e w' => ∃ o, e = .returned o ∧ LentB w' w.heap.size o l ∧ Below w.heap.size w w' := by
  have hv' := hv
  obtain ⟨a, cap, rfl, hc1, hc2, _, hc⟩ := hv
  clear hc
  go_enter Tryz.func5, Tryz.ntmps5
  go_wp2_with fail
  refine (fullB_calls _ l _ hv' hn).mono ?_
  rintro e w' ⟨o, rfl, hown, hb⟩
  rcases hown.2 with ⟨rfl, h0⟩ | ⟨g, cap', cur, rfl, hbg, hg, hn', hm, hs, ht⟩
  · omega
  · clear hg hs ht hv'
    unfold maxLen at hm
    go_wp2
    go_ret
    exact ⟨_, rfl, ⟨g, cap', rfl, hown⟩, hb⟩

set_option maxHeartbeats 400000 in
theorem keptFullB_calls (v v' : Value) (l : List UInt8) (w : World) (hv : Rd w v (l.length + 16) (l.map V8 ++ marksB 16)) (hv' : Rd w v' l.length (l.map V8)) (hn : l.length ≤ 140737488355000) :
    Calls Tryz.prog 26 #[v, v'] w fun e w' => e = .returned (.bool true) ∧ w = w' := by
  obtain ⟨a, cap, rfl, hc1, hc2, _, hc⟩ := hv
  obtain ⟨a', cap', rfl, hd1, hd2, _, hd⟩ := hv'
  have Hc := Lib.hid hc
  have Hd := Lib.hid hd
  clear hc hd
  go_enter Tryz.func26, Tryz.ntmps26
  go_wp2
  go_loop [5] (fun i => ∃ k : Nat, k ≤ l.length + 16 ∧ i = .int .i64 k) (fun i => l.length + 16 - (intOf i).toNat)
  case atStart => exact ⟨0, by omega, rfl⟩
  case round =>
    obtain ⟨k, hk, rfl⟩ := hrel
    by_cases hlt : k < l.length + 16
    · obtain ⟨b, off, rfl, hcell'⟩ := Hc.out k (by simp [marksB_length]; omega)
      by_cases hl : k < l.length
      · obtain ⟨b', off', rfl, hdell'⟩ := Hd.out k (by simpa using hl)
        have hcell : w.cell? ⟨b, off + k, none⟩ = some (.int .u8 (l[k].toNat : Int)) := by rw [hcell']; simp [hl, V8, List.getElem?_append_left]
        have hdell : w.cell? ⟨b', off' + k, none⟩ = some (.int .u8 (l[k].toNat : Int)) := by rw [hdell']; simp [hl, V8]
        clear hcell' hdell' Hc Hd
        go_wp2_with fail
        refine (mark_calls 90 _ _ (by omega) (by omega) (by omega) (by omega)).mono ?_
        rintro e w' ⟨rfl, rfl⟩
        go_wp2
        go_round
        case rel => exact ⟨k + 1, by omega, by go_num⟩
        case measure => simp [intOf]; omega
      · have hcell : w.cell? ⟨b, off + k, none⟩ = some (.int .u8 (markI 90 ((k : Int) - (l.length : Int)))) := by
          rw [hcell', List.getD, List.getElem?_append_right (by simp; omega)]
          have h := marksB_get 16 (k - l.length) (by omega)
          rw [List.getD] at h
          rw [List.length_map, h, show ((k - l.length : Nat) : Int) = (k : Int) - (l.length : Int) from by omega]
        clear hcell' Hc Hd
        go_wp2_with fail
        refine (mark_calls 90 _ _ (by omega) (by omega) (by omega) (by omega)).mono ?_
        rintro e w' ⟨rfl, rfl⟩
        go_wp2
        go_round
        case rel => exact ⟨k + 1, by omega, by go_num⟩
        case measure => simp [intOf]; omega
    · obtain rfl : k = l.length + 16 := by omega
      clear Hc Hd
      go_wp2
      go_ret
      exact ⟨rfl, rfl⟩
theorem keptB_calls (v v' : Value) (base : Nat) (l : List UInt8) (w : World) (hv : LentB w base v l) (hv' : Rd w v' l.length (l.map V8)) (hn : l.length ≤ 140737488355000) :
    Calls Tryz.prog 9 #[v, v'] w fun e w' => e = .returned (.bool true) ∧ w = w' := by
  obtain ⟨g, cap, rfl, hc, hr⟩ := hv.full
  have hr' := hv'
  obtain ⟨a', cap', rfl, hd1, hd2, _, hd⟩ := hv'
  clear hd hv
  go_enter Tryz.func9, Tryz.ntmps9
  go_wp2_with fail
  refine (keptFullB_calls _ _ l _ hr hr' hn).mono ?_
  rintro e w' ⟨rfl, rfl⟩
  go_wp2
  go_ret
  exact ⟨rfl, rfl⟩

/-- The marks as bytes. -/
def marksL : Nat → List UInt8
  | 0 => []
  | n + 1 => marksL n ++ [B8 (37 * (90 + 1) + (n : Int))]
theorem marksB_V8 (n : Nat) : marksB n = (marksL n).map V8 := by
  induction n with
  | zero => rfl
  | succ n ih => rw [marksB, marksL, List.map_append, ih]; simp only [List.map_cons, List.map_nil, V8_B8]; rfl
theorem marksL_length (n : Nat) : (marksL n).length = n := by induction n with | zero => rfl | succ n ih => simp [marksL, ih]
end Go.Proofs.YtdaimaibnjkfbaaGreatDoor
/-
  Lists that were handed out have memory of their own: the turns of an Apart over rows of elements of many cells, read.
-/
namespace Go.Proofs.YtdaimaibnjkfbaaGreatDoor
open Go.RowKit
set_option maxRecDepth 100000

theorem Turn1S.below {R : RowsS} {lsv : Value} {w0 : World} {k i : Nat} {w w' : World} (h : Turn1S R lsv w0 k i w) (hb : Below w.heap.size w w') : Turn1S R lsv w0 k i w' := by
  obtain ⟨⟨xs, h1, h2, h3⟩, h4, h5, h6, h7⟩ := h
  exact ⟨⟨xs, fun j hj => own_below (h1 j hj) hb, h2, h3⟩, h4, h5.below hb, h6, h7.then (Mod.of_below (F := fun _ => False) hb) (fun _ h => h.elim)⟩
theorem Turn1S.lsAt {R : RowsS} {lsv : Value} {w0 : World} {k i : Nat} {w : World} (h : Turn1S R lsv w0 k i w) (hk : k < R.N) :
    ∃ b off cap, lsv = .slice (some ⟨b, off, none⟩) R.N cap ∧ w.cell? ⟨b, off + k, none⟩ = some (R.vs k) := by
  obtain ⟨b, off, cap, h1, h2⟩ := h.ls.at k (by simpa using hk)
  exact ⟨b, off, cap, h1, by rw [h2]; simp [List.getD, hk]⟩
theorem Turn1S.slice {R : RowsS} {lsv : Value} {w0 : World} {k i : Nat} {w : World} (h : Turn1S R lsv w0 k i w) (hk : k < R.N) : ∃ a c, R.vs k = .slice a (R.ns k) c := by
  obtain ⟨⟨xs, h1, _⟩, _⟩ := h
  obtain ⟨a, c, e, _⟩ := own_slice (h1 k hk)
  exact ⟨a, c, e⟩
theorem Turn2S.at {R : RowsS} {lsv : Value} {w0 : World} {E : TypeId} {k i : Nat} {gsv g : Value} {gl : List Value} {w : World} (h : Turn2S R lsv w0 E k gsv gl g i w) (hk : k < R.N) :
    (∃ b off cap, lsv = .slice (some ⟨b, off, none⟩) R.N cap ∧ w.cell? ⟨b, off + k, none⟩ = some (R.vs k)) ∧ w.ownsRow R.B R.e R.sz g (R.ns k + i) (marksS R.mark k (R.ns k + i)) ∧ ∃ a c, R.vs k = .slice a (R.ns k) c := by
  obtain ⟨b, off, cap, h1, h2⟩ := h.ls.at k (by simpa using hk)
  obtain ⟨a, c, h3, _⟩ := h.rd k hk
  obtain ⟨gv, _, _, h4, _⟩ := h.own
  exact ⟨⟨b, off, cap, h1, by rw [h2]; simp [List.getD, hk]⟩, (h4 hk).2.1, a, c, h3⟩
theorem sz_lt {i n sz j : Nat} (hi : i < n) (hj : j < sz) : i * sz + j < n * sz := by
  have := Nat.mul_le_mul_right sz (show i + 1 ≤ n by omega)
  rw [Nat.succ_mul] at this
  omega
theorem Turn3S.at {R : RowsS} {lsv gsv : Value} {gl : List Value} {w : World} (h : Turn3S R lsv gsv gl w) (k : Nat) (hk : k < R.N) :
    (∃ b off cap, lsv = .slice (some ⟨b, off, none⟩) R.N cap ∧ w.cell? ⟨b, off + k, none⟩ = some (R.vs k)) ∧ (∃ a c, R.vs k = .slice a (R.ns k) c ∧ ∀ i, i < R.ns k → ∃ b off, a = some ⟨b, off, none⟩ ∧ ∀ j, j < R.sz → w.cell? ⟨b, off + i * R.sz + j, none⟩ = some ((R.mark k i).getD j undef)) ∧
    ∃ g, (∃ b off cap, gsv = .slice (some ⟨b, off, none⟩) R.N cap ∧ w.cell? ⟨b, off + k, none⟩ = some g) ∧ (∃ b off c, g = .slice (some ⟨b, off, none⟩) (R.ns k + 64) c ∧ ∀ i, i < R.ns k + 64 → ∀ j, j < R.sz → w.cell? ⟨b, off + i * R.sz + j, none⟩ = some ((R.mark k i).getD j undef)) := by
  obtain ⟨b, off, cap, h1, h2⟩ := h.ls.at k (by simpa using hk)
  obtain ⟨b', off', cap', h3, h4⟩ := h.gs.at k (by rw [h.len]; exact hk)
  obtain ⟨a, c, h5, _, _, _, h6⟩ := h.rd k hk
  have hz := R.hsz
  obtain ⟨b2, off2, c2, h7, _⟩ := (h.gd k hk).at 0 (by rw [marksS_length _ _ R.hmk]; have := sz_lt (i := 0) (n := R.ns k + 64) (sz := R.sz) (j := 0) (by omega) hz; omega)
  refine ⟨⟨b, off, cap, h1, by rw [h2]; simp [List.getD, hk]⟩, ⟨a, c, h5, fun i hi => ?_⟩, _, ⟨b', off', cap', h3, h4⟩, b2, off2, c2, h7, fun i hi j hj => ?_⟩
  · obtain ⟨b, off, e1, _⟩ := h6 (i * R.sz + 0) (by rw [marksS_length _ _ R.hmk]; exact sz_lt hi hz)
    refine ⟨b, off, e1, fun j hj => ?_⟩
    obtain ⟨b3, off3, e3, e2⟩ := h6 (i * R.sz + j) (by rw [marksS_length _ _ R.hmk]; exact sz_lt hi hj)
    rw [e1] at e3
    injection e3 with e3; injection e3 with e3 e4
    subst e3; subst e4
    rw [Nat.add_assoc, e2, marksS_get _ _ R.hmk _ _ _ _ hi hj]
  · obtain ⟨b3, off3, c3, h8, h9⟩ := (h.gd k hk).at (i * R.sz + j) (by rw [marksS_length _ _ R.hmk]; exact sz_lt hi hj)
    rw [h7] at h8
    injection h8 with h8; injection h8 with h8; injection h8 with e1 e2
    subst e1; subst e2
    rw [Nat.add_assoc, h9, marksS_get _ _ R.hmk _ _ _ _ hi hj]
end Go.Proofs.YtdaimaibnjkfbaaGreatDoor
/-
  Sessions and states that are lent, and kept.
-/
namespace Go.Proofs.YtdaimaibnjkfbaaGreatDoor
open Go.RowKit
set_option maxRecDepth 100000

theorem run_neqS (s t : SesM) (w : World) : (binOp .neq 61 (.agg s.cells) (.agg t.cells)).run Tryz.prog w = .ok (.bool (!(sameS s t))) w := by
  obtain ⟨r, hr⟩ : ∃ r, r = sameS s t := ⟨_, rfl⟩
  rw [← hr]
  unfold SesM.cells
  go_simp
  subst hr
  unfold sameS
  simp only [SB_toList]
  refine ite_step (fun b => Value.bool (!b)) bdec rfl ?_
  refine ite_step (fun b => Value.bool (!b)) bdec rfl ?_
  refine ite_step (fun b => Value.bool (!b)) bdec rfl ?_
  refine ite_step (fun b => Value.bool (!b)) bdec rfl ?_
  refine ite_step (fun b => Value.bool (!b)) bdec rfl ?_
  refine ite_step (fun b => Value.bool (!b)) bdec rfl ?_
  refine ite_step (fun b => Value.bool (!b)) bdec rfl ?_
  refine ite_step (fun b => Value.bool (!b)) bdec rfl ?_
  refine ite_step (fun b => Value.bool (!b)) bdec rfl ?_
  refine ite_step (fun b => Value.bool (!b)) bdec rfl ?_
  refine ite_step (fun b => Value.bool (!b)) bdec rfl ?_
  exact ite_last (fun b => Value.bool (!b)) bdec rfl rfl
theorem Box.setAllS {w : World} {b : Nat} {cs : Array Value} {t : TypeId} (h : Box w b cs t) (hs : cs.size = 12) (s : SesM) : Box (w.setCells b 0 s.cells.toList) b s.cells t ∧ w.there b 0 s.cells.toList.length := by
  constructor
  · obtain ⟨cs', h1, h2, h3, _⟩ := Box.setCells s.cells.toList 0 h (by show 0 + 12 ≤ cs.size; omega)
    have e1 : cs' = s.cells := by
      apply Array.ext_getElem?
      intro j
      by_cases hj : j < 12
      · have := h3 j _ (List.getElem?_eq_getElem (show j < s.cells.toList.length from hj))
        rw [Nat.zero_add] at this
        rw [this, ← Array.getElem?_toList, List.getElem?_eq_getElem (show j < s.cells.toList.length from hj)]
      · rw [Array.getElem?_eq_none (by omega), Array.getElem?_eq_none (by show 12 ≤ j; omega)]
    rw [e1] at h1
    exact h1
  · intro j hj
    have hj : j < 12 := hj
    obtain ⟨v, hv⟩ : ∃ v, cs[j]? = some v := ⟨_, Array.getElem?_eq_getElem (by omega)⟩
    rw [Nat.zero_add]
    exact ⟨by rw [h.cell _ v hv]; rfl, h.free _⟩
/-- The mark of a place. -/
def markS (k i : Int) : SesM := ⟨0, -7 - k, 0, 0, 0, [], markT k i, 0, 0, 0, 0, 0⟩
theorem markS_cells (k i : Int) : (markS k i).cells = #[.int .i64 0, .int .i64 (-7 - k), .int .i64 0, .int .i64 0, .int .i64 0, .string ⟨#[]⟩, .string (SB (markT k i)), .int .u64 0, .int .i64 0, .int .i64 0, .int .i64 0, .int .i64 0] := rfl
set_option maxHeartbeats 1600000 in
theorem markS_calls (k i : Int) (w : World) (h0 : 0 ≤ k) (h1 : k ≤ 1000000000) :
    Calls Tryz.prog 56 #[.int .i64 k, .int .i64 i] w fun e w' => e = .returned (.agg (markS k i).cells) ∧ Below w.heap.size w w' := by
  have HMT := Lib.hid (fun w => markText_calls k i w)
  have HX := Lib.hid (Box.new w #[.int .i64 0, .int .i64 0, .int .i64 0, .int .i64 0, .int .i64 0, .string ⟨#[]⟩, .string ⟨#[]⟩, .int .u64 0, .int .i64 0, .int .i64 0, .int .i64 0, .int .i64 0] 61)
  have HB := Lib.hid (below_alloc w (.cells #[.int .i64 0, .int .i64 0, .int .i64 0, .int .i64 0, .int .i64 0, .string ⟨#[]⟩, .string ⟨#[]⟩, .int .u64 0, .int .i64 0, .int .i64 0, .int .i64 0, .int .i64 0] 61))
  have hz : IntKind.i64.wrap (-7 - k) = -7 - k := by simp [IntKind.wrap, IntKind.bits, IntKind.signed]; omega
  have HMC := Lib.hid (markS_cells k i)
  go_enter Tryz.func56, Tryz.ntmps56
  go_wp2_with fail
  refine (HMT.out _).mono ?_
  rintro e w1 ⟨rfl, hb1⟩
  have hx1 := HX.out.below hb1
  have HB1 := Lib.hid (HB.out.trans (hb1.mono HB.out.size))
  obtain ⟨hset, hth⟩ := hx1.setAllS rfl (markS k i)
  have HTH := Lib.hid hth
  have HSE := Lib.hid hset
  have HLE := Lib.hid (show w.heap.size ≤ w.heap.size from Nat.le_refl _)
  clear hb1 hx1 HX HB HMT hset hth
  go_wp2_with ((with_reducible refine wpList_store_k ?a0 61 (.tmp 4) (.tmp 10) ?a1 w.heap.size 0 (markS k i).cells.toList ?a2 (markS k i).cells ?a3 (SesM.listS _) HTH.out ?a6 ?a7 ?a8); (case a1 => rfl); (case a0 => rfl); (case a2 => rfl); (case a3 => rfl); (case a6 => kernel_rfl); (case a7 => exact SesM.oneS _))
  intro w2 hw2
  rw [← hw2.out] at HSE
  have HB2 := Lib.hid (show Below w.heap.size w w2 by
    rw [hw2.out]
    generalize (markS k i).cells.toList = L
    exact HB1.out.trans ((Mod.setCells (fun q => q = w.heap.size) w.heap.size rfl L 0 w1).below HB1.out.size (fun i hi => Nat.le_of_eq hi.symm)))
  clear hw2 HTH HB1
  go_wp2_with fail
  exact ret_cell rfl rfl w.heap.size 0 rfl (markS k i).cells.toList _ (Box.rangeS HSE.out) Tryz.underlying61 rfl (by kernel_rfl) ⟨rfl, HB2.out⟩
def mksS (n : Nat) : List SesM := (List.range n).map (fun i : Nat => markS 90 (i : Int))
theorem mksS_length (n : Nat) : (mksS n).length = n := by simp [mksS]
theorem mksS_succ (n : Nat) : mksS (n + 1) = mksS n ++ [markS 90 n] := by simp [mksS, List.range_succ]
theorem mksS_get (n j : Nat) (h : j < (mksS n).length) : (mksS n)[j] = markS 90 j := by simp [mksS]
/-- A list of sessions that is lent: in its spare room stand marks. -/
def LentS (w : World) (base : Nat) (v : Value) (l : List SesM) : Prop := ∃ a cap, v = .slice a l.length cap ∧ OwnS w base (.slice a (l.length + 16) cap) (l ++ mksS 16)
theorem LentS.below {w w' : World} {base : Nat} {v : Value} {l : List SesM} (h : LentS w base v l) (hb : Below w.heap.size w w') : LentS w' base v l := by
  obtain ⟨a, cap, h1, h2⟩ := h; exact ⟨a, cap, h1, h2.below hb⟩
theorem full_len (l : List SesM) : (l ++ mksS 16).length = l.length + 16 := by rw [List.length_append, mksS_length]
theorem LentS.rd {w : World} {base : Nat} {v : Value} {l : List SesM} (h : LentS w base v l) : RdS w v l := by
  obtain ⟨a, cap, rfl, h2⟩ := h
  have h3 := h2.rd
  rw [← full_len] at h3
  have := h3.cut l.length (by rw [full_len]; omega)
  rw [List.take_left] at this
  exact this
theorem LentS.mod {w w' : World} {base : Nat} {v : Value} {l : List SesM} {F : Nat → Prop} (h : LentS w base v l) (hm : Mod F w w') (hb : ∀ k, v.ownBlock = some k → ¬ F k) : LentS w' base v l := by
  obtain ⟨a, cap, rfl, h2⟩ := h; exact ⟨a, cap, rfl, h2.mod hm (fun k hk => hb k (by cases a <;> exact hk))⟩
theorem wpQuiet_load_k {P : Program} {ops : Array Oper} {rest : List Oper} {op : Oper} {a : Act} {C : World → Prop} {Q : Act → Prop} (hw : Region.wanted op (yielded ops a.tmps) = true) (ty : TypeId) (x : Operand) (ho : op.op = .load ty x)
    (b o : Nat) (hx : a.eval x = .pointer (some ⟨b, o, none⟩)) (cs : List Value) (d : TypeDesc) (hc : ∀ w, C w → w.rangeAt b o cs)
    (hu : P.underlying ty = some d) (hd : d.isRow = true) (hi : (P.info? ty).map (·.size) = some cs.length)
    (h : ∀ c, Hid (c = cs.toArray) → wpQuiet P ops C Q rest (a.put op.dst (.agg c))) : wpQuiet P ops C Q (op :: rest) a := by
  unfold wpQuiet
  rw [if_pos hw]
  refine ⟨.agg cs.toArray, fun w hC => ?_, h _ (Lib.hid rfl)⟩
  unfold Oper.quietAt execOp
  simp only [ho, hx, Instr.loadAt, Instr.sureAddr, Sem.run_bind, Sem.run_pure, Result.andThen_ok, run_loadVar_mid w b o ty cs d (hc w hC) hu hd hi]
  exact ⟨rfl, rfl⟩
end Go.Proofs.YtdaimaibnjkfbaaGreatDoor
/-
  Operations of regions that draw their order: a session is loaded, a slice of one is made, it is appended; slices.Clone of sessions.
-/
namespace Go.Proofs.YtdaimaibnjkfbaaGreatDoor
open Go.RowKit
set_option maxRecDepth 100000

theorem exec_load_m {P : Program} {a : Act} {w : World} {op : Oper} (ty : TypeId) (x : Operand) (ho : op.op = .load ty x)
    (b o : Nat) (hx : a.eval x = .pointer (some ⟨b, o, none⟩)) (cs : List Value) (d : TypeDesc) (hc : w.rangeAt b o cs)
    (hu : P.underlying ty = some d) (hd : d.isRow = true) (hi : (P.info? ty).map (·.size) = some cs.length) : (execOp a.eval op).run P w = .ok (.value (.agg cs.toArray)) w := by
  unfold execOp
  simp only [ho, hx, Instr.loadAt, Instr.sureAddr, Sem.run_bind, Sem.run_pure, Result.andThen_ok, run_loadVar_mid w b o ty cs d hc hu hd hi]
theorem wp_buildSes {op : Oper} {a : Act} {w : World} {K : Act → World → Prop} {Q : Exit → Act → World → Prop} (x : Operand) (ho : op.op = .buildSlice 23 1 #[(0, x)]) (s : SesM) (hx : a.eval x = .agg s.cells)
    (h : K (a.put op.dst (.slice (some ⟨w.heap.size, 0, none⟩) 1 1)) (w.alloc (.cells s.cells 61))) : op.wp Tryz.prog a w K Q := by
  have hr := buildS s w
  unfold Oper.wp execOp
  simp only [ho, Sem.run_bind, List.map_toArray, List.map_cons, List.map_nil, hx, hr, Result.andThen_ok, Sem.run_pure]
  exact h
theorem wp_appSes {op : Oper} {a : Act} {w : World} {K : Act → World → Prop} {Q : Exit → Act → World → Prop} (s x : Operand)
    (ho : op.op = .call { callee := .builtin .append, args := #[s, x], argTypes := #[23, 23] })
    (base : Nat) (v : Value) (l : List SesM) (hs : a.eval s = v) (hown : OwnS w base v l)
    (ad : Addr) (c : Nat) (y : SesM) (hx : a.eval x = .slice (some ad) 1 c) (hy : ∀ j u, y.cells.toList[j]? = some u → w.cell? (ad.add j) = some u)
    (hroom : l.length + 1 ≤ 1256584717458) (hbase : base ≤ w.heap.size)
    (h : ∀ v' w', OwnS w' base v' (l ++ [y]) → w.grownBy w' v.ownBlock → Moved w v v' → K (a.put op.dst v') w') : op.wp Tryz.prog a w K Q := by
  obtain ⟨i0, hi, hz0, hz1, hz2⟩ := info_parts info_ses
  obtain ⟨v', w', hr, h2, h3, h4⟩ := run_append_own2 (P := Tryz.prog) w base 23 op.type 61 i0 _ 12 112 Tryz.underlying23 hi hz0 hz1 hz2 rfl (by decide) v l.length (flatS l) hown ad 1 c y.cells.toList rfl hy y.oneS (by unfold maxLen; omega) (by omega) hbase
  unfold Oper.wp execOp
  simp only [ho, resolve, invoke, builtin, Sem.run_bind, Sem.run_pure, Result.andThen_ok, List.map_toArray, List.map_cons, List.map_nil, hs, hx, hr]
  refine h v' w' ?_ h3 h4
  unfold OwnS
  rw [flatS_append, flatS_one, List.length_append]; exact h2
theorem flatS_one' (l : List SesM) : ∀ u ∈ flatS l, u.oneCell' = true := by
  intro u hu
  unfold flatS at hu
  obtain ⟨s, _, hs⟩ := List.mem_flatMap.1 hu
  exact s.oneS u hs
theorem RdS.news {w : World} {a : Addr} {n cap : Nat} {l : List SesM} (h : RdS w (.slice (some a) n cap) l) : ∀ j u, (flatS l)[j]? = some u → w.cell? (a.add j) = some u := by
  obtain ⟨a', cap', e, _, _, _, h4⟩ := h
  injection e with e1 e2 e3
  intro j u hu
  obtain ⟨hj, hu'⟩ := List.getElem?_eq_some_iff.1 hu
  obtain ⟨b, off, e4, h5⟩ := h4 j hj
  rw [← e1] at e4
  injection e4 with e4
  subst e4
  rw [Go.WideShapes.add_plain, h5, List.getD, hu]; rfl
end Go.Proofs.YtdaimaibnjkfbaaGreatDoor
/-
  Regions that draw their order and end in a store that hits what was loaded: till that store a condition holds of the world, behind it none is asked.
-/
namespace Go.Proofs.YtdaimaibnjkfbaaGreatDoor
open Go.RowKit

section
variable {P : Program} {ops : Array Oper} {Q : Exit → Act → World → Prop} {md : Region.Mode} {F : World → Prop} {t : Nat}

/-- Whatever order is picked from here on, and F holds behind every operation that is carried out, but for number t. -/
def wpAnyL (P : Program) (md : Region.Mode) (ops : Array Oper) (Q : Exit → Act → World → Prop) (F : World → Prop) (t : Nat) : Nat → Array Bool → Act → World → Prop
  | 0, listed, a, w => Region.ready md ops listed = [] ∧ Q .normal a w
  | fuel + 1, listed, a, w =>
    (Region.ready md ops listed = [] → Q .normal a w) ∧
    ∀ i ∈ Region.ready md ops listed, wpOp P ops Q i (fun a' w' => (i = t ∨ F w') ∧ wpAnyL P md ops Q F t fuel (listed.setIfInBounds i true) a' w') a w
theorem wpAny_of_last : ∀ (fuel : Nat) (listed : Array Bool) (a : Act) (w : World), wpAnyL P md ops Q F t fuel listed a w → wpAny P md ops Q fuel listed a w
  | 0, _, _, _, h => h
  | fuel + 1, _, _, _, h => ⟨h.1, fun i hi => wpOp_mono (fun a' w' h' => wpAny_of_last fuel _ a' w' h'.2) (h.2 i hi)⟩
/-- Does number t wait for number i? -/
def waitsFor (md : Region.Mode) (ops : Array Oper) (t i : Nat) : Bool := match ops[t]? with
  | some o => o.after.toList.any (fun e => Region.binds md e && e.on == i)
  | none => false
theorem waits_spec {i : Nat} (h : waitsFor md ops t i = true) {listed : Array Bool} (hi : i ∈ Region.ready md ops listed) : t ∉ Region.ready md ops listed := fun ht => by
  obtain ⟨_, ot, hot, hall⟩ := mem_ready.1 ht
  unfold waitsFor at h
  rw [hot] at h
  obtain ⟨e, he, h2⟩ := List.any_eq_true.1 h
  rw [Bool.and_eq_true, beq_iff_eq] at h2
  have h1 := hall e (Array.mem_toList_iff.1 he) h2.1
  have h0 := (mem_ready.1 hi).1
  rw [h2.2] at h1
  rcases Nat.lt_or_ge i listed.size with h' | h'
  · simp [h'] at h0 h1; rw [h0] at h1; cases h1
  · simp [Array.getElem?_eq_none h'] at h1
theorem wpAnyL_first {i : Nat} {oi : Oper} {v : Value} (hi : ops[i]? = some oi) (hsel : ∀ (j : Nat) (o : Oper) cs b, ops[j]? = some o → o.op ≠ .select cs b)
    (hQ : ∀ c a w, Q (.panic c) (a.put oi.dst v) w → Q (.panic c) a w) (hwt : waitsFor md ops t i = true) :
    ∀ (fuel : Nat) (listed : Array Bool) (a : Act) (w : World),
      (∀ j oj, ops[j]? = some oj → j ≠ i → listed.getD j true = false → (∀ e ∈ oj.after, Region.binds md e = true → e.on ≠ i) → oi.apart ops oj = true) →
      i ∈ Region.ready md ops listed → YieldsIf P ops F oi v a → F w →
      wpAnyL P md ops Q F t fuel (listed.setIfInBounds i true) (a.put oi.dst v) w → wpAnyL P md ops Q F t (fuel + 1) listed a w := by
  intro fuel
  induction fuel with
  | zero =>
    intro listed a w _ hr hy hS H
    refine ⟨fun h => (by rw [h] at hr; cases hr), fun j hj => ?_⟩
    by_cases hji : j = i
    · subst hji; exact hy.wpOp hi hS ⟨.inr hS, H⟩
    · have := ready_mono hj hji
      rw [H.1] at this
      cases this
  | succ fuel ih =>
    intro listed a w hfree hr hy hS H
    refine ⟨fun h => (by rw [h] at hr; cases hr), fun j hj => ?_⟩
    by_cases hji : j = i
    · subst hji; exact hy.wpOp hi hS ⟨.inr hS, H⟩
    · have hjt : j ≠ t := fun e => waits_spec hwt hr (e ▸ hj)
      have h1 := H.2 j (ready_mono hj hji)
      obtain ⟨hjun, oj, hoj, hall⟩ := mem_ready.1 hj
      have hnot : ∀ e ∈ oj.after, Region.binds md e = true → e.on ≠ i := fun e he hb heq => by
        have h1 := hall e he hb
        have h0 := (mem_ready.1 hr).1
        rw [heq] at h1
        rcases Nat.lt_or_ge i listed.size with h' | h'
        · simp [h'] at h0 h1; rw [h0] at h1; cases h1
        · simp [Array.getElem?_eq_none h'] at h1
      have h2 := wpOp_putIf hoj (hfree j oj hoj hji hjun hnot) (fun cs b => hsel i oi cs b hi) (fun cs b => hsel j oj cs b hoj) hQ hy h1
      have hfree' : ∀ k ok, ops[k]? = some ok → k ≠ i → (listed.setIfInBounds j true).getD k true = false →
          (∀ e ∈ ok.after, Region.binds md e = true → e.on ≠ i) → oi.apart ops ok = true := fun k ok hk hki hun hno => by
        refine hfree k ok hk hki ?_ hno
        by_cases hjk : j = k
        · subst hjk; exact hjun
        · rw [getD_set_ne true hjk] at hun; exact hun
      refine wpOp_mono (fun a' w' h3 => ?_) h2
      have hF : F w' := h3.2.1.resolve_left hjt
      refine ⟨.inr hF, ih (listed.setIfInBounds j true) a' w' hfree' (ready_mono hr (Ne.symm hji)) h3.1 hF ?_⟩
      rw [Array.setIfInBounds_comm _ _ hji]
      exact h3.2.2
theorem wpAnyL_take {i : Nat} {oi : Oper} {v : Value} {fuel : Nat} {listed : Array Bool} {a : Act} {w : World} (hi : ops[i]? = some oi)
    (hs : Region.noSelect ops = true) (hf : Region.free md ops listed i = true) (hr : (Region.ready md ops listed).contains i = true) (hwt : waitsFor md ops t i = true)
    (hQ : ∀ c a w, Q (.panic c) (a.put oi.dst v) w → Q (.panic c) a w) (hy : YieldsIf P ops F oi v a) (hS : F w)
    (h : wpAnyL P md ops Q F t fuel (listed.setIfInBounds i true) (a.put oi.dst v) w) : wpAnyL P md ops Q F t (fuel + 1) listed a w :=
  wpAnyL_first hi (Region.noSelect_spec hs) hQ hwt fuel listed a w (Region.free_spec hi hf) (by simpa using hr) hy hS h
def AllReadyL (P : Program) (md : Region.Mode) (ops : Array Oper) (Q : Exit → Act → World → Prop) (F : World → Prop) (t : Nat) (fuel : Nat) (listed : Array Bool) (a : Act) (w : World) (rs : List Nat) : Prop :=
  ∀ i ∈ rs, wpOp P ops Q i (fun a' w' => (i = t ∨ F w') ∧ wpAnyL P md ops Q F t fuel (listed.setIfInBounds i true) a' w') a w
theorem AllReadyL.nil {fuel : Nat} {listed : Array Bool} {a : Act} {w : World} : AllReadyL P md ops Q F t fuel listed a w [] := fun _ h => by cases h
theorem AllReadyL.cons {fuel : Nat} {listed : Array Bool} {a : Act} {w : World} {i : Nat} {o : Oper} {rs : List Nat} (ho : ops[i]? = some o)
    (h : ∀ K' : Act → World → Prop, Shut (∀ a w, F w → (F w → wpAnyL P md ops Q F t fuel (listed.setIfInBounds i true) a w) → K' a w) → if Region.wanted o (yielded ops a.tmps) = true then Oper.wp P o a w K' Q else K' (a.put o.dst undef) w)
    (hs : AllReadyL P md ops Q F t fuel listed a w rs) : AllReadyL P md ops Q F t fuel listed a w (i :: rs) := fun j hj => by
  rcases List.mem_cons.1 hj with rfl | hj
  · exact wpOp_step ho (fun K' hK => h K' (fun a w hS hW => hK a w ⟨.inr hS, hW hS⟩))
  · exact hs j hj
theorem AllReadyL.last {fuel : Nat} {listed : Array Bool} {a : Act} {w : World} {i : Nat} {o : Oper} (hit : i = t) (ho : ops[i]? = some o)
    (h : ∀ K' : Act → World → Prop, Shut (∀ a w, wpAnyL P md ops Q F t fuel (listed.setIfInBounds i true) a w → K' a w) → if Region.wanted o (yielded ops a.tmps) = true then Oper.wp P o a w K' Q else K' (a.put o.dst undef) w) : AllReadyL P md ops Q F t fuel listed a w [i] := fun j hj => by
  rw [List.mem_singleton] at hj
  subst hj
  exact wpOp_step ho (fun K' hK => h K' (fun a w hW => hK a w ⟨.inl hit, hW⟩))
theorem wpAnyL_ready {rs : List Nat} {fuel : Nat} {listed : Array Bool} {a : Act} {w : World} (hr : Region.ready md ops listed = rs) (hne : rs ≠ [])
    (h : AllReadyL P md ops Q F t fuel listed a w rs) : wpAnyL P md ops Q F t (fuel + 1) listed a w := ⟨fun h0 => absurd (hr ▸ h0) hne, hr ▸ h⟩
theorem wpAnyL_done {listed : Array Bool} {a : Act} {w : World} (hr : Region.ready md ops listed = []) (h : Q .normal a w) : ∀ fuel, wpAnyL P md ops Q F t fuel listed a w
  | 0 => ⟨hr, h⟩
  | _ + 1 => ⟨fun _ => h, by rw [hr]; simp⟩
/-- The beginning: number t is the last store. -/
theorem wp_region_last (t : Nat) {id : Nat} {a : Act} {w : World} (hm : P.follows .mixedOrders = true) (hS : F w.drew)
    (h : F w.drew → wpAnyL P .any ops Q F t ops.size (Array.replicate ops.size false) a w.drew) : (Code.region id ops true).wp P Q a w :=
  wp_region_any hm (wpAny_of_last _ _ _ _ (h hS))
end
end Go.Proofs.YtdaimaibnjkfbaaGreatDoor
/-
  The walk of ApartSessions: rows of sessions that were handed out have memory of their own.
-/
namespace Go.Proofs.YtdaimaibnjkfbaaGreatDoor
open Go.RowKit
set_option maxRecDepth 100000

def mkSes (k i : Nat) : List Value := (markS k i).cells.toList
theorem sameS_self (s : SesM) : sameS s s = true := by unfold sameS; simp
theorem range_of {w : World} {b o : Nat} {cs : List Value} {sz : Nat} (h : ∀ j, j < sz → w.cell? ⟨b, o + j, none⟩ = some (cs.getD j undef)) (hl : cs.length = sz := by rfl) : w.rangeAt b o cs := fun j v hv => by
  have hj : j < cs.length := (List.getElem?_eq_some_iff.1 hv).1
  rw [h j (by omega), List.getD, hv]; rfl
theorem below_range {w w' : World} {b o : Nat} {cs : List Value} (hb : Below w.heap.size w w') (h : w.rangeAt b o cs) : w'.rangeAt b o cs := fun j v hv => below_heap hb (h j v hv)
theorem appS1 {w : World} {ops : Array Oper} {rest : List Oper} {o : Oper} {a : Act} {Q : Exit → Act → World → Prop} (hgd : o.guard = none) (s x : Operand)
    (ho : o.op = .call { callee := .builtin .append, args := #[s, x], argTypes := #[23, 23] })
    (base : Nat) (v : Value) (n : Nat) (xs : List Value) (hs : a.eval s = v) (hown : w.ownsRow base 61 12 v n xs)
    (ad : Addr) (c : Nat) (y : SesM) (hx : a.eval x = .slice (some ad) 1 c) (hy : ∀ j u, y.cells.toList[j]? = some u → w.cell? (ad.add j) = some u)
    (hroom : n + 1 ≤ 1256584717458) (hbase : base ≤ w.heap.size)
    (h : ∀ v' w', w'.ownsRow base 61 12 v' (n + 1) (xs ++ y.cells.toList) → w.grownBy w' v.ownBlock → Moved w v v' → Grew w w' v v' n → wpList Tryz.prog ops Q rest (a.put o.dst v') w') : wpList Tryz.prog ops Q (o :: rest) a w := by
  obtain ⟨i0, hi, hz0, hz1, hz2⟩ := info_parts info_ses
  exact wpList_append_own3 hgd s x 23 ho base 61 i0 _ 12 112 Tryz.underlying23 hi hz0 hz1 hz2 rfl (by decide) v n xs hs hown ad c y.cells.toList hx rfl hy y.oneS (by unfold maxLen; omega) (by omega) hbase h
theorem exec_neqS {a : Act} {w : World} {op : Oper} (s : SesM) (x y : Operand) (ho : op.op = .binOp .neq 61 x y 61) (hx : a.eval x = .agg s.cells) (hy : a.eval y = .agg s.cells) :
    (execOp a.eval op).run Tryz.prog w = .ok (.value (.bool false)) w := by
  have h := run_neqS s s w
  rw [sameS_self] at h
  unfold execOp
  simp only [ho, hx, hy, Sem.run_bind, Sem.run_pure, Result.andThen_ok, run_eqGuard_agg (op := .neq) (t := 61) (x := x) (y := y) (xs := s.cells) (ys := s.cells) (hm := show Tryz.prog.eqGuardType Tryz.prog.depth 61 = false by kernel_rfl), h, Bool.not_true]
theorem info_sesR : (Tryz.prog.info? 23).map (fun i => (i.zero, i.size, i.bytes)) = some (some (.slice none 0 0), 1, 24) := by kernel_rfl
theorem appSS {w : World} {ops : Array Oper} {rest : List Oper} {o : Oper} {a : Act} {Q : Exit → Act → World → Prop} (hgd : o.guard = none) (s x : Operand)
    (ho : o.op = .call { callee := .builtin .append, args := #[s, x], argTypes := #[40, 40] })
    (base : Nat) (v : Value) (n : Nat) (xs : List Value) (hs : a.eval s = v) (hown : w.ownsRow base 23 1 v n xs)
    (ad : Addr) (m c : Nat) (ys : List Value) (hx : a.eval x = .slice (some ad) m c) (hl : ys.length = m) (hy : ∀ j u, ys[j]? = some u → w.cell? (ad.add j) = some u) (h1 : ∀ u ∈ ys, u.oneCell' = true)
    (hroom : n + m ≤ 4398046511104) (hbase : base ≤ w.heap.size)
    (h : ∀ v' w', w'.ownsRow base 23 1 v' (n + m) (xs ++ ys) → w.grownBy w' v.ownBlock → Moved w v v' → wpList Tryz.prog ops Q rest (a.put o.dst v') w') : wpList Tryz.prog ops Q (o :: rest) a w := by
  obtain ⟨i0, hi, hz0, hz1, hz2⟩ := info_parts info_sesR
  exact wpList_append_own2 hgd s x 40 ho base 23 i0 (.slice none 0 0) 1 24 Tryz.underlying40 hi hz0 hz1 hz2 rfl (by decide) v n xs hs hown ad m c ys hx (by omega) hy h1 (by unfold maxLen; omega) (by omega) hbase h
set_option maxHeartbeats 12800000 in
theorem apartSes_calls (R : RowsS) (lsv : Value) (w : World) (he : R.e = 61) (hsz : R.sz = 12) (hmkS : R.mark = mkSes) (h : Turn1S R lsv w 0 0 w) (hN : R.N ≤ 1000000) (hns : ∀ j, j < R.N → R.ns j ≤ 1000000000000) (hl : ∀ b, lsv.ownBlock = some b → b < w.heap.size) (hB : R.B ≤ w.heap.size) :
    Calls Tryz.prog 32 #[lsv] w fun e w' => e = .returned (.bool true) ∧ Mod R.blk w w' := by
  obtain ⟨la, lc, e1⟩ : ∃ a c, lsv = .slice a R.N c := by obtain ⟨a, c, e, _⟩ := h.ls; exact ⟨a, c, e⟩
  have Hl := Lib.hid hl
  have H := Lib.hid h
  have HB := Lib.hid hB
  have He := Lib.hid he
  have Hsz := Lib.hid hsz
  have HmkS := Lib.hid hmkS
  have Hns := Lib.hid hns
  clear hl h hB he hns hsz hmkS
  subst e1
  go_enter Tryz.func32, Tryz.ntmps32
  go_wp2_with fail
  go_loopg [3] R.N (fun gk kv wr => ∃ k : Nat, gk + k = R.N ∧ kv = .int .i64 (k : Int) ∧ Turn1S R (.slice la R.N lc) w k 0 wr)
  case atStart => exact ⟨0, rfl, rfl, H.out⟩
  case round =>
    clear H
    obtain ⟨k, hgk, rfl, hT⟩ := hrel
    by_cases hk : k < R.N
    · have hns := Hns.out k hk
      obtain ⟨b, off, cap, e1, hc⟩ := hT.lsAt hk
      obtain ⟨a, c, e2⟩ := hT.slice hk
      rw [e2] at hc
      injection e1 with e3 _ e4
      subst e3
      subst e4
      have hk0 : (0 : Int) ≤ (k : Int) := by omega
      have hk1 : (k : Int) < (R.N : Int) := by omega
      have HT := Lib.hid hT
      have Hgk := Lib.hid hgk
      have E2 := Lib.hid e2
      clear hT hgk e2 Hns
      go_wp2_with fail
      obtain ⟨n, hn⟩ : ∃ n, n = R.ns k := ⟨_, rfl⟩
      rw [← hn] at hc hns
      have Hn := Lib.hid hn
      clear hn
      obtain ⟨wo, rfl⟩ : ∃ wo : World, wo = wr := ⟨_, rfl⟩
      go_loopg [4] n (fun gi iv wr => ∃ i : Nat, gi + i = n ∧ iv = .int .i64 (i : Int) ∧ Turn1S R (.slice (some ⟨b, off, none⟩) R.N lc) w k i wr)
      case atStart => exact ⟨0, rfl, rfl, HT.out⟩
      case round =>
        clear HT hc
        obtain ⟨i, hgi, rfl, hT⟩ := hrel
        have hc : wr.cell? ⟨b, off + k, none⟩ = some (.slice a n c) := by
          obtain ⟨b', off', cap', e1, hc⟩ := hT.lsAt hk
          injection e1 with e1; injection e1 with e1; injection e1 with e5 e6
          subst e5; subst e6
          rw [hc, E2.out, Hn.out]
        have Hgi := Lib.hid hgi
        by_cases hi : i < n
        · obtain ⟨g, cap', e5, _, hT'⟩ := hT.row hk (by rw [← Hn.out]; exact hi)
          rw [E2.out, ← Hn.out] at e5
          injection e5 with e5 _ e6
          subst e5
          subst e6
          have hi0 : (0 : Int) ≤ (i : Int) := by omega
          have hi1 : (i : Int) < (n : Int) := by omega
          obtain ⟨ms, hms⟩ : ∃ ms, ms = markS k i := ⟨_, rfl⟩
          have hmk : R.mark k i = ms.cells.toList := by rw [HmkS.out, hms]; rfl
          have hrow : ∀ w5, Below wr.heap.size wr w5 → w5.there g (i * 12) 12 ∧ Turn1S R (.slice (some ⟨b, off, none⟩) R.N lc) w k (i + 1) (w5.setCells g (i * 12) ms.cells.toList) := fun w5 hb5 => by
            have hT5 := hT.below hb5
            obtain ⟨g', cap', e5, hth, hT6⟩ := hT5.row hk (by rw [← Hn.out]; exact hi)
            rw [E2.out, ← Hn.out] at e5
            injection e5 with e5 _ e6
            injection e5 with e5
            injection e5 with e5
            subst e5
            rw [hmk, Hsz.out] at hT6
            rw [Hsz.out] at hth
            exact ⟨hth, hT6⟩
          have hmc := fun w4 => markS_calls (k : Int) (i : Int) w4 (by omega) (by omega)
          rw [← hms] at hmc
          have Hmc := Lib.hid hmc
          have HRow := Lib.hid hrow
          have HC := Lib.hid hc
          clear hT hgi hT' hmc hms hrow hmk
          go_wp2_with fail
          clear hc
          refine wp_region_last 9 (F := fun W => Below wr.heap.size wr W) (by kernel_rfl) (below_drew wr) (fun hHeld => ?_)
          refine wpAnyL_take (i := 0) (oi := ⟨some 27, _, _, _, _, _⟩) (v := ?_) rfl (by kernel_rfl) (by kernel_rfl) (by kernel_rfl) (by kernel_rfl) (fun _ _ _ h => h) (Or.inl ⟨by kernel_rfl, ?_⟩) (by assumption) ?_
          rotate_left 1
          · intro w' hw'; clear hw'; go_simp; try with_reducible rfl
          try simp only [Act.put, List.setIfInBounds_toArray, List.set_cons_zero, List.set_cons_succ]
          refine wpAnyL_take (i := 1) (oi := ⟨some 28, _, _, _, _, _⟩) (v := ?_) rfl (by kernel_rfl) (by kernel_rfl) (by kernel_rfl) (by kernel_rfl) (fun _ _ _ h => h) (Or.inl ⟨by kernel_rfl, ?_⟩) (by assumption) ?_
          rotate_left 1
          · intro w' hw'; clear hw'; go_simp; try with_reducible rfl
          try simp only [Act.put, List.setIfInBounds_toArray, List.set_cons_zero, List.set_cons_succ]
          refine wpAnyL_take (i := 2) (oi := ⟨some 29, _, _, _, _, _⟩) (v := ?_) rfl (by kernel_rfl) (by kernel_rfl) (by kernel_rfl) (by kernel_rfl) (fun _ _ _ h => h) (Or.inl ⟨by kernel_rfl, ?_⟩) (by assumption) ?_
          rotate_left 1
          · intro w' hw'; clear hw'; go_simp; try with_reducible rfl
          try simp only [Act.put, List.setIfInBounds_toArray, List.set_cons_zero, List.set_cons_succ]
          refine wpAnyL_take (i := 3) (oi := ⟨some 30, _, _, _, _, _⟩) (v := ?_) rfl (by kernel_rfl) (by kernel_rfl) (by kernel_rfl) (by kernel_rfl) (fun _ _ _ h => h) (Or.inl ⟨by kernel_rfl, ?_⟩) (by assumption) ?_
          rotate_left 1
          · intro w' hw'; have u1 := below_heap hw' HC.out; clear hw'; go_simp; try with_reducible rfl
          try simp only [Act.put, List.setIfInBounds_toArray, List.set_cons_zero, List.set_cons_succ]
          refine wpAnyL_take (i := 4) (oi := ⟨some 31, _, _, _, _, _⟩) (v := ?_) rfl (by kernel_rfl) (by kernel_rfl) (by kernel_rfl) (by kernel_rfl) (fun _ _ _ h => h) (Or.inl ⟨by kernel_rfl, ?_⟩) (by assumption) ?_
          rotate_left 1
          · intro w' hw'; clear hw'; go_simp; try with_reducible rfl
          try simp only [Act.put, List.setIfInBounds_toArray, List.set_cons_zero, List.set_cons_succ]
          refine wpAnyL_take (i := 5) (oi := ⟨some 32, _, _, _, _, _⟩) (v := ?_) rfl (by kernel_rfl) (by kernel_rfl) (by kernel_rfl) (by kernel_rfl) (fun _ _ _ h => h) (Or.inl ⟨by kernel_rfl, ?_⟩) (by assumption) ?_
          rotate_left 1
          · intro w' hw'; clear hw'; go_simp; try with_reducible rfl
          try simp only [Act.put, List.setIfInBounds_toArray, List.set_cons_zero, List.set_cons_succ]
          refine wpAnyL_take (i := 6) (oi := ⟨some 33, _, _, _, _, _⟩) (v := ?_) rfl (by kernel_rfl) (by kernel_rfl) (by kernel_rfl) (by kernel_rfl) (fun _ _ _ h => h) (Or.inl ⟨by kernel_rfl, ?_⟩) (by assumption) ?_
          rotate_left 1
          · intro w' hw'; clear hw'; go_simp; try with_reducible rfl
          try simp only [Act.put, List.setIfInBounds_toArray, List.set_cons_zero, List.set_cons_succ]
          refine wpAnyL_ready (rs := [7]) (by kernel_rfl) (by simp) (AllReadyL.cons (o := ⟨some 34, .call _, _, _, _, _⟩) rfl (fun K hK => ?_) AllReadyL.nil)
          go_simp
          refine (Hmc.out _).mono ?_
          rintro e w5 ⟨rfl, hb5⟩
          have hb5' := below_trans hHeld hb5
          refine hK.out _ _ hb5' (fun hHeld4 => ?_)
          obtain ⟨hth, hTn⟩ := HRow.out w5 hHeld4
          have HTH := Lib.hid hth
          have HT5 := Lib.hid hTn
          clear hK K hb5 hb5' hHeld hth hTn Hmc HRow
          try simp only [Act.put, List.setIfInBounds_toArray, List.set_cons_zero, List.set_cons_succ]
          refine wpAnyL_take (i := 8) (oi := ⟨some 35, _, _, _, _, _⟩) (v := ?_) rfl (by kernel_rfl) (by kernel_rfl) (by kernel_rfl) (by kernel_rfl) (fun _ _ _ h => h) (Or.inl ⟨by kernel_rfl, ?_⟩) (by assumption) ?_
          rotate_left 1
          · intro w' hw'; clear hw'; go_simp; try with_reducible rfl
          try simp only [Act.put, List.setIfInBounds_toArray, List.set_cons_zero, List.set_cons_succ]
          refine wpAnyL_ready (rs := [9]) (by kernel_rfl) (by simp) (AllReadyL.last rfl (o := ⟨none, .store _ _ _, _, _, _, _⟩) rfl (fun K hK => ?_))
          rw [if_pos (by kernel_rfl)]
          refine wp_store_mid 61 (.tmp 35) (.tmp 34) rfl g (i * 12) ms.cells rfl rfl HTH.out (by kernel_rfl) (by have := all_oneCell_toArray (SesM.oneS ms); simpa using this) ?_
          refine hK.out _ _ ?_
          clear hK K HTH hHeld4
          try simp only [Act.put]
          refine wpAnyL_done (by kernel_rfl) ?_ _
          generalize World.setCells w5 _ _ _ = w6 at HT5 ⊢
          go_wp2_with fail
          go_roundg (n - (i + 1))
          case measure => have := Hgi.out; omega
          case rel => exact ⟨i + 1, by have := Hgi.out; omega, by go_num, HT5.out⟩
        · obtain rfl : i = n := by omega
          rw [Hn.out] at hT
          have HT := Lib.hid (hT.next hk)
          clear hT hgi
          go_wp2_with fail
          go_roundg (R.N - (k + 1))
          case measure => have := Hgk.out; omega
          case rel => exact ⟨k + 1, by have := Hgk.out; omega, by go_num, HT.out⟩
    · obtain rfl : k = R.N := by omega
      have hs0 := hT.mod.size
      have hT2 := hT.two (E := 23) (fun b hb => Nat.lt_of_lt_of_le (Hl.out b hb) hs0) (Nat.le_trans HB.out hs0)
      have HT := Lib.hid hT2
      clear hT hgk hT2 Hl HB hs0
      go_wp2_with fail
      obtain ⟨wo, rfl⟩ : ∃ wo : World, wo = wr := ⟨_, rfl⟩
      go_loopg [5, 6] R.N (fun gk gsv kv wr => ∃ (k : Nat) (gl : List Value), gk + k = R.N ∧ kv = .int .i64 (k : Int) ∧ Turn2S R (.slice la R.N lc) w 23 k gsv gl (R.vs k) 0 wr)
      case atStart => exact ⟨0, [], rfl, rfl, HT.out⟩
      case round =>
        clear HT
        obtain ⟨k, gl, hgk, rfl, hT⟩ := hrel
        by_cases hk : k < R.N
        · have hns := Hns.out k hk
          obtain ⟨⟨b, off, cap, e1, hc⟩, _, a, c, e2⟩ := hT.at hk
          rw [e2] at hc hT
          injection e1 with e3 _ e4
          subst e3
          subst e4
          have hk0 : (0 : Int) ≤ (k : Int) := by omega
          have hk1 : (k : Int) < (R.N : Int) := by omega
          obtain ⟨n, hn⟩ : ∃ n, n = R.ns k := ⟨_, rfl⟩
          rw [← hn] at hc hns e2 hT
          have HT := Lib.hid hT
          have Hgk := Lib.hid hgk
          have Hn := Lib.hid hn
          have E2 := Lib.hid e2
          clear hT hgk e2 hn
          go_wp2_with fail
          obtain ⟨wo, rfl⟩ : ∃ wo : World, wo = wr := ⟨_, rfl⟩
          go_loopg [7, 8] 64 (fun gi gv iv wr => ∃ i : Nat, gi + i = 64 ∧ iv = .int .i64 (i : Int) ∧ Turn2S R (.slice (some ⟨b, off, none⟩) R.N lc) w 23 k u5 gl gv i wr)
          case atStart => exact ⟨0, rfl, rfl, HT.out⟩
          case round =>
            clear HT hc
            obtain ⟨i, hgi, rfl, hT⟩ := hrel
            have hown := (hT.at hk).2.1
            have hc : wr.cell? ⟨b, off + k, none⟩ = some (.slice a n c) := by
              obtain ⟨⟨b', off', cap', e1, hc⟩, _⟩ := hT.at hk
              injection e1 with e1; injection e1 with e1; injection e1 with e5 e6
              subst e5; subst e6
              rw [hc, E2.out]
            have Hgi := Lib.hid hgi
            by_cases hi : i < 64
            · obtain ⟨ms, hms⟩ : ∃ ms, ms = markS k (n + i : Nat) := ⟨_, rfl⟩
              have hmk : R.mark k (n + i) = ms.cells.toList := by rw [HmkS.out, hms]; rfl
              have hmc := fun w => markS_calls (k : Int) ((n + i : Nat) : Int) w (by omega) (by omega)
              rw [← hms, Int.natCast_add] at hmc
              have hB2 := hT.le
              have hi1 : (i : Int) < 64 := by omega
              have HT0 := Lib.hid hT
              have HOw := Lib.hid hown
              have Hmc := Lib.hid hmc
              have Hmv := Lib.hid hmk
              clear hT hgi hmc hms hown hmk
              go_wp2_with fail
              refine (Hmc.out _).mono ?_
              rintro e w5 ⟨rfl, hb5⟩
              have hba := below_trans hb5 (below_alloc w5 (.cells ms.cells 61))
              have hownA := own_below HOw.out hba
              rw [He.out, Hsz.out, ← Hn.out] at hownA
              have HownA := Lib.hid hownA
              have Hb2 := Lib.hid (HT0.out.below hba)
              have Hs5 := Lib.hid (Nat.le_trans hB2 hba.size)
              clear hb5 hba hownA
              have HCQ := Lib.hid (newCells w5 ms 61)
              have HLQ := Lib.hid (show n + 1 + i ≤ 1256584717458 by omega)
              go_wp2_with (first | refine wpList_buildSlice_s (op := ⟨some 60, _, _, _, _, _⟩) (by rfl) 23 1 #[(0, .tmp 59)] rfl #[(0, .agg ms.cells)] (by kernel_rfl) _ _ (buildS ms w5) ?_)
              intro w6 hw6
              have ew6 := hw6.out
              subst ew6
              clear hw6
              go_wp2_with (at_builtin; refine appS1 rfl _ _ rfl R.B _ _ _ rfl HownA.out ⟨w5.heap.size, 0, none⟩ 1 ms rfl HCQ.out (by have := HLQ.out; omega) Hs5.out ?_)
              intro v' w1 hown' hg' hm' hgr'
              rw [← He.out, ← Hsz.out, ← Hmv.out, Hn.out] at hown'
              rw [Hn.out] at hgr'
              have hT' := Hb2.out.step hk hown' hg' hm' hgr'
              have HT' := Lib.hid hT'
              clear hown' hg' hm' hgr' hT'
              go_wp2_with fail
              go_roundg (64 - (i + 1))
              case measure => have := Hgi.out; omega
              case rel => exact ⟨i + 1, by have := Hgi.out; omega, by go_num, HT'.out⟩
            · obtain rfl : i = 64 := by omega
              obtain ⟨ga, gc, e7, _⟩ := own_slice hown
              subst e7
              have hB2 := hT.le
              have hgs := hT.gs
              rw [show min k R.N = k by omega] at hgs
              obtain ⟨m, hm⟩ : ∃ m, m = R.ns k + 64 := ⟨_, rfl⟩
              rw [← hm] at hT
              have hownA := hgs.alloc (.cells #[.slice ga m gc] 23)
              have hb2 := hT.below (below_alloc wr (.cells #[.slice ga m gc] 23))
              have HownA := Lib.hid hownA
              have Hb2 := Lib.hid hb2
              rw [← hm]
              clear hT hgi hown hb2 hownA hgs hm
              go_wp2_with (at_builtin; refine appSS rfl _ _ rfl R.B _ _ _ rfl HownA.out ⟨wr.heap.size, 0, none⟩ 1 1 [.slice ga m gc] rfl rfl (cell_one_new _ _ _) (by simp [Value.oneCell']) (by omega) (by simp; omega) ?_)
              intro v' w1 hown' hg' hm'
              have hT' := Hb2.out.next hk hown' hg' hm'
              have HT' := Lib.hid hT'
              clear hown' hg' hm' hT'
              go_wp2_with fail
              go_roundg (R.N - (k + 1))
              case measure => have := Hgk.out; omega
              case rel => exact ⟨k + 1, _, by have := Hgk.out; omega, by go_num, HT'.out⟩
        · obtain rfl : k = R.N := by omega
          have hT3 := hT.three
          have hmod := hT.mod
          have Hmod := Lib.hid hmod
          have HT := Lib.hid hT3
          obtain ⟨ga, gc, rfl⟩ : ∃ a c, u5 = .slice a R.N c := by obtain ⟨a, c, e, _⟩ := hT3.gs; exact ⟨a, c, e⟩
          clear hT hT3 hgk hmod
          go_wp2_with fail
          obtain ⟨wo, rfl⟩ : ∃ wo : World, wo = wr := ⟨_, rfl⟩
          go_loopg [9] R.N (fun gk kv wr' => ∃ k : Nat, gk + k = R.N ∧ kv = .int .i64 (k : Int) ∧ Below wo.heap.size wo wr')
          case atStart => exact ⟨0, rfl, rfl, Below.refl _ _⟩
          case round =>
            obtain ⟨k, hgk, rfl, hb3⟩ := hrel
            by_cases hk : k < R.N
            · have hns := Hns.out k hk
              obtain ⟨⟨b, off, cap, e1, hc⟩, ⟨a, c, e2, hv⟩, g, ⟨b3, off3, cap3, e3, hd⟩, b4, off4, c4, rfl, hw⟩ := (HT.out.below hb3).at k hk
              rw [e2] at hc
              injection e1 with e4 _ e5
              injection e3 with e6 _ e7
              subst e4; subst e5; subst e6; subst e7
              obtain ⟨n, hn⟩ : ∃ n, n = R.ns k := ⟨_, rfl⟩
              rw [← hn] at hc hns hv hw hd
              have Hv := Lib.hid hv
              have Hw := Lib.hid hw
              have Hgk := Lib.hid hgk
              have hk0 : (0 : Int) ≤ (k : Int) := by omega
              have hk1 : (k : Int) < (R.N : Int) := by omega
              have HB3 := Lib.hid hb3
              clear hv hw hgk e2 hn HT hb3
              go_wp2_with fail
              obtain ⟨wq, hwq⟩ : ∃ wq : World, wq = wr := ⟨_, rfl⟩
              rw [← hwq] at hc hd Hv Hw HB3 ⊢
              clear hwq
              go_loopg [10] (n + 64) (fun gi iv wr' => ∃ i : Nat, gi + i = n + 64 ∧ iv = .int .i64 (i : Int) ∧ Below wq.heap.size wq wr')
              case atStart => exact ⟨0, rfl, rfl, Below.refl _ _⟩
              case round =>
                obtain ⟨i, hgi, rfl, hb4⟩ := hrel
                have Hgi := Lib.hid hgi
                clear hgi
                have hi0 : (0 : Int) ≤ (i : Int) := by omega
                by_cases hi : i < n + 64
                · have hwc := Hw.out i hi
                  obtain ⟨ms, hms⟩ : ∃ ms, ms = markS k i := ⟨_, rfl⟩
                  have hmk : R.mark k i = ms.cells.toList := by rw [HmkS.out, hms]; rfl
                  have hmc := fun w => markS_calls (k : Int) (i : Int) w (by omega) (by omega)
                  rw [← hms] at hmc
                  rw [hmk, Hsz.out] at hwc
                  have Hmc := Lib.hid hmc
                  have p3 : wr.rangeAt b4 (off4 + i * 12) ms.cells.toList := below_range hb4 (range_of hwc)
                  have p1 := below_heap hb4 hc
                  have p2 := below_heap hb4 hd
                  have HB4 := Lib.hid hb4
                  have hi3 : (i : Int) < (n : Int) + 64 := by omega
                  clear hmc hms hc hd hwc hb4
                  by_cases hin : i < n
                  · obtain ⟨b5, off5, rfl, hvc⟩ := Hv.out i hin
                    rw [hmk, Hsz.out] at hvc
                    have p4 : wr.rangeAt b5 (off5 + i * 12) ms.cells.toList := below_range HB4.out (range_of hvc)
                    have hi4 : (i : Int) < (n : Int) := by omega
                    clear hvc
                    have P := Lib.hid (And.intro p1 (And.intro p2 p3))
                    have P4 := Lib.hid p4
                    clear p4
                    clear Hv Hw hmk p3
                    go_wp2_with fail
                    clear p1 p2
                    refine (Hmc.out _).mono ?_
                    rintro e w5 ⟨rfl, hb5⟩
                    have HB5 := Lib.hid hb5
                    clear hb5
                    go_wp2_with ((with_reducible refine wpList_store_k ?qa0 61 (.tmp 11) (.tmp 83) ?qa1 (w5.heap.size) 0 ms.cells.toList ?qa2 ms.cells ?qa3 (SesM.listS _) ?qa4 ?qa5 ?qa6 ?qa7); (case qa1 => rfl); (case qa0 => rfl); (case qa2 => rfl); (case qa3 => rfl); (case qa4 => exact thereZ _ _); (case qa5 => kernel_rfl); (case qa6 => exact SesM.oneS _))
                    intro wz hwz
                    obtain ⟨hbz, hbw⟩ := putZ hwz
                    have hb6 := below_trans HB5.out hbw
                    have Q5 := Lib.hid (hbz.range 0 _ (fun j v hv => by rw [Nat.zero_add]; rw [← Array.getElem?_toList]; exact hv))
                    have Q1 := Lib.hid (below_heap hb6 P.out.1)
                    have Q2 := Lib.hid (below_heap hb6 P.out.2.1)
                    have Q3 := Lib.hid (below_range hb6 P.out.2.2)
                    have Q4 := Lib.hid (below_range hb6 P4.out)
                    clear P4
                    have HB6 := Lib.hid (below_trans HB4.out hb6)
                    clear hb6 P hbz hbw hwz HB5
                    go_wp2_with fail
                    refine wp_region_held_drew (S := fun W => Below wz.heap.size wz W) (by kernel_rfl) (below_drew wz) (fun hHeld => ?_)
                    refine wpAnyH_take (i := 0) (oi := ⟨some 84, _, _, _, _, _⟩) (v := ?_) rfl (by kernel_rfl) (by kernel_rfl) (by kernel_rfl) (fun _ _ _ h => h) (Or.inl ⟨by kernel_rfl, ?_⟩) (by assumption) ?_
                    rotate_left 1
                    · intro w' hw'; clear hw'; go_simp; try with_reducible rfl
                    try simp only [Act.put, List.setIfInBounds_toArray, List.set_cons_zero, List.set_cons_succ]
                    refine wpAnyH_take (i := 1) (oi := ⟨some 85, _, _, _, _, _⟩) (v := ?_) rfl (by kernel_rfl) (by kernel_rfl) (by kernel_rfl) (fun _ _ _ h => h) (Or.inl ⟨by kernel_rfl, ?_⟩) (by assumption) ?_
                    rotate_left 1
                    · intro w' hw'; clear hw'; go_simp; try with_reducible rfl
                    try simp only [Act.put, List.setIfInBounds_toArray, List.set_cons_zero, List.set_cons_succ]
                    refine wpAnyH_take (i := 2) (oi := ⟨some 86, _, _, _, _, _⟩) (v := ?_) rfl (by kernel_rfl) (by kernel_rfl) (by kernel_rfl) (fun _ _ _ h => h) (Or.inl ⟨by kernel_rfl, ?_⟩) (by assumption) ?_
                    rotate_left 1
                    · intro w' hw'; clear hw'; go_simp; try with_reducible rfl
                    try simp only [Act.put, List.setIfInBounds_toArray, List.set_cons_zero, List.set_cons_succ]
                    refine wpAnyH_take (i := 3) (oi := ⟨some 87, _, _, _, _, _⟩) (v := ?_) rfl (by kernel_rfl) (by kernel_rfl) (by kernel_rfl) (fun _ _ _ h => h) (Or.inl ⟨by kernel_rfl, ?_⟩) (by assumption) ?_
                    rotate_left 1
                    · intro w' hw'; have u1 := below_heap hw' Q2.out; clear hw'; go_simp; try with_reducible rfl
                    try simp only [Act.put, List.setIfInBounds_toArray, List.set_cons_zero, List.set_cons_succ]
                    refine wpAnyH_take (i := 4) (oi := ⟨some 88, _, _, _, _, _⟩) (v := ?_) rfl (by kernel_rfl) (by kernel_rfl) (by kernel_rfl) (fun _ _ _ h => h) (Or.inl ⟨by kernel_rfl, ?_⟩) (by assumption) ?_
                    rotate_left 1
                    · intro w' hw'; clear hw'; go_simp; try with_reducible rfl
                    try simp only [Act.put, List.setIfInBounds_toArray, List.set_cons_zero, List.set_cons_succ]
                    refine wpAnyH_take (i := 5) (oi := ⟨some 89, _, _, _, _, _⟩) (v := ?_) rfl (by kernel_rfl) (by kernel_rfl) (by kernel_rfl) (fun _ _ _ h => h) (Or.inl ⟨by kernel_rfl, ?_⟩) (by assumption) ?_
                    rotate_left 1
                    · intro w' hw'; clear hw'; go_simp; try with_reducible rfl
                    try simp only [Act.put, List.setIfInBounds_toArray, List.set_cons_zero, List.set_cons_succ]
                    refine wpAnyH_take (i := 6) (oi := ⟨some 90, .load _ _, _, _, _, _⟩) (v := .agg ms.cells) rfl (by kernel_rfl) (by kernel_rfl) (by kernel_rfl) (fun _ _ _ h => h) (Or.inl ⟨by kernel_rfl, fun w' hw' => exec_load_m 61 (.tmp 89) rfl (b4) (off4 + i * 12) rfl (ms.cells).toList _ (below_range hw' Q3.out) Tryz.underlying61 rfl (by kernel_rfl)⟩) (by assumption) ?_
                    try simp only [Act.put, List.setIfInBounds_toArray, List.set_cons_zero, List.set_cons_succ]
                    refine wpAnyH_take (i := 7) (oi := ⟨some 91, .load _ _, _, _, _, _⟩) (v := .agg ms.cells) rfl (by kernel_rfl) (by kernel_rfl) (by kernel_rfl) (fun _ _ _ h => h) (Or.inl ⟨by kernel_rfl, fun w' hw' => exec_load_m 61 (.tmp 11) rfl (w5.heap.size) (0) rfl (ms.cells).toList _ (below_range hw' Q5.out) Tryz.underlying61 rfl (by kernel_rfl)⟩) (by assumption) ?_
                    try simp only [Act.put, List.setIfInBounds_toArray, List.set_cons_zero, List.set_cons_succ]
                    refine wpAnyH_take (i := 8) (oi := ⟨some 92, .binOp _ _ _ _ _, _, _, _, _⟩) (v := .bool false) rfl (by kernel_rfl) (by kernel_rfl) (by kernel_rfl) (fun _ _ _ h => h) (Or.inl ⟨by kernel_rfl, fun w' hw' => exec_neqS ms (.tmp 90) (.tmp 91) rfl rfl rfl⟩) (by assumption) ?_
                    try simp only [Act.put, List.setIfInBounds_toArray, List.set_cons_zero, List.set_cons_succ]
                    refine wpAnyH_take (i := 9) (oi := ⟨some 93, _, _, _, _, _⟩) (v := ?_) rfl (by kernel_rfl) (by kernel_rfl) (by kernel_rfl) (fun _ _ _ h => h) (Or.inl ⟨by kernel_rfl, ?_⟩) (by assumption) ?_
                    rotate_left 1
                    · intro w' hw'; clear hw'; go_simp; try with_reducible rfl
                    try simp only [Act.put, List.setIfInBounds_toArray, List.set_cons_zero, List.set_cons_succ]
                    refine wpAnyH_take (i := 10) (oi := ⟨some 94, _, _, _, _, _⟩) (v := ?_) rfl (by kernel_rfl) (by kernel_rfl) (by kernel_rfl) (fun _ _ _ h => h) (Or.inl ⟨by kernel_rfl, ?_⟩) (by assumption) ?_
                    rotate_left 1
                    · intro w' hw'; clear hw'; go_simp; try with_reducible rfl
                    try simp only [Act.put, List.setIfInBounds_toArray, List.set_cons_zero, List.set_cons_succ]
                    refine wpAnyH_take (i := 11) (oi := ⟨some 95, _, _, _, _, _⟩) (v := ?_) rfl (by kernel_rfl) (by kernel_rfl) (by kernel_rfl) (fun _ _ _ h => h) (Or.inl ⟨by kernel_rfl, ?_⟩) (by assumption) ?_
                    rotate_left 1
                    · intro w' hw'; clear hw'; go_simp; try with_reducible rfl
                    try simp only [Act.put, List.setIfInBounds_toArray, List.set_cons_zero, List.set_cons_succ]
                    refine wpAnyH_take (i := 12) (oi := ⟨some 96, _, _, _, _, _⟩) (v := ?_) rfl (by kernel_rfl) (by kernel_rfl) (by kernel_rfl) (fun _ _ _ h => h) (Or.inl ⟨by kernel_rfl, ?_⟩) (by assumption) ?_
                    rotate_left 1
                    · intro w' hw'; clear hw'; go_simp; try with_reducible rfl
                    try simp only [Act.put, List.setIfInBounds_toArray, List.set_cons_zero, List.set_cons_succ]
                    refine wpAnyH_take (i := 13) (oi := ⟨some 97, _, _, _, _, _⟩) (v := ?_) rfl (by kernel_rfl) (by kernel_rfl) (by kernel_rfl) (fun _ _ _ h => h) (Or.inl ⟨by kernel_rfl, ?_⟩) (by assumption) ?_
                    rotate_left 1
                    · intro w' hw'; clear hw'; go_simp; try with_reducible rfl
                    try simp only [Act.put, List.setIfInBounds_toArray, List.set_cons_zero, List.set_cons_succ]
                    refine wpAnyH_take (i := 14) (oi := ⟨some 98, _, _, _, _, _⟩) (v := ?_) rfl (by kernel_rfl) (by kernel_rfl) (by kernel_rfl) (fun _ _ _ h => h) (Or.inl ⟨by kernel_rfl, ?_⟩) (by assumption) ?_
                    rotate_left 1
                    · intro w' hw'; have u1 := below_heap hw' Q1.out; clear hw'; go_simp; try with_reducible rfl
                    try simp only [Act.put, List.setIfInBounds_toArray, List.set_cons_zero, List.set_cons_succ]
                    refine wpAnyH_take (i := 15) (oi := ⟨some 99, _, _, _, _, _⟩) (v := ?_) rfl (by kernel_rfl) (by kernel_rfl) (by kernel_rfl) (fun _ _ _ h => h) (Or.inl ⟨by kernel_rfl, ?_⟩) (by assumption) ?_
                    rotate_left 1
                    · intro w' hw'; clear hw'; go_simp; try with_reducible rfl
                    try simp only [Act.put, List.setIfInBounds_toArray, List.set_cons_zero, List.set_cons_succ]
                    refine wpAnyH_take (i := 16) (oi := ⟨some 100, _, _, _, _, _⟩) (v := ?_) rfl (by kernel_rfl) (by kernel_rfl) (by kernel_rfl) (fun _ _ _ h => h) (Or.inl ⟨by kernel_rfl, ?_⟩) (by assumption) ?_
                    rotate_left 1
                    · intro w' hw'; clear hw'; go_simp; try with_reducible rfl
                    try simp only [Act.put, List.setIfInBounds_toArray, List.set_cons_zero, List.set_cons_succ]
                    refine wpAnyH_take (i := 17) (oi := ⟨some 101, _, _, _, _, _⟩) (v := ?_) rfl (by kernel_rfl) (by kernel_rfl) (by kernel_rfl) (fun _ _ _ h => h) (Or.inl ⟨by kernel_rfl, ?_⟩) (by assumption) ?_
                    rotate_left 1
                    · intro w' hw'; clear hw'; go_simp; try with_reducible rfl
                    try simp only [Act.put, List.setIfInBounds_toArray, List.set_cons_zero, List.set_cons_succ]
                    refine wpAnyH_take (i := 18) (oi := ⟨some 102, _, _, _, _, _⟩) (v := ?_) rfl (by kernel_rfl) (by kernel_rfl) (by kernel_rfl) (fun _ _ _ h => h) (Or.inl ⟨by kernel_rfl, ?_⟩) (by assumption) ?_
                    rotate_left 1
                    · intro w' hw'; clear hw'; go_simp; try with_reducible rfl
                    try simp only [Act.put, List.setIfInBounds_toArray, List.set_cons_zero, List.set_cons_succ]
                    refine wpAnyH_take (i := 19) (oi := ⟨some 103, _, _, _, _, _⟩) (v := ?_) rfl (by kernel_rfl) (by kernel_rfl) (by kernel_rfl) (fun _ _ _ h => h) (Or.inl ⟨by kernel_rfl, ?_⟩) (by assumption) ?_
                    rotate_left 1
                    · intro w' hw'; clear hw'; go_simp; try with_reducible rfl
                    try simp only [Act.put, List.setIfInBounds_toArray, List.set_cons_zero, List.set_cons_succ]
                    refine wpAnyH_take (i := 20) (oi := ⟨some 104, _, _, _, _, _⟩) (v := ?_) rfl (by kernel_rfl) (by kernel_rfl) (by kernel_rfl) (fun _ _ _ h => h) (Or.inl ⟨by kernel_rfl, ?_⟩) (by assumption) ?_
                    rotate_left 1
                    · intro w' hw'; clear hw'; go_simp; try with_reducible rfl
                    try simp only [Act.put, List.setIfInBounds_toArray, List.set_cons_zero, List.set_cons_succ]
                    refine wpAnyH_take (i := 21) (oi := ⟨some 105, _, _, _, _, _⟩) (v := ?_) rfl (by kernel_rfl) (by kernel_rfl) (by kernel_rfl) (fun _ _ _ h => h) (Or.inl ⟨by kernel_rfl, ?_⟩) (by assumption) ?_
                    rotate_left 1
                    · intro w' hw'; have u1 := below_heap hw' Q1.out; clear hw'; go_simp; try with_reducible rfl
                    try simp only [Act.put, List.setIfInBounds_toArray, List.set_cons_zero, List.set_cons_succ]
                    refine wpAnyH_take (i := 22) (oi := ⟨some 106, _, _, _, _, _⟩) (v := ?_) rfl (by kernel_rfl) (by kernel_rfl) (by kernel_rfl) (fun _ _ _ h => h) (Or.inl ⟨by kernel_rfl, ?_⟩) (by assumption) ?_
                    rotate_left 1
                    · intro w' hw'; clear hw'; go_simp; try with_reducible rfl
                    try simp only [Act.put, List.setIfInBounds_toArray, List.set_cons_zero, List.set_cons_succ]
                    refine wpAnyH_take (i := 23) (oi := ⟨some 107, _, _, _, _, _⟩) (v := ?_) rfl (by kernel_rfl) (by kernel_rfl) (by kernel_rfl) (fun _ _ _ h => h) (Or.inl ⟨by kernel_rfl, ?_⟩) (by assumption) ?_
                    rotate_left 1
                    · intro w' hw'; clear hw'; go_simp; try with_reducible rfl
                    try simp only [Act.put, List.setIfInBounds_toArray, List.set_cons_zero, List.set_cons_succ]
                    refine wpAnyH_take (i := 24) (oi := ⟨some 108, .load _ _, _, _, _, _⟩) (v := .agg ms.cells) rfl (by kernel_rfl) (by kernel_rfl) (by kernel_rfl) (fun _ _ _ h => h) (Or.inl ⟨by kernel_rfl, fun w' hw' => exec_load_m 61 (.tmp 107) rfl (b5) (off5 + i * 12) rfl (ms.cells).toList _ (below_range hw' Q4.out) Tryz.underlying61 rfl (by kernel_rfl)⟩) (by assumption) ?_
                    try simp only [Act.put, List.setIfInBounds_toArray, List.set_cons_zero, List.set_cons_succ]
                    refine wpAnyH_take (i := 25) (oi := ⟨some 109, .load _ _, _, _, _, _⟩) (v := .agg ms.cells) rfl (by kernel_rfl) (by kernel_rfl) (by kernel_rfl) (fun _ _ _ h => h) (Or.inl ⟨by kernel_rfl, fun w' hw' => exec_load_m 61 (.tmp 11) rfl (w5.heap.size) (0) rfl (ms.cells).toList _ (below_range hw' Q5.out) Tryz.underlying61 rfl (by kernel_rfl)⟩) (by assumption) ?_
                    try simp only [Act.put, List.setIfInBounds_toArray, List.set_cons_zero, List.set_cons_succ]
                    refine wpAnyH_take (i := 26) (oi := ⟨some 110, .binOp _ _ _ _ _, _, _, _, _⟩) (v := .bool false) rfl (by kernel_rfl) (by kernel_rfl) (by kernel_rfl) (fun _ _ _ h => h) (Or.inl ⟨by kernel_rfl, fun w' hw' => exec_neqS ms (.tmp 108) (.tmp 109) rfl rfl rfl⟩) (by assumption) ?_
                    try simp only [Act.put, List.setIfInBounds_toArray, List.set_cons_zero, List.set_cons_succ]
                    refine wpAnyH_take (i := 27) (oi := ⟨some 111, _, _, _, _, _⟩) (v := ?_) rfl (by kernel_rfl) (by kernel_rfl) (by kernel_rfl) (fun _ _ _ h => h) (Or.inl ⟨by kernel_rfl, ?_⟩) (by assumption) ?_
                    rotate_left 1
                    · intro w' hw'; clear hw'; go_simp; try with_reducible rfl
                    try simp only [Act.put, List.setIfInBounds_toArray, List.set_cons_zero, List.set_cons_succ]
                    refine wpAnyH_take (i := 28) (oi := ⟨some 112, _, _, _, _, _⟩) (v := ?_) rfl (by kernel_rfl) (by kernel_rfl) (by kernel_rfl) (fun _ _ _ h => h) (Or.inl ⟨by kernel_rfl, ?_⟩) (by assumption) ?_
                    rotate_left 1
                    · intro w' hw'; clear hw'; go_simp; try with_reducible rfl
                    try simp only [Act.put, List.setIfInBounds_toArray, List.set_cons_zero, List.set_cons_succ]
                    refine wpAnyH_done (by kernel_rfl) ?_ _
                    have HB8 := Lib.hid (below_trans HB6.out hHeld)
                    clear hHeld HB6 Q1 Q2 Q3 Q5 Q4
                    go_wp2_with fail
                    go_roundg (n + 64 - (i + 1))
                    case measure => have := Hgi.out; omega
                    case rel => exact ⟨i + 1, by have := Hgi.out; omega, by go_num, HB8.out⟩
                  · have hi4 : decide ((i : Int) < (n : Int)) = false := by simp; omega
                    have P := Lib.hid (And.intro p1 (And.intro p2 p3))
                    clear Hv Hw hmk p3
                    go_wp2_with fail
                    clear p1 p2
                    refine (Hmc.out _).mono ?_
                    rintro e w5 ⟨rfl, hb5⟩
                    have HB5 := Lib.hid hb5
                    clear hb5
                    go_wp2_with ((with_reducible refine wpList_store_k ?qb0 61 (.tmp 11) (.tmp 83) ?qb1 (w5.heap.size) 0 ms.cells.toList ?qb2 ms.cells ?qb3 (SesM.listS _) ?qb4 ?qb5 ?qb6 ?qb7); (case qb1 => rfl); (case qb0 => rfl); (case qb2 => rfl); (case qb3 => rfl); (case qb4 => exact thereZ _ _); (case qb5 => kernel_rfl); (case qb6 => exact SesM.oneS _))
                    intro wz hwz
                    obtain ⟨hbz, hbw⟩ := putZ hwz
                    have hb6 := below_trans HB5.out hbw
                    have Q5 := Lib.hid (hbz.range 0 _ (fun j v hv => by rw [Nat.zero_add]; rw [← Array.getElem?_toList]; exact hv))
                    have Q1 := Lib.hid (below_heap hb6 P.out.1)
                    have Q2 := Lib.hid (below_heap hb6 P.out.2.1)
                    have Q3 := Lib.hid (below_range hb6 P.out.2.2)
                    have HB6 := Lib.hid (below_trans HB4.out hb6)
                    clear hb6 P hbz hbw hwz HB5
                    go_wp2_with fail
                    refine wp_region_held_drew (S := fun W => Below wz.heap.size wz W) (by kernel_rfl) (below_drew wz) (fun hHeld => ?_)
                    refine wpAnyH_take (i := 0) (oi := ⟨some 84, _, _, _, _, _⟩) (v := ?_) rfl (by kernel_rfl) (by kernel_rfl) (by kernel_rfl) (fun _ _ _ h => h) (Or.inl ⟨by kernel_rfl, ?_⟩) (by assumption) ?_
                    rotate_left 1
                    · intro w' hw'; clear hw'; go_simp; try with_reducible rfl
                    try simp only [Act.put, List.setIfInBounds_toArray, List.set_cons_zero, List.set_cons_succ]
                    refine wpAnyH_take (i := 1) (oi := ⟨some 85, _, _, _, _, _⟩) (v := ?_) rfl (by kernel_rfl) (by kernel_rfl) (by kernel_rfl) (fun _ _ _ h => h) (Or.inl ⟨by kernel_rfl, ?_⟩) (by assumption) ?_
                    rotate_left 1
                    · intro w' hw'; clear hw'; go_simp; try with_reducible rfl
                    try simp only [Act.put, List.setIfInBounds_toArray, List.set_cons_zero, List.set_cons_succ]
                    refine wpAnyH_take (i := 2) (oi := ⟨some 86, _, _, _, _, _⟩) (v := ?_) rfl (by kernel_rfl) (by kernel_rfl) (by kernel_rfl) (fun _ _ _ h => h) (Or.inl ⟨by kernel_rfl, ?_⟩) (by assumption) ?_
                    rotate_left 1
                    · intro w' hw'; clear hw'; go_simp; try with_reducible rfl
                    try simp only [Act.put, List.setIfInBounds_toArray, List.set_cons_zero, List.set_cons_succ]
                    refine wpAnyH_take (i := 3) (oi := ⟨some 87, _, _, _, _, _⟩) (v := ?_) rfl (by kernel_rfl) (by kernel_rfl) (by kernel_rfl) (fun _ _ _ h => h) (Or.inl ⟨by kernel_rfl, ?_⟩) (by assumption) ?_
                    rotate_left 1
                    · intro w' hw'; have u1 := below_heap hw' Q2.out; clear hw'; go_simp; try with_reducible rfl
                    try simp only [Act.put, List.setIfInBounds_toArray, List.set_cons_zero, List.set_cons_succ]
                    refine wpAnyH_take (i := 4) (oi := ⟨some 88, _, _, _, _, _⟩) (v := ?_) rfl (by kernel_rfl) (by kernel_rfl) (by kernel_rfl) (fun _ _ _ h => h) (Or.inl ⟨by kernel_rfl, ?_⟩) (by assumption) ?_
                    rotate_left 1
                    · intro w' hw'; clear hw'; go_simp; try with_reducible rfl
                    try simp only [Act.put, List.setIfInBounds_toArray, List.set_cons_zero, List.set_cons_succ]
                    refine wpAnyH_take (i := 5) (oi := ⟨some 89, _, _, _, _, _⟩) (v := ?_) rfl (by kernel_rfl) (by kernel_rfl) (by kernel_rfl) (fun _ _ _ h => h) (Or.inl ⟨by kernel_rfl, ?_⟩) (by assumption) ?_
                    rotate_left 1
                    · intro w' hw'; clear hw'; go_simp; try with_reducible rfl
                    try simp only [Act.put, List.setIfInBounds_toArray, List.set_cons_zero, List.set_cons_succ]
                    refine wpAnyH_take (i := 6) (oi := ⟨some 90, .load _ _, _, _, _, _⟩) (v := .agg ms.cells) rfl (by kernel_rfl) (by kernel_rfl) (by kernel_rfl) (fun _ _ _ h => h) (Or.inl ⟨by kernel_rfl, fun w' hw' => exec_load_m 61 (.tmp 89) rfl (b4) (off4 + i * 12) rfl (ms.cells).toList _ (below_range hw' Q3.out) Tryz.underlying61 rfl (by kernel_rfl)⟩) (by assumption) ?_
                    try simp only [Act.put, List.setIfInBounds_toArray, List.set_cons_zero, List.set_cons_succ]
                    refine wpAnyH_take (i := 7) (oi := ⟨some 91, .load _ _, _, _, _, _⟩) (v := .agg ms.cells) rfl (by kernel_rfl) (by kernel_rfl) (by kernel_rfl) (fun _ _ _ h => h) (Or.inl ⟨by kernel_rfl, fun w' hw' => exec_load_m 61 (.tmp 11) rfl (w5.heap.size) (0) rfl (ms.cells).toList _ (below_range hw' Q5.out) Tryz.underlying61 rfl (by kernel_rfl)⟩) (by assumption) ?_
                    try simp only [Act.put, List.setIfInBounds_toArray, List.set_cons_zero, List.set_cons_succ]
                    refine wpAnyH_take (i := 8) (oi := ⟨some 92, .binOp _ _ _ _ _, _, _, _, _⟩) (v := .bool false) rfl (by kernel_rfl) (by kernel_rfl) (by kernel_rfl) (fun _ _ _ h => h) (Or.inl ⟨by kernel_rfl, fun w' hw' => exec_neqS ms (.tmp 90) (.tmp 91) rfl rfl rfl⟩) (by assumption) ?_
                    try simp only [Act.put, List.setIfInBounds_toArray, List.set_cons_zero, List.set_cons_succ]
                    refine wpAnyH_take (i := 9) (oi := ⟨some 93, _, _, _, _, _⟩) (v := ?_) rfl (by kernel_rfl) (by kernel_rfl) (by kernel_rfl) (fun _ _ _ h => h) (Or.inl ⟨by kernel_rfl, ?_⟩) (by assumption) ?_
                    rotate_left 1
                    · intro w' hw'; clear hw'; go_simp; try with_reducible rfl
                    try simp only [Act.put, List.setIfInBounds_toArray, List.set_cons_zero, List.set_cons_succ]
                    refine wpAnyH_take (i := 10) (oi := ⟨some 94, _, _, _, _, _⟩) (v := ?_) rfl (by kernel_rfl) (by kernel_rfl) (by kernel_rfl) (fun _ _ _ h => h) (Or.inl ⟨by kernel_rfl, ?_⟩) (by assumption) ?_
                    rotate_left 1
                    · intro w' hw'; clear hw'; go_simp; try with_reducible rfl
                    try simp only [Act.put, List.setIfInBounds_toArray, List.set_cons_zero, List.set_cons_succ]
                    refine wpAnyH_take (i := 11) (oi := ⟨some 95, _, _, _, _, _⟩) (v := ?_) rfl (by kernel_rfl) (by kernel_rfl) (by kernel_rfl) (fun _ _ _ h => h) (Or.inl ⟨by kernel_rfl, ?_⟩) (by assumption) ?_
                    rotate_left 1
                    · intro w' hw'; clear hw'; go_simp; try with_reducible rfl
                    try simp only [Act.put, List.setIfInBounds_toArray, List.set_cons_zero, List.set_cons_succ]
                    refine wpAnyH_take (i := 12) (oi := ⟨some 96, _, _, _, _, _⟩) (v := ?_) rfl (by kernel_rfl) (by kernel_rfl) (by kernel_rfl) (fun _ _ _ h => h) (Or.inl ⟨by kernel_rfl, ?_⟩) (by assumption) ?_
                    rotate_left 1
                    · intro w' hw'; clear hw'; go_simp; try with_reducible rfl
                    try simp only [Act.put, List.setIfInBounds_toArray, List.set_cons_zero, List.set_cons_succ]
                    refine wpAnyH_take (i := 13) (oi := ⟨some 97, _, _, _, _, _⟩) (v := ?_) rfl (by kernel_rfl) (by kernel_rfl) (by kernel_rfl) (fun _ _ _ h => h) (Or.inl ⟨by kernel_rfl, ?_⟩) (by assumption) ?_
                    rotate_left 1
                    · intro w' hw'; clear hw'; go_simp; try with_reducible rfl
                    try simp only [Act.put, List.setIfInBounds_toArray, List.set_cons_zero, List.set_cons_succ]
                    refine wpAnyH_take (i := 14) (oi := ⟨some 98, _, _, _, _, _⟩) (v := ?_) rfl (by kernel_rfl) (by kernel_rfl) (by kernel_rfl) (fun _ _ _ h => h) (Or.inl ⟨by kernel_rfl, ?_⟩) (by assumption) ?_
                    rotate_left 1
                    · intro w' hw'; have u1 := below_heap hw' Q1.out; clear hw'; go_simp; try with_reducible rfl
                    try simp only [Act.put, List.setIfInBounds_toArray, List.set_cons_zero, List.set_cons_succ]
                    refine wpAnyH_take (i := 15) (oi := ⟨some 99, _, _, _, _, _⟩) (v := ?_) rfl (by kernel_rfl) (by kernel_rfl) (by kernel_rfl) (fun _ _ _ h => h) (Or.inl ⟨by kernel_rfl, ?_⟩) (by assumption) ?_
                    rotate_left 1
                    · intro w' hw'; clear hw'; go_simp; try with_reducible rfl
                    try simp only [Act.put, List.setIfInBounds_toArray, List.set_cons_zero, List.set_cons_succ]
                    refine wpAnyH_take (i := 16) (oi := ⟨some 100, _, _, _, _, _⟩) (v := ?_) rfl (by kernel_rfl) (by kernel_rfl) (by kernel_rfl) (fun _ _ _ h => h) (Or.inl ⟨by kernel_rfl, ?_⟩) (by assumption) ?_
                    rotate_left 1
                    · intro w' hw'; clear hw'; go_simp; try with_reducible rfl
                    try simp only [Act.put, List.setIfInBounds_toArray, List.set_cons_zero, List.set_cons_succ]
                    refine wpAnyH_take (i := 17) (oi := ⟨some 101, _, _, _, _, _⟩) (v := ?_) rfl (by kernel_rfl) (by kernel_rfl) (by kernel_rfl) (fun _ _ _ h => h) (Or.inl ⟨by kernel_rfl, ?_⟩) (by assumption) ?_
                    rotate_left 1
                    · intro w' hw'; clear hw'; go_simp; try with_reducible rfl
                    try simp only [Act.put, List.setIfInBounds_toArray, List.set_cons_zero, List.set_cons_succ]
                    refine wpAnyH_take (i := 18) (oi := ⟨some 102, _, _, _, _, _⟩) rfl (by kernel_rfl) (by kernel_rfl) (by kernel_rfl) (fun _ _ _ h => h) (Or.inr ⟨by kernel_rfl, rfl⟩) (by assumption) ?_
                    try simp only [Act.put, List.setIfInBounds_toArray, List.set_cons_zero, List.set_cons_succ]
                    refine wpAnyH_take (i := 19) (oi := ⟨some 103, _, _, _, _, _⟩) rfl (by kernel_rfl) (by kernel_rfl) (by kernel_rfl) (fun _ _ _ h => h) (Or.inr ⟨by kernel_rfl, rfl⟩) (by assumption) ?_
                    try simp only [Act.put, List.setIfInBounds_toArray, List.set_cons_zero, List.set_cons_succ]
                    refine wpAnyH_take (i := 20) (oi := ⟨some 104, _, _, _, _, _⟩) rfl (by kernel_rfl) (by kernel_rfl) (by kernel_rfl) (fun _ _ _ h => h) (Or.inr ⟨by kernel_rfl, rfl⟩) (by assumption) ?_
                    try simp only [Act.put, List.setIfInBounds_toArray, List.set_cons_zero, List.set_cons_succ]
                    refine wpAnyH_take (i := 21) (oi := ⟨some 105, _, _, _, _, _⟩) rfl (by kernel_rfl) (by kernel_rfl) (by kernel_rfl) (fun _ _ _ h => h) (Or.inr ⟨by kernel_rfl, rfl⟩) (by assumption) ?_
                    try simp only [Act.put, List.setIfInBounds_toArray, List.set_cons_zero, List.set_cons_succ]
                    refine wpAnyH_take (i := 22) (oi := ⟨some 106, _, _, _, _, _⟩) rfl (by kernel_rfl) (by kernel_rfl) (by kernel_rfl) (fun _ _ _ h => h) (Or.inr ⟨by kernel_rfl, rfl⟩) (by assumption) ?_
                    try simp only [Act.put, List.setIfInBounds_toArray, List.set_cons_zero, List.set_cons_succ]
                    refine wpAnyH_take (i := 23) (oi := ⟨some 107, _, _, _, _, _⟩) rfl (by kernel_rfl) (by kernel_rfl) (by kernel_rfl) (fun _ _ _ h => h) (Or.inr ⟨by kernel_rfl, rfl⟩) (by assumption) ?_
                    try simp only [Act.put, List.setIfInBounds_toArray, List.set_cons_zero, List.set_cons_succ]
                    refine wpAnyH_take (i := 24) (oi := ⟨some 108, _, _, _, _, _⟩) rfl (by kernel_rfl) (by kernel_rfl) (by kernel_rfl) (fun _ _ _ h => h) (Or.inr ⟨by kernel_rfl, rfl⟩) (by assumption) ?_
                    try simp only [Act.put, List.setIfInBounds_toArray, List.set_cons_zero, List.set_cons_succ]
                    refine wpAnyH_take (i := 25) (oi := ⟨some 109, _, _, _, _, _⟩) rfl (by kernel_rfl) (by kernel_rfl) (by kernel_rfl) (fun _ _ _ h => h) (Or.inr ⟨by kernel_rfl, rfl⟩) (by assumption) ?_
                    try simp only [Act.put, List.setIfInBounds_toArray, List.set_cons_zero, List.set_cons_succ]
                    refine wpAnyH_take (i := 26) (oi := ⟨some 110, _, _, _, _, _⟩) rfl (by kernel_rfl) (by kernel_rfl) (by kernel_rfl) (fun _ _ _ h => h) (Or.inr ⟨by kernel_rfl, rfl⟩) (by assumption) ?_
                    try simp only [Act.put, List.setIfInBounds_toArray, List.set_cons_zero, List.set_cons_succ]
                    refine wpAnyH_take (i := 27) (oi := ⟨some 111, _, _, _, _, _⟩) (v := ?_) rfl (by kernel_rfl) (by kernel_rfl) (by kernel_rfl) (fun _ _ _ h => h) (Or.inl ⟨by kernel_rfl, ?_⟩) (by assumption) ?_
                    rotate_left 1
                    · intro w' hw'; clear hw'; go_simp; try with_reducible rfl
                    try simp only [Act.put, List.setIfInBounds_toArray, List.set_cons_zero, List.set_cons_succ]
                    refine wpAnyH_take (i := 28) (oi := ⟨some 112, _, _, _, _, _⟩) (v := ?_) rfl (by kernel_rfl) (by kernel_rfl) (by kernel_rfl) (fun _ _ _ h => h) (Or.inl ⟨by kernel_rfl, ?_⟩) (by assumption) ?_
                    rotate_left 1
                    · intro w' hw'; clear hw'; go_simp; try with_reducible rfl
                    try simp only [Act.put, List.setIfInBounds_toArray, List.set_cons_zero, List.set_cons_succ]
                    refine wpAnyH_done (by kernel_rfl) ?_ _
                    have HB8 := Lib.hid (below_trans HB6.out hHeld)
                    clear hHeld HB6 Q1 Q2 Q3 Q5
                    go_wp2_with fail
                    go_roundg (n + 64 - (i + 1))
                    case measure => have := Hgi.out; omega
                    case rel => exact ⟨i + 1, by have := Hgi.out; omega, by go_num, HB8.out⟩
                · obtain rfl : i = n + 64 := by have := Hgi.out; omega
                  have HB7 := Lib.hid (HB3.out.trans (hb4.mono HB3.out.size))
                  have p1 := below_heap hb4 hc
                  have p2 := below_heap hb4 hd
                  clear Hv Hw hb4 hc hd
                  go_wp2_with fail
                  go_roundg (R.N - (k + 1))
                  case measure => have := Hgk.out; omega
                  case rel => exact ⟨k + 1, by have := Hgk.out; omega, by go_num, HB7.out⟩
            · obtain rfl : k = R.N := by omega
              have HB7 := Lib.hid hb3
              clear HT hgk hb3
              go_wp2_with fail
              go_ret
              exact ⟨rfl, Hmod.out.then (Mod.of_below (F := fun _ => False) HB7.out) (fun _ h => h.elim)⟩
end Go.Proofs.YtdaimaibnjkfbaaGreatDoor
/-
  The Apart.. functions of a list that holds nothing.
-/
namespace Go.Proofs.YtdaimaibnjkfbaaGreatDoor
open Go.RowKit
set_option maxRecDepth 100000

theorem apartBytes_nil (w : World) : Calls Tryz.prog 28 #[.slice none 0 0] w fun e w' => e = .returned (.bool true) ∧ w = w' := by
  go_enter Tryz.func28, Tryz.ntmps28
  go_wp2_with fail
  go_loopg [3] 0 (fun _ iv wr => iv = .int .i64 0 ∧ w = wr)
  case atStart => exact ⟨rfl, rfl⟩
  case round =>
    obtain ⟨rfl, rfl⟩ := hrel
    go_wp2_with fail
    go_loopg [6] 0 (fun _ iv wr => iv = .int .i64 0 ∧ w = wr)
    case atStart => exact ⟨rfl, rfl⟩
    case round =>
      obtain ⟨rfl, rfl⟩ := hrel
      go_wp2_with fail
      go_loopg [9] 0 (fun _ iv wr => iv = .int .i64 0 ∧ w = wr)
      case atStart => exact ⟨rfl, rfl⟩
      case round =>
        obtain ⟨rfl, rfl⟩ := hrel
        go_wp2_with fail
        go_ret
        exact ⟨rfl, rfl⟩
theorem apartTexts_nil (w : World) : Calls Tryz.prog 29 #[.slice none 0 0] w fun e w' => e = .returned (.bool true) ∧ w = w' := by
  go_enter Tryz.func29, Tryz.ntmps29
  go_wp2_with fail
  go_loopg [3] 0 (fun _ iv wr => iv = .int .i64 0 ∧ w = wr)
  case atStart => exact ⟨rfl, rfl⟩
  case round =>
    obtain ⟨rfl, rfl⟩ := hrel
    go_wp2_with fail
    go_loopg [6] 0 (fun _ iv wr => iv = .int .i64 0 ∧ w = wr)
    case atStart => exact ⟨rfl, rfl⟩
    case round =>
      obtain ⟨rfl, rfl⟩ := hrel
      go_wp2_with fail
      go_loopg [9] 0 (fun _ iv wr => iv = .int .i64 0 ∧ w = wr)
      case atStart => exact ⟨rfl, rfl⟩
      case round =>
        obtain ⟨rfl, rfl⟩ := hrel
        go_wp2_with fail
        go_ret
        exact ⟨rfl, rfl⟩
theorem apartInts_nil (w : World) : Calls Tryz.prog 30 #[.slice none 0 0] w fun e w' => e = .returned (.bool true) ∧ w = w' := by
  go_enter Tryz.func30, Tryz.ntmps30
  go_wp2_with fail
  go_loopg [3] 0 (fun _ iv wr => iv = .int .i64 0 ∧ w = wr)
  case atStart => exact ⟨rfl, rfl⟩
  case round =>
    obtain ⟨rfl, rfl⟩ := hrel
    go_wp2_with fail
    go_loopg [6] 0 (fun _ iv wr => iv = .int .i64 0 ∧ w = wr)
    case atStart => exact ⟨rfl, rfl⟩
    case round =>
      obtain ⟨rfl, rfl⟩ := hrel
      go_wp2_with fail
      go_loopg [9] 0 (fun _ iv wr => iv = .int .i64 0 ∧ w = wr)
      case atStart => exact ⟨rfl, rfl⟩
      case round =>
        obtain ⟨rfl, rfl⟩ := hrel
        go_wp2_with fail
        go_ret
        exact ⟨rfl, rfl⟩
theorem apartNumbers_nil (w : World) : Calls Tryz.prog 31 #[.slice none 0 0] w fun e w' => e = .returned (.bool true) ∧ w = w' := by
  go_enter Tryz.func31, Tryz.ntmps31
  go_wp2_with fail
  go_loopg [3] 0 (fun _ iv wr => iv = .int .i64 0 ∧ w = wr)
  case atStart => exact ⟨rfl, rfl⟩
  case round =>
    obtain ⟨rfl, rfl⟩ := hrel
    go_wp2_with fail
    go_loopg [6] 0 (fun _ iv wr => iv = .int .i64 0 ∧ w = wr)
    case atStart => exact ⟨rfl, rfl⟩
    case round =>
      obtain ⟨rfl, rfl⟩ := hrel
      go_wp2_with fail
      go_loopg [9] 0 (fun _ iv wr => iv = .int .i64 0 ∧ w = wr)
      case atStart => exact ⟨rfl, rfl⟩
      case round =>
        obtain ⟨rfl, rfl⟩ := hrel
        go_wp2_with fail
        go_ret
        exact ⟨rfl, rfl⟩
theorem apartSessions_nil (w : World) : Calls Tryz.prog 32 #[.slice none 0 0] w fun e w' => e = .returned (.bool true) ∧ w = w' := by
  go_enter Tryz.func32, Tryz.ntmps32
  go_wp2_with fail
  go_loopg [3] 0 (fun _ iv wr => iv = .int .i64 0 ∧ w = wr)
  case atStart => exact ⟨rfl, rfl⟩
  case round =>
    obtain ⟨rfl, rfl⟩ := hrel
    go_wp2_with fail
    go_loopg [6] 0 (fun _ iv wr => iv = .int .i64 0 ∧ w = wr)
    case atStart => exact ⟨rfl, rfl⟩
    case round =>
      obtain ⟨rfl, rfl⟩ := hrel
      go_wp2_with fail
      go_loopg [9] 0 (fun _ iv wr => iv = .int .i64 0 ∧ w = wr)
      case atStart => exact ⟨rfl, rfl⟩
      case round =>
        obtain ⟨rfl, rfl⟩ := hrel
        go_wp2_with fail
        go_ret
        exact ⟨rfl, rfl⟩
theorem apartSlots_nil (w : World) : Calls Tryz.prog 33 #[.slice none 0 0] w fun e w' => e = .returned (.bool true) ∧ w = w' := by
  go_enter Tryz.func33, Tryz.ntmps33
  go_wp2_with fail
  go_loopg [3] 0 (fun _ iv wr => iv = .int .i64 0 ∧ w = wr)
  case atStart => exact ⟨rfl, rfl⟩
  case round =>
    obtain ⟨rfl, rfl⟩ := hrel
    go_wp2_with fail
    go_loopg [6] 0 (fun _ iv wr => iv = .int .i64 0 ∧ w = wr)
    case atStart => exact ⟨rfl, rfl⟩
    case round =>
      obtain ⟨rfl, rfl⟩ := hrel
      go_wp2_with fail
      go_loopg [9] 0 (fun _ iv wr => iv = .int .i64 0 ∧ w = wr)
      case atStart => exact ⟨rfl, rfl⟩
      case round =>
        obtain ⟨rfl, rfl⟩ := hrel
        go_wp2_with fail
        go_ret
        exact ⟨rfl, rfl⟩
theorem apartLinks_nil (w : World) : Calls Tryz.prog 34 #[.slice none 0 0] w fun e w' => e = .returned (.bool true) ∧ w = w' := by
  go_enter Tryz.func34, Tryz.ntmps34
  go_wp2_with fail
  go_loopg [3] 0 (fun _ iv wr => iv = .int .i64 0 ∧ w = wr)
  case atStart => exact ⟨rfl, rfl⟩
  case round =>
    obtain ⟨rfl, rfl⟩ := hrel
    go_wp2_with fail
    go_loopg [6] 0 (fun _ iv wr => iv = .int .i64 0 ∧ w = wr)
    case atStart => exact ⟨rfl, rfl⟩
    case round =>
      obtain ⟨rfl, rfl⟩ := hrel
      go_wp2_with fail
      go_loopg [9] 0 (fun _ iv wr => iv = .int .i64 0 ∧ w = wr)
      case atStart => exact ⟨rfl, rfl⟩
      case round =>
        obtain ⟨rfl, rfl⟩ := hrel
        go_wp2_with fail
        go_ret
        exact ⟨rfl, rfl⟩
theorem apartEvents_nil (w : World) : Calls Tryz.prog 35 #[.slice none 0 0] w fun e w' => e = .returned (.bool true) ∧ w = w' := by
  go_enter Tryz.func35, Tryz.ntmps35
  go_wp2_with fail
  go_loopg [3] 0 (fun _ iv wr => iv = .int .i64 0 ∧ w = wr)
  case atStart => exact ⟨rfl, rfl⟩
  case round =>
    obtain ⟨rfl, rfl⟩ := hrel
    go_wp2_with fail
    go_loopg [6] 0 (fun _ iv wr => iv = .int .i64 0 ∧ w = wr)
    case atStart => exact ⟨rfl, rfl⟩
    case round =>
      obtain ⟨rfl, rfl⟩ := hrel
      go_wp2_with fail
      go_loopg [9] 0 (fun _ iv wr => iv = .int .i64 0 ∧ w = wr)
      case atStart => exact ⟨rfl, rfl⟩
      case round =>
        obtain ⟨rfl, rfl⟩ := hrel
        go_wp2_with fail
        go_ret
        exact ⟨rfl, rfl⟩
theorem apartRaws_nil (w : World) : Calls Tryz.prog 36 #[.slice none 0 0] w fun e w' => e = .returned (.bool true) ∧ w = w' := by
  go_enter Tryz.func36, Tryz.ntmps36
  go_wp2_with fail
  go_loopg [3] 0 (fun _ iv wr => iv = .int .i64 0 ∧ w = wr)
  case atStart => exact ⟨rfl, rfl⟩
  case round =>
    obtain ⟨rfl, rfl⟩ := hrel
    go_wp2_with fail
    go_loopg [6] 0 (fun _ iv wr => iv = .int .i64 0 ∧ w = wr)
    case atStart => exact ⟨rfl, rfl⟩
    case round =>
      obtain ⟨rfl, rfl⟩ := hrel
      go_wp2_with fail
      go_loopg [9] 0 (fun _ iv wr => iv = .int .i64 0 ∧ w = wr)
      case atStart => exact ⟨rfl, rfl⟩
      case round =>
        obtain ⟨rfl, rfl⟩ := hrel
        go_wp2_with fail
        go_ret
        exact ⟨rfl, rfl⟩
theorem apartCommands_nil (w : World) : Calls Tryz.prog 37 #[.slice none 0 0] w fun e w' => e = .returned (.bool true) ∧ w = w' := by
  go_enter Tryz.func37, Tryz.ntmps37
  go_wp2_with fail
  go_loopg [3] 0 (fun _ iv wr => iv = .int .i64 0 ∧ w = wr)
  case atStart => exact ⟨rfl, rfl⟩
  case round =>
    obtain ⟨rfl, rfl⟩ := hrel
    go_wp2_with fail
    go_loopg [6] 0 (fun _ iv wr => iv = .int .i64 0 ∧ w = wr)
    case atStart => exact ⟨rfl, rfl⟩
    case round =>
      obtain ⟨rfl, rfl⟩ := hrel
      go_wp2_with fail
      go_loopg [9] 0 (fun _ iv wr => iv = .int .i64 0 ∧ w = wr)
      case atStart => exact ⟨rfl, rfl⟩
      case round =>
        obtain ⟨rfl, rfl⟩ := hrel
        go_wp2_with fail
        go_ret
        exact ⟨rfl, rfl⟩
end Go.Proofs.YtdaimaibnjkfbaaGreatDoor
/-
  The book's lists of sessions; its Apart.
-/
namespace Go.Proofs.YtdaimaibnjkfbaaGreatDoor
open Go.RowKit
set_option maxRecDepth 100000

theorem info_sess : (Tryz.prog.info? 23).map (fun i => (i.zero, i.size, i.bytes)) = some (some (.slice none 0 0), 1, 24) := by kernel_rfl
/-- A book's cells: only sessions are in it. -/
def bookS (bv : Value) : Array Value := #[.slice none 0 0, .slice none 0 0, .slice none 0 0, .slice none 0 0, bv, .slice none 0 0, .slice none 0 0, .slice none 0 0, .slice none 0 0, .slice none 0 0]
theorem own_formS {w : World} {B : Nat} {e : TypeId} {sz n : Nat} {v : Value} {xs : List Value} (h : w.ownsRow B e sz v n xs) : ∃ a cap, v = .slice a n cap := by
  rcases h.2 with ⟨rfl, rfl⟩ | ⟨g, cap, cur, rfl, _⟩
  · exact ⟨none, 0, rfl⟩
  · exact ⟨_, cap, rfl⟩
/-- A list more: it is a variable's value, laid in the book's own row. -/
theorem bookSes_calls (bp B n m : Nat) (bv : Value) (ys : List Value) (ta : Option Addr) (tc : Nat) (w : World) (hb : Box w bp (bookS bv) 47) (ho : w.ownsRow B 23 1 bv n ys) (hne : bv.ownBlock ≠ some bp) (hn : n ≤ 1000000) (hB : B ≤ w.heap.size) :
    Calls Tryz.prog 27 #[.pointer (some ⟨bp, 0, none⟩), .slice ta m tc] w fun e w' => e = .returned (.tuple #[]) ∧ ∃ bv', Box w' bp (bookS bv') 47 ∧ w'.ownsRow B 23 1 bv' (n + 1) (ys ++ [.slice ta m tc]) ∧
      Mod (fun b => b = bp ∨ bv.ownBlock = some b) w w' ∧ (bv'.ownBlock = bv.ownBlock ∨ ∃ k, bv'.ownBlock = some k ∧ w.heap.size ≤ k) ∧ bv'.ownBlock ≠ some bp := by
  obtain ⟨ba, bc, rfl⟩ := own_formS ho
  have c4 := hb.cell 4 _ rfl
  have HBx := Lib.hid hb
  have HOwn := Lib.hid (own_below ho (below_alloc w (.cells #[.slice ta m tc] 23)))
  have HsA := Lib.hid (Nat.le_trans hB (below_alloc w (.cells #[.slice ta m tc] 23)).size)
  have HY := Lib.hid (show (w.alloc (.cells #[.slice ta m tc] 23)).cell? ⟨w.heap.size, 0, none⟩ = some (.slice ta m tc) from (Box.new w #[.slice ta m tc] 23).cell 0 _ rfl)
  have Hne := Lib.hid hne
  obtain ⟨i0, hi, hz0, hz1, hz2⟩ := info_parts info_sess
  clear hb ho hne hB
  go_enter Tryz.func27, Tryz.ntmps27
  go_wp2_with (at_builtin; refine wpList_append_own2 rfl _ _ 40 rfl B 23 i0 (.slice none 0 0) 1 24 Tryz.underlying40 hi hz0 hz1 hz2 rfl (by decide) _ n ys rfl HOwn.out ⟨w.heap.size, 0, none⟩ 1 1 [.slice ta m tc] rfl rfl (fun j u hj => by
    cases j with
    | zero => simp at hj; subst hj; exact HY.out
    | succ j => simp at hj) (by simp [Value.oneCell']) (by unfold maxLen; omega) (by omega) HsA.out ?_)
  intro v' w3 hv3 hg3 hm3
  obtain ⟨na, nc, rfl⟩ := own_formS hv3
  have m4 := Mod.of_grown (F := fun k => (Value.slice ba n bc).ownBlock = some k) hg3 (fun _ h => h)
  have l1 := Box.mod (Box.below HBx.out (below_alloc w (.cells #[.slice ta m tc] 23))) m4 (fun e => Hne.out e)
  have f4 := l1.free 4
  have c4' := l1.cell 4 _ rfl
  have Hl1 := Lib.hid (l1.set 4 (.slice na (n + 1) nc))
  have Hv3 := Lib.hid hv3
  have Hm4 := Lib.hid m4
  have Hm3 := Lib.hid hm3
  have hbpl : bp < w.heap.size := HBx.out.lt
  clear l1 hv3 hg3 hm3 m4 c4
  go_wp2_with fail
  refine bodyPost_end (results_none rfl _ _ _) rfl ?_
  have hm5 := Mod.set (fun b => b = bp) w3 ⟨bp, 4, none⟩ (.slice na (n + 1) nc) rfl
  have hno : (Value.slice na (n + 1) nc).ownBlock ≠ some bp := by
    intro e
    rcases Hm3.out with h | h
    · rw [h] at e; exact Hne.out e
    · rw [h, World.size_alloc] at e; injection e with e; omega
  refine ⟨rfl, .slice na (n + 1) nc, Hl1.out, own_mod Hv3.out hm5 (fun k hk e => hno (e ▸ hk)), ?_, ?_, hno⟩
  · exact (((Mod.alloc (fun b => (Value.slice ba n bc).ownBlock = some b) w (.cells #[.slice ta m tc] 23)).trans Hm4.out).mono (fun b hb => .inr hb)).trans (hm5.mono (fun b hb => .inl hb))
  · rcases Hm3.out with h | h
    · exact .inl h
    · exact .inr ⟨_, h, by simp⟩
theorem bookState_calls (bp B n m : Nat) (c b : Int) (bv : Value) (ys : List Value) (ta : Option Addr) (tc : Nat) (w : World) (hb : Box w bp (bookS bv) 47) (ho : w.ownsRow B 23 1 bv n ys) (hne : bv.ownBlock ≠ some bp) (hn : n ≤ 1000000) (hB : B ≤ w.heap.size) :
    Calls Tryz.prog 10 #[.pointer (some ⟨bp, 0, none⟩), .agg #[.int .i64 c, .int .i64 b, .slice ta m tc]] w fun e w' => e = .returned (.tuple #[]) ∧ ∃ bv', Box w' bp (bookS bv') 47 ∧ w'.ownsRow B 23 1 bv' (n + 1) (ys ++ [.slice ta m tc]) ∧
      Mod (fun b => b = bp ∨ bv.ownBlock = some b) w w' ∧ (bv'.ownBlock = bv.ownBlock ∨ ∃ k, bv'.ownBlock = some k ∧ w.heap.size ≤ k) ∧ bv'.ownBlock ≠ some bp := by
  have hba := below_alloc w (.cells #[.int .i64 c, .int .i64 b, .slice ta m tc] 25)
  have HC := Lib.hid (bookSes_calls bp B n m bv ys ta tc _ (hb.below hba) (own_below ho hba) hne hn (Nat.le_trans hB hba.size))
  have HM := Lib.hid (Mod.alloc (fun k => k = bp ∨ bv.ownBlock = some k) w (.cells #[.int .i64 c, .int .i64 b, .slice ta m tc] 25))
  have HZ := Lib.hid hba.size
  clear hb ho hne hn hB hba
  go_enter Tryz.func10, Tryz.ntmps10
  go_wp2_with fail
  refine HC.out.mono ?_
  rintro e w1 ⟨rfl, bv', h1, h2, h3, h4, h5⟩
  have HH := Lib.hid (And.intro h1 (And.intro h2 (And.intro h3 (And.intro h4 h5))))
  clear h1 h2 h3 h4 h5 HC
  go_wp2_with fail
  refine bodyPost_end (results_none rfl _ _ _) rfl ?_
  obtain ⟨h1, h2, h3, h4, h5⟩ := HH.out
  refine ⟨rfl, bv', h1, h2, HM.out.trans h3, ?_, h5⟩
  rcases h4 with h | ⟨k, hk, hk2⟩
  · exact .inl h
  · exact .inr ⟨k, hk, Nat.le_trans HZ.out hk2⟩
/-- The rows of a book. -/
def rowsSs (ys : List Value) (ns : Nat → Nat) (B : Nat) : RowsS := ⟨ys.length, fun i => ys.getD i undef, ns, B, 61, 12, by decide, mkSes, fun _ _ => rfl, fun _ _ => SesM.oneS _⟩
theorem map_getD_rangeS (ys : List Value) : (List.range ys.length).map (fun i => ys.getD i undef) = ys := by
  refine List.ext_getElem (by simp) fun i h1 h2 => ?_
  simp [List.getD, show i < ys.length from h2]
set_option maxHeartbeats 1600000 in
theorem bookApartS_calls (B bp c : Nat) (bv : Value) (ys : List Value) (W : World) (hc : c ≤ 10000) (hb : Box W bp (bookS bv) 47) (ho : W.ownsRow B 23 1 bv ys.length ys)
    (hr : ∀ i, i < ys.length → ∃ l : List SesM, l.length ≤ c ∧ OwnS W B (ys.getD i undef) l) (hap : ∀ i j, i < j → j < ys.length → Apart (ys.getD i undef) (ys.getD j undef)) (hyc : ys.length ≤ c)
    (hba : ∀ i, i < ys.length → Apart bv (ys.getD i undef)) (hyn : ∀ i, i < ys.length → (ys.getD i undef).ownBlock ≠ some bp) (hB : B ≤ W.heap.size) :
    Calls Tryz.prog 11 #[.pointer (some ⟨bp, 0, none⟩)] W fun e W' => e = .returned (.bool true) ∧ Mod (fun b => ∃ i, i < ys.length ∧ (ys.getD i undef).ownBlock = some b) W W' := by
  obtain ⟨ls, hls⟩ : ∃ ls : Nat → List SesM, ∀ i, i < ys.length → (ls i).length ≤ c ∧ OwnS W B (ys.getD i undef) (ls i) :=
    ⟨fun i => if hi : i < ys.length then (hr i hi).choose else [], fun i hi => by simp only [dif_pos hi]; exact (hr i hi).choose_spec⟩
  have hR := apartSes_calls (rowsSs ys (fun i => (ls i).length) B) bv W rfl rfl rfl
    ⟨⟨fun i => flatS (ls i), fun j hj => (hls j hj).2, fun j hj _ => by omega, fun _ => by simp [marksS]⟩,
      fun j j' hj hj' hne => by
        rcases Nat.lt_or_gt_of_ne hne with h | h
        · exact hap j j' h hj'
        · exact (hap j' j h hj).symm,
      by show Rd W bv ys.length _
         have := rd_of_own ho
         rw [← map_getD_rangeS ys] at this
         simpa [rowsSs] using this,
      fun j hj => hba j hj, Mod.refl _ _⟩ (by show ys.length ≤ 1000000; omega) (fun j hj => by have := (hls j hj).1; show (ls j).length ≤ _; omega) (fun b hbb => (ho.lt b hbb).2) hB
  have hR : Calls Tryz.prog 32 #[bv] W fun e W' => e = .returned (.bool true) ∧ Mod (fun b => ∃ i, i < ys.length ∧ (ys.getD i undef).ownBlock = some b) W W' := hR
  have c0 := hb.cell 0 _ rfl
  have c1 := hb.cell 1 _ rfl
  have c2 := hb.cell 2 _ rfl
  have c3 := hb.cell 3 _ rfl
  have c4 := hb.cell 4 _ rfl
  have HR := Lib.hid hR
  have HBx := Lib.hid hb
  have Hyn := Lib.hid hyn
  clear hR hb hr hap hba hyn ho hls
  go_enter Tryz.func11, Tryz.ntmps11
  go_wp2_with fail
  refine (apartBytes_nil W).mono ?_
  rintro e w1 ⟨rfl, rfl⟩
  go_wp2_with fail
  refine (apartTexts_nil W).mono ?_
  rintro e w1 ⟨rfl, rfl⟩
  go_wp2_with fail
  refine (apartInts_nil W).mono ?_
  rintro e w1 ⟨rfl, rfl⟩
  go_wp2_with fail
  refine (apartNumbers_nil W).mono ?_
  rintro e w1 ⟨rfl, rfl⟩
  go_wp2_with fail
  refine HR.out.mono ?_
  rintro e w1 ⟨rfl, hm⟩
  have hbx := Box.mod HBx.out hm (fun h => by obtain ⟨i, h1, h2⟩ := h; exact Hyn.out i h1 h2)
  have c5 := hbx.cell 5 _ rfl
  have c6 := hbx.cell 6 _ rfl
  have c7 := hbx.cell 7 _ rfl
  have c8 := hbx.cell 8 _ rfl
  have c9 := hbx.cell 9 _ rfl
  have Hm := Lib.hid hm
  clear hm hbx c0 c1 c2 c3 c4 HR HBx
  go_wp2_with fail
  refine (apartSlots_nil w1).mono ?_
  rintro e w2 ⟨rfl, rfl⟩
  go_wp2_with fail
  refine (apartLinks_nil w1).mono ?_
  rintro e w2 ⟨rfl, rfl⟩
  go_wp2_with fail
  refine (apartEvents_nil w1).mono ?_
  rintro e w2 ⟨rfl, rfl⟩
  go_wp2_with fail
  refine (apartRaws_nil w1).mono ?_
  rintro e w2 ⟨rfl, rfl⟩
  go_wp2_with fail
  refine (apartCommands_nil w1).mono ?_
  rintro e w2 ⟨rfl, rfl⟩
  go_wp2_with fail
  go_ret
  exact ⟨rfl, Hm.out⟩
end Go.Proofs.YtdaimaibnjkfbaaGreatDoor
/-
  Lists of sessions, and states, that are the same.
-/
namespace Go.Proofs.YtdaimaibnjkfbaaGreatDoor
open Go.RowKit
set_option maxRecDepth 100000

def sameL : List SesM → List SesM → Bool
  | [], [] => true
  | a :: l, b :: m => sameS a b && sameL l m
  | _, _ => false
theorem sameL_iff : ∀ {l m : List SesM}, sameL l m = true ↔ l = m
  | [], [] => by simp [sameL]
  | [], b :: m => by simp [sameL]
  | a :: l, [] => by simp [sameL]
  | a :: l, b :: m => by
    unfold sameL
    rw [Bool.and_eq_true, sameS_iff, sameL_iff]
    simp
theorem sameL_no {l m : List SesM} (h : l ≠ m) : sameL l m = false := by
  cases e : sameL l m
  · rfl
  · exact absurd (sameL_iff.1 e) h
def sameSt (a b : StM) : Bool := (a.clock == b.clock) && ((a.births == b.births) && sameL a.l b.l)
theorem sameSt_iff {a b : StM} : sameSt a b = true ↔ a = b := by
  obtain ⟨c, x, l⟩ := a
  obtain ⟨d, y, m⟩ := b
  simp [sameSt, sameL_iff]
set_option maxHeartbeats 1600000 in
theorem sameSes_calls (v v' : Value) (l m : List SesM) (w : World) (hv : RdS w v l) (hv' : RdS w v' m) :
    Calls Tryz.prog 25 #[v, v'] w fun e w' => e = .returned (.bool (sameL l m)) ∧ Below w.heap.size w w' := by
  obtain ⟨a, cap, rfl, hc1, hc2⟩ := hv.slice
  obtain ⟨a2, cap2, rfl, hd1, hd2⟩ := hv'.slice
  have HV := Lib.hid hv
  have HV2 := Lib.hid hv'
  have hln : l.length ≤ 9223372036854775807 := by omega
  have hln2 : m.length ≤ 9223372036854775807 := by omega
  by_cases hlm : l.length = m.length
  rotate_left
  · have HR := Lib.hid (sameL_no (l := l) (m := m) (fun e => hlm (by rw [e])))
    have hne : ((l.length : Int) != (m.length : Int)) = true := by rw [bne_iff_ne]; omega
    clear hlm hv hv' hc1 hd1 HV HV2
    go_enter Tryz.func25, Tryz.ntmps25
    go_wp2_with fail
    go_ret
    rw [HR.out]
    exact ⟨rfl, Below.refl _ _⟩
  obtain ⟨n, hN⟩ : ∃ n, n = l.length := ⟨_, rfl⟩
  rw [← hlm] at HV2 hd1 ⊢
  rw [← hN] at HV HV2 hc1 hd1 hln ⊢
  have HN := Lib.hid hN
  have HLM := Lib.hid hlm
  have hne : ((n : Int) != (n : Int)) = false := by rw [bne_eq_false_iff_eq]
  clear hlm hv hv' hc1 hd1 hN hln2
  go_enter Tryz.func25, Tryz.ntmps25
  go_wp2_with fail
  go_loopg [5] n (fun gk iv wr => ∃ k : Nat, gk + k = n ∧ iv = .int .i64 (k : Int) ∧ Below w.heap.size w wr ∧ Hid (l.take k = m.take k))
  case atStart => exact ⟨0, rfl, rfl, Below.refl _ _, Lib.hid rfl⟩
  case round =>
    obtain ⟨k, hgk, rfl, hb, HT⟩ := hrel
    have k0 : (0 : Int) ≤ (k : Int) := by omega
    have HGK := Lib.hid hgk
    have HB := Lib.hid hb
    clear hgk
    by_cases hk : k < n
    · have k1 : (k : Int) < (n : Int) := by omega
      have hkl : k < l.length := by have := HN.out; omega
      have hkm : k < m.length := by have := HLM.out; omega
      obtain ⟨s, hs⟩ : ∃ s, s = l[k] := ⟨_, rfl⟩
      obtain ⟨u, hu⟩ : ∃ u, u = m[k] := ⟨_, rfl⟩
      obtain ⟨rb, ro, hra, hrow⟩ := (HV.out.below hb).row k hkl
      subst hra
      rw [← hs] at hrow
      obtain ⟨qb, qo, hqa, hqow⟩ := (HV2.out.below hb).row k hkm
      subst hqa
      rw [← hu] at hqow
      have HROW := Lib.hid (show ∀ wq, (∃ n, wq = wr.drewN n) → wq.rangeAt rb (ro + k * 12) s.cells.toList from fun wq hq => by
        obtain ⟨q, rfl⟩ := hq
        exact hrow)
      have HQOW := Lib.hid (show ∀ wq, (∃ n, wq = wr.drewN n) → wq.rangeAt qb (qo + k * 12) u.cells.toList from fun wq hq => by
        obtain ⟨q, rfl⟩ := hq
        exact hqow)
      have HLK := Lib.hid (show s = l[k] ∧ u = m[k] from ⟨hs, hu⟩)
      have HK := Lib.hid hk
      clear hrow hqow hs hu hk hb
      obtain ⟨r, hr⟩ : ∃ r, r = sameS s u := ⟨_, rfl⟩
      have HR := Lib.hid hr
      have hneq : ∀ w, (binOp .neq 61 (.agg s.cells) (.agg u.cells)).run Tryz.prog w = .ok (.bool (!r)) w := fun w => by rw [run_neqS, HR.out]
      clear hr
      go_wp2_with fail
      refine wp_region_quiet_lit (by kernel_rfl) (by kernel_rfl) ?_
      repeat (go_big_quiet_step (fail))
      refine wpQuiet_load_k rfl 61 (.tmp 19) rfl rb (ro + k * 12) rfl s.cells.toList _ HROW.out Tryz.underlying61 rfl (by kernel_rfl) ?_
      intro c1 hc1
      have ec1 : c1 = s.cells := by rw [hc1.out]
      subst ec1
      simp only [Act.put, List.setIfInBounds_toArray, List.set_cons_zero, List.set_cons_succ]
      repeat (go_big_quiet_step (fail))
      refine wpQuiet_load_k rfl 61 (.tmp 23) rfl qb (qo + k * 12) rfl u.cells.toList _ HQOW.out Tryz.underlying61 rfl (by kernel_rfl) ?_
      intro c2 hc2
      have ec2 : c2 = u.cells := by rw [hc2.out]
      subst ec2
      simp only [Act.put, List.setIfInBounds_toArray, List.set_cons_zero, List.set_cons_succ]
      repeat (go_big_quiet_step (fail))
      refine wpQuiet_nil ?_
      intro wq hwq
      obtain ⟨nq, rfl⟩ := hwq
      have HB4 := Lib.hid (HB.out.trans ((below_drewN _ nq).mono HB.out.size))
      clear hneq hc1 hc2 HROW HQOW
      cases r
      · have HF := Lib.hid (sameL_no (l := l) (m := m) (fun e => by
          obtain ⟨h1, h2⟩ := HLK.out
          have h3 := HR.out
          rw [h1, h2] at h3
          subst e
          rw [sameS_iff.2 rfl] at h3
          cases h3))
        clear HB HR HLK
        go_wp2_with fail
        go_ret
        rw [HF.out]
        exact ⟨rfl, HB4.out⟩
      · have HT2 := Lib.hid (show l.take (k + 1) = m.take (k + 1) by
          rw [List.take_succ_eq_append_getElem hkl, List.take_succ_eq_append_getElem hkm, HT.out, ← HLK.out.1, ← HLK.out.2, sameS_iff.1 HR.out.symm])
        clear HB HR HLK HT
        go_wp2_with fail
        go_roundg (n - (k + 1))
        case measure => have := HGK.out; have := HK.out; omega
        case rel => exact ⟨k + 1, by have := HGK.out; have := HK.out; omega, by go_num, HB4.out, HT2⟩
    · have k1 : ¬ (k : Int) < (n : Int) := by omega
      have HE := Lib.hid (show sameL l m = true from sameL_iff.2 (by
        have h := HT.out
        rw [List.take_of_length_le (by have := HN.out; omega), List.take_of_length_le (by have := HN.out; have := HLM.out; omega)] at h
        exact h))
      clear hk hb HT
      go_wp2_with fail
      go_ret
      rw [HE.out]
      exact ⟨rfl, HB.out⟩
set_option maxHeartbeats 1600000 in
theorem sameState_calls (a b : StM) (v v' : Value) (w : World) (hv : RdS w v a.l) (hv' : RdS w v' b.l) :
    Calls Tryz.prog 8 #[.agg #[.int .i64 a.clock, .int .i64 a.births, v], .agg #[.int .i64 b.clock, .int .i64 b.births, v']] w fun e w' => e = .returned (.bool (sameSt a b)) ∧ Below w.heap.size w w' := by
  have HB0 := Lib.hid (fun o o2 => below_two w o o2)
  have HK := Lib.hid (fun w' hb => sameSes_calls v v' a.l b.l w' (hv.below hb) (hv'.below hb))
  obtain ⟨xa, xc, rfl, _⟩ := hv.slice
  obtain ⟨ya, yc, rfl, _⟩ := hv'.slice
  unfold sameSt
  generalize sameL a.l b.l = r at HK ⊢
  clear hv hv'
  obtain ⟨c1, b1, l1⟩ := a
  obtain ⟨c2, b2, l2⟩ := b
  simp only at HK ⊢
  go_enter Tryz.func8, Tryz.ntmps8
  cases e1 : (c1 == c2)
  · go_wp2_with fail
    go_ret
    exact ⟨rfl, HB0.out _ _⟩
  cases e2 : (b1 == b2)
  · go_wp2_with fail
    go_ret
    exact ⟨rfl, HB0.out _ _⟩
  go_wp2_with fail
  refine (HK.out _ (HB0.out _ _)).mono ?_
  rintro e w1 ⟨rfl, hb⟩
  have HB := Lib.hid ((HB0.out _ _).trans (hb.mono (HB0.out (.cells #[.int .i64 c1, .int .i64 b1, .slice xa l1.length xc] 25) (.cells #[.int .i64 c2, .int .i64 b2, .slice ya l2.length yc] 25)).size))
  clear hb HK HB0
  go_wp2_with fail
  go_ret
  exact ⟨rfl, HB.out⟩
end Go.Proofs.YtdaimaibnjkfbaaGreatDoor
/-
  errors.As, at a number of package api and a target of type *api.Fault: it is none; lineagekit.Plain.
-/
namespace Go.Proofs.YtdaimaibnjkfbaaGreatDoor
open Go.RowKit Go.Extern.Stop Go.Stop Go.Extern

theorem as_nil (t : Value) (w : World) :
    Calls Tryz.prog 24 #[.nilIface, t] w fun e w' => e = .returned (.bool false) ∧ w' = w := by
  go_enter Tryz.func24, Tryz.ntmps24
  go_wp2
  go_ret
  exact ⟨rfl, rfl⟩
theorem fp_valueOf (t : Addr) (w : World) : (ReflectliteValue.unpack (.iface 80 (.pointer (some t)))).run Tryz.prog w
    = .ok (.agg #[.pointer (some ⟨2, 80, none⟩), .pointer (some ⟨w.heap.size, 0, none⟩), .int .u64 150]) (w.alloc (.cells #[.pointer (some t)] 80)) := by kernel_rfl
theorem fp_type (a : Addr) (w : World) : (ReflectliteValue.methodAny (ReflectliteValue.valueError "reflectlite.Value.Type" 0) (fun t _ _ _ => ReflectliteType.toType t) #[.agg #[.pointer (some ⟨2, 80, none⟩), .pointer (some a), .int .u64 150]]).run Tryz.prog w
    = .ok (.iface 154 (.agg #[.pointer (some ⟨2, 80, none⟩)])) w := by kernel_rfl
theorem fp_methodKind (h : Value) (w : World) : (Go.method 326 154 (.agg #[h]) "Kind").run Tryz.prog w = .ok (102, h) w := by kernel_rfl
theorem fp_kind (w : World) : ((ReflectliteType.abiMethod fun t => (fun a : Nat => Value.int IntKind.u8 (a : Int)) <$> Rtype.kind t) #[.pointer (some ⟨2, 80, none⟩)]).run Tryz.prog w = .ok (.int .u8 22) w := by kernel_rfl
theorem fs_kind (w : World) : ((ReflectliteType.abiMethod fun t => (fun a : Nat => Value.int IntKind.u8 (a : Int)) <$> Rtype.kind t) #[.pointer (some ⟨2, 77, none⟩)]).run Tryz.prog w = .ok (.int .u8 25) w := by kernel_rfl
theorem rlm (z : Sem Value) (f : TypeId → Addr → Nat → Nat → Sem Value) (v : Value) :
    ReflectliteValue.method z f #[v] = (do match ← ReflectliteValue.parts v with | none => z | some (t, a, fl) => f t a fl (fl % 32)) := rfl
theorem fp_parts (a : Addr) (w : World) : (ReflectliteValue.parts (.agg #[.pointer (some ⟨2, 80, none⟩), .pointer (some a), .int .u64 150])).run Tryz.prog w = .ok (some (80, a, 150)) w := by kernel_rfl
theorem fp_isNil (a p : Addr) (W : World) (ha : W.cell? a = some (.pointer (some p))) :
    (ReflectliteValue.method (ReflectliteValue.valueError "reflectlite.Value.IsNil" 0) ReflectliteValue.isNil #[.agg #[.pointer (some ⟨2, 80, none⟩), .pointer (some a), .int .u64 150]]).run Tryz.prog W = .ok (.bool false) W := by
  rw [rlm]
  simp only [Sem.run_bind, fp_parts, Result.andThen]
  simp [ReflectliteValue.isNil, loadVar, isAgg, underlying, Tryz.underlying80, ha, Result.andThen]
theorem fp_methodElem (h : Value) (w : World) : (Go.method 326 154 (.agg #[h]) "Elem").run Tryz.prog w = .ok (114, .agg #[h]) w := by kernel_rfl
theorem fp_methodImplements (h : Value) (w : World) : (Go.method 326 154 (.agg #[h]) "Implements").run Tryz.prog w = .ok (115, .agg #[h]) w := by kernel_rfl
theorem fp_methodAssignableTo (h : Value) (w : World) : (Go.method 326 154 (.agg #[h]) "AssignableTo").run Tryz.prog w = .ok (112, .agg #[h]) w := by kernel_rfl
theorem fp_elem (w : World) : (ReflectliteType.method ReflectliteType.elem #[.agg #[.pointer (some ⟨2, 80, none⟩)]]).run Tryz.prog w = .ok (.iface 154 (.agg #[.pointer (some ⟨2, 77, none⟩)])) w := by kernel_rfl
theorem fs_implements (w : World) : (ReflectliteType.relation "Implements" ReflectliteType.implements_ #[.agg #[.pointer (some ⟨2, 77, none⟩)], .iface 154 (.agg #[.pointer (some ⟨2, 30, none⟩)])]).run Tryz.prog w = .ok (.bool true) w := by kernel_rfl
theorem en_typeOf (v : Value) (w : World) : (ReflectliteType.typeOf #[.iface 73 v]).run Tryz.prog w = .ok (.iface 154 (.agg #[.pointer (some ⟨2, 73, none⟩)])) w := by kernel_rfl
theorem en_assignable (w : World) : (ReflectliteType.relation "AssignableTo" ReflectliteType.assignableTo #[.agg #[.pointer (some ⟨2, 73, none⟩)], .iface 154 (.agg #[.pointer (some ⟨2, 77, none⟩)])]).run Tryz.prog w = .ok (.bool false) w := by kernel_rfl
theorem en_noAs (v : Value) (xT : TypeId) (w : World) : (Instr.typeAssert (.iface 73 v) xT 158 true).run Tryz.prog w = .ok (.tuple #[.nilIface, .bool false]) w := run_typeAssert_lacksB Tryz.underlying158 (by kernel_rfl) (by kernel_rfl) v xT w
/-- The variable of package errors that errors.As reads. -/
def ErrType (w : World) : Prop := w.cell? ⟨0, 0, none⟩ = some (.iface 154 (.agg #[.pointer (some ⟨2, 30, none⟩)]))
theorem ErrType.lt {w : World} (h : ErrType w) : 0 < w.heap.size := by
  rcases Nat.eq_zero_or_pos w.heap.size with h0 | h1
  · unfold ErrType at h; simp [World.cell?, h0] at h
  · exact h1
theorem ErrType.below {w w' : World} (h : ErrType w) (hb : Below w.heap.size w w') : ErrType w' := below_heap hb h
set_option maxHeartbeats 4000000 in
theorem as_miss (n : Int) (t : Addr) (w : World) (hg : ErrType w) :
    Calls Tryz.prog 24 #[errN n, .iface 80 (.pointer (some t))] w fun ev w' => ev = .returned (.bool false) ∧ Below w.heap.size w w' := by
  have h6 := @run_callFunc_extern Tryz.prog 49 _ (fun args => ReflectliteValue.unpack (args.getD 0 (.tuple #[]))) Tryz.func49 (by kernel_rfl) (by kernel_rfl) (by kernel_rfl) (by kernel_rfl)
  have h7 := @run_callFunc_extern Tryz.prog 50 _ (ReflectliteValue.methodAny (ReflectliteValue.valueError "reflectlite.Value.Type" 0) (fun t _ _ _ => ReflectliteType.toType t)) Tryz.func50 (by kernel_rfl) (by kernel_rfl) (by kernel_rfl) (by kernel_rfl)
  have h8 := @run_callFunc_extern Tryz.prog 51 _ (ReflectliteValue.method (ReflectliteValue.valueError "reflectlite.Value.IsNil" 0) ReflectliteValue.isNil) Tryz.func51 (by kernel_rfl) (by kernel_rfl) (by kernel_rfl) (by kernel_rfl)
  have h27 := @run_callFunc_extern Tryz.prog 102 _ (ReflectliteType.abiMethod fun t => do pure (.int .u8 (← Rtype.kind t))) Tryz.func102 (by kernel_rfl) (by kernel_rfl) (by kernel_rfl) (by kernel_rfl)
  have h37 := @run_callFunc_extern Tryz.prog 114 _ (ReflectliteType.method ReflectliteType.elem) Tryz.func114 (by kernel_rfl) (by kernel_rfl) (by kernel_rfl) (by kernel_rfl)
  have h38 := @run_callFunc_extern Tryz.prog 115 _ (ReflectliteType.relation "Implements" ReflectliteType.implements_) Tryz.func115 (by kernel_rfl) (by kernel_rfl) (by kernel_rfl) (by kernel_rfl)
  have h10 := @run_callFunc_extern Tryz.prog 72 _ ReflectliteType.typeOf Tryz.func72 (by kernel_rfl) (by kernel_rfl) (by kernel_rfl) (by kernel_rfl)
  have h35 := @run_callFunc_extern Tryz.prog 112 _ (ReflectliteType.relation "AssignableTo" ReflectliteType.assignableTo) Tryz.func112 (by kernel_rfl) (by kernel_rfl) (by kernel_rfl) (by kernel_rfl)
  have tO := en_typeOf
  have mA := fp_methodAssignableTo
  have a25 := en_assignable
  have f6 := fp_valueOf
  have f7 := fp_type
  have mK := fp_methodKind
  have mE := fp_methodElem
  have mI := fp_methodImplements
  have k27 := fp_kind
  have k25 := fs_kind
  have e27 := fp_elem
  have i25 := fs_implements
  have nA := en_noAs
  have nU := err_noUnwrap
  have nV := err_noUnwraps
  have n8 := fp_isNil ⟨w.heap.size, 0, none⟩ t ((w.alloc (.cells #[.pointer (some t)] 80)).alloc (.cells #[.pointer (some ⟨2, 80, none⟩), .pointer (some ⟨w.heap.size, 0, none⟩), .int .u64 150] 111)) (by simp)
  have hlt := hg.lt
  unfold ErrType at hg
  have hg2 : ((w.alloc (.cells #[.pointer (some t)] 80)).alloc (.cells #[.pointer (some ⟨2, 80, none⟩), .pointer (some ⟨w.heap.size, 0, none⟩), .int .u64 150] 111)).cell? ⟨0, 0, none⟩ = some (.iface 154 (.agg #[.pointer (some ⟨2, 30, none⟩)])) := by
    rw [World.cell?_alloc_lt _ _ ⟨0, 0, none⟩ (by simp), World.cell?_alloc_lt _ _ ⟨0, 0, none⟩ hlt]; exact hg
  unfold errN
  go_enter Tryz.func24, Tryz.ntmps24
  go_wp2
  refine wp_loop_rounds 1 ?_
  rw [rounds_succ]
  go_wp2
  go_ret
  refine ⟨rfl, ?_⟩
  repeat (refine Below.alloc ?_ (by simp <;> omega) _)
  exact Below.refl _ _
theorem plain_nil (w : World) : Calls Tryz.prog 7 #[.nilIface, .int .i64 0] w fun e w' => e = .returned (.bool true) ∧ Below w.heap.size w w' := by
  have hb := below_alloc w (.cells #[.int .i64 0, .int .i64 0] 77)
  have HB := Lib.hid hb
  clear hb
  go_enter Tryz.func7, Tryz.ntmps7
  go_wp2_with fail
  refine (num_nil _).mono ?_
  rintro e w' ⟨rfl, rfl⟩
  go_wp2_with fail
  go_ret
  exact ⟨rfl, HB.out⟩
theorem plain_calls (n : Nat) (w : World) (h1 : 1 ≤ n) (h2 : n ≤ 24) (hg : ErrType w) : Calls Tryz.prog 7 #[errN n, .int .i64 (n : Int)] w fun e w' => e = .returned (.bool true) ∧ Below w.heap.size w w' := by
  have hb := below_alloc w (.cells #[.int .i64 0, .int .i64 0] 77)
  have HB := Lib.hid hb
  have HA := Lib.hid (as_miss (n : Int) ⟨w.heap.size, 0, none⟩ _ (hg.below hb))
  have HN := Lib.hid (fun w => num_calls n w h1 h2)
  clear hb hg
  unfold errN at HA HN ⊢
  go_enter Tryz.func7, Tryz.ntmps7
  go_wp2_with fail
  refine (HN.out _).mono ?_
  rintro e w' ⟨rfl, rfl⟩
  go_wp2_with fail
  refine HA.out.mono ?_
  rintro e w' ⟨rfl, hb2⟩
  have HB2 := Lib.hid (below_trans HB.out hb2)
  clear hb2
  go_wp2_with fail
  go_ret
  exact ⟨rfl, HB2.out⟩
end Go.Proofs.YtdaimaibnjkfbaaGreatDoor
/-
  lineagekit.Plain: of an error of package api, or none.
-/
namespace Go.Proofs.YtdaimaibnjkfbaaGreatDoor
open Go.RowKit
set_option maxRecDepth 100000

theorem plain_any (er : Int) (w : World) (h1 : 0 ≤ er) (h2 : er ≤ 24) (hg : ErrType w) : Calls Tryz.prog 7 #[errV er, .int .i64 er] w fun e w' => e = .returned (.bool true) ∧ Below w.heap.size w w' := by
  by_cases h0 : er = 0
  · subst h0
    exact plain_nil w
  · obtain ⟨n, rfl⟩ := Int.eq_ofNat_of_zero_le h1
    have e : errV (n : Int) = errN n := by unfold errV; rw [if_neg h0]; rfl
    have := plain_calls n w (by omega) (by omega) hg
    rw [← e] at this
    exact this
end Go.Proofs.YtdaimaibnjkfbaaGreatDoor
/-
  The law ImageDecodes.
-/
namespace Go.Proofs.YtdaimaibnjkfbaaGreatDoor
open Go.RowKit
set_option maxRecDepth 100000

/-- What stands through the law's calls. -/
structure DcL (w0 w : World) (v : Value) (l : List UInt8) : Prop where
  rd : Rd w v l.length (l.map V8)
  g : ErrType w
  bel : Below w0.heap.size w0 w
theorem DcL.below {w0 w w' : World} {v : Value} {l : List UInt8} (h : DcL w0 w v l) (hb : Below w.heap.size w w') : DcL w0 w' v l :=
  ⟨h.rd.below hb, h.g.below hb, h.bel.trans (hb.mono h.bel.size)⟩
/-- A state that was answered. -/
structure AnD (w : World) (q base : Nat) (c b : Int) (v : Value) (l : List SesM) : Prop where
  bq : Box w q #[.int .i64 c, .int .i64 b, v] 25
  ow : OwnS w base v l
theorem AnD.below {w w' : World} {q base : Nat} {c b : Int} {v : Value} {l : List SesM} (h : AnD w q base c b v l) (hb : Below w.heap.size w w') : AnD w' q base c b v l := ⟨h.bq.below hb, h.ow.below hb⟩
theorem AnD.mod {w w' : World} {q base : Nat} {c b : Int} {v : Value} {l : List SesM} {F : Nat → Prop} (h : AnD w q base c b v l) (hm : Mod F w w') (h1 : ¬ F q) (h2 : ∀ k, v.ownBlock = some k → ¬ F k) : AnD w' q base c b v l := ⟨h.bq.mod hm h1, h.ow.mod hm h2⟩
theorem decI_len (l : List UInt8) : (decI l).2.l.length ≤ 32 := by
  unfold decI
  simp only
  split
  · exact Nat.zero_le _
  · rename_i h
    have hc := decI_cnt h
    unfold finI
    split
    · split
      · exact Nat.zero_le _
      split
      · exact Nat.zero_le _
      split
      · show (sesTs _ _).1.length ≤ 32
        rw [sesTs_len]; exact hc
      · exact Nat.zero_le _
    · exact Nat.zero_le _
set_option maxHeartbeats 6400000 in
theorem imageDecodes_calls (l : List UInt8) (v : Value) (w : World) (h : Rd w v l.length (l.map V8)) (hsm : l.length ≤ 1000000000000) (hvl : ∀ b, v.ownBlock = some b → b < w.heap.size) (hg : ErrType w) :
    Calls Tryz.prog 3 #[v] w fun e w' => e = .returned (.bool true) ∧ Below w.heap.size w w' := by
  have HRD := Lib.hid (refDecI_calls l v w h hsm hvl)
  rw [refDecI_eq] at HRD
  have HPD := Lib.hid (fun x w' hx => decI_calls x l w' hx hsm)
  have HER := Lib.hid (decI_er l)
  have HLL := Lib.hid (decI_len l)
  have HP := Lib.hid (show DcL w w v l from ⟨h, hg, Below.refl _ _⟩)
  have HSM := Lib.hid (show l.length ≤ 140737488355000 by omega)
  obtain ⟨a, cap, rfl, h1, h2, _⟩ := h
  obtain ⟨n, hN⟩ : ∃ n, n = l.length := ⟨_, rfl⟩
  rw [← hN] at HRD HP h1 ⊢
  have hn63 : n ≤ 9223372036854775807 := by omega
  clear hsm hvl hg h1 h2 hN
  obtain ⟨D, hD⟩ : ∃ D, D = decI l := ⟨_, rfl⟩
  rw [← hD] at HRD HPD HER HLL
  clear hD
  obtain ⟨er, C, B, L⟩ := D
  simp only at HRD HPD HER HLL
  have HPL := Lib.hid (fun W hW => plain_any er W HER.out.1 HER.out.2 hW)
  obtain ⟨X, hX⟩ : ∃ X, X = errV er := ⟨_, rfl⟩
  rw [← hX] at HPD HPL
  clear hX HER
  obtain ⟨m, hM⟩ : ∃ m, m = L.length := ⟨_, rfl⟩
  have HM := Lib.hid hM
  clear hM
  go_enter Tryz.func3, Tryz.ntmps3
  by_cases hlen : (65536 : Int) < (n : Int)
  · go_wp2_with fail
    go_ret
    exact ⟨rfl, HP.out.bel⟩
  go_wp2_with fail
  clear hlen
  refine HRD.out.mono ?_
  rintro ev w2 ⟨o3, rfl, ho3, hb2⟩
  obtain ⟨a3, c3, rfl, _⟩ := ho3.slice
  rw [← HM.out] at ho3 ⊢
  have hal := below_alloc w2 (.cells #[.int .i64 C, .int .i64 B, .slice a3 m c3] 25)
  have hnx := below_trans hb2 hal
  have HP3 := Lib.hid (HP.out.below hnx)
  have HA3 := Lib.hid (show AnD (w2.alloc (.cells #[.int .i64 C, .int .i64 B, .slice a3 m c3] 25)) w2.heap.size _ C B (.slice a3 m c3) L from ⟨Box.new _ _ _, ho3.below hal⟩)
  clear hal hnx hb2 ho3 HP HRD
  go_wp2_with fail
  generalize (w2.alloc (.cells #[.int .i64 C, .int .i64 B, .slice a3 m c3] 25)) = w3 at HP3 HA3 ⊢
  generalize w2.heap.size = q3 at HA3 ⊢
  refine (lentB_calls _ l w3 HP3.out.rd HSM.out).mono ?_
  rintro ev w4 ⟨x, rfl, hx, hb4⟩
  have HP4 := Lib.hid (HP3.out.below hb4)
  have HA4 := Lib.hid (HA3.out.below hb4)
  have HX4 := Lib.hid (And.intro hx hx.rd)
  clear hx hb4 HP3 HA3
  go_wp2_with fail
  obtain ⟨B4, hB4⟩ : ∃ B4, B4 = w4.heap.size := ⟨_, rfl⟩
  have HB4 := Lib.hid hB4
  have HK4 := HP4
  refine (HPD.out x w4 HX4.out.2).mono ?_
  rintro ev w5 ⟨o6, rfl, ho6, hb5⟩
  rw [← hB4] at ho6
  clear hB4
  obtain ⟨a6, c6, rfl, _⟩ := ho6.slice
  rw [← HM.out] at ho6 ⊢
  have HX5 := Lib.hid (And.intro (HX4.out.1.below hb5) (HX4.out.2.below hb5))
  have hal := below_alloc w5 (.cells #[.int .i64 C, .int .i64 B, .slice a6 m c6] 25)
  have hnx := below_trans hb5 hal
  have HP6 := Lib.hid (HP4.out.below hnx)
  have HA6 := Lib.hid (HA4.out.below hnx)
  have HE6 := Lib.hid (show AnD (w5.alloc (.cells #[.int .i64 C, .int .i64 B, .slice a6 m c6] 25)) w5.heap.size _ C B (.slice a6 m c6) L from ⟨Box.new _ _ _, ho6.below hal⟩)
  have HX6 := Lib.hid (And.intro (HX5.out.1.below hal) (HX5.out.2.below hal))
  have HLT6 := Lib.hid (fun k hk => ho6.lt k hk)
  have HS5 := Lib.hid (show B4 ≤ w5.heap.size by rw [HB4.out]; exact hb5.size)
  clear hal hnx hb5 ho6 HP4 HA4 HX4 HX5
  go_wp2_with fail
  generalize (w5.alloc (.cells #[.int .i64 C, .int .i64 B, .slice a6 m c6] 25)) = w6 at HP6 HA6 HE6 HX6 ⊢
  generalize w5.heap.size = q6 at HE6 HLT6 HS5 ⊢
  refine (HPD.out x w6 HX6.out.2).mono ?_
  rintro ev w7 ⟨o8, rfl, ho8, hb7⟩
  obtain ⟨a8, c8, rfl, _⟩ := ho8.slice
  rw [← HM.out] at ho8 ⊢
  have HAPT := Lib.hid (show Apart (.slice a6 m c6) (.slice a8 m c8) from fun k h1 h2 => by have := (HLT6.out k h1).2; have := (ho8.lt k h2).1; have := HE6.out.bq.lt; omega)
  have HX7 := Lib.hid (And.intro (HX6.out.1.below hb7) (HX6.out.2.below hb7))
  have ho8b := ho8.base (base' := B4) (by have := HE6.out.bq.lt; have := HS5.out; omega)
  have hal := below_alloc w7 (.cells #[.int .i64 C, .int .i64 B, .slice a8 m c8] 25)
  have hnx := below_trans hb7 hal
  have HP8 := Lib.hid (HP6.out.below hnx)
  have HA8 := Lib.hid (HA6.out.below hnx)
  have HE8 := Lib.hid (HE6.out.below hnx)
  have HF8 := Lib.hid (show AnD (w7.alloc (.cells #[.int .i64 C, .int .i64 B, .slice a8 m c8] 25)) w7.heap.size _ C B (.slice a8 m c8) L from ⟨Box.new _ _ _, ho8b.below hal⟩)
  have HX8 := Lib.hid (And.intro (HX7.out.1.below hal) (HX7.out.2.below hal))
  clear hal hnx hb7 ho8 ho8b HP6 HA6 HE6 HX6 HX7 HLT6 HPD
  go_wp2_with fail
  generalize (w7.alloc (.cells #[.int .i64 C, .int .i64 B, .slice a8 m c8] 25)) = w8 at HP8 HA8 HE8 HF8 HX8 ⊢
  generalize w7.heap.size = q8 at HF8 ⊢
  refine (HPL.out w8 HP8.out.g).mono ?_
  rintro ev w9 ⟨rfl, hb⟩
  have HP9 := Lib.hid (HP8.out.below hb)
  have HA9 := Lib.hid (HA8.out.below hb)
  have HE9 := Lib.hid (HE8.out.below hb)
  have HF9 := Lib.hid (HF8.out.below hb)
  have HX9 := Lib.hid (And.intro (HX8.out.1.below hb) (HX8.out.2.below hb))
  clear hb HP8 HA8 HE8 HF8 HX8
  go_wp2_with fail
  refine (HPL.out w9 HP9.out.g).mono ?_
  rintro ev wa ⟨rfl, hb⟩
  have HPa := Lib.hid (HP9.out.below hb)
  have HAa := Lib.hid (HA9.out.below hb)
  have HEa := Lib.hid (HE9.out.below hb)
  have HFa := Lib.hid (HF9.out.below hb)
  have HXa := Lib.hid (And.intro (HX9.out.1.below hb) (HX9.out.2.below hb))
  clear hb HP9 HA9 HE9 HF9 HX9
  have e0 : wa.cell? ⟨q6, 0, none⟩ = some (.int .i64 C) := HEa.out.bq.cell 0 _ rfl
  have e1 : wa.cell? ⟨q6, 1, none⟩ = some (.int .i64 B) := HEa.out.bq.cell 1 _ rfl
  have e2 : wa.cell? ⟨q6, 2, none⟩ = some (.slice a6 m c6) := HEa.out.bq.cell 2 _ rfl
  have r0 : wa.cell? ⟨q3, 0, none⟩ = some (.int .i64 C) := HAa.out.bq.cell 0 _ rfl
  have r1 : wa.cell? ⟨q3, 1, none⟩ = some (.int .i64 B) := HAa.out.bq.cell 1 _ rfl
  have r2 : wa.cell? ⟨q3, 2, none⟩ = some (.slice a3 m c3) := HAa.out.bq.cell 2 _ rfl
  go_wp2_with fail
  have hss : sameSt ⟨C, B, L⟩ ⟨C, B, L⟩ = true := sameSt_iff.2 rfl
  refine (show Calls _ _ #[.agg #[.int .i64 C, .int .i64 B, .slice a6 m c6], .agg #[.int .i64 C, .int .i64 B, .slice a3 m c3]] wa _ from sameState_calls ⟨C, B, L⟩ ⟨C, B, L⟩ _ _ wa HEa.out.ow.rd HAa.out.ow.rd).mono ?_
  rintro ev wb ⟨rfl, hb⟩
  rw [hss]
  have HPb := Lib.hid (HPa.out.below hb)
  have HAb := Lib.hid (HAa.out.below hb)
  have HEb := Lib.hid (HEa.out.below hb)
  have HFb := Lib.hid (HFa.out.below hb)
  have HXb := Lib.hid (And.intro (HXa.out.1.below hb) (HXa.out.2.below hb))
  clear hb HPa HAa HEa HFa HXa hss e0 e1 e2 r0 r1 r2
  have e0 : wb.cell? ⟨q8, 0, none⟩ = some (.int .i64 C) := HFb.out.bq.cell 0 _ rfl
  have e1 : wb.cell? ⟨q8, 1, none⟩ = some (.int .i64 B) := HFb.out.bq.cell 1 _ rfl
  have e2 : wb.cell? ⟨q8, 2, none⟩ = some (.slice a8 m c8) := HFb.out.bq.cell 2 _ rfl
  have r0 : wb.cell? ⟨q3, 0, none⟩ = some (.int .i64 C) := HAb.out.bq.cell 0 _ rfl
  have r1 : wb.cell? ⟨q3, 1, none⟩ = some (.int .i64 B) := HAb.out.bq.cell 1 _ rfl
  have r2 : wb.cell? ⟨q3, 2, none⟩ = some (.slice a3 m c3) := HAb.out.bq.cell 2 _ rfl
  go_wp2_with fail
  have hss : sameSt ⟨C, B, L⟩ ⟨C, B, L⟩ = true := sameSt_iff.2 rfl
  refine (show Calls _ _ #[.agg #[.int .i64 C, .int .i64 B, .slice a8 m c8], .agg #[.int .i64 C, .int .i64 B, .slice a3 m c3]] wb _ from sameState_calls ⟨C, B, L⟩ ⟨C, B, L⟩ _ _ wb HFb.out.ow.rd HAb.out.ow.rd).mono ?_
  rintro ev wc ⟨rfl, hb⟩
  rw [hss]
  have HPc := Lib.hid (HPb.out.below hb)
  have HEc := Lib.hid (HEb.out.below hb)
  have HFc := Lib.hid (HFb.out.below hb)
  have HXc := Lib.hid (And.intro (HXb.out.1.below hb) (HXb.out.2.below hb))
  clear hb HPb HAb HEb HFb HXb hss e0 e1 e2 r0 r1 r2
  go_wp2_with fail
  refine (keptB_calls _ _ _ l wc HXc.out.1 HPc.out.rd HSM.out).mono ?_
  rintro ev wd ⟨rfl, rfl⟩
  have e0 : (wc.alloc (.cells #[.slice none 0 0, .slice none 0 0, .slice none 0 0, .slice none 0 0, .slice none 0 0, .slice none 0 0, .slice none 0 0, .slice none 0 0, .slice none 0 0, .slice none 0 0] 47)).cell? ⟨q6, 0, none⟩ = some (.int .i64 C) := ((HEc.out.below (below_alloc wc (.cells #[.slice none 0 0, .slice none 0 0, .slice none 0 0, .slice none 0 0, .slice none 0 0, .slice none 0 0, .slice none 0 0, .slice none 0 0, .slice none 0 0, .slice none 0 0] 47))).bq).cell 0 _ rfl
  have e1 : (wc.alloc (.cells #[.slice none 0 0, .slice none 0 0, .slice none 0 0, .slice none 0 0, .slice none 0 0, .slice none 0 0, .slice none 0 0, .slice none 0 0, .slice none 0 0, .slice none 0 0] 47)).cell? ⟨q6, 1, none⟩ = some (.int .i64 B) := ((HEc.out.below (below_alloc wc (.cells #[.slice none 0 0, .slice none 0 0, .slice none 0 0, .slice none 0 0, .slice none 0 0, .slice none 0 0, .slice none 0 0, .slice none 0 0, .slice none 0 0, .slice none 0 0] 47))).bq).cell 1 _ rfl
  have e2 : (wc.alloc (.cells #[.slice none 0 0, .slice none 0 0, .slice none 0 0, .slice none 0 0, .slice none 0 0, .slice none 0 0, .slice none 0 0, .slice none 0 0, .slice none 0 0, .slice none 0 0] 47)).cell? ⟨q6, 2, none⟩ = some (.slice a6 m c6) := ((HEc.out.below (below_alloc wc (.cells #[.slice none 0 0, .slice none 0 0, .slice none 0 0, .slice none 0 0, .slice none 0 0, .slice none 0 0, .slice none 0 0, .slice none 0 0, .slice none 0 0, .slice none 0 0] 47))).bq).cell 2 _ rfl
  have hba := below_alloc wc (.cells #[.slice none 0 0, .slice none 0 0, .slice none 0 0, .slice none 0 0, .slice none 0 0, .slice none 0 0, .slice none 0 0, .slice none 0 0, .slice none 0 0, .slice none 0 0] 47)
  have HEd := Lib.hid (HEc.out.below hba)
  have HFd := Lib.hid (HFc.out.below hba)
  have HBd := Lib.hid (show Box (wc.alloc (.cells #[.slice none 0 0, .slice none 0 0, .slice none 0 0, .slice none 0 0, .slice none 0 0, .slice none 0 0, .slice none 0 0, .slice none 0 0, .slice none 0 0, .slice none 0 0] 47)) wc.heap.size (bookS (.slice none 0 0)) 47 from Box.new wc _ _)
  have HPd := Lib.hid (HPc.out.below hba)
  have HSQ := Lib.hid (show q6 < wc.heap.size ∧ q8 < wc.heap.size ∧ B4 ≤ wc.heap.size by have := HEc.out.bq.lt; have := HFc.out.bq.lt; have := HS5.out; omega)
  have HOL := Lib.hid (show (∀ k, (Value.slice a6 m c6).ownBlock = some k → k < wc.heap.size) ∧ (∀ k, (Value.slice a8 m c8).ownBlock = some k → k < wc.heap.size) from ⟨fun k hk => (HEc.out.ow.lt k hk).2, fun k hk => (HFc.out.ow.lt k hk).2⟩)
  clear hba HEc HFc HXc HPc
  go_wp2_with fail
  generalize (wc.alloc (.cells #[.slice none 0 0, .slice none 0 0, .slice none 0 0, .slice none 0 0, .slice none 0 0, .slice none 0 0, .slice none 0 0, .slice none 0 0, .slice none 0 0, .slice none 0 0] 47)) = wd at HEd HFd HBd HPd e0 e1 e2 ⊢
  generalize wc.heap.size = bp at HBd HSQ HOL ⊢
  clear e0 e1 e2
  obtain ⟨Bk, hBk⟩ : ∃ Bk, Bk = bp + 1 := ⟨_, rfl⟩
  have hBd : Bk ≤ wd.heap.size := by have := HBd.out.lt; omega
  refine (bookState_calls bp Bk 0 m C B (.slice none 0 0) [] a6 c6 wd HBd.out ⟨rfl, .inl ⟨rfl, rfl⟩⟩ (by simp [Value.ownBlock]) (by decide) hBd).mono ?_
  rintro ev we ⟨rfl, bv, hbx, hbo, hm, hmv, hne⟩
  have hbv : ∀ k, bv.ownBlock = some k → Bk ≤ k ∧ k < we.heap.size := fun k hk => hbo.lt k hk
  have HBe := Lib.hid (And.intro hbx (And.intro hbo (And.intro hne hbv)))
  have HEe := Lib.hid (HEd.out.mod hm (by have := HSQ.out; rintro (e | e); omega; cases e) (fun k hk => by have := HOL.out.1 k hk; rintro (e | e); omega; cases e))
  have HFe := Lib.hid (HFd.out.mod hm (by have := HSQ.out; rintro (e | e); omega; cases e) (fun k hk => by have := HOL.out.2 k hk; rintro (e | e); omega; cases e))
  have HBl := Lib.hid (show Below bp wd we from hm.below (by have := HBd.out.lt; omega) (fun i hi => by rcases hi with e | e; omega; cases e))
  clear hbx hbo hm hmv hne hbv HBd HEd HFd
  have e0 : we.cell? ⟨q8, 0, none⟩ = some (.int .i64 C) := HFe.out.bq.cell 0 _ rfl
  have e1 : we.cell? ⟨q8, 1, none⟩ = some (.int .i64 B) := HFe.out.bq.cell 1 _ rfl
  have e2 : we.cell? ⟨q8, 2, none⟩ = some (.slice a8 m c8) := HFe.out.bq.cell 2 _ rfl
  go_wp2_with fail
  obtain ⟨ba, bc, rfl⟩ := own_formS HBe.out.2.1
  have hBe : Bk ≤ we.heap.size := by have := HBe.out.1.lt; omega
  refine (bookState_calls bp Bk 1 m C B (.slice ba (0 + 1) bc) ([] ++ [.slice a6 m c6]) a8 c8 we HBe.out.1 HBe.out.2.1 HBe.out.2.2.1 (by decide) hBe).mono ?_
  rintro ev wf ⟨rfl, bv, hbx, hbo, hm, hmv, hne⟩
  have hF : ∀ i, (i = bp ∨ (Value.slice ba (0 + 1) bc).ownBlock = some i) → bp ≤ i := fun i hi => by
    rcases hi with e | e
    · omega
    · have := (HBe.out.2.2.2 i e).1; omega
  have HEf := HEe.out.mod hm (fun h => by have := hF _ h; have := HSQ.out; omega) (fun k hk h => by have := HOL.out.1 k hk; have := hF _ h; omega)
  have HFf := HFe.out.mod hm (fun h => by have := hF _ h; have := HSQ.out; omega) (fun k hk h => by have := HOL.out.2 k hk; have := hF _ h; omega)
  have HBl2 := Lib.hid (HBl.out.trans (hm.below (by have := HBe.out.1.lt; omega) (fun i hi => hF i hi)))
  have hap : ∀ k, bv.ownBlock = some k → bp < k := fun k hk => by have := (hbo.lt k hk).1; omega
  have HAT := Lib.hid (bookApartS_calls B4 bp 32 bv [.slice a6 m c6, .slice a8 m c8] wf (by decide) hbx ((own_base hbo (by have := HSQ.out; omega)))
    (fun i hi => by
      match i, hi with
      | 0, _ => exact ⟨L, HLL.out, HEf.ow.base (by omega)⟩
      | 1, _ => exact ⟨L, HLL.out, HFf.ow.base (by omega)⟩)
    (fun i j hij hj => by
      have hj2 : j < 2 := hj
      obtain rfl : j = 1 := by omega
      obtain rfl : i = 0 := by omega
      exact HAPT.out)
    (by show 2 ≤ 32; omega)
    (fun i hi k h1 h2 => by
      have := hap k h1
      match i, hi with
      | 0, _ => have := HOL.out.1 k h2; omega
      | 1, _ => have := HOL.out.2 k h2; omega)
    (fun i hi h2 => by
      match i, hi with
      | 0, _ => have := HOL.out.1 bp h2; omega
      | 1, _ => have := HOL.out.2 bp h2; omega)
    (by have := HSQ.out; have := hbx.lt; omega))
  have HML := Lib.hid (show ∀ b, (∃ i, i < [Value.slice a6 m c6, Value.slice a8 m c8].length ∧ ([Value.slice a6 m c6, Value.slice a8 m c8].getD i undef).ownBlock = some b) → B4 ≤ b from fun b ⟨i, hi, hb⟩ => by
    match i, hi, hb with
    | 0, _, hb => exact (HEf.ow.lt b hb).1
    | 1, _, hb => exact (HFf.ow.lt b hb).1)
  have HSZ := Lib.hid (show B4 ≤ wf.heap.size by have := HSQ.out; have := hbx.lt; omega)
  clear hbx hbo hm hmv hne hF HEf HFf hap HBe HEe HFe e0 e1 e2 hBe hBd HBl
  go_wp2_with fail
  refine HAT.out.mono ?_
  rintro ev wg ⟨rfl, hm⟩
  have hb1 : Below B4 wf wg := hm.below HSZ.out (fun b hb => HML.out b hb)
  have HFIN := Lib.hid (show Below w.heap.size w wg from by
    have h1 := HPd.out.bel
    have h2 := HBl2.out
    have hB4 : w.heap.size ≤ B4 := by rw [HB4.out]; exact HK4.out.bel.size
    exact (h1.trans (h2.mono (by have := HSQ.out; omega))).trans (hb1.mono hB4))
  clear hm hb1 HAT HML HSZ
  go_wp2_with fail
  go_ret
  exact ⟨rfl, HFIN.out⟩
theorem imageDecodes_all (l : List UInt8) (v : Value) (w : World) (h : Rd w v l.length (l.map V8)) (hl : l.length ≤ 140737488351232) (hvl : ∀ b, v.ownBlock = some b → b < w.heap.size) (hg : ErrType w) :
    Calls Tryz.prog 3 #[v] w fun e w' => e = .returned (.bool true) ∧ Below w.heap.size w w' := by
  by_cases h0 : l.length ≤ 65536
  · exact imageDecodes_calls l v w h (by omega) hvl hg
  obtain ⟨a, cap, rfl, h1, h2, _⟩ := h
  obtain ⟨n, hN⟩ : ∃ n, n = l.length := ⟨_, rfl⟩
  rw [← hN] at h0 ⊢
  have hlen : (65536 : Int) < (n : Int) := by omega
  have hn63 : n ≤ 9223372036854775807 := by omega
  clear hvl hg h1 h2 hN hl h0
  go_enter Tryz.func3, Tryz.ntmps3
  go_wp2_with fail
  go_ret
  exact ⟨rfl, Below.refl _ _⟩
end Go.Proofs.YtdaimaibnjkfbaaGreatDoor
/-
  An argument that is a slice: its block is there.
-/
namespace Go.Proofs.YtdaimaibnjkfbaaGreatDoor
open Go.RowKit
set_option maxRecDepth 100000

theorem Arg.own_lt {up : Bool} {t e : TypeId} {W : World} {v : Value} (ht : Tryz.prog.underlying t = some (.slice e)) (h : Arg up t W v) : ∀ k, v.ownBlock = some k → k < W.heap.size := by
  obtain ⟨_, base, ho⟩ := h
  obtain ⟨a, n, c, rfl⟩ := Go.WideShapes.okWide_slice ht ho
  intro k hk
  cases a with
  | none => cases hk
  | some ad =>
    simp only [Value.okWide, ht, Cell.okWide, Cell.ok] at ho
    obtain ⟨_, _, _, _, row, cells, hs, _⟩ := ho
    have hk : some ad.block = some k := hk
    injection hk with hk
    subst hk
    rcases Nat.lt_or_ge ad.block W.heap.size with h1 | h1
    · exact h1
    · unfold World.shape? at hs
      rw [Array.getElem?_eq_none h1] at hs
      cases hs
end Go.Proofs.YtdaimaibnjkfbaaGreatDoor
/-
  What errors.As reads of package errors, out of the condition that the card ties; a law's row out of its walk at such a world.
-/
namespace Go.Proofs.YtdaimaibnjkfbaaGreatDoor
open Go.ChangeShapes Go.WideShapes Go.ChangeAt Go.RowKit
set_option maxRecDepth 100000

/-- The variables that are listed. -/
def laidL : List (String × DataW Unit) := [("errors.errorType", Rows.laid_errors_errorType)]
theorem L.et : Tryz.prog.globalNamed "errors.errorType" = some 0 := by kernel_rfl
theorem L.rt : (Tryz.prog.cutTypes.find? (·.1 == "internal/reflectlite.rtype")).map (·.2) = some 154 := by kernel_rfl
theorem L.oneRow : ((List.range 226).filter fun t => Tryz.prog.rowNamed t [101, 114, 114, 111, 114]) = [30] := by kernel_rfl
theorem L.size : Tryz.prog.types.size = 226 := by kernel_rfl
theorem errType_of_laid {W : World} (h : laidMetH Tryz.prog laidL W) : ErrType W := by
  have h' : laidMet Tryz.prog [] W ∧ handlesMet Tryz.prog laidL W := h
  obtain ⟨name, u, ty, e1, e2, e3, e4, e5⟩ := h'.2 _ (List.mem_singleton.2 rfl)
  have en : name = [101, 114, 114, 111, 114] := (Option.some.inj e1).symm
  subst en
  obtain rfl := Option.some.inj (L.rt.symm.trans e2)
  have hm : ty ∈ (List.range 226).filter fun t => Tryz.prog.rowNamed t [101, 114, 114, 111, 114] := List.mem_filter.2 ⟨List.mem_range.2 (by rw [← L.size]; exact e3), e4⟩
  rw [L.oneRow] at hm
  obtain rfl := List.mem_singleton.1 hm
  have hh : typeHandle Tryz.prog 30 = .pointer (some ⟨2, 30, none⟩) := by kernel_rfl
  rw [hh] at e5
  have := World.var?_cell L.et e5 0
  unfold ErrType
  simpa using this
/-- A world that meets the condition. -/
noncomputable def laidWorld (os : Os) : World :=
  let w0 := World.holding Tryz.prog os ⟨#[], #[], []⟩
  { w0 with heap := w0.heap.modify 0 fun
      | .cells _ t frozen => .cells #[.iface 154 (.agg #[.pointer (some ⟨2, 30, none⟩)])] t frozen
      | o => o }
theorem laidWorld_met (os : Os) (args : Array Value) : laidMetH Tryz.prog laidL ((laidWorld os).forCall (fun _ _ => 0) ⟨#[], args, []⟩).memory :=
  laidMetH_of_parts (laidMet_nil _ _) (by kernel_rfl)
theorem law_contract_at {up : Bool} {vt : List TypeId} (hvt : vt = []) {f : FuncId} {fn : Func} {s : ChangeSpec} {ts : List TypeId} (hp : fn.params.toList = ts) (hres : fn.resultTypes = #[4]) (hvars : s.vars = [])
    (hr : ∀ t ∈ ts, Tryz.prog.readableRec t = true ∧ t < Tryz.prog.types.size) (hs : ∀ (H : Type) (ds : List (DataW H)), ds.length = ts.length → (s.fn H ds).results = [.lit (.bool true)] ∧ (s.fn H ds).args = ds ∧ (s.fn H ds).vars = [])
    (H : Type) (enc : TypeId × Value → H) (W : World) (base : Nat) (args : Array Value) (ds gs : List (DataW H)) (before : List MemPlace)
    (hval : ∀ (j : Nat) t v, fn.params[j]? = some t → args[j]? = some v → Value.okWide Tryz.prog W .any base t v)
    (hW : DataW.Whole enc Tryz.prog fn.params.toList s.vars false W args.toList ds gs before)
    (hsz : match up with | true => Rows.uptoSmall H (ds ++ gs) = true | false => (DataW.weightsEach Tryz.prog (fn.params.toList ++ vt) (ds ++ gs)).all (· ≤ reachBytes) = true)
    (walkAt : ArgAll up W ts args.toList → Calls Tryz.prog f args W fun e W' => e = .returned (.bool true) ∧ Below W.heap.size W W') :
    Calls Tryz.prog f args W fun e W' => ∃ v, e = .returned v ∧ s.post enc Tryz.prog fn false true false false W args v W' := by
  have hW' := hW
  obtain ⟨p, q, hA, hV, rfl, _, _⟩ := hW
  rw [hvars] at hV
  have hg : gs = [] ∧ q = [] := by
    cases gs with
    | nil => exact ⟨rfl, hV⟩
    | cons g gs => exact hV.elim
  obtain ⟨rfl, rfl⟩ := hg
  have hlt : ∀ x ∈ p, x.block < W.heap.size := fun x hx => by simpa using hW'.lt x (by simpa using hx)
  have hlen : ds.length = ts.length := by
    have : ∀ {ts : List TypeId} {vs : List Value} {ds : List (DataW H)} {ps : List MemPlace}, DataW.TrodAll enc Tryz.prog W 0 (fun _ => true) true ts vs ds ps → ds.length = ts.length := by
      intro ts
      induction ts with
      | nil => intro vs ds ps h; cases vs with
        | nil => cases ds with
          | nil => rfl
          | cons _ _ => exact h.elim
        | cons _ _ => exact h.elim
      | cons t ts ih => intro vs ds ps h; cases vs with
        | nil => exact h.elim
        | cons v vs => cases ds with
          | nil => exact h.elim
          | cons d ds => obtain ⟨_, _, _, h2, _⟩ := h; simp [ih h2]
    rw [hp] at hA
    exact this hA
  have hall : ArgAll up W ts args.toList := by
    rw [← hp]
    refine argAll_mk (base := base) hA (fun j t v ht hv => hval j t v (by simpa using ht) (by simpa using hv)) ?_
    cases up with
    | true => have h : Rows.uptoBulkAll (ds ++ []) ≤ 1048576 := of_decide_eq_true hsz
              simpa using h
    | false => subst hvt; simpa using hsz
  have hwalk := walkAt hall
  refine hwalk.mono fun e W' ⟨he, hb⟩ => ?_
  obtain ⟨s1, s2, s3⟩ := hs H (ds ++ []) (by simpa using hlen)
  refine ⟨_, he, _, _, _, [], p, [], hW', ?_, ?_, ?_, hb.frame _, fun h => by cases h⟩
  · rw [s1, hres]; exact ⟨[], [], shut_bool (by kernel_rfl) true, rfl, rfl⟩
  · rw [s2, List.append_nil]; exact trodAll_below hb (by rw [hp]; exact hr) hA hlt
  · rw [s3, hvars]; rfl
end Go.Proofs.YtdaimaibnjkfbaaGreatDoor
/-
  The statement of layer, proved out of its walk: whatever the input, the law answers true and leaves its arguments as they were; package errors' variable errorType reads as the program's text lays it (the card ties it).
-/
namespace Go.Proofs.YtdaimaibnjkfbaaGreatDoor
open Go.ChangeShapes Go.WideShapes Go.ChangeAt Go.RowKit
set_option maxRecDepth 100000


theorem imageDecodes_at (W : World) (vs : Array Value) (hg : ErrType W) (h : ArgAll false W [22] vs.toList) : Calls Tryz.prog 3 vs W fun e W' => e = .returned (.bool true) ∧ Below W.heap.size W W' := by
  obtain ⟨vs⟩ := vs
  match vs, h with
  | [x], ⟨h1, _⟩ =>
    obtain ⟨p, p1, _, p3⟩ := (h1.slice Tryz.underlying22).bytes
    exact imageDecodes_all p x W p1 (p3 rfl) (h1.own_lt Tryz.underlying22) hg
theorem imageDecodes_lifted (os : Os) (started : os.Started) (H : Type) (enc : TypeId × Value → H) :
    ReturnsInHanded {} Tryz.checked os 3 .any (fun w args => (Rows.imageDecodesSpec.pre enc Tryz.prog Tryz.f3 [] false w args ∧ laidMetH Tryz.prog laidL w) ∧ sizedMet enc Tryz.prog Tryz.f3 (OpenSpec.ofChange Rows.imageDecodesSpec) false w args)
      (Rows.imageDecodesSpec.post enc Tryz.prog Tryz.f3 false true false false) := by
  refine returnsInHanded_of_change_and (C := Tryz.checked) (X := fun w _ => laidMetH Tryz.prog laidL w) (fun _ _ _ hh h => h.of_heap hh) L.own started (by kernel_rfl) Tryz.func3
    (ChangeSpec.witness_at (enc := enc) (C := Tryz.checked) (os := os) (X := fun w _ => laidMetH Tryz.prog laidL w) false (laidWorld os) #[.slice none 0 0] 8 rfl (by kernel_rfl) (by kernel_rfl) (by kernel_rfl) (by kernel_rfl) (by kernel_rfl) (laidWorld_met os _)) ?_
  intro W base args ds gs before hval hW _ hsz hL _
  exact law_contract_at (up := false) (vt := Rows.imageDecodesSpec.plain.varTypes Tryz.prog) rfl (ts := [22]) rfl rfl rfl (by decide +kernel) (fun H ds h => by
      rcases ds with _ | ⟨d0, _ | ⟨d1, _ | ⟨d2, _ | ⟨d3, _ | ⟨d4, _ | ⟨d5, ds⟩⟩⟩⟩⟩⟩ <;> first | exact ⟨rfl, rfl, rfl⟩ | (exfalso; simp at h; done) | (exfalso; simp at h; omega)) H enc W base args ds gs before hval hW hsz (fun h => imageDecodes_at W args (errType_of_laid hL) h)
theorem imageDecodes_row : Rows.ImageDecodesSaid :=
  OpenClaim.holds_of_wide 3 Tryz.f3 rfl rfl rfl rfl rfl rfl rfl ⟨rfl, rfl, rfl, rfl, rfl⟩ rfl rfl rfl rfl rfl (by kernel_rfl) Tryz.func3 (by kernel_rfl)
    (of_decide_eq_true (by kernel_rfl)) (by unfold Func.isWrapper; first | (rw [if_pos (by decide +kernel)]; kernel_rfl) | (rw [if_neg (by decide +kernel)]; exact ⟨rfl, rfl⟩))
    (fun os started H enc _ => imageDecodes_lifted os started H enc)
theorem imageDecodes_card : Rows.ImageDecodesCardSaid :=
  Claim7.holds_tied_plain_at .later [] [.handle] true (true, "4e43b93db508b16ab1d9ad7109924fbac2d5c2e7df4d8335a16c7a641a634776") true
    imageDecodes_row (fun _ h => by cases h) (by kernel_rfl) (fun _ h => by cases h) imageDecodes_row_tie rfl ⟨rfl, rfl⟩ (by kernel_rfl) rfl
    (fun f fn hf hfn => by
      obtain rfl : f = 3 := Option.some.inj ((show Tryz.prog.funcNamed "lineage/lineagelaw25.ImageDecodes" = some 3 by kernel_rfl).symm.trans hf) |>.symm
      obtain rfl : fn = Tryz.f3 := (Option.some.inj (Tryz.func3.symm.trans hfn)).symm
      exact ⟨by kernel_rfl, fun j t ht => by
        have hp : Tryz.f3.params = #[22] := rfl
        rw [hp] at ht
        have h3 : t = 22 := by
          rcases j with _ | j
          · simpa using ht.symm
          · simp at ht
        rcases h3 with rfl
        · exact (show Tryz.prog.wantsStandIn 22 = false by kernel_rfl)⟩)
    (by kernel_rfl)
#print axioms imageDecodes_card
end Go.Proofs.YtdaimaibnjkfbaaGreatDoor
