/-
  Texts of one proof, one behind the other.
-/
import Derived.Test.YtgcnolapjppbpaaGreatDoorK02
namespace Go.Proofs.YtgcnolapjppbpaaGreatDoor
open Go.RowKit
def Grew (w w' : World) (v v' : Value) (n : Nat) : Prop :=
  (∃ b c, v = .slice (some ⟨b, 0, none⟩) n c ∧ v' = .slice (some ⟨b, 0, none⟩) (n + 1) c) ∨ (v'.ownBlock = some w.heap.size ∧ Below w.heap.size w w')
def Twin (u g : Value) (n m : Nat) : Prop := Apart u g ∨ ∃ b c c', u = .slice (some ⟨b, 0, none⟩) n c ∧ g = .slice (some ⟨b, 0, none⟩) m c' ∧ n ≤ m
theorem Twin.append {w w' : World} {base : Nat} {e : TypeId} {u v v' x : Value} {n m : Nat} {xs ys : List Value} (h : Twin u v n m) (hr : Rd w u n ys) (hy : ys.length = n) (hown : w.ownsRow base e 1 v m xs)
    (hown' : w'.ownsRow base e 1 v' (m + 1) (xs ++ [x])) (hg : w.grownBy w' v.ownBlock) (hgr : Grew w w' v v' m) (hu : ∀ k, u.ownBlock = some k → k < w.heap.size) : Twin u v' n (m + 1) ∧ Rd w' u n ys := by
  rcases hgr with ⟨b, c, rfl, rfl⟩ | ⟨hn, hb⟩
  · rcases h with h | ⟨b', c1, c2, rfl, e2, hnm⟩
    · refine ⟨.inl (fun k hk => by have := h k hk; simpa [Value.ownBlock] using this), hr.keep (fun k hk hl => hg.block k hl (fun e => h k hk e.symm))⟩
    · injection e2 with e3 e4 e5
      injection e3 with e3
      injection e3 with e3
      subst e3
      refine ⟨.inr ⟨_, c1, c, rfl, rfl, by omega⟩, ?_⟩
      obtain ⟨a0, cap0, h0, h1, h2, h3, h4⟩ := hr
      injection h0 with g1 g2 g3
      subst g1; subst g3
      refine ⟨_, _, rfl, h1, h2, h3, fun j hj => ?_⟩
      obtain ⟨b2, o2, g4, g5⟩ := h4 j hj
      injection g4 with g4
      injection g4 with g4 g6
      subst g4; subst g6
      refine ⟨_, 0, rfl, ?_⟩
      have hjm : j < m := by omega
      have hl : xs.length = m := by have := hown.1; omega
      have q1 := hown.cells (g := _) rfl j xs[j] (by simp [show j < xs.length by omega])
      have q2 := hown'.cells (g := _) rfl j xs[j] (by rw [List.getElem?_append_left (by omega)]; simp [show j < xs.length by omega])
      rw [Go.WideShapes.add_plain] at q1 q2
      rw [q2, ← q1, g5]
  · exact ⟨.inl (fun k hk e => by have := hu k hk; rw [hn] at e; injection e with e; omega), hr.below hb⟩
theorem own_set {w : World} {base : Nat} {e : TypeId} {v : Value} {n : Nat} {xs : List Value} (h : w.ownsRow base e 1 v n xs) (i : Nat) (hi : i < n) (x : Value) :
    ∃ g cap, v = .slice (some ⟨g, 0, none⟩) n cap ∧ base ≤ g ∧ (∃ y, w.cell? ⟨g, i, none⟩ = some y) ∧ w.frozen? ⟨g, i, none⟩ = false ∧ (w.setCell ⟨g, i, none⟩ x).ownsRow base e 1 v n (xs.set i x) := by
  rcases h.2 with ⟨rfl, rfl⟩ | ⟨g, cap, cur, rfl, hbg, hg, hnc, hcm, hcs, htake⟩
  · omega
  · have hB : Box w g cur e := hg
    have hic : i < cur.size := by omega
    refine ⟨g, cap, rfl, hbg, ⟨cur[i], hB.cell i _ (by simp [hic])⟩, hB.free i, ?_, .inr ⟨g, cap, cur.setIfInBounds i x, rfl, hbg, hB.set i x, hnc, hcm, by simpa using hcs, ?_⟩⟩
    · simpa using h.1
    · rw [Array.toList_setIfInBounds, ← htake, List.take_set]
theorem own_len {w : World} {base : Nat} {e : TypeId} {v : Value} {n : Nat} {xs : List Value} (h : w.ownsRow base e 1 v n xs) : xs.length = n := by have := h.1; omega
theorem own_slice {w : World} {base : Nat} {e : TypeId} {size : Nat} {v : Value} {n : Nat} {xs : List Value} (h : w.ownsRow base e size v n xs) : ∃ a c, v = .slice a n c ∧ n ≤ 9223372036854775807 := by
  rcases h.2 with ⟨rfl, rfl⟩ | ⟨g, cap, cur, rfl, hbg, hg, hnc, hcm, hcs, htake⟩
  · exact ⟨_, _, rfl, by omega⟩
  · exact ⟨_, _, rfl, by unfold maxLen at hcm; omega⟩
def marksOf (mk : Nat → Nat → Value) (k n : Nat) : List Value := (List.range n).map (mk k)
theorem marksOf_length (mk : Nat → Nat → Value) (k n : Nat) : (marksOf mk k n).length = n := by simp [marksOf]
theorem marksOf_succ (mk : Nat → Nat → Value) (k n : Nat) : marksOf mk k (n + 1) = marksOf mk k n ++ [mk k n] := by simp [marksOf, List.range_succ]
structure Rows0 where
  N : Nat
  vs : Nat → Value
  ns : Nat → Nat
  B : Nat
  e : TypeId
structure Turn1 (R : Rows0) (mk : Nat → Nat → Value) (lsv : Value) (w0 : World) (k i : Nat) (w : World) : Prop where
  own : ∃ xs : Nat → List Value, (∀ j, j < R.N → w.ownsRow R.B R.e 1 (R.vs j) (R.ns j) (xs j)) ∧ (∀ j, j < k → j < R.N → xs j = marksOf mk j (R.ns j)) ∧ (k < R.N → (xs k).take i = marksOf mk k i)
  apart : ∀ j j', j < R.N → j' < R.N → j ≠ j' → Apart (R.vs j) (R.vs j')
  ls : Rd w lsv R.N ((List.range R.N).map R.vs)
  lsa : ∀ j, j < R.N → Apart lsv (R.vs j)
  mod : Mod (fun b => R.B ≤ b) w0 w
theorem Turn1.drew {R : Rows0} {mk : Nat → Nat → Value} {lsv : Value} {w0 : World} {k i : Nat} {w : World} (h : Turn1 R mk lsv w0 k i w) : Turn1 R mk lsv w0 k i w.drew := by
  obtain ⟨⟨xs, h1, h2, h3⟩, h4, h5, h6, h7⟩ := h
  exact ⟨⟨xs, fun j hj => own_below (h1 j hj) (below_drew _), h2, h3⟩, h4, h5.drew, h6, h7.trans (Mod.drew _ _)⟩
theorem Turn1.row {R : Rows0} {mk : Nat → Nat → Value} {lsv : Value} {w0 : World} {k i : Nat} {w : World} (h : Turn1 R mk lsv w0 k i w) (hk : k < R.N) (hi : i < R.ns k) :
    ∃ g cap, R.vs k = .slice (some ⟨g, 0, none⟩) (R.ns k) cap ∧ (∃ y, w.cell? ⟨g, i, none⟩ = some y) ∧ w.frozen? ⟨g, i, none⟩ = false ∧ Turn1 R mk lsv w0 k (i + 1) (w.setCell ⟨g, i, none⟩ (mk k i)) := by
  obtain ⟨⟨xs, h1, h2, h3⟩, h4, h5, h6, h7⟩ := h
  obtain ⟨g, cap, e1, hb, hy, hf, hs⟩ := own_set (h1 k hk) i hi (mk k i)
  have hm : Mod (fun b => b = g) w (w.setCell ⟨g, i, none⟩ (mk k i)) := Mod.set (fun b => b = g) w ⟨g, i, none⟩ (mk k i) rfl
  have hl := own_len (h1 k hk)
  refine ⟨g, cap, e1, hy, hf, ⟨fun j => if j = k then (xs k).set i (mk k i) else xs j, fun j hj => ?_, fun j hj hj2 => ?_, fun _ => ?_⟩, h4, ?_, h6, h7.trans (hm.mono (fun _ hi => by subst hi; exact hb))⟩
  · dsimp only
    by_cases e : j = k
    · subst e; rw [if_pos rfl]; exact hs
    · rw [if_neg e]; exact own_mod (h1 j hj) hm (fun b hb e2 => h4 j k hj hk e b hb (by rw [e1, e2]; rfl))
  · dsimp only
    rw [if_neg (by omega)]; exact h2 j hj hj2
  · dsimp only
    rw [if_pos rfl, marksOf_succ, ← h3 hk, List.take_succ_eq_append_getElem (by simp; omega), List.take_set_of_le (Nat.le_refl _)]
    simp
  · exact h5.mod hm (fun b hb e2 => h6 k hk b hb (by rw [e1, e2]; rfl))
theorem Turn1.next {R : Rows0} {mk : Nat → Nat → Value} {lsv : Value} {w0 : World} {k : Nat} {w : World} (h : Turn1 R mk lsv w0 k (R.ns k) w) (hk : k < R.N) : Turn1 R mk lsv w0 (k + 1) 0 w := by
  obtain ⟨⟨xs, h1, h2, h3⟩, h4, h5, h6, h7⟩ := h
  refine ⟨⟨xs, h1, fun j hj hj2 => ?_, fun _ => rfl⟩, h4, h5, h6, h7⟩
  by_cases e : j = k
  · subst e
    have := h3 hk
    rw [List.take_of_length_le (by rw [own_len (h1 j hk)]; exact Nat.le_refl _)] at this
    exact this
  · exact h2 j (by omega) hj2
structure Turn2 (R : Rows0) (mk : Nat → Nat → Value) (lsv : Value) (w0 : World) (E : TypeId) (k : Nat) (gsv : Value) (gl : List Value) (g : Value) (i : Nat) (w : World) : Prop where
  own : ∃ gv : Nat → Value, (∀ j, j < k → j < R.N → w.ownsRow R.B R.e 1 (gv j) (R.ns j + 64) (marksOf mk j (R.ns j + 64))) ∧ (∀ j, k < j → j < R.N → gv j = R.vs j ∧ w.ownsRow R.B R.e 1 (gv j) (R.ns j) (marksOf mk j (R.ns j))) ∧
    (k < R.N → gv k = g ∧ w.ownsRow R.B R.e 1 g (R.ns k + i) (marksOf mk k (R.ns k + i)) ∧ Twin (R.vs k) g (R.ns k) (R.ns k + i)) ∧ (∀ j j', j < R.N → j' < R.N → j ≠ j' → Apart (gv j) (gv j') ∧ Apart (R.vs j) (gv j')) ∧
    (∀ j, j < R.N → Apart lsv (gv j) ∧ Apart gsv (gv j)) ∧ gl = (List.range (min k R.N)).map gv
  rd : ∀ j, j < R.N → Rd w (R.vs j) (R.ns j) (marksOf mk j (R.ns j))
  lt : ∀ j, j < R.N → ∀ b, (R.vs j).ownBlock = some b → b < w.heap.size
  ls : Rd w lsv R.N ((List.range R.N).map R.vs)
  lsl : ∀ b, lsv.ownBlock = some b → b < w.heap.size
  gs : w.ownsRow R.B E 1 gsv (min k R.N) gl
  gsa : Apart lsv gsv ∧ ∀ j, j < R.N → Apart (R.vs j) gsv
  mod : Mod (fun b => R.B ≤ b) w0 w
  le : R.B ≤ w.heap.size
theorem Turn1.two {R : Rows0} {mk : Nat → Nat → Value} {lsv : Value} {w0 : World} {w : World} {E : TypeId} (h : Turn1 R mk lsv w0 R.N 0 w) (hl : ∀ b, lsv.ownBlock = some b → b < w.heap.size) (hB : R.B ≤ w.heap.size) :
    Turn2 R mk lsv w0 E 0 (.slice none 0 0) [] (R.vs 0) 0 w := by
  obtain ⟨⟨xs, h1, h2, h3⟩, h4, h5, h6, h7⟩ := h
  have ho : ∀ j, j < R.N → w.ownsRow R.B R.e 1 (R.vs j) (R.ns j) (marksOf mk j (R.ns j)) := fun j hj => by
    have := h1 j hj
    rwa [h2 j hj hj] at this
  refine ⟨⟨R.vs, fun j hj _ => by omega, fun j _ hj => ⟨rfl, ho j hj⟩, fun h0 => ⟨rfl, ho 0 h0, ?_⟩, fun j j' hj hj' hne => ⟨h4 j j' hj hj' hne, h4 j j' hj hj' hne⟩, fun j hj => ⟨h6 j hj, nil_apart _⟩, by simp⟩,
    fun j hj => rd_of_own (ho j hj), fun j hj b hb => ((ho j hj).lt b hb).2, h5, hl, ?_, ⟨apart_nil _, fun j _ => apart_nil _⟩, h7, hB⟩
  · rcases (ho 0 h0).2 with ⟨e, _⟩ | ⟨g, cap, cur, e, _⟩
    · rw [e]; exact .inl (nil_apart _)
    · rw [e]; exact .inr ⟨g, cap, cap, rfl, rfl, by omega⟩
  · rw [Nat.zero_min]; exact World.ownsRow_nil _ _ _ _
theorem Turn2.below {R : Rows0} {mk : Nat → Nat → Value} {lsv : Value} {w0 : World} {E : TypeId} {k i : Nat} {gsv g : Value} {gl : List Value} {w w' : World} (h : Turn2 R mk lsv w0 E k gsv gl g i w) (hb : Below w.heap.size w w') : Turn2 R mk lsv w0 E k gsv gl g i w' := by
  obtain ⟨⟨gv, h1, h2, h3, h4, h5, h6⟩, k1, k2, k3, k4, k5, k6, k7, k8⟩ := h
  exact ⟨⟨gv, fun j a b => own_below (h1 j a b) hb, fun j a b => ⟨(h2 j a b).1, own_below (h2 j a b).2 hb⟩, fun a => ⟨(h3 a).1, own_below (h3 a).2.1 hb, (h3 a).2.2⟩, h4, h5, h6⟩, fun j hj => (k1 j hj).below hb,
    fun j hj b hb2 => Nat.lt_of_lt_of_le (k2 j hj b hb2) hb.size, k3.below hb, fun b hb2 => Nat.lt_of_lt_of_le (k4 b hb2) hb.size, own_below k5 hb, k6, k7.then (Mod.of_below (F := fun _ => False) hb) (fun _ h => h.elim), Nat.le_trans k8 hb.size⟩
theorem Turn2.step {R : Rows0} {mk : Nat → Nat → Value} {lsv : Value} {w0 : World} {E : TypeId} {k i : Nat} {gsv g g' : Value} {gl : List Value} {w w' : World} (h : Turn2 R mk lsv w0 E k gsv gl g i w) (hk : k < R.N)
    (hown' : w'.ownsRow R.B R.e 1 g' (R.ns k + i + 1) (marksOf mk k (R.ns k + i) ++ [mk k (R.ns k + i)])) (hg : w.grownBy w' g.ownBlock) (hm : Moved w g g') (hgr : Grew w w' g g' (R.ns k + i)) : Turn2 R mk lsv w0 E k gsv gl g' (i + 1) w' := by
  obtain ⟨⟨gv, h1, h2, h3, h4, h5, h6⟩, k1, k2, k3, k4, k5, k6, k7, k8⟩ := h
  obtain ⟨e0, ho, ht⟩ := h3 hk
  have hglt := fun j (hj : j < R.N) (hjk : j ≠ k) => (show ∀ b, (gv j).ownBlock = some b → b < w.heap.size from fun b hb => by
    rcases Nat.lt_or_gt_of_ne hjk with hlt | hlt
    · exact ((h1 j hlt hj).lt b hb).2
    · exact ((h2 j hlt hj).2.lt b hb).2)
  have hT := ht.append (k1 k hk) (marksOf_length _ _ _) ho hown' hg hgr (k2 k hk)
  rw [← marksOf_succ] at hown'
  refine ⟨⟨fun j => if j = k then g' else gv j, fun j a b => ?_, fun j a b => ?_, fun a => ⟨if_pos rfl, hown', hT.1⟩, fun j j' hj hj' hne => ?_, fun j hj => ?_, ?_⟩, fun j hj => ?_, fun j hj b hb => Nat.lt_of_lt_of_le (k2 j hj b hb) hg.size,
    k3.keep (fun b hb hl => hg.block b hl (fun e => (h5 k hk).1 b hb (by rw [e0]; exact e.symm))), fun b hb => Nat.lt_of_lt_of_le (k4 b hb) hg.size, own_other k5 hg (by rw [← e0]; exact (h5 k hk).2), k6,
    k7.then (Mod.of_grown hg (F := fun b => R.B ≤ b) (fun b hb => (ho.lt b hb).1)) (fun b hb => .inl hb), Nat.le_trans k8 hg.size⟩
  · show w'.ownsRow R.B R.e 1 (if j = k then g' else gv j) _ _
    rw [if_neg (by omega)]; exact own_other (h1 j a b) hg (by rw [← e0]; exact (h4 j k b hk (by omega)).1)
  · show (if j = k then g' else gv j) = _ ∧ w'.ownsRow R.B R.e 1 (if j = k then g' else gv j) _ _
    rw [if_neg (by omega)]; exact ⟨(h2 j a b).1, own_other (h2 j a b).2 hg (by rw [← e0]; exact (h4 j k b hk (by omega)).1)⟩
  · show Apart (if j = k then g' else gv j) (if j' = k then g' else gv j') ∧ Apart (R.vs j) (if j' = k then g' else gv j')
    by_cases ej : j = k
    · subst ej
      rw [if_pos rfl, if_neg (by omega)]
      have h := h4 j j' hj hj' hne
      refine ⟨?_, h.2⟩
      have h' := h.1.symm
      rw [e0] at h'
      exact (h'.moved hm (hglt j' hj' (by omega))).symm
    · rw [if_neg ej]
      by_cases ej' : j' = k
      · subst ej'
        rw [if_pos rfl]
        have h := h4 j j' hj hj' hne
        rw [e0] at h
        exact ⟨h.1.moved hm (hglt j hj ej), h.2.moved hm (k2 j hj)⟩
      · rw [if_neg ej']; exact h4 j j' hj hj' hne
  · show Apart lsv (if j = k then g' else gv j) ∧ Apart gsv (if j = k then g' else gv j)
    by_cases ej : j = k
    · subst ej
      rw [if_pos rfl]
      have h := h5 j hj
      rw [e0] at h
      exact ⟨h.1.moved hm k4, h.2.moved hm (fun b hb => (k5.lt b hb).2)⟩
    · rw [if_neg ej]; exact h5 j hj
  · rw [h6]
    refine List.map_congr_left fun j hj => ?_
    simp only [List.mem_range] at hj
    rw [if_neg (by omega)]
  · by_cases ej : j = k
    · subst ej; exact hT.2
    · exact (k1 j hj).keep (fun b hb hl => hg.block b hl (fun e => (h4 j k hj hk ej).2 b hb (by rw [e0]; exact e.symm)))
theorem Turn2.next {R : Rows0} {mk : Nat → Nat → Value} {lsv : Value} {w0 : World} {E : TypeId} {k : Nat} {gsv g gsv' : Value} {gl : List Value} {w w' : World} (h : Turn2 R mk lsv w0 E k gsv gl g 64 w) (hk : k < R.N)
    (hown' : w'.ownsRow R.B E 1 gsv' (k + 1) (gl ++ [g])) (hg : w.grownBy w' gsv.ownBlock) (hm : Moved w gsv gsv') : Turn2 R mk lsv w0 E (k + 1) gsv' (gl ++ [g]) (R.vs (k + 1)) 0 w' := by
  obtain ⟨⟨gv, h1, h2, h3, h4, h5, h6⟩, k1, k2, k3, k4, k5, k6, k7, k8⟩ := h
  obtain ⟨e0, ho, ht⟩ := h3 hk
  have hglt := fun j (hj : j < R.N) => (show ∀ b, (gv j).ownBlock = some b → b < w.heap.size from fun b hb => by
    rcases Nat.lt_trichotomy j k with hlt | rfl | hlt
    · exact ((h1 j hlt hj).lt b hb).2
    · rw [e0] at hb; exact (ho.lt b hb).2
    · exact ((h2 j hlt hj).2.lt b hb).2)
  refine ⟨⟨gv, fun j a b => ?_, fun j a b => ⟨(h2 j (by omega) b).1, own_other (h2 j (by omega) b).2 hg (h5 j b).2.symm⟩, fun a => ⟨(h2 _ (by omega) a).1, ?_, ?_⟩, h4, fun j hj => ⟨(h5 j hj).1, ((h5 j hj).2.symm.moved hm (hglt j hj)).symm⟩, ?_⟩,
    fun j hj => (k1 j hj).keep (fun b hb hl => hg.block b hl (fun e => k6.2 j hj b hb e.symm)), fun j hj b hb => Nat.lt_of_lt_of_le (k2 j hj b hb) hg.size,
    k3.keep (fun b hb hl => hg.block b hl (fun e => k6.1 b hb e.symm)), fun b hb => Nat.lt_of_lt_of_le (k4 b hb) hg.size, by rw [show min (k + 1) R.N = k + 1 by omega]; exact hown', ⟨k6.1.moved hm k4, fun j hj => (k6.2 j hj).moved hm (k2 j hj)⟩,
    k7.then (Mod.of_grown hg (F := fun b => R.B ≤ b) (fun b hb => (k5.lt b hb).1)) (fun b hb => .inl hb), Nat.le_trans k8 hg.size⟩
  · by_cases ej : j = k
    · subst ej; rw [e0]; exact own_other ho hg (by rw [← e0]; exact (h5 j b).2.symm)
    · exact own_other (h1 j (by omega) b) hg (h5 j b).2.symm
  · have h := h2 (k + 1) (by omega) a
    rw [h.1] at h
    exact own_other h.2 hg (by have := (h5 (k + 1) a).2.symm; rwa [(h2 (k + 1) (by omega) a).1] at this)
  · have h := h2 (k + 1) (by omega) a
    rw [h.1] at h
    rcases h.2.2 with ⟨e, _⟩ | ⟨g, cap, cur, e, _⟩
    · rw [e]; exact .inl (nil_apart _)
    · rw [e]; exact .inr ⟨g, cap, cap, rfl, rfl, by omega⟩
  · rw [h6, show min k R.N = k by omega, show min (k + 1) R.N = k + 1 by omega, List.range_succ, List.map_append]; simp [e0]
structure Turn3 (R : Rows0) (mk : Nat → Nat → Value) (lsv gsv : Value) (gl : List Value) (w : World) : Prop where
  ls : Rd w lsv R.N ((List.range R.N).map R.vs)
  gs : Rd w gsv R.N gl
  len : gl.length = R.N
  rd : ∀ j, j < R.N → Rd w (R.vs j) (R.ns j) (marksOf mk j (R.ns j))
  gd : ∀ j, j < R.N → Rd w (gl.getD j undef) (R.ns j + 64) (marksOf mk j (R.ns j + 64))
theorem Turn3.below {R : Rows0} {mk : Nat → Nat → Value} {lsv gsv : Value} {gl : List Value} {w w' : World} (h : Turn3 R mk lsv gsv gl w) (hb : Below w.heap.size w w') : Turn3 R mk lsv gsv gl w' :=
  ⟨h.ls.below hb, h.gs.below hb, h.len, fun j hj => (h.rd j hj).below hb, fun j hj => (h.gd j hj).below hb⟩
theorem Turn3.drew {R : Rows0} {mk : Nat → Nat → Value} {lsv gsv : Value} {gl : List Value} {w : World} (h : Turn3 R mk lsv gsv gl w) : Turn3 R mk lsv gsv gl w.drew := h.below (below_drew _)
theorem Rd.at {w : World} {v : Value} {n : Nat} {xs : List Value} (h : Rd w v n xs) (i : Nat) (hi : i < xs.length) : ∃ b off cap, v = .slice (some ⟨b, off, none⟩) n cap ∧ w.cell? ⟨b, off + i, none⟩ = some (xs.getD i undef) := by
  obtain ⟨a, cap, rfl, h1, h2, h3, h4⟩ := h
  obtain ⟨b, off, rfl, h5⟩ := h4 i hi
  exact ⟨b, off, cap, rfl, h5⟩
end Go.Proofs.YtgcnolapjppbpaaGreatDoor
