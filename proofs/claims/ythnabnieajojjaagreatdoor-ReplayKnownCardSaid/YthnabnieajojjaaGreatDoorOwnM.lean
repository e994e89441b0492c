/-
  Rows of one-cell elements that are owned, of which a mark behind their cells may stand (what '[]byte(s)' makes).
-/
import Derived.Test.YthnabnieajojjaaGreatDoorApart
import Derived.Lib.ConvBytes
import Derived.Lib.AppendStr
namespace Go.Proofs.YthnabnieajojjaaGreatDoor
open Go.RowKit

def OwnM (w : World) (base : Nat) (e : TypeId) (v : Value) (n : Nat) (xs : List Value) : Prop :=
  xs.length = n ∧ ((v = .slice none 0 0 ∧ n = 0) ∨
   ∃ g cap cur fz, v = .slice (some ⟨g, 0, none⟩) n cap ∧ base ≤ g ∧ w.heap[g]? = some (.cells cur e fz) ∧ (fz = (0, 0) ∨ cur.size ≤ fz.1) ∧ n ≤ cap ∧ cap ≤ maxLen ∧ cap ≤ cur.size ∧ cur.toList.take n = xs)
section
variable {w : World} {base : Nat} {e : TypeId} {v : Value} {n : Nat} {xs : List Value}
theorem OwnM.of_own (h : w.ownsRow base e 1 v n xs) : OwnM w base e v n xs := by
  refine ⟨by have := h.1; omega, ?_⟩
  rcases h.2 with hn | ⟨g, cap, cur, hv, hb, hg, h1, h2, h3, h4⟩
  · exact .inl hn
  · exact .inr ⟨g, cap, cur, (0, 0), hv, hb, hg, .inl rfl, h1, h2, by omega, by rw [← h4, Nat.mul_one]⟩
theorem OwnM.nil (w : World) (base : Nat) (e : TypeId) : OwnM w base e (.slice none 0 0) 0 [] := ⟨rfl, .inl ⟨rfl, rfl⟩⟩
theorem OwnM.len (h : OwnM w base e v n xs) : xs.length = n := h.1
theorem OwnM.lt (h : OwnM w base e v n xs) : ∀ k, v.ownBlock = some k → base ≤ k ∧ k < w.heap.size := by
  intro k hk
  rcases h.2 with ⟨rfl, _⟩ | ⟨g, cap, cur, fz, rfl, hb, hg, _⟩
  · simp [Value.ownBlock] at hk
  · simp [Value.ownBlock] at hk
    subst hk
    exact ⟨hb, (Array.getElem?_eq_some_iff.1 hg).1⟩
theorem OwnM.keep {w' : World} (h : OwnM w base e v n xs) (hb : ∀ k, v.ownBlock = some k → k < w.heap.size → w'.heap[k]? = w.heap[k]?) : OwnM w' base e v n xs := by
  refine ⟨h.1, ?_⟩
  rcases h.2 with hn | ⟨g, cap, cur, fz, rfl, hbg, hg, rest⟩
  · exact .inl hn
  · exact .inr ⟨g, cap, cur, fz, rfl, hbg, by rw [hb g rfl (Array.getElem?_eq_some_iff.1 hg).1]; exact hg, rest⟩
theorem OwnM.below {w' : World} (h : OwnM w base e v n xs) (hb : Below w.heap.size w w') : OwnM w' base e v n xs := h.keep (fun k _ hl => hb.block k hl)
theorem OwnM.lower {base' : Nat} (h : OwnM w base e v n xs) (hb : base' ≤ base) : OwnM w base' e v n xs := by
  refine ⟨h.1, ?_⟩
  rcases h.2 with hn | ⟨g, cap, cur, fz, rfl, hbg, rest⟩
  · exact .inl hn
  · exact .inr ⟨g, cap, cur, fz, rfl, by omega, rest⟩
theorem OwnM.other {w' : World} {u : Value} (h : OwnM w base e v n xs) (hg : w.grownBy w' u.ownBlock) (ha : Apart v u) : OwnM w' base e v n xs :=
  h.keep (fun k hk hl => hg.block k hl (fun e => ha k hk e.symm))
theorem OwnM.mod {w' : World} {F : Nat → Prop} (h : OwnM w base e v n xs) (hm : Mod F w w') (hb : ∀ k, v.ownBlock = some k → ¬ F k) : OwnM w' base e v n xs :=
  h.keep (fun k hk hl => hm.block k hl (hb k hk))
theorem OwnM.rd (h : OwnM w base e v n xs) : Rd w v n xs := by
  obtain ⟨h0, h⟩ := h
  rcases h with ⟨rfl, rfl⟩ | ⟨g, cap, cur, fz, rfl, hb, hg, hf, hn, hc, hs, ht⟩
  · have : xs = [] := List.eq_nil_of_length_eq_zero h0
    subst this; exact Rd.nil w
  · refine ⟨_, cap, rfl, hn, by unfold maxLen at hc; omega, (fun h => by cases h), fun j hj => ⟨g, 0, rfl, ?_⟩⟩
    have hc2 : w.cell? ⟨g, 0 + j, none⟩ = cur[0 + j]? := cell_of_row w g (0 + j) cur e fz hg
    rw [hc2, Nat.zero_add, ← ht, List.getD, List.getElem?_take, if_pos (by omega)]
    have : j < cur.size := by omega
    simp [Array.getElem?_eq_getElem this]
theorem OwnM.slice (h : OwnM w base e v n xs) : ∃ a c, v = .slice a n c ∧ n ≤ 9223372036854775807 := by
  rcases h.2 with ⟨rfl, rfl⟩ | ⟨g, cap, cur, fz, rfl, hbg, hg, hf, hnc, hcm, hcs, htake⟩
  · exact ⟨_, _, rfl, by omega⟩
  · exact ⟨_, _, rfl, by unfold maxLen at hcm; omega⟩
theorem OwnM.cells (h : OwnM w base e v n xs) {g : Nat} (hg : v.ownBlock = some g) : ∀ j u, xs[j]? = some u → w.cell? ((⟨g, 0, none⟩ : Addr).add j) = some u := by
  intro j u hu
  rcases h.2 with ⟨rfl, _⟩ | ⟨g', cap, cur, fz, rfl, _, hgg, _, _, _, _, htake⟩
  · simp [Value.ownBlock] at hg
  · simp [Value.ownBlock] at hg
    subst hg
    have hadd : (⟨g', 0, none⟩ : Addr).add j = ⟨g', j, none⟩ := by unfold Addr.add; split <;> simp_all
    rw [hadd, cell_of_row w g' j cur e fz hgg]
    rw [← htake, List.getElem?_take] at hu
    split at hu
    · simpa using hu
    · cases hu
/-- What is not marked may be written. -/
theorem unfrozen {w : World} {g : Nat} {cur : Array Value} {e : TypeId} {fz : Nat × Nat} (hg : w.heap[g]? = some (.cells cur e fz)) (hf : fz = (0, 0) ∨ cur.size ≤ fz.1) (j : Nat) (hj : j < cur.size) : w.frozen? ⟨g, j, none⟩ = false := by
  obtain ⟨lo, hi⟩ := fz
  simp only [World.frozen?, hg, Bool.and_eq_false_iff, decide_eq_false_iff_not]
  rcases hf with hf | hf
  · simp only [Prod.mk.injEq] at hf; obtain ⟨rfl, rfl⟩ := hf; right; omega
  · left; simp only at hf; omega
theorem setM (w : World) (g i : Nat) (cur : Array Value) (e : TypeId) (fz : Nat × Nat) (x : Value) (hg : w.heap[g]? = some (.cells cur e fz)) : (w.setCell ⟨g, i, none⟩ x).heap[g]? = some (.cells (cur.setIfInBounds i x) e fz) := by
  simp only [World.setCell, Array.getElem?_modify, if_true, hg]; rfl
theorem setCellsM (g : Nat) (e : TypeId) (fz : Nat × Nat) : ∀ (vs : List Value) (o : Nat) (w : World) (cur : Array Value), w.heap[g]? = some (.cells cur e fz) → o + vs.length ≤ cur.size →
    ∃ cur', (w.setCells g o vs).heap[g]? = some (.cells cur' e fz) ∧ cur'.size = cur.size ∧ (∀ j v, vs[j]? = some v → cur'[o + j]? = some v) ∧ ∀ j, j < o ∨ o + vs.length ≤ j → cur'[j]? = cur[j]?
  | [], o, w, cur, h, hl => ⟨cur, h, rfl, fun j v hv => by simp at hv, fun _ _ => rfl⟩
  | x :: r, o, w, cur, h, hl => by
    simp only [List.length_cons] at hl
    obtain ⟨cur', h1, h2, h3, h4⟩ := setCellsM g e fz r (o + 1) (w.setCell ⟨g, o, none⟩ x) (cur.setIfInBounds o x) (setM w g o cur e fz x h) (by simp; omega)
    rw [World.setCells]
    refine ⟨cur', h1, by simpa using h2, fun j v hv => ?_, fun j hj => ?_⟩
    · cases j with
      | zero =>
        rw [Nat.add_zero, h4 o (by omega)]
        simp at hv
        subst hv
        simp [show o < cur.size by omega]
      | succ j =>
        have := h3 j v (by simpa using hv)
        rw [show o + (j + 1) = o + 1 + j by omega]; exact this
    · simp only [List.length_cons] at hj
      rw [h4 j (by omega)]
      simp [show o ≠ j by omega]
theorem modCells (F : Nat → Prop) (b : Nat) (hb : F b) : ∀ (vs : List Value) (o : Nat) (w : World), Mod F w (w.setCells b o vs)
  | [], _, _ => Mod.refl _ _
  | v :: r, o, w => (Mod.set F w ⟨b, o, none⟩ v hb).trans (modCells F b hb r (o + 1) _)
/-- A cell of an owned row is written. -/
theorem OwnM.set (h : OwnM w base e v n xs) (i : Nat) (hi : i < n) (x : Value) :
    ∃ g cap, v = .slice (some ⟨g, 0, none⟩) n cap ∧ base ≤ g ∧ (∃ y, w.cell? ⟨g, i, none⟩ = some y) ∧ w.frozen? ⟨g, i, none⟩ = false ∧ OwnM (w.setCell ⟨g, i, none⟩ x) base e v n (xs.set i x) := by
  rcases h.2 with ⟨rfl, rfl⟩ | ⟨g, cap, cur, fz, rfl, hbg, hg, hf, hnc, hcm, hcs, htake⟩
  · omega
  · have hic : i < cur.size := by omega
    refine ⟨g, cap, rfl, hbg, ⟨cur[i], ?_⟩, unfrozen hg hf i hic, by simpa using h.1, .inr ⟨g, cap, cur.setIfInBounds i x, fz, rfl, hbg, setM w g i cur e fz x hg, by simpa using hf, hnc, hcm, by simpa using hcs, ?_⟩⟩
    · rw [cell_of_row w g i cur e fz hg]; simp [hic]
    · rw [Array.toList_setIfInBounds, ← htake, List.take_set]
end
/-- Behind an append: the same row, or a new one while all else stays. -/
def GrewM (w w' : World) (v v' : Value) (n m : Nat) : Prop :=
  (∃ b c, v = .slice (some ⟨b, 0, none⟩) n c ∧ v' = .slice (some ⟨b, 0, none⟩) (n + m) c) ∨ (v'.ownBlock = some w.heap.size ∧ Below w.heap.size w w') ∨ (v' = v ∧ w' = w)
theorem run_append_M {P : Program} (w : World) (base : Nat) (t t2 ty e : TypeId) (d : TypeDesc) (i : TypeInfo) (z : Value) (bytes : Nat) (ht : P.underlying t = some (.slice e)) (ht2 : P.underlying t2 = some d) (hd : (∃ e2, d = .slice e2) ∨ d = .string)
    (hi : P.info? e = some i) (hz : i.zero = some z) (hsize : i.size = 1) (hby : i.bytes = bytes) (hzs : z.cells.size = 1)
    (v : Value) (n : Nat) (xs : List Value) (hown : OwnM w base e v n xs)
    (x : Value) (m : Nat) (news : List Value) (hl : news.length = m) (hlen : ∀ w : World, (Builtin.lenOf x).run P w = .ok m w) (hfc : ∀ wd : World, (∀ a, wd.cell? a = w.cell? a) → (Builtin.firstCells 1 m x).run P wd = .ok news.toArray wd) (h1 : ∀ u ∈ news, u.oneCell' = true)
    (h63 : n + m ≤ maxLen) (hbytes : (n + m) * bytes ≤ 140737488355328) (hbase : base ≤ w.heap.size) :
    ∃ v' w', (Builtin.append_ #[t, t2] ty #[v, x]).run P w = .ok v' w' ∧ OwnM w' base e v' (n + m) (xs ++ news) ∧ w.grownBy w' v.ownBlock ∧ Moved w v v' ∧ GrewM w w' v v' n m := by
  rcases hd with ⟨e2, rfl⟩ | rfl
  all_goals
    have hsmall : n + m ≤ 9223372036854775807 := by simp only [maxLen] at h63; omega
    have hf0 := hfc w (fun _ => rfl)
    have hf1 := hfc w.drew (fun _ => rfl)
    have hge := grownCap_ge w (n + m)
    rcases hown.2 with ⟨rfl, rfl⟩ | ⟨g, cap, cur, fz, rfl, hbg, hg, hf, hnc, hcm, hcs, htake⟩
    · have hx0 : xs = [] := List.eq_nil_of_length_eq_zero hown.1
      subst hx0
      by_cases hm : m = 0
      · subst hm
        have hn0 : news = [] := List.eq_nil_of_length_eq_zero hl
        subst hn0
        refine ⟨.slice none 0 0, w, ?_, OwnM.nil _ _ _, grown_refl _ _, .inl rfl, .inr (.inr ⟨rfl, rfl⟩)⟩
        simp [Builtin.append_, run_underlying ht, run_underlying ht2, sizeOf, typeInfo, hi, hsize, hlen, hf0]
      · have hn : ¬ (m = 0) := hm
        have h63' : ¬ (9223372036854775807 < (m : Int)) := by omega
        have h48' : ¬ (281474976710656 < Builtin.nextslicecap m 0 * bytes) := by rw [nextslicecap_zero (by omega)]; simp only [Nat.zero_add] at hbytes; omega
        have hr : (Builtin.append_ #[t, t2] ty #[.slice none 0 0, x]).run P w = .ok (.slice (some ⟨w.heap.size, 0, none⟩) m (grownCap w m 0 e)) (w.drew.alloc (.cells (news.toArray ++ Builtin.zeroCells z.cells (grownCap w m 0 e - m)) e)) := by
          simp [Builtin.append_, run_underlying ht, run_underlying ht2, sizeOf, typeInfo, zeroValue, hi, hz, hsize, hby, hlen, hn, h63', h48', Question.forced, run_firstCells_none, hf1, newRow, grownCap]
        have hc := grownCap_le_maxLen w m 0 e (by simpa using h63)
        have hg2 := grownCap_ge w m 0 e
        refine ⟨_, _, hr, ⟨by simpa using hl, .inr ⟨w.heap.size, _, _, (0, 0), by rw [Nat.zero_add], hbase, heap_alloc_new w.drew _, .inl rfl, by omega, hc, ?_, ?_⟩⟩, ⟨rfl, rfl, rfl, by simp, fun k hk _ => Below.heap_alloc w.drew _ k hk⟩, .inr rfl, .inr (.inl ⟨rfl, (below_drew w).trans ((Below.refl _ _).alloc (by simp) _)⟩)⟩
        · simp only [Array.size_append, List.size_toArray, size_zeroCells, hzs, hl]; omega
        · rw [Array.toList_append, Nat.zero_add, List.nil_append, ← hl]; exact List.take_left
    · by_cases hroom : n + m ≤ cap
      · have hst := run_storeCells_cells (P := P) g n news 0 w (fun j hj => by rw [Nat.add_zero, cell_of_row w g (n + j) cur e fz hg]; simp; omega) (fun j hj => by rw [Nat.add_zero]; exact unfrozen hg hf (n + j) (by omega)) h1
        simp only [Nat.add_zero] at hst
        have hr : (Builtin.append_ #[t, t2] ty #[.slice (some ⟨g, 0, none⟩) n cap, x]).run P w = .ok (.slice (some ⟨g, 0, none⟩) (n + m) cap) (w.setCells g n news) := by
          simp [Builtin.append_, run_underlying ht, run_underlying ht2, sizeOf, typeInfo, hi, hsize, hlen, hroom, hf0, Addr.add_lit, hst]
        obtain ⟨cur', k1, k2, k3, k4⟩ := setCellsM g e fz news n w cur hg (by omega)
        have hmod := modCells (fun q => q = g) g rfl news n w
        refine ⟨_, _, hr, ⟨by rw [List.length_append, hown.1, hl], .inr ⟨g, cap, cur', fz, rfl, hbg, k1, by rw [k2]; exact hf, hroom, hcm, by omega, ?_⟩⟩, ⟨hmod.os, hmod.tape, hmod.output, hmod.size, fun k hk hne => hmod.block k hk (fun e => hne (by rw [e]; rfl))⟩, .inl rfl, .inl ⟨g, cap, rfl, rfl⟩⟩
        apply List.ext_getElem?
        intro j
        rw [List.getElem?_take]
        by_cases hj : j < n + m
        · rw [if_pos hj, Array.getElem?_toList]
          by_cases hjn : j < n
          · rw [k4 j (.inl hjn), List.getElem?_append_left (by rw [hown.1]; exact hjn), ← htake, List.getElem?_take, if_pos hjn, Array.getElem?_toList]
          · have hjl : j - n < news.length := by omega
            have := k3 (j - n) news[j - n] (by simp [hjl])
            rw [show n + (j - n) = j by omega] at this
            rw [this, List.getElem?_append_right (by rw [hown.1]; omega), hown.1]; simp [hjl]
        · rw [if_neg hj, List.getElem?_eq_none (by rw [List.length_append, hown.1]; omega)]
      · have holds : ∀ j u, xs[j]? = some u → w.cell? ((⟨g, 0, none⟩ : Addr).add j) = some u := hown.cells (g := g) rfl
        have hfo := run_firstCells_some (P := P) w.drew 1 n ⟨g, 0, none⟩ n cap xs (by rw [hown.1]; omega) (by simpa using holds)
        have h63' : ¬ (9223372036854775807 < ((n : Int) + (m : Int))) := by omega
        have h48' : ¬ (281474976710656 < Builtin.nextslicecap (n + m) cap * bytes) := by have := growslice_fits (need := n + m) (old := cap) (bytes := bytes) (by omega) hbytes; omega
        have hr : (Builtin.append_ #[t, t2] ty #[.slice (some ⟨g, 0, none⟩) n cap, x]).run P w = .ok (.slice (some ⟨w.heap.size, 0, none⟩) (n + m) (grownCap w (n + m) cap e)) (w.drew.alloc (.cells (xs.toArray ++ news.toArray ++ Builtin.zeroCells z.cells (grownCap w (n + m) cap e - (n + m))) e)) := by
          simp [Builtin.append_, run_underlying ht, run_underlying ht2, sizeOf, typeInfo, zeroValue, hi, hz, hsize, hby, hlen, hroom, h63', h48', Question.forced, hf1, hfo, newRow, grownCap]
          congr 2
          apply Array.ext'
          simp [List.append_assoc]
        have hc := grownCap_le_maxLen w (n + m) cap e h63
        have hg2 := grownCap_ge w (n + m) cap e
        refine ⟨_, _, hr, ⟨by rw [List.length_append, hown.1, hl], .inr ⟨w.heap.size, _, _, (0, 0), rfl, hbase, heap_alloc_new w.drew _, .inl rfl, hg2, hc, ?_, ?_⟩⟩, ⟨rfl, rfl, rfl, by simp, fun k hk _ => Below.heap_alloc w.drew _ k hk⟩, .inr rfl, .inr (.inl ⟨rfl, (below_drew w).trans ((Below.refl _ _).alloc (by simp) _)⟩)⟩
        · simp only [Array.size_append, List.size_toArray, size_zeroCells, hzs, hl, hown.1]; omega
        · have hll : (xs ++ news).length = n + m := by rw [List.length_append, hown.1, hl]
          rw [Array.toList_append, Array.toList_append, ← hll]; exact List.take_left
end Go.Proofs.YthnabnieajojjaaGreatDoor
