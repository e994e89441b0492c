/-
  Texts of one proof, one behind the other.
-/
import Derived.Test.YtgcnolapjppbpaaGreatDoorK05
import Derived.Lib.ConvBytes
import Derived.Lib.AppendStr
import Derived.Test.YtgcnolapjppbpaaGreatDoorK02
import Derived.Laws.IdiomStrings
import Derived.Laws.BytesArg
import Derived.Lib.Strings
namespace Go.Proofs.YtgcnolapjppbpaaGreatDoor
open Go.RowKit
def OwnM (w : World) (base : Nat) (e : TypeId) (v : Value) (n : Nat) (xs : List Value) : Prop :=
  xs.length = n ∧ ((v = .slice none 0 0 ∧ n = 0) ∨
   ∃ g cap cur fz, v = .slice (some ⟨g, 0, none⟩) n cap ∧ base ≤ g ∧ w.heap[g]? = some (.cells cur e fz) ∧ (fz = (0, 0) ∨ cur.size ≤ fz.1) ∧ n ≤ cap ∧ cap ≤ maxLen ∧ cap ≤ cur.size ∧ cur.toList.take n = xs)
section
variable {w : World} {base : Nat} {e : TypeId} {v : Value} {n : Nat} {xs : List Value}
theorem OwnM.nil (w : World) (base : Nat) (e : TypeId) : OwnM w base e (.slice none 0 0) 0 [] := ⟨rfl, .inl ⟨rfl, rfl⟩⟩
theorem OwnM.len (h : OwnM w base e v n xs) : xs.length = n := h.1
theorem OwnM.lt (h : OwnM w base e v n xs) : ∀ k, v.ownBlock = some k → base ≤ k ∧ k < w.heap.size := by
  intro k hk
  rcases h.2 with ⟨rfl, _⟩ | ⟨g, cap, cur, fz, rfl, hb, hg, _⟩
  · simp [Value.ownBlock] at hk
  · simp [Value.ownBlock] at hk
    subst hk
    exact ⟨hb, (Array.getElem?_eq_some_iff.1 hg).1⟩
theorem OwnM.keep {w' : World} (h : OwnM w base e v n xs) (hb : ∀ k, v.ownBlock = some k → k < w.heap.size → w'.heap[k]? = w.heap[k]?) : OwnM w' base e v n xs := by
  refine ⟨h.1, ?_⟩
  rcases h.2 with hn | ⟨g, cap, cur, fz, rfl, hbg, hg, rest⟩
  · exact .inl hn
  · exact .inr ⟨g, cap, cur, fz, rfl, hbg, by rw [hb g rfl (Array.getElem?_eq_some_iff.1 hg).1]; exact hg, rest⟩
theorem OwnM.below {w' : World} (h : OwnM w base e v n xs) (hb : Below w.heap.size w w') : OwnM w' base e v n xs := h.keep (fun k _ hl => hb.block k hl)
theorem OwnM.lower {base' : Nat} (h : OwnM w base e v n xs) (hb : base' ≤ base) : OwnM w base' e v n xs := by
  refine ⟨h.1, ?_⟩
  rcases h.2 with hn | ⟨g, cap, cur, fz, rfl, hbg, rest⟩
  · exact .inl hn
  · exact .inr ⟨g, cap, cur, fz, rfl, by omega, rest⟩
theorem OwnM.other {w' : World} {u : Value} (h : OwnM w base e v n xs) (hg : w.grownBy w' u.ownBlock) (ha : Apart v u) : OwnM w' base e v n xs :=
  h.keep (fun k hk hl => hg.block k hl (fun e => ha k hk e.symm))
theorem OwnM.mod {w' : World} {F : Nat → Prop} (h : OwnM w base e v n xs) (hm : Mod F w w') (hb : ∀ k, v.ownBlock = some k → ¬ F k) : OwnM w' base e v n xs :=
  h.keep (fun k hk hl => hm.block k hl (hb k hk))
theorem OwnM.rd (h : OwnM w base e v n xs) : Rd w v n xs := by
  obtain ⟨h0, h⟩ := h
  rcases h with ⟨rfl, rfl⟩ | ⟨g, cap, cur, fz, rfl, hb, hg, hf, hn, hc, hs, ht⟩
  · have : xs = [] := List.eq_nil_of_length_eq_zero h0
    subst this; exact Rd.nil w
  · refine ⟨_, cap, rfl, hn, by unfold maxLen at hc; omega, (fun h => by cases h), fun j hj => ⟨g, 0, rfl, ?_⟩⟩
    have hc2 : w.cell? ⟨g, 0 + j, none⟩ = cur[0 + j]? := cell_of_row w g (0 + j) cur e fz hg
    rw [hc2, Nat.zero_add, ← ht, List.getD, List.getElem?_take, if_pos (by omega)]
    have : j < cur.size := by omega
    simp [Array.getElem?_eq_getElem this]
theorem OwnM.slice (h : OwnM w base e v n xs) : ∃ a c, v = .slice a n c ∧ n ≤ 9223372036854775807 := by
  rcases h.2 with ⟨rfl, rfl⟩ | ⟨g, cap, cur, fz, rfl, hbg, hg, hf, hnc, hcm, hcs, htake⟩
  · exact ⟨_, _, rfl, by omega⟩
  · exact ⟨_, _, rfl, by unfold maxLen at hcm; omega⟩
theorem OwnM.cells (h : OwnM w base e v n xs) {g : Nat} (hg : v.ownBlock = some g) : ∀ j u, xs[j]? = some u → w.cell? ((⟨g, 0, none⟩ : Addr).add j) = some u := by
  intro j u hu
  rcases h.2 with ⟨rfl, _⟩ | ⟨g', cap, cur, fz, rfl, _, hgg, _, _, _, _, htake⟩
  · simp [Value.ownBlock] at hg
  · simp [Value.ownBlock] at hg
    subst hg
    have hadd : (⟨g', 0, none⟩ : Addr).add j = ⟨g', j, none⟩ := by unfold Addr.add; split <;> simp_all
    rw [hadd, cell_of_row w g' j cur e fz hgg]
    rw [← htake, List.getElem?_take] at hu
    split at hu
    · simpa using hu
    · cases hu
theorem unfrozen {w : World} {g : Nat} {cur : Array Value} {e : TypeId} {fz : Nat × Nat} (hg : w.heap[g]? = some (.cells cur e fz)) (hf : fz = (0, 0) ∨ cur.size ≤ fz.1) (j : Nat) (hj : j < cur.size) : w.frozen? ⟨g, j, none⟩ = false := by
  obtain ⟨lo, hi⟩ := fz
  simp only [World.frozen?, hg, Bool.and_eq_false_iff, decide_eq_false_iff_not]
  rcases hf with hf | hf
  · simp only [Prod.mk.injEq] at hf; obtain ⟨rfl, rfl⟩ := hf; right; omega
  · left; simp only at hf; omega
theorem setM (w : World) (g i : Nat) (cur : Array Value) (e : TypeId) (fz : Nat × Nat) (x : Value) (hg : w.heap[g]? = some (.cells cur e fz)) : (w.setCell ⟨g, i, none⟩ x).heap[g]? = some (.cells (cur.setIfInBounds i x) e fz) := by
  simp only [World.setCell, Array.getElem?_modify, if_true, hg]; rfl
theorem setCellsM (g : Nat) (e : TypeId) (fz : Nat × Nat) : ∀ (vs : List Value) (o : Nat) (w : World) (cur : Array Value), w.heap[g]? = some (.cells cur e fz) → o + vs.length ≤ cur.size →
    ∃ cur', (w.setCells g o vs).heap[g]? = some (.cells cur' e fz) ∧ cur'.size = cur.size ∧ (∀ j v, vs[j]? = some v → cur'[o + j]? = some v) ∧ ∀ j, j < o ∨ o + vs.length ≤ j → cur'[j]? = cur[j]?
  | [], o, w, cur, h, hl => ⟨cur, h, rfl, fun j v hv => by simp at hv, fun _ _ => rfl⟩
  | x :: r, o, w, cur, h, hl => by
    simp only [List.length_cons] at hl
    obtain ⟨cur', h1, h2, h3, h4⟩ := setCellsM g e fz r (o + 1) (w.setCell ⟨g, o, none⟩ x) (cur.setIfInBounds o x) (setM w g o cur e fz x h) (by simp; omega)
    rw [World.setCells]
    refine ⟨cur', h1, by simpa using h2, fun j v hv => ?_, fun j hj => ?_⟩
    · cases j with
      | zero =>
        rw [Nat.add_zero, h4 o (by omega)]
        simp at hv
        subst hv
        simp [show o < cur.size by omega]
      | succ j =>
        have := h3 j v (by simpa using hv)
        rw [show o + (j + 1) = o + 1 + j by omega]; exact this
    · simp only [List.length_cons] at hj
      rw [h4 j (by omega)]
      simp [show o ≠ j by omega]
theorem modCells (F : Nat → Prop) (b : Nat) (hb : F b) : ∀ (vs : List Value) (o : Nat) (w : World), Mod F w (w.setCells b o vs)
  | [], _, _ => Mod.refl _ _
  | v :: r, o, w => (Mod.set F w ⟨b, o, none⟩ v hb).trans (modCells F b hb r (o + 1) _)
theorem OwnM.set (h : OwnM w base e v n xs) (i : Nat) (hi : i < n) (x : Value) :
    ∃ g cap, v = .slice (some ⟨g, 0, none⟩) n cap ∧ base ≤ g ∧ (∃ y, w.cell? ⟨g, i, none⟩ = some y) ∧ w.frozen? ⟨g, i, none⟩ = false ∧ OwnM (w.setCell ⟨g, i, none⟩ x) base e v n (xs.set i x) := by
  rcases h.2 with ⟨rfl, rfl⟩ | ⟨g, cap, cur, fz, rfl, hbg, hg, hf, hnc, hcm, hcs, htake⟩
  · omega
  · have hic : i < cur.size := by omega
    refine ⟨g, cap, rfl, hbg, ⟨cur[i], ?_⟩, unfrozen hg hf i hic, by simpa using h.1, .inr ⟨g, cap, cur.setIfInBounds i x, fz, rfl, hbg, setM w g i cur e fz x hg, by simpa using hf, hnc, hcm, by simpa using hcs, ?_⟩⟩
    · rw [cell_of_row w g i cur e fz hg]; simp [hic]
    · rw [Array.toList_setIfInBounds, ← htake, List.take_set]
end
def GrewM (w w' : World) (v v' : Value) (n m : Nat) : Prop :=
  (∃ b c, v = .slice (some ⟨b, 0, none⟩) n c ∧ v' = .slice (some ⟨b, 0, none⟩) (n + m) c) ∨ (v'.ownBlock = some w.heap.size ∧ Below w.heap.size w w') ∨ (v' = v ∧ w' = w)
theorem run_append_M {P : Program} (w : World) (base : Nat) (t t2 ty e : TypeId) (d : TypeDesc) (i : TypeInfo) (z : Value) (bytes : Nat) (ht : P.underlying t = some (.slice e)) (ht2 : P.underlying t2 = some d) (hd : (∃ e2, d = .slice e2) ∨ d = .string)
    (hi : P.info? e = some i) (hz : i.zero = some z) (hsize : i.size = 1) (hby : i.bytes = bytes) (hzs : z.cells.size = 1)
    (v : Value) (n : Nat) (xs : List Value) (hown : OwnM w base e v n xs)
    (x : Value) (m : Nat) (news : List Value) (hl : news.length = m) (hlen : ∀ w : World, (Builtin.lenOf x).run P w = .ok m w) (hfc : ∀ wd : World, (∀ a, wd.cell? a = w.cell? a) → (Builtin.firstCells 1 m x).run P wd = .ok news.toArray wd) (h1 : ∀ u ∈ news, u.oneCell' = true)
    (h63 : n + m ≤ maxLen) (hbytes : (n + m) * bytes ≤ 140737488355328) (hbase : base ≤ w.heap.size) :
    ∃ v' w', (Builtin.append_ #[t, t2] ty #[v, x]).run P w = .ok v' w' ∧ OwnM w' base e v' (n + m) (xs ++ news) ∧ w.grownBy w' v.ownBlock ∧ Moved w v v' ∧ GrewM w w' v v' n m := by
  rcases hd with ⟨e2, rfl⟩ | rfl
  all_goals
    have hsmall : n + m ≤ 9223372036854775807 := by simp only [maxLen] at h63; omega
    have hf0 := hfc w (fun _ => rfl)
    have hf1 := hfc w.drew (fun _ => rfl)
    have hge := grownCap_ge w (n + m)
    rcases hown.2 with ⟨rfl, rfl⟩ | ⟨g, cap, cur, fz, rfl, hbg, hg, hf, hnc, hcm, hcs, htake⟩
    · have hx0 : xs = [] := List.eq_nil_of_length_eq_zero hown.1
      subst hx0
      by_cases hm : m = 0
      · subst hm
        have hn0 : news = [] := List.eq_nil_of_length_eq_zero hl
        subst hn0
        refine ⟨.slice none 0 0, w, ?_, OwnM.nil _ _ _, grown_refl _ _, .inl rfl, .inr (.inr ⟨rfl, rfl⟩)⟩
        simp [Builtin.append_, run_underlying ht, run_underlying ht2, sizeOf, typeInfo, hi, hsize, hlen, hf0]
      · have hn : ¬ (m = 0) := hm
        have h63' : ¬ (9223372036854775807 < (m : Int)) := by omega
        have h48' : ¬ (281474976710656 < Builtin.nextslicecap m 0 * bytes) := by rw [nextslicecap_zero (by omega)]; simp only [Nat.zero_add] at hbytes; omega
        have hr : (Builtin.append_ #[t, t2] ty #[.slice none 0 0, x]).run P w = .ok (.slice (some ⟨w.heap.size, 0, none⟩) m (grownCap w m 0 e)) (w.drew.alloc (.cells (news.toArray ++ Builtin.zeroCells z.cells (grownCap w m 0 e - m)) e)) := by
          simp [Builtin.append_, run_underlying ht, run_underlying ht2, sizeOf, typeInfo, zeroValue, hi, hz, hsize, hby, hlen, hn, h63', h48', Question.forced, run_firstCells_none, hf1, newRow, grownCap]
        have hc := grownCap_le_maxLen w m 0 e (by simpa using h63)
        have hg2 := grownCap_ge w m 0 e
        refine ⟨_, _, hr, ⟨by simpa using hl, .inr ⟨w.heap.size, _, _, (0, 0), by rw [Nat.zero_add], hbase, heap_alloc_new w.drew _, .inl rfl, by omega, hc, ?_, ?_⟩⟩, ⟨rfl, rfl, rfl, by simp, fun k hk _ => Below.heap_alloc w.drew _ k hk⟩, .inr rfl, .inr (.inl ⟨rfl, (below_drew w).trans ((Below.refl _ _).alloc (by simp) _)⟩)⟩
        · simp only [Array.size_append, List.size_toArray, size_zeroCells, hzs, hl]; omega
        · rw [Array.toList_append, Nat.zero_add, List.nil_append, ← hl]; exact List.take_left
    · by_cases hroom : n + m ≤ cap
      · have hst := run_storeCells_cells (P := P) g n news 0 w (fun j hj => by rw [Nat.add_zero, cell_of_row w g (n + j) cur e fz hg]; simp; omega) (fun j hj => by rw [Nat.add_zero]; exact unfrozen hg hf (n + j) (by omega)) h1
        simp only [Nat.add_zero] at hst
        have hr : (Builtin.append_ #[t, t2] ty #[.slice (some ⟨g, 0, none⟩) n cap, x]).run P w = .ok (.slice (some ⟨g, 0, none⟩) (n + m) cap) (w.setCells g n news) := by
          simp [Builtin.append_, run_underlying ht, run_underlying ht2, sizeOf, typeInfo, hi, hsize, hlen, hroom, hf0, Addr.add_lit, hst]
        obtain ⟨cur', k1, k2, k3, k4⟩ := setCellsM g e fz news n w cur hg (by omega)
        have hmod := modCells (fun q => q = g) g rfl news n w
        refine ⟨_, _, hr, ⟨by rw [List.length_append, hown.1, hl], .inr ⟨g, cap, cur', fz, rfl, hbg, k1, by rw [k2]; exact hf, hroom, hcm, by omega, ?_⟩⟩, ⟨hmod.os, hmod.tape, hmod.output, hmod.size, fun k hk hne => hmod.block k hk (fun e => hne (by rw [e]; rfl))⟩, .inl rfl, .inl ⟨g, cap, rfl, rfl⟩⟩
        apply List.ext_getElem?
        intro j
        rw [List.getElem?_take]
        by_cases hj : j < n + m
        · rw [if_pos hj, Array.getElem?_toList]
          by_cases hjn : j < n
          · rw [k4 j (.inl hjn), List.getElem?_append_left (by rw [hown.1]; exact hjn), ← htake, List.getElem?_take, if_pos hjn, Array.getElem?_toList]
          · have hjl : j - n < news.length := by omega
            have := k3 (j - n) news[j - n] (by simp [hjl])
            rw [show n + (j - n) = j by omega] at this
            rw [this, List.getElem?_append_right (by rw [hown.1]; omega), hown.1]; simp [hjl]
        · rw [if_neg hj, List.getElem?_eq_none (by rw [List.length_append, hown.1]; omega)]
      · have holds : ∀ j u, xs[j]? = some u → w.cell? ((⟨g, 0, none⟩ : Addr).add j) = some u := hown.cells (g := g) rfl
        have hfo := run_firstCells_some (P := P) w.drew 1 n ⟨g, 0, none⟩ n cap xs (by rw [hown.1]; omega) (by simpa using holds)
        have h63' : ¬ (9223372036854775807 < ((n : Int) + (m : Int))) := by omega
        have h48' : ¬ (281474976710656 < Builtin.nextslicecap (n + m) cap * bytes) := by have := growslice_fits (need := n + m) (old := cap) (bytes := bytes) (by omega) hbytes; omega
        have hr : (Builtin.append_ #[t, t2] ty #[.slice (some ⟨g, 0, none⟩) n cap, x]).run P w = .ok (.slice (some ⟨w.heap.size, 0, none⟩) (n + m) (grownCap w (n + m) cap e)) (w.drew.alloc (.cells (xs.toArray ++ news.toArray ++ Builtin.zeroCells z.cells (grownCap w (n + m) cap e - (n + m))) e)) := by
          simp [Builtin.append_, run_underlying ht, run_underlying ht2, sizeOf, typeInfo, zeroValue, hi, hz, hsize, hby, hlen, hroom, h63', h48', Question.forced, hf1, hfo, newRow, grownCap]
          congr 2
          apply Array.ext'
          simp [List.append_assoc]
        have hc := grownCap_le_maxLen w (n + m) cap e h63
        have hg2 := grownCap_ge w (n + m) cap e
        refine ⟨_, _, hr, ⟨by rw [List.length_append, hown.1, hl], .inr ⟨w.heap.size, _, _, (0, 0), rfl, hbase, heap_alloc_new w.drew _, .inl rfl, hg2, hc, ?_, ?_⟩⟩, ⟨rfl, rfl, rfl, by simp, fun k hk _ => Below.heap_alloc w.drew _ k hk⟩, .inr rfl, .inr (.inl ⟨rfl, (below_drew w).trans ((Below.refl _ _).alloc (by simp) _)⟩)⟩
        · simp only [Array.size_append, List.size_toArray, size_zeroCells, hzs, hl, hown.1]; omega
        · have hll : (xs ++ news).length = n + m := by rw [List.length_append, hown.1, hl]
          rw [Array.toList_append, Array.toList_append, ← hll]; exact List.take_left
end Go.Proofs.YtgcnolapjppbpaaGreatDoor
namespace Go.Proofs.YtgcnolapjppbpaaGreatDoor
open Go.RowKit
def pickI (k n : Int) : Int := if n < 1 then 0 else k % n
theorem pickI_lt (k n : Int) (h : 1 ≤ n) : 0 ≤ pickI k n ∧ pickI k n < n := by
  unfold pickI; rw [if_neg (by omega)]; exact ⟨Int.emod_nonneg _ (by omega), Int.emod_lt_of_pos _ (by omega)⟩
theorem tmod_pick (k n : Int) (hn : 1 ≤ n) : (if k.tmod n < 0 then k.tmod n + n else k.tmod n) = k % n := by
  have h1 := Int.tmod_eq_emod (a := k) (b := n)
  have h5 : 0 ≤ k % n := Int.emod_nonneg _ (by omega)
  have h6 : k % n < n := Int.emod_lt_of_pos _ (by omega)
  by_cases h : 0 ≤ k ∨ n ∣ k
  · rw [if_pos h] at h1; rw [if_neg (by omega)]; omega
  · rw [if_neg h] at h1; rw [if_pos (by omega)]; omega
set_option maxHeartbeats 400000 in
theorem pick_calls (k n : Int) (w : World) (h1 : -9223372036854775808 ≤ k) (h2 : k ≤ 9223372036854775807) (h3 : -9223372036854775808 ≤ n) (h4 : n ≤ 9223372036854775807) :
    Calls Tryz.prog 10 #[.int .i64 k, .int .i64 n] w fun e w' => e = .returned (.int .i64 (pickI k n)) ∧ w = w' := by
  by_cases hn : n < 1
  · go_enter Tryz.func10, Tryz.ntmps10
    go_wp2
    go_ret
    exact ⟨by simp [pickI, hn], rfl⟩
  · have hne : Hid (pickI k n = k % n) := by unfold pickI; rw [if_neg hn]; rfl
    have ht := tmod_pick k n (by omega)
    have hm1 : 0 ≤ k % n := Int.emod_nonneg _ (by omega)
    have hm0 : k % n < n := Int.emod_lt_of_pos _ (by omega)
    by_cases hk : 0 ≤ k
    · clear ht
      go_enter Tryz.func10, Tryz.ntmps10
      go_wp2
      go_ret
      exact ⟨by rw [hne.out]; rfl, rfl⟩
    · by_cases hz : k.tmod n < 0
      · rw [if_pos hz] at ht
        have hm2 : -n ≤ k.tmod n := by omega
        have hm3 := Lib.hid ht
        clear ht
        go_enter Tryz.func10, Tryz.ntmps10
        go_wp2
        go_ret
        exact ⟨by rw [hne.out, ← hm3.out]; rfl, rfl⟩
      · rw [if_neg hz] at ht
        have hm3 := Lib.hid ht
        clear ht
        go_enter Tryz.func10, Tryz.ntmps10
        go_wp2
        go_ret
        exact ⟨by rw [hne.out, ← hm3.out]; rfl, rfl⟩
end Go.Proofs.YtgcnolapjppbpaaGreatDoor
namespace Go.Proofs.YtgcnolapjppbpaaGreatDoor
open Go.RowKit
theorem info_u8 : (Tryz.prog.info? 5).map (fun i => (i.zero, i.size, i.bytes)) = some (some (.int .u8 0), 1, 1) := by kernel_rfl
theorem appB {w : World} {ops : Array Oper} {rest : List Oper} {o : Oper} {a : Act} {Q : Exit → Act → World → Prop} (hgd : o.guard = none) (s x : Operand)
    (ho : o.op = .call { callee := .builtin .append, args := #[s, x], argTypes := #[92, 92] })
    (base : Nat) (v : Value) (n : Nat) (xs : List Value) (hs : a.eval s = v) (hown : w.ownsRow base 5 1 v n xs)
    (ad : Addr) (m c : Nat) (news : List Value) (hx : a.eval x = .slice (some ad) m c) (hl : news.length = m) (hnews : ∀ j u, news[j]? = some u → w.cell? (ad.add j) = some u) (h1 : ∀ u ∈ news, u.oneCell' = true)
    (hroom : n + m ≤ 140737488355328) (hbase : base ≤ w.heap.size)
    (h : ∀ v' w', w'.ownsRow base 5 1 v' (n + m) (xs ++ news) → w.grownBy w' v.ownBlock → Moved w v v' → wpList Tryz.prog ops Q rest (a.put o.dst v') w') : wpList Tryz.prog ops Q (o :: rest) a w := by
  obtain ⟨i0, hi, hz0, hz1, hz2⟩ := info_parts info_u8
  exact wpList_append_own2 hgd s x 92 ho base 5 i0 (.int .u8 0) 1 1 Tryz.underlying92 hi hz0 hz1 hz2 rfl (by decide) v n xs hs hown ad m c news hx (by omega) hnews h1 (by unfold maxLen; omega) (by omega) hbase h
theorem tailB (a : Option Addr) (n cap k : Nat) (hk : k ≤ n) (w : World) : (Instr.slice 92 (.slice a n cap) (some (.int .i64 (k : Int))) none none).run Tryz.prog w = .ok (tailV a n cap k) w :=
  run_tail Tryz.underlying92 (by kernel_rfl) a n cap k hk w
theorem headB (a : Option Addr) (n cap k : Nat) (hk : k ≤ cap) (w : World) : (Instr.slice 92 (.slice a n cap) none (some (.int .i64 (k : Int))) none).run Tryz.prog w = .ok (.slice a k cap) w :=
  run_head Tryz.underlying92 ⟨1, by kernel_rfl⟩ a n cap k hk w
theorem appSB {w : World} {ops : Array Oper} {rest : List Oper} {o : Oper} {a : Act} {Q : Exit → Act → World → Prop} (hgd : o.guard = none) (s x : Operand)
    (ho : o.op = .call { callee := .builtin .append, args := #[s, x], argTypes := #[92, 92] })
    (base : Nat) (v : Value) (n : Nat) (xs : List Value) (hs : a.eval s = v) (hown : w.ownsRow base 5 1 v n xs)
    (src : Value) (l : List UInt8) (hx : a.eval x = src) (hsrc : Rd w src l.length (l.map V8))
    (hroom : n + l.length ≤ 140737488355328) (hbase : base ≤ w.heap.size)
    (h : ∀ v' w', w'.ownsRow base 5 1 v' (n + l.length) (xs ++ l.map V8) → w.grownBy w' v.ownBlock → Moved w v v' → wpList Tryz.prog ops Q rest (a.put o.dst v') w') : wpList Tryz.prog ops Q (o :: rest) a w := by
  obtain ⟨i0, hi, hz0, hz1, hz2⟩ := info_parts info_u8
  exact wpList_append_src hgd s x 92 ho base 5 i0 (.int .u8 0) 1 1 Tryz.underlying92 hi hz0 hz1 hz2 rfl (by decide) v n xs hs hown src l.length (l.map V8) hx hsrc (by simp) (by
    intro u hu
    obtain ⟨c, _, rfl⟩ := List.mem_map.1 hu
    simp [V8, Value.oneCell']) (by unfold maxLen; omega) (by omega) hbase h
end Go.Proofs.YtgcnolapjppbpaaGreatDoor
namespace Go.Proofs.YtgcnolapjppbpaaGreatDoor
open Go.RowKit
def SB (l : List UInt8) : ByteArray := ⟨l.toArray⟩
def SV (l : List UInt8) : Value := .string (SB l)
@[simp] theorem SB_size (l : List UInt8) : (SB l).size = l.length := by simp [SB, ByteArray.size]
theorem SB_data (l : List UInt8) : (SB l).data.toList = l := by simp [SB]
theorem SB_get (l : List UInt8) (i : Nat) (h : i < (SB l).size) : (SB l)[i]'h = l.getD i 0 := by
  have h' : i < l.length := by simpa using h
  show (SB l).data[i]'_ = _
  simp [SB, List.getD, h']
theorem SB_ext {a b : ByteArray} (h : a.data.toList = b.data.toList) : a = b := by
  cases a; cases b; simp only [ByteArray.mk.injEq] at *; exact Array.ext' h
theorem SB_inj {a b : List UInt8} (h : SB a = SB b) : a = b := by
  have := congrArg (fun x : ByteArray => x.data.toList) h; simpa [SB] using this
theorem SB_extract (l : List UInt8) (i j : Nat) : (SB l).extract i j = SB ((l.take j).drop i) := by
  apply SB_ext
  simp [SB, ByteArray.data_extract, List.drop_take]
theorem SB_add (a b : List UInt8) : SB a ++ SB b = SB (a ++ b) := by unfold SB; rw [ByteArray.mk_append_mk]
theorem SB_of (s : ByteArray) : ∃ l, s = SB l ∧ l.length = s.size := ⟨s.data.toList, by apply SB_ext; simp [SB], by show s.data.toList.length = s.data.size; simp⟩
theorem convS {w : World} {v : Value} {n : Nat} (l : List UInt8) (h : Rd w v n (l.map V8)) (hn : n = l.length) : (convert 92 9 v).run Tryz.prog w = .ok (.string (SB l)) w := by
  subst hn
  obtain ⟨a, cap, rfl, h1, h2, h3, h4⟩ := h
  cases l with
  | nil =>
    cases a with
    | none => exact run_convert_bytes_nil w 92 5 Tryz.underlying92 Tryz.underlying5 _ _ 9 Tryz.underlying9
    | some a => exact run_convert_bytes_back w 92 9 5 a cap [] Tryz.underlying92 Tryz.underlying5 Tryz.underlying9 (fun j hj => by simp at hj)
  | cons c l =>
    obtain ⟨b, off, rfl, _⟩ := h4 0 (by simp)
    refine run_convert_bytes_back w 92 9 5 _ cap (c :: l) Tryz.underlying92 Tryz.underlying5 Tryz.underlying9 (fun j hj => ?_)
    obtain ⟨b', off', e, h5⟩ := h4 j (by simpa using hj)
    injection e with e; injection e with e1 e2; subst e1; subst e2
    have hadd : (⟨b, off, none⟩ : Addr).add j = ⟨b, off + j, none⟩ := by unfold Addr.add; split <;> simp_all
    rw [hadd, h5, List.getD, List.getElem?_map, List.getElem?_eq_getElem hj]; rfl
theorem bytesS (w : World) (l : List UInt8) : (convert 9 92 (.string (SB l))).run Tryz.prog w = .ok (.slice (some ⟨w.heap.size, 0, none⟩) l.length (grownCap w l.length 0 5)) (Lib.bytesWorld w 5 (SB l)) := by
  have := Lib.run_convert_string_bytes (P := Tryz.prog) w 9 92 5 (SB l) Tryz.underlying9 Tryz.underlying92 Tryz.underlying5
  simpa using this
theorem bytesW_below (w : World) (e : TypeId) (s : ByteArray) : Below w.heap.size w (Lib.bytesWorld w e s) :=
  ⟨rfl, rfl, rfl, by rw [Lib.bytesWorld_size]; omega, fun k hk => Lib.bytesWorld_at_old w e s k hk⟩
theorem bytesS_own (w : World) (l : List UInt8) (e : TypeId) (h : l.length ≤ 140737488355328) : OwnM (Lib.bytesWorld w e (SB l)) w.heap.size e (.slice (some ⟨w.heap.size, 0, none⟩) l.length (grownCap w l.length 0 e)) l.length (l.map V8) := by
  have hg := grownCap_ge w l.length 0 e
  have hm := grownCap_le_maxLen w l.length 0 e (by unfold maxLen; omega)
  have hsz : (Lib.bytesCells w e (SB l)).size = grownCap w l.length 0 e := by have := SB_size l; unfold SB at this; simp only [Lib.bytesCells, SB, Array.size_append, Array.size_map, Array.size_replicate, this, List.size_toArray]; omega
  refine ⟨by simp, .inr ⟨w.heap.size, _, _, _, rfl, Nat.le_refl _, Lib.bytesWorld_at_new w e (SB l), .inr (Nat.le_refl _), hg, hm, by omega, ?_⟩⟩
  simp [Lib.bytesCells, SB, V8]
end Go.Proofs.YtgcnolapjppbpaaGreatDoor
namespace Go.Proofs.YtgcnolapjppbpaaGreatDoor
open Go.RowKit
theorem appMS {w : World} {ops : Array Oper} {rest : List Oper} {o : Oper} {a : Act} {Q : Exit → Act → World → Prop} (hgd : o.guard = none) (s x : Operand)
    (ho : o.op = .call { callee := .builtin .append, args := #[s, x], argTypes := #[92, 9] })
    (base : Nat) (v : Value) (n : Nat) (xs : List Value) (hs : a.eval s = v) (hown : OwnM w base 5 v n xs)
    (l : List UInt8) (hx : a.eval x = .string (SB l)) (hroom : n + l.length ≤ 140737488355328) (hbase : base ≤ w.heap.size)
    (h : ∀ v' w', OwnM w' base 5 v' (n + l.length) (xs ++ l.map V8) → w.grownBy w' v.ownBlock → Moved w v v' → wpList Tryz.prog ops Q rest (a.put o.dst v') w') : wpList Tryz.prog ops Q (o :: rest) a w := by
  obtain ⟨i0, hi, hz0, hz1, hz2⟩ := info_parts info_u8
  refine wpList_plain hgd fun _ hK => ?_
  obtain ⟨v', w', hr, h2, h3, h4, _⟩ := run_append_M (P := Tryz.prog) w base 92 9 o.type 5 _ i0 (.int .u8 0) 1 Tryz.underlying92 Tryz.underlying9 (.inr rfl) hi hz0 hz1 hz2 rfl v n xs hown
    (.string (SB l)) l.length (l.map V8) (by simp) (fun w => by simp [Builtin.lenOf]) (fun wd _ => by
      have := Lib.run_firstCells_string (P := Tryz.prog) wd 1 (SB l)
      rw [SB_size] at this
      rw [this]; simp [Lib.strCells, SB, V8]) (by
      intro u hu
      obtain ⟨c, _, rfl⟩ := List.mem_map.1 hu
      simp [V8, Value.oneCell']) (by unfold maxLen; omega) (by omega) hbase
  unfold Oper.wp execOp
  simp only [ho, resolve, invoke, builtin, Sem.run_bind, Sem.run_pure, Result.andThen_ok, List.map_toArray, List.map_cons, List.map_nil, hs, hx, hr]
  exact hK _ _ (h v' w' h2 h3 h4)
theorem sliceS (w : World) (l : List UInt8) (i : Nat) (h : i ≤ l.length) : (Instr.slice 9 (.string (SB l)) (some (.int .i64 (i : Int))) none none).run Tryz.prog w = .ok (.string (SB (l.drop i))) w := by
  rw [run_slice_string_from_if w 9 (SB l) .i64 i Tryz.underlying9, if_pos (by simp; omega), SB_extract, SB_size, List.take_of_length_le (Nat.le_refl _)]; rfl
theorem sliceTo (w : World) (l : List UInt8) (i : Nat) (h : i ≤ l.length) : (Instr.slice 9 (.string (SB l)) none (some (.int .i64 (i : Int))) none).run Tryz.prog w = .ok (.string (SB (l.take i))) w := by
  rw [run_slice_string_to_if w 9 (SB l) .i64 i Tryz.underlying9, if_pos (by simp; omega), SB_extract]; rfl
theorem indexS (w : World) (l : List UInt8) (i : Nat) (h : i < l.length) : (Instr.index 9 (.string (SB l)) (.int .i64 (i : Int))).run Tryz.prog w = .ok (.int .u8 ((l.getD i 0).toNat : Int)) w := by
  rw [run_index_string w 9 (SB l) .i64 i Tryz.underlying9, dif_pos (by simp; omega)]
  simp only [Int.toNat_natCast]
  rw [SB_get]
theorem cell_lt {w : World} {a : Addr} {x : Value} (h : w.cell? a = some x) : a.block < w.heap.size := by
  rcases Nat.lt_or_ge a.block w.heap.size with h' | h'
  · exact h'
  · simp [World.cell?, Array.getElem?_eq_none h'] at h
theorem SB_toList (l : List UInt8) : (SB l).toList = l := by rw [Lib.toList_data, SB_data]
theorem or_mul (a b i m : Nat) (hm : m = 2 ^ i) (h : a < m) : a ||| (b * m) = b * m + a := by
  subst hm
  rw [Nat.or_comm, ← Nat.shiftLeft_eq, Nat.shiftLeft_add_eq_or_of_lt h]
theorem u32_or' (a b : Nat) (ha : a < 4294967296) (hb : b < 4294967296) : bits .or .u32 (a : Int) (b : Int) = ((a ||| b : Nat) : Int) := by
  have hx : a ||| b < 2 ^ 32 := Nat.or_lt_two_pow (by omega) (by omega)
  have ho : ∀ n : Nat, n < 4294967296 → (BitVec.ofInt 32 (n : Int)).toNat = n := fun n hn => by rw [BitVec.toNat_ofInt]; omega
  show IntKind.u32.wrap ((BitVec.ofInt 32 (a : Int) ||| BitVec.ofInt 32 (b : Int)).toNat : Int) = _
  rw [BitVec.toNat_or, ho a ha, ho b hb, wrap_u32n _ (by omega)]
theorem or32 (c1 c2 c3 c4 : Nat) (h1 : c1 < 256) (h2 : c2 < 256) (h3 : c3 < 256) (h4 : c4 < 256) :
    bits .or .u32 (bits .or .u32 (bits .or .u32 (c1 : Int) ((c2 : Int) * 256)) ((c3 : Int) * 65536)) ((c4 : Int) * 16777216) = ((c1 + 256 * c2 + 65536 * c3 + 16777216 * c4 : Nat) : Int) := by
  have e2 : ((c2 : Int) * 256) = ((c2 * 256 : Nat) : Int) := by omega
  have e3 : ((c3 : Int) * 65536) = ((c3 * 65536 : Nat) : Int) := by omega
  have e4 : ((c4 : Int) * 16777216) = ((c4 * 16777216 : Nat) : Int) := by omega
  rw [e2, e3, e4, u32_or' c1 (c2 * 256) (by omega) (by omega), or_mul c1 c2 8 256 (by decide) (by omega), u32_or' _ (c3 * 65536) (by omega) (by omega), or_mul _ c3 16 65536 (by decide) (by omega), u32_or' _ (c4 * 16777216) (by omega) (by omega), or_mul _ c4 24 16777216 (by decide) (by omega)]
  omega
end Go.Proofs.YtgcnolapjppbpaaGreatDoor
