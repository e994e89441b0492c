/-
  A range over a function whose iterator makes, between two rounds, what it hands out: the body is told what lies there.
-/
import Derived.Test.YthnabnieajojjaaGreatDoorOwnM
import Derived.RangeFuncNested
import Derived.RangeFuncBound
import Derived.RangeFuncCalls
import Derived.RangeFuncLeaves
namespace Go.Proofs.YthnabnieajojjaaGreatDoor
open Go.RowKit

/-- What abides new blocks, and the turn of a block from B on that holds no cells. -/
structure Soft (B : Nat) (I : World → Prop) : Prop where
  below : ∀ {A C : World}, I A → Below A.heap.size A C → I C
  put : ∀ {A : World} {l : Nat} {o : Obj} (o' : Obj), I A → B ≤ l → A.heap[l]? = some o → o.isCells = false → I (A.putObj l o')
/-- An iterator's contract: T tells of what it hands out next. -/
def SeqR {α : Type} (F : Fence) (n : Nat) (P : Program) (g : Nat) (lb : Array Value) (encs : α → Array Value) (Fm : Nat → Prop) (T : List α → α → World → Prop) (S Sp : List α → Prop) (w : World) : Prop :=
  ∀ (l : Nat) (J Jx : List α → World → Prop) (W : World), Mod Fm w W → (∀ s (A C : World), J s A → Below A.heap.size A C → J s C) → (∀ s (A C : World), Jx s A → Below A.heap.size A C → Jx s C) →
    (∀ pre x W1, J pre W1 → T pre x W1 → YieldAt F (n - 1) P l (encs x) W1 fun e W' => (e = .returned (.bool true) ∧ J (pre ++ [x]) W' ∧ Mod Fm W1 W') ∨ (e = .returned (.bool false) ∧ Jx (pre ++ [x]) W')) →
    J [] W → CallsIn F n P g (#[.func (.yield l) #[] #[]] ++ lb) W fun e W' => (∃ v, e = .returned v) ∧ ((∃ xs, S xs ∧ J xs W') ∨ ∃ pre, Sp pre ∧ Jx pre W')
/-- How a round's body may end. -/
def roundR {α : Type} (Fm : Nat → Prop) (I : List α → World → Prop) (Ix : Code → List α → World → Prop) (xs : List α) (W : World) : Exit → Act → World → Prop
  | .normal, _, W' => KeepsOthers W W' ∧ Mod Fm W W' ∧ I xs W'
  | .ret, _, W' => KeepsOthers W W' ∧ Ix .ret xs W'
  | .exit id, _, W' => KeepsOthers W W' ∧ Ix (.exit id) xs W'
  | .goto t, _, W' => KeepsOthers W W' ∧ Ix (.goto t) xs W'
  | .panic _, _, _ => False
  | .outgrown, _, _ => False
theorem keepsOthers_below {W W' : World} (h : Below W.heap.size W W') : KeepsOthers W W' := ⟨h.size, fun k _ hk _ => (h.block k (Array.getElem?_eq_some_iff.1 hk).1).trans hk⟩
theorem mod_put {Fm : Nat → Prop} {l : Nat} {W : World} (hn : Fm l) (o : Obj) : Mod Fm W (W.putObj l o) := Mod.of_grown (grownBy_putObj' W l o) (fun k e => by cases e; exact hn)
section
variable {F : Fence} {n : Nat} {P : Program}
theorem wpIn_rangeFunc_R {α : Type} {g : Operand} {ps : Array Tmp} {assign body : Code} {Q : Exit → Act → World → Prop} {a : Act} {w : World}
    (hro : F.round = none) (h1 : 1 ≤ n) {gf : Nat} {lb : Array Value} (hg : a.eval g = .func (.func gf) #[] lb) (hFg : F.fn gf) (eg : ∀ args w, (callFunc gf args).run P w = .ok (.enter gf args) w)
    {encs : α → Array Value} {Fm : Nat → Prop} {T : List α → α → World → Prop} {S Sp : List α → Prop} (hseq : SeqR F (n - 1) P gf lb encs Fm T S Sp w) (hFm : ∀ b, w.heap.size ≤ b → Fm b) (hps : ∀ x, (encs x).size = ps.size)
    (I : List α → World → Prop) (Ix : Code → List α → World → Prop) (hI : ∀ s, Soft w.heap.size (I s)) (hIx : ∀ c s, Soft w.heap.size (Ix c s)) (hT : ∀ s x, Soft w.heap.size (T s x)) (h0 : I [] w) (a₁ : α → Act)
    (hassign : ∀ (l : Nat) (x : α) (W : World) (K : Act → World → Prop), K (a₁ x) W → assign.wpIn (F.inRound l) (n - 1 - 1) P (Exit.then K (fun _ _ _ => False)) { tmps := (ps.zip (encs x)).foldl (fun t (p, v) => t.setIfInBounds p v) a.tmps, defers := [] } W)
    (hbody : ∀ (l : Nat) (pre : List α) (x : α) (W : World), I pre W → T pre x W → body.wpIn (F.inRound l) (n - 1 - 1) P (roundR Fm I Ix (pre ++ [x]) W) (a₁ x) W)
    (hdone : ∀ (D : Nat) (xs : List α) (W : World), S xs → I xs W → w.heap.size ≤ D → W.heap[D]? = some (.deferred (some [])) → Q .normal { a with defers := { target := .collected D, args := #[] } :: a.defers } W)
    (hstop : ∀ (D : Nat) (c : Code) (pre : List α) (W : World), Sp pre → Ix c pre W → w.heap.size ≤ D → W.heap[D]? = some (.deferred (some [])) → c.wpIn F n P Q { a with defers := { target := .collected D, args := #[] } :: a.defers } W) :
    (Code.rangeFunc g ps assign body).wpIn F n P Q a w := by
  refine wpIn_rangeFunc fun fn hfn => ?_
  rw [hro]
  let rec0 : LoopState → Option Code → Loop := fun st pe => { state := st, pending := pe, fn, tmps := a.tmps, params := ps, assign, body, defers := w.heap.size }
  obtain ⟨rc, hrc⟩ : ∃ rc, rc = rec0 := ⟨_, rfl⟩
  obtain ⟨D, hD⟩ : ∃ D, D = w.heap.size := ⟨_, rfl⟩
  obtain ⟨WA, hWA⟩ : ∃ WA, WA = w.alloc (.deferred (some [])) := ⟨_, rfl⟩
  obtain ⟨W1, hW1⟩ : ∃ W1, W1 = WA.alloc (.loop (rc .ready none)) := ⟨_, rfl⟩
  have hbA : Below w.heap.size w WA := by rw [hWA]; exact below_alloc _ _
  have hbB : Below WA.heap.size WA W1 := by rw [hW1]; exact below_alloc _ _
  have hsA : WA.heap.size = D + 1 := by rw [hWA, hD]; simp
  have hDA : WA.heap[D]? = some (.deferred (some [])) := by rw [hWA, hD]; exact heap_alloc_new w _
  have hD1 : W1.heap[D]? = some (.deferred (some [])) := by rw [hbB.block D (by omega)]; exact hDA
  have hL1 : W1.heap[D + 1]? = some (.loop (rc .ready none)) := by rw [← hsA, hW1]; exact heap_alloc_new WA _
  have hb1 : Below w.heap.size w W1 := hbA.trans (hbB.mono hbA.size)
  have hdl : D ≤ D + 1 := Nat.le_succ D
  -- what is held between two rounds
  let J : List α → World → Prop := fun pre W => I pre W ∧ W.heap[D + 1]? = some (.loop (rc .ready none)) ∧ W.heap[D]? = some (.deferred (some []))
  let Jx : List α → World → Prop := fun pre W => ∃ c, Ix c pre W ∧ W.heap[D + 1]? = some (.loop (rc .done (some c))) ∧ W.heap[D]? = some (.deferred (some []))
  have keepAt : ∀ {A C : World} {k : Nat} {o : Obj}, A.heap[k]? = some o → Below A.heap.size A C → C.heap[k]? = some o := fun h hb => (hb.block _ (Array.getElem?_eq_some_iff.1 h).1).trans h
  refine ⟨D + 1, [{ target := .collected D, args := #[] }], W1, { target := .fn (.func gf) lb, args := #[.func (.yield (D + 1)) #[] #[]] }, W1, gf, #[.func (.yield (D + 1)) #[] #[]] ++ lb, W1, ?_, ?_, ?_, ?_, fun _ => h1, ?_⟩
  · rw [hW1, hWA, hrc, hD]; exact run_enterLoop_outer _ _ _ _ _
  · simp only [resolve, hg]
    simp [go_sem]
  · intro f' hf'; simp [Target.leads] at hf'; subst hf'; exact hFg
  · simp [invoke, go_sem, eg]
  · refine (hseq (D + 1) J Jx W1 (Mod.of_below hb1) (fun s A C h hb => ⟨(hI s).below h.1 hb, keepAt h.2.1 hb, keepAt h.2.2 hb⟩) (fun s A C h hb => by
      obtain ⟨c, h1, h2, h3⟩ := h
      exact ⟨c, (hIx c s).below h1 hb, keepAt h2 hb, keepAt h3 hb⟩) ?_ ⟨(hI []).below ((hI []).below h0 hbA) hbB, hL1, hD1⟩).mono ?_
    · rintro pre x W ⟨hi, hl, hd⟩ ht
      have hlt : D + 1 < W.heap.size := (Array.getElem?_eq_some_iff.1 hl).1
      have hy := run_yield (P := P) (args := encs x) hl (by rw [hrc]; exact hps x)
      rw [hrc] at hy
      refine ⟨fn, _, assign, body, hy, roundIn_of_wpIn hfn (hassign _ x W _ ⟨_, run_beginRound hl (by rw [hrc]), ?_⟩)⟩
      clear hy
      obtain ⟨busy, hbu⟩ : ∃ b : Loop, b = { rc .ready none with state := .busy } := ⟨_, rfl⟩
      rw [← hbu]
      obtain ⟨W2, hW2⟩ : ∃ W2, W2 = W.putObj (D + 1) (.loop busy) := ⟨_, rfl⟩
      rw [← hW2]
      have hl2 : W2.heap[D + 1]? = some (.loop busy) := by rw [hW2]; exact World.putObj_heap_same hlt
      have hd2 : W2.heap[D]? = some (.deferred (some [])) := by rw [hW2]; exact (World.putObj_heap_other (by omega)).trans hd
      have hb2 : Mod Fm W W2 := by rw [hW2]; exact mod_put (hFm _ (by omega)) _
      have hi2 : I pre W2 := by rw [hW2]; exact (hI pre).put _ hi (by omega) hl rfl
      have ht2 : T pre x W2 := by rw [hW2]; exact (hT pre x).put _ ht (by omega) hl rfl
      have hend : ∀ (jump : Option Code) (W3 : World), KeepsOthers W2 W3 → (Instr.endRound (D + 1) jump).run P W3 = .ok (.bool jump.isNone) (W3.putObj (D + 1) (.loop (rc (if jump.isNone then .ready else .done) jump))) ∧
          W3.heap[D + 1]? = some (.loop busy) ∧ (W3.putObj (D + 1) (.loop (rc (if jump.isNone then .ready else .done) jump))).heap[D + 1]? = some (.loop (rc (if jump.isNone then .ready else .done) jump)) ∧
          (W3.putObj (D + 1) (.loop (rc (if jump.isNone then .ready else .done) jump))).heap[D]? = some (.deferred (some [])) := fun jump W3 hk => by
        have hl3 := hk.same _ _ hl2 rfl
        have hr := run_endRound (P := P) jump hl3
        refine ⟨by rw [hr, hbu, hrc], hl3, World.putObj_heap_same (Array.getElem?_eq_some_iff.1 hl3).1, (World.putObj_heap_other (by omega)).trans (hk.same _ _ hd2 rfl)⟩
      refine wpIn_mono (hbody _ pre x _ hi2 ht2) ?_
      rintro e a3 W3 hp
      cases e with
      | normal =>
        obtain ⟨hk3, hbl3, hi3⟩ := hp
        obtain ⟨hr, hl3, hl4, hd4⟩ := hend none W3 hk3
        exact ⟨_, _, hr, .inl ⟨rfl, ⟨(hI _).put _ hi3 (by omega) hl3 rfl, hl4, hd4⟩, (hb2.trans hbl3).trans (mod_put (hFm _ (by omega)) _)⟩⟩
      | ret =>
        obtain ⟨hr, hl3, hl4, hd4⟩ := hend (some .ret) W3 hp.1
        exact ⟨_, _, hr, .inr ⟨rfl, .ret, (hIx _ _).put _ hp.2 (by omega) hl3 rfl, hl4, hd4⟩⟩
      | exit id =>
        obtain ⟨hr, hl3, hl4, hd4⟩ := hend (some (.exit id)) W3 hp.1
        exact ⟨_, _, hr, .inr ⟨rfl, .exit id, (hIx _ _).put _ hp.2 (by omega) hl3 rfl, hl4, hd4⟩⟩
      | goto t =>
        obtain ⟨hr, hl3, hl4, hd4⟩ := hend (some (.goto t)) W3 hp.1
        exact ⟨_, _, hr, .inr ⟨rfl, .goto t, (hIx _ _).put _ hp.2 (by omega) hl3 rfl, hl4, hd4⟩⟩
      | panic ch => exact hp.elim
      | outgrown => exact hp.elim
    · rintro e W2 ⟨⟨v, rfl⟩, (⟨xs, hS, hi, hl, hd⟩ | ⟨pre, hS, c, hi, hl, hd⟩)⟩
      · have hr := run_endLoop (P := P) hl (by rw [hrc]; simp [rec0])
        rw [hrc] at hr
        exact ⟨none, _, hr, by rw [hD] at *; exact hdone _ xs _ hS ((hI xs).put _ hi (by omega) hl rfl) (Nat.le_refl _) ((World.putObj_heap_other (by omega)).trans hd)⟩
      · have hr := run_endLoop (P := P) hl (by rw [hrc]; simp [rec0])
        rw [hrc] at hr
        exact ⟨some c, _, hr, by rw [hD] at *; exact hstop _ c pre _ hS ((hIx c pre).put _ hi (by omega) hl rfl) (Nat.le_refl _) ((World.putObj_heap_other (by omega)).trans hd)⟩
end
end Go.Proofs.YthnabnieajojjaaGreatDoor
