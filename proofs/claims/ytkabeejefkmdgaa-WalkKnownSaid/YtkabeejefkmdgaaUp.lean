/-
  Going up from a link: up, Lives, Path of package walk.
-/
import Derived.Outline
import Derived.Deep.LoopGhost
import Derived.Test.YtkabeejefkmdgaaWalk
namespace Go.Proofs.Ytkabeejefkmdgaa
open Go.RowKit

/-- Going up: the slots, and whether the session lives. -/
def upM (l : List SlotM) : Nat → Int → Int → List Int × Bool
  | 0, _, _ => ([], false)
  | k + 1, sl, bi =>
    if holdsM l sl bi then
      if (slotAt l sl).ub = 0 then ([sl], true) else (sl :: (upM l k (slotAt l sl).us (slotAt l sl).ub).1, (upM l k (slotAt l sl).us (slotAt l sl).ub).2)
    else ([], false)
theorem upM_no (l : List SlotM) (k : Nat) (sl bi : Int) (h : holdsM l sl bi = false) : upM l k sl bi = ([], false) := by
  cases k with
  | zero => rfl
  | succ k => rw [upM, if_neg (by simp [h])]
theorem upM_root (l : List SlotM) (k : Nat) (sl bi : Int) (h : holdsM l sl bi = true) (h0 : (slotAt l sl).ub = 0) : upM l (k + 1) sl bi = ([sl], true) := by
  rw [upM, if_pos h, if_pos h0]
theorem upM_step (l : List SlotM) (k : Nat) (sl bi : Int) (h : holdsM l sl bi = true) (h0 : ¬ (slotAt l sl).ub = 0) :
    upM l (k + 1) sl bi = (sl :: (upM l k (slotAt l sl).us (slotAt l sl).ub).1, (upM l k (slotAt l sl).us (slotAt l sl).ub).2) := by
  rw [upM, if_pos h, if_neg h0]
theorem upM_len (l : List SlotM) : ∀ (k : Nat) (sl bi : Int), (upM l k sl bi).1.length ≤ k
  | 0, _, _ => Nat.le_refl _
  | k + 1, sl, bi => by
    rw [upM]
    split
    · split
      · simp
      · have := upM_len l k (slotAt l sl).us (slotAt l sl).ub
        simp; omega
    · simp
/-- How often one goes up. -/
def upN (p : List Int × Bool) : Int := if p.2 then (p.1.length : Int) - 1 else if p.1.length ≤ 6 then p.1.length else 6
/-- What a round's head says of where one is. -/
def UpAt (l : List SlotM) (R : List Int × Bool) (k : Nat) (P : List Int) (sl bi : Int) : Prop :=
  k ≤ 6 ∧ P.length = k ∧ R = (P ++ (upM l (7 - k) sl bi).1, (upM l (7 - k) sl bi).2)
theorem UpAt.start (l : List SlotM) (sl bi : Int) : UpAt l (upM l 7 sl bi) 0 [] sl bi := ⟨by omega, rfl, rfl⟩
theorem UpAt.no {l : List SlotM} {R : List Int × Bool} {k : Nat} {P : List Int} {sl bi : Int} (h : UpAt l R k P sl bi) (hh : holdsM l sl bi = false) : R = (P, false) ∧ upN R = k := by
  obtain ⟨h1, h2, h3⟩ := h
  rw [upM_no _ _ _ _ hh, List.append_nil] at h3
  subst h3
  exact ⟨rfl, by simp only [upN, Bool.false_eq_true, if_false]; rw [if_pos (by omega)]; omega⟩
theorem UpAt.root {l : List SlotM} {R : List Int × Bool} {k : Nat} {P : List Int} {sl bi : Int} (h : UpAt l R k P sl bi) (hh : holdsM l sl bi = true) (h0 : (slotAt l sl).ub = 0) : R = (P ++ [sl], true) ∧ upN R = k := by
  obtain ⟨h1, h2, h3⟩ := h
  rw [show 7 - k = 6 - k + 1 by omega, upM_root _ _ _ _ hh h0] at h3
  subst h3
  exact ⟨rfl, by simp [upN]; omega⟩
theorem UpAt.deep {l : List SlotM} {R : List Int × Bool} {P : List Int} {sl bi : Int} (h : UpAt l R 6 P sl bi) (hh : holdsM l sl bi = true) (h0 : ¬ (slotAt l sl).ub = 0) : R = (P ++ [sl], false) ∧ upN R = 6 := by
  obtain ⟨h1, h2, h3⟩ := h
  rw [show 7 - 6 = 0 + 1 by omega, upM_step _ _ _ _ hh h0] at h3
  subst h3
  exact ⟨rfl, by simp [upN, upM, h2]⟩
theorem UpAt.next {l : List SlotM} {R : List Int × Bool} {k : Nat} {P : List Int} {sl bi : Int} (h : UpAt l R k P sl bi) (hk : k < 6) (hh : holdsM l sl bi = true) (h0 : ¬ (slotAt l sl).ub = 0) : UpAt l R (k + 1) (P ++ [sl]) (slotAt l sl).us (slotAt l sl).ub := by
  obtain ⟨h1, h2, h3⟩ := h
  rw [show 7 - k = 6 - k + 1 by omega, upM_step _ _ _ _ hh h0] at h3
  refine ⟨by omega, by simp [h2], ?_⟩
  rw [h3, show 7 - (k + 1) = 6 - k by omega]
  simp
/-- What is handed to 'up': a function that is told of each slot; what it has gathered. -/
structure Ats (g : FuncId) (caps : List Value) (l : List SlotM) (n : Int) (b Bv B0 : Nat) (I : List Int → Value → World → Prop) : Prop where
  arena : ∀ p v w, I p v w → IsArena w l n b
  lt : ∀ p v w, I p v w → ∀ k, v.ownBlock = some k → k < w.heap.size
  stab : ∀ p v w w' G, I p v w → Mod G w w' → (∀ k, G k → B0 ≤ k ∧ v.ownBlock ≠ some k) → I p v w'
  call : ∀ p v w s, I p v w → B0 ≤ w.heap.size → p.length ≤ 100 → Calls Try.prog g (Value.int .i64 s :: caps).toArray w fun e w' => e = .returned (.tuple #[]) ∧
    ∃ v', I (p ++ [s]) v' w' ∧ Mod (fun k => k = Bv ∨ v.ownBlock = some k) w w' ∧ (v'.ownBlock = v.ownBlock ∨ ∃ k, v'.ownBlock = some k ∧ w.heap.size ≤ k)
/-- At the head of a round of 'up'. -/
structure UpW (w0 : World) (Bv L : Nat) (I : List Int → Value → World → Prop) (P : List Int) (v : Value) (sl bi : Int) (w : World) : Prop where
  link : Box w L #[.int .i64 sl, .int .i64 bi] 31
  inv : I P v w
  apart : v.ownBlock ≠ some L
  mod : Mod (fun k => k = Bv) w0 w
  own : ∀ k, v.ownBlock = some k → w0.heap.size ≤ k
theorem slot_cells {s : SlotM} {w : World} {g : Nat} (h : w.rangeAt g 0 s.vals) : w.cell? ⟨g, 7, none⟩ = some (.int .i64 s.us) ∧ w.cell? ⟨g, 8, none⟩ = some (.int .i64 s.ub) := by
  have h7 := h 7 _ rfl
  have h8 := h 8 _ rfl
  rw [Nat.zero_add] at h7 h8
  exact ⟨h7, h8⟩
theorem UpW.step {w0 : World} {Bv L n' : Nat} {n : Int} {g : FuncId} {caps : List Value} {l : List SlotM} {I : List Int → Value → World → Prop} {P : List Int} {v : Value} {sl bi : Int} {w w' : World} {G : Nat → Prop}
    (h : UpW w0 Bv L I P v sl bi w) (hI : Ats g caps l n n' Bv w0.heap.size I) (hm : Mod G w w') (hG : ∀ k, G k → w0.heap.size ≤ k ∧ k ≠ L ∧ v.ownBlock ≠ some k) : UpW w0 Bv L I P v sl bi w' :=
  ⟨h.link.mod hm (fun hg => (hG L hg).2.1 rfl), hI.stab _ _ _ _ G h.inv hm (fun k hk => ⟨(hG k hk).1, (hG k hk).2.2⟩), h.apart, h.mod.then hm (fun i hi => .inr (hG i hi).1), h.own⟩
theorem UpW.called {w0 : World} {Bv L : Nat} {I : List Int → Value → World → Prop} {P P' : List Int} {v v' : Value} {sl bi : Int} {w w' : World}
    (h : UpW w0 Bv L I P v sl bi w) (hI : I P' v' w') (hm : Mod (fun k => k = Bv ∨ v.ownBlock = some k) w w') (hv : v'.ownBlock = v.ownBlock ∨ ∃ k, v'.ownBlock = some k ∧ w.heap.size ≤ k) (hL : w0.heap.size ≤ L) (hB : Bv < L) : UpW w0 Bv L I P' v' sl bi w' := by
  have hlt := h.link.lt
  refine ⟨h.link.mod hm (fun hg => ?_), hI, ?_, h.mod.then hm (fun i hi => ?_), fun k hk => ?_⟩
  · rcases hg with hg | hg
    · omega
    · exact h.apart hg
  · rcases hv with e | ⟨k, e, hk⟩
    · rw [e]; exact h.apart
    · rw [e]; intro e2; injection e2 with e2; omega
  · rcases hi with hi | hi
    · exact .inl hi
    · exact .inr (h.own i hi)
  · rcases hv with e | ⟨k', e, hk'⟩
    · exact h.own k (e ▸ hk)
    · rw [e] at hk; injection hk with hk
      have := h.mod.size; omega
theorem UpW.relink {w0 : World} {Bv L n' : Nat} {n : Int} {g : FuncId} {caps : List Value} {l : List SlotM} {I : List Int → Value → World → Prop} {P : List Int} {v : Value} {sl bi : Int} {w : World}
    (h : UpW w0 Bv L I P v sl bi w) (hI : Ats g caps l n n' Bv w0.heap.size I) (hL : w0.heap.size ≤ L) (us ub : Int) : UpW w0 Bv L I P v us ub ((w.setCell ⟨L, 0, none⟩ (.int .i64 us)).setCell ⟨L, 1, none⟩ (.int .i64 ub)) := by
  have hm : Mod (fun k => k = L) w ((w.setCell ⟨L, 0, none⟩ (.int .i64 us)).setCell ⟨L, 1, none⟩ (.int .i64 ub)) := (Mod.set (fun k => k = L) w ⟨L, 0, none⟩ (.int .i64 us) rfl).trans (Mod.set (fun k => k = L) _ ⟨L, 1, none⟩ (.int .i64 ub) rfl)
  refine ⟨?_, hI.stab _ _ _ _ _ h.inv hm (fun k hk => by subst hk; exact ⟨hL, h.apart⟩), h.apart, h.mod.then hm (fun i hi => .inr (by omega)), h.own⟩
  have := (h.link.set 0 (.int .i64 us)).set 1 (.int .i64 ub)
  simpa using this
/-- What holds at the head of a round of 'up'. -/
def UpRel (l : List SlotM) (w : World) (R : List Int × Bool) (Bv L : Nat) (I : List Int → Value → World → Prop) (gk : Nat) (nV lV : Value) (wr : World) : Prop :=
  ∃ (k : Nat) (P : List Int) (v : Value) (sl bi : Int), gk + k = 7 ∧ nV = .int .i64 (k : Int) ∧ lV = .bool false ∧ UpAt l R k P sl bi ∧ UpW w Bv L I P v sl bi wr
/-- How 'up' ends. -/
def UpEnd (w : World) (R : List Int × Bool) (Bv : Nat) (I : List Int → Value → World → Prop) (e : Ending) (w' : World) : Prop :=
  e = .returned (.tuple #[.int .i64 (upN R), .bool R.2]) ∧ ∃ v', I R.1 v' w' ∧ Mod (fun k => k = Bv) w w' ∧ ∀ k, v'.ownBlock = some k → w.heap.size ≤ k
theorem UpEnd.mk {w : World} {R R' : List Int × Bool} {Bv L : Nat} {I : List Int → Value → World → Prop} {P : List Int} {v : Value} {sl bi : Int} {w' : World} (h : UpW w Bv L I P v sl bi w') (m : Int) (hR : R = R' ∧ upN R = m) (hP : R'.1 = P) :
    UpEnd w R Bv I (.returned (.tuple #[.int .i64 m, .bool R'.2])) w' := by
  obtain ⟨rfl, rfl⟩ := hR
  exact ⟨rfl, v, by rw [hP]; exact h.inv, h.mod, h.own⟩
set_option maxHeartbeats 1600000 in
theorem up_lives (l : List SlotM) (n : Int) (b Bv : Nat) (sl bi : Int) (w : World) (I : List Int → Value → World → Prop) (hI : Ats 28 #[].toList l n b Bv w.heap.size I)
    (hBv : Bv < w.heap.size) (h0 : I [] (.slice none 0 0) w) :
    Calls Try.prog 27 #[.pointer (some ⟨b, 0, none⟩), .agg #[.int .i64 sl, .int .i64 bi], .func (.func 28) #[] #[]] w (UpEnd w (upM l 7 sl bi) Bv I) := by
  obtain ⟨R, hR⟩ : ∃ R, R = upM l 7 sl bi := ⟨_, rfl⟩
  have hU : UpAt l R 0 [] sl bi := by rw [hR]; exact UpAt.start l sl bi
  rw [← hR]
  clear hR
  have HI := Lib.hid hI
  have HU := Lib.hid hU
  have H0 := Lib.hid h0
  clear hI hU h0
  obtain ⟨L, hL⟩ : ∃ L, L = w.heap.size := ⟨_, rfl⟩
  have HL := Lib.hid hL
  go_enter Try.func27, Try.ntmps27
  go_wp2_with fail
  rw [← hL]
  generalize hw1 : World.alloc w _ = w1
  have hW : UpW w Bv L I [] (.slice none 0 0) sl bi w1 := by
    rw [← hw1, hL]
    exact ⟨Box.new _ _ _, HI.out.stab _ _ _ _ (fun _ => False) H0.out (Mod.of_below (below_alloc _ _)) (fun k h => h.elim), by simp [Value.ownBlock], Mod.alloc _ _ _, fun k h => by simp [Value.ownBlock] at h⟩
  have hBL : Bv < L := by omega
  clear hw1 H0 hL
  have HW := Lib.hid hW
  clear hW
  go_wp2_with fail
  go_step3
  go_wp2_with fail
  go_step3
  go_wp2_with fail
  go_loopg [8, 9] 7 (UpRel l w R Bv L I)
  case atStart => exact ⟨0, [], _, sl, bi, rfl, rfl, rfl, HU.out, HW.out⟩
  case round =>
    clear HU HW
    obtain ⟨k, P, v, sl, bi, hgk, rfl, rfl, hU, hW⟩ := hrel
    have hk := hU.1
    have hL0 : wr.cell? ⟨L, 0, none⟩ = some (.int .i64 sl) := hW.link.cell 0 _ rfl
    have hL1 : wr.cell? ⟨L, 1, none⟩ = some (.int .i64 bi) := hW.link.cell 1 _ rfl
    have HU := Lib.hid hU
    have HW := Lib.hid hW
    have Hgk := Lib.hid hgk
    clear hU hW hgk
    go_wp2_with fail
    refine (holds_calls l n b sl bi wr (HI.out.arena _ _ _ HW.out.inv)).mono ?_
    rintro e w2 ⟨rfl, hb2⟩
    obtain ⟨s, hs⟩ : ∃ s, s = slotAt l sl := ⟨_, rfl⟩
    obtain ⟨hm, hhm⟩ : ∃ hm, hm = holdsM l sl bi := ⟨_, rfl⟩
    rw [← hs, ← hhm]
    have hW2 := HW.out.step HI.out (Mod.of_below (F := fun _ => False) hb2) (fun k h => h.elim)
    have hs2 := hb2.size
    have hLr := HW.out.link.lt
    have hown2 := HI.out.lt _ _ _ hW2.inv
    have hx3 : Box (w2.alloc (.cells SlotM.none.vals.toArray 37)) w2.heap.size SlotM.none.vals.toArray 37 := Box.new _ _ _
    have hW3 := hW2.step HI.out (Mod.alloc (fun _ => False) w2 (.cells SlotM.none.vals.toArray 37)) (fun k h => h.elim)
    have Ht3 := Lib.hid (slot_there hx3)
    have HW3 := Lib.hid hW3
    have Hs := Lib.hid hs
    have Hhm := Lib.hid hhm
    have Hown2 := Lib.hid hown2
    have HLr := Lib.hid (show L < w2.heap.size by omega)
    clear hL0 hL1 HW hb2 hs hhm hW2 hs2 hLr hown2 hx3 hW3
    go_wp2_with (refine wpList_store_k (op := ⟨none, .store _ _ _, _, _, _, _⟩) rfl 37 (.tmp 10) (.tmp 16) rfl w2.heap.size 0 s.vals rfl _ rfl (Lib.hid rfl) Ht3.out (by kernel_rfl) s.vals_one ?_)
    intro w4 hw4
    have hr4 := stored_range hw4 Ht3.out
    obtain ⟨g, hg⟩ : ∃ g, g = w2.heap.size := ⟨_, rfl⟩
    have hm4 : Mod (fun k => k = g) (w2.alloc (.cells SlotM.none.vals.toArray 37)) w4 := by rw [hw4.out, ← hg]; exact Mod.setCells (fun k => k = g) g rfl _ _ _
    have hW4 := HW3.out.step HI.out hm4 (fun k hk => by
      subst hk
      have := HLr.out
      have := HL.out
      refine ⟨by omega, by omega, fun e => ?_⟩
      have := Hown2.out _ e; omega)
    have hg4 : g < w4.heap.size := by have := hm4.size; simp at this; omega
    have hgv : v.ownBlock ≠ some g := fun e => by have := Hown2.out _ e; omega
    have hgB : g ≠ Bv := by have := HLr.out; omega
    have hLg : L < g := by have := HLr.out; omega
    rw [← hg] at hr4 ⊢
    have Hr4 := Lib.hid hr4
    have HW4 := Lib.hid hW4
    have Hg4 := Lib.hid hg4
    have Hgv := Lib.hid hgv
    have HgB := Lib.hid hgB
    have HLg := Lib.hid hLg
    clear hr4 hW4 hg4 hgv hgB hLg hw4 hm4 hg Ht3 HW3 Hown2 HLr
    have hL0 : w4.cell? ⟨L, 0, none⟩ = some (.int .i64 sl) := HW4.out.link.cell 0 _ rfl
    cases hm with
    | false =>
      go_wp2_with fail
      have hE := UpEnd.mk HW4.out k (HU.out.no Hhm.out.symm) rfl
      have HE := Lib.hid hE
      clear hE
      try rw [Exit.noGoto_ret]
      go_ret2
      exact HE.out
    | true =>
      go_wp2_with fail
      refine (HI.out.call P v w4 sl HW4.out.inv (by have := HW4.out.mod.size; omega) (by have := HU.out.2.1; have := HU.out.1; omega)).mono ?_
      rintro e w5 ⟨rfl, v', hI5, hm5, hv5⟩
      have hW5 := HW4.out.called hI5 hm5 hv5 (by have := HL.out; omega) hBL
      have hr5 : w5.rangeAt g 0 s.vals := by
        intro j x hx
        rw [World.cell?_of_block (w := w4) (hm5.block g Hg4.out (fun h => by
          rcases h with h | h
          · exact HgB.out h
          · exact Hgv.out h))]
        exact Hr4.out j x hx
      obtain ⟨c7, c8⟩ := slot_cells hr5
      have hL0 : w5.cell? ⟨L, 0, none⟩ = some (.int .i64 sl) := hW5.link.cell 0 _ rfl
      have hL1 : w5.cell? ⟨L, 1, none⟩ = some (.int .i64 bi) := hW5.link.cell 1 _ rfl
      have hf0 := hW5.link.free 0
      have hf1 := hW5.link.free 1
      have HW5 := Lib.hid hW5
      clear hI5 hm5 hv5 hW5 hr5 Hr4 HW4 Hg4 Hgv HgB HLg
      rw [Hs.out] at c7 c8
      by_cases hub : (slotAt l sl).ub = 0
      · have hE := UpEnd.mk HW5.out k (HU.out.root Hhm.out.symm hub) rfl
        have HE := Lib.hid hE
        rw [hub] at c8
        clear hE hub
        go_wp2_with fail
        try rw [Exit.noGoto_ret]
        go_ret2
        exact HE.out
      · by_cases hk6 : k = 6
        · subst hk6
          have hE := UpEnd.mk HW5.out 6 (HU.out.deep Hhm.out.symm hub) rfl
          have HE := Lib.hid hE
          clear hE
          go_wp2_with fail
          try rw [Exit.noGoto_ret]
          go_ret2
          exact HE.out
        · have hR := HW5.out.relink HI.out (by have := HL.out; omega) (slotAt l sl).us (slotAt l sl).ub
          have hN := HU.out.next (by omega) Hhm.out.symm hub
          obtain ⟨us, hus⟩ : ∃ us, us = (slotAt l sl).us := ⟨_, rfl⟩
          obtain ⟨ub, hub'⟩ : ∃ ub, ub = (slotAt l sl).ub := ⟨_, rfl⟩
          rw [← hus, ← hub'] at *
          have HR := Lib.hid hR
          have HN := Lib.hid hN
          have hk5 : k < 6 := by omega
          clear hR hN hus hub' HW5
          go_wp2_with fail
          go_roundg (6 - k)
          case measure => have := Hgk.out; omega
          case rel => exact ⟨k + 1, _, _, _, _, by omega, by go_num, rfl, HN.out, HR.out⟩
set_option maxHeartbeats 1600000 in
theorem up_path (cv : Value) (l : List SlotM) (n : Int) (b Bv : Nat) (sl bi : Int) (w : World) (I : List Int → Value → World → Prop) (hI : Ats 31 #[cv].toList l n b Bv w.heap.size I)
    (hBv : Bv < w.heap.size) (h0 : I [] (.slice none 0 0) w) :
    Calls Try.prog 27 #[.pointer (some ⟨b, 0, none⟩), .agg #[.int .i64 sl, .int .i64 bi], .func (.func 31) #[] #[cv]] w (UpEnd w (upM l 7 sl bi) Bv I) := by
  obtain ⟨R, hR⟩ : ∃ R, R = upM l 7 sl bi := ⟨_, rfl⟩
  have hU : UpAt l R 0 [] sl bi := by rw [hR]; exact UpAt.start l sl bi
  rw [← hR]
  clear hR
  have HI := Lib.hid hI
  have HU := Lib.hid hU
  have H0 := Lib.hid h0
  clear hI hU h0
  obtain ⟨L, hL⟩ : ∃ L, L = w.heap.size := ⟨_, rfl⟩
  have HL := Lib.hid hL
  go_enter Try.func27, Try.ntmps27
  go_wp2_with fail
  rw [← hL]
  generalize hw1 : World.alloc w _ = w1
  have hW : UpW w Bv L I [] (.slice none 0 0) sl bi w1 := by
    rw [← hw1, hL]
    exact ⟨Box.new _ _ _, HI.out.stab _ _ _ _ (fun _ => False) H0.out (Mod.of_below (below_alloc _ _)) (fun k h => h.elim), by simp [Value.ownBlock], Mod.alloc _ _ _, fun k h => by simp [Value.ownBlock] at h⟩
  have hBL : Bv < L := by omega
  clear hw1 H0 hL
  have HW := Lib.hid hW
  clear hW
  go_wp2_with fail
  go_step3
  go_wp2_with fail
  go_step3
  go_wp2_with fail
  go_loopg [8, 9] 7 (UpRel l w R Bv L I)
  case atStart => exact ⟨0, [], _, sl, bi, rfl, rfl, rfl, HU.out, HW.out⟩
  case round =>
    clear HU HW
    obtain ⟨k, P, v, sl, bi, hgk, rfl, rfl, hU, hW⟩ := hrel
    have hk := hU.1
    have hL0 : wr.cell? ⟨L, 0, none⟩ = some (.int .i64 sl) := hW.link.cell 0 _ rfl
    have hL1 : wr.cell? ⟨L, 1, none⟩ = some (.int .i64 bi) := hW.link.cell 1 _ rfl
    have HU := Lib.hid hU
    have HW := Lib.hid hW
    have Hgk := Lib.hid hgk
    clear hU hW hgk
    go_wp2_with fail
    refine (holds_calls l n b sl bi wr (HI.out.arena _ _ _ HW.out.inv)).mono ?_
    rintro e w2 ⟨rfl, hb2⟩
    obtain ⟨s, hs⟩ : ∃ s, s = slotAt l sl := ⟨_, rfl⟩
    obtain ⟨hm, hhm⟩ : ∃ hm, hm = holdsM l sl bi := ⟨_, rfl⟩
    rw [← hs, ← hhm]
    have hW2 := HW.out.step HI.out (Mod.of_below (F := fun _ => False) hb2) (fun k h => h.elim)
    have hs2 := hb2.size
    have hLr := HW.out.link.lt
    have hown2 := HI.out.lt _ _ _ hW2.inv
    have hx3 : Box (w2.alloc (.cells SlotM.none.vals.toArray 37)) w2.heap.size SlotM.none.vals.toArray 37 := Box.new _ _ _
    have hW3 := hW2.step HI.out (Mod.alloc (fun _ => False) w2 (.cells SlotM.none.vals.toArray 37)) (fun k h => h.elim)
    have Ht3 := Lib.hid (slot_there hx3)
    have HW3 := Lib.hid hW3
    have Hs := Lib.hid hs
    have Hhm := Lib.hid hhm
    have Hown2 := Lib.hid hown2
    have HLr := Lib.hid (show L < w2.heap.size by omega)
    clear hL0 hL1 HW hb2 hs hhm hW2 hs2 hLr hown2 hx3 hW3
    go_wp2_with (refine wpList_store_k (op := ⟨none, .store _ _ _, _, _, _, _⟩) rfl 37 (.tmp 10) (.tmp 16) rfl w2.heap.size 0 s.vals rfl _ rfl (Lib.hid rfl) Ht3.out (by kernel_rfl) s.vals_one ?_)
    intro w4 hw4
    have hr4 := stored_range hw4 Ht3.out
    obtain ⟨g, hg⟩ : ∃ g, g = w2.heap.size := ⟨_, rfl⟩
    have hm4 : Mod (fun k => k = g) (w2.alloc (.cells SlotM.none.vals.toArray 37)) w4 := by rw [hw4.out, ← hg]; exact Mod.setCells (fun k => k = g) g rfl _ _ _
    have hW4 := HW3.out.step HI.out hm4 (fun k hk => by
      subst hk
      have := HLr.out
      have := HL.out
      refine ⟨by omega, by omega, fun e => ?_⟩
      have := Hown2.out _ e; omega)
    have hg4 : g < w4.heap.size := by have := hm4.size; simp at this; omega
    have hgv : v.ownBlock ≠ some g := fun e => by have := Hown2.out _ e; omega
    have hgB : g ≠ Bv := by have := HLr.out; omega
    have hLg : L < g := by have := HLr.out; omega
    rw [← hg] at hr4 ⊢
    have Hr4 := Lib.hid hr4
    have HW4 := Lib.hid hW4
    have Hg4 := Lib.hid hg4
    have Hgv := Lib.hid hgv
    have HgB := Lib.hid hgB
    have HLg := Lib.hid hLg
    clear hr4 hW4 hg4 hgv hgB hLg hw4 hm4 hg Ht3 HW3 Hown2 HLr
    have hL0 : w4.cell? ⟨L, 0, none⟩ = some (.int .i64 sl) := HW4.out.link.cell 0 _ rfl
    cases hm with
    | false =>
      go_wp2_with fail
      have hE := UpEnd.mk HW4.out k (HU.out.no Hhm.out.symm) rfl
      have HE := Lib.hid hE
      clear hE
      try rw [Exit.noGoto_ret]
      go_ret2
      exact HE.out
    | true =>
      go_wp2_with fail
      refine (HI.out.call P v w4 sl HW4.out.inv (by have := HW4.out.mod.size; omega) (by have := HU.out.2.1; have := HU.out.1; omega)).mono ?_
      rintro e w5 ⟨rfl, v', hI5, hm5, hv5⟩
      have hW5 := HW4.out.called hI5 hm5 hv5 (by have := HL.out; omega) hBL
      have hr5 : w5.rangeAt g 0 s.vals := by
        intro j x hx
        rw [World.cell?_of_block (w := w4) (hm5.block g Hg4.out (fun h => by
          rcases h with h | h
          · exact HgB.out h
          · exact Hgv.out h))]
        exact Hr4.out j x hx
      obtain ⟨c7, c8⟩ := slot_cells hr5
      have hL0 : w5.cell? ⟨L, 0, none⟩ = some (.int .i64 sl) := hW5.link.cell 0 _ rfl
      have hL1 : w5.cell? ⟨L, 1, none⟩ = some (.int .i64 bi) := hW5.link.cell 1 _ rfl
      have hf0 := hW5.link.free 0
      have hf1 := hW5.link.free 1
      have HW5 := Lib.hid hW5
      clear hI5 hm5 hv5 hW5 hr5 Hr4 HW4 Hg4 Hgv HgB HLg
      rw [Hs.out] at c7 c8
      by_cases hub : (slotAt l sl).ub = 0
      · have hE := UpEnd.mk HW5.out k (HU.out.root Hhm.out.symm hub) rfl
        have HE := Lib.hid hE
        rw [hub] at c8
        clear hE hub
        go_wp2_with fail
        try rw [Exit.noGoto_ret]
        go_ret2
        exact HE.out
      · by_cases hk6 : k = 6
        · subst hk6
          have hE := UpEnd.mk HW5.out 6 (HU.out.deep Hhm.out.symm hub) rfl
          have HE := Lib.hid hE
          clear hE
          go_wp2_with fail
          try rw [Exit.noGoto_ret]
          go_ret2
          exact HE.out
        · have hR := HW5.out.relink HI.out (by have := HL.out; omega) (slotAt l sl).us (slotAt l sl).ub
          have hN := HU.out.next (by omega) Hhm.out.symm hub
          obtain ⟨us, hus⟩ : ∃ us, us = (slotAt l sl).us := ⟨_, rfl⟩
          obtain ⟨ub, hub'⟩ : ∃ ub, ub = (slotAt l sl).ub := ⟨_, rfl⟩
          rw [← hus, ← hub'] at *
          have HR := Lib.hid hR
          have HN := Lib.hid hN
          have hk5 : k < 6 := by omega
          clear hR hN hus hub' HW5
          go_wp2_with fail
          go_roundg (6 - k)
          case measure => have := Hgk.out; omega
          case rel => exact ⟨k + 1, _, _, _, _, by omega, by go_num, rfl, HN.out, HR.out⟩
end Go.Proofs.Ytkabeejefkmdgaa
