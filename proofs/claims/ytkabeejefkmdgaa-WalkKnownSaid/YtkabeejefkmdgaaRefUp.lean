/-
  The reference's walk: Up, Lives, Path.
-/
import Derived.Test.YtkabeejefkmdgaaRef18
import Derived.Test.YtkabeejefkmdgaaPath
namespace Go.Proofs.Ytkabeejefkmdgaa
open Go.RowKit

def UpAt2 (l : List SlotM) (R : List Int × Bool) (k : Nat) (P : List Int) (sl bi : Int) : Prop :=
  k ≤ 7 ∧ P.length = k ∧ R = (P ++ (upM l (7 - k) sl bi).1, (upM l (7 - k) sl bi).2)
theorem UpAt2.no {l : List SlotM} {R : List Int × Bool} {k : Nat} {P : List Int} {sl bi : Int} (h : UpAt2 l R k P sl bi) (hh : holdsM l sl bi = false) : R = (P, false) := by
  obtain ⟨h1, h2, h3⟩ := h
  rw [upM_no _ _ _ _ hh, List.append_nil] at h3
  exact h3
theorem UpAt2.root {l : List SlotM} {R : List Int × Bool} {k : Nat} {P : List Int} {sl bi : Int} (h : UpAt2 l R k P sl bi) (hk : k < 7) (hh : holdsM l sl bi = true) (h0 : (slotAt l sl).ub = 0) : R = (P ++ [sl], true) := by
  obtain ⟨h1, h2, h3⟩ := h
  rw [show 7 - k = 6 - k + 1 by omega, upM_root _ _ _ _ hh h0] at h3
  exact h3
theorem UpAt2.next {l : List SlotM} {R : List Int × Bool} {k : Nat} {P : List Int} {sl bi : Int} (h : UpAt2 l R k P sl bi) (hk : k < 7) (hh : holdsM l sl bi = true) (h0 : ¬ (slotAt l sl).ub = 0) : UpAt2 l R (k + 1) (P ++ [sl]) (slotAt l sl).us (slotAt l sl).ub := by
  obtain ⟨h1, h2, h3⟩ := h
  rw [show 7 - k = 6 - k + 1 by omega, upM_step _ _ _ _ hh h0] at h3
  refine ⟨by omega, by simp [h2], ?_⟩
  rw [h3, show 7 - (k + 1) = 6 - k by omega]
  simp
theorem UpAt2.last {l : List SlotM} {R : List Int × Bool} {P : List Int} {sl bi : Int} (h : UpAt2 l R 7 P sl bi) : R = (P, false) := by
  obtain ⟨h1, h2, h3⟩ := h
  rw [h3]; simp [upM]
theorem holdsM_slot {l : List SlotM} {sl bi : Int} (h : holdsM l sl bi = true) (hl : l.length = 32) : ∃ i : Nat, sl = (i : Int) ∧ i < 32 ∧ l[i]? = some (slotAt l sl) := by
  unfold holdsM at h
  have h1 : 0 ≤ sl ∧ sl < 32 := by
    by_cases h1 : 0 ≤ sl ∧ sl < 32
    · exact h1
    · rw [decide_eq_false h1] at h; cases h
  obtain ⟨i, rfl⟩ := Int.eq_ofNat_of_zero_le h1.1
  refine ⟨i, rfl, by omega, ?_⟩
  unfold slotAt
  rw [if_pos h1, Int.toNat_natCast, List.getD, List.getElem?_eq_getElem (by omega)]; rfl
/-- At the head of a round of the reference's Up. -/
def RefUpW (w : World) (L : Nat) (P : List Int) (v : Value) (sl bi : Int) (wr : World) : Prop :=
  Box wr L #[.int .i64 sl, .int .i64 bi] 31 ∧ wr.ownsRow w.heap.size 3 1 v P.length (P.map VI) ∧ v.ownBlock ≠ some L ∧ Below w.heap.size w wr
set_option maxHeartbeats 1600000 in
theorem refUp_calls (B rb k0 : Nat) (l : List SlotM) (n : Int) (sv fv : Value) (ys : List Value) (sl bi : Int) (w : World) (h : RefAt w B rb k0 l n sv fv ys) (hl : l.length = 32) :
    Calls Try.prog 32 #[.pointer (some ⟨rb, 0, none⟩), .agg #[.int .i64 sl, .int .i64 bi]] w fun e w' => ∃ v, e = .returned (.tuple #[v, .bool (upM l 7 sl bi).2]) ∧ w'.ownsRow w.heap.size 3 1 v (upM l 7 sl bi).1.length ((upM l 7 sl bi).1.map VI) ∧ Below w.heap.size w w' := by
  obtain ⟨R, hR⟩ : ∃ R, R = upM l 7 sl bi := ⟨_, rfl⟩
  have hU : UpAt2 l R 0 [] sl bi := by rw [hR]; exact ⟨by omega, rfl, rfl⟩
  rw [← hR]
  clear hR
  have HA := Lib.hid h
  have Hl := Lib.hid hl
  have HU := Lib.hid hU
  clear h hl hU
  obtain ⟨L, hL⟩ : ∃ L, L = w.heap.size := ⟨_, rfl⟩
  have HL := Lib.hid hL
  go_enter Try.func32, Try.ntmps32
  go_wp2_with fail
  rw [← hL]
  generalize hw1 : World.alloc w _ = w1
  have hW : RefUpW w L [] (.slice none 0 0) sl bi w1 := by
    rw [← hw1, hL]
    exact ⟨Box.new _ _ _, World.ownsRow_nil _ _ _ _, by simp [Value.ownBlock], below_alloc _ _⟩
  have HW := Lib.hid hW
  clear hW hw1 hL
  go_loopg [6, 7] 7 (fun gk pv iv wr => ∃ (k : Nat) (P : List Int) (sl bi : Int), gk + k = 7 ∧ iv = .int .i64 (k : Int) ∧ UpAt2 l R k P sl bi ∧ RefUpW w L P pv sl bi wr)
  case atStart => exact ⟨0, [], sl, bi, rfl, rfl, HU.out, HW.out⟩
  case round =>
    clear HU HW
    obtain ⟨k, P, sl, bi, hgk, rfl, hU, hx, hown, hne, hb⟩ := hrel
    have hk := hU.1
    have hPl := hU.2.1
    obtain ⟨pa, pc, rfl, _⟩ := own_slice hown
    have hs := hb.size
    have hlt := hx.lt
    have HU := Lib.hid hU
    have HX := Lib.hid hx
    have HO := Lib.hid hown
    have HN := Lib.hid hne
    have HB := Lib.hid hb
    have Hgk := Lib.hid hgk
    have HPl := Lib.hid hPl
    have hL0 : wr.cell? ⟨L, 0, none⟩ = some (.int .i64 sl) := hx.cell 0 _ rfl
    have hL1 : wr.cell? ⟨L, 1, none⟩ = some (.int .i64 bi) := hx.cell 1 _ rfl
    clear hU hx hown hne hb hgk hPl
    by_cases hk7 : k = 7
    · have hk6 : decide ((k : Int) ≤ 6) = false := by simp; omega
      have hE : R = (P, false) := by subst hk7; exact HU.out.last
      subst hE
      clear hk7 hL0 hL1
      go_wp2_with fail
      go_ret2
      exact ⟨_, rfl, HO.out, HB.out⟩
    · have hk6 : (k : Int) ≤ 6 := by omega
      have hk6' : k < 7 := by omega
      clear hk7
      go_wp2_with fail
      refine (refHolds_calls B rb k0 l n sv fv ys sl bi wr (HA.out.below HB.out) Hl.out).mono ?_
      rintro e w2 ⟨rfl, hb2⟩
      obtain ⟨hm, hhm⟩ : ∃ hm, hm = holdsM l sl bi := ⟨_, rfl⟩
      rw [← hhm]
      have Hhm := Lib.hid hhm
      have hs2 := hb2.size
      have HX2 := Lib.hid (HX.out.below hb2)
      have HO2 := Lib.hid (own_below HO.out hb2)
      have HB2 := Lib.hid (HB.out.trans (hb2.mono hs))
      clear hL0 hL1 HX HO HB hb2 hhm
      cases hm with
      | false =>
        have hE := HU.out.no Hhm.out.symm
        subst hE
        go_wp2_with fail
        go_ret2
        exact ⟨_, rfl, HO2.out, HB2.out⟩
      | true =>
        obtain ⟨i, rfl, hi32, hsl⟩ := holdsM_slot Hhm.out.symm Hl.out
        obtain ⟨s, hs'⟩ : ∃ s, s = slotAt l (i : Int) := ⟨_, rfl⟩
        rw [← hs'] at hsl
        have Hs := Lib.hid hs'
        have Hsl := Lib.hid hsl
        clear hsl hs'
        have hL0 : w2.cell? ⟨L, 0, none⟩ = some (.int .i64 (i : Int)) := HX2.out.cell 0 _ rfl
        have HA2 := Lib.hid (HO2.out.alloc (.cells #[.int .i64 (i : Int)] 3))
        go_wp2_with (at_builtin; refine appI rfl _ _ rfl w.heap.size _ _ _ rfl HA2.out ⟨w2.heap.size, 0, none⟩ 1 (.int .i64 (i : Int)) rfl (by simp) rfl (by have := HPl.out; omega) (by simp; omega) ?_)
        intro v' w3 hown' hg' hm' _
        have hx3 := (HX2.out.below (below_alloc w2 (.cells #[.int .i64 (i : Int)] 3))).grown hg' HN.out
        have hb3 := (HB2.out.trans ((below_alloc w2 (.cells #[.int .i64 (i : Int)] 3)).mono (by omega))).trans (below_grown hg' (by simp; omega) (fun q hq => (HO2.out.lt q hq).1))
        have hne3 : v'.ownBlock ≠ some L := by
          rcases hm' with e | e
          · rw [e]; exact HN.out
          · rw [e]; intro e2; injection e2 with e2; simp at e2; omega
        have hR3 := HA.out.below hb3
        obtain ⟨g, cap, e1, _, hr, _, hglt⟩ := hR3.range i s Hsl.out
        rw [Hl.out] at e1
        have hc0 : w3.cell? ⟨rb, 0, none⟩ = some (.slice (some ⟨g, 0, none⟩) 32 cap) := by rw [← e1]; exact hR3.box.cell 0 _ rfl
        have hL0' : w3.cell? ⟨L, 0, none⟩ = some (.int .i64 (i : Int)) := hx3.cell 0 _ rfl
        have hL1' : w3.cell? ⟨L, 1, none⟩ = some (.int .i64 bi) := hx3.cell 1 _ rfl
        have c7 : w3.cell? ⟨g, i * 17 + 7, none⟩ = some (.int .i64 s.us) := by rw [Nat.mul_comm]; exact hr 7 _ rfl
        have c8 : w3.cell? ⟨g, i * 17 + 8, none⟩ = some (.int .i64 s.ub) := by rw [Nat.mul_comm]; exact hr 8 _ rfl
        have hf0 := hx3.free 0
        have hf1 := hx3.free 1
        obtain ⟨us, hus⟩ : ∃ us, us = s.us := ⟨_, rfl⟩
        obtain ⟨ub, hub⟩ : ∃ ub, ub = s.ub := ⟨_, rfl⟩
        rw [← hus] at c7
        rw [← hub] at c8
        obtain ⟨na, nc, rfl, _⟩ := own_slice hown'
        have HX3 := Lib.hid hx3
        have HO3 := Lib.hid hown'
        have HB3 := Lib.hid hb3
        have HN3 := Lib.hid hne3
        have Hus := Lib.hid (show us = (slotAt l (i : Int)).us by rw [hus, Hs.out])
        have Hub := Lib.hid (show ub = (slotAt l (i : Int)).ub by rw [hub, Hs.out])
        have hi0 : (0 : Int) ≤ (i : Int) := by omega
        have hi1 : (i : Int) < 32 := by omega
        clear hx3 hown' hb3 hne3 hR3 hr hm' hg' HX2 HO2 HB2 HA2 hus hub hL0 hglt e1
        go_wp2_with fail
        go_still_tail 10, (by kernel_rfl)
        change wpList _ _ _ _ _ w3.drew
        have hm4 : Mod (fun q => q = L) w3 ((w3.drew.setCell ⟨L, 0, none⟩ (.int .i64 us)).setCell ⟨L, 1, none⟩ (.int .i64 ub)) :=
          ((Mod.drew (fun q => q = L) w3).trans (Mod.set (fun q => q = L) _ ⟨L, 0, none⟩ (.int .i64 us) rfl)).trans (Mod.set (fun q => q = L) _ ⟨L, 1, none⟩ (.int .i64 ub) rfl)
        have ho4 := own_mod HO3.out hm4 (fun q hq e => HN3.out (e ▸ hq))
        have hb4 := HB3.out.trans (hm4.below HB3.out.size (fun q hq => by have := HL.out; omega))
        have hx4 : Box ((w3.drew.setCell ⟨L, 0, none⟩ (.int .i64 us)).setCell ⟨L, 1, none⟩ (.int .i64 ub)) L #[.int .i64 us, .int .i64 ub] 31 := by
          have := ((HX3.out.below (below_drew _)).set 0 (.int .i64 us)).set 1 (.int .i64 ub)
          simpa using this
        have HO4 := Lib.hid ho4
        have HB4 := Lib.hid hb4
        have HX4 := Lib.hid hx4
        clear hm4 ho4 hb4 hx4 HX3 HO3 HB3
        by_cases hub0 : ub = 0
        · have hE := HU.out.root hk6' Hhm.out.symm (by rw [← Hub.out]; exact hub0)
          subst hub0
          subst hE
          go_wp2_with fail
          go_ret2
          exact ⟨_, rfl, HO4.out, HB4.out⟩
        · have hU' := HU.out.next hk6' Hhm.out.symm (by rw [← Hub.out]; exact hub0)
          rw [← Hus.out, ← Hub.out] at hU'
          have HU' := Lib.hid hU'
          clear hU'
          go_wp2_with fail
          go_roundg (7 - (k + 1))
          case measure => have := Hgk.out; omega
          case rel => exact ⟨k + 1, P ++ [(i : Int)], us, ub, by omega, by go_num, HU'.out, HX4.out, by rw [List.length_append, List.map_append]; exact HO4.out, HN3.out, HB4.out⟩
theorem refLives_calls (B rb k0 : Nat) (l : List SlotM) (n : Int) (sv fv : Value) (ys : List Value) (sl bi : Int) (w : World) (h : RefAt w B rb k0 l n sv fv ys) (hl : l.length = 32) :
    Calls Try.prog 18 #[.pointer (some ⟨rb, 0, none⟩), .agg #[.int .i64 sl, .int .i64 bi]] w fun e w' => e = .returned (.tuple #[.bool (upM l 7 sl bi).2, .int .i64 (upN (upM l 7 sl bi))]) ∧ Below w.heap.size w w' := by
  have HA := Lib.hid (h.below (below_alloc w (.cells #[.int .i64 sl, .int .i64 bi] 31)))
  have hlen := upM_len l 7 sl bi
  clear h
  go_enter Try.func18, Try.ntmps18
  go_wp2_with fail
  refine (refUp_calls B rb k0 l n sv fv ys sl bi _ HA.out hl).mono ?_
  rintro e w' ⟨v, rfl, hown, hb⟩
  obtain ⟨p, hp⟩ : ∃ p, p = upM l 7 sl bi := ⟨_, rfl⟩
  rw [← hp] at hown hlen ⊢
  have HP := Lib.hid hp
  have HB := Lib.hid ((below_alloc w _).trans (hb.mono (by simp)))
  obtain ⟨va, vc, rfl, _⟩ := own_slice hown
  obtain ⟨pl, pb⟩ := p
  have hl7 : pl.length ≤ 7 := hlen
  clear hp hown hb HA hlen
  cases pb with
  | true =>
    go_wp2_with fail
    go_ret2
    exact ⟨by rw [← HP.out]; rfl, HB.out⟩
  | false =>
    by_cases h6 : pl.length ≤ 6
    · have h6' : (pl.length : Int) ≤ 6 := by omega
      go_wp2_with fail
      go_ret2
      exact ⟨by rw [← HP.out]; simp [upN, h6], HB.out⟩
    · have h6' : ¬ (pl.length : Int) ≤ 6 := by omega
      go_wp2_with fail
      go_ret2
      exact ⟨by rw [← HP.out]; simp [upN, h6], HB.out⟩
theorem refPath_calls (B rb k0 : Nat) (l : List SlotM) (n : Int) (sv fv : Value) (ys : List Value) (sl bi : Int) (w : World) (h : RefAt w B rb k0 l n sv fv ys) (hl : l.length = 32) :
    Calls Try.prog 20 #[.pointer (some ⟨rb, 0, none⟩), .agg #[.int .i64 sl, .int .i64 bi]] w fun e w' => ∃ v, e = .returned v ∧ w'.ownsRow w.heap.size 3 1 v (pathOf (upM l 7 sl bi)).length ((pathOf (upM l 7 sl bi)).map VI) ∧ Below w.heap.size w w' := by
  have HA := Lib.hid (h.below (below_alloc w (.cells #[.int .i64 sl, .int .i64 bi] 31)))
  clear h
  go_enter Try.func20, Try.ntmps20
  go_wp2_with fail
  refine (refUp_calls B rb k0 l n sv fv ys sl bi _ HA.out hl).mono ?_
  rintro e w' ⟨v, rfl, hown, hb⟩
  obtain ⟨p, hp⟩ : ∃ p, p = upM l 7 sl bi := ⟨_, rfl⟩
  rw [← hp] at hown ⊢
  have HP := Lib.hid hp
  have HB := Lib.hid ((below_alloc w _).trans (hb.mono (by simp)))
  obtain ⟨va, vc, rfl, _⟩ := own_slice hown
  have HO := Lib.hid (own_base (base' := w.heap.size) hown (by simp))
  obtain ⟨pl, pb⟩ := p
  clear hp hown hb HA
  cases pb with
  | true =>
    go_wp2_with fail
    go_ret
    exact ⟨_, rfl, by rw [← HP.out]; exact HO.out, HB.out⟩
  | false =>
    go_wp2_with fail
    go_ret
    exact ⟨_, rfl, by rw [← HP.out]; exact World.ownsRow_nil _ _ _ _, HB.out⟩
end Go.Proofs.Ytkabeejefkmdgaa
