/-
  The walks of package lineagekit over lists of texts.
-/
import Derived.Test.YtefegebnohenaaaDoorFrame
import Derived.Test.YtefegebnohenaaaDoorSame
namespace Go.Proofs.YtefegebnohenaaaDoor
open Go.RowKit

theorem getD_map_lt {α β : Type} (f : α → β) (l : List α) (i : Nat) (z : α) (y : β) (h : i < l.length) : (l.map f).getD i y = f (l.getD i z) := by
  simp [List.getD, h]
/-- The mark of a place. -/
def markT (k i : Int) : List UInt8 := [35, B8 k, B8 (k / 256), B8 i, B8 (i / 256)]
theorem markText_calls (k i : Int) (w : World) :
    Calls Tryd.prog 44 #[.int .i64 k, .int .i64 i] w fun e w' => e = .returned (.string (SB (markT k i))) ∧ Below w.heap.size w w' := by
  have hrd := rd_lit w #[.int .u8 35, .int .u8 (k % 256), .int .u8 (k / 256 % 256), .int .u8 (i % 256), .int .u8 (i / 256 % 256)] 5 (markT k i) (by
    show _ = [V8 35, V8 (B8 k), V8 (B8 (k / 256)), V8 (B8 i), V8 (B8 (i / 256))]
    rw [V8_B8, V8_B8, V8_B8, V8_B8]; rfl) (by show 5 ≤ _; decide)
  have kc := convS (markT k i) hrd rfl
  have hb := below_alloc w (.cells #[.int .u8 35, .int .u8 (k % 256), .int .u8 (k / 256 % 256), .int .u8 (i % 256), .int .u8 (i / 256 % 256)] 5)
  have HB := Lib.hid hb
  obtain ⟨s, hs⟩ : ∃ s, s = SB (markT k i) := ⟨_, rfl⟩
  rw [← hs] at kc ⊢
  have kc : (convert 23 9 (.slice (some ⟨w.heap.size, 0, none⟩) 5 5)).run Tryd.prog (w.alloc (.cells #[.int .u8 35, .int .u8 (k % 256), .int .u8 (k / 256 % 256), .int .u8 (i % 256), .int .u8 (i / 256 % 256)] 5)) = .ok (.string s) (w.alloc (.cells #[.int .u8 35, .int .u8 (k % 256), .int .u8 (k / 256 % 256), .int .u8 (i % 256), .int .u8 (i / 256 % 256)] 5)) := kc
  clear hrd hb hs
  go_enter Tryd.func44, Tryd.ntmps44
  go_wp2_with fail
  go_ret
  exact ⟨rfl, HB.out⟩
theorem markT_calls (k i : Int) (w : World) :
    Calls Tryd.prog 20 #[.int .i64 k, .int .i64 i] w fun e w' => e = .returned (.string (SB (markT k i))) ∧ Below w.heap.size w w' := by
  go_enter Tryd.func20, Tryd.ntmps20
  go_wp2_with fail
  refine (markText_calls k i w).mono ?_
  rintro e w' ⟨rfl, hb⟩
  have HB := Lib.hid hb
  clear hb
  go_wp2_with fail
  go_ret
  exact ⟨rfl, HB.out⟩
/-- The marks behind a list. -/
def marksT (n : Nat) : List (List UInt8) := (List.range n).map (fun i : Nat => markT 90 (i : Int))
theorem marksT_length (n : Nat) : (marksT n).length = n := by simp [marksT]
theorem marksT_succ (n : Nat) : marksT (n + 1) = marksT n ++ [markT 90 n] := by simp [marksT, List.range_succ]
theorem marksT_get (n j : Nat) (h : j < n) : (marksT n).getD j [] = markT 90 j := by simp [marksT, List.getD, h]
set_option maxHeartbeats 800000 in
theorem fullT_calls (v : Value) (l : List (List UInt8)) (w : World) (hv : Rd w v l.length (l.map SV)) (hn : l.length ≤ 8796093022000) :
    Calls Tryd.prog 61 #[v] w fun e w' => ∃ o, e = .returned o ∧ w'.ownsRow w.heap.size 9 1 o (l.length + 16) ((l ++ marksT 16).map SV) ∧ Below w.heap.size w w' := by
  obtain ⟨a, cap, rfl, hc1, hc2, _, hc⟩ := hv
  have Hc := Lib.hid hc
  clear hc
  go_enter Tryd.func61, Tryd.ntmps61
  go_wp2
  go_loopw [3, 4] (fun o i wr => ∃ k : Nat, k ≤ l.length ∧ i = .int .i64 k ∧ wr.ownsRow w.heap.size 9 1 o k ((l.take k).map SV) ∧ Below w.heap.size w wr) (fun _ i _ => l.length - (intOf i).toNat)
  case atStart => exact ⟨0, by omega, rfl, World.ownsRow_nil _ _ _ _, Below.refl _ _⟩
  case round =>
    obtain ⟨k, hk, rfl, hown, hb⟩ := hrel
    obtain ⟨oa, oc, rfl, _⟩ := own_slice hown
    have hs := hb.size
    by_cases hlt : k < l.length
    · obtain ⟨b, off, rfl, hcell'⟩ := Hc.out k (by simpa using hlt)
      obtain ⟨x, hx⟩ : ∃ x, x = l.getD k [] := ⟨_, rfl⟩
      have hcell : wr.cell? ⟨b, off + k, none⟩ = some (.string (SB x)) := below_heap hb (by rw [hcell', hx]; simp [hlt, SV, List.getD])
      have HOwn := Lib.hid (fun ob => own_below hown (below_alloc wr ob))
      have HSrc := Lib.hid (rd_one_new wr x 9)
      have HsA := Lib.hid (fun ob => Nat.le_trans hs (below_alloc wr ob).size)
      have HRm := Lib.hid (show k + [x].length ≤ 8796093022208 by rw [List.length_singleton]; omega)
      have HB := Lib.hid hb
      have Hx := Lib.hid hx
      clear hcell' Hc hown hb hs hx
      go_wp2_with (at_builtin; refine appT rfl _ _ rfl w.heap.size _ k ((l.take k).map SV) rfl (HOwn.out _) _ [x] rfl HSrc.out HRm.out (HsA.out _) ?_)
      intro v' w1 hown' hg' _
      have hb1 := (HB.out.trans ((below_alloc wr _).mono HB.out.size)).trans (below_grown hg' (HsA.out _) (fun q hq => ((HOwn.out (.cells #[] 9)).lt q hq).1))
      have hown1 : w1.ownsRow w.heap.size 9 1 v' (k + 1) ((l.take (k + 1)).map SV) := by
        rw [List.take_succ_eq_append_getElem hlt, List.map_append]
        have e1 : l[k] = x := by rw [Hx.out]; simp [List.getD, hlt]
        rw [e1]; simpa using hown'
      have HN := Lib.hid (And.intro hown1 hb1)
      clear hb1 hown1 hown' hg' hcell HOwn HSrc HsA HRm HB
      go_wp2
      go_roundw
      case rel => exact ⟨k + 1, by omega, by go_num, HN.out⟩
      case measure => simp [intOf]; omega
    · obtain rfl : k = l.length := by omega
      rw [List.take_of_length_le (by simp)] at hown
      clear Hc
      go_wp2
      obtain ⟨wo, rfl⟩ : ∃ wo : World, wo = wr := ⟨_, rfl⟩
      have HOwn0 := Lib.hid hown
      have HB0 := Lib.hid hb
      clear hown hb hs
      go_loopw [3, 5] (fun o i wr => ∃ k : Nat, k ≤ 16 ∧ i = .int .i64 k ∧ wr.ownsRow w.heap.size 9 1 o (l.length + k) ((l ++ marksT k).map SV) ∧ Below w.heap.size w wr) (fun _ i _ => 16 - (intOf i).toNat)
      case atStart => exact ⟨0, by omega, rfl, by simpa [marksT] using HOwn0.out, HB0.out⟩
      case round =>
        obtain ⟨k, hk, rfl, hown, hb⟩ := hrel
        obtain ⟨oa, oc, rfl, _⟩ := own_slice hown
        by_cases hlt : k < 16
        · have HOwn := Lib.hid hown
          have HB := Lib.hid hb
          clear hown hb HOwn0 HB0
          go_wp2_with fail
          refine (markT_calls 90 k _).mono ?_
          rintro e w5 ⟨rfl, hb5⟩
          obtain ⟨x, hx⟩ : ∃ x, x = markT 90 k := ⟨_, rfl⟩
          have hba := fun ob => below_trans hb5 (below_alloc w5 ob)
          have HOwn5 := Lib.hid (fun ob => own_below HOwn.out (hba ob))
          have HSrc := Lib.hid (rd_one_new w5 x 9)
          have HsA := Lib.hid (fun ob => Nat.le_trans HB.out.size (hba ob).size)
          have HRm := Lib.hid (show l.length + k + [x].length ≤ 8796093022208 by rw [List.length_singleton]; omega)
          have HBa := Lib.hid hba
          have Hx := Lib.hid hx
          rw [← hx]
          clear hb5 hba hx
          go_wp2_with (at_builtin; refine appT rfl _ _ rfl w.heap.size _ (l.length + k) ((l ++ marksT k).map SV) rfl (HOwn5.out _) _ [x] rfl HSrc.out HRm.out (HsA.out _) ?_)
          intro v' w1 hown' hg' _
          have hb1 := (HB.out.trans ((HBa.out _).mono HB.out.size)).trans (below_grown hg' (HsA.out _) (fun q hq => ((HOwn5.out (.cells #[] 9)).lt q hq).1))
          have hown1 : w1.ownsRow w.heap.size 9 1 v' (l.length + (k + 1)) ((l ++ marksT (k + 1)).map SV) := by
            rw [marksT_succ, ← Hx.out]
            simpa [Nat.add_assoc] using hown'
          have HN := Lib.hid (And.intro hown1 hb1)
          clear hb1 hown1 hown' hg' HOwn HSrc HsA HRm HB HOwn5 HBa
          go_wp2
          go_roundw
          case rel => exact ⟨k + 1, by omega, by go_num, HN.out⟩
          case measure => simp [intOf]; omega
        · obtain rfl : k = 16 := by omega
          have HN := Lib.hid (And.intro hown hb)
          clear hown hb HOwn0 HB0
          go_wp2
          go_ret
          exact ⟨_, rfl, HN.out⟩
/-- A list that was lent: it reads as the list, and behind it, in the same row, stand the marks. -/
def LentT (w : World) (base : Nat) (v : Value) (l : List (List UInt8)) : Prop :=
  ∃ g cap, v = .slice (some ⟨g, 0, none⟩) l.length cap ∧ w.ownsRow base 9 1 (.slice (some ⟨g, 0, none⟩) (l.length + 16) cap) (l.length + 16) ((l ++ marksT 16).map SV)
theorem LentT.below {w w' : World} {base : Nat} {v : Value} {l : List (List UInt8)} (h : LentT w base v l) (hb : Below w.heap.size w w') : LentT w' base v l := by
  obtain ⟨g, cap, rfl, h⟩ := h; exact ⟨g, cap, rfl, own_below h hb⟩
theorem LentT.full {w : World} {base : Nat} {v : Value} {l : List (List UInt8)} (h : LentT w base v l) : ∃ g cap, v = .slice (some ⟨g, 0, none⟩) l.length cap ∧ l.length + 16 ≤ cap ∧ Rd w (.slice (some ⟨g, 0, none⟩) (l.length + 16) cap) (l.length + 16) ((l ++ marksT 16).map SV) := by
  obtain ⟨g, cap, rfl, h⟩ := h
  have hr := rd_of_own h
  have hr' := hr
  obtain ⟨_, _, e, h1, _⟩ := hr
  injection e with _ _ e; subst e
  exact ⟨g, cap, rfl, h1, hr'⟩
theorem LentT.rd {w : World} {base : Nat} {v : Value} {l : List (List UInt8)} (h : LentT w base v l) : Rd w v l.length (l.map SV) := by
  obtain ⟨g, cap, rfl, h1, h2⟩ := h.full
  have := h2.cut (m := l.length) (by omega) l.length
  simpa [List.take_append_of_le_length] using this
theorem LentT.kept {w w' : World} {base : Nat} {v : Value} {l : List (List UInt8)} {F : Nat → Prop} (h : LentT w base v l) (hm : Mod F w w') (hb : ∀ k, v.ownBlock = some k → ¬ F k) : LentT w' base v l := by
  obtain ⟨g, cap, rfl, h⟩ := h
  exact ⟨g, cap, rfl, own_mod h hm (fun k hk => hb k (by simpa [Value.ownBlock] using hk))⟩
theorem lentT_calls (v : Value) (l : List (List UInt8)) (w : World) (hv : Rd w v l.length (l.map SV)) (hn : l.length ≤ 8796093022000) :
    Calls Tryd.prog 49 #[v] w fun e w' => ∃ o, e = .returned o ∧ LentT w' w.heap.size o l ∧ Below w.heap.size w w' := by
  have hv' := hv
  obtain ⟨a, cap, rfl, hc1, hc2, _, hc⟩ := hv
  clear hc
  go_enter Tryd.func49, Tryd.ntmps49
  go_wp2_with fail
  refine (fullT_calls _ l _ hv' hn).mono ?_
  rintro e w' ⟨o, rfl, hown, hb⟩
  rcases hown.2 with ⟨rfl, h0⟩ | ⟨g, cap', cur, rfl, hbg, hg, hn', hm, hs, ht⟩
  · omega
  · have HN := Lib.hid (And.intro hown hb)
    clear hg hs ht hv' hown hb
    unfold maxLen at hm
    go_wp2
    go_ret
    exact ⟨_, rfl, ⟨g, cap', rfl, HN.out.1⟩, HN.out.2⟩
set_option maxHeartbeats 800000 in
theorem keptFullT_calls (v v' : Value) (l : List (List UInt8)) (w : World) (hv : Rd w v (l.length + 16) ((l ++ marksT 16).map SV)) (hv' : Rd w v' l.length (l.map SV)) (hn : l.length ≤ 8796093022000) :
    Calls Tryd.prog 64 #[v, v'] w fun e w' => e = .returned (.bool true) ∧ Below w.heap.size w w' := by
  obtain ⟨a, cap, rfl, hc1, hc2, _, hc⟩ := hv
  obtain ⟨a', cap', rfl, hd1, hd2, _, hd⟩ := hv'
  have Hc := Lib.hid hc
  have Hd := Lib.hid hd
  clear hc hd
  go_enter Tryd.func64, Tryd.ntmps64
  go_wp2
  go_loopw [5] (fun i wr => ∃ k : Nat, k ≤ l.length + 16 ∧ i = .int .i64 k ∧ Below w.heap.size w wr) (fun i _ => l.length + 16 - (intOf i).toNat)
  case atStart => exact ⟨0, by omega, rfl, Below.refl _ _⟩
  case round =>
    obtain ⟨k, hk, rfl, hb⟩ := hrel
    by_cases hlt : k < l.length + 16
    · obtain ⟨b, off, rfl, hcell'⟩ := Hc.out k (by simp [marksT_length]; omega)
      obtain ⟨x, hx⟩ : ∃ x, x = (l ++ marksT 16).getD k [] := ⟨_, rfl⟩
      have hcell : w.cell? ⟨b, off + k, none⟩ = some (.string (SB x)) := by
        rw [hcell', hx, getD_map_lt (α := List UInt8) SV _ k [] undef (by simp [marksT_length]; omega)]; rfl
      by_cases hl : k < l.length
      · obtain ⟨b', off', rfl, hdell'⟩ := Hd.out k (by simpa using hl)
        have hdell : w.cell? ⟨b', off' + k, none⟩ = some (.string (SB x)) := by
          rw [hdell', getD_map_lt (α := List UInt8) SV _ k [] undef hl, hx]
          simp [SV, List.getD, List.getElem?_append_left hl]
        have HB := Lib.hid hb
        clear hcell' hdell' Hc Hd hb hx
        go_wp2_with fail
        refine (markT_calls 90 _ _).mono ?_
        rintro e w5 ⟨rfl, hb5⟩
        have hb6 := HB.out.trans (hb5.mono HB.out.size)
        have hcell5 := below_heap hb6 hcell
        have hdell5 := below_heap hb6 hdell
        have HB6 := Lib.hid hb6
        obtain ⟨s, hs⟩ : ∃ s, s = SB x := ⟨_, rfl⟩
        rw [← hs] at hcell5 hdell5
        clear hb5 hb6 hcell hdell HB hs
        go_wp2
        go_roundw
        case rel => exact ⟨k + 1, by omega, by go_num, HB6.out⟩
        case measure => simp [intOf]; omega
      · have hxm : x = markT 90 ((k : Int) - (l.length : Int)) := by
          rw [hx, List.getD, List.getElem?_append_right (by omega)]
          have h := marksT_get 16 (k - l.length) (by omega)
          rw [List.getD] at h
          rw [h, show ((k - l.length : Nat) : Int) = (k : Int) - (l.length : Int) from by omega]
        rw [hxm] at hcell
        have HB := Lib.hid hb
        clear hcell' Hc Hd hb hx hxm
        go_wp2_with fail
        refine (markT_calls 90 _ _).mono ?_
        rintro e w5 ⟨rfl, hb5⟩
        have hb6 := HB.out.trans (hb5.mono HB.out.size)
        have hcell5 := below_heap hb6 hcell
        have HB6 := Lib.hid hb6
        obtain ⟨s, hs⟩ : ∃ s, s = SB (markT 90 ((k : Int) - (l.length : Int))) := ⟨_, rfl⟩
        rw [← hs] at hcell5 ⊢
        clear hb5 hb6 hcell HB hs
        go_wp2
        go_roundw
        case rel => exact ⟨k + 1, by omega, by go_num, HB6.out⟩
        case measure => simp [intOf]; omega
    · obtain rfl : k = l.length + 16 := by omega
      have HB := Lib.hid hb
      clear Hc Hd hb
      go_wp2
      go_ret
      exact ⟨rfl, HB.out⟩
theorem keptT_calls (v v' : Value) (base : Nat) (l : List (List UInt8)) (w : World) (hv : LentT w base v l) (hv' : Rd w v' l.length (l.map SV)) (hn : l.length ≤ 8796093022000) :
    Calls Tryd.prog 54 #[v, v'] w fun e w' => e = .returned (.bool true) ∧ Below w.heap.size w w' := by
  obtain ⟨g, cap, rfl, hc, hr⟩ := hv.full
  have hr' := hv'
  obtain ⟨a', cap', rfl, hd1, hd2, _, hd⟩ := hv'
  clear hd hv
  have Hr := Lib.hid hr
  have Hr' := Lib.hid hr'
  clear hr hr'
  go_enter Tryd.func54, Tryd.ntmps54
  go_wp2_with fail
  refine (keptFullT_calls _ _ l _ Hr.out Hr'.out hn).mono ?_
  rintro e w' ⟨rfl, hb⟩
  have HB := Lib.hid hb
  clear hb
  go_wp2
  go_ret
  exact ⟨rfl, HB.out⟩
end Go.Proofs.YtefegebnohenaaaDoor
