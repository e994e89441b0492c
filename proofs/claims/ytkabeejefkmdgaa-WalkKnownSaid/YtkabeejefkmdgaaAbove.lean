/-
  WalkAbove: its walk.
-/
import Derived.Test.YtkabeejefkmdgaaAboveMath
import Derived.Test.YtkabeejefkmdgaaLaw
import Derived.Outline
import Derived.Deep.LoopGhost
namespace Go.Proofs.Ytkabeejefkmdgaa
open Go.RowKit

theorem lineL_birth (p : List Nat) (hp : IsSlots p) (x : Nat) (hx : x < 32) : ∃ s, (lineL p p.length)[x]? = some s ∧ -9000000000000000000 ≤ s.birth ∧ s.birth ≤ 9000000000000000000 := by
  by_cases h : x ∈ p
  · obtain ⟨j, hj, e⟩ := List.getElem_of_mem h
    have h1 := lineL_at p hp p.length (Nat.le_refl _) j hj
    have hl := hp.len
    rw [List.getD, List.getElem?_eq_getElem hj] at h1
    simp only [Option.getD_some] at h1
    rw [e] at h1
    exact ⟨_, h1, by simp [lineSlot]; omega, by simp [lineSlot]; omega⟩
  · exact ⟨_, lineL_none p x hx p.length (Nat.le_refl _) h, by simp [SlotM.bare], by simp [SlotM.bare]⟩
theorem slot_new (w : World) : (w.alloc (.cells SlotM.none.vals.toArray 37)).there w.heap.size 0 17 := slot_there (Box.new _ _ _)
theorem slot_made {w w' : World} {s : SlotM} (h : Hid (w' = (w.alloc (.cells SlotM.none.vals.toArray 37)).setCells w.heap.size 0 s.vals)) : w'.rangeAt w.heap.size 0 s.vals ∧ Below w.heap.size w w' :=
  ⟨stored_range h (slot_new w), by rw [h.out]; exact (below_alloc _ _).trans ((Mod.setCells (fun k => k = w.heap.size) w.heap.size rfl _ _ _).below (by simp) (fun k hk => by omega))⟩
theorem range_below {w w' : World} {b o : Nat} {vs : List Value} (h : w.rangeAt b o vs) (hb : Below w.heap.size w w') : w'.rangeAt b o vs := fun j u hj => below_heap hb (h j u hj)
/-- What holds at the head of a round of WalkAbove. -/
def AboveAt (L : List SlotM) (n : Int) (b : Nat) (o : Value) (p : List Nat) (w wr : World) : Prop := IsArena wr L n b ∧ Rd wr o p.length (p.map VN) ∧ Below w.heap.size w wr
set_option maxRecDepth 100000 in
set_option maxHeartbeats 3200000 in
theorem above_calls (v : Value) (l : List Int) (at_ kind : Int) (w : World) (hv : Rd w v l.length (l.map VI)) (hl : ∀ i, i < l.length → -9223372036854775808 ≤ l.getD i 0 ∧ l.getD i 0 ≤ 9223372036854775807)
    (h1 : -9223372036854775808 ≤ at_) (h2 : at_ ≤ 9223372036854775807) (h3 : -9223372036854775808 ≤ kind) (h4 : kind ≤ 9223372036854775807) :
    Calls Try.prog 3 #[v, .agg #[.int .i64 at_, .int .i64 kind]] w fun e w' => e = .returned (.bool true) ∧ Below w.heap.size w w' := by
  have hv0 := hv.below (below_alloc w (.cells #[.int .i64 at_, .int .i64 kind] 24))
  have HV := Lib.hid hv0
  have HL := Lib.hid hl
  clear hv hv0 hl
  go_enter Try.func3, Try.ntmps3
  go_wp2_with fail
  generalize hw1 : World.alloc w _ = w1
  rw [hw1] at HV
  have hx1 : Box w1 w.heap.size #[.int .i64 at_, .int .i64 kind] 24 := by rw [← hw1]; exact Box.new _ _ _
  have hb1 : Below w.heap.size w w1 := by rw [← hw1]; exact below_alloc _ _
  have HX := Lib.hid hx1
  have HB1 := Lib.hid hb1
  have hs1 := hb1.size
  clear hw1 hx1 hb1
  refine (slots_calls v l w1 HV.out HL.out).mono ?_
  rintro e w2 ⟨o, p, rfl, hp, hown, hb2⟩
  have hs2 := hb2.size
  have hpl := hp.len
  have Hp := Lib.hid hp
  have Hown := Lib.hid hown
  have Hoq := Lib.hid (fun q hq => (hown.lt q hq).2)
  have HX2 := Lib.hid (HX.out.below hb2)
  have HB2 := Lib.hid (HB1.out.trans (hb2.mono hs1))
  obtain ⟨oa, oc, rfl, _⟩ := own_slice hown
  clear hp hown hb2 HX HB1 HL HV
  go_wp2_with fail
  refine (line_calls _ p w2 (rd_of_own Hown.out) Hp.out.lt (by omega)).mono ?_
  rintro e w3 ⟨b, rfl, hA, hbb, hb3⟩
  have hs3 := hb3.size
  have HA := Lib.hid hA
  have HO := Lib.hid (own_below Hown.out hb3)
  have HX3 := Lib.hid (HX2.out.below hb3)
  have HB3 := Lib.hid (HB2.out.trans (hb3.mono (by omega)))
  clear hA hb3 Hown HX2 HB2
  go_wp2_with fail
  refine (works_calls w3).mono ?_
  rintro e w4 ⟨rfl, hb4⟩
  have hs4 := hb4.size
  have HA4 := Lib.hid (HA.out.below hb4)
  have HO4 := Lib.hid (own_below HO.out hb4)
  have HX4 := Lib.hid (HX3.out.below hb4)
  have HB4 := Lib.hid (HB3.out.trans (hb4.mono (by omega)))
  clear hb4 HA HO HX3 HB3
  by_cases hp0 : p.length = 0
  · have hpz : ((p.length : Int) == 0) = true := by simp [hp0]
    go_wp2_with (go_at_call 9; refine (works_calls w4).mono ?_; rintro e w5 ⟨rfl, hb5⟩)
    go_ret
    exact ⟨rfl, HB4.out.trans (hb5.mono (by omega))⟩
  · have hpz : ((p.length : Int) == 0) = false := by simp; intro h; exact hp0 (by simp [h])
    have c0 : w4.cell? ⟨w.heap.size, 0, none⟩ = some (.int .i64 at_) := HX4.out.cell 0 _ rfl
    have c1 : w4.cell? ⟨w.heap.size, 1, none⟩ = some (.int .i64 kind) := HX4.out.cell 1 _ rfl
    have hpk := pickI_lt at_ 32 (by omega)
    obtain ⟨x, hx⟩ := Int.eq_ofNat_of_zero_le hpk.1
    rw [hx] at hpk
    have hx32 : x < 32 := by omega
    have hpc := fun w => pick_calls at_ 32 w h1 h2 (by omega) (by omega)
    rw [hx] at hpc
    have Hpc := Lib.hid hpc
    have Hp0 := Lib.hid hp0
    clear hpk hx hpc hp0
    go_wp2_with (go_at_call 10; refine (Hpc.out _).mono ?_; rintro e w' ⟨rfl, rfl⟩)
    obtain ⟨s, hs, hsb⟩ := lineL_birth p Hp.out x hx32
    refine (get_calls _ _ b x s w4 HA4.out hs).mono ?_
    rintro e w5 ⟨rfl, hb5⟩
    have hs5 := hb5.size
    have HA5 := Lib.hid (HA4.out.below hb5)
    have HO5 := Lib.hid (own_below HO4.out hb5)
    have c1' : w5.cell? ⟨w.heap.size, 1, none⟩ = some (.int .i64 kind) := below_heap hb5 c1
    have HB5 := Lib.hid (HB4.out.trans (hb5.mono (by omega)))
    have Hs := Lib.hid hs
    clear hb5 HA4 HO4 HX4 HB4 c0 c1 hs
    go_wp2_with (refine wpList_store_k (op := ⟨none, .store _ _ _, _, _, _, _⟩) rfl 37 (.tmp 8) (.tmp 43) rfl w5.heap.size 0 s.vals rfl _ rfl (Lib.hid rfl) (slot_new w5) (by kernel_rfl) s.vals_one ?_)
    intro w6 hw6
    obtain ⟨hr6, hb6⟩ := slot_made hw6
    have hs6 := hb6.size
    have HR6 := Lib.hid hr6
    have HA6 := Lib.hid (HA5.out.below hb6)
    have HO6 := Lib.hid (own_below HO5.out hb6)
    have c1 : w6.cell? ⟨w.heap.size, 1, none⟩ = some (.int .i64 kind) := below_heap hb6 c1'
    have HB6 := Lib.hid (HB5.out.trans (hb6.mono (by omega)))
    clear hw6 hr6 hb6 HA5 HO5 HB5 c1'
    go_wp2_with (refine wpList_load_k (op := ⟨some 48, .load _ _, _, _, _, _⟩) rfl 37 (.tmp 8) rfl w5.heap.size 0 rfl s.vals _ HR6.out Try.underlying37 rfl (by kernel_rfl) ?_)
    intro cv hcv
    go_wp2_with fail
    rw [hcv.out]
    clear hcv
    refine (harmed_calls s kind w6 h3 h4 hsb).mono ?_
    rintro e w7 ⟨rfl, hb7⟩
    obtain ⟨t, ht⟩ : ∃ t, t = (harmM s (pickI kind 4)).1 := ⟨_, rfl⟩
    obtain ⟨yes, hy⟩ : ∃ yes, yes = (harmM s (pickI kind 4)).2 := ⟨_, rfl⟩
    rw [← ht, ← hy]
    have hs7 := hb7.size
    have HA7 := Lib.hid (HA6.out.below hb7)
    have HO7 := Lib.hid (own_below HO6.out hb7)
    have HB7 := Lib.hid (HB6.out.trans (hb7.mono (by omega)))
    have Ht := Lib.hid ht
    have Hy := Lib.hid hy
    clear hb7 HA6 HO6 HB6 c1 HR6 ht hy
    go_wp2_with (refine wpList_store_k (op := ⟨none, .store _ _ _, _, _, _, _⟩) rfl 37 (.tmp 10) (.tmp 52) rfl w7.heap.size 0 t.vals rfl _ rfl (Lib.hid rfl) (slot_new w7) (by kernel_rfl) t.vals_one ?_)
    intro w8 hw8
    obtain ⟨hr8, hb8⟩ := slot_made hw8
    have hs8 := hb8.size
    have HR8 := Lib.hid hr8
    have HA8 := Lib.hid (HA7.out.below hb8)
    have HO8 := Lib.hid (own_below HO7.out hb8)
    have HB8 := Lib.hid (HB7.out.trans (hb8.mono (by omega)))
    clear hw8 hr8 hb8 HA7 HO7 HB7
    go_wp2_with (refine wpList_load_k (op := ⟨some 56, .load _ _, _, _, _, _⟩) rfl 37 (.tmp 10) rfl w7.heap.size 0 rfl t.vals _ HR8.out Try.underlying37 rfl (by kernel_rfl) ?_)
    intro cv hcv
    go_wp2_with fail
    rw [hcv.out]
    clear hcv
    refine (put_calls _ _ b x t w8 HA8.out hx32 (by omega)).mono ?_
    rintro e w9 ⟨rfl, hA9, hm9⟩
    have hown9 := own_mod HO8.out hm9 (fun q hq e => by have := Hoq.out q hq; omega)
    have HB9 := Lib.hid (HB8.out.trans (hm9.below (by omega) (fun q hq => by omega)))
    have HT9 := Lib.hid (show AboveAt ((lineL p p.length).set x t) (p.length + 1) b (.slice oa p.length oc) p w w9 from ⟨hA9, rd_of_own hown9, HB9.out⟩)
    clear hA9 hm9 hown9 HB9 HA8 HO8 HB8 HR8
    go_wp2_with fail
    go_loopg [12, 13] p.length (fun gk dv iv wr => ∃ i : Nat, gk + i = p.length ∧ iv = .int .i64 (i : Int) ∧ dv = .bool (deadB p x yes i) ∧ AboveAt ((lineL p p.length).set x t) (p.length + 1) b (.slice oa p.length oc) p w wr)
    case atStart => exact ⟨0, rfl, rfl, by simp [deadB], HT9.out⟩
    case round =>
      clear HT9
      obtain ⟨i, hgi, rfl, rfl, hA, hrd, hb⟩ := hrel
      have hi0 : (0 : Int) ≤ (i : Int) := by omega
      have HA := Lib.hid hA
      have HB := Lib.hid hb
      have HR := Lib.hid hrd
      have Hgi := Lib.hid hgi
      by_cases hi : i < p.length
      · obtain ⟨bl, off, cap, e1, hcell⟩ := hrd.at i (by simpa using hi)
        injection e1 with e2 _ e3
        subst e2; subst e3
        obtain ⟨y, hy⟩ : ∃ y, y = p.getD i 0 := ⟨_, rfl⟩
        rw [show (p.map VN).getD i undef = VN (p.getD i 0) by simp [List.getD, hi], ← hy] at hcell
        unfold VN at hcell
        have hi1 : (i : Int) < (p.length : Int) := by omega
        obtain ⟨d0, hd0⟩ : ∃ d, d = deadB p x yes i := ⟨_, rfl⟩
        obtain ⟨d1, hd1⟩ : ∃ d, d = deadB p x yes (i + 1) := ⟨_, rfl⟩
        have hd := deadB_succ p x yes i hi
        rw [← hd0, ← hd1, ← hy] at hd
        have hn := above_n p Hp.out x (pickI kind 4) ((lineL p p.length).set x t) s Hs.out (by rw [Ht.out]) i hi
        rw [← Hy.out, ← hd1, ← hy] at hn
        obtain ⟨n, hn1, hn2, hn3, hn4⟩ := hn
        have hlv := lives_calls _ _ b y (10 + (i : Int)) wr hA
        rw [hn1, hn2] at hlv
        have HLV := Lib.hid hlv
        have Hd1 := Lib.hid hd1
        rw [← hd0]
        have Hn4 := Lib.hid hn4
        clear hA hrd hb hgi hy hd0 hd1 hn1 hn2 hlv hn4
        by_cases hA0 : d0 = true
        · subst hA0
          simp only [Bool.true_or] at hd
          subst hd
          clear Hn4
          go_wp2_with (go_at_call 14; refine HLV.out.mono ?_; rintro e wn ⟨rfl, hbn⟩)
          have HT' := Lib.hid (show AboveAt ((lineL p p.length).set x t) (p.length + 1) b (.slice (some ⟨bl, off, none⟩) p.length oc) p w wn from ⟨HA.out.below hbn, HR.out.below hbn, HB.out.trans (hbn.mono HB.out.size)⟩)
          clear hbn
          go_wp2_with fail
          go_roundg (p.length - (i + 1))
          case measure => have := Hgi.out; omega
          case rel => exact ⟨i + 1, by have := Hgi.out; omega, by go_num, by rw [← Hd1.out], HT'.out⟩
        · have hA0 : d0 = false := by simpa using hA0
          subst hA0
          by_cases hy1 : yes = true
          · subst hy1
            by_cases hyx : y = x
            · simp only [Bool.false_or, Bool.true_and, decide_eq_true hyx] at hd
              subst hd
              have hyz : ((y : Int) == (x : Int)) = true := by simp [hyx]
              clear hyx
              clear Hn4
              go_wp2_with (go_at_call 14; refine HLV.out.mono ?_; rintro e wn ⟨rfl, hbn⟩)
              have HT' := Lib.hid (show AboveAt ((lineL p p.length).set x t) (p.length + 1) b (.slice (some ⟨bl, off, none⟩) p.length oc) p w wn from ⟨HA.out.below hbn, HR.out.below hbn, HB.out.trans (hbn.mono HB.out.size)⟩)
              clear hbn
              go_wp2_with fail
              go_roundg (p.length - (i + 1))
              case measure => have := Hgi.out; omega
              case rel => exact ⟨i + 1, by have := Hgi.out; omega, by go_num, by rw [← Hd1.out], HT'.out⟩
            · simp only [Bool.false_or, Bool.true_and, decide_eq_false hyx] at hd
              subst hd
              have hyz : ((y : Int) == (x : Int)) = false := by simp; omega
              have hn : n = (i : Int) := Hn4.out rfl
              have HLV := Lib.hid (hn ▸ HLV.out)
              clear hn
              clear Hn4
              go_wp2_with (go_at_call 14; refine HLV.out.mono ?_; rintro e wn ⟨rfl, hbn⟩)
              have HT' := Lib.hid (show AboveAt ((lineL p p.length).set x t) (p.length + 1) b (.slice (some ⟨bl, off, none⟩) p.length oc) p w wn from ⟨HA.out.below hbn, HR.out.below hbn, HB.out.trans (hbn.mono HB.out.size)⟩)
              clear hbn
              go_wp2_with fail
              go_roundg (p.length - (i + 1))
              case measure => have := Hgi.out; omega
              case rel => exact ⟨i + 1, by have := Hgi.out; omega, by go_num, by rw [← Hd1.out], HT'.out⟩
          · have hy1 : yes = false := by simpa using hy1
            subst hy1
            simp only [Bool.false_or, Bool.false_and] at hd
            subst hd
            have hn : n = (i : Int) := Hn4.out rfl
            have HLV := Lib.hid (hn ▸ HLV.out)
            clear hn
            clear Hn4
            go_wp2_with (go_at_call 14; refine HLV.out.mono ?_; rintro e wn ⟨rfl, hbn⟩)
            have HT' := Lib.hid (show AboveAt ((lineL p p.length).set x t) (p.length + 1) b (.slice (some ⟨bl, off, none⟩) p.length oc) p w wn from ⟨HA.out.below hbn, HR.out.below hbn, HB.out.trans (hbn.mono HB.out.size)⟩)
            clear hbn
            go_wp2_with fail
            go_roundg (p.length - (i + 1))
            case measure => have := Hgi.out; omega
            case rel => exact ⟨i + 1, by have := Hgi.out; omega, by go_num, by rw [← Hd1.out], HT'.out⟩
      · obtain rfl : i = p.length := by omega
        clear hA hrd hb hgi
        go_wp2_with fail
        go_ret
        exact ⟨rfl, HB.out⟩
end Go.Proofs.Ytkabeejefkmdgaa
