/-
  WalkPath: its walk.
-/
import Derived.Test.YtkabeejefkmdgaaPathLaw
import Derived.Outline
namespace Go.Proofs.Ytkabeejefkmdgaa
open Go.RowKit

/-- What holds at the head of a round of WalkPath. -/
structure PathAt (W : World) (F : List SlotM) (m : Int) (b : Nat) (pv : Value) (P : List Int) (sl bi : Int) (w : World) : Prop where
  arena : IsArena w F m b
  path : Rd w pv P.length (P.map VI)
  link : Box w W.heap.size #[.int .i64 sl, .int .i64 bi] 31
  below : Below W.heap.size W w
theorem PathAt.keep {W : World} {F : List SlotM} {m : Int} {b : Nat} {pv : Value} {P : List Int} {sl bi : Int} {w w' : World} (h : PathAt W F m b pv P sl bi w) (hb : Below w.heap.size w w') : PathAt W F m b pv P sl bi w' :=
  ⟨h.arena.below hb, h.path.below hb, h.link.below hb, h.below.trans (hb.mono h.below.size)⟩
set_option maxRecDepth 100000 in
set_option maxHeartbeats 3200000 in
theorem pathLaw_calls (v : Value) (l : List SlotM) (sl bi : Int) (w : World) (hv : Rd w v l.length (l.flatMap SlotM.vals)) :
    Calls Try.prog 4 #[v, .agg #[.int .i64 sl, .int .i64 bi]] w fun e w' => e = .returned (.bool true) ∧ Below w.heap.size w w' := by
  have hv0 := hv.below (below_alloc w (.cells #[.int .i64 sl, .int .i64 bi] 31))
  have HV := Lib.hid hv0
  clear hv hv0
  go_enter Try.func4, Try.ntmps4
  go_wp2_with fail
  generalize hw1 : World.alloc w _ = w1
  rw [hw1] at HV
  have hx1 : Box w1 w.heap.size #[.int .i64 sl, .int .i64 bi] 31 := by rw [← hw1]; exact Box.new _ _ _
  have hb1 : Below w.heap.size w w1 := by rw [← hw1]; exact below_alloc _ _
  have hs1 := hb1.size
  have HX := Lib.hid hx1
  have HB := Lib.hid hb1
  clear hw1 hx1 hb1
  refine (filled_calls v l w1 HV.out).mono ?_
  rintro e w2 ⟨b, B, rb, sv, fv, ys, rfl, hF⟩
  obtain ⟨m, hm⟩ : ∃ m, m = min l.length 32 := ⟨_, rfl⟩
  rw [← hm] at hF
  have hs2 := hF.below.size
  have HA2 := Lib.hid hF.arena
  have HX2 := Lib.hid (HX.out.below hF.below)
  have HB2 := Lib.hid (HB.out.trans (hF.below.mono hs1))
  obtain ⟨F, hFF⟩ : ∃ F, F = fillL l m := ⟨_, rfl⟩
  rw [← hFF] at HA2
  have hFl : F.length = 32 := by rw [hFF]; exact fillL_len l m
  have HFl := Lib.hid hFl
  clear hF hm HX HB HV hFF hFl
  go_wp2_with fail
  refine (works_calls w2).mono ?_
  rintro e w3 ⟨rfl, hb3⟩
  have hs3 := hb3.size
  have HA3 := Lib.hid (HA2.out.below hb3)
  have HX3 := Lib.hid (HX2.out.below hb3)
  have HB3 := Lib.hid (HB2.out.trans (hb3.mono (by omega)))
  have c0 : w3.cell? ⟨w.heap.size, 0, none⟩ = some (.int .i64 sl) := HX3.out.cell 0 _ rfl
  have c1 : w3.cell? ⟨w.heap.size, 1, none⟩ = some (.int .i64 bi) := HX3.out.cell 1 _ rfl
  clear hb3 HA2 HX2 HB2
  obtain ⟨p, hp⟩ : ∃ p, p = upM F 7 sl bi := ⟨_, rfl⟩
  have hlv := lives_calls _ _ b sl bi w3 HA3.out
  rw [← hp] at hlv
  have Hp := Lib.hid hp
  have Hlv := Lib.hid hlv
  clear hlv hp
  go_wp2_with fail
  refine Hlv.out.mono ?_
  rintro e w4 ⟨rfl, hb4⟩
  have hs4 := hb4.size
  have HA4 := Lib.hid (HA3.out.below hb4)
  have HX4 := Lib.hid (HX3.out.below hb4)
  have HB4 := Lib.hid (HB3.out.trans (hb4.mono (by omega)))
  clear hb4 HA3 HX3 HB3 c0 c1 Hlv
  have c0 : w4.cell? ⟨w.heap.size, 0, none⟩ = some (.int .i64 sl) := HX4.out.cell 0 _ rfl
  have c1 : w4.cell? ⟨w.heap.size, 1, none⟩ = some (.int .i64 bi) := HX4.out.cell 1 _ rfl
  obtain ⟨n, hn⟩ : ∃ n, n = upN p := ⟨_, rfl⟩
  rw [← hn]
  have hpl : p.1.length ≤ 7 := by rw [Hp.out]; exact upM_len F 7 sl bi
  have hpp : p.2 = true → 0 < p.1.length := fun h => (upM_pos F 7 sl bi p.1 (by rw [← Hp.out, ← h])).1
  obtain ⟨hn0, hn6, hn1⟩ := path_n p hpl hpp
  rw [← hn] at hn0 hn6 hn1
  have hpa := path_calls _ _ b sl bi w4 HA4.out
  rw [← Hp.out] at hpa
  have Hpa := Lib.hid hpa
  clear hpa hn
  obtain ⟨P, ok⟩ := p
  dsimp only at hpl hpp hn1
  cases ok with
  | false =>
    clear hn1 hpp
    go_wp2_with fail
    refine Hpa.out.mono ?_
    rintro e w5 ⟨pv, rfl, hown, hb5⟩
    have hpv : pv = .slice none 0 0 ∨ ∃ a c, pv = .slice a 0 c := by
      obtain ⟨a, c, e, _⟩ := own_slice hown
      exact .inr ⟨a, c, e⟩
    obtain ⟨a, c, rfl⟩ : ∃ a c, pv = .slice a 0 c := by
      rcases hpv with h | h
      · exact ⟨_, _, h⟩
      · exact h
    have hs5 := hb5.size
    have HB5 := Lib.hid (HB4.out.trans (hb5.mono (by omega)))
    have hn6' : ¬ (6 < n) := by omega
    have hn7 : ((0 : Int) == n + 1) = false := by simp; omega
    clear hown hb5 hpv HA4 HX4 HB4 c0 c1 Hpa
    go_wp2_with fail
    go_loopg [11] 1 (fun gk iv wr => gk = 1 ∧ iv = .int .i64 0 ∧ wr = w5)
    case atStart => exact ⟨rfl, rfl, rfl⟩
    case round =>
      obtain ⟨hgk, rfl, rfl⟩ := hrel
      clear hgk
      go_wp2_with fail
      go_quiet (fail)
      go_wp2_with fail
      go_ret
      exact ⟨rfl, HB5.out.trans (by first | exact Below.refl _ _ | exact ⟨rfl, rfl, rfl, Nat.le_refl _, fun _ _ => rfl⟩)⟩
  | true =>
    have hnP := hn1 rfl
    have hP0 := hpp rfl
    clear hn1 hpp
    go_wp2_with fail
    refine Hpa.out.mono ?_
    rintro e w5 ⟨pv, rfl, hown, hb5⟩
    have hown : w5.ownsRow w4.heap.size 3 1 pv P.length (P.map VI) := hown
    have hT := (show PathAt w F m b pv P sl bi w5 from ⟨HA4.out.below hb5, rd_of_own hown, HX4.out.below hb5, HB4.out.trans (hb5.mono (by omega))⟩)
    obtain ⟨a, c, rfl⟩ : ∃ a c, pv = .slice a P.length c := by obtain ⟨a, c, e, _⟩ := own_slice hown; exact ⟨a, c, e⟩
    have HT := Lib.hid hT
    have hn6' : ¬ (6 < n) := by omega
    have hn7 : ((P.length : Int) == n + 1) = true := by simp; omega
    have HnP := Lib.hid hnP
    have Hp' : Hid (upM F 7 sl bi = (P, true)) := Lib.hid Hp.out.symm
    clear hown hb5 hT HA4 HX4 HB4 c0 c1 Hpa hnP Hp
    go_wp2_with fail
    obtain ⟨pa, hpa⟩ : ∃ pa, pa = a := ⟨_, rfl⟩
    go_loopg [11] P.length (fun gk iv wr => ∃ i : Nat, gk + i = P.length ∧ iv = .int .i64 (i : Int) ∧ PathAt w F m b (.slice a P.length c) P sl bi wr)
    case atStart => exact ⟨0, rfl, rfl, HT.out⟩
    case round =>
      clear HT hpa
      obtain ⟨i, hgi, rfl, hT⟩ := hrel
      have hi0 : (0 : Int) ≤ (i : Int) := by omega
      have Hgi := Lib.hid hgi
      have HT := Lib.hid hT
      clear hT
      by_cases hi : i < P.length
      · obtain ⟨bl, off, cap, e1, hc⟩ := HT.out.path.at i (by simpa using hi)
        injection e1 with e2 _ e3
        subst e2; subst e3
        obtain ⟨q, hq, hq32, hk1, hk2, hub⟩ := path_place F sl bi P Hp'.out i hi
        rw [show (P.map VI).getD i undef = VI (P.getD i 0) by simp [List.getD, hi], hq] at hc
        unfold VI at hc
        have hi1 : (i : Int) < (P.length : Int) := by omega
        obtain ⟨s, hs⟩ : ∃ s, s = slotAt F (q : Int) := ⟨_, rfl⟩
        have hFs : F[q]? = some s := by
          rw [hs]; unfold slotAt
          rw [if_pos (by omega), Int.toNat_natCast, List.getD, List.getElem?_eq_getElem (by rw [HFl.out]; exact hq32)]; rfl
        rw [← hs] at hk1 hk2 hub
        have hlq := fun w2 (hT : PathAt w F m b (.slice (some ⟨bl, off, none⟩) P.length c) P sl bi w2) => lives_calls _ _ b q s.birth w2 hT.arena
        rw [hk1, hk2] at hlq
        have Hlq := Lib.hid hlq
        have Hub := Lib.hid hub
        have Hq := Lib.hid hq
        obtain ⟨sb, hsb⟩ : ∃ sb, sb = s.birth := ⟨_, rfl⟩
        obtain ⟨su, hsu⟩ : ∃ su, su = s.ub := ⟨_, rfl⟩
        rw [← hsb] at Hlq
        rw [← hsu] at Hub
        have Hsb := Lib.hid hsb
        have Hsu := Lib.hid hsu
        clear hgi hq hk1 hk2 hub hs hlq hsb hsu
        go_wp2_with fail
        refine (get_calls F m b q s wr HT.out.arena hFs).mono ?_
        rintro e w6 ⟨rfl, hb6⟩
        have hs6 := hb6.size
        have HT6 := Lib.hid (HT.out.keep hb6)
        have Hc := Lib.hid (fun w2 (hb : Below wr.heap.size wr w2) => below_heap hb hc)
        have hb6' := Lib.hid hb6
        clear hb6 hc hFs
        go_wp2_with (refine wpList_store_k (op := ⟨none, .store _ _ _, _, _, _, _⟩) rfl 37 (.tmp 12) (.tmp 75) rfl w6.heap.size 0 s.vals rfl _ rfl (Lib.hid rfl) (slot_new w6) (by kernel_rfl) s.vals_one ?_)
        intro w7 hw7
        obtain ⟨hr7, hb7⟩ := slot_made hw7
        have HT7 := Lib.hid (HT6.out.keep hb7)
        have hc7 := Hc.out w7 (hb6'.out.trans (hb7.mono hs6))
        have hc6 : w7.cell? ⟨w6.heap.size, 6, none⟩ = some (.int .i64 sb) := by rw [Hsb.out]; have := hr7 6 _ rfl; rwa [Nat.zero_add] at this
        have hc8 : w7.cell? ⟨w6.heap.size, 8, none⟩ = some (.int .i64 su) := by rw [Hsu.out]; have := hr7 8 _ rfl; rwa [Nat.zero_add] at this
        have Hc6 := Lib.hid (fun w2 (hb : Below w7.heap.size w7 w2) => (⟨below_heap hb hc6, below_heap hb hc7, below_heap hb hc8⟩ : _ ∧ _ ∧ _))
        clear hw7 hr7 hb7 HT6 hb6'
        go_wp2_with fail
        go_region_held3 (fun w' => w'.cell? ⟨bl, off + i, none⟩ = some (.int .i64 (q : Int)) ∧ w'.cell? ⟨w6.heap.size, 6, none⟩ = some (.int .i64 sb))
          (first | exact ⟨hc7, hc6⟩ | (exact ⟨below_heap hb8 hc7, below_heap hb8 hc6⟩))
          (first | (go_at_call 14; refine (Hlq.out w7.drew (HT7.out.keep (below_drew _))).mono ?_; rintro e w8 ⟨rfl, hb8⟩))
        have HT8 := Lib.hid ((HT7.out.keep (below_drew _)).keep hb8)
        obtain ⟨_, _, hc8'⟩ := Hc6.out w8 ((below_drew _).trans hb8)
        clear HT7 hb8 hc6 hc7 hc8 HT Hlq Hc
        by_cases hsu0 : su = 0
        · have hii : (i : Int) = (P.length : Int) - 1 := by have := Hub.out.1 hsu0; omega
          have hin : ((i : Int) == (P.length : Int) - 1) = true := by simpa using hii
          subst hsu0
          clear hii Hub Hsu
          go_wp2_with fail
          go_loopg [16] i (fun gj jv wr' => ∃ j : Nat, gj + j = i ∧ jv = .int .i64 (j : Int) ∧ PathAt w F m b (.slice (some ⟨bl, off, none⟩) P.length c) P sl bi wr')
          case atStart => exact ⟨0, rfl, rfl, HT8.out⟩
          case round =>
            clear HT8
            obtain ⟨j, hgj, rfl, hT9⟩ := hrel
            have hj0 : (0 : Int) ≤ (j : Int) := by omega
            have Hgj := Lib.hid hgj
            have HT9 := Lib.hid hT9
            clear hT9
            by_cases hj : j < i
            · have hd := path_distinct F sl bi P Hp'.out i j hi hj
              rw [Hq.out] at hd
              obtain ⟨x, hx⟩ : ∃ x, x = P.getD j 0 := ⟨_, rfl⟩
              rw [← hx] at hd
              have hd2 : (x == (q : Int)) = false := by simpa using hd
              have hcj : wr.cell? ⟨bl, off + j, none⟩ = some (.int .i64 x) := by
                obtain ⟨b', off', cap', e1, hc⟩ := HT9.out.path.at j (by simp; omega)
                injection e1 with e1; injection e1 with e1; injection e1 with e5 e6
                subst e5; subst e6
                rw [hc, hx]; simp [List.getD, show j < P.length by omega, VI]
              have hci : wr.cell? ⟨bl, off + i, none⟩ = some (.int .i64 (q : Int)) := by
                obtain ⟨b', off', cap', e1, hc⟩ := HT9.out.path.at i (by simpa using hi)
                injection e1 with e1; injection e1 with e1; injection e1 with e5 e6
                subst e5; subst e6
                rw [hc, ← Hq.out]; simp [List.getD, hi, VI]
              have hj1 : (j : Int) < (i : Int) := by omega
              have hj2 : (j : Int) < (P.length : Int) := by omega
              clear hgj hd hx
              go_wp2_with fail
              go_quiet (fail)
              have HT10 := Lib.hid (HT9.out.keep (w' := wr.drewN nq) ⟨rfl, rfl, rfl, Nat.le_refl _, fun _ _ => rfl⟩)
              clear HT9
              go_wp2_with fail
              go_roundg (i - (j + 1))
              case measure => have := Hgj.out; omega
              case rel => exact ⟨j + 1, by have := Hgj.out; omega, by go_num, HT10.out⟩
            · obtain rfl : j = i := by have := Hgj.out; omega
              clear hgj
              go_wp2_with fail
              go_roundg (P.length - (j + 1))
              case measure => have := Hgi.out; omega
              case rel => exact ⟨j + 1, by have := Hgi.out; omega, by go_num, HT9.out⟩
        · have hin : ((i : Int) == (P.length : Int) - 1) = false := by
            simp; intro h; exact hsu0 (Hub.out.2 (by omega))
          have hsu1 : (su == 0) = false := by simpa using hsu0
          clear Hub Hsu hsu0
          go_wp2_with fail
          go_loopg [16] i (fun gj jv wr' => ∃ j : Nat, gj + j = i ∧ jv = .int .i64 (j : Int) ∧ PathAt w F m b (.slice (some ⟨bl, off, none⟩) P.length c) P sl bi wr')
          case atStart => exact ⟨0, rfl, rfl, HT8.out⟩
          case round =>
            clear HT8
            obtain ⟨j, hgj, rfl, hT9⟩ := hrel
            have hj0 : (0 : Int) ≤ (j : Int) := by omega
            have Hgj := Lib.hid hgj
            have HT9 := Lib.hid hT9
            clear hT9
            by_cases hj : j < i
            · have hd := path_distinct F sl bi P Hp'.out i j hi hj
              rw [Hq.out] at hd
              obtain ⟨x, hx⟩ : ∃ x, x = P.getD j 0 := ⟨_, rfl⟩
              rw [← hx] at hd
              have hd2 : (x == (q : Int)) = false := by simpa using hd
              have hcj : wr.cell? ⟨bl, off + j, none⟩ = some (.int .i64 x) := by
                obtain ⟨b', off', cap', e1, hc⟩ := HT9.out.path.at j (by simp; omega)
                injection e1 with e1; injection e1 with e1; injection e1 with e5 e6
                subst e5; subst e6
                rw [hc, hx]; simp [List.getD, show j < P.length by omega, VI]
              have hci : wr.cell? ⟨bl, off + i, none⟩ = some (.int .i64 (q : Int)) := by
                obtain ⟨b', off', cap', e1, hc⟩ := HT9.out.path.at i (by simpa using hi)
                injection e1 with e1; injection e1 with e1; injection e1 with e5 e6
                subst e5; subst e6
                rw [hc, ← Hq.out]; simp [List.getD, hi, VI]
              have hj1 : (j : Int) < (i : Int) := by omega
              have hj2 : (j : Int) < (P.length : Int) := by omega
              clear hgj hd hx
              go_wp2_with fail
              go_quiet (fail)
              have HT10 := Lib.hid (HT9.out.keep (w' := wr.drewN nq) ⟨rfl, rfl, rfl, Nat.le_refl _, fun _ _ => rfl⟩)
              clear HT9
              go_wp2_with fail
              go_roundg (i - (j + 1))
              case measure => have := Hgj.out; omega
              case rel => exact ⟨j + 1, by have := Hgj.out; omega, by go_num, HT10.out⟩
            · obtain rfl : j = i := by have := Hgj.out; omega
              clear hgj
              go_wp2_with fail
              go_roundg (P.length - (j + 1))
              case measure => have := Hgi.out; omega
              case rel => exact ⟨j + 1, by have := Hgi.out; omega, by go_num, HT9.out⟩
      · obtain rfl : i = P.length := by omega
        have hP1 := (upM_pos F 7 sl bi P Hp'.out).2
        obtain ⟨bl, off, cap, e1, hc⟩ := HT.out.path.at 0 (by simpa using hP0)
        injection e1 with e2 _ e3
        subst e2; subst e3
        rw [show (P.map VI).getD 0 undef = VI (P.getD 0 0) by simp [List.getD, hP0], hP1, Nat.add_zero] at hc
        unfold VI at hc
        have c0 : wr.cell? ⟨w.heap.size, 0, none⟩ = some (.int .i64 sl) := HT.out.link.cell 0 _ rfl
        have hP2 : (0 : Int) < (P.length : Int) := by omega
        clear hgi hP1 Hp' HnP HFl
        go_wp2_with fail
        go_quiet (fail)
        go_wp2_with fail
        go_ret
        exact ⟨rfl, HT.out.below.trans ⟨rfl, rfl, rfl, Nat.le_refl _, fun _ _ => rfl⟩⟩
end Go.Proofs.Ytkabeejefkmdgaa
