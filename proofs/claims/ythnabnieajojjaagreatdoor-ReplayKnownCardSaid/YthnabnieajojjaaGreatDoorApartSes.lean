/-
  The walk of ApartSessions: rows of sessions that were handed out have memory of their own.
-/
import Derived.Test.YthnabnieajojjaaGreatDoorApartQ
import Derived.Test.YthnabnieajojjaaGreatDoorMarkT
import Derived.Test.YthnabnieajojjaaGreatDoorSesK
import Derived.Test.YthnabnieajojjaaGreatDoorRepX
import Derived.Test.YthnabnieajojjaaGreatDoorSesL
import Derived.Test.YthnabnieajojjaaGreatDoorLastL
import Derived.Outline
import Derived.BigQuiet
import Derived.Deep.LoopGhost
import Derived.Deep.RegionHeld3
namespace Go.Proofs.YthnabnieajojjaaGreatDoor
open Go.RowKit
set_option maxRecDepth 100000

def mkSes (k i : Nat) : List Value := (markS k i).cells.toList
theorem sameS_self (s : SesM) : sameS s s = true := by unfold sameS; simp
theorem range_of {w : World} {b o : Nat} {cs : List Value} {sz : Nat} (h : ∀ j, j < sz → w.cell? ⟨b, o + j, none⟩ = some (cs.getD j undef)) (hl : cs.length = sz := by rfl) : w.rangeAt b o cs := fun j v hv => by
  have hj : j < cs.length := (List.getElem?_eq_some_iff.1 hv).1
  rw [h j (by omega), List.getD, hv]; rfl
theorem below_range {w w' : World} {b o : Nat} {cs : List Value} (hb : Below w.heap.size w w') (h : w.rangeAt b o cs) : w'.rangeAt b o cs := fun j v hv => below_heap hb (h j v hv)
theorem appS1 {w : World} {ops : Array Oper} {rest : List Oper} {o : Oper} {a : Act} {Q : Exit → Act → World → Prop} (hgd : o.guard = none) (s x : Operand)
    (ho : o.op = .call { callee := .builtin .append, args := #[s, x], argTypes := #[23, 23] })
    (base : Nat) (v : Value) (n : Nat) (xs : List Value) (hs : a.eval s = v) (hown : w.ownsRow base 36 12 v n xs)
    (ad : Addr) (c : Nat) (y : SesM) (hx : a.eval x = .slice (some ad) 1 c) (hy : ∀ j u, y.cells.toList[j]? = some u → w.cell? (ad.add j) = some u)
    (hroom : n + 1 ≤ 1256584717458) (hbase : base ≤ w.heap.size)
    (h : ∀ v' w', w'.ownsRow base 36 12 v' (n + 1) (xs ++ y.cells.toList) → w.grownBy w' v.ownBlock → Moved w v v' → Grew w w' v v' n → wpList Tryz.prog ops Q rest (a.put o.dst v') w') : wpList Tryz.prog ops Q (o :: rest) a w := by
  obtain ⟨i0, hi, hz0, hz1, hz2⟩ := info_parts info_ses
  exact wpList_append_own3 hgd s x 23 ho base 36 i0 _ 12 112 Tryz.underlying23 hi hz0 hz1 hz2 rfl (by decide) v n xs hs hown ad c y.cells.toList hx rfl hy y.oneS (by unfold maxLen; omega) (by omega) hbase h
theorem exec_neqS {a : Act} {w : World} {op : Oper} (s : SesM) (x y : Operand) (ho : op.op = .binOp .neq 36 x y 36) (hx : a.eval x = .agg s.cells) (hy : a.eval y = .agg s.cells) :
    (execOp a.eval op).run Tryz.prog w = .ok (.value (.bool false)) w := by
  have h := run_neqS s s w
  rw [sameS_self] at h
  unfold execOp
  simp only [ho, hx, hy, Sem.run_bind, Sem.run_pure, Result.andThen_ok, run_eqGuard_agg (op := .neq) (t := 36) (x := x) (y := y) (xs := s.cells) (ys := s.cells) (hm := show Tryz.prog.eqGuardType Tryz.prog.depth 36 = false by kernel_rfl), h, Bool.not_true]
theorem info_sesR : (Tryz.prog.info? 23).map (fun i => (i.zero, i.size, i.bytes)) = some (some (.slice none 0 0), 1, 24) := by kernel_rfl
theorem appSS {w : World} {ops : Array Oper} {rest : List Oper} {o : Oper} {a : Act} {Q : Exit → Act → World → Prop} (hgd : o.guard = none) (s x : Operand)
    (ho : o.op = .call { callee := .builtin .append, args := #[s, x], argTypes := #[67, 67] })
    (base : Nat) (v : Value) (n : Nat) (xs : List Value) (hs : a.eval s = v) (hown : w.ownsRow base 23 1 v n xs)
    (ad : Addr) (m c : Nat) (ys : List Value) (hx : a.eval x = .slice (some ad) m c) (hl : ys.length = m) (hy : ∀ j u, ys[j]? = some u → w.cell? (ad.add j) = some u) (h1 : ∀ u ∈ ys, u.oneCell' = true)
    (hroom : n + m ≤ 4398046511104) (hbase : base ≤ w.heap.size)
    (h : ∀ v' w', w'.ownsRow base 23 1 v' (n + m) (xs ++ ys) → w.grownBy w' v.ownBlock → Moved w v v' → wpList Tryz.prog ops Q rest (a.put o.dst v') w') : wpList Tryz.prog ops Q (o :: rest) a w := by
  obtain ⟨i0, hi, hz0, hz1, hz2⟩ := info_parts info_sesR
  exact wpList_append_own2 hgd s x 67 ho base 23 i0 (.slice none 0 0) 1 24 Tryz.underlying67 hi hz0 hz1 hz2 rfl (by decide) v n xs hs hown ad m c ys hx (by omega) hy h1 (by unfold maxLen; omega) (by omega) hbase h
set_option maxHeartbeats 12800000 in
theorem apartSes_calls (R : RowsS) (lsv : Value) (w : World) (he : R.e = 36) (hsz : R.sz = 12) (hmkS : R.mark = mkSes) (h : Turn1S R lsv w 0 0 w) (hN : R.N ≤ 1000000) (hns : ∀ j, j < R.N → R.ns j ≤ 1000000000000) (hl : ∀ b, lsv.ownBlock = some b → b < w.heap.size) (hB : R.B ≤ w.heap.size) :
    Calls Tryz.prog 31 #[lsv] w fun e w' => e = .returned (.bool true) ∧ Mod R.blk w w' := by
  obtain ⟨la, lc, e1⟩ : ∃ a c, lsv = .slice a R.N c := by obtain ⟨a, c, e, _⟩ := h.ls; exact ⟨a, c, e⟩
  have Hl := Lib.hid hl
  have H := Lib.hid h
  have HB := Lib.hid hB
  have He := Lib.hid he
  have Hsz := Lib.hid hsz
  have HmkS := Lib.hid hmkS
  have Hns := Lib.hid hns
  clear hl h hB he hns hsz hmkS
  subst e1
  go_enter Tryz.func31, Tryz.ntmps31
  go_wp2_with fail
  go_loopg [3] R.N (fun gk kv wr => ∃ k : Nat, gk + k = R.N ∧ kv = .int .i64 (k : Int) ∧ Turn1S R (.slice la R.N lc) w k 0 wr)
  case atStart => exact ⟨0, rfl, rfl, H.out⟩
  case round =>
    clear H
    obtain ⟨k, hgk, rfl, hT⟩ := hrel
    by_cases hk : k < R.N
    · have hns := Hns.out k hk
      obtain ⟨b, off, cap, e1, hc⟩ := hT.lsAt hk
      obtain ⟨a, c, e2⟩ := hT.slice hk
      rw [e2] at hc
      injection e1 with e3 _ e4
      subst e3
      subst e4
      have hk0 : (0 : Int) ≤ (k : Int) := by omega
      have hk1 : (k : Int) < (R.N : Int) := by omega
      have HT := Lib.hid hT
      have Hgk := Lib.hid hgk
      have E2 := Lib.hid e2
      clear hT hgk e2 Hns
      go_wp2_with fail
      obtain ⟨n, hn⟩ : ∃ n, n = R.ns k := ⟨_, rfl⟩
      rw [← hn] at hc hns
      have Hn := Lib.hid hn
      clear hn
      obtain ⟨wo, rfl⟩ : ∃ wo : World, wo = wr := ⟨_, rfl⟩
      go_loopg [4] n (fun gi iv wr => ∃ i : Nat, gi + i = n ∧ iv = .int .i64 (i : Int) ∧ Turn1S R (.slice (some ⟨b, off, none⟩) R.N lc) w k i wr)
      case atStart => exact ⟨0, rfl, rfl, HT.out⟩
      case round =>
        clear HT hc
        obtain ⟨i, hgi, rfl, hT⟩ := hrel
        have hc : wr.cell? ⟨b, off + k, none⟩ = some (.slice a n c) := by
          obtain ⟨b', off', cap', e1, hc⟩ := hT.lsAt hk
          injection e1 with e1; injection e1 with e1; injection e1 with e5 e6
          subst e5; subst e6
          rw [hc, E2.out, Hn.out]
        have Hgi := Lib.hid hgi
        by_cases hi : i < n
        · obtain ⟨g, cap', e5, _, hT'⟩ := hT.row hk (by rw [← Hn.out]; exact hi)
          rw [E2.out, ← Hn.out] at e5
          injection e5 with e5 _ e6
          subst e5
          subst e6
          have hi0 : (0 : Int) ≤ (i : Int) := by omega
          have hi1 : (i : Int) < (n : Int) := by omega
          obtain ⟨ms, hms⟩ : ∃ ms, ms = markS k i := ⟨_, rfl⟩
          have hmk : R.mark k i = ms.cells.toList := by rw [HmkS.out, hms]; rfl
          have hrow : ∀ w5, Below wr.heap.size wr w5 → w5.there g (i * 12) 12 ∧ Turn1S R (.slice (some ⟨b, off, none⟩) R.N lc) w k (i + 1) (w5.setCells g (i * 12) ms.cells.toList) := fun w5 hb5 => by
            have hT5 := hT.below hb5
            obtain ⟨g', cap', e5, hth, hT6⟩ := hT5.row hk (by rw [← Hn.out]; exact hi)
            rw [E2.out, ← Hn.out] at e5
            injection e5 with e5 _ e6
            injection e5 with e5
            injection e5 with e5
            subst e5
            rw [hmk, Hsz.out] at hT6
            rw [Hsz.out] at hth
            exact ⟨hth, hT6⟩
          have hmc := fun w4 => markS_calls (k : Int) (i : Int) w4 (by omega) (by omega)
          rw [← hms] at hmc
          have Hmc := Lib.hid hmc
          have HRow := Lib.hid hrow
          have HC := Lib.hid hc
          clear hT hgi hT' hmc hms hrow hmk
          go_wp2_with fail
          clear hc
          refine wp_region_last 9 (F := fun W => Below wr.heap.size wr W) (by kernel_rfl) (below_drew wr) (fun hHeld => ?_)
          refine wpAnyL_take (i := 0) (oi := ⟨some 27, _, _, _, _, _⟩) (v := ?_) rfl (by kernel_rfl) (by kernel_rfl) (by kernel_rfl) (by kernel_rfl) (fun _ _ _ h => h) (Or.inl ⟨by kernel_rfl, ?_⟩) (by assumption) ?_
          rotate_left 1
          · intro w' hw'; clear hw'; go_simp; try with_reducible rfl
          try simp only [Act.put, List.setIfInBounds_toArray, List.set_cons_zero, List.set_cons_succ]
          refine wpAnyL_take (i := 1) (oi := ⟨some 28, _, _, _, _, _⟩) (v := ?_) rfl (by kernel_rfl) (by kernel_rfl) (by kernel_rfl) (by kernel_rfl) (fun _ _ _ h => h) (Or.inl ⟨by kernel_rfl, ?_⟩) (by assumption) ?_
          rotate_left 1
          · intro w' hw'; clear hw'; go_simp; try with_reducible rfl
          try simp only [Act.put, List.setIfInBounds_toArray, List.set_cons_zero, List.set_cons_succ]
          refine wpAnyL_take (i := 2) (oi := ⟨some 29, _, _, _, _, _⟩) (v := ?_) rfl (by kernel_rfl) (by kernel_rfl) (by kernel_rfl) (by kernel_rfl) (fun _ _ _ h => h) (Or.inl ⟨by kernel_rfl, ?_⟩) (by assumption) ?_
          rotate_left 1
          · intro w' hw'; clear hw'; go_simp; try with_reducible rfl
          try simp only [Act.put, List.setIfInBounds_toArray, List.set_cons_zero, List.set_cons_succ]
          refine wpAnyL_take (i := 3) (oi := ⟨some 30, _, _, _, _, _⟩) (v := ?_) rfl (by kernel_rfl) (by kernel_rfl) (by kernel_rfl) (by kernel_rfl) (fun _ _ _ h => h) (Or.inl ⟨by kernel_rfl, ?_⟩) (by assumption) ?_
          rotate_left 1
          · intro w' hw'; have u1 := below_heap hw' HC.out; clear hw'; go_simp; try with_reducible rfl
          try simp only [Act.put, List.setIfInBounds_toArray, List.set_cons_zero, List.set_cons_succ]
          refine wpAnyL_take (i := 4) (oi := ⟨some 31, _, _, _, _, _⟩) (v := ?_) rfl (by kernel_rfl) (by kernel_rfl) (by kernel_rfl) (by kernel_rfl) (fun _ _ _ h => h) (Or.inl ⟨by kernel_rfl, ?_⟩) (by assumption) ?_
          rotate_left 1
          · intro w' hw'; clear hw'; go_simp; try with_reducible rfl
          try simp only [Act.put, List.setIfInBounds_toArray, List.set_cons_zero, List.set_cons_succ]
          refine wpAnyL_take (i := 5) (oi := ⟨some 32, _, _, _, _, _⟩) (v := ?_) rfl (by kernel_rfl) (by kernel_rfl) (by kernel_rfl) (by kernel_rfl) (fun _ _ _ h => h) (Or.inl ⟨by kernel_rfl, ?_⟩) (by assumption) ?_
          rotate_left 1
          · intro w' hw'; clear hw'; go_simp; try with_reducible rfl
          try simp only [Act.put, List.setIfInBounds_toArray, List.set_cons_zero, List.set_cons_succ]
          refine wpAnyL_take (i := 6) (oi := ⟨some 33, _, _, _, _, _⟩) (v := ?_) rfl (by kernel_rfl) (by kernel_rfl) (by kernel_rfl) (by kernel_rfl) (fun _ _ _ h => h) (Or.inl ⟨by kernel_rfl, ?_⟩) (by assumption) ?_
          rotate_left 1
          · intro w' hw'; clear hw'; go_simp; try with_reducible rfl
          try simp only [Act.put, List.setIfInBounds_toArray, List.set_cons_zero, List.set_cons_succ]
          refine wpAnyL_ready (rs := [7]) (by kernel_rfl) (by simp) (AllReadyL.cons (o := ⟨some 34, .call _, _, _, _, _⟩) rfl (fun K hK => ?_) AllReadyL.nil)
          go_simp
          refine (Hmc.out _).mono ?_
          rintro e w5 ⟨rfl, hb5⟩
          have hb5' := below_trans hHeld hb5
          refine hK.out _ _ hb5' (fun hHeld4 => ?_)
          obtain ⟨hth, hTn⟩ := HRow.out w5 hHeld4
          have HTH := Lib.hid hth
          have HT5 := Lib.hid hTn
          clear hK K hb5 hb5' hHeld hth hTn Hmc HRow
          try simp only [Act.put, List.setIfInBounds_toArray, List.set_cons_zero, List.set_cons_succ]
          refine wpAnyL_take (i := 8) (oi := ⟨some 35, _, _, _, _, _⟩) (v := ?_) rfl (by kernel_rfl) (by kernel_rfl) (by kernel_rfl) (by kernel_rfl) (fun _ _ _ h => h) (Or.inl ⟨by kernel_rfl, ?_⟩) (by assumption) ?_
          rotate_left 1
          · intro w' hw'; clear hw'; go_simp; try with_reducible rfl
          try simp only [Act.put, List.setIfInBounds_toArray, List.set_cons_zero, List.set_cons_succ]
          refine wpAnyL_ready (rs := [9]) (by kernel_rfl) (by simp) (AllReadyL.last rfl (o := ⟨none, .store _ _ _, _, _, _, _⟩) rfl (fun K hK => ?_))
          rw [if_pos (by kernel_rfl)]
          refine wp_store_mid 36 (.tmp 35) (.tmp 34) rfl g (i * 12) ms.cells rfl rfl HTH.out (by kernel_rfl) (by have := all_oneCell_toArray (SesM.oneS ms); simpa using this) ?_
          refine hK.out _ _ ?_
          clear hK K HTH hHeld4
          try simp only [Act.put]
          refine wpAnyL_done (by kernel_rfl) ?_ _
          generalize World.setCells w5 _ _ _ = w6 at HT5 ⊢
          go_wp2_with fail
          go_roundg (n - (i + 1))
          case measure => have := Hgi.out; omega
          case rel => exact ⟨i + 1, by have := Hgi.out; omega, by go_num, HT5.out⟩
        · obtain rfl : i = n := by omega
          rw [Hn.out] at hT
          have HT := Lib.hid (hT.next hk)
          clear hT hgi
          go_wp2_with fail
          go_roundg (R.N - (k + 1))
          case measure => have := Hgk.out; omega
          case rel => exact ⟨k + 1, by have := Hgk.out; omega, by go_num, HT.out⟩
    · obtain rfl : k = R.N := by omega
      have hs0 := hT.mod.size
      have hT2 := hT.two (E := 23) (fun b hb => Nat.lt_of_lt_of_le (Hl.out b hb) hs0) (Nat.le_trans HB.out hs0)
      have HT := Lib.hid hT2
      clear hT hgk hT2 Hl HB hs0
      go_wp2_with fail
      obtain ⟨wo, rfl⟩ : ∃ wo : World, wo = wr := ⟨_, rfl⟩
      go_loopg [5, 6] R.N (fun gk gsv kv wr => ∃ (k : Nat) (gl : List Value), gk + k = R.N ∧ kv = .int .i64 (k : Int) ∧ Turn2S R (.slice la R.N lc) w 23 k gsv gl (R.vs k) 0 wr)
      case atStart => exact ⟨0, [], rfl, rfl, HT.out⟩
      case round =>
        clear HT
        obtain ⟨k, gl, hgk, rfl, hT⟩ := hrel
        by_cases hk : k < R.N
        · have hns := Hns.out k hk
          obtain ⟨⟨b, off, cap, e1, hc⟩, _, a, c, e2⟩ := hT.at hk
          rw [e2] at hc hT
          injection e1 with e3 _ e4
          subst e3
          subst e4
          have hk0 : (0 : Int) ≤ (k : Int) := by omega
          have hk1 : (k : Int) < (R.N : Int) := by omega
          obtain ⟨n, hn⟩ : ∃ n, n = R.ns k := ⟨_, rfl⟩
          rw [← hn] at hc hns e2 hT
          have HT := Lib.hid hT
          have Hgk := Lib.hid hgk
          have Hn := Lib.hid hn
          have E2 := Lib.hid e2
          clear hT hgk e2 hn
          go_wp2_with fail
          obtain ⟨wo, rfl⟩ : ∃ wo : World, wo = wr := ⟨_, rfl⟩
          go_loopg [7, 8] 64 (fun gi gv iv wr => ∃ i : Nat, gi + i = 64 ∧ iv = .int .i64 (i : Int) ∧ Turn2S R (.slice (some ⟨b, off, none⟩) R.N lc) w 23 k u5 gl gv i wr)
          case atStart => exact ⟨0, rfl, rfl, HT.out⟩
          case round =>
            clear HT hc
            obtain ⟨i, hgi, rfl, hT⟩ := hrel
            have hown := (hT.at hk).2.1
            have hc : wr.cell? ⟨b, off + k, none⟩ = some (.slice a n c) := by
              obtain ⟨⟨b', off', cap', e1, hc⟩, _⟩ := hT.at hk
              injection e1 with e1; injection e1 with e1; injection e1 with e5 e6
              subst e5; subst e6
              rw [hc, E2.out]
            have Hgi := Lib.hid hgi
            by_cases hi : i < 64
            · obtain ⟨ms, hms⟩ : ∃ ms, ms = markS k (n + i : Nat) := ⟨_, rfl⟩
              have hmk : R.mark k (n + i) = ms.cells.toList := by rw [HmkS.out, hms]; rfl
              have hmc := fun w => markS_calls (k : Int) ((n + i : Nat) : Int) w (by omega) (by omega)
              rw [← hms, Int.natCast_add] at hmc
              have hB2 := hT.le
              have hi1 : (i : Int) < 64 := by omega
              have HT0 := Lib.hid hT
              have HOw := Lib.hid hown
              have Hmc := Lib.hid hmc
              have Hmv := Lib.hid hmk
              clear hT hgi hmc hms hown hmk
              go_wp2_with fail
              refine (Hmc.out _).mono ?_
              rintro e w5 ⟨rfl, hb5⟩
              have hba := below_trans hb5 (below_alloc w5 (.cells ms.cells 36))
              have hownA := own_below HOw.out hba
              rw [He.out, Hsz.out, ← Hn.out] at hownA
              have HownA := Lib.hid hownA
              have Hb2 := Lib.hid (HT0.out.below hba)
              have Hs5 := Lib.hid (Nat.le_trans hB2 hba.size)
              clear hb5 hba hownA
              have HCQ := Lib.hid (newCells w5 ms 36)
              have HLQ := Lib.hid (show n + 1 + i ≤ 1256584717458 by omega)
              go_wp2_with (first | refine wpList_buildSlice_s (op := ⟨some 60, _, _, _, _, _⟩) (by rfl) 23 1 #[(0, .tmp 59)] rfl #[(0, .agg ms.cells)] (by kernel_rfl) _ _ (buildS ms w5) ?_)
              intro w6 hw6
              have ew6 := hw6.out
              subst ew6
              clear hw6
              go_wp2_with (at_builtin; refine appS1 rfl _ _ rfl R.B _ _ _ rfl HownA.out ⟨w5.heap.size, 0, none⟩ 1 ms rfl HCQ.out (by have := HLQ.out; omega) Hs5.out ?_)
              intro v' w1 hown' hg' hm' hgr'
              rw [← He.out, ← Hsz.out, ← Hmv.out, Hn.out] at hown'
              rw [Hn.out] at hgr'
              have hT' := Hb2.out.step hk hown' hg' hm' hgr'
              have HT' := Lib.hid hT'
              clear hown' hg' hm' hgr' hT'
              go_wp2_with fail
              go_roundg (64 - (i + 1))
              case measure => have := Hgi.out; omega
              case rel => exact ⟨i + 1, by have := Hgi.out; omega, by go_num, HT'.out⟩
            · obtain rfl : i = 64 := by omega
              obtain ⟨ga, gc, e7, _⟩ := own_slice hown
              subst e7
              have hB2 := hT.le
              have hgs := hT.gs
              rw [show min k R.N = k by omega] at hgs
              obtain ⟨m, hm⟩ : ∃ m, m = R.ns k + 64 := ⟨_, rfl⟩
              rw [← hm] at hT
              have hownA := hgs.alloc (.cells #[.slice ga m gc] 23)
              have hb2 := hT.below (below_alloc wr (.cells #[.slice ga m gc] 23))
              have HownA := Lib.hid hownA
              have Hb2 := Lib.hid hb2
              rw [← hm]
              clear hT hgi hown hb2 hownA hgs hm
              go_wp2_with (at_builtin; refine appSS rfl _ _ rfl R.B _ _ _ rfl HownA.out ⟨wr.heap.size, 0, none⟩ 1 1 [.slice ga m gc] rfl rfl (cell_one_new _ _ _) (by simp [Value.oneCell']) (by omega) (by simp; omega) ?_)
              intro v' w1 hown' hg' hm'
              have hT' := Hb2.out.next hk hown' hg' hm'
              have HT' := Lib.hid hT'
              clear hown' hg' hm' hT'
              go_wp2_with fail
              go_roundg (R.N - (k + 1))
              case measure => have := Hgk.out; omega
              case rel => exact ⟨k + 1, _, by have := Hgk.out; omega, by go_num, HT'.out⟩
        · obtain rfl : k = R.N := by omega
          have hT3 := hT.three
          have hmod := hT.mod
          have Hmod := Lib.hid hmod
          have HT := Lib.hid hT3
          obtain ⟨ga, gc, rfl⟩ : ∃ a c, u5 = .slice a R.N c := by obtain ⟨a, c, e, _⟩ := hT3.gs; exact ⟨a, c, e⟩
          clear hT hT3 hgk hmod
          go_wp2_with fail
          obtain ⟨wo, rfl⟩ : ∃ wo : World, wo = wr := ⟨_, rfl⟩
          go_loopg [9] R.N (fun gk kv wr' => ∃ k : Nat, gk + k = R.N ∧ kv = .int .i64 (k : Int) ∧ Below wo.heap.size wo wr')
          case atStart => exact ⟨0, rfl, rfl, Below.refl _ _⟩
          case round =>
            obtain ⟨k, hgk, rfl, hb3⟩ := hrel
            by_cases hk : k < R.N
            · have hns := Hns.out k hk
              obtain ⟨⟨b, off, cap, e1, hc⟩, ⟨a, c, e2, hv⟩, g, ⟨b3, off3, cap3, e3, hd⟩, b4, off4, c4, rfl, hw⟩ := (HT.out.below hb3).at k hk
              rw [e2] at hc
              injection e1 with e4 _ e5
              injection e3 with e6 _ e7
              subst e4; subst e5; subst e6; subst e7
              obtain ⟨n, hn⟩ : ∃ n, n = R.ns k := ⟨_, rfl⟩
              rw [← hn] at hc hns hv hw hd
              have Hv := Lib.hid hv
              have Hw := Lib.hid hw
              have Hgk := Lib.hid hgk
              have hk0 : (0 : Int) ≤ (k : Int) := by omega
              have hk1 : (k : Int) < (R.N : Int) := by omega
              have HB3 := Lib.hid hb3
              clear hv hw hgk e2 hn HT hb3
              go_wp2_with fail
              obtain ⟨wq, hwq⟩ : ∃ wq : World, wq = wr := ⟨_, rfl⟩
              rw [← hwq] at hc hd Hv Hw HB3 ⊢
              clear hwq
              go_loopg [10] (n + 64) (fun gi iv wr' => ∃ i : Nat, gi + i = n + 64 ∧ iv = .int .i64 (i : Int) ∧ Below wq.heap.size wq wr')
              case atStart => exact ⟨0, rfl, rfl, Below.refl _ _⟩
              case round =>
                obtain ⟨i, hgi, rfl, hb4⟩ := hrel
                have Hgi := Lib.hid hgi
                clear hgi
                have hi0 : (0 : Int) ≤ (i : Int) := by omega
                by_cases hi : i < n + 64
                · have hwc := Hw.out i hi
                  obtain ⟨ms, hms⟩ : ∃ ms, ms = markS k i := ⟨_, rfl⟩
                  have hmk : R.mark k i = ms.cells.toList := by rw [HmkS.out, hms]; rfl
                  have hmc := fun w => markS_calls (k : Int) (i : Int) w (by omega) (by omega)
                  rw [← hms] at hmc
                  rw [hmk, Hsz.out] at hwc
                  have Hmc := Lib.hid hmc
                  have p3 : wr.rangeAt b4 (off4 + i * 12) ms.cells.toList := below_range hb4 (range_of hwc)
                  have p1 := below_heap hb4 hc
                  have p2 := below_heap hb4 hd
                  have HB4 := Lib.hid hb4
                  have hi3 : (i : Int) < (n : Int) + 64 := by omega
                  clear hmc hms hc hd hwc hb4
                  by_cases hin : i < n
                  · obtain ⟨b5, off5, rfl, hvc⟩ := Hv.out i hin
                    rw [hmk, Hsz.out] at hvc
                    have p4 : wr.rangeAt b5 (off5 + i * 12) ms.cells.toList := below_range HB4.out (range_of hvc)
                    have hi4 : (i : Int) < (n : Int) := by omega
                    clear hvc
                    have P := Lib.hid (And.intro p1 (And.intro p2 p3))
                    have P4 := Lib.hid p4
                    clear p4
                    clear Hv Hw hmk p3
                    go_wp2_with fail
                    clear p1 p2
                    refine (Hmc.out _).mono ?_
                    rintro e w5 ⟨rfl, hb5⟩
                    have HB5 := Lib.hid hb5
                    clear hb5
                    go_wp2_with ((with_reducible refine wpList_store_k ?qa0 36 (.tmp 11) (.tmp 83) ?qa1 (w5.heap.size) 0 ms.cells.toList ?qa2 ms.cells ?qa3 (SesM.listS _) ?qa4 ?qa5 ?qa6 ?qa7); (case qa1 => rfl); (case qa0 => rfl); (case qa2 => rfl); (case qa3 => rfl); (case qa4 => exact thereZ _ _); (case qa5 => kernel_rfl); (case qa6 => exact SesM.oneS _))
                    intro wz hwz
                    obtain ⟨hbz, hbw⟩ := putZ hwz
                    have hb6 := below_trans HB5.out hbw
                    have Q5 := Lib.hid (hbz.range 0 _ (fun j v hv => by rw [Nat.zero_add]; rw [← Array.getElem?_toList]; exact hv))
                    have Q1 := Lib.hid (below_heap hb6 P.out.1)
                    have Q2 := Lib.hid (below_heap hb6 P.out.2.1)
                    have Q3 := Lib.hid (below_range hb6 P.out.2.2)
                    have Q4 := Lib.hid (below_range hb6 P4.out)
                    clear P4
                    have HB6 := Lib.hid (below_trans HB4.out hb6)
                    clear hb6 P hbz hbw hwz HB5
                    go_wp2_with fail
                    refine wp_region_held_drew (S := fun W => Below wz.heap.size wz W) (by kernel_rfl) (below_drew wz) (fun hHeld => ?_)
                    refine wpAnyH_take (i := 0) (oi := ⟨some 84, _, _, _, _, _⟩) (v := ?_) rfl (by kernel_rfl) (by kernel_rfl) (by kernel_rfl) (fun _ _ _ h => h) (Or.inl ⟨by kernel_rfl, ?_⟩) (by assumption) ?_
                    rotate_left 1
                    · intro w' hw'; clear hw'; go_simp; try with_reducible rfl
                    try simp only [Act.put, List.setIfInBounds_toArray, List.set_cons_zero, List.set_cons_succ]
                    refine wpAnyH_take (i := 1) (oi := ⟨some 85, _, _, _, _, _⟩) (v := ?_) rfl (by kernel_rfl) (by kernel_rfl) (by kernel_rfl) (fun _ _ _ h => h) (Or.inl ⟨by kernel_rfl, ?_⟩) (by assumption) ?_
                    rotate_left 1
                    · intro w' hw'; clear hw'; go_simp; try with_reducible rfl
                    try simp only [Act.put, List.setIfInBounds_toArray, List.set_cons_zero, List.set_cons_succ]
                    refine wpAnyH_take (i := 2) (oi := ⟨some 86, _, _, _, _, _⟩) (v := ?_) rfl (by kernel_rfl) (by kernel_rfl) (by kernel_rfl) (fun _ _ _ h => h) (Or.inl ⟨by kernel_rfl, ?_⟩) (by assumption) ?_
                    rotate_left 1
                    · intro w' hw'; clear hw'; go_simp; try with_reducible rfl
                    try simp only [Act.put, List.setIfInBounds_toArray, List.set_cons_zero, List.set_cons_succ]
                    refine wpAnyH_take (i := 3) (oi := ⟨some 87, _, _, _, _, _⟩) (v := ?_) rfl (by kernel_rfl) (by kernel_rfl) (by kernel_rfl) (fun _ _ _ h => h) (Or.inl ⟨by kernel_rfl, ?_⟩) (by assumption) ?_
                    rotate_left 1
                    · intro w' hw'; have u1 := below_heap hw' Q2.out; clear hw'; go_simp; try with_reducible rfl
                    try simp only [Act.put, List.setIfInBounds_toArray, List.set_cons_zero, List.set_cons_succ]
                    refine wpAnyH_take (i := 4) (oi := ⟨some 88, _, _, _, _, _⟩) (v := ?_) rfl (by kernel_rfl) (by kernel_rfl) (by kernel_rfl) (fun _ _ _ h => h) (Or.inl ⟨by kernel_rfl, ?_⟩) (by assumption) ?_
                    rotate_left 1
                    · intro w' hw'; clear hw'; go_simp; try with_reducible rfl
                    try simp only [Act.put, List.setIfInBounds_toArray, List.set_cons_zero, List.set_cons_succ]
                    refine wpAnyH_take (i := 5) (oi := ⟨some 89, _, _, _, _, _⟩) (v := ?_) rfl (by kernel_rfl) (by kernel_rfl) (by kernel_rfl) (fun _ _ _ h => h) (Or.inl ⟨by kernel_rfl, ?_⟩) (by assumption) ?_
                    rotate_left 1
                    · intro w' hw'; clear hw'; go_simp; try with_reducible rfl
                    try simp only [Act.put, List.setIfInBounds_toArray, List.set_cons_zero, List.set_cons_succ]
                    refine wpAnyH_take (i := 6) (oi := ⟨some 90, .load _ _, _, _, _, _⟩) (v := .agg ms.cells) rfl (by kernel_rfl) (by kernel_rfl) (by kernel_rfl) (fun _ _ _ h => h) (Or.inl ⟨by kernel_rfl, fun w' hw' => exec_load_m 36 (.tmp 89) rfl (b4) (off4 + i * 12) rfl (ms.cells).toList _ (below_range hw' Q3.out) Tryz.underlying36 rfl (by kernel_rfl)⟩) (by assumption) ?_
                    try simp only [Act.put, List.setIfInBounds_toArray, List.set_cons_zero, List.set_cons_succ]
                    refine wpAnyH_take (i := 7) (oi := ⟨some 91, .load _ _, _, _, _, _⟩) (v := .agg ms.cells) rfl (by kernel_rfl) (by kernel_rfl) (by kernel_rfl) (fun _ _ _ h => h) (Or.inl ⟨by kernel_rfl, fun w' hw' => exec_load_m 36 (.tmp 11) rfl (w5.heap.size) (0) rfl (ms.cells).toList _ (below_range hw' Q5.out) Tryz.underlying36 rfl (by kernel_rfl)⟩) (by assumption) ?_
                    try simp only [Act.put, List.setIfInBounds_toArray, List.set_cons_zero, List.set_cons_succ]
                    refine wpAnyH_take (i := 8) (oi := ⟨some 92, .binOp _ _ _ _ _, _, _, _, _⟩) (v := .bool false) rfl (by kernel_rfl) (by kernel_rfl) (by kernel_rfl) (fun _ _ _ h => h) (Or.inl ⟨by kernel_rfl, fun w' hw' => exec_neqS ms (.tmp 90) (.tmp 91) rfl rfl rfl⟩) (by assumption) ?_
                    try simp only [Act.put, List.setIfInBounds_toArray, List.set_cons_zero, List.set_cons_succ]
                    refine wpAnyH_take (i := 9) (oi := ⟨some 93, _, _, _, _, _⟩) (v := ?_) rfl (by kernel_rfl) (by kernel_rfl) (by kernel_rfl) (fun _ _ _ h => h) (Or.inl ⟨by kernel_rfl, ?_⟩) (by assumption) ?_
                    rotate_left 1
                    · intro w' hw'; clear hw'; go_simp; try with_reducible rfl
                    try simp only [Act.put, List.setIfInBounds_toArray, List.set_cons_zero, List.set_cons_succ]
                    refine wpAnyH_take (i := 10) (oi := ⟨some 94, _, _, _, _, _⟩) (v := ?_) rfl (by kernel_rfl) (by kernel_rfl) (by kernel_rfl) (fun _ _ _ h => h) (Or.inl ⟨by kernel_rfl, ?_⟩) (by assumption) ?_
                    rotate_left 1
                    · intro w' hw'; clear hw'; go_simp; try with_reducible rfl
                    try simp only [Act.put, List.setIfInBounds_toArray, List.set_cons_zero, List.set_cons_succ]
                    refine wpAnyH_take (i := 11) (oi := ⟨some 95, _, _, _, _, _⟩) (v := ?_) rfl (by kernel_rfl) (by kernel_rfl) (by kernel_rfl) (fun _ _ _ h => h) (Or.inl ⟨by kernel_rfl, ?_⟩) (by assumption) ?_
                    rotate_left 1
                    · intro w' hw'; clear hw'; go_simp; try with_reducible rfl
                    try simp only [Act.put, List.setIfInBounds_toArray, List.set_cons_zero, List.set_cons_succ]
                    refine wpAnyH_take (i := 12) (oi := ⟨some 96, _, _, _, _, _⟩) (v := ?_) rfl (by kernel_rfl) (by kernel_rfl) (by kernel_rfl) (fun _ _ _ h => h) (Or.inl ⟨by kernel_rfl, ?_⟩) (by assumption) ?_
                    rotate_left 1
                    · intro w' hw'; clear hw'; go_simp; try with_reducible rfl
                    try simp only [Act.put, List.setIfInBounds_toArray, List.set_cons_zero, List.set_cons_succ]
                    refine wpAnyH_take (i := 13) (oi := ⟨some 97, _, _, _, _, _⟩) (v := ?_) rfl (by kernel_rfl) (by kernel_rfl) (by kernel_rfl) (fun _ _ _ h => h) (Or.inl ⟨by kernel_rfl, ?_⟩) (by assumption) ?_
                    rotate_left 1
                    · intro w' hw'; clear hw'; go_simp; try with_reducible rfl
                    try simp only [Act.put, List.setIfInBounds_toArray, List.set_cons_zero, List.set_cons_succ]
                    refine wpAnyH_take (i := 14) (oi := ⟨some 98, _, _, _, _, _⟩) (v := ?_) rfl (by kernel_rfl) (by kernel_rfl) (by kernel_rfl) (fun _ _ _ h => h) (Or.inl ⟨by kernel_rfl, ?_⟩) (by assumption) ?_
                    rotate_left 1
                    · intro w' hw'; have u1 := below_heap hw' Q1.out; clear hw'; go_simp; try with_reducible rfl
                    try simp only [Act.put, List.setIfInBounds_toArray, List.set_cons_zero, List.set_cons_succ]
                    refine wpAnyH_take (i := 15) (oi := ⟨some 99, _, _, _, _, _⟩) (v := ?_) rfl (by kernel_rfl) (by kernel_rfl) (by kernel_rfl) (fun _ _ _ h => h) (Or.inl ⟨by kernel_rfl, ?_⟩) (by assumption) ?_
                    rotate_left 1
                    · intro w' hw'; clear hw'; go_simp; try with_reducible rfl
                    try simp only [Act.put, List.setIfInBounds_toArray, List.set_cons_zero, List.set_cons_succ]
                    refine wpAnyH_take (i := 16) (oi := ⟨some 100, _, _, _, _, _⟩) (v := ?_) rfl (by kernel_rfl) (by kernel_rfl) (by kernel_rfl) (fun _ _ _ h => h) (Or.inl ⟨by kernel_rfl, ?_⟩) (by assumption) ?_
                    rotate_left 1
                    · intro w' hw'; clear hw'; go_simp; try with_reducible rfl
                    try simp only [Act.put, List.setIfInBounds_toArray, List.set_cons_zero, List.set_cons_succ]
                    refine wpAnyH_take (i := 17) (oi := ⟨some 101, _, _, _, _, _⟩) (v := ?_) rfl (by kernel_rfl) (by kernel_rfl) (by kernel_rfl) (fun _ _ _ h => h) (Or.inl ⟨by kernel_rfl, ?_⟩) (by assumption) ?_
                    rotate_left 1
                    · intro w' hw'; clear hw'; go_simp; try with_reducible rfl
                    try simp only [Act.put, List.setIfInBounds_toArray, List.set_cons_zero, List.set_cons_succ]
                    refine wpAnyH_take (i := 18) (oi := ⟨some 102, _, _, _, _, _⟩) (v := ?_) rfl (by kernel_rfl) (by kernel_rfl) (by kernel_rfl) (fun _ _ _ h => h) (Or.inl ⟨by kernel_rfl, ?_⟩) (by assumption) ?_
                    rotate_left 1
                    · intro w' hw'; clear hw'; go_simp; try with_reducible rfl
                    try simp only [Act.put, List.setIfInBounds_toArray, List.set_cons_zero, List.set_cons_succ]
                    refine wpAnyH_take (i := 19) (oi := ⟨some 103, _, _, _, _, _⟩) (v := ?_) rfl (by kernel_rfl) (by kernel_rfl) (by kernel_rfl) (fun _ _ _ h => h) (Or.inl ⟨by kernel_rfl, ?_⟩) (by assumption) ?_
                    rotate_left 1
                    · intro w' hw'; clear hw'; go_simp; try with_reducible rfl
                    try simp only [Act.put, List.setIfInBounds_toArray, List.set_cons_zero, List.set_cons_succ]
                    refine wpAnyH_take (i := 20) (oi := ⟨some 104, _, _, _, _, _⟩) (v := ?_) rfl (by kernel_rfl) (by kernel_rfl) (by kernel_rfl) (fun _ _ _ h => h) (Or.inl ⟨by kernel_rfl, ?_⟩) (by assumption) ?_
                    rotate_left 1
                    · intro w' hw'; clear hw'; go_simp; try with_reducible rfl
                    try simp only [Act.put, List.setIfInBounds_toArray, List.set_cons_zero, List.set_cons_succ]
                    refine wpAnyH_take (i := 21) (oi := ⟨some 105, _, _, _, _, _⟩) (v := ?_) rfl (by kernel_rfl) (by kernel_rfl) (by kernel_rfl) (fun _ _ _ h => h) (Or.inl ⟨by kernel_rfl, ?_⟩) (by assumption) ?_
                    rotate_left 1
                    · intro w' hw'; have u1 := below_heap hw' Q1.out; clear hw'; go_simp; try with_reducible rfl
                    try simp only [Act.put, List.setIfInBounds_toArray, List.set_cons_zero, List.set_cons_succ]
                    refine wpAnyH_take (i := 22) (oi := ⟨some 106, _, _, _, _, _⟩) (v := ?_) rfl (by kernel_rfl) (by kernel_rfl) (by kernel_rfl) (fun _ _ _ h => h) (Or.inl ⟨by kernel_rfl, ?_⟩) (by assumption) ?_
                    rotate_left 1
                    · intro w' hw'; clear hw'; go_simp; try with_reducible rfl
                    try simp only [Act.put, List.setIfInBounds_toArray, List.set_cons_zero, List.set_cons_succ]
                    refine wpAnyH_take (i := 23) (oi := ⟨some 107, _, _, _, _, _⟩) (v := ?_) rfl (by kernel_rfl) (by kernel_rfl) (by kernel_rfl) (fun _ _ _ h => h) (Or.inl ⟨by kernel_rfl, ?_⟩) (by assumption) ?_
                    rotate_left 1
                    · intro w' hw'; clear hw'; go_simp; try with_reducible rfl
                    try simp only [Act.put, List.setIfInBounds_toArray, List.set_cons_zero, List.set_cons_succ]
                    refine wpAnyH_take (i := 24) (oi := ⟨some 108, .load _ _, _, _, _, _⟩) (v := .agg ms.cells) rfl (by kernel_rfl) (by kernel_rfl) (by kernel_rfl) (fun _ _ _ h => h) (Or.inl ⟨by kernel_rfl, fun w' hw' => exec_load_m 36 (.tmp 107) rfl (b5) (off5 + i * 12) rfl (ms.cells).toList _ (below_range hw' Q4.out) Tryz.underlying36 rfl (by kernel_rfl)⟩) (by assumption) ?_
                    try simp only [Act.put, List.setIfInBounds_toArray, List.set_cons_zero, List.set_cons_succ]
                    refine wpAnyH_take (i := 25) (oi := ⟨some 109, .load _ _, _, _, _, _⟩) (v := .agg ms.cells) rfl (by kernel_rfl) (by kernel_rfl) (by kernel_rfl) (fun _ _ _ h => h) (Or.inl ⟨by kernel_rfl, fun w' hw' => exec_load_m 36 (.tmp 11) rfl (w5.heap.size) (0) rfl (ms.cells).toList _ (below_range hw' Q5.out) Tryz.underlying36 rfl (by kernel_rfl)⟩) (by assumption) ?_
                    try simp only [Act.put, List.setIfInBounds_toArray, List.set_cons_zero, List.set_cons_succ]
                    refine wpAnyH_take (i := 26) (oi := ⟨some 110, .binOp _ _ _ _ _, _, _, _, _⟩) (v := .bool false) rfl (by kernel_rfl) (by kernel_rfl) (by kernel_rfl) (fun _ _ _ h => h) (Or.inl ⟨by kernel_rfl, fun w' hw' => exec_neqS ms (.tmp 108) (.tmp 109) rfl rfl rfl⟩) (by assumption) ?_
                    try simp only [Act.put, List.setIfInBounds_toArray, List.set_cons_zero, List.set_cons_succ]
                    refine wpAnyH_take (i := 27) (oi := ⟨some 111, _, _, _, _, _⟩) (v := ?_) rfl (by kernel_rfl) (by kernel_rfl) (by kernel_rfl) (fun _ _ _ h => h) (Or.inl ⟨by kernel_rfl, ?_⟩) (by assumption) ?_
                    rotate_left 1
                    · intro w' hw'; clear hw'; go_simp; try with_reducible rfl
                    try simp only [Act.put, List.setIfInBounds_toArray, List.set_cons_zero, List.set_cons_succ]
                    refine wpAnyH_take (i := 28) (oi := ⟨some 112, _, _, _, _, _⟩) (v := ?_) rfl (by kernel_rfl) (by kernel_rfl) (by kernel_rfl) (fun _ _ _ h => h) (Or.inl ⟨by kernel_rfl, ?_⟩) (by assumption) ?_
                    rotate_left 1
                    · intro w' hw'; clear hw'; go_simp; try with_reducible rfl
                    try simp only [Act.put, List.setIfInBounds_toArray, List.set_cons_zero, List.set_cons_succ]
                    refine wpAnyH_done (by kernel_rfl) ?_ _
                    have HB8 := Lib.hid (below_trans HB6.out hHeld)
                    clear hHeld HB6 Q1 Q2 Q3 Q5 Q4
                    go_wp2_with fail
                    go_roundg (n + 64 - (i + 1))
                    case measure => have := Hgi.out; omega
                    case rel => exact ⟨i + 1, by have := Hgi.out; omega, by go_num, HB8.out⟩
                  · have hi4 : decide ((i : Int) < (n : Int)) = false := by simp; omega
                    have P := Lib.hid (And.intro p1 (And.intro p2 p3))
                    clear Hv Hw hmk p3
                    go_wp2_with fail
                    clear p1 p2
                    refine (Hmc.out _).mono ?_
                    rintro e w5 ⟨rfl, hb5⟩
                    have HB5 := Lib.hid hb5
                    clear hb5
                    go_wp2_with ((with_reducible refine wpList_store_k ?qb0 36 (.tmp 11) (.tmp 83) ?qb1 (w5.heap.size) 0 ms.cells.toList ?qb2 ms.cells ?qb3 (SesM.listS _) ?qb4 ?qb5 ?qb6 ?qb7); (case qb1 => rfl); (case qb0 => rfl); (case qb2 => rfl); (case qb3 => rfl); (case qb4 => exact thereZ _ _); (case qb5 => kernel_rfl); (case qb6 => exact SesM.oneS _))
                    intro wz hwz
                    obtain ⟨hbz, hbw⟩ := putZ hwz
                    have hb6 := below_trans HB5.out hbw
                    have Q5 := Lib.hid (hbz.range 0 _ (fun j v hv => by rw [Nat.zero_add]; rw [← Array.getElem?_toList]; exact hv))
                    have Q1 := Lib.hid (below_heap hb6 P.out.1)
                    have Q2 := Lib.hid (below_heap hb6 P.out.2.1)
                    have Q3 := Lib.hid (below_range hb6 P.out.2.2)
                    have HB6 := Lib.hid (below_trans HB4.out hb6)
                    clear hb6 P hbz hbw hwz HB5
                    go_wp2_with fail
                    refine wp_region_held_drew (S := fun W => Below wz.heap.size wz W) (by kernel_rfl) (below_drew wz) (fun hHeld => ?_)
                    refine wpAnyH_take (i := 0) (oi := ⟨some 84, _, _, _, _, _⟩) (v := ?_) rfl (by kernel_rfl) (by kernel_rfl) (by kernel_rfl) (fun _ _ _ h => h) (Or.inl ⟨by kernel_rfl, ?_⟩) (by assumption) ?_
                    rotate_left 1
                    · intro w' hw'; clear hw'; go_simp; try with_reducible rfl
                    try simp only [Act.put, List.setIfInBounds_toArray, List.set_cons_zero, List.set_cons_succ]
                    refine wpAnyH_take (i := 1) (oi := ⟨some 85, _, _, _, _, _⟩) (v := ?_) rfl (by kernel_rfl) (by kernel_rfl) (by kernel_rfl) (fun _ _ _ h => h) (Or.inl ⟨by kernel_rfl, ?_⟩) (by assumption) ?_
                    rotate_left 1
                    · intro w' hw'; clear hw'; go_simp; try with_reducible rfl
                    try simp only [Act.put, List.setIfInBounds_toArray, List.set_cons_zero, List.set_cons_succ]
                    refine wpAnyH_take (i := 2) (oi := ⟨some 86, _, _, _, _, _⟩) (v := ?_) rfl (by kernel_rfl) (by kernel_rfl) (by kernel_rfl) (fun _ _ _ h => h) (Or.inl ⟨by kernel_rfl, ?_⟩) (by assumption) ?_
                    rotate_left 1
                    · intro w' hw'; clear hw'; go_simp; try with_reducible rfl
                    try simp only [Act.put, List.setIfInBounds_toArray, List.set_cons_zero, List.set_cons_succ]
                    refine wpAnyH_take (i := 3) (oi := ⟨some 87, _, _, _, _, _⟩) (v := ?_) rfl (by kernel_rfl) (by kernel_rfl) (by kernel_rfl) (fun _ _ _ h => h) (Or.inl ⟨by kernel_rfl, ?_⟩) (by assumption) ?_
                    rotate_left 1
                    · intro w' hw'; have u1 := below_heap hw' Q2.out; clear hw'; go_simp; try with_reducible rfl
                    try simp only [Act.put, List.setIfInBounds_toArray, List.set_cons_zero, List.set_cons_succ]
                    refine wpAnyH_take (i := 4) (oi := ⟨some 88, _, _, _, _, _⟩) (v := ?_) rfl (by kernel_rfl) (by kernel_rfl) (by kernel_rfl) (fun _ _ _ h => h) (Or.inl ⟨by kernel_rfl, ?_⟩) (by assumption) ?_
                    rotate_left 1
                    · intro w' hw'; clear hw'; go_simp; try with_reducible rfl
                    try simp only [Act.put, List.setIfInBounds_toArray, List.set_cons_zero, List.set_cons_succ]
                    refine wpAnyH_take (i := 5) (oi := ⟨some 89, _, _, _, _, _⟩) (v := ?_) rfl (by kernel_rfl) (by kernel_rfl) (by kernel_rfl) (fun _ _ _ h => h) (Or.inl ⟨by kernel_rfl, ?_⟩) (by assumption) ?_
                    rotate_left 1
                    · intro w' hw'; clear hw'; go_simp; try with_reducible rfl
                    try simp only [Act.put, List.setIfInBounds_toArray, List.set_cons_zero, List.set_cons_succ]
                    refine wpAnyH_take (i := 6) (oi := ⟨some 90, .load _ _, _, _, _, _⟩) (v := .agg ms.cells) rfl (by kernel_rfl) (by kernel_rfl) (by kernel_rfl) (fun _ _ _ h => h) (Or.inl ⟨by kernel_rfl, fun w' hw' => exec_load_m 36 (.tmp 89) rfl (b4) (off4 + i * 12) rfl (ms.cells).toList _ (below_range hw' Q3.out) Tryz.underlying36 rfl (by kernel_rfl)⟩) (by assumption) ?_
                    try simp only [Act.put, List.setIfInBounds_toArray, List.set_cons_zero, List.set_cons_succ]
                    refine wpAnyH_take (i := 7) (oi := ⟨some 91, .load _ _, _, _, _, _⟩) (v := .agg ms.cells) rfl (by kernel_rfl) (by kernel_rfl) (by kernel_rfl) (fun _ _ _ h => h) (Or.inl ⟨by kernel_rfl, fun w' hw' => exec_load_m 36 (.tmp 11) rfl (w5.heap.size) (0) rfl (ms.cells).toList _ (below_range hw' Q5.out) Tryz.underlying36 rfl (by kernel_rfl)⟩) (by assumption) ?_
                    try simp only [Act.put, List.setIfInBounds_toArray, List.set_cons_zero, List.set_cons_succ]
                    refine wpAnyH_take (i := 8) (oi := ⟨some 92, .binOp _ _ _ _ _, _, _, _, _⟩) (v := .bool false) rfl (by kernel_rfl) (by kernel_rfl) (by kernel_rfl) (fun _ _ _ h => h) (Or.inl ⟨by kernel_rfl, fun w' hw' => exec_neqS ms (.tmp 90) (.tmp 91) rfl rfl rfl⟩) (by assumption) ?_
                    try simp only [Act.put, List.setIfInBounds_toArray, List.set_cons_zero, List.set_cons_succ]
                    refine wpAnyH_take (i := 9) (oi := ⟨some 93, _, _, _, _, _⟩) (v := ?_) rfl (by kernel_rfl) (by kernel_rfl) (by kernel_rfl) (fun _ _ _ h => h) (Or.inl ⟨by kernel_rfl, ?_⟩) (by assumption) ?_
                    rotate_left 1
                    · intro w' hw'; clear hw'; go_simp; try with_reducible rfl
                    try simp only [Act.put, List.setIfInBounds_toArray, List.set_cons_zero, List.set_cons_succ]
                    refine wpAnyH_take (i := 10) (oi := ⟨some 94, _, _, _, _, _⟩) (v := ?_) rfl (by kernel_rfl) (by kernel_rfl) (by kernel_rfl) (fun _ _ _ h => h) (Or.inl ⟨by kernel_rfl, ?_⟩) (by assumption) ?_
                    rotate_left 1
                    · intro w' hw'; clear hw'; go_simp; try with_reducible rfl
                    try simp only [Act.put, List.setIfInBounds_toArray, List.set_cons_zero, List.set_cons_succ]
                    refine wpAnyH_take (i := 11) (oi := ⟨some 95, _, _, _, _, _⟩) (v := ?_) rfl (by kernel_rfl) (by kernel_rfl) (by kernel_rfl) (fun _ _ _ h => h) (Or.inl ⟨by kernel_rfl, ?_⟩) (by assumption) ?_
                    rotate_left 1
                    · intro w' hw'; clear hw'; go_simp; try with_reducible rfl
                    try simp only [Act.put, List.setIfInBounds_toArray, List.set_cons_zero, List.set_cons_succ]
                    refine wpAnyH_take (i := 12) (oi := ⟨some 96, _, _, _, _, _⟩) (v := ?_) rfl (by kernel_rfl) (by kernel_rfl) (by kernel_rfl) (fun _ _ _ h => h) (Or.inl ⟨by kernel_rfl, ?_⟩) (by assumption) ?_
                    rotate_left 1
                    · intro w' hw'; clear hw'; go_simp; try with_reducible rfl
                    try simp only [Act.put, List.setIfInBounds_toArray, List.set_cons_zero, List.set_cons_succ]
                    refine wpAnyH_take (i := 13) (oi := ⟨some 97, _, _, _, _, _⟩) (v := ?_) rfl (by kernel_rfl) (by kernel_rfl) (by kernel_rfl) (fun _ _ _ h => h) (Or.inl ⟨by kernel_rfl, ?_⟩) (by assumption) ?_
                    rotate_left 1
                    · intro w' hw'; clear hw'; go_simp; try with_reducible rfl
                    try simp only [Act.put, List.setIfInBounds_toArray, List.set_cons_zero, List.set_cons_succ]
                    refine wpAnyH_take (i := 14) (oi := ⟨some 98, _, _, _, _, _⟩) (v := ?_) rfl (by kernel_rfl) (by kernel_rfl) (by kernel_rfl) (fun _ _ _ h => h) (Or.inl ⟨by kernel_rfl, ?_⟩) (by assumption) ?_
                    rotate_left 1
                    · intro w' hw'; have u1 := below_heap hw' Q1.out; clear hw'; go_simp; try with_reducible rfl
                    try simp only [Act.put, List.setIfInBounds_toArray, List.set_cons_zero, List.set_cons_succ]
                    refine wpAnyH_take (i := 15) (oi := ⟨some 99, _, _, _, _, _⟩) (v := ?_) rfl (by kernel_rfl) (by kernel_rfl) (by kernel_rfl) (fun _ _ _ h => h) (Or.inl ⟨by kernel_rfl, ?_⟩) (by assumption) ?_
                    rotate_left 1
                    · intro w' hw'; clear hw'; go_simp; try with_reducible rfl
                    try simp only [Act.put, List.setIfInBounds_toArray, List.set_cons_zero, List.set_cons_succ]
                    refine wpAnyH_take (i := 16) (oi := ⟨some 100, _, _, _, _, _⟩) (v := ?_) rfl (by kernel_rfl) (by kernel_rfl) (by kernel_rfl) (fun _ _ _ h => h) (Or.inl ⟨by kernel_rfl, ?_⟩) (by assumption) ?_
                    rotate_left 1
                    · intro w' hw'; clear hw'; go_simp; try with_reducible rfl
                    try simp only [Act.put, List.setIfInBounds_toArray, List.set_cons_zero, List.set_cons_succ]
                    refine wpAnyH_take (i := 17) (oi := ⟨some 101, _, _, _, _, _⟩) (v := ?_) rfl (by kernel_rfl) (by kernel_rfl) (by kernel_rfl) (fun _ _ _ h => h) (Or.inl ⟨by kernel_rfl, ?_⟩) (by assumption) ?_
                    rotate_left 1
                    · intro w' hw'; clear hw'; go_simp; try with_reducible rfl
                    try simp only [Act.put, List.setIfInBounds_toArray, List.set_cons_zero, List.set_cons_succ]
                    refine wpAnyH_take (i := 18) (oi := ⟨some 102, _, _, _, _, _⟩) rfl (by kernel_rfl) (by kernel_rfl) (by kernel_rfl) (fun _ _ _ h => h) (Or.inr ⟨by kernel_rfl, rfl⟩) (by assumption) ?_
                    try simp only [Act.put, List.setIfInBounds_toArray, List.set_cons_zero, List.set_cons_succ]
                    refine wpAnyH_take (i := 19) (oi := ⟨some 103, _, _, _, _, _⟩) rfl (by kernel_rfl) (by kernel_rfl) (by kernel_rfl) (fun _ _ _ h => h) (Or.inr ⟨by kernel_rfl, rfl⟩) (by assumption) ?_
                    try simp only [Act.put, List.setIfInBounds_toArray, List.set_cons_zero, List.set_cons_succ]
                    refine wpAnyH_take (i := 20) (oi := ⟨some 104, _, _, _, _, _⟩) rfl (by kernel_rfl) (by kernel_rfl) (by kernel_rfl) (fun _ _ _ h => h) (Or.inr ⟨by kernel_rfl, rfl⟩) (by assumption) ?_
                    try simp only [Act.put, List.setIfInBounds_toArray, List.set_cons_zero, List.set_cons_succ]
                    refine wpAnyH_take (i := 21) (oi := ⟨some 105, _, _, _, _, _⟩) rfl (by kernel_rfl) (by kernel_rfl) (by kernel_rfl) (fun _ _ _ h => h) (Or.inr ⟨by kernel_rfl, rfl⟩) (by assumption) ?_
                    try simp only [Act.put, List.setIfInBounds_toArray, List.set_cons_zero, List.set_cons_succ]
                    refine wpAnyH_take (i := 22) (oi := ⟨some 106, _, _, _, _, _⟩) rfl (by kernel_rfl) (by kernel_rfl) (by kernel_rfl) (fun _ _ _ h => h) (Or.inr ⟨by kernel_rfl, rfl⟩) (by assumption) ?_
                    try simp only [Act.put, List.setIfInBounds_toArray, List.set_cons_zero, List.set_cons_succ]
                    refine wpAnyH_take (i := 23) (oi := ⟨some 107, _, _, _, _, _⟩) rfl (by kernel_rfl) (by kernel_rfl) (by kernel_rfl) (fun _ _ _ h => h) (Or.inr ⟨by kernel_rfl, rfl⟩) (by assumption) ?_
                    try simp only [Act.put, List.setIfInBounds_toArray, List.set_cons_zero, List.set_cons_succ]
                    refine wpAnyH_take (i := 24) (oi := ⟨some 108, _, _, _, _, _⟩) rfl (by kernel_rfl) (by kernel_rfl) (by kernel_rfl) (fun _ _ _ h => h) (Or.inr ⟨by kernel_rfl, rfl⟩) (by assumption) ?_
                    try simp only [Act.put, List.setIfInBounds_toArray, List.set_cons_zero, List.set_cons_succ]
                    refine wpAnyH_take (i := 25) (oi := ⟨some 109, _, _, _, _, _⟩) rfl (by kernel_rfl) (by kernel_rfl) (by kernel_rfl) (fun _ _ _ h => h) (Or.inr ⟨by kernel_rfl, rfl⟩) (by assumption) ?_
                    try simp only [Act.put, List.setIfInBounds_toArray, List.set_cons_zero, List.set_cons_succ]
                    refine wpAnyH_take (i := 26) (oi := ⟨some 110, _, _, _, _, _⟩) rfl (by kernel_rfl) (by kernel_rfl) (by kernel_rfl) (fun _ _ _ h => h) (Or.inr ⟨by kernel_rfl, rfl⟩) (by assumption) ?_
                    try simp only [Act.put, List.setIfInBounds_toArray, List.set_cons_zero, List.set_cons_succ]
                    refine wpAnyH_take (i := 27) (oi := ⟨some 111, _, _, _, _, _⟩) (v := ?_) rfl (by kernel_rfl) (by kernel_rfl) (by kernel_rfl) (fun _ _ _ h => h) (Or.inl ⟨by kernel_rfl, ?_⟩) (by assumption) ?_
                    rotate_left 1
                    · intro w' hw'; clear hw'; go_simp; try with_reducible rfl
                    try simp only [Act.put, List.setIfInBounds_toArray, List.set_cons_zero, List.set_cons_succ]
                    refine wpAnyH_take (i := 28) (oi := ⟨some 112, _, _, _, _, _⟩) (v := ?_) rfl (by kernel_rfl) (by kernel_rfl) (by kernel_rfl) (fun _ _ _ h => h) (Or.inl ⟨by kernel_rfl, ?_⟩) (by assumption) ?_
                    rotate_left 1
                    · intro w' hw'; clear hw'; go_simp; try with_reducible rfl
                    try simp only [Act.put, List.setIfInBounds_toArray, List.set_cons_zero, List.set_cons_succ]
                    refine wpAnyH_done (by kernel_rfl) ?_ _
                    have HB8 := Lib.hid (below_trans HB6.out hHeld)
                    clear hHeld HB6 Q1 Q2 Q3 Q5
                    go_wp2_with fail
                    go_roundg (n + 64 - (i + 1))
                    case measure => have := Hgi.out; omega
                    case rel => exact ⟨i + 1, by have := Hgi.out; omega, by go_num, HB8.out⟩
                · obtain rfl : i = n + 64 := by have := Hgi.out; omega
                  have HB7 := Lib.hid (HB3.out.trans (hb4.mono HB3.out.size))
                  have p1 := below_heap hb4 hc
                  have p2 := below_heap hb4 hd
                  clear Hv Hw hb4 hc hd
                  go_wp2_with fail
                  go_roundg (R.N - (k + 1))
                  case measure => have := Hgk.out; omega
                  case rel => exact ⟨k + 1, by have := Hgk.out; omega, by go_num, HB7.out⟩
            · obtain rfl : k = R.N := by omega
              have HB7 := Lib.hid hb3
              clear HT hgk hb3
              go_wp2_with fail
              go_ret
              exact ⟨rfl, Hmod.out.then (Mod.of_below (F := fun _ => False) HB7.out) (fun _ h => h.elim)⟩
end Go.Proofs.YthnabnieajojjaaGreatDoor
