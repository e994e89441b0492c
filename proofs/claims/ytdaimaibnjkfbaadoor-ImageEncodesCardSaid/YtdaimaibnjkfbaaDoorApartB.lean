/-
  The walk of ApartBytes.
-/
import Derived.Test.YtdaimaibnjkfbaaDoorApartM
import Derived.Outline
import Derived.Deep.LoopGhost
import Derived.Deep.RegionHeld3
namespace Go.Proofs.YtdaimaibnjkfbaaDoor
open Go.RowKit

def mkB (k i : Nat) : Value := .int .u8 (markI k i)
theorem markB_calls (k i : Nat) (w : World) (h1 : k ≤ 1000000000) (h2 : i ≤ 1000000000000000000) :
    Calls Tryd.prog 42 #[.int .i64 (k : Int), .int .i64 (i : Int)] w fun e w' => e = .returned (mkB k i) ∧ w = w' := mark_calls k i w (by omega) (by omega) (by omega) (by omega)
theorem info_rowsB : (Tryd.prog.info? 34).map (fun i => (i.zero, i.size, i.bytes)) = some (some (.slice none 0 0), 1, 24) := by kernel_rfl
theorem appRows {w : World} {ops : Array Oper} {rest : List Oper} {o : Oper} {a : Act} {Q : Exit → Act → World → Prop} (hgd : o.guard = none) (s x : Operand)
    (ho : o.op = .call { callee := .builtin .append, args := #[s, x], argTypes := #[42, 42] })
    (base : Nat) (v : Value) (n : Nat) (xs : List Value) (hs : a.eval s = v) (hown : w.ownsRow base 34 1 v n xs)
    (ad : Addr) (m c : Nat) (ys : List Value) (hx : a.eval x = .slice (some ad) m c) (hl : ys.length = m) (hy : ∀ j u, ys[j]? = some u → w.cell? (ad.add j) = some u) (h1 : ∀ u ∈ ys, u.oneCell' = true)
    (hroom : n + m ≤ 4398046511104) (hbase : base ≤ w.heap.size)
    (h : ∀ v' w', w'.ownsRow base 34 1 v' (n + m) (xs ++ ys) → w.grownBy w' v.ownBlock → Moved w v v' → wpList Tryd.prog ops Q rest (a.put o.dst v') w') : wpList Tryd.prog ops Q (o :: rest) a w := by
  obtain ⟨i0, hi, hz0, hz1, hz2⟩ := info_parts info_rowsB
  exact wpList_append_own2 hgd s x 42 ho base 34 i0 (.slice none 0 0) 1 24 Tryd.underlying42 hi hz0 hz1 hz2 rfl (by decide) v n xs hs hown ad m c ys hx (by omega) hy h1 (by unfold maxLen; omega) (by omega) hbase h
theorem Turn1M.lsAt {R : Rows0M} {mk : Nat → Nat → Value} {lsv : Value} {w0 : World} {k i : Nat} {w : World} (h : Turn1M R mk lsv w0 k i w) (hk : k < R.N) :
    ∃ b off cap, lsv = .slice (some ⟨b, off, none⟩) R.N cap ∧ w.cell? ⟨b, off + k, none⟩ = some (R.vs k) := by
  obtain ⟨b, off, cap, h1, h2⟩ := h.ls.at k (by simpa using hk)
  exact ⟨b, off, cap, h1, by rw [h2]; simp [List.getD, hk]⟩
theorem Turn1M.slice {R : Rows0M} {mk : Nat → Nat → Value} {lsv : Value} {w0 : World} {k i : Nat} {w : World} (h : Turn1M R mk lsv w0 k i w) (hk : k < R.N) : ∃ a c, R.vs k = .slice a (R.ns k) c := by
  obtain ⟨⟨xs, h1, _⟩, _⟩ := h
  obtain ⟨a, c, e, _⟩ := (h1 k hk).slice
  exact ⟨a, c, e⟩
theorem Turn2M.at {R : Rows0M} {mk : Nat → Nat → Value} {lsv : Value} {w0 : World} {E : TypeId} {k i : Nat} {gsv g : Value} {gl : List Value} {w : World} (h : Turn2M R mk lsv w0 E k gsv gl g i w) (hk : k < R.N) :
    (∃ b off cap, lsv = .slice (some ⟨b, off, none⟩) R.N cap ∧ w.cell? ⟨b, off + k, none⟩ = some (R.vs k)) ∧ OwnM w R.B R.e g (R.ns k + i) (marksOf mk k (R.ns k + i)) ∧ ∃ a c, R.vs k = .slice a (R.ns k) c := by
  obtain ⟨b, off, cap, h1, h2⟩ := h.ls.at k (by simpa using hk)
  obtain ⟨a, c, h3, _⟩ := h.rd k hk
  obtain ⟨gv, _, _, h4, _⟩ := h.own
  exact ⟨⟨b, off, cap, h1, by rw [h2]; simp [List.getD, hk]⟩, (h4 hk).2.1, a, c, h3⟩
theorem Turn3M.at {R : Rows0M} {mk : Nat → Nat → Value} {lsv gsv : Value} {gl : List Value} {w : World} (h : Turn3M R mk lsv gsv gl w) (k : Nat) (hk : k < R.N) :
    (∃ b off cap, lsv = .slice (some ⟨b, off, none⟩) R.N cap ∧ w.cell? ⟨b, off + k, none⟩ = some (R.vs k)) ∧ (∃ a c, R.vs k = .slice a (R.ns k) c ∧ ∀ i, i < R.ns k → ∃ b off, a = some ⟨b, off, none⟩ ∧ w.cell? ⟨b, off + i, none⟩ = some (mk k i)) ∧
    ∃ g, (∃ b off cap, gsv = .slice (some ⟨b, off, none⟩) R.N cap ∧ w.cell? ⟨b, off + k, none⟩ = some g) ∧ (∃ b off c, g = .slice (some ⟨b, off, none⟩) (R.ns k + 64) c ∧ ∀ i, i < R.ns k + 64 → w.cell? ⟨b, off + i, none⟩ = some (mk k i)) := by
  obtain ⟨b, off, cap, h1, h2⟩ := h.ls.at k (by simpa using hk)
  obtain ⟨b', off', cap', h3, h4⟩ := h.gs.at k (by rw [h.len]; exact hk)
  obtain ⟨a, c, h5, _, _, _, h6⟩ := h.rd k hk
  obtain ⟨b2, off2, c2, h7, _⟩ := (h.gd k hk).at 0 (by rw [marksOf_length]; omega)
  refine ⟨⟨b, off, cap, h1, by rw [h2]; simp [List.getD, hk]⟩, ⟨a, c, h5, fun i hi => ?_⟩, _, ⟨b', off', cap', h3, h4⟩, b2, off2, c2, h7, fun i hi => ?_⟩
  · obtain ⟨b, off, e1, e2⟩ := h6 i (by rw [marksOf_length]; exact hi)
    exact ⟨b, off, e1, by rw [e2, marksOf_get _ _ _ _ hi]⟩
  · obtain ⟨b3, off3, c3, h8, h9⟩ := (h.gd k hk).at i (by rw [marksOf_length]; exact hi)
    rw [h7] at h8
    injection h8 with h8; injection h8 with h8; injection h8 with e1 e2
    subst e1; subst e2
    rw [h9, marksOf_get _ _ _ _ hi]
set_option maxRecDepth 100000 in
set_option maxHeartbeats 3200000 in
theorem apartB_calls (R : Rows0M) (lsv : Value) (w : World) (he : R.e = 5) (h : Turn1M R mkB lsv w 0 0 w) (hN : R.N ≤ 4000000) (hns : ∀ j, j < R.N → R.ns j ≤ 1000000000000) (hl : ∀ b, lsv.ownBlock = some b → b < w.heap.size) (hB : R.B ≤ w.heap.size) :
    Calls Tryd.prog 17 #[lsv] w fun e w' => e = .returned (.bool true) ∧ Mod (fun b => R.B ≤ b) w w' ∧ KeepsOthers w w' := by
  obtain ⟨la, lc, e1⟩ : ∃ a c, lsv = .slice a R.N c := by obtain ⟨a, c, e, _⟩ := h.ls; exact ⟨a, c, e⟩
  have Hl := Lib.hid hl
  have H := Lib.hid h
  have HB := Lib.hid hB
  have He := Lib.hid he
  have Hns := Lib.hid hns
  clear hl h hB he hns
  subst e1
  go_enter Tryd.func17, Tryd.ntmps17
  go_wp2_with fail
  go_loopg [3] R.N (fun gk kv wr => ∃ k : Nat, gk + k = R.N ∧ kv = .int .i64 (k : Int) ∧ Turn1M R mkB (.slice la R.N lc) w k 0 wr)
  case atStart => exact ⟨0, rfl, rfl, H.out⟩
  case round =>
    clear H
    obtain ⟨k, hgk, rfl, hT⟩ := hrel
    by_cases hk : k < R.N
    · have hns := Hns.out k hk
      obtain ⟨b, off, cap, e1, hc⟩ := hT.lsAt hk
      obtain ⟨a, c, e2⟩ := hT.slice hk
      rw [e2] at hc
      injection e1 with e3 _ e4
      subst e3
      subst e4
      have hk0 : (0 : Int) ≤ (k : Int) := by omega
      have hk1 : (k : Int) < (R.N : Int) := by omega
      have HT := Lib.hid hT
      have Hgk := Lib.hid hgk
      have E2 := Lib.hid e2
      clear hT hgk e2 Hns
      go_wp2_with fail
      obtain ⟨n, hn⟩ : ∃ n, n = R.ns k := ⟨_, rfl⟩
      rw [← hn] at hc hns
      have Hn := Lib.hid hn
      clear hn
      obtain ⟨wo, rfl⟩ : ∃ wo : World, wo = wr := ⟨_, rfl⟩
      go_loopg [4] n (fun gi iv wr => ∃ i : Nat, gi + i = n ∧ iv = .int .i64 (i : Int) ∧ Turn1M R mkB (.slice (some ⟨b, off, none⟩) R.N lc) w k i wr)
      case atStart => exact ⟨0, rfl, rfl, HT.out⟩
      case round =>
        clear HT hc
        obtain ⟨i, hgi, rfl, hT⟩ := hrel
        have hc : wr.cell? ⟨b, off + k, none⟩ = some (.slice a n c) := by
          obtain ⟨b', off', cap', e1, hc⟩ := hT.lsAt hk
          injection e1 with e1; injection e1 with e1; injection e1 with e5 e6
          subst e5; subst e6
          rw [hc, E2.out, Hn.out]
        have Hgi := Lib.hid hgi
        by_cases hi : i < n
        · obtain ⟨g, cap', e5, ⟨y, hy⟩, hf, hT'⟩ := hT.row hk (by rw [← Hn.out]; exact hi)
          rw [E2.out, ← Hn.out] at e5
          injection e5 with e5 _ e6
          subst e5
          subst e6
          have hi0 : (0 : Int) ≤ (i : Int) := by omega
          have hi1 : (i : Int) < (n : Int) := by omega
          have hmc := fun w => markB_calls k i w (by omega) (by omega)
          obtain ⟨mv, hmv⟩ : ∃ mv, mkB k i = .int .u8 mv := ⟨_, rfl⟩
          rw [hmv] at hT' hmc
          have HT' := Lib.hid hT'
          have Hmc := Lib.hid hmc
          have hk2 : ((wr.setCell ⟨g, i, none⟩ (.int .u8 mv)).drew).cell? ⟨b, off + k, none⟩ = some (.slice (some ⟨g, 0, none⟩) n c) := by
            obtain ⟨b', off', cap', e1, hc⟩ := hT'.lsAt hk
            injection e1 with e1; injection e1 with e1; injection e1 with e5 e6
            subst e5; subst e6
            show (wr.setCell ⟨g, i, none⟩ (.int .u8 mv)).cell? ⟨b, off + k, none⟩ = _
            rw [hc, E2.out, Hn.out]
          have hk3 : (wr.drew.setCell ⟨g, i, none⟩ (.int .u8 mv)).cell? ⟨b, off + k, none⟩ = some (.slice (some ⟨g, 0, none⟩) n c) := hk2
          have Hk2 := Lib.hid hk2
          have Hk3 := Lib.hid hk3
          clear hT hgi hT' hmc hmv hk2 hk3
          go_wp2_with fail
          go_region_held3 (fun w' => w'.cell? ⟨b, off + k, none⟩ = some (.slice (some ⟨g, 0, none⟩) n c))
            (first | assumption | exact hc | exact Hk2.out | exact Hk3.out)
            (first | (go_at_call 42; refine (Hmc.out _).mono ?_; rintro e w' ⟨rfl, rfl⟩))
          go_wp2_with fail
          go_roundg (n - (i + 1))
          case measure => have := Hgi.out; omega
          case rel => exact ⟨i + 1, by have := Hgi.out; omega, by go_num, HT'.out.drew⟩
        · obtain rfl : i = n := by omega
          rw [Hn.out] at hT
          have HT := Lib.hid (hT.next hk)
          clear hT hgi
          go_wp2_with fail
          go_roundg (R.N - (k + 1))
          case measure => have := Hgk.out; omega
          case rel => exact ⟨k + 1, by have := Hgk.out; omega, by go_num, HT.out⟩
    · obtain rfl : k = R.N := by omega
      have hs0 := hT.mod.1.size
      have hT2 := hT.two (E := 34) (fun b hb => Nat.lt_of_lt_of_le (Hl.out b hb) hs0) (Nat.le_trans HB.out hs0)
      have HT := Lib.hid hT2
      clear hT hgk hT2 Hl HB hs0
      go_wp2_with fail
      obtain ⟨wo, rfl⟩ : ∃ wo : World, wo = wr := ⟨_, rfl⟩
      go_loopg [5, 6] R.N (fun gk gsv kv wr => ∃ (k : Nat) (gl : List Value), gk + k = R.N ∧ kv = .int .i64 (k : Int) ∧ Turn2M R mkB (.slice la R.N lc) w 34 k gsv gl (R.vs k) 0 wr)
      case atStart => exact ⟨0, [], rfl, rfl, HT.out⟩
      case round =>
        clear HT
        obtain ⟨k, gl, hgk, rfl, hT⟩ := hrel
        by_cases hk : k < R.N
        · have hns := Hns.out k hk
          obtain ⟨⟨b, off, cap, e1, hc⟩, _, a, c, e2⟩ := hT.at hk
          rw [e2] at hc hT
          injection e1 with e3 _ e4
          subst e3
          subst e4
          have hk0 : (0 : Int) ≤ (k : Int) := by omega
          have hk1 : (k : Int) < (R.N : Int) := by omega
          obtain ⟨n, hn⟩ : ∃ n, n = R.ns k := ⟨_, rfl⟩
          rw [← hn] at hc hns e2 hT
          have HT := Lib.hid hT
          have Hgk := Lib.hid hgk
          have Hn := Lib.hid hn
          have E2 := Lib.hid e2
          clear hT hgk e2 hn
          go_wp2_with fail
          obtain ⟨wo, rfl⟩ : ∃ wo : World, wo = wr := ⟨_, rfl⟩
          go_loopg [7, 8] 64 (fun gi gv iv wr => ∃ i : Nat, gi + i = 64 ∧ iv = .int .i64 (i : Int) ∧ Turn2M R mkB (.slice (some ⟨b, off, none⟩) R.N lc) w 34 k u5 gl gv i wr)
          case atStart => exact ⟨0, rfl, rfl, HT.out⟩
          case round =>
            clear HT hc
            obtain ⟨i, hgi, rfl, hT⟩ := hrel
            have hown := (hT.at hk).2.1
            have hc : wr.cell? ⟨b, off + k, none⟩ = some (.slice a n c) := by
              obtain ⟨⟨b', off', cap', e1, hc⟩, _⟩ := hT.at hk
              injection e1 with e1; injection e1 with e1; injection e1 with e5 e6
              subst e5; subst e6
              rw [hc, E2.out]
            have Hgi := Lib.hid hgi
            by_cases hi : i < 64
            · obtain ⟨wq, hwq⟩ : ∃ wq : World, wq = wr := ⟨_, rfl⟩
              have hmc := fun w => markB_calls k (n + i) w (by omega) (by omega)
              obtain ⟨mv, hmv⟩ : ∃ mv, mkB k (n + i) = .int .u8 mv := ⟨_, rfl⟩
              rw [hmv, Int.natCast_add] at hmc
              have hB2 := hT.le
              have hownA := hown.below (below_alloc wr (.cells #[.int .u8 mv] 5))
              rw [He.out, ← Hn.out] at hownA
              have hb2 := hT.below (below_alloc wr (.cells #[.int .u8 mv] 5))
              have HownA := Lib.hid hownA
              have Hb2 := Lib.hid hb2
              have Hmc := Lib.hid hmc
              have Hmv := Lib.hid hmv
              have hi1 : (i : Int) < 64 := by omega
              clear hT hgi hmc hmv hown hwq hb2 hownA
              go_wp2_with fail
              refine (Hmc.out _).mono ?_
              rintro e w' ⟨rfl, rfl⟩
              go_wp2_with (at_builtin; refine appM1 rfl _ _ rfl R.B _ _ _ rfl HownA.out ⟨wr.heap.size, 0, none⟩ 1 (.int .u8 mv) rfl (by simp) rfl (by omega) (by simp; omega) ?_)
              intro v' w1 hown' hg' hm' hgr'
              rw [← He.out, ← Hmv.out, Hn.out] at hown'
              rw [Hn.out] at hgr'
              have hT' := Hb2.out.step hk hown' hg' hm' hgr'
              have HT' := Lib.hid hT'
              clear hown' hg' hm' hgr' hT'
              go_wp2_with fail
              go_roundg (64 - (i + 1))
              case measure => have := Hgi.out; omega
              case rel => exact ⟨i + 1, by have := Hgi.out; omega, by go_num, HT'.out⟩
            · obtain rfl : i = 64 := by omega
              obtain ⟨ga, gc, e7, _⟩ := hown.slice
              subst e7
              have hB2 := hT.le
              have hgs := hT.gs
              rw [show min k R.N = k by omega] at hgs
              obtain ⟨m, hm⟩ : ∃ m, m = R.ns k + 64 := ⟨_, rfl⟩
              rw [← hm] at hT
              have hownA := hgs.alloc (.cells #[.slice ga m gc] 34)
              have hb2 := hT.below (below_alloc wr (.cells #[.slice ga m gc] 34))
              have HownA := Lib.hid hownA
              have Hb2 := Lib.hid hb2
              rw [← hm]
              clear hT hgi hown hb2 hownA hgs hm
              go_wp2_with (at_builtin; refine appRows rfl _ _ rfl R.B _ _ _ rfl HownA.out ⟨wr.heap.size, 0, none⟩ 1 1 [.slice ga m gc] rfl rfl (cell_one_new _ _ _) (by simp [Value.oneCell']) (by omega) (by simp; omega) ?_)
              intro v' w1 hown' hg' hm'
              have hT' := Hb2.out.next hk hown' hg' hm'
              have HT' := Lib.hid hT'
              clear hown' hg' hm' hT'
              go_wp2_with fail
              go_roundg (R.N - (k + 1))
              case measure => have := Hgk.out; omega
              case rel => exact ⟨k + 1, _, by have := Hgk.out; omega, by go_num, HT'.out⟩
        · obtain rfl : k = R.N := by omega
          have hT3 := hT.three
          have hmod := hT.mod
          have Hmod := Lib.hid hmod
          have HT := Lib.hid hT3
          obtain ⟨ga, gc, rfl⟩ : ∃ a c, u5 = .slice a R.N c := by obtain ⟨a, c, e, _⟩ := hT3.gs; exact ⟨a, c, e⟩
          clear hT hT3 hgk hmod
          go_wp2_with fail
          obtain ⟨wo, rfl⟩ : ∃ wo : World, wo = wr := ⟨_, rfl⟩
          go_loopg [9] R.N (fun gk kv wr' => ∃ k : Nat, gk + k = R.N ∧ kv = .int .i64 (k : Int) ∧ wr' = wo)
          case atStart => exact ⟨0, rfl, rfl, rfl⟩
          case round =>
            obtain ⟨k, hgk, rfl, rfl⟩ := hrel
            by_cases hk : k < R.N
            · have hns := Hns.out k hk
              obtain ⟨⟨b, off, cap, e1, hc⟩, ⟨a, c, e2, hv⟩, g, ⟨b3, off3, cap3, e3, hd⟩, b4, off4, c4, rfl, hw⟩ := HT.out.at k hk
              rw [e2] at hc
              injection e1 with e4 _ e5
              injection e3 with e6 _ e7
              subst e4; subst e5; subst e6; subst e7
              obtain ⟨n, hn⟩ : ∃ n, n = R.ns k := ⟨_, rfl⟩
              rw [← hn] at hc hns hv hw hd
              have Hv := Lib.hid hv
              have Hw := Lib.hid hw
              have Hgk := Lib.hid hgk
              have hk0 : (0 : Int) ≤ (k : Int) := by omega
              have hk1 : (k : Int) < (R.N : Int) := by omega
              clear hv hw hgk e2 hn HT
              go_wp2_with fail
              obtain ⟨wq, hwq⟩ : ∃ wq : World, wq = wr := ⟨_, rfl⟩
              rw [← hwq] at hc hd Hv Hw Hmod ⊢
              have Hwq := Lib.hid hwq
              clear hwq
              go_loopg [10] (n + 64) (fun gi iv wr' => ∃ i : Nat, gi + i = n + 64 ∧ iv = .int .i64 (i : Int) ∧ wr' = wq)
              case atStart => exact ⟨0, rfl, rfl, rfl⟩
              case round =>
                obtain ⟨i, hgi, rfl, rfl⟩ := hrel
                have Hgi := Lib.hid hgi
                clear hgi
                have hi0 : (0 : Int) ≤ (i : Int) := by omega
                by_cases hi : i < n + 64
                · have hwc := Hw.out i hi
                  have hmc := fun w => markB_calls k i w (by omega) (by omega)
                  obtain ⟨mv, hmv⟩ : ∃ mv, mkB k i = .int .u8 mv := ⟨_, rfl⟩
                  rw [hmv] at hmc hwc
                  have Hmc := Lib.hid hmc
                  have Hmv := Lib.hid hmv
                  have hi3 : (i : Int) < (n : Int) + 64 := by omega
                  clear hmc hmv
                  by_cases hin : i < n
                  · obtain ⟨b5, off5, rfl, hvc⟩ := Hv.out i hin
                    rw [Hmv.out] at hvc
                    have hi4 : (i : Int) < (n : Int) := by omega
                    clear Hv Hw
                    go_wp2_with (go_at_call 42; refine (Hmc.out _).mono ?_; rintro e w' ⟨rfl, rfl⟩)
                    go_roundg (n + 64 - (i + 1))
                    case measure => have := Hgi.out; omega
                    case rel => exact ⟨i + 1, by have := Hgi.out; omega, by go_num, rfl⟩
                  · have hi4 : decide ((i : Int) < (n : Int)) = false := by simp; omega
                    clear Hv Hw
                    go_wp2_with (go_at_call 42; refine (Hmc.out _).mono ?_; rintro e w' ⟨rfl, rfl⟩)
                    go_roundg (n + 64 - (i + 1))
                    case measure => have := Hgi.out; omega
                    case rel => exact ⟨i + 1, by have := Hgi.out; omega, by go_num, rfl⟩
                · obtain rfl : i = n + 64 := by have := Hgi.out; omega
                  clear Hv Hw
                  go_wp2_with fail
                  go_roundg (R.N - (k + 1))
                  case measure => have := Hgk.out; omega
                  case rel => exact ⟨k + 1, by have := Hgk.out; omega, by go_num, Hwq.out⟩
            · obtain rfl : k = R.N := by omega
              clear HT hgk
              go_wp2_with fail
              go_ret
              exact ⟨rfl, Hmod.out⟩
end Go.Proofs.YtdaimaibnjkfbaaDoor
