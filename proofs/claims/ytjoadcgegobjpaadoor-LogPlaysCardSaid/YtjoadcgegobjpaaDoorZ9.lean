/-
  The walk of ApartBytes.
-/
import Derived.Test.YtjoadcgegobjpaaDoorZ8
import Derived.Outline
import Derived.Deep.LoopGhost
import Derived.Deep.RegionHeld3
import Derived.BigQuiet
namespace Go.Proofs.YtjoadcgegobjpaaDoor
open Go.RowKit

def mkB (k i : Nat) : Value := .int .u8 (markI k i)
theorem markB_calls (k i : Nat) (w : World) (h1 : k ≤ 1000000000) (h2 : i ≤ 1000000000000000000) :
    Calls Tryd.prog 54 #[.int .i64 (k : Int), .int .i64 (i : Int)] w fun e w' => e = .returned (mkB k i) ∧ w = w' := mark_calls k i w (by omega) (by omega) (by omega) (by omega)
theorem info_rowsB : (Tryd.prog.info? 46).map (fun i => (i.zero, i.size, i.bytes)) = some (some (.slice none 0 0), 1, 24) := by kernel_rfl
theorem appRows {w : World} {ops : Array Oper} {rest : List Oper} {o : Oper} {a : Act} {Q : Exit → Act → World → Prop} (hgd : o.guard = none) (s x : Operand)
    (ho : o.op = .call { callee := .builtin .append, args := #[s, x], argTypes := #[39, 39] })
    (base : Nat) (v : Value) (n : Nat) (xs : List Value) (hs : a.eval s = v) (hown : w.ownsRow base 46 1 v n xs)
    (ad : Addr) (m c : Nat) (ys : List Value) (hx : a.eval x = .slice (some ad) m c) (hl : ys.length = m) (hy : ∀ j u, ys[j]? = some u → w.cell? (ad.add j) = some u) (h1 : ∀ u ∈ ys, u.oneCell' = true)
    (hroom : n + m ≤ 4398046511104) (hbase : base ≤ w.heap.size)
    (h : ∀ v' w', w'.ownsRow base 46 1 v' (n + m) (xs ++ ys) → w.grownBy w' v.ownBlock → Moved w v v' → wpList Tryd.prog ops Q rest (a.put o.dst v') w') : wpList Tryd.prog ops Q (o :: rest) a w := by
  obtain ⟨i0, hi, hz0, hz1, hz2⟩ := info_parts info_rowsB
  exact wpList_append_own2 hgd s x 39 ho base 46 i0 (.slice none 0 0) 1 24 Tryd.underlying39 hi hz0 hz1 hz2 rfl (by decide) v n xs hs hown ad m c ys hx (by omega) hy h1 (by unfold maxLen; omega) (by omega) hbase h
theorem Turn1M.lsAt {R : Rows0M} {mk : Nat → Nat → Value} {lsv : Value} {w0 : World} {k i : Nat} {w : World} (h : Turn1M R mk lsv w0 k i w) (hk : k < R.N) :
    ∃ b off cap, lsv = .slice (some ⟨b, off, none⟩) R.N cap ∧ w.cell? ⟨b, off + k, none⟩ = some (R.vs k) := by
  obtain ⟨b, off, cap, h1, h2⟩ := h.ls.at k (by simpa using hk)
  exact ⟨b, off, cap, h1, by rw [h2]; simp [List.getD, hk]⟩
theorem Turn1M.slice {R : Rows0M} {mk : Nat → Nat → Value} {lsv : Value} {w0 : World} {k i : Nat} {w : World} (h : Turn1M R mk lsv w0 k i w) (hk : k < R.N) : ∃ a c, R.vs k = .slice a (R.ns k) c := by
  obtain ⟨⟨xs, h1, _⟩, _⟩ := h
  obtain ⟨a, c, e, _⟩ := (h1 k hk).slice
  exact ⟨a, c, e⟩
theorem Turn2M.at {R : Rows0M} {mk : Nat → Nat → Value} {lsv : Value} {w0 : World} {E : TypeId} {k i : Nat} {gsv g : Value} {gl : List Value} {w : World} (h : Turn2M R mk lsv w0 E k gsv gl g i w) (hk : k < R.N) :
    (∃ b off cap, lsv = .slice (some ⟨b, off, none⟩) R.N cap ∧ w.cell? ⟨b, off + k, none⟩ = some (R.vs k)) ∧ OwnM w R.B R.e g (R.ns k + i) (marksOf mk k (R.ns k + i)) ∧ ∃ a c, R.vs k = .slice a (R.ns k) c := by
  obtain ⟨b, off, cap, h1, h2⟩ := h.ls.at k (by simpa using hk)
  obtain ⟨a, c, h3, _⟩ := h.rd k hk
  obtain ⟨gv, _, _, h4, _⟩ := h.own
  exact ⟨⟨b, off, cap, h1, by rw [h2]; simp [List.getD, hk]⟩, (h4 hk).2.1, a, c, h3⟩
theorem Turn3M.at {R : Rows0M} {mk : Nat → Nat → Value} {lsv gsv : Value} {gl : List Value} {w : World} (h : Turn3M R mk lsv gsv gl w) (k : Nat) (hk : k < R.N) :
    (∃ b off cap, lsv = .slice (some ⟨b, off, none⟩) R.N cap ∧ w.cell? ⟨b, off + k, none⟩ = some (R.vs k)) ∧ (∃ a c, R.vs k = .slice a (R.ns k) c ∧ ∀ i, i < R.ns k → ∃ b off, a = some ⟨b, off, none⟩ ∧ w.cell? ⟨b, off + i, none⟩ = some (mk k i)) ∧
    ∃ g, (∃ b off cap, gsv = .slice (some ⟨b, off, none⟩) R.N cap ∧ w.cell? ⟨b, off + k, none⟩ = some g) ∧ (∃ b off c, g = .slice (some ⟨b, off, none⟩) (R.ns k + 64) c ∧ ∀ i, i < R.ns k + 64 → w.cell? ⟨b, off + i, none⟩ = some (mk k i)) := by
  obtain ⟨b, off, cap, h1, h2⟩ := h.ls.at k (by simpa using hk)
  obtain ⟨b', off', cap', h3, h4⟩ := h.gs.at k (by rw [h.len]; exact hk)
  obtain ⟨a, c, h5, _, _, _, h6⟩ := h.rd k hk
  obtain ⟨b2, off2, c2, h7, _⟩ := (h.gd k hk).at 0 (by rw [marksOf_length]; omega)
  refine ⟨⟨b, off, cap, h1, by rw [h2]; simp [List.getD, hk]⟩, ⟨a, c, h5, fun i hi => ?_⟩, _, ⟨b', off', cap', h3, h4⟩, b2, off2, c2, h7, fun i hi => ?_⟩
  · obtain ⟨b, off, e1, e2⟩ := h6 i (by rw [marksOf_length]; exact hi)
    exact ⟨b, off, e1, by rw [e2, marksOf_get _ _ _ _ hi]⟩
  · obtain ⟨b3, off3, c3, h8, h9⟩ := (h.gd k hk).at i (by rw [marksOf_length]; exact hi)
    rw [h7] at h8
    injection h8 with h8; injection h8 with h8; injection h8 with e1 e2
    subst e1; subst e2
    rw [h9, marksOf_get _ _ _ _ hi]
set_option maxRecDepth 100000 in
set_option maxHeartbeats 3200000 in
theorem apartB_calls (R : Rows0M) (lsv : Value) (w : World) (he : R.e = 5) (h : Turn1M R mkB lsv w 0 0 w) (hN : R.N ≤ 4000000) (hns : ∀ j, j < R.N → R.ns j ≤ 1000000000000) (hl : ∀ b, lsv.ownBlock = some b → b < w.heap.size) (hB : R.B ≤ w.heap.size) :
    Calls Tryd.prog 34 #[lsv] w fun e w' => e = .returned (.bool true) ∧ Mod (fun b => R.B ≤ b) w w' ∧ KeepsOthers w w' := by
  obtain ⟨la, lc, e1⟩ : ∃ a c, lsv = .slice a R.N c := by obtain ⟨a, c, e, _⟩ := h.ls; exact ⟨a, c, e⟩
  have Hl := Lib.hid hl
  have H := Lib.hid h
  have HB := Lib.hid hB
  have He := Lib.hid he
  have Hns := Lib.hid hns
  clear hl h hB he hns
  subst e1
  go_enter Tryd.func34, Tryd.ntmps34
  go_wp2_with fail
  go_loopg [3] R.N (fun gk kv wr => ∃ k : Nat, gk + k = R.N ∧ kv = .int .i64 (k : Int) ∧ Turn1M R mkB (.slice la R.N lc) w k 0 wr)
  case atStart => exact ⟨0, rfl, rfl, H.out⟩
  case round =>
    clear H
    obtain ⟨k, hgk, rfl, hT⟩ := hrel
    by_cases hk : k < R.N
    · have hns := Hns.out k hk
      obtain ⟨b, off, cap, e1, hc⟩ := hT.lsAt hk
      obtain ⟨a, c, e2⟩ := hT.slice hk
      rw [e2] at hc
      injection e1 with e3 _ e4
      subst e3
      subst e4
      have hk0 : (0 : Int) ≤ (k : Int) := by omega
      have hk1 : (k : Int) < (R.N : Int) := by omega
      have HT := Lib.hid hT
      have Hgk := Lib.hid hgk
      have E2 := Lib.hid e2
      clear hT hgk e2 Hns
      go_wp2_with fail
      obtain ⟨n, hn⟩ : ∃ n, n = R.ns k := ⟨_, rfl⟩
      rw [← hn] at hc hns
      have Hn := Lib.hid hn
      clear hn
      obtain ⟨wo, rfl⟩ : ∃ wo : World, wo = wr := ⟨_, rfl⟩
      go_loopg [4] n (fun gi iv wr => ∃ i : Nat, gi + i = n ∧ iv = .int .i64 (i : Int) ∧ Turn1M R mkB (.slice (some ⟨b, off, none⟩) R.N lc) w k i wr)
      case atStart => exact ⟨0, rfl, rfl, HT.out⟩
      case round =>
        clear HT hc
        obtain ⟨i, hgi, rfl, hT⟩ := hrel
        have hc : wr.cell? ⟨b, off + k, none⟩ = some (.slice a n c) := by
          obtain ⟨b', off', cap', e1, hc⟩ := hT.lsAt hk
          injection e1 with e1; injection e1 with e1; injection e1 with e5 e6
          subst e5; subst e6
          rw [hc, E2.out, Hn.out]
        have Hgi := Lib.hid hgi
        by_cases hi : i < n
        · obtain ⟨g, cap', e5, ⟨y, hy⟩, hf, hT'⟩ := hT.row hk (by rw [← Hn.out]; exact hi)
          rw [E2.out, ← Hn.out] at e5
          injection e5 with e5 _ e6
          subst e5
          subst e6
          have hi0 : (0 : Int) ≤ (i : Int) := by omega
          have hi1 : (i : Int) < (n : Int) := by omega
          have hmc := fun w => markB_calls k i w (by omega) (by omega)
          obtain ⟨mv, hmv⟩ : ∃ mv, mkB k i = .int .u8 mv := ⟨_, rfl⟩
          rw [hmv] at hT' hmc
          have HT' := Lib.hid hT'
          have Hmc := Lib.hid hmc
          have hk2 : ((wr.setCell ⟨g, i, none⟩ (.int .u8 mv)).drew).cell? ⟨b, off + k, none⟩ = some (.slice (some ⟨g, 0, none⟩) n c) := by
            obtain ⟨b', off', cap', e1, hc⟩ := hT'.lsAt hk
            injection e1 with e1; injection e1 with e1; injection e1 with e5 e6
            subst e5; subst e6
            show (wr.setCell ⟨g, i, none⟩ (.int .u8 mv)).cell? ⟨b, off + k, none⟩ = _
            rw [hc, E2.out, Hn.out]
          have hk3 : (wr.drew.setCell ⟨g, i, none⟩ (.int .u8 mv)).cell? ⟨b, off + k, none⟩ = some (.slice (some ⟨g, 0, none⟩) n c) := hk2
          have Hk2 := Lib.hid hk2
          have Hk3 := Lib.hid hk3
          clear hT hgi hT' hmc hmv hk2 hk3
          go_wp2_with fail
          go_region_held3 (fun w' => w'.cell? ⟨b, off + k, none⟩ = some (.slice (some ⟨g, 0, none⟩) n c))
            (first | assumption | exact hc | exact Hk2.out | exact Hk3.out)
            (first | (go_at_call 54; refine (Hmc.out _).mono ?_; rintro e w' ⟨rfl, rfl⟩))
          go_wp2_with fail
          go_roundg (n - (i + 1))
          case measure => have := Hgi.out; omega
          case rel => exact ⟨i + 1, by have := Hgi.out; omega, by go_num, HT'.out.drew⟩
        · obtain rfl : i = n := by omega
          rw [Hn.out] at hT
          have HT := Lib.hid (hT.next hk)
          clear hT hgi
          go_wp2_with fail
          go_roundg (R.N - (k + 1))
          case measure => have := Hgk.out; omega
          case rel => exact ⟨k + 1, by have := Hgk.out; omega, by go_num, HT.out⟩
    · obtain rfl : k = R.N := by omega
      have hs0 := hT.mod.1.size
      have hT2 := hT.two (E := 46) (fun b hb => Nat.lt_of_lt_of_le (Hl.out b hb) hs0) (Nat.le_trans HB.out hs0)
      have HT := Lib.hid hT2
      clear hT hgk hT2 Hl HB hs0
      go_wp2_with fail
      obtain ⟨wo, rfl⟩ : ∃ wo : World, wo = wr := ⟨_, rfl⟩
      go_loopg [5, 6] R.N (fun gk gsv kv wr => ∃ (k : Nat) (gl : List Value), gk + k = R.N ∧ kv = .int .i64 (k : Int) ∧ Turn2M R mkB (.slice la R.N lc) w 46 k gsv gl (R.vs k) 0 wr)
      case atStart => exact ⟨0, [], rfl, rfl, HT.out⟩
      case round =>
        clear HT
        obtain ⟨k, gl, hgk, rfl, hT⟩ := hrel
        by_cases hk : k < R.N
        · have hns := Hns.out k hk
          obtain ⟨⟨b, off, cap, e1, hc⟩, _, a, c, e2⟩ := hT.at hk
          rw [e2] at hc hT
          injection e1 with e3 _ e4
          subst e3
          subst e4
          have hk0 : (0 : Int) ≤ (k : Int) := by omega
          have hk1 : (k : Int) < (R.N : Int) := by omega
          obtain ⟨n, hn⟩ : ∃ n, n = R.ns k := ⟨_, rfl⟩
          rw [← hn] at hc hns e2 hT
          have HT := Lib.hid hT
          have Hgk := Lib.hid hgk
          have Hn := Lib.hid hn
          have E2 := Lib.hid e2
          clear hT hgk e2 hn
          go_wp2_with fail
          obtain ⟨wo, rfl⟩ : ∃ wo : World, wo = wr := ⟨_, rfl⟩
          go_loopg [7, 8] 64 (fun gi gv iv wr => ∃ i : Nat, gi + i = 64 ∧ iv = .int .i64 (i : Int) ∧ Turn2M R mkB (.slice (some ⟨b, off, none⟩) R.N lc) w 46 k u5 gl gv i wr)
          case atStart => exact ⟨0, rfl, rfl, HT.out⟩
          case round =>
            clear HT hc
            obtain ⟨i, hgi, rfl, hT⟩ := hrel
            have hown := (hT.at hk).2.1
            have hc : wr.cell? ⟨b, off + k, none⟩ = some (.slice a n c) := by
              obtain ⟨⟨b', off', cap', e1, hc⟩, _⟩ := hT.at hk
              injection e1 with e1; injection e1 with e1; injection e1 with e5 e6
              subst e5; subst e6
              rw [hc, E2.out]
            have Hgi := Lib.hid hgi
            by_cases hi : i < 64
            · obtain ⟨wq, hwq⟩ : ∃ wq : World, wq = wr := ⟨_, rfl⟩
              have hmc := fun w => markB_calls k (n + i) w (by omega) (by omega)
              obtain ⟨mv, hmv⟩ : ∃ mv, mkB k (n + i) = .int .u8 mv := ⟨_, rfl⟩
              rw [hmv, Int.natCast_add] at hmc
              have hB2 := hT.le
              have hownA := hown.below (below_alloc wr (.cells #[.int .u8 mv] 5))
              rw [He.out, ← Hn.out] at hownA
              have hb2 := hT.below (below_alloc wr (.cells #[.int .u8 mv] 5))
              have HownA := Lib.hid hownA
              have Hb2 := Lib.hid hb2
              have Hmc := Lib.hid hmc
              have Hmv := Lib.hid hmv
              have hi1 : (i : Int) < 64 := by omega
              clear hT hgi hmc hmv hown hwq hb2 hownA
              go_wp2_with fail
              refine (Hmc.out _).mono ?_
              rintro e w' ⟨rfl, rfl⟩
              go_wp2_with (at_builtin; refine appM1 rfl _ _ rfl R.B _ _ _ rfl HownA.out ⟨wr.heap.size, 0, none⟩ 1 (.int .u8 mv) rfl (by simp) rfl (by omega) (by simp; omega) ?_)
              intro v' w1 hown' hg' hm' hgr'
              rw [← He.out, ← Hmv.out, Hn.out] at hown'
              rw [Hn.out] at hgr'
              have hT' := Hb2.out.step hk hown' hg' hm' hgr'
              have HT' := Lib.hid hT'
              clear hown' hg' hm' hgr' hT'
              go_wp2_with fail
              go_roundg (64 - (i + 1))
              case measure => have := Hgi.out; omega
              case rel => exact ⟨i + 1, by have := Hgi.out; omega, by go_num, HT'.out⟩
            · obtain rfl : i = 64 := by omega
              obtain ⟨ga, gc, e7, _⟩ := hown.slice
              subst e7
              have hB2 := hT.le
              have hgs := hT.gs
              rw [show min k R.N = k by omega] at hgs
              obtain ⟨m, hm⟩ : ∃ m, m = R.ns k + 64 := ⟨_, rfl⟩
              rw [← hm] at hT
              have hownA := hgs.alloc (.cells #[.slice ga m gc] 46)
              have hb2 := hT.below (below_alloc wr (.cells #[.slice ga m gc] 46))
              have HownA := Lib.hid hownA
              have Hb2 := Lib.hid hb2
              rw [← hm]
              clear hT hgi hown hb2 hownA hgs hm
              go_wp2_with (at_builtin; refine appRows rfl _ _ rfl R.B _ _ _ rfl HownA.out ⟨wr.heap.size, 0, none⟩ 1 1 [.slice ga m gc] rfl rfl (cell_one_new _ _ _) (by simp [Value.oneCell']) (by omega) (by simp; omega) ?_)
              intro v' w1 hown' hg' hm'
              have hT' := Hb2.out.next hk hown' hg' hm'
              have HT' := Lib.hid hT'
              clear hown' hg' hm' hT'
              go_wp2_with fail
              go_roundg (R.N - (k + 1))
              case measure => have := Hgk.out; omega
              case rel => exact ⟨k + 1, _, by have := Hgk.out; omega, by go_num, HT'.out⟩
        · obtain rfl : k = R.N := by omega
          have hT3 := hT.three
          have hmod := hT.mod
          have Hmod := Lib.hid hmod
          have HT := Lib.hid hT3
          obtain ⟨ga, gc, rfl⟩ : ∃ a c, u5 = .slice a R.N c := by obtain ⟨a, c, e, _⟩ := hT3.gs; exact ⟨a, c, e⟩
          clear hT hT3 hgk hmod
          go_wp2_with fail
          obtain ⟨wo, rfl⟩ : ∃ wo : World, wo = wr := ⟨_, rfl⟩
          go_loopg [9] R.N (fun gk kv wr' => ∃ k : Nat, gk + k = R.N ∧ kv = .int .i64 (k : Int) ∧ wr' = wo)
          case atStart => exact ⟨0, rfl, rfl, rfl⟩
          case round =>
            obtain ⟨k, hgk, rfl, rfl⟩ := hrel
            by_cases hk : k < R.N
            · have hns := Hns.out k hk
              obtain ⟨⟨b, off, cap, e1, hc⟩, ⟨a, c, e2, hv⟩, g, ⟨b3, off3, cap3, e3, hd⟩, b4, off4, c4, rfl, hw⟩ := HT.out.at k hk
              rw [e2] at hc
              injection e1 with e4 _ e5
              injection e3 with e6 _ e7
              subst e4; subst e5; subst e6; subst e7
              obtain ⟨n, hn⟩ : ∃ n, n = R.ns k := ⟨_, rfl⟩
              rw [← hn] at hc hns hv hw hd
              have Hv := Lib.hid hv
              have Hw := Lib.hid hw
              have Hgk := Lib.hid hgk
              have hk0 : (0 : Int) ≤ (k : Int) := by omega
              have hk1 : (k : Int) < (R.N : Int) := by omega
              clear hv hw hgk e2 hn HT
              go_wp2_with fail
              obtain ⟨wq, hwq⟩ : ∃ wq : World, wq = wr := ⟨_, rfl⟩
              rw [← hwq] at hc hd Hv Hw Hmod ⊢
              have Hwq := Lib.hid hwq
              clear hwq
              go_loopg [10] (n + 64) (fun gi iv wr' => ∃ i : Nat, gi + i = n + 64 ∧ iv = .int .i64 (i : Int) ∧ wr' = wq)
              case atStart => exact ⟨0, rfl, rfl, rfl⟩
              case round =>
                obtain ⟨i, hgi, rfl, rfl⟩ := hrel
                have Hgi := Lib.hid hgi
                clear hgi
                have hi0 : (0 : Int) ≤ (i : Int) := by omega
                by_cases hi : i < n + 64
                · have hwc := Hw.out i hi
                  have hmc := fun w => markB_calls k i w (by omega) (by omega)
                  obtain ⟨mv, hmv⟩ : ∃ mv, mkB k i = .int .u8 mv := ⟨_, rfl⟩
                  rw [hmv] at hmc hwc
                  have Hmc := Lib.hid hmc
                  have Hmv := Lib.hid hmv
                  have hi3 : (i : Int) < (n : Int) + 64 := by omega
                  clear hmc hmv
                  by_cases hin : i < n
                  · obtain ⟨b5, off5, rfl, hvc⟩ := Hv.out i hin
                    rw [Hmv.out] at hvc
                    have hi4 : (i : Int) < (n : Int) := by omega
                    clear Hv Hw
                    go_wp2_with (go_at_call 54; refine (Hmc.out _).mono ?_; rintro e w' ⟨rfl, rfl⟩)
                    go_roundg (n + 64 - (i + 1))
                    case measure => have := Hgi.out; omega
                    case rel => exact ⟨i + 1, by have := Hgi.out; omega, by go_num, rfl⟩
                  · have hi4 : decide ((i : Int) < (n : Int)) = false := by simp; omega
                    clear Hv Hw
                    go_wp2_with (go_at_call 54; refine (Hmc.out _).mono ?_; rintro e w' ⟨rfl, rfl⟩)
                    go_roundg (n + 64 - (i + 1))
                    case measure => have := Hgi.out; omega
                    case rel => exact ⟨i + 1, by have := Hgi.out; omega, by go_num, rfl⟩
                · obtain rfl : i = n + 64 := by have := Hgi.out; omega
                  clear Hv Hw
                  go_wp2_with fail
                  go_roundg (R.N - (k + 1))
                  case measure => have := Hgk.out; omega
                  case rel => exact ⟨k + 1, by have := Hgk.out; omega, by go_num, Hwq.out⟩
            · obtain rfl : k = R.N := by omega
              clear HT hgk
              go_wp2_with fail
              go_ret
              exact ⟨rfl, Hmod.out⟩
end Go.Proofs.YtjoadcgegobjpaaDoor
/-
  The walks of package lineagekit over lists of bytes.
-/
namespace Go.Proofs.YtjoadcgegobjpaaDoor
open Go.RowKit

/-- The marks behind a list. -/
def marksB : Nat → List Value
  | 0 => []
  | n + 1 => marksB n ++ [.int .u8 (markI 90 n)]
theorem marksB_length (n : Nat) : (marksB n).length = n := by induction n with | zero => rfl | succ n ih => simp [marksB, ih]

theorem marksB_get (n j : Nat) (h : j < n) : (marksB n).getD j undef = .int .u8 (markI 90 j) := by
  induction n with
  | zero => omega
  | succ n ih =>
    rw [marksB]
    by_cases hj : j < n
    · rw [List.getD, List.getElem?_append_left (by rw [marksB_length]; exact hj)]; exact ih hj
    · obtain rfl : j = n := by omega
      rw [List.getD, List.getElem?_append_right (by rw [marksB_length]; omega), marksB_length]; simp
set_option maxHeartbeats 400000 in
theorem fullB_calls (v : Value) (l : List UInt8) (w : World) (hv : Rd w v l.length (l.map V8)) (hn : l.length ≤ 140737488355000) :
    Calls Tryd.prog 44 #[v] w fun e w' => ∃ o, e = .returned o ∧ w'.ownsRow w.heap.size 5 1 o (l.length + 16) (l.map V8 ++ marksB 16) ∧ Below w.heap.size w w' := by
  obtain ⟨a, cap, rfl, hc1, hc2, _, hc⟩ := hv
  have Hc := Lib.hid hc
  clear hc
  go_enter Tryd.func44, Tryd.ntmps44
  go_wp2
  go_loopw [3, 4] (fun o i wr => ∃ k : Nat, k ≤ l.length ∧ i = .int .i64 k ∧ wr.ownsRow w.heap.size 5 1 o k ((l.map V8).take k) ∧ Below w.heap.size w wr) (fun _ i _ => l.length - (intOf i).toNat)
  case atStart => exact ⟨0, by omega, rfl, World.ownsRow_nil _ _ _ _, Below.refl _ _⟩
  case round =>
    obtain ⟨k, hk, rfl, hown, hb⟩ := hrel
    by_cases hlt : k < l.length
    · obtain ⟨b, off, rfl, hcell'⟩ := Hc.out k (by simpa using hlt)
      have hcell : wr.cell? ⟨b, off + k, none⟩ = some (.int .u8 (l[k].toNat : Int)) := below_heap hb (by rw [hcell']; simp [hlt, V8])
      clear hcell' Hc
      have hs := hb.size
      have htk := Lib.hid (show (l.map V8).take (k + 1) = (l.map V8).take k ++ [.int .u8 (l[k].toNat : Int)] from by rw [List.take_succ_eq_append_getElem (by simpa using hlt)]; simp [V8])
      go_wp2_with (at_builtin; refine appB rfl _ _ rfl w.heap.size _ _ _ rfl (hown.alloc _) ⟨wr.heap.size, 0, none⟩ 1 1 [.int .u8 (l[k].toNat : Int)] rfl rfl ?c1 ?c2 ?c3 ?c4 ?_)
      case c1 => exact cell_one_new _ _ _
      case c2 => simp [Value.oneCell']
      case c3 => omega
      case c4 => simp; omega
      intro v' w1 hown' hg' _
      have hb' := hb.trans ((below_alloc wr (.cells #[.int .u8 (l[k].toNat : Int)] 5)).mono hs)
      have hb1 := hb'.trans (below_grown hg' (by simp; omega) (fun q hq => (hown.lt q hq).1))
      clear hb' hg' hcell
      go_wp2
      go_roundw
      case rel => exact ⟨k + 1, by omega, by go_num, by rw [htk.out]; exact hown', hb1⟩
      case measure => simp [intOf]; omega
    · obtain rfl : k = l.length := by omega
      rw [List.take_of_length_le (by simp)] at hown
      clear Hc
      go_wp2
      obtain ⟨wo, rfl⟩ : ∃ wo : World, wo = wr := ⟨_, rfl⟩
      go_loopw [3, 5] (fun o i wr => ∃ k : Nat, k ≤ 16 ∧ i = .int .i64 k ∧ wr.ownsRow w.heap.size 5 1 o (l.length + k) (l.map V8 ++ marksB k) ∧ Below w.heap.size w wr) (fun _ i _ => 16 - (intOf i).toNat)
      case atStart => exact ⟨0, by omega, rfl, by simpa [marksB] using hown, hb⟩
      case round =>
        clear hown hb
        obtain ⟨k, hk, rfl, hown, hb⟩ := hrel
        have hs := hb.size
        by_cases hlt : k < 16
        · go_wp2_with fail
          refine (mark_calls 90 k _ (by omega) (by omega) (by omega) (by omega)).mono ?_
          rintro e w' ⟨rfl, rfl⟩
          go_wp2_with (at_builtin; refine appB rfl _ _ rfl w.heap.size _ _ _ rfl (hown.alloc _) ⟨wr.heap.size, 0, none⟩ 1 1 [.int .u8 (markI 90 k)] rfl rfl ?c1 ?c2 ?c3 ?c4 ?_)
          case c1 => exact cell_one_new _ _ _
          case c2 => simp [Value.oneCell']
          case c3 => omega
          case c4 => simp; omega
          intro v' w1 hown' hg' _
          have hb' := hb.trans ((below_alloc wr (.cells #[.int .u8 (markI 90 k)] 5)).mono hs)
          have hb1 := hb'.trans (below_grown hg' (by simp; omega) (fun q hq => (hown.lt q hq).1))
          clear hb' hg'
          go_wp2
          go_roundw
          case rel => exact ⟨k + 1, by omega, by go_num, by simpa [marksB, Nat.add_assoc] using hown', hb1⟩
          case measure => simp [intOf]; omega
        · obtain rfl : k = 16 := by omega
          go_wp2
          go_ret
          exact ⟨_, rfl, hown, hb⟩

/-- A list that was lent: it reads as the list, and behind it, in the same row, stand the marks. -/
def LentB (w : World) (base : Nat) (v : Value) (l : List UInt8) : Prop :=
  ∃ g cap, v = .slice (some ⟨g, 0, none⟩) l.length cap ∧ w.ownsRow base 5 1 (.slice (some ⟨g, 0, none⟩) (l.length + 16) cap) (l.length + 16) (l.map V8 ++ marksB 16)
theorem LentB.below {w w' : World} {base : Nat} {v : Value} {l : List UInt8} (h : LentB w base v l) (hb : Below w.heap.size w w') : LentB w' base v l := by
  obtain ⟨g, cap, rfl, h⟩ := h; exact ⟨g, cap, rfl, own_below h hb⟩
theorem LentB.full {w : World} {base : Nat} {v : Value} {l : List UInt8} (h : LentB w base v l) : ∃ g cap, v = .slice (some ⟨g, 0, none⟩) l.length cap ∧ l.length + 16 ≤ cap ∧ Rd w (.slice (some ⟨g, 0, none⟩) (l.length + 16) cap) (l.length + 16) (l.map V8 ++ marksB 16) := by
  obtain ⟨g, cap, rfl, h⟩ := h
  have hr := rd_of_own h
  have hr' := hr
  obtain ⟨_, _, e, h1, _⟩ := hr
  injection e with _ _ e; subst e
  exact ⟨g, cap, rfl, h1, hr'⟩
theorem LentB.rd {w : World} {base : Nat} {v : Value} {l : List UInt8} (h : LentB w base v l) : Rd w v l.length (l.map V8) := by
  obtain ⟨g, cap, rfl, h1, h2⟩ := h.full
  have := h2.cut (m := l.length) (by omega) l.length
  simpa [List.take_append_of_le_length] using this
theorem lentB_calls (v : Value) (l : List UInt8) (w : World) (hv : Rd w v l.length (l.map V8)) (hn : l.length ≤ 140737488355000) :
    Calls Tryd.prog 22 #[v] w fun e w' => ∃ o, e = .returned o ∧ LentB w' w.heap.size o l ∧ Below w.heap.size w w' := by
  have hv' := hv
  obtain ⟨a, cap, rfl, hc1, hc2, _, hc⟩ := hv
  clear hc
  go_enter Tryd.func22, Tryd.ntmps22
  go_wp2_with fail
  refine (fullB_calls _ l _ hv' hn).mono ?_
  rintro e w' ⟨o, rfl, hown, hb⟩
  rcases hown.2 with ⟨rfl, h0⟩ | ⟨g, cap', cur, rfl, hbg, hg, hn', hm, hs, ht⟩
  · omega
  · clear hg hs ht hv'
    unfold maxLen at hm
    go_wp2
    go_ret
    exact ⟨_, rfl, ⟨g, cap', rfl, hown⟩, hb⟩

set_option maxHeartbeats 400000 in
theorem keptFullB_calls (v v' : Value) (l : List UInt8) (w : World) (hv : Rd w v (l.length + 16) (l.map V8 ++ marksB 16)) (hv' : Rd w v' l.length (l.map V8)) (hn : l.length ≤ 140737488355000) :
    Calls Tryd.prog 49 #[v, v'] w fun e w' => e = .returned (.bool true) ∧ w = w' := by
  obtain ⟨a, cap, rfl, hc1, hc2, _, hc⟩ := hv
  obtain ⟨a', cap', rfl, hd1, hd2, _, hd⟩ := hv'
  have Hc := Lib.hid hc
  have Hd := Lib.hid hd
  clear hc hd
  go_enter Tryd.func49, Tryd.ntmps49
  go_wp2
  go_loop [5] (fun i => ∃ k : Nat, k ≤ l.length + 16 ∧ i = .int .i64 k) (fun i => l.length + 16 - (intOf i).toNat)
  case atStart => exact ⟨0, by omega, rfl⟩
  case round =>
    obtain ⟨k, hk, rfl⟩ := hrel
    by_cases hlt : k < l.length + 16
    · obtain ⟨b, off, rfl, hcell'⟩ := Hc.out k (by simp [marksB_length]; omega)
      by_cases hl : k < l.length
      · obtain ⟨b', off', rfl, hdell'⟩ := Hd.out k (by simpa using hl)
        have hcell : w.cell? ⟨b, off + k, none⟩ = some (.int .u8 (l[k].toNat : Int)) := by rw [hcell']; simp [hl, V8, List.getElem?_append_left]
        have hdell : w.cell? ⟨b', off' + k, none⟩ = some (.int .u8 (l[k].toNat : Int)) := by rw [hdell']; simp [hl, V8]
        clear hcell' hdell' Hc Hd
        go_wp2_with fail
        refine (mark_calls 90 _ _ (by omega) (by omega) (by omega) (by omega)).mono ?_
        rintro e w' ⟨rfl, rfl⟩
        go_wp2
        go_round
        case rel => exact ⟨k + 1, by omega, by go_num⟩
        case measure => simp [intOf]; omega
      · have hcell : w.cell? ⟨b, off + k, none⟩ = some (.int .u8 (markI 90 ((k : Int) - (l.length : Int)))) := by
          rw [hcell', List.getD, List.getElem?_append_right (by simp; omega)]
          have h := marksB_get 16 (k - l.length) (by omega)
          rw [List.getD] at h
          rw [List.length_map, h, show ((k - l.length : Nat) : Int) = (k : Int) - (l.length : Int) from by omega]
        clear hcell' Hc Hd
        go_wp2_with fail
        refine (mark_calls 90 _ _ (by omega) (by omega) (by omega) (by omega)).mono ?_
        rintro e w' ⟨rfl, rfl⟩
        go_wp2
        go_round
        case rel => exact ⟨k + 1, by omega, by go_num⟩
        case measure => simp [intOf]; omega
    · obtain rfl : k = l.length + 16 := by omega
      clear Hc Hd
      go_wp2
      go_ret
      exact ⟨rfl, rfl⟩
theorem keptB_calls (v v' : Value) (base : Nat) (l : List UInt8) (w : World) (hv : LentB w base v l) (hv' : Rd w v' l.length (l.map V8)) (hn : l.length ≤ 140737488355000) :
    Calls Tryd.prog 25 #[v, v'] w fun e w' => e = .returned (.bool true) ∧ w = w' := by
  obtain ⟨g, cap, rfl, hc, hr⟩ := hv.full
  have hr' := hv'
  obtain ⟨a', cap', rfl, hd1, hd2, _, hd⟩ := hv'
  clear hd hv
  go_enter Tryd.func25, Tryd.ntmps25
  go_wp2_with fail
  refine (keptFullB_calls _ _ l _ hr hr' hn).mono ?_
  rintro e w' ⟨rfl, rfl⟩
  go_wp2
  go_ret
  exact ⟨rfl, rfl⟩

/-- The marks as bytes. -/
def marksL : Nat → List UInt8
  | 0 => []
  | n + 1 => marksL n ++ [B8 (37 * (90 + 1) + (n : Int))]
theorem marksB_V8 (n : Nat) : marksB n = (marksL n).map V8 := by
  induction n with
  | zero => rfl
  | succ n ih => rw [marksB, marksL, List.map_append, ih]; simp only [List.map_cons, List.map_nil, V8_B8]; rfl
theorem marksL_length (n : Nat) : (marksL n).length = n := by induction n with | zero => rfl | succ n ih => simp [marksL, ih]
end Go.Proofs.YtjoadcgegobjpaaDoor
/-
  A disk and the document's one, each of memory of its own; two lists of bytes that were handed out.
-/
namespace Go.Proofs.YtjoadcgegobjpaaDoor
open Go.RowKit
set_option maxRecDepth 100000

structure DR (W : World) (p rp c : Nat) (d : DiskM) (F G : Nat → Prop) (wr : World) : Prop where
  disk : IsDisk wr d p F
  ref : IsRef wr d rp G
  wf : d.Wf
  small : d.strs.length ≤ 4096
  trail : d.trail.length ≤ c
  fg : ∀ k, F k → ¬ G k
  lo : ∀ k, F k ∨ G k → W.heap.size ≤ k
  below : Below W.heap.size W wr
theorem DR.to {W : World} {p rp c : Nat} {d : DiskM} {F G : Nat → Prop} {wr w2 : World} (h : DR W p rp c d F G wr) (hb : Below wr.heap.size wr w2) : DR W p rp c d F G w2 :=
  ⟨h.disk.mod (Mod.of_below (F := fun _ => False) hb) (fun _ _ h => h), h.ref.below hb, h.wf, h.small, h.trail, h.fg, h.lo, h.below.trans (hb.mono h.below.size)⟩
theorem DR.more {W : World} {p rp c c' : Nat} {d : DiskM} {F G : Nat → Prop} {wr : World} (h : DR W p rp c d F G wr) (hc : c ≤ c') : DR W p rp c' d F G wr :=
  ⟨h.disk, h.ref, h.wf, h.small, Nat.le_trans h.trail hc, h.fg, h.lo, h.below⟩
/-- Other memory has turned. -/
theorem DR.aside {W : World} {p rp c : Nat} {d : DiskM} {F G A : Nat → Prop} {wr w2 : World} (h : DR W p rp c d F G wr) (hm : Mod A wr w2) (hx : ∀ k, F k ∨ G k → ¬ A k) (ha : ∀ k, A k → W.heap.size ≤ k) : DR W p rp c d F G w2 :=
  ⟨h.disk.mod hm (fun k hk => hx k (.inl hk)), h.ref.mod hm (fun k hk => hx k (.inr hk)), h.wf, h.small, h.trail, h.fg, h.lo, h.below.trans (hm.below h.below.size ha)⟩
/-- Both have turned. -/
theorem DR.both {W : World} {p rp c c' : Nat} {d d' : DiskM} {F G F' G' : Nat → Prop} {wr w1 w2 : World} (h : DR W p rp c d F G wr) (hd : IsDisk w1 d' p F') (hm1 : Mod F wr w1) (hF : ∀ k, F' k → F k ∨ wr.heap.size ≤ k)
    (hr : IsRef w2 d' rp G') (hm2 : Mod G w1 w2) (hG : ∀ k, G' k → G k ∨ w1.heap.size ≤ k) (hw : d'.Wf) (hn : d'.strs.length ≤ 4096) (ht : d'.trail.length ≤ c') : DR W p rp c' d' F' G' w2 := by
  have hs0 := h.below.size
  have hs1 := hm1.size
  have hd1 := hd.lt
  have hrl := h.ref.lt
  have hm : Mod (fun k => F k ∨ G k) wr w2 := (hm1.mono (fun k hk => .inl hk)).trans (hm2.mono (fun k hk => .inr hk))
  have hFG : ∀ k, F' k → ¬ G k := fun k hk hg => by
    rcases hF k hk with h1 | h1
    · exact h.fg k h1 hg
    · have := hrl k hg; omega
  refine ⟨hd.mod hm2 hFG, hr, hw, hn, ht, fun k hk hg => ?_, fun k hk => ?_, h.below.trans (hm.below hs0 h.lo)⟩
  · rcases hG k hg with h1 | h1
    · exact hFG k hk h1
    · have := hd1 k hk; omega
  · rcases hk with hk | hk
    · rcases hF k hk with h1 | h1
      · exact h.lo k (.inl h1)
      · omega
    · rcases hG k hk with h1 | h1
      · exact h.lo k (.inr h1)
      · omega
theorem DR.err {W : World} {p rp c : Nat} {d : DiskM} {F G : Nat → Prop} {wr : World} (h : DR W p rp c d F G wr) {P : Prop} (hp : Below W.heap.size W wr → P) : P := hp h.below
theorem LentB.mod {w w' : World} {base : Nat} {v : Value} {l : List UInt8} {A : Nat → Prop} (h : LentB w base v l) (hm : Mod A w w') (hx : ∀ k, A k → k < base ∨ w.heap.size ≤ k) : LentB w' base v l := by
  obtain ⟨g, cap, e, h2⟩ := h
  refine ⟨g, cap, e, own_mod h2 hm (fun k hk ha => ?_)⟩
  have := h2.lt k hk
  have := hx k ha
  omega
theorem LentB.mod' {w w' : World} {base : Nat} {v : Value} {l : List UInt8} {A : Nat → Prop} (h : LentB w base v l) (hm : Mod A w w') (hx : ∀ k, v.ownBlock = some k → ¬ A k) : LentB w' base v l := by
  obtain ⟨g, cap, rfl, h2⟩ := h
  exact ⟨g, cap, rfl, own_mod h2 hm (fun k hk ha => hx k hk ha)⟩
theorem LentB.lt {w : World} {base : Nat} {v : Value} {l : List UInt8} (h : LentB w base v l) : ∀ k, v.ownBlock = some k → base ≤ k ∧ k < w.heap.size := by
  obtain ⟨g, cap, rfl, h2⟩ := h
  exact fun k hk => h2.lt k hk
theorem OwnM.apart_new {w w' : World} {B : Nat} {e e' : TypeId} {u v : Value} {n m : Nat} {xs ys : List Value} (h : OwnM w B e u n xs) (h' : OwnM w' w.heap.size e' v m ys) : Apart u v := fun k hk hk2 => by
  have := (h.lt k hk).2
  have := (h'.lt k hk2).1
  omega
/-- Two lists that were handed out. -/
theorem apartB_two (w : World) (B n0 n1 : Nat) (av bv lsv : Value) (xs ys : List Value) (ha : OwnM w B 5 av n0 xs) (hb : OwnM w B 5 bv n1 ys) (hab : Apart av bv) (hl : Rd w lsv 2 [av, bv]) (h1 : Apart lsv av) (h2 : Apart lsv bv) (hn0 : n0 ≤ 1000000000000) (hn1 : n1 ≤ 1000000000000) (hlt : ∀ b, lsv.ownBlock = some b → b < w.heap.size) (hB : B ≤ w.heap.size) :
    Calls Tryd.prog 34 #[lsv] w fun e w' => e = .returned (.bool true) ∧ Mod (fun b => B ≤ b) w w' := by
  refine (apartB_calls ⟨2, fun j => if j = 0 then av else bv, fun j => if j = 0 then n0 else n1, B, 5⟩ lsv w rfl ⟨⟨fun j => if j = 0 then xs else ys, fun j hj => ?_, fun j hj _ => by omega, fun _ => rfl⟩, fun j j' hj hj' hne => ?_, ?_, fun j hj => ?_, Mod.refl _ _, KeepsOthers.refl _⟩ (show 2 ≤ _ by omega) (fun j hj => ?_) hlt hB).mono (fun e w' h => ⟨h.1, h.2.1⟩)
  · have hj : j < 2 := hj
    rcases (show j = 0 ∨ j = 1 by omega) with rfl | rfl
    · exact ha
    · exact hb
  · have hj : j < 2 := hj
    have hj' : j' < 2 := hj'
    rcases (show j = 0 ∨ j = 1 by omega) with rfl | rfl
    · obtain rfl : j' = 1 := by omega
      exact hab
    · obtain rfl : j' = 0 := by omega
      exact hab.symm
  · exact hl
  · have hj : j < 2 := hj
    rcases (show j = 0 ∨ j = 1 by omega) with rfl | rfl
    · exact h1
    · exact h2
  · show (if j = 0 then n0 else n1) ≤ _
    split <;> omega
theorem rd_two (w : World) (u v : Value) (t : TypeId) : Rd (w.alloc (.cells #[u, v] t)) (.slice (some ⟨w.heap.size, 0, none⟩) 2 2) 2 [u, v] := by
  refine ⟨_, 2, rfl, Nat.le_refl _, by omega, (fun h => by cases h), fun j hj => ⟨w.heap.size, 0, rfl, ?_⟩⟩
  have hj : j < 2 := hj
  rw [Nat.zero_add]
  refine (Box.new w #[u, v] t).cell j _ ?_
  rcases (show j = 0 ∨ j = 1 by omega) with rfl | rfl
  · rfl
  · rfl
end Go.Proofs.YtjoadcgegobjpaaDoor
/-
  errors.As, at a number of package api and a target of type *api.Fault: it is none; lineagekit.Plain.
-/
namespace Go.Proofs.YtjoadcgegobjpaaDoor
open Go.RowKit Go.Extern.Stop Go.Stop Go.Extern

theorem as_nil (t : Value) (w : World) :
    Calls Tryd.prog 19 #[.nilIface, t] w fun e w' => e = .returned (.bool false) ∧ w' = w := by
  go_enter Tryd.func19, Tryd.ntmps19
  go_wp2
  go_ret
  exact ⟨rfl, rfl⟩
theorem fp_valueOf (t : Addr) (w : World) : (ReflectliteValue.unpack (.iface 73 (.pointer (some t)))).run Tryd.prog w
    = .ok (.agg #[.pointer (some ⟨1, 73, none⟩), .pointer (some ⟨w.heap.size, 0, none⟩), .int .u64 150]) (w.alloc (.cells #[.pointer (some t)] 73)) := by kernel_rfl
theorem fp_type (a : Addr) (w : World) : (ReflectliteValue.methodAny (ReflectliteValue.valueError "reflectlite.Value.Type" 0) (fun t _ _ _ => ReflectliteType.toType t) #[.agg #[.pointer (some ⟨1, 73, none⟩), .pointer (some a), .int .u64 150]]).run Tryd.prog w
    = .ok (.iface 126 (.agg #[.pointer (some ⟨1, 73, none⟩)])) w := by kernel_rfl
theorem fp_methodKind (h : Value) (w : World) : (Go.method 287 126 (.agg #[h]) "Kind").run Tryd.prog w = .ok (87, h) w := by kernel_rfl
theorem fp_kind (w : World) : ((ReflectliteType.abiMethod fun t => (fun a : Nat => Value.int IntKind.u8 (a : Int)) <$> Rtype.kind t) #[.pointer (some ⟨1, 73, none⟩)]).run Tryd.prog w = .ok (.int .u8 22) w := by kernel_rfl
theorem fs_kind (w : World) : ((ReflectliteType.abiMethod fun t => (fun a : Nat => Value.int IntKind.u8 (a : Int)) <$> Rtype.kind t) #[.pointer (some ⟨1, 70, none⟩)]).run Tryd.prog w = .ok (.int .u8 25) w := by kernel_rfl
theorem rlm (z : Sem Value) (f : TypeId → Addr → Nat → Nat → Sem Value) (v : Value) :
    ReflectliteValue.method z f #[v] = (do match ← ReflectliteValue.parts v with | none => z | some (t, a, fl) => f t a fl (fl % 32)) := rfl
theorem fp_parts (a : Addr) (w : World) : (ReflectliteValue.parts (.agg #[.pointer (some ⟨1, 73, none⟩), .pointer (some a), .int .u64 150])).run Tryd.prog w = .ok (some (73, a, 150)) w := by kernel_rfl
theorem fp_isNil (a p : Addr) (W : World) (ha : W.cell? a = some (.pointer (some p))) :
    (ReflectliteValue.method (ReflectliteValue.valueError "reflectlite.Value.IsNil" 0) ReflectliteValue.isNil #[.agg #[.pointer (some ⟨1, 73, none⟩), .pointer (some a), .int .u64 150]]).run Tryd.prog W = .ok (.bool false) W := by
  rw [rlm]
  simp only [Sem.run_bind, fp_parts, Result.andThen]
  simp [ReflectliteValue.isNil, loadVar, isAgg, underlying, Tryd.underlying73, ha, Result.andThen]
theorem fp_methodElem (h : Value) (w : World) : (Go.method 287 126 (.agg #[h]) "Elem").run Tryd.prog w = .ok (99, .agg #[h]) w := by kernel_rfl
theorem fp_methodImplements (h : Value) (w : World) : (Go.method 287 126 (.agg #[h]) "Implements").run Tryd.prog w = .ok (100, .agg #[h]) w := by kernel_rfl
theorem fp_methodAssignableTo (h : Value) (w : World) : (Go.method 287 126 (.agg #[h]) "AssignableTo").run Tryd.prog w = .ok (97, .agg #[h]) w := by kernel_rfl
theorem fp_elem (w : World) : (ReflectliteType.method ReflectliteType.elem #[.agg #[.pointer (some ⟨1, 73, none⟩)]]).run Tryd.prog w = .ok (.iface 126 (.agg #[.pointer (some ⟨1, 70, none⟩)])) w := by kernel_rfl
theorem fs_implements (w : World) : (ReflectliteType.relation "Implements" ReflectliteType.implements_ #[.agg #[.pointer (some ⟨1, 70, none⟩)], .iface 126 (.agg #[.pointer (some ⟨1, 30, none⟩)])]).run Tryd.prog w = .ok (.bool true) w := by kernel_rfl
theorem en_typeOf (v : Value) (w : World) : (ReflectliteType.typeOf #[.iface 58 v]).run Tryd.prog w = .ok (.iface 126 (.agg #[.pointer (some ⟨1, 58, none⟩)])) w := by kernel_rfl
theorem en_assignable (w : World) : (ReflectliteType.relation "AssignableTo" ReflectliteType.assignableTo #[.agg #[.pointer (some ⟨1, 58, none⟩)], .iface 126 (.agg #[.pointer (some ⟨1, 70, none⟩)])]).run Tryd.prog w = .ok (.bool false) w := by kernel_rfl
theorem en_noAs (v : Value) (xT : TypeId) (w : World) : (Instr.typeAssert (.iface 58 v) xT 130 true).run Tryd.prog w = .ok (.tuple #[.nilIface, .bool false]) w := run_typeAssert_lacksB Tryd.underlying130 (by kernel_rfl) (by kernel_rfl) v xT w
/-- The variable of package errors that errors.As reads. -/
def ErrType (w : World) : Prop := w.cell? ⟨0, 0, none⟩ = some (.iface 126 (.agg #[.pointer (some ⟨1, 30, none⟩)]))
theorem ErrType.lt {w : World} (h : ErrType w) : 0 < w.heap.size := by
  rcases Nat.eq_zero_or_pos w.heap.size with h0 | h1
  · unfold ErrType at h; simp [World.cell?, h0] at h
  · exact h1
theorem ErrType.below {w w' : World} (h : ErrType w) (hb : Below w.heap.size w w') : ErrType w' := below_heap hb h
set_option maxHeartbeats 4000000 in
theorem as_miss (n : Int) (t : Addr) (w : World) (hg : ErrType w) :
    Calls Tryd.prog 19 #[errN n, .iface 73 (.pointer (some t))] w fun ev w' => ev = .returned (.bool false) ∧ Below w.heap.size w w' := by
  have h6 := @run_callFunc_extern Tryd.prog 39 _ (fun args => ReflectliteValue.unpack (args.getD 0 (.tuple #[]))) Tryd.func39 (by kernel_rfl) (by kernel_rfl) (by kernel_rfl) (by kernel_rfl)
  have h7 := @run_callFunc_extern Tryd.prog 40 _ (ReflectliteValue.methodAny (ReflectliteValue.valueError "reflectlite.Value.Type" 0) (fun t _ _ _ => ReflectliteType.toType t)) Tryd.func40 (by kernel_rfl) (by kernel_rfl) (by kernel_rfl) (by kernel_rfl)
  have h8 := @run_callFunc_extern Tryd.prog 41 _ (ReflectliteValue.method (ReflectliteValue.valueError "reflectlite.Value.IsNil" 0) ReflectliteValue.isNil) Tryd.func41 (by kernel_rfl) (by kernel_rfl) (by kernel_rfl) (by kernel_rfl)
  have h27 := @run_callFunc_extern Tryd.prog 87 _ (ReflectliteType.abiMethod fun t => do pure (.int .u8 (← Rtype.kind t))) Tryd.func87 (by kernel_rfl) (by kernel_rfl) (by kernel_rfl) (by kernel_rfl)
  have h37 := @run_callFunc_extern Tryd.prog 99 _ (ReflectliteType.method ReflectliteType.elem) Tryd.func99 (by kernel_rfl) (by kernel_rfl) (by kernel_rfl) (by kernel_rfl)
  have h38 := @run_callFunc_extern Tryd.prog 100 _ (ReflectliteType.relation "Implements" ReflectliteType.implements_) Tryd.func100 (by kernel_rfl) (by kernel_rfl) (by kernel_rfl) (by kernel_rfl)
  have h10 := @run_callFunc_extern Tryd.prog 57 _ ReflectliteType.typeOf Tryd.func57 (by kernel_rfl) (by kernel_rfl) (by kernel_rfl) (by kernel_rfl)
  have h35 := @run_callFunc_extern Tryd.prog 97 _ (ReflectliteType.relation "AssignableTo" ReflectliteType.assignableTo) Tryd.func97 (by kernel_rfl) (by kernel_rfl) (by kernel_rfl) (by kernel_rfl)
  have tO := en_typeOf
  have mA := fp_methodAssignableTo
  have a25 := en_assignable
  have f6 := fp_valueOf
  have f7 := fp_type
  have mK := fp_methodKind
  have mE := fp_methodElem
  have mI := fp_methodImplements
  have k27 := fp_kind
  have k25 := fs_kind
  have e27 := fp_elem
  have i25 := fs_implements
  have nA := en_noAs
  have nU := err_noUnwrap
  have nV := err_noUnwraps
  have n8 := fp_isNil ⟨w.heap.size, 0, none⟩ t ((w.alloc (.cells #[.pointer (some t)] 73)).alloc (.cells #[.pointer (some ⟨1, 73, none⟩), .pointer (some ⟨w.heap.size, 0, none⟩), .int .u64 150] 95)) (by simp)
  have hlt := hg.lt
  unfold ErrType at hg
  have hg2 : ((w.alloc (.cells #[.pointer (some t)] 73)).alloc (.cells #[.pointer (some ⟨1, 73, none⟩), .pointer (some ⟨w.heap.size, 0, none⟩), .int .u64 150] 95)).cell? ⟨0, 0, none⟩ = some (.iface 126 (.agg #[.pointer (some ⟨1, 30, none⟩)])) := by
    rw [World.cell?_alloc_lt _ _ ⟨0, 0, none⟩ (by simp), World.cell?_alloc_lt _ _ ⟨0, 0, none⟩ hlt]; exact hg
  unfold errN
  go_enter Tryd.func19, Tryd.ntmps19
  go_wp2
  refine wp_loop_rounds 1 ?_
  rw [rounds_succ]
  go_wp2
  go_ret
  refine ⟨rfl, ?_⟩
  repeat (refine Below.alloc ?_ (by simp <;> omega) _)
  exact Below.refl _ _
theorem plain_nil (w : World) : Calls Tryd.prog 10 #[.nilIface, .int .i64 0] w fun e w' => e = .returned (.bool true) ∧ Below w.heap.size w w' := by
  have hb := below_alloc w (.cells #[.int .i64 0, .int .i64 0] 70)
  have HB := Lib.hid hb
  clear hb
  go_enter Tryd.func10, Tryd.ntmps10
  go_wp2_with fail
  refine (num_nil _).mono ?_
  rintro e w' ⟨rfl, rfl⟩
  go_wp2_with fail
  go_ret
  exact ⟨rfl, HB.out⟩
theorem plain_calls (n : Nat) (w : World) (h1 : 1 ≤ n) (h2 : n ≤ 24) (hg : ErrType w) : Calls Tryd.prog 10 #[errN n, .int .i64 (n : Int)] w fun e w' => e = .returned (.bool true) ∧ Below w.heap.size w w' := by
  have hb := below_alloc w (.cells #[.int .i64 0, .int .i64 0] 70)
  have HB := Lib.hid hb
  have HA := Lib.hid (as_miss (n : Int) ⟨w.heap.size, 0, none⟩ _ (hg.below hb))
  have HN := Lib.hid (fun w => num_calls n w h1 h2)
  clear hb hg
  unfold errN at HA HN ⊢
  go_enter Tryd.func10, Tryd.ntmps10
  go_wp2_with fail
  refine (HN.out _).mono ?_
  rintro e w' ⟨rfl, rfl⟩
  go_wp2_with fail
  refine HA.out.mono ?_
  rintro e w' ⟨rfl, hb2⟩
  have HB2 := Lib.hid (below_trans HB.out hb2)
  clear hb2
  go_wp2_with fail
  go_ret
  exact ⟨rfl, HB2.out⟩
end Go.Proofs.YtjoadcgegobjpaaDoor
/-
  lineagekit.Plain: of an error of package api, or none.
-/
namespace Go.Proofs.YtjoadcgegobjpaaDoor
open Go.RowKit
set_option maxRecDepth 100000

theorem plain_any (er : Int) (w : World) (h1 : 0 ≤ er) (h2 : er ≤ 24) (hg : ErrType w) : Calls Tryd.prog 10 #[errV er, .int .i64 er] w fun e w' => e = .returned (.bool true) ∧ Below w.heap.size w w' := by
  by_cases h0 : er = 0
  · subst h0
    exact plain_nil w
  · obtain ⟨n, rfl⟩ := Int.eq_ofNat_of_zero_le h1
    have e : errV (n : Int) = errN n := by unfold errV; rw [if_neg h0]; rfl
    have := plain_calls n w (by omega) (by omega) hg
    rw [← e] at this
    exact this
end Go.Proofs.YtjoadcgegobjpaaDoor
/-
  SameRaws: of two lists of raw writes that are the same it says so.
-/
namespace Go.Proofs.YtjoadcgegobjpaaDoor
open Go.RowKit
set_option maxRecDepth 100000

theorem sameRaws_calls (v v' : Value) (l : List (Int × ByteArray)) (w : World) (hv : Rd w v l.length (flatRaws l)) (hv' : Rd w v' l.length (flatRaws l)) :
    Calls Tryd.prog 29 #[v, v'] w fun e w' => e = .returned (.bool true) ∧ ∃ k, w' = w.drewN k := by
  have hlen := hv.len
  obtain ⟨a, cap, rfl, hc1, hc2, _, hc⟩ := hv
  obtain ⟨a', cap', rfl, hd1, hd2, _, hd⟩ := hv'
  have Hc := Lib.hid hc
  have Hd := Lib.hid hd
  clear hc hd
  go_enter Tryd.func29, Tryd.ntmps29
  go_wp2
  go_loopw [5] (fun i wr => ∃ k : Nat, k ≤ l.length ∧ i = .int .i64 k ∧ ∃ m, wr = w.drewN m) (fun i _ => l.length - (intOf i).toNat)
  case atStart => exact ⟨0, by omega, rfl, 0, rfl⟩
  case round =>
    obtain ⟨k, hk, rfl, m, rfl⟩ := hrel
    by_cases hlt : k < l.length
    · obtain ⟨fa, fb⟩ := flatRaws_at l k hlt
      obtain ⟨b, off, rfl, ha'⟩ := Hc.out (k * 2) (by rw [flatRaws_length]; omega)
      obtain ⟨b2, off2, e3, hb'⟩ := Hc.out (k * 2 + 1) (by rw [flatRaws_length]; omega)
      injection e3 with e3
      injection e3 with e4 e5
      subst e4; subst e5
      obtain ⟨c, ofc, rfl, hc'⟩ := Hd.out (k * 2) (by rw [flatRaws_length]; omega)
      obtain ⟨c2, ofc2, e3, hd'⟩ := Hd.out (k * 2 + 1) (by rw [flatRaws_length]; omega)
      injection e3 with e3
      injection e3 with e4 e5
      subst e4; subst e5
      rw [fa] at ha' hc'; rw [fb] at hb' hd'
      generalize l.getD k (0, ByteArray.empty) = r at *
      obtain ⟨ri, rs⟩ := r
      simp only at ha' hb' hc' hd'
      rw [← Nat.add_assoc] at hb' hd'
      have h1 : (0 : Int) ≤ (k : Int) := by omega
      have h2 : (k : Int) < (l.length : Int) := by omega
      clear Hc Hd fa fb
      go_wp2
      go_quiet (fail)
      go_wp2
      go_roundw
      case rel => exact ⟨k + 1, by omega, by go_num, _, rfl⟩
      case measure => simp [intOf]; omega
    · obtain rfl : k = l.length := by omega
      clear Hc Hd
      go_wp2
      go_ret
      exact ⟨rfl, m, rfl⟩
end Go.Proofs.YtjoadcgegobjpaaDoor
/-
  disk.Restore.
-/
namespace Go.Proofs.YtjoadcgegobjpaaDoor
open Go.RowKit
set_option maxRecDepth 100000

theorem restore_calls (d : DiskM) (p : Nat) (F : Nat → Prop) (w : World) (h : IsDisk w d p F) :
    Calls Tryd.prog 31 #[.pointer (some ⟨p, 0, none⟩)] w fun e w' => e = .returned (.tuple #[]) ∧ ∃ F', IsDisk w' { d with left := none } p F' ∧ Mod F w w' ∧ ∀ k, F' k → F k := by
  obtain ⟨F', g1, g2, g3⟩ := h.power (.func (.func 14) #[] #[]) none none ⟨rfl, rfl⟩ (fun k hk => by cases hk)
  obtain ⟨_, c0, c1, c2, hb⟩ := h.cells
  have hc := hb.cell 2 _ rfl
  have hf := hb.free 2
  clear h hb
  go_enter Tryd.func31, Tryd.ntmps31
  go_wp2
  go_end0
  refine ⟨rfl, F', g1, g2, fun k hk => ?_⟩
  rcases g3 k hk with h | h
  · exact h
  · cases h
end Go.Proofs.YtjoadcgegobjpaaDoor
/-
  The world of chapter 13's laws: a disk and its log, and the document's; it is opened again.
-/
namespace Go.Proofs.YtjoadcgegobjpaaDoor
open Go.RowKit
set_option maxRecDepth 100000

structure PlayW (W : World) (pw p rp c : Nat) (l : LogM) (pl pm : Nat) (d : DiskM) (F G : Nat → Prop) (wr : World) : Prop where
  dr : DR W p rp c d F G wr
  box : Box wr pw #[.pointer (some ⟨p, 0, none⟩), .pointer (some ⟨pl, 0, none⟩), .pointer (some ⟨rp, 0, none⟩), .pointer (some ⟨pm, 0, none⟩)] 45
  log : IsLog wr l pl p
  rlog : IsRLog wr l pm rp
  small : d.Small
  fit : l.base + l.n ≤ d.strs.length ∧ 1 ≤ l.n ∧ l.used ≤ l.n ∧ l.records ≤ l.used
  ids : (∀ k, F k ∨ G k → k ≠ pw ∧ k ≠ pl ∧ k ≠ pm) ∧ pw ≠ pl ∧ pw ≠ pm ∧ pl ≠ pm ∧ W.heap.size ≤ pw ∧ W.heap.size ≤ pl ∧ W.heap.size ≤ pm
theorem PlayW.aside {W : World} {pw p rp c : Nat} {l : LogM} {pl pm : Nat} {d : DiskM} {F G A : Nat → Prop} {wr w2 : World} (h : PlayW W pw p rp c l pl pm d F G wr) (hm : Mod A wr w2) (hx : ∀ k, F k ∨ G k ∨ k = pw ∨ k = pl ∨ k = pm → ¬ A k) (ha : ∀ k, A k → W.heap.size ≤ k) : PlayW W pw p rp c l pl pm d F G w2 :=
  ⟨h.dr.aside hm (fun k hk => hx k (by rcases hk with hk | hk; exact .inl hk; exact .inr (.inl hk))) ha, h.box.mod hm (hx pw (by simp)), Box.mod h.log hm (hx pl (by simp)), Box.mod h.rlog hm (hx pm (by simp)), h.small, h.fit, h.ids⟩
theorem PlayW.to {W : World} {pw p rp c : Nat} {l : LogM} {pl pm : Nat} {d : DiskM} {F G : Nat → Prop} {wr w2 : World} (h : PlayW W pw p rp c l pl pm d F G wr) (hb : Below wr.heap.size wr w2) : PlayW W pw p rp c l pl pm d F G w2 :=
  h.aside (Mod.of_below (F := fun _ => False) hb) (fun _ _ h => h) (fun _ h => h.elim)
/-- Both disks have turned. -/
theorem PlayW.turn {W : World} {pw p rp c c' : Nat} {l : LogM} {pl pm : Nat} {d d' : DiskM} {F G F' G' : Nat → Prop} {wr w1 w2 : World} (h : PlayW W pw p rp c l pl pm d F G wr) (hd : IsDisk w1 d' p F') (hm1 : Mod F wr w1) (hF : ∀ k, F' k → F k ∨ wr.heap.size ≤ k)
    (hr : IsRef w2 d' rp G') (hm2 : Mod G w1 w2) (hG : ∀ k, G' k → G k ∨ w1.heap.size ≤ k) (hw : d'.Wf) (hn : d'.strs.length = d.strs.length) (ht : d'.trail.length ≤ c') (hs : d'.Small) : PlayW W pw p rp c' l pl pm d' F' G' w2 := by
  obtain ⟨i1, i2, i3, i4, i5, i6, i7⟩ := h.ids
  have hs1 := hm1.size
  have l1 := h.box.lt
  have l2 := Box.lt h.log
  have l3 := Box.lt h.rlog
  refine ⟨h.dr.both hd hm1 hF hr hm2 hG hw (by rw [hn]; exact h.dr.small) ht, (h.box.mod hm1 (fun hf => (i1 pw (.inl hf)).1 rfl)).mod hm2 (fun hf => (i1 pw (.inr hf)).1 rfl), Box.mod (Box.mod h.log hm1 (fun hf => (i1 pl (.inl hf)).2.1 rfl)) hm2 (fun hf => (i1 pl (.inr hf)).2.1 rfl),
    Box.mod (Box.mod h.rlog hm1 (fun hf => (i1 pm (.inl hf)).2.2 rfl)) hm2 (fun hf => (i1 pm (.inr hf)).2.2 rfl), hs, by rw [hn]; exact h.fit, fun k hk => ?_, i2, i3, i4, i5, i6, i7⟩
  have : (F k ∨ G k) ∨ wr.heap.size ≤ k := by
    rcases hk with hk | hk
    · rcases hF k hk with hk | hk
      · exact .inl (.inl hk)
      · exact .inr hk
    · rcases hG k hk with hk | hk
      · exact .inl (.inr hk)
      · exact .inr (by omega)
  rcases this with hk | hk
  · exact i1 k hk
  · exact ⟨by omega, by omega, by omega⟩
/-- What a record holds. -/
def payOf (e : UInt32) (bl : List (List UInt8)) (i : Nat) : List UInt8 := ((payM e bl i).getD ([], 0)).1
theorem blks_len (d : DiskM) (base n : Nat) (h : base + n ≤ d.strs.length) : (d.blks base n).length = n := by
  unfold DiskM.blks
  rw [List.length_map, List.length_take, List.length_drop]; omega
theorem payOf_eq {e : UInt32} {bl : List (List UInt8)} {i : Nat} {p : List UInt8} {c : Nat} (h : payM e bl i = some (p, c)) : payOf e bl i = p := by unfold payOf; rw [h]; rfl
theorem payOf_len (e : UInt32) (bl : List (List UInt8)) (i : Nat) : (payOf e bl i).length ≤ 512 := by
  unfold payOf
  cases h : payM e bl i with
  | none => simp
  | some x =>
    obtain ⟨p, c⟩ := x
    unfold payM at h
    exact ((oneM_isOne e _ p c).1 h).1
/-- The payloads that were found, in memory of their own. -/
theorem found_apartB (e : UInt32) (bl : List (List UInt8)) (B b' : Nat) (pre : List (Nat × Value)) (w : World) (lsv : Value) (hf : Found e bl B pre w) (ho : w.ownsRow b' 46 1 lsv pre.length (pre.map (·.2))) (hB : B ≤ w.heap.size) (hN : pre.length ≤ 4000000) :
    Calls Tryd.prog 34 #[lsv] w fun e w' => e = .returned (.bool true) ∧ Mod (fun b => B ≤ b) w w' := by
  have hv : ∀ j (h : j < pre.length), (pre.map (·.2)).getD j undef = pre[j].2 := fun j h => by simp [List.getD, h]
  have hown : ∀ j, j < pre.length → OwnM w B 5 ((pre.map (·.2)).getD j undef) (payOf e bl j).length ((payOf e bl j).map V8) := fun j hj => by
    obtain ⟨_, p, k, hp, h⟩ := hf.row j pre[j] (List.getElem?_eq_getElem hj)
    rw [hv j hj, payOf_eq hp]; exact h
  refine (apartB_calls ⟨pre.length, fun j => (pre.map (·.2)).getD j undef, fun j => (payOf e bl j).length, B, 5⟩ lsv w rfl ⟨⟨fun j => (payOf e bl j).map V8, hown, fun j hj _ => by omega, fun _ => rfl⟩, fun j j' hj hj' hne => ?_, ?_, fun j hj => ?_, Mod.refl _ _, KeepsOthers.refl _⟩ hN (fun j _ => Nat.le_trans (payOf_len e bl j) (by omega)) (fun b hb => (ho.lt b hb).2) hB).mono (fun e w' h => ⟨h.1, h.2.1⟩)
  · have hj : j < pre.length := hj
    have hj' : j' < pre.length := hj'
    show Apart ((pre.map (·.2)).getD j undef) ((pre.map (·.2)).getD j' undef)
    rw [hv j hj, hv j' hj']
    rcases Nat.lt_or_gt_of_ne hne with h | h
    · exact hf.apart j j' _ _ h (List.getElem?_eq_getElem hj) (List.getElem?_eq_getElem hj')
    · exact (hf.apart j' j _ _ h (List.getElem?_eq_getElem hj') (List.getElem?_eq_getElem hj)).symm
  · have e1 : (List.range pre.length).map (fun j => (pre.map (·.2)).getD j undef) = pre.map (·.2) := by
      refine List.ext_getElem (by simp) (fun i h1 h2 => ?_)
      simp at h1
      simp [h1]
    show Rd w lsv pre.length ((List.range pre.length).map (fun j => (pre.map (·.2)).getD j undef))
    rw [e1]; exact rd_of_own ho
  · exact ((hown j hj).apart_row ho (by decide)).symm
set_option maxHeartbeats 1600000 in
theorem openW_calls (W : World) (pw p rp c : Nat) (l : LogM) (pl pm : Nat) (d : DiskM) (F G : Nat → Prop) (e : UInt32) (wr : World) (h : PlayW W pw p rp c l pl pm d F G wr) (hc : c ≤ 10000000) :
    Calls Tryd.prog 13 #[.pointer (some ⟨pw, 0, none⟩), .int .u32 (e.toNat : Int)] wr fun r w' => r = .returned (.bool true) ∧ ∃ (l' : LogM) (pl' pm' : Nat) (d' : DiskM) (F' G' : Nat → Prop), PlayW W pw p rp c l' pl' pm' d' F' G' w' := by
  have c0 := h.box.cell 0 _ rfl
  have H := Lib.hid h
  have Hc := Lib.hid hc
  clear h hc
  go_enter Tryd.func13, Tryd.ntmps13
  go_wp2_with fail
  refine (restore_calls d p F wr H.out.dr.disk).mono ?_
  rintro r w1 ⟨rfl, F1, g1, g2, g3⟩
  have i1 := H.out.ids.1
  have hb1 := H.out.box.mod g2 (fun hf => (i1 pw (.inl hf)).1 rfl)
  have c2 := hb1.cell 2 _ rfl
  have hcut := refCut_calls d rp G (-1) w1 (H.out.dr.ref.mod g2 (fun k hk hf => H.out.dr.fg k hf hk)) (by omega)
  rw [if_pos (show (-1 : Int) < 0 by decide)] at hcut
  have Hcut := Lib.hid hcut
  have HG := Lib.hid (And.intro g1 (And.intro g2 g3))
  clear c0 i1 hb1 hcut g1 g2 g3
  go_wp2_with fail
  refine Hcut.out.mono ?_
  rintro r w2 ⟨rfl, k1, k2⟩
  obtain ⟨d', hd'⟩ : ∃ d' : DiskM, d' = { d with left := none } := ⟨_, rfl⟩
  have hP2 : PlayW W pw p rp c l pl pm d' F1 G w2 := by
    have hwf := H.out.dr.wf
    rw [hd']
    exact H.out.turn HG.out.1 HG.out.2.1 (fun k hk => .inl (HG.out.2.2 k hk)) k1 k2 (fun k hk => .inl hk) ⟨hwf.inr, hwf.short, hwf.play⟩ rfl H.out.dr.trail H.out.small
  have HP2 := Lib.hid hP2
  clear k1 k2 hd' Hcut HG c2 H
  have b2 := hP2.box.cell 2 _ rfl
  have b3 := hP2.box.cell 3 _ rfl
  have q1 := Box.cell hP2.rlog 1 _ rfl
  have q2 := Box.cell hP2.rlog 2 _ rfl
  have HP3 := Lib.hid (hP2.to (below_drew w2))
  have f0 : w2.drew.cell? ⟨pw, 2, none⟩ = some (.pointer (some ⟨rp, 0, none⟩)) ∧ w2.drew.cell? ⟨pw, 3, none⟩ = some (.pointer (some ⟨pm, 0, none⟩)) ∧ w2.drew.cell? ⟨pm, 1, none⟩ = some (.int .i64 (l.base : Int)) ∧ w2.drew.cell? ⟨pm, 2, none⟩ = some (.int .i64 (l.n : Int)) := ⟨b2, b3, q1, q2⟩
  clear hP2 HP2
  have hsm : ∀ s ∈ d'.strs, s.size ≤ 256 := HP3.out.small
  have hfit := HP3.out.fit
  have Hro := Lib.hid (refLOpen_yes d' rp G l.base l.n e w2.drew HP3.out.dr.ref HP3.out.dr.small HP3.out.dr.wf (by have := HP3.out.dr.trail; have := Hc.out; omega) hfit.2.1 hfit.1 hsm)
  have Hsm := Lib.hid hsm
  have Hfit := Lib.hid hfit
  clear hsm hfit
  go_wp2_with fail
  go_region_held3 (fun w' => w'.cell? ⟨pw, 2, none⟩ = some (.pointer (some ⟨rp, 0, none⟩)) ∧ w'.cell? ⟨pw, 3, none⟩ = some (.pointer (some ⟨pm, 0, none⟩)) ∧ w'.cell? ⟨pm, 1, none⟩ = some (.int .i64 (l.base : Int)) ∧ w'.cell? ⟨pm, 2, none⟩ = some (.int .i64 (l.n : Int)))
    (first | with_reducible exact f0 | exact f1)
    (first | (go_at_call 32; refine Hro.out.mono ?_; rintro r w4 ⟨k, ov, ys, hno, rfl, hrd, hys, hpay, hb4, hrl⟩; have f1 : w4.cell? ⟨pw, 2, none⟩ = some (.pointer (some ⟨rp, 0, none⟩)) ∧ w4.cell? ⟨pw, 3, none⟩ = some (.pointer (some ⟨pm, 0, none⟩)) ∧ w4.cell? ⟨pm, 1, none⟩ = some (.int .i64 (l.base : Int)) ∧ w4.cell? ⟨pm, 2, none⟩ = some (.int .i64 (l.n : Int)) := ⟨below_heap hb4 f0.1, below_heap hb4 f0.2.1, below_heap hb4 f0.2.2.1, below_heap hb4 f0.2.2.2⟩))
  clear f0 f1
  have HP4 := Lib.hid (HP3.out.to hb4)
  have HR := Lib.hid (And.intro hno (And.intro hrd (And.intro hys (And.intro hpay hrl))))
  obtain ⟨pm', hpm'⟩ : ∃ pm', pm' = w2.drew.heap.size := ⟨_, rfl⟩
  have hb4s := hb4.size
  have Hpm := Lib.hid (show W.heap.size ≤ pm' ∧ (∀ k, F1 k ∨ G k ∨ k = pw → k < pm') from ⟨by rw [hpm']; exact HP3.out.dr.below.size, fun k hk => by
    rw [hpm']
    rcases hk with hk | hk | rfl
    · exact HP3.out.dr.disk.lt k hk
    · exact HP3.out.dr.ref.lt k hk
    · exact HP3.out.box.lt⟩)
  have hpm2 : pm' = w2.heap.size := hpm'
  rw [← hpm'] at HR
  rw [← hpm2]
  clear hpm2
  obtain ⟨oa, oc, rfl⟩ : ∃ a c, ov = .slice a k c := by obtain ⟨a, c, h, _⟩ := hrd; exact ⟨a, c, h⟩
  clear hno hrd hys hpay hb4 hrl Hro HP3 hpm' hb4s b2 b3 q1 q2
  have hP4 := HP4.out
  have b0 := hP4.box.cell 0 _ rfl
  have b3 := hP4.box.cell 3 _ rfl
  have q1 := Box.cell hP4.rlog 1 _ rfl
  have q2 := Box.cell hP4.rlog 2 _ rfl
  have hbd := below_drew w4
  have HP5 := Lib.hid (HP4.out.to hbd)
  have HR5 := Lib.hid (show payM e (d'.blks l.base l.n) k = none ∧ Rd w4.drew (.slice oa k oc) k ys ∧ ys.length = k ∧ (∀ i, i < k → ∃ p c, payM e (d'.blks l.base l.n) i = some (p, c) ∧ Rd w4.drew (ys.getD i undef) p.length (p.map V8)) ∧ IsRLog w4.drew ⟨l.base, l.n, e, posM e (d'.blks l.base l.n) k, k, false⟩ pm' rp from
    ⟨HR.out.1, HR.out.2.1.below hbd, HR.out.2.2.1, fun i hi => by obtain ⟨p, c, x1, x2⟩ := HR.out.2.2.2.1 i hi; exact ⟨p, c, x1, x2.below hbd⟩, Box.below HR.out.2.2.2.2 hbd⟩)
  have f0 : w4.drew.cell? ⟨pw, 0, none⟩ = some (.pointer (some ⟨p, 0, none⟩)) ∧ w4.drew.cell? ⟨pw, 3, none⟩ = some (.pointer (some ⟨pm, 0, none⟩)) ∧ w4.drew.cell? ⟨pm, 1, none⟩ = some (.int .i64 (l.base : Int)) ∧ w4.drew.cell? ⟨pm, 2, none⟩ = some (.int .i64 (l.n : Int)) := ⟨b0, b3, q1, q2⟩
  clear hP4 HP4 HR hbd
  have Hlo := Lib.hid (log_open_full d' p F1 l.base l.n e w4.drew HP5.out.dr.disk Hfit.out.2.1 Hfit.out.1 Hsm.out)
  go_wp2_with fail
  go_region_held3 (fun w' => w'.cell? ⟨pw, 0, none⟩ = some (.pointer (some ⟨p, 0, none⟩)) ∧ w'.cell? ⟨pw, 3, none⟩ = some (.pointer (some ⟨pm, 0, none⟩)) ∧ w'.cell? ⟨pm, 1, none⟩ = some (.int .i64 (l.base : Int)) ∧ w'.cell? ⟨pm, 2, none⟩ = some (.int .i64 (l.n : Int)))
    (first | with_reducible exact f0 | exact f1)
    (first | (go_at_call 9; refine Hlo.out.mono ?_; rintro r w6 ⟨ov2, pre, hno2, rfl, hfo, hov, hb6, hlg⟩; have f1 : w6.cell? ⟨pw, 0, none⟩ = some (.pointer (some ⟨p, 0, none⟩)) ∧ w6.cell? ⟨pw, 3, none⟩ = some (.pointer (some ⟨pm, 0, none⟩)) ∧ w6.cell? ⟨pm, 1, none⟩ = some (.int .i64 (l.base : Int)) ∧ w6.cell? ⟨pm, 2, none⟩ = some (.int .i64 (l.n : Int)) := ⟨below_heap hb6 f0.1, below_heap hb6 f0.2.1, below_heap hb6 f0.2.2.1, below_heap hb6 f0.2.2.2⟩))
  clear f0 f1 b0 b3 q1 q2
  have HP6 := Lib.hid (HP5.out.to hb6)
  obtain ⟨r1, r2, r3, r4, r5⟩ := HR5.out
  have ek : pre.length = k := by
    have h1 : k ≤ pre.length := pay_lt hno2 (fun i hi hc => by obtain ⟨p, c, x, _⟩ := r4 i hi; rw [x] at hc; cases hc)
    have h2 : pre.length ≤ k := pay_lt r1 (fun i hi hc => by obtain ⟨_, p, c, x, _⟩ := hfo.row i pre[i] (List.getElem?_eq_getElem hi); rw [x] at hc; cases hc)
    omega
  subst ek
  have hge : pre.length ≤ posM e (d'.blks l.base l.n) pre.length := posM_ge pre.length (fun i hi hc => by obtain ⟨p, c, x, _⟩ := r4 i hi; rw [x] at hc; cases hc)
  have hle := posM_le e (d'.blks l.base l.n) pre.length
  rw [blks_len d' _ _ Hfit.out.1] at hle
  have Hk := Lib.hid (show pre.length ≤ posM e (d'.blks l.base l.n) pre.length ∧ posM e (d'.blks l.base l.n) pre.length ≤ l.n from ⟨hge, hle⟩)
  obtain ⟨va, vc, rfl, _⟩ := own_slice hov
  have hsa := fun w7 (hb7 : Below w6.heap.size w6 w7) => same12_calls (.slice va pre.length vc) (.slice oa pre.length oc) (pre.map (·.2)) ys ((List.range pre.length).map (payOf e (d'.blks l.base l.n))) w7
    (by simp only [List.length_map, List.length_range]; exact (rd_of_own hov).below hb7) (by simp only [List.length_map, List.length_range]; exact (r2.below hb6).below hb7) (by simp) (by simp [r3])
    (fun i hi => by
      simp only [List.length_map, List.length_range] at hi
      obtain ⟨_, p, c, x, ho⟩ := hfo.row i pre[i] (List.getElem?_eq_getElem hi)
      have e1 : (pre.map (·.2)).getD i undef = pre[i].2 := by simp [List.getD, hi]
      have e2 : ((List.range pre.length).map (payOf e (d'.blks l.base l.n))).getD i [] = p := by rw [← payOf_eq x]; simp [List.getD, hi]
      rw [e1, e2]; exact ho.rd.below hb7)
    (fun i hi => by
      simp only [List.length_map, List.length_range] at hi
      obtain ⟨p, c, x, ho⟩ := r4 i hi
      have e2 : ((List.range pre.length).map (payOf e (d'.blks l.base l.n))).getD i [] = p := by rw [← payOf_eq x]; simp [List.getD, hi]
      rw [e2]; exact (ho.below hb6).below hb7)
  have HS := Lib.hid hsa
  obtain ⟨pl', hpl'⟩ : ∃ pl', pl' = w4.drew.heap.size := ⟨_, rfl⟩
  have hpm5 := Box.lt r5
  have hb6s := hb6.size
  have Hpl := Lib.hid (show pl' + 1 ≤ w6.heap.size ∧ pm' < pl' ∧ pw < pl' ∧ (∀ k, F1 k ∨ G k → k < pl') from ⟨by rw [hpl']; have := Box.lt hlg; omega, by rw [hpl']; exact hpm5, by rw [hpl']; exact HP5.out.box.lt, fun k hk => by
    rw [hpl']
    rcases hk with hk | hk
    · exact HP5.out.dr.disk.lt k hk
    · exact HP5.out.dr.ref.lt k hk⟩)
  have hpl2 : pl' = w4.heap.size := hpl'
  rw [← hpl'] at hfo hov hlg
  rw [← hpl2]
  clear hpl2
  have HF := Lib.hid hfo
  have HO := Lib.hid hov
  have HL6 := Lib.hid hlg
  have HM6 := Lib.hid (Box.below r5 hb6)
  clear hno2 hfo hov hb6 hlg r1 r2 r3 r4 r5 hge hle hsa hpl' hpm5 hb6s HR5 HP5 Hlo
  go_wp2_with fail
  refine (plain_nil _).mono ?_
  rintro r w7 ⟨rfl, hb7⟩
  have hF7 := HF.out.keep (fun x hx k hk hl => hb7.block k hl)
  have HS7 := Lib.hid (HS.out w7 hb7)
  have HP7 := Lib.hid (HP6.out.to hb7)
  have HF7 := Lib.hid hF7
  have HO7 := Lib.hid (own_below HO.out hb7)
  have HL7 := Lib.hid (Box.below HL6.out hb7)
  have HM7 := Lib.hid (Box.below HM6.out hb7)
  have Hs7 := Lib.hid hb7.size
  clear hF7 hb7 HS HP6 HF HO HL6 HM6
  go_wp2_with fail
  refine HS7.out.mono ?_
  rintro r w8 ⟨rfl, k8, rfl⟩
  have hb8 := below_drewN w7 k8
  have hz8 : (w7.drewN k8).heap.size = w7.heap.size := rfl
  have hF8 := HF7.out.keep (fun x hx k hk hl => hb8.block k hl)
  have hP8 := HP7.out.to hb8
  have hO8 := own_below HO7.out hb8
  have hL8 := Box.below HL7.out hb8
  have hM8 := Box.below HM7.out hb8
  have hsz : pl' + 1 ≤ (w7.drewN k8).heap.size := by have := Hpl.out.1; have := Hs7.out; omega
  generalize w7.drewN k8 = w8 at hF8 hP8 hO8 hL8 hM8 hsz ⊢
  clear hb8 hz8 HF7 HP7 HO7 HL7 HM7 HS7 Hs7
  have c1 := hP8.box.cell 1 _ rfl
  have f1 := hP8.box.free 1
  have s1 := hP8.box.set 1 (.pointer (some ⟨pl', 0, none⟩))
  have c3 := s1.cell 3 _ rfl
  have f3 := s1.free 3
  have s3 := s1.set 3 (.pointer (some ⟨pm', 0, none⟩))
  have hm := (Mod.set (fun b => b = pw) w8 ⟨pw, 1, none⟩ (.pointer (some ⟨pl', 0, none⟩)) rfl).trans (Mod.set (fun b => b = pw) _ ⟨pw, 3, none⟩ (.pointer (some ⟨pm', 0, none⟩)) rfl)
  have hne := Hpl.out
  have hids := hP8.ids
  have hP9 : PlayW W pw p rp c ⟨l.base, l.n, e, posM e (d'.blks l.base l.n) pre.length, pre.length, false⟩ pl' pm' d' F1 G ((w8.setCell ⟨pw, 1, none⟩ (.pointer (some ⟨pl', 0, none⟩))).setCell ⟨pw, 3, none⟩ (.pointer (some ⟨pm', 0, none⟩))) :=
    ⟨hP8.dr.aside hm (fun k hk e => (hids.1 k hk).1 e) (fun k e => e ▸ hids.2.2.2.2.1), s3, Box.mod hL8 hm (by omega), Box.mod hM8 hm (fun e => by have := Hpm.out.2 pw (.inr (.inr rfl)); omega), hP8.small, ⟨hP8.fit.1, hP8.fit.2.1, Hk.out.2, Hk.out.1⟩,
      fun k hk => ⟨(hids.1 k hk).1, by have := hne.2.2.2 k hk; omega, by have := Hpm.out.2 k (by rcases hk with hk | hk; exact .inl hk; exact .inr (.inl hk)); omega⟩, by omega, by have := Hpm.out.2 pw (.inr (.inr rfl)); omega, by omega, hids.2.2.2.2.1, by have := Hpm.out.1; omega, Hpm.out.1⟩
  have HP9 := Lib.hid hP9
  have hap := found_apartB e (d'.blks l.base l.n) (pl' + 1) (pl' + 1) pre _ (.slice va pre.length vc) (found_box hF8 hm (by omega)) (own_mod hO8 hm (fun q hq hqe => by have := (hO8.lt q hq).1; omega)) (by have := hm.size; omega) (by have := Hk.out; have := hP8.fit.1; have := hP8.dr.small; omega)
  have HAp := Lib.hid hap
  clear hF8 hP8 hO8 hL8 hM8 hsz s1 s3 hm hids hP9 hap
  go_wp2_with fail
  refine HAp.out.mono ?_
  rintro r wz ⟨rfl, hmz⟩
  have HZ := Lib.hid (HP9.out.aside hmz (fun k hk => by
    have h1 := Hpl.out
    rcases hk with hk | hk | rfl | rfl | rfl
    · have := h1.2.2.2 k (.inl hk); omega
    · have := h1.2.2.2 k (.inr hk); omega
    · omega
    · omega
    · omega) (fun k hk => by have := Hpm.out.1; have := Hpl.out.2.1; omega))
  clear hmz
  go_wp2_with fail
  go_ret
  exact ⟨rfl, _, _, _, _, _, _, HZ.out⟩
end Go.Proofs.YtjoadcgegobjpaaDoor
