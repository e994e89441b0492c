/-
  The walk of ApartTexts.
-/
import Derived.Test.YtefegebnohenaaaDoorKitT
import Derived.Outline
import Derived.Deep.LoopGhost
import Derived.Deep.RegionHeld3
namespace Go.Proofs.YtefegebnohenaaaDoor
open Go.RowKit

def mkT (k i : Nat) : Value := .string (SB (markT k i))
theorem Turn1.below {R : Rows0} {mk : Nat → Nat → Value} {lsv : Value} {w0 : World} {k i : Nat} {w w' : World} (h : Turn1 R mk lsv w0 k i w) (hb : Below w.heap.size w w') : Turn1 R mk lsv w0 k i w' := by
  obtain ⟨⟨xs, h1, h2, h3⟩, h4, h5, h6, h7⟩ := h
  exact ⟨⟨xs, fun j hj => own_below (h1 j hj) hb, h2, h3⟩, h4, h5.below hb, h6, h7.then (Mod.of_below (F := fun _ => False) hb) (fun _ h => h.elim)⟩
theorem appT1 {w : World} {ops : Array Oper} {rest : List Oper} {o : Oper} {a : Act} {Q : Exit → Act → World → Prop} (hgd : o.guard = none) (s x : Operand)
    (ho : o.op = .call { callee := .builtin .append, args := #[s, x], argTypes := #[25, 25] })
    (base : Nat) (v : Value) (n : Nat) (xs : List Value) (hs : a.eval s = v) (hown : w.ownsRow base 9 1 v n xs)
    (ad : Addr) (c : Nat) (y : Value) (hx : a.eval x = .slice (some ad) 1 c) (hy : w.cell? ad = some y) (h1 : y.oneCell' = true)
    (hroom : n + 1 ≤ 8796093022208) (hbase : base ≤ w.heap.size)
    (h : ∀ v' w', w'.ownsRow base 9 1 v' (n + 1) (xs ++ [y]) → w.grownBy w' v.ownBlock → Moved w v v' → Grew w w' v v' n → wpList Tryd.prog ops Q rest (a.put o.dst v') w') : wpList Tryd.prog ops Q (o :: rest) a w := by
  obtain ⟨i0, hi, hz0, hz1, hz2⟩ := info_parts info_str
  refine wpList_append_own3 hgd s x 25 ho base 9 i0 (.string ByteArray.empty) 1 16 Tryd.underlying25 hi hz0 hz1 hz2 rfl (by decide) v n xs hs hown ad c [y] hx rfl (fun j u hj => ?_) (by simpa using h1) (by unfold maxLen; omega) (by omega) hbase h
  cases j with
  | zero => simp at hj; subst hj; rw [show ad.add 0 = ad from by cases ad with | mk b o s => cases s <;> rfl]; exact hy
  | succ j => simp at hj
theorem info_texts : (Tryd.prog.info? 25).map (fun i => (i.zero, i.size, i.bytes)) = some (some (.slice none 0 0), 1, 24) := by kernel_rfl
theorem appTT {w : World} {ops : Array Oper} {rest : List Oper} {o : Oper} {a : Act} {Q : Exit → Act → World → Prop} (hgd : o.guard = none) (s x : Operand)
    (ho : o.op = .call { callee := .builtin .append, args := #[s, x], argTypes := #[35, 35] })
    (base : Nat) (v : Value) (n : Nat) (xs : List Value) (hs : a.eval s = v) (hown : w.ownsRow base 25 1 v n xs)
    (ad : Addr) (m c : Nat) (ys : List Value) (hx : a.eval x = .slice (some ad) m c) (hl : ys.length = m) (hy : ∀ j u, ys[j]? = some u → w.cell? (ad.add j) = some u) (h1 : ∀ u ∈ ys, u.oneCell' = true)
    (hroom : n + m ≤ 4398046511104) (hbase : base ≤ w.heap.size)
    (h : ∀ v' w', w'.ownsRow base 25 1 v' (n + m) (xs ++ ys) → w.grownBy w' v.ownBlock → Moved w v v' → wpList Tryd.prog ops Q rest (a.put o.dst v') w') : wpList Tryd.prog ops Q (o :: rest) a w := by
  obtain ⟨i0, hi, hz0, hz1, hz2⟩ := info_parts info_texts
  exact wpList_append_own2 hgd s x 35 ho base 25 i0 (.slice none 0 0) 1 24 Tryd.underlying35 hi hz0 hz1 hz2 rfl (by decide) v n xs hs hown ad m c ys hx (by omega) hy h1 (by unfold maxLen; omega) (by omega) hbase h
theorem Turn1.lsAt {R : Rows0} {mk : Nat → Nat → Value} {lsv : Value} {w0 : World} {k i : Nat} {w : World} (h : Turn1 R mk lsv w0 k i w) (hk : k < R.N) :
    ∃ b off cap, lsv = .slice (some ⟨b, off, none⟩) R.N cap ∧ w.cell? ⟨b, off + k, none⟩ = some (R.vs k) := by
  obtain ⟨b, off, cap, h1, h2⟩ := h.ls.at k (by simpa using hk)
  exact ⟨b, off, cap, h1, by rw [h2]; simp [List.getD, hk]⟩
theorem Turn1.slice {R : Rows0} {mk : Nat → Nat → Value} {lsv : Value} {w0 : World} {k i : Nat} {w : World} (h : Turn1 R mk lsv w0 k i w) (hk : k < R.N) : ∃ a c, R.vs k = .slice a (R.ns k) c := by
  obtain ⟨⟨xs, h1, _⟩, _⟩ := h
  obtain ⟨a, c, e, _⟩ := own_slice (h1 k hk)
  exact ⟨a, c, e⟩
theorem Turn2.at {R : Rows0} {mk : Nat → Nat → Value} {lsv : Value} {w0 : World} {E : TypeId} {k i : Nat} {gsv g : Value} {gl : List Value} {w : World} (h : Turn2 R mk lsv w0 E k gsv gl g i w) (hk : k < R.N) :
    (∃ b off cap, lsv = .slice (some ⟨b, off, none⟩) R.N cap ∧ w.cell? ⟨b, off + k, none⟩ = some (R.vs k)) ∧ w.ownsRow R.B R.e 1 g (R.ns k + i) (marksOf mk k (R.ns k + i)) ∧ ∃ a c, R.vs k = .slice a (R.ns k) c := by
  obtain ⟨b, off, cap, h1, h2⟩ := h.ls.at k (by simpa using hk)
  obtain ⟨a, c, h3, _⟩ := h.rd k hk
  obtain ⟨gv, _, _, h4, _⟩ := h.own
  exact ⟨⟨b, off, cap, h1, by rw [h2]; simp [List.getD, hk]⟩, (h4 hk).2.1, a, c, h3⟩
theorem Turn3.at {R : Rows0} {mk : Nat → Nat → Value} {lsv gsv : Value} {gl : List Value} {w : World} (h : Turn3 R mk lsv gsv gl w) (k : Nat) (hk : k < R.N) :
    (∃ b off cap, lsv = .slice (some ⟨b, off, none⟩) R.N cap ∧ w.cell? ⟨b, off + k, none⟩ = some (R.vs k)) ∧ (∃ a c, R.vs k = .slice a (R.ns k) c ∧ ∀ i, i < R.ns k → ∃ b off, a = some ⟨b, off, none⟩ ∧ w.cell? ⟨b, off + i, none⟩ = some (mk k i)) ∧
    ∃ g, (∃ b off cap, gsv = .slice (some ⟨b, off, none⟩) R.N cap ∧ w.cell? ⟨b, off + k, none⟩ = some g) ∧ (∃ b off c, g = .slice (some ⟨b, off, none⟩) (R.ns k + 64) c ∧ ∀ i, i < R.ns k + 64 → w.cell? ⟨b, off + i, none⟩ = some (mk k i)) := by
  obtain ⟨b, off, cap, h1, h2⟩ := h.ls.at k (by simpa using hk)
  obtain ⟨b', off', cap', h3, h4⟩ := h.gs.at k (by rw [h.len]; exact hk)
  obtain ⟨a, c, h5, _, _, _, h6⟩ := h.rd k hk
  obtain ⟨b2, off2, c2, h7, _⟩ := (h.gd k hk).at 0 (by rw [marksOf_length]; omega)
  refine ⟨⟨b, off, cap, h1, by rw [h2]; simp [List.getD, hk]⟩, ⟨a, c, h5, fun i hi => ?_⟩, _, ⟨b', off', cap', h3, h4⟩, b2, off2, c2, h7, fun i hi => ?_⟩
  · obtain ⟨b, off, e1, e2⟩ := h6 i (by rw [marksOf_length]; exact hi)
    exact ⟨b, off, e1, by rw [e2, marksOf_get _ _ _ _ hi]⟩
  · obtain ⟨b3, off3, c3, h8, h9⟩ := (h.gd k hk).at i (by rw [marksOf_length]; exact hi)
    rw [h7] at h8
    injection h8 with h8; injection h8 with h8; injection h8 with e1 e2
    subst e1; subst e2
    rw [h9, marksOf_get _ _ _ _ hi]
set_option maxRecDepth 100000 in
set_option maxHeartbeats 3200000 in
theorem apartT_calls (R : Rows0) (lsv : Value) (w : World) (he : R.e = 9) (h : Turn1 R mkT lsv w 0 0 w) (hN : R.N ≤ 1000000) (hns : ∀ j, j < R.N → R.ns j ≤ 1000000000000) (hl : ∀ b, lsv.ownBlock = some b → b < w.heap.size) (hB : R.B ≤ w.heap.size) :
    Calls Tryd.prog 10 #[lsv] w fun e w' => e = .returned (.bool true) ∧ Mod (fun b => R.B ≤ b) w w' := by
  obtain ⟨la, lc, e1⟩ : ∃ a c, lsv = .slice a R.N c := by obtain ⟨a, c, e, _⟩ := h.ls; exact ⟨a, c, e⟩
  have Hl := Lib.hid hl
  have H := Lib.hid h
  have HB := Lib.hid hB
  have He := Lib.hid he
  have Hns := Lib.hid hns
  clear hl h hB he hns
  subst e1
  go_enter Tryd.func10, Tryd.ntmps10
  go_wp2_with fail
  go_loopg [3] R.N (fun gk kv wr => ∃ k : Nat, gk + k = R.N ∧ kv = .int .i64 (k : Int) ∧ Turn1 R mkT (.slice la R.N lc) w k 0 wr)
  case atStart => exact ⟨0, rfl, rfl, H.out⟩
  case round =>
    clear H
    obtain ⟨k, hgk, rfl, hT⟩ := hrel
    by_cases hk : k < R.N
    · have hns := Hns.out k hk
      obtain ⟨b, off, cap, e1, hc⟩ := hT.lsAt hk
      obtain ⟨a, c, e2⟩ := hT.slice hk
      rw [e2] at hc
      injection e1 with e3 _ e4
      subst e3
      subst e4
      have hk0 : (0 : Int) ≤ (k : Int) := by omega
      have hk1 : (k : Int) < (R.N : Int) := by omega
      have HT := Lib.hid hT
      have Hgk := Lib.hid hgk
      have E2 := Lib.hid e2
      clear hT hgk e2 Hns
      go_wp2_with fail
      obtain ⟨n, hn⟩ : ∃ n, n = R.ns k := ⟨_, rfl⟩
      rw [← hn] at hc hns
      have Hn := Lib.hid hn
      clear hn
      obtain ⟨wo, rfl⟩ : ∃ wo : World, wo = wr := ⟨_, rfl⟩
      go_loopg [4] n (fun gi iv wr => ∃ i : Nat, gi + i = n ∧ iv = .int .i64 (i : Int) ∧ Turn1 R mkT (.slice (some ⟨b, off, none⟩) R.N lc) w k i wr)
      case atStart => exact ⟨0, rfl, rfl, HT.out⟩
      case round =>
        clear HT hc
        obtain ⟨i, hgi, rfl, hT⟩ := hrel
        have hc : wr.cell? ⟨b, off + k, none⟩ = some (.slice a n c) := by
          obtain ⟨b', off', cap', e1, hc⟩ := hT.lsAt hk
          injection e1 with e1; injection e1 with e1; injection e1 with e5 e6
          subst e5; subst e6
          rw [hc, E2.out, Hn.out]
        have Hgi := Lib.hid hgi
        by_cases hi : i < n
        · obtain ⟨g, cap', e5, ⟨y, hy⟩, hf, hT'⟩ := hT.row hk (by rw [← Hn.out]; exact hi)
          rw [E2.out, ← Hn.out] at e5
          injection e5 with e5 _ e6
          subst e5
          subst e6
          have hi0 : (0 : Int) ≤ (i : Int) := by omega
          have hi1 : (i : Int) < (n : Int) := by omega
          obtain ⟨mv, hmv⟩ : ∃ mv, mv = SB (markT k i) := ⟨_, rfl⟩
          have hmk : mkT k i = .string mv := by rw [hmv]; rfl
          have hrow : ∀ w5, Below wr.heap.size wr w5 → w5.cell? ⟨b, off + k, none⟩ = some (.slice (some ⟨g, 0, none⟩) n c) ∧ (∃ y, w5.cell? ⟨g, i, none⟩ = some y) ∧ w5.frozen? ⟨g, i, none⟩ = false ∧ Turn1 R mkT (.slice (some ⟨b, off, none⟩) R.N lc) w k (i + 1) (w5.setCell ⟨g, i, none⟩ (.string mv)) ∧ (w5.setCell ⟨g, i, none⟩ (.string mv)).cell? ⟨b, off + k, none⟩ = some (.slice (some ⟨g, 0, none⟩) n c) := fun w5 hb5 => by
            have hT5 := hT.below hb5
            obtain ⟨g', cap', e5, hy5, hf5, hT6⟩ := hT5.row hk (by rw [← Hn.out]; exact hi)
            rw [E2.out, ← Hn.out] at e5
            injection e5 with e5 _ e6
            injection e5 with e5
            injection e5 with e5
            subst e5
            rw [hmk] at hT6
            refine ⟨below_heap hb5 hc, hy5, hf5, hT6, ?_⟩
            obtain ⟨b', off', cap', e1, hc6⟩ := hT6.lsAt hk
            injection e1 with e1; injection e1 with e1; injection e1 with e5 e6
            subst e5; subst e6
            rw [hc6, E2.out, Hn.out]
          have hmc : ∀ w4, Below wr.heap.size wr w4 → Calls Tryd.prog 20 #[.int .i64 (k : Int), .int .i64 (i : Int)] w4 fun e w5 => e = .returned (.string mv) ∧ Below wr.heap.size wr w5 ∧ w5.cell? ⟨b, off + k, none⟩ = some (.slice (some ⟨g, 0, none⟩) n c) ∧ (∃ y, w5.cell? ⟨g, i, none⟩ = some y) ∧ w5.frozen? ⟨g, i, none⟩ = false ∧ (w5.setCell ⟨g, i, none⟩ (.string mv)).cell? ⟨b, off + k, none⟩ = some (.slice (some ⟨g, 0, none⟩) n c) := fun w4 hb4 =>
            (markT_calls k i w4).mono (fun e w5 ⟨h1, h2⟩ => by
              have h3 := below_trans hb4 h2
              obtain ⟨g1, g2, g3, _, g5⟩ := hrow w5 h3
              exact ⟨by rw [h1, hmv], h3, g1, g2, g3, g5⟩)
          have Hmc := Lib.hid hmc
          have HT' := Lib.hid (fun w5 hb5 => (hrow w5 hb5).2.2.2.1)
          clear hT hgi hT' hmc hmv hrow hmk
          go_wp2_with fail
          go_region_held3 (fun w' => w'.cell? ⟨b, off + k, none⟩ = some (.slice (some ⟨g, 0, none⟩) n c))
            (first | assumption | exact hc | exact hk6)
            (first | (go_at_call 20; refine (Hmc.out _ (below_drew _)).mono ?_; rintro e w5 ⟨rfl, hb5, hk5, ⟨y5, hy5⟩, hf5, hk6⟩))
          have HT5 := Lib.hid (HT'.out _ hb5)
          clear hb5 hk5 hy5 hf5 hk6 HT' Hmc
          go_wp2_with fail
          go_roundg (n - (i + 1))
          case measure => have := Hgi.out; omega
          case rel => exact ⟨i + 1, by have := Hgi.out; omega, by go_num, HT5.out⟩
        · obtain rfl : i = n := by omega
          rw [Hn.out] at hT
          have HT := Lib.hid (hT.next hk)
          clear hT hgi
          go_wp2_with fail
          go_roundg (R.N - (k + 1))
          case measure => have := Hgk.out; omega
          case rel => exact ⟨k + 1, by have := Hgk.out; omega, by go_num, HT.out⟩
    · obtain rfl : k = R.N := by omega
      have hs0 := hT.mod.size
      have hT2 := hT.two (E := 25) (fun b hb => Nat.lt_of_lt_of_le (Hl.out b hb) hs0) (Nat.le_trans HB.out hs0)
      have HT := Lib.hid hT2
      clear hT hgk hT2 Hl HB hs0
      go_wp2_with fail
      obtain ⟨wo, rfl⟩ : ∃ wo : World, wo = wr := ⟨_, rfl⟩
      go_loopg [5, 6] R.N (fun gk gsv kv wr => ∃ (k : Nat) (gl : List Value), gk + k = R.N ∧ kv = .int .i64 (k : Int) ∧ Turn2 R mkT (.slice la R.N lc) w 25 k gsv gl (R.vs k) 0 wr)
      case atStart => exact ⟨0, [], rfl, rfl, HT.out⟩
      case round =>
        clear HT
        obtain ⟨k, gl, hgk, rfl, hT⟩ := hrel
        by_cases hk : k < R.N
        · have hns := Hns.out k hk
          obtain ⟨⟨b, off, cap, e1, hc⟩, _, a, c, e2⟩ := hT.at hk
          rw [e2] at hc hT
          injection e1 with e3 _ e4
          subst e3
          subst e4
          have hk0 : (0 : Int) ≤ (k : Int) := by omega
          have hk1 : (k : Int) < (R.N : Int) := by omega
          obtain ⟨n, hn⟩ : ∃ n, n = R.ns k := ⟨_, rfl⟩
          rw [← hn] at hc hns e2 hT
          have HT := Lib.hid hT
          have Hgk := Lib.hid hgk
          have Hn := Lib.hid hn
          have E2 := Lib.hid e2
          clear hT hgk e2 hn
          go_wp2_with fail
          obtain ⟨wo, rfl⟩ : ∃ wo : World, wo = wr := ⟨_, rfl⟩
          go_loopg [7, 8] 64 (fun gi gv iv wr => ∃ i : Nat, gi + i = 64 ∧ iv = .int .i64 (i : Int) ∧ Turn2 R mkT (.slice (some ⟨b, off, none⟩) R.N lc) w 25 k u5 gl gv i wr)
          case atStart => exact ⟨0, rfl, rfl, HT.out⟩
          case round =>
            clear HT hc
            obtain ⟨i, hgi, rfl, hT⟩ := hrel
            have hown := (hT.at hk).2.1
            have hc : wr.cell? ⟨b, off + k, none⟩ = some (.slice a n c) := by
              obtain ⟨⟨b', off', cap', e1, hc⟩, _⟩ := hT.at hk
              injection e1 with e1; injection e1 with e1; injection e1 with e5 e6
              subst e5; subst e6
              rw [hc, E2.out]
            have Hgi := Lib.hid hgi
            by_cases hi : i < 64
            · obtain ⟨mv, hmv⟩ : ∃ mv, mv = SB (markT k (n + i : Nat)) := ⟨_, rfl⟩
              have hmk : mkT k (n + i) = .string mv := by rw [hmv]; rfl
              have hmc := fun w => markT_calls k (n + i : Nat) w
              rw [← hmv, Int.natCast_add] at hmc
              have hB2 := hT.le
              have hi1 : (i : Int) < 64 := by omega
              have HT0 := Lib.hid hT
              have HOw := Lib.hid hown
              have Hmc := Lib.hid hmc
              have Hmv := Lib.hid hmk
              clear hT hgi hmc hmv hown hmk
              go_wp2_with fail
              refine (Hmc.out _).mono ?_
              rintro e w5 ⟨rfl, hb5⟩
              have hba := below_trans hb5 (below_alloc w5 (.cells #[.string mv] 9))
              have hownA := own_below HOw.out hba
              rw [He.out, ← Hn.out] at hownA
              have HownA := Lib.hid hownA
              have Hb2 := Lib.hid (HT0.out.below hba)
              have Hs5 := Lib.hid (Nat.le_trans hB2 hba.size)
              clear hb5 hba hownA
              go_wp2_with (at_builtin; refine appT1 rfl _ _ rfl R.B _ _ _ rfl HownA.out ⟨w5.heap.size, 0, none⟩ 1 (.string mv) rfl (by simp) rfl (by omega) Hs5.out ?_)
              intro v' w1 hown' hg' hm' hgr'
              rw [← He.out, ← Hmv.out, Hn.out] at hown'
              rw [Hn.out] at hgr'
              have hT' := Hb2.out.step hk hown' hg' hm' hgr'
              have HT' := Lib.hid hT'
              clear hown' hg' hm' hgr' hT'
              go_wp2_with fail
              go_roundg (64 - (i + 1))
              case measure => have := Hgi.out; omega
              case rel => exact ⟨i + 1, by have := Hgi.out; omega, by go_num, HT'.out⟩
            · obtain rfl : i = 64 := by omega
              obtain ⟨ga, gc, e7, _⟩ := own_slice hown
              subst e7
              have hB2 := hT.le
              have hgs := hT.gs
              rw [show min k R.N = k by omega] at hgs
              obtain ⟨m, hm⟩ : ∃ m, m = R.ns k + 64 := ⟨_, rfl⟩
              rw [← hm] at hT
              have hownA := hgs.alloc (.cells #[.slice ga m gc] 25)
              have hb2 := hT.below (below_alloc wr (.cells #[.slice ga m gc] 25))
              have HownA := Lib.hid hownA
              have Hb2 := Lib.hid hb2
              rw [← hm]
              clear hT hgi hown hb2 hownA hgs hm
              go_wp2_with (at_builtin; refine appTT rfl _ _ rfl R.B _ _ _ rfl HownA.out ⟨wr.heap.size, 0, none⟩ 1 1 [.slice ga m gc] rfl rfl (cell_one_new _ _ _) (by simp [Value.oneCell']) (by omega) (by simp; omega) ?_)
              intro v' w1 hown' hg' hm'
              have hT' := Hb2.out.next hk hown' hg' hm'
              have HT' := Lib.hid hT'
              clear hown' hg' hm' hT'
              go_wp2_with fail
              go_roundg (R.N - (k + 1))
              case measure => have := Hgk.out; omega
              case rel => exact ⟨k + 1, _, by have := Hgk.out; omega, by go_num, HT'.out⟩
        · obtain rfl : k = R.N := by omega
          have hT3 := hT.three
          have hmod := hT.mod
          have Hmod := Lib.hid hmod
          have HT := Lib.hid hT3
          obtain ⟨ga, gc, rfl⟩ : ∃ a c, u5 = .slice a R.N c := by obtain ⟨a, c, e, _⟩ := hT3.gs; exact ⟨a, c, e⟩
          clear hT hT3 hgk hmod
          go_wp2_with fail
          obtain ⟨wo, rfl⟩ : ∃ wo : World, wo = wr := ⟨_, rfl⟩
          go_loopg [9] R.N (fun gk kv wr' => ∃ k : Nat, gk + k = R.N ∧ kv = .int .i64 (k : Int) ∧ Below wo.heap.size wo wr')
          case atStart => exact ⟨0, rfl, rfl, Below.refl _ _⟩
          case round =>
            obtain ⟨k, hgk, rfl, hb3⟩ := hrel
            by_cases hk : k < R.N
            · have hns := Hns.out k hk
              obtain ⟨⟨b, off, cap, e1, hc⟩, ⟨a, c, e2, hv⟩, g, ⟨b3, off3, cap3, e3, hd⟩, b4, off4, c4, rfl, hw⟩ := (HT.out.below hb3).at k hk
              rw [e2] at hc
              injection e1 with e4 _ e5
              injection e3 with e6 _ e7
              subst e4; subst e5; subst e6; subst e7
              obtain ⟨n, hn⟩ : ∃ n, n = R.ns k := ⟨_, rfl⟩
              rw [← hn] at hc hns hv hw hd
              have Hv := Lib.hid hv
              have Hw := Lib.hid hw
              have Hgk := Lib.hid hgk
              have hk0 : (0 : Int) ≤ (k : Int) := by omega
              have hk1 : (k : Int) < (R.N : Int) := by omega
              have HB3 := Lib.hid hb3
              clear hv hw hgk e2 hn HT hb3
              go_wp2_with fail
              obtain ⟨wq, hwq⟩ : ∃ wq : World, wq = wr := ⟨_, rfl⟩
              rw [← hwq] at hc hd Hv Hw HB3 ⊢
              clear hwq
              go_loopg [10] (n + 64) (fun gi iv wr' => ∃ i : Nat, gi + i = n + 64 ∧ iv = .int .i64 (i : Int) ∧ Below wq.heap.size wq wr')
              case atStart => exact ⟨0, rfl, rfl, Below.refl _ _⟩
              case round =>
                obtain ⟨i, hgi, rfl, hb4⟩ := hrel
                have Hgi := Lib.hid hgi
                clear hgi
                have hi0 : (0 : Int) ≤ (i : Int) := by omega
                by_cases hi : i < n + 64
                · have hwc := Hw.out i hi
                  obtain ⟨mv, hmv⟩ : ∃ mv, mv = SB (markT k i) := ⟨_, rfl⟩
                  have hmk : mkT k i = .string mv := by rw [hmv]; rfl
                  have hmc := fun w => markT_calls k i w
                  rw [← hmv] at hmc
                  rw [hmk] at hwc
                  have Hmc := Lib.hid hmc
                  have p1 := below_heap hb4 hc
                  have p2 := below_heap hb4 hd
                  have p3 := below_heap hb4 hwc
                  have HB4 := Lib.hid hb4
                  have hi3 : (i : Int) < (n : Int) + 64 := by omega
                  clear hmc hmv hc hd hwc hb4
                  by_cases hin : i < n
                  · obtain ⟨b5, off5, rfl, hvc⟩ := Hv.out i hin
                    rw [hmk] at hvc
                    have p4 := below_heap HB4.out hvc
                    have hi4 : (i : Int) < (n : Int) := by omega
                    clear Hv Hw hmk hvc
                    go_wp2_with fail
                    refine (Hmc.out _).mono ?_
                    rintro e w5 ⟨rfl, hb5⟩
                    have q1 := below_heap hb5 p1
                    have q2 := below_heap hb5 p2
                    have q3 := below_heap hb5 p3
                    have q4 := below_heap hb5 p4
                    have HB6 := Lib.hid (below_trans HB4.out hb5)
                    clear hb5 p1 p2 p3 p4
                    go_wp2_with fail
                    go_roundg (n + 64 - (i + 1))
                    case measure => have := Hgi.out; omega
                    case rel => exact ⟨i + 1, by have := Hgi.out; omega, by go_num, HB6.out⟩
                  · have hi4 : decide ((i : Int) < (n : Int)) = false := by simp; omega
                    clear Hv Hw hmk
                    go_wp2_with fail
                    refine (Hmc.out _).mono ?_
                    rintro e w5 ⟨rfl, hb5⟩
                    have q1 := below_heap hb5 p1
                    have q2 := below_heap hb5 p2
                    have q3 := below_heap hb5 p3
                    have HB6 := Lib.hid (below_trans HB4.out hb5)
                    clear hb5 p1 p2 p3
                    go_wp2_with fail
                    go_roundg (n + 64 - (i + 1))
                    case measure => have := Hgi.out; omega
                    case rel => exact ⟨i + 1, by have := Hgi.out; omega, by go_num, HB6.out⟩
                · obtain rfl : i = n + 64 := by have := Hgi.out; omega
                  have HB7 := Lib.hid (HB3.out.trans (hb4.mono HB3.out.size))
                  have p1 := below_heap hb4 hc
                  have p2 := below_heap hb4 hd
                  clear Hv Hw hb4 hc hd
                  go_wp2_with fail
                  go_roundg (R.N - (k + 1))
                  case measure => have := Hgk.out; omega
                  case rel => exact ⟨k + 1, by have := Hgk.out; omega, by go_num, HB7.out⟩
            · obtain rfl : k = R.N := by omega
              have HB7 := Lib.hid hb3
              clear HT hgk hb3
              go_wp2_with fail
              go_ret
              exact ⟨rfl, Hmod.out.then (Mod.of_below (F := fun _ => False) HB7.out) (fun _ h => h.elim)⟩
end Go.Proofs.YtefegebnohenaaaDoor
