/-
  The walk of ApartRaws: rows of raw writes that were handed out have memory of their own.
-/
import Derived.Test.YtmlckfdjiljjhaaDoorApartS
import Derived.Test.YtmlckfdjiljjhaaDoorMarkT
import Derived.Test.YtmlckfdjiljjhaaDoorDisk
import Derived.Outline
import Derived.BigQuiet
import Derived.Deep.LoopGhost
import Derived.Deep.RegionHeld3
namespace Go.Proofs.YtmlckfdjiljjhaaDoor
open Go.RowKit
set_option maxRecDepth 100000

def mkR (k i : Nat) : List Value := [.int .i64 (-7 - (k : Int)), .string (SB (markT k i))]
theorem markR_calls (k : Nat) (i : Int) (w : World) (hk : k ≤ 1000000000) (_hi : 0 ≤ i) :
    Calls Tryd.prog 57 #[.int .i64 (k : Int), .int .i64 i] w fun e w' => e = .returned (.agg #[.int .i64 (-7 - (k : Int)), .string (SB (markT k i))]) ∧ Below w.heap.size w w' := by
  have hba := below_alloc w (.cells #[.int .i64 0, .string ByteArray.empty] 53)
  go_enter Tryd.func57, Tryd.ntmps57
  go_wp2_with fail
  refine (markText_calls k i _).mono ?_
  rintro e w1 ⟨rfl, hb1⟩
  have hx := (Box.new w #[.int .i64 0, .string ByteArray.empty] 53).below hb1
  have x0 := hx.cell 0 _ rfl
  have x1 := hx.cell 1 _ rfl
  have f0 := hx.free 0
  have f1 := hx.free 1
  have HB := Lib.hid (hba.trans (hb1.mono hba.size))
  have Hx := Lib.hid ((hx.set 0 (.int .i64 (-7 - (k : Int)))).set 1 (.string (SB (markT k i))))
  clear hba hb1 hx
  go_wp2_with fail
  refine ret_cell rfl rfl w.heap.size 0 rfl [.int .i64 (-7 - (k : Int)), .string (SB (markT k i))] _ (fun j v hv => ?_) Tryd.underlying53 rfl (by kernel_rfl) ⟨rfl, (HB.out.setCell (Nat.le_refl _) _).setCell (Nat.le_refl _) _⟩
  rw [Nat.zero_add]
  exact Hx.out.cell j v (by rw [← Array.getElem?_toList]; exact hv)
theorem Turn1S.below {R : RowsS} {lsv : Value} {w0 : World} {k i : Nat} {w w' : World} (h : Turn1S R lsv w0 k i w) (hb : Below w.heap.size w w') : Turn1S R lsv w0 k i w' := by
  obtain ⟨⟨xs, h1, h2, h3⟩, h4, h5, h6, h7⟩ := h
  exact ⟨⟨xs, fun j hj => own_below (h1 j hj) hb, h2, h3⟩, h4, h5.below hb, h6, h7.then (Mod.of_below (F := fun _ => False) hb) (fun _ h => h.elim)⟩
theorem cells_two_new (w : World) (x y : Value) (t : TypeId) : ∀ j u, [x, y][j]? = some u → (w.alloc (.cells #[x, y] t)).cell? ((⟨w.heap.size, 0, none⟩ : Addr).add j) = some u := by
  intro j u hj
  rw [Go.WideShapes.add_plain, Nat.zero_add]
  refine (Box.new w #[x, y] t).cell j u ?_
  rw [← Array.getElem?_toList]; exact hj
theorem appR1 {w : World} {ops : Array Oper} {rest : List Oper} {o : Oper} {a : Act} {Q : Exit → Act → World → Prop} (hgd : o.guard = none) (s x : Operand)
    (ho : o.op = .call { callee := .builtin .append, args := #[s, x], argTypes := #[57, 57] })
    (base : Nat) (v : Value) (n : Nat) (xs : List Value) (hs : a.eval s = v) (hown : w.ownsRow base 53 2 v n xs)
    (ad : Addr) (c : Nat) (mi : Int) (mv : ByteArray) (hx : a.eval x = .slice (some ad) 1 c) (hy : ∀ j u, [Value.int .i64 mi, .string mv][j]? = some u → w.cell? (ad.add j) = some u)
    (hroom : n + 1 ≤ 2199023255552) (hbase : base ≤ w.heap.size)
    (h : ∀ v' w', w'.ownsRow base 53 2 v' (n + 1) (xs ++ [.int .i64 mi, .string mv]) → w.grownBy w' v.ownBlock → Moved w v v' → Grew w w' v v' n → wpList Tryd.prog ops Q rest (a.put o.dst v') w') : wpList Tryd.prog ops Q (o :: rest) a w := by
  obtain ⟨i0, hi, hz0, hz1, hz2⟩ := info_parts info_raw
  exact wpList_append_own3 hgd s x 57 ho base 53 i0 _ 2 24 Tryd.underlying57 hi hz0 hz1 hz2 rfl (by decide) v n xs hs hown ad c [.int .i64 mi, .string mv] hx rfl hy (oneC_raw _ _) (by unfold maxLen; omega) (by omega) hbase h
theorem info_rawsR : (Tryd.prog.info? 57).map (fun i => (i.zero, i.size, i.bytes)) = some (some (.slice none 0 0), 1, 24) := by kernel_rfl
theorem appRR {w : World} {ops : Array Oper} {rest : List Oper} {o : Oper} {a : Act} {Q : Exit → Act → World → Prop} (hgd : o.guard = none) (s x : Operand)
    (ho : o.op = .call { callee := .builtin .append, args := #[s, x], argTypes := #[40, 40] })
    (base : Nat) (v : Value) (n : Nat) (xs : List Value) (hs : a.eval s = v) (hown : w.ownsRow base 57 1 v n xs)
    (ad : Addr) (m c : Nat) (ys : List Value) (hx : a.eval x = .slice (some ad) m c) (hl : ys.length = m) (hy : ∀ j u, ys[j]? = some u → w.cell? (ad.add j) = some u) (h1 : ∀ u ∈ ys, u.oneCell' = true)
    (hroom : n + m ≤ 4398046511104) (hbase : base ≤ w.heap.size)
    (h : ∀ v' w', w'.ownsRow base 57 1 v' (n + m) (xs ++ ys) → w.grownBy w' v.ownBlock → Moved w v v' → wpList Tryd.prog ops Q rest (a.put o.dst v') w') : wpList Tryd.prog ops Q (o :: rest) a w := by
  obtain ⟨i0, hi, hz0, hz1, hz2⟩ := info_parts info_rawsR
  exact wpList_append_own2 hgd s x 40 ho base 57 i0 (.slice none 0 0) 1 24 Tryd.underlying40 hi hz0 hz1 hz2 rfl (by decide) v n xs hs hown ad m c ys hx (by omega) hy h1 (by unfold maxLen; omega) (by omega) hbase h
theorem Turn1S.lsAt {R : RowsS} {lsv : Value} {w0 : World} {k i : Nat} {w : World} (h : Turn1S R lsv w0 k i w) (hk : k < R.N) :
    ∃ b off cap, lsv = .slice (some ⟨b, off, none⟩) R.N cap ∧ w.cell? ⟨b, off + k, none⟩ = some (R.vs k) := by
  obtain ⟨b, off, cap, h1, h2⟩ := h.ls.at k (by simpa using hk)
  exact ⟨b, off, cap, h1, by rw [h2]; simp [List.getD, hk]⟩
theorem Turn1S.slice {R : RowsS} {lsv : Value} {w0 : World} {k i : Nat} {w : World} (h : Turn1S R lsv w0 k i w) (hk : k < R.N) : ∃ a c, R.vs k = .slice a (R.ns k) c := by
  obtain ⟨⟨xs, h1, _⟩, _⟩ := h
  obtain ⟨a, c, e, _⟩ := own_slice (h1 k hk)
  exact ⟨a, c, e⟩
theorem Turn2S.at {R : RowsS} {lsv : Value} {w0 : World} {E : TypeId} {k i : Nat} {gsv g : Value} {gl : List Value} {w : World} (h : Turn2S R lsv w0 E k gsv gl g i w) (hk : k < R.N) :
    (∃ b off cap, lsv = .slice (some ⟨b, off, none⟩) R.N cap ∧ w.cell? ⟨b, off + k, none⟩ = some (R.vs k)) ∧ w.ownsRow R.B R.e R.sz g (R.ns k + i) (marksS R.mark k (R.ns k + i)) ∧ ∃ a c, R.vs k = .slice a (R.ns k) c := by
  obtain ⟨b, off, cap, h1, h2⟩ := h.ls.at k (by simpa using hk)
  obtain ⟨a, c, h3, _⟩ := h.rd k hk
  obtain ⟨gv, _, _, h4, _⟩ := h.own
  exact ⟨⟨b, off, cap, h1, by rw [h2]; simp [List.getD, hk]⟩, (h4 hk).2.1, a, c, h3⟩
theorem sz_lt {i n sz j : Nat} (hi : i < n) (hj : j < sz) : i * sz + j < n * sz := by
  have := Nat.mul_le_mul_right sz (show i + 1 ≤ n by omega)
  rw [Nat.succ_mul] at this
  omega
theorem Turn3S.at {R : RowsS} {lsv gsv : Value} {gl : List Value} {w : World} (h : Turn3S R lsv gsv gl w) (k : Nat) (hk : k < R.N) :
    (∃ b off cap, lsv = .slice (some ⟨b, off, none⟩) R.N cap ∧ w.cell? ⟨b, off + k, none⟩ = some (R.vs k)) ∧ (∃ a c, R.vs k = .slice a (R.ns k) c ∧ ∀ i, i < R.ns k → ∃ b off, a = some ⟨b, off, none⟩ ∧ ∀ j, j < R.sz → w.cell? ⟨b, off + i * R.sz + j, none⟩ = some ((R.mark k i).getD j undef)) ∧
    ∃ g, (∃ b off cap, gsv = .slice (some ⟨b, off, none⟩) R.N cap ∧ w.cell? ⟨b, off + k, none⟩ = some g) ∧ (∃ b off c, g = .slice (some ⟨b, off, none⟩) (R.ns k + 64) c ∧ ∀ i, i < R.ns k + 64 → ∀ j, j < R.sz → w.cell? ⟨b, off + i * R.sz + j, none⟩ = some ((R.mark k i).getD j undef)) := by
  obtain ⟨b, off, cap, h1, h2⟩ := h.ls.at k (by simpa using hk)
  obtain ⟨b', off', cap', h3, h4⟩ := h.gs.at k (by rw [h.len]; exact hk)
  obtain ⟨a, c, h5, _, _, _, h6⟩ := h.rd k hk
  have hz := R.hsz
  obtain ⟨b2, off2, c2, h7, _⟩ := (h.gd k hk).at 0 (by rw [marksS_length _ _ R.hmk]; have := sz_lt (i := 0) (n := R.ns k + 64) (sz := R.sz) (j := 0) (by omega) hz; omega)
  refine ⟨⟨b, off, cap, h1, by rw [h2]; simp [List.getD, hk]⟩, ⟨a, c, h5, fun i hi => ?_⟩, _, ⟨b', off', cap', h3, h4⟩, b2, off2, c2, h7, fun i hi j hj => ?_⟩
  · obtain ⟨b, off, e1, _⟩ := h6 (i * R.sz + 0) (by rw [marksS_length _ _ R.hmk]; exact sz_lt hi hz)
    refine ⟨b, off, e1, fun j hj => ?_⟩
    obtain ⟨b3, off3, e3, e2⟩ := h6 (i * R.sz + j) (by rw [marksS_length _ _ R.hmk]; exact sz_lt hi hj)
    rw [e1] at e3
    injection e3 with e3; injection e3 with e3 e4
    subst e3; subst e4
    rw [Nat.add_assoc, e2, marksS_get _ _ R.hmk _ _ _ _ hi hj]
  · obtain ⟨b3, off3, c3, h8, h9⟩ := (h.gd k hk).at (i * R.sz + j) (by rw [marksS_length _ _ R.hmk]; exact sz_lt hi hj)
    rw [h7] at h8
    injection h8 with h8; injection h8 with h8; injection h8 with e1 e2
    subst e1; subst e2
    rw [Nat.add_assoc, h9, marksS_get _ _ R.hmk _ _ _ _ hi hj]
set_option maxRecDepth 100000 in
set_option maxHeartbeats 3200000 in
theorem apartR_calls (R : RowsS) (lsv : Value) (w : World) (he : R.e = 53) (hsz : R.sz = 2) (hmkR : R.mark = mkR) (h : Turn1S R lsv w 0 0 w) (hN : R.N ≤ 1000000) (hns : ∀ j, j < R.N → R.ns j ≤ 1000000000000) (hl : ∀ b, lsv.ownBlock = some b → b < w.heap.size) (hB : R.B ≤ w.heap.size) :
    Calls Tryd.prog 38 #[lsv] w fun e w' => e = .returned (.bool true) ∧ Mod R.blk w w' := by
  obtain ⟨la, lc, e1⟩ : ∃ a c, lsv = .slice a R.N c := by obtain ⟨a, c, e, _⟩ := h.ls; exact ⟨a, c, e⟩
  have Hl := Lib.hid hl
  have H := Lib.hid h
  have HB := Lib.hid hB
  have He := Lib.hid he
  have Hsz := Lib.hid hsz
  have HmkR := Lib.hid hmkR
  have Hns := Lib.hid hns
  clear hl h hB he hns hsz hmkR
  subst e1
  go_enter Tryd.func38, Tryd.ntmps38
  go_wp2_with fail
  go_loopg [3] R.N (fun gk kv wr => ∃ k : Nat, gk + k = R.N ∧ kv = .int .i64 (k : Int) ∧ Turn1S R (.slice la R.N lc) w k 0 wr)
  case atStart => exact ⟨0, rfl, rfl, H.out⟩
  case round =>
    clear H
    obtain ⟨k, hgk, rfl, hT⟩ := hrel
    by_cases hk : k < R.N
    · have hns := Hns.out k hk
      obtain ⟨b, off, cap, e1, hc⟩ := hT.lsAt hk
      obtain ⟨a, c, e2⟩ := hT.slice hk
      rw [e2] at hc
      injection e1 with e3 _ e4
      subst e3
      subst e4
      have hk0 : (0 : Int) ≤ (k : Int) := by omega
      have hk1 : (k : Int) < (R.N : Int) := by omega
      have HT := Lib.hid hT
      have Hgk := Lib.hid hgk
      have E2 := Lib.hid e2
      clear hT hgk e2 Hns
      go_wp2_with fail
      obtain ⟨n, hn⟩ : ∃ n, n = R.ns k := ⟨_, rfl⟩
      rw [← hn] at hc hns
      have Hn := Lib.hid hn
      clear hn
      obtain ⟨wo, rfl⟩ : ∃ wo : World, wo = wr := ⟨_, rfl⟩
      go_loopg [4] n (fun gi iv wr => ∃ i : Nat, gi + i = n ∧ iv = .int .i64 (i : Int) ∧ Turn1S R (.slice (some ⟨b, off, none⟩) R.N lc) w k i wr)
      case atStart => exact ⟨0, rfl, rfl, HT.out⟩
      case round =>
        clear HT hc
        obtain ⟨i, hgi, rfl, hT⟩ := hrel
        have hc : wr.cell? ⟨b, off + k, none⟩ = some (.slice a n c) := by
          obtain ⟨b', off', cap', e1, hc⟩ := hT.lsAt hk
          injection e1 with e1; injection e1 with e1; injection e1 with e5 e6
          subst e5; subst e6
          rw [hc, E2.out, Hn.out]
        have Hgi := Lib.hid hgi
        by_cases hi : i < n
        · obtain ⟨g, cap', e5, _, hT'⟩ := hT.row hk (by rw [← Hn.out]; exact hi)
          rw [E2.out, ← Hn.out] at e5
          injection e5 with e5 _ e6
          subst e5
          subst e6
          have hi0 : (0 : Int) ≤ (i : Int) := by omega
          have hi1 : (i : Int) < (n : Int) := by omega
          obtain ⟨mv, hmv⟩ : ∃ mv, mv = SB (markT k i) := ⟨_, rfl⟩
          obtain ⟨mi, hmi⟩ : ∃ mi, mi = -7 - (k : Int) := ⟨_, rfl⟩
          have hmk : R.mark k i = [.int .i64 mi, .string mv] := by rw [HmkR.out, hmv, hmi]; rfl
          have hrow : ∀ w5, Below wr.heap.size wr w5 → w5.cell? ⟨b, off + k, none⟩ = some (.slice (some ⟨g, 0, none⟩) n c) ∧ (∃ y, w5.cell? ⟨g, i * 2, none⟩ = some y) ∧ w5.frozen? ⟨g, i * 2, none⟩ = false ∧ (∃ y, w5.cell? ⟨g, i * 2 + 1, none⟩ = some y) ∧ w5.frozen? ⟨g, i * 2 + 1, none⟩ = false ∧ Turn1S R (.slice (some ⟨b, off, none⟩) R.N lc) w k (i + 1) (w5.setCells g (i * 2) [.int .i64 mi, .string mv]) ∧ (w5.setCells g (i * 2) [.int .i64 mi, .string mv]).cell? ⟨b, off + k, none⟩ = some (.slice (some ⟨g, 0, none⟩) n c) := fun w5 hb5 => by
            have hT5 := hT.below hb5
            obtain ⟨g', cap', e5, hth, hT6⟩ := hT5.row hk (by rw [← Hn.out]; exact hi)
            rw [E2.out, ← Hn.out] at e5
            injection e5 with e5 _ e6
            injection e5 with e5
            injection e5 with e5
            subst e5
            rw [hmk, Hsz.out] at hT6
            rw [Hsz.out] at hth
            have t0 := hth 0 (by omega)
            have t1 := hth 1 (by omega)
            rw [Nat.add_zero] at t0
            refine ⟨below_heap hb5 hc, Option.isSome_iff_exists.1 t0.1, t0.2, Option.isSome_iff_exists.1 t1.1, t1.2, hT6, ?_⟩
            obtain ⟨b', off', cap', e1, hc6⟩ := hT6.lsAt hk
            injection e1 with e1; injection e1 with e1; injection e1 with e5 e6
            subst e5; subst e6
            rw [hc6, E2.out, Hn.out]
          have hmc : ∀ w4, Below wr.heap.size wr w4 → Calls Tryd.prog 57 #[.int .i64 (k : Int), .int .i64 (i : Int)] w4 fun e w5 => e = .returned (.agg #[.int .i64 mi, .string mv]) ∧ Below wr.heap.size wr w5 ∧ w5.cell? ⟨b, off + k, none⟩ = some (.slice (some ⟨g, 0, none⟩) n c) ∧ (∃ y, w5.cell? ⟨g, i * 2, none⟩ = some y) ∧ w5.frozen? ⟨g, i * 2, none⟩ = false ∧ (∃ y, w5.cell? ⟨g, i * 2 + 1, none⟩ = some y) ∧ w5.frozen? ⟨g, i * 2 + 1, none⟩ = false ∧ (w5.setCells g (i * 2) [.int .i64 mi, .string mv]).cell? ⟨b, off + k, none⟩ = some (.slice (some ⟨g, 0, none⟩) n c) := fun w4 hb4 =>
            (markR_calls k i w4 (by omega) (by omega)).mono (fun e w5 ⟨h1, h2⟩ => by
              have h3 := below_trans hb4 h2
              obtain ⟨g1, g2, g3, g4, g5, _, g7⟩ := hrow w5 h3
              exact ⟨by rw [h1, hmv, hmi], h3, g1, g2, g3, g4, g5, g7⟩)
          have Hmc := Lib.hid hmc
          have HT' := Lib.hid (fun w5 hb5 => (hrow w5 hb5).2.2.2.2.2.1)
          clear hT hgi hT' hmc hmv hrow hmk hmi
          go_wp2_with fail
          go_region_held3 (fun w' => w'.cell? ⟨b, off + k, none⟩ = some (.slice (some ⟨g, 0, none⟩) n c))
            (first | assumption | exact hc | exact hk6)
            (first | (go_at_call 57; refine (Hmc.out _ (below_drew _)).mono ?_; rintro e w5 ⟨rfl, hb5, hk5, ⟨y5, hy5⟩, hf5, ⟨z5, hz5⟩, hg5, hk6⟩))
          have HT5 := Lib.hid (HT'.out _ hb5)
          clear hb5 hk5 hy5 hf5 hk6 hz5 hg5 HT' Hmc
          go_wp2_with fail
          go_roundg (n - (i + 1))
          case measure => have := Hgi.out; omega
          case rel => exact ⟨i + 1, by have := Hgi.out; omega, by go_num, HT5.out⟩
        · obtain rfl : i = n := by omega
          rw [Hn.out] at hT
          have HT := Lib.hid (hT.next hk)
          clear hT hgi
          go_wp2_with fail
          go_roundg (R.N - (k + 1))
          case measure => have := Hgk.out; omega
          case rel => exact ⟨k + 1, by have := Hgk.out; omega, by go_num, HT.out⟩
    · obtain rfl : k = R.N := by omega
      have hs0 := hT.mod.size
      have hT2 := hT.two (E := 57) (fun b hb => Nat.lt_of_lt_of_le (Hl.out b hb) hs0) (Nat.le_trans HB.out hs0)
      have HT := Lib.hid hT2
      clear hT hgk hT2 Hl HB hs0
      go_wp2_with fail
      obtain ⟨wo, rfl⟩ : ∃ wo : World, wo = wr := ⟨_, rfl⟩
      go_loopg [5, 6] R.N (fun gk gsv kv wr => ∃ (k : Nat) (gl : List Value), gk + k = R.N ∧ kv = .int .i64 (k : Int) ∧ Turn2S R (.slice la R.N lc) w 57 k gsv gl (R.vs k) 0 wr)
      case atStart => exact ⟨0, [], rfl, rfl, HT.out⟩
      case round =>
        clear HT
        obtain ⟨k, gl, hgk, rfl, hT⟩ := hrel
        by_cases hk : k < R.N
        · have hns := Hns.out k hk
          obtain ⟨⟨b, off, cap, e1, hc⟩, _, a, c, e2⟩ := hT.at hk
          rw [e2] at hc hT
          injection e1 with e3 _ e4
          subst e3
          subst e4
          have hk0 : (0 : Int) ≤ (k : Int) := by omega
          have hk1 : (k : Int) < (R.N : Int) := by omega
          obtain ⟨n, hn⟩ : ∃ n, n = R.ns k := ⟨_, rfl⟩
          rw [← hn] at hc hns e2 hT
          have HT := Lib.hid hT
          have Hgk := Lib.hid hgk
          have Hn := Lib.hid hn
          have E2 := Lib.hid e2
          clear hT hgk e2 hn
          go_wp2_with fail
          obtain ⟨wo, rfl⟩ : ∃ wo : World, wo = wr := ⟨_, rfl⟩
          go_loopg [7, 8] 64 (fun gi gv iv wr => ∃ i : Nat, gi + i = 64 ∧ iv = .int .i64 (i : Int) ∧ Turn2S R (.slice (some ⟨b, off, none⟩) R.N lc) w 57 k u5 gl gv i wr)
          case atStart => exact ⟨0, rfl, rfl, HT.out⟩
          case round =>
            clear HT hc
            obtain ⟨i, hgi, rfl, hT⟩ := hrel
            have hown := (hT.at hk).2.1
            have hc : wr.cell? ⟨b, off + k, none⟩ = some (.slice a n c) := by
              obtain ⟨⟨b', off', cap', e1, hc⟩, _⟩ := hT.at hk
              injection e1 with e1; injection e1 with e1; injection e1 with e5 e6
              subst e5; subst e6
              rw [hc, E2.out]
            have Hgi := Lib.hid hgi
            by_cases hi : i < 64
            · obtain ⟨mv, hmv⟩ : ∃ mv, mv = SB (markT k (n + i : Nat)) := ⟨_, rfl⟩
              obtain ⟨mi, hmi⟩ : ∃ mi, mi = -7 - (k : Int) := ⟨_, rfl⟩
              have hmk : R.mark k (n + i) = [.int .i64 mi, .string mv] := by rw [HmkR.out, hmv, hmi]; rfl
              have hmc := fun w => markR_calls k (n + i : Nat) w (by omega) (by omega)
              rw [← hmv, ← hmi, Int.natCast_add] at hmc
              have hB2 := hT.le
              have hi1 : (i : Int) < 64 := by omega
              have HT0 := Lib.hid hT
              have HOw := Lib.hid hown
              have Hmc := Lib.hid hmc
              have Hmv := Lib.hid hmk
              clear hT hgi hmc hmv hown hmk hmi
              go_wp2_with fail
              refine (Hmc.out _).mono ?_
              rintro e w5 ⟨rfl, hb5⟩
              have hba := below_trans hb5 (below_alloc w5 (.cells #[.int .i64 mi, .string mv] 53))
              have hownA := own_below HOw.out hba
              rw [He.out, Hsz.out, ← Hn.out] at hownA
              have HownA := Lib.hid hownA
              have Hb2 := Lib.hid (HT0.out.below hba)
              have Hs5 := Lib.hid (Nat.le_trans hB2 hba.size)
              clear hb5 hba hownA
              go_wp2_with (at_builtin; refine appR1 rfl _ _ rfl R.B _ _ _ rfl HownA.out ⟨w5.heap.size, 0, none⟩ 1 mi mv rfl (cells_two_new _ _ _ _) (by omega) Hs5.out ?_)
              intro v' w1 hown' hg' hm' hgr'
              rw [← He.out, ← Hsz.out, ← Hmv.out, Hn.out] at hown'
              rw [Hn.out] at hgr'
              have hT' := Hb2.out.step hk hown' hg' hm' hgr'
              have HT' := Lib.hid hT'
              clear hown' hg' hm' hgr' hT'
              go_wp2_with fail
              go_roundg (64 - (i + 1))
              case measure => have := Hgi.out; omega
              case rel => exact ⟨i + 1, by have := Hgi.out; omega, by go_num, HT'.out⟩
            · obtain rfl : i = 64 := by omega
              obtain ⟨ga, gc, e7, _⟩ := own_slice hown
              subst e7
              have hB2 := hT.le
              have hgs := hT.gs
              rw [show min k R.N = k by omega] at hgs
              obtain ⟨m, hm⟩ : ∃ m, m = R.ns k + 64 := ⟨_, rfl⟩
              rw [← hm] at hT
              have hownA := hgs.alloc (.cells #[.slice ga m gc] 57)
              have hb2 := hT.below (below_alloc wr (.cells #[.slice ga m gc] 57))
              have HownA := Lib.hid hownA
              have Hb2 := Lib.hid hb2
              rw [← hm]
              clear hT hgi hown hb2 hownA hgs hm
              go_wp2_with (at_builtin; refine appRR rfl _ _ rfl R.B _ _ _ rfl HownA.out ⟨wr.heap.size, 0, none⟩ 1 1 [.slice ga m gc] rfl rfl (cell_one_new _ _ _) (by simp [Value.oneCell']) (by omega) (by simp; omega) ?_)
              intro v' w1 hown' hg' hm'
              have hT' := Hb2.out.next hk hown' hg' hm'
              have HT' := Lib.hid hT'
              clear hown' hg' hm' hT'
              go_wp2_with fail
              go_roundg (R.N - (k + 1))
              case measure => have := Hgk.out; omega
              case rel => exact ⟨k + 1, _, by have := Hgk.out; omega, by go_num, HT'.out⟩
        · obtain rfl : k = R.N := by omega
          have hT3 := hT.three
          have hmod := hT.mod
          have Hmod := Lib.hid hmod
          have HT := Lib.hid hT3
          obtain ⟨ga, gc, rfl⟩ : ∃ a c, u5 = .slice a R.N c := by obtain ⟨a, c, e, _⟩ := hT3.gs; exact ⟨a, c, e⟩
          clear hT hT3 hgk hmod
          go_wp2_with fail
          obtain ⟨wo, rfl⟩ : ∃ wo : World, wo = wr := ⟨_, rfl⟩
          go_loopg [9] R.N (fun gk kv wr' => ∃ k : Nat, gk + k = R.N ∧ kv = .int .i64 (k : Int) ∧ Below wo.heap.size wo wr')
          case atStart => exact ⟨0, rfl, rfl, Below.refl _ _⟩
          case round =>
            obtain ⟨k, hgk, rfl, hb3⟩ := hrel
            by_cases hk : k < R.N
            · have hns := Hns.out k hk
              obtain ⟨⟨b, off, cap, e1, hc⟩, ⟨a, c, e2, hv⟩, g, ⟨b3, off3, cap3, e3, hd⟩, b4, off4, c4, rfl, hw⟩ := (HT.out.below hb3).at k hk
              rw [e2] at hc
              injection e1 with e4 _ e5
              injection e3 with e6 _ e7
              subst e4; subst e5; subst e6; subst e7
              obtain ⟨n, hn⟩ : ∃ n, n = R.ns k := ⟨_, rfl⟩
              rw [← hn] at hc hns hv hw hd
              have Hv := Lib.hid hv
              have Hw := Lib.hid hw
              have Hgk := Lib.hid hgk
              have hk0 : (0 : Int) ≤ (k : Int) := by omega
              have hk1 : (k : Int) < (R.N : Int) := by omega
              have HB3 := Lib.hid hb3
              clear hv hw hgk e2 hn HT hb3
              go_wp2_with fail
              obtain ⟨wq, hwq⟩ : ∃ wq : World, wq = wr := ⟨_, rfl⟩
              rw [← hwq] at hc hd Hv Hw HB3 ⊢
              clear hwq
              go_loopg [10] (n + 64) (fun gi iv wr' => ∃ i : Nat, gi + i = n + 64 ∧ iv = .int .i64 (i : Int) ∧ Below wq.heap.size wq wr')
              case atStart => exact ⟨0, rfl, rfl, Below.refl _ _⟩
              case round =>
                obtain ⟨i, hgi, rfl, hb4⟩ := hrel
                have Hgi := Lib.hid hgi
                clear hgi
                have hi0 : (0 : Int) ≤ (i : Int) := by omega
                by_cases hi : i < n + 64
                · have hwc := Hw.out i hi
                  obtain ⟨mv, hmv⟩ : ∃ mv, mv = SB (markT k i) := ⟨_, rfl⟩
                  obtain ⟨mi, hmi⟩ : ∃ mi, mi = -7 - (k : Int) := ⟨_, rfl⟩
                  have hmk : R.mark k i = [.int .i64 mi, .string mv] := by rw [HmkR.out, hmv, hmi]; rfl
                  have hmc := fun w => markR_calls k i w (by omega) (by omega)
                  rw [← hmv, ← hmi] at hmc
                  rw [hmk, Hsz.out] at hwc
                  have Hmc := Lib.hid hmc
                  have p1 := below_heap hb4 hc
                  have p2 := below_heap hb4 hd
                  have p3 := below_heap hb4 (hwc 0 (by omega))
                  have p5 := below_heap hb4 (hwc 1 (by omega))
                  have p3 : wr.cell? ⟨b4, off4 + i * 2, none⟩ = some (.int .i64 mi) := p3
                  have p5 : wr.cell? ⟨b4, off4 + i * 2 + 1, none⟩ = some (.string mv) := p5
                  have HB4 := Lib.hid hb4
                  have hi3 : (i : Int) < (n : Int) + 64 := by omega
                  clear hmc hmv hc hd hwc hb4 hmi
                  by_cases hin : i < n
                  · obtain ⟨b5, off5, rfl, hvc⟩ := Hv.out i hin
                    rw [hmk, Hsz.out] at hvc
                    have p4 := below_heap HB4.out (hvc 0 (by omega))
                    have p6 := below_heap HB4.out (hvc 1 (by omega))
                    have p4 : wr.cell? ⟨b5, off5 + i * 2, none⟩ = some (.int .i64 mi) := p4
                    have p6 : wr.cell? ⟨b5, off5 + i * 2 + 1, none⟩ = some (.string mv) := p6
                    have hi4 : (i : Int) < (n : Int) := by omega
                    clear Hv Hw hmk hvc
                    go_wp2_with fail
                    refine (Hmc.out _).mono ?_
                    rintro e w5 ⟨rfl, hb5⟩
                    have hb6 := below_trans hb5 (below_alloc w5 (.cells #[.int .i64 mi, .string mv] 53))
                    have q1 := below_heap hb6 p1
                    have q2 := below_heap hb6 p2
                    have q3 := below_heap hb6 p3
                    have q5 := below_heap hb6 p5
                    have q4 := below_heap hb6 p4
                    have q6 := below_heap hb6 p6
                    have HB6 := Lib.hid (below_trans HB4.out hb6)
                    clear hb5 hb6 p1 p2 p3 p5 p4 p6
                    go_wp2_with fail
                    go_quiet (fail)
                    go_wp2_with fail
                    go_roundg (n + 64 - (i + 1))
                    case measure => have := Hgi.out; omega
                    case rel => exact ⟨i + 1, by have := Hgi.out; omega, by go_num, HB6.out.trans ⟨rfl, rfl, rfl, Nat.le_refl _, fun _ _ => rfl⟩⟩
                  · have hi4 : decide ((i : Int) < (n : Int)) = false := by simp; omega
                    clear Hv Hw hmk
                    go_wp2_with fail
                    refine (Hmc.out _).mono ?_
                    rintro e w5 ⟨rfl, hb5⟩
                    have hb6 := below_trans hb5 (below_alloc w5 (.cells #[.int .i64 mi, .string mv] 53))
                    have q1 := below_heap hb6 p1
                    have q2 := below_heap hb6 p2
                    have q3 := below_heap hb6 p3
                    have q5 := below_heap hb6 p5
                    have HB6 := Lib.hid (below_trans HB4.out hb6)
                    clear hb5 hb6 p1 p2 p3 p5
                    go_wp2_with fail
                    go_quiet (fail)
                    go_wp2_with fail
                    go_roundg (n + 64 - (i + 1))
                    case measure => have := Hgi.out; omega
                    case rel => exact ⟨i + 1, by have := Hgi.out; omega, by go_num, HB6.out.trans ⟨rfl, rfl, rfl, Nat.le_refl _, fun _ _ => rfl⟩⟩
                · obtain rfl : i = n + 64 := by have := Hgi.out; omega
                  have HB7 := Lib.hid (HB3.out.trans (hb4.mono HB3.out.size))
                  have p1 := below_heap hb4 hc
                  have p2 := below_heap hb4 hd
                  clear Hv Hw hb4 hc hd
                  go_wp2_with fail
                  go_roundg (R.N - (k + 1))
                  case measure => have := Hgk.out; omega
                  case rel => exact ⟨k + 1, by have := Hgk.out; omega, by go_num, HB7.out⟩
            · obtain rfl : k = R.N := by omega
              have HB7 := Lib.hid hb3
              clear HT hgk hb3
              go_wp2_with fail
              go_ret
              exact ⟨rfl, Hmod.out.then (Mod.of_below (F := fun _ => False) HB7.out) (fun _ h => h.elim)⟩
end Go.Proofs.YtmlckfdjiljjhaaDoor
