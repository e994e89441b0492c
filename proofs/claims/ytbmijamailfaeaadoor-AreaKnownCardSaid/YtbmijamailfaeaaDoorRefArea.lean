/-
  The document's answer for chapter 14 (lineageref14): may, four, number, first, Header.
-/
import Derived.Test.YtbmijamailfaeaaDoorAreaLd
import Derived.Test.YtbmijamailfaeaaDoorSum
namespace Go.Proofs.YtbmijamailfaeaaDoor
open Go.RowKit
set_option maxRecDepth 100000

theorem refMay_calls (d : DiskM) (rp : Nat) (G : Nat → Prop) (at_ n : Int) (w : World) (h : IsRef w d rp G) (hN : d.strs.length ≤ 4096) (ha : I64 at_) (hn : I64 n) :
    Calls Tryd.prog 57 #[.pointer (some ⟨rp, 0, none⟩), .int .i64 at_, .int .i64 n] w fun e w' => e = .returned (.bool (decide (mayA d.strs.length at_ n))) ∧ w = w' := by
  obtain ⟨ha1, ha2⟩ := ha
  obtain ⟨hn1, hn2⟩ := hn
  have c0 : w.cell? ⟨rp, 0, none⟩ = some (.int .i64 (d.strs.length : Int)) := by
    obtain ⟨tv, h1, _⟩ := h
    exact h1.cell 0 _ rfl
  obtain ⟨N, hNe⟩ : ∃ N, N = d.strs.length := ⟨_, rfl⟩
  rw [← hNe] at c0 hN ⊢
  clear h hNe
  by_cases c1 : 0 ≤ at_
  · by_cases c2 : 1 ≤ n
    · by_cases c3 : at_ ≤ (N : Int)
      · by_cases c4 : n ≤ (N : Int)
        · have hd : decide (mayA N at_ n) = decide (at_ + 1 + 2 * n ≤ (N : Int)) := by
            apply decide_eq_decide.2; unfold mayA; omega
          rw [hd]
          clear hd
          go_enter Tryd.func57, Tryd.ntmps57
          go_wp2_with fail
          go_ret
          exact ⟨rfl, rfl⟩
        · have hd : decide (mayA N at_ n) = false := by rw [decide_eq_false_iff_not]; unfold mayA; omega
          have c4' : decide (n ≤ (N : Int)) = false := by simpa using c4
          rw [hd]
          clear hd
          go_enter Tryd.func57, Tryd.ntmps57
          go_wp2_with fail
          go_ret
          exact ⟨rfl, rfl⟩
      · have hd : decide (mayA N at_ n) = false := by rw [decide_eq_false_iff_not]; unfold mayA; omega
        have c3' : decide (at_ ≤ (N : Int)) = false := by simpa using c3
        rw [hd]
        clear hd
        go_enter Tryd.func57, Tryd.ntmps57
        go_wp2_with fail
        go_ret
        exact ⟨rfl, rfl⟩
    · have hd : decide (mayA N at_ n) = false := by rw [decide_eq_false_iff_not]; unfold mayA; omega
      have c2' : decide (1 ≤ n) = false := by simpa using c2
      rw [hd]
      clear hd
      go_enter Tryd.func57, Tryd.ntmps57
      go_wp2_with fail
      go_ret
      exact ⟨rfl, rfl⟩
  · have hd : decide (mayA N at_ n) = false := by rw [decide_eq_false_iff_not]; unfold mayA; omega
    have c1' : decide (0 ≤ at_) = false := by simpa using c1
    rw [hd]
    clear hd
    go_enter Tryd.func57, Tryd.ntmps57
    go_wp2_with fail
    go_ret
    exact ⟨rfl, rfl⟩
/-- Four bytes more. -/
theorem four_calls (B : Nat) (sv : Value) (xs : List UInt8) (m : UInt32) (w : World) (ho : w.ownsRow B 5 1 sv xs.length (xs.map V8)) (hB : B ≤ w.heap.size) (hx : xs.length ≤ 1000) :
    Calls Tryd.prog 72 #[sv, .int .u32 (I32 m)] w fun e w' => ∃ sv', e = .returned sv' ∧ w'.ownsRow B 5 1 sv' (xs.length + 4) ((xs ++ le m.toNat 4).map V8) ∧ Below B w w' := by
  obtain ⟨sa, sc, rfl, _⟩ := own_slice ho
  have hyl : (#[.int .u8 (I32 m % 256), .int .u8 (I32 m / 256 % 256), .int .u8 (I32 m / 65536 % 256), .int .u8 (I32 m / 16777216 % 256)] : Array Value).toList = (le m.toNat 4).map V8 := by rw [le4_vals]; rfl
  have hbA := fun ob => below_alloc w ob
  have HO := Lib.hid (fun ob => own_below ho (hbA ob))
  have HY := Lib.hid hyl
  have HsA := Lib.hid (fun ob => Nat.le_trans hB (hbA ob).size)
  have HBA := Lib.hid (fun ob => (hbA ob).mono hB)
  clear ho hyl hbA
  go_enter Tryd.func72, Tryd.ntmps72
  go_wp2_with (at_builtin; refine appB rfl _ _ rfl B _ _ _ rfl (HO.out _) ⟨w.heap.size, 0, none⟩ 4 4 _ rfl (by rw [List.length_map, le_length]) (cells_new _ _ _ _ HY.out) (V8_one _) (by omega) (HsA.out _) ?_)
  intro v' w1 hown' hg' _
  have hb1 := (HBA.out (.cells #[.int .u8 (I32 m % 256), .int .u8 (I32 m / 256 % 256), .int .u8 (I32 m / 65536 % 256), .int .u8 (I32 m / 16777216 % 256)] 5)).trans (below_grown hg' (HsA.out _) (fun k hk => ((HO.out (.cells #[] 5)).lt k hk).1))
  rw [← List.map_append] at hown'
  have HN := Lib.hid (And.intro hown' hb1)
  clear hown' hb1 hg' HO HBA
  go_wp2_with fail
  go_ret
  exact ⟨_, rfl, HN.out.1, HN.out.2⟩
theorem conv_u32 (n : Nat) (w : World) : (convert 3 22 (.int .i64 (n : Int))).run Tryd.prog w = .ok (.int .u32 (I32 (UInt32.ofNat n))) w := by
  have h1 : I32 (UInt32.ofNat n) = (n : Int) % 4294967296 := by
    show ((n % 2 ^ 32 : Nat) : Int) = _; omega
  rw [run_convert_int (P := Tryd.prog) w 3 22 .i64 (n : Int) (by kernel_rfl) (by kernel_rfl), show Tryd.prog.intKind 22 = .u32 by kernel_rfl, wrap_u32n', h1]
theorem refHeader_calls (e : UInt32) (v : Value) (l : List UInt8) (w : World) (hv : Rd w v l.length (l.map V8)) :
    Calls Tryd.prog 59 #[.int .u32 (I32 e), v] w fun r w' => r = .returned (.string (SB (hdrM e.toNat l))) ∧ Below w.heap.size w w' := by
  obtain ⟨va, vc, rfl⟩ : ∃ a c, v = .slice a l.length c := by obtain ⟨a, c, h, _⟩ := hv; exact ⟨a, c, h⟩
  obtain ⟨lu, hlu⟩ : ∃ lu, lu = UInt32.ofNat l.length := ⟨_, rfl⟩
  have hcv := conv_u32 l.length
  rw [← hlu] at hcv
  have hle : le lu.toNat 4 = le l.length 4 := by rw [hlu]; exact le_mod _
  obtain ⟨sv, hsv⟩ : ∃ sv, sv = SB (hdrM e.toNat l) := ⟨_, rfl⟩
  rw [← hsv]
  have Hsv := Lib.hid hsv
  have HV := Lib.hid hv
  have Hle := Lib.hid hle
  have H1 := Lib.hid (four_calls w.heap.size (.slice none 0 0) [] e w (World.ownsRow_nil _ _ _ _) (Nat.le_refl _) (by simp))
  clear hv hlu hle hsv
  go_enter Tryd.func59, Tryd.ntmps59
  go_wp2_with fail
  refine H1.out.mono ?_
  rintro r w1 ⟨s1, rfl, ho1, hb1⟩
  have HB1 := Lib.hid hb1
  have H2 := Lib.hid (four_calls w.heap.size s1 (le e.toNat 4) lu w1 (by simpa [le_length] using ho1) hb1.size (by simp [le_length]))
  clear ho1 hb1 H1
  go_wp2_with fail
  refine H2.out.mono ?_
  rintro r w2 ⟨s2, rfl, ho2, hb2⟩
  rw [Hle.out] at ho2
  have hb2' := HB1.out.trans hb2
  have HB2 := Lib.hid hb2'
  have Hsum := Lib.hid (refOf_calls (.slice va l.length vc) l w2 (HV.out.below hb2'))
  have H3 := Lib.hid (four_calls w.heap.size s2 (le e.toNat 4 ++ le l.length 4) (crc l) w2 (by simpa [le_length] using ho2) hb2'.size (by simp [le_length]))
  clear ho2 hb2 hb2' H2 HB1
  go_wp2_with fail
  refine Hsum.out.mono ?_
  rintro r w3 ⟨rfl, rfl⟩
  go_wp2_with fail
  refine H3.out.mono ?_
  rintro r w4 ⟨s4, rfl, ho4, hb4⟩
  have hb4' := HB2.out.trans hb4
  have ho4 : w4.ownsRow w.heap.size 5 1 s4 (hd12 e.toNat l).length ((hd12 e.toNat l).map V8) := by
    have := ho4
    rw [hd12_length]
    simpa [hd12, le_length] using this
  have Hsum := Lib.hid (refOf_calls s4 (hd12 e.toNat l) w4 (rd_of_own ho4))
  have HB4 := Lib.hid hb4'
  have H5 := Lib.hid (four_calls w.heap.size s4 (hd12 e.toNat l) (crc (hd12 e.toNat l)) w4 ho4 hb4'.size (by rw [hd12_length]; omega))
  clear ho4 hb4 hb4' H3 HB2
  go_wp2_with fail
  refine Hsum.out.mono ?_
  rintro r w5 ⟨rfl, rfl⟩
  go_wp2_with fail
  refine H5.out.mono ?_
  rintro r w6 ⟨s6, rfl, ho6, hb6⟩
  have HB6 := Lib.hid (HB4.out.trans hb6)
  have ho6 : w6.ownsRow w.heap.size 5 1 s6 (hdrM e.toNat l).length ((hdrM e.toNat l).map V8) := by
    have := ho6
    rw [hdrM_length]
    rw [hd12_length] at this
    exact this
  have kc := convS (hdrM e.toNat l) (rd_of_own ho6) rfl
  rw [← Hsv.out] at kc
  clear ho6 hb6 H5 HB4
  go_wp2_with fail
  go_ret
  exact ⟨rfl, HB6.out⟩
theorem refFirst_calls (at_ n : Int) (e : UInt32) (w : World) (ha : 0 ≤ at_ ∧ at_ ≤ 4096) (hn : 0 ≤ n ∧ n ≤ 4096) :
    Calls Tryd.prog 58 #[.int .i64 at_, .int .i64 n, .int .u32 (I32 e)] w fun r w' => r = .returned (.int .i64 (firstA at_ n e.toNat)) ∧ w = w' := by
  obtain ⟨r2, hr2⟩ : ∃ r2, r2 = e.toNat % 2 := ⟨_, rfl⟩
  have hrm : (I32 e).tmod 2 = (r2 : Int) := by rw [show I32 e = (e.toNat : Int) from rfl, Int.tmod_eq_emod_of_nonneg (by omega)]; omega
  have hf : firstA at_ n e.toNat = at_ + 1 + (r2 : Int) * n := by unfold firstA; rw [hr2]
  rw [hf]
  have hr0 : r2 = 0 ∨ r2 = 1 := by omega
  clear hf hr2
  rcases hr0 with rfl | rfl
  · rw [show at_ + 1 + ((0 : Nat) : Int) * n = at_ + 1 by simp]
    go_enter Tryd.func58, Tryd.ntmps58
    go_wp2_with fail
    go_ret
    exact ⟨by simp, rfl⟩
  · rw [show at_ + 1 + ((1 : Nat) : Int) * n = at_ + 1 + n by simp]
    go_enter Tryd.func58, Tryd.ntmps58
    go_wp2_with fail
    go_ret
    exact ⟨by simp, rfl⟩
theorem refNumber_calls (l : List UInt8) (i : Nat) (w : World) (h : i + 4 ≤ l.length) (hi : i ≤ 100) :
    Calls Tryd.prog 62 #[.string (SB l), .int .i64 (i : Int)] w fun e w' => e = .returned (.int .u32 ((num4 l i : Nat) : Int)) ∧ ∃ k, w' = w.drewN k := by
  obtain ⟨c0, hc0⟩ : ∃ c, c = (l.getD i 0).toNat := ⟨_, rfl⟩
  obtain ⟨c1, hc1⟩ : ∃ c, c = (l.getD (i + 1) 0).toNat := ⟨_, rfl⟩
  obtain ⟨c2, hc2⟩ : ∃ c, c = (l.getD (i + 2) 0).toNat := ⟨_, rfl⟩
  obtain ⟨c3, hc3⟩ : ∃ c, c = (l.getD (i + 3) 0).toNat := ⟨_, rfl⟩
  have hlt : ∀ i : Nat, (l.getD i 0).toNat < 256 := fun i => UInt8.toNat_lt _
  have h0 : c0 < 256 := by rw [hc0]; exact hlt _
  have h1 : c1 < 256 := by rw [hc1]; exact hlt _
  have h2 : c2 < 256 := by rw [hc2]; exact hlt _
  have h3 : c3 < 256 := by rw [hc3]; exact hlt _
  have w1 : IntKind.i64.wrap ((i : Int) + 1) = ((i + 1 : Nat) : Int) := by simp [IntKind.wrap, IntKind.bits, IntKind.signed]; omega
  have w2 : IntKind.i64.wrap ((i : Int) + 2) = ((i + 2 : Nat) : Int) := by simp [IntKind.wrap, IntKind.bits, IntKind.signed]; omega
  have w3 : IntKind.i64.wrap ((i : Int) + 3) = ((i + 3 : Nat) : Int) := by simp [IntKind.wrap, IntKind.bits, IntKind.signed]; omega
  obtain ⟨i1, hi1⟩ : ∃ i1, i1 = i + 1 := ⟨_, rfl⟩
  obtain ⟨i2, hi2⟩ : ∃ i2, i2 = i + 2 := ⟨_, rfl⟩
  obtain ⟨i3, hi3⟩ : ∃ i3, i3 = i + 3 := ⟨_, rfl⟩
  have j0 : ∀ w', (Instr.index 9 (.string (SB l)) (.int .i64 (i : Int))).run Tryd.prog w' = .ok (.int .u8 (c0 : Int)) w' := fun w' => by rw [hc0]; exact indexS w' l i (by omega)
  have j1 : ∀ w', (Instr.index 9 (.string (SB l)) (.int .i64 (i1 : Int))).run Tryd.prog w' = .ok (.int .u8 (c1 : Int)) w' := fun w' => by rw [hc1, ← hi1]; exact indexS w' l i1 (by omega)
  have j2 : ∀ w', (Instr.index 9 (.string (SB l)) (.int .i64 (i2 : Int))).run Tryd.prog w' = .ok (.int .u8 (c2 : Int)) w' := fun w' => by rw [hc2, ← hi2]; exact indexS w' l i2 (by omega)
  have j3 : ∀ w', (Instr.index 9 (.string (SB l)) (.int .i64 (i3 : Int))).run Tryd.prog w' = .ok (.int .u8 (c3 : Int)) w' := fun w' => by rw [hc3, ← hi3]; exact indexS w' l i3 (by omega)
  rw [← hi1] at w1
  rw [← hi2] at w2
  rw [← hi3] at w3
  have hor := or32 c0 c1 c2 c3 h0 h1 h2 h3
  have hres : c0 + 256 * c1 + 65536 * c2 + 16777216 * c3 = num4 l i := by rw [hc0, hc1, hc2, hc3]; rfl
  obtain ⟨s, hs⟩ : ∃ s, s = num4 l i := ⟨_, rfl⟩
  rw [hres, ← hs] at hor
  rw [← hs]
  obtain ⟨st, hst⟩ : ∃ st, st = SB l := ⟨_, rfl⟩
  rw [← hst] at j0 j1 j2 j3 ⊢
  clear hs hres hc0 hc1 hc2 hc3 hlt hi1 hi2 hi3 h hi hst
  go_enter Tryd.func62, Tryd.ntmps62
  go_wp2_with fail
  go_quiet (fail)
  go_wp2_with fail
  go_ret
  exact ⟨rfl, _, rfl⟩
end Go.Proofs.YtbmijamailfaeaaDoor
