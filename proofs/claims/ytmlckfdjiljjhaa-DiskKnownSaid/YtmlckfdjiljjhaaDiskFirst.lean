/-
  The walk of DiskFirst.
-/
import Derived.Test.YtmlckfdjiljjhaaDiskLaws
import Derived.Test.YtmlckfdjiljjhaaErr
import Derived.Test.YtmlckfdjiljjhaaPick
namespace Go.Proofs.Ytmlckfdjiljjhaa
open Go.RowKit

theorem headT_calls (s : ByteArray) (w : World) (hs : s.size ≤ 9223372036854775807) :
    Calls Try.prog 15 #[.string s, .int .i64 256] w fun e w' => ∃ r, e = .returned (.string r) ∧ r.size ≤ 256 ∧ w' = w := by
  by_cases h : s.size ≤ 256
  · have h1 : (s.size : Int) ≤ 256 := by omega
    go_enter Try.func15, Try.ntmps15
    go_wp2_with fail
    go_ret
    exact ⟨s, rfl, h, rfl⟩
  · have h1 : ¬ (s.size : Int) ≤ 256 := by omega
    have h2 : ¬ s.size ≤ 256 := h
    have hsl := run_slice_string_to_if (P := Try.prog) w 9 s .i64 256 Try.underlying9
    rw [if_pos (by omega)] at hsl
    have hex : (s.extract 0 256).size ≤ 256 := by simp; omega
    obtain ⟨r, hr⟩ : ∃ r, r = s.extract 0 256 := ⟨_, rfl⟩
    have hsl' : (Instr.slice 9 (.string s) none (some (.int .i64 256)) none).run Try.prog w = .ok (.string r) w := by rw [hr]; exact hsl
    rw [← hr] at hex
    clear hsl hr
    go_enter Try.func15, Try.ntmps15
    go_wp2_with fail
    go_ret
    exact ⟨r, rfl, hex, rfl⟩
/-- Behind k writes. -/
structure FirstI (W : World) (p A t k : Nat) (d : DiskM) (F : Nat → Prop) (wr : World) : Prop where
  disk : IsDisk wr d p F
  len : d.strs.length = 8
  left : d.left = some (t - k)
  trail : d.trail.length = min t k
  last : Box wr A (d.strs.map Value.string).toArray 40
  lo : W.heap.size ≤ A
  apart : ∀ q, F q → W.heap.size ≤ q ∧ q ≠ A
  below : Below W.heap.size W wr
theorem FirstI.next {W : World} {p A t k : Nat} {d : DiskM} {F F' : Nat → Prop} {wr w' : World} {i : Nat} {s : ByteArray} (h : FirstI W p A t k d F wr) (hk : k < t) (h2 : IsDisk w' { strs := d.strs.set i s, trail := d.trail ++ [((i : Int), s)], left := some (t - k - 1) } p F') (hm : Mod F wr w') (hF : ∀ q, F' q → F q ∨ wr.heap.size ≤ q) :
    FirstI W p A t (k + 1) { strs := d.strs.set i s, trail := d.trail ++ [((i : Int), s)], left := some (t - k - 1) } F' (w'.setCell ⟨A, i, none⟩ (.string s)) := by
  have hA := h.last.lt
  have hb := h.last.mod hm (fun hq => (h.apart A hq).2 rfl)
  have hap : ∀ q, F' q → W.heap.size ≤ q ∧ q ≠ A := fun q hq => by
    rcases hF q hq with h1 | h1
    · exact h.apart q h1
    · have := h.below.size; exact ⟨by omega, by omega⟩
  refine ⟨h2.mod (Mod.set (fun q => q = A) _ ⟨A, i, none⟩ _ rfl) (fun q hq e => (hap q hq).2 e), by simp [h.len], by simp; omega, by simp [h.trail]; omega, ?_, h.lo, hap, (h.below.trans (hm.below h.below.size (fun q hq => (h.apart q hq).1))).setCell h.lo _⟩
  have := hb.set i (.string s)
  simpa [List.map_set] using this
set_option maxRecDepth 100000 in
set_option maxHeartbeats 1600000 in
theorem diskFirst_calls (v : Value) (l : List (Int × ByteArray)) (n : Int) (W : World) (hv : Rd W v l.length (flatRaws l)) (hok : ∀ i, i < l.length → -9223372036854775808 ≤ (l.getD i (0, ByteArray.empty)).1 ∧ (l.getD i (0, ByteArray.empty)).1 ≤ 9223372036854775807 ∧ (l.getD i (0, ByteArray.empty)).2.size ≤ 9223372036854775807) (hn1 : -9223372036854775808 ≤ n) (hn2 : n ≤ 9223372036854775807) :
    Calls Try.prog 4 #[v, .int .i64 n] W fun e W' => e = .returned (.bool true) ∧ Below W.heap.size W W' := by
  have hm := hv.len
  obtain ⟨pa, ca, rfl, hc1, hc2, _, hc⟩ := hv
  have Hc := Lib.hid hc
  have Hok := Lib.hid hok
  clear hc hok
  have e0 : errV 0 = .nilIface := rfl
  have e22 : errV 22 = .iface 45 (.int .i64 22) := rfl
  have hpk := pickI_lt n 501 (by omega)
  obtain ⟨t, ht⟩ : ∃ t : Nat, pickI n 501 = (t : Int) := ⟨(pickI n 501).toNat, by omega⟩
  have hpc := fun w => pick_calls n 501 w hn1 hn2 (by omega) (by omega)
  rw [ht] at hpk hpc
  have ht5 : t < 501 := by omega
  have Hpc := Lib.hid hpc
  clear hpc hpk ht
  go_enter Try.func4, Try.ntmps4
  go_wp2_with fail
  refine (works_calls _).mono ?_
  rintro e w1 ⟨rfl, hb1⟩
  go_wp2_with fail
  refine (new_yes 8 _ (by omega) (by omega)).mono ?_
  rintro e w2 ⟨p, F, rfl, hd2, hb2, hF2⟩
  rw [e0]
  have HB12 := Lib.hid (below_trans hb1 hb2)
  have HD2 := Lib.hid hd2
  have HF2 := Lib.hid (fun k hk => Nat.le_trans hb1.size (hF2 k hk))
  clear hb1 hb2 hd2 hF2
  go_wp2_with fail
  refine (Hpc.out _).mono ?_
  rintro e w' ⟨rfl, rfl⟩
  clear Hpc
  go_wp2_with fail
  refine (cut_calls _ p F t _ HD2.out (by omega)).mono ?_
  rintro e w3 ⟨rfl, F3, hd3, hm3, hF3⟩
  rw [if_neg (by omega)] at hd3
  have hb3 := HB12.out.trans (hm3.below HB12.out.size (fun q hq => HF2.out q hq))
  have hF3' : ∀ q, F3 q → W.heap.size ≤ q := fun q hq => by
    rcases hF3 q hq with h | h
    · exact HF2.out q h
    · exact Nat.le_trans HB12.out.size h
  have hA := Box.new w3 #[.string ByteArray.empty, .string ByteArray.empty, .string ByteArray.empty, .string ByteArray.empty, .string ByteArray.empty, .string ByteArray.empty, .string ByteArray.empty, .string ByteArray.empty] 40
  have hbA := below_alloc w3 (.cells #[.string ByteArray.empty, .string ByteArray.empty, .string ByteArray.empty, .string ByteArray.empty, .string ByteArray.empty, .string ByteArray.empty, .string ByteArray.empty, .string ByteArray.empty] 40)
  have hI : FirstI W p w3.heap.size t 0 { strs := List.replicate 8 ByteArray.empty, trail := [], left := some t } F3 (w3.alloc (.cells #[.string ByteArray.empty, .string ByteArray.empty, .string ByteArray.empty, .string ByteArray.empty, .string ByteArray.empty, .string ByteArray.empty, .string ByteArray.empty, .string ByteArray.empty] 40)) :=
    ⟨hd3.mod (Mod.of_below (F := fun _ => False) hbA) (fun _ _ h => h), by simp, rfl, by simp, hA, hb3.size, fun q hq => ⟨hF3' q hq, by have := hd3.lt q hq; omega⟩, hb3.trans (hbA.mono hb3.size)⟩
  have HI := Lib.hid hI
  clear hd3 hm3 hF3 hb3 hF3' hA hbA hI HD2 HB12 HF2
  go_wp2_with fail
  change Code.wp _ _ _ _ (w3.alloc (.cells #[.string ByteArray.empty, .string ByteArray.empty, .string ByteArray.empty, .string ByteArray.empty, .string ByteArray.empty, .string ByteArray.empty, .string ByteArray.empty, .string ByteArray.empty] 40))
  obtain ⟨w5, hw5⟩ : ∃ w5, w5 = w3.alloc (.cells #[.string ByteArray.empty, .string ByteArray.empty, .string ByteArray.empty, .string ByteArray.empty, .string ByteArray.empty, .string ByteArray.empty, .string ByteArray.empty, .string ByteArray.empty] 40) := ⟨_, rfl⟩
  rw [← hw5] at HI ⊢
  clear hw5
  obtain ⟨A, hAe⟩ : ∃ A, A = w3.heap.size := ⟨_, rfl⟩
  rw [← hAe] at HI ⊢
  clear hAe
  go_loopw [9] (fun i wr => ∃ (k : Nat) (d : DiskM) (F : Nat → Prop), k ≤ l.length ∧ k ≤ 500 ∧ i = .int .i64 k ∧ FirstI W p A t k d F wr) (fun i _ => l.length - (intOf i).toNat)
  case atStart => exact ⟨0, _, _, by omega, by omega, rfl, HI.out⟩
  case round =>
    clear HI
    obtain ⟨k, d, F, hk1, hk2, rfl, hI⟩ := hrel
    by_cases hlt : k < l.length ∧ k < 500
    · obtain ⟨hlt1, hlt2⟩ := hlt
      obtain ⟨bb, oo, rfl, ea'⟩ := Hc.out (k * 2) (by rw [flatRaws_length]; omega)
      obtain ⟨bb2, oo2, e3, eb'⟩ := Hc.out (k * 2 + 1) (by rw [flatRaws_length]; omega)
      injection e3 with e3
      injection e3 with e4 e5
      subst e4; subst e5
      obtain ⟨fa, fb⟩ := flatRaws_at l k hlt1
      rw [fa] at ea'; rw [fb] at eb'
      have hsz := Hok.out k hlt1
      generalize l.getD k (0, ByteArray.empty) = r at *
      obtain ⟨ri, rs⟩ := r
      simp only at ea' eb' hsz
      obtain ⟨hz1, hz2, hz3⟩ := hsz
      have ea := below_heap hI.below ea'
      have eb := below_heap hI.below eb'
      have eb2 : wr.cell? ⟨bb, oo + k * 2 + 1, none⟩ = some (.string rs) := by rw [Nat.add_assoc]; exact eb
      have hpk := pickI_lt ri 8 (by omega)
      obtain ⟨j, hj⟩ : ∃ j : Nat, pickI ri 8 = (j : Int) := ⟨(pickI ri 8).toNat, by omega⟩
      have hpc := fun w => pick_calls ri 8 w hz1 hz2 (by omega) (by omega)
      rw [hj] at hpk hpc
      have hj8 : j < 8 := by omega
      have Hpc := Lib.hid hpc
      have HI := Lib.hid hI
      have hkk0 : (0 : Int) ≤ (k : Int) := by omega
      have hkk1 : (k : Int) < (l.length : Int) := by omega
      clear Hc ea' eb' fa fb Hok eb hpk hj hpc hI
      go_wp2_with fail
      refine (Hpc.out _).mono ?_
      rintro e w' ⟨rfl, rfl⟩
      clear Hpc
      go_wp2_with fail
      refine (headT_calls rs _ hz3).mono ?_
      rintro e w' ⟨s, rfl, hs, rfl⟩
      go_wp2_with fail
      by_cases hkt : k < t
      · have hw := write_ok d p F j s w' HI.out.disk (by rw [HI.out.len]; exact hj8) hs (by rw [HI.out.left]; intro h; injection h with h; omega) (by rw [HI.out.trail]; omega)
        rw [HI.out.left] at hw
        refine hw.mono ?_
        rw [e0]
        rintro e w6 ⟨rfl, F6, hd6, hm6, hF6⟩
        have hnx := HI.out.next hkt hd6 hm6 hF6
        have hA6 := HI.out.last.mod hm6 (fun hq => (HI.out.apart A hq).2 rfl)
        have hlA : (d.strs.map Value.string).toArray.size = 8 := by simp [HI.out.len]
        have hcA := hA6.cell j ((d.strs.map Value.string).toArray[j]'(by omega)) (by rw [Array.getElem?_eq_getElem])
        have hfA := hA6.free j
        obtain ⟨yv, hyv⟩ : ∃ yv, yv = (d.strs.map Value.string).toArray[j]'(by omega) := ⟨_, rfl⟩
        rw [← hyv] at hcA
        have HNX := Lib.hid hnx
        clear hnx hA6 hlA hyv hd6 hm6 hF6 hw HI
        go_wp2_with fail
        go_roundw
        case rel => exact ⟨k + 1, _, _, by omega, by omega, by go_num, HNX.out⟩
        case measure => simp [intOf]; omega
      · have hw := write_power d p F j s w' HI.out.disk (by rw [HI.out.len]; omega) hs (by rw [HI.out.left]; congr 1; omega)
        refine hw.mono ?_
        rw [e22]
        rintro e w6 ⟨rfl, rfl⟩
        have hI2 : FirstI W p A t (k + 1) d F w' := ⟨HI.out.disk, HI.out.len, by rw [HI.out.left]; congr 1; omega, by rw [HI.out.trail]; omega, HI.out.last, HI.out.lo, HI.out.apart, HI.out.below⟩
        have HI2 := Lib.hid hI2
        have hnt : ¬ (k : Int) < (t : Int) := by omega
        have hnd : decide (k < t) = false := by simpa using hkt
        clear hw HI hI2
        go_wp2_with fail
        refine (num_calls 22 w' (by omega) (by omega)).mono ?_
        rintro e w' ⟨rfl, rfl⟩
        go_wp2_with fail
        go_roundw
        case rel => exact ⟨k + 1, _, _, by omega, by omega, by go_num, HI2.out⟩
        case measure => simp [intOf]; omega
    · have hcase : ¬ k < l.length ∨ (k < l.length ∧ ¬ k < 500) := by omega
      have htr : d.trail.length = min t (min l.length 500) := by rw [hI.trail]; omega
      have Htr := Lib.hid htr
      have HI := Lib.hid hI
      clear hlt htr hI
      rcases hcase with h2 | ⟨h2, h3⟩
      all_goals
        go_wp2_with fail
        go_loop [13] (fun i => ∃ k : Nat, k ≤ 8 ∧ i = .int .i64 k) (fun i => 8 - (intOf i).toNat)
        case atStart => exact ⟨0, by omega, rfl⟩
        case round =>
          obtain ⟨c, hc8, rfl⟩ := hrel
          by_cases hcl : c < 8
          · obtain ⟨x, hx⟩ : ∃ x, x = d.strs.getD c ByteArray.empty := ⟨_, rfl⟩
            have hlen := HI.out.len
            have hcA := HI.out.last.cell c (.string x) (by rw [hx]; simp [show c < d.strs.length by omega])
            have hrd := read_yes d p F c wr HI.out.disk (by omega)
            rw [← hx, e0] at hrd
            have Hrd := Lib.hid hrd
            clear hx hlen hrd
            go_wp2_with fail
            refine Hrd.out.mono ?_
            rintro e w7 ⟨rfl, rfl⟩
            go_wp2_with fail
            go_round
            case rel => exact ⟨c + 1, by omega, by go_num⟩
            case measure => simp [intOf]; omega
          · obtain rfl : c = 8 := by omega
            go_wp2_with fail
            refine (restore_calls d p F wr HI.out.disk).mono ?_
            rintro e w7 ⟨rfl, F7, hd7, hm7, hF7⟩
            have hb7 := HI.out.below.trans (hm7.below HI.out.below.size (fun q hq => (HI.out.apart q hq).1))
            have HB7 := Lib.hid hb7
            have HD7 := Lib.hid hd7
            have HF7 := Lib.hid (fun q hq => (HI.out.apart q (hF7 q hq)).1)
            clear hd7 hm7 hF7 hb7
            go_wp2_with fail
            refine (writes_calls _ p F7 _ HD7.out).mono ?_
            rintro e w8 ⟨rfl, rfl⟩
            obtain ⟨m1, hm1⟩ : ∃ m1, m1 = min l.length 500 := ⟨_, rfl⟩
            obtain ⟨m2, hm2⟩ : ∃ m2, m2 = min t m1 := ⟨_, rfl⟩
            have hmi1 : ∀ ts t w', (Builtin.min_ ts t #[.int .i64 (l.length : Int), .int .i64 500]).run Try.prog w' = .ok (.int .i64 (m1 : Int)) w' := fun ts t w' => by
              rw [run_min_int2]
              congr 2
              by_cases h : (500 : Int) < (l.length : Int)
              · rw [if_pos h]; omega
              · rw [if_neg h]; omega
            have hmi2 : ∀ ts t' w', (Builtin.min_ ts t' #[.int .i64 (t : Int), .int .i64 (m1 : Int)]).run Try.prog w' = .ok (.int .i64 (m2 : Int)) w' := fun ts t' w' => by
              rw [run_min_int2]
              congr 2
              by_cases h : (m1 : Int) < (t : Int)
              · rw [if_pos h]; omega
              · rw [if_neg h]; omega
            have htm : d.trail.length = m2 := by rw [Htr.out, hm2, hm1]
            have hwr := write_ok _ p F7 0 ⟨#[122]⟩ w7 HD7.out (by simp only [HI.out.len]; omega) (by decide) (by simp) (by simp only [htm]; omega)
            rw [e0] at hwr
            have Hwr := Lib.hid hwr
            simp only [htm]
            clear hm1 hm2 htm hwr
            go_wp2_with fail
            refine Hwr.out.mono ?_
            rintro e w9 ⟨rfl, F9, hd9, hm9, hF9⟩
            have HB9 := Lib.hid (HB7.out.trans (hm9.below HB7.out.size HF7.out))
            clear hd9 hm9 hF9
            go_wp2_with fail
            go_ret
            exact ⟨rfl, HB9.out⟩
theorem diskFirst_walk : Walks false 4 [22, 3] := by
  intro W vs h
  match vs, h with
  | [v, x], ⟨h, h2, _⟩ =>
    obtain ⟨l, h1, _, Ns, hn, _, h3⟩ := (h.slice Try.underlying22).raws
    obtain ⟨n, rfl, hw⟩ := h2.int (k := .i64) Try.underlying3
    have hw := i64_of_wf hw
    refine diskFirst_calls v l n W h1 (fun i hi => ?_) hw.1 hw.2
    exact ⟨(h3 i hi).1, (h3 i hi).2.1, (h3 i hi).2.2.1⟩
end Go.Proofs.Ytmlckfdjiljjhaa
