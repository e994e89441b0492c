/-
  The walk of DiskTrail.
-/
import Derived.Test.YtmlckfdjiljjhaaDiskLaws
namespace Go.Proofs.Ytmlckfdjiljjhaa
open Go.RowKit

set_option maxRecDepth 100000 in
set_option maxHeartbeats 1600000 in
theorem diskTrail_calls (v : Value) (l : List (Int × ByteArray)) (W : World) (hv : Rd W v l.length (flatRaws l)) (hok : ∀ i, i < l.length → (l.getD i (0, ByteArray.empty)).2.size ≤ 9223372036854775807) :
    Calls Try.prog 3 #[v] W fun e W' => e = .returned (.bool true) ∧ Below W.heap.size W W' := by
  have hm := hv.len
  obtain ⟨pa, ca, rfl, hc1, hc2, _, hc⟩ := hv
  have Hc := Lib.hid hc
  have Hok := Lib.hid hok
  clear hc hok
  have e0 : errV 0 = .nilIface := rfl
  go_enter Try.func3, Try.ntmps3
  go_wp2_with fail
  refine (works_calls _).mono ?_
  rintro e w1 ⟨rfl, hb1⟩
  go_wp2_with fail
  refine (new_yes 6 _ (by omega) (by omega)).mono ?_
  rintro e w2 ⟨p, F, rfl, hd2, hb2, hF2⟩
  rw [e0]
  have hb12 := below_trans hb1 hb2
  have hF2' : ∀ k, F k → W.heap.size ≤ k := fun k hk => Nat.le_trans hb1.size (hF2 k hk)
  obtain ⟨d0, hd0⟩ : ∃ d0 : DiskM, d0 = { strs := List.replicate 6 ByteArray.empty, trail := [], left := none } := ⟨_, rfl⟩
  rw [← hd0] at hd2
  have hwf0 : d0.Wf := by rw [hd0]; exact DiskM.Wf.new 6 none
  have hl0 : d0.strs.length = 6 := by rw [hd0]; simp
  have ht0 : d0.trail.length = 0 := by rw [hd0]; rfl
  have hlf0 : d0.left = none := by rw [hd0]
  have Hl0 := Lib.hid hl0
  have Ht0 := Lib.hid ht0
  have Hlf0 := Lib.hid hlf0
  clear hb1 hb2 hd0 hF2 hl0 ht0 hlf0
  go_upto_block 0 with (fail)
  go_cut [5] (fun _ w' => ∃ (d : DiskM) (F : Nat → Prop), IsDisk w' d p F ∧ d.Wf ∧ d.strs.length = 6 ∧ d.left = none ∧ d.trail.length ≤ l.length ∧ d.trail.length ≤ 500 ∧ Below W.heap.size W w' ∧ ∀ q, F q → W.heap.size ≤ q)
  case first =>
    go_wp2_with fail
    go_loopw [5] (fun i wr => ∃ k : Nat, ∃ F, k ≤ l.length ∧ k ≤ 500 ∧ i = .int .i64 k ∧ IsDisk wr (d0.writes (l.take k)) p F ∧ Below W.heap.size W wr ∧ ∀ q, F q → W.heap.size ≤ q) (fun i _ => l.length - (intOf i).toNat)
    case atStart => exact ⟨0, F, by omega, by omega, rfl, hd2, hb12, hF2'⟩
    case round =>
      clear hd2 hb12 hF2'
      obtain ⟨k, F, hk1, hk2, rfl, hd, hb, hF⟩ := hrel
      by_cases hlt : k < l.length ∧ k < 500
      · obtain ⟨hlt1, hlt2⟩ := hlt
        obtain ⟨bb, oo, rfl, ea'⟩ := Hc.out (k * 2) (by rw [flatRaws_length]; omega)
        obtain ⟨bb2, oo2, e3, eb'⟩ := Hc.out (k * 2 + 1) (by rw [flatRaws_length]; omega)
        injection e3 with e3
        injection e3 with e4 e5
        subst e4; subst e5
        obtain ⟨fa, fb⟩ := flatRaws_at l k hlt1
        rw [fa] at ea'; rw [fb] at eb'
        have hsz := Hok.out k hlt1
        have htk : Hid (l.take (k + 1) = l.take k ++ [l.getD k (0, ByteArray.empty)]) := by rw [List.take_succ_eq_append_getElem hlt1]; simp [hlt1]; trivial
        generalize l.getD k (0, ByteArray.empty) = r at *
        obtain ⟨ri, rs⟩ := r
        simp only at ea' eb' hsz
        have ea := below_heap hb ea'
        have eb := below_heap hb eb'
        have eb2 : wr.cell? ⟨bb, oo + k * 2 + 1, none⟩ = some (.string rs) := by rw [Nat.add_assoc]; exact eb
        have hkk0 : (0 : Int) ≤ (k : Int) := by omega
        have hkk1 : (k : Int) < (l.length : Int) := by omega
        clear Hc ea' eb' fa fb Hok eb
        go_wp2_with fail
        go_still_tail 11, (by kernel_rfl)
        change wpList _ _ _ _ _ wr.drew
        go_wp2_with fail
        have hs := hb.size
        have hlen := d0.writes_len (l.take k)
        rw [Ht0.out] at hlen
        refine (write_any _ p F ri rs _ (hd.mod (Mod.drew (fun _ => False) _) (fun _ _ h => h)) (by have := List.length_take_le k l; omega) hsz).mono ?_
        rintro e w' ⟨rfl, F', hd', hm', hF'⟩
        have hb' : Below W.heap.size W w' := hb.drew.trans (hm'.below hs hF)
        have hF2 : ∀ q, F' q → W.heap.size ≤ q := fun q hq => by
          rcases hF' q hq with h | h
          · exact hF q h
          · exact Nat.le_trans hs h
        clear hlen hm' hF' hd hb hF
        go_wp2
        go_roundw
        case rel => exact ⟨k + 1, F', by omega, by omega, by go_num, by rw [htk.out]; simpa [DiskM.writes] using hd', hb', hF2⟩
        case measure => simp [intOf]; omega
      · have hlen := d0.writes_len (l.take k)
        rw [Ht0.out, Hl0.out] at hlen
        have hlk := List.length_take_le k l
        have hres : ∃ (d : DiskM) (F : Nat → Prop), IsDisk wr d p F ∧ d.Wf ∧ d.strs.length = 6 ∧ d.left = none ∧ d.trail.length ≤ l.length ∧ d.trail.length ≤ 500 ∧ Below W.heap.size W wr ∧ ∀ q, F q → W.heap.size ≤ q :=
          ⟨_, F, hd, DiskM.writes_wf hwf0 _, hlen.1, DiskM.writes_left Hlf0.out _, by omega, by omega, hb, hF⟩
        have Hres := Lib.hid hres
        clear hres hd hwf0 hlen hb hF Hc Hok hlk
        have hcase : ¬ k < l.length ∨ (k < l.length ∧ ¬ k < 500) := by omega
        clear hlt
        rcases hcase with h2 | ⟨h2, h3⟩
        all_goals
          go_wp2_with fail
          go_meet
          exact Hres.out
  case rest =>
    clear hd2 hb12 hF2' hwf0
    obtain ⟨d, F, hd, hwf, hdl, hdf, hdt, hdt2, hb, hF⟩ := hcut
    go_wp2_with fail
    refine (trail_calls d p F _ hd (by omega)).mono ?_
    rintro e w3 ⟨ta, tc, rfl, ht3, hb3⟩
    have hd3 := hd.mod (Mod.of_below (F := fun _ => False) hb3) (fun _ _ h => h)
    have hs := hb.size
    have hb3' := hb.trans (hb3.mono hs)
    go_wp2_with fail
    refine (after_yes d p F d.trail.length _ hd3 (Nat.le_refl _) (by omega) hwf.inr).mono ?_
    rintro e w4 ⟨p', F', rfl, ho4, hb4, hF4⟩
    rw [e0]
    rw [List.take_length, ← hwf.play] at ho4
    have hd4 := hd3.mod (Mod.of_below (F := fun _ => False) hb4) (fun _ _ h => h)
    have ht4 := own_below ht3 hb4
    have hs3 := hb3.size
    have hs4 := hb4.size
    have hb4' := hb3'.trans (hb4.mono (by omega))
    have hapF : ∀ k, F k → ¬ F' k := fun k h1 h2 => by
      have := hd.lt k h1
      have := hF4 k h2
      omega
    have hF4' : ∀ q, F' q → W.heap.size ≤ q := fun q hq => Nat.le_trans (Nat.le_trans hs hs3) (hF4 q hq)
    have htl : ∀ k, (Value.slice ta d.trail.length tc).ownBlock = some k → wc.heap.size ≤ k ∧ k < w3.heap.size := fun k hk => ht3.lt k hk
    go_wp2_with fail
    refine (writes_calls d p F _ hd4).mono ?_
    rintro e w5 ⟨rfl, rfl⟩
    have hplay := hwf.play
    rw [hdl] at hplay
    have Hplay := Lib.hid hplay
    have Hdl := Lib.hid hdl
    have Hdf := Lib.hid hdf
    have Hin := Lib.hid hwf.inr
    have Hsh := Lib.hid hwf.short
    clear hd hd3 ht3 hb hb3 hb3' hb4 hF4 hplay hdl hdf hwf
    go_wp2_with fail
    have hA := Box.new w4 #[.string ByteArray.empty, .string ByteArray.empty, .string ByteArray.empty, .string ByteArray.empty, .string ByteArray.empty, .string ByteArray.empty] 34
    have hbA := below_alloc w4 (.cells #[.string ByteArray.empty, .string ByteArray.empty, .string ByteArray.empty, .string ByteArray.empty, .string ByteArray.empty, .string ByteArray.empty] 34)
    have hd5 := hd4.mod (Mod.of_below (F := fun _ => False) hbA) (fun _ _ h => h)
    have ho5 := ho4.mod (Mod.of_below (F := fun _ => False) hbA) (fun _ _ h => h)
    have ht5 := own_below ht4 hbA
    have hs5 := hbA.size
    have hb5 := hb4'.trans (hbA.mono (by omega))
    have hltF := hd4.lt
    have hltF' := ho4.lt
    change Code.wp _ _ _ _ (w4.alloc (.cells #[.string ByteArray.empty, .string ByteArray.empty, .string ByteArray.empty, .string ByteArray.empty, .string ByteArray.empty, .string ByteArray.empty] 34))
    obtain ⟨w5, hw5⟩ : ∃ w5, w5 = w4.alloc (.cells #[.string ByteArray.empty, .string ByteArray.empty, .string ByteArray.empty, .string ByteArray.empty, .string ByteArray.empty, .string ByteArray.empty] 34) := ⟨_, rfl⟩
    rw [← hw5] at hA hd5 ho5 ht5 hs5 hb5 ⊢
    clear hw5 hbA hd4 ho4 ht4 hb4'
    obtain ⟨A, hAe⟩ : ∃ A, A = w4.heap.size := ⟨_, rfl⟩
    rw [← hAe] at hA hs4 hs5 hltF hltF' ⊢
    have HAe := Lib.hid hAe
    clear hAe
    go_loopw [9] (fun i wr => ∃ k : Nat, k ≤ d.trail.length ∧ i = .int .i64 k ∧ Box wr A ((playRaws (List.replicate 6 ByteArray.empty) (d.trail.take k)).map Value.string).toArray 34 ∧ Mod (fun q => q = A) w5 wr) (fun i _ => d.trail.length - (intOf i).toNat)
    case atStart => exact ⟨0, by omega, rfl, hA, Mod.refl _ _⟩
    case round =>
      clear hA
      obtain ⟨k, hk, rfl, hA, hm5⟩ := hrel
      have htr := own_mod ht5 hm5 (fun q hq e => by have := htl q hq; omega)
      by_cases hlt : k < d.trail.length
      · have htr0 := htr
        rcases htr.2 with ⟨_, h00⟩ | ⟨g, cap, cur, hge, hbg, hg, hn', hmx, hs', ht'⟩
        · omega
        injection hge with e1 e2 e3
        subst e1; subst e3
        obtain ⟨bi, sx, q0, q1, q2, q3⟩ := raw_at d.trail k hlt
        have hca := htr0.cellAt (k * 2) (by omega)
        have hcb := htr0.cellAt (k * 2 + 1) (by omega)
        rw [q1] at hca; rw [q2] at hcb
        obtain ⟨hri0, hri⟩ := Hin.out _ q3
        have hsh := Hsh.out _ q3
        simp only at hri0 hri hsh
        rw [Hdl.out] at hri
        obtain ⟨bi, rfl⟩ := Int.eq_ofNat_of_zero_le hri0
        have Q0 := Lib.hid q0
        obtain ⟨L, hL⟩ : ∃ L, L = playRaws (List.replicate 6 ByteArray.empty) (d.trail.take k) := ⟨_, rfl⟩
        have hlp : L.length = 6 := by rw [hL, playRaws_len]; simp
        rw [← hL] at hA
        have HL := Lib.hid hL
        have c2 := hA.cell bi (.string (L.getD bi ByteArray.empty)) (by simp [show bi < L.length by omega])
        have f2 := hA.free bi
        have hgA : g ≠ A := by have := htl g rfl; omega
        have hks : (k : Int) < (d.trail.length : Int) := by omega
        have hk0 : (0 : Int) ≤ (k : Int) := by omega
        have hb6 : (bi : Int) < 6 := by omega
        have Hd5 := Lib.hid hd5
        clear htr0 htr hg hs' ht' q0 q1 q2 q3 hmx hL hlp hd5 ho5 ht5 hltF hltF' hapF hF hF4' hb5 htl
        go_wp2_with fail
        go_still_tail 11, (by kernel_rfl)
        change wpList _ _ _ _ _ wr.drew
        go_wp2
        go_roundw
        case rel =>
          refine ⟨k + 1, by omega, by go_num, ?_, (hm5.trans (Mod.set _ wr ⟨A, bi, none⟩ (.string sx) rfl)).trans (Mod.drew _ _)⟩
          rw [Q0.out, playRaws_snoc, ← HL.out]
          have := (hA.set bi (.string sx)).drew
          simpa [List.map_set] using this
        case measure => simp [intOf]; omega
      · obtain rfl : k = d.trail.length := by omega
        rw [List.take_length, ← Hplay.out] at hA
        have hd6 := hd5.mod hm5 (fun q hq e => by have := hltF q hq; omega)
        have ho6 := ho5.mod hm5 (fun q hq e => by have := hltF' q hq; omega)
        have hb6 := hb5.trans (hm5.below (by omega) (fun q hq => by omega))
        have hs6 := hm5.size
        clear hm5 htr ht5 hd5 ho5 hb5
        go_wp2_with fail
        have hltF6 := hd6.lt
        have hltF6' := ho6.lt
        have hAw := hA.lt
        obtain ⟨S, hSe⟩ : ∃ S, S = d.strs := ⟨_, rfl⟩
        obtain ⟨tl, htl'⟩ : ∃ tl, tl = d.trail := ⟨_, rfl⟩
        rw [← hSe] at hA
        have hSl : S.length = 6 := by rw [hSe]; exact Hdl.out
        have HSe := Lib.hid hSe
        have HSl := Lib.hid hSl
        clear hSe hSl
        have HapF := Lib.hid hapF
        have HF := Lib.hid hF
        have HF4 := Lib.hid hF4'
        have HltF := Lib.hid hltF
        have HltF' := Lib.hid hltF'
        clear hapF hF hF4' hltF hltF' htl
        go_loopw [10] (fun i wx => ∃ (k : Nat) (d' : DiskM) (F2 : Nat → Prop), k ≤ 6 ∧ i = .int .i64 k ∧ IsDisk wx d' p F2 ∧ Box wx A (S.map Value.string).toArray 34 ∧ IsDisk wx { strs := S, trail := d.trail, left := none } p' F' ∧ d'.strs.length = 6 ∧ (∀ j, k ≤ j → d'.strs.getD j ByteArray.empty = S.getD j ByteArray.empty) ∧ d'.left = none ∧ d'.trail.length ≤ 500 + k ∧ Below W.heap.size W wx ∧ (∀ q, F2 q → W.heap.size ≤ q ∧ ¬ F' q ∧ q ≠ A)) (fun i _ => 6 - (intOf i).toNat)
        case atStart =>
          refine ⟨0, d, F, by omega, rfl, hd6, hA, ?_, Hdl.out, ?_, Hdf.out, by omega, hb6, ?_⟩
          · rw [HSe.out]; exact ho6
          · intro j _; rw [HSe.out]
          · intro q hq
            have := HltF.out q hq
            exact ⟨HF.out q hq, HapF.out q hq, by omega⟩
        case round =>
          clear hd6 ho6 hb6 hA
          obtain ⟨k, d', F2, hk, rfl, hd, hA, ho, hl6, hsame, hleft, htr, hb, hF2⟩ := hrel
          have Hsame := Lib.hid hsame
          have HF2 := Lib.hid hF2
          have Hl6 := Lib.hid hl6
          clear hsame hF2 hl6
          by_cases hlt : k < 6
          · obtain ⟨c, hce⟩ : ∃ c, c = S.getD k ByteArray.empty := ⟨_, rfl⟩
            have hrd : d'.strs.getD k ByteArray.empty = c := by rw [hce]; exact Hsame.out k (Nat.le_refl _)
            have hc8 := hA.cell k (.string c) (by rw [hce]; simp [show k < S.length by rw [HSl.out]; exact hlt])
            have hf8 := hA.free k
            have Hc := Lib.hid hce
            have Hrd := Lib.hid hrd
            clear hrd hce
            have hki : (k : Int) < 6 := by omega
            have hk0 : (0 : Int) ≤ (k : Int) := by omega
            go_wp2_with fail
            refine (read_yes d' p F2 k _ hd (by rw [Hl6.out]; exact hlt)).mono ?_
            rw [Hrd.out, e0]
            rintro e w7 ⟨rfl, rfl⟩
            go_wp2_with fail
            refine (write_ok d' p F2 k ⟨#[111, 116, 104, 101, 114]⟩ _ hd (by rw [Hl6.out]; exact hlt) (by decide) (by rw [hleft]; simp) (by omega)).mono ?_
            rw [e0, hleft]
            rintro e w8 ⟨rfl, F3, hd8, hm8, hF3⟩
            have ho8 := ho.mod hm8 (fun q hq h2 => (HF2.out q h2).2.1 hq)
            have hA8 := hA.mod hm8 (fun h2 => (HF2.out A h2).2.2 rfl)
            have hc9 := hA8.cell k (.string c) (by rw [Hc.out]; simp [show k < S.length by rw [HSl.out]; exact hlt])
            have hf9 := hA8.free k
            have hb8 := hb.trans (hm8.below hb.size (fun q hq => (HF2.out q hq).1))
            have HF3 := Lib.hid hF3
            have hs8 := hb.size
            have hAw := hA.lt
            have hoF := ho.lt
            have HoF := Lib.hid hoF
            clear hd hA ho hb hm8 hc8 hf8 hF3 hoF
            go_wp2_with fail
            refine (read_yes _ p' F' k _ ho8 (by show k < S.length; rw [HSl.out]; exact hlt)).mono ?_
            rw [show S.getD k ByteArray.empty = c from Hc.out.symm, e0]
            rintro e w9 ⟨rfl, rfl⟩
            go_wp2_with fail
            go_roundw
            case rel =>
              refine ⟨k + 1, _, F3, by omega, by go_num, hd8, hA8, ho8, by simp [Hl6.out], ?_, rfl, ?_, hb8, ?_⟩
              · intro j hj
                rw [← Hsame.out j (by omega)]
                simp [List.getD_eq_getElem?_getD, show k ≠ j by omega]
              · simp; omega
              · intro q hq
                rcases HF3.out q hq with h | h
                · exact HF2.out q h
                · exact ⟨by omega, fun h2 => by have := HoF.out q h2; omega, by omega⟩
            case measure => simp [intOf]; omega
          · obtain rfl : k = 6 := by omega
            have hbF := Lib.hid hb
            clear hb
            by_cases h5 : (500 : Int) < (l.length : Int)
            all_goals
              go_wp2_with fail
              all_goals
                go_ret
                exact ⟨rfl, hbF.out⟩
theorem diskTrail_walk : Walks false 3 [22] := by
  intro W vs h
  match vs, h with
  | [v], ⟨h, _⟩ =>
    obtain ⟨l, h1, h2, Ns, hn, _, h3⟩ := (h.slice Try.underlying22).raws
    refine diskTrail_calls v l W h1 (fun i hi => ?_)
    exact (h3 i hi).2.2.1
end Go.Proofs.Ytmlckfdjiljjhaa
