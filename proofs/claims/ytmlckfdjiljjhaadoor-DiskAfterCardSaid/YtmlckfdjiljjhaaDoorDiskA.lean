/-
  The walk of (*disk.Disk).After.
-/
import Derived.Test.YtmlckfdjiljjhaaDoorDiskW
import Derived.StillTailTactics
namespace Go.Proofs.YtmlckfdjiljjhaaDoor
open Go.RowKit
set_option maxRecDepth 100000

theorem after_no (d : DiskM) (p : Nat) (F : Nat → Prop) (n : Int) (w : World) (h : IsDisk w d p F) (hi : ¬ (0 ≤ n ∧ n ≤ d.trail.length)) :
    Calls Tryd.prog 13 #[.pointer (some ⟨p, 0, none⟩), .int .i64 n] w fun e w' => e = .returned (.tuple #[.pointer none, errV 1]) ∧ w = w' := by
  obtain ⟨bb, tv, pv, q, h1, h2, h3, h4, h5, h6, h7, h8, rfl⟩ := h
  obtain ⟨ta, tc, rfl, _, _⟩ := own_form h3
  have hc := h1.cell 1 _ rfl
  clear h1 h2 h3 h4 h7 h8
  by_cases h0 : n < 0
  · go_enter Tryd.func13, Tryd.ntmps13
    go_wp2
    go_ret2
    exact ⟨rfl, rfl⟩
  · have h9 : (d.trail.length : Int) < n := by omega
    clear hi
    go_enter Tryd.func13, Tryd.ntmps13
    go_wp2
    go_ret2
    exact ⟨rfl, rfl⟩
set_option maxHeartbeats 800000 in
theorem after_yes (d : DiskM) (p : Nat) (F : Nat → Prop) (n : Nat) (w : World) (h : IsDisk w d p F) (hn : n ≤ d.trail.length) (ht : d.trail.length ≤ 1000000000000) (hin : ∀ r ∈ d.trail, 0 ≤ r.1 ∧ r.1 < d.strs.length) :
    Calls Tryd.prog 13 #[.pointer (some ⟨p, 0, none⟩), .int .i64 (n : Int)] w fun e w' => ∃ p' F', e = .returned (.tuple #[.pointer (some ⟨p', 0, none⟩), errV 0]) ∧
      IsDisk w' { strs := playRaws (List.replicate d.strs.length ByteArray.empty) (d.trail.take n), trail := d.trail.take n, left := none } p' F' ∧ Below w.heap.size w w' ∧ ∀ k, F' k → w.heap.size ≤ k := by
  have hd := h
  obtain ⟨bb, tv, pv, q, h1, h2, h3, h4, h5, h6, h7, h8, rfl⟩ := h
  have hrd := rd_of_own h3
  obtain ⟨ta, tc, rfl, htc, _⟩ := own_form h3
  have hc0 := h1.cell 0 _ rfl
  have hc1 := h1.cell 1 _ rfl
  have hmk := make_str d.strs.length h5
  have hhd := fun w => run_head (P := Tryd.prog) Tryd.underlying57 ⟨2, by kernel_rfl⟩ ta d.trail.length tc n (by omega) w
  have hp := h1.lt
  have hrd2 : Rd w (.slice ta n tc) n (flatRaws (d.trail.take n)) := by
    have := hrd.cut (m := n) (by omega) (n * 2)
    have e : (flatRaws d.trail).take (n * 2) = flatRaws (d.trail.take n) := by
      conv => lhs; rw [← List.take_append_drop n d.trail, flatRaws_append]
      rw [List.take_append_of_le_length (by rw [flatRaws_length, List.length_take]; omega), List.take_of_length_le (by rw [flatRaws_length, List.length_take]; omega)]
    rw [e] at this; exact this
  have Hrd := Lib.hid (fun w2 (hb : Below w.heap.size w w2) => hrd2.below hb)
  have hlen : (flatRaws (d.trail.take n)).length = n * 2 := by rw [flatRaws_length, List.length_take]; omega
  have Hlen := Lib.hid hlen
  have hn0 : (n : Int) ≤ (tc : Int) := by omega
  have hn1 : (0 : Int) ≤ (n : Int) := by omega
  clear h1 h2 h3 h4 h7 h8 hrd hrd2 hlen
  go_enter Tryd.func13, Tryd.ntmps13
  go_upto_region 3 with (fail)
  go_cut [6] (fun v w' => ∃ (p' bb' : Nat) (oa : Option Addr) (oc : Nat), v = .pointer (some ⟨p', 0, none⟩) ∧ Box w' p' #[.slice (some ⟨bb', 0, none⟩) d.strs.length d.strs.length, .slice oa n oc, .func (.func 16) #[] #[]] 63 ∧
      Box w' bb' (madeCells #[.string ByteArray.empty] d.strs.length) 9 ∧ w'.ownsRow w.heap.size 53 2 (.slice oa n oc) n (flatRaws (d.trail.take n)) ∧ Below w.heap.size w w' ∧ w.heap.size ≤ bb' ∧ w.heap.size ≤ p' ∧ p' ≠ bb' ∧
      (∀ k, (Value.slice oa n oc).ownBlock = some k → k ≠ p' ∧ k ≠ bb'))
  case first =>
    go_region_held3 (fun w' => w'.cell? ⟨p, 0, none⟩ = some (.slice (some ⟨bb, 0, none⟩) d.strs.length d.strs.length) ∧ w'.cell? ⟨p, 1, none⟩ = some (.slice ta d.trail.length tc)) (first | go_keep | (go_split_ands; refine ⟨?_, ?_⟩ <;> (apply below_heap hbc; (first | assumption | (simp [go_sem, World.cell?_alloc_past, hp]; assumption))))) (first | (go_at_call 41; refine (clone_calls _ n _ _ (Hrd.out _ (by go_grown)) Hlen.out (flatRaws_one _) (by omega)).mono ?_; rintro e w' ⟨oa, oc, rfl, hown, hbc⟩))
    all_goals (go_wp2_with fail; go_meet)
    · simp only [World.size_alloc, World.size_drew] at hown
      have hl := hbc.size
      simp only [World.size_alloc, World.size_drew] at hl
      refine ⟨w'.heap.size, w.heap.size, oa, oc, rfl, Box.new _ _ _, ?_, own_base (own_below hown (below_alloc _ _)) (by omega), ?_, Nat.le_refl _, by omega, by omega, fun k hk => ?_⟩
      · exact ((Box.new w.drew (madeCells #[.string ByteArray.empty] d.strs.length) 9).below hbc).below (below_alloc _ _)
      · exact ((below_drew w).trans (below_alloc w.drew _)).trans ((hbc.mono (by simp)).trans ((below_alloc w' _).mono (by omega)))
      · have := hown.lt k hk; omega
    · have hl : w.heap.size ≤ w'.heap.size := hbc.size
      have hl2 : w.drew.heap.size ≤ w'.heap.size := hbc.size
      have hown : w'.ownsRow w.heap.size 53 2 (.slice oa n oc) n (flatRaws (d.trail.take n)) := hown
      refine ⟨w'.heap.size + 1, w'.heap.size, oa, oc, rfl, ?_, ?_, own_below (own_below hown (below_alloc _ _)) (below_alloc _ _), ?_, by omega, by omega, by omega, fun k hk => ?_⟩
      · have := Box.new (w'.alloc (.cells (madeCells #[.string ByteArray.empty] d.strs.length) 9)) #[.slice (some ⟨w'.heap.size, 0, none⟩) d.strs.length d.strs.length, .slice oa n oc, .func (.func 16) #[] #[]] 63
        simpa using this
      · exact (Box.new w' (madeCells #[.string ByteArray.empty] d.strs.length) 9).below (below_alloc _ _)
      · exact (below_drew w).trans (hbc.trans (((below_alloc w' _).mono (by omega)).trans ((below_alloc _ _).mono (by simp; omega))))
      · have := hown.lt k hk; omega
  case rest =>
    obtain ⟨p', bb', oa, oc, rfl, hbp, hbb, hown, hbw, hbb0, hp0, hpb, hap⟩ := hcut
    have hcp := hbp.cell 1 _ rfl
    have hraws : ∃ raws : List (Int × ByteArray), raws = d.trail.take n := ⟨_, rfl⟩
    obtain ⟨raws, hraws⟩ := hraws
    have hrl : raws.length = n := by rw [hraws, List.length_take]; omega
    have hrin : ∀ r ∈ raws, 0 ≤ r.1 ∧ r.1 < d.strs.length := fun r hr => hin r (List.mem_of_mem_take (by rw [← hraws]; exact hr))
    rw [← hraws] at hown
    have Hraws := Lib.hid hraws
    have Hrl := Lib.hid hrl
    have Hrin := Lib.hid hrin
    clear hraws hrin hin hd Hrd Hlen hc0 hc1
    go_wp2_with fail
    go_loopw [41] (fun i wr => ∃ k : Nat, k ≤ n ∧ i = .int .i64 k ∧ Box wr p' #[.slice (some ⟨bb', 0, none⟩) d.strs.length d.strs.length, .slice oa n oc, .func (.func 16) #[] #[]] 63 ∧
        Box wr bb' ((playRaws (List.replicate d.strs.length ByteArray.empty) (raws.take k)).map Value.string).toArray 9 ∧ wr.ownsRow w.heap.size 53 2 (.slice oa n oc) n (flatRaws raws) ∧ Below w.heap.size w wr) (fun i _ => n - (intOf i).toNat)
    case atStart => exact ⟨0, by omega, rfl, hbp, by rw [← replicate_map] at hbb; exact hbb, hown, hbw⟩
    case round =>
      clear hbp hbb hown hbw hcp
      obtain ⟨k, hk, rfl, hbp, hbb, hown, hbw⟩ := hrel
      by_cases hlt : k < n
      · have hown0 := hown
        rcases hown.2 with ⟨_, h00⟩ | ⟨g, cap, cur, hge, hbg, hg, hn', hm, hs', ht'⟩
        · omega
        injection hge with e1 e2 e3
        subst e1; subst e3
        obtain ⟨bi, sx, q0, q1, q2, q3⟩ := raw_at raws k (by omega)
        have hca := hown0.cellAt (k * 2) (by omega)
        have hcb := hown0.cellAt (k * 2 + 1) (by omega)
        rw [q1] at hca; rw [q2] at hcb
        obtain ⟨hri0, hri⟩ := Hrin.out _ q3
        simp only at hri0 hri
        obtain ⟨bi, rfl⟩ := Int.eq_ofNat_of_zero_le hri0
        have Q0 := Lib.hid q0
        have Hown := Lib.hid hown0
        clear hown0 hown hg hs' ht' q0 q1 q2 q3 hm
        have hs := hbw.size
        have hx := Box.new wr #[.int .i64 (bi : Int), .string sx] 53
        have hbp1 := hbp.below (below_alloc wr (.cells #[.int .i64 (bi : Int), .string sx] 53))
        have hbb1 := hbb.below (below_alloc wr (.cells #[.int .i64 (bi : Int), .string sx] 53))
        have hbw1 := hbw.alloc hs (.cells #[.int .i64 (bi : Int), .string sx] 53)
        have Hown1 := Lib.hid (Hown.out.alloc (.cells #[.int .i64 (bi : Int), .string sx] 53))
        have c1 := hbp1.cell 0 _ rfl
        have hlp : (playRaws (List.replicate d.strs.length ByteArray.empty) (raws.take k)).length = d.strs.length := by unfold playRaws; rw [playRaws_length]; simp
        obtain ⟨L, hL⟩ : ∃ L, L = playRaws (List.replicate d.strs.length ByteArray.empty) (raws.take k) := ⟨_, rfl⟩
        rw [← hL] at hbb1 hlp
        have HL := Lib.hid hL
        clear hL
        have c2 := hbb1.cell bi (.string (L.getD bi ByteArray.empty)) (by simp [show bi < L.length by omega])
        have f2 := hbb1.free bi
        have hpl := hbp1.lt
        have hbl := hbb1.lt
        have Hlp := Lib.hid hlp
        have hbi0 : (0 : Int) ≤ (bi : Int) := by omega
        clear hbp hbb hbw hlp
        go_wp2_with fail
        obtain ⟨w1, hw1⟩ : ∃ w1, w1 = wr.alloc (.cells #[.int .i64 (bi : Int), .string sx] 53) := ⟨_, rfl⟩
        have hx1 : Box w1 wr.heap.size #[.int .i64 (bi : Int), .string sx] 53 := by rw [hw1]; exact hx
        rw [← hw1] at hbp1 hbb1 hbw1 Hown1 c1 c2 f2 ⊢
        clear hw1 hx
        have c3 := hx1.cell 0 _ rfl
        have c4 := hx1.cell 1 _ rfl
        go_still_tail 9, (by kernel_rfl)
        change wpList _ _ _ _ _ w1.drew
        go_wp2
        go_roundw
        case rel =>
          refine ⟨k + 1, by omega, by go_num, (hbp1.set_other (p := ⟨bb', bi, none⟩) (fun e => hpb e.symm) (.string sx)).drew, ?_, own_mod (own_mod Hown1.out (Mod.set (fun k => k = bb') w1 ⟨bb', bi, none⟩ (.string sx) rfl) (fun k hk e => (hap k hk).2 e)) (Mod.drew (fun _ => False) _) (fun _ _ h => h), (hbw1.setCell (p := ⟨bb', bi, none⟩) hbb0 (.string sx)).drew⟩
          rw [Q0.out]
          have := (hbb1.set bi (.string sx)).drew
          rw [HL.out] at this
          simpa [playRaws, List.map_set] using this
        case measure => simp [intOf]; omega
      · obtain rfl : k = n := by omega
        go_wp2
        go_ret2
        rw [List.take_of_length_le (by have := Hrl.out; omega)] at hbb
        rw [← Hraws.out]
        have hL : (playRaws (List.replicate d.strs.length ByteArray.empty) raws).length = d.strs.length := by unfold playRaws; rw [playRaws_length]; simp
        refine ⟨p', _, rfl, ⟨bb', _, _, none, by simpa [hL] using hbp, hbb, by simpa [Hrl.out] using own_base hown (Nat.zero_le _), ⟨rfl, rfl⟩, by simpa [hL] using h5, hpb.symm, hap, (fun k hk => by cases hk), rfl⟩, hbw, ?_⟩
        rintro k (h | h | h | h)
        · omega
        · omega
        · exact (hown.lt k h).1
        · cases h
end Go.Proofs.YtmlckfdjiljjhaaDoor
