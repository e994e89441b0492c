/-
  The walk of RecordAgain.
-/
import Derived.Test.YtefegebnohenaaaDoorRWhole
namespace Go.Proofs.YtefegebnohenaaaDoor
open Go.RowKit

theorem frameM_count (e : UInt32) (p : List UInt8) (h : p.length ≤ 512) : (frameM e p).length = if 245 < p.length then 1 + (p.length - 245 + 254) / 255 else 1 := by
  have hr : ∀ f (q : List UInt8), q.length ≤ 255 * f → (restM f q).length = (q.length + 254) / 255 := by
    intro f
    induction f with
    | zero => intro q hq; simp [restM]; omega
    | succ f ih =>
      intro q hq
      rw [restM]
      by_cases h0 : q.length = 0
      · rw [if_pos h0, h0]; rfl
      · rw [if_neg h0, List.length_cons, ih _ (by rw [List.length_drop]; omega), List.length_drop]; omega
  unfold frameM
  rw [List.length_cons, hr 3 _ (by rw [List.length_drop]; omega), List.length_drop]
  split <;> omega
/-- Between two rounds. -/
structure AgainI (e : UInt32) (bl : List (List UInt8)) (W0 : World) (i : Nat) (bv : Value) (wr : World) : Prop where
  own : wr.ownsRow W0.heap.size 9 1 bv (posM e bl i) ((bl.take (posM e bl i)).map SV)
  below : Below W0.heap.size W0 wr
theorem AgainI.next {e : UInt32} {bl : List (List UInt8)} {W0 : World} {i : Nat} {bv v' : Value} {wr w9 w' : World} {p : List UInt8} {k : Nat} (h : AgainI e bl W0 i bv wr) (hb : Below wr.heap.size wr w9) (hp : payM e bl i = some (p, k))
    (ho : w'.ownsRow W0.heap.size 9 1 v' (posM e bl i + (frameM e p).length) ((bl.take (posM e bl i)).map SV ++ (frameM e p).map SV)) (hg : w9.grownBy w' bv.ownBlock) : AgainI e bl W0 (i + 1) v' w' := by
  have hpay := hp
  unfold payM at hpay
  obtain ⟨h1, h2, h3⟩ := (oneM_isOne _ _ _ _).1 hpay
  refine ⟨?_, (h.below.trans (hb.mono h.below.size)).trans (below_grown hg (Nat.le_trans h.below.size hb.size) (fun j hj => (h.own.lt j hj).1))⟩
  rw [posM_succ hp, List.take_add, List.map_append, h3, h2]; exact ho
set_option maxHeartbeats 800000 in
theorem again_calls (e : UInt32) (lv : Value) (bl : List (List UInt8)) (W : World) (hb : Rd W lv bl.length (bl.map SV)) (hbn : bl.length ≤ 1048576) (hbig : ∀ b ∈ bl, b.length ≤ 9223372036854775807) :
    Calls Tryd.prog 28 #[.int .u32 (e.toNat : Int), lv] W fun r w' => r = .returned (.bool true) ∧ Below W.heap.size W w' := by
  obtain ⟨la, lc, rfl, hlc⟩ : ∃ a c, lv = .slice a bl.length c ∧ bl.length ≤ c := by obtain ⟨a, c, h, h1, _⟩ := hb; exact ⟨a, c, h, h1⟩
  have HS := Lib.hid (scan_calls e _ bl W hb (by omega) hbig)
  have HB := Lib.hid hb
  have Hbig := Lib.hid hbig
  clear hb hbig
  go_enter Tryd.func28, Tryd.ntmps28
  go_wp2_with fail
  refine HS.out.mono ?_
  rintro r w1 ⟨gv, pre, hno, rfl, hfo, hov, hb1⟩
  obtain ⟨ga, gc, rfl, _⟩ := own_slice hov
  obtain ⟨n, hn⟩ : ∃ n, n = posM e bl pre.length := ⟨_, rfl⟩
  have hnl : n ≤ bl.length := by rw [hn]; exact posM_le _ _ _
  rw [← hn]
  have HFo := Lib.hid hfo
  have HOv := Lib.hid hov
  have HB1 := Lib.hid hb1
  have Hn := Lib.hid hn
  have Hnl := Lib.hid hnl
  have hd1 : decide ((n : Int) < 0) = false := by simp
  have hd2 : decide (bl.length < n) = false := by simpa using hnl
  clear hno hfo hov hb1 hn hnl HS
  go_wp2_with fail
  refine (works12_calls _).mono ?_
  rintro r W0 ⟨rfl, hb2⟩
  have hov := own_below HOv.out hb2
  have HG := Lib.hid (rd_of_own hov)
  have HBW := Lib.hid (HB1.out.trans (hb2.mono HB1.out.size))
  have hrow : ∀ i, i < pre.length → ∃ p k xa xc, payM e bl i = some (p, k) ∧ (pre.map (·.2)).getD i undef = .slice xa p.length xc ∧ Rd W0 (.slice xa p.length xc) p.length (p.map V8) := fun i hi => by
    obtain ⟨_, p, k, h1, h2⟩ := HFo.out.row i pre[i] (List.getElem?_eq_getElem hi)
    obtain ⟨xa, xc, h3, _⟩ := h2.slice
    refine ⟨p, k, xa, xc, h1, ?_, ?_⟩
    · simp [List.getD, hi, h3]
    · rw [← h3]; exact h2.rd.below hb2
  have Hrow := Lib.hid hrow
  clear hb2 hov hrow HOv HFo HB1
  go_wp2_with fail
  go_loopw [7, 8] (fun bv i wr => ∃ k : Nat, k ≤ pre.length ∧ i = .int .i64 k ∧ AgainI e bl W0 k bv wr) (fun _ i _ => pre.length - (intOf i).toNat)
  case atStart => exact ⟨0, by omega, rfl, World.ownsRow_nil _ _ _ _, Below.refl _ _⟩
  case round =>
    obtain ⟨i, hi, rfl, hI⟩ := hrel
    obtain ⟨m, hm⟩ : ∃ m, m = posM e bl i := ⟨_, rfl⟩
    have hown := hI.own
    rw [← hm] at hown
    obtain ⟨b7, c7, rfl, _⟩ := own_slice hown
    have hml : m ≤ bl.length := by rw [hm]; exact posM_le _ _ _
    have Hml := Lib.hid hml
    have Hm := Lib.hid hm
    have HI := Lib.hid hI
    have HOwn := Lib.hid hown
    clear hm hml hI hown
    by_cases hlt : i < pre.length
    · obtain ⟨p, k, xa, xc, hp, hx, hr⟩ := Hrow.out i hlt
      have hcell : ∃ b off, ga = some ⟨b, off, none⟩ ∧ wr.cell? ⟨b, off + i, none⟩ = some (.slice xa p.length xc) := by
        obtain ⟨_, _, h, _, _, _, h3⟩ := HG.out.below HI.out.below
        cases h
        obtain ⟨b, off, h4, h5⟩ := h3 i (by simpa using hlt)
        exact ⟨b, off, h4, by rw [h5, hx]⟩
      obtain ⟨gb, goff, rfl, hcell⟩ := hcell
      have hpay := hp
      unfold payM at hpay
      have hp5 := ((oneM_isOne _ _ _ _).1 hpay).1
      have hfr := frame_calls _ e p wr (hr.below HI.out.below)
      obtain ⟨F, hF⟩ : ∃ F, F = frameM e p := ⟨_, rfl⟩
      rw [← hF] at hfr
      have hcount := frameM_count e p hp5
      rw [← hF] at hcount
      have hFb : ∀ b ∈ F, b.length ≤ 256 := fun b hb => frameM_block (by rw [← hF]; exact hb)
      have hF4 : F.length ≤ 4 := by rw [hF]; exact frameM_le e p
      have Hfr := Lib.hid hfr
      have HF := Lib.hid hF
      have Hc := Lib.hid hcount
      have HFb := Lib.hid hFb
      have HF4 := Lib.hid hF4
      have Hp := Lib.hid hp
      have h1 : (0 : Int) ≤ (i : Int) := by omega
      have h2 : (i : Int) < (pre.length : Int) := by omega
      clear hp hx hr hpay hfr hF hcount hFb hF4
      go_wp2_with fail
      refine Hfr.out.mono ?_
      rintro r w5 hr
      rcases hr with ⟨h, _⟩ | ⟨_, fv, rfl, ho5, hb5⟩
      · exact absurd h (by omega)
      obtain ⟨fa, fc, rfl, _⟩ := own_slice ho5
      have HO5 := Lib.hid ho5
      have HB5 := Lib.hid hb5
      have hcell := below_heap hb5 hcell
      clear ho5 hb5 Hfr
      have hcz : (245 < p.length ∧ ((F.length : Int) != 1 + ((p.length : Int) - 245 + 254) / 255) = false) ∨ (decide (245 < p.length) = false ∧ ¬ 245 < p.length ∧ ((F.length : Int) != 1) = false ∧ (F.length != 1) = false) := by
        have hc := Hc.out
        by_cases h : 245 < p.length
        · rw [if_pos h] at hc
          exact .inl ⟨h, by rw [hc, bne_eq_false_iff_eq]; omega⟩
        · rw [if_neg h] at hc
          exact .inr ⟨by simpa using h, h, by rw [hc]; rfl, by rw [hc]; rfl⟩
      rcases hcz with ⟨h245, hq⟩ | ⟨hd, h245, hq, hq'⟩
      all_goals
        go_wp2_with fail
        go_loop [12] (fun j => ∃ c : Nat, c ≤ F.length ∧ j = .int .i64 c) (fun j => F.length - (intOf j).toNat)
        case atStart => exact ⟨0, by omega, rfl⟩
        case round =>
          obtain ⟨c, hc, rfl⟩ := hrel
          by_cases hcl : c < F.length
          · obtain ⟨x, hx⟩ : ∃ x, x = F.getD c [] := ⟨_, rfl⟩
            have hxl : x.length ≤ 256 := by
              have e1 : F.getD c [] = F[c] := by simp [List.getD, hcl]
              rw [hx, e1]; exact HFb.out _ (List.getElem_mem hcl)
            have hfc : ∃ b off, fa = some ⟨b, off, none⟩ ∧ w5.cell? ⟨b, off + c, none⟩ = some (.string (SB x)) := by
              obtain ⟨_, _, h, _, _, _, h3⟩ := rd_of_own HO5.out
              cases h
              obtain ⟨b, off, h4, h5⟩ := h3 c (by simpa using hcl)
              refine ⟨b, off, h4, ?_⟩
              rw [h5, hx]; simp [List.getD, hcl, SV]
            obtain ⟨fb, foff, rfl, hfc⟩ := hfc
            have hx1 : decide ((256 : Int) < (x.length : Int)) = false := by simp; omega
            have hx2 : decide (256 < x.length) = false := by simp; omega
            have h3 : (0 : Int) ≤ (c : Int) := by omega
            have h4 : (c : Int) < (F.length : Int) := by omega
            clear hx hxl
            go_wp2_with fail
            go_round
            case rel => exact ⟨c + 1, by omega, by go_num⟩
            case measure => simp [intOf]; omega
          · obtain rfl : c = F.length := by omega
            have HBl5 := Lib.hid (own_below HOwn.out HB5.out)
            have Hs5 := Lib.hid (Nat.le_trans HI.out.below.size HB5.out.size)
            have Hrm := Lib.hid (show m + F.length ≤ 8796093022208 by have := Hml.out; have := HF4.out; omega)
            go_wp2_with (at_builtin; refine appT rfl _ _ rfl W0.heap.size _ m ((bl.take m).map SV) rfl HBl5.out _ F rfl (rd_of_own HO5.out) Hrm.out Hs5.out ?_)
            intro v8 w8 ho8 hg8 _
            have hnx := HI.out.next HB5.out Hp.out (by rw [← Hm.out, ← HF.out, List.map_take]; exact ho8) hg8
            have HNX := Lib.hid hnx
            clear ho8 hg8 hnx HBl5 HI HOwn
            go_wp2_with fail
            go_roundw
            case rel => exact ⟨i + 1, by omega, by go_num, HNX.out⟩
            case measure => simp [intOf]; omega
    · obtain rfl : i = pre.length := by omega
      have hmn : m = n := by rw [Hm.out, Hn.out]
      have hown := HOwn.out
      rw [hmn] at hown
      have hle := Hnl.out
      have hlb := (HB.out.below (HBW.out.trans (HI.out.below.mono HBW.out.size))).cut (m := n) (by omega) n
      rw [← List.map_take] at hlb
      have htl : (bl.take n).length = n := by rw [List.length_take]; omega
      have hst := sameTexts_calls (.slice b7 n c7) (.slice la n lc) (bl.take n) wr (by rw [htl]; exact rd_of_own hown) (by rw [htl]; exact hlb)
      have hcut : ∀ w', (Instr.slice 25 (.slice la bl.length lc) none (some (.int .i64 (n : Int))) none).run Tryd.prog w' = .ok (.slice la n lc) w' := fun w' => run_head Tryd.underlying25 ⟨1, by kernel_rfl⟩ la bl.length lc n (by omega) w'
      have Hst := Lib.hid hst
      have HBE := Lib.hid (HBW.out.trans (HI.out.below.mono HBW.out.size))
      rw [hmn]
      clear hmn hown hle hlb htl hst
      go_wp2_with fail
      refine Hst.out.mono ?_
      rintro r w9 ⟨rfl, k, rfl⟩
      go_wp2_with fail
      go_ret
      exact ⟨rfl, HBE.out.trans ((below_drewN wr k).mono HBE.out.size)⟩
end Go.Proofs.YtefegebnohenaaaDoor
