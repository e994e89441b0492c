/-
  The helpers of DiskPlays: reads.
-/
import Derived.Test.YtmlckfdjiljjhaaDoorRefDisk
import Derived.Test.YtmlckfdjiljjhaaDoorSameR
import Derived.Test.YtmlckfdjiljjhaaDoorAs
namespace Go.Proofs.YtmlckfdjiljjhaaDoor
open Go.RowKit
set_option maxRecDepth 100000

theorem plain_any (er : Int) (w : World) (h1 : 0 ≤ er) (h2 : er ≤ 24) (hg : ErrType w) : Calls Tryd.prog 7 #[errV er, .int .i64 er] w fun e w' => e = .returned (.bool true) ∧ Below w.heap.size w w' := by
  by_cases h0 : er = 0
  · subst h0
    exact plain_nil w
  · obtain ⟨n, rfl⟩ := Int.eq_ofNat_of_zero_le h1
    have e : errV (n : Int) = errN n := by unfold errV; rw [if_neg h0]; rfl
    have := plain_calls n w (by omega) (by omega) hg
    rw [← e] at this
    exact this
theorem read_errs (d : DiskM) (i : Int) : (d.read i).2 = 0 ∨ (d.read i).2 = 1 := by
  unfold DiskM.read; split
  · exact .inl rfl
  · exact .inr rfl
set_option maxHeartbeats 800000 in
theorem reads_calls (d : DiskM) (p rp : Nat) (F G : Nat → Prop) (w : World) (hd : IsDisk w d p F) (hr : IsRef w d rp G) (hw : d.Wf) (ht : d.trail.length ≤ 100000000000) (hg : ErrType w) :
    Calls Tryd.prog 10 #[.pointer (some ⟨p, 0, none⟩), .pointer (some ⟨rp, 0, none⟩)] w fun e w' => e = .returned (.bool true) ∧ Below w.heap.size w w' := by
  have HD := Lib.hid hd
  have HR := Lib.hid hr
  have HW := Lib.hid hw
  have HG := Lib.hid hg
  clear hd hr hw hg
  go_enter Tryd.func10, Tryd.ntmps10
  go_wp2_with fail
  go_loopg [5] 66 (fun gk iv wr => ∃ k : Nat, gk + k = 66 ∧ iv = .int .i64 ((k : Int) - 1) ∧ Below w.heap.size w wr)
  case atStart => exact ⟨0, rfl, rfl, Below.refl _ _⟩
  case round =>
    obtain ⟨k, hgk, rfl, hB⟩ := hrel
    have hrf := HR.out.below hB
    have c0 : wr.cell? ⟨rp, 0, none⟩ = some (.int .i64 (d.strs.length : Int)) := by
      obtain ⟨tv, h1, _⟩ := hrf
      exact h1.cell 0 _ rfl
    have HB := Lib.hid hB
    have Hgk := Lib.hid hgk
    obtain ⟨i, hi⟩ : ∃ i : Int, i = (k : Int) - 1 := ⟨_, rfl⟩
    rw [← hi]
    have hiL : -1 ≤ i := by omega
    by_cases h1 : i ≤ (d.strs.length : Int)
    · by_cases h2 : i ≤ 64
      · have Hre := Lib.hid (refRead_any d rp G i wr hrf HW.out ht)
        have Hdi := Lib.hid (read_any d p F i wr (HD.out.mod (Mod.of_below (F := fun _ => False) hB) (fun _ _ h => h)))
        have her := read_errs d i
        have Hpl := Lib.hid (plain_any (d.read i).2 wr (by omega) (by omega) (HG.out.below hB))
        obtain ⟨sv, hsv⟩ : ∃ sv, sv = (d.read i).1 := ⟨_, rfl⟩
        obtain ⟨er, herr⟩ : ∃ er, er = (d.read i).2 := ⟨_, rfl⟩
        rw [← hsv, ← herr] at Hre Hdi
        rw [← herr] at Hpl her
        have Hi := Lib.hid hi
        obtain ⟨ev, hev⟩ : ∃ ev, ev = errV er := ⟨_, rfl⟩
        rw [← hev] at Hdi Hpl
        have hevs : ev = .nilIface ∨ ev = .iface 60 (.int .i64 1) := by
          rcases her with h | h
          · left; rw [hev, h]; rfl
          · right; rw [hev, h]; rfl
        clear hrf hB hgk hsv herr her hev hi
        have hself : ((sv.toList == sv.toList) = true) := by simp
        rcases hevs with rfl | rfl
        all_goals
          go_wp2_with fail
          refine Hre.out.mono ?_
          rintro r w1 ⟨rfl, rfl⟩
          go_wp2_with fail
          refine Hdi.out.mono ?_
          rintro r w2 ⟨rfl, rfl⟩
          go_wp2_with fail
          refine Hpl.out.mono ?_
          rintro r w3 ⟨rfl, hb3⟩
          have HB3 := Lib.hid (HB.out.trans (hb3.mono HB.out.size))
          clear hb3
          go_wp2_with fail
          go_roundg (66 - (k + 1))
          case measure => have := Hgk.out; have := Hi.out; omega
          case rel => exact ⟨k + 1, by have := Hgk.out; have := Hi.out; omega, by rw [Hi.out]; go_num, HB3.out⟩
      · have h2' : decide (i ≤ 64) = false := by simp; omega
        clear hrf hB
        go_wp2_with fail
        go_ret
        exact ⟨rfl, HB.out⟩
    · have h1' : decide (i ≤ (d.strs.length : Int)) = false := by simp; omega
      clear hrf hB
      go_wp2_with fail
      go_ret
      exact ⟨rfl, HB.out⟩
end Go.Proofs.YtmlckfdjiljjhaaDoor
