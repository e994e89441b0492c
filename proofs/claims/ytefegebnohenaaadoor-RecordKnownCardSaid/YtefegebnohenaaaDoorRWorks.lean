/-
  lineagelaw12.works: it says yes.
-/
import Derived.Test.YtefegebnohenaaaDoorRLaw
import Derived.Test.YtefegebnohenaaaDoorSame12
namespace Go.Proofs.YtefegebnohenaaaDoor
open Go.RowKit

theorem pay_lt {e : UInt32} {bl : List (List UInt8)} {n m : Nat} (hn : payM e bl n = none) (hm : ∀ i, i < m → payM e bl i ≠ none) : m ≤ n := by
  rcases Nat.lt_or_ge n m with h | h
  · exact absurd hn (hm n h)
  · exact h
/-- Of records that are laid one behind the other just they are found. -/
theorem found_laid {e : UInt32} {ps : List (List UInt8)} {t : List (List UInt8)} (hp : ∀ p ∈ ps, p.length ≤ 512) (ht : oneM e t = none) {B : Nat} {pre : List (Nat × Value)} {W : World} (h : Found e (laidM e ps ++ t) B pre W)
    (hn : payM e (laidM e ps ++ t) pre.length = none) :
    pre.length = ps.length ∧ posM e (laidM e ps ++ t) pre.length = (laidM e ps).length ∧ ∀ i, i < ps.length → OwnM W B 5 ((pre.map (·.2)).getD i undef) (ps.getD i []).length ((ps.getD i []).map V8) := by
  have hend := laid_end e ps t hp ht
  have h1 : ps.length ≤ pre.length := pay_lt hn (fun i hi hc => by
    have := (laid_pos e ps t hp i (by omega)).2 hi
    rw [this] at hc; cases hc)
  have h2 : pre.length ≤ ps.length := pay_lt hend.2 (fun i hi hc => by
    obtain ⟨_, p, k, hk, _⟩ := h.row i pre[i] (List.getElem?_eq_getElem hi)
    rw [hk] at hc; cases hc)
  have hl : pre.length = ps.length := by omega
  refine ⟨hl, by rw [hl]; exact hend.1, fun i hi => ?_⟩
  obtain ⟨_, p, k, hk, hown⟩ := h.row i pre[i] (List.getElem?_eq_getElem (by omega))
  have := (laid_pos e ps t hp i (by omega)).2 hi
  rw [this] at hk
  injection hk with hk; injection hk with hk1 hk2
  subst hk1
  have e1 : (pre.map (·.2)).getD i undef = pre[i].2 := by simp [List.getD, show i < pre.length by omega]
  have e2 : ps.getD i [] = ps[i] := by simp [List.getD, hi]
  rw [e1, e2]; exact hown
theorem works12_calls (w : World) : Calls Tryd.prog 30 #[] w fun e w' => e = .returned (.bool true) ∧ Below w.heap.size w w' := by
  have h1 := frame_calls (.slice (some ⟨w.heap.size, 0, none⟩) 1 1) 1 [7] (w.alloc (.cells #[.int .u8 7] 5)) (rd_lit w #[.int .u8 7] 5 [7] rfl (by decide))
  rw [show (((1 : UInt32).toNat : Nat) : Int) = 1 from rfl] at h1
  have H1 := Lib.hid h1
  have HB0 := Lib.hid (below_alloc w (.cells #[.int .u8 7] 5))
  clear h1
  go_enter Tryd.func30, Tryd.ntmps30
  go_wp2_with fail
  refine H1.out.mono ?_
  rintro r w1 hr
  rcases hr with ⟨h, _⟩ | ⟨_, lv, rfl, ho1, hb1⟩
  · exact absurd h (by decide)
  have hb1 := below_trans HB0.out hb1
  have e1 : frameM 1 [7] = laidM 1 [[7]] ++ [] := by simp [laidM]
  have hl1 : (laidM 1 [[7]] ++ []).length = 1 := rfl
  rw [e1] at ho1
  have h2 := scan_calls 1 lv (laidM 1 [[7]] ++ []) w1 (rd_of_own ho1) (by rw [hl1]; decide) (fun b hb => by
    have hb : b ∈ laidM 1 [[7]] := by simpa using hb
    have : b = headM 1 [7] ++ [7] := by simpa [laidM, frameM, restM] using hb
    rw [this, List.length_append, headM_length]; decide)
  rw [show (((1 : UInt32).toNat : Nat) : Int) = 1 from rfl] at h2
  obtain ⟨la, lc, rfl⟩ : ∃ a c, lv = .slice a 1 c := by obtain ⟨a, c, h, _⟩ := own_slice ho1; exact ⟨a, c, h⟩
  have H2 := Lib.hid h2
  have HB1 := Lib.hid hb1
  have Hl1 := Lib.hid hl1
  clear h2 hb1 ho1 e1 hl1 H1 HB0
  go_wp2_with fail
  refine H2.out.mono ?_
  rintro r w2 ⟨ov, pre, hno, rfl, hfo, hov, hb2⟩
  obtain ⟨f1, f2, f3⟩ := found_laid (ps := [[7]]) (t := []) (by decide) rfl hfo hno
  rw [f2, show (laidM 1 [[7]]).length = 1 from rfl]
  rw [f1] at hov
  have hv0 := f3 0 (by decide)
  have hrd := rd_of_own hov
  have hml : (pre.map (·.2)).length = 1 := by rw [List.length_map, f1]; rfl
  obtain ⟨b, off, cap, rfl, hcell⟩ := hrd.at 0 (by omega)
  obtain ⟨xa, xc, hxe, _⟩ := hv0.slice
  rw [hxe] at hcell hv0
  have hb2 := below_trans HB1.out hb2
  have Hv0 := Lib.hid hv0.rd
  have HB2 := Lib.hid hb2
  have hcell : w2.cell? ⟨b, off, none⟩ = some (.slice xa 1 xc) := hcell
  clear hno hfo hov f1 f2 f3 hv0 hrd hml hxe hb2 H2 HB1
  go_wp2_with fail
  have hbn := below_alloc w2 (.cells #[.int .u8 7] 5)
  refine (sameBytes_calls _ _ [7] _ (Hv0.out.below hbn) (rd_lit w2 #[.int .u8 7] 5 [7] rfl (by decide))).mono ?_
  rintro r w3 ⟨rfl, k, rfl⟩
  clear hbn
  go_wp2_with fail
  go_ret
  exact ⟨rfl, HB2.out.trans ((below_trans (below_alloc w2 _) (below_drewN _ k)).mono HB2.out.size)⟩
end Go.Proofs.YtefegebnohenaaaDoor
