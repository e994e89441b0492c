/-
  The document's Check of chapter 25.
-/
import Derived.Test.YtdaimaibnjkfbaaGreatDoorImR2
namespace Go.Proofs.YtdaimaibnjkfbaaGreatDoor
open Go.RowKit
set_option maxRecDepth 100000

def chkN : Option Int → Int × Int
  | none => (0, 0)
  | some n => (24, n)
/-- Those ahead of a place may be. -/
def PreOk (c b : Int) (l : List SesM) (k : Nat) : Prop := ∀ i (_ : i < k) (hl : i < l.length), MayI c b l[i] (l.take i)
theorem PreOk.may {c b : Int} {l : List SesM} {k : Nat} (h : PreOk c b l k) (hk : k ≤ l.length) : ∀ p ∈ l.take k, mayS p = true := by
  intro p hp
  obtain ⟨i, hi, rfl⟩ := List.getElem_of_mem hp
  rw [List.length_take] at hi
  rw [List.getElem_take]
  exact (h i (by omega) (by omega)).may
theorem PreOk.asc {c b : Int} {l : List SesM} {k : Nat} (h : PreOk c b l k) (hk : k ≤ l.length) : (l.take k).Pairwise (fun p q => p.birth < q.birth) := by
  have ha := asc_of (c := c) (b := b) (l := l.take k) (fun i hi => by
    have hi' : i < k ∧ i < l.length := by rw [List.length_take] at hi; omega
    have g := h i hi'.1 hi'.2
    simp only [List.getElem_take, List.take_take]
    rw [Nat.min_eq_left (by omega)]
    exact g)
  rw [List.pairwise_iff_getElem]
  intro i j hi hj hij
  exact ha j hj i hij
set_option maxHeartbeats 6400000 in
theorem refCheck_calls (st : StM) (v : Value) (w : World) (hr : RdS w v st.l) (ho : ∀ s ∈ st.l, SesOk s) :
    Calls Tryz.prog 15 #[.agg #[.int .i64 st.clock, .int .i64 st.births, v]] w fun ev w' => ev = .returned (.tuple #[.int .i64 (chkN (checkM st)).1, .int .i64 (chkN (checkM st)).2]) ∧ Below w.heap.size w w' := by
  obtain ⟨a, cap, rfl, hc1, hc2⟩ := hr.slice
  obtain ⟨R, hR⟩ : ∃ R, R = checkM st := ⟨_, rfl⟩
  rw [← hR]
  have HR := Lib.hid hr
  have HO := Lib.hid ho
  have HX0 := Lib.hid (Box.new w #[.int .i64 st.clock, .int .i64 st.births, .slice a st.l.length cap] 25)
  have HB := Lib.hid (below_alloc w (.cells #[.int .i64 st.clock, .int .i64 st.births, .slice a st.l.length cap] 25))
  have hbd : boundsM st = decide (0 ≤ st.clock ∧ st.clock ≤ 1099511627776 ∧ 0 ≤ st.births ∧ st.births ≤ 1048576 ∧ st.l.length ≤ 32) := by
    unfold boundsM fromM; rw [Bool.eq_iff_iff]; simp [and_assoc]
  unfold checkM at hR
  rw [hbd] at hR
  have HRR := Lib.hid hR
  clear hbd hR hr ho
  obtain ⟨c, b, l⟩ := st
  simp only at HR HO HX0 HB HRR hc1 hc2 ⊢
  obtain ⟨n, hn⟩ : ∃ n, n = l.length := ⟨_, rfl⟩
  rw [← hn] at HX0 HB HRR hc1 ⊢
  have HN := Lib.hid hn
  have HCAP := Lib.hid hc1
  have hn2 : n ≤ 9223372036854775807 := by omega
  clear hn hc1 hc2
  go_enter Tryz.func15, Tryz.ntmps15
  by_cases g1 : c < 0
  · have HF := Lib.hid (show R = some (-1) by rw [HRR.out, decide_eq_false (by omega)]; rfl)
    go_wp2_with fail
    refine bodyPost_ret (results_tmp2 rfl _ _ _) rfl ?_
    rw [HF.out]
    exact ⟨rfl, HB.out⟩
  by_cases g2 : 1099511627776 < c
  · have HF := Lib.hid (show R = some (-1) by rw [HRR.out, decide_eq_false (by omega)]; rfl)
    go_wp2_with fail
    refine bodyPost_ret (results_tmp2 rfl _ _ _) rfl ?_
    rw [HF.out]
    exact ⟨rfl, HB.out⟩
  by_cases g3 : b < 0
  · have HF := Lib.hid (show R = some (-1) by rw [HRR.out, decide_eq_false (by omega)]; rfl)
    go_wp2_with fail
    refine bodyPost_ret (results_tmp2 rfl _ _ _) rfl ?_
    rw [HF.out]
    exact ⟨rfl, HB.out⟩
  by_cases g4 : 1048576 < b
  · have HF := Lib.hid (show R = some (-1) by rw [HRR.out, decide_eq_false (by omega)]; rfl)
    go_wp2_with fail
    refine bodyPost_ret (results_tmp2 rfl _ _ _) rfl ?_
    rw [HF.out]
    exact ⟨rfl, HB.out⟩
  by_cases g5 : (32 : Int) < (n : Int)
  · have HF := Lib.hid (show R = some (-1) by rw [HRR.out, decide_eq_false (by omega)]; rfl)
    go_wp2_with fail
    refine bodyPost_ret (results_tmp2 rfl _ _ _) rfl ?_
    rw [HF.out]
    exact ⟨rfl, HB.out⟩
  have HF := Lib.hid (show checkGo c b [] 0 l = R by rw [HRR.out, decide_eq_true (by omega), if_pos rfl])
  clear HRR
  go_wp2_with fail
  clear g1 g2 g3 g4 g5
  generalize hw1 : World.alloc w _ = w1 at HX0 HB ⊢
  clear hw1
  go_loopg [4] n (fun gk iv wr => ∃ (k : Nat), gk + k = n ∧ iv = .int .i64 (k : Int) ∧ checkGo c b (l.take k) (k : Int) (l.drop k) = R ∧ PreOk c b l k ∧ Below w1.heap.size w1 wr)
  case atStart => exact ⟨0, rfl, rfl, HF.out, fun i hi _ => by omega, Below.refl _ _⟩
  case round =>
    obtain ⟨k, hgk, rfl, hC, hP, hb⟩ := hrel
    have HBr := Lib.hid hb
    have HC := Lib.hid hC
    have HP := Lib.hid hP
    have HGK := Lib.hid hgk
    have hxr := HX0.out.below hb
    have x0 : wr.cell? ⟨w.heap.size, 0, none⟩ = some (.int .i64 c) := hxr.cell 0 _ rfl
    have x1 : wr.cell? ⟨w.heap.size, 1, none⟩ = some (.int .i64 b) := hxr.cell 1 _ rfl
    have x2 : wr.cell? ⟨w.heap.size, 2, none⟩ = some (.slice a n cap) := hxr.cell 2 _ rfl
    have k0 : (0 : Int) ≤ (k : Int) := by omega
    clear hb hC hP hgk hxr
    by_cases hk : k < n
    rotate_left
    · have k1 : ¬ (k : Int) < (n : Int) := by omega
      have HF2 := Lib.hid (show R = none by
        have e := HC.out
        rw [List.drop_of_length_le (by have := HN.out; omega)] at e
        exact e.symm)
      have HB9 := Lib.hid (HB.out.trans (HBr.out.mono HB.out.size))
      clear hk
      go_wp2_with fail
      refine bodyPost_ret (results_tmp2 rfl _ _ _) rfl ?_
      rw [HF2.out]
      exact ⟨rfl, HB9.out⟩
    have k1 : (k : Int) < (n : Int) := by omega
    have hkl : k < l.length := by have := HN.out; omega
    have HRr := Lib.hid ((HR.out.below HB.out).below HBr.out)
    have HON := Lib.hid (fun hr => refOne_calls c b n cap k a l wr HN.out hr hkl (HO.out _ (List.getElem_mem hkl)) (HP.out.may (by omega)) (HP.out.asc (by omega)))
    obtain ⟨s, hs⟩ : ∃ s, s = l[k] := ⟨_, rfl⟩
    rw [← hs] at HON
    have HD := Lib.hid (show (if mayI c b s (l.take k) = true then checkGo c b (l.take (k + 1)) ((k : Int) + 1) (l.drop (k + 1)) else some (k : Int)) = R by
      rw [← HC.out, List.drop_eq_getElem_cons hkl, ← hs]
      conv => rhs; unfold checkGo
      rw [List.take_succ_eq_append_getElem hkl, ← hs])
    have HT := Lib.hid (show mayI c b s (l.take k) = true → PreOk c b l (k + 1) from fun hm i hi hl => by
      rcases Nat.lt_or_ge i k with h | h
      · exact HP.out i h hl
      · obtain rfl : i = k := by omega
        rw [← hs]; exact mayI_iff.1 hm)
    have HK := Lib.hid hk
    have HO2 := Lib.hid (HON.out (by rw [HN.out]; exact HRr.out))
    clear hk hkl hs HC HRr HON
    cases hm : mayI c b s (l.take k)
    · rw [hm, if_neg (by decide)] at HD
      rw [hm] at HO2
      clear hm
      go_wp2_with fail
      refine HO2.out.mono ?_
      rintro ev w4 ⟨rfl, hb4⟩
      have HB9 := Lib.hid (HB.out.trans ((HBr.out.trans (hb4.mono HBr.out.size)).mono HB.out.size))
      clear hb4
      go_wp2_with fail
      refine bodyPost_ret (results_tmp2 rfl _ _ _) rfl ?_
      rw [← HD.out]
      exact ⟨rfl, HB9.out⟩
    · rw [hm, if_pos rfl] at HD
      have HT2 := Lib.hid (HT.out hm)
      rw [hm] at HO2
      clear hm
      go_wp2_with fail
      refine HO2.out.mono ?_
      rintro ev w4 ⟨rfl, hb4⟩
      have HB4 := Lib.hid (HBr.out.trans (hb4.mono HBr.out.size))
      clear hb4
      go_wp2_with fail
      go_roundg (n - (k + 1))
      case measure => have := HGK.out; have := HK.out; omega
      case rel => exact ⟨k + 1, by have := HGK.out; have := HK.out; omega, by go_num, HD.out, HT2.out, HB4.out⟩
end Go.Proofs.YtdaimaibnjkfbaaGreatDoor
