/-
  lineagelaw12.knownSaid: it says yes.
-/
import Derived.Test.YtefegebnohenaaaDoorKnownL
import Derived.Test.YtefegebnohenaaaDoorRAgain
namespace Go.Proofs.YtefegebnohenaaaDoor
open Go.RowKit
set_option maxRecDepth 100000

def szK (k : Nat) : Nat := [245, 246, 500, 501, 512].getD k 0
def wtK (k : Nat) : Nat := [1, 2, 2, 3, 3].getD k 0
theorem szK_all (k : Nat) (h : k < 5) : szK k ≤ 512 ∧ (if 245 < szK k then 1 + (szK k - 245 + 254) / 255 else 1) = wtK k := by
  match k, h with
  | 0, _ => decide
  | 1, _ => decide
  | 2, _ => decide
  | 3, _ => decide
  | 4, _ => decide
theorem rd_int_at {W : World} {b : Nat} {cs : Array Value} (h : Rd W (.slice (some ⟨b, 0, none⟩) 5 5) 5 cs.toList) (hs : cs.size = 5) (k : Nat) (hk : k < 5) : W.cell? ⟨b, k, none⟩ = some (cs.toList.getD k undef) := by
  obtain ⟨b', off, cap, e1, e2⟩ := h.at k (by simpa [hs] using hk)
  injection e1 with e1; injection e1 with e1; injection e1 with e3 e4
  subst e3; subst e4
  rw [Nat.zero_add] at e2; exact e2
theorem scan_nothing (e : UInt32) (lv : Value) (bl : List (List UInt8)) (w : World) (hl : Rd w lv bl.length (bl.map SV)) (hn : bl.length ≤ 5000000000000) (hbig : ∀ b ∈ bl, b.length ≤ 9223372036854775807) (h0 : oneM e bl = none) :
    Calls Tryd.prog 29 #[.int .u32 (e.toNat : Int), lv] w fun r w' => ∃ a c, r = .returned (.tuple #[.slice a 0 c, .int .i64 0]) ∧ Below w.heap.size w w' := by
  refine (scan_calls e lv bl w hl hn hbig).mono ?_
  rintro r w5 ⟨ov, pre, hno, rfl, hfo, hov, hb5⟩
  have h00 : payM e bl 0 = none := by unfold payM; exact h0
  have hp0 : pre.length = 0 := by
    have := pay_lt (n := 0) (m := pre.length) h00 (fun i hi h => by
      obtain ⟨_, p, c, h1, _⟩ := hfo.row i pre[i] (List.getElem?_eq_getElem hi)
      rw [h1] at h; cases h)
    omega
  rw [hp0] at hov ⊢
  obtain ⟨va, vc, rfl, _⟩ := own_slice hov
  exact ⟨va, vc, rfl, hb5⟩
theorem knownSaid_calls (w : World) (hg : ErrType w) : Calls Tryd.prog 14 #[] w fun e w' => e = .returned (.bool true) ∧ Below w.heap.size w w' := by
  have HG := Lib.hid hg
  have h1 := frame_calls (.slice none 0 0) 1 [] w (Rd.nil w)
  rw [show (((1 : UInt32).toNat : Nat) : Int) = 1 from rfl] at h1
  have H1 := Lib.hid h1
  clear hg h1
  go_enter Tryd.func14, Tryd.ntmps14
  go_wp2_with fail
  refine H1.out.mono ?_
  rintro r w1 hr
  rcases hr with ⟨h, _⟩ | ⟨_, lv, rfl, ho1, hb1⟩
  · exact absurd h (by decide)
  obtain ⟨b0, hb0⟩ : ∃ b, b = headM 1 [] := ⟨_, rfl⟩
  have e1 : frameM 1 [] = [b0] := by rw [hb0]; simp [frameM, restM]
  rw [e1] at ho1
  have hl0 : b0.length = 11 := by rw [hb0, headM_length]
  have ht7 : b0.take 7 = [104, 1, 0, 0, 0, 0, 0] := by
    rw [hb0, headM, List.take_left' (pre_length _ _)]; rfl
  have hrd := rd_of_own ho1
  obtain ⟨la, lc, rfl⟩ : ∃ a c, lv = .slice a 1 c := by obtain ⟨a, c, h, _⟩ := hrd; exact ⟨a, c, h⟩
  have hrd : Rd w1 (.slice la 1 lc) 1 [SV b0] := hrd
  obtain ⟨b, off, cap, e2, hcell⟩ := hrd.at 0 (by simp)
  injection e2 with e2 _ e3
  subst e2
  subst e3
  have hcell : w1.cell? ⟨b, off, none⟩ = some (.string (SB b0)) := hcell
  have hsl : (SB b0).extract 0 7 = SB [104, 1, 0, 0, 0, 0, 0] := by rw [SB_extract, ht7]; rfl
  have HRd := Lib.hid hrd
  have HB1 := Lib.hid hb1
  have Hl0 := Lib.hid hl0
  have hsz : (SB b0).size = 11 := by rw [SB_size, hl0]
  have Hno2 := Lib.hid (show oneM 2 [b0] = none from one_begins 2 b0 [] (fun h => by
    have h7 : b0.take 5 = [104, 1, 0, 0, 0] := by
      have := congrArg (List.take 5) ht7
      rw [List.take_take] at this; exact this
    rw [h7] at h
    revert h; decide))
  have heq : (!(SB [104, 1, 0, 0, 0, 0, 0]).toList == [104, 1, 0, 0, 0, 0, 0]) = false := by rw [SB_toList]; rfl
  clear ho1 e1 ht7 hrd hb1 H1 hb0 hl0
  go_wp2_with fail
  clear hcell heq hsl hsz
  obtain ⟨sz, hsz⟩ : ∃ sz : Array Value, sz = #[.int .i64 245, .int .i64 246, .int .i64 500, .int .i64 501, .int .i64 512] := ⟨_, rfl⟩
  obtain ⟨wt, hwt⟩ : ∃ wt : Array Value, wt = #[.int .i64 1, .int .i64 2, .int .i64 2, .int .i64 3, .int .i64 3] := ⟨_, rfl⟩
  have hs1 := (rd_new w1 sz 3 5 (by rw [hsz]; rfl) (by omega)).below (below_alloc _ (.cells wt 3))
  have hs2 := rd_new (w1.alloc (.cells sz 3)) wt 3 5 (by rw [hwt]; rfl) (by omega)
  have hB2 := HB1.out.trans ((below_trans (below_alloc w1 (.cells sz 3)) (below_alloc _ (.cells wt 3))).mono HB1.out.size)
  have hR2 := HRd.out.below (below_trans (below_alloc w1 (.cells sz 3)) (below_alloc _ (.cells wt 3)))
  rw [World.size_alloc] at hs2
  have hsk : ∀ k, k < 5 → sz.toList.getD k undef = .int .i64 ((szK k : Nat) : Int) := fun k hk => by
    rw [hsz]
    match k, hk with
    | 0, _ => rfl
    | 1, _ => rfl
    | 2, _ => rfl
    | 3, _ => rfl
    | 4, _ => rfl
  have hwk : ∀ k, k < 5 → wt.toList.getD k undef = .int .i64 ((wtK k : Nat) : Int) := fun k hk => by
    rw [hwt]
    match k, hk with
    | 0, _ => rfl
    | 1, _ => rfl
    | 2, _ => rfl
    | 3, _ => rfl
    | 4, _ => rfl
  have hsa : sz.size = 5 := by rw [hsz]; rfl
  have hwa : wt.size = 5 := by rw [hwt]; rfl
  rw [← hsz, ← hwt]
  obtain ⟨w2, hw2⟩ : ∃ w2, w2 = (w1.alloc (.cells sz 3)).alloc (.cells wt 3) := ⟨_, rfl⟩
  rw [← hw2] at hs1 hs2 hB2 hR2 ⊢
  have HS1 := Lib.hid hs1
  have HS2 := Lib.hid hs2
  have HB2 := Lib.hid hB2
  have HR2 := Lib.hid hR2
  have HSk := Lib.hid hsk
  have HWk := Lib.hid hwk
  clear hw2 hsz hwt hs1 hs2 hB2 hR2 hsk hwk HB1 HRd
  go_loopg [5] 5 (fun gk kv wr => ∃ k : Nat, gk + k = 5 ∧ kv = .int .i64 (k : Int) ∧ Below w2.heap.size w2 wr)
  case atStart => exact ⟨0, rfl, rfl, Below.refl _ _⟩
  case round =>
    obtain ⟨k, hgk, rfl, hB⟩ := hrel
    by_cases hk : k < 5
    · have hk1 : (k : Int) < 5 := by omega
      have hk0 : (0 : Int) ≤ (k : Int) := by omega
      obtain ⟨z1, z2⟩ := szK_all k hk
      have c1 := (rd_int_at (HS1.out.below hB) hsa k hk).trans (congrArg some (HSk.out k hk))
      have c2 := (rd_int_at (HS2.out.below hB) hwa k hk).trans (congrArg some (HWk.out k hk))
      obtain ⟨n, hn⟩ : ∃ n, n = szK k := ⟨_, rfl⟩
      obtain ⟨m, hm⟩ : ∃ m, m = wtK k := ⟨_, rfl⟩
      rw [← hn] at c1 z1 z2
      rw [← hm] at c2 z2
      have Hgk := Lib.hid hgk
      have HB := Lib.hid hB
      have Z2 := Lib.hid z2
      clear hn hm z2 hgk hB
      go_wp2_with fail
      refine (row12_calls n wr (by omega)).mono ?_
      rintro r w3 ⟨pv, rfl, hp, hb3⟩
      have hl : (rowM n).length = n := rowM_length n
      have hrd := rd_of_own hp
      have hfr := frame_calls pv 4294967295 (rowM n) w3 (by rw [hl]; exact hrd)
      rw [show (((4294967295 : UInt32).toNat : Nat) : Int) = 4294967295 from rfl] at hfr
      have HFr := Lib.hid hfr
      have Hl := Lib.hid hl
      have c3 := below_heap hb3 c2
      have HB3 := Lib.hid (below_trans HB.out hb3)
      clear hfr hrd hp hb3 hl HB c1 c2
      go_wp2_with fail
      refine HFr.out.mono ?_
      rintro r w4 hr
      rcases hr with ⟨h, _⟩ | ⟨_, lv, rfl, ho4, hb4⟩
      · rw [Hl.out] at h; omega
      rw [frameM_count _ _ (by rw [Hl.out]; exact z1), Hl.out, Z2.out] at ho4
      obtain ⟨fa, fc, rfl, _⟩ := own_slice ho4
      have c4 := below_heap hb4 c3
      have HB4 := Lib.hid (below_trans HB3.out hb4)
      clear ho4 hb4 HB3 c3 HFr
      go_wp2_with fail
      go_roundg (5 - (k + 1))
      case measure => have := Hgk.out; omega
      case rel => exact ⟨k + 1, by have := Hgk.out; omega, by go_num, HB4.out⟩
    · obtain rfl : k = 5 := by omega
      have HB := Lib.hid hB
      clear hB
      go_wp2_with fail
      refine (row12_calls 513 wr (by omega)).mono ?_
      rintro r w3 ⟨pv, rfl, hp, hb3⟩
      have hl : (rowM 513).length = 513 := rowM_length 513
      have hfr := frame_calls pv 1 (rowM 513) w3 (by rw [hl]; exact rd_of_own hp)
      rw [show (((1 : UInt32).toNat : Nat) : Int) = 1 from rfl] at hfr
      have HFr := Lib.hid hfr
      have Hl := Lib.hid hl
      have HB3 := Lib.hid (below_trans HB.out hb3)
      clear hfr hp hb3 hl HB
      go_wp2_with fail
      refine HFr.out.mono ?_
      rintro r w4 hr
      obtain ⟨_, rfl, rfl⟩ := hr.resolve_right (fun h => by have h := h.1; rw [Hl.out] at h; omega)
      have hsc := scan_nothing 2 _ [b0] w4 (HR2.out.below HB3.out) (by show 1 ≤ _; decide) (fun b hb => by
        have := List.mem_singleton.1 hb; subst this; rw [Hl0.out]; decide) Hno2.out
      rw [show (((2 : UInt32).toNat : Nat) : Int) = 2 from rfl] at hsc
      have HSc := Lib.hid hsc
      clear hsc HFr
      go_wp2_with fail
      refine HSc.out.mono ?_
      rintro r w5 ⟨va, vc, rfl, hb5⟩
      have HB5 := Lib.hid (below_trans HB3.out hb5)
      clear hb5 HSc HB3
      go_wp2_with fail
      refine (works12_calls _).mono ?_
      rintro r w6 ⟨rfl, hb6⟩
      have hBw := HB2.out.trans ((below_trans HB5.out hb6).mono HB2.out.size)
      have HB6 := Lib.hid hBw
      have HPl := Lib.hid (plain_calls 3 w6 (by omega) (by omega) (HG.out.below hBw))
      clear hb6 hBw HB5
      unfold errN at HPl
      go_wp2_with fail
      refine HPl.out.mono ?_
      rintro r w7 ⟨rfl, hb7⟩
      have HB7 := Lib.hid (HB6.out.trans (hb7.mono HB6.out.size))
      clear hb7
      go_wp2_with fail
      go_ret
      exact ⟨rfl, HB7.out⟩
end Go.Proofs.YtefegebnohenaaaDoor
