/-
  Package pack's Reader: one, sevens.
-/
import Derived.Test.YtdaimaibnjkfbaaDoorZ2
import Derived.Recover
import Derived.BigQuiet
import Derived.Lib.SliceRun
namespace Go.Proofs.YtdaimaibnjkfbaaDoor
open Go.RowKit
set_option maxRecDepth 100000

/-- A panic with an error of package api. -/
def pan (n : Int) : Ending := .panicked [{ v := .iface 68 (.int .i64 n), recovered := false }]
/-- A reader at a block: over bytes, at a place. -/
structure IsR (w : World) (r : Nat) (v : Value) (l : List UInt8) (k : Nat) : Prop where
  box : Box w r #[v, .int .i64 (k : Int)] 114
  rd : Rd w v l.length (l.map V8)
  le : k ≤ l.length
  ne : v.ownBlock ≠ some r
  sm : l.length ≤ 1000000000000
theorem IsR.mod {w w' : World} {r k : Nat} {v : Value} {l : List UInt8} {F : Nat → Prop} (h : IsR w r v l k) (hm : Mod F w w') (h1 : ¬ F r) (h2 : ∀ b, v.ownBlock = some b → ¬ F b) : IsR w' r v l k :=
  ⟨h.box.mod hm h1, h.rd.keep (fun b hb hl => hm.block b hl (h2 b hb)), h.le, h.ne, h.sm⟩
theorem IsR.below {w w' : World} {r k : Nat} {v : Value} {l : List UInt8} (h : IsR w r v l k) (hb : Below w.heap.size w w') : IsR w' r v l k := h.mod (Mod.of_below (F := fun _ => False) hb) (fun h => h) (fun _ _ h => h)
theorem IsR.set {w : World} {r k : Nat} {v : Value} {l : List UInt8} (h : IsR w r v l k) (j : Nat) (hj : j ≤ l.length) : IsR (w.setCell ⟨r, 1, none⟩ (.int .i64 (j : Int))) r v l j ∧ Mod (fun b => b = r) w (w.setCell ⟨r, 1, none⟩ (.int .i64 (j : Int))) := by
  have hm := Mod.set (fun b => b = r) w ⟨r, 1, none⟩ (.int .i64 (j : Int)) rfl
  exact ⟨⟨h.box.set 1 _, h.rd.keep (fun b hb hl => hm.block b hl (fun e => h.ne (by rw [hb, e]))), hj, h.ne, h.sm⟩, hm⟩
set_option maxHeartbeats 800000 in
theorem one_yes (r k : Nat) (v : Value) (l : List UInt8) (w : World) (h : IsR w r v l k) (hk : k < l.length) :
    Calls Tryd.prog 83 #[.pointer (some ⟨r, 0, none⟩)] w fun e w' => e = .returned (V8 (l.getD k 0)) ∧ IsR w' r v l (k + 1) ∧ Mod (fun b => b = r) w w' := by
  have hr := h.rd
  obtain ⟨a, cap, rfl, h1, h2, h3, h4⟩ := hr
  obtain ⟨b, off, rfl, hc⟩ := h4 k (by simpa using hk)
  have hc' : w.cell? ⟨b, off + k, none⟩ = some (V8 (l.getD k 0)) := by rw [hc]; simp [hk]
  have hsm := h.sm
  have c0 := h.box.cell 0 _ rfl
  have c1 := h.box.cell 1 _ rfl
  have f1 := h.box.free 1
  have HI := Lib.hid h
  have HK := Lib.hid hk
  have k0 : (0 : Int) ≤ (k : Int) := by omega
  have k1 : (k : Int) < (l.length : Int) := by omega
  have Hc := Lib.hid hc'
  have hbr : b ≠ r := fun e => h.ne (by simp [Value.ownBlock, e])
  clear h h4 hc hc' h3 hk
  go_enter Tryd.func83, Tryd.ntmps83
  go_wp2_with fail
  go_quiet (fail)
  have hb2 : Below w.heap.size w (w.drewN nq) := ⟨rfl, rfl, rfl, Nat.le_refl _, fun _ _ => rfl⟩
  have HI2 := Lib.hid (HI.out.below hb2)
  have HM2 := Lib.hid (Mod.of_below (F := fun b => b = r) hb2)
  have HC2 := Lib.hid (below_heap hb2 Hc.out)
  generalize w.drewN nq = w2 at HI2 HM2 HC2 ⊢
  clear hb2 c0 c1 f1
  have c0 := HI2.out.box.cell 0 _ rfl
  have c1 := HI2.out.box.cell 1 _ rfl
  have f1 := HI2.out.box.free 1
  go_wp2_with fail
  obtain ⟨hs1, hs2⟩ := HI2.out.set (k + 1) HK.out
  have e1 : ((k + 1 : Nat) : Int) = (k : Int) + 1 := by omega
  have hcell : (w2.setCell ⟨r, 1, none⟩ (.int .i64 ((k + 1 : Nat) : Int))).cell? ⟨b, off + k, none⟩ = some (V8 (l.getD k 0)) := by
    rw [World.cell?_of_block (w := w2) (hs2.block b (cell_lt HC2.out) hbr)]; exact HC2.out
  have d0 := hs1.box.cell 0 _ rfl
  have d1 := hs1.box.cell 1 _ rfl
  rw [e1] at hcell hs1 hs2 d0 d1
  have HS1 := Lib.hid hs1
  have HS2 := Lib.hid (HM2.out.trans hs2)
  have HV := Lib.hid (show V8 (l.getD k 0) = .int .u8 ((l.getD k 0).toNat : Int) from rfl)
  rw [HV.out] at hcell
  have z1 : IntKind.i64.wrap ((k : Int) + 1 - 1) = (k : Int) := by simp [IntKind.wrap, IntKind.bits, IntKind.signed]; omega
  clear hs1 hs2 e1 c0 c1 f1
  generalize w2.setCell _ _ = w3 at hcell HS1 HS2 d0 d1 ⊢
  go_quiet (fail)
  have hb4 : Below w3.heap.size w3 (w3.drewN nq) := ⟨rfl, rfl, rfl, Nat.le_refl _, fun _ _ => rfl⟩
  have HI4 := Lib.hid (HS1.out.below hb4)
  have HM4 := Lib.hid (HS2.out.trans (Mod.of_below (F := fun b => b = r) hb4))
  clear hb4 hcell d0 d1
  go_wp2_with fail
  go_ret
  exact ⟨rfl, HI4.out, HM4.out⟩
set_option maxHeartbeats 800000 in
theorem one_no (r k : Nat) (v : Value) (l : List UInt8) (w : World) (h : IsR w r v l k) (hk : ¬ k < l.length) :
    Calls Tryd.prog 83 #[.pointer (some ⟨r, 0, none⟩)] w fun e w' => e = pan 2 ∧ IsR w' r v l k ∧ Mod (fun b => b = r) w w' := by
  have hr := h.rd
  obtain ⟨a, cap, rfl, h1, h2, h3, h4⟩ := hr
  have hsm := h.sm
  have c0 := h.box.cell 0 _ rfl
  have c1 := h.box.cell 1 _ rfl
  have HI := Lib.hid h
  have k0 : (0 : Int) ≤ (k : Int) := by omega
  have k1 : ¬ (k : Int) < (l.length : Int) := by omega
  clear h h4 h3 hk
  go_enter Tryd.func83, Tryd.ntmps83
  go_wp2_with fail
  go_quiet (fail)
  have hb2 : Below w.heap.size w (w.drewN nq) := ⟨rfl, rfl, rfl, Nat.le_refl _, fun _ _ => rfl⟩
  have HI2 := Lib.hid (HI.out.below hb2)
  have HM2 := Lib.hid (Mod.of_below (F := fun b => b = r) hb2)
  generalize w.drewN nq = w2 at HI2 HM2 ⊢
  clear hb2 c0 c1
  go_wp2_with fail
  exact ⟨rfl, rfl, HI2.out, HM2.out⟩
/-- A number at the beginning of bytes: the error, the number, how many bytes it has. -/
def numGo (i v : Nat) : List UInt8 → Int × Nat × Nat
  | [] => (2, 0, 0)
  | c :: r => if (i = 9 ∧ 1 < c.toNat) ∨ (0 < i ∧ c.toNat = 0) then (4, 0, 0) else if c.toNat < 128 then (0, v + c.toNat * 2 ^ (7 * i), i + 1) else numGo (i + 1) (v + (c.toNat - 128) * 2 ^ (7 * i)) r
def numR (l : List UInt8) : Int × Nat × Nat := numGo 0 0 l
theorem u8_and (y m : Nat) (h : y < 256) (hm : m = y % 128) : bits .and .u8 (y : Int) 127 = (m : Int) := by
  have : ∀ n : Nat, n < 256 → bits .and .u8 (n : Int) 127 = ((n % 128 : Nat) : Int) := by decide +kernel
  rw [this y h, hm]
theorem u64_or' (a b : Nat) (ha : a < 2 ^ 64) (hb : b < 2 ^ 64) : bits .or .u64 (a : Int) (b : Int) = ((a ||| b : Nat) : Int) := by
  have hx : a ||| b < 2 ^ 64 := Nat.or_lt_two_pow ha hb
  have ho : ∀ n : Nat, n < 2 ^ 64 → (BitVec.ofInt 64 (n : Int)).toNat = n := fun n hn => by rw [BitVec.toNat_ofInt]; omega
  show IntKind.u64.wrap ((BitVec.ofInt 64 (a : Int) ||| BitVec.ofInt 64 (b : Int)).toNat : Int) = _
  rw [BitVec.toNat_or, ho a ha, ho b hb]
  simp [IntKind.wrap, IntKind.bits, IntKind.signed]; omega
theorem sev_lt {m i : Nat} (hm : m < 128) (hi : i ≤ 9) (h9 : i = 9 → m ≤ 1) : m * 2 ^ (7 * i) ≤ 2 ^ 63 ∧ (i < 9 → m * 2 ^ (7 * i) < 2 ^ 63) := by
  have h : i = 0 ∨ i = 1 ∨ i = 2 ∨ i = 3 ∨ i = 4 ∨ i = 5 ∨ i = 6 ∨ i = 7 ∨ i = 8 ∨ i = 9 := by omega
  rcases h with rfl | rfl | rfl | rfl | rfl | rfl | rfl | rfl | rfl | rfl <;> first | (simp only [Nat.reduceMul, Nat.reducePow]; omega) | (have := h9 rfl; simp only [Nat.reduceMul, Nat.reducePow]; omega)
theorem or_sev (u m i : Nat) (hu : u < 2 ^ (7 * i)) (hm : m < 128) (hi : i ≤ 9) (h9 : i = 9 → m ≤ 1) : bits .or .u64 (u : Int) (IntKind.u64.wrap ((m : Int) * 2 ^ (7 * i))) = ((u + m * 2 ^ (7 * i) : Nat) : Int) := by
  have h1 := (sev_lt hm hi h9).1
  have h2 : (2 : Nat) ^ (7 * i) ≤ 2 ^ 63 := Nat.pow_le_pow_right (by omega) (by omega)
  have h3 : u < 2 ^ 64 := by omega
  have h4 : m * 2 ^ (7 * i) < 2 ^ 64 := by omega
  have e1 : ((m : Int) * 2 ^ (7 * i)) = ((m * 2 ^ (7 * i) : Nat) : Int) := by simp
  have e2 : IntKind.u64.wrap ((m * 2 ^ (7 * i) : Nat) : Int) = ((m * 2 ^ (7 * i) : Nat) : Int) := by
    generalize m * 2 ^ (7 * i) = z at h4 ⊢
    simp [IntKind.wrap, IntKind.bits, IntKind.signed]; omega
  rw [e1, e2, u64_or' u _ h3 h4, or_mul u m (7 * i) _ rfl hu, Nat.add_comm]
set_option maxHeartbeats 3200000 in
theorem sevens_calls (r k : Nat) (v : Value) (l : List UInt8) (w : World) (h : IsR w r v l k) :
    Calls Tryd.prog 77 #[.pointer (some ⟨r, 0, none⟩)] w fun e w' => Mod (fun b => b = r) w w' ∧
      (((numR (l.drop k)).1 = 0 ∧ e = .returned (.int .u64 ((numR (l.drop k)).2.1 : Int)) ∧ IsR w' r v l (k + (numR (l.drop k)).2.2)) ∨ ((numR (l.drop k)).1 ≠ 0 ∧ e = pan (numR (l.drop k)).1 ∧ ∃ j, IsR w' r v l j)) := by
  obtain ⟨N, hN⟩ : ∃ N, N = numR (l.drop k) := ⟨_, rfl⟩
  rw [← hN]
  have HN := Lib.hid hN
  clear hN
  go_enter Tryd.func77, Tryd.ntmps77
  go_wp2_with fail
  go_loopg [3, 4] 10 (fun gk vv iv wr => ∃ (i u : Nat), gk + i = 10 ∧ i ≤ 9 ∧ vv = .int .u64 (u : Int) ∧ iv = .int .i64 (i : Int) ∧ u < 2 ^ (7 * i) ∧ k + i ≤ l.length ∧ IsR wr r v l (k + i) ∧ numGo i u (l.drop (k + i)) = N ∧ Mod (fun b => b = r) w wr)
  case atStart => exact ⟨0, 0, rfl, by omega, rfl, rfl, by omega, by have := h.le; omega, h, HN.out.symm, Mod.refl _ _⟩
  case round =>
    obtain ⟨i, u, hgk, hi, rfl, rfl, hu, hle, hR, hG, hM⟩ := hrel
    have HR := Lib.hid hR
    have HM := Lib.hid hM
    by_cases hk : k + i < l.length
    · obtain ⟨c, hc⟩ : ∃ c, c = l.getD (k + i) 0 := ⟨_, rfl⟩
      have hd : l.drop (k + i) = c :: l.drop (k + i + 1) := by
        rw [List.drop_eq_getElem_cons hk, hc]; simp [List.getD, hk]
      rw [hd] at hG
      go_wp2_with fail
      refine (one_yes r (k + i) v l _ HR.out hk).mono ?_
      rintro e w1 ⟨rfl, hR1, hM1⟩
      rw [← hc]
      obtain ⟨y, hy⟩ : ∃ y, y = c.toNat := ⟨_, rfl⟩
      have HV := Lib.hid (show V8 c = .int .u8 (y : Int) by rw [hy]; rfl)
      rw [HV.out]
      unfold numGo at hG
      rw [← hy] at hG
      have hyb : y < 256 := by rw [hy]; exact c.toNat_lt
      obtain ⟨m, hm⟩ : ∃ m, m = y % 128 := ⟨_, rfl⟩
      have hm128 : m < 128 := by omega
      have hand : bits .and .u8 (y : Int) 127 = (m : Int) := u8_and y m hyb hm
      have hmw : IntKind.u64.wrap (m : Int) = (m : Int) := by simp [IntKind.wrap, IntKind.bits, IntKind.signed]; omega
      have z7 : IntKind.i64.wrap (7 * (i : Int)) = 7 * (i : Int) := by simp [IntKind.wrap, IntKind.bits, IntKind.signed]; omega
      have i0 : (0 : Int) ≤ (i : Int) := by omega
      have i9 : (i : Int) ≤ 9 := by omega
      have HR1 := Lib.hid hR1
      have HM1 := Lib.hid (HM.out.trans hM1)
      have Hgk := Lib.hid hgk
      have Hle := Lib.hid hk
      clear hR1 hM1 hR hM hd hc HV hle
      rcases (show (i = 9 ∧ 1 < y) ∨ (i = 9 ∧ y = 0) ∨ (i ≠ 9 ∧ 0 < i ∧ y = 0) ∨ (i = 0) ∨ (i ≠ 9 ∧ 0 < i ∧ y ≠ 0) ∨ (i = 9 ∧ y = 1) by omega) with hcs | hcs | hcs | hcs | hcs | hcs
      · have f9 : ((i : Int) == 9) = true := by simp; omega
        have fg : (1 : Int) < (y : Int) := by omega
        have HG := Lib.hid (show N = (4, 0, 0) from by rw [← hG]; exact if_pos (by omega))
        clear hu hG hm hy hyb hm128 hgk hi hk hcs
        go_wp2_with fail
        rw [HG.out]
        exact ⟨rfl, HM1.out, .inr ⟨by decide, rfl, _, HR1.out⟩⟩
      · have f9 : ((i : Int) == 9) = true := by simp; omega
        have fg : ¬ (1 : Int) < (y : Int) := by omega
        have f0 : (0 : Int) < (i : Int) := by omega
        have fy : ((y : Int) == 0) = true := by simp; omega
        have HG := Lib.hid (show N = (4, 0, 0) from by rw [← hG]; exact if_pos (by omega))
        clear hu hG hm hy hyb hm128 hgk hi hk hcs
        go_wp2_with fail
        rw [HG.out]
        exact ⟨rfl, HM1.out, .inr ⟨by decide, rfl, _, HR1.out⟩⟩
      · have f9 : ((i : Int) == 9) = false := by simp; omega
        have f0 : (0 : Int) < (i : Int) := by omega
        have fy : ((y : Int) == 0) = true := by simp; omega
        have HG := Lib.hid (show N = (4, 0, 0) from by rw [← hG]; exact if_pos (by omega))
        clear hu hG hm hy hyb hm128 hgk hi hk hcs
        go_wp2_with fail
        rw [HG.out]
        exact ⟨rfl, HM1.out, .inr ⟨by decide, rfl, _, HR1.out⟩⟩
      · have f9 : ((i : Int) == 9) = false := by simp; omega
        have f0 : ¬ (0 : Int) < (i : Int) := by omega
        rw [if_neg (by omega)] at hG
        have hor := or_sev u m i hu hm128 hi (by omega)
        obtain ⟨q, hq⟩ : ∃ q, q = u + m * 2 ^ (7 * i) := ⟨_, rfl⟩
        rw [← hq] at hor
        by_cases hy8 : y < 128
        · have HG := Lib.hid (show N = (0, q, i + 1) from by rw [← hG, if_pos hy8, hq, show m = y by omega])
          have g1 : (y : Int) < 128 := by omega
          clear hu hG hm hy hyb hm128 hgk hi hk hq hy8 hcs
          go_wp2_with fail
          go_ret
          rw [HG.out]
          refine ⟨HM1.out, .inl ⟨rfl, rfl, ?_⟩⟩
          have := HR1.out
          rwa [Nat.add_assoc] at this
        · have hi8 : i < 9 := by omega
          have HG := Lib.hid (show numGo (i + 1) q (l.drop (k + (i + 1))) = N from by rw [← hG, if_neg hy8, hq, show m = y - 128 by omega, Nat.add_assoc])
          have HQ := Lib.hid (show q < 2 ^ (7 * (i + 1)) from by
            rw [show 7 * (i + 1) = 7 * i + 7 by omega, Nat.pow_add, hq]
            have : (m + 1) * 2 ^ (7 * i) ≤ 128 * 2 ^ (7 * i) := Nat.mul_le_mul_right _ (by omega)
            rw [Nat.add_mul] at this
            rw [Nat.mul_comm (2 ^ (7 * i)) (2 ^ 7)]; omega)
          have Hi8 := Lib.hid hi8
          have g1 : ¬ (y : Int) < 128 := by omega
          clear hu hG hm hy hyb hm128 hgk hi hk hq hy8 hi8 hcs
          go_wp2_with fail
          go_roundg (10 - (i + 1))
          case measure => have := Hgk.out; have := Hi8.out; omega
          case rel => exact ⟨i + 1, q, by have := Hi8.out; omega, by have := Hi8.out; omega, rfl, by go_num, HQ.out, by have := Hle.out; omega, HR1.out, HG.out, HM1.out⟩
      · have f9 : ((i : Int) == 9) = false := by simp; omega
        have f0 : (0 : Int) < (i : Int) := by omega
        have fy : ((y : Int) == 0) = false := by simp; omega
        rw [if_neg (by omega)] at hG
        have hor := or_sev u m i hu hm128 hi (by omega)
        obtain ⟨q, hq⟩ : ∃ q, q = u + m * 2 ^ (7 * i) := ⟨_, rfl⟩
        rw [← hq] at hor
        by_cases hy8 : y < 128
        · have HG := Lib.hid (show N = (0, q, i + 1) from by rw [← hG, if_pos hy8, hq, show m = y by omega])
          have g1 : (y : Int) < 128 := by omega
          clear hu hG hm hy hyb hm128 hgk hi hk hq hy8 hcs
          go_wp2_with fail
          go_ret
          rw [HG.out]
          refine ⟨HM1.out, .inl ⟨rfl, rfl, ?_⟩⟩
          have := HR1.out
          rwa [Nat.add_assoc] at this
        · have hi8 : i < 9 := by omega
          have HG := Lib.hid (show numGo (i + 1) q (l.drop (k + (i + 1))) = N from by rw [← hG, if_neg hy8, hq, show m = y - 128 by omega, Nat.add_assoc])
          have HQ := Lib.hid (show q < 2 ^ (7 * (i + 1)) from by
            rw [show 7 * (i + 1) = 7 * i + 7 by omega, Nat.pow_add, hq]
            have : (m + 1) * 2 ^ (7 * i) ≤ 128 * 2 ^ (7 * i) := Nat.mul_le_mul_right _ (by omega)
            rw [Nat.add_mul] at this
            rw [Nat.mul_comm (2 ^ (7 * i)) (2 ^ 7)]; omega)
          have Hi8 := Lib.hid hi8
          have g1 : ¬ (y : Int) < 128 := by omega
          clear hu hG hm hy hyb hm128 hgk hi hk hq hy8 hi8 hcs
          go_wp2_with fail
          go_roundg (10 - (i + 1))
          case measure => have := Hgk.out; have := Hi8.out; omega
          case rel => exact ⟨i + 1, q, by have := Hi8.out; omega, by have := Hi8.out; omega, rfl, by go_num, HQ.out, by have := Hle.out; omega, HR1.out, HG.out, HM1.out⟩
      · have f9 : ((i : Int) == 9) = true := by simp; omega
        have fg : ¬ (1 : Int) < (y : Int) := by omega
        have f0 : (0 : Int) < (i : Int) := by omega
        have fy : ((y : Int) == 0) = false := by simp; omega
        rw [if_neg (by omega)] at hG
        have hor := or_sev u m i hu hm128 hi (by omega)
        obtain ⟨q, hq⟩ : ∃ q, q = u + m * 2 ^ (7 * i) := ⟨_, rfl⟩
        rw [← hq] at hor
        have hy8 : y < 128 := by omega
        have HG := Lib.hid (show N = (0, q, i + 1) from by rw [← hG, if_pos hy8, hq, show m = y by omega])
        have g1 : (y : Int) < 128 := by omega
        clear hu hG hm hy hyb hm128 hgk hi hk hq hy8 hcs
        go_wp2_with fail
        go_ret
        rw [HG.out]
        refine ⟨HM1.out, .inl ⟨rfl, rfl, ?_⟩⟩
        have := HR1.out
        rwa [Nat.add_assoc] at this
    · have HG := Lib.hid (show N = (2, 0, 0) from by
        rw [List.drop_of_length_le (by omega)] at hG
        rw [← hG]; rfl)
      have Hk := Lib.hid hk
      clear hu hG hR hM hk hle
      go_wp2_with fail
      refine (one_no r (k + i) v l _ HR.out Hk.out).mono ?_
      rintro e w1 ⟨rfl, hR1, hM1⟩
      have HR1 := Lib.hid hR1
      have HM1 := Lib.hid (HM.out.trans hM1)
      clear hR1 hM1
      unfold pan
      go_wp2_with fail
      rw [HG.out]
      exact ⟨rfl, HM1.out, .inr ⟨by decide, rfl, _, HR1.out⟩⟩
end Go.Proofs.YtdaimaibnjkfbaaDoor
/-
  An error of package api, by its number; 0: none.
-/
namespace Go.Proofs.YtdaimaibnjkfbaaDoor

/-- An error's number as an error; 0: nil. -/
def errV (n : Int) : Value := if n = 0 then .nilIface else .iface 68 (.int .i64 n)
end Go.Proofs.YtdaimaibnjkfbaaDoor
/-
  Package pack's Reader: take.
-/
namespace Go.Proofs.YtdaimaibnjkfbaaDoor
open Go.RowKit
set_option maxRecDepth 100000

/-- The world in which take calls what it was given. -/
def TakeW (w : World) (r k : Nat) : World := ((w.alloc (.cells #[.pointer (some ⟨r, 0, none⟩)] 83)).alloc (.cells #[.nilIface] 30)).alloc (.cells #[.int .i64 (k : Int)] 3)
theorem idle_calls (p q s : Addr) (w : World) :
    CallsD Tryd.prog 82 #[.pointer (some p), .pointer (some q), .pointer (some s)] .returning w fun e u' w' => e = .returned (.tuple #[]) ∧ u' = .returning ∧ w' = w := by
  refine callsD_of_wpS Tryd.func82 rfl fun c₀ cs hu => ?_
  apply wpS_seq
  apply wpS_region
  simp [wpOpsS, go_sem, recoverD, hu, Tryd.ntmps82, Exit.thenS]
  apply wpS_seq
  apply wpS_region
  simp [wpOpsS, go_sem, Exit.thenS]
  refine wpS_cond (t := false) (by simp [Act.eval, Array.replicate]) ?_
  simp only [Bool.false_eq_true, if_false]
  refine wpS_of_wp (wp_skip ?_)
  cases c₀
  simp_all [bodyPostS, results, Tryd.results82]
theorem ta_err (v : Value) (w : World) : (Instr.typeAssert (.iface 68 v) 20 68 true).run Tryd.prog w = .ok (.tuple #[v, .bool true]) w := by kernel_rfl
theorem catch_calls (p q s : Addr) (n k : Int) (r : Nat) (x y : Value) (older : List PanicEntry) (w : World) (hp : w.cell? p = some (.int .i64 k)) (hq : w.cell? q = some (.pointer (some ⟨r, 0, none⟩)))
    (c1 : w.cell? ⟨r, 1, none⟩ = some x) (f1 : w.frozen? ⟨r, 1, none⟩ = false) (hs : (w.setCell ⟨r, 1, none⟩ (.int .i64 k)).cell? s = some y) (fs : (w.setCell ⟨r, 1, none⟩ (.int .i64 k)).frozen? s = false) :
    CallsD Tryd.prog 82 #[.pointer (some p), .pointer (some q), .pointer (some s)] (.panicking ({ v := .iface 68 (.int .i64 n), recovered := false } :: older)) w fun e u' w' =>
      e = .returned (.tuple #[]) ∧ u' = .panicking ({ v := .iface 68 (.int .i64 n), recovered := true } :: older) ∧ w' = (w.setCell ⟨r, 1, none⟩ (.int .i64 k)).setCell s (.iface 68 (.int .i64 n)) := by
  have ht := fun w => ta_err (.int .i64 n) w
  refine callsD_of_wpS Tryd.func82 rfl fun c₀ cs hu => ?_
  apply wpS_seq
  apply wpS_region
  simp [wpOpsS, go_sem, recoverD, hu, Tryd.ntmps82, Exit.thenS]
  apply wpS_seq
  apply wpS_region
  simp [wpOpsS, go_sem, Exit.thenS]
  refine wpS_cond (t := true) (by simp [Act.eval, Array.replicate]) ?_
  simp only [if_true]
  refine wpS_of_wp ?_
  simp only [Array.replicate, List.replicate]
  go_wp2_with fail
  simp [bodyPostS, results, Tryd.results82]
set_option maxHeartbeats 1600000 in
theorem take_number (r k : Nat) (v : Value) (l : List UInt8) (p q : Addr) (w : World) (h : IsR w r v l k) (A : World → Prop) (B : Int → World → Prop) (F : Nat → Prop) (hF : ∀ i, F i → i < w.heap.size)
    (hc : Calls Tryd.prog 78 #[.pointer (some p), .pointer (some q)] (TakeW w r k) fun e w' => Mod F (TakeW w r k) w' ∧ ((e = .returned (.tuple #[]) ∧ A w') ∨ ∃ n, e = pan n ∧ B n w' ∧ ∃ j, IsR w' r v l j)) :
    Calls Tryd.prog 75 #[.pointer (some ⟨r, 0, none⟩), .func (.func 78) #[] #[.pointer (some p), .pointer (some q)]] w fun e w' =>
      (e = .returned .nilIface ∧ ∃ w1, A w1 ∧ Mod F (TakeW w r k) w1 ∧ w' = w1.setCell ⟨w.heap.size + 1, 0, none⟩ .nilIface) ∨
      ∃ n, e = .returned (.iface 68 (.int .i64 n)) ∧ ∃ w1, B n w1 ∧ Mod F (TakeW w r k) w1 ∧ (∃ j, IsR w1 r v l j) ∧ w' = (w1.setCell ⟨r, 1, none⟩ (.int .i64 (k : Int))).setCell ⟨w.heap.size + 1, 0, none⟩ (.iface 68 (.int .i64 n)) := by
  have hmf : ∀ (fn : Fn) (first cap : Array Value) (w : World), (Instr.makeFunc fn first cap).run Tryd.prog w = .ok (.func fn first cap) w := fun _ _ _ _ => rfl
  have hbx0 : Box (TakeW w r k) w.heap.size #[.pointer (some ⟨r, 0, none⟩)] 83 := ((Box.new w #[.pointer (some ⟨r, 0, none⟩)] _).below (below_alloc _ _)).below (below_alloc _ _)
  have hbx1 : Box (TakeW w r k) (w.heap.size + 1) #[.nilIface] 30 := by
    have := (Box.new (w.alloc (.cells #[.pointer (some ⟨r, 0, none⟩)] 83)) #[.nilIface] 30).below (below_alloc _ (.cells #[.int .i64 (k : Int)] 3))
    rw [World.size_alloc] at this; exact this
  have hbx2 : Box (TakeW w r k) (w.heap.size + 2) #[.int .i64 (k : Int)] 3 := by
    have := Box.new ((w.alloc (.cells #[.pointer (some ⟨r, 0, none⟩)] 83)).alloc (.cells #[.nilIface] 30)) #[.int .i64 (k : Int)] 3
    rw [World.size_alloc, World.size_alloc] at this; exact this
  have hal : ∀ o o2, ((w.alloc o).alloc o2).cell? ⟨r, 1, none⟩ = some (.int .i64 (k : Int)) := fun o o2 => ((h.box.below (below_alloc _ _)).below (below_alloc _ _)).cell 1 _ rfl
  have HC := Lib.hid hc
  have HX0 := Lib.hid hbx0
  have HX1 := Lib.hid hbx1
  have HX2 := Lib.hid hbx2
  have HLE := Lib.hid h.le
  have hrl := h.box.lt
  clear hc h hbx0 hbx1 hbx2
  go_enter_defers Tryd.func75, Tryd.ntmps75
  go_wp2_with fail
  refine HC.out.mono ?_
  rintro e w1 ⟨hm, hcase⟩
  have HM := Lib.hid hm
  have hx0 := HX0.out.mod hm (fun hf => by have := hF _ hf; omega)
  have hx1 := HX1.out.mod hm (fun hf => by have := hF _ hf; omega)
  have hx2 := HX2.out.mod hm (fun hf => by have := hF _ hf; omega)
  rcases hcase with ⟨rfl, hA⟩ | ⟨n, rfl, hB, j, hj⟩
  · have HA := Lib.hid hA
    have d0 := hx1.cell 0 _ rfl
    have d1 := hx1.free 0
    have d2 := (hx1.set 0 .nilIface).cell 0 _ rfl
    clear hA hm hx0 hx1 hx2 hal
    go_wp2_with fail
    refine leaves_cons (f := 82) (args := #[.pointer (some ⟨w.heap.size + 1 + 1, 0, none⟩), .pointer (some ⟨w.heap.size, 0, none⟩), .pointer (some ⟨w.heap.size + 1, 0, none⟩)]) (by simp) (by simp [go_sem]) ?_
    refine (idle_calls _ _ _ _).mono ?_
    rintro e u' w'' ⟨rfl, rfl, rfl⟩
    refine ⟨_, ?_, .inl ⟨rfl, w1, HA.out, HM.out, rfl⟩⟩
    simp [results, Tryd.results75, go_sem, d2]
  · have HB := Lib.hid hB
    have c0 := hx2.cell 0 _ rfl
    have c1 := hx0.cell 0 _ rfl
    have c2 := hj.box.cell 1 _ rfl
    have c3 := hj.box.free 1
    have hx3 : Box (w1.setCell ⟨r, 1, none⟩ (.int .i64 (k : Int))) (w.heap.size + 1) #[.nilIface] 30 := hx1.set_other (by show r ≠ w.heap.size + 1; omega) _
    have c4 := hx3.cell 0 _ rfl
    have c5 := hx3.free 0
    have d2 := (hx3.set 0 (.iface 68 (.int .i64 n))).cell 0 _ rfl
    have HJ := Lib.hid (show ∃ j, IsR w1 r v l j from ⟨j, hj⟩)
    clear hB hm hx0 hx1 hx2 hal hj
    unfold pan
    go_wp2_with fail
    refine leaves_cons (f := 82) (args := #[.pointer (some ⟨w.heap.size + 1 + 1, 0, none⟩), .pointer (some ⟨w.heap.size, 0, none⟩), .pointer (some ⟨w.heap.size + 1, 0, none⟩)]) (by simp) (by simp [go_sem]) ?_
    refine (catch_calls _ _ _ n (k : Int) r _ _ [] _ c0 c1 c2 c3 c4 c5).mono ?_
    rintro e u' w'' ⟨rfl, rfl, rfl⟩
    refine ⟨_, ?_, .inr ⟨n, rfl, w1, HB.out, HM.out, HJ.out, rfl⟩⟩
    simp [results, Tryd.results75, go_sem, d2]
set_option maxHeartbeats 1600000 in
theorem take_text (r k : Nat) (v : Value) (l : List UInt8) (p q s : Addr) (w : World) (h : IsR w r v l k) (A : World → Prop) (B : Int → World → Prop) (F : Nat → Prop) (hF : ∀ i, F i → i < w.heap.size)
    (hc : Calls Tryd.prog 76 #[.pointer (some p), .pointer (some q), .pointer (some s)] (TakeW w r k) fun e w' => Mod F (TakeW w r k) w' ∧ ((e = .returned (.tuple #[]) ∧ A w') ∨ ∃ n, e = pan n ∧ B n w' ∧ ∃ j, IsR w' r v l j)) :
    Calls Tryd.prog 75 #[.pointer (some ⟨r, 0, none⟩), .func (.func 76) #[] #[.pointer (some p), .pointer (some q), .pointer (some s)]] w fun e w' =>
      (e = .returned .nilIface ∧ ∃ w1, A w1 ∧ Mod F (TakeW w r k) w1 ∧ w' = w1.setCell ⟨w.heap.size + 1, 0, none⟩ .nilIface) ∨
      ∃ n, e = .returned (.iface 68 (.int .i64 n)) ∧ ∃ w1, B n w1 ∧ Mod F (TakeW w r k) w1 ∧ (∃ j, IsR w1 r v l j) ∧ w' = (w1.setCell ⟨r, 1, none⟩ (.int .i64 (k : Int))).setCell ⟨w.heap.size + 1, 0, none⟩ (.iface 68 (.int .i64 n)) := by
  have hmf : ∀ (fn : Fn) (first cap : Array Value) (w : World), (Instr.makeFunc fn first cap).run Tryd.prog w = .ok (.func fn first cap) w := fun _ _ _ _ => rfl
  have hbx0 : Box (TakeW w r k) w.heap.size #[.pointer (some ⟨r, 0, none⟩)] 83 := ((Box.new w #[.pointer (some ⟨r, 0, none⟩)] _).below (below_alloc _ _)).below (below_alloc _ _)
  have hbx1 : Box (TakeW w r k) (w.heap.size + 1) #[.nilIface] 30 := by
    have := (Box.new (w.alloc (.cells #[.pointer (some ⟨r, 0, none⟩)] 83)) #[.nilIface] 30).below (below_alloc _ (.cells #[.int .i64 (k : Int)] 3))
    rw [World.size_alloc] at this; exact this
  have hbx2 : Box (TakeW w r k) (w.heap.size + 2) #[.int .i64 (k : Int)] 3 := by
    have := Box.new ((w.alloc (.cells #[.pointer (some ⟨r, 0, none⟩)] 83)).alloc (.cells #[.nilIface] 30)) #[.int .i64 (k : Int)] 3
    rw [World.size_alloc, World.size_alloc] at this; exact this
  have hal : ∀ o o2, ((w.alloc o).alloc o2).cell? ⟨r, 1, none⟩ = some (.int .i64 (k : Int)) := fun o o2 => ((h.box.below (below_alloc _ _)).below (below_alloc _ _)).cell 1 _ rfl
  have HC := Lib.hid hc
  have HX0 := Lib.hid hbx0
  have HX1 := Lib.hid hbx1
  have HX2 := Lib.hid hbx2
  have HLE := Lib.hid h.le
  have hrl := h.box.lt
  clear hc h hbx0 hbx1 hbx2
  go_enter_defers Tryd.func75, Tryd.ntmps75
  go_wp2_with fail
  refine HC.out.mono ?_
  rintro e w1 ⟨hm, hcase⟩
  have HM := Lib.hid hm
  have hx0 := HX0.out.mod hm (fun hf => by have := hF _ hf; omega)
  have hx1 := HX1.out.mod hm (fun hf => by have := hF _ hf; omega)
  have hx2 := HX2.out.mod hm (fun hf => by have := hF _ hf; omega)
  rcases hcase with ⟨rfl, hA⟩ | ⟨n, rfl, hB, j, hj⟩
  · have HA := Lib.hid hA
    have d0 := hx1.cell 0 _ rfl
    have d1 := hx1.free 0
    have d2 := (hx1.set 0 .nilIface).cell 0 _ rfl
    clear hA hm hx0 hx1 hx2 hal
    go_wp2_with fail
    refine leaves_cons (f := 82) (args := #[.pointer (some ⟨w.heap.size + 1 + 1, 0, none⟩), .pointer (some ⟨w.heap.size, 0, none⟩), .pointer (some ⟨w.heap.size + 1, 0, none⟩)]) (by simp) (by simp [go_sem]) ?_
    refine (idle_calls _ _ _ _).mono ?_
    rintro e u' w'' ⟨rfl, rfl, rfl⟩
    refine ⟨_, ?_, .inl ⟨rfl, w1, HA.out, HM.out, rfl⟩⟩
    simp [results, Tryd.results75, go_sem, d2]
  · have HB := Lib.hid hB
    have c0 := hx2.cell 0 _ rfl
    have c1 := hx0.cell 0 _ rfl
    have c2 := hj.box.cell 1 _ rfl
    have c3 := hj.box.free 1
    have hx3 : Box (w1.setCell ⟨r, 1, none⟩ (.int .i64 (k : Int))) (w.heap.size + 1) #[.nilIface] 30 := hx1.set_other (by show r ≠ w.heap.size + 1; omega) _
    have c4 := hx3.cell 0 _ rfl
    have c5 := hx3.free 0
    have d2 := (hx3.set 0 (.iface 68 (.int .i64 n))).cell 0 _ rfl
    have HJ := Lib.hid (show ∃ j, IsR w1 r v l j from ⟨j, hj⟩)
    clear hB hm hx0 hx1 hx2 hal hj
    unfold pan
    go_wp2_with fail
    refine leaves_cons (f := 82) (args := #[.pointer (some ⟨w.heap.size + 1 + 1, 0, none⟩), .pointer (some ⟨w.heap.size, 0, none⟩), .pointer (some ⟨w.heap.size + 1, 0, none⟩)]) (by simp) (by simp [go_sem]) ?_
    refine (catch_calls _ _ _ n (k : Int) r _ _ [] _ c0 c1 c2 c3 c4 c5).mono ?_
    rintro e u' w'' ⟨rfl, rfl, rfl⟩
    refine ⟨_, ?_, .inr ⟨n, rfl, w1, HB.out, HM.out, HJ.out, rfl⟩⟩
    simp [results, Tryd.results75, go_sem, d2]
end Go.Proofs.YtdaimaibnjkfbaaDoor
/-
  Package pack's Writer: New, Number, Text, Bytes.
-/
namespace Go.Proofs.YtdaimaibnjkfbaaDoor
open Go.RowKit
set_option maxRecDepth 100000

/-- A writer at a block, that holds bytes. -/
structure IsW (w : World) (B p : Nat) (v : Value) (l : List UInt8) : Prop where
  box : Box w p #[v] 99
  own : OwnM w B 5 v l.length (l.map V8)
  ne : v.ownBlock ≠ some p
/-- Where a row may be, later. -/
def Fresh (w : World) (v v' : Value) : Prop := ∀ k, v'.ownBlock = some k → v.ownBlock = some k ∨ w.heap.size ≤ k
theorem Fresh.refl (w : World) (v : Value) : Fresh w v v := fun _ h => .inl h
theorem Fresh.moved {w w' : World} {v v' v'' : Value} (h : Fresh w v v') (hs : w.heap.size ≤ w'.heap.size) (hm : Moved w' v' v'') : Fresh w v v'' := fun k hk => by
  rcases hm with e | e
  · rw [e] at hk; exact h k hk
  · rw [e] at hk; injection hk with hk; exact .inr (by omega)
theorem Fresh.trans {w w' : World} {v v' v'' : Value} (h : Fresh w v v') (hs : w.heap.size ≤ w'.heap.size) (k : Fresh w' v' v'') : Fresh w v v'' := fun j hj => by
  rcases k j hj with e | e
  · exact h j e
  · exact .inr (by omega)
def WF (p : Nat) (v : Value) : Nat → Prop := fun k => k = p ∨ v.ownBlock = some k
theorem WF.then {w w1 w2 : World} {p : Nat} {v v' : Value} (h : Mod (WF p v) w w1) (hf : Fresh w v v') (k : Mod (WF p v') w1 w2) : Mod (WF p v) w w2 :=
  h.then k (fun i hi => by
    rcases hi with rfl | hi
    · exact .inl (.inl rfl)
    · rcases hf i hi with e | e
      · exact .inl (.inr e)
      · exact .inr e)
theorem IsW.below {w w' : World} {B p : Nat} {v : Value} {l : List UInt8} (h : IsW w B p v l) (hb : Below w.heap.size w w') : IsW w' B p v l := ⟨h.box.below hb, h.own.below hb, h.ne⟩
/-- Behind one append, and the store of what it gave. -/
theorem IsW.step {w w1 : World} {B p : Nat} {v v' : Value} {l m : List UInt8} (h : IsW w B p v l) (hown : OwnM w1 B 5 v' (l.length + m.length) (l.map V8 ++ m.map V8)) (hg : w.grownBy w1 v.ownBlock) (hm : Moved w v v') :
    IsW (w1.setCell ⟨p, 0, none⟩ v') B p v' (l ++ m) ∧ Mod (WF p v) w (w1.setCell ⟨p, 0, none⟩ v') ∧ Fresh w v v' := by
  have hlt := h.box.lt
  have hne : v'.ownBlock ≠ some p := by
    rcases hm with e | e
    · rw [e]; exact h.ne
    · rw [e]; intro e2; injection e2 with e2; omega
  have hb1 : Box w1 p #[v] 99 := h.box.grown hg h.ne
  refine ⟨⟨by have := hb1.set 0 v'; exact this, ?_, hne⟩, ?_, (Fresh.refl w v).moved (Nat.le_refl _) hm⟩
  · rw [List.length_append, List.map_append]
    exact hown.mod (Mod.set (fun k => k = p) w1 ⟨p, 0, none⟩ v' rfl) (fun k hk e => hne (by rw [hk, e]))
  · exact (Mod.of_grown hg (F := WF p v) (fun k hk => .inr hk)).trans (Mod.set _ _ _ _ (.inl rfl))
theorem new_calls (w : World) :
    Calls Tryd.prog 36 #[] w fun e w' => e = .returned (.pointer (some ⟨w.heap.size, 0, none⟩)) ∧ IsW w' w.heap.size w.heap.size (.slice none 0 0) [] ∧ Below w.heap.size w w' := by
  go_enter Tryd.func36, Tryd.ntmps36
  go_wp2_with fail
  go_ret
  exact ⟨rfl, ⟨Box.new _ _ _, OwnM.nil _ _ _, by simp [Value.ownBlock]⟩, below_alloc _ _⟩
set_option maxHeartbeats 1600000 in
theorem wNumber_calls (B p : Nat) (v0 : Value) (l0 : List UInt8) (n : Nat) (w : World) (hw : IsW w B p v0 l0) (hn : n < 2 ^ 64) (hl0 : l0.length ≤ 140737488350000) (hB : B ≤ w.heap.size) :
    Calls Tryd.prog 39 #[.pointer (some ⟨p, 0, none⟩), .int .u64 (n : Int)] w fun e w' => e = .returned (.tuple #[]) ∧ ∃ v', IsW w' B p v' (l0 ++ sevM n) ∧ Mod (WF p v0) w w' ∧ Fresh w v0 v' := by
  go_enter Tryd.func39, Tryd.ntmps39
  go_wp2_with fail
  go_loopg [1] n (fun gk vv wr => ∃ (i v : Nat) (l : List UInt8) (v1 : Value), gk = v ∧ i ≤ 9 ∧ vv = .int .u64 (v : Int) ∧ v < 2 ^ (70 - 7 * i) ∧ v < 2 ^ 64 ∧ IsW wr B p v1 (l0 ++ l) ∧ l ++ sevF (10 - i) v = sevM n ∧ Mod (WF p v0) w wr ∧ Fresh w v0 v1)
  case atStart => exact ⟨0, n, [], v0, rfl, by omega, rfl, by omega, hn, by rw [List.append_nil]; exact hw, by simp [sevM], Mod.refl _ _, Fresh.refl _ _⟩
  case round =>
    obtain ⟨i, v, l, v1, hgk, hi, rfl, hv, hv64, hW, hl, hM, hF⟩ := hrel
    have hs := hM.size
    have hlen : (l0 ++ l).length + 1 ≤ 140737488355328 := by
      have h5 : (l ++ sevF (10 - i) v).length = (sevM n).length := by rw [hl]
      have := sevM_len n
      rw [List.length_append] at h5 ⊢; omega
    obtain ⟨L, hLL⟩ : ∃ L, L = l0 ++ l := ⟨_, rfl⟩
    rw [← hLL] at hW hlen
    have HLe := Lib.hid hLL
    clear hLL
    have HL := Lib.hid hlen
    have hc := hW.box.cell 0 v1 rfl
    have hfz := hW.box.free 0
    have hp := hW.box.lt
    obtain ⟨xa, xc, rfl, _⟩ := hW.own.slice
    have HW := Lib.hid hW
    have HM := Lib.hid hM
    have HF := Lib.hid hF
    have HLL := Lib.hid hl
    by_cases hc2 : 127 < v
    · have g1 : (127 : Int) < (v : Int) := by omega
      have Hgk := Lib.hid hgk
      obtain ⟨k, hk⟩ : ∃ k, k = v % 128 + 128 := ⟨_, rfl⟩
      have HV8 := Lib.hid (v8_nat k (by omega))
      have hor : bits .or .u8 ((v : Int) % 256) 128 = (k : Int) := by
        have := u8_or2 (v % 256) (by omega)
        rw [show ((v : Int) % 256) = ((v % 256 : Nat) : Int) by omega, this]; omega
      have hi8 : i < 9 := by
        rcases Nat.lt_or_ge i 9 with h | h
        · exact h
        · have : i = 9 := by omega
          subst this; omega
      have HI := Lib.hid hi8
      have HQ2 := Lib.hid (show v / 128 < 2 ^ 64 by omega)
      have HQ := Lib.hid (show v / 128 < 2 ^ (70 - 7 * (i + 1)) from by
        have e : 2 ^ (70 - 7 * i) = 2 ^ (70 - 7 * (i + 1)) * 128 := by rw [show 70 - 7 * i = (70 - 7 * (i + 1)) + 7 by omega, Nat.pow_add]
        rw [e] at hv
        exact Nat.div_lt_of_lt_mul (by rw [Nat.mul_comm]; exact hv))
      have HT := Lib.hid (show (l ++ [UInt8.ofNat k]) ++ sevF (10 - (i + 1)) (v / 128) = sevM n from by
        rw [show 10 - i = (9 - i) + 1 by omega] at hl
        unfold sevF at hl
        rw [if_neg (by omega)] at hl
        rw [← hl, hk, List.append_assoc, show 10 - (i + 1) = 9 - i by omega]; rfl)
      have hsh : (v : Int) / 128 = ((v / 128 : Nat) : Int) := by omega
      obtain ⟨q, hq⟩ : ∃ q, q = v / 128 := ⟨_, rfl⟩
      rw [← hq] at hsh HQ HQ2 HT
      have HQv := Lib.hid (show q < v by omega)
      clear hv hv64 hl hM hF hi hlen hgk hc2 hk hi8 hq hW
      go_wp2_with (at_builtin; refine appM1 rfl _ _ rfl B _ _ _ rfl (HW.out.own.below (below_alloc wr _)) ⟨wr.heap.size, 0, none⟩ 1 (.int .u8 (k : Int)) rfl (by exact cell_one_new _ _ _ 0 _ rfl) (by simp [Value.oneCell']) (by have := HL.out; omega) (by simp; omega) ?_)
      intro v' w1 hown' hg' hm' _
      obtain ⟨ya, yc, rfl, _⟩ := hown'.slice
      have hWa := HW.out.below (below_alloc wr (.cells #[.int .u8 (k : Int)] 5))
      have hst := hWa.step (m := [UInt8.ofNat k]) (by rw [List.length_singleton, List.map_singleton, HV8.out]; exact hown') hg' hm'
      obtain ⟨s1, s2, s3⟩ := hst
      have hbx : Box w1 p #[_] _ := hWa.box.grown hg' hWa.ne
      have c1 := hbx.cell 0 _ rfl
      have f1 := hbx.free 0
      have hma := Mod.of_below (F := WF p (.slice xa L.length xc)) (below_alloc wr (.cells #[.int .u8 (k : Int)] 5))
      have HS1 := Lib.hid s1
      have HS2 := Lib.hid (WF.then HM.out HF.out (hma.trans s2))
      have HS3 := Lib.hid (HF.out.trans hs (Fresh.trans (Fresh.refl wr _) (show wr.heap.size ≤ (wr.alloc (.cells #[.int .u8 (k : Int)] 5)).heap.size by simp) s3))
      clear s1 s2 s3 hbx hWa hma hown' hg' hm' hc hfz hp
      go_wp2_with fail
      go_roundg q
      case measure => have := HQv.out; have := Hgk.out; omega
      case rel => exact ⟨i + 1, q, l ++ [UInt8.ofNat k], _, rfl, by have := HI.out; omega, by go_num, HQ.out, HQ2.out, by rw [← List.append_assoc, ← HLe.out]; exact HS1.out, HT.out, HS2.out, HS3.out⟩
    · have g1 : ¬ (127 : Int) < (v : Int) := by omega
      have HV8 := Lib.hid (v8_nat v (by omega))
      have hmod : (v : Int) % 256 = (v : Int) := by omega
      have HT := Lib.hid (show l ++ [UInt8.ofNat v] = sevM n from by
        rw [show 10 - i = (9 - i) + 1 by omega] at hl
        unfold sevF at hl
        rw [if_pos (by omega)] at hl; exact hl)
      clear hv hv64 hl hM hF hi hlen hgk hc2 hW
      go_wp2_with (at_builtin; refine appM1 rfl _ _ rfl B _ _ _ rfl (HW.out.own.below (below_alloc wr _)) ⟨wr.heap.size, 0, none⟩ 1 (.int .u8 (v : Int)) rfl (by exact cell_one_new _ _ _ 0 _ rfl) (by simp [Value.oneCell']) (by have := HL.out; omega) (by simp; omega) ?_)
      intro v' w1 hown' hg' hm' _
      obtain ⟨ya, yc, rfl, _⟩ := hown'.slice
      have hWa := HW.out.below (below_alloc wr (.cells #[.int .u8 (v : Int)] 5))
      have hst := hWa.step (m := [UInt8.ofNat v]) (by rw [List.length_singleton, List.map_singleton, HV8.out]; exact hown') hg' hm'
      obtain ⟨s1, s2, s3⟩ := hst
      have hbx : Box w1 p #[_] _ := hWa.box.grown hg' hWa.ne
      have c1 := hbx.cell 0 _ rfl
      have f1 := hbx.free 0
      have hma := Mod.of_below (F := WF p (.slice xa L.length xc)) (below_alloc wr (.cells #[.int .u8 (v : Int)] 5))
      have HS1 := Lib.hid s1
      have HS2 := Lib.hid (WF.then HM.out HF.out (hma.trans s2))
      have HS3 := Lib.hid (HF.out.trans hs (Fresh.trans (Fresh.refl wr _) (show wr.heap.size ≤ (wr.alloc (.cells #[.int .u8 (v : Int)] 5)).heap.size by simp) s3))
      clear s1 s2 s3 hbx hWa hma hown' hg' hm' hc hfz hp
      go_wp2_with fail
      refine bodyPost_end (results_none rfl _ _ _) rfl ?_
      refine ⟨rfl, _, ?_, HS2.out, HS3.out⟩
      rw [show l0 ++ sevM n = L ++ [UInt8.ofNat v] from by rw [HLe.out, List.append_assoc, HT.out]]; exact HS1.out
set_option maxHeartbeats 800000 in
theorem wText_calls (B p : Nat) (v0 : Value) (l0 : List UInt8) (m : List UInt8) (w : World) (hw : IsW w B p v0 l0) (hm : m.length ≤ 140737488340000) (hl0 : l0.length + m.length ≤ 140737488350000) (hB : B ≤ w.heap.size) :
    Calls Tryd.prog 38 #[.pointer (some ⟨p, 0, none⟩), .string (SB m)] w fun e w' => e = .returned (.tuple #[]) ∧ ∃ v', IsW w' B p v' (l0 ++ textB m) ∧ Mod (WF p v0) w w' ∧ Fresh w v0 v' := by
  have Hc := Lib.hid (wNumber_calls B p v0 l0 m.length w hw (by omega) (by omega) hB)
  have z1 := mod_u64n m.length (by omega)
  have hsz : (SB m).size = m.length := SB_size m
  go_enter Tryd.func38, Tryd.ntmps38
  go_wp2_with fail
  refine Hc.out.mono ?_
  rintro e w1 ⟨rfl, v1, h1, h2, h3⟩
  obtain ⟨L, hL⟩ : ∃ L, L = l0 ++ sevM m.length := ⟨_, rfl⟩
  rw [← hL] at h1
  have HL := Lib.hid (show L.length + m.length ≤ 140737488355328 from by
    have := sevM_len m.length
    rw [hL, List.length_append]; omega)
  have HLe := Lib.hid hL
  have hs := h2.size
  obtain ⟨xa, xc, rfl, _⟩ := h1.own.slice
  have hc := h1.box.cell 0 _ rfl
  have HW := Lib.hid h1
  have HM := Lib.hid h2
  have HF := Lib.hid h3
  clear h1 h2 h3 hL
  go_wp2_with (at_builtin; refine appMS rfl _ _ rfl B _ _ _ rfl HW.out.own m rfl (by have := HL.out; omega) (by omega) ?_)
  intro v' w2 hown' hg' hm'
  obtain ⟨ya, yc, rfl, _⟩ := hown'.slice
  obtain ⟨s1, s2, s3⟩ := HW.out.step hown' hg' hm'
  have hbx : Box w2 p #[_] _ := HW.out.box.grown hg' HW.out.ne
  have c1 := hbx.cell 0 _ rfl
  have f1 := hbx.free 0
  have HS1 := Lib.hid s1
  have HS2 := Lib.hid (WF.then HM.out HF.out s2)
  have HS3 := Lib.hid (HF.out.trans hs s3)
  clear s1 s2 s3 hbx hown' hg' hm' hc
  go_wp2_with fail
  refine bodyPost_end (results_none rfl _ _ _) rfl ?_
  refine ⟨rfl, _, ?_, HS2.out, HS3.out⟩
  rw [show l0 ++ textB m = L ++ m from by rw [HLe.out, List.append_assoc]; rfl]; exact HS1.out
theorem clone_calls (v : Value) (l : List UInt8) (w : World) (hv : Rd w v l.length (l.map V8)) (hl : l.length ≤ 140737488355000) :
    Calls Tryd.prog 59 #[v] w fun e w' => ∃ o, e = .returned o ∧ OwnM w' w.heap.size 5 o l.length (l.map V8) ∧ Below w.heap.size w w' := by
  have hv' := hv
  obtain ⟨a, cap, rfl, h1, h2, h3, h4⟩ := hv
  cases a with
  | none =>
    have h0 : l = [] := List.eq_nil_of_length_eq_zero (by have := h3 rfl; omega)
    subst h0
    have hc0 : cap = 0 := h3 rfl
    subst hc0
    clear h4 h3 hv'
    have heq := fun w => Lib.run_eql_slice_nil (P := Tryd.prog) w 34 5 none 0 0 0 0 Tryd.underlying34
    change ∀ w, Sem.run _ _ w = Result.ok (Value.bool true) w at heq
    go_enter Tryd.func59, Tryd.ntmps59
    go_wp2_with fail
    go_ret
    exact ⟨_, rfl, OwnM.nil _ _ _, Below.refl _ _⟩
  | some a =>
    have Hv := Lib.hid hv'
    clear h4 h3 hv'
    have heq := fun w => Lib.run_eql_slice_nil (P := Tryd.prog) w 34 5 (some a) l.length cap 0 0 Tryd.underlying34
    change ∀ w, Sem.run _ _ w = Result.ok (Value.bool false) w at heq
    have HO := Lib.hid (show OwnM (w.alloc (.cells #[] 5)) w.heap.size 5 (.slice (some ⟨w.heap.size, 0, none⟩) 0 0) 0 [] from ⟨rfl, .inr ⟨w.heap.size, 0, #[], (0, 0), rfl, Nat.le_refl _, heap_alloc_new w _, .inl rfl, by omega, by unfold maxLen; omega, by simp, rfl⟩⟩)
    go_enter Tryd.func59, Tryd.ntmps59
    go_wp2_with (at_builtin; refine appMR rfl _ _ rfl w.heap.size _ _ _ rfl HO.out _ l rfl (Hv.out.below (below_alloc w _)) (by omega) (by simp) ?_)
    intro v' w2 hown' hg' hm'
    have HB := Lib.hid ((below_alloc w (.cells #[] 5)).trans (below_grown hg' (by simp) (fun q hq => (HO.out.lt q hq).1)))
    have HO2 := Lib.hid hown'
    clear hown' hg' hm'
    go_wp2_with fail
    go_ret
    exact ⟨_, rfl, HO2.out, HB.out⟩
theorem wBytes_calls (B p : Nat) (v : Value) (l : List UInt8) (w : World) (hw : IsW w B p v l) (hl : l.length ≤ 140737488355000) :
    Calls Tryd.prog 40 #[.pointer (some ⟨p, 0, none⟩)] w fun e w' => ∃ o, e = .returned o ∧ OwnM w' w.heap.size 5 o l.length (l.map V8) ∧ Below w.heap.size w w' := by
  obtain ⟨xa, xc, rfl, _⟩ := hw.own.slice
  have hc := hw.box.cell 0 _ rfl
  have Hc := Lib.hid (clone_calls _ l w hw.own.rd hl)
  clear hw
  go_enter Tryd.func40, Tryd.ntmps40
  go_wp2_with fail
  refine Hc.out.mono ?_
  rintro e w1 ⟨o, rfl, h1, h2⟩
  have H1 := Lib.hid h1
  have H2 := Lib.hid h2
  clear h1 h2
  go_wp2_with fail
  go_ret
  exact ⟨_, rfl, H1.out, H2.out⟩
end Go.Proofs.YtdaimaibnjkfbaaDoor
/-
  Package pack's Reader: Number, Left, End, Open.
-/
namespace Go.Proofs.YtdaimaibnjkfbaaDoor
open Go.RowKit
set_option maxRecDepth 100000

theorem cell_other {w : World} {a b : Addr} (x : Value) (h : a.block ≠ b.block) : (w.setCell b x).cell? a = w.cell? a :=
  World.cell?_of_block (w := w) (Below.heap_setCell w b x a.block h)
/-- What a reader's call turns: its own block, and what is new. -/
theorem rmod {w w2 w3 w1 w4 : World} {r s : Nat} (h2 : Below w.heap.size w w2) (h3 : Below w2.heap.size w2 w3) (hm : Mod (fun i => i = r ∨ i = s) w3 w1) (hs : w.heap.size ≤ s) (hl : Mod (fun i => i = r ∨ w.heap.size ≤ i) w1 w4) : Mod (fun i => i = r) w w4 :=
  (Mod.of_below (F := fun i => i = r) (h2.trans (h3.mono h2.size))).then ((hm.mono (G := fun i => i = r ∨ w.heap.size ≤ i) (fun i hi => hi.imp id (fun e => by omega))).trans hl) (fun _ hi => hi)
set_option maxHeartbeats 800000 in
theorem number1_calls (r k b1 b4 : Nat) (v x : Value) (l : List UInt8) (t : TypeId) (w : World) (h : IsR w r v l k) (h1 : w.cell? ⟨b1, 0, none⟩ = some (.pointer (some ⟨r, 0, none⟩))) (h4 : Box w b4 #[x] t) (hne : b4 ≠ r) (hv : v.ownBlock ≠ some b4) :
    Calls Tryd.prog 78 #[.pointer (some ⟨b1, 0, none⟩), .pointer (some ⟨b4, 0, none⟩)] w fun e w' => Mod (fun i => i = r ∨ i = b4) w w' ∧
      ((e = .returned (.tuple #[]) ∧ ((numR (l.drop k)).1 = 0 ∧ w'.cell? ⟨b4, 0, none⟩ = some (.int .u64 ((numR (l.drop k)).2.1 : Int)) ∧ IsR w' r v l (k + (numR (l.drop k)).2.2))) ∨ ∃ n, e = pan n ∧ (n = (numR (l.drop k)).1 ∧ (numR (l.drop k)).1 ≠ 0) ∧ ∃ j, IsR w' r v l j) := by
  have Hc := Lib.hid (sevens_calls r k v l w h)
  generalize numR (l.drop k) = N at Hc ⊢
  have HX := Lib.hid h4
  clear h h4
  go_enter Tryd.func78, Tryd.ntmps78
  go_wp2_with fail
  refine Hc.out.mono ?_
  rintro e w1 ⟨hm, ⟨hn, rfl, hi⟩ | ⟨hn, rfl, hj⟩⟩
  · have hx1 := HX.out.mod hm hne
    have c0 := hx1.cell 0 _ rfl
    have f0 := hx1.free 0
    have hms := Mod.set (fun i => i = b4) w1 ⟨b4, 0, none⟩ (.int .u64 (N.2.1 : Int)) rfl
    have HI := Lib.hid (hi.mod hms (fun e => hne e.symm) (fun b hb e => hv (by rw [hb, e])))
    have HC := Lib.hid ((hx1.set 0 (.int .u64 (N.2.1 : Int))).cell 0 _ rfl)
    have HM := Lib.hid ((hm.mono (fun i hi => Or.inl hi : ∀ i, i = r → i = r ∨ i = b4)).trans (hms.mono (fun i hi => Or.inr hi : ∀ i, i = b4 → i = r ∨ i = b4)))
    have HN := Lib.hid hn
    clear hm hx1 hms hi hn
    go_wp2_with fail
    refine bodyPost_end (results_none rfl _ _ _) rfl ?_
    exact ⟨HM.out, .inl ⟨rfl, HN.out, HC.out, HI.out⟩⟩
  · have HM := Lib.hid (hm.mono (fun i hi => Or.inl hi : ∀ i, i = r → i = r ∨ i = b4))
    have HN := Lib.hid hn
    have HJ := Lib.hid hj
    clear hm hn hj
    unfold pan
    go_wp2_with fail
    exact ⟨rfl, HM.out, .inr ⟨_, rfl, ⟨rfl, HN.out⟩, HJ.out⟩⟩
set_option maxHeartbeats 1600000 in
theorem rNumber_calls (r k : Nat) (v : Value) (l : List UInt8) (w : World) (h : IsR w r v l k) (hvl : ∀ b, v.ownBlock = some b → b < w.heap.size) :
    Calls Tryd.prog 65 #[.pointer (some ⟨r, 0, none⟩)] w fun e w' => Mod (fun i => i = r) w w' ∧
      (((numR (l.drop k)).1 = 0 ∧ e = .returned (.tuple #[.int .u64 ((numR (l.drop k)).2.1 : Int), .nilIface]) ∧ IsR w' r v l (k + (numR (l.drop k)).2.2)) ∨ ((numR (l.drop k)).1 ≠ 0 ∧ e = .returned (.tuple #[.int .u64 0, .iface 68 (.int .i64 (numR (l.drop k)).1)]) ∧ IsR w' r v l k)) := by
  have hmf : ∀ (fn : Fn) (first cap : Array Value) (w : World), (Instr.makeFunc fn first cap).run Tryd.prog w = .ok (.func fn first cap) w := fun _ _ _ _ => rfl
  have hrl := h.box.lt
  obtain ⟨w2, hw2⟩ : ∃ w2, w2 = (w.alloc (.cells #[.pointer (some ⟨r, 0, none⟩)] 83)).alloc (.cells #[.int .u64 0] 53) := ⟨_, rfl⟩
  have hsz : w2.heap.size = w.heap.size + 2 := by rw [hw2, World.size_alloc, World.size_alloc]
  have hb2 : Below w.heap.size w w2 := by rw [hw2]; exact (below_alloc w _).trans ((below_alloc _ _).mono (by simp))
  have hb3 : Below w2.heap.size w2 (TakeW w2 r k) := by unfold TakeW; exact ((below_alloc w2 _).trans ((below_alloc _ _).mono (by simp))).trans ((below_alloc _ _).mono (by simp; omega))
  have hx1 : Box w2 w.heap.size #[.pointer (some ⟨r, 0, none⟩)] 83 := by rw [hw2]; exact (Box.new w _ _).below (below_alloc _ _)
  have hx4 : Box w2 (w.heap.size + 1) #[.int .u64 0] 53 := by
    rw [hw2]; have := Box.new (w.alloc (.cells #[.pointer (some ⟨r, 0, none⟩)] 83)) #[.int .u64 0] 53
    rw [World.size_alloc] at this; exact this
  have hi3 := (h.below hb2).below hb3
  have hc := take_number r k v l ⟨w.heap.size, 0, none⟩ ⟨w.heap.size + 1, 0, none⟩ w2 (h.below hb2) _ _ (fun i => i = r ∨ i = w.heap.size + 1) (fun i hi => by omega)
    (number1_calls r k w.heap.size (w.heap.size + 1) v _ l 53 (TakeW w2 r k) hi3 ((hx1.below hb3).cell 0 _ rfl) (hx4.below hb3) (by omega) (fun e => by have := hvl _ e; omega))
  rw [hw2] at hc
  have HC := Lib.hid hc
  rw [← hw2] at HC
  clear hc
  have HB2 := Lib.hid hb2
  have HB3 := Lib.hid hb3
  have HX4 := Lib.hid hx4
  have HLE := Lib.hid h.le
  clear hb2 hb3 hx1 hx4 hi3 h
  generalize numR (l.drop k) = N at HC ⊢
  go_enter Tryd.func65, Tryd.ntmps65
  go_wp2_with fail
  rw [← hw2]
  clear hw2
  refine HC.out.mono ?_
  rintro e w9 (⟨rfl, w1, ⟨hn, hcl, hi⟩, hm, rfl⟩ | ⟨n, rfl, w1, ⟨rfl, hn⟩, hm, ⟨j, hj⟩, rfl⟩)
  · have hms := Mod.set (fun i => i = w2.heap.size + 1) w1 ⟨w2.heap.size + 1, 0, none⟩ .nilIface rfl
    have c4 := (cell_other (w := w1) (a := ⟨w.heap.size + 1, 0, none⟩) (b := ⟨w2.heap.size + 1, 0, none⟩) .nilIface (by simp; omega)).trans hcl
    have HI := Lib.hid (hi.mod hms (by omega) (fun b hb e => by have := hvl _ hb; omega))
    have HM := Lib.hid (rmod HB2.out HB3.out hm (by omega) (hms.mono (G := fun i => i = r ∨ w.heap.size ≤ i) (fun i hi => .inr (by omega))))
    have HN := Lib.hid hn
    clear hn hcl hi hm hms HC hsz
    go_wp2_with fail
    refine bodyPost_ret (results_tmp2 rfl _ _ _) rfl ?_
    exact ⟨HM.out, .inl ⟨HN.out, rfl, HI.out⟩⟩
  · obtain ⟨hs1, hs2⟩ := hj.set k HLE.out
    have hms := Mod.set (fun i => i = w2.heap.size + 1) (w1.setCell ⟨r, 1, none⟩ (.int .i64 (k : Int))) ⟨w2.heap.size + 1, 0, none⟩ (.iface 68 (.int .i64 N.1)) rfl
    have HI := Lib.hid (hs1.mod hms (by omega) (fun b hb e => by have := hvl _ hb; omega))
    have HM := Lib.hid (rmod HB2.out HB3.out hm (by omega) ((hs2.mono (G := fun i => i = r ∨ w.heap.size ≤ i) (fun i hi => .inl hi)).trans (hms.mono (G := fun i => i = r ∨ w.heap.size ≤ i) (fun i hi => .inr (by omega)))))
    have HN := Lib.hid hn
    clear hn hj hm hms hs1 hs2 HC hsz
    go_wp2_with fail
    refine bodyPost_ret (results_tmp2 rfl _ _ _) rfl ?_
    exact ⟨HM.out, .inr ⟨HN.out, rfl, HI.out⟩⟩
theorem left_calls (r k : Nat) (v : Value) (l : List UInt8) (w : World) (h : IsR w r v l k) :
    Calls Tryd.prog 66 #[.pointer (some ⟨r, 0, none⟩)] w fun e w' => e = .returned (.int .i64 ((l.length - k : Nat) : Int)) ∧ Below w.heap.size w w' ∧ IsR w' r v l k := by
  have hr := h.rd
  obtain ⟨a, cap, rfl, h1, h2, _, _⟩ := hr
  have hsm := h.sm
  have hle := h.le
  have c0 := h.box.cell 0 _ rfl
  have c1 := h.box.cell 1 _ rfl
  have HI := Lib.hid h
  have z1 : IntKind.i64.wrap ((l.length : Int) - (k : Int)) = ((l.length - k : Nat) : Int) := by simp [IntKind.wrap, IntKind.bits, IntKind.signed]; omega
  clear h
  go_enter Tryd.func66, Tryd.ntmps66
  go_wp2_with fail
  go_quiet (fail)
  have hb2 : Below w.heap.size w (w.drewN nq) := ⟨rfl, rfl, rfl, Nat.le_refl _, fun _ _ => rfl⟩
  have HI2 := Lib.hid (HI.out.below hb2)
  go_wp2_with fail
  go_ret
  exact ⟨rfl, hb2, HI2.out⟩
theorem end_calls (r k : Nat) (v : Value) (l : List UInt8) (w : World) (h : IsR w r v l k) :
    Calls Tryd.prog 47 #[.pointer (some ⟨r, 0, none⟩)] w fun e w' => e = .returned (errV (if k < l.length then 3 else 0)) ∧ Below w.heap.size w w' := by
  obtain ⟨E, hE⟩ : ∃ E, E = errV (if k < l.length then 3 else 0) := ⟨_, rfl⟩
  rw [← hE]
  have Hc := Lib.hid (left_calls r k v l w h)
  obtain ⟨d, hd⟩ : ∃ d, d = l.length - k := ⟨_, rfl⟩
  rw [← hd] at Hc
  have hle := h.le
  clear h
  go_enter Tryd.func47, Tryd.ntmps47
  go_wp2_with fail
  refine Hc.out.mono ?_
  rintro e w1 ⟨rfl, hb, _⟩
  have HB := Lib.hid hb
  clear hb Hc
  by_cases hk : k < l.length
  · have HE := Lib.hid (show E = .iface 68 (.int .i64 3) by rw [hE, if_pos hk]; rfl)
    have g1 : (0 : Int) < (d : Int) := by omega
    clear hk hd hle hE
    go_wp2_with fail
    go_ret
    rw [HE.out]; exact ⟨rfl, HB.out⟩
  · have HE := Lib.hid (show E = .nilIface by rw [hE, if_neg hk]; rfl)
    have g1 : ¬ (0 : Int) < (d : Int) := by omega
    clear hk hd hle hE
    go_wp2_with fail
    go_ret
    rw [HE.out]; exact ⟨rfl, HB.out⟩
theorem open_calls (v : Value) (l : List UInt8) (w : World) (h : Rd w v l.length (l.map V8)) (hl : l.length ≤ 1000000000000) :
    Calls Tryd.prog 43 #[v] w fun e w' => ∃ r v', e = .returned (.pointer (some ⟨r, 0, none⟩)) ∧ IsR w' r v' l 0 ∧ Below w.heap.size w w' ∧ w.heap.size ≤ r ∧ (∀ b, v'.ownBlock = some b → w.heap.size ≤ b ∧ b < w'.heap.size) := by
  have Hc := Lib.hid (clone_calls v l w h (by omega))
  obtain ⟨a, cap, rfl, _⟩ := h
  go_enter Tryd.func43, Tryd.ntmps43
  go_wp2_with fail
  refine Hc.out.mono ?_
  rintro e w1 ⟨o, rfl, ho, hb⟩
  obtain ⟨a2, c2, rfl, _⟩ := ho.slice
  have HO := Lib.hid ho
  have HB := Lib.hid hb
  clear ho hb Hc
  go_wp2_with fail
  go_ret
  have hb2 := below_alloc w1 (.cells #[.slice a2 l.length c2, .int .i64 0] 114)
  refine ⟨w1.heap.size, _, rfl, ⟨Box.new _ _ _, HO.out.rd.below hb2, by omega, fun e => by have := (HO.out.lt _ e).2; omega, hl⟩, HB.out.trans (hb2.mono HB.out.size), HB.out.size, fun b hbb => ⟨(HO.out.lt b hbb).1, by have := (HO.out.lt b hbb).2; simp; omega⟩⟩
end Go.Proofs.YtdaimaibnjkfbaaDoor
/-
  Package pack's Reader: Text.
-/
namespace Go.Proofs.YtdaimaibnjkfbaaDoor
open Go.RowKit
set_option maxRecDepth 100000

/-- A text at the beginning of bytes: the error, the text, how many bytes it has in all. -/
def textR (l : List UInt8) : Int × List UInt8 × Nat :=
  if (numR l).1 = 0 then (if 32 < (numR l).2.1 then (3, [], 0) else if l.length - (numR l).2.2 < (numR l).2.1 then (2, [], 0) else (0, (l.drop (numR l).2.2).take (numR l).2.1, (numR l).2.2 + (numR l).2.1)) else ((numR l).1, [], 0)
theorem run_cutB (a : Option Addr) (n cap lo hi : Nat) (h1 : lo ≤ hi) (h2 : hi ≤ cap) (w : World) : (Instr.slice 34 (.slice a n cap) (some (.int .i64 (lo : Int))) (some (.int .i64 (hi : Int))) none).run Tryd.prog w = .ok (tailV a hi cap lo) w := by
  have hx : Tryd.prog.elem 34 = 5 := by unfold Program.elem; rw [Tryd.underlying34]
  have hsz : (sizeOf 5).run Tryd.prog w = .ok 1 w := by kernel_rfl
  rw [run_slice_lh w 34 a n cap (by rw [hx]; exact Tryd.underlying34) .i64 .i64 (lo : Int) (hi : Int) (by omega) (by omega) (by omega), hx, hsz]
  simp [Result.andThen, sliced, tailV]
theorem rd_heap {w w' : World} {v : Value} {n : Nat} {xs : List Value} (h : Rd w v n xs) (hh : w'.heap = w.heap) : Rd w' v n xs := h.keep (fun b _ _ => by rw [hh])
theorem cutRd {w : World} {a : Option Addr} {n cap lo hi : Nat} {l : List UInt8} (h : Rd w (.slice a n cap) n (l.map V8)) (h1 : lo ≤ hi) (h2 : hi ≤ n) : Rd w (tailV a hi cap lo) (hi - lo) (((l.drop lo).take (hi - lo)).map V8) := by
  have hc : hi ≤ cap := by obtain ⟨a', cap', e, h5, _⟩ := h; injection e with _ _ e3; omega
  have h3 := h.cut hc hi
  have h4 := tailV_rd (k := lo) h3 h1 (by rw [List.length_take]; omega)
  rw [← List.map_take, ← List.map_drop, List.drop_take] at h4
  exact h4
theorem wpStill_convert {P : Program} {ops : Array Oper} {rest : List Oper} {op : Oper} {a : Act} {w : World} {Q : Act → Prop} (hw : Region.wanted op (yielded ops a.tmps) = true) (s d : TypeId) (x : Operand) (ho : op.op = .convert s d x)
    (v r : Value) (hx : a.eval x = v) (hr : (convert s d v).run P w = .ok r w) (h : wpStill P ops w Q rest (a.put op.dst r)) : wpStill P ops w Q (op :: rest) a := by
  unfold wpStill
  rw [if_pos hw]
  unfold Oper.still execOp
  simp only [ho, hx, Sem.run_bind, Sem.run_pure, Result.andThen_ok, hr]
  exact ⟨rfl, h⟩
set_option maxHeartbeats 3200000 in
theorem text1_calls (r k b1 bm b6 : Nat) (v x : Value) (l : List UInt8) (t t2 t3 : TypeId) (w : World) (h : IsR w r v l k) (h1 : Box w b1 #[.pointer (some ⟨r, 0, none⟩)] t2) (hm : Box w bm #[.int .i64 32] t3) (h6 : Box w b6 #[x] t) (hne : b6 ≠ r) (hne1 : b1 ≠ r) (hnem : bm ≠ r) (hn16 : b1 ≠ b6) (hv : v.ownBlock ≠ some b6) :
    Calls Tryd.prog 76 #[.pointer (some ⟨b1, 0, none⟩), .pointer (some ⟨bm, 0, none⟩), .pointer (some ⟨b6, 0, none⟩)] w fun e w' => Mod (fun i => i = r ∨ i = b6) w w' ∧
      ((e = .returned (.tuple #[]) ∧ ((textR (l.drop k)).1 = 0 ∧ w'.cell? ⟨b6, 0, none⟩ = some (.string (SB (textR (l.drop k)).2.1)) ∧ IsR w' r v l (k + (textR (l.drop k)).2.2))) ∨ ∃ n, e = pan n ∧ (n = (textR (l.drop k)).1 ∧ (textR (l.drop k)).1 ≠ 0) ∧ ∃ j, IsR w' r v l j) := by
  have hrd := h.rd
  obtain ⟨a, cap, rfl, hq1, hq2, hq3, _⟩ := hrd
  have Hc := Lib.hid (sevens_calls r k _ l w h)
  obtain ⟨R, hR⟩ : ∃ R, R = textR (l.drop k) := ⟨_, rfl⟩
  rw [← hR]
  unfold textR at hR
  rw [List.length_drop, List.drop_drop] at hR
  generalize numR (l.drop k) = N at Hc hR
  obtain ⟨er, n, u⟩ := N
  have c1 := h1.cell 0 _ rfl
  have HX1 := Lib.hid h1
  have HXm := Lib.hid hm
  have HX6 := Lib.hid h6
  have hle0 := h.le
  have hsm := h.sm
  clear h h1 hm h6
  go_enter Tryd.func76, Tryd.ntmps76
  go_wp2_with fail
  refine Hc.out.mono ?_
  clear Hc
  rintro e w1 ⟨hmd, ⟨hn, rfl, hi⟩ | ⟨hn, rfl, hj⟩⟩
  rotate_left
  · have HM := Lib.hid (hmd.mono (fun i hi => Or.inl hi : ∀ i, i = r → i = r ∨ i = b6))
    have HN := Lib.hid (show R = (er, [], 0) by rw [hR, if_neg hn])
    have Hn := Lib.hid hn
    have HJ := Lib.hid hj
    clear hmd hn hj hR
    unfold pan
    go_wp2_with fail
    rw [HN.out]
    exact ⟨rfl, HM.out, .inr ⟨_, rfl, ⟨rfl, Hn.out⟩, HJ.out⟩⟩
  · simp only at hn hi hR ⊢
    rw [if_pos hn] at hR
    have hx1 := HX1.out.mod hmd hne1
    have hxm := HXm.out.mod hmd hnem
    have hx6 := HX6.out.mod hmd hne
    have HI := Lib.hid hi
    have HM := Lib.hid (hmd.mono (fun i hi => Or.inl hi : ∀ i, i = r → i = r ∨ i = b6))
    have d1 := hx1.cell 0 _ rfl
    have dm := hxm.cell 0 _ rfl
    have HX1' := Lib.hid hx1
    have HX6' := Lib.hid hx6
    clear hx1 hxm hx6 HX1 HXm HX6 hmd c1 hi hn
    by_cases hbig : 32 < n
    · have HN := Lib.hid (show R = (3, [], 0) by rw [hR, if_pos hbig])
      have g1 : (32 : Int) < (n : Int) := by omega
      clear hR hbig
      go_wp2_with fail
      rw [HN.out]
      exact ⟨rfl, HM.out, .inr ⟨_, rfl, ⟨rfl, by decide⟩, _, HI.out⟩⟩
    · rw [if_neg hbig] at hR
      have g1 : ¬ (32 : Int) < (n : Int) := by omega
      have HBig := Lib.hid hbig
      have HR := Lib.hid hR
      clear hbig hR
      go_wp2_with fail
      refine (left_calls r (k + u) _ l w1 HI.out).mono ?_
      rintro e w2 ⟨rfl, hb2, hi2⟩
      obtain ⟨d, hd⟩ : ∃ d, d = l.length - (k + u) := ⟨_, rfl⟩
      rw [← hd]
      have hle := hi2.le
      have zd : IntKind.u64.wrap (d : Int) = (d : Int) := wrap_u64n d (by omega)
      have HR' := HR
      have HI2 := Lib.hid hi2
      have HM2 := Lib.hid (HM.out.trans (Mod.of_below (F := fun i => i = r ∨ i = b6) hb2))
      have hx1 := HX1'.out.below hb2
      have hx6 := HX6'.out.below hb2
      have d2 := hx1.cell 0 _ rfl
      have HX1 := Lib.hid hx1
      have HX6 := Lib.hid hx6
      clear hi2 hb2 hx1 hx6 HX1' HX6' HM HI d1 dm
      by_cases hsh : d < n
      · have HN := Lib.hid (show R = (2, [], 0) by have h5 := HR.out; rw [show l.length - k - u = d by omega, if_pos hsh] at h5; exact h5)
        have g2 : (d : Int) < (n : Int) := by omega
        clear hsh hd hle
        go_wp2_with fail
        rw [HN.out]
        exact ⟨rfl, HM2.out, .inr ⟨_, rfl, ⟨rfl, by decide⟩, _, HI2.out⟩⟩
      · have hn32 := HBig.out
        obtain ⟨p, hp⟩ : ∃ p, p = k + u := ⟨_, rfl⟩
        rw [← hp] at hd hle HI2
        obtain ⟨q, hq⟩ : ∃ q, q = p + n := ⟨_, rfl⟩
        obtain ⟨T, hT⟩ : ∃ T, T = (l.drop p).take n := ⟨_, rfl⟩
        have HN := Lib.hid (show R = (0, T, u + n) by have h5 := HR.out; rw [show l.length - k - u = d by omega, if_neg hsh, ← hp, ← hT] at h5; exact h5)
        have g2 : ¬ (d : Int) < (n : Int) := by omega
        have zn : IntKind.i64.wrap (n : Int) = (n : Int) := by simp [IntKind.wrap, IntKind.bits, IntKind.signed]; omega
        have zs : IntKind.i64.wrap ((p : Int) + (n : Int)) = (q : Int) := by simp [IntKind.wrap, IntKind.bits, IntKind.signed]; omega
        obtain ⟨tv, htv⟩ : ∃ tv, tv = tailV a q cap p := ⟨_, rfl⟩
        have hsl : ∀ w, (Instr.slice 34 (.slice a l.length cap) (some (.int .i64 (p : Int))) (some (.int .i64 (q : Int))) none).run Tryd.prog w = .ok tv w := fun w => by rw [htv]; exact run_cutB a _ cap p q (by omega) (by omega) w
        have hcv : ∀ w', w'.heap = w2.heap → (convert 34 9 tv).run Tryd.prog w' = .ok (.string (SB T)) w' := fun w' hw' => by
          have h5 := cutRd HI2.out.rd (show p ≤ q by omega) (by omega)
          rw [show q - p = n by omega, ← htv, ← hT] at h5
          exact convS T (rd_heap h5 hw') (by rw [hT, List.length_take, List.length_drop]; omega)
        have c0 : w2.cell? ⟨r, 0, none⟩ = some (.slice a l.length cap) := HI2.out.box.cell 0 _ rfl
        have c1 : w2.cell? ⟨r, 1, none⟩ = some (.int .i64 (p : Int)) := HI2.out.box.cell 1 _ rfl
        have hb3 : Below w2.heap.size w2 w2.drew := below_drew _
        have hx6 : Box w2.drew b6 #[x] t := HX6.out
        have hx1 : Box w2.drew b1 #[.pointer (some ⟨r, 0, none⟩)] t2 := HX1.out
        have e6 : w2.cell? ⟨b6, 0, none⟩ = some x := hx6.cell 0 _ rfl
        have f6 : w2.frozen? ⟨b6, 0, none⟩ = false := hx6.free 0
        have hms := Mod.set (fun i => i = b6) w2.drew ⟨b6, 0, none⟩ (.string (SB T)) rfl
        have hi3 := (HI2.out.below hb3).mod hms (fun e => hne e.symm) (fun b hb e => hv (by rw [hb, e]))
        have hx13 := hx1.mod hms hn16
        have c3 : (w2.setCell ⟨b6, 0, none⟩ (.string (SB T))).cell? ⟨r, 1, none⟩ = some (.int .i64 (p : Int)) := hi3.box.cell 1 _ rfl
        have f3 : (w2.setCell ⟨b6, 0, none⟩ (.string (SB T))).frozen? ⟨r, 1, none⟩ = false := hi3.box.free 1
        have d3 : (w2.setCell ⟨b6, 0, none⟩ (.string (SB T))).cell? ⟨b1, 0, none⟩ = some (.pointer (some ⟨r, 0, none⟩)) := hx13.cell 0 _ rfl
        obtain ⟨hs1, hs2⟩ := hi3.set q (by omega)
        have HS1 := Lib.hid hs1
        have HC6 := Lib.hid ((cell_other (w := w2.drew.setCell ⟨b6, 0, none⟩ (.string (SB T))) (a := ⟨b6, 0, none⟩) (b := ⟨r, 1, none⟩) (.int .i64 (q : Int)) hne).trans ((hx6.set 0 (.string (SB T))).cell 0 _ rfl))
        have HM4 := Lib.hid (((HM2.out.trans (Mod.of_below hb3)).trans (hms.mono (fun i hi => Or.inr hi : ∀ i, i = b6 → i = r ∨ i = b6))).trans (hs2.mono (fun i hi => Or.inl hi : ∀ i, i = r → i = r ∨ i = b6)))
        have HQ := Lib.hid (show q = k + (u + n) by omega)
        clear hT htv hq hp hd hsh hx6 hx1 hms hi3 hx13 hs1 hs2 hb3 hle HR HR' HBig hn32
        go_wp2_with fail
        go_still_tail 17, (by kernel_rfl)
        refine wpStill_convert rfl 34 9 (.tmp 33) rfl tv _ rfl (hcv _ rfl) ?_
        refine wpStill_nil ?_
        change wpList _ _ _ _ _ w2.drew
        go_wp2_with fail
        refine bodyPost_end (results_none rfl _ _ _) rfl ?_
        rw [HN.out]
        refine ⟨HM4.out, .inl ⟨rfl, rfl, HC6.out, ?_⟩⟩
        show IsR _ r _ l (k + (u + n))
        rw [← HQ.out]; exact HS1.out
set_option maxHeartbeats 1600000 in
theorem rText_calls (r k : Nat) (v : Value) (l : List UInt8) (w : World) (h : IsR w r v l k) (hvl : ∀ b, v.ownBlock = some b → b < w.heap.size) :
    Calls Tryd.prog 64 #[.pointer (some ⟨r, 0, none⟩), .int .i64 32] w fun e w' => Mod (fun i => i = r) w w' ∧
      (((textR (l.drop k)).1 = 0 ∧ e = .returned (.tuple #[.string (SB (textR (l.drop k)).2.1), .nilIface]) ∧ IsR w' r v l (k + (textR (l.drop k)).2.2)) ∨ ((textR (l.drop k)).1 ≠ 0 ∧ e = .returned (.tuple #[.string ⟨#[]⟩, .iface 68 (.int .i64 (textR (l.drop k)).1)]) ∧ IsR w' r v l k)) := by
  have hmf : ∀ (fn : Fn) (first cap : Array Value) (w : World), (Instr.makeFunc fn first cap).run Tryd.prog w = .ok (.func fn first cap) w := fun _ _ _ _ => rfl
  have hrl := h.box.lt
  obtain ⟨w2, hw2⟩ : ∃ w2, w2 = ((w.alloc (.cells #[.pointer (some ⟨r, 0, none⟩)] 83)).alloc (.cells #[.int .i64 32] 3)).alloc (.cells #[.string ⟨#[]⟩] 9) := ⟨_, rfl⟩
  have hsz : w2.heap.size = w.heap.size + 3 := by rw [hw2, World.size_alloc, World.size_alloc, World.size_alloc]
  have hb2 : Below w.heap.size w w2 := by rw [hw2]; exact ((below_alloc w _).trans ((below_alloc _ _).mono (by simp))).trans ((below_alloc _ _).mono (by simp; omega))
  have hb3 : Below w2.heap.size w2 (TakeW w2 r k) := by unfold TakeW; exact ((below_alloc w2 _).trans ((below_alloc _ _).mono (by simp))).trans ((below_alloc _ _).mono (by simp; omega))
  have hx1 : Box w2 w.heap.size #[.pointer (some ⟨r, 0, none⟩)] 83 := by rw [hw2]; exact ((Box.new w _ _).below (below_alloc _ _)).below (below_alloc _ _)
  have hxm : Box w2 (w.heap.size + 1) #[.int .i64 32] 3 := by
    rw [hw2]; have := (Box.new (w.alloc (.cells #[.pointer (some ⟨r, 0, none⟩)] 83)) #[.int .i64 32] 3).below (below_alloc _ (.cells #[.string ⟨#[]⟩] 9))
    rw [World.size_alloc] at this; exact this
  have hx6 : Box w2 (w.heap.size + 2) #[.string ⟨#[]⟩] 9 := by
    rw [hw2]; have := Box.new ((w.alloc (.cells #[.pointer (some ⟨r, 0, none⟩)] 83)).alloc (.cells #[.int .i64 32] 3)) #[.string ⟨#[]⟩] 9
    rw [World.size_alloc, World.size_alloc] at this; exact this
  have hi3 := (h.below hb2).below hb3
  have hc := take_text r k v l ⟨w.heap.size, 0, none⟩ ⟨w.heap.size + 1, 0, none⟩ ⟨w.heap.size + 2, 0, none⟩ w2 (h.below hb2) _ _ (fun i => i = r ∨ i = w.heap.size + 2) (fun i hi => by omega)
    (text1_calls r k w.heap.size (w.heap.size + 1) (w.heap.size + 2) v _ l 9 83 3 (TakeW w2 r k) hi3 (hx1.below hb3) (hxm.below hb3) (hx6.below hb3) (by omega) (by omega) (by omega) (by omega) (fun e => by have := hvl _ e; omega))
  rw [hw2] at hc
  have HC := Lib.hid hc
  rw [← hw2] at HC
  clear hc
  have HB2 := Lib.hid hb2
  have HB3 := Lib.hid hb3
  have HLE := Lib.hid h.le
  clear hb2 hb3 hx1 hxm hx6 hi3 h
  generalize textR (l.drop k) = N at HC ⊢
  go_enter Tryd.func64, Tryd.ntmps64
  go_wp2_with fail
  rw [← hw2]
  clear hw2
  refine HC.out.mono ?_
  rintro e w9 (⟨rfl, w1, ⟨hn, hcl, hi⟩, hm, rfl⟩ | ⟨n, rfl, w1, ⟨rfl, hn⟩, hm, ⟨j, hj⟩, rfl⟩)
  · have hms := Mod.set (fun i => i = w2.heap.size + 1) w1 ⟨w2.heap.size + 1, 0, none⟩ .nilIface rfl
    have c4 := (cell_other (w := w1) (a := ⟨w.heap.size + 2, 0, none⟩) (b := ⟨w2.heap.size + 1, 0, none⟩) .nilIface (by simp; omega)).trans hcl
    have HI := Lib.hid (hi.mod hms (by omega) (fun b hb e => by have := hvl _ hb; omega))
    have HM := Lib.hid (rmod HB2.out HB3.out hm (by omega) (hms.mono (G := fun i => i = r ∨ w.heap.size ≤ i) (fun i hi => .inr (by omega))))
    have HN := Lib.hid hn
    clear hn hcl hi hm hms HC hsz
    go_wp2_with fail
    refine bodyPost_ret (results_tmp2 rfl _ _ _) rfl ?_
    exact ⟨HM.out, .inl ⟨HN.out, rfl, HI.out⟩⟩
  · obtain ⟨hs1, hs2⟩ := hj.set k HLE.out
    have hms := Mod.set (fun i => i = w2.heap.size + 1) (w1.setCell ⟨r, 1, none⟩ (.int .i64 (k : Int))) ⟨w2.heap.size + 1, 0, none⟩ (.iface 68 (.int .i64 N.1)) rfl
    have HI := Lib.hid (hs1.mod hms (by omega) (fun b hb e => by have := hvl _ hb; omega))
    have HM := Lib.hid (rmod HB2.out HB3.out hm (by omega) ((hs2.mono (G := fun i => i = r ∨ w.heap.size ≤ i) (fun i hi => .inl hi)).trans (hms.mono (G := fun i => i = r ∨ w.heap.size ≤ i) (fun i hi => .inr (by omega)))))
    have HN := Lib.hid hn
    clear hn hj hm hms hs1 hs2 HC hsz
    go_wp2_with fail
    refine bodyPost_ret (results_tmp2 rfl _ _ _) rfl ?_
    exact ⟨HM.out, .inr ⟨HN.out, rfl, HI.out⟩⟩
end Go.Proofs.YtdaimaibnjkfbaaDoor
/-
  Package event: the taker.
-/
namespace Go.Proofs.YtdaimaibnjkfbaaDoor
open Go.RowKit
set_option maxRecDepth 100000

/-- What is taken so far: the bytes, the place, the error, numbers that don't fit. -/
structure TkM where
  l : List UInt8
  k : Nat
  er : Int
  big : Bool
def TkM.rest (s : TkM) : List UInt8 := s.l.drop s.k
def TkM.num (s : TkM) : Nat × TkM := if s.er = 0 then (if (numR s.rest).1 = 0 then ((numR s.rest).2.1, ⟨s.l, s.k + (numR s.rest).2.2, 0, s.big⟩) else (0, ⟨s.l, s.k, (numR s.rest).1, s.big⟩)) else (0, s)
def TkM.txt (s : TkM) : List UInt8 × TkM := if s.er = 0 then (if (textR s.rest).1 = 0 then ((textR s.rest).2.1, ⟨s.l, s.k + (textR s.rest).2.2, 0, s.big⟩) else ([], ⟨s.l, s.k, (textR s.rest).1, s.big⟩)) else ([], s)
def asInt (n : Nat) : Int := if n ≤ 9223372036854775807 then (n : Int) else (n : Int) - 18446744073709551616
def TkM.int (s : TkM) : Int × TkM := (asInt s.num.1, ⟨s.num.2.l, s.num.2.k, s.num.2.er, s.num.2.big || !(decide (s.num.1 ≤ 9223372036854775807))⟩)
theorem errV_no {n : Int} (h : n ≠ 0) : errV n = .iface 68 (.int .i64 n) := by unfold errV; rw [if_neg h]
end Go.Proofs.YtdaimaibnjkfbaaDoor
