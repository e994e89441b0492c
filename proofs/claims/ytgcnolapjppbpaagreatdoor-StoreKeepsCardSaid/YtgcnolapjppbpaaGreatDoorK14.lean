/-
  Texts of one proof, one behind the other.
-/
import Derived.Test.YtgcnolapjppbpaaGreatDoorK06
import Derived.Test.YtgcnolapjppbpaaGreatDoorK13
import Derived.Recover
import Derived.BigQuiet
import Derived.Test.YtgcnolapjppbpaaGreatDoorK03
namespace Go.Proofs.YtgcnolapjppbpaaGreatDoor
open Go.RowKit
set_option maxRecDepth 100000
theorem appMR {w : World} {ops : Array Oper} {rest : List Oper} {o : Oper} {a : Act} {Q : Exit → Act → World → Prop} (hgd : o.guard = none) (s x : Operand)
    (ho : o.op = .call { callee := .builtin .append, args := #[s, x], argTypes := #[92, 92] })
    (base : Nat) (v : Value) (n : Nat) (xs : List Value) (hs : a.eval s = v) (hown : OwnM w base 5 v n xs)
    (src : Value) (l : List UInt8) (hx : a.eval x = src) (hsrc : Rd w src l.length (l.map V8))
    (hroom : n + l.length ≤ 140737488355328) (hbase : base ≤ w.heap.size)
    (h : ∀ v' w', OwnM w' base 5 v' (n + l.length) (xs ++ l.map V8) → w.grownBy w' v.ownBlock → Moved w v v' → wpList Tryz.prog ops Q rest (a.put o.dst v') w') : wpList Tryz.prog ops Q (o :: rest) a w := by
  obtain ⟨i0, hi, hz0, hz1, hz2⟩ := info_parts info_u8
  refine wpList_plain hgd fun _ hK => ?_
  obtain ⟨v', w', hr, h2, h3, h4, _⟩ := run_append_M (P := Tryz.prog) w base 92 92 o.type 5 _ i0 (.int .u8 0) 1 Tryz.underlying92 Tryz.underlying92 (.inl ⟨_, rfl⟩) hi hz0 hz1 hz2 rfl v n xs hown
    src l.length (l.map V8) (by simp) (fun w => by obtain ⟨ad, cap, rfl, _⟩ := hsrc; simp [Builtin.lenOf]) (fun wd hw => by
      obtain ⟨ad, cap, rfl, hmc, _, hnil, hcell⟩ := hsrc
      cases ad with
      | some ad =>
        refine run_firstCells_some (P := Tryz.prog) wd 1 l.length ad l.length cap (l.map V8) (by simp) (fun j u hj => ?_)
        have hjl : j < (l.map V8).length := (List.getElem?_eq_some_iff.1 hj).1
        obtain ⟨b, off, e1, e2⟩ := hcell j hjl
        injection e1 with e1; subst e1
        rw [hw, Go.WideShapes.add_plain, e2, List.getD, hj]; rfl
      | none =>
        have hc0 := hnil rfl
        have hl0 : l = [] := List.eq_nil_of_length_eq_zero (by omega)
        subst hl0
        have hc1 : cap = 0 := hnil rfl
        subst hc1
        exact run_firstCells_none ..) (by
      intro u hu
      obtain ⟨c, _, rfl⟩ := List.mem_map.1 hu
      simp [V8, Value.oneCell']) (by unfold maxLen; omega) (by omega) hbase
  unfold Oper.wp execOp
  simp only [ho, resolve, invoke, builtin, Sem.run_bind, Sem.run_pure, Result.andThen_ok, List.map_toArray, List.map_cons, List.map_nil, hs, hx, hr]
  exact hK _ _ (h v' w' h2 h3 h4)
def sevF : Nat → Nat → List UInt8
  | 0, _ => []
  | k + 1, n => if n < 128 then [UInt8.ofNat n] else UInt8.ofNat (n % 128 + 128) :: sevF k (n / 128)
def sevM (n : Nat) : List UInt8 := sevF 10 n
theorem sevF_len (k n : Nat) : (sevF k n).length ≤ k := by
  induction k generalizing n with
  | zero => simp [sevF]
  | succ k ih => rw [sevF]; split
                 · simp
                 · have := ih (n / 128); simp only [List.length_cons]; omega
theorem sevM_len (n : Nat) : (sevM n).length ≤ 10 := sevF_len 10 n
theorem v8_nat (n : Nat) (h : n < 256) : V8 (UInt8.ofNat n) = .int .u8 (n : Int) := by
  unfold V8
  have : (UInt8.ofNat n).toNat = n % 256 := rfl
  rw [this, Nat.mod_eq_of_lt h]
theorem u8_or2 (n : Nat) (h : n < 256) : bits .or .u8 (n : Int) 128 = ((n % 128 + 128 : Nat) : Int) := by
  have : ∀ n : Nat, n < 256 → bits .or .u8 (n : Int) 128 = ((n % 128 + 128 : Nat) : Int) := by decide +kernel
  exact this n h
end Go.Proofs.YtgcnolapjppbpaaGreatDoor
namespace Go.Proofs.YtgcnolapjppbpaaGreatDoor
open Go.RowKit
set_option maxRecDepth 100000
def numB (n : Int) : List UInt8 := sevM n.toNat
def textB (l : List UInt8) : List UInt8 := sevM l.length ++ l
theorem wrap_u64n (n : Nat) (h : n ≤ 9223372036854775807) : IntKind.u64.wrap (n : Int) = (n : Int) := by
  simp [IntKind.wrap, IntKind.bits, IntKind.signed]; omega
theorem mod_u64n (n : Nat) (h : n ≤ 9223372036854775807) : (n : Int) % 18446744073709551616 = (n : Int) := by omega
end Go.Proofs.YtgcnolapjppbpaaGreatDoor
namespace Go.Proofs.YtgcnolapjppbpaaGreatDoor
open Go.RowKit
set_option maxRecDepth 100000
def pan (n : Int) : Ending := .panicked [{ v := .iface 91 (.int .i64 n), recovered := false }]
structure IsR (w : World) (r : Nat) (v : Value) (l : List UInt8) (k : Nat) : Prop where
  box : Box w r #[v, .int .i64 (k : Int)] 288
  rd : Rd w v l.length (l.map V8)
  le : k ≤ l.length
  ne : v.ownBlock ≠ some r
  sm : l.length ≤ 1000000000000
theorem IsR.mod {w w' : World} {r k : Nat} {v : Value} {l : List UInt8} {F : Nat → Prop} (h : IsR w r v l k) (hm : Mod F w w') (h1 : ¬ F r) (h2 : ∀ b, v.ownBlock = some b → ¬ F b) : IsR w' r v l k :=
  ⟨h.box.mod hm h1, h.rd.keep (fun b hb hl => hm.block b hl (h2 b hb)), h.le, h.ne, h.sm⟩
theorem IsR.below {w w' : World} {r k : Nat} {v : Value} {l : List UInt8} (h : IsR w r v l k) (hb : Below w.heap.size w w') : IsR w' r v l k := h.mod (Mod.of_below (F := fun _ => False) hb) (fun h => h) (fun _ _ h => h)
theorem IsR.set {w : World} {r k : Nat} {v : Value} {l : List UInt8} (h : IsR w r v l k) (j : Nat) (hj : j ≤ l.length) : IsR (w.setCell ⟨r, 1, none⟩ (.int .i64 (j : Int))) r v l j ∧ Mod (fun b => b = r) w (w.setCell ⟨r, 1, none⟩ (.int .i64 (j : Int))) := by
  have hm := Mod.set (fun b => b = r) w ⟨r, 1, none⟩ (.int .i64 (j : Int)) rfl
  exact ⟨⟨h.box.set 1 _, h.rd.keep (fun b hb hl => hm.block b hl (fun e => h.ne (by rw [hb, e]))), hj, h.ne, h.sm⟩, hm⟩
set_option maxHeartbeats 800000 in
theorem one_yes (r k : Nat) (v : Value) (l : List UInt8) (w : World) (h : IsR w r v l k) (hk : k < l.length) :
    Calls Tryz.prog 190 #[.pointer (some ⟨r, 0, none⟩)] w fun e w' => e = .returned (V8 (l.getD k 0)) ∧ IsR w' r v l (k + 1) ∧ Mod (fun b => b = r) w w' := by
  have hr := h.rd
  obtain ⟨a, cap, rfl, h1, h2, h3, h4⟩ := hr
  obtain ⟨b, off, rfl, hc⟩ := h4 k (by simpa using hk)
  have hc' : w.cell? ⟨b, off + k, none⟩ = some (V8 (l.getD k 0)) := by rw [hc]; simp [hk]
  have hsm := h.sm
  have c0 := h.box.cell 0 _ rfl
  have c1 := h.box.cell 1 _ rfl
  have f1 := h.box.free 1
  have HI := Lib.hid h
  have HK := Lib.hid hk
  have k0 : (0 : Int) ≤ (k : Int) := by omega
  have k1 : (k : Int) < (l.length : Int) := by omega
  have Hc := Lib.hid hc'
  have hbr : b ≠ r := fun e => h.ne (by simp [Value.ownBlock, e])
  clear h h4 hc hc' h3 hk
  go_enter Tryz.func190, Tryz.ntmps190
  go_wp2_with fail
  go_quiet (fail)
  have hb2 : Below w.heap.size w (w.drewN nq) := ⟨rfl, rfl, rfl, Nat.le_refl _, fun _ _ => rfl⟩
  have HI2 := Lib.hid (HI.out.below hb2)
  have HM2 := Lib.hid (Mod.of_below (F := fun b => b = r) hb2)
  have HC2 := Lib.hid (below_heap hb2 Hc.out)
  generalize w.drewN nq = w2 at HI2 HM2 HC2 ⊢
  clear hb2 c0 c1 f1
  have c0 := HI2.out.box.cell 0 _ rfl
  have c1 := HI2.out.box.cell 1 _ rfl
  have f1 := HI2.out.box.free 1
  go_wp2_with fail
  obtain ⟨hs1, hs2⟩ := HI2.out.set (k + 1) HK.out
  have e1 : ((k + 1 : Nat) : Int) = (k : Int) + 1 := by omega
  have hcell : (w2.setCell ⟨r, 1, none⟩ (.int .i64 ((k + 1 : Nat) : Int))).cell? ⟨b, off + k, none⟩ = some (V8 (l.getD k 0)) := by
    rw [World.cell?_of_block (w := w2) (hs2.block b (cell_lt HC2.out) hbr)]; exact HC2.out
  have d0 := hs1.box.cell 0 _ rfl
  have d1 := hs1.box.cell 1 _ rfl
  rw [e1] at hcell hs1 hs2 d0 d1
  have HS1 := Lib.hid hs1
  have HS2 := Lib.hid (HM2.out.trans hs2)
  have HV := Lib.hid (show V8 (l.getD k 0) = .int .u8 ((l.getD k 0).toNat : Int) from rfl)
  rw [HV.out] at hcell
  have z1 : IntKind.i64.wrap ((k : Int) + 1 - 1) = (k : Int) := by simp [IntKind.wrap, IntKind.bits, IntKind.signed]; omega
  clear hs1 hs2 e1 c0 c1 f1
  generalize w2.setCell _ _ = w3 at hcell HS1 HS2 d0 d1 ⊢
  go_quiet (fail)
  have hb4 : Below w3.heap.size w3 (w3.drewN nq) := ⟨rfl, rfl, rfl, Nat.le_refl _, fun _ _ => rfl⟩
  have HI4 := Lib.hid (HS1.out.below hb4)
  have HM4 := Lib.hid (HS2.out.trans (Mod.of_below (F := fun b => b = r) hb4))
  clear hb4 hcell d0 d1
  go_wp2_with fail
  go_ret
  exact ⟨rfl, HI4.out, HM4.out⟩
set_option maxHeartbeats 800000 in
theorem one_no (r k : Nat) (v : Value) (l : List UInt8) (w : World) (h : IsR w r v l k) (hk : ¬ k < l.length) :
    Calls Tryz.prog 190 #[.pointer (some ⟨r, 0, none⟩)] w fun e w' => e = pan 2 ∧ IsR w' r v l k ∧ Mod (fun b => b = r) w w' := by
  have hr := h.rd
  obtain ⟨a, cap, rfl, h1, h2, h3, h4⟩ := hr
  have hsm := h.sm
  have c0 := h.box.cell 0 _ rfl
  have c1 := h.box.cell 1 _ rfl
  have HI := Lib.hid h
  have k0 : (0 : Int) ≤ (k : Int) := by omega
  have k1 : ¬ (k : Int) < (l.length : Int) := by omega
  clear h h4 h3 hk
  go_enter Tryz.func190, Tryz.ntmps190
  go_wp2_with fail
  go_quiet (fail)
  have hb2 : Below w.heap.size w (w.drewN nq) := ⟨rfl, rfl, rfl, Nat.le_refl _, fun _ _ => rfl⟩
  have HI2 := Lib.hid (HI.out.below hb2)
  have HM2 := Lib.hid (Mod.of_below (F := fun b => b = r) hb2)
  generalize w.drewN nq = w2 at HI2 HM2 ⊢
  clear hb2 c0 c1
  go_wp2_with fail
  exact ⟨rfl, rfl, HI2.out, HM2.out⟩
def numGo (i v : Nat) : List UInt8 → Int × Nat × Nat
  | [] => (2, 0, 0)
  | c :: r => if (i = 9 ∧ 1 < c.toNat) ∨ (0 < i ∧ c.toNat = 0) then (4, 0, 0) else if c.toNat < 128 then (0, v + c.toNat * 2 ^ (7 * i), i + 1) else numGo (i + 1) (v + (c.toNat - 128) * 2 ^ (7 * i)) r
def numR (l : List UInt8) : Int × Nat × Nat := numGo 0 0 l
theorem u8_and (y m : Nat) (h : y < 256) (hm : m = y % 128) : bits .and .u8 (y : Int) 127 = (m : Int) := by
  have : ∀ n : Nat, n < 256 → bits .and .u8 (n : Int) 127 = ((n % 128 : Nat) : Int) := by decide +kernel
  rw [this y h, hm]
theorem u64_or' (a b : Nat) (ha : a < 2 ^ 64) (hb : b < 2 ^ 64) : bits .or .u64 (a : Int) (b : Int) = ((a ||| b : Nat) : Int) := by
  have hx : a ||| b < 2 ^ 64 := Nat.or_lt_two_pow ha hb
  have ho : ∀ n : Nat, n < 2 ^ 64 → (BitVec.ofInt 64 (n : Int)).toNat = n := fun n hn => by rw [BitVec.toNat_ofInt]; omega
  show IntKind.u64.wrap ((BitVec.ofInt 64 (a : Int) ||| BitVec.ofInt 64 (b : Int)).toNat : Int) = _
  rw [BitVec.toNat_or, ho a ha, ho b hb]
  simp [IntKind.wrap, IntKind.bits, IntKind.signed]; omega
theorem sev_lt {m i : Nat} (hm : m < 128) (hi : i ≤ 9) (h9 : i = 9 → m ≤ 1) : m * 2 ^ (7 * i) ≤ 2 ^ 63 ∧ (i < 9 → m * 2 ^ (7 * i) < 2 ^ 63) := by
  have h : i = 0 ∨ i = 1 ∨ i = 2 ∨ i = 3 ∨ i = 4 ∨ i = 5 ∨ i = 6 ∨ i = 7 ∨ i = 8 ∨ i = 9 := by omega
  rcases h with rfl | rfl | rfl | rfl | rfl | rfl | rfl | rfl | rfl | rfl <;> first | (simp only [Nat.reduceMul, Nat.reducePow]; omega) | (have := h9 rfl; simp only [Nat.reduceMul, Nat.reducePow]; omega)
theorem or_sev (u m i : Nat) (hu : u < 2 ^ (7 * i)) (hm : m < 128) (hi : i ≤ 9) (h9 : i = 9 → m ≤ 1) : bits .or .u64 (u : Int) (IntKind.u64.wrap ((m : Int) * 2 ^ (7 * i))) = ((u + m * 2 ^ (7 * i) : Nat) : Int) := by
  have h1 := (sev_lt hm hi h9).1
  have h2 : (2 : Nat) ^ (7 * i) ≤ 2 ^ 63 := Nat.pow_le_pow_right (by omega) (by omega)
  have h3 : u < 2 ^ 64 := by omega
  have h4 : m * 2 ^ (7 * i) < 2 ^ 64 := by omega
  have e1 : ((m : Int) * 2 ^ (7 * i)) = ((m * 2 ^ (7 * i) : Nat) : Int) := by simp
  have e2 : IntKind.u64.wrap ((m * 2 ^ (7 * i) : Nat) : Int) = ((m * 2 ^ (7 * i) : Nat) : Int) := by
    generalize m * 2 ^ (7 * i) = z at h4 ⊢
    simp [IntKind.wrap, IntKind.bits, IntKind.signed]; omega
  rw [e1, e2, u64_or' u _ h3 h4, or_mul u m (7 * i) _ rfl hu, Nat.add_comm]
set_option maxHeartbeats 3200000 in
theorem sevens_calls (r k : Nat) (v : Value) (l : List UInt8) (w : World) (h : IsR w r v l k) :
    Calls Tryz.prog 180 #[.pointer (some ⟨r, 0, none⟩)] w fun e w' => Mod (fun b => b = r) w w' ∧
      (((numR (l.drop k)).1 = 0 ∧ e = .returned (.int .u64 ((numR (l.drop k)).2.1 : Int)) ∧ IsR w' r v l (k + (numR (l.drop k)).2.2)) ∨ ((numR (l.drop k)).1 ≠ 0 ∧ e = pan (numR (l.drop k)).1 ∧ ∃ j, IsR w' r v l j)) := by
  obtain ⟨N, hN⟩ : ∃ N, N = numR (l.drop k) := ⟨_, rfl⟩
  rw [← hN]
  have HN := Lib.hid hN
  clear hN
  go_enter Tryz.func180, Tryz.ntmps180
  go_wp2_with fail
  go_loopg [3, 4] 10 (fun gk vv iv wr => ∃ (i u : Nat), gk + i = 10 ∧ i ≤ 9 ∧ vv = .int .u64 (u : Int) ∧ iv = .int .i64 (i : Int) ∧ u < 2 ^ (7 * i) ∧ k + i ≤ l.length ∧ IsR wr r v l (k + i) ∧ numGo i u (l.drop (k + i)) = N ∧ Mod (fun b => b = r) w wr)
  case atStart => exact ⟨0, 0, rfl, by omega, rfl, rfl, by omega, by have := h.le; omega, h, HN.out.symm, Mod.refl _ _⟩
  case round =>
    obtain ⟨i, u, hgk, hi, rfl, rfl, hu, hle, hR, hG, hM⟩ := hrel
    have HR := Lib.hid hR
    have HM := Lib.hid hM
    by_cases hk : k + i < l.length
    · obtain ⟨c, hc⟩ : ∃ c, c = l.getD (k + i) 0 := ⟨_, rfl⟩
      have hd : l.drop (k + i) = c :: l.drop (k + i + 1) := by
        rw [List.drop_eq_getElem_cons hk, hc]; simp [List.getD, hk]
      rw [hd] at hG
      go_wp2_with fail
      refine (one_yes r (k + i) v l _ HR.out hk).mono ?_
      rintro e w1 ⟨rfl, hR1, hM1⟩
      rw [← hc]
      obtain ⟨y, hy⟩ : ∃ y, y = c.toNat := ⟨_, rfl⟩
      have HV := Lib.hid (show V8 c = .int .u8 (y : Int) by rw [hy]; rfl)
      rw [HV.out]
      unfold numGo at hG
      rw [← hy] at hG
      have hyb : y < 256 := by rw [hy]; exact c.toNat_lt
      obtain ⟨m, hm⟩ : ∃ m, m = y % 128 := ⟨_, rfl⟩
      have hm128 : m < 128 := by omega
      have hand : bits .and .u8 (y : Int) 127 = (m : Int) := u8_and y m hyb hm
      have hmw : IntKind.u64.wrap (m : Int) = (m : Int) := by simp [IntKind.wrap, IntKind.bits, IntKind.signed]; omega
      have z7 : IntKind.i64.wrap (7 * (i : Int)) = 7 * (i : Int) := by simp [IntKind.wrap, IntKind.bits, IntKind.signed]; omega
      have i0 : (0 : Int) ≤ (i : Int) := by omega
      have i9 : (i : Int) ≤ 9 := by omega
      have HR1 := Lib.hid hR1
      have HM1 := Lib.hid (HM.out.trans hM1)
      have Hgk := Lib.hid hgk
      have Hle := Lib.hid hk
      clear hR1 hM1 hR hM hd hc HV hle
      rcases (show (i = 9 ∧ 1 < y) ∨ (i = 9 ∧ y = 0) ∨ (i ≠ 9 ∧ 0 < i ∧ y = 0) ∨ (i = 0) ∨ (i ≠ 9 ∧ 0 < i ∧ y ≠ 0) ∨ (i = 9 ∧ y = 1) by omega) with hcs | hcs | hcs | hcs | hcs | hcs
      · have f9 : ((i : Int) == 9) = true := by simp; omega
        have fg : (1 : Int) < (y : Int) := by omega
        have HG := Lib.hid (show N = (4, 0, 0) from by rw [← hG]; exact if_pos (by omega))
        clear hu hG hm hy hyb hm128 hgk hi hk hcs
        go_wp2_with fail
        rw [HG.out]
        exact ⟨rfl, HM1.out, .inr ⟨by decide, rfl, _, HR1.out⟩⟩
      · have f9 : ((i : Int) == 9) = true := by simp; omega
        have fg : ¬ (1 : Int) < (y : Int) := by omega
        have f0 : (0 : Int) < (i : Int) := by omega
        have fy : ((y : Int) == 0) = true := by simp; omega
        have HG := Lib.hid (show N = (4, 0, 0) from by rw [← hG]; exact if_pos (by omega))
        clear hu hG hm hy hyb hm128 hgk hi hk hcs
        go_wp2_with fail
        rw [HG.out]
        exact ⟨rfl, HM1.out, .inr ⟨by decide, rfl, _, HR1.out⟩⟩
      · have f9 : ((i : Int) == 9) = false := by simp; omega
        have f0 : (0 : Int) < (i : Int) := by omega
        have fy : ((y : Int) == 0) = true := by simp; omega
        have HG := Lib.hid (show N = (4, 0, 0) from by rw [← hG]; exact if_pos (by omega))
        clear hu hG hm hy hyb hm128 hgk hi hk hcs
        go_wp2_with fail
        rw [HG.out]
        exact ⟨rfl, HM1.out, .inr ⟨by decide, rfl, _, HR1.out⟩⟩
      · have f9 : ((i : Int) == 9) = false := by simp; omega
        have f0 : ¬ (0 : Int) < (i : Int) := by omega
        rw [if_neg (by omega)] at hG
        have hor := or_sev u m i hu hm128 hi (by omega)
        obtain ⟨q, hq⟩ : ∃ q, q = u + m * 2 ^ (7 * i) := ⟨_, rfl⟩
        rw [← hq] at hor
        by_cases hy8 : y < 128
        · have HG := Lib.hid (show N = (0, q, i + 1) from by rw [← hG, if_pos hy8, hq, show m = y by omega])
          have g1 : (y : Int) < 128 := by omega
          clear hu hG hm hy hyb hm128 hgk hi hk hq hy8 hcs
          go_wp2_with fail
          go_ret
          rw [HG.out]
          refine ⟨HM1.out, .inl ⟨rfl, rfl, ?_⟩⟩
          have := HR1.out
          rwa [Nat.add_assoc] at this
        · have hi8 : i < 9 := by omega
          have HG := Lib.hid (show numGo (i + 1) q (l.drop (k + (i + 1))) = N from by rw [← hG, if_neg hy8, hq, show m = y - 128 by omega, Nat.add_assoc])
          have HQ := Lib.hid (show q < 2 ^ (7 * (i + 1)) from by
            rw [show 7 * (i + 1) = 7 * i + 7 by omega, Nat.pow_add, hq]
            have : (m + 1) * 2 ^ (7 * i) ≤ 128 * 2 ^ (7 * i) := Nat.mul_le_mul_right _ (by omega)
            rw [Nat.add_mul] at this
            rw [Nat.mul_comm (2 ^ (7 * i)) (2 ^ 7)]; omega)
          have Hi8 := Lib.hid hi8
          have g1 : ¬ (y : Int) < 128 := by omega
          clear hu hG hm hy hyb hm128 hgk hi hk hq hy8 hi8 hcs
          go_wp2_with fail
          go_roundg (10 - (i + 1))
          case measure => have := Hgk.out; have := Hi8.out; omega
          case rel => exact ⟨i + 1, q, by have := Hi8.out; omega, by have := Hi8.out; omega, rfl, by go_num, HQ.out, by have := Hle.out; omega, HR1.out, HG.out, HM1.out⟩
      · have f9 : ((i : Int) == 9) = false := by simp; omega
        have f0 : (0 : Int) < (i : Int) := by omega
        have fy : ((y : Int) == 0) = false := by simp; omega
        rw [if_neg (by omega)] at hG
        have hor := or_sev u m i hu hm128 hi (by omega)
        obtain ⟨q, hq⟩ : ∃ q, q = u + m * 2 ^ (7 * i) := ⟨_, rfl⟩
        rw [← hq] at hor
        by_cases hy8 : y < 128
        · have HG := Lib.hid (show N = (0, q, i + 1) from by rw [← hG, if_pos hy8, hq, show m = y by omega])
          have g1 : (y : Int) < 128 := by omega
          clear hu hG hm hy hyb hm128 hgk hi hk hq hy8 hcs
          go_wp2_with fail
          go_ret
          rw [HG.out]
          refine ⟨HM1.out, .inl ⟨rfl, rfl, ?_⟩⟩
          have := HR1.out
          rwa [Nat.add_assoc] at this
        · have hi8 : i < 9 := by omega
          have HG := Lib.hid (show numGo (i + 1) q (l.drop (k + (i + 1))) = N from by rw [← hG, if_neg hy8, hq, show m = y - 128 by omega, Nat.add_assoc])
          have HQ := Lib.hid (show q < 2 ^ (7 * (i + 1)) from by
            rw [show 7 * (i + 1) = 7 * i + 7 by omega, Nat.pow_add, hq]
            have : (m + 1) * 2 ^ (7 * i) ≤ 128 * 2 ^ (7 * i) := Nat.mul_le_mul_right _ (by omega)
            rw [Nat.add_mul] at this
            rw [Nat.mul_comm (2 ^ (7 * i)) (2 ^ 7)]; omega)
          have Hi8 := Lib.hid hi8
          have g1 : ¬ (y : Int) < 128 := by omega
          clear hu hG hm hy hyb hm128 hgk hi hk hq hy8 hi8 hcs
          go_wp2_with fail
          go_roundg (10 - (i + 1))
          case measure => have := Hgk.out; have := Hi8.out; omega
          case rel => exact ⟨i + 1, q, by have := Hi8.out; omega, by have := Hi8.out; omega, rfl, by go_num, HQ.out, by have := Hle.out; omega, HR1.out, HG.out, HM1.out⟩
      · have f9 : ((i : Int) == 9) = true := by simp; omega
        have fg : ¬ (1 : Int) < (y : Int) := by omega
        have f0 : (0 : Int) < (i : Int) := by omega
        have fy : ((y : Int) == 0) = false := by simp; omega
        rw [if_neg (by omega)] at hG
        have hor := or_sev u m i hu hm128 hi (by omega)
        obtain ⟨q, hq⟩ : ∃ q, q = u + m * 2 ^ (7 * i) := ⟨_, rfl⟩
        rw [← hq] at hor
        have hy8 : y < 128 := by omega
        have HG := Lib.hid (show N = (0, q, i + 1) from by rw [← hG, if_pos hy8, hq, show m = y by omega])
        have g1 : (y : Int) < 128 := by omega
        clear hu hG hm hy hyb hm128 hgk hi hk hq hy8 hcs
        go_wp2_with fail
        go_ret
        rw [HG.out]
        refine ⟨HM1.out, .inl ⟨rfl, rfl, ?_⟩⟩
        have := HR1.out
        rwa [Nat.add_assoc] at this
    · have HG := Lib.hid (show N = (2, 0, 0) from by
        rw [List.drop_of_length_le (by omega)] at hG
        rw [← hG]; rfl)
      have Hk := Lib.hid hk
      clear hu hG hR hM hk hle
      go_wp2_with fail
      refine (one_no r (k + i) v l _ HR.out Hk.out).mono ?_
      rintro e w1 ⟨rfl, hR1, hM1⟩
      have HR1 := Lib.hid hR1
      have HM1 := Lib.hid (HM.out.trans hM1)
      clear hR1 hM1
      unfold pan
      go_wp2_with fail
      rw [HG.out]
      exact ⟨rfl, HM1.out, .inr ⟨by decide, rfl, _, HR1.out⟩⟩
end Go.Proofs.YtgcnolapjppbpaaGreatDoor
namespace Go.Proofs.YtgcnolapjppbpaaGreatDoor
open Go.RowKit
set_option maxRecDepth 100000
def TakeW (w : World) (r k : Nat) : World := ((w.alloc (.cells #[.pointer (some ⟨r, 0, none⟩)] 235)).alloc (.cells #[.nilIface] 49)).alloc (.cells #[.int .i64 (k : Int)] 3)
theorem idle_calls (p q s : Addr) (w : World) :
    CallsD Tryz.prog 189 #[.pointer (some p), .pointer (some q), .pointer (some s)] .returning w fun e u' w' => e = .returned (.tuple #[]) ∧ u' = .returning ∧ w' = w := by
  refine callsD_of_wpS Tryz.func189 rfl fun c₀ cs hu => ?_
  apply wpS_seq
  apply wpS_region
  simp [wpOpsS, go_sem, recoverD, hu, Tryz.ntmps189, Exit.thenS]
  apply wpS_seq
  apply wpS_region
  simp [wpOpsS, go_sem, Exit.thenS]
  refine wpS_cond (t := false) (by simp [Act.eval, Array.replicate]) ?_
  simp only [Bool.false_eq_true, if_false]
  refine wpS_of_wp (wp_skip ?_)
  cases c₀
  simp_all [bodyPostS, results, Tryz.results189]
theorem ta_err (v : Value) (w : World) : (Instr.typeAssert (.iface 91 v) 20 91 true).run Tryz.prog w = .ok (.tuple #[v, .bool true]) w := by kernel_rfl
theorem catch_calls (p q s : Addr) (n k : Int) (r : Nat) (x y : Value) (older : List PanicEntry) (w : World) (hp : w.cell? p = some (.int .i64 k)) (hq : w.cell? q = some (.pointer (some ⟨r, 0, none⟩)))
    (c1 : w.cell? ⟨r, 1, none⟩ = some x) (f1 : w.frozen? ⟨r, 1, none⟩ = false) (hs : (w.setCell ⟨r, 1, none⟩ (.int .i64 k)).cell? s = some y) (fs : (w.setCell ⟨r, 1, none⟩ (.int .i64 k)).frozen? s = false) :
    CallsD Tryz.prog 189 #[.pointer (some p), .pointer (some q), .pointer (some s)] (.panicking ({ v := .iface 91 (.int .i64 n), recovered := false } :: older)) w fun e u' w' =>
      e = .returned (.tuple #[]) ∧ u' = .panicking ({ v := .iface 91 (.int .i64 n), recovered := true } :: older) ∧ w' = (w.setCell ⟨r, 1, none⟩ (.int .i64 k)).setCell s (.iface 91 (.int .i64 n)) := by
  have ht := fun w => ta_err (.int .i64 n) w
  refine callsD_of_wpS Tryz.func189 rfl fun c₀ cs hu => ?_
  apply wpS_seq
  apply wpS_region
  simp [wpOpsS, go_sem, recoverD, hu, Tryz.ntmps189, Exit.thenS]
  apply wpS_seq
  apply wpS_region
  simp [wpOpsS, go_sem, Exit.thenS]
  refine wpS_cond (t := true) (by simp [Act.eval, Array.replicate]) ?_
  simp only [if_true]
  refine wpS_of_wp ?_
  simp only [Array.replicate, List.replicate]
  go_wp2_with fail
  simp [bodyPostS, results, Tryz.results189]
set_option maxHeartbeats 1600000 in
theorem take_number (r k : Nat) (v : Value) (l : List UInt8) (p q : Addr) (w : World) (h : IsR w r v l k) (A : World → Prop) (B : Int → World → Prop) (F : Nat → Prop) (hF : ∀ i, F i → i < w.heap.size)
    (hc : Calls Tryz.prog 181 #[.pointer (some p), .pointer (some q)] (TakeW w r k) fun e w' => Mod F (TakeW w r k) w' ∧ ((e = .returned (.tuple #[]) ∧ A w') ∨ ∃ n, e = pan n ∧ B n w' ∧ ∃ j, IsR w' r v l j)) :
    Calls Tryz.prog 178 #[.pointer (some ⟨r, 0, none⟩), .func (.func 181) #[] #[.pointer (some p), .pointer (some q)]] w fun e w' =>
      (e = .returned .nilIface ∧ ∃ w1, A w1 ∧ Mod F (TakeW w r k) w1 ∧ w' = w1.setCell ⟨w.heap.size + 1, 0, none⟩ .nilIface) ∨
      ∃ n, e = .returned (.iface 91 (.int .i64 n)) ∧ ∃ w1, B n w1 ∧ Mod F (TakeW w r k) w1 ∧ (∃ j, IsR w1 r v l j) ∧ w' = (w1.setCell ⟨r, 1, none⟩ (.int .i64 (k : Int))).setCell ⟨w.heap.size + 1, 0, none⟩ (.iface 91 (.int .i64 n)) := by
  have hmf : ∀ (fn : Fn) (first cap : Array Value) (w : World), (Instr.makeFunc fn first cap).run Tryz.prog w = .ok (.func fn first cap) w := fun _ _ _ _ => rfl
  have hbx0 : Box (TakeW w r k) w.heap.size #[.pointer (some ⟨r, 0, none⟩)] 235 := ((Box.new w #[.pointer (some ⟨r, 0, none⟩)] _).below (below_alloc _ _)).below (below_alloc _ _)
  have hbx1 : Box (TakeW w r k) (w.heap.size + 1) #[.nilIface] 49 := by
    have := (Box.new (w.alloc (.cells #[.pointer (some ⟨r, 0, none⟩)] 235)) #[.nilIface] 49).below (below_alloc _ (.cells #[.int .i64 (k : Int)] 3))
    rw [World.size_alloc] at this; exact this
  have hbx2 : Box (TakeW w r k) (w.heap.size + 2) #[.int .i64 (k : Int)] 3 := by
    have := Box.new ((w.alloc (.cells #[.pointer (some ⟨r, 0, none⟩)] 235)).alloc (.cells #[.nilIface] 49)) #[.int .i64 (k : Int)] 3
    rw [World.size_alloc, World.size_alloc] at this; exact this
  have hal : ∀ o o2, ((w.alloc o).alloc o2).cell? ⟨r, 1, none⟩ = some (.int .i64 (k : Int)) := fun o o2 => ((h.box.below (below_alloc _ _)).below (below_alloc _ _)).cell 1 _ rfl
  have HC := Lib.hid hc
  have HX0 := Lib.hid hbx0
  have HX1 := Lib.hid hbx1
  have HX2 := Lib.hid hbx2
  have HLE := Lib.hid h.le
  have hrl := h.box.lt
  clear hc h hbx0 hbx1 hbx2
  go_enter_defers Tryz.func178, Tryz.ntmps178
  go_wp2_with fail
  refine HC.out.mono ?_
  rintro e w1 ⟨hm, hcase⟩
  have HM := Lib.hid hm
  have hx0 := HX0.out.mod hm (fun hf => by have := hF _ hf; omega)
  have hx1 := HX1.out.mod hm (fun hf => by have := hF _ hf; omega)
  have hx2 := HX2.out.mod hm (fun hf => by have := hF _ hf; omega)
  rcases hcase with ⟨rfl, hA⟩ | ⟨n, rfl, hB, j, hj⟩
  · have HA := Lib.hid hA
    have d0 := hx1.cell 0 _ rfl
    have d1 := hx1.free 0
    have d2 := (hx1.set 0 .nilIface).cell 0 _ rfl
    clear hA hm hx0 hx1 hx2 hal
    go_wp2_with fail
    refine leaves_cons (f := 189) (args := #[.pointer (some ⟨w.heap.size + 1 + 1, 0, none⟩), .pointer (some ⟨w.heap.size, 0, none⟩), .pointer (some ⟨w.heap.size + 1, 0, none⟩)]) (by simp) (by simp [go_sem]) ?_
    refine (idle_calls _ _ _ _).mono ?_
    rintro e u' w'' ⟨rfl, rfl, rfl⟩
    refine ⟨_, ?_, .inl ⟨rfl, w1, HA.out, HM.out, rfl⟩⟩
    simp [results, Tryz.results178, go_sem, d2]
  · have HB := Lib.hid hB
    have c0 := hx2.cell 0 _ rfl
    have c1 := hx0.cell 0 _ rfl
    have c2 := hj.box.cell 1 _ rfl
    have c3 := hj.box.free 1
    have hx3 : Box (w1.setCell ⟨r, 1, none⟩ (.int .i64 (k : Int))) (w.heap.size + 1) #[.nilIface] 49 := hx1.set_other (by show r ≠ w.heap.size + 1; omega) _
    have c4 := hx3.cell 0 _ rfl
    have c5 := hx3.free 0
    have d2 := (hx3.set 0 (.iface 91 (.int .i64 n))).cell 0 _ rfl
    have HJ := Lib.hid (show ∃ j, IsR w1 r v l j from ⟨j, hj⟩)
    clear hB hm hx0 hx1 hx2 hal hj
    unfold pan
    go_wp2_with fail
    refine leaves_cons (f := 189) (args := #[.pointer (some ⟨w.heap.size + 1 + 1, 0, none⟩), .pointer (some ⟨w.heap.size, 0, none⟩), .pointer (some ⟨w.heap.size + 1, 0, none⟩)]) (by simp) (by simp [go_sem]) ?_
    refine (catch_calls _ _ _ n (k : Int) r _ _ [] _ c0 c1 c2 c3 c4 c5).mono ?_
    rintro e u' w'' ⟨rfl, rfl, rfl⟩
    refine ⟨_, ?_, .inr ⟨n, rfl, w1, HB.out, HM.out, HJ.out, rfl⟩⟩
    simp [results, Tryz.results178, go_sem, d2]
set_option maxHeartbeats 1600000 in
theorem take_text (r k : Nat) (v : Value) (l : List UInt8) (p q s : Addr) (w : World) (h : IsR w r v l k) (A : World → Prop) (B : Int → World → Prop) (F : Nat → Prop) (hF : ∀ i, F i → i < w.heap.size)
    (hc : Calls Tryz.prog 179 #[.pointer (some p), .pointer (some q), .pointer (some s)] (TakeW w r k) fun e w' => Mod F (TakeW w r k) w' ∧ ((e = .returned (.tuple #[]) ∧ A w') ∨ ∃ n, e = pan n ∧ B n w' ∧ ∃ j, IsR w' r v l j)) :
    Calls Tryz.prog 178 #[.pointer (some ⟨r, 0, none⟩), .func (.func 179) #[] #[.pointer (some p), .pointer (some q), .pointer (some s)]] w fun e w' =>
      (e = .returned .nilIface ∧ ∃ w1, A w1 ∧ Mod F (TakeW w r k) w1 ∧ w' = w1.setCell ⟨w.heap.size + 1, 0, none⟩ .nilIface) ∨
      ∃ n, e = .returned (.iface 91 (.int .i64 n)) ∧ ∃ w1, B n w1 ∧ Mod F (TakeW w r k) w1 ∧ (∃ j, IsR w1 r v l j) ∧ w' = (w1.setCell ⟨r, 1, none⟩ (.int .i64 (k : Int))).setCell ⟨w.heap.size + 1, 0, none⟩ (.iface 91 (.int .i64 n)) := by
  have hmf : ∀ (fn : Fn) (first cap : Array Value) (w : World), (Instr.makeFunc fn first cap).run Tryz.prog w = .ok (.func fn first cap) w := fun _ _ _ _ => rfl
  have hbx0 : Box (TakeW w r k) w.heap.size #[.pointer (some ⟨r, 0, none⟩)] 235 := ((Box.new w #[.pointer (some ⟨r, 0, none⟩)] _).below (below_alloc _ _)).below (below_alloc _ _)
  have hbx1 : Box (TakeW w r k) (w.heap.size + 1) #[.nilIface] 49 := by
    have := (Box.new (w.alloc (.cells #[.pointer (some ⟨r, 0, none⟩)] 235)) #[.nilIface] 49).below (below_alloc _ (.cells #[.int .i64 (k : Int)] 3))
    rw [World.size_alloc] at this; exact this
  have hbx2 : Box (TakeW w r k) (w.heap.size + 2) #[.int .i64 (k : Int)] 3 := by
    have := Box.new ((w.alloc (.cells #[.pointer (some ⟨r, 0, none⟩)] 235)).alloc (.cells #[.nilIface] 49)) #[.int .i64 (k : Int)] 3
    rw [World.size_alloc, World.size_alloc] at this; exact this
  have hal : ∀ o o2, ((w.alloc o).alloc o2).cell? ⟨r, 1, none⟩ = some (.int .i64 (k : Int)) := fun o o2 => ((h.box.below (below_alloc _ _)).below (below_alloc _ _)).cell 1 _ rfl
  have HC := Lib.hid hc
  have HX0 := Lib.hid hbx0
  have HX1 := Lib.hid hbx1
  have HX2 := Lib.hid hbx2
  have HLE := Lib.hid h.le
  have hrl := h.box.lt
  clear hc h hbx0 hbx1 hbx2
  go_enter_defers Tryz.func178, Tryz.ntmps178
  go_wp2_with fail
  refine HC.out.mono ?_
  rintro e w1 ⟨hm, hcase⟩
  have HM := Lib.hid hm
  have hx0 := HX0.out.mod hm (fun hf => by have := hF _ hf; omega)
  have hx1 := HX1.out.mod hm (fun hf => by have := hF _ hf; omega)
  have hx2 := HX2.out.mod hm (fun hf => by have := hF _ hf; omega)
  rcases hcase with ⟨rfl, hA⟩ | ⟨n, rfl, hB, j, hj⟩
  · have HA := Lib.hid hA
    have d0 := hx1.cell 0 _ rfl
    have d1 := hx1.free 0
    have d2 := (hx1.set 0 .nilIface).cell 0 _ rfl
    clear hA hm hx0 hx1 hx2 hal
    go_wp2_with fail
    refine leaves_cons (f := 189) (args := #[.pointer (some ⟨w.heap.size + 1 + 1, 0, none⟩), .pointer (some ⟨w.heap.size, 0, none⟩), .pointer (some ⟨w.heap.size + 1, 0, none⟩)]) (by simp) (by simp [go_sem]) ?_
    refine (idle_calls _ _ _ _).mono ?_
    rintro e u' w'' ⟨rfl, rfl, rfl⟩
    refine ⟨_, ?_, .inl ⟨rfl, w1, HA.out, HM.out, rfl⟩⟩
    simp [results, Tryz.results178, go_sem, d2]
  · have HB := Lib.hid hB
    have c0 := hx2.cell 0 _ rfl
    have c1 := hx0.cell 0 _ rfl
    have c2 := hj.box.cell 1 _ rfl
    have c3 := hj.box.free 1
    have hx3 : Box (w1.setCell ⟨r, 1, none⟩ (.int .i64 (k : Int))) (w.heap.size + 1) #[.nilIface] 49 := hx1.set_other (by show r ≠ w.heap.size + 1; omega) _
    have c4 := hx3.cell 0 _ rfl
    have c5 := hx3.free 0
    have d2 := (hx3.set 0 (.iface 91 (.int .i64 n))).cell 0 _ rfl
    have HJ := Lib.hid (show ∃ j, IsR w1 r v l j from ⟨j, hj⟩)
    clear hB hm hx0 hx1 hx2 hal hj
    unfold pan
    go_wp2_with fail
    refine leaves_cons (f := 189) (args := #[.pointer (some ⟨w.heap.size + 1 + 1, 0, none⟩), .pointer (some ⟨w.heap.size, 0, none⟩), .pointer (some ⟨w.heap.size + 1, 0, none⟩)]) (by simp) (by simp [go_sem]) ?_
    refine (catch_calls _ _ _ n (k : Int) r _ _ [] _ c0 c1 c2 c3 c4 c5).mono ?_
    rintro e u' w'' ⟨rfl, rfl, rfl⟩
    refine ⟨_, ?_, .inr ⟨n, rfl, w1, HB.out, HM.out, HJ.out, rfl⟩⟩
    simp [results, Tryz.results178, go_sem, d2]
end Go.Proofs.YtgcnolapjppbpaaGreatDoor
