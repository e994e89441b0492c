/-
  Numbers in sevens: what they are; the document's Sevens, Text.
-/
import Derived.Test.YtdaimaibnjkfbaaDoorStrS
import Derived.Test.YtdaimaibnjkfbaaDoorApartM
namespace Go.Proofs.YtdaimaibnjkfbaaDoor
open Go.RowKit
set_option maxRecDepth 100000

/-- 'append(p, x..)' of bytes that are read somewhere. -/
theorem appMR {w : World} {ops : Array Oper} {rest : List Oper} {o : Oper} {a : Act} {Q : Exit → Act → World → Prop} (hgd : o.guard = none) (s x : Operand)
    (ho : o.op = .call { callee := .builtin .append, args := #[s, x], argTypes := #[34, 34] })
    (base : Nat) (v : Value) (n : Nat) (xs : List Value) (hs : a.eval s = v) (hown : OwnM w base 5 v n xs)
    (src : Value) (l : List UInt8) (hx : a.eval x = src) (hsrc : Rd w src l.length (l.map V8))
    (hroom : n + l.length ≤ 140737488355328) (hbase : base ≤ w.heap.size)
    (h : ∀ v' w', OwnM w' base 5 v' (n + l.length) (xs ++ l.map V8) → w.grownBy w' v.ownBlock → Moved w v v' → wpList Tryd.prog ops Q rest (a.put o.dst v') w') : wpList Tryd.prog ops Q (o :: rest) a w := by
  obtain ⟨i0, hi, hz0, hz1, hz2⟩ := info_parts info_u8
  refine wpList_plain hgd fun _ hK => ?_
  obtain ⟨v', w', hr, h2, h3, h4, _⟩ := run_append_M (P := Tryd.prog) w base 34 34 o.type 5 _ i0 (.int .u8 0) 1 Tryd.underlying34 Tryd.underlying34 (.inl ⟨_, rfl⟩) hi hz0 hz1 hz2 rfl v n xs hown
    src l.length (l.map V8) (by simp) (fun w => by obtain ⟨ad, cap, rfl, _⟩ := hsrc; simp [Builtin.lenOf]) (fun wd hw => by
      obtain ⟨ad, cap, rfl, hmc, _, hnil, hcell⟩ := hsrc
      cases ad with
      | some ad =>
        refine run_firstCells_some (P := Tryd.prog) wd 1 l.length ad l.length cap (l.map V8) (by simp) (fun j u hj => ?_)
        have hjl : j < (l.map V8).length := (List.getElem?_eq_some_iff.1 hj).1
        obtain ⟨b, off, e1, e2⟩ := hcell j hjl
        injection e1 with e1; subst e1
        rw [hw, Go.WideShapes.add_plain, e2, List.getD, hj]; rfl
      | none =>
        have hc0 := hnil rfl
        have hl0 : l = [] := List.eq_nil_of_length_eq_zero (by omega)
        subst hl0
        have hc1 : cap = 0 := hnil rfl
        subst hc1
        exact run_firstCells_none ..) (by
      intro u hu
      obtain ⟨c, _, rfl⟩ := List.mem_map.1 hu
      simp [V8, Value.oneCell']) (by unfold maxLen; omega) (by omega) hbase
  unfold Oper.wp execOp
  simp only [ho, resolve, invoke, builtin, Sem.run_bind, Sem.run_pure, Result.andThen_ok, List.map_toArray, List.map_cons, List.map_nil, hs, hx, hr]
  exact hK _ _ (h v' w' h2 h3 h4)
/-- A number in sevens, of at most k bytes. -/
def sevF : Nat → Nat → List UInt8
  | 0, _ => []
  | k + 1, n => if n < 128 then [UInt8.ofNat n] else UInt8.ofNat (n % 128 + 128) :: sevF k (n / 128)
def sevM (n : Nat) : List UInt8 := sevF 10 n
theorem sevF_len (k n : Nat) : (sevF k n).length ≤ k := by
  induction k generalizing n with
  | zero => simp [sevF]
  | succ k ih => rw [sevF]; split
                 · simp
                 · have := ih (n / 128); simp only [List.length_cons]; omega
theorem sevM_len (n : Nat) : (sevM n).length ≤ 10 := sevF_len 10 n
theorem v8_nat (n : Nat) (h : n < 256) : V8 (UInt8.ofNat n) = .int .u8 (n : Int) := by
  unfold V8
  have : (UInt8.ofNat n).toNat = n % 256 := rfl
  rw [this, Nat.mod_eq_of_lt h]
theorem u64_and (n : Nat) (h : n < 2 ^ 64) : bits .and .u64 (n : Int) 127 = ((n % 128 : Nat) : Int) := by
  show IntKind.u64.wrap ((BitVec.ofInt 64 (n : Int) &&& BitVec.ofInt 64 127).toNat : Int) = _
  rw [BitVec.toNat_and, BitVec.toNat_ofInt, BitVec.toNat_ofInt]
  have e1 : ((n : Int) % ((2 ^ 64 : Nat) : Int)).toNat = n := by omega
  have e2 : ((127 : Int) % ((2 ^ 64 : Nat) : Int)).toNat = 2 ^ 7 - 1 := by decide
  rw [e1, e2, Nat.and_two_pow_sub_one_eq_mod]
  have : n % 2 ^ 7 < 128 := Nat.mod_lt _ (by decide)
  simp [IntKind.wrap, IntKind.bits, IntKind.signed]; omega
theorem u8_or (n : Nat) (h : n < 128) : bits .or .u8 (n : Int) 128 = ((n + 128 : Nat) : Int) := by
  have : ∀ n : Nat, n < 128 → bits .or .u8 (n : Int) 128 = ((n + 128 : Nat) : Int) := by decide +kernel
  exact this n h
theorem u8_or2 (n : Nat) (h : n < 256) : bits .or .u8 (n : Int) 128 = ((n % 128 + 128 : Nat) : Int) := by
  have : ∀ n : Nat, n < 256 → bits .or .u8 (n : Int) 128 = ((n % 128 + 128 : Nat) : Int) := by decide +kernel
  exact this n h
set_option maxHeartbeats 1600000 in
theorem refSevens_calls (n : Nat) (w : World) (hn : n < 2 ^ 64) :
    Calls Tryd.prog 57 #[.int .u64 (n : Int)] w fun e w' => ∃ o, e = .returned o ∧ OwnM w' w.heap.size 5 o (sevM n).length ((sevM n).map V8) ∧ Below w.heap.size w w' := by
  go_enter Tryd.func57, Tryd.ntmps57
  go_wp2_with fail
  go_loopg [0, 3, 4] 10 (fun gk vv o iv wr => ∃ (i v : Nat) (l : List UInt8), gk + i = 10 ∧ vv = .int .u64 (v : Int) ∧ iv = .int .i64 (i : Int) ∧ v < 2 ^ (70 - 7 * i) ∧ v < 2 ^ 64 ∧ OwnM wr w.heap.size 5 o l.length (l.map V8) ∧ l ++ (if i = 0 ∨ 0 < v then sevF (10 - i) v else []) = sevM n ∧ Below w.heap.size w wr)
  case atStart => exact ⟨0, n, [], rfl, rfl, rfl, by omega, hn, OwnM.nil _ _ _, by simp [sevM], Below.refl _ _⟩
  case round =>
    obtain ⟨i, v, l, hgk, rfl, rfl, hv, hv64, hown, hl, hb⟩ := hrel
    by_cases hc : i < 10 ∧ (i = 0 ∨ 0 < v)
    · obtain ⟨h1, h2⟩ := hc
      obtain ⟨m, hm⟩ : ∃ m, m = v % 128 := ⟨_, rfl⟩
      obtain ⟨q, hq⟩ : ∃ q, q = v / 128 := ⟨_, rfl⟩
      have hand := u64_and v hv64
      rw [← hm] at hand
      have hm1 : m < 128 := by omega
      have f1 : (i : Int) < 10 := by omega
      have f0 : (0 : Int) ≤ (i : Int) := by omega
      have hs := hb.size
      rw [if_pos h2, show 10 - i = (9 - i) + 1 by omega] at hl
      unfold sevF at hl
      have hshr : (v : Int) / 128 = (q : Int) := by omega
      have HG := Lib.hid hgk
      have HI := Lib.hid h1
      have HQ2 := Lib.hid (show q < 2 ^ 64 by omega)
      have HQ := Lib.hid (show q < 2 ^ (70 - 7 * (i + 1)) from by
        have e : 2 ^ (70 - 7 * i) = 2 ^ (70 - 7 * (i + 1)) * 128 := by rw [show 70 - 7 * i = (70 - 7 * (i + 1)) + 7 by omega, Nat.pow_add]
        rw [e] at hv
        rw [hq]; exact Nat.div_lt_of_lt_mul (by rw [Nat.mul_comm]; exact hv))
      have HL := Lib.hid (show l.length + 1 ≤ 140737488355328 from by
        have h5 : (l ++ (if v < 128 then [UInt8.ofNat v] else UInt8.ofNat (v % 128 + 128) :: sevF (9 - i) (v / 128))).length = (sevM n).length := by rw [hl]
        have := sevM_len n
        rw [List.length_append] at h5; omega)
      by_cases hq0 : 0 < q
      · have HT := Lib.hid (show (l ++ [UInt8.ofNat (m + 128)]) ++ (if i + 1 = 0 ∨ 0 < q then sevF (10 - (i + 1)) q else []) = sevM n from by
          rw [if_neg (by omega)] at hl
          rw [if_pos (.inr hq0), ← hl, hm, hq, List.append_assoc, show 10 - (i + 1) = 9 - i by omega]; rfl)
        have hor := u8_or m hm1
        have HV8 := Lib.hid (v8_nat (m + 128) (by omega))
        obtain ⟨k, hk⟩ : ∃ k, k = m + 128 := ⟨_, rfl⟩
        rw [← hk] at HT hor HV8
        have g1 : (0 : Int) < (q : Int) := by omega
        clear hl hk
        by_cases hi0 : i = 0
        · have f2 : ((i : Int) == 0) = true := by simp; omega
          clear hi0 h2 hgk hv hv64 hm hq h1
          go_wp2_with (at_builtin; refine appM1 rfl _ _ rfl w.heap.size _ _ _ rfl (hown.below (below_alloc wr _)) ⟨wr.heap.size, 0, none⟩ 1 (.int .u8 ((k : Int) : Int)) rfl (by exact cell_one_new _ _ _ 0 _ rfl) (by simp [Value.oneCell']) (by have := HL.out; omega) (by simp; omega) ?_)
          intro v' w1 hown' hg' _ _
          have hb' := hb.trans ((below_alloc wr (.cells #[.int .u8 ((k : Int) : Int)] 5)).mono hs)
          have HB1 := Lib.hid (hb'.trans (below_grown hg' (by simp; omega) (fun q hq => (hown.lt q hq).1)))
          have HO1 := Lib.hid hown'
          clear hb' hg' hown' hown hb
          go_wp2_with fail
          go_roundg (10 - (i + 1))
          case measure => have := HG.out; have := HI.out; omega
          case rel => exact ⟨i + 1, q, l ++ [UInt8.ofNat k], by have := HG.out; have := HI.out; omega, by go_num, by go_num, HQ.out, HQ2.out, by rw [List.length_append, List.map_append, List.length_singleton, List.map_singleton, HV8.out]; exact HO1.out, HT.out, HB1.out⟩
        · have f2 : ((i : Int) == 0) = false := by simp; omega
          have f3 : (0 : Int) < (v : Int) := by omega
          clear hi0 h2 hgk hv hv64 hm hq h1
          go_wp2_with (at_builtin; refine appM1 rfl _ _ rfl w.heap.size _ _ _ rfl (hown.below (below_alloc wr _)) ⟨wr.heap.size, 0, none⟩ 1 (.int .u8 ((k : Int) : Int)) rfl (by exact cell_one_new _ _ _ 0 _ rfl) (by simp [Value.oneCell']) (by have := HL.out; omega) (by simp; omega) ?_)
          intro v' w1 hown' hg' _ _
          have hb' := hb.trans ((below_alloc wr (.cells #[.int .u8 ((k : Int) : Int)] 5)).mono hs)
          have HB1 := Lib.hid (hb'.trans (below_grown hg' (by simp; omega) (fun q hq => (hown.lt q hq).1)))
          have HO1 := Lib.hid hown'
          clear hb' hg' hown' hown hb
          go_wp2_with fail
          go_roundg (10 - (i + 1))
          case measure => have := HG.out; have := HI.out; omega
          case rel => exact ⟨i + 1, q, l ++ [UInt8.ofNat k], by have := HG.out; have := HI.out; omega, by go_num, by go_num, HQ.out, HQ2.out, by rw [List.length_append, List.map_append, List.length_singleton, List.map_singleton, HV8.out]; exact HO1.out, HT.out, HB1.out⟩
      · have hmv : m = v := by omega
        have HT := Lib.hid (show (l ++ [UInt8.ofNat m]) ++ (if i + 1 = 0 ∨ 0 < q then sevF (10 - (i + 1)) q else []) = sevM n from by
          rw [if_pos (by omega)] at hl
          rw [if_neg (by omega), ← hl, hmv, List.append_nil])
        have HV8 := Lib.hid (v8_nat m (by omega))
        have g1 : ¬ (0 : Int) < (q : Int) := by omega
        clear hl hmv
        by_cases hi0 : i = 0
        · have f2 : ((i : Int) == 0) = true := by simp; omega
          clear hi0 h2 hgk hv hv64 hm hq h1
          go_wp2_with (at_builtin; refine appM1 rfl _ _ rfl w.heap.size _ _ _ rfl (hown.below (below_alloc wr _)) ⟨wr.heap.size, 0, none⟩ 1 (.int .u8 ((m : Int) : Int)) rfl (by exact cell_one_new _ _ _ 0 _ rfl) (by simp [Value.oneCell']) (by have := HL.out; omega) (by simp; omega) ?_)
          intro v' w1 hown' hg' _ _
          have hb' := hb.trans ((below_alloc wr (.cells #[.int .u8 ((m : Int) : Int)] 5)).mono hs)
          have HB1 := Lib.hid (hb'.trans (below_grown hg' (by simp; omega) (fun q hq => (hown.lt q hq).1)))
          have HO1 := Lib.hid hown'
          clear hb' hg' hown' hown hb
          go_wp2_with fail
          go_roundg (10 - (i + 1))
          case measure => have := HG.out; have := HI.out; omega
          case rel => exact ⟨i + 1, q, l ++ [UInt8.ofNat m], by have := HG.out; have := HI.out; omega, by go_num, by go_num, HQ.out, HQ2.out, by rw [List.length_append, List.map_append, List.length_singleton, List.map_singleton, HV8.out]; exact HO1.out, HT.out, HB1.out⟩
        · have f2 : ((i : Int) == 0) = false := by simp; omega
          have f3 : (0 : Int) < (v : Int) := by omega
          clear hi0 h2 hgk hv hv64 hm hq h1
          go_wp2_with (at_builtin; refine appM1 rfl _ _ rfl w.heap.size _ _ _ rfl (hown.below (below_alloc wr _)) ⟨wr.heap.size, 0, none⟩ 1 (.int .u8 ((m : Int) : Int)) rfl (by exact cell_one_new _ _ _ 0 _ rfl) (by simp [Value.oneCell']) (by have := HL.out; omega) (by simp; omega) ?_)
          intro v' w1 hown' hg' _ _
          have hb' := hb.trans ((below_alloc wr (.cells #[.int .u8 ((m : Int) : Int)] 5)).mono hs)
          have HB1 := Lib.hid (hb'.trans (below_grown hg' (by simp; omega) (fun q hq => (hown.lt q hq).1)))
          have HO1 := Lib.hid hown'
          clear hb' hg' hown' hown hb
          go_wp2_with fail
          go_roundg (10 - (i + 1))
          case measure => have := HG.out; have := HI.out; omega
          case rel => exact ⟨i + 1, q, l ++ [UInt8.ofNat m], by have := HG.out; have := HI.out; omega, by go_num, by go_num, HQ.out, HQ2.out, by rw [List.length_append, List.map_append, List.length_singleton, List.map_singleton, HV8.out]; exact HO1.out, HT.out, HB1.out⟩
    · have e1 : l = sevM n := by
        rw [← hl]
        by_cases h2 : i = 0 ∨ 0 < v
        · have h3 : 10 ≤ i := by omega
          have h4 : i = 10 := by omega
          rw [h4] at hv ⊢
          have h5 : v = 0 := by omega
          rw [if_neg (by omega), List.append_nil]
        · rw [if_neg h2, List.append_nil]
      subst e1
      by_cases hi : i < 10
      · have f1 : (i : Int) < 10 := by omega
        have f2 : ((i : Int) == 0) = false := by simp; omega
        have f3 : ¬ (0 : Int) < (v : Int) := by omega
        clear hc hl hv hv64 hgk
        go_wp2_with fail
        go_ret
        exact ⟨_, rfl, hown, hb⟩
      · have f1 : ¬ (i : Int) < 10 := by omega
        clear hc hl hv hv64 hgk
        go_wp2_with fail
        go_ret
        exact ⟨_, rfl, hown, hb⟩
end Go.Proofs.YtdaimaibnjkfbaaDoor
