/-
  The walks of lineageref12: number, Blocks.
-/
import Derived.Test.YtefegebnohenaaaDoorFrame
import Derived.Test.YtefegebnohenaaaDoorSame
namespace Go.Proofs.YtefegebnohenaaaDoor
set_option maxRecDepth 100000
open Go.RowKit

theorem minI {P : Program} (x y z : Int) (h : z = min x y) (ts : Array TypeId) (t : TypeId) (w : World) : (Builtin.min_ ts t #[.int .i64 x, .int .i64 y]).run P w = .ok (.int .i64 z) w := by
  rw [run_min_int2, h]
  have : (if y < x then y else x) = min x y := by split <;> omega
  rw [this]
/-- 's[k:m]'. -/
def midV (a : Option Addr) (cap k m : Nat) : Value := .slice (if cap = k then a else a.map (·.add k)) (m - k) (cap - k)
theorem run_mid {P : Program} {t e : TypeId} (ht : P.underlying t = some (.slice e)) (hs : (P.info? e).map (·.size) = some 1) (a : Option Addr) (n cap k m : Nat) (hk : k ≤ m) (hm : m ≤ cap) (w : World) :
    (Instr.slice t (.slice a n cap) (some (.int .i64 (k : Int))) (some (.int .i64 (m : Int))) none).run P w = .ok (midV a cap k m) w := by
  have hx : P.elem t = e := by unfold Program.elem; rw [ht]
  have hsz : (sizeOf e).run P w = .ok 1 w := by
    cases hi : P.info? e with
    | none => rw [hi] at hs; cases hs
    | some i =>
      rw [hi] at hs
      simp only [Option.map_some, Option.some.injEq] at hs
      simp [sizeOf, typeInfo, hi, hs]
  rw [run_slice_lh w t a n cap (by rw [hx]; exact ht) .i64 .i64 (k : Int) (m : Int) (by omega) (by omega) (by omega), hx, hsz]
  simp [Result.andThen, sliced, midV]
theorem midV_rd {w : World} {a : Option Addr} {n cap k m : Nat} {xs : List Value} (h : Rd w (.slice a n cap) n xs) (hk : k ≤ m) (hm : m ≤ n) : Rd w (midV a cap k m) (m - k) ((xs.take m).drop k) := by
  have h1 := h.cut (m := m) (by obtain ⟨_, _, e, h1, _⟩ := h; injection e with _ _ e; subst e; omega) m
  have h2 := tailV_rd (k := k) h1 hk (by rw [List.length_take]; omega)
  exact h2
theorem midV_shape (a : Option Addr) (cap k m : Nat) : ∃ a' c', midV a cap k m = .slice a' (m - k) c' := ⟨_, _, rfl⟩
theorem own_lit_bytes (w : World) (cs : Array Value) (l : List UInt8) (h : cs.toList = l.map V8) (hl : l.length ≤ 9223372036854775807) : (w.alloc (.cells cs 5)).ownsRow w.heap.size 5 1 (.slice (some ⟨w.heap.size, 0, none⟩) l.length l.length) l.length (l.map V8) := by
  have hs : cs.size = l.length := by rw [← Array.length_toList, h, List.length_map]
  refine ⟨by simp, .inr ⟨w.heap.size, l.length, cs, rfl, Nat.le_refl _, heap_alloc_new w _, Nat.le_refl _, by unfold maxLen; omega, by omega, ?_⟩⟩
  rw [h, Nat.mul_one, List.take_of_length_le (by simp)]
theorem pow_256 (m k : Nat) : (m : Int) / 2 ^ (8 * k) = ((m / 256 ^ k : Nat) : Int) := by
  have h : (2 : Nat) ^ (8 * k) = 256 ^ k := by rw [Nat.pow_mul]
  have h2 : ((2 : Int) ^ (8 * k)) = ((256 ^ k : Nat) : Int) := by rw [← h]; simp
  rw [h2]; simp
set_option maxHeartbeats 400000 in
theorem refNumber_calls (m n : Nat) (w : World) (hn : n ≤ 4) :
    Calls Tryd.prog 36 #[.int .u64 (m : Int), .int .i64 (n : Int)] w fun e w' => ∃ v', e = .returned v' ∧ w'.ownsRow w.heap.size 5 1 v' n ((le m n).map V8) ∧ Below w.heap.size w w' := by
  go_enter Tryd.func36, Tryd.ntmps36
  go_wp2_with fail
  go_loopw [5, 6] (fun v i wr => ∃ k : Nat, k ≤ n ∧ i = .int .i64 k ∧ wr.ownsRow w.heap.size 5 1 v k ((le m k).map V8) ∧ Below w.heap.size w wr) (fun _ i _ => n - (intOf i).toNat)
  case atStart => exact ⟨0, by omega, rfl, World.ownsRow_nil _ _ _ _, Below.refl _ _⟩
  case round =>
    obtain ⟨k, hk, rfl, hown, hb⟩ := hrel
    obtain ⟨va, vc, rfl, _⟩ := own_slice hown
    by_cases hlt : k < n
    · have hk0 : (0 : Int) ≤ (k : Int) := by omega
      obtain ⟨c, hc⟩ : ∃ c, c = UInt8.ofNat (m / 256 ^ k) := ⟨_, rfl⟩
      have hcv : ∀ W : World, W.alloc (.cells #[.int .u8 ((m : Int) / 2 ^ (8 * k) % 256)] 5) = W.alloc (.cells #[V8 c] 5) := fun W => by
        rw [hc, V8_ofNat, pow_256]
      have HO := Lib.hid (own_below hown (below_alloc wr (.cells #[.int .u8 ((m : Int) / 2 ^ (8 * k) % 256)] 5)))
      have HSrc := Lib.hid (show Rd (wr.alloc (.cells #[.int .u8 ((m : Int) / 2 ^ (8 * k) % 256)] 5)) (.slice (some ⟨wr.heap.size, 0, none⟩) 1 1) [c].length ([c].map V8) by
        rw [hcv]; exact rd_lit wr #[V8 c] 5 [c] rfl (by show 1 ≤ _; decide))
      have HB := Lib.hid hb
      have Hs := Lib.hid (Nat.le_trans hb.size (below_alloc wr (.cells #[.int .u8 ((m : Int) / 2 ^ (8 * k) % 256)] 5)).size)
      have Hr := Lib.hid (show k + [c].length ≤ 140737488355328 by rw [List.length_singleton]; omega)
      have Hc := Lib.hid hc
      clear hown hb hcv hc
      go_wp2_with (at_builtin; refine appSB rfl _ _ rfl w.heap.size _ k ((le m k).map V8) rfl HO.out _ [c] rfl HSrc.out Hr.out Hs.out ?_)
      intro v' w1 ho1 hg1 _
      have hb1 := (HB.out.trans ((below_alloc wr (.cells #[.int .u8 ((m : Int) / 2 ^ (8 * k) % 256)] 5)).mono HB.out.size)).trans (below_grown hg1 Hs.out (fun q hq => (HO.out.lt q hq).1))
      have HN := Lib.hid (show w1.ownsRow w.heap.size 5 1 v' (k + 1) ((le m (k + 1)).map V8) ∧ Below w.heap.size w w1 from ⟨by rw [le_snoc, List.map_append, ← Hc.out]; exact ho1, hb1⟩)
      clear ho1 hg1 hb1 HO HSrc HB Hs Hr Hc
      go_wp2_with fail
      go_roundw
      case rel => exact ⟨k + 1, by omega, by go_num, HN.out⟩
      case measure => simp [intOf]; omega
    · obtain rfl : k = n := by omega
      have HN := Lib.hid (And.intro hown hb)
      clear hown hb
      go_wp2_with fail
      go_ret
      exact ⟨_, rfl, HN.out⟩
theorem copyB_calls (v : Value) (l : List UInt8) (w : World) (hv : Rd w v l.length (l.map V8)) (hn : l.length ≤ 140737488355000) :
    Calls Tryd.prog 37 #[v] w fun e w' => ∃ o, e = .returned o ∧ w'.ownsRow w.heap.size 5 1 o l.length (l.map V8) ∧ Below w.heap.size w w' := by
  obtain ⟨a, cap, rfl, hc1, hc2, _, hc⟩ := hv
  have Hc := Lib.hid hc
  clear hc
  go_enter Tryd.func37, Tryd.ntmps37
  go_wp2
  go_loopw [3, 4] (fun o i wr => ∃ k : Nat, k ≤ l.length ∧ i = .int .i64 k ∧ wr.ownsRow w.heap.size 5 1 o k ((l.take k).map V8) ∧ Below w.heap.size w wr) (fun _ i _ => l.length - (intOf i).toNat)
  case atStart => exact ⟨0, by omega, rfl, World.ownsRow_nil _ _ _ _, Below.refl _ _⟩
  case round =>
    obtain ⟨k, hk, rfl, hown, hb⟩ := hrel
    obtain ⟨oa, oc, rfl, _⟩ := own_slice hown
    by_cases hlt : k < l.length
    · obtain ⟨b, off, rfl, hcell'⟩ := Hc.out k (by simpa using hlt)
      obtain ⟨x, hx⟩ : ∃ x, x = l[k] := ⟨_, rfl⟩
      have hcell : wr.cell? ⟨b, off + k, none⟩ = some (.int .u8 (x.toNat : Int)) := below_heap hb (by rw [hcell', hx]; simp [hlt, V8])
      have HO := Lib.hid (own_below hown (below_alloc wr (.cells #[.int .u8 (x.toNat : Int)] 5)))
      have HSrc := Lib.hid (show Rd (wr.alloc (.cells #[.int .u8 (x.toNat : Int)] 5)) (.slice (some ⟨wr.heap.size, 0, none⟩) 1 1) [x].length ([x].map V8) from rd_lit wr #[V8 x] 5 [x] rfl (by show 1 ≤ _; decide))
      have HB := Lib.hid hb
      have Hs := Lib.hid (Nat.le_trans hb.size (below_alloc wr (.cells #[.int .u8 (x.toNat : Int)] 5)).size)
      have Hr := Lib.hid (show k + [x].length ≤ 140737488355328 by rw [List.length_singleton]; omega)
      have Hx := Lib.hid hx
      clear hown hb hx Hc hcell'
      go_wp2_with (at_builtin; refine appSB rfl _ _ rfl w.heap.size _ k ((l.take k).map V8) rfl HO.out _ [x] rfl HSrc.out Hr.out Hs.out ?_)
      intro v' w1 ho1 hg1 _
      have hb1 := (HB.out.trans ((below_alloc wr (.cells #[.int .u8 (x.toNat : Int)] 5)).mono HB.out.size)).trans (below_grown hg1 Hs.out (fun q hq => (HO.out.lt q hq).1))
      have HN := Lib.hid (show w1.ownsRow w.heap.size 5 1 v' (k + 1) ((l.take (k + 1)).map V8) ∧ Below w.heap.size w w1 from ⟨by rw [List.take_succ_eq_append_getElem hlt, List.map_append, ← Hx.out]; simpa using ho1, hb1⟩)
      clear ho1 hg1 hb1 HO HSrc HB Hs Hr Hx hcell
      go_wp2_with fail
      go_roundw
      case rel => exact ⟨k + 1, by omega, by go_num, HN.out⟩
      case measure => simp [intOf]; omega
    · obtain rfl : k = l.length := by omega
      rw [List.take_of_length_le (Nat.le_refl _)] at hown
      have HN := Lib.hid (And.intro hown hb)
      clear hown hb Hc
      go_wp2_with fail
      go_ret
      exact ⟨_, rfl, HN.out⟩
/-- A row, behind an append, by its list. -/
theorem own_joined {w : World} {b m n : Nat} {v : Value} {xs : List Value} (h : w.ownsRow b 5 1 v m xs) (ys : List UInt8) (hy : xs = ys.map V8) (hn : ys.length = n) : ∃ a c, v = .slice a n c ∧ w.ownsRow b 5 1 (.slice a n c) n (ys.map V8) := by
  subst hy
  have hm : m = n := by have := own_len h; rw [List.length_map, hn] at this; omega
  subst hm
  obtain ⟨a, c, rfl, _⟩ := own_slice h
  exact ⟨a, c, rfl, h⟩
set_option maxHeartbeats 1600000 in
theorem refBlocks_calls (v : Value) (e : UInt32) (p : List UInt8) (w : World) (hv : Rd w v p.length (p.map V8)) (hp : p.length ≤ 512) :
    Calls Tryd.prog 17 #[.int .u32 (e.toNat : Int), v] w fun r w' => ∃ lv, r = .returned lv ∧ w'.ownsRow w.heap.size 9 1 lv (frameM e p).length ((frameM e p).map SV) ∧ Below w.heap.size w w' := by
  obtain ⟨va, vc, rfl, hvc⟩ : ∃ a c, v = .slice a p.length c ∧ p.length ≤ c := by obtain ⟨a, c, h, h1, _⟩ := hv; exact ⟨a, c, h, h1⟩
  have HV := Lib.hid hv
  have helt := e.toNat_lt
  obtain ⟨en, hen⟩ : ∃ en, en = e.toNat := ⟨_, rfl⟩
  rw [← hen] at helt ⊢
  have Hen := Lib.hid hen
  clear hv hen
  have HO0 := Lib.hid (own_lit_bytes w #[.int .u8 104] [104] rfl (by decide))
  have HB0 := Lib.hid (below_alloc w (.cells #[.int .u8 104] 5))
  go_enter Tryd.func17, Tryd.ntmps17
  go_wp2_with fail
  refine (refNumber_calls en 4 _ (by omega)).mono ?_
  rintro r w1 ⟨v1, rfl, ho1, hb1⟩
  have HO1 := Lib.hid (own_below HO0.out hb1)
  have HB1 := Lib.hid (below_trans HB0.out hb1)
  have HN1 := Lib.hid (rd_of_own ho1)
  clear ho1 hb1 HO0 HB0
  go_wp2_with (at_builtin; refine appSB rfl _ _ rfl w.heap.size _ 1 _ rfl HO1.out _ (le en 4) rfl (by rw [le_length]; exact HN1.out) (by rw [le_length]; omega) HB1.out.size ?_)
  intro v2 w2 ho2 hg2 _
  have HB2 := Lib.hid (HB1.out.trans (below_grown hg2 HB1.out.size (fun q hq => (HO1.out.lt q hq).1)))
  obtain ⟨a2, c2, rfl, hp2⟩ := own_joined ho2 (104 :: le en 4) (n := 5) (by simp) (by simp [le_length])
  have HO2 := Lib.hid hp2
  clear ho2 hp2 hg2 HO1 HB1 HN1
  go_wp2_with fail
  refine (refNumber_calls p.length 2 _ (by omega)).mono ?_
  rintro r w3 ⟨v3, rfl, ho3, hb3⟩
  have HO3 := Lib.hid (own_below HO2.out hb3)
  have HB3 := Lib.hid (HB2.out.trans (hb3.mono HB2.out.size))
  have HN3 := Lib.hid (rd_of_own ho3)
  clear ho3 hb3 HO2 HB2
  go_wp2_with (at_builtin; refine appSB rfl _ _ rfl w.heap.size _ 5 _ rfl HO3.out _ (le p.length 2) rfl (by rw [le_length]; exact HN3.out) (by rw [le_length]; omega) HB3.out.size ?_)
  intro v4 w4 ho4 hg4 _
  have HB4 := Lib.hid (HB3.out.trans (below_grown hg4 HB3.out.size (fun q hq => (HO3.out.lt q hq).1)))
  obtain ⟨pr, hpr⟩ : ∃ pr, pr = pre e p.length := ⟨_, rfl⟩
  have hprl : pr.length = 7 := by rw [hpr, pre_length]
  obtain ⟨a4, c4, rfl, hp4⟩ := own_joined ho4 pr (n := 7) (by rw [hpr]; unfold pre; rw [← Hen.out]; simp) hprl
  have HO4 := Lib.hid hp4
  have HPr := Lib.hid hpr
  have HPl := Lib.hid hprl
  clear ho4 hp4 hg4 hpr hprl HO3 HB3 HN3
  go_wp2_with fail
  refine (copyB_calls (.slice a4 7 c4) pr _ (by rw [HPl.out]; exact rd_of_own HO4.out) (by rw [HPl.out]; omega)).mono ?_
  rintro r w5 ⟨v5, rfl, ho5, hb5⟩
  have HO5 := Lib.hid (own_below HO4.out hb5)
  have HB5 := Lib.hid (HB4.out.trans (hb5.mono HB4.out.size))
  rw [HPl.out] at ho5
  obtain ⟨a5, c5, rfl, _⟩ := own_slice ho5
  have HC5 := Lib.hid ho5
  have HV5 := Lib.hid (HV.out.below HB5.out)
  have Hs4 := Lib.hid hb5.size
  have hlt4 := Lib.hid (fun k hk => (HO4.out.lt k hk).2)
  clear ho5 hb5 HO4
  go_wp2_with (at_builtin; refine appSB rfl _ _ rfl w4.heap.size _ 7 (pr.map V8) rfl HC5.out _ p rfl HV5.out (by omega) Hs4.out ?_)
  intro v6 w6 ho6 hg6 _
  have hap : Apart (.slice a4 7 c4) (.slice a5 7 c5) := fun k h1 h2 => by
    have := (HC5.out.lt k h2).1
    have := hlt4.out k h1
    omega
  have HO6 := Lib.hid (own_other HO5.out hg6 hap)
  have HB6 := Lib.hid (HB5.out.trans (below_grown hg6 HB5.out.size (fun q hq => Nat.le_trans HB4.out.size (HC5.out.lt q hq).1)))
  obtain ⟨al, hal⟩ : ∃ al, al = pr ++ p := ⟨_, rfl⟩
  obtain ⟨a6, c6, rfl, hp6⟩ := own_joined ho6 al (n := al.length) (by rw [hal]; simp) rfl
  have Hal := Lib.hid hal
  have HA6 := Lib.hid (rd_of_own hp6)
  clear ho6 hp6 hg6 hap hal HO5 HC5 HV5 Hs4 HB5 HB4 hlt4
  go_wp2_with fail
  refine (refOf_calls _ al _ HA6.out).mono ?_
  rintro r w' ⟨rfl, rfl⟩
  obtain ⟨cr, hcr⟩ : ∃ cr, cr = (crc al).toNat := ⟨_, rfl⟩
  have hcl : cr < 4294967296 := by rw [hcr]; exact (crc al).toNat_lt
  have hI : I32 (crc al) = (cr : Int) := by rw [hcr]; rfl
  rw [hI]
  have Hcr := Lib.hid hcr
  clear hI hcr HA6
  go_wp2_with fail
  refine (refNumber_calls cr 4 _ (by omega)).mono ?_
  rintro r w7 ⟨v7, rfl, ho7, hb7⟩
  have HO7 := Lib.hid (own_below HO6.out hb7)
  have HB7 := Lib.hid (HB6.out.trans (hb7.mono HB6.out.size))
  have HN7 := Lib.hid (rd_of_own ho7)
  clear ho7 hb7 HO6 HB6
  go_wp2_with (at_builtin; refine appSB rfl _ _ rfl w.heap.size _ 7 _ rfl HO7.out _ (le cr 4) rfl (by rw [le_length]; exact HN7.out) (by rw [le_length]; omega) HB7.out.size ?_)
  intro v8 w8 ho8 hg8 _
  have HB8 := Lib.hid (HB7.out.trans (below_grown hg8 HB7.out.size (fun q hq => (HO7.out.lt q hq).1)))
  obtain ⟨hm, hhm⟩ : ∃ hm, hm = headM e p := ⟨_, rfl⟩
  have hhl : hm.length = 11 := by rw [hhm, headM_length]
  obtain ⟨a8, c8, rfl, hp8⟩ := own_joined ho8 hm (n := 11) (by rw [hhm]; unfold headM; rw [← HPr.out, ← Hal.out, ← Hcr.out]; simp) hhl
  have HO8 := Lib.hid hp8
  have Hhm := Lib.hid hhm
  have Hhl := Lib.hid hhl
  clear ho8 hp8 hg8 hhm hhl HO7 HB7 HN7
  obtain ⟨k, hk⟩ : ∃ k, k = min p.length 245 := ⟨_, rfl⟩
  have hmi : ∀ ts t w', (Builtin.min_ ts t #[.int .i64 245, .int .i64 (p.length : Int)]).run Tryd.prog w' = .ok (.int .i64 (k : Int)) w' := fun ts t w' => minI _ _ _ (by omega) ts t w'
  have hkp : k ≤ p.length := by omega
  have hhd := headB va p.length vc k (by omega)
  obtain ⟨pt, hpt⟩ : ∃ pt, pt = p.take 245 := ⟨_, rfl⟩
  have hptk : pt.length = k := by rw [hpt, List.length_take]; omega
  have HSrc := Lib.hid (show Rd w8 (.slice va k vc) pt.length (pt.map V8) by
    have := (HV.out.below HB8.out).cut (m := k) (by omega) k
    rw [← List.map_take] at this
    have e1 : p.take k = p.take 245 := by
      rw [hk]; by_cases hc : p.length ≤ 245
      · rw [Nat.min_eq_left hc, List.take_of_length_le (Nat.le_refl _), List.take_of_length_le hc]
      · rw [Nat.min_eq_right (by omega)]
    rw [e1, ← hpt] at this
    rw [hptk]; exact this)
  have hpl : 11 + pt.length ≤ 140737488355328 := by omega
  have Hk := Lib.hid hk
  have Hpt := Lib.hid hpt
  have Hptk := Lib.hid hptk
  clear hk hpt hptk
  go_wp2_with (at_builtin; refine appSB rfl _ _ rfl w.heap.size _ 11 _ rfl HO8.out _ pt rfl HSrc.out hpl HB8.out.size ?_)
  intro v9 w9 ho9 hg9 _
  have HB9 := Lib.hid (HB8.out.trans (below_grown hg9 HB8.out.size (fun q hq => (HO8.out.lt q hq).1)))
  obtain ⟨F0, hF0⟩ : ∃ F0, F0 = hm ++ pt := ⟨_, rfl⟩
  obtain ⟨a9, c9, rfl, hp9⟩ := own_joined ho9 F0 (n := F0.length) (by rw [hF0]; simp) rfl
  have kc := convS F0 (rd_of_own hp9) rfl
  have HF0 := Lib.hid hF0
  have HL3 := Lib.hid (show (w9.alloc (.cells #[.string (SB F0)] 9)).ownsRow w.heap.size 9 1 (.slice (some ⟨w9.heap.size, 0, none⟩) 1 1) 1 [SV F0] from
    ⟨rfl, .inr ⟨w9.heap.size, 1, _, rfl, HB9.out.size, heap_alloc_new w9 _, Nat.le_refl _, by unfold maxLen; omega, rfl, rfl⟩⟩)
  have HB10 := Lib.hid (HB9.out.trans ((below_alloc w9 (.cells #[.string (SB F0)] 9)).mono HB9.out.size))
  clear ho9 hp9 hg9 hF0 HO8 HSrc HB8 hpl
  go_wp2_with fail
  clear kc hhd hmi
  have hrest : ∀ f (q : List UInt8), q.length = 0 → restM f q = [] := fun f q h => by
    cases f with
    | zero => rfl
    | succ f => rw [restM, if_pos h]
  have Hrest := Lib.hid hrest
  have HF := Lib.hid (show [F0] ++ restM 3 (p.drop k) = frameM e p by
    have e1 : p.drop k = p.drop 245 := by
      rw [Hk.out]
      by_cases hc : p.length ≤ 245
      · rw [Nat.min_eq_left hc, List.drop_eq_nil_of_le (Nat.le_refl _), List.drop_eq_nil_of_le hc]
      · rw [Nat.min_eq_right (by omega)]
    rw [e1, HF0.out, Hhm.out, Hpt.out]; rfl)
  have Hk3 := Lib.hid (show p.length - k ≤ 255 * 3 by omega)
  clear hrest
  go_loopw [8, 9, 10] (fun x lv i wr => ∃ (c q f : Nat) (L : List (List UInt8)), c ≤ q ∧ q ≤ p.length ∧ i = .int .i64 c ∧ x = .int .i64 q ∧ wr.ownsRow w.heap.size 9 1 lv L.length (L.map SV) ∧ L.length ≤ 600 - (p.length - q) ∧ L ++ restM f (p.drop q) = frameM e p ∧ p.length - q ≤ 255 * f ∧ Below w.heap.size w wr) (fun _ _ i _ => p.length - (intOf i).toNat)
  case atStart => exact ⟨0, k, 3, [F0], by omega, hkp, rfl, rfl, HL3.out, by simp; omega, HF.out, Hk3.out, HB10.out⟩
  case round =>
    obtain ⟨c, q, f, L, hcq, hqp, rfl, rfl, hown, hL6, hfr, hfq, hb⟩ := hrel
    obtain ⟨la, lc, rfl, _⟩ := own_slice hown
    have HO := Lib.hid hown
    have HB := Lib.hid hb
    have Hfr := Lib.hid hfr
    clear hown hb hfr HL3 HB10 HF Hk3 HB9
    by_cases hlt : c < p.length ∧ q < p.length
    · obtain ⟨hlt1, hlt2⟩ := hlt
      obtain ⟨m, hm⟩ : ∃ m, m = min (q + 255) p.length := ⟨_, rfl⟩
      have hmi : ∀ ts t w', (Builtin.min_ ts t #[.int .i64 ((q : Int) + 255), .int .i64 (p.length : Int)]).run Tryd.prog w' = .ok (.int .i64 (m : Int)) w' := fun ts t w' => minI _ _ _ (by omega) ts t w'
      have hsl := fun w' => run_mid (P := Tryd.prog) (t := 23) Tryd.underlying23 (by kernel_rfl) va p.length vc q m (by omega) (by omega) w'
      have hrd := midV_rd (HV.out.below HB.out) (k := q) (m := m) (by omega) (by omega)
      obtain ⟨ma, mc, hmv⟩ := midV_shape va vc q m
      obtain ⟨t, ht⟩ : ∃ t, t = (p.take m).drop q := ⟨_, rfl⟩
      have htl : t.length = m - q := by rw [ht, List.length_drop, List.length_take]; omega
      rw [hmv, ← List.map_take, ← List.map_drop, ← ht, ← htl] at hrd
      simp only [hmv, ← htl] at hsl
      have kc := convS t hrd rfl
      have ha := fun w' => addS w' t (by omega)
      have HSrc := Lib.hid (rd_one_new wr (99 :: t) 9)
      have HOA := Lib.hid (own_below HO.out (below_alloc wr (.cells #[.string (SB (99 :: t))] 9)))
      have HsA := Lib.hid (Nat.le_trans HB.out.size (below_alloc wr (.cells #[.string (SB (99 :: t))] 9)).size)
      have Hroom := Lib.hid (show L.length + [99 :: t].length ≤ 8796093022208 by rw [List.length_singleton]; omega)
      have Hm := Lib.hid hm
      have Ht := Lib.hid ht
      have Htl := Lib.hid htl
      clear hm ht hmv hrd htl
      go_wp2_with (at_builtin; refine appT rfl _ _ rfl w.heap.size _ L.length (L.map SV) rfl HOA.out _ [99 :: t] rfl HSrc.out Hroom.out HsA.out ?_)
      intro v' w1 ho1 hg1 _
      have hb1 := (HB.out.trans ((below_alloc wr (.cells #[.string (SB (99 :: t))] 9)).mono HB.out.size)).trans (below_grown hg1 HsA.out (fun j hj => (HOA.out.lt j hj).1))
      have HN := Lib.hid (show ∃ (c2 q2 f : Nat) (L : List (List UInt8)), c2 ≤ q2 ∧ q2 ≤ p.length ∧ Value.int .i64 ((c : Int) + 1) = .int .i64 c2 ∧ Value.int .i64 (m : Int) = .int .i64 q2 ∧ w1.ownsRow w.heap.size 9 1 v' L.length (L.map SV) ∧ L.length ≤ 600 - (p.length - q2) ∧ L ++ restM f (p.drop q2) = frameM e p ∧ p.length - q2 ≤ 255 * f ∧ Below w.heap.size w w1 by
        have hm := Hm.out
        have hf : ∃ g, f = g + 1 := by
          cases f with
          | zero => omega
          | succ g => exact ⟨g, rfl⟩
        obtain ⟨g, rfl⟩ := hf
        have hrl : (p.drop q).length ≠ 0 := by rw [List.length_drop]; omega
        have e1 : t = (p.drop q).take 255 := by
          rw [Ht.out, hm]
          by_cases hc : q + 255 ≤ p.length
          · rw [Nat.min_eq_left hc, List.drop_take]; congr 1; omega
          · rw [Nat.min_eq_right (by omega), List.take_of_length_le (Nat.le_refl _), List.take_of_length_le (by rw [List.length_drop]; omega)]
        have e2 : restM g ((p.drop q).drop 255) = restM g (p.drop m) := by
          rw [List.drop_drop, hm]
          by_cases hc : q + 255 ≤ p.length
          · rw [Nat.min_eq_left hc]
          · rw [Nat.min_eq_right (by omega), List.drop_eq_nil_of_le (by omega), List.drop_eq_nil_of_le (Nat.le_refl _)]
        refine ⟨c + 1, m, g, L ++ [99 :: t], by omega, by omega, by go_num, rfl, ?_, ?_, ?_, by omega, hb1⟩
        · rw [List.length_append, List.map_append]; simpa using ho1
        · rw [List.length_append, List.length_singleton]; omega
        · have := Hfr.out
          rw [restM, if_neg hrl, e2, ← e1] at this
          rw [List.append_assoc]; exact this)
      clear ho1 hg1 hb1 HOA HSrc HsA Hroom hsl ha kc hmi Hm Ht Htl HO HB Hfr
      go_wp2_with fail
      go_roundw
      case rel => exact HN.out
      case measure => simp [intOf]; omega
    · have hcase : ¬ c < p.length ∨ (c < p.length ∧ ¬ q < p.length) := by omega
      have hq : q = p.length := by omega
      have hLF := Hfr.out
      rw [Hrest.out f (p.drop q) (by rw [List.length_drop]; omega), List.append_nil] at hLF
      have HN := Lib.hid (show wr.ownsRow w.heap.size 9 1 (.slice la L.length lc) (frameM e p).length ((frameM e p).map SV) by rw [← hLF]; exact HO.out)
      clear hLF hq HO Hfr hlt
      rcases hcase with h1 | ⟨h1, h2⟩
      all_goals
        go_wp2_with fail
        go_ret
        exact ⟨_, rfl, HN.out, HB.out⟩
end Go.Proofs.YtefegebnohenaaaDoor
