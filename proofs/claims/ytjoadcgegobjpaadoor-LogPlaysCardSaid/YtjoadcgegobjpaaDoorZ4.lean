/-
  The walks of lineageref12: number, Blocks.
-/
import Derived.Test.YtjoadcgegobjpaaDoorZ3
namespace Go.Proofs.YtjoadcgegobjpaaDoor
set_option maxRecDepth 100000
open Go.RowKit

theorem minI {P : Program} (x y z : Int) (h : z = min x y) (ts : Array TypeId) (t : TypeId) (w : World) : (Builtin.min_ ts t #[.int .i64 x, .int .i64 y]).run P w = .ok (.int .i64 z) w := by
  rw [run_min_int2, h]
  have : (if y < x then y else x) = min x y := by split <;> omega
  rw [this]
/-- 's[k:m]'. -/
def midV (a : Option Addr) (cap k m : Nat) : Value := .slice (if cap = k then a else a.map (·.add k)) (m - k) (cap - k)
theorem run_mid {P : Program} {t e : TypeId} (ht : P.underlying t = some (.slice e)) (hs : (P.info? e).map (·.size) = some 1) (a : Option Addr) (n cap k m : Nat) (hk : k ≤ m) (hm : m ≤ cap) (w : World) :
    (Instr.slice t (.slice a n cap) (some (.int .i64 (k : Int))) (some (.int .i64 (m : Int))) none).run P w = .ok (midV a cap k m) w := by
  have hx : P.elem t = e := by unfold Program.elem; rw [ht]
  have hsz : (sizeOf e).run P w = .ok 1 w := by
    cases hi : P.info? e with
    | none => rw [hi] at hs; cases hs
    | some i =>
      rw [hi] at hs
      simp only [Option.map_some, Option.some.injEq] at hs
      simp [sizeOf, typeInfo, hi, hs]
  rw [run_slice_lh w t a n cap (by rw [hx]; exact ht) .i64 .i64 (k : Int) (m : Int) (by omega) (by omega) (by omega), hx, hsz]
  simp [Result.andThen, sliced, midV]
theorem midV_rd {w : World} {a : Option Addr} {n cap k m : Nat} {xs : List Value} (h : Rd w (.slice a n cap) n xs) (hk : k ≤ m) (hm : m ≤ n) : Rd w (midV a cap k m) (m - k) ((xs.take m).drop k) := by
  have h1 := h.cut (m := m) (by obtain ⟨_, _, e, h1, _⟩ := h; injection e with _ _ e; subst e; omega) m
  have h2 := tailV_rd (k := k) h1 hk (by rw [List.length_take]; omega)
  exact h2
theorem midV_shape (a : Option Addr) (cap k m : Nat) : ∃ a' c', midV a cap k m = .slice a' (m - k) c' := ⟨_, _, rfl⟩
theorem own_lit_bytes (w : World) (cs : Array Value) (l : List UInt8) (h : cs.toList = l.map V8) (hl : l.length ≤ 9223372036854775807) : (w.alloc (.cells cs 5)).ownsRow w.heap.size 5 1 (.slice (some ⟨w.heap.size, 0, none⟩) l.length l.length) l.length (l.map V8) := by
  have hs : cs.size = l.length := by rw [← Array.length_toList, h, List.length_map]
  refine ⟨by simp, .inr ⟨w.heap.size, l.length, cs, rfl, Nat.le_refl _, heap_alloc_new w _, Nat.le_refl _, by unfold maxLen; omega, by omega, ?_⟩⟩
  rw [h, Nat.mul_one, List.take_of_length_le (by simp)]
theorem pow_256 (m k : Nat) : (m : Int) / 2 ^ (8 * k) = ((m / 256 ^ k : Nat) : Int) := by
  have h : (2 : Nat) ^ (8 * k) = 256 ^ k := by rw [Nat.pow_mul]
  have h2 : ((2 : Int) ^ (8 * k)) = ((256 ^ k : Nat) : Int) := by rw [← h]; simp
  rw [h2]; simp
set_option maxHeartbeats 400000 in
theorem refNumber_calls (m n : Nat) (w : World) (hn : n ≤ 4) :
    Calls Tryd.prog 68 #[.int .u64 (m : Int), .int .i64 (n : Int)] w fun e w' => ∃ v', e = .returned v' ∧ w'.ownsRow w.heap.size 5 1 v' n ((le m n).map V8) ∧ Below w.heap.size w w' := by
  go_enter Tryd.func68, Tryd.ntmps68
  go_wp2_with fail
  go_loopw [5, 6] (fun v i wr => ∃ k : Nat, k ≤ n ∧ i = .int .i64 k ∧ wr.ownsRow w.heap.size 5 1 v k ((le m k).map V8) ∧ Below w.heap.size w wr) (fun _ i _ => n - (intOf i).toNat)
  case atStart => exact ⟨0, by omega, rfl, World.ownsRow_nil _ _ _ _, Below.refl _ _⟩
  case round =>
    obtain ⟨k, hk, rfl, hown, hb⟩ := hrel
    obtain ⟨va, vc, rfl, _⟩ := own_slice hown
    by_cases hlt : k < n
    · have hk0 : (0 : Int) ≤ (k : Int) := by omega
      obtain ⟨c, hc⟩ : ∃ c, c = UInt8.ofNat (m / 256 ^ k) := ⟨_, rfl⟩
      have hcv : ∀ W : World, W.alloc (.cells #[.int .u8 ((m : Int) / 2 ^ (8 * k) % 256)] 5) = W.alloc (.cells #[V8 c] 5) := fun W => by
        rw [hc, V8_ofNat, pow_256]
      have HO := Lib.hid (own_below hown (below_alloc wr (.cells #[.int .u8 ((m : Int) / 2 ^ (8 * k) % 256)] 5)))
      have HSrc := Lib.hid (show Rd (wr.alloc (.cells #[.int .u8 ((m : Int) / 2 ^ (8 * k) % 256)] 5)) (.slice (some ⟨wr.heap.size, 0, none⟩) 1 1) [c].length ([c].map V8) by
        rw [hcv]; exact rd_lit wr #[V8 c] 5 [c] rfl (by show 1 ≤ _; decide))
      have HB := Lib.hid hb
      have Hs := Lib.hid (Nat.le_trans hb.size (below_alloc wr (.cells #[.int .u8 ((m : Int) / 2 ^ (8 * k) % 256)] 5)).size)
      have Hr := Lib.hid (show k + [c].length ≤ 140737488355328 by rw [List.length_singleton]; omega)
      have Hc := Lib.hid hc
      clear hown hb hcv hc
      go_wp2_with (at_builtin; refine appSB rfl _ _ rfl w.heap.size _ k ((le m k).map V8) rfl HO.out _ [c] rfl HSrc.out Hr.out Hs.out ?_)
      intro v' w1 ho1 hg1 _
      have hb1 := (HB.out.trans ((below_alloc wr (.cells #[.int .u8 ((m : Int) / 2 ^ (8 * k) % 256)] 5)).mono HB.out.size)).trans (below_grown hg1 Hs.out (fun q hq => (HO.out.lt q hq).1))
      have HN := Lib.hid (show w1.ownsRow w.heap.size 5 1 v' (k + 1) ((le m (k + 1)).map V8) ∧ Below w.heap.size w w1 from ⟨by rw [le_snoc, List.map_append, ← Hc.out]; exact ho1, hb1⟩)
      clear ho1 hg1 hb1 HO HSrc HB Hs Hr Hc
      go_wp2_with fail
      go_roundw
      case rel => exact ⟨k + 1, by omega, by go_num, HN.out⟩
      case measure => simp [intOf]; omega
    · obtain rfl : k = n := by omega
      have HN := Lib.hid (And.intro hown hb)
      clear hown hb
      go_wp2_with fail
      go_ret
      exact ⟨_, rfl, HN.out⟩
theorem copyB_calls (v : Value) (l : List UInt8) (w : World) (hv : Rd w v l.length (l.map V8)) (hn : l.length ≤ 140737488355000) :
    Calls Tryd.prog 69 #[v] w fun e w' => ∃ o, e = .returned o ∧ w'.ownsRow w.heap.size 5 1 o l.length (l.map V8) ∧ Below w.heap.size w w' := by
  obtain ⟨a, cap, rfl, hc1, hc2, _, hc⟩ := hv
  have Hc := Lib.hid hc
  clear hc
  go_enter Tryd.func69, Tryd.ntmps69
  go_wp2
  go_loopw [3, 4] (fun o i wr => ∃ k : Nat, k ≤ l.length ∧ i = .int .i64 k ∧ wr.ownsRow w.heap.size 5 1 o k ((l.take k).map V8) ∧ Below w.heap.size w wr) (fun _ i _ => l.length - (intOf i).toNat)
  case atStart => exact ⟨0, by omega, rfl, World.ownsRow_nil _ _ _ _, Below.refl _ _⟩
  case round =>
    obtain ⟨k, hk, rfl, hown, hb⟩ := hrel
    obtain ⟨oa, oc, rfl, _⟩ := own_slice hown
    by_cases hlt : k < l.length
    · obtain ⟨b, off, rfl, hcell'⟩ := Hc.out k (by simpa using hlt)
      obtain ⟨x, hx⟩ : ∃ x, x = l[k] := ⟨_, rfl⟩
      have hcell : wr.cell? ⟨b, off + k, none⟩ = some (.int .u8 (x.toNat : Int)) := below_heap hb (by rw [hcell', hx]; simp [hlt, V8])
      have HO := Lib.hid (own_below hown (below_alloc wr (.cells #[.int .u8 (x.toNat : Int)] 5)))
      have HSrc := Lib.hid (show Rd (wr.alloc (.cells #[.int .u8 (x.toNat : Int)] 5)) (.slice (some ⟨wr.heap.size, 0, none⟩) 1 1) [x].length ([x].map V8) from rd_lit wr #[V8 x] 5 [x] rfl (by show 1 ≤ _; decide))
      have HB := Lib.hid hb
      have Hs := Lib.hid (Nat.le_trans hb.size (below_alloc wr (.cells #[.int .u8 (x.toNat : Int)] 5)).size)
      have Hr := Lib.hid (show k + [x].length ≤ 140737488355328 by rw [List.length_singleton]; omega)
      have Hx := Lib.hid hx
      clear hown hb hx Hc hcell'
      go_wp2_with (at_builtin; refine appSB rfl _ _ rfl w.heap.size _ k ((l.take k).map V8) rfl HO.out _ [x] rfl HSrc.out Hr.out Hs.out ?_)
      intro v' w1 ho1 hg1 _
      have hb1 := (HB.out.trans ((below_alloc wr (.cells #[.int .u8 (x.toNat : Int)] 5)).mono HB.out.size)).trans (below_grown hg1 Hs.out (fun q hq => (HO.out.lt q hq).1))
      have HN := Lib.hid (show w1.ownsRow w.heap.size 5 1 v' (k + 1) ((l.take (k + 1)).map V8) ∧ Below w.heap.size w w1 from ⟨by rw [List.take_succ_eq_append_getElem hlt, List.map_append, ← Hx.out]; simpa using ho1, hb1⟩)
      clear ho1 hg1 hb1 HO HSrc HB Hs Hr Hx hcell
      go_wp2_with fail
      go_roundw
      case rel => exact ⟨k + 1, by omega, by go_num, HN.out⟩
      case measure => simp [intOf]; omega
    · obtain rfl : k = l.length := by omega
      rw [List.take_of_length_le (Nat.le_refl _)] at hown
      have HN := Lib.hid (And.intro hown hb)
      clear hown hb Hc
      go_wp2_with fail
      go_ret
      exact ⟨_, rfl, HN.out⟩
/-- A row, behind an append, by its list. -/
theorem own_joined {w : World} {b m n : Nat} {v : Value} {xs : List Value} (h : w.ownsRow b 5 1 v m xs) (ys : List UInt8) (hy : xs = ys.map V8) (hn : ys.length = n) : ∃ a c, v = .slice a n c ∧ w.ownsRow b 5 1 (.slice a n c) n (ys.map V8) := by
  subst hy
  have hm : m = n := by have := own_len h; rw [List.length_map, hn] at this; omega
  subst hm
  obtain ⟨a, c, rfl, _⟩ := own_slice h
  exact ⟨a, c, rfl, h⟩
set_option maxHeartbeats 1600000 in
theorem refBlocks_calls (v : Value) (e : UInt32) (p : List UInt8) (w : World) (hv : Rd w v p.length (p.map V8)) (hp : p.length ≤ 512) :
    Calls Tryd.prog 62 #[.int .u32 (e.toNat : Int), v] w fun r w' => ∃ lv, r = .returned lv ∧ w'.ownsRow w.heap.size 9 1 lv (frameM e p).length ((frameM e p).map SV) ∧ Below w.heap.size w w' := by
  obtain ⟨va, vc, rfl, hvc⟩ : ∃ a c, v = .slice a p.length c ∧ p.length ≤ c := by obtain ⟨a, c, h, h1, _⟩ := hv; exact ⟨a, c, h, h1⟩
  have HV := Lib.hid hv
  have helt := e.toNat_lt
  obtain ⟨en, hen⟩ : ∃ en, en = e.toNat := ⟨_, rfl⟩
  rw [← hen] at helt ⊢
  have Hen := Lib.hid hen
  clear hv hen
  have HO0 := Lib.hid (own_lit_bytes w #[.int .u8 104] [104] rfl (by decide))
  have HB0 := Lib.hid (below_alloc w (.cells #[.int .u8 104] 5))
  go_enter Tryd.func62, Tryd.ntmps62
  go_wp2_with fail
  refine (refNumber_calls en 4 _ (by omega)).mono ?_
  rintro r w1 ⟨v1, rfl, ho1, hb1⟩
  have HO1 := Lib.hid (own_below HO0.out hb1)
  have HB1 := Lib.hid (below_trans HB0.out hb1)
  have HN1 := Lib.hid (rd_of_own ho1)
  clear ho1 hb1 HO0 HB0
  go_wp2_with (at_builtin; refine appSB rfl _ _ rfl w.heap.size _ 1 _ rfl HO1.out _ (le en 4) rfl (by rw [le_length]; exact HN1.out) (by rw [le_length]; omega) HB1.out.size ?_)
  intro v2 w2 ho2 hg2 _
  have HB2 := Lib.hid (HB1.out.trans (below_grown hg2 HB1.out.size (fun q hq => (HO1.out.lt q hq).1)))
  obtain ⟨a2, c2, rfl, hp2⟩ := own_joined ho2 (104 :: le en 4) (n := 5) (by simp) (by simp [le_length])
  have HO2 := Lib.hid hp2
  clear ho2 hp2 hg2 HO1 HB1 HN1
  go_wp2_with fail
  refine (refNumber_calls p.length 2 _ (by omega)).mono ?_
  rintro r w3 ⟨v3, rfl, ho3, hb3⟩
  have HO3 := Lib.hid (own_below HO2.out hb3)
  have HB3 := Lib.hid (HB2.out.trans (hb3.mono HB2.out.size))
  have HN3 := Lib.hid (rd_of_own ho3)
  clear ho3 hb3 HO2 HB2
  go_wp2_with (at_builtin; refine appSB rfl _ _ rfl w.heap.size _ 5 _ rfl HO3.out _ (le p.length 2) rfl (by rw [le_length]; exact HN3.out) (by rw [le_length]; omega) HB3.out.size ?_)
  intro v4 w4 ho4 hg4 _
  have HB4 := Lib.hid (HB3.out.trans (below_grown hg4 HB3.out.size (fun q hq => (HO3.out.lt q hq).1)))
  obtain ⟨pr, hpr⟩ : ∃ pr, pr = pre e p.length := ⟨_, rfl⟩
  have hprl : pr.length = 7 := by rw [hpr, pre_length]
  obtain ⟨a4, c4, rfl, hp4⟩ := own_joined ho4 pr (n := 7) (by rw [hpr]; unfold pre; rw [← Hen.out]; simp) hprl
  have HO4 := Lib.hid hp4
  have HPr := Lib.hid hpr
  have HPl := Lib.hid hprl
  clear ho4 hp4 hg4 hpr hprl HO3 HB3 HN3
  go_wp2_with fail
  refine (copyB_calls (.slice a4 7 c4) pr _ (by rw [HPl.out]; exact rd_of_own HO4.out) (by rw [HPl.out]; omega)).mono ?_
  rintro r w5 ⟨v5, rfl, ho5, hb5⟩
  have HO5 := Lib.hid (own_below HO4.out hb5)
  have HB5 := Lib.hid (HB4.out.trans (hb5.mono HB4.out.size))
  rw [HPl.out] at ho5
  obtain ⟨a5, c5, rfl, _⟩ := own_slice ho5
  have HC5 := Lib.hid ho5
  have HV5 := Lib.hid (HV.out.below HB5.out)
  have Hs4 := Lib.hid hb5.size
  have hlt4 := Lib.hid (fun k hk => (HO4.out.lt k hk).2)
  clear ho5 hb5 HO4
  go_wp2_with (at_builtin; refine appSB rfl _ _ rfl w4.heap.size _ 7 (pr.map V8) rfl HC5.out _ p rfl HV5.out (by omega) Hs4.out ?_)
  intro v6 w6 ho6 hg6 _
  have hap : Apart (.slice a4 7 c4) (.slice a5 7 c5) := fun k h1 h2 => by
    have := (HC5.out.lt k h2).1
    have := hlt4.out k h1
    omega
  have HO6 := Lib.hid (own_other HO5.out hg6 hap)
  have HB6 := Lib.hid (HB5.out.trans (below_grown hg6 HB5.out.size (fun q hq => Nat.le_trans HB4.out.size (HC5.out.lt q hq).1)))
  obtain ⟨al, hal⟩ : ∃ al, al = pr ++ p := ⟨_, rfl⟩
  obtain ⟨a6, c6, rfl, hp6⟩ := own_joined ho6 al (n := al.length) (by rw [hal]; simp) rfl
  have Hal := Lib.hid hal
  have HA6 := Lib.hid (rd_of_own hp6)
  clear ho6 hp6 hg6 hap hal HO5 HC5 HV5 Hs4 HB5 HB4 hlt4
  go_wp2_with fail
  refine (refOf_calls _ al _ HA6.out).mono ?_
  rintro r w' ⟨rfl, rfl⟩
  obtain ⟨cr, hcr⟩ : ∃ cr, cr = (crc al).toNat := ⟨_, rfl⟩
  have hcl : cr < 4294967296 := by rw [hcr]; exact (crc al).toNat_lt
  have hI : I32 (crc al) = (cr : Int) := by rw [hcr]; rfl
  rw [hI]
  have Hcr := Lib.hid hcr
  clear hI hcr HA6
  go_wp2_with fail
  refine (refNumber_calls cr 4 _ (by omega)).mono ?_
  rintro r w7 ⟨v7, rfl, ho7, hb7⟩
  have HO7 := Lib.hid (own_below HO6.out hb7)
  have HB7 := Lib.hid (HB6.out.trans (hb7.mono HB6.out.size))
  have HN7 := Lib.hid (rd_of_own ho7)
  clear ho7 hb7 HO6 HB6
  go_wp2_with (at_builtin; refine appSB rfl _ _ rfl w.heap.size _ 7 _ rfl HO7.out _ (le cr 4) rfl (by rw [le_length]; exact HN7.out) (by rw [le_length]; omega) HB7.out.size ?_)
  intro v8 w8 ho8 hg8 _
  have HB8 := Lib.hid (HB7.out.trans (below_grown hg8 HB7.out.size (fun q hq => (HO7.out.lt q hq).1)))
  obtain ⟨hm, hhm⟩ : ∃ hm, hm = headM e p := ⟨_, rfl⟩
  have hhl : hm.length = 11 := by rw [hhm, headM_length]
  obtain ⟨a8, c8, rfl, hp8⟩ := own_joined ho8 hm (n := 11) (by rw [hhm]; unfold headM; rw [← HPr.out, ← Hal.out, ← Hcr.out]; simp) hhl
  have HO8 := Lib.hid hp8
  have Hhm := Lib.hid hhm
  have Hhl := Lib.hid hhl
  clear ho8 hp8 hg8 hhm hhl HO7 HB7 HN7
  obtain ⟨k, hk⟩ : ∃ k, k = min p.length 245 := ⟨_, rfl⟩
  have hmi : ∀ ts t w', (Builtin.min_ ts t #[.int .i64 245, .int .i64 (p.length : Int)]).run Tryd.prog w' = .ok (.int .i64 (k : Int)) w' := fun ts t w' => minI _ _ _ (by omega) ts t w'
  have hkp : k ≤ p.length := by omega
  have hhd := headB va p.length vc k (by omega)
  obtain ⟨pt, hpt⟩ : ∃ pt, pt = p.take 245 := ⟨_, rfl⟩
  have hptk : pt.length = k := by rw [hpt, List.length_take]; omega
  have HSrc := Lib.hid (show Rd w8 (.slice va k vc) pt.length (pt.map V8) by
    have := (HV.out.below HB8.out).cut (m := k) (by omega) k
    rw [← List.map_take] at this
    have e1 : p.take k = p.take 245 := by
      rw [hk]; by_cases hc : p.length ≤ 245
      · rw [Nat.min_eq_left hc, List.take_of_length_le (Nat.le_refl _), List.take_of_length_le hc]
      · rw [Nat.min_eq_right (by omega)]
    rw [e1, ← hpt] at this
    rw [hptk]; exact this)
  have hpl : 11 + pt.length ≤ 140737488355328 := by omega
  have Hk := Lib.hid hk
  have Hpt := Lib.hid hpt
  have Hptk := Lib.hid hptk
  clear hk hpt hptk
  go_wp2_with (at_builtin; refine appSB rfl _ _ rfl w.heap.size _ 11 _ rfl HO8.out _ pt rfl HSrc.out hpl HB8.out.size ?_)
  intro v9 w9 ho9 hg9 _
  have HB9 := Lib.hid (HB8.out.trans (below_grown hg9 HB8.out.size (fun q hq => (HO8.out.lt q hq).1)))
  obtain ⟨F0, hF0⟩ : ∃ F0, F0 = hm ++ pt := ⟨_, rfl⟩
  obtain ⟨a9, c9, rfl, hp9⟩ := own_joined ho9 F0 (n := F0.length) (by rw [hF0]; simp) rfl
  have kc := convS F0 (rd_of_own hp9) rfl
  have HF0 := Lib.hid hF0
  have HL3 := Lib.hid (show (w9.alloc (.cells #[.string (SB F0)] 9)).ownsRow w.heap.size 9 1 (.slice (some ⟨w9.heap.size, 0, none⟩) 1 1) 1 [SV F0] from
    ⟨rfl, .inr ⟨w9.heap.size, 1, _, rfl, HB9.out.size, heap_alloc_new w9 _, Nat.le_refl _, by unfold maxLen; omega, rfl, rfl⟩⟩)
  have HB10 := Lib.hid (HB9.out.trans ((below_alloc w9 (.cells #[.string (SB F0)] 9)).mono HB9.out.size))
  clear ho9 hp9 hg9 hF0 HO8 HSrc HB8 hpl
  go_wp2_with fail
  clear kc hhd hmi
  have hrest : ∀ f (q : List UInt8), q.length = 0 → restM f q = [] := fun f q h => by
    cases f with
    | zero => rfl
    | succ f => rw [restM, if_pos h]
  have Hrest := Lib.hid hrest
  have HF := Lib.hid (show [F0] ++ restM 3 (p.drop k) = frameM e p by
    have e1 : p.drop k = p.drop 245 := by
      rw [Hk.out]
      by_cases hc : p.length ≤ 245
      · rw [Nat.min_eq_left hc, List.drop_eq_nil_of_le (Nat.le_refl _), List.drop_eq_nil_of_le hc]
      · rw [Nat.min_eq_right (by omega)]
    rw [e1, HF0.out, Hhm.out, Hpt.out]; rfl)
  have Hk3 := Lib.hid (show p.length - k ≤ 255 * 3 by omega)
  clear hrest
  go_loopw [8, 9, 10] (fun x lv i wr => ∃ (c q f : Nat) (L : List (List UInt8)), c ≤ q ∧ q ≤ p.length ∧ i = .int .i64 c ∧ x = .int .i64 q ∧ wr.ownsRow w.heap.size 9 1 lv L.length (L.map SV) ∧ L.length ≤ 600 - (p.length - q) ∧ L ++ restM f (p.drop q) = frameM e p ∧ p.length - q ≤ 255 * f ∧ Below w.heap.size w wr) (fun _ _ i _ => p.length - (intOf i).toNat)
  case atStart => exact ⟨0, k, 3, [F0], by omega, hkp, rfl, rfl, HL3.out, by simp; omega, HF.out, Hk3.out, HB10.out⟩
  case round =>
    obtain ⟨c, q, f, L, hcq, hqp, rfl, rfl, hown, hL6, hfr, hfq, hb⟩ := hrel
    obtain ⟨la, lc, rfl, _⟩ := own_slice hown
    have HO := Lib.hid hown
    have HB := Lib.hid hb
    have Hfr := Lib.hid hfr
    clear hown hb hfr HL3 HB10 HF Hk3 HB9
    by_cases hlt : c < p.length ∧ q < p.length
    · obtain ⟨hlt1, hlt2⟩ := hlt
      obtain ⟨m, hm⟩ : ∃ m, m = min (q + 255) p.length := ⟨_, rfl⟩
      have hmi : ∀ ts t w', (Builtin.min_ ts t #[.int .i64 ((q : Int) + 255), .int .i64 (p.length : Int)]).run Tryd.prog w' = .ok (.int .i64 (m : Int)) w' := fun ts t w' => minI _ _ _ (by omega) ts t w'
      have hsl := fun w' => run_mid (P := Tryd.prog) (t := 46) Tryd.underlying46 (by kernel_rfl) va p.length vc q m (by omega) (by omega) w'
      have hrd := midV_rd (HV.out.below HB.out) (k := q) (m := m) (by omega) (by omega)
      obtain ⟨ma, mc, hmv⟩ := midV_shape va vc q m
      obtain ⟨t, ht⟩ : ∃ t, t = (p.take m).drop q := ⟨_, rfl⟩
      have htl : t.length = m - q := by rw [ht, List.length_drop, List.length_take]; omega
      rw [hmv, ← List.map_take, ← List.map_drop, ← ht, ← htl] at hrd
      simp only [hmv, ← htl] at hsl
      have kc := convS t hrd rfl
      have ha := fun w' => addS w' t (by omega)
      have HSrc := Lib.hid (rd_one_new wr (99 :: t) 9)
      have HOA := Lib.hid (own_below HO.out (below_alloc wr (.cells #[.string (SB (99 :: t))] 9)))
      have HsA := Lib.hid (Nat.le_trans HB.out.size (below_alloc wr (.cells #[.string (SB (99 :: t))] 9)).size)
      have Hroom := Lib.hid (show L.length + [99 :: t].length ≤ 8796093022208 by rw [List.length_singleton]; omega)
      have Hm := Lib.hid hm
      have Ht := Lib.hid ht
      have Htl := Lib.hid htl
      clear hm ht hmv hrd htl
      go_wp2_with (at_builtin; refine appT rfl _ _ rfl w.heap.size _ L.length (L.map SV) rfl HOA.out _ [99 :: t] rfl HSrc.out Hroom.out HsA.out ?_)
      intro v' w1 ho1 hg1 _
      have hb1 := (HB.out.trans ((below_alloc wr (.cells #[.string (SB (99 :: t))] 9)).mono HB.out.size)).trans (below_grown hg1 HsA.out (fun j hj => (HOA.out.lt j hj).1))
      have HN := Lib.hid (show ∃ (c2 q2 f : Nat) (L : List (List UInt8)), c2 ≤ q2 ∧ q2 ≤ p.length ∧ Value.int .i64 ((c : Int) + 1) = .int .i64 c2 ∧ Value.int .i64 (m : Int) = .int .i64 q2 ∧ w1.ownsRow w.heap.size 9 1 v' L.length (L.map SV) ∧ L.length ≤ 600 - (p.length - q2) ∧ L ++ restM f (p.drop q2) = frameM e p ∧ p.length - q2 ≤ 255 * f ∧ Below w.heap.size w w1 by
        have hm := Hm.out
        have hf : ∃ g, f = g + 1 := by
          cases f with
          | zero => omega
          | succ g => exact ⟨g, rfl⟩
        obtain ⟨g, rfl⟩ := hf
        have hrl : (p.drop q).length ≠ 0 := by rw [List.length_drop]; omega
        have e1 : t = (p.drop q).take 255 := by
          rw [Ht.out, hm]
          by_cases hc : q + 255 ≤ p.length
          · rw [Nat.min_eq_left hc, List.drop_take]; congr 1; omega
          · rw [Nat.min_eq_right (by omega), List.take_of_length_le (Nat.le_refl _), List.take_of_length_le (by rw [List.length_drop]; omega)]
        have e2 : restM g ((p.drop q).drop 255) = restM g (p.drop m) := by
          rw [List.drop_drop, hm]
          by_cases hc : q + 255 ≤ p.length
          · rw [Nat.min_eq_left hc]
          · rw [Nat.min_eq_right (by omega), List.drop_eq_nil_of_le (by omega), List.drop_eq_nil_of_le (Nat.le_refl _)]
        refine ⟨c + 1, m, g, L ++ [99 :: t], by omega, by omega, by go_num, rfl, ?_, ?_, ?_, by omega, hb1⟩
        · rw [List.length_append, List.map_append]; simpa using ho1
        · rw [List.length_append, List.length_singleton]; omega
        · have := Hfr.out
          rw [restM, if_neg hrl, e2, ← e1] at this
          rw [List.append_assoc]; exact this)
      clear ho1 hg1 hb1 HOA HSrc HsA Hroom hsl ha kc hmi Hm Ht Htl HO HB Hfr
      go_wp2_with fail
      go_roundw
      case rel => exact HN.out
      case measure => simp [intOf]; omega
    · have hcase : ¬ c < p.length ∨ (c < p.length ∧ ¬ q < p.length) := by omega
      have hq : q = p.length := by omega
      have hLF := Hfr.out
      rw [Hrest.out f (p.drop q) (by rw [List.length_drop]; omega), List.append_nil] at hLF
      have HN := Lib.hid (show wr.ownsRow w.heap.size 9 1 (.slice la L.length lc) (frameM e p).length ((frameM e p).map SV) by rw [← hLF]; exact HO.out)
      clear hLF hq HO Hfr hlt
      rcases hcase with h1 | ⟨h1, h2⟩
      all_goals
        go_wp2_with fail
        go_ret
        exact ⟨_, rfl, HN.out, HB.out⟩
end Go.Proofs.YtjoadcgegobjpaaDoor
/-
  lineageref12.Frame.
-/
namespace Go.Proofs.YtjoadcgegobjpaaDoor
open Go.RowKit
set_option maxRecDepth 100000

theorem refFrame_calls (v : Value) (e : UInt32) (p : List UInt8) (w : World) (hv : Rd w v p.length (p.map V8)) :
    Calls Tryd.prog 47 #[.int .u32 (e.toNat : Int), v] w fun r w' => (512 < p.length ∧ r = .returned (.tuple #[.slice none 0 0, .int .i64 3]) ∧ w' = w) ∨
      (p.length ≤ 512 ∧ ∃ lv, r = .returned (.tuple #[lv, .int .i64 0]) ∧ w'.ownsRow w.heap.size 9 1 lv (frameM e p).length ((frameM e p).map SV) ∧ Below w.heap.size w w') := by
  obtain ⟨va, vc, rfl⟩ : ∃ a c, v = .slice a p.length c := by obtain ⟨a, c, h, _⟩ := hv; exact ⟨a, c, h⟩
  by_cases h512 : 512 < p.length
  · have h : (512 : Int) < (p.length : Int) := by omega
    go_enter Tryd.func47, Tryd.ntmps47
    go_wp2_with fail
    go_ret2
    exact .inl ⟨h512, rfl, rfl⟩
  · have h : decide ((512 : Int) < (p.length : Int)) = false := by simp; omega
    have Hb := Lib.hid (refBlocks_calls (.slice va p.length vc) e p w hv (by omega))
    clear hv
    go_enter Tryd.func47, Tryd.ntmps47
    go_wp2_with fail
    refine Hb.out.mono ?_
    rintro r w1 ⟨lv, rfl, ho, hb⟩
    have HN := Lib.hid (And.intro ho hb)
    clear ho hb
    go_wp2_with fail
    go_ret2
    exact .inr ⟨by omega, lv, rfl, HN.out⟩
end Go.Proofs.YtjoadcgegobjpaaDoor
/-
  The walks of package disk.
-/
namespace Go.Proofs.YtjoadcgegobjpaaDoor
open Go.RowKit

theorem info_raw : (Tryd.prog.info? 112).map (fun i => (i.zero, i.size, i.bytes)) = some (some (.agg #[.int .i64 0, .string ByteArray.empty]), 2, 24) := by kernel_rfl
/-- An error's number as an error; 0: nil. -/
def errV (n : Int) : Value := if n = 0 then .nilIface else .iface 58 (.int .i64 n)
/-- Raw writes as cells. -/
def flatRaws (l : List (Int × ByteArray)) : List Value := l.flatMap fun r => [.int .i64 r.1, .string r.2]
theorem flatRaws_length (l : List (Int × ByteArray)) : (flatRaws l).length = l.length * 2 := by
  induction l with
  | nil => rfl
  | cons a l ih => simp only [flatRaws, List.flatMap_cons, List.length_append] at ih ⊢; simp [ih]; omega
theorem flatRaws_append (l m : List (Int × ByteArray)) : flatRaws (l ++ m) = flatRaws l ++ flatRaws m := by simp [flatRaws]
/-- A disk: its blocks' texts; its raw writes; how many more may be (none: any number). -/
structure DiskM where
  strs : List ByteArray
  trail : List (Int × ByteArray)
  left : Option Nat
def PowerAt (w : World) (pv : Value) (left : Option Nat) (q : Option Nat) : Prop :=
  match left with
  | none => pv = .func (.func 14) #[] #[] ∧ q = none
  | some k => ∃ b, q = some b ∧ pv = .func (.func 61) #[] #[.pointer (some ⟨b, 0, none⟩)] ∧ Box w b #[.int .i64 (k : Int)] 3 ∧ k ≤ 9223372036854775807
def diskF (p bb : Nat) (tv : Value) (q : Option Nat) : Nat → Prop := fun k => k = p ∨ k = bb ∨ tv.ownBlock = some k ∨ q = some k
def IsDisk (w : World) (d : DiskM) (p : Nat) (F : Nat → Prop) : Prop :=
  ∃ (bb : Nat) (tv pv : Value) (q : Option Nat), Box w p #[.slice (some ⟨bb, 0, none⟩) d.strs.length d.strs.length, tv, pv] 61 ∧ Box w bb (d.strs.map Value.string).toArray 9 ∧
    w.ownsRow 0 112 2 tv d.trail.length (flatRaws d.trail) ∧ PowerAt w pv d.left q ∧ d.strs.length ≤ 4096 ∧ bb ≠ p ∧ (∀ k, tv.ownBlock = some k → k ≠ p ∧ k ≠ bb) ∧ (∀ k, q = some k → k ≠ p ∧ k ≠ bb ∧ tv.ownBlock ≠ some k) ∧ F = diskF p bb tv q
theorem PowerAt.mod {w w' : World} {pv : Value} {left : Option Nat} {q : Option Nat} {G : Nat → Prop} (h : PowerAt w pv left q) (hm : Mod G w w') (hg : ∀ k, q = some k → ¬ G k) : PowerAt w' pv left q := by
  cases left with
  | none => exact h
  | some k => obtain ⟨b, rfl, h1, h2, h3⟩ := h; exact ⟨b, rfl, h1, h2.mod hm (hg b rfl), h3⟩
theorem IsDisk.mod {w w' : World} {d : DiskM} {p : Nat} {F G : Nat → Prop} (h : IsDisk w d p F) (hm : Mod G w w') (hg : ∀ k, F k → ¬ G k) : IsDisk w' d p F := by
  obtain ⟨bb, tv, pv, q, h1, h2, h3, h4, h5, h6, h7, h8, rfl⟩ := h
  exact ⟨bb, tv, pv, q, h1.mod hm (hg p (.inl rfl)), h2.mod hm (hg bb (.inr (.inl rfl))), own_mod h3 hm (fun k hk => hg k (.inr (.inr (.inl hk)))), h4.mod hm (fun k hk => hg k (.inr (.inr (.inr hk)))), h5, h6, h7, h8, rfl⟩
theorem IsDisk.lt {w : World} {d : DiskM} {p : Nat} {F : Nat → Prop} (h : IsDisk w d p F) : ∀ k, F k → k < w.heap.size := by
  obtain ⟨bb, tv, pv, q, h1, h2, h3, h4, h5, h6, h7, h8, rfl⟩ := h
  rintro k (rfl | rfl | hk | hk)
  · exact h1.lt
  · exact h2.lt
  · exact (h3.lt k hk).2
  · cases hl : d.left with
    | none => rw [hl] at h4; obtain ⟨_, e⟩ := h4; rw [e] at hk; cases hk
    | some n => rw [hl] at h4; obtain ⟨b, rfl, _, h, _⟩ := h4; injection hk with hk; subst hk; exact h.lt

theorem always_calls (w : World) : Calls Tryd.prog 14 #[] w fun e w' => e = .returned (.bool true) ∧ w = w' := by
  go_enter Tryd.func14, Tryd.ntmps14
  go_wp2
  go_ret
  exact ⟨rfl, rfl⟩
theorem failing1_no (b : Nat) (w : World) (h : Box w b #[.int .i64 0] 3) : Calls Tryd.prog 61 #[.pointer (some ⟨b, 0, none⟩)] w fun e w' => e = .returned (.bool false) ∧ w = w' := by
  have hc := h.cell 0 _ rfl
  go_enter Tryd.func61, Tryd.ntmps61
  go_wp2
  go_ret
  exact ⟨rfl, rfl⟩
theorem failing1_yes (b k : Nat) (w : World) (h : Box w b #[.int .i64 ((k : Int) + 1)] 3) (hk : k < 9223372036854775807) : Calls Tryd.prog 61 #[.pointer (some ⟨b, 0, none⟩)] w fun e w' => e = .returned (.bool true) ∧ w' = w.setCell ⟨b, 0, none⟩ (.int .i64 (k : Int)) := by
  have hc := h.cell 0 _ rfl
  have hf := h.free 0
  have h0 : (((k : Int) + 1) == 0) = false := by simp; omega
  clear h
  go_enter Tryd.func61, Tryd.ntmps61
  go_wp2
  go_ret
  exact ⟨rfl, rfl⟩
theorem there_calls (d : DiskM) (p : Nat) (F : Nat → Prop) (i : Int) (w : World) (h : IsDisk w d p F) :
    Calls Tryd.prog 35 #[.pointer (some ⟨p, 0, none⟩), .int .i64 i] w fun e w' => e = .returned (.bool (decide (0 ≤ i ∧ i < d.strs.length))) ∧ w = w' := by
  obtain ⟨bb, tv, pv, q, h1, h2, h3, h4, h5, h6, h7, h8, rfl⟩ := h
  have hc := h1.cell 0 _ rfl
  clear h1 h2 h3 h4 h7 h8
  by_cases h0 : 0 ≤ i
  · go_enter Tryd.func35, Tryd.ntmps35
    go_wp2
    go_ret
    exact ⟨by simp [h0], rfl⟩
  · go_enter Tryd.func35, Tryd.ntmps35
    go_wp2
    go_ret
    exact ⟨by simp; omega, rfl⟩
theorem blocks_calls (d : DiskM) (p : Nat) (F : Nat → Prop) (w : World) (h : IsDisk w d p F) :
    Calls Tryd.prog 15 #[.pointer (some ⟨p, 0, none⟩)] w fun e w' => e = .returned (.int .i64 (d.strs.length : Int)) ∧ w = w' := by
  obtain ⟨bb, tv, pv, q, h1, h2, h3, h4, h5, h6, h7, h8, rfl⟩ := h
  have hc := h1.cell 0 _ rfl
  clear h1 h2 h3 h4 h7 h8
  go_enter Tryd.func15, Tryd.ntmps15
  go_wp2
  go_ret
  exact ⟨rfl, rfl⟩
theorem own_form {w : World} {base : Nat} {e : TypeId} {size n : Nat} {v : Value} {xs : List Value} (h : w.ownsRow base e size v n xs) : ∃ a cap, v = .slice a n cap ∧ n ≤ cap ∧ cap ≤ 9223372036854775807 := by
  obtain ⟨a, cap, rfl, h1, h2, _⟩ := rd_of_own h
  exact ⟨a, cap, rfl, h1, h2⟩
theorem read_no (d : DiskM) (p : Nat) (F : Nat → Prop) (i : Int) (w : World) (h : IsDisk w d p F) (hi : ¬ (0 ≤ i ∧ i < d.strs.length)) :
    Calls Tryd.prog 16 #[.pointer (some ⟨p, 0, none⟩), .int .i64 i] w fun e w' => e = .returned (.tuple #[.string ByteArray.empty, errV 1]) ∧ w = w' := by
  have hd : decide (0 ≤ i ∧ i < d.strs.length) = false := by simpa using hi
  go_enter Tryd.func16, Tryd.ntmps16
  go_wp2_with fail
  refine (there_calls d p F i w h).mono ?_
  rw [hd]
  rintro e w' ⟨rfl, rfl⟩
  go_wp2
  go_ret2
  exact ⟨rfl, rfl⟩
theorem read_yes (d : DiskM) (p : Nat) (F : Nat → Prop) (i : Nat) (w : World) (h : IsDisk w d p F) (hi : i < d.strs.length) :
    Calls Tryd.prog 16 #[.pointer (some ⟨p, 0, none⟩), .int .i64 (i : Int)] w fun e w' => e = .returned (.tuple #[.string (d.strs.getD i ByteArray.empty), errV 0]) ∧ w = w' := by
  have hd : decide (0 ≤ (i : Int) ∧ (i : Int) < d.strs.length) = true := by simpa using hi
  go_enter Tryd.func16, Tryd.ntmps16
  go_wp2_with fail
  refine (there_calls d p F i w h).mono ?_
  rw [hd]
  rintro e w' ⟨rfl, rfl⟩
  obtain ⟨bb, tv, pv, q, h1, h2, h3, h4, h5, h6, h7, h8, rfl⟩ := h
  have hc := h1.cell 0 _ rfl
  obtain ⟨s, hs⟩ : ∃ s, s = d.strs.getD i ByteArray.empty := ⟨_, rfl⟩
  have hb := h2.cell i (.string s) (by rw [hs]; simp [hi])
  have Hs := Lib.hid hs
  clear h1 h2 h3 h4 h7 h8 hd hs
  go_wp2
  go_ret2
  exact ⟨by rw [← Hs.out]; rfl, rfl⟩

/-- What a raw write does, and the number of its error. -/
def DiskM.write (d : DiskM) (i : Int) (s : ByteArray) : DiskM × Int :=
  if ¬ (0 ≤ i ∧ i < d.strs.length) then (d, 1)
  else if 256 < s.size then (d, 3)
  else if d.left = some 0 then (d, 22)
  else ({ strs := d.strs.set i.toNat s, trail := d.trail ++ [(i, s)], left := d.left.map (· - 1) }, 0)
theorem write_arg (d : DiskM) (p : Nat) (F : Nat → Prop) (i : Int) (s : ByteArray) (w : World) (h : IsDisk w d p F) (hi : ¬ (0 ≤ i ∧ i < d.strs.length)) :
    Calls Tryd.prog 46 #[.pointer (some ⟨p, 0, none⟩), .int .i64 i, .string s] w fun e w' => e = .returned (errV 1) ∧ w = w' := by
  have hd : decide (0 ≤ i ∧ i < d.strs.length) = false := by simpa using hi
  go_enter Tryd.func46, Tryd.ntmps46
  go_wp2_with fail
  refine (there_calls d p F i w h).mono ?_
  rw [hd]
  rintro e w' ⟨rfl, rfl⟩
  go_wp2
  go_ret
  exact ⟨rfl, rfl⟩
theorem write_long (d : DiskM) (p : Nat) (F : Nat → Prop) (i : Int) (s : ByteArray) (w : World) (h : IsDisk w d p F) (hi : 0 ≤ i ∧ i < d.strs.length) (hs : 256 < s.size) :
    Calls Tryd.prog 46 #[.pointer (some ⟨p, 0, none⟩), .int .i64 i, .string s] w fun e w' => e = .returned (errV 3) ∧ w = w' := by
  have hd : decide (0 ≤ i ∧ i < d.strs.length) = true := by simpa using hi
  go_enter Tryd.func46, Tryd.ntmps46
  go_wp2_with fail
  refine (there_calls d p F i w h).mono ?_
  rw [hd]
  rintro e w' ⟨rfl, rfl⟩
  go_wp2
  go_ret
  exact ⟨rfl, rfl⟩
theorem write_power (d : DiskM) (p : Nat) (F : Nat → Prop) (i : Int) (s : ByteArray) (w : World) (h : IsDisk w d p F) (hi : 0 ≤ i ∧ i < d.strs.length) (hs : s.size ≤ 256) (hl : d.left = some 0) :
    Calls Tryd.prog 46 #[.pointer (some ⟨p, 0, none⟩), .int .i64 i, .string s] w fun e w' => e = .returned (errV 22) ∧ w = w' := by
  have hd : decide (0 ≤ i ∧ i < d.strs.length) = true := by simpa using hi
  go_enter Tryd.func46, Tryd.ntmps46
  go_wp2_with fail
  refine (there_calls d p F i w h).mono ?_
  rw [hd]
  rintro e w' ⟨rfl, rfl⟩
  obtain ⟨bb, tv, pv, q, h1, h2, h3, h4, h5, h6, h7, h8, rfl⟩ := h
  rw [hl] at h4
  obtain ⟨b, rfl, rfl, hbx, _⟩ := h4
  have hc := h1.cell 2 _ rfl
  clear h1 h2 h3 h7 h8 hd hl
  go_wp2_with fail
  refine (failing1_no b _ hbx).mono ?_
  rintro e w' ⟨rfl, rfl⟩
  go_wp2
  go_ret
  exact ⟨rfl, rfl⟩

/-- 'append(l, r)' onto raw writes that are owned. -/
theorem appR {w : World} {ops : Array Oper} {rest : List Oper} {o : Oper} {a : Act} {Q : Exit → Act → World → Prop} (hgd : o.guard = none) (s x : Operand)
    (ho : o.op = .call { callee := .builtin .append, args := #[s, x], argTypes := #[55, 55] })
    (base : Nat) (v : Value) (n : Nat) (xs : List Value) (hs : a.eval s = v) (hown : w.ownsRow base 112 2 v n xs)
    (src : Value) (m : Nat) (news : List Value) (hx : a.eval x = src) (hsrc : Rd w src m news) (hl : news.length = m * 2) (h1 : ∀ u ∈ news, u.oneCell' = true)
    (hroom : n + m ≤ 1000000000000) (hbase : base ≤ w.heap.size)
    (h : ∀ v' w', w'.ownsRow base 112 2 v' (n + m) (xs ++ news) → w.grownBy w' v.ownBlock → Moved w v v' → wpList Tryd.prog ops Q rest (a.put o.dst v') w') : wpList Tryd.prog ops Q (o :: rest) a w := by
  obtain ⟨i0, hi, hz0, hz1, hz2⟩ := info_parts info_raw
  exact wpList_append_src hgd s x 55 ho base 112 i0 _ 2 24 Tryd.underlying55 hi hz0 hz1 hz2 rfl (by decide) v n xs hs hown src m news hx hsrc hl h1 (by unfold maxLen; omega) (by omega) hbase h
theorem rd_one (w : World) (cs : Array Value) (T : TypeId) : Rd (w.alloc (.cells cs T)) (.slice (some ⟨w.heap.size, 0, none⟩) 1 1) 1 cs.toList := by
  refine ⟨_, _, rfl, Nat.le_refl _, by omega, (fun h => by cases h), fun j hj => ⟨w.heap.size, 0, rfl, ?_⟩⟩
  rw [Nat.zero_add]
  refine (Box.new w cs T).cell j _ ?_
  rw [← Array.getElem?_toList, List.getD, List.getElem?_eq_getElem hj]; rfl
theorem rd_one' (w : World) (cs : Array Value) (T : TypeId) (b : Nat) (hb : w.heap.size = b) : Rd (w.alloc (.cells cs T)) (.slice (some ⟨b, 0, none⟩) 1 1) 1 cs.toList := by
  subst hb; exact rd_one w cs T
theorem oneC_raw (i : Int) (s : ByteArray) : ∀ u ∈ [Value.int .i64 i, .string s], u.oneCell' = true := by simp [Value.oneCell']
set_option maxHeartbeats 800000 in
theorem write_ok (d : DiskM) (p : Nat) (F : Nat → Prop) (i : Nat) (s : ByteArray) (w : World) (h : IsDisk w d p F) (hi : i < d.strs.length) (hs : s.size ≤ 256) (hl : d.left ≠ some 0) (ht : d.trail.length ≤ 100000000000) :
    Calls Tryd.prog 46 #[.pointer (some ⟨p, 0, none⟩), .int .i64 (i : Int), .string s] w fun e w' => e = .returned (errV 0) ∧
      ∃ F', IsDisk w' { strs := d.strs.set i s, trail := d.trail ++ [((i : Int), s)], left := d.left.map (· - 1) } p F' ∧ Mod F w w' ∧ ∀ k, F' k → F k ∨ w.heap.size ≤ k := by
  have hd : decide (0 ≤ (i : Int) ∧ (i : Int) < d.strs.length) = true := by simpa using hi
  go_enter Tryd.func46, Tryd.ntmps46
  go_wp2_with fail
  refine (there_calls d p F i w h).mono ?_
  rw [hd]
  rintro e w' ⟨rfl, rfl⟩
  clear hd
  have hFlt := h.lt
  obtain ⟨bb, tv, pv, q, h1, h2, h3, h4, h5, h6, h7, h8, rfl⟩ := h
  have hcp := h1.cell 2 _ rfl
  have hst : ∃ left', left' = d.left.map (· - 1) := ⟨_, rfl⟩
  obtain ⟨left', hleft⟩ := hst
  have Hleft := Lib.hid hleft
  have hpow : (∃ w1, w1 = w ∧ pv = .func (.func 14) #[] #[] ∧ q = none ∧ PowerAt w1 pv left' q ∧ Mod (fun k => q = some k) w w1) ∨
      (∃ (b n : Nat), q = some b ∧ pv = .func (.func 61) #[] #[.pointer (some ⟨b, 0, none⟩)] ∧ Box w b #[.int .i64 ((n : Int) + 1)] 3 ∧ n < 9223372036854775807 ∧ PowerAt (w.setCell ⟨b, 0, none⟩ (.int .i64 (n : Int))) pv left' q ∧ Mod (fun k => q = some k) w (w.setCell ⟨b, 0, none⟩ (.int .i64 (n : Int)))) := by
    rw [hleft]
    cases hlf : d.left with
    | none =>
      rw [hlf] at h4; obtain ⟨rfl, rfl⟩ := h4
      exact .inl ⟨w, rfl, rfl, rfl, ⟨rfl, rfl⟩, Mod.refl _ _⟩
    | some n =>
      rw [hlf] at h4; obtain ⟨b, rfl, rfl, hbx, hn⟩ := h4
      cases n with
      | zero => exact absurd hlf hl
      | succ n =>
        exact .inr ⟨b, n, rfl, rfl, by simpa using hbx, by omega, ⟨b, rfl, rfl, by simpa using hbx.set 0 (.int .i64 (n : Int)), by simp; omega⟩, Mod.set _ _ _ _ rfl⟩
  clear h4 hl hleft
  have hrest : ∀ w1, PowerAt w1 pv left' q → Mod (fun k => q = some k) w w1 → Box w1 p #[.slice (some ⟨bb, 0, none⟩) d.strs.length d.strs.length, tv, pv] 61 ∧ Box w1 bb (d.strs.map Value.string).toArray 9 ∧ w1.ownsRow 0 112 2 tv d.trail.length (flatRaws d.trail) := fun w1 _ hm =>
    ⟨h1.mod hm (fun e => (h8 p e).1 rfl), h2.mod hm (fun e => (h8 bb e).2.1 rfl), own_mod h3 hm (fun k hk e => (h8 k e).2.2 hk)⟩
  have Hrest := Lib.hid hrest
  clear hrest
  rcases hpow with ⟨w1, rfl, rfl, rfl, hP1, hM1⟩ | ⟨b, n, rfl, rfl, hbx, hn, hP1, hM1⟩
  · go_wp2_with fail
    refine (always_calls _).mono ?_
    rintro e w2 ⟨rfl, rfl⟩
    obtain ⟨k1, k2, k3⟩ := Hrest.out _ hP1 hM1
    clear h1 h2 h3 Hrest hcp
    have hc0 := k1.cell 0 _ rfl
    have hc1 := k1.cell 1 _ rfl
    have hfp := k1.free 1
    have hold := k2.cell i (.string (d.strs.getD i ByteArray.empty)) (by simp [hi])
    have hfb := k2.free i
    have m2 : Mod (fun k => k = bb) w1 (w1.setCell ⟨bb, i, none⟩ (.string s)) := Mod.set _ _ _ _ rfl
    have k1' := k1.mod m2 (fun e => h6 e.symm)
    have k2' := k2.set i (.string s)
    have k3' := own_mod k3 m2 (fun k hk e => (h7 k hk).2 e)
    have hP2 := hP1.mod m2 (fun k hk e => (h8 k hk).2.1 e)
    have m3 : Mod (fun k => k = bb) w1 ((w1.setCell ⟨bb, i, none⟩ (.string s)).alloc (.cells #[.int .i64 (i : Int), .string s] 112)) := m2.trans (Mod.alloc _ _ _)
    have k1'' := k1'.below (below_alloc _ (.cells #[.int .i64 (i : Int), .string s] 112))
    have k2'' := k2'.below (below_alloc _ (.cells #[.int .i64 (i : Int), .string s] 112))
    have hP3 := hP2.mod (Mod.alloc (fun _ => False) _ (.cells #[.int .i64 (i : Int), .string s] 112)) (fun _ _ h => h)
    have Hk3 := Lib.hid k3'
    have hW1 : w1.heap.size ≤ ((w1.setCell ⟨bb, i, none⟩ (.string s)).alloc (.cells #[.int .i64 (i : Int), .string s] 112)).heap.size := by simp
    clear k1 k2 k3 k3' k1' k2' hP1 hP2 m2
    go_wp2_with (at_builtin; refine appR rfl _ _ rfl 0 _ _ _ rfl (Hk3.out.alloc _) _ 1 [.int .i64 (i : Int), .string s] rfl (rd_one' _ _ _ _ (by simp)) rfl (oneC_raw _ _) (by omega) (Nat.zero_le _) ?_)
    intro v' w3 hv3 hg3 hm3
    have hgm : ∀ k, tv.ownBlock = some k → tv.ownBlock = some k := fun _ h => h
    have m4 := Mod.of_grown (F := fun k => tv.ownBlock = some k) hg3 hgm
    have l1 := k1''.mod m4 (fun e => (h7 p e).1 rfl)
    have l2 := k2''.mod m4 (fun e => (h7 bb e).2 rfl)
    have l4 := hP3.mod m4 (fun k hk e => (h8 k hk).2.2 e)
    have hnew : ∀ k, v'.ownBlock = some k → tv.ownBlock = some k ∨ w1.heap.size ≤ k := fun k hk => by
      rcases hm3 with e | e
      · left; rw [← e]; exact hk
      · right; rw [e] at hk; injection hk with hk; omega
    have hsz3 := hg3.size
    have hpw : p < w1.heap.size ∧ bb < w1.heap.size := ⟨Nat.lt_of_lt_of_le (hFlt p (.inl rfl)) hM1.size, Nat.lt_of_lt_of_le (hFlt bb (.inr (.inl rfl))) hM1.size⟩
    have hc3 := l1.cell 1 _ rfl
    have hf3 := l1.free 1
    clear hc0 hc1 hfp hold hfb k1'' k2'' hP3 hg3 hm3 Hk3
    obtain ⟨va, vc, hve, _, _⟩ := own_form hv3
    subst hve
    go_wp2
    go_ret
    refine ⟨rfl, diskF p bb _ none, ⟨bb, _, _, none, by simpa using l1.set 1 (.slice va (d.trail.length + 1) vc), ?_, ?_, ?_, by simpa using h5, h6, ?_, ?_, rfl⟩, ?_, ?_⟩
    · have := l2.set_other (p := ⟨p, 1, none⟩) (fun e => h6 e.symm) (.slice va (d.trail.length + 1) vc)
      simpa [List.map_set] using this
    · have := own_mod hv3 (Mod.set (fun k => k = p) w3 ⟨p, 1, none⟩ (.slice va (d.trail.length + 1) vc) rfl) (fun k hk e => by
        rcases hnew k hk with h | h
        · exact (h7 k h).1 e
        · omega)
      rw [flatRaws_append]
      simpa [flatRaws] using this
    · rw [← Hleft.out]
      exact l4.mod (Mod.set (fun k => k = p) w3 ⟨p, 1, none⟩ (.slice va (d.trail.length + 1) vc) rfl) (fun k hk e => (h8 k hk).1 e)
    · intro k hk
      rcases hnew k hk with h | h
      · exact h7 k h
      · exact ⟨by omega, by omega⟩
    · intro k hk
      refine ⟨(h8 k hk).1, (h8 k hk).2.1, fun e => ?_⟩
      rcases hnew k e with h | h
      · exact (h8 k hk).2.2 h
      · have := Nat.lt_of_lt_of_le (hFlt k (.inr (.inr (.inr hk)))) hM1.size
        omega
    · refine (hM1.mono (fun k hk => .inr (.inr (.inr hk)))).trans ((m3.mono (fun k hk => .inr (.inl hk))).trans ((m4.mono (fun k hk => .inr (.inr (.inl hk)))).trans (Mod.set _ _ _ _ (.inl rfl))))
    · rintro k (h | h | h | h)
      · exact .inl (.inl h)
      · exact .inl (.inr (.inl h))
      · rcases hnew k h with h' | h'
        · exact .inl (.inr (.inr (.inl h')))
        · exact .inr (Nat.le_trans hM1.size h')
      · exact .inl (.inr (.inr (.inr h)))
  · go_wp2_with fail
    refine (failing1_yes b n _ hbx hn).mono ?_
    rintro e w2 ⟨rfl, rfl⟩
    obtain ⟨k1, k2, k3⟩ := Hrest.out _ hP1 hM1
    clear h1 h2 h3 Hrest hcp hbx
    obtain ⟨w1, hw1⟩ : ∃ w1, w1 = w.setCell ⟨b, 0, none⟩ (.int .i64 (n : Int)) := ⟨_, rfl⟩
    rw [← hw1] at hP1 hM1 k1 k2 k3 ⊢
    clear hw1
    have hc0 := k1.cell 0 _ rfl
    have hc1 := k1.cell 1 _ rfl
    have hfp := k1.free 1
    have hold := k2.cell i (.string (d.strs.getD i ByteArray.empty)) (by simp [hi])
    have hfb := k2.free i
    have m2 : Mod (fun k => k = bb) w1 (w1.setCell ⟨bb, i, none⟩ (.string s)) := Mod.set _ _ _ _ rfl
    have k1' := k1.mod m2 (fun e => h6 e.symm)
    have k2' := k2.set i (.string s)
    have k3' := own_mod k3 m2 (fun k hk e => (h7 k hk).2 e)
    have hP2 := hP1.mod m2 (fun k hk e => (h8 k hk).2.1 e)
    have m3 : Mod (fun k => k = bb) w1 ((w1.setCell ⟨bb, i, none⟩ (.string s)).alloc (.cells #[.int .i64 (i : Int), .string s] 112)) := m2.trans (Mod.alloc _ _ _)
    have k1'' := k1'.below (below_alloc _ (.cells #[.int .i64 (i : Int), .string s] 112))
    have k2'' := k2'.below (below_alloc _ (.cells #[.int .i64 (i : Int), .string s] 112))
    have hP3 := hP2.mod (Mod.alloc (fun _ => False) _ (.cells #[.int .i64 (i : Int), .string s] 112)) (fun _ _ h => h)
    have Hk3 := Lib.hid k3'
    have hW1 : w1.heap.size ≤ ((w1.setCell ⟨bb, i, none⟩ (.string s)).alloc (.cells #[.int .i64 (i : Int), .string s] 112)).heap.size := by simp
    clear k1 k2 k3 k3' k1' k2' hP1 hP2 m2
    go_wp2_with (at_builtin; refine appR rfl _ _ rfl 0 _ _ _ rfl (Hk3.out.alloc _) _ 1 [.int .i64 (i : Int), .string s] rfl (rd_one' _ _ _ _ (by simp)) rfl (oneC_raw _ _) (by omega) (Nat.zero_le _) ?_)
    intro v' w3 hv3 hg3 hm3
    have hgm : ∀ k, tv.ownBlock = some k → tv.ownBlock = some k := fun _ h => h
    have m4 := Mod.of_grown (F := fun k => tv.ownBlock = some k) hg3 hgm
    have l1 := k1''.mod m4 (fun e => (h7 p e).1 rfl)
    have l2 := k2''.mod m4 (fun e => (h7 bb e).2 rfl)
    have l4 := hP3.mod m4 (fun k hk e => (h8 k hk).2.2 e)
    have hnew : ∀ k, v'.ownBlock = some k → tv.ownBlock = some k ∨ w1.heap.size ≤ k := fun k hk => by
      rcases hm3 with e | e
      · left; rw [← e]; exact hk
      · right; rw [e] at hk; injection hk with hk; omega
    have hsz3 := hg3.size
    have hpw : p < w1.heap.size ∧ bb < w1.heap.size := ⟨Nat.lt_of_lt_of_le (hFlt p (.inl rfl)) hM1.size, Nat.lt_of_lt_of_le (hFlt bb (.inr (.inl rfl))) hM1.size⟩
    have hc3 := l1.cell 1 _ rfl
    have hf3 := l1.free 1
    clear hc0 hc1 hfp hold hfb k1'' k2'' hP3 hg3 hm3 Hk3
    obtain ⟨va, vc, hve, _, _⟩ := own_form hv3
    subst hve
    go_wp2
    go_ret
    refine ⟨rfl, diskF p bb _ (some b), ⟨bb, _, _, some b, by simpa using l1.set 1 (.slice va (d.trail.length + 1) vc), ?_, ?_, ?_, by simpa using h5, h6, ?_, ?_, rfl⟩, ?_, ?_⟩
    · have := l2.set_other (p := ⟨p, 1, none⟩) (fun e => h6 e.symm) (.slice va (d.trail.length + 1) vc)
      simpa [List.map_set] using this
    · have := own_mod hv3 (Mod.set (fun k => k = p) w3 ⟨p, 1, none⟩ (.slice va (d.trail.length + 1) vc) rfl) (fun k hk e => by
        rcases hnew k hk with h | h
        · exact (h7 k h).1 e
        · omega)
      rw [flatRaws_append]
      simpa [flatRaws] using this
    · rw [← Hleft.out]
      exact l4.mod (Mod.set (fun k => k = p) w3 ⟨p, 1, none⟩ (.slice va (d.trail.length + 1) vc) rfl) (fun k hk e => (h8 k hk).1 e)
    · intro k hk
      rcases hnew k hk with h | h
      · exact h7 k h
      · exact ⟨by omega, by omega⟩
    · intro k hk
      refine ⟨(h8 k hk).1, (h8 k hk).2.1, fun e => ?_⟩
      rcases hnew k e with h | h
      · exact (h8 k hk).2.2 h
      · have := Nat.lt_of_lt_of_le (hFlt k (.inr (.inr (.inr hk)))) hM1.size
        omega
    · refine (hM1.mono (fun k hk => .inr (.inr (.inr hk)))).trans ((m3.mono (fun k hk => .inr (.inl hk))).trans ((m4.mono (fun k hk => .inr (.inr (.inl hk)))).trans (Mod.set _ _ _ _ (.inl rfl))))
    · rintro k (h | h | h | h)
      · exact .inl (.inl h)
      · exact .inl (.inr (.inl h))
      · rcases hnew k h with h' | h'
        · exact .inl (.inr (.inr (.inl h')))
        · exact .inr (Nat.le_trans hM1.size h')
      · exact .inl (.inr (.inr (.inr h)))
end Go.Proofs.YtjoadcgegobjpaaDoor
/-
  The walks of package disk, the rest.
-/
namespace Go.Proofs.YtjoadcgegobjpaaDoor
open Go.RowKit

theorem new_no (n : Int) (w : World) (h : n < 1 ∨ 4096 < n) : Calls Tryd.prog 6 #[.int .i64 n] w fun e w' => e = .returned (.tuple #[.pointer none, errV 1]) ∧ w = w' := by
  by_cases h1 : n < 1
  · go_enter Tryd.func6, Tryd.ntmps6
    go_wp2
    go_ret2
    exact ⟨rfl, rfl⟩
  · have h2 : 4096 < n := by omega
    go_enter Tryd.func6, Tryd.ntmps6
    go_wp2
    go_ret2
    exact ⟨rfl, rfl⟩
theorem replicate_map (n : Nat) : ((List.replicate n ByteArray.empty).map Value.string).toArray = madeCells #[.string ByteArray.empty] n := by
  rw [List.map_replicate, ← toList_madeCells_one, Array.toArray_toList]
theorem make_str (n : Nat) (hn : n ≤ 4096) (w : World) : (Instr.makeSlice 59 (.int .i64 (n : Int)) (.int .i64 (n : Int))).run Tryd.prog w =
    .ok (.slice (some ⟨w.heap.size, 0, none⟩) n n) (w.alloc (.cells (madeCells #[.string ByteArray.empty] n) 9)) := by
  obtain ⟨i0, hi, hz0, hz1, hz2⟩ := info_parts info_str
  have h := run_make (P := Tryd.prog) w 59 9 i0 (.string ByteArray.empty) Tryd.underlying59 hi hz0 .i64 .i64 (n : Int) (n : Int) (by omega) (Int.le_refl _) (by rw [hz2]; omega) (by omega)
  simpa [hz1, Value.cells] using h
set_option maxHeartbeats 400000 in
theorem new_yes (n : Nat) (w : World) (h1 : 1 ≤ n) (h2 : n ≤ 4096) : Calls Tryd.prog 6 #[.int .i64 (n : Int)] w fun e w' => ∃ p F, e = .returned (.tuple #[.pointer (some ⟨p, 0, none⟩), errV 0]) ∧
    IsDisk w' { strs := List.replicate n ByteArray.empty, trail := [], left := none } p F ∧ Below w.heap.size w w' ∧ ∀ k, F k → w.heap.size ≤ k := by
  have hmk := make_str n h2
  go_enter Tryd.func6, Tryd.ntmps6
  go_wp2
  go_ret2
  refine ⟨w.heap.size + 1, _, rfl, ⟨w.heap.size, .slice none 0 0, _, none, ?_, ?_, World.ownsRow_nil _ _ _ _, ⟨rfl, rfl⟩, by simpa using h2, by simp, fun k hk => by simp [Value.ownBlock] at hk, fun k hk => by simp at hk, rfl⟩, by go_grown, ?_⟩
  · have := Box.new (w.alloc (.cells (madeCells #[.string ByteArray.empty] n) 9)) #[.slice (some ⟨w.heap.size, 0, none⟩) n n, .slice none 0 0, .func (.func 14) #[] #[]] 61
    simpa using this
  · have := (Box.new w (madeCells #[.string ByteArray.empty] n) 9)
    rw [replicate_map]
    exact this.below (below_alloc _ _)
  · rintro k (h | h | h | h)
    · omega
    · omega
    · simp [Value.ownBlock] at h
    · cases h
/-- A disk whose power is another. -/
theorem IsDisk.power {w : World} {d : DiskM} {p : Nat} {F : Nat → Prop} (h : IsDisk w d p F) (pv : Value) (left : Option Nat) (q : Option Nat) (hP : PowerAt w pv left q) (hq : ∀ k, q = some k → ¬ F k) :
    ∃ F', IsDisk (w.setCell ⟨p, 2, none⟩ pv) { d with left := left } p F' ∧ Mod F w (w.setCell ⟨p, 2, none⟩ pv) ∧ ∀ k, F' k → F k ∨ q = some k := by
  obtain ⟨bb, tv, pv0, q0, h1, h2, h3, h4, h5, h6, h7, h8, rfl⟩ := h
  refine ⟨diskF p bb tv q, ⟨bb, tv, pv, q, by simpa using h1.set 2 pv, h2.set_other (fun e => h6 e.symm) pv, own_mod h3 (Mod.set (fun k => k = p) w ⟨p, 2, none⟩ pv rfl) (fun k hk e => (h7 k hk).1 e), hP.mod (Mod.set (fun k => k = p) w ⟨p, 2, none⟩ pv rfl) (fun k hk e => hq k hk (.inl e)), h5, h6, h7, fun k hk => ⟨fun e => hq k hk (.inl e), fun e => hq k hk (.inr (.inl e)), fun e => hq k hk (.inr (.inr (.inl e)))⟩, rfl⟩, Mod.set _ _ _ _ (.inl rfl), ?_⟩
  rintro k (h | h | h | h)
  · exact .inl (.inl h)
  · exact .inl (.inr (.inl h))
  · exact .inl (.inr (.inr (.inl h)))
  · exact .inr h
theorem IsDisk.cells {w : World} {d : DiskM} {p : Nat} {F : Nat → Prop} (h : IsDisk w d p F) : F p ∧ ∃ c0 c1 c2, Box w p #[c0, c1, c2] 61 := by
  obtain ⟨bb, tv, pv0, q0, h1, h2, h3, h4, h5, h6, h7, h8, rfl⟩ := h
  exact ⟨.inl rfl, _, _, _, h1⟩
theorem failing_calls (n : Nat) (w : World) : Calls Tryd.prog 43 #[.int .i64 (n : Int)] w fun e w' => e = .returned (.func (.func 61) #[] #[.pointer (some ⟨w.heap.size, 0, none⟩)]) ∧ w' = w.alloc (.cells #[.int .i64 (n : Int)] 3) := by
  have hmf : ∀ (fn : Fn) (first cap : Array Value) (w : World), (Instr.makeFunc fn first cap).run Tryd.prog w = .ok (.func fn first cap) w := fun _ _ _ _ => rfl
  go_enter Tryd.func43, Tryd.ntmps43
  go_wp2
  go_ret
  exact ⟨rfl, rfl⟩
set_option maxHeartbeats 400000 in
theorem cut_calls (d : DiskM) (p : Nat) (F : Nat → Prop) (n : Int) (w : World) (h : IsDisk w d p F) (hn : n ≤ 9223372036854775807) :
    Calls Tryd.prog 20 #[.pointer (some ⟨p, 0, none⟩), .int .i64 n] w fun e w' => e = .returned (.tuple #[]) ∧ ∃ F', IsDisk w' { d with left := if n < 0 then none else some n.toNat } p F' ∧ Mod F w w' ∧ ∀ k, F' k → F k ∨ w.heap.size ≤ k := by
  obtain ⟨F1, g1, g2, g3⟩ := h.power (.func (.func 14) #[] #[]) none none ⟨rfl, rfl⟩ (fun k hk => by cases hk)
  obtain ⟨_, c0, c1, c2, hb⟩ := h.cells
  have hc := hb.cell 2 _ rfl
  have hf := hb.free 2
  have hFlt := h.lt
  clear h hb
  by_cases h0 : n < 0
  · go_enter Tryd.func20, Tryd.ntmps20
    go_wp2
    go_end0
    refine ⟨rfl, F1, by simpa [h0] using g1, g2, fun k hk => ?_⟩
    rcases g3 k hk with h | h
    · exact .inl h
    · cases h
  · obtain ⟨m, rfl⟩ := Int.eq_ofNat_of_zero_le (show 0 ≤ n by omega)
    go_enter Tryd.func20, Tryd.ntmps20
    go_wp2_with fail
    refine (failing_calls m _).mono ?_
    rintro e w' ⟨rfl, rfl⟩
    have hsz : (w.setCell ⟨p, 2, none⟩ (.func (.func 14) #[] #[])).heap.size = w.heap.size := by simp
    have hnew := Box.new (w.setCell ⟨p, 2, none⟩ (.func (.func 14) #[] #[])) #[.int .i64 (m : Int)] 3
    have g4 := g1.mod (Mod.alloc (fun _ => False) _ (.cells #[.int .i64 (m : Int)] 3)) (fun _ _ h => h)
    obtain ⟨F2, k1, k2, k3⟩ := g4.power (.func (.func 61) #[] #[.pointer (some ⟨w.heap.size, 0, none⟩)]) (some m) (some w.heap.size) ⟨w.heap.size, rfl, rfl, by rw [← hsz]; exact hnew, by omega⟩ (fun k hk hF => by
      injection hk with hk; subst hk
      rcases g3 _ hF with h | h
      · have := hFlt _ h; omega
      · cases h)
    obtain ⟨_, d0, d1, d2, hb2⟩ := g4.cells
    have hd := hb2.cell 2 _ rfl
    have hfd := hb2.free 2
    have hsz2 : ((w.setCell ⟨p, 2, none⟩ (.func (.func 14) #[] #[])).alloc (.cells #[.int .i64 (m : Int)] 3)).heap.size = w.heap.size + 1 := by simp
    have m1 : Mod F w ((w.setCell ⟨p, 2, none⟩ (.func (.func 14) #[] #[])).alloc (.cells #[.int .i64 (m : Int)] 3)) := g2.trans (Mod.alloc _ _ _)
    have G1 := Lib.hid g1
    clear g1 g4 hnew hb2 hc hf
    rw [hsz]
    clear hsz
    obtain ⟨w2, hw2⟩ : ∃ w2, w2 = (w.setCell ⟨p, 2, none⟩ (.func (.func 14) #[] #[])).alloc (.cells #[.int .i64 (m : Int)] 3) := ⟨_, rfl⟩
    rw [← hw2] at k1 k2 hd hfd hsz2 m1 ⊢
    clear hw2
    have hsz3 : w.heap.size ≤ w2.heap.size := by omega
    clear hsz2
    go_wp2
    go_end0
    refine ⟨rfl, F2, by simpa [h0] using k1, ?_, fun k hk => ?_⟩
    · refine m1.then k2 (fun i hi => ?_)
      rcases g3 i hi with h | h
      · exact .inl h
      · cases h
    · rcases k3 k hk with h | h
      · rcases g3 k h with h | h
        · exact .inl h
        · cases h
      · injection h with h; right; omega
/-- slices.Clone of raw writes. -/
theorem clone_calls (src : Value) (n : Nat) (xs : List Value) (w : World) (hsrc : Rd w src n xs) (hl : xs.length = n * 2) (h1 : ∀ u ∈ xs, u.oneCell' = true) (hn : n ≤ 1000000000000) :
    Calls Tryd.prog 50 #[src] w fun e w' => ∃ a c, e = .returned (.slice a n c) ∧ w'.ownsRow w.heap.size 112 2 (.slice a n c) n xs ∧ Below w.heap.size w w' := by
  have hs0 := hsrc
  obtain ⟨a, cap, rfl, hc1, hc2, hnil, _⟩ := hsrc
  have hq := fun w => Lib.run_eql_slice_nil (P := Tryd.prog) w 55 112 a n cap 0 0 Tryd.underlying55
  cases a with
  | none =>
    have hc0 := hnil rfl
    have hn0 : n = 0 := by omega
    subst hn0; subst hc0
    have : xs = [] := List.eq_nil_of_length_eq_zero (by simpa using hl)
    subst this
    clear hnil
    go_enter Tryd.func50, Tryd.ntmps50
    go_wp2
    go_ret
    exact ⟨_, _, rfl, World.ownsRow_nil _ _ _ _, Below.refl _ _⟩
  | some a =>
    have hown : (w.alloc (.cells #[] 112)).ownsRow w.heap.size 112 2 (.slice (some ⟨w.heap.size, 0, none⟩) 0 0) 0 [] := World.ownsRow_made w #[] 0 (Nat.le_refl _) (by decide) rfl
    have Hown := Lib.hid hown
    clear hown hnil
    go_enter Tryd.func50, Tryd.ntmps50
    go_wp2_with (at_builtin; go_loud (refine appR rfl _ _ rfl w.heap.size _ _ _ rfl Hown.out _ n xs rfl (hs0.below (below_alloc _ _)) hl h1 (by omega) (by simp) ?_))
    intro v' w1 hv' hg' _
    obtain ⟨va, vc, rfl, _, _⟩ := own_form hv'
    go_wp2
    go_ret
    exact ⟨va, vc, by simp, by simpa using hv', (below_alloc _ _).trans (below_of_grown hg' (B := w.heap.size) (by simp) (fun k hk => (Hown.out.lt k hk).1))⟩
theorem flatRaws_one (l : List (Int × ByteArray)) : ∀ u ∈ flatRaws l, u.oneCell' = true := by
  intro u hu
  obtain ⟨r, _, hr⟩ := List.mem_flatMap.1 hu
  simp at hr
  rcases hr with rfl | rfl <;> simp [Value.oneCell']
theorem trail_calls (d : DiskM) (p : Nat) (F : Nat → Prop) (w : World) (h : IsDisk w d p F) (hn : d.trail.length ≤ 1000000000000) :
    Calls Tryd.prog 30 #[.pointer (some ⟨p, 0, none⟩)] w fun e w' => ∃ a c, e = .returned (.slice a d.trail.length c) ∧ w'.ownsRow w.heap.size 112 2 (.slice a d.trail.length c) d.trail.length (flatRaws d.trail) ∧ Below w.heap.size w w' := by
  obtain ⟨bb, tv, pv, q, h1, h2, h3, h4, h5, h6, h7, h8, rfl⟩ := h
  have hrd := rd_of_own h3
  obtain ⟨ta, tc, rfl, _, _⟩ := own_form h3
  have hc := h1.cell 1 _ rfl
  clear h1 h2 h3 h4 h7 h8
  go_enter Tryd.func30, Tryd.ntmps30
  go_wp2_with fail
  refine (clone_calls _ _ _ _ hrd (flatRaws_length _) (flatRaws_one _) hn).mono ?_
  rintro e w' ⟨oa, oc, rfl, hown, hb⟩
  go_wp2
  go_ret
  exact ⟨_, _, rfl, hown, hb⟩
theorem playRaws_length (l : List (Int × ByteArray)) : ∀ strs : List ByteArray, (l.foldl (fun s r => s.set r.1.toNat r.2) strs).length = strs.length := by
  induction l with
  | nil => intro _; rfl
  | cons a l ih => intro strs; rw [List.foldl_cons, ih]; simp
theorem flatRaws_get (l : List (Int × ByteArray)) (k : Nat) (h : k < l.length) : (flatRaws l)[k * 2]? = some (.int .i64 l[k].1) ∧ (flatRaws l)[k * 2 + 1]? = some (.string l[k].2) := by
  induction l generalizing k with
  | nil => simp at h
  | cons a l ih =>
    cases k with
    | zero => simp [flatRaws]
    | succ k =>
      have := ih k (by simpa using h)
      have e : flatRaws (a :: l) = .int .i64 a.1 :: .string a.2 :: flatRaws l := by simp [flatRaws]
      rw [e, show (k + 1) * 2 = k * 2 + 1 + 1 by omega, show (k * 2 + 1 + 1) + 1 = (k * 2 + 1) + 1 + 1 by omega]
      simpa using this
theorem raw_at (l : List (Int × ByteArray)) (k : Nat) (h : k < l.length) : ∃ (b : Int) (s : ByteArray), l.take (k + 1) = l.take k ++ [(b, s)] ∧ (flatRaws l)[k * 2]? = some (.int .i64 b) ∧ (flatRaws l)[k * 2 + 1]? = some (.string s) ∧ (b, s) ∈ l := by
  obtain ⟨h1, h2⟩ := flatRaws_get l k h
  exact ⟨l[k].1, l[k].2, by rw [List.take_succ_eq_append_getElem h], h1, h2, List.getElem_mem h⟩
/-- The texts behind raw writes. -/
def playRaws (strs : List ByteArray) (l : List (Int × ByteArray)) : List ByteArray := l.foldl (fun s r => s.set r.1.toNat r.2) strs
end Go.Proofs.YtjoadcgegobjpaaDoor
/-
  What holds of every disk that calls have made.
-/
namespace Go.Proofs.YtjoadcgegobjpaaDoor
open Go.RowKit

/-- What holds of every disk that calls have made. -/
structure DiskM.Wf (d : DiskM) : Prop where
  inr : ∀ r ∈ d.trail, 0 ≤ r.1 ∧ r.1 < d.strs.length
  short : ∀ r ∈ d.trail, r.2.size ≤ 256
  play : d.strs = playRaws (List.replicate d.strs.length ByteArray.empty) d.trail
theorem playRaws_snoc (s : List ByteArray) (l : List (Int × ByteArray)) (r : Int × ByteArray) : playRaws s (l ++ [r]) = (playRaws s l).set r.1.toNat r.2 := by simp [playRaws]
theorem playRaws_len (s : List ByteArray) (l : List (Int × ByteArray)) : (playRaws s l).length = s.length := playRaws_length l s
theorem DiskM.write_len (d : DiskM) (i : Int) (s : ByteArray) : (d.write i s).1.strs.length = d.strs.length := by
  unfold DiskM.write; split
  · rfl
  split
  · rfl
  split
  · rfl
  · simp
theorem DiskM.Wf.write {d : DiskM} (h : d.Wf) (i : Int) (s : ByteArray) : (d.write i s).1.Wf := by
  unfold DiskM.write; split
  · exact h
  rename_i h1
  split
  · exact h
  rename_i h2
  split
  · exact h
  refine ⟨fun r hr => ?_, fun r hr => ?_, ?_⟩
  · simp only [List.mem_append, List.mem_singleton, List.length_set] at hr ⊢
    rcases hr with hr | rfl
    · exact h.inr r hr
    · simp only; omega
  · simp only [List.mem_append, List.mem_singleton] at hr
    rcases hr with hr | rfl
    · exact h.short r hr
    · simp only; omega
  · simp only [List.length_set]
    rw [playRaws_snoc, ← h.play]
theorem DiskM.Wf.new (n : Nat) (left : Option Nat) : ({ strs := List.replicate n ByteArray.empty, trail := [], left := left } : DiskM).Wf :=
  ⟨fun r hr => by simp at hr, fun r hr => by simp at hr, by simp [playRaws]⟩
theorem DiskM.write_trail (d : DiskM) (i : Int) (s : ByteArray) : (d.write i s).1.trail.length ≤ d.trail.length + 1 ∧ d.trail.length ≤ (d.write i s).1.trail.length := by
  unfold DiskM.write
  split
  · exact ⟨Nat.le_succ _, Nat.le_refl _⟩
  split
  · exact ⟨Nat.le_succ _, Nat.le_refl _⟩
  split
  · exact ⟨Nat.le_succ _, Nat.le_refl _⟩
  · simp
/-- A raw write, whatever it comes to. -/
theorem write_any (d : DiskM) (p : Nat) (F : Nat → Prop) (i : Int) (s : ByteArray) (w : World) (h : IsDisk w d p F) (ht : d.trail.length ≤ 100000000000) (hs : s.size ≤ 9223372036854775807) :
    Calls Tryd.prog 46 #[.pointer (some ⟨p, 0, none⟩), .int .i64 i, .string s] w fun e w' => e = .returned (errV (d.write i s).2) ∧
      ∃ F', IsDisk w' (d.write i s).1 p F' ∧ Mod F w w' ∧ ∀ k, F' k → F k ∨ w.heap.size ≤ k := by
  unfold DiskM.write
  by_cases h1 : 0 ≤ i ∧ i < d.strs.length
  · rw [if_neg (by simpa using h1)]
    by_cases h2 : 256 < s.size
    · rw [if_pos h2]
      refine (write_long d p F i s w h h1 h2).mono ?_
      rintro e w' ⟨rfl, rfl⟩
      exact ⟨rfl, F, h, Mod.refl _ _, fun k hk => .inl hk⟩
    · rw [if_neg h2]
      by_cases h3 : d.left = some 0
      · rw [if_pos h3]
        refine (write_power d p F i s w h h1 (by omega) h3).mono ?_
        rintro e w' ⟨rfl, rfl⟩
        exact ⟨rfl, F, h, Mod.refl _ _, fun k hk => .inl hk⟩
      · rw [if_neg h3]
        obtain ⟨n, rfl⟩ := Int.eq_ofNat_of_zero_le h1.1
        exact write_ok d p F n s w h (by omega) (by omega) h3 ht
  · rw [if_pos h1]
    refine (write_arg d p F i s w h h1).mono ?_
    rintro e w' ⟨rfl, rfl⟩
    exact ⟨rfl, F, h, Mod.refl _ _, fun k hk => .inl hk⟩
/-- Two things stay apart where one of them grows by new blocks. -/
theorem apart_grow {F F' G : Nat → Prop} {n : Nat} (h : ∀ k, F k → ¬ G k) (hG : ∀ k, G k → k < n) (hF : ∀ k, F' k → F k ∨ n ≤ k) : ∀ k, F' k → ¬ G k := fun k hk hg => by
  rcases hF k hk with h1 | h1
  · exact h k h1 hg
  · have := hG k hg; omega
/-- A list of raw writes, one behind the other. -/
def DiskM.writes (d : DiskM) (l : List (Int × ByteArray)) : DiskM := l.foldl (fun d r => (d.write r.1 r.2).1) d
theorem DiskM.writes_wf {d : DiskM} (h : d.Wf) (l : List (Int × ByteArray)) : (d.writes l).Wf := by
  induction l generalizing d with
  | nil => exact h
  | cons a l ih => exact ih (h.write a.1 a.2)
theorem DiskM.writes_len (d : DiskM) (l : List (Int × ByteArray)) : (d.writes l).strs.length = d.strs.length ∧ (d.writes l).trail.length ≤ d.trail.length + l.length := by
  induction l generalizing d with
  | nil => exact ⟨rfl, Nat.le_refl _⟩
  | cons a l ih =>
    have h := ih (d.write a.1 a.2).1
    have h2 := d.write_trail a.1 a.2
    have h3 := d.write_len a.1 a.2
    refine ⟨h.1.trans h3, ?_⟩
    have h4 := h.2
    show ((d.write a.1 a.2).1.writes l).trail.length ≤ _
    rw [List.length_cons]; omega
theorem DiskM.write_left {d : DiskM} (h : d.left = none) (i : Int) (s : ByteArray) : (d.write i s).1.left = none := by
  unfold DiskM.write
  split
  · exact h
  split
  · exact h
  split
  · exact h
  · simp [h]
theorem DiskM.writes_left {d : DiskM} (h : d.left = none) (l : List (Int × ByteArray)) : (d.writes l).left = none := by
  induction l generalizing d with
  | nil => exact h
  | cons a l ih => exact ih (DiskM.write_left h a.1 a.2)
theorem flatRaws_at (l : List (Int × ByteArray)) (k : Nat) (h : k < l.length) : (flatRaws l).getD (k * 2) undef = .int .i64 (l.getD k (0, ByteArray.empty)).1 ∧ (flatRaws l).getD (k * 2 + 1) undef = .string (l.getD k (0, ByteArray.empty)).2 := by
  obtain ⟨h1, h2⟩ := flatRaws_get l k h
  exact ⟨by rw [List.getD, h1]; simp [h], by rw [List.getD, h2]; simp [h]⟩
end Go.Proofs.YtjoadcgegobjpaaDoor
