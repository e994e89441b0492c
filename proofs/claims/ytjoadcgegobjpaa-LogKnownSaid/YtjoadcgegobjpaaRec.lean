/-
  The walks of package record: number, head.
-/
import Derived.Test.YtjoadcgegobjpaaSumP
import Derived.Test.YtjoadcgegobjpaaRecMath
import Derived.Outline
import Derived.Deep.LoopGhost
namespace Go.Proofs.Ytjoadcgegobjpaa
open Go.RowKit

theorem le_snoc (m n : Nat) : le m (n + 1) = le m n ++ [UInt8.ofNat (m / 256 ^ n)] := by
  induction n generalizing m with
  | zero => simp [le]
  | succ n ih => rw [le, ih (m / 256), le, List.cons_append, Nat.div_div_eq_div_mul, Nat.pow_succ, Nat.mul_comm (256 ^ n)]
theorem V8_ofNat (m : Nat) : V8 (UInt8.ofNat m) = .int .u8 ((m : Int) % 256) := by
  unfold V8
  have : (UInt8.ofNat m).toNat = m % 256 := by show m % 2 ^ 8 = _; rfl
  rw [this]; congr 1
set_option maxHeartbeats 400000 in
theorem number_calls (B : Nat) (v : Value) (xs : List UInt8) (m n : Nat) (w : World) (hv : w.ownsRow B 5 1 v xs.length (xs.map V8)) (hB : B ≤ w.heap.size) (hm : m < 4294967296) (hn : n ≤ 4) (hx : xs.length ≤ 140737488355000) :
    Calls Try.prog 37 #[v, .int .u32 (m : Int), .int .i64 (n : Int)] w fun e w' => ∃ v', e = .returned v' ∧ w'.ownsRow B 5 1 v' (xs.length + n) ((xs ++ le m n).map V8) ∧ Below B w w' := by
  obtain ⟨va, vc, rfl, _⟩ : ∃ a c, v = .slice a xs.length c ∧ True := by
    rcases hv.2 with ⟨rfl, h0⟩ | ⟨g, cap, cur, rfl, _⟩
    · exact ⟨_, _, by rw [h0], trivial⟩
    · exact ⟨_, _, rfl, trivial⟩
  have HV := Lib.hid hv
  have HM := Lib.hid hm
  clear hv hm
  go_enter Try.func37, Try.ntmps37
  go_wp2_with fail
  go_loopg [0, 1, 8] n (fun gk v x i wr => ∃ (k : Nat), gk + k = n ∧ i = .int .i64 (k : Int) ∧ x = .int .u32 ((m / 256 ^ k : Nat) : Int) ∧ wr.ownsRow B 5 1 v (xs.length + k) ((xs ++ le m k).map V8) ∧ Below B w wr)
  case atStart => exact ⟨0, by omega, rfl, by simp, by simpa [le] using HV.out, Below.refl _ _⟩
  case round =>
    clear HV
    obtain ⟨k, hgk, rfl, rfl, hown, hb⟩ := hrel
    have hs := hb.size
    have hk0 : (0 : Int) ≤ (k : Int) := by omega
    have Hgk := Lib.hid hgk
    have HB := Lib.hid hb
    obtain ⟨q, hq⟩ : ∃ q, q = m / 256 ^ k := ⟨_, rfl⟩
    have hq32 : q < 4294967296 := by rw [hq]; exact Nat.lt_of_le_of_lt (Nat.div_le_self _ _) HM.out
    have hq1 : (q : Int) < 4294967296 := by omega
    have hq0 : (0 : Int) ≤ (q : Int) := by omega
    have hqn : q / 256 = m / 256 ^ (k + 1) := by rw [hq, Nat.div_div_eq_div_mul, Nat.pow_succ]
    rw [← hq]
    obtain ⟨ra, rc, hra⟩ : ∃ a c, u0 = .slice a (xs.length + k) c := by
      rcases hown.2 with ⟨h, h0⟩ | ⟨g, cap, cur, h, _⟩
      · exact ⟨_, _, by rw [h, h0]⟩
      · exact ⟨_, _, h⟩
    subst hra
    have hsn := le_snoc m k
    rw [← hq] at hsn
    have hown2 := hown.alloc (.cells #[.int .u8 ((q : Int) % 256)] 5)
    have hbA := hb.trans ((below_alloc wr (.cells #[.int .u8 ((q : Int) % 256)] 5)).mono (by omega))
    have HOA := Lib.hid hown2
    have HBA := Lib.hid hbA
    have HSN := Lib.hid hsn
    have HQN := Lib.hid hqn
    have HO := Lib.hid hown
    clear hb hown hown2 hbA hsn hqn hq hq32
    by_cases hk : k < n
    · have hk1 : (k : Int) < (n : Int) := by omega
      clear hgk
      go_wp2_with (at_builtin; refine appB rfl _ _ rfl B _ _ _ rfl HOA.out ⟨wr.heap.size, 0, none⟩ 1 1 [.int .u8 ((q : Int) % 256)] rfl rfl (cell_one_new _ _ _) (by simp [Value.oneCell']) (by omega) (Nat.le_trans hB HBA.out.size) ?_)
      intro v' w1 hown' hg' _
      have hb1 := HBA.out.trans (below_grown hg' (Nat.le_trans hB HBA.out.size) (fun q hq => (HO.out.lt q hq).1))
      have ho1 : w1.ownsRow B 5 1 v' (xs.length + (k + 1)) ((xs ++ le m (k + 1)).map V8) := by
        rw [HSN.out, List.map_append, List.map_append]
        rw [List.map_cons, List.map_nil, V8_ofNat]; exact hown'
      have HB1 := Lib.hid hb1
      have HO1 := Lib.hid ho1
      clear hown' hg' hb1 ho1
      go_wp2_with fail
      go_roundg (n - (k + 1))
      case measure => have := Hgk.out; omega
      case rel => exact ⟨k + 1, by have := Hgk.out; omega, by go_num, by rw [← HQN.out]; simp, HO1.out, HB1.out⟩
    · obtain rfl : k = n := by omega
      clear hgk
      go_wp2_with fail
      go_ret
      exact ⟨_, rfl, HO.out, HB.out⟩
/-- A first block's head. -/
theorem head_calls (v : Value) (e : UInt32) (p : List UInt8) (w : World) (hv : Rd w v p.length (p.map V8)) (hp : p.length ≤ 512) :
    Calls Try.prog 30 #[.int .u32 (e.toNat : Int), v] w fun r w' => ∃ v', r = .returned v' ∧ w'.ownsRow w.heap.size 5 1 v' 11 ((headM e p).map V8) ∧ Below w.heap.size w w' := by
  obtain ⟨va, vc, rfl⟩ : ∃ a c, v = .slice a p.length c := by obtain ⟨a, c, h, _⟩ := hv; exact ⟨a, c, h⟩
  have ho0 : (w.alloc (.cells #[.int .u8 104] 5)).ownsRow w.heap.size 5 1 (.slice (some ⟨w.heap.size, 0, none⟩) 1 1) ([(104 : UInt8)]).length (([(104 : UInt8)]).map V8) :=
    ⟨rfl, .inr ⟨w.heap.size, 1, _, rfl, Nat.le_refl _, heap_alloc_new w _, Nat.le_refl _, by unfold maxLen; omega, rfl, rfl⟩⟩
  have HV := Lib.hid hv
  have HB := Lib.hid (below_alloc w (.cells #[.int .u8 104] 5))
  have hn1 := number_calls w.heap.size _ [104] e.toNat 4 _ ho0 (by simp) e.toNat_lt (by omega) (by simp)
  have Hn1 := Lib.hid hn1
  clear hv ho0 hn1
  go_enter Try.func30, Try.ntmps30
  go_wp2_with fail
  refine Hn1.out.mono ?_
  rintro r w1 ⟨b1, rfl, ho1, hb1⟩
  have HB1 := Lib.hid (HB.out.trans hb1)
  have hn2 := number_calls w.heap.size b1 (104 :: le e.toNat 4) p.length 2 w1 (by simpa [le_length] using ho1) HB1.out.size (by omega) (by omega) (by simp [le_length])
  have Hn2 := Lib.hid hn2
  clear ho1 hb1 Hn1 HB hn2
  go_wp2_with fail
  refine Hn2.out.mono ?_
  rintro r w2 ⟨b2, rfl, ho2, hb2⟩
  have ho2 : w2.ownsRow w.heap.size 5 1 b2 (pre e p.length).length ((pre e p.length).map V8) := by
    have := ho2; simpa [pre, le_length] using this
  have HB2 := Lib.hid (HB1.out.trans hb2)
  have HO2 := Lib.hid ho2
  have hs2 := HB2.out.size
  clear ho2 hb2 Hn2 HB1
  go_wp2_with fail
  refine (new_calls w2).mono ?_
  rintro r w3 ⟨rfl, rfl⟩
  obtain ⟨w3, hw3⟩ : ∃ w3, w3 = w2.alloc (.cells #[.int .u32 (I32 0)] 83) := ⟨_, rfl⟩
  rw [← hw3]
  obtain ⟨s, hs⟩ : ∃ s, s = w2.heap.size := ⟨_, rfl⟩
  rw [← hs]
  have hx3 : Box w3 s #[.int .u32 (I32 0)] 83 := by rw [hw3, hs]; exact Box.new _ _ _
  have ho3 := own_below HO2.out (below_alloc w2 (.cells #[.int .u32 (I32 0)] 83))
  have hb3 := HB2.out.trans ((below_alloc w2 (.cells #[.int .u32 (I32 0)] 83)).mono hs2)
  rw [← hw3] at ho3 hb3
  have hne : ∀ k, b2.ownBlock = some k → k ≠ s := fun k hk e => by have := (HO2.out.lt k hk).2; omega
  have HX3 := Lib.hid hx3
  have HO3 := Lib.hid ho3
  have HB3 := Lib.hid hb3
  have Hne := Lib.hid hne
  have hws : w.heap.size ≤ s := by omega
  have ha1 := add_calls ⟨s, 0, none⟩ 0 b2 (pre e p.length) w3 (hx3.cell 0 _ rfl) (hx3.free 0) (rd_of_own ho3)
  have Ha1 := Lib.hid ha1
  clear hx3 ho3 hb3 hne hw3 hs HO2 HB2 ha1
  go_wp2_with fail
  refine Ha1.out.mono ?_
  rintro r w4 ⟨rfl, hw4⟩
  obtain ⟨r1, hr1⟩ : ∃ r1 : UInt32, r1 = ~~~(crcRun (~~~0) (pre e p.length)) := ⟨_, rfl⟩
  rw [← hr1] at hw4
  have hm4 : Mod (fun q => q = s) w3 w4 := by rw [hw4]; exact Mod.set (fun q => q = s) w3 ⟨s, 0, none⟩ _ rfl
  have hx4 : Box w4 s #[.int .u32 (I32 r1)] 83 := by rw [hw4]; simpa using HX3.out.set 0 (.int .u32 (I32 r1))
  have HO4 := Lib.hid (own_mod HO3.out hm4 (fun k hk => Hne.out k hk))
  have HB4 := Lib.hid (HB3.out.trans (hm4.below HB3.out.size (fun q hq => by omega)))
  have HX4 := Lib.hid hx4
  have ha2 := add_calls ⟨s, 0, none⟩ r1 (.slice va p.length vc) p w4 (hx4.cell 0 _ rfl) (hx4.free 0) (HV.out.below HB4.out)
  have Ha2 := Lib.hid ha2
  have Hr1 := Lib.hid hr1
  clear hw4 hm4 hx4 HX3 HO3 HB3 Ha1 ha2 hr1
  go_wp2_with fail
  refine Ha2.out.mono ?_
  rintro r w5 ⟨rfl, hw5⟩
  have hcr : ~~~(crcRun (~~~r1) p) = crc (pre e p.length ++ p) := by
    rw [Hr1.out]; unfold crc; rw [crcRun_append]; simp; rfl
  rw [hcr] at hw5
  obtain ⟨cv, hcv⟩ : ∃ cv, cv = crc (pre e p.length ++ p) := ⟨_, rfl⟩
  rw [← hcv] at hw5
  have hm5 : Mod (fun q => q = s) w4 w5 := by rw [hw5]; exact Mod.set (fun q => q = s) w4 ⟨s, 0, none⟩ _ rfl
  have hx5 : Box w5 s #[.int .u32 (I32 cv)] 83 := by rw [hw5]; simpa using HX4.out.set 0 (.int .u32 (I32 cv))
  have HO5 := Lib.hid (own_mod HO4.out hm5 (fun k hk => Hne.out k hk))
  have HB5 := Lib.hid (HB4.out.trans (hm5.below HB4.out.size (fun q hq => by omega)))
  have hvc := value_calls ⟨s, 0, none⟩ (.int .u32 (I32 cv)) w5 (hx5.cell 0 _ rfl)
  have Hvc := Lib.hid hvc
  have Hcv := Lib.hid hcv
  clear hw5 hm5 hx5 HX4 HO4 HB4 Ha2 hcr hvc hcv Hr1
  go_wp2_with fail
  refine Hvc.out.mono ?_
  rintro r w6 ⟨rfl, rfl⟩
  have hn3 := number_calls w.heap.size b2 (pre e p.length) cv.toNat 4 w5 HO5.out HB5.out.size cv.toNat_lt (by omega) (by rw [pre_length]; omega)
  have Hn3 := Lib.hid hn3
  clear hn3 Hvc
  unfold I32
  go_wp2_with fail
  refine Hn3.out.mono ?_
  rintro r w7 ⟨b7, rfl, ho7, hb7⟩
  have HB7 := Lib.hid (HB5.out.trans hb7)
  have HO7 := Lib.hid ho7
  clear ho7 hb7 Hn3 HO5 HB5
  go_wp2_with fail
  go_ret
  refine ⟨_, rfl, ?_, HB7.out⟩
  have := HO7.out
  rw [pre_length] at this
  unfold headM
  rw [← Hcv.out]; exact this
end Go.Proofs.Ytjoadcgegobjpaa
