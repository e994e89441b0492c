/-
  The walk of lineageref12.Scan.
-/
import Derived.Test.YtefegebnohenaaaDoorRefOne
namespace Go.Proofs.YtefegebnohenaaaDoor
open Go.RowKit

theorem info_int : (Tryd.prog.info? 3).map (fun i => (i.zero, i.size, i.bytes)) = some (some (.int .i64 0), 1, 8) := by kernel_rfl
/-- 'append(s, x)' of a number. -/
theorem appN {w : World} {ops : Array Oper} {rest : List Oper} {o : Oper} {a : Act} {Q : Exit → Act → World → Prop} (hgd : o.guard = none) (s x : Operand)
    (ho : o.op = .call { callee := .builtin .append, args := #[s, x], argTypes := #[59, 59] })
    (base : Nat) (v : Value) (n : Nat) (xs : List Value) (hs : a.eval s = v) (hown : w.ownsRow base 3 1 v n xs)
    (ad : Addr) (c : Nat) (y : Value) (hx : a.eval x = .slice (some ad) 1 c) (hy : w.cell? ad = some y) (h1 : y.oneCell' = true)
    (hroom : n + 1 ≤ 17592186044416) (hbase : base ≤ w.heap.size)
    (h : ∀ v' w', w'.ownsRow base 3 1 v' (n + 1) (xs ++ [y]) → w.grownBy w' v.ownBlock → Moved w v v' → wpList Tryd.prog ops Q rest (a.put o.dst v') w') : wpList Tryd.prog ops Q (o :: rest) a w := by
  obtain ⟨i0, hi, hz0, hz1, hz2⟩ := info_parts info_int
  refine wpList_append_own2 hgd s x 59 ho base 3 i0 (.int .i64 0) 1 8 Tryd.underlying59 hi hz0 hz1 hz2 rfl (by decide) v n xs hs hown ad 1 c [y] hx rfl (fun j u hj => ?_) (by simpa using h1) (by unfold maxLen; omega) (by omega) hbase h
  cases j with
  | zero => simp at hj; subst hj; rw [show ad.add 0 = ad from by cases ad with | mk b o s => cases s <;> rfl]; exact hy
  | succ j => simp at hj
theorem posM_ge {e : UInt32} {bl : List (List UInt8)} : ∀ n, (∀ i, i < n → payM e bl i ≠ none) → n ≤ posM e bl n := by
  intro n
  induction n with
  | zero => intro _; exact Nat.zero_le _
  | succ n ih =>
    intro h
    have h1 := ih (fun i hi => h i (by omega))
    cases hp : payM e bl n with
    | none => exact absurd hp (h n (by omega))
    | some x =>
      obtain ⟨p, k⟩ := x
      rw [posM_succ hp]
      have := (oneM_pos hp).1
      omega
def placesV (e : UInt32) (bl : List (List UInt8)) (k : Nat) : List Value := (List.range k).map (fun i => .int .i64 ((posM e bl i : Nat) : Int))
structure RScanI (e : UInt32) (bl : List (List UInt8)) (w : World) (k : Nat) (ov pv : Value) (ys : List Value) (W : World) : Prop where
  found : ∀ i, i < k → ∃ p c, payM e bl i = some (p, c) ∧ OwnM W w.heap.size 5 (ys.getD i undef) p.length (p.map V8)
  out : W.ownsRow w.heap.size 23 1 ov k ys
  len : ys.length = k
  pl : W.ownsRow w.heap.size 3 1 pv k (placesV e bl k)
  below : Below w.heap.size w W
theorem OwnM.apart_row {W : World} {b b' : Nat} {e e' : TypeId} {s n n' : Nat} {v v' : Value} {xs xs' : List Value} (h : OwnM W b e v n xs) (h' : W.ownsRow b' e' s v' n' xs') (hne : e' ≠ e) : Apart v v' := (apart_types h' h hne).symm
theorem RScanI.next {e : UInt32} {bl : List (List UInt8)} {w : World} {k : Nat} {ov pv ov' pv' xv : Value} {ys : List Value} {wr w1 w2 w3 : World} {o1 o2 : Obj} {p : List UInt8} {c q : Nat} (h : RScanI e bl w k ov pv ys wr) (hb1 : Below wr.heap.size wr w1) (hp : payM e bl k = some (p, c))
    (hpo : OwnM w1 wr.heap.size 5 xv p.length (p.map V8)) (h2 : w2.ownsRow w.heap.size 23 1 ov' (k + 1) (ys ++ [xv])) (g2 : (w1.alloc o1).grownBy w2 ov.ownBlock) (hq : q = posM e bl k)
    (h3 : w3.ownsRow w.heap.size 3 1 pv' (k + 1) (placesV e bl k ++ [.int .i64 (q : Int)])) (g3 : (w2.alloc o2).grownBy w3 pv.ownBlock) : RScanI e bl w (k + 1) ov' pv' (ys ++ [xv]) w3 := by
  have hs := h.below.size
  have b2 := below_trans hb1 (below_alloc w1 o1)
  have b3 := below_alloc w2 o2
  have o1a := own_below h.out b2
  have p1a := own_below h.pl b2
  have p2 := own_other p1a g2 (apart_own p1a o1a (by decide))
  have o2a := own_below h2 b3
  have p2a := own_below p2 b3
  have hrow : ∀ v (p : List UInt8), OwnM w1 w.heap.size 5 v p.length (p.map V8) → OwnM w3 w.heap.size 5 v p.length (p.map V8) := fun v p hv => by
    have v1 := hv.below (below_alloc w1 o1)
    have v2 := (v1.other g2 (v1.apart_row o1a (by decide))).below b3
    exact v2.other g3 (v2.apart_row p2a (by decide))
  refine ⟨fun i hi => ?_, own_other o2a g3 (apart_own o2a p2a (by decide)), by rw [List.length_append, h.len]; rfl, ?_, ?_⟩
  · rcases Nat.lt_or_ge i k with hik | hik
    · obtain ⟨p', c', e1, e2⟩ := h.found i hik
      refine ⟨p', c', e1, ?_⟩
      rw [List.getD, List.getElem?_append_left (by rw [h.len]; exact hik)]
      exact hrow _ _ (e2.below hb1)
    · obtain rfl : i = k := by omega
      refine ⟨p, c, hp, ?_⟩
      rw [List.getD, List.getElem?_append_right (by rw [h.len]; omega), h.len, Nat.sub_self]
      exact hrow _ _ (hpo.lower hs)
  · have : placesV e bl (k + 1) = placesV e bl k ++ [.int .i64 (q : Int)] := by unfold placesV; rw [List.range_succ, List.map_append, hq]; rfl
    rw [this]; exact h3
  · have c1 := (h.below.trans (b2.mono hs)).trans (below_grown g2 (Nat.le_trans hs b2.size) (fun j hj => (o1a.lt j hj).1))
    exact (c1.trans (b3.mono c1.size)).trans (below_grown g3 (Nat.le_trans c1.size b3.size) (fun j hj => (p2a.lt j hj).1))
set_option maxHeartbeats 800000 in
theorem refScan_calls (e : UInt32) (lv : Value) (bl : List (List UInt8)) (w : World) (hl : Rd w lv bl.length (bl.map SV)) (hn : bl.length ≤ 1048576) (hbig : ∀ b ∈ bl, b.length ≤ 1048576) :
    Calls Tryd.prog 50 #[.int .u32 (e.toNat : Int), lv] w fun r w' => ∃ n ov pv ys, payM e bl n = none ∧ r = .returned (.tuple #[ov, pv, .int .i64 ((posM e bl n : Nat) : Int)]) ∧ RScanI e bl w n ov pv ys w' := by
  obtain ⟨la, lc, rfl⟩ : ∃ a c, lv = .slice a bl.length c := by obtain ⟨a, c, h, _⟩ := hl; exact ⟨a, c, h⟩
  have HL := Lib.hid hl
  have Hbig := Lib.hid hbig
  clear hl hbig
  go_enter Tryd.func50, Tryd.ntmps50
  go_wp2_with fail
  go_loopw [7, 8, 9, 10] (fun ov pv av iv wr => ∃ (k : Nat) (ys : List Value), k ≤ bl.length ∧ iv = .int .i64 k ∧ av = .int .i64 ((posM e bl k : Nat) : Int) ∧ RScanI e bl w k ov pv ys wr) (fun _ _ _ iv _ => bl.length - (intOf iv).toNat)
  case atStart => exact ⟨0, [], by omega, rfl, rfl, ⟨fun i hi => by omega, World.ownsRow_nil _ _ _ _, rfl, World.ownsRow_nil _ _ _ _, Below.refl _ _⟩⟩
  case round =>
    obtain ⟨k, ys, hk, rfl, rfl, hI⟩ := hrel
    obtain ⟨oa, oc, rfl, _⟩ := own_slice hI.out
    obtain ⟨pa, pc, rfl, _⟩ := own_slice hI.pl
    obtain ⟨q, hq⟩ : ∃ q, q = posM e bl k := ⟨_, rfl⟩
    have hql : q ≤ bl.length := by rw [hq]; exact posM_le _ _ _
    rw [← hq]
    have HI := Lib.hid hI
    have Hq := Lib.hid hq
    by_cases hlt : k < bl.length
    · have hone := refOne_calls e (.slice la bl.length lc) bl q wr (HL.out.below hI.below) hn (by omega) Hbig.out
      have Hone := Lib.hid hone
      clear hone hI hq
      go_wp2_with fail
      refine Hone.out.mono ?_
      rintro r w1 ⟨hb1, hr⟩
      rcases hr with ⟨hno, x, y, rfl⟩ | ⟨p, c, pv, hp, rfl, hpo⟩
      · have HN := Lib.hid (show ∃ n ov pv ys, payM e bl n = none ∧ Ending.returned (Value.tuple #[.slice oa k oc, .slice pa k pc, .int .i64 (q : Int)]) = .returned (.tuple #[ov, pv, .int .i64 ((posM e bl n : Nat) : Int)]) ∧ RScanI e bl w n ov pv ys w1 from
          ⟨k, _, _, ys, by unfold payM; rw [← Hq.out]; exact hno, by rw [← Hq.out], ⟨fun i hi => by
            obtain ⟨p, c, h1, h2⟩ := HI.out.found i hi
            exact ⟨p, c, h1, h2.below hb1⟩, own_below HI.out.out hb1, HI.out.len, own_below HI.out.pl hb1, HI.out.below.trans (hb1.mono HI.out.below.size)⟩⟩)
        clear hno hb1 Hone
        go_wp2_with fail
        go_ret3
        exact HN.out
      · obtain ⟨xa, xc, rfl, _⟩ := hpo.slice
        have hp' : payM e bl k = some (p, c) := by unfold payM; rw [← Hq.out]; exact hp
        have hc1 := (oneM_pos hp)
        have hqc : q + c ≤ bl.length := by have := hc1.2; rw [List.length_drop] at this; omega
        have b2 := below_trans hb1 (below_alloc w1 (.cells #[.slice xa p.length xc] 23))
        have HO1 := Lib.hid (own_below HI.out.out b2)
        have Hc1 := Lib.hid ((Box.new w1 #[.slice xa p.length xc] 23).cell 0 _ rfl)
        have Hs1 := Lib.hid (Nat.le_trans HI.out.below.size b2.size)
        have Hy1 := Lib.hid (show (Value.slice xa p.length xc).oneCell' = true by simp [Value.oneCell'])
        have Hr1 := Lib.hid (show k + 1 ≤ 4398046511104 by omega)
        have HP1 := Lib.hid (own_below HI.out.pl b2)
        have HB1 := Lib.hid hb1
        have Hpo := Lib.hid hpo
        have Hp := Lib.hid hp'
        have hw : wrap64 ((q : Int) + (c : Int)) = (q : Int) + (c : Int) := wrap_i _ (by omega) (by omega)
        have Hw := Lib.hid hw
        clear hp hp' hb1 hpo b2 Hone hc1 hw
        go_wp2_with (at_builtin; refine appR rfl _ _ rfl w.heap.size _ k ys rfl HO1.out ⟨w1.heap.size, 0, none⟩ 1 (.slice xa p.length xc) rfl Hc1.out Hy1.out Hr1.out Hs1.out ?_)
        intro v2 w2 ho2 hg2 _
        obtain ⟨o2, c2, rfl, _⟩ := own_slice ho2
        have HP2 := Lib.hid (own_below (own_other HP1.out hg2 (apart_own HP1.out HO1.out (by decide))) (below_alloc w2 (.cells #[.int .i64 (q : Int)] 3)))
        have Hs2 := Lib.hid (Nat.le_trans (Nat.le_trans Hs1.out hg2.size) (below_alloc w2 (.cells #[.int .i64 (q : Int)] 3)).size)
        have Hc2 := Lib.hid ((Box.new w2 #[.int .i64 (q : Int)] 3).cell 0 _ rfl)
        have Hr2 := Lib.hid (show k + 1 ≤ 17592186044416 by omega)
        have Hy2 := Lib.hid (show (Value.int .i64 (q : Int)).oneCell' = true by simp [Value.oneCell'])
        have HO2 := Lib.hid ho2
        have HG2 := Lib.hid hg2
        clear ho2 hg2
        go_wp2_with (at_builtin; refine appN rfl _ _ rfl w.heap.size _ k (placesV e bl k) rfl HP2.out ⟨w2.heap.size, 0, none⟩ 1 (.int .i64 (q : Int)) rfl Hc2.out Hy2.out Hr2.out Hs2.out ?_)
        intro v3 w3 ho3 hg3 _
        have HN := Lib.hid (show ∃ (k' : Nat) (ys' : List Value), k' ≤ bl.length ∧ Value.int .i64 ((k : Int) + 1) = .int .i64 k' ∧ Value.int .i64 ((q : Int) + (c : Int)) = .int .i64 ((posM e bl k' : Nat) : Int) ∧ RScanI e bl w k' (.slice o2 (k + 1) c2) v3 ys' w3 from
          ⟨k + 1, _, by omega, by go_num, by rw [posM_succ Hp.out, ← Hq.out]; go_num, HI.out.next HB1.out Hp.out Hpo.out HO2.out HG2.out Hq.out ho3 hg3⟩)
        have hq0 : (0 : Int) ≤ (q : Int) := by omega
        have hc0 : (0 : Int) ≤ (c : Int) := by omega
        have hqc2 : (q : Int) + (c : Int) ≤ 1048576 := by omega
        clear ho3 hg3 HP2 Hs2 Hc2 Hy2 HO2 HG2 HO1 Hc1 Hs1 Hy1 HP1 HB1 Hpo HI
        have hw := Hw.out
        clear Hw
        go_wp2_with fail
        go_roundw
        case rel => exact HN.out
        case measure => simp [intOf]; omega
    · obtain rfl : k = bl.length := by omega
      have HN := Lib.hid (show ∃ n ov pv ys, payM e bl n = none ∧ Ending.returned (Value.tuple #[.slice oa bl.length oc, .slice pa bl.length pc, .int .i64 (q : Int)]) = .returned (.tuple #[ov, pv, .int .i64 ((posM e bl n : Nat) : Int)]) ∧ RScanI e bl w n ov pv ys wr from by
        refine ⟨_, _, _, ys, ?_, by rw [← hq], hI⟩
        have := posM_ge (e := e) (bl := bl) bl.length (fun i hi h => by
          obtain ⟨p, c, h1, _⟩ := hI.found i hi
          rw [h1] at h; cases h)
        unfold payM
        rw [List.drop_eq_nil_of_le this]; rfl)
      clear hI hq
      go_wp2_with fail
      go_ret3
      exact HN.out
end Go.Proofs.YtefegebnohenaaaDoor
