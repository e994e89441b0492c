/-
  The walk of lineageref12.Scan.
-/
import Derived.Test.YtjoadcgegobjpaaDoorZ7
namespace Go.Proofs.YtjoadcgegobjpaaDoor
open Go.RowKit

theorem info_int : (Tryd.prog.info? 3).map (fun i => (i.zero, i.size, i.bytes)) = some (some (.int .i64 0), 1, 8) := by kernel_rfl
/-- 'append(s, x)' of a number. -/
theorem appN {w : World} {ops : Array Oper} {rest : List Oper} {o : Oper} {a : Act} {Q : Exit → Act → World → Prop} (hgd : o.guard = none) (s x : Operand)
    (ho : o.op = .call { callee := .builtin .append, args := #[s, x], argTypes := #[116, 116] })
    (base : Nat) (v : Value) (n : Nat) (xs : List Value) (hs : a.eval s = v) (hown : w.ownsRow base 3 1 v n xs)
    (ad : Addr) (c : Nat) (y : Value) (hx : a.eval x = .slice (some ad) 1 c) (hy : w.cell? ad = some y) (h1 : y.oneCell' = true)
    (hroom : n + 1 ≤ 17592186044416) (hbase : base ≤ w.heap.size)
    (h : ∀ v' w', w'.ownsRow base 3 1 v' (n + 1) (xs ++ [y]) → w.grownBy w' v.ownBlock → Moved w v v' → wpList Tryd.prog ops Q rest (a.put o.dst v') w') : wpList Tryd.prog ops Q (o :: rest) a w := by
  obtain ⟨i0, hi, hz0, hz1, hz2⟩ := info_parts info_int
  refine wpList_append_own2 hgd s x 116 ho base 3 i0 (.int .i64 0) 1 8 Tryd.underlying116 hi hz0 hz1 hz2 rfl (by decide) v n xs hs hown ad 1 c [y] hx rfl (fun j u hj => ?_) (by simpa using h1) (by unfold maxLen; omega) (by omega) hbase h
  cases j with
  | zero => simp at hj; subst hj; rw [show ad.add 0 = ad from by cases ad with | mk b o s => cases s <;> rfl]; exact hy
  | succ j => simp at hj
theorem posM_ge {e : UInt32} {bl : List (List UInt8)} : ∀ n, (∀ i, i < n → payM e bl i ≠ none) → n ≤ posM e bl n := by
  intro n
  induction n with
  | zero => intro _; exact Nat.zero_le _
  | succ n ih =>
    intro h
    have h1 := ih (fun i hi => h i (by omega))
    cases hp : payM e bl n with
    | none => exact absurd hp (h n (by omega))
    | some x =>
      obtain ⟨p, k⟩ := x
      rw [posM_succ hp]
      have := (oneM_pos hp).1
      omega
def placesV (e : UInt32) (bl : List (List UInt8)) (k : Nat) : List Value := (List.range k).map (fun i => .int .i64 ((posM e bl i : Nat) : Int))
structure RScanI (e : UInt32) (bl : List (List UInt8)) (w : World) (k : Nat) (ov pv : Value) (ys : List Value) (W : World) : Prop where
  found : ∀ i, i < k → ∃ p c, payM e bl i = some (p, c) ∧ OwnM W w.heap.size 5 (ys.getD i undef) p.length (p.map V8)
  out : W.ownsRow w.heap.size 46 1 ov k ys
  len : ys.length = k
  pl : W.ownsRow w.heap.size 3 1 pv k (placesV e bl k)
  below : Below w.heap.size w W
theorem OwnM.apart_row {W : World} {b b' : Nat} {e e' : TypeId} {s n n' : Nat} {v v' : Value} {xs xs' : List Value} (h : OwnM W b e v n xs) (h' : W.ownsRow b' e' s v' n' xs') (hne : e' ≠ e) : Apart v v' := (apart_types h' h hne).symm
theorem RScanI.next {e : UInt32} {bl : List (List UInt8)} {w : World} {k : Nat} {ov pv ov' pv' xv : Value} {ys : List Value} {wr w1 w2 w3 : World} {o1 o2 : Obj} {p : List UInt8} {c q : Nat} (h : RScanI e bl w k ov pv ys wr) (hb1 : Below wr.heap.size wr w1) (hp : payM e bl k = some (p, c))
    (hpo : OwnM w1 wr.heap.size 5 xv p.length (p.map V8)) (h2 : w2.ownsRow w.heap.size 46 1 ov' (k + 1) (ys ++ [xv])) (g2 : (w1.alloc o1).grownBy w2 ov.ownBlock) (hq : q = posM e bl k)
    (h3 : w3.ownsRow w.heap.size 3 1 pv' (k + 1) (placesV e bl k ++ [.int .i64 (q : Int)])) (g3 : (w2.alloc o2).grownBy w3 pv.ownBlock) : RScanI e bl w (k + 1) ov' pv' (ys ++ [xv]) w3 := by
  have hs := h.below.size
  have b2 := below_trans hb1 (below_alloc w1 o1)
  have b3 := below_alloc w2 o2
  have o1a := own_below h.out b2
  have p1a := own_below h.pl b2
  have p2 := own_other p1a g2 (apart_own p1a o1a (by decide))
  have o2a := own_below h2 b3
  have p2a := own_below p2 b3
  have hrow : ∀ v (p : List UInt8), OwnM w1 w.heap.size 5 v p.length (p.map V8) → OwnM w3 w.heap.size 5 v p.length (p.map V8) := fun v p hv => by
    have v1 := hv.below (below_alloc w1 o1)
    have v2 := (v1.other g2 (v1.apart_row o1a (by decide))).below b3
    exact v2.other g3 (v2.apart_row p2a (by decide))
  refine ⟨fun i hi => ?_, own_other o2a g3 (apart_own o2a p2a (by decide)), by rw [List.length_append, h.len]; rfl, ?_, ?_⟩
  · rcases Nat.lt_or_ge i k with hik | hik
    · obtain ⟨p', c', e1, e2⟩ := h.found i hik
      refine ⟨p', c', e1, ?_⟩
      rw [List.getD, List.getElem?_append_left (by rw [h.len]; exact hik)]
      exact hrow _ _ (e2.below hb1)
    · obtain rfl : i = k := by omega
      refine ⟨p, c, hp, ?_⟩
      rw [List.getD, List.getElem?_append_right (by rw [h.len]; omega), h.len, Nat.sub_self]
      exact hrow _ _ (hpo.lower hs)
  · have : placesV e bl (k + 1) = placesV e bl k ++ [.int .i64 (q : Int)] := by unfold placesV; rw [List.range_succ, List.map_append, hq]; rfl
    rw [this]; exact h3
  · have c1 := (h.below.trans (b2.mono hs)).trans (below_grown g2 (Nat.le_trans hs b2.size) (fun j hj => (o1a.lt j hj).1))
    exact (c1.trans (b3.mono c1.size)).trans (below_grown g3 (Nat.le_trans c1.size b3.size) (fun j hj => (p2a.lt j hj).1))
set_option maxHeartbeats 800000 in
theorem refScan_calls (e : UInt32) (lv : Value) (bl : List (List UInt8)) (w : World) (hl : Rd w lv bl.length (bl.map SV)) (hn : bl.length ≤ 1048576) (hbig : ∀ b ∈ bl, b.length ≤ 1048576) :
    Calls Tryd.prog 52 #[.int .u32 (e.toNat : Int), lv] w fun r w' => ∃ n ov pv ys, payM e bl n = none ∧ r = .returned (.tuple #[ov, pv, .int .i64 ((posM e bl n : Nat) : Int)]) ∧ RScanI e bl w n ov pv ys w' := by
  obtain ⟨la, lc, rfl⟩ : ∃ a c, lv = .slice a bl.length c := by obtain ⟨a, c, h, _⟩ := hl; exact ⟨a, c, h⟩
  have HL := Lib.hid hl
  have Hbig := Lib.hid hbig
  clear hl hbig
  go_enter Tryd.func52, Tryd.ntmps52
  go_wp2_with fail
  go_loopw [7, 8, 9, 10] (fun ov pv av iv wr => ∃ (k : Nat) (ys : List Value), k ≤ bl.length ∧ iv = .int .i64 k ∧ av = .int .i64 ((posM e bl k : Nat) : Int) ∧ RScanI e bl w k ov pv ys wr) (fun _ _ _ iv _ => bl.length - (intOf iv).toNat)
  case atStart => exact ⟨0, [], by omega, rfl, rfl, ⟨fun i hi => by omega, World.ownsRow_nil _ _ _ _, rfl, World.ownsRow_nil _ _ _ _, Below.refl _ _⟩⟩
  case round =>
    obtain ⟨k, ys, hk, rfl, rfl, hI⟩ := hrel
    obtain ⟨oa, oc, rfl, _⟩ := own_slice hI.out
    obtain ⟨pa, pc, rfl, _⟩ := own_slice hI.pl
    obtain ⟨q, hq⟩ : ∃ q, q = posM e bl k := ⟨_, rfl⟩
    have hql : q ≤ bl.length := by rw [hq]; exact posM_le _ _ _
    rw [← hq]
    have HI := Lib.hid hI
    have Hq := Lib.hid hq
    by_cases hlt : k < bl.length
    · have hone := refOne_calls e (.slice la bl.length lc) bl q wr (HL.out.below hI.below) hn (by omega) Hbig.out
      have Hone := Lib.hid hone
      clear hone hI hq
      go_wp2_with fail
      refine Hone.out.mono ?_
      rintro r w1 ⟨hb1, hr⟩
      rcases hr with ⟨hno, x, y, rfl⟩ | ⟨p, c, pv, hp, rfl, hpo⟩
      · have HN := Lib.hid (show ∃ n ov pv ys, payM e bl n = none ∧ Ending.returned (Value.tuple #[.slice oa k oc, .slice pa k pc, .int .i64 (q : Int)]) = .returned (.tuple #[ov, pv, .int .i64 ((posM e bl n : Nat) : Int)]) ∧ RScanI e bl w n ov pv ys w1 from
          ⟨k, _, _, ys, by unfold payM; rw [← Hq.out]; exact hno, by rw [← Hq.out], ⟨fun i hi => by
            obtain ⟨p, c, h1, h2⟩ := HI.out.found i hi
            exact ⟨p, c, h1, h2.below hb1⟩, own_below HI.out.out hb1, HI.out.len, own_below HI.out.pl hb1, HI.out.below.trans (hb1.mono HI.out.below.size)⟩⟩)
        clear hno hb1 Hone
        go_wp2_with fail
        go_ret3
        exact HN.out
      · obtain ⟨xa, xc, rfl, _⟩ := hpo.slice
        have hp' : payM e bl k = some (p, c) := by unfold payM; rw [← Hq.out]; exact hp
        have hc1 := (oneM_pos hp)
        have hqc : q + c ≤ bl.length := by have := hc1.2; rw [List.length_drop] at this; omega
        have b2 := below_trans hb1 (below_alloc w1 (.cells #[.slice xa p.length xc] 46))
        have HO1 := Lib.hid (own_below HI.out.out b2)
        have Hc1 := Lib.hid ((Box.new w1 #[.slice xa p.length xc] 46).cell 0 _ rfl)
        have Hs1 := Lib.hid (Nat.le_trans HI.out.below.size b2.size)
        have Hy1 := Lib.hid (show (Value.slice xa p.length xc).oneCell' = true by simp [Value.oneCell'])
        have Hr1 := Lib.hid (show k + 1 ≤ 4398046511104 by omega)
        have HP1 := Lib.hid (own_below HI.out.pl b2)
        have HB1 := Lib.hid hb1
        have Hpo := Lib.hid hpo
        have Hp := Lib.hid hp'
        have hw : wrap64 ((q : Int) + (c : Int)) = (q : Int) + (c : Int) := wrap_i _ (by omega) (by omega)
        have Hw := Lib.hid hw
        clear hp hp' hb1 hpo b2 Hone hc1 hw
        go_wp2_with (at_builtin; refine appRow rfl _ _ rfl w.heap.size _ k ys rfl HO1.out ⟨w1.heap.size, 0, none⟩ 1 (.slice xa p.length xc) rfl Hc1.out Hy1.out Hr1.out Hs1.out ?_)
        intro v2 w2 ho2 hg2 _
        obtain ⟨o2, c2, rfl, _⟩ := own_slice ho2
        have HP2 := Lib.hid (own_below (own_other HP1.out hg2 (apart_own HP1.out HO1.out (by decide))) (below_alloc w2 (.cells #[.int .i64 (q : Int)] 3)))
        have Hs2 := Lib.hid (Nat.le_trans (Nat.le_trans Hs1.out hg2.size) (below_alloc w2 (.cells #[.int .i64 (q : Int)] 3)).size)
        have Hc2 := Lib.hid ((Box.new w2 #[.int .i64 (q : Int)] 3).cell 0 _ rfl)
        have Hr2 := Lib.hid (show k + 1 ≤ 17592186044416 by omega)
        have Hy2 := Lib.hid (show (Value.int .i64 (q : Int)).oneCell' = true by simp [Value.oneCell'])
        have HO2 := Lib.hid ho2
        have HG2 := Lib.hid hg2
        clear ho2 hg2
        go_wp2_with (at_builtin; refine appN rfl _ _ rfl w.heap.size _ k (placesV e bl k) rfl HP2.out ⟨w2.heap.size, 0, none⟩ 1 (.int .i64 (q : Int)) rfl Hc2.out Hy2.out Hr2.out Hs2.out ?_)
        intro v3 w3 ho3 hg3 _
        have HN := Lib.hid (show ∃ (k' : Nat) (ys' : List Value), k' ≤ bl.length ∧ Value.int .i64 ((k : Int) + 1) = .int .i64 k' ∧ Value.int .i64 ((q : Int) + (c : Int)) = .int .i64 ((posM e bl k' : Nat) : Int) ∧ RScanI e bl w k' (.slice o2 (k + 1) c2) v3 ys' w3 from
          ⟨k + 1, _, by omega, by go_num, by rw [posM_succ Hp.out, ← Hq.out]; go_num, HI.out.next HB1.out Hp.out Hpo.out HO2.out HG2.out Hq.out ho3 hg3⟩)
        have hq0 : (0 : Int) ≤ (q : Int) := by omega
        have hc0 : (0 : Int) ≤ (c : Int) := by omega
        have hqc2 : (q : Int) + (c : Int) ≤ 1048576 := by omega
        clear ho3 hg3 HP2 Hs2 Hc2 Hy2 HO2 HG2 HO1 Hc1 Hs1 Hy1 HP1 HB1 Hpo HI
        have hw := Hw.out
        clear Hw
        go_wp2_with fail
        go_roundw
        case rel => exact HN.out
        case measure => simp [intOf]; omega
    · obtain rfl : k = bl.length := by omega
      have HN := Lib.hid (show ∃ n ov pv ys, payM e bl n = none ∧ Ending.returned (Value.tuple #[.slice oa bl.length oc, .slice pa bl.length pc, .int .i64 (q : Int)]) = .returned (.tuple #[ov, pv, .int .i64 ((posM e bl n : Nat) : Int)]) ∧ RScanI e bl w n ov pv ys wr from by
        refine ⟨_, _, _, ys, ?_, by rw [← hq], hI⟩
        have := posM_ge (e := e) (bl := bl) bl.length (fun i hi h => by
          obtain ⟨p, c, h1, _⟩ := hI.found i hi
          rw [h1] at h; cases h)
        unfold payM
        rw [List.drop_eq_nil_of_le this]; rfl)
      clear hI hq
      go_wp2_with fail
      go_ret3
      exact HN.out
end Go.Proofs.YtjoadcgegobjpaaDoor
/-
  A log is opened: the program's, the document's.
-/
namespace Go.Proofs.YtjoadcgegobjpaaDoor
open Go.RowKit
set_option maxRecDepth 100000

/-- The blocks of a place. -/
def DiskM.blks (d : DiskM) (base n : Nat) : List (List UInt8) := ((d.strs.drop base).take n).map (fun s => s.data.toList)
set_option maxHeartbeats 800000 in
theorem log_open_full (d : DiskM) (pd : Nat) (F : Nat → Prop) (base n : Nat) (e : UInt32) (w : World) (h : IsDisk w d pd F) (h1 : 1 ≤ n) (h2 : base + n ≤ d.strs.length) (hs : ∀ s ∈ d.strs, s.size ≤ 256) :
    Calls Tryd.prog 9 #[.pointer (some ⟨pd, 0, none⟩), .int .i64 (base : Int), .int .i64 (n : Int), .int .u32 (e.toNat : Int)] w fun r w' => ∃ (ov : Value) (pre : List (Nat × Value)),
      payM e (d.blks base n) pre.length = none ∧ r = .returned (.tuple #[.pointer (some ⟨w.heap.size, 0, none⟩), ov, .nilIface]) ∧ Found e (d.blks base n) (w.heap.size + 1) pre w' ∧ w'.ownsRow (w.heap.size + 1) 46 1 ov pre.length (pre.map (·.2)) ∧ Below w.heap.size w w' ∧
      IsLog w' ⟨base, n, e, posM e (d.blks base n) pre.length, pre.length, false⟩ w.heap.size pd := by
  have hl4 : d.strs.length ≤ 4096 := by obtain ⟨_, _, _, _, _, _, _, _, h5, _⟩ := h; exact h5
  obtain ⟨bl, hbl⟩ : ∃ bl, bl = d.blks base n := ⟨_, rfl⟩
  rw [← hbl]
  unfold DiskM.blks at hbl
  have hbn : bl.length = n := by rw [hbl, List.length_map, List.length_take, List.length_drop]; omega
  have hget : ∀ j, j < n → d.strs[base + j]? = some (SB (bl.getD j [])) := fun j hj => by rw [hbl]; exact strs_blocks d.strs base n h2 j hj
  have hbig : ∀ b ∈ bl, b.length ≤ 256 := by
    rw [hbl]
    intro b hb
    obtain ⟨s, hs1, rfl⟩ := List.mem_map.1 hb
    have := hs s (List.mem_of_mem_drop (List.mem_of_mem_take hs1))
    show s.data.toList.length ≤ 256
    rw [Array.length_toList]; exact this
  have HG := Lib.hid hget
  have Hbig := Lib.hid hbig
  have HD := Lib.hid h
  clear h hget hbig hbl hs
  go_enter Tryd.func9, Tryd.ntmps9
  go_wp2_with fail
  refine (log_new_yes d pd F base n e w HD.out h1 h2).mono ?_
  rintro r w1 ⟨rfl, hl, hb1⟩
  have HL := Lib.hid hl
  have HB1 := Lib.hid hb1
  have HD1 := Lib.hid (HD.out.mod (Mod.of_below (F := fun _ => False) hb1) (fun _ _ h => h))
  clear hl hb1
  go_wp2_with fail
  go_loopg [13, 31] n (fun gk bv iv wr => ∃ k : Nat, gk + k = n ∧ iv = .int .i64 (k : Int) ∧ wr.ownsRow w1.heap.size 9 1 bv k ((bl.take k).map SV) ∧ Below w1.heap.size w1 wr)
  case atStart => exact ⟨0, rfl, rfl, World.ownsRow_nil _ _ _ _, Below.refl _ _⟩
  case round =>
    obtain ⟨k, hgk, rfl, ho, hB⟩ := hrel
    by_cases hk : k < n
    · have hk1 : (k : Int) < (n : Int) := by omega
      obtain ⟨ba, bc, rfl, _⟩ := own_slice ho
      have hrd := read_yes d pd F (base + k) wr (HD1.out.mod (Mod.of_below (F := fun _ => False) hB) (fun _ _ h => h)) (by omega)
      obtain ⟨x, hx⟩ : ∃ x, x = bl.getD k [] := ⟨_, rfl⟩
      have hgx : d.strs.getD (base + k) ByteArray.empty = SB x := by rw [List.getD, HG.out k hk, ← hx]; rfl
      rw [hgx, show ((base + k : Nat) : Int) = (base : Int) + (k : Int) from by omega, show errV 0 = .nilIface from rfl] at hrd
      have Hrd := Lib.hid hrd
      have HO := Lib.hid ho
      have HB := Lib.hid hB
      have Hx := Lib.hid hx
      have Hgk := Lib.hid hgk
      clear hrd ho hB hx hgk hgx
      go_wp2_with fail
      refine Hrd.out.mono ?_
      rintro r w2 ⟨rfl, rfl⟩
      clear Hrd
      have HOwn := Lib.hid (fun ob => own_below HO.out (below_alloc wr ob))
      have HSrc := Lib.hid (rd_one_new wr x 9)
      have HsA := Lib.hid (fun ob => Nat.le_trans HB.out.size (below_alloc wr ob).size)
      go_wp2_with (at_builtin; refine appT rfl _ _ rfl w1.heap.size _ k ((bl.take k).map SV) rfl (HOwn.out _) _ [x] rfl HSrc.out (by rw [List.length_singleton]; omega) (HsA.out _) ?_)
      intro v' w3 hown' hg' _
      have hb3 := (HB.out.trans ((below_alloc wr _).mono HB.out.size)).trans (below_grown hg' (HsA.out _) (fun q hq => ((HOwn.out (.cells #[] 9)).lt q hq).1))
      have hown1 : w3.ownsRow w1.heap.size 9 1 v' (k + 1) ((bl.take (k + 1)).map SV) := by
        rw [List.take_succ_eq_append_getElem (by omega), List.map_append]
        have e1 : bl[k] = x := by rw [Hx.out]; simp [List.getD, show k < bl.length by omega]
        rw [e1]; simpa using hown'
      have HN := Lib.hid (And.intro hown1 hb3)
      clear hb3 hown1 hown' hg' HOwn HSrc HsA HO HB
      go_wp2_with fail
      go_roundg (n - (k + 1))
      case measure => have := Hgk.out; omega
      case rel => exact ⟨k + 1, by have := Hgk.out; omega, by go_num, HN.out⟩
    · obtain rfl : k = n := by omega
      rw [List.take_of_length_le (by omega)] at ho
      obtain ⟨ba, bc, rfl, _⟩ := own_slice ho
      have hsc := scan_calls e (.slice ba k bc) bl wr (by rw [hbn]; exact rd_of_own ho) (by omega) (fun b hb => by have := Hbig.out b hb; omega)
      have Hsc := Lib.hid hsc
      have HB := Lib.hid hB
      clear hsc ho hB
      go_wp2_with fail
      refine Hsc.out.mono ?_
      rintro r w3 ⟨ov, pre, hno, rfl, hfo, hov, hb3⟩
      obtain ⟨va, vc, rfl, _⟩ := own_slice hov
      have hbw1 : w1.heap.size ≤ wr.heap.size := HB.out.size
      have hls : w.heap.size < w1.heap.size := HL.out.lt
      have hB3 : Below w1.heap.size w1 w3 := below_trans HB.out hb3
      have hlg : IsLog w3 ⟨base, k, e, 0, 0, false⟩ w.heap.size pd := Box.below HL.out hB3
      have s1 := Box.set hlg 4 (.int .i64 ((posM e bl pre.length : Nat) : Int))
      have f4 := Box.free hlg 4
      have f5 := Box.free s1 5
      have c4 := Box.cell hlg 4 _ rfl
      have c5 := Box.cell s1 5 _ rfl
      have S1 := Lib.hid s1
      have HL3 := Lib.hid hlg
      have HF := Lib.hid hfo
      have HO := Lib.hid hov
      have HB3 := Lib.hid hB3
      have Hno := Lib.hid hno
      clear hno hfo hov hb3 hB3 hlg s1 HB HL Hsc
      go_wp2_with fail
      go_ret3
      have hm := (Mod.set (fun b => b = w.heap.size) w3 ⟨w.heap.size, 4, none⟩ (.int .i64 ((posM e bl pre.length : Nat) : Int)) rfl).trans (Mod.set (fun b => b = w.heap.size) _ ⟨w.heap.size, 5, none⟩ (.int .i64 (pre.length : Int)) rfl)
      have hbz := below_trans HB1.out HB3.out
      refine ⟨_, pre, Hno.out, rfl, (found_box HF.out hm (by omega)).lower (by omega), own_base (own_mod HO.out hm (fun q hq hqe => ?_)) (by omega), hbz.trans (hm.below hbz.size (fun b hb => by omega)), S1.out.set 5 (.int .i64 (pre.length : Int))⟩
      have := (HO.out.lt q hq).1
      omega
set_option maxHeartbeats 800000 in
theorem refLOpen_yes (d : DiskM) (rp : Nat) (G : Nat → Prop) (base n : Nat) (e : UInt32) (w : World) (h : IsRef w d rp G) (hl4 : d.strs.length ≤ 4096) (hwf : d.Wf) (htr : d.trail.length ≤ 100000000000) (h1 : 1 ≤ n) (h2 : base + n ≤ d.strs.length) (hs : ∀ s ∈ d.strs, s.size ≤ 256) :
    Calls Tryd.prog 32 #[.pointer (some ⟨rp, 0, none⟩), .int .i64 (base : Int), .int .i64 (n : Int), .int .u32 (e.toNat : Int)] w fun r w' => ∃ (k : Nat) (ov : Value) (ys : List Value),
      payM e (d.blks base n) k = none ∧ r = .returned (.tuple #[.pointer (some ⟨w.heap.size, 0, none⟩), ov, .int .i64 0]) ∧ Rd w' ov k ys ∧ ys.length = k ∧ (∀ i, i < k → ∃ p c, payM e (d.blks base n) i = some (p, c) ∧ Rd w' (ys.getD i undef) p.length (p.map V8)) ∧ Below w.heap.size w w' ∧
      IsRLog w' ⟨base, n, e, posM e (d.blks base n) k, k, false⟩ w.heap.size rp := by

  obtain ⟨bl, hbl⟩ : ∃ bl, bl = d.blks base n := ⟨_, rfl⟩
  rw [← hbl]
  unfold DiskM.blks at hbl
  have hbn : bl.length = n := by rw [hbl, List.length_map, List.length_take, List.length_drop]; omega
  have hget : ∀ j, j < n → d.strs[base + j]? = some (SB (bl.getD j [])) := fun j hj => by rw [hbl]; exact strs_blocks d.strs base n h2 j hj
  have hbig : ∀ b ∈ bl, b.length ≤ 256 := by
    rw [hbl]
    intro b hb
    obtain ⟨s, hs1, rfl⟩ := List.mem_map.1 hb
    have := hs s (List.mem_of_mem_drop (List.mem_of_mem_take hs1))
    show s.data.toList.length ≤ 256
    rw [Array.length_toList]; exact this
  have HG := Lib.hid hget
  have Hbig := Lib.hid hbig
  have HD := Lib.hid h
  clear h hget hbig hbl hs
  go_enter Tryd.func32, Tryd.ntmps32
  go_wp2_with fail
  refine (refLNew_yes d rp G base n e w HD.out hl4 h1 h2).mono ?_
  rintro r w1 ⟨rfl, hl, hb1⟩
  have HL := Lib.hid hl
  have HB1 := Lib.hid hb1
  have HD1 := Lib.hid (HD.out.mod (Mod.of_below (F := fun _ => False) hb1) (fun _ _ h => h))
  clear hl hb1
  go_wp2_with fail
  go_loopg [13, 14] n (fun gk bv iv wr => ∃ k : Nat, gk + k = n ∧ iv = .int .i64 (k : Int) ∧ wr.ownsRow w1.heap.size 9 1 bv k ((bl.take k).map SV) ∧ Below w1.heap.size w1 wr)
  case atStart => exact ⟨0, rfl, rfl, World.ownsRow_nil _ _ _ _, Below.refl _ _⟩
  case round =>
    obtain ⟨k, hgk, rfl, ho, hB⟩ := hrel
    by_cases hk : k < n
    · have hk1 : (k : Int) < (n : Int) := by omega
      obtain ⟨ba, bc, rfl, _⟩ := own_slice ho
      have hrd := refRead_any d rp G ((base + k : Nat) : Int) wr (HD1.out.mod (Mod.of_below (F := fun _ => False) hB) (fun _ _ h => h)) hwf htr
      obtain ⟨x, hx⟩ : ∃ x, x = bl.getD k [] := ⟨_, rfl⟩
      have hgx : d.strs.getD (base + k) ByteArray.empty = SB x := by rw [List.getD, HG.out k hk, ← hx]; rfl
      have hrm : d.read ((base + k : Nat) : Int) = (SB x, 0) := by
        unfold DiskM.read
        rw [if_pos ⟨by omega, by omega⟩, Int.toNat_natCast, hgx]
      rw [hrm, show ((base + k : Nat) : Int) = (base : Int) + (k : Int) from by omega] at hrd
      have Hrd := Lib.hid hrd
      have HO := Lib.hid ho
      have HB := Lib.hid hB
      have Hx := Lib.hid hx
      have Hgk := Lib.hid hgk
      clear hrd ho hB hx hgk hgx hrm
      go_wp2_with fail
      refine Hrd.out.mono ?_
      rintro r w2 ⟨rfl, e2⟩
      obtain rfl := e2.symm
      clear Hrd
      have HOwn := Lib.hid (fun ob => own_below HO.out (below_alloc wr ob))
      have HSrc := Lib.hid (rd_one_new wr x 9)
      have HsA := Lib.hid (fun ob => Nat.le_trans HB.out.size (below_alloc wr ob).size)
      go_wp2_with (at_builtin; refine appT rfl _ _ rfl w1.heap.size _ k ((bl.take k).map SV) rfl (HOwn.out _) _ [x] rfl HSrc.out (by rw [List.length_singleton]; omega) (HsA.out _) ?_)
      intro v' w3 hown' hg' _
      have hb3 := (HB.out.trans ((below_alloc wr _).mono HB.out.size)).trans (below_grown hg' (HsA.out _) (fun q hq => ((HOwn.out (.cells #[] 9)).lt q hq).1))
      have hown1 : w3.ownsRow w1.heap.size 9 1 v' (k + 1) ((bl.take (k + 1)).map SV) := by
        rw [List.take_succ_eq_append_getElem (by omega), List.map_append]
        have e1 : bl[k] = x := by rw [Hx.out]; simp [List.getD, show k < bl.length by omega]
        rw [e1]; simpa using hown'
      have HN := Lib.hid (And.intro hown1 hb3)
      clear hb3 hown1 hown' hg' HOwn HSrc HsA HO HB
      go_wp2_with fail
      go_roundg (n - (k + 1))
      case measure => have := Hgk.out; omega
      case rel => exact ⟨k + 1, by have := Hgk.out; omega, by go_num, HN.out⟩
    · obtain rfl : k = n := by omega
      rw [List.take_of_length_le (by omega)] at ho
      obtain ⟨ba, bc, rfl, _⟩ := own_slice ho
      have hsc := refScan_calls e (.slice ba k bc) bl wr (by rw [hbn]; exact rd_of_own ho) (by omega) (fun b hb => by have := Hbig.out b hb; omega)
      have Hsc := Lib.hid hsc
      have HB := Lib.hid hB
      clear hsc ho hB
      go_wp2_with fail
      refine Hsc.out.mono ?_
      rintro r w3 ⟨kk, ov, pv, ys, hno, rfl, hsi⟩
      obtain ⟨q1, q2, q3, _, q5⟩ := hsi
      obtain ⟨va, vc, rfl, _⟩ := own_slice q2
      have hbw1 : w1.heap.size ≤ wr.heap.size := HB.out.size
      have hls : w.heap.size < w1.heap.size := HL.out.lt
      have hB3 : Below w1.heap.size w1 w3 := below_trans HB.out q5
      have hlg : IsRLog w3 ⟨base, k, e, 0, 0, false⟩ w.heap.size rp := Box.below HL.out hB3
      have s1 := Box.set hlg 4 (.int .i64 ((posM e bl kk : Nat) : Int))
      have f4 := Box.free hlg 4
      have f5 := Box.free s1 5
      have c4 := Box.cell hlg 4 _ rfl
      have c5 := Box.cell s1 5 _ rfl
      have S1 := Lib.hid s1
      have HL3 := Lib.hid hlg
      have HF := Lib.hid q1
      have HO := Lib.hid q2
      have Hq3 := Lib.hid q3
      have HB3 := Lib.hid hB3
      have Hno := Lib.hid hno
      clear hno q1 q2 q3 q5 hB3 hlg s1 HB HL Hsc
      go_wp2_with fail
      go_ret3
      have hm := (Mod.set (fun b => b = w.heap.size) w3 ⟨w.heap.size, 4, none⟩ (.int .i64 ((posM e bl kk : Nat) : Int)) rfl).trans (Mod.set (fun b => b = w.heap.size) _ ⟨w.heap.size, 5, none⟩ (.int .i64 (kk : Int)) rfl)
      have hbz := below_trans HB1.out HB3.out
      refine ⟨kk, _, ys, Hno.out, rfl, rd_of_own (own_mod HO.out hm (fun q hq hqe => ?_)), Hq3.out, fun i hi => ?_, hbz.trans (hm.below hbz.size (fun b hb => by omega)), S1.out.set 5 (.int .i64 (kk : Int))⟩
      · have := (HO.out.lt q hq).1
        omega
      · obtain ⟨p, c, g1, g2⟩ := HF.out i hi
        refine ⟨p, c, g1, (g2.keep (fun q hq hl => hm.block q hl (fun hqe => ?_))).rd⟩
        have := (g2.lt q hq).1
        omega
end Go.Proofs.YtjoadcgegobjpaaDoor
/-
  lineageref13: Append.
-/
namespace Go.Proofs.YtjoadcgegobjpaaDoor
open Go.RowKit
set_option maxRecDepth 100000

/-- Between two writes of an Append: all blocks from m on are written. -/
structure RBackI (l : LogM) (d : DiskM) (pl pd : Nat) (bs : List (List UInt8)) (F : Nat → Prop) (bv : Value) (w : World) (s0 m : Nat) (W : World) : Prop where
  err : (d.back (l.base + l.used + m) (bs.drop m)).2 = 0
  disk : ∃ F', IsRef W (d.back (l.base + l.used + m) (bs.drop m)).1 pd F' ∧ (∀ k, F' k → F k ∨ w.heap.size ≤ k) ∧ ∀ k, F' k → bv.ownBlock ≠ some k
  log : IsRLog W l pl pd
  row : Rd W bv bs.length (bs.map SV)
  mod : Mod F w W
  size : s0 ≤ W.heap.size
set_option maxHeartbeats 1600000 in
theorem refAppend_calls (l : LogM) (d : DiskM) (p : List UInt8) (pl pd : Nat) (F : Nat → Prop) (v : Value) (w : World) (hl : IsRLog w l pl pd) (hd : IsRef w d pd F) (hpl : ¬ F pl) (hv : Rd w v p.length (p.map V8)) (ht : d.trail.length ≤ 10000000000)
    (hlen : l.base + l.n ≤ d.strs.length) (hu : l.used ≤ l.n) (hr : l.records ≤ 1000000000) (hl4 : d.strs.length ≤ 4096) :
    Calls Tryd.prog 24 #[.pointer (some ⟨pl, 0, none⟩), v] w fun r w' => r = .returned (.int .i64 (l.append d p).2.2) ∧ IsRLog w' (l.append d p).1 pl pd ∧ Mod (fun b => b = pl ∨ F b) w w' ∧
      ∃ F', IsRef w' (l.append d p).2.1 pd F' ∧ ∀ k, F' k → F k ∨ w.heap.size ≤ k := by
  obtain ⟨va, vc, rfl⟩ : ∃ a c, v = .slice a p.length c := by obtain ⟨a, c, h, _⟩ := hv; exact ⟨a, c, h⟩
  have c3 := Box.cell hl 3 _ rfl
  have c6 := Box.cell hl 6 _ rfl
  have HL := Lib.hid hl
  have HD := Lib.hid hd
  have HV := Lib.hid hv
  clear hl hd hv
  by_cases hdd : l.dead = true
  · have ea : l.append d p = (l, d, 22) := by unfold LogM.append; rw [if_pos hdd]
    have Ea := Lib.hid ea
    rw [hdd] at c6
    clear ea
    go_enter Tryd.func24, Tryd.ntmps24
    go_wp2_with fail
    go_ret
    rw [Ea.out]
    exact ⟨rfl, HL.out, Mod.refl _ _, F, HD.out, fun k hk => .inl hk⟩
  have hdd : l.dead = false := by simpa using hdd
  rw [hdd] at c6
  have HFr := Lib.hid (refFrame_calls _ l.epoch p w HV.out)
  by_cases h512 : 512 < p.length
  · have ea : l.append d p = (l, d, 3) := by unfold LogM.append; rw [if_neg (by rw [hdd]; simp), if_pos h512]
    have Ea := Lib.hid ea
    clear ea
    go_enter Tryd.func24, Tryd.ntmps24
    go_wp2_with fail
    refine HFr.out.mono ?_
    rintro r w1 hr
    obtain ⟨_, rfl, rfl⟩ := hr.resolve_right (fun h => by omega)
    go_wp2_with fail
    go_ret
    rw [Ea.out]
    exact ⟨rfl, HL.out, Mod.refl _ _, F, HD.out, fun k hk => .inl hk⟩
  go_enter Tryd.func24, Tryd.ntmps24
  go_wp2_with fail
  refine HFr.out.mono ?_
  rintro r w1 hr1
  obtain ⟨_, bv, rfl, ho, hb1⟩ := hr1.resolve_left (fun h => by omega)
  obtain ⟨bs, hbs⟩ : ∃ bs, bs = frameM l.epoch p := ⟨_, rfl⟩
  have hb4 : bs.length ≤ 4 := by rw [hbs]; exact frameM_le4 _ _
  have hb0 : 0 < bs.length := by rw [hbs]; exact frameM_pos _ _
  have hb256 : ∀ b ∈ bs, b.length ≤ 256 := fun b hb => frameM_le256 (e := l.epoch) (p := p) (by rw [← hbs]; exact hb)
  rw [← hbs] at ho
  have Hbs := Lib.hid hbs
  obtain ⟨ba, bc, rfl, _⟩ := own_slice ho
  have HL1 := Lib.hid (show IsRLog w1 l pl pd from HL.out.below hb1)
  have HD1 := Lib.hid (HD.out.mod (Mod.of_below (F := fun _ => False) hb1) (fun _ _ h => h))
  have HR1 := Lib.hid (rd_of_own ho)
  have Hbl := Lib.hid (fun k hk => ho.lt k hk)
  have HB1 := Lib.hid hb1
  have c2 := Box.cell HL1.out 2 _ rfl
  have c4 := Box.cell HL1.out 4 _ rfl
  obtain ⟨rm, hrm⟩ : ∃ rm, rm = l.n - l.used := ⟨_, rfl⟩
  have z1 : IntKind.i64.wrap ((l.n : Int) - (l.used : Int)) = (rm : Int) := by rw [wrap_i64r _ (by omega) (by omega)]; omega
  have hrm4 : rm ≤ 4096 := by omega
  have Hrm := Lib.hid hrm
  clear hrm ho hb1 hbs HFr c3 c6
  by_cases hfull : rm < bs.length
  · have ea : l.append d p = (l, d, 19) := by unfold LogM.append; rw [if_neg (by rw [hdd]; simp), if_neg h512, if_pos (by rw [← Hbs.out, ← Hrm.out]; exact hfull)]
    have Ea := Lib.hid ea
    clear ea
    have hfull' : decide ((rm : Int) < (bs.length : Int)) = true := by simp; omega
    go_wp2_with fail
    go_quiet (fail)
    go_wp2_with fail
    go_ret
    rw [Ea.out]
    have hbd := below_drewN w1 nq
    exact ⟨rfl, HL1.out.below hbd, Mod.of_below (below_trans HB1.out hbd), F, HD1.out.mod (Mod.of_below (F := fun _ => False) hbd) (fun _ _ h => h), fun k hk => .inl hk⟩
  have hfull' : decide ((rm : Int) < (bs.length : Int)) = false := by simp; omega
  have hfullN : decide (rm < bs.length) = false := by simp; omega
  have hful2 : l.n - l.used ≥ bs.length := by rw [← Hrm.out]; omega
  go_wp2_with fail
  go_quiet (fail)
  have hbd := below_drewN w1 nq
  obtain ⟨w2, hw2⟩ : ∃ w2, w2 = w1.drewN nq := ⟨_, rfl⟩
  rw [← hw2]
  have HL2 := Lib.hid (show IsRLog w2 l pl pd from by rw [hw2]; exact HL1.out.below hbd)
  have HD2 := Lib.hid (show IsRef w2 d pd F from by rw [hw2]; exact HD1.out.mod (Mod.of_below (F := fun _ => False) hbd) (fun _ _ h => h))
  have HR2 := Lib.hid (show Rd w2 (.slice ba bs.length bc) bs.length (bs.map SV) from by rw [hw2]; exact HR1.out.below hbd)
  have HB2 := Lib.hid (show Below w.heap.size w w2 from by rw [hw2]; exact below_trans HB1.out hbd)
  have Hs12 := Lib.hid (show w1.heap.size ≤ w2.heap.size from by rw [hw2]; exact hbd.size)
  clear hbd HL1 HD1 HR1 HB1 c2 c4 z1 hw2
  have hea : l.append d p = if (d.back (l.base + l.used) bs).2 ≠ 0 then ({ l with dead := true }, (d.back (l.base + l.used) bs).1, 22) else ({ l with used := l.used + bs.length, records := l.records + 1 }, (d.back (l.base + l.used) bs).1, 0) := by
    unfold LogM.append; rw [if_neg (by rw [hdd]; simp), if_neg h512, if_neg (by rw [← Hbs.out, ← Hrm.out]; exact hfull), ← Hbs.out]
  have Hea := Lib.hid hea
  clear hea
  have hbw : ∀ k, (Value.slice ba bs.length bc).ownBlock = some k → w.heap.size ≤ k ∧ k < w2.heap.size := fun k hk => by
    have h1 := Hbl.out k hk
    have h2 := HB2.out.size
    exact ⟨h1.1, Nat.lt_of_lt_of_le h1.2 Hs12.out⟩
  have hI0 : RBackI l d pl pd bs F (.slice ba bs.length bc) w w2.heap.size bs.length w2 := by
    refine ⟨by rw [List.drop_length]; rfl, ⟨F, by rw [List.drop_length]; exact HD2.out, fun k hk => .inl hk, fun k hk e => ?_⟩, HL2.out, HR2.out, Mod.of_below HB2.out, Nat.le_refl _⟩
    have := (hbw k e).1
    have := HD.out.lt k hk
    omega
  have HI0 := Lib.hid hI0
  have Hbw := Lib.hid hbw
  have hplt : pl < w.heap.size := HL.out.lt
  have Hw2 := Lib.hid HB2.out.size
  clear hI0 hbw HL2 HD2 HR2 HB2 Hbl Hs12
  go_wp2_with fail
  go_loopg [7] bs.length (fun gk iv wr => ∃ gm : Nat, gk = gm ∧ iv = .int .i64 ((gm : Int) - 1) ∧ gm ≤ bs.length ∧ RBackI l d pl pd bs F (.slice ba bs.length bc) w w2.heap.size gm wr)
  case atStart => exact ⟨_, rfl, rfl, Nat.le_refl _, HI0.out⟩
  case round =>
    clear HI0
    obtain ⟨gm, hgk, rfl, hgm, hI⟩ := hrel
    by_cases hm : gm = 0
    · subst hm
      have hneg : ¬ (0 : Int) ≤ ((0 : Nat) : Int) - 1 := by omega
      obtain ⟨h1, ⟨F', h2, h3, h4⟩, h5, h6, h7, h8⟩ := hI
      rw [Nat.add_zero, List.drop_zero] at h1 h2
      have hfin : l.append d p = ({ l with used := l.used + bs.length, records := l.records + 1 }, (d.back (l.base + l.used) bs).1, 0) := by rw [Hea.out, if_neg (by rw [h1]; simp)]
      have Hfin := Lib.hid hfin
      have c4 := Box.cell h5 4 _ rfl
      have f4 := Box.free h5 4
      have s1 := Box.set h5 4 (.int .i64 ((l.used : Int) + (bs.length : Int)))
      have c5 := Box.cell s1 5 _ rfl
      have f5 := Box.free s1 5
      have s2 := Box.set s1 5 (.int .i64 ((l.records : Int) + 1))
      have H2 := Lib.hid h2
      have H3 := Lib.hid h3
      have H7 := Lib.hid h7
      have S2 := Lib.hid s2
      clear hfin h1 h2 h3 h4 h5 h6 h7 h8 s1 s2 Hea
      go_wp2_with fail
      go_ret
      rw [Hfin.out]
      have hm2 := (Mod.set (fun b => b = pl) wr ⟨pl, 4, none⟩ (.int .i64 ((l.used : Int) + (bs.length : Int))) rfl).trans (Mod.set (fun b => b = pl) _ ⟨pl, 5, none⟩ (.int .i64 ((l.records : Int) + 1)) rfl)
      refine ⟨rfl, ?_, (H7.out.mono (fun b hb => .inr hb)).trans (hm2.mono (fun b hb => .inl hb)), F', H2.out.mod hm2 (fun k hk e => ?_), H3.out⟩
      · unfold IsRLog
        simp only [Int.natCast_add]
        exact S2.out
      · rcases H3.out k hk with h | h
        · exact hpl (e ▸ h)
        · omega
    · obtain ⟨k, rfl⟩ : ∃ k, gm = k + 1 := ⟨gm - 1, by omega⟩
      have ek : (((k + 1 : Nat) : Int) - 1) = (k : Int) := by omega
      rw [ek]
      have hk0 : (0 : Int) ≤ (k : Int) := by omega
      have hk1 : (k : Int) < (bs.length : Int) := by omega
      obtain ⟨h1, ⟨F', h2, h3, h4⟩, h5, h6, h7, h8⟩ := hI
      obtain ⟨bb, boff, bc', e1, hcb⟩ := rdT_at h6 k (by omega)
      injection e1 with e1 _ e3
      subst e1; subst e3
      have c0 := Box.cell h5 0 _ rfl
      have c1 := Box.cell h5 1 _ rfl
      have c4 := Box.cell h5 4 _ rfl
      have H1 := Lib.hid h1
      have H2 := Lib.hid h2
      have H3 := Lib.hid h3
      have H4 := Lib.hid h4
      have H5 := Lib.hid h5
      have H6 := Lib.hid h6
      have H7 := Lib.hid h7
      have H8 := Lib.hid h8
      clear h1 h2 h3 h4 h5 h6 h7 h8
      go_wp2_with fail
      go_still_tail 19, (by kernel_rfl)
      change wpList _ _ _ _ _ wr.drew
      obtain ⟨dd, hde⟩ : ∃ dd, dd = (d.back (l.base + l.used + (k + 1)) (bs.drop (k + 1))).1 := ⟨_, rfl⟩
      have hst := back_step d (l.base + l.used) bs k (by omega) H1.out
      have hdl := back_len d (bs.drop (k + 1)) (l.base + l.used + (k + 1))
      rw [← hde] at hst hdl
      have H2' := H2.out
      rw [← hde] at H2'
      have hix : (l.base : Int) + (l.used : Int) + (k : Int) = ((l.base + l.used + k : Nat) : Int) := by omega
      have hbk : bs.getD k [] ∈ bs := by rw [List.getD, List.getElem?_eq_getElem (by omega)]; exact List.getElem_mem (by omega)
      have hwr := refWrite_any dd pd F' ((l.base + l.used + k : Nat) : Int) (SB (bs.getD k [])) wr.drew (H2'.mod (Mod.drew (fun _ => False) _) (fun _ _ h => h)) (by have := hdl.2; rw [List.length_drop] at this; omega) (by have := hb256 _ hbk; rw [SB_size]; omega)
      rw [← hst, ← hix] at hwr
      have Hwr := Lib.hid hwr
      have Hix := Lib.hid hix
      have her := back_err d (bs.drop k) (l.base + l.used + k) (fun b hb => hb256 b (List.mem_of_mem_drop hb)) (by rw [List.length_drop]; omega)
      obtain ⟨d2, hd2⟩ : ∃ d2, d2 = (d.back (l.base + l.used + k) (bs.drop k)).1 := ⟨_, rfl⟩
      obtain ⟨er, her2⟩ : ∃ er, er = (d.back (l.base + l.used + k) (bs.drop k)).2 := ⟨_, rfl⟩
      rw [← her2] at her
      have Hd2 := Lib.hid hd2
      have Her2 := Lib.hid her2
      clear hst hdl H2' hix hbk hwr hde hd2 her2 dd
      go_wp2_with fail
      refine Hwr.out.mono ?_
      rw [← Hd2.out, ← Her2.out]
      rintro r w3 ⟨rfl, F2, g1, g2, g3⟩
      have hs3 : wr.heap.size ≤ w3.heap.size := g2.size
      have hF2 : ∀ k, F2 k → F k ∨ w.heap.size ≤ k := fun q hq => by
        rcases g3 q hq with h | h
        · exact H3.out q h
        · exact .inr (by have := H8.out; have := Hw2.out; have h : wr.heap.size ≤ q := h; omega)
      have hpl2 : ∀ q, F' q → q ≠ pl := fun q hq e => by
        rcases H3.out q hq with h | h
        · exact hpl (e ▸ h)
        · omega
      have hlog3 : IsRLog w3 l pl pd := (H5.out.drew).mod g2 (fun h => hpl2 pl h rfl)
      have hrow3 : Rd w3 (.slice (some ⟨bb, boff, none⟩) bs.length bc) bs.length (bs.map SV) := (H6.out.drew).mod g2 (fun q hq h => H4.out q h hq)
      have hmod3 : Mod F w w3 := (H7.out.trans (Mod.drew F wr)).then g2 (fun q hq => H3.out q hq)
      have hap3 : ∀ q, F2 q → (Value.slice (some ⟨bb, boff, none⟩) bs.length bc).ownBlock ≠ some q := fun q hq e => by
        rcases g3 q hq with h | h
        · exact H4.out q h e
        · have := (Hbw.out q e).2
          have := H8.out
          have h : wr.heap.size ≤ q := h
          omega
      rcases her with rfl | rfl
      · have HN := Lib.hid (show RBackI l d pl pd bs F (.slice (some ⟨bb, boff, none⟩) bs.length bc) w w2.heap.size k w3 from ⟨Her2.out.symm, ⟨F2, Hd2.out ▸ g1, hF2, hap3⟩, hlog3, hrow3, hmod3, Nat.le_trans H8.out hs3⟩)
        clear g1 g2 g3 hF2 hpl2 hlog3 hrow3 hmod3 hap3 H1 H2 H3 H4 H5 H6 H7 H8 Hwr Hix Hd2 Her2 c0 c1 c4 hcb
        go_wp2_with fail
        go_roundg k
        case measure => have := hgk; omega
        case rel => exact ⟨k, rfl, rfl, by omega, HN.out⟩
      · have hfin : l.append d p = ({ l with dead := true }, d2, 22) := by
          have h1 := back_stop d bs k (l.base + l.used) (by omega) (by rw [← Her2.out]; decide)
          rw [Hea.out, h1, if_pos (by rw [← Her2.out]; decide), ← Hd2.out]
        have Hfin := Lib.hid hfin
        have c6 := Box.cell hlog3 6 _ rfl
        have f6 := Box.free hlog3 6
        have HG1 := Lib.hid g1
        have HF2 := Lib.hid hF2
        have Hl3 := Lib.hid hlog3
        have Hm3 := Lib.hid hmod3
        clear hfin g1 g2 g3 hF2 hpl2 hlog3 hrow3 hmod3 hap3 H1 H2 H3 H4 H5 H6 H7 H8 Hwr Hix Hd2 Her2 c0 c1 c4 hcb Hea
        go_wp2_with fail
        go_ret
        rw [Hfin.out]
        have hm2 := Mod.set (fun b => b = pl) w3 ⟨pl, 6, none⟩ (.bool true) rfl
        refine ⟨rfl, ?_, (Hm3.out.mono (fun b hb => .inr hb)).trans (hm2.mono (fun b hb => .inl hb)), F2, HG1.out.mod hm2 (fun k hk e => ?_), HF2.out⟩
        · exact Box.set Hl3.out 6 (.bool true)
        · rcases HF2.out k hk with h | h
          · exact hpl (e ▸ h)
          · omega
end Go.Proofs.YtjoadcgegobjpaaDoor
/-
  markBytes of package lineagekit.
-/
namespace Go.Proofs.YtjoadcgegobjpaaDoor
open Go.RowKit

/-- The mark's number. -/
def markI (k i : Int) : Int := (37 * (k + 1) + i) % 256
theorem mark_calls (k i : Int) (w : World) (h0 : 0 ≤ k) (h1 : k ≤ 1000000000) (h2 : -1000000000000000000 ≤ i) (h3 : i ≤ 1000000000000000000) :
    Calls Tryd.prog 54 #[.int .i64 k, .int .i64 i] w fun e w' => e = .returned (.int .u8 (markI k i)) ∧ w = w' := by
  go_enter Tryd.func54, Tryd.ntmps54
  go_wp2
  go_ret
  exact ⟨rfl, rfl⟩
end Go.Proofs.YtjoadcgegobjpaaDoor
/-
  Lists of bytes that were handed out have memory of their own: the turns of ApartBytes, over rows that []byte(s) may have made.
-/
namespace Go.Proofs.YtjoadcgegobjpaaDoor
open Go.RowKit

/-- 'append(s, x)' of one byte, onto such a row. -/
theorem appM1 {w : World} {ops : Array Oper} {rest : List Oper} {o : Oper} {a : Act} {Q : Exit → Act → World → Prop} (hgd : o.guard = none) (s x : Operand)
    (ho : o.op = .call { callee := .builtin .append, args := #[s, x], argTypes := #[46, 46] })
    (base : Nat) (v : Value) (n : Nat) (xs : List Value) (hs : a.eval s = v) (hown : OwnM w base 5 v n xs)
    (ad : Addr) (c : Nat) (y : Value) (hx : a.eval x = .slice (some ad) 1 c) (hy : w.cell? ad = some y) (h1 : y.oneCell' = true)
    (hroom : n + 1 ≤ 140737488355328) (hbase : base ≤ w.heap.size)
    (h : ∀ v' w', OwnM w' base 5 v' (n + 1) (xs ++ [y]) → w.grownBy w' v.ownBlock → Moved w v v' → Grew w w' v v' n → wpList Tryd.prog ops Q rest (a.put o.dst v') w') : wpList Tryd.prog ops Q (o :: rest) a w := by
  obtain ⟨i0, hi, hz0, hz1, hz2⟩ := info_parts info_u8
  refine wpList_plain hgd fun _ hK => ?_
  have had : ad.add 0 = ad := by cases ad with | mk b o s => cases s <;> rfl
  obtain ⟨v', w', hr, h2, h3, h4, h5⟩ := run_append_M (P := Tryd.prog) w base 46 46 o.type 5 _ i0 (.int .u8 0) 1 Tryd.underlying46 Tryd.underlying46 (.inl ⟨_, rfl⟩) hi hz0 hz1 hz2 rfl v n xs hown
    (.slice (some ad) 1 c) 1 [y] rfl (fun w => by simp [Builtin.lenOf]) (fun wd hw => by
      refine run_firstCells_some (P := Tryd.prog) wd 1 1 ad 1 c [y] rfl (fun j u hj => ?_)
      cases j with
      | zero => simp at hj; subst hj; rw [had, hw]; exact hy
      | succ j => simp at hj) (by simpa using h1) (by unfold maxLen; omega) (by omega) hbase
  have h6 : Grew w w' v v' n := by
    rcases h5 with h5 | h5 | ⟨e1, _⟩
    · exact .inl h5
    · exact .inr h5
    · exfalso
      obtain ⟨a1, c1, e2, _⟩ := hown.slice
      obtain ⟨a2, c2, e3, _⟩ := h2.slice
      rw [e1, e2] at e3
      injection e3 with _ e4 _
      omega
  unfold Oper.wp execOp
  simp only [ho, resolve, invoke, builtin, Sem.run_bind, Sem.run_pure, Result.andThen_ok, List.map_toArray, List.map_cons, List.map_nil, hs, hx, hr]
  exact hK _ _ (h v' w' h2 h3 h4 h6)
theorem Twin.appendM {w w' : World} {base : Nat} {e : TypeId} {u v v' x : Value} {n m : Nat} {xs ys : List Value} (h : Twin u v n m) (hr : Rd w u n ys) (hy : ys.length = n) (hown : OwnM w base e v m xs)
    (hown' : OwnM w' base e v' (m + 1) (xs ++ [x])) (hg : w.grownBy w' v.ownBlock) (hgr : Grew w w' v v' m) (hu : ∀ k, u.ownBlock = some k → k < w.heap.size) : Twin u v' n (m + 1) ∧ Rd w' u n ys := by
  rcases hgr with ⟨b, c, rfl, rfl⟩ | ⟨hn, hb⟩
  · rcases h with h | ⟨b', c1, c2, rfl, e2, hnm⟩
    · refine ⟨.inl (fun k hk => by have := h k hk; simpa [Value.ownBlock] using this), hr.keep (fun k hk hl => hg.block k hl (fun e => h k hk e.symm))⟩
    · injection e2 with e3 e4 e5
      injection e3 with e3
      injection e3 with e3
      subst e3
      refine ⟨.inr ⟨_, c1, c, rfl, rfl, by omega⟩, ?_⟩
      obtain ⟨a0, cap0, h0, h1, h2, h3, h4⟩ := hr
      injection h0 with g1 g2 g3
      subst g1; subst g3
      refine ⟨_, _, rfl, h1, h2, h3, fun j hj => ?_⟩
      obtain ⟨b2, o2, g4, g5⟩ := h4 j hj
      injection g4 with g4
      injection g4 with g4 g6
      subst g4; subst g6
      refine ⟨_, 0, rfl, ?_⟩
      have hjm : j < m := by omega
      have hl : xs.length = m := by have := hown.1; omega
      have q1 := hown.cells (g := _) rfl j xs[j] (by simp [show j < xs.length by omega])
      have q2 := hown'.cells (g := _) rfl j xs[j] (by rw [List.getElem?_append_left (by omega)]; simp [show j < xs.length by omega])
      rw [Go.WideShapes.add_plain] at q1 q2
      rw [q2, ← q1, g5]
  · exact ⟨.inl (fun k hk e => by have := hu k hk; rw [hn] at e; injection e with e; omega), hr.below hb⟩
theorem OwnM.isCells {w : World} {base n j : Nat} {e : TypeId} {v : Value} {xs : List Value} {o : Obj} (h : OwnM w base e v n xs) (hj : v.ownBlock = some j) (hk : w.heap[j]? = some o) : o.isCells = true := by
  rcases h.2 with ⟨rfl, _⟩ | ⟨g, cap, cur, fz, rfl, _, hg, _⟩
  · simp [Value.ownBlock] at hj
  · simp [Value.ownBlock] at hj
    subst hj
    rw [hk] at hg; injection hg with hg; rw [hg]; rfl
theorem own_isCells {w : World} {base s n j : Nat} {e : TypeId} {v : Value} {xs : List Value} {o : Obj} (h : w.ownsRow base e s v n xs) (hj : v.ownBlock = some j) (hk : w.heap[j]? = some o) : o.isCells = true := by
  rcases h.2 with ⟨rfl, _⟩ | ⟨g, cap, cur, rfl, _, hg, _⟩
  · simp [Value.ownBlock] at hj
  · simp [Value.ownBlock] at hj
    subst hj
    rw [hk] at hg; injection hg with hg; rw [hg]; rfl
/-- Rows that are handed in: their values, how many elements each has; where they begin; their elements' type. -/
structure Rows0M where
  N : Nat
  vs : Nat → Value
  ns : Nat → Nat
  B : Nat
  e : TypeId
/-- The first turn: the rows, of which the first k are written over, and i elements of the next one. -/
structure Turn1M (R : Rows0M) (mk : Nat → Nat → Value) (lsv : Value) (w0 : World) (k i : Nat) (w : World) : Prop where
  own : ∃ xs : Nat → List Value, (∀ j, j < R.N → OwnM w R.B R.e (R.vs j) (R.ns j) (xs j)) ∧ (∀ j, j < k → j < R.N → xs j = marksOf mk j (R.ns j)) ∧ (k < R.N → (xs k).take i = marksOf mk k i)
  apart : ∀ j j', j < R.N → j' < R.N → j ≠ j' → Apart (R.vs j) (R.vs j')
  ls : Rd w lsv R.N ((List.range R.N).map R.vs)
  lsa : ∀ j, j < R.N → Apart lsv (R.vs j)
  mod : Mod (fun b => R.B ≤ b) w0 w ∧ KeepsOthers w0 w
theorem Turn1M.drew {R : Rows0M} {mk : Nat → Nat → Value} {lsv : Value} {w0 : World} {k i : Nat} {w : World} (h : Turn1M R mk lsv w0 k i w) : Turn1M R mk lsv w0 k i w.drew := by
  obtain ⟨⟨xs, h1, h2, h3⟩, h4, h5, h6, h7⟩ := h
  exact ⟨⟨xs, fun j hj => OwnM.below (h1 j hj) (below_drew _), h2, h3⟩, h4, h5.drew, h6, h7.1.trans (Mod.drew _ _), h7.2.trans (KeepsOthers.drew _)⟩
theorem Turn1M.row {R : Rows0M} {mk : Nat → Nat → Value} {lsv : Value} {w0 : World} {k i : Nat} {w : World} (h : Turn1M R mk lsv w0 k i w) (hk : k < R.N) (hi : i < R.ns k) :
    ∃ g cap, R.vs k = .slice (some ⟨g, 0, none⟩) (R.ns k) cap ∧ (∃ y, w.cell? ⟨g, i, none⟩ = some y) ∧ w.frozen? ⟨g, i, none⟩ = false ∧ Turn1M R mk lsv w0 k (i + 1) (w.setCell ⟨g, i, none⟩ (mk k i)) := by
  obtain ⟨⟨xs, h1, h2, h3⟩, h4, h5, h6, h7⟩ := h
  obtain ⟨g, cap, e1, hb, hy, hf, hs⟩ := OwnM.set (h1 k hk) i hi (mk k i)
  have hm : Mod (fun b => b = g) w (w.setCell ⟨g, i, none⟩ (mk k i)) := Mod.set (fun b => b = g) w ⟨g, i, none⟩ (mk k i) rfl
  have hl := OwnM.len (h1 k hk)
  refine ⟨g, cap, e1, hy, hf, ⟨fun j => if j = k then (xs k).set i (mk k i) else xs j, fun j hj => ?_, fun j hj hj2 => ?_, fun _ => ?_⟩, h4, ?_, h6, h7.1.trans (hm.mono (fun _ hi => by subst hi; exact hb)), h7.2.trans (KeepsOthers.setCell _ _ _)⟩
  · dsimp only
    by_cases e : j = k
    · subst e; rw [if_pos rfl]; exact hs
    · rw [if_neg e]; exact OwnM.mod (h1 j hj) hm (fun b hb e2 => h4 j k hj hk e b hb (by rw [e1, e2]; rfl))
  · dsimp only
    rw [if_neg (by omega)]; exact h2 j hj hj2
  · dsimp only
    rw [if_pos rfl, marksOf_succ, ← h3 hk, List.take_succ_eq_append_getElem (by simp; omega), List.take_set_of_le (Nat.le_refl _)]
    simp
  · exact h5.mod hm (fun b hb e2 => h6 k hk b hb (by rw [e1, e2]; rfl))
theorem Turn1M.next {R : Rows0M} {mk : Nat → Nat → Value} {lsv : Value} {w0 : World} {k : Nat} {w : World} (h : Turn1M R mk lsv w0 k (R.ns k) w) (hk : k < R.N) : Turn1M R mk lsv w0 (k + 1) 0 w := by
  obtain ⟨⟨xs, h1, h2, h3⟩, h4, h5, h6, h7⟩ := h
  refine ⟨⟨xs, h1, fun j hj hj2 => ?_, fun _ => rfl⟩, h4, h5, h6, h7⟩
  by_cases e : j = k
  · subst e
    have := h3 hk
    rw [List.take_of_length_le (by rw [OwnM.len (h1 j hk)]; exact Nat.le_refl _)] at this
    exact this
  · exact h2 j (by omega) hj2
/-- The second turn: the first k rows have their marks behind; of the next one i. -/
structure Turn2M (R : Rows0M) (mk : Nat → Nat → Value) (lsv : Value) (w0 : World) (E : TypeId) (k : Nat) (gsv : Value) (gl : List Value) (g : Value) (i : Nat) (w : World) : Prop where
  own : ∃ gv : Nat → Value, (∀ j, j < k → j < R.N → OwnM w R.B R.e (gv j) (R.ns j + 64) (marksOf mk j (R.ns j + 64))) ∧ (∀ j, k < j → j < R.N → gv j = R.vs j ∧ OwnM w R.B R.e (gv j) (R.ns j) (marksOf mk j (R.ns j))) ∧
    (k < R.N → gv k = g ∧ OwnM w R.B R.e g (R.ns k + i) (marksOf mk k (R.ns k + i)) ∧ Twin (R.vs k) g (R.ns k) (R.ns k + i)) ∧ (∀ j j', j < R.N → j' < R.N → j ≠ j' → Apart (gv j) (gv j') ∧ Apart (R.vs j) (gv j')) ∧
    (∀ j, j < R.N → Apart lsv (gv j) ∧ Apart gsv (gv j)) ∧ gl = (List.range (min k R.N)).map gv
  rd : ∀ j, j < R.N → Rd w (R.vs j) (R.ns j) (marksOf mk j (R.ns j))
  lt : ∀ j, j < R.N → ∀ b, (R.vs j).ownBlock = some b → b < w.heap.size
  ls : Rd w lsv R.N ((List.range R.N).map R.vs)
  lsl : ∀ b, lsv.ownBlock = some b → b < w.heap.size
  gs : w.ownsRow R.B E 1 gsv (min k R.N) gl
  gsa : Apart lsv gsv ∧ ∀ j, j < R.N → Apart (R.vs j) gsv
  mod : Mod (fun b => R.B ≤ b) w0 w ∧ KeepsOthers w0 w
  le : R.B ≤ w.heap.size
/-- When all rows are written. -/
theorem Turn1M.two {R : Rows0M} {mk : Nat → Nat → Value} {lsv : Value} {w0 : World} {w : World} {E : TypeId} (h : Turn1M R mk lsv w0 R.N 0 w) (hl : ∀ b, lsv.ownBlock = some b → b < w.heap.size) (hB : R.B ≤ w.heap.size) :
    Turn2M R mk lsv w0 E 0 (.slice none 0 0) [] (R.vs 0) 0 w := by
  obtain ⟨⟨xs, h1, h2, h3⟩, h4, h5, h6, h7⟩ := h
  have ho : ∀ j, j < R.N → OwnM w R.B R.e (R.vs j) (R.ns j) (marksOf mk j (R.ns j)) := fun j hj => by
    have := h1 j hj
    rwa [h2 j hj hj] at this
  refine ⟨⟨R.vs, fun j hj _ => by omega, fun j _ hj => ⟨rfl, ho j hj⟩, fun h0 => ⟨rfl, ho 0 h0, ?_⟩, fun j j' hj hj' hne => ⟨h4 j j' hj hj' hne, h4 j j' hj hj' hne⟩, fun j hj => ⟨h6 j hj, nil_apart _⟩, by simp⟩,
    fun j hj => OwnM.rd (ho j hj), fun j hj b hb => ((ho j hj).lt b hb).2, h5, hl, ?_, ⟨apart_nil _, fun j _ => apart_nil _⟩, h7, hB⟩
  · rcases (ho 0 h0).2 with ⟨e, _⟩ | ⟨g, cap, cur, fz, e, _⟩
    · rw [e]; exact .inl (nil_apart _)
    · rw [e]; exact .inr ⟨g, cap, cap, rfl, rfl, by omega⟩
  · rw [Nat.zero_min]; exact World.ownsRow_nil _ _ _ _
/-- Something else is made. -/
theorem Turn2M.below {R : Rows0M} {mk : Nat → Nat → Value} {lsv : Value} {w0 : World} {E : TypeId} {k i : Nat} {gsv g : Value} {gl : List Value} {w w' : World} (h : Turn2M R mk lsv w0 E k gsv gl g i w) (hb : Below w.heap.size w w') : Turn2M R mk lsv w0 E k gsv gl g i w' := by
  obtain ⟨⟨gv, h1, h2, h3, h4, h5, h6⟩, k1, k2, k3, k4, k5, k6, k7, k8⟩ := h
  exact ⟨⟨gv, fun j a b => OwnM.below (h1 j a b) hb, fun j a b => ⟨(h2 j a b).1, OwnM.below (h2 j a b).2 hb⟩, fun a => ⟨(h3 a).1, OwnM.below (h3 a).2.1 hb, (h3 a).2.2⟩, h4, h5, h6⟩, fun j hj => (k1 j hj).below hb,
    fun j hj b hb2 => Nat.lt_of_lt_of_le (k2 j hj b hb2) hb.size, k3.below hb, fun b hb2 => Nat.lt_of_lt_of_le (k4 b hb2) hb.size, own_below k5 hb, k6, ⟨k7.1.then (Mod.of_below (F := fun _ => False) hb) (fun _ h => h.elim), k7.2.trans (keepsOthers_below hb)⟩, Nat.le_trans k8 hb.size⟩
/-- A mark more behind the row at hand. -/
theorem Turn2M.step {R : Rows0M} {mk : Nat → Nat → Value} {lsv : Value} {w0 : World} {E : TypeId} {k i : Nat} {gsv g g' : Value} {gl : List Value} {w w' : World} (h : Turn2M R mk lsv w0 E k gsv gl g i w) (hk : k < R.N)
    (hown' : OwnM w' R.B R.e g' (R.ns k + i + 1) (marksOf mk k (R.ns k + i) ++ [mk k (R.ns k + i)])) (hg : w.grownBy w' g.ownBlock) (hm : Moved w g g') (hgr : Grew w w' g g' (R.ns k + i)) : Turn2M R mk lsv w0 E k gsv gl g' (i + 1) w' := by
  obtain ⟨⟨gv, h1, h2, h3, h4, h5, h6⟩, k1, k2, k3, k4, k5, k6, k7, k8⟩ := h
  obtain ⟨e0, ho, ht⟩ := h3 hk
  have hglt := fun j (hj : j < R.N) (hjk : j ≠ k) => (show ∀ b, (gv j).ownBlock = some b → b < w.heap.size from fun b hb => by
    rcases Nat.lt_or_gt_of_ne hjk with hlt | hlt
    · exact ((h1 j hlt hj).lt b hb).2
    · exact ((h2 j hlt hj).2.lt b hb).2)
  have hT := ht.appendM (k1 k hk) (marksOf_length _ _ _) ho hown' hg hgr (k2 k hk)
  rw [← marksOf_succ] at hown'
  refine ⟨⟨fun j => if j = k then g' else gv j, fun j a b => ?_, fun j a b => ?_, fun a => ⟨if_pos rfl, hown', hT.1⟩, fun j j' hj hj' hne => ?_, fun j hj => ?_, ?_⟩, fun j hj => ?_, fun j hj b hb => Nat.lt_of_lt_of_le (k2 j hj b hb) hg.size,
    k3.keep (fun b hb hl => hg.block b hl (fun e => (h5 k hk).1 b hb (by rw [e0]; exact e.symm))), fun b hb => Nat.lt_of_lt_of_le (k4 b hb) hg.size, own_other k5 hg (by rw [← e0]; exact (h5 k hk).2), k6,
    ⟨k7.1.then (Mod.of_grown hg (F := fun b => R.B ≤ b) (fun b hb => (ho.lt b hb).1)) (fun b hb => .inl hb), k7.2.trans (KeepsOthers.of_grownBy hg (fun j o hj hk => OwnM.isCells ho hj hk))⟩, Nat.le_trans k8 hg.size⟩
  · show OwnM w' R.B R.e (if j = k then g' else gv j) _ _
    rw [if_neg (by omega)]; exact OwnM.other (h1 j a b) hg (by rw [← e0]; exact (h4 j k b hk (by omega)).1)
  · show (if j = k then g' else gv j) = _ ∧ OwnM w' R.B R.e (if j = k then g' else gv j) _ _
    rw [if_neg (by omega)]; exact ⟨(h2 j a b).1, OwnM.other (h2 j a b).2 hg (by rw [← e0]; exact (h4 j k b hk (by omega)).1)⟩
  · show Apart (if j = k then g' else gv j) (if j' = k then g' else gv j') ∧ Apart (R.vs j) (if j' = k then g' else gv j')
    by_cases ej : j = k
    · subst ej
      rw [if_pos rfl, if_neg (by omega)]
      have h := h4 j j' hj hj' hne
      refine ⟨?_, h.2⟩
      have h' := h.1.symm
      rw [e0] at h'
      exact (h'.moved hm (hglt j' hj' (by omega))).symm
    · rw [if_neg ej]
      by_cases ej' : j' = k
      · subst ej'
        rw [if_pos rfl]
        have h := h4 j j' hj hj' hne
        rw [e0] at h
        exact ⟨h.1.moved hm (hglt j hj ej), h.2.moved hm (k2 j hj)⟩
      · rw [if_neg ej']; exact h4 j j' hj hj' hne
  · show Apart lsv (if j = k then g' else gv j) ∧ Apart gsv (if j = k then g' else gv j)
    by_cases ej : j = k
    · subst ej
      rw [if_pos rfl]
      have h := h5 j hj
      rw [e0] at h
      exact ⟨h.1.moved hm k4, h.2.moved hm (fun b hb => (k5.lt b hb).2)⟩
    · rw [if_neg ej]; exact h5 j hj
  · rw [h6]
    refine List.map_congr_left fun j hj => ?_
    simp only [List.mem_range] at hj
    rw [if_neg (by omega)]
  · by_cases ej : j = k
    · subst ej; exact hT.2
    · exact (k1 j hj).keep (fun b hb hl => hg.block b hl (fun e => (h4 j k hj hk ej).2 b hb (by rw [e0]; exact e.symm)))
/-- The row goes among those that are held. -/
theorem Turn2M.next {R : Rows0M} {mk : Nat → Nat → Value} {lsv : Value} {w0 : World} {E : TypeId} {k : Nat} {gsv g gsv' : Value} {gl : List Value} {w w' : World} (h : Turn2M R mk lsv w0 E k gsv gl g 64 w) (hk : k < R.N)
    (hown' : w'.ownsRow R.B E 1 gsv' (k + 1) (gl ++ [g])) (hg : w.grownBy w' gsv.ownBlock) (hm : Moved w gsv gsv') : Turn2M R mk lsv w0 E (k + 1) gsv' (gl ++ [g]) (R.vs (k + 1)) 0 w' := by
  obtain ⟨⟨gv, h1, h2, h3, h4, h5, h6⟩, k1, k2, k3, k4, k5, k6, k7, k8⟩ := h
  obtain ⟨e0, ho, ht⟩ := h3 hk
  have hglt := fun j (hj : j < R.N) => (show ∀ b, (gv j).ownBlock = some b → b < w.heap.size from fun b hb => by
    rcases Nat.lt_trichotomy j k with hlt | rfl | hlt
    · exact ((h1 j hlt hj).lt b hb).2
    · rw [e0] at hb; exact (ho.lt b hb).2
    · exact ((h2 j hlt hj).2.lt b hb).2)
  refine ⟨⟨gv, fun j a b => ?_, fun j a b => ⟨(h2 j (by omega) b).1, OwnM.other (h2 j (by omega) b).2 hg (h5 j b).2.symm⟩, fun a => ⟨(h2 _ (by omega) a).1, ?_, ?_⟩, h4, fun j hj => ⟨(h5 j hj).1, ((h5 j hj).2.symm.moved hm (hglt j hj)).symm⟩, ?_⟩,
    fun j hj => (k1 j hj).keep (fun b hb hl => hg.block b hl (fun e => k6.2 j hj b hb e.symm)), fun j hj b hb => Nat.lt_of_lt_of_le (k2 j hj b hb) hg.size,
    k3.keep (fun b hb hl => hg.block b hl (fun e => k6.1 b hb e.symm)), fun b hb => Nat.lt_of_lt_of_le (k4 b hb) hg.size, by rw [show min (k + 1) R.N = k + 1 by omega]; exact hown', ⟨k6.1.moved hm k4, fun j hj => (k6.2 j hj).moved hm (k2 j hj)⟩,
    ⟨k7.1.then (Mod.of_grown hg (F := fun b => R.B ≤ b) (fun b hb => (k5.lt b hb).1)) (fun b hb => .inl hb), k7.2.trans (KeepsOthers.of_grownBy hg (fun j o hj hk => own_isCells k5 hj hk))⟩, Nat.le_trans k8 hg.size⟩
  · by_cases ej : j = k
    · subst ej; rw [e0]; exact OwnM.other ho hg (by rw [← e0]; exact (h5 j b).2.symm)
    · exact OwnM.other (h1 j (by omega) b) hg (h5 j b).2.symm
  · have h := h2 (k + 1) (by omega) a
    rw [h.1] at h
    exact OwnM.other h.2 hg (by have := (h5 (k + 1) a).2.symm; rwa [(h2 (k + 1) (by omega) a).1] at this)
  · have h := h2 (k + 1) (by omega) a
    rw [h.1] at h
    rcases h.2.2 with ⟨e, _⟩ | ⟨g, cap, cur, fz, e, _⟩
    · rw [e]; exact .inl (nil_apart _)
    · rw [e]; exact .inr ⟨g, cap, cap, rfl, rfl, by omega⟩
  · rw [h6, show min k R.N = k by omega, show min (k + 1) R.N = k + 1 by omega, List.range_succ, List.map_append]; simp [e0]
/-- What the third turn reads. -/
structure Turn3M (R : Rows0M) (mk : Nat → Nat → Value) (lsv gsv : Value) (gl : List Value) (w : World) : Prop where
  ls : Rd w lsv R.N ((List.range R.N).map R.vs)
  gs : Rd w gsv R.N gl
  len : gl.length = R.N
  rd : ∀ j, j < R.N → Rd w (R.vs j) (R.ns j) (marksOf mk j (R.ns j))
  gd : ∀ j, j < R.N → Rd w (gl.getD j undef) (R.ns j + 64) (marksOf mk j (R.ns j + 64))
theorem Turn2M.three {R : Rows0M} {mk : Nat → Nat → Value} {lsv : Value} {w0 : World} {E : TypeId} {gsv g : Value} {gl : List Value} {w : World} {i : Nat} (h : Turn2M R mk lsv w0 E R.N gsv gl g i w) : Turn3M R mk lsv gsv gl w := by
  obtain ⟨⟨gv, h1, h2, h3, h4, h5, h6⟩, k1, k2, k3, k4, k5, k6, k7⟩ := h
  rw [Nat.min_self] at h6 k5
  refine ⟨k3, rd_of_own k5, by rw [h6]; simp, k1, fun j hj => ?_⟩
  have : gl.getD j undef = gv j := by rw [h6]; simp [List.getD, hj]
  rw [this]; exact OwnM.rd (h1 j hj hj)
theorem Turn3M.below {R : Rows0M} {mk : Nat → Nat → Value} {lsv gsv : Value} {gl : List Value} {w w' : World} (h : Turn3M R mk lsv gsv gl w) (hb : Below w.heap.size w w') : Turn3M R mk lsv gsv gl w' :=
  ⟨h.ls.below hb, h.gs.below hb, h.len, fun j hj => (h.rd j hj).below hb, fun j hj => (h.gd j hj).below hb⟩
theorem Turn3M.drew {R : Rows0M} {mk : Nat → Nat → Value} {lsv gsv : Value} {gl : List Value} {w : World} (h : Turn3M R mk lsv gsv gl w) : Turn3M R mk lsv gsv gl w.drew := h.below (below_drew _)
end Go.Proofs.YtjoadcgegobjpaaDoor
