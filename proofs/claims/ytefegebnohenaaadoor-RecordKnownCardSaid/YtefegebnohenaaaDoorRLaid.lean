/-
  lineagelaw12.laid: the blocks of records, one behind the other, and their payloads.
-/
import Derived.Test.YtefegebnohenaaaDoorRWorks
namespace Go.Proofs.YtefegebnohenaaaDoor
open Go.RowKit

theorem apart_own {W : World} {b b' : Nat} {e e' : TypeId} {s s' n n' : Nat} {v v' : Value} {xs xs' : List Value} (h : W.ownsRow b e s v n xs) (h' : W.ownsRow b' e' s' v' n' xs') (hne : e ≠ e') : Apart v v' := by
  intro k hk hk'
  rcases h.2 with ⟨rfl, _⟩ | ⟨g, cap, cur, rfl, _, hg, _⟩
  · simp [Value.ownBlock] at hk
  · rcases h'.2 with ⟨rfl, _⟩ | ⟨g', cap', cur', rfl, _, hg', _⟩
    · simp [Value.ownBlock] at hk'
    · simp [Value.ownBlock] at hk hk'
      subst hk; subst hk'
      rw [hg] at hg'
      injection hg' with h1; injection h1 with h2 h3 h4
      exact hne h3
theorem info_rows : (Tryd.prog.info? 23).map (fun i => (i.zero, i.size, i.bytes)) = some (some (.slice none 0 0), 1, 24) := by kernel_rfl
/-- 'append(s, x)' of one list of bytes onto lists that the call owns. -/
theorem appR {w : World} {ops : Array Oper} {rest : List Oper} {o : Oper} {a : Act} {Q : Exit → Act → World → Prop} (hgd : o.guard = none) (s x : Operand)
    (ho : o.op = .call { callee := .builtin .append, args := #[s, x], argTypes := #[50, 50] })
    (base : Nat) (v : Value) (n : Nat) (xs : List Value) (hs : a.eval s = v) (hown : w.ownsRow base 23 1 v n xs)
    (ad : Addr) (c : Nat) (y : Value) (hx : a.eval x = .slice (some ad) 1 c) (hy : w.cell? ad = some y) (h1 : y.oneCell' = true)
    (hroom : n + 1 ≤ 4398046511104) (hbase : base ≤ w.heap.size)
    (h : ∀ v' w', w'.ownsRow base 23 1 v' (n + 1) (xs ++ [y]) → w.grownBy w' v.ownBlock → Moved w v v' → wpList Tryd.prog ops Q rest (a.put o.dst v') w') : wpList Tryd.prog ops Q (o :: rest) a w := by
  obtain ⟨i0, hi, hz0, hz1, hz2⟩ := info_parts info_rows
  refine wpList_append_own2 hgd s x 50 ho base 23 i0 (.slice none 0 0) 1 24 Tryd.underlying50 hi hz0 hz1 hz2 rfl (by decide) v n xs hs hown ad 1 c [y] hx rfl (fun j u hj => ?_) (by simpa using h1) (by unfold maxLen; omega) (by omega) hbase h
  cases j with
  | zero => simp at hj; subst hj; rw [show ad.add 0 = ad from by cases ad with | mk b o s => cases s <;> rfl]; exact hy
  | succ j => simp at hj
/-- Between two rounds of laid. -/
structure LaidI (e : UInt32) (ls : List (List UInt8)) (w : World) (k : Nat) (bv ov : Value) (ys : List Value) (W : World) : Prop where
  bl : W.ownsRow w.heap.size 9 1 bv (laidM e ((ls.take k).map (List.take 512))).length ((laidM e ((ls.take k).map (List.take 512))).map SV)
  ot : W.ownsRow w.heap.size 23 1 ov k ys
  len : ys.length = k
  rows : ∀ i, i < k → Rd w (ys.getD i undef) ((ls.getD i []).take 512).length (((ls.getD i []).take 512).map V8)
  below : Below w.heap.size w W
theorem frameM_le (e : UInt32) (p : List UInt8) : (frameM e p).length ≤ 4 := by
  have : ∀ f q, (restM f q).length ≤ f := by
    intro f
    induction f with
    | zero => intro q; simp [restM]
    | succ f ih => intro q; rw [restM]; split
                   · simp
                   · have := ih (q.drop 255); simp only [List.length_cons]; omega
  unfold frameM
  have := this 3 (p.drop 245)
  simp only [List.length_cons]; omega
theorem laidM_le (e : UInt32) (ps : List (List UInt8)) : (laidM e ps).length ≤ 4 * ps.length := by
  induction ps with
  | nil => simp [laidM]
  | cons p ps ih =>
    have := frameM_le e p
    unfold laidM at ih ⊢
    rw [List.flatMap_cons, List.length_append, List.length_cons]; omega
theorem laidM_snoc (e : UInt32) (ps : List (List UInt8)) (p : List UInt8) : laidM e (ps ++ [p]) = laidM e ps ++ frameM e p := by
  unfold laidM; simp
set_option maxHeartbeats 800000 in
theorem laid_calls (e : UInt32) (v : Value) (vs : List Value) (ls : List (List UInt8)) (w : World) (hv : Rd w v ls.length vs) (hvl : vs.length = ls.length) (hrow : ∀ i, i < ls.length → Rd w (vs.getD i undef) (ls.getD i []).length ((ls.getD i []).map V8)) (hn : ls.length ≤ 1048576) :
    Calls Tryd.prog 25 #[.int .u32 (e.toNat : Int), v] w fun r w' => ∃ bv ov ys, r = .returned (.tuple #[bv, ov, .bool true]) ∧ LaidI e ls w ls.length bv ov ys w' := by
  obtain ⟨a, cap, rfl, hc1, hc2, _, hc⟩ := hv
  have Hc := Lib.hid hc
  have Hr := Lib.hid hrow
  have Hvl := Lib.hid hvl
  have Hn := Lib.hid hn
  clear hc hrow hvl
  go_enter Tryd.func25, Tryd.ntmps25
  go_wp2_with fail
  go_loopw [7, 8, 9] (fun bv ov i wr => ∃ k : Nat, k ≤ ls.length ∧ i = .int .i64 k ∧ ∃ ys, LaidI e ls w k bv ov ys wr) (fun _ _ i _ => ls.length - (intOf i).toNat)
  case atStart => exact ⟨0, by omega, rfl, [], World.ownsRow_nil _ _ _ _, World.ownsRow_nil _ _ _ _, rfl, fun i hi => by omega, Below.refl _ _⟩
  case round =>
    obtain ⟨k, hk, rfl, ys, hI⟩ := hrel
    obtain ⟨L, hL⟩ : ∃ L, L = laidM e ((ls.take k).map (List.take 512)) := ⟨_, rfl⟩
    have hbl0 := hI.bl
    rw [← hL] at hbl0
    obtain ⟨ba, bc, rfl, _⟩ := own_slice hbl0
    obtain ⟨oa, oc, rfl, _⟩ := own_slice hI.ot
    have hroom : L.length ≤ 4 * k := by
      have h1 := laidM_le e ((ls.take k).map (List.take 512))
      rw [← hL] at h1
      rw [List.length_map, List.length_take] at h1
      omega
    have HBL0 := Lib.hid hbl0
    have HL := Lib.hid hL
    have HRoom0 := Lib.hid hroom
    clear hbl0 hL hroom
    by_cases hlt : k < ls.length
    · obtain ⟨b, off, rfl, hcell'⟩ := Hc.out k (by rw [Hvl.out]; exact hlt)
      have hr := Hr.out k hlt
      obtain ⟨p, hp⟩ : ∃ p, p = ls.getD k [] := ⟨_, rfl⟩
      obtain ⟨x, hx⟩ : ∃ x, x = vs.getD k undef := ⟨_, rfl⟩
      rw [← hx] at hcell' hr
      rw [← hp] at hr
      obtain ⟨xa, xc, hxe, hxl⟩ : ∃ xa xc, x = .slice xa p.length xc ∧ p.length ≤ xc := by obtain ⟨p, q, e, h, _⟩ := hr; exact ⟨p, q, e, h⟩
      rw [hxe] at hcell' hr
      have hcell := below_heap hI.below hcell'
      have hcut := hr.cut (m := min p.length 512) (by omega) 512
      rw [← List.map_take] at hcut
      obtain ⟨q, hq⟩ : ∃ q, q = p.take 512 := ⟨_, rfl⟩
      rw [← hq, show min p.length 512 = q.length by rw [hq, List.length_take]; omega] at hcut
      have hql : q.length ≤ 512 := by rw [hq, List.length_take]; omega
      have hct := cut_calls xa p.length xc wr hxl
      rw [show min p.length 512 = q.length by rw [hq, List.length_take]; omega] at hct
      have hfr := frame_calls _ e q wr (hcut.below hI.below)
      obtain ⟨F, hF⟩ : ∃ F, F = frameM e q := ⟨_, rfl⟩
      have hF4 : F.length ≤ 4 := by rw [hF]; exact frameM_le e q
      rw [← hF] at hfr
      have HF := Lib.hid hF
      have HF4 := Lib.hid hF4
      have Hct := Lib.hid hct
      have Hfr := Lib.hid hfr
      have HI := Lib.hid hI
      have Hcut := Lib.hid hcut
      have Hq := Lib.hid hq
      have Hp := Lib.hid hp
      have Hql := Lib.hid hql
      have h1 : (0 : Int) ≤ (k : Int) := by omega
      have h2 : (k : Int) < (ls.length : Int) := by omega
      clear hF hF4 hct hfr hI hcut hq hp hx hxe hr hcell' Hc Hr Hvl hql
      go_wp2_with fail
      refine Hct.out.mono ?_
      rintro r w1 ⟨rfl, rfl⟩
      go_wp2_with fail
      refine Hfr.out.mono ?_
      rintro r w1 hr
      rcases hr with ⟨h, _⟩ | ⟨_, lv, rfl, ho1, hb1⟩
      · exact absurd h (by have := Hql.out; omega)
      obtain ⟨la, lc, rfl, _⟩ := own_slice ho1
      have HO1 := Lib.hid ho1
      have HB1 := Lib.hid hb1
      have HBL := Lib.hid (own_below HBL0.out hb1)
      have HOT := Lib.hid (own_below HI.out.ot hb1)
      have hs1 := (HI.out.below.trans (hb1.mono HI.out.below.size)).size
      have Hs1 := Lib.hid hs1
      have HRoom := Lib.hid (show L.length + F.length ≤ 8796093022208 by have := HRoom0.out; have := HF4.out; have := Hn.out; omega)
      clear ho1 hb1 hs1 Hct Hfr HBL0
      go_wp2_with (at_builtin; refine appT rfl _ _ rfl w.heap.size _ L.length (L.map SV) rfl HBL.out _ F rfl (rd_of_own HO1.out) HRoom.out Hs1.out ?_)
      intro v2 w2 ho2 hg2 _
      obtain ⟨b2, c2, rfl, _⟩ := own_slice ho2
      have hap : Apart (.slice oa k oc) (.slice ba L.length bc) := apart_own HOT.out HBL.out (by decide)
      have hot2 := own_other HOT.out hg2 hap
      have hbw2 := (HI.out.below.trans (HB1.out.mono HI.out.below.size)).trans (below_grown hg2 Hs1.out (fun j hj => (HBL.out.lt j hj).1))
      have hy1 : (Value.slice xa q.length xc).oneCell' = true := by simp [Value.oneCell']
      have Hy1 := Lib.hid hy1
      have Hot3 := Lib.hid (own_below hot2 (below_alloc w2 (.cells #[.slice xa q.length xc] 23)))
      have Hbl3 := Lib.hid (own_below ho2 (below_alloc w2 (.cells #[.slice xa q.length xc] 23)))
      have Hbw3 := Lib.hid (hbw2.trans ((below_alloc w2 (.cells #[.slice xa q.length xc] 23)).mono hbw2.size))
      have Hs3 := Lib.hid Hbw3.out.size
      have HkR := Lib.hid (show k + 1 ≤ 4398046511104 by omega)
      have Hc3 := Lib.hid ((Box.new w2 #[.slice xa q.length xc] 23).cell 0 _ rfl)
      clear hap hot2 hbw2 hy1 ho2 hg2
      go_wp2_with (at_builtin; refine appR rfl _ _ rfl w.heap.size _ k ys rfl Hot3.out ⟨w2.heap.size, 0, none⟩ 1 (.slice xa q.length xc) rfl Hc3.out Hy1.out HkR.out Hs3.out ?_)
      intro v4 w4 ho4 hg4 _
      obtain ⟨b4, c4, rfl, _⟩ := own_slice ho4
      have hap : Apart (.slice b2 (L.length + F.length) c2) (.slice oa k oc) := apart_own Hbl3.out Hot3.out (by decide)
      have hbl4 := own_other Hbl3.out hg4 hap
      have hbw4 := Hbw3.out.trans (below_grown hg4 Hs3.out (fun j hj => (Hot3.out.lt j hj).1))
      have hIn : ∃ ys, LaidI e ls w (k + 1) (.slice b2 (L.length + F.length) c2) (.slice b4 (k + 1) c4) ys w4 := by
        have e1 : laidM e ((ls.take (k + 1)).map (List.take 512)) = L ++ F := by
          rw [List.take_succ_eq_append_getElem hlt, List.map_append, List.map_cons, List.map_nil, laidM_snoc, HL.out, HF.out, Hq.out, Hp.out]
          simp [List.getD, hlt]
        refine ⟨ys ++ [.slice xa q.length xc], ?_, ho4, by rw [List.length_append, HI.out.len]; rfl, fun i hi => ?_, hbw4⟩
        · rw [e1, List.length_append, List.map_append]; exact hbl4
        · rcases Nat.lt_or_ge i k with h | h
          · have := HI.out.rows i h
            rw [List.getD, List.getElem?_append_left (by rw [HI.out.len]; exact h)]; exact this
          · obtain rfl : i = k := by omega
            rw [List.getD, List.getElem?_append_right (by rw [HI.out.len]; omega), HI.out.len, Nat.sub_self, ← Hp.out, ← Hq.out]
            exact Hcut.out
      have HIn := Lib.hid hIn
      clear hap hbl4 hbw4 hIn ho4 hg4 HL HF HF4 Hq Hp Hcut HI HOT HBL HO1 HB1 Hot3 Hbl3 Hbw3 Hs3 HkR Hc3 Hy1 HRoom HRoom0 Hql Hs1 hcell
      go_wp2_with fail
      go_roundw
      case rel => exact ⟨k + 1, by omega, by go_num, HIn.out⟩
      case measure => simp [intOf]; omega
    · obtain rfl : k = ls.length := by omega
      clear Hc Hr
      go_wp2_with fail
      go_ret3
      exact ⟨_, _, ys, rfl, hI⟩
end Go.Proofs.YtefegebnohenaaaDoor
