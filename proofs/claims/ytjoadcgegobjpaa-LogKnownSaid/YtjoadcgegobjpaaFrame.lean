/-
  The walk of record.Frame.
-/
import Derived.Test.YtjoadcgegobjpaaOne
namespace Go.Proofs.Ytjoadcgegobjpaa
open Go.RowKit

theorem info_str : (Try.prog.info? 9).map (fun i => (i.zero, i.size, i.bytes)) = some (some (.string ByteArray.empty), 1, 16) := by kernel_rfl
/-- 'append(s, t)' of one string onto a list that the call owns. -/
theorem appT {w : World} {ops : Array Oper} {rest : List Oper} {o : Oper} {a : Act} {Q : Exit → Act → World → Prop} (hgd : o.guard = none) (s x : Operand)
    (ho : o.op = .call { callee := .builtin .append, args := #[s, x], argTypes := #[50, 50] })
    (base : Nat) (v : Value) (n : Nat) (xs : List Value) (hs : a.eval s = v) (hown : w.ownsRow base 9 1 v n xs)
    (src : Value) (l : List (List UInt8)) (hx : a.eval x = src) (hsrc : Rd w src l.length (l.map SV))
    (hroom : n + l.length ≤ 8796093022208) (hbase : base ≤ w.heap.size)
    (h : ∀ v' w', w'.ownsRow base 9 1 v' (n + l.length) (xs ++ l.map SV) → w.grownBy w' v.ownBlock → Moved w v v' → wpList Try.prog ops Q rest (a.put o.dst v') w') : wpList Try.prog ops Q (o :: rest) a w := by
  obtain ⟨i0, hi, hz0, hz1, hz2⟩ := info_parts info_str
  exact wpList_append_src hgd s x 50 ho base 9 i0 (.string ByteArray.empty) 1 16 Try.underlying50 hi hz0 hz1 hz2 rfl (by decide) v n xs hs hown src l.length (l.map SV) hx hsrc (by simp) (by
    intro u hu
    obtain ⟨c, _, rfl⟩ := List.mem_map.1 hu
    simp [SV, Value.oneCell']) (by unfold maxLen; omega) (by omega) hbase h
theorem rd_one_new (w : World) (l : List UInt8) (t : TypeId) : Rd (w.alloc (.cells #[.string (SB l)] t)) (.slice (some ⟨w.heap.size, 0, none⟩) 1 1) 1 [SV l] := by
  refine ⟨_, 1, rfl, Nat.le_refl _, by omega, (fun h => by cases h), fun j hj => ⟨w.heap.size, 0, rfl, ?_⟩⟩
  have : j = 0 := by simpa using hj
  subst this
  exact (Box.new w #[.string (SB l)] t).cell 0 _ rfl
theorem addS (w : World) (t : List UInt8) (h : t.length ≤ 1000) : (Op.stringOp .add ⟨#[99]⟩ (SB t)).run Try.prog w = .ok (.string (SB (99 :: t))) w := by
  have := run_string_add_sum (P := Try.prog) w (SB [99]) (SB t) (by rw [SB_size, SB_size]; simp; omega)
  rw [SB_add] at this; exact this
set_option maxRecDepth 100000 in
set_option maxHeartbeats 800000 in
theorem frame_calls (v : Value) (e : UInt32) (p : List UInt8) (w : World) (hv : Rd w v p.length (p.map V8)) :
    Calls Try.prog 23 #[.int .u32 (e.toNat : Int), v] w fun r w' => (512 < p.length ∧ r = .returned (.tuple #[.slice none 0 0, .iface 49 (.int .i64 3)]) ∧ w' = w) ∨
      (p.length ≤ 512 ∧ ∃ lv, r = .returned (.tuple #[lv, .nilIface]) ∧ w'.ownsRow w.heap.size 9 1 lv (frameM e p).length ((frameM e p).map SV) ∧ Below w.heap.size w w') := by
  have hpl := hv.len
  obtain ⟨va, vc, rfl, hvc⟩ : ∃ a c, v = .slice a p.length c ∧ p.length ≤ c := by obtain ⟨a, c, h, h1, _⟩ := hv; exact ⟨a, c, h, h1⟩
  have HV := Lib.hid hv
  clear hv
  by_cases h512 : 512 < p.length
  · have h : (512 : Int) < (p.length : Int) := by omega
    go_enter Try.func23, Try.ntmps23
    go_wp2_with fail
    go_ret2
    exact .inl ⟨h512, rfl, rfl⟩
  · have h : decide ((512 : Int) < (p.length : Int)) = false := by simp; omega
    obtain ⟨k, hk⟩ : ∃ k, k = min p.length 245 := ⟨_, rfl⟩
    have hmi : ∀ ts t w', (Builtin.min_ ts t #[.int .i64 (p.length : Int), .int .i64 245]).run Try.prog w' = .ok (.int .i64 (k : Int)) w' := fun ts t w' => by
      rw [run_min_int2]
      congr 2
      by_cases h : (245 : Int) < (p.length : Int)
      · rw [if_pos h]; omega
      · rw [if_neg h]; omega
    have hkp : k ≤ p.length := by omega
    have Hk := Lib.hid hk
    have hhd := headB va p.length vc k (by omega)
    have htl := tailB va p.length vc k hkp
    have Hhd := Lib.hid (head_calls (.slice va p.length vc) e p w HV.out (by omega))
    clear hk
    go_enter Try.func23, Try.ntmps23
    go_wp2_with fail
    refine Hhd.out.mono ?_
    rintro r w1 ⟨b1, rfl, ho1, hb1⟩
    have HO1 := Lib.hid ho1
    have HB1 := Lib.hid hb1
    have hv1 := HV.out.below hb1
    have hsrc : Rd w1 (.slice va k vc) (p.take 245).length ((p.take 245).map V8) := by
      have := hv1.cut (m := k) (by omega) k
      rw [← List.map_take] at this
      have e1 : p.take k = p.take 245 := by rw [Hk.out]; by_cases hc : p.length ≤ 245
                                            · rw [Nat.min_eq_left hc, List.take_of_length_le (Nat.le_refl _), List.take_of_length_le hc]
                                            · rw [Nat.min_eq_right (by omega)]
      rw [e1] at this
      rw [show (p.take 245).length = k by rw [List.length_take, Hk.out]; omega]; exact this
    have HV1 := Lib.hid hv1
    have HSrc := Lib.hid hsrc
    have Hl := Lib.hid (headM_length e p)
    have Hs1 := Lib.hid hb1.size
    have Hpl := Lib.hid (show 11 + (p.take 245).length ≤ 140737488355328 by have := List.length_take_le 245 p; omega)
    clear ho1 hb1 hv1 hsrc Hhd
    obtain ⟨pt, hpt⟩ : ∃ pt, pt = p.take 245 := ⟨_, rfl⟩
    obtain ⟨hm, hhm⟩ : ∃ hm, hm = headM e p := ⟨_, rfl⟩
    rw [← hpt] at HSrc Hpl
    rw [← hhm] at HO1 Hl
    have Hpt := Lib.hid hpt
    have Hhm := Lib.hid hhm
    clear hpt hhm
    go_wp2_with (at_builtin; refine appSB rfl _ _ rfl w.heap.size _ _ _ rfl HO1.out _ pt rfl HSrc.out Hpl.out Hs1.out ?_)
    intro v2 w2 ho2 hg2 _
    obtain ⟨F0, hF0⟩ : ∃ F0, F0 = hm ++ pt := ⟨_, rfl⟩
    rw [← List.map_append, ← hF0] at ho2
    have hFl : 11 + pt.length = F0.length := by rw [hF0, List.length_append, Hl.out]
    rw [hFl] at ho2
    have kc := convS F0 (rd_of_own ho2) rfl
    have hb2 := HB1.out.trans (below_grown hg2 Hs1.out (fun q hq => (HO1.out.lt q hq).1))
    have HB2 := Lib.hid hb2
    have HF0 := Lib.hid hF0
    have Hs2 := Lib.hid hb2.size
    have hL3 : (w2.alloc (.cells #[.string (SB F0)] 9)).ownsRow w.heap.size 9 1 (.slice (some ⟨w2.heap.size, 0, none⟩) 1 1) 1 [SV F0] :=
      ⟨rfl, .inr ⟨w2.heap.size, 1, _, rfl, hb2.size, heap_alloc_new w2 _, Nat.le_refl _, by unfold maxLen; omega, rfl, rfl⟩⟩
    have HL3 := Lib.hid hL3
    have HB3 := Lib.hid (hb2.trans ((below_alloc w2 (.cells #[.string (SB F0)] 9)).mono hb2.size))
    have htr := tailV_rd HV.out (k := k) hkp (by simp)
    rw [← List.map_drop] at htr
    have hkq : p.drop k = p.drop 245 := by
      rw [Hk.out]
      by_cases hc : p.length ≤ 245
      · rw [Nat.min_eq_left hc, List.drop_eq_nil_of_le (Nat.le_refl _), List.drop_eq_nil_of_le hc]
      · rw [Nat.min_eq_right (by omega)]
    obtain ⟨q0, hq0⟩ : ∃ q0, q0 = p.drop 245 := ⟨_, rfl⟩
    have hkl : p.length - k = q0.length := by rw [hq0, List.length_drop, Hk.out]; omega
    rw [hkq, hkl, ← hq0] at htr
    obtain ⟨ta, tc, htv, htc⟩ : ∃ a c, tailV va p.length vc k = .slice a q0.length c ∧ q0.length ≤ c := by
      obtain ⟨a, h⟩ := tailV_shape va p.length vc k
      exact ⟨a, vc - k, by rw [h, hkl], by omega⟩
    rw [htv] at htr htl
    have HT := Lib.hid htr
    have HTl := Lib.hid (show q0.length ≤ 255 * 3 by rw [hq0, List.length_drop]; omega)
    have HTe := Lib.hid (show [F0] ++ restM 3 q0 = frameM e p by rw [HF0.out, Hhm.out, Hpt.out, hq0]; rfl)
    have HTc := Lib.hid htc
    clear ho2 hFl hb2 hg2 hL3 htr htc HV1 HSrc hkq htv HO1 HB1 Hs1 hF0 hkl hq0
    go_wp2_with fail
    clear kc hhd htl hmi
    go_loopg [1, 7, 8] 3 (fun gk pv kv lv wr => ∃ (q : List UInt8) (bs : List (List UInt8)) (a : Option Addr) (c : Nat), q.length ≤ 255 * gk ∧ pv = .slice a q.length c ∧ q.length ≤ c ∧ Rd w pv q.length (q.map V8) ∧ wr.ownsRow w.heap.size 9 1 lv bs.length (bs.map SV) ∧ Below w.heap.size w wr ∧ bs.length + gk ≤ 10 ∧ bs ++ restM gk q = frameM e p)
    case atStart => exact ⟨q0, [F0], ta, tc, HTl.out, rfl, HTc.out, HT.out, HL3.out, HB3.out, by simp, HTe.out⟩
    case round =>
      clear HL3 HB3 HT HTl HTe HTc HB2 Hs2
      obtain ⟨q, bs, a, c, hql, rfl, hqc, hrd, hown, hb, hbs, hre⟩ := hrel
      have Hrd := Lib.hid hrd
      have HO := Lib.hid hown
      have HB := Lib.hid hb
      have Hre := Lib.hid hre
      have Hql := Lib.hid hql
      have Hbs := Lib.hid hbs
      obtain ⟨ra, rc, hra⟩ : ∃ a c, u8 = .slice a bs.length c := by
        obtain ⟨a, c, h, _⟩ := rd_of_own hown
        exact ⟨a, c, h⟩
      subst hra
      clear hrd hown hb hre hql hbs
      by_cases hq0 : q.length = 0
      · have hq1 : decide ((0 : Int) < (q.length : Int)) = false := by rw [decide_eq_false_iff_not]; omega
        go_wp2_with fail
        go_ret2
        refine .inr ⟨by omega, _, rfl, ?_, HB.out⟩
        have hq2 : q = [] := List.eq_nil_of_length_eq_zero hq0
        have := Hre.out
        rw [hq2] at this
        have hr0 : restM gk ([] : List UInt8) = [] := by cases gk <;> simp [restM]
        rw [hr0, List.append_nil] at this
        rw [← this]; exact HO.out
      · have hq1 : (0 : Int) < (q.length : Int) := by omega
        obtain ⟨kq, hkq⟩ : ∃ kq, kq = min q.length 255 := ⟨_, rfl⟩
        have hmi2 : ∀ ts t w', (Builtin.min_ ts t #[.int .i64 (q.length : Int), .int .i64 255]).run Try.prog w' = .ok (.int .i64 (kq : Int)) w' := fun ts t w' => by
          rw [run_min_int2]
          congr 2
          by_cases h : (255 : Int) < (q.length : Int)
          · rw [if_pos h]; omega
          · rw [if_neg h]; omega
        have hkq1 : kq ≤ q.length := by omega
        have hhd2 := headB a q.length c kq (by omega)
        have htl2 := tailB a q.length c kq hkq1
        obtain ⟨t, ht⟩ : ∃ t, t = q.take kq := ⟨_, rfl⟩
        have htk : t.length = kq := by rw [ht, List.length_take]; omega
        have hrt : Rd wr (.slice a kq c) t.length (t.map V8) := by
          have := (Rd.below Hrd.out HB.out).cut (m := kq) (by omega) kq
          rw [← List.map_take, ← ht] at this
          rw [htk]; exact this
        have kc := convS t hrt rfl
        have ha := fun w' => addS w' t (by omega)
        have hrn := rd_one_new wr (99 :: t) 9
        have HRn := Lib.hid hrn
        have HOA := Lib.hid (HO.out.alloc (.cells #[.string (SB (99 :: t))] 9))
        have HBA := Lib.hid (HB.out.trans ((below_alloc wr (.cells #[.string (SB (99 :: t))] 9)).mono HB.out.size))
        have Hroom := Lib.hid (show bs.length + [99 :: t].length ≤ 8796093022208 by have := Hbs.out; simp only [List.length_cons, List.length_nil]; omega)
        obtain ⟨q1, hq1e⟩ : ∃ q1, q1 = q.drop 255 := ⟨_, rfl⟩
        have hq1l : q1.length = q.length - kq := by rw [hq1e, List.length_drop]; omega
        have hgk : ∃ g, gk = g + 1 := by
          cases gk with
          | zero => have := Hql.out; omega
          | succ g => exact ⟨g, rfl⟩
        obtain ⟨g, rfl⟩ := hgk
        have hres : bs ++ [99 :: t] ++ restM g q1 = frameM e p := by
          have htq : t = q.take 255 := by
            rw [ht, hkq]
            by_cases hc : q.length ≤ 255
            · rw [Nat.min_eq_left hc, List.take_of_length_le (Nat.le_refl _), List.take_of_length_le hc]
            · rw [Nat.min_eq_right (by omega)]
          rw [← Hre.out, restM, if_neg hq0, List.append_assoc, List.singleton_append, ← hq1e, htq]
        have hrdt := tailV_rd Hrd.out (k := kq) hkq1 (by simp)
        rw [← List.map_drop] at hrdt
        have hdq : q.drop kq = q1 := by
          rw [hq1e, hkq]
          by_cases hc : q.length ≤ 255
          · rw [Nat.min_eq_left hc, List.drop_eq_nil_of_le (Nat.le_refl _), List.drop_eq_nil_of_le hc]
          · rw [Nat.min_eq_right (by omega)]
        rw [hdq, ← hq1l] at hrdt
        obtain ⟨ta, tc, htv, htc⟩ : ∃ a' c', tailV a q.length c kq = .slice a' q1.length c' ∧ q1.length ≤ c' := by
          obtain ⟨a', h⟩ := tailV_shape a q.length c kq
          exact ⟨a', c - kq, by rw [h, hq1l], by omega⟩
        rw [htv] at hrdt htl2
        have HTr := Lib.hid hrdt
        have HRes := Lib.hid hres
        have HTc := Lib.hid htc
        have HQ1 := Lib.hid (show q1.length ≤ 255 * g by have := Hql.out; omega)
        clear hrdt hres htc hdq hrn ht htk hrt hq1e hq1l htv hkq
        go_wp2_with (at_builtin; refine appT rfl _ _ rfl w.heap.size _ _ _ rfl HOA.out _ [99 :: t] rfl HRn.out Hroom.out HBA.out.size ?_)
        intro v' w1 ho1 hg1 _
        have HO1 := Lib.hid ho1
        have HB1 := Lib.hid (HBA.out.trans (below_grown hg1 HBA.out.size (fun q hq => (HO.out.lt q hq).1)))
        clear ho1 hg1
        go_wp2_with fail
        go_roundg g
        case measure => omega
        case rel => exact ⟨q1, bs ++ [99 :: t], ta, tc, HQ1.out, rfl, HTc.out, HTr.out, by rw [List.length_append, List.map_append]; exact HO1.out, HB1.out, by rw [List.length_append]; have := Hbs.out; simp only [List.length_cons, List.length_nil]; omega, HRes.out⟩
end Go.Proofs.Ytjoadcgegobjpaa
