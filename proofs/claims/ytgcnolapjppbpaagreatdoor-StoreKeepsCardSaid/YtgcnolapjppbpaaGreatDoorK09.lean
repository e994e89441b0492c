/-
  Texts of one proof, one behind the other.
-/
import Derived.Test.YtgcnolapjppbpaaGreatDoorK08
import Derived.Test.YtgcnolapjppbpaaGreatDoorK06
import Derived.RangeFuncNested
import Derived.RangeFuncBound
import Derived.RangeFuncCalls
import Derived.RangeFuncLeaves
namespace Go.Proofs.YtgcnolapjppbpaaGreatDoor
open Go.RowKit
theorem appT {w : World} {ops : Array Oper} {rest : List Oper} {o : Oper} {a : Act} {Q : Exit → Act → World → Prop} (hgd : o.guard = none) (s x : Operand)
    (ho : o.op = .call { callee := .builtin .append, args := #[s, x], argTypes := #[81, 81] })
    (base : Nat) (v : Value) (n : Nat) (xs : List Value) (hs : a.eval s = v) (hown : w.ownsRow base 9 1 v n xs)
    (src : Value) (l : List (List UInt8)) (hx : a.eval x = src) (hsrc : Rd w src l.length (l.map SV))
    (hroom : n + l.length ≤ 8796093022208) (hbase : base ≤ w.heap.size)
    (h : ∀ v' w', w'.ownsRow base 9 1 v' (n + l.length) (xs ++ l.map SV) → w.grownBy w' v.ownBlock → Moved w v v' → wpList Tryz.prog ops Q rest (a.put o.dst v') w') : wpList Tryz.prog ops Q (o :: rest) a w := by
  obtain ⟨i0, hi, hz0, hz1, hz2⟩ := info_parts info_str
  exact wpList_append_src hgd s x 81 ho base 9 i0 (.string ByteArray.empty) 1 16 Tryz.underlying81 hi hz0 hz1 hz2 rfl (by decide) v n xs hs hown src l.length (l.map SV) hx hsrc (by simp) (by
    intro u hu
    obtain ⟨c, _, rfl⟩ := List.mem_map.1 hu
    simp [SV, Value.oneCell']) (by unfold maxLen; omega) (by omega) hbase h
theorem rd_one_new (w : World) (l : List UInt8) (t : TypeId) : Rd (w.alloc (.cells #[.string (SB l)] t)) (.slice (some ⟨w.heap.size, 0, none⟩) 1 1) 1 [SV l] := by
  refine ⟨_, 1, rfl, Nat.le_refl _, by omega, (fun h => by cases h), fun j hj => ⟨w.heap.size, 0, rfl, ?_⟩⟩
  have : j = 0 := by simpa using hj
  subst this
  exact (Box.new w #[.string (SB l)] t).cell 0 _ rfl
theorem addS (w : World) (t : List UInt8) (h : t.length ≤ 1000) : (Op.stringOp .add ⟨#[99]⟩ (SB t)).run Tryz.prog w = .ok (.string (SB (99 :: t))) w := by
  have := run_string_add_sum (P := Tryz.prog) w (SB [99]) (SB t) (by rw [SB_size, SB_size]; simp; omega)
  rw [SB_add] at this; exact this
set_option maxRecDepth 100000 in
set_option maxHeartbeats 800000 in
theorem frame_calls (v : Value) (e : UInt32) (p : List UInt8) (w : World) (hv : Rd w v p.length (p.map V8)) :
    Calls Tryz.prog 71 #[.int .u32 (e.toNat : Int), v] w fun r w' => (512 < p.length ∧ r = .returned (.tuple #[.slice none 0 0, .iface 91 (.int .i64 3)]) ∧ w' = w) ∨
      (p.length ≤ 512 ∧ ∃ lv, r = .returned (.tuple #[lv, .nilIface]) ∧ w'.ownsRow w.heap.size 9 1 lv (frameM e p).length ((frameM e p).map SV) ∧ Below w.heap.size w w') := by
  have hpl := hv.len
  obtain ⟨va, vc, rfl, hvc⟩ : ∃ a c, v = .slice a p.length c ∧ p.length ≤ c := by obtain ⟨a, c, h, h1, _⟩ := hv; exact ⟨a, c, h, h1⟩
  have HV := Lib.hid hv
  clear hv
  by_cases h512 : 512 < p.length
  · have h : (512 : Int) < (p.length : Int) := by omega
    go_enter Tryz.func71, Tryz.ntmps71
    go_wp2_with fail
    go_ret2
    exact .inl ⟨h512, rfl, rfl⟩
  · have h : decide ((512 : Int) < (p.length : Int)) = false := by simp; omega
    obtain ⟨k, hk⟩ : ∃ k, k = min p.length 245 := ⟨_, rfl⟩
    have hmi : ∀ ts t w', (Builtin.min_ ts t #[.int .i64 (p.length : Int), .int .i64 245]).run Tryz.prog w' = .ok (.int .i64 (k : Int)) w' := fun ts t w' => by
      rw [run_min_int2]
      congr 2
      by_cases h : (245 : Int) < (p.length : Int)
      · rw [if_pos h]; omega
      · rw [if_neg h]; omega
    have hkp : k ≤ p.length := by omega
    have Hk := Lib.hid hk
    have hhd := headB va p.length vc k (by omega)
    have htl := tailB va p.length vc k hkp
    have Hhd := Lib.hid (head_calls (.slice va p.length vc) e p w HV.out (by omega))
    clear hk
    go_enter Tryz.func71, Tryz.ntmps71
    go_wp2_with fail
    refine Hhd.out.mono ?_
    rintro r w1 ⟨b1, rfl, ho1, hb1⟩
    have HO1 := Lib.hid ho1
    have HB1 := Lib.hid hb1
    have hv1 := HV.out.below hb1
    have hsrc : Rd w1 (.slice va k vc) (p.take 245).length ((p.take 245).map V8) := by
      have := hv1.cut (m := k) (by omega) k
      rw [← List.map_take] at this
      have e1 : p.take k = p.take 245 := by rw [Hk.out]; by_cases hc : p.length ≤ 245
                                            · rw [Nat.min_eq_left hc, List.take_of_length_le (Nat.le_refl _), List.take_of_length_le hc]
                                            · rw [Nat.min_eq_right (by omega)]
      rw [e1] at this
      rw [show (p.take 245).length = k by rw [List.length_take, Hk.out]; omega]; exact this
    have HV1 := Lib.hid hv1
    have HSrc := Lib.hid hsrc
    have Hl := Lib.hid (headM_length e p)
    have Hs1 := Lib.hid hb1.size
    have Hpl := Lib.hid (show 11 + (p.take 245).length ≤ 140737488355328 by have := List.length_take_le 245 p; omega)
    clear ho1 hb1 hv1 hsrc Hhd
    obtain ⟨pt, hpt⟩ : ∃ pt, pt = p.take 245 := ⟨_, rfl⟩
    obtain ⟨hm, hhm⟩ : ∃ hm, hm = headM e p := ⟨_, rfl⟩
    rw [← hpt] at HSrc Hpl
    rw [← hhm] at HO1 Hl
    have Hpt := Lib.hid hpt
    have Hhm := Lib.hid hhm
    clear hpt hhm
    go_wp2_with (at_builtin; refine appSB rfl _ _ rfl w.heap.size _ _ _ rfl HO1.out _ pt rfl HSrc.out Hpl.out Hs1.out ?_)
    intro v2 w2 ho2 hg2 _
    obtain ⟨F0, hF0⟩ : ∃ F0, F0 = hm ++ pt := ⟨_, rfl⟩
    rw [← List.map_append, ← hF0] at ho2
    have hFl : 11 + pt.length = F0.length := by rw [hF0, List.length_append, Hl.out]
    rw [hFl] at ho2
    have kc := convS F0 (rd_of_own ho2) rfl
    have hb2 := HB1.out.trans (below_grown hg2 Hs1.out (fun q hq => (HO1.out.lt q hq).1))
    have HB2 := Lib.hid hb2
    have HF0 := Lib.hid hF0
    have Hs2 := Lib.hid hb2.size
    have hL3 : (w2.alloc (.cells #[.string (SB F0)] 9)).ownsRow w.heap.size 9 1 (.slice (some ⟨w2.heap.size, 0, none⟩) 1 1) 1 [SV F0] :=
      ⟨rfl, .inr ⟨w2.heap.size, 1, _, rfl, hb2.size, heap_alloc_new w2 _, Nat.le_refl _, by unfold maxLen; omega, rfl, rfl⟩⟩
    have HL3 := Lib.hid hL3
    have HB3 := Lib.hid (hb2.trans ((below_alloc w2 (.cells #[.string (SB F0)] 9)).mono hb2.size))
    have htr := tailV_rd HV.out (k := k) hkp (by simp)
    rw [← List.map_drop] at htr
    have hkq : p.drop k = p.drop 245 := by
      rw [Hk.out]
      by_cases hc : p.length ≤ 245
      · rw [Nat.min_eq_left hc, List.drop_eq_nil_of_le (Nat.le_refl _), List.drop_eq_nil_of_le hc]
      · rw [Nat.min_eq_right (by omega)]
    obtain ⟨q0, hq0⟩ : ∃ q0, q0 = p.drop 245 := ⟨_, rfl⟩
    have hkl : p.length - k = q0.length := by rw [hq0, List.length_drop, Hk.out]; omega
    rw [hkq, hkl, ← hq0] at htr
    obtain ⟨ta, tc, htv, htc⟩ : ∃ a c, tailV va p.length vc k = .slice a q0.length c ∧ q0.length ≤ c := by
      obtain ⟨a, h⟩ := tailV_shape va p.length vc k
      exact ⟨a, vc - k, by rw [h, hkl], by omega⟩
    rw [htv] at htr htl
    have HT := Lib.hid htr
    have HTl := Lib.hid (show q0.length ≤ 255 * 3 by rw [hq0, List.length_drop]; omega)
    have HTe := Lib.hid (show [F0] ++ restM 3 q0 = frameM e p by rw [HF0.out, Hhm.out, Hpt.out, hq0]; rfl)
    have HTc := Lib.hid htc
    clear ho2 hFl hb2 hg2 hL3 htr htc HV1 HSrc hkq htv HO1 HB1 Hs1 hF0 hkl hq0
    go_wp2_with fail
    clear kc hhd htl hmi
    go_loopg [1, 7, 8] 3 (fun gk pv kv lv wr => ∃ (q : List UInt8) (bs : List (List UInt8)) (a : Option Addr) (c : Nat), q.length ≤ 255 * gk ∧ pv = .slice a q.length c ∧ q.length ≤ c ∧ Rd w pv q.length (q.map V8) ∧ wr.ownsRow w.heap.size 9 1 lv bs.length (bs.map SV) ∧ Below w.heap.size w wr ∧ bs.length + gk ≤ 10 ∧ bs ++ restM gk q = frameM e p)
    case atStart => exact ⟨q0, [F0], ta, tc, HTl.out, rfl, HTc.out, HT.out, HL3.out, HB3.out, by simp, HTe.out⟩
    case round =>
      clear HL3 HB3 HT HTl HTe HTc HB2 Hs2
      obtain ⟨q, bs, a, c, hql, rfl, hqc, hrd, hown, hb, hbs, hre⟩ := hrel
      have Hrd := Lib.hid hrd
      have HO := Lib.hid hown
      have HB := Lib.hid hb
      have Hre := Lib.hid hre
      have Hql := Lib.hid hql
      have Hbs := Lib.hid hbs
      obtain ⟨ra, rc, hra⟩ : ∃ a c, u8 = .slice a bs.length c := by
        obtain ⟨a, c, h, _⟩ := rd_of_own hown
        exact ⟨a, c, h⟩
      subst hra
      clear hrd hown hb hre hql hbs
      by_cases hq0 : q.length = 0
      · have hq1 : decide ((0 : Int) < (q.length : Int)) = false := by rw [decide_eq_false_iff_not]; omega
        go_wp2_with fail
        go_ret2
        refine .inr ⟨by omega, _, rfl, ?_, HB.out⟩
        have hq2 : q = [] := List.eq_nil_of_length_eq_zero hq0
        have := Hre.out
        rw [hq2] at this
        have hr0 : restM gk ([] : List UInt8) = [] := by cases gk <;> simp [restM]
        rw [hr0, List.append_nil] at this
        rw [← this]; exact HO.out
      · have hq1 : (0 : Int) < (q.length : Int) := by omega
        obtain ⟨kq, hkq⟩ : ∃ kq, kq = min q.length 255 := ⟨_, rfl⟩
        have hmi2 : ∀ ts t w', (Builtin.min_ ts t #[.int .i64 (q.length : Int), .int .i64 255]).run Tryz.prog w' = .ok (.int .i64 (kq : Int)) w' := fun ts t w' => by
          rw [run_min_int2]
          congr 2
          by_cases h : (255 : Int) < (q.length : Int)
          · rw [if_pos h]; omega
          · rw [if_neg h]; omega
        have hkq1 : kq ≤ q.length := by omega
        have hhd2 := headB a q.length c kq (by omega)
        have htl2 := tailB a q.length c kq hkq1
        obtain ⟨t, ht⟩ : ∃ t, t = q.take kq := ⟨_, rfl⟩
        have htk : t.length = kq := by rw [ht, List.length_take]; omega
        have hrt : Rd wr (.slice a kq c) t.length (t.map V8) := by
          have := (Rd.below Hrd.out HB.out).cut (m := kq) (by omega) kq
          rw [← List.map_take, ← ht] at this
          rw [htk]; exact this
        have kc := convS t hrt rfl
        have ha := fun w' => addS w' t (by omega)
        have hrn := rd_one_new wr (99 :: t) 9
        have HRn := Lib.hid hrn
        have HOA := Lib.hid (HO.out.alloc (.cells #[.string (SB (99 :: t))] 9))
        have HBA := Lib.hid (HB.out.trans ((below_alloc wr (.cells #[.string (SB (99 :: t))] 9)).mono HB.out.size))
        have Hroom := Lib.hid (show bs.length + [99 :: t].length ≤ 8796093022208 by have := Hbs.out; simp only [List.length_cons, List.length_nil]; omega)
        obtain ⟨q1, hq1e⟩ : ∃ q1, q1 = q.drop 255 := ⟨_, rfl⟩
        have hq1l : q1.length = q.length - kq := by rw [hq1e, List.length_drop]; omega
        have hgk : ∃ g, gk = g + 1 := by
          cases gk with
          | zero => have := Hql.out; omega
          | succ g => exact ⟨g, rfl⟩
        obtain ⟨g, rfl⟩ := hgk
        have hres : bs ++ [99 :: t] ++ restM g q1 = frameM e p := by
          have htq : t = q.take 255 := by
            rw [ht, hkq]
            by_cases hc : q.length ≤ 255
            · rw [Nat.min_eq_left hc, List.take_of_length_le (Nat.le_refl _), List.take_of_length_le hc]
            · rw [Nat.min_eq_right (by omega)]
          rw [← Hre.out, restM, if_neg hq0, List.append_assoc, List.singleton_append, ← hq1e, htq]
        have hrdt := tailV_rd Hrd.out (k := kq) hkq1 (by simp)
        rw [← List.map_drop] at hrdt
        have hdq : q.drop kq = q1 := by
          rw [hq1e, hkq]
          by_cases hc : q.length ≤ 255
          · rw [Nat.min_eq_left hc, List.drop_eq_nil_of_le (Nat.le_refl _), List.drop_eq_nil_of_le hc]
          · rw [Nat.min_eq_right (by omega)]
        rw [hdq, ← hq1l] at hrdt
        obtain ⟨ta, tc, htv, htc⟩ : ∃ a' c', tailV a q.length c kq = .slice a' q1.length c' ∧ q1.length ≤ c' := by
          obtain ⟨a', h⟩ := tailV_shape a q.length c kq
          exact ⟨a', c - kq, by rw [h, hq1l], by omega⟩
        rw [htv] at hrdt htl2
        have HTr := Lib.hid hrdt
        have HRes := Lib.hid hres
        have HTc := Lib.hid htc
        have HQ1 := Lib.hid (show q1.length ≤ 255 * g by have := Hql.out; omega)
        clear hrdt hres htc hdq hrn ht htk hrt hq1e hq1l htv hkq
        go_wp2_with (at_builtin; refine appT rfl _ _ rfl w.heap.size _ _ _ rfl HOA.out _ [99 :: t] rfl HRn.out Hroom.out HBA.out.size ?_)
        intro v' w1 ho1 hg1 _
        have HO1 := Lib.hid ho1
        have HB1 := Lib.hid (HBA.out.trans (below_grown hg1 HBA.out.size (fun q hq => (HO.out.lt q hq).1)))
        clear ho1 hg1
        go_wp2_with fail
        go_roundg g
        case measure => omega
        case rel => exact ⟨q1, bs ++ [99 :: t], ta, tc, HQ1.out, rfl, HTc.out, HTr.out, by rw [List.length_append, List.map_append]; exact HO1.out, HB1.out, by rw [List.length_append]; have := Hbs.out; simp only [List.length_cons, List.length_nil]; omega, HRes.out⟩
end Go.Proofs.YtgcnolapjppbpaaGreatDoor
namespace Go.Proofs.YtgcnolapjppbpaaGreatDoor
open Go.RowKit
structure Soft (B : Nat) (I : World → Prop) : Prop where
  below : ∀ {A C : World}, I A → Below A.heap.size A C → I C
  put : ∀ {A : World} {l : Nat} {o : Obj} (o' : Obj), I A → B ≤ l → A.heap[l]? = some o → o.isCells = false → I (A.putObj l o')
def SeqR {α : Type} (F : Fence) (n : Nat) (P : Program) (g : Nat) (lb : Array Value) (encs : α → Array Value) (Fm : Nat → Prop) (T : List α → α → World → Prop) (S Sp : List α → Prop) (w : World) : Prop :=
  ∀ (l : Nat) (J Jx : List α → World → Prop) (W : World), Mod Fm w W → (∀ s (A C : World), J s A → Below A.heap.size A C → J s C) → (∀ s (A C : World), Jx s A → Below A.heap.size A C → Jx s C) →
    (∀ pre x W1, J pre W1 → T pre x W1 → YieldAt F (n - 1) P l (encs x) W1 fun e W' => (e = .returned (.bool true) ∧ J (pre ++ [x]) W' ∧ Mod Fm W1 W') ∨ (e = .returned (.bool false) ∧ Jx (pre ++ [x]) W')) →
    J [] W → CallsIn F n P g (#[.func (.yield l) #[] #[]] ++ lb) W fun e W' => (∃ v, e = .returned v) ∧ ((∃ xs, S xs ∧ J xs W') ∨ ∃ pre, Sp pre ∧ Jx pre W')
def roundR {α : Type} (Fm : Nat → Prop) (I : List α → World → Prop) (Ix : Code → List α → World → Prop) (xs : List α) (W : World) : Exit → Act → World → Prop
  | .normal, _, W' => KeepsOthers W W' ∧ Mod Fm W W' ∧ I xs W'
  | .ret, _, W' => KeepsOthers W W' ∧ Ix .ret xs W'
  | .exit id, _, W' => KeepsOthers W W' ∧ Ix (.exit id) xs W'
  | .goto t, _, W' => KeepsOthers W W' ∧ Ix (.goto t) xs W'
  | .panic _, _, _ => False
  | .outgrown, _, _ => False
theorem keepsOthers_below {W W' : World} (h : Below W.heap.size W W') : KeepsOthers W W' := ⟨h.size, fun k _ hk _ => (h.block k (Array.getElem?_eq_some_iff.1 hk).1).trans hk⟩
theorem mod_put {Fm : Nat → Prop} {l : Nat} {W : World} (hn : Fm l) (o : Obj) : Mod Fm W (W.putObj l o) := Mod.of_grown (grownBy_putObj' W l o) (fun k e => by cases e; exact hn)
section
variable {F : Fence} {n : Nat} {P : Program}
theorem wpIn_rangeFunc_R {α : Type} {g : Operand} {ps : Array Tmp} {assign body : Code} {Q : Exit → Act → World → Prop} {a : Act} {w : World}
    (hro : F.round = none) (h1 : 1 ≤ n) {gf : Nat} {lb : Array Value} (hg : a.eval g = .func (.func gf) #[] lb) (hFg : F.fn gf) (eg : ∀ args w, (callFunc gf args).run P w = .ok (.enter gf args) w)
    {encs : α → Array Value} {Fm : Nat → Prop} {T : List α → α → World → Prop} {S Sp : List α → Prop} (hseq : SeqR F (n - 1) P gf lb encs Fm T S Sp w) (hFm : ∀ b, w.heap.size ≤ b → Fm b) (hps : ∀ x, (encs x).size = ps.size)
    (I : List α → World → Prop) (Ix : Code → List α → World → Prop) (hI : ∀ s, Soft w.heap.size (I s)) (hIx : ∀ c s, Soft w.heap.size (Ix c s)) (hT : ∀ s x, Soft w.heap.size (T s x)) (h0 : I [] w) (a₁ : α → Act)
    (hassign : ∀ (l : Nat) (x : α) (W : World) (K : Act → World → Prop), K (a₁ x) W → assign.wpIn (F.inRound l) (n - 1 - 1) P (Exit.then K (fun _ _ _ => False)) { tmps := (ps.zip (encs x)).foldl (fun t (p, v) => t.setIfInBounds p v) a.tmps, defers := [] } W)
    (hbody : ∀ (l : Nat) (pre : List α) (x : α) (W : World), I pre W → T pre x W → body.wpIn (F.inRound l) (n - 1 - 1) P (roundR Fm I Ix (pre ++ [x]) W) (a₁ x) W)
    (hdone : ∀ (D : Nat) (xs : List α) (W : World), S xs → I xs W → w.heap.size ≤ D → W.heap[D]? = some (.deferred (some [])) → Q .normal { a with defers := { target := .collected D, args := #[] } :: a.defers } W)
    (hstop : ∀ (D : Nat) (c : Code) (pre : List α) (W : World), Sp pre → Ix c pre W → w.heap.size ≤ D → W.heap[D]? = some (.deferred (some [])) → c.wpIn F n P Q { a with defers := { target := .collected D, args := #[] } :: a.defers } W) :
    (Code.rangeFunc g ps assign body).wpIn F n P Q a w := by
  refine wpIn_rangeFunc fun fn hfn => ?_
  rw [hro]
  let rec0 : LoopState → Option Code → Loop := fun st pe => { state := st, pending := pe, fn, tmps := a.tmps, params := ps, assign, body, defers := w.heap.size }
  obtain ⟨rc, hrc⟩ : ∃ rc, rc = rec0 := ⟨_, rfl⟩
  obtain ⟨D, hD⟩ : ∃ D, D = w.heap.size := ⟨_, rfl⟩
  obtain ⟨WA, hWA⟩ : ∃ WA, WA = w.alloc (.deferred (some [])) := ⟨_, rfl⟩
  obtain ⟨W1, hW1⟩ : ∃ W1, W1 = WA.alloc (.loop (rc .ready none)) := ⟨_, rfl⟩
  have hbA : Below w.heap.size w WA := by rw [hWA]; exact below_alloc _ _
  have hbB : Below WA.heap.size WA W1 := by rw [hW1]; exact below_alloc _ _
  have hsA : WA.heap.size = D + 1 := by rw [hWA, hD]; simp
  have hDA : WA.heap[D]? = some (.deferred (some [])) := by rw [hWA, hD]; exact heap_alloc_new w _
  have hD1 : W1.heap[D]? = some (.deferred (some [])) := by rw [hbB.block D (by omega)]; exact hDA
  have hL1 : W1.heap[D + 1]? = some (.loop (rc .ready none)) := by rw [← hsA, hW1]; exact heap_alloc_new WA _
  have hb1 : Below w.heap.size w W1 := hbA.trans (hbB.mono hbA.size)
  have hdl : D ≤ D + 1 := Nat.le_succ D
  -- what is held between two rounds
  let J : List α → World → Prop := fun pre W => I pre W ∧ W.heap[D + 1]? = some (.loop (rc .ready none)) ∧ W.heap[D]? = some (.deferred (some []))
  let Jx : List α → World → Prop := fun pre W => ∃ c, Ix c pre W ∧ W.heap[D + 1]? = some (.loop (rc .done (some c))) ∧ W.heap[D]? = some (.deferred (some []))
  have keepAt : ∀ {A C : World} {k : Nat} {o : Obj}, A.heap[k]? = some o → Below A.heap.size A C → C.heap[k]? = some o := fun h hb => (hb.block _ (Array.getElem?_eq_some_iff.1 h).1).trans h
  refine ⟨D + 1, [{ target := .collected D, args := #[] }], W1, { target := .fn (.func gf) lb, args := #[.func (.yield (D + 1)) #[] #[]] }, W1, gf, #[.func (.yield (D + 1)) #[] #[]] ++ lb, W1, ?_, ?_, ?_, ?_, fun _ => h1, ?_⟩
  · rw [hW1, hWA, hrc, hD]; exact run_enterLoop_outer _ _ _ _ _
  · simp only [resolve, hg]
    simp [go_sem]
  · intro f' hf'; simp [Target.leads] at hf'; subst hf'; exact hFg
  · simp [invoke, go_sem, eg]
  · refine (hseq (D + 1) J Jx W1 (Mod.of_below hb1) (fun s A C h hb => ⟨(hI s).below h.1 hb, keepAt h.2.1 hb, keepAt h.2.2 hb⟩) (fun s A C h hb => by
      obtain ⟨c, h1, h2, h3⟩ := h
      exact ⟨c, (hIx c s).below h1 hb, keepAt h2 hb, keepAt h3 hb⟩) ?_ ⟨(hI []).below ((hI []).below h0 hbA) hbB, hL1, hD1⟩).mono ?_
    · rintro pre x W ⟨hi, hl, hd⟩ ht
      have hlt : D + 1 < W.heap.size := (Array.getElem?_eq_some_iff.1 hl).1
      have hy := run_yield (P := P) (args := encs x) hl (by rw [hrc]; exact hps x)
      rw [hrc] at hy
      refine ⟨fn, _, assign, body, hy, roundIn_of_wpIn hfn (hassign _ x W _ ⟨_, run_beginRound hl (by rw [hrc]), ?_⟩)⟩
      clear hy
      obtain ⟨busy, hbu⟩ : ∃ b : Loop, b = { rc .ready none with state := .busy } := ⟨_, rfl⟩
      rw [← hbu]
      obtain ⟨W2, hW2⟩ : ∃ W2, W2 = W.putObj (D + 1) (.loop busy) := ⟨_, rfl⟩
      rw [← hW2]
      have hl2 : W2.heap[D + 1]? = some (.loop busy) := by rw [hW2]; exact World.putObj_heap_same hlt
      have hd2 : W2.heap[D]? = some (.deferred (some [])) := by rw [hW2]; exact (World.putObj_heap_other (by omega)).trans hd
      have hb2 : Mod Fm W W2 := by rw [hW2]; exact mod_put (hFm _ (by omega)) _
      have hi2 : I pre W2 := by rw [hW2]; exact (hI pre).put _ hi (by omega) hl rfl
      have ht2 : T pre x W2 := by rw [hW2]; exact (hT pre x).put _ ht (by omega) hl rfl
      have hend : ∀ (jump : Option Code) (W3 : World), KeepsOthers W2 W3 → (Instr.endRound (D + 1) jump).run P W3 = .ok (.bool jump.isNone) (W3.putObj (D + 1) (.loop (rc (if jump.isNone then .ready else .done) jump))) ∧
          W3.heap[D + 1]? = some (.loop busy) ∧ (W3.putObj (D + 1) (.loop (rc (if jump.isNone then .ready else .done) jump))).heap[D + 1]? = some (.loop (rc (if jump.isNone then .ready else .done) jump)) ∧
          (W3.putObj (D + 1) (.loop (rc (if jump.isNone then .ready else .done) jump))).heap[D]? = some (.deferred (some [])) := fun jump W3 hk => by
        have hl3 := hk.same _ _ hl2 rfl
        have hr := run_endRound (P := P) jump hl3
        refine ⟨by rw [hr, hbu, hrc], hl3, World.putObj_heap_same (Array.getElem?_eq_some_iff.1 hl3).1, (World.putObj_heap_other (by omega)).trans (hk.same _ _ hd2 rfl)⟩
      refine wpIn_mono (hbody _ pre x _ hi2 ht2) ?_
      rintro e a3 W3 hp
      cases e with
      | normal =>
        obtain ⟨hk3, hbl3, hi3⟩ := hp
        obtain ⟨hr, hl3, hl4, hd4⟩ := hend none W3 hk3
        exact ⟨_, _, hr, .inl ⟨rfl, ⟨(hI _).put _ hi3 (by omega) hl3 rfl, hl4, hd4⟩, (hb2.trans hbl3).trans (mod_put (hFm _ (by omega)) _)⟩⟩
      | ret =>
        obtain ⟨hr, hl3, hl4, hd4⟩ := hend (some .ret) W3 hp.1
        exact ⟨_, _, hr, .inr ⟨rfl, .ret, (hIx _ _).put _ hp.2 (by omega) hl3 rfl, hl4, hd4⟩⟩
      | exit id =>
        obtain ⟨hr, hl3, hl4, hd4⟩ := hend (some (.exit id)) W3 hp.1
        exact ⟨_, _, hr, .inr ⟨rfl, .exit id, (hIx _ _).put _ hp.2 (by omega) hl3 rfl, hl4, hd4⟩⟩
      | goto t =>
        obtain ⟨hr, hl3, hl4, hd4⟩ := hend (some (.goto t)) W3 hp.1
        exact ⟨_, _, hr, .inr ⟨rfl, .goto t, (hIx _ _).put _ hp.2 (by omega) hl3 rfl, hl4, hd4⟩⟩
      | panic ch => exact hp.elim
      | outgrown => exact hp.elim
    · rintro e W2 ⟨⟨v, rfl⟩, (⟨xs, hS, hi, hl, hd⟩ | ⟨pre, hS, c, hi, hl, hd⟩)⟩
      · have hr := run_endLoop (P := P) hl (by rw [hrc]; simp [rec0])
        rw [hrc] at hr
        exact ⟨none, _, hr, by rw [hD] at *; exact hdone _ xs _ hS ((hI xs).put _ hi (by omega) hl rfl) (Nat.le_refl _) ((World.putObj_heap_other (by omega)).trans hd)⟩
      · have hr := run_endLoop (P := P) hl (by rw [hrc]; simp [rec0])
        rw [hrc] at hr
        exact ⟨some c, _, hr, by rw [hD] at *; exact hstop _ c pre _ hS ((hIx c pre).put _ hi (by omega) hl rfl) (Nat.le_refl _) ((World.putObj_heap_other (by omega)).trans hd)⟩
end
end Go.Proofs.YtgcnolapjppbpaaGreatDoor
namespace Go.Proofs.YtgcnolapjppbpaaGreatDoor
open Go.RowKit
structure AllAt (n₀ : Nat) (e : UInt32) (bl : List (List UInt8)) (E B : Nat) (w : World) : Prop where
  lo : n₀ ≤ E ∧ n₀ ≤ B
  ec : w.cell? ⟨E, 0, none⟩ = some (.int .u32 (e.toNat : Int))
  bc : ∃ bv, w.cell? ⟨B, 0, none⟩ = some bv ∧ Rd w bv bl.length (bl.map SV) ∧ ∀ k, bv.ownBlock = some k → n₀ ≤ k
theorem AllAt.below {n₀ : Nat} {e : UInt32} {bl : List (List UInt8)} {E B : Nat} {w w' : World} (h : AllAt n₀ e bl E B w) (hb : Below w.heap.size w w') : AllAt n₀ e bl E B w' := by
  obtain ⟨bv, h1, h2, h3⟩ := h.bc
  exact ⟨h.lo, below_heap hb h.ec, bv, below_heap hb h1, h2.below hb, h3⟩
theorem mod_cell {F : Nat → Prop} {w w' : World} (hm : Mod F w w') {a : Addr} {x : Value} (h : w.cell? a = some x) (hF : ¬ F a.block) : w'.cell? a = some x := by
  rw [World.cell?_of_block (hm.block a.block (cell_lt h) hF)]; exact h
theorem AllAt.kept {n₀ : Nat} {e : UInt32} {bl : List (List UInt8)} {E B : Nat} {w w' : World} (h : AllAt n₀ e bl E B w) (hm : Mod (fun b => b < n₀ ∨ w.heap.size ≤ b) w w') : AllAt n₀ e bl E B w' := by
  obtain ⟨bv, h1, h2, h3⟩ := h.bc
  have hE := cell_lt h.ec
  have hB := cell_lt h1
  obtain ⟨l1, l2⟩ := h.lo
  refine ⟨h.lo, mod_cell hm h.ec (by simp only at hE ⊢; omega), bv, mod_cell hm h1 (by simp only at hB ⊢; omega), h2.keep (fun k hk hl => hm.block k hl (by have := h3 k hk; omega)), h3⟩
theorem all_calls (e : UInt32) (lv : Value) (bl : List (List UInt8)) (w : World) (hl : Rd w lv bl.length (bl.map SV)) (hn : bl.length ≤ 8796093022208) :
    Calls Tryz.prog 163 #[.int .u32 (e.toNat : Int), lv] w fun r w' => ∃ E B, r = .returned (.func (.func 182) #[] #[.pointer (some ⟨E, 0, none⟩), .pointer (some ⟨B, 0, none⟩)]) ∧ AllAt w.heap.size e bl E B w' ∧ Below w.heap.size w w' := by
  obtain ⟨la, lc, rfl⟩ : ∃ a c, lv = .slice a bl.length c := by obtain ⟨a, c, h, _⟩ := hl; exact ⟨a, c, h⟩
  have hb1 := below_alloc w (.cells #[.int .u32 (e.toNat : Int)] 87)
  have Hb1 := Lib.hid hb1
  have HX1 := Lib.hid (Box.new w #[.int .u32 (e.toNat : Int)] 87)
  have HL1 := Lib.hid (hl.below hb1)
  have Hn := Lib.hid (show 0 + bl.length ≤ 8796093022208 by omega)
  clear hl hb1
  go_enter Tryz.func163, Tryz.ntmps163
  go_wp2_with (at_builtin; refine appT rfl _ _ rfl w.heap.size _ 0 [] rfl (World.ownsRow_nil _ _ _ _) _ bl rfl HL1.out Hn.out Hb1.out.size ?_)
  intro v' w2 ho2 hg2 _
  obtain ⟨ra, rc, rfl⟩ : ∃ a c, v' = .slice a bl.length c := by
    obtain ⟨a, c, h, _⟩ := own_slice ho2
    exact ⟨a, c, by simpa using h⟩
  have hg3 : Below (w.alloc (.cells #[.int .u32 (e.toNat : Int)] 87)).heap.size (w.alloc (.cells #[.int .u32 (e.toNat : Int)] 87)) w2 := below_of_grown hg2 (Nat.le_refl _) (fun k h => by simp [Value.ownBlock] at h)
  have hb2 := Hb1.out.trans (hg3.mono Hb1.out.size)
  have hx2 := HX1.out.below hg3
  have Hb2 := Lib.hid hb2
  have HX2 := Lib.hid hx2
  have HR2 := Lib.hid (rd_of_own ho2)
  have HO2 := Lib.hid (fun k hk => (ho2.lt k hk).1)
  clear hg3 hb2 hx2 ho2 hg2 HX1 HL1 Hb1
  go_wp2_with fail
  go_ret
  have hm := below_alloc w2 (.cells #[.slice ra bl.length rc] 81)
  refine ⟨_, _, rfl, ⟨⟨Nat.le_refl _, Hb2.out.size⟩, (HX2.out.below hm).cell 0 _ rfl, _, (Box.new w2 #[.slice ra bl.length rc] 81).cell 0 _ rfl, ?_, HO2.out⟩, Hb2.out.trans (hm.mono Hb2.out.size)⟩
  have := HR2.out.below hm
  simpa using this
end Go.Proofs.YtgcnolapjppbpaaGreatDoor
