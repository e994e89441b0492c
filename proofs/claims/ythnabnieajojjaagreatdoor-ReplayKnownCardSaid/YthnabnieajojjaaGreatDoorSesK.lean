/-
  Sessions and states that are lent, and kept.
-/
import Derived.Test.YthnabnieajojjaaGreatDoorSesA
import Derived.Test.YthnabnieajojjaaGreatDoorMarkT
import Derived.Test.YthnabnieajojjaaGreatDoorImChk
import Derived.Test.YthnabnieajojjaaGreatDoorSameB
import Derived.BigQuiet
namespace Go.Proofs.YthnabnieajojjaaGreatDoor
open Go.RowKit
set_option maxRecDepth 100000

theorem run_neqS (s t : SesM) (w : World) : (binOp .neq 36 (.agg s.cells) (.agg t.cells)).run Tryz.prog w = .ok (.bool (!(sameS s t))) w := by
  obtain ⟨r, hr⟩ : ∃ r, r = sameS s t := ⟨_, rfl⟩
  rw [← hr]
  unfold SesM.cells
  go_simp
  subst hr
  unfold sameS
  simp only [SB_toList]
  refine ite_step (fun b => Value.bool (!b)) bdec rfl ?_
  refine ite_step (fun b => Value.bool (!b)) bdec rfl ?_
  refine ite_step (fun b => Value.bool (!b)) bdec rfl ?_
  refine ite_step (fun b => Value.bool (!b)) bdec rfl ?_
  refine ite_step (fun b => Value.bool (!b)) bdec rfl ?_
  refine ite_step (fun b => Value.bool (!b)) bdec rfl ?_
  refine ite_step (fun b => Value.bool (!b)) bdec rfl ?_
  refine ite_step (fun b => Value.bool (!b)) bdec rfl ?_
  refine ite_step (fun b => Value.bool (!b)) bdec rfl ?_
  refine ite_step (fun b => Value.bool (!b)) bdec rfl ?_
  refine ite_step (fun b => Value.bool (!b)) bdec rfl ?_
  exact ite_last (fun b => Value.bool (!b)) bdec rfl rfl
theorem Box.setAllS {w : World} {b : Nat} {cs : Array Value} {t : TypeId} (h : Box w b cs t) (hs : cs.size = 12) (s : SesM) : Box (w.setCells b 0 s.cells.toList) b s.cells t ∧ w.there b 0 s.cells.toList.length := by
  constructor
  · obtain ⟨cs', h1, h2, h3, _⟩ := Box.setCells s.cells.toList 0 h (by show 0 + 12 ≤ cs.size; omega)
    have e1 : cs' = s.cells := by
      apply Array.ext_getElem?
      intro j
      by_cases hj : j < 12
      · have := h3 j _ (List.getElem?_eq_getElem (show j < s.cells.toList.length from hj))
        rw [Nat.zero_add] at this
        rw [this, ← Array.getElem?_toList, List.getElem?_eq_getElem (show j < s.cells.toList.length from hj)]
      · rw [Array.getElem?_eq_none (by omega), Array.getElem?_eq_none (by show 12 ≤ j; omega)]
    rw [e1] at h1
    exact h1
  · intro j hj
    have hj : j < 12 := hj
    obtain ⟨v, hv⟩ : ∃ v, cs[j]? = some v := ⟨_, Array.getElem?_eq_getElem (by omega)⟩
    rw [Nat.zero_add]
    exact ⟨by rw [h.cell _ v hv]; rfl, h.free _⟩
/-- The mark of a place. -/
def markS (k i : Int) : SesM := ⟨0, -7 - k, 0, 0, 0, [], markT k i, 0, 0, 0, 0, 0⟩
theorem markS_cells (k i : Int) : (markS k i).cells = #[.int .i64 0, .int .i64 (-7 - k), .int .i64 0, .int .i64 0, .int .i64 0, .string ⟨#[]⟩, .string (SB (markT k i)), .int .u64 0, .int .i64 0, .int .i64 0, .int .i64 0, .int .i64 0] := rfl
set_option maxHeartbeats 1600000 in
theorem markS_calls (k i : Int) (w : World) (h0 : 0 ≤ k) (h1 : k ≤ 1000000000) :
    Calls Tryz.prog 55 #[.int .i64 k, .int .i64 i] w fun e w' => e = .returned (.agg (markS k i).cells) ∧ Below w.heap.size w w' := by
  have HMT := Lib.hid (fun w => markText_calls k i w)
  have HX := Lib.hid (Box.new w #[.int .i64 0, .int .i64 0, .int .i64 0, .int .i64 0, .int .i64 0, .string ⟨#[]⟩, .string ⟨#[]⟩, .int .u64 0, .int .i64 0, .int .i64 0, .int .i64 0, .int .i64 0] 36)
  have HB := Lib.hid (below_alloc w (.cells #[.int .i64 0, .int .i64 0, .int .i64 0, .int .i64 0, .int .i64 0, .string ⟨#[]⟩, .string ⟨#[]⟩, .int .u64 0, .int .i64 0, .int .i64 0, .int .i64 0, .int .i64 0] 36))
  have hz : IntKind.i64.wrap (-7 - k) = -7 - k := by simp [IntKind.wrap, IntKind.bits, IntKind.signed]; omega
  have HMC := Lib.hid (markS_cells k i)
  go_enter Tryz.func55, Tryz.ntmps55
  go_wp2_with fail
  refine (HMT.out _).mono ?_
  rintro e w1 ⟨rfl, hb1⟩
  have hx1 := HX.out.below hb1
  have HB1 := Lib.hid (HB.out.trans (hb1.mono HB.out.size))
  obtain ⟨hset, hth⟩ := hx1.setAllS rfl (markS k i)
  have HTH := Lib.hid hth
  have HSE := Lib.hid hset
  have HLE := Lib.hid (show w.heap.size ≤ w.heap.size from Nat.le_refl _)
  clear hb1 hx1 HX HB HMT hset hth
  go_wp2_with ((with_reducible refine wpList_store_k ?a0 36 (.tmp 4) (.tmp 10) ?a1 w.heap.size 0 (markS k i).cells.toList ?a2 (markS k i).cells ?a3 (SesM.listS _) HTH.out ?a6 ?a7 ?a8); (case a1 => rfl); (case a0 => rfl); (case a2 => rfl); (case a3 => rfl); (case a6 => kernel_rfl); (case a7 => exact SesM.oneS _))
  intro w2 hw2
  rw [← hw2.out] at HSE
  have HB2 := Lib.hid (show Below w.heap.size w w2 by
    rw [hw2.out]
    generalize (markS k i).cells.toList = L
    exact HB1.out.trans ((Mod.setCells (fun q => q = w.heap.size) w.heap.size rfl L 0 w1).below HB1.out.size (fun i hi => Nat.le_of_eq hi.symm)))
  clear hw2 HTH HB1
  go_wp2_with fail
  exact ret_cell rfl rfl w.heap.size 0 rfl (markS k i).cells.toList _ (Box.rangeS HSE.out) Tryz.underlying36 rfl (by kernel_rfl) ⟨rfl, HB2.out⟩
def mksS (n : Nat) : List SesM := (List.range n).map (fun i : Nat => markS 90 (i : Int))
theorem mksS_length (n : Nat) : (mksS n).length = n := by simp [mksS]
theorem mksS_succ (n : Nat) : mksS (n + 1) = mksS n ++ [markS 90 n] := by simp [mksS, List.range_succ]
theorem mksS_get (n j : Nat) (h : j < (mksS n).length) : (mksS n)[j] = markS 90 j := by simp [mksS]
set_option maxHeartbeats 3200000 in
theorem fullS_calls (v : Value) (l : List SesM) (w : World) (hv : RdS w v l) (hn : l.length + 16 ≤ 1256584717457) :
    Calls Tryz.prog 64 #[v] w fun e w' => ∃ o, e = .returned o ∧ OwnS w' w.heap.size o (l ++ mksS 16) ∧ Below w.heap.size w w' := by
  obtain ⟨a, cap, rfl, hc1, hc2⟩ := hv.slice
  have HV := Lib.hid hv
  have hln : l.length ≤ 9223372036854775807 := by omega
  obtain ⟨n, hN⟩ : ∃ n, n = l.length := ⟨_, rfl⟩
  rw [← hN] at hln hn HV hc1 ⊢
  have HN := Lib.hid hN
  have HNN := Lib.hid hn
  clear hv hc1 hN hn
  go_enter Tryz.func64, Tryz.ntmps64
  go_wp2_with fail
  go_loopg [3, 4] n (fun gk o iv wr => ∃ k : Nat, gk + k = n ∧ iv = .int .i64 (k : Int) ∧ OwnS wr w.heap.size o (l.take k) ∧ Below w.heap.size w wr)
  case atStart => exact ⟨0, rfl, rfl, OwnS.nil _ _, Below.refl _ _⟩
  case round =>
    obtain ⟨k, hgk, rfl, hown, hb⟩ := hrel
    have k0 : (0 : Int) ≤ (k : Int) := by omega
    have HGK := Lib.hid hgk
    have HO := Lib.hid hown
    have HB := Lib.hid hb
    clear hgk
    by_cases hk : k < n
    · have k1 : (k : Int) < (n : Int) := by omega
      have hkl : k < l.length := by have := HN.out; omega
      obtain ⟨s, hs⟩ : ∃ s, s = l[k] := ⟨_, rfl⟩
      have hV := (HV.out.below hb)
      obtain ⟨rb, ro, hra, hrow⟩ := hV.row k hkl
      subst hra
      rw [← hs] at hrow
      have HT := Lib.hid (show l.take (k + 1) = l.take k ++ [s] by rw [List.take_succ_eq_append_getElem hkl, hs])
      have HROW := Lib.hid hrow
      have HK := Lib.hid hk
      have HLK := Lib.hid (show (l.take k).length + 1 ≤ 1256584717458 by rw [List.length_take]; have := HNN.out; omega)
      clear hkl hs hrow hV hb hown hk
      go_wp2_with ((with_reducible refine wpList_load_k ?b01 36 (.tmp 15) ?b11 rb (ro + k * 12) ?b21 s.cells.toList _ HROW.out Tryz.underlying36 ?b31 ?b41 ?b81); (case b11 => rfl); (case b01 => rfl); (case b21 => rfl); (case b31 => rfl); (case b41 => kernel_rfl))
      intro cv hcv
      have ecv : cv = s.cells := by rw [hcv.out]
      subst ecv
      clear hcv
      go_wp2_with (refine wpList_buildSlice_s (op := ⟨some 17, _, _, _, _, _⟩) (by rfl) 23 1 #[(0, .tmp 16)] rfl #[(0, .agg s.cells)] (by kernel_rfl) _ _ (buildS s wr) ?_)
      intro w2 hw2
      have hb2 : Below wr.heap.size wr w2 := by rw [hw2.out]; exact below_alloc _ _
      have HC2 := Lib.hid (show ∀ j u, s.cells.toList[j]? = some u → w2.cell? ((⟨wr.heap.size, 0, none⟩ : Addr).add j) = some u by rw [hw2.out]; exact newCells wr s _)
      have HO2 := Lib.hid (HO.out.below hb2)
      have HB2 := Lib.hid (HB.out.trans (hb2.mono HB.out.size))
      clear hw2 hb2 HO HROW
      go_wp2_with (at_builtin; refine appSes rfl _ _ rfl w.heap.size _ (l.take k) rfl HO2.out ⟨wr.heap.size, 0, none⟩ 1 s rfl HC2.out HLK.out (by have := HB2.out.size; omega) ?_)
      intro v' w3 hown' hg' _
      have HB3 := Lib.hid (HB2.out.trans (below_grown hg' HB2.out.size (fun q hq => (HO2.out.lt q hq).1)))
      have HO3 := Lib.hid hown'
      clear hg' hown' HO2 HB2 HC2
      go_wp2_with fail
      go_roundg (n - (k + 1))
      case measure => have := HGK.out; have := HK.out; omega
      case rel => exact ⟨k + 1, by have := HGK.out; have := HK.out; omega, by go_num, by rw [HT.out]; exact HO3.out, HB3.out⟩
    have k1 : ¬ (k : Int) < (n : Int) := by omega
    rw [List.take_of_length_le (by have := HN.out; omega)] at HO
    clear hk hown hb
    go_wp2_with fail
    go_loopg [3, 5] 16 (fun gk o iv wr => ∃ j : Nat, gk + j = 16 ∧ iv = .int .i64 (j : Int) ∧ OwnS wr w.heap.size o (l ++ mksS j) ∧ Below w.heap.size w wr)
    case atStart => exact ⟨0, rfl, rfl, by rw [show mksS 0 = [] from rfl, List.append_nil]; exact HO.out, HB.out⟩
    case round =>
      clear HO HB
      obtain ⟨j, hgj, rfl, hown, hb⟩ := hrel
      have j0 : (0 : Int) ≤ (j : Int) := by omega
      have HGJ := Lib.hid hgj
      have HO := Lib.hid hown
      have HB := Lib.hid hb
      clear hgj hown hb
      by_cases hj : j < 16
      · have j1 : (j : Int) < 16 := by omega
        have HJ := Lib.hid hj
        have HLK := Lib.hid (show (l ++ mksS j).length + 1 ≤ 1256584717458 by rw [List.length_append, mksS_length]; have := HNN.out; have := HN.out; omega)
        have HT := Lib.hid (show l ++ mksS (j + 1) = (l ++ mksS j) ++ [markS 90 j] by rw [mksS_succ, List.append_assoc])
        clear hj
        go_wp2_with fail
        refine (markS_calls 90 (j : Int) _ (by omega) (by omega)).mono ?_
        rintro e w1 ⟨rfl, hb1⟩
        have HO1 := Lib.hid (HO.out.below hb1)
        have HB1 := Lib.hid (HB.out.trans (hb1.mono HB.out.size))
        clear hb1 HO HB
        generalize markS 90 (j : Int) = s at HT ⊢
        go_wp2_with (refine wpList_buildSlice_s (op := ⟨some 26, _, _, _, _, _⟩) (by rfl) 23 1 #[(0, .tmp 25)] rfl #[(0, .agg s.cells)] (by kernel_rfl) _ _ (buildS s w1) ?_)
        intro w2 hw2
        have hb2 : Below w1.heap.size w1 w2 := by rw [hw2.out]; exact below_alloc _ _
        have HC2 := Lib.hid (show ∀ j u, s.cells.toList[j]? = some u → w2.cell? ((⟨w1.heap.size, 0, none⟩ : Addr).add j) = some u by rw [hw2.out]; exact newCells w1 s _)
        have HO2 := Lib.hid (HO1.out.below hb2)
        have HB2 := Lib.hid (HB1.out.trans (hb2.mono HB1.out.size))
        clear hw2 hb2 HO1 HB1
        go_wp2_with (at_builtin; refine appSes rfl _ _ rfl w.heap.size _ (l ++ mksS j) rfl HO2.out ⟨w1.heap.size, 0, none⟩ 1 s rfl HC2.out HLK.out (by have := HB2.out.size; omega) ?_)
        intro v' w3 hown' hg' _
        have HB3 := Lib.hid (HB2.out.trans (below_grown hg' HB2.out.size (fun q hq => (HO2.out.lt q hq).1)))
        have HO3 := Lib.hid hown'
        clear hg' hown' HO2 HB2 HC2
        go_wp2_with fail
        go_roundg (16 - (j + 1))
        case measure => have := HGJ.out; have := HJ.out; omega
        case rel => exact ⟨j + 1, by have := HGJ.out; have := HJ.out; omega, by go_num, by rw [HT.out]; first | exact HO3.out | (rw [List.append_assoc]; exact HO3.out), HB3.out⟩
      have j1 : ¬ (j : Int) < 16 := by omega
      obtain rfl : j = 16 := by have := HGJ.out; omega
      clear hj
      go_wp2_with fail
      go_ret
      exact ⟨_, rfl, HO.out, HB.out⟩
/-- A list of sessions that is lent: in its spare room stand marks. -/
def LentS (w : World) (base : Nat) (v : Value) (l : List SesM) : Prop := ∃ a cap, v = .slice a l.length cap ∧ OwnS w base (.slice a (l.length + 16) cap) (l ++ mksS 16)
theorem LentS.below {w w' : World} {base : Nat} {v : Value} {l : List SesM} (h : LentS w base v l) (hb : Below w.heap.size w w') : LentS w' base v l := by
  obtain ⟨a, cap, h1, h2⟩ := h; exact ⟨a, cap, h1, h2.below hb⟩
theorem full_len (l : List SesM) : (l ++ mksS 16).length = l.length + 16 := by rw [List.length_append, mksS_length]
theorem LentS.rd {w : World} {base : Nat} {v : Value} {l : List SesM} (h : LentS w base v l) : RdS w v l := by
  obtain ⟨a, cap, rfl, h2⟩ := h
  have h3 := h2.rd
  rw [← full_len] at h3
  have := h3.cut l.length (by rw [full_len]; omega)
  rw [List.take_left] at this
  exact this
theorem LentS.mod {w w' : World} {base : Nat} {v : Value} {l : List SesM} {F : Nat → Prop} (h : LentS w base v l) (hm : Mod F w w') (hb : ∀ k, v.ownBlock = some k → ¬ F k) : LentS w' base v l := by
  obtain ⟨a, cap, rfl, h2⟩ := h; exact ⟨a, cap, rfl, h2.mod hm (fun k hk => hb k (by cases a <;> exact hk))⟩
theorem lentS_calls (v : Value) (l : List SesM) (w : World) (hv : RdS w v l) (hn : l.length + 16 ≤ 1256584717457) :
    Calls Tryz.prog 48 #[v] w fun e w' => ∃ o, e = .returned o ∧ LentS w' w.heap.size o l ∧ Below w.heap.size w w' := by
  have HF := Lib.hid (fullS_calls v l w hv hn)
  obtain ⟨a, cap, rfl, hc1, hc2⟩ := hv.slice
  have hln : l.length ≤ 9223372036854775807 := by omega
  clear hv hc1 hn
  go_enter Tryz.func48, Tryz.ntmps48
  go_wp2_with fail
  refine HF.out.mono ?_
  rintro e w1 ⟨o, rfl, ho, hb⟩
  have HB := Lib.hid hb
  obtain ⟨oa, oc, rfl, hoc⟩ := ho.slice
  rw [full_len] at ho hoc ⊢
  have hhd := fun w => headS oa (l.length + 16) oc l.length (by omega) w
  have HO := Lib.hid (show LentS w1 w.heap.size (.slice oa l.length oc) l from ⟨oa, oc, rfl, ho⟩)
  clear ho hb hoc HF
  go_wp2_with fail
  go_ret
  exact ⟨_, rfl, HO.out, HB.out⟩
theorem wpQuiet_load_k {P : Program} {ops : Array Oper} {rest : List Oper} {op : Oper} {a : Act} {C : World → Prop} {Q : Act → Prop} (hw : Region.wanted op (yielded ops a.tmps) = true) (ty : TypeId) (x : Operand) (ho : op.op = .load ty x)
    (b o : Nat) (hx : a.eval x = .pointer (some ⟨b, o, none⟩)) (cs : List Value) (d : TypeDesc) (hc : ∀ w, C w → w.rangeAt b o cs)
    (hu : P.underlying ty = some d) (hd : d.isRow = true) (hi : (P.info? ty).map (·.size) = some cs.length)
    (h : ∀ c, Hid (c = cs.toArray) → wpQuiet P ops C Q rest (a.put op.dst (.agg c))) : wpQuiet P ops C Q (op :: rest) a := by
  unfold wpQuiet
  rw [if_pos hw]
  refine ⟨.agg cs.toArray, fun w hC => ?_, h _ (Lib.hid rfl)⟩
  unfold Oper.quietAt execOp
  simp only [ho, hx, Instr.loadAt, Instr.sureAddr, Sem.run_bind, Sem.run_pure, Result.andThen_ok, run_loadVar_mid w b o ty cs d (hc w hC) hu hd hi]
  exact ⟨rfl, rfl⟩
set_option maxHeartbeats 3200000 in
theorem keptFullS_calls (v v' : Value) (l : List SesM) (w : World) (hv : RdS w v (l ++ mksS 16)) (hv' : RdS w v' l) (hn : l.length ≤ 1256584717457) :
    Calls Tryz.prog 71 #[v, v'] w fun e w' => e = .returned (.bool true) ∧ Below w.heap.size w w' := by
  obtain ⟨a, cap, rfl, hc1, hc2⟩ := hv.slice
  obtain ⟨a2, cap2, rfl, hd1, hd2⟩ := hv'.slice
  have HV := Lib.hid hv
  have HV2 := Lib.hid hv'
  rw [full_len] at HV hc1 ⊢
  obtain ⟨n, hN⟩ : ∃ n, n = l.length := ⟨_, rfl⟩
  rw [← hN] at HV HV2 hc1 hd1 hn ⊢
  have hn2 : n + 16 ≤ 9223372036854775807 := by omega
  have HN := Lib.hid hN
  have hsum : ((n + 16 : Nat) : Int) = (n : Int) + 16 := by omega
  clear hv hv' hc1 hd1 hc2 hd2 hN hn
  rw [show ((n + 16 : Nat)) = n + 16 from rfl]
  obtain ⟨N, hNN⟩ : ∃ N, N = n + 16 := ⟨_, rfl⟩
  rw [← hNN] at HV hsum hn2 ⊢
  have HNN := Lib.hid hNN
  have n0 : (0 : Int) ≤ (n : Int) := by omega
  have n1 : (n : Int) + 16 ≤ 9223372036854775807 := by omega
  have hne : ((N : Int) != (n : Int) + 16) = false := by rw [bne, hsum]; simp
  clear hNN hsum
  go_enter Tryz.func71, Tryz.ntmps71
  go_wp2_with fail
  clear hne
  go_loopg [5] N (fun gk iv wr => ∃ k : Nat, gk + k = N ∧ iv = .int .i64 (k : Int) ∧ Below w.heap.size w wr)
  case atStart => exact ⟨0, rfl, rfl, Below.refl _ _⟩
  case round =>
    obtain ⟨k, hgk, rfl, hb⟩ := hrel
    have k0 : (0 : Int) ≤ (k : Int) := by omega
    have HGK := Lib.hid hgk
    have HB := Lib.hid hb
    clear hgk hb
    by_cases hk : k < N
    rotate_left
    · have k1 : ¬ (k : Int) < (N : Int) := by omega
      clear hk
      go_wp2_with fail
      go_ret
      exact ⟨rfl, HB.out⟩
    have k1 : (k : Int) < (N : Int) := by omega
    have HK := Lib.hid hk
    have hkl : k < (l ++ mksS 16).length := by rw [full_len]; have := HNN.out; have := HN.out; omega
    obtain ⟨s, hs⟩ : ∃ s, s = (l ++ mksS 16)[k] := ⟨_, rfl⟩
    obtain ⟨rb, ro, hra, hrow⟩ := (HV.out.below HB.out).row k hkl
    subst hra
    rw [← hs] at hrow
    have HROW := Lib.hid hrow
    have HSM := Lib.hid (show ¬ k < n → s = markS 90 ((k : Int) - (n : Int)) from fun h => by
      have e := HN.out
      rw [hs, List.getElem_append_right (by omega), mksS_get]
      congr 1
      omega)
    have HSL := Lib.hid (show ∀ h : k < n, ∃ hl : k < l.length, s = l[k] from fun h => by
      have e := HN.out
      refine ⟨by omega, ?_⟩
      rw [hs, List.getElem_append_left (by omega)])
    have hz : IntKind.i64.wrap ((k : Int) - (n : Int)) = (k : Int) - (n : Int) := by simp [IntKind.wrap, IntKind.bits, IntKind.signed]; omega
    clear hk hkl hs hrow
    go_wp2_with fail
    refine (markS_calls 90 ((k : Int) - (n : Int)) _ (by omega) (by omega)).mono ?_
    rintro e w1 ⟨rfl, hb1⟩
    obtain ⟨mk, hmk⟩ : ∃ mk, mk = markS 90 ((k : Int) - (n : Int)) := ⟨_, rfl⟩
    rw [← hmk] at HSM ⊢
    have HB1 := Lib.hid (HB.out.trans (hb1.mono HB.out.size))
    have HROW1 := Lib.hid (show w1.rangeAt rb (ro + k * 12) s.cells.toList from fun j v hv => below_heap hb1 (HROW.out j v hv))
    clear hb1 hmk HB HROW hz
    go_wp2_with ((with_reducible refine wpList_store_k ?a0 36 (.tmp 6) (.tmp 23) ?a1 w1.heap.size 0 mk.cells.toList ?a2 mk.cells ?a3 (SesM.listS _) ?a5 ?a6 ?a7 ?a8); (case a1 => rfl); (case a0 => rfl); (case a2 => rfl); (case a3 => rfl); (case a5 => exact thereZ _ _); (case a6 => kernel_rfl); (case a7 => exact SesM.oneS _))
    intro w2 hw2
    obtain ⟨hpx, hb2⟩ := putZ hw2
    have HPX := Lib.hid hpx
    have HB2 := Lib.hid (HB1.out.trans (hb2.mono HB1.out.size))
    have HROW2 := Lib.hid (show w2.rangeAt rb (ro + k * 12) s.cells.toList from fun j v hv => below_heap hb2 (HROW1.out j v hv))
    have HNE := Lib.hid (show rb < w1.heap.size from World.block_lt_of_cell? w1 _ (HROW1.out 0 _ rfl))
    have HLE := Lib.hid (show w.heap.size ≤ w1.heap.size from HB1.out.size)
    clear hw2 hpx hb2 HB1 HROW1
    generalize w1.heap.size = pb at HPX HNE HLE ⊢
    by_cases hkn : k < n
    · have kn : (k : Int) < (n : Int) := by omega
      obtain ⟨hl, hsl⟩ := HSL.out hkn
      obtain ⟨sb, so, hsa, hsrow⟩ := (HV2.out.below HB2.out).row k hl
      subst hsa
      rw [← hsl] at hsrow
      have HSR := Lib.hid hsrow
      obtain ⟨hset, hth⟩ := HPX.out.setAllS rfl s
      have HSE := Lib.hid hset
      have HTH := Lib.hid hth
      clear hkn hsl hsrow hset hth HSM HSL hl
      go_wp2_with ((with_reducible refine wpList_load_k ?b02 36 (.tmp 30) ?b12 sb (so + k * 12) ?b22 s.cells.toList _ HSR.out Tryz.underlying36 ?b32 ?b42 ?b82); (case b12 => rfl); (case b02 => rfl); (case b22 => rfl); (case b32 => rfl); (case b42 => kernel_rfl))
      intro cv hcv
      go_wp2_with ((with_reducible refine wpList_store_k ?d0 36 (.tmp 6) (.tmp 31) ?d1 pb 0 s.cells.toList ?d2 cv ?d3 hcv HTH.out ?d6 ?d7 ?d8); (case d1 => rfl); (case d0 => rfl); (case d2 => rfl); (case d3 => rfl); (case d6 => kernel_rfl); (case d7 => exact SesM.oneS _))
      intro w3 hw3
      have HX3 := Lib.hid (show Box w3 pb s.cells 36 by rw [hw3.out]; exact HSE.out)
      have hm : Mod (fun q => q = pb) w2 w3 := by
        rw [hw3.out]
        generalize s.cells.toList = L
        exact Mod.setCells (fun q => q = pb) pb rfl L 0 w2
      have HB3 := Lib.hid (HB2.out.trans (hm.below HB2.out.size (fun i hi => by have := HLE.out; omega)))
      have HROW3 := Lib.hid (show ∀ wq, (∃ n, wq = w3.drewN n) → wq.rangeAt rb (ro + k * 12) s.cells.toList from fun wq hq j v hv => by
        obtain ⟨q, rfl⟩ := hq
        have h1 := HROW2.out j v hv
        show w3.cell? _ = _
        rw [World.cell?_of_block (w := w2) (hm.block rb (World.block_lt_of_cell? w2 _ (HROW2.out 0 _ rfl)) (by have := HNE.out; omega))]
        exact h1)
      have HRX3 := Lib.hid (show ∀ wq, (∃ n, wq = w3.drewN n) → wq.rangeAt pb 0 s.cells.toList from fun wq hq => by
        obtain ⟨q, rfl⟩ := hq
        exact Box.rangeS (show Box (w3.drewN q) pb s.cells 36 from HX3.out))
      clear hcv hw3 hm HTH HSE HPX HB2 HROW2 HSR HX3
      go_wp2_with fail
      refine wp_region_quiet_lit (by kernel_rfl) (by kernel_rfl) ?_
      repeat (go_big_quiet_step (fail))
      refine wpQuiet_load_k rfl 36 (.tmp 34) rfl rb (ro + k * 12) rfl s.cells.toList _ HROW3.out Tryz.underlying36 rfl (by kernel_rfl) ?_
      intro c1 hc1
      have ec1 : c1 = s.cells := by rw [hc1.out]
      subst ec1
      simp only [Act.put, List.setIfInBounds_toArray, List.set_cons_zero, List.set_cons_succ]
      refine wpQuiet_load_k rfl 36 (.tmp 6) rfl pb 0 rfl s.cells.toList _ HRX3.out Tryz.underlying36 rfl (by kernel_rfl) ?_
      intro c2 hc2
      have ec2 : c2 = s.cells := by rw [hc2.out]
      subst ec2
      simp only [Act.put, List.setIfInBounds_toArray, List.set_cons_zero, List.set_cons_succ]
      have hneq : ∀ w, (binOp .neq 36 (.agg s.cells) (.agg s.cells)).run Tryz.prog w = .ok (.bool false) w := fun w => by rw [run_neqS, sameS_iff.2 rfl]; rfl
      repeat (go_big_quiet_step (fail))
      refine wpQuiet_nil ?_
      intro wq hwq
      obtain ⟨nq, rfl⟩ := hwq
      have HB4 := Lib.hid (HB3.out.trans ((below_drewN _ nq).mono HB3.out.size))
      clear hneq hc1 hc2 HROW3 HRX3
      go_wp2_with fail
      go_roundg (N - (k + 1))
      case measure => have := HGK.out; have := HK.out; omega
      case rel => exact ⟨k + 1, by have := HGK.out; have := HK.out; omega, by go_num, HB4.out⟩
    have kn : ¬ (k : Int) < (n : Int) := by omega
    obtain rfl := HSM.out hkn
    have HB3 := HB2
    have HROW3 := Lib.hid (show ∀ wq, (∃ n, wq = w2.drewN n) → wq.rangeAt rb (ro + k * 12) s.cells.toList from fun wq hq => by
      obtain ⟨q, rfl⟩ := hq
      exact HROW2.out)
    have HRX3 := Lib.hid (show ∀ wq, (∃ n, wq = w2.drewN n) → wq.rangeAt pb 0 s.cells.toList from fun wq hq => by
      obtain ⟨q, rfl⟩ := hq
      exact Box.rangeS (show Box (w2.drewN q) pb s.cells 36 from HPX.out))
    clear hkn HPX HB2 HROW2 HSM HSL
    go_wp2_with fail
    refine wp_region_quiet_lit (by kernel_rfl) (by kernel_rfl) ?_
    repeat (go_big_quiet_step (fail))
    refine wpQuiet_load_k rfl 36 (.tmp 34) rfl rb (ro + k * 12) rfl s.cells.toList _ HROW3.out Tryz.underlying36 rfl (by kernel_rfl) ?_
    intro c1 hc1
    have ec1 : c1 = s.cells := by rw [hc1.out]
    subst ec1
    simp only [Act.put, List.setIfInBounds_toArray, List.set_cons_zero, List.set_cons_succ]
    refine wpQuiet_load_k rfl 36 (.tmp 6) rfl pb 0 rfl s.cells.toList _ HRX3.out Tryz.underlying36 rfl (by kernel_rfl) ?_
    intro c2 hc2
    have ec2 : c2 = s.cells := by rw [hc2.out]
    subst ec2
    simp only [Act.put, List.setIfInBounds_toArray, List.set_cons_zero, List.set_cons_succ]
    have hneq : ∀ w, (binOp .neq 36 (.agg s.cells) (.agg s.cells)).run Tryz.prog w = .ok (.bool false) w := fun w => by rw [run_neqS, sameS_iff.2 rfl]; rfl
    repeat (go_big_quiet_step (fail))
    refine wpQuiet_nil ?_
    intro wq hwq
    obtain ⟨nq, rfl⟩ := hwq
    have HB4 := Lib.hid (HB3.out.trans ((below_drewN _ nq).mono HB3.out.size))
    clear hneq hc1 hc2 HROW3 HRX3
    go_wp2_with fail
    go_roundg (N - (k + 1))
    case measure => have := HGK.out; have := HK.out; omega
    case rel => exact ⟨k + 1, by have := HGK.out; have := HK.out; omega, by go_num, HB4.out⟩
end Go.Proofs.YthnabnieajojjaaGreatDoor
