/-
  Texts of one proof, one behind the other.
-/
import Derived.Test.YtgcnolapjppbpaaGreatDoorK31
namespace Go.Proofs.YtgcnolapjppbpaaGreatDoor
open Go.RowKit
set_option maxRecDepth 100000
theorem zero_int (w : World) : (zeroValue 3).run Tryz.prog w = .ok (.int .i64 0) w := by kernel_rfl
def IsG (w : World) (b : Nat) (G : List Int) : Prop := ∃ es : List (Int × Int), IsMap w b (es.map (fun p => (p.1, Value.int .i64 p.2))) ∧ es.map Prod.fst = G
theorem IsG.mod {w w' : World} {b : Nat} {G : List Int} {F : Nat → Prop} (h : IsG w b G) (hm : Mod F w w') (hb : ¬ F b) : IsG w' b G := by
  obtain ⟨es, h1, h2⟩ := h; exact ⟨es, h1.mod hm hb, h2⟩
theorem IsG.below {w w' : World} {b : Nat} {G : List Int} (h : IsG w b G) (hb : Below w.heap.size w w') : IsG w' b G := by
  obtain ⟨es, h1, h2⟩ := h; exact ⟨es, h1.below hb, h2⟩
theorem IsG.lt {w : World} {b : Nat} {G : List Int} (h : IsG w b G) : b < w.heap.size := by obtain ⟨_, h1, _⟩ := h; exact h1.lt
theorem IsG.new (w : World) : IsG (w.alloc (.map #[] 0)) w.heap.size [] := ⟨[], IsMap.new w, rfl⟩
theorem getM_keys (k : Int) : ∀ es : List (Int × Int), (getM k (es.map (fun p => (p.1, Value.int .i64 p.2)))).isSome = (es.map Prod.fst).contains k ∧ ∃ x : Int, (getM k (es.map (fun p => (p.1, Value.int .i64 p.2)))).getD (.int .i64 0) = .int .i64 x
  | [] => ⟨rfl, 0, rfl⟩
  | p :: es => by
    obtain ⟨h1, h2⟩ := getM_keys k es
    simp only [List.map_cons, getM]
    by_cases h : p.1 = k
    · rw [if_pos h]
      exact ⟨by simp [h], p.2, rfl⟩
    · rw [if_neg h]
      refine ⟨?_, h2⟩
      rw [h1, List.contains_cons]
      have : (k == p.1) = false := by rw [beq_eq_false_iff_ne]; exact fun e => h e.symm
      rw [this, Bool.false_or]
def hasG (G : List Int) (k : Int) : Bool := G.contains k
theorem wpList_lookG {w : World} {ops : Array Oper} {rest : List Oper} {o : Oper} {a : Act} {Q : Exit → Act → World → Prop} (hg : o.guard = none) (m x : Operand) (hop : o.op = Op.lookup 185 m x true)
    (b : Nat) (G : List Int) (hm : a.eval m = .map (some b)) (h : IsG w b G) (k : Int) (hx : a.eval x = .int .i64 k)
    (hn : ∀ x : Int, wpList Tryz.prog ops Q rest (a.put o.dst (.tuple #[.int .i64 x, .bool (hasG G k)])) w) : wpList Tryz.prog ops Q (o :: rest) a w := by
  obtain ⟨es, h1, rfl⟩ := h
  obtain ⟨g1, xv, g2⟩ := getM_keys k es
  exact wpList_look_i hg m x _ hop _ _ .i64 Tryz.underlying185 Tryz.underlying3 (.int .i64 0) (zero_int w) b _ hm h1 k hx _ _ g2 g1 (hn xv)
theorem wpList_putG {w : World} {ops : Array Oper} {rest : List Oper} {o : Oper} {a : Act} {Q : Exit → Act → World → Prop} (hg : o.guard = none) (m x y : Operand) (hop : o.op = Op.mapUpdate 185 m x y)
    (b : Nat) (G : List Int) (hm : a.eval m = .map (some b)) (h : IsG w b G) (k : Int) (hx : a.eval x = .int .i64 k) (hk : G.contains k = false)
    (v : Int) (hy : a.eval y = .int .i64 v) (hn : ∀ w', IsG w' b (G ++ [k]) → Mod (fun i => i = b) w w' → wpList Tryz.prog ops Q rest (a.put o.dst undef) w') : wpList Tryz.prog ops Q (o :: rest) a w := by
  obtain ⟨es, h1, rfl⟩ := h
  have g1 := (getM_keys k es).1
  rw [hk] at g1
  refine wpList_put_i hg m x y _ hop _ _ .i64 Tryz.underlying185 Tryz.underlying3 b _ hm h1 k hx (by simpa using g1) _ hy (fun w' h2 h3 => hn w' ⟨es ++ [(k, v)], by simpa using h2, by simp⟩ h3)
structure WoS (w0 w : World) (p : Nat) (c b : Int) (v : Value) (G : List Int) : Prop where
  bx : Box w p #[.int .i64 c, .int .i64 b, v] 30
  bz : Box w (p + 1) #[.int .i64 0, .int .i64 0, .slice none 0 0] 30
  mp : IsG w (p + 2) G
  bel : Below p w0 w
  e : p = w0.heap.size
theorem WoS.below {w0 w w' : World} {p : Nat} {c b : Int} {v : Value} {G : List Int} (h : WoS w0 w p c b v G) (hb : Below w.heap.size w w') : WoS w0 w' p c b v G :=
  ⟨h.bx.below hb, h.bz.below hb, h.mp.below hb, h.bel.trans (hb.mono (by have := h.bx.lt; omega)), h.e⟩
theorem WoS.put {w0 w w' : World} {p : Nat} {c b : Int} {v : Value} {G G' : List Int} (h : WoS w0 w p c b v G) (hm : Mod (fun i => i = p + 2) w w') (hg : IsG w' (p + 2) G') : WoS w0 w' p c b v G' :=
  ⟨h.bx.mod hm (by omega), h.bz.mod hm (by omega), hg, h.bel.trans (hm.below (by have := h.bx.lt; omega) (fun i hi => by omega)), h.e⟩
theorem WoS.self {w0 w : World} {p : Nat} {c b : Int} {v : Value} {G : List Int} (h : WoS w0 w p c b v G) : Below w0.heap.size w0 w := by have := h.bel; rwa [h.e] at this
theorem step_no {g : SesM → Bool} {G : List Int} {s : SesM} (h : G.contains s.birth = true ∨ (g s = false ∧ upIn G s = false)) : stepM g G s = G := by
  unfold stepM
  rcases h with h | ⟨h1, h2⟩
  · rw [h]; rfl
  · rw [h1, h2, Bool.or_self, Bool.and_false]; rfl
theorem step_yes {g : SesM → Bool} {G : List Int} {s : SesM} (h : G.contains s.birth = false) (h2 : g s = true ∨ upIn G s = true) : stepM g G s = G ++ [s.birth] := by
  unfold stepM
  rcases h2 with h2 | h2
  · rw [h, h2]; rfl
  · rw [h, h2, Bool.or_true]; rfl
theorem take_pass {g : SesM → Bool} {G : List Int} {l : List SesM} {k : Nat} {s : SesM} (hk : k < l.length) (hs : s = l[k]) : passM g G (l.take (k + 1)) = stepM g (passM g G (l.take k)) s := by
  rw [List.take_succ_eq_append_getElem hk, passM_snoc, hs]
theorem take_filter {f : SesM → Bool} {l : List SesM} {k : Nat} {s : SesM} (hk : k < l.length) (hs : s = l[k]) : (l.take (k + 1)).filter f = (l.take k).filter f ++ (if f s = true then [s] else []) := by
  rw [List.take_succ_eq_append_getElem hk, List.filter_append, ← hs, List.filter_cons]
  rfl
theorem closed_of {g : SesM → Bool} {l : List SesM} {G : List Int} {j : Nat} (h1 : G = iterM g l j) (h2 : passM g G l = G) : G = closeM g l := by
  subst h1; exact iterM_close h2
set_option maxHeartbeats 12800000 in
theorem without_calls (f : FuncId) (ca : Addr) (g : SesM → Bool) (st : StM) (v : Value) (w : World) (hv : RdS w v st.l) (hn : st.l.length ≤ 1000000000) (hf : TestF f ca g w) :
    Calls Tryz.prog 62 #[.agg #[.int .i64 st.clock, .int .i64 st.births, v], .func (.func f) #[] #[.pointer (some ca)]] w fun e w' => ∃ o, e = .returned (.agg #[.int .i64 st.clock, .int .i64 st.births, o]) ∧ OwnS w' w.heap.size o (withoutM g st.l) ∧ Below w.heap.size w w' := by
  obtain ⟨c, b, l⟩ := st
  simp only at hv hn ⊢
  obtain ⟨a, cap, rfl, hc1, hc2⟩ := hv.slice
  have HV := Lib.hid hv
  have HF := Lib.hid hf
  have hln : l.length ≤ 9223372036854775807 := by omega
  obtain ⟨n, hN⟩ : ∃ n, n = l.length := ⟨_, rfl⟩
  rw [← hN] at hln HV hc1 hn ⊢
  have HN := Lib.hid hN
  have HNN := Lib.hid hn
  have hmm := @run_makeMap Tryz.prog
  obtain ⟨p, hp⟩ : ∃ p, p = w.heap.size := ⟨_, rfl⟩
  have hw0 : WoS w (((w.alloc (.cells #[.int .i64 c, .int .i64 b, .slice a n cap] 30)).alloc (.cells #[.int .i64 0, .int .i64 0, .slice none 0 0] 30)).alloc (.map #[] 0)) p c b (.slice a n cap) [] := by
    have h1 := Box.new w #[.int .i64 c, .int .i64 b, .slice a n cap] 30
    have h2 := Box.new (w.alloc (.cells #[.int .i64 c, .int .i64 b, .slice a n cap] 30)) #[.int .i64 0, .int .i64 0, .slice none 0 0] 30
    have h3 := IsG.new ((w.alloc (.cells #[.int .i64 c, .int .i64 b, .slice a n cap] 30)).alloc (.cells #[.int .i64 0, .int .i64 0, .slice none 0 0] 30))
    rw [World.size_alloc] at h2
    rw [World.size_alloc, World.size_alloc] at h3
    rw [← hp] at h1 h2 h3
    exact ⟨(h1.below (below_alloc _ _)).below (below_alloc _ _), h2.below (below_alloc _ _), h3, by rw [hp]; exact (below_two w _ _).trans ((below_alloc _ _).mono (below_two w _ _).size), hp⟩
  have HW0 := Lib.hid hw0
  clear hv hf hc1 hN hn hw0
  go_enter Tryz.func62, Tryz.ntmps62
  go_wp2_with fail
  generalize ((w.alloc (.cells #[.int .i64 c, .int .i64 b, .slice a n cap] 30)).alloc (.cells #[.int .i64 0, .int .i64 0, .slice none 0 0] 30)).alloc (.map #[] 0) = wi at HW0 ⊢
  rw [← hp]
  have HP := Lib.hid hp
  clear hp hmm
  go_loopg [6] (n + 1) (fun gk mv wr => ∃ (G : List Int) (j : Nat) (more : Bool), mv = .bool more ∧ WoS w wr p c b (.slice a n cap) G ∧ Hid (G = iterM g l j ∧ (if more = true then gk + G.length = n + 1 else gk = 0 ∧ passM g G l = G)))
  case atStart => exact ⟨[], 0, true, rfl, HW0.out, Lib.hid ⟨rfl, rfl⟩⟩
  case round =>
    clear HW0
    obtain ⟨G, j, more, rfl, hwo, HG⟩ := hrel
    cases more
    rotate_left
    · obtain ⟨hg1, hg2⟩ := HG.out
      rw [if_pos rfl] at hg2
      have c2 : wr.cell? ⟨p, 2, none⟩ = some (.slice a n cap) := hwo.bx.cell 2 _ rfl
      have HWO := Lib.hid hwo
      have HG1 := Lib.hid hg1
      have HG2 := Lib.hid hg2
      have HGO := Lib.hid (show GoodG l G by rw [hg1]; exact GoodG.iter g l j)
      clear hwo hg1 hg2 HG
      go_wp2_with fail
      clear c2
      obtain ⟨wo, hwo⟩ : ∃ wo : World, wo = wr := ⟨_, rfl⟩
      rw [← hwo] at HWO ⊢
      clear hwo
      go_loopg [6, 23] n (fun gi mv iv wr => ∃ (k : Nat) (G' : List Int) (m : Bool), gi + k = n ∧ mv = .bool m ∧ iv = .int .i64 (k : Int) ∧ WoS w wr p c b (.slice a n cap) G' ∧ Hid (G' = passM g G (l.take k) ∧ m = decide (G.length < G'.length)))
      case atStart => exact ⟨0, G, false, rfl, rfl, rfl, HWO.out, Lib.hid ⟨rfl, (decide_eq_false (Nat.lt_irrefl _)).symm⟩⟩
      case round =>
        clear HWO
        obtain ⟨k, G', m, hgi, rfl, rfl, hwo, HGP⟩ := hrel
        have k0 : (0 : Int) ≤ (k : Int) := by omega
        have HGI := Lib.hid hgi
        have HB := Lib.hid hwo.self
        have HWO := Lib.hid hwo
        have hb := hwo.self
        clear hgi hwo
        by_cases hk : k < n
        · have k1 : (k : Int) < (n : Int) := by omega
          have hkl : k < l.length := by have := HN.out; omega
          obtain ⟨s, hs⟩ : ∃ s, s = l[k] := ⟨_, rfl⟩
          obtain ⟨rb, ro, hra, hrow⟩ := (HV.out.below hb).row k hkl
          subst hra
          rw [← hs] at hrow
          have HROW := Lib.hid hrow
          have HST := Lib.hid (take_pass (g := g) (G := G) hkl hs)
          have HK := Lib.hid hk
          have HGL := Lib.hid (show G.length ≤ G'.length by rw [HGP.out.1]; exact passM_le _ _ _)
          clear hrow hs hk hb hkl
          go_wp2_with ((with_reducible refine wpList_load_k ?L1a 45 (.tmp 25) ?L1b rb (ro + k * 12) ?L1c s.cells.toList _ HROW.out Tryz.underlying45 ?L1d ?L1e ?L1f); (case L1b => rfl); (case L1a => rfl); (case L1c => rfl); (case L1d => rfl); (case L1e => kernel_rfl))
          intro cv hcv
          have ecv : cv = s.cells := by rw [hcv.out]
          subst ecv
          clear hcv
          go_wp2_with ((with_reducible refine wpList_store_k ?S2a 45 (.tmp 8) (.tmp 26) ?S2b wr.heap.size 0 s.cells.toList ?S2c s.cells ?S2d (SesM.listS _) ?S2e ?S2f ?S2g ?S2h); (case S2b => rfl); (case S2a => rfl); (case S2c => rfl); (case S2d => rfl); (case S2e => exact thereZ _ _); (case S2f => kernel_rfl); (case S2g => exact SesM.oneS _))
          intro w2 hw2
          obtain ⟨hpx, hb2⟩ := putZ hw2
          have HWO2 := Lib.hid (HWO.out.below hb2)
          have HPX := Lib.hid hpx
          have hql : wr.heap.size < w2.heap.size := hpx.lt
          have hqp : p + 2 < wr.heap.size := HWO.out.mp.lt
          have HQ := Lib.hid hqp
          have q0 : w2.cell? ⟨wr.heap.size, 0, none⟩ = some (.int .i64 s.slot) := hpx.cell 0 _ rfl
          have q1 : w2.cell? ⟨wr.heap.size, 1, none⟩ = some (.int .i64 s.birth) := hpx.cell 1 _ rfl
          have q3 : w2.cell? ⟨wr.heap.size, 3, none⟩ = some (.int .i64 s.upB) := hpx.cell 3 _ rfl
          have HRG := Lib.hid (Box.rangeS hpx)
          clear hw2 hpx hb2 hql hqp HB HROW HWO
          generalize wr.heap.size = q at *
          go_wp2_with (at_lookup; refine wpList_lookG rfl _ _ rfl _ _ rfl HWO2.out.mp s.upB rfl ?_)
          intro x1
          have HUI := Lib.hid (show upIn G' s = (hasG G' s.upB && s.upB != 0) from rfl)
          generalize hasG G' s.upB = u at HUI ⊢
          go_wp2_with (at_lookup; refine wpList_lookG rfl _ _ rfl _ _ rfl HWO2.out.mp s.birth rfl ?_)
          intro x2
          obtain ⟨th, hth⟩ : ∃ th, th = hasG G' s.birth := ⟨_, rfl⟩
          rw [← hth]
          have HTH := Lib.hid hth.symm
          clear hth
          cases th
          rotate_left
          · have HTT := Lib.hid (show G'.contains s.birth = true from HTH.out)
            have HNX := Lib.hid (show passM g G (l.take (k + 1)) = G' by rw [HST.out, ← HGP.out.1]; exact step_no (.inl HTT.out))
            have HWF := Lib.hid HWO2.out
            clear HST HRG HPX
            go_wp2_with fail
            go_roundg (n - (k + 1))
            case measure => have := HGI.out; have := HK.out; omega
            case rel => exact ⟨k + 1, G', m, by have := HGI.out; have := HK.out; omega, rfl, by go_num, HWF.out, Lib.hid ⟨HNX.out.symm, HGP.out.2⟩⟩
          go_wp2_with ((with_reducible refine wpList_load_g ?L3a 45 (.tmp 8) ?L3b q (0) ?L3c s.cells.toList _ HRG.out Tryz.underlying45 ?L3d ?L3e ?L3f); (case L3b => rfl); (case L3a => rfl); (case L3c => rfl); (case L3d => rfl); (case L3e => kernel_rfl))
          intro cv hcv
          have ecv : cv = s.cells := by rw [hcv.out]
          subst ecv
          clear hcv
          go_wp2_with fail
          rw [HF.out.run, Oper.upon_enter]
          refine (HF.out.tells s w2 HWO2.out.self).mono ?_
          rintro e w3 ⟨rfl, hb3⟩
          have HWO3 := Lib.hid (HWO2.out.below hb3)
          have r0 : w3.cell? ⟨q, 0, none⟩ = some (.int .i64 s.slot) := below_heap hb3 q0
          have r1 : w3.cell? ⟨q, 1, none⟩ = some (.int .i64 s.birth) := below_heap hb3 q1
          have r3 : w3.cell? ⟨q, 3, none⟩ = some (.int .i64 s.upB) := below_heap hb3 q3
          obtain ⟨r, hr⟩ : ∃ r, r = g s := ⟨_, rfl⟩
          rw [← hr]
          have HGS := Lib.hid hr.symm
          clear hr
          clear hb3 q0 q1 q3 HWO2
          cases r
          rotate_left
          · have HGT := Lib.hid (show g s = true from HGS.out)
            have HNX := Lib.hid (show passM g G (l.take (k + 1)) = G' ++ [s.birth] by rw [HST.out, ← HGP.out.1]; exact step_yes HTH.out (.inl HGT.out))
            go_wp2_with (at_mapUpdate; refine wpList_putG rfl _ _ _ rfl _ _ rfl HWO3.out.mp s.birth rfl HTH.out s.slot rfl ?_)
            intro w4 hg4 hm4
            have HWF := Lib.hid (HWO3.out.put hm4 hg4)
            clear hg4 hm4 HST
            go_wp2_with fail
            go_roundg (n - (k + 1))
            case measure => have := HGI.out; have := HK.out; omega
            case rel => exact ⟨k + 1, G' ++ [s.birth], true, by have := HGI.out; have := HK.out; omega, rfl, by go_num, HWF.out, Lib.hid ⟨HNX.out.symm, (decide_eq_true (by have := HGL.out; rw [List.length_append, List.length_singleton]; omega)).symm⟩⟩
          cases u
          · have HUF := Lib.hid (show upIn G' s = false by rw [HUI.out]; rfl)
            have HNX := Lib.hid (show passM g G (l.take (k + 1)) = G' by rw [HST.out, ← HGP.out.1]; exact step_no (.inr ⟨HGS.out, HUF.out⟩))
            have HWF := Lib.hid HWO3.out
            clear HST HRG HPX
            go_wp2_with fail
            go_roundg (n - (k + 1))
            case measure => have := HGI.out; have := HK.out; omega
            case rel => exact ⟨k + 1, G', m, by have := HGI.out; have := HK.out; omega, rfl, by go_num, HWF.out, Lib.hid ⟨HNX.out.symm, HGP.out.2⟩⟩
          cases hz : (s.upB == 0)
          rotate_left
          · have hz2 : (s.upB != 0) = false := by rw [bne, hz]; rfl
            have HUF := Lib.hid (show upIn G' s = false by rw [HUI.out, hz2]; rfl)
            have HNX := Lib.hid (show passM g G (l.take (k + 1)) = G' by rw [HST.out, ← HGP.out.1]; exact step_no (.inr ⟨HGS.out, HUF.out⟩))
            have HWF := Lib.hid HWO3.out
            clear HST HRG HPX
            go_wp2_with fail
            go_roundg (n - (k + 1))
            case measure => have := HGI.out; have := HK.out; omega
            case rel => exact ⟨k + 1, G', m, by have := HGI.out; have := HK.out; omega, rfl, by go_num, HWF.out, Lib.hid ⟨HNX.out.symm, HGP.out.2⟩⟩
          have hz2 : (s.upB != 0) = true := by rw [bne, hz]; rfl
          have HUF := Lib.hid (show upIn G' s = true by rw [HUI.out, hz2]; rfl)
          have HNX := Lib.hid (show passM g G (l.take (k + 1)) = G' ++ [s.birth] by rw [HST.out, ← HGP.out.1]; exact step_yes HTH.out (.inr HUF.out))
          go_wp2_with (at_mapUpdate; refine wpList_putG rfl _ _ _ rfl _ _ rfl HWO3.out.mp s.birth rfl HTH.out s.slot rfl ?_)
          intro w4 hg4 hm4
          have HWF := Lib.hid (HWO3.out.put hm4 hg4)
          clear hg4 hm4 HST
          go_wp2_with fail
          go_roundg (n - (k + 1))
          case measure => have := HGI.out; have := HK.out; omega
          case rel => exact ⟨k + 1, G' ++ [s.birth], true, by have := HGI.out; have := HK.out; omega, rfl, by go_num, HWF.out, Lib.hid ⟨HNX.out.symm, (decide_eq_true (by have := HGL.out; rw [List.length_append, List.length_singleton]; omega)).symm⟩⟩
        · have k1 : ¬ (k : Int) < (n : Int) := by omega
          have HGE := Lib.hid (show G' = passM g G l ∧ m = decide (G.length < G'.length) by
            have h := HGP.out
            rw [List.take_of_length_le (by have := HN.out; omega)] at h
            exact h)
          have HLE := Lib.hid (show G'.length ≤ n by
            have h1 := HGO.out.pass (goes := g) (m := l) (fun _ h => h)
            have h2 := h1.le
            rw [← HGE.out.1] at h2
            have := HN.out; omega)
          have HLG := Lib.hid (show G.length ≤ n by have := HGO.out.le; have := HN.out; omega)
          clear hk hb HB HGP HGI
          go_wp2_with fail
          cases m
          · have HFX := Lib.hid (show passM g G' l = G' ∧ G' = iterM g l j by
              obtain ⟨h1, h2⟩ := HGE.out
              have h3 : G' = G := by
                rcases passM_len g l G with h | h
                · rw [h1, h]
                · rw [← h1] at h; exact absurd h (of_decide_eq_false h2.symm)
              rw [h3]; rw [h3] at h1
              exact ⟨h1.symm, HG1.out⟩)
            go_roundg 0
            case measure => have := HG2.out; have := HLG.out; omega
            case rel => exact ⟨G', j, false, rfl, HWO.out, Lib.hid ⟨HFX.out.2, by rw [if_neg (by decide)]; exact ⟨rfl, HFX.out.1⟩⟩⟩
          · have HFX := Lib.hid (show G.length < G'.length ∧ G' = iterM g l (j + 1) by
              obtain ⟨h1, h2⟩ := HGE.out
              exact ⟨of_decide_eq_true h2.symm, by rw [h1, HG1.out]; rfl⟩)
            go_roundg (n + 1 - G'.length)
            case measure => have := HG2.out; have := HLE.out; have := HFX.out.1; omega
            case rel => exact ⟨G', j + 1, true, rfl, HWO.out, Lib.hid ⟨HFX.out.2, by rw [if_pos rfl]; have := HLE.out; omega⟩⟩
    obtain ⟨hg1, hg2⟩ := HG.out
    rw [if_neg (by decide)] at hg2
    have HCL := Lib.hid (closed_of hg1 hg2.2)
    have c2 : wr.cell? ⟨p, 2, none⟩ = some (.slice a n cap) := hwo.bx.cell 2 _ rfl
    have HWO := Lib.hid hwo
    have HWM := Lib.hid (show withoutM g l = l.filter (fun s => !g s && !upIn G s) by rw [HCL.out]; rfl)
    clear hwo hg1 hg2 HG HCL
    go_wp2_with fail
    clear c2
    obtain ⟨wo, hwo⟩ : ∃ wo : World, wo = wr := ⟨_, rfl⟩
    rw [← hwo] at HWO ⊢
    clear hwo
    have HPW := Lib.hid (show p + 3 ≤ wo.heap.size by have := HWO.out.mp.lt; omega)
    go_loopg [13, 67] n (fun gi ov iv wr => ∃ k : Nat, gi + k = n ∧ iv = .int .i64 (k : Int) ∧ OwnS wr (p + 3) ov ((l.take k).filter (fun s => !g s && !upIn G s)) ∧ Below (p + 3) wo wr)
    case atStart => exact ⟨0, rfl, rfl, OwnS.nil _ _, Below.refl _ _⟩
    case round =>
      obtain ⟨k, hgi, rfl, hown, hbl⟩ := hrel
      have k0 : (0 : Int) ≤ (k : Int) := by omega
      have HGI := Lib.hid hgi
      have hm : Mod (fun i => p + 3 ≤ i) wo wr := ⟨hbl.os, hbl.tape, hbl.output, hbl.size, fun i _ hn => hbl.block i (by omega)⟩
      have hwk : WoS w wr p c b (.slice a n cap) G := ⟨HWO.out.bx.mod hm (by omega), HWO.out.bz.mod hm (by omega), HWO.out.mp.mod hm (by omega), HWO.out.bel.trans (hbl.mono (by omega)), HWO.out.e⟩
      have hb := hwk.self
      have HWK := Lib.hid hwk
      have HO := Lib.hid hown
      have HBL := Lib.hid hbl
      clear hgi hm hwk hown hbl
      by_cases hk : k < n
      · have k1 : (k : Int) < (n : Int) := by omega
        have hkl : k < l.length := by have := HN.out; omega
        obtain ⟨s, hs⟩ : ∃ s, s = l[k] := ⟨_, rfl⟩
        obtain ⟨rb, ro, hra, hrow⟩ := (HV.out.below hb).row k hkl
        subst hra
        rw [← hs] at hrow
        have HROW := Lib.hid hrow
        have HST := Lib.hid (take_filter (f := fun s => !g s && !upIn G s) hkl hs)
        have HK := Lib.hid hk
        have HLK := Lib.hid (show ((l.take k).filter (fun s => !g s && !upIn G s)).length + 1 ≤ 1256584717458 by
          have h1 := List.length_filter_le (fun s => !g s && !upIn G s) (l.take k)
          rw [List.length_take] at h1
          have := HNN.out; omega)
        clear hrow hs hk hb hkl
        go_wp2_with ((with_reducible refine wpList_load_k ?L4a 45 (.tmp 69) ?L4b rb (ro + k * 12) ?L4c s.cells.toList _ HROW.out Tryz.underlying45 ?L4d ?L4e ?L4f); (case L4b => rfl); (case L4a => rfl); (case L4c => rfl); (case L4d => rfl); (case L4e => kernel_rfl))
        intro cv hcv
        have ecv : cv = s.cells := by rw [hcv.out]
        subst ecv
        clear hcv
        go_wp2_with ((with_reducible refine wpList_store_k ?S5a 45 (.tmp 15) (.tmp 70) ?S5b wr.heap.size 0 s.cells.toList ?S5c s.cells ?S5d (SesM.listS _) ?S5e ?S5f ?S5g ?S5h); (case S5b => rfl); (case S5a => rfl); (case S5c => rfl); (case S5d => rfl); (case S5e => exact thereZ _ _); (case S5f => kernel_rfl); (case S5g => exact SesM.oneS _))
        intro w2 hw2
        obtain ⟨hpx, hb2⟩ := putZ hw2
        have HWO2 := Lib.hid (HWK.out.below hb2)
        have HO2 := Lib.hid (HO.out.below hb2)
        have HBL2 := Lib.hid (HBL.out.trans (hb2.mono (Nat.le_trans HPW.out HBL.out.size)))
        have q3 : w2.cell? ⟨wr.heap.size, 3, none⟩ = some (.int .i64 s.upB) := hpx.cell 3 _ rfl
        have HRG := Lib.hid (Box.rangeS hpx)
        clear hw2 hpx hb2 HROW HWK HO HBL
        generalize wr.heap.size = q at *
        go_wp2_with (at_lookup; refine wpList_lookG rfl _ _ rfl _ _ rfl HWO2.out.mp s.upB rfl ?_)
        intro x1
        have HUI := Lib.hid (show upIn G s = (hasG G s.upB && s.upB != 0) from rfl)
        generalize hasG G s.upB = u at HUI ⊢
        go_wp2_with ((with_reducible refine wpList_load_k ?L6a 45 (.tmp 15) ?L6b q (0) ?L6c s.cells.toList _ HRG.out Tryz.underlying45 ?L6d ?L6e ?L6f); (case L6b => rfl); (case L6a => rfl); (case L6c => rfl); (case L6d => rfl); (case L6e => kernel_rfl))
        intro cv hcv
        have ecv : cv = s.cells := by rw [hcv.out]
        subst ecv
        clear hcv
        go_wp2_with fail
        rw [HF.out.run, Oper.upon_enter]
        refine (HF.out.tells s w2 HWO2.out.self).mono ?_
        rintro e w3 ⟨rfl, hb3⟩
        have HO3 := Lib.hid (HO2.out.below hb3)
        have HPW2 := Lib.hid (Nat.le_trans HPW.out HBL2.out.size)
        have HBL3 := Lib.hid (HBL2.out.trans (hb3.mono HPW2.out))
        have r3 : w3.cell? ⟨q, 3, none⟩ = some (.int .i64 s.upB) := below_heap hb3 q3
        have HRG3 := Lib.hid (show w3.rangeAt q 0 s.cells.toList from fun j v hv => below_heap hb3 (HRG.out j v hv))
        obtain ⟨r, hr⟩ : ∃ r, r = g s := ⟨_, rfl⟩
        rw [← hr]
        have HGS := Lib.hid hr.symm
        clear hr hb3 q3 HWO2 HO2 HBL2 HRG
        cases r
        rotate_left
        · have HGT := Lib.hid (show g s = true from HGS.out)
          have HNX := Lib.hid (show (l.take (k + 1)).filter (fun s => !g s && !upIn G s) = (l.take k).filter (fun s => !g s && !upIn G s) by rw [HST.out]; rw [if_neg (by rw [HGT.out]; simp)]; exact List.append_nil _)
          clear HST
          go_wp2_with fail
          go_roundg (n - (k + 1))
          case measure => have := HGI.out; have := HK.out; omega
          case rel => exact ⟨k + 1, by have := HGI.out; have := HK.out; omega, by go_num, by rw [HNX.out]; exact HO3.out, HBL3.out⟩
        cases u
        · have HUF := Lib.hid (show upIn G s = false by rw [HUI.out]; rfl)
          have HNX := Lib.hid (show (l.take (k + 1)).filter (fun s => !g s && !upIn G s) = (l.take k).filter (fun s => !g s && !upIn G s) ++ [s] by rw [HST.out]; rw [if_pos (by rw [HGS.out, HUF.out]; rfl)])
          clear HST
          generalize (l.take k).filter (fun s => !g s && !upIn G s) = L at HO3 HNX HLK
          go_wp2_with ((with_reducible refine wpList_load_k ?L7a 45 (.tmp 15) ?L7b q (0) ?L7c s.cells.toList _ HRG3.out Tryz.underlying45 ?L7d ?L7e ?L7f); (case L7b => rfl); (case L7a => rfl); (case L7c => rfl); (case L7d => rfl); (case L7e => kernel_rfl))
          intro cv hcv
          have ecv : cv = s.cells := by rw [hcv.out]
          subst ecv
          clear hcv
          go_wp2_with (refine wpList_buildSlice_s (op := ⟨some 95, _, _, _, _, _⟩) (by rfl) 28 1 #[(0, .tmp 94)] rfl #[(0, .agg s.cells)] (by kernel_rfl) _ _ (buildS s w3) ?_)
          intro w4 hw4
          have hb4 : Below w3.heap.size w3 w4 := by rw [hw4.out]; exact below_alloc _ _
          have HC4 := Lib.hid (show ∀ j u, s.cells.toList[j]? = some u → w4.cell? ((⟨w3.heap.size, 0, none⟩ : Addr).add j) = some u by rw [hw4.out]; exact newCells w3 s _)
          have HO4 := Lib.hid (HO3.out.below hb4)
          have HP3 := Lib.hid (show p + 3 ≤ w3.heap.size from Nat.le_trans HPW.out HBL3.out.size)
          have HBL4 := Lib.hid (HBL3.out.trans (hb4.mono HP3.out))
          have HP4 := Lib.hid (Nat.le_trans HP3.out hb4.size)
          clear hw4 hb4 HO3 HRG3
          go_wp2_with (at_builtin; refine appSes rfl _ _ rfl (p + 3) _ L rfl HO4.out ⟨w3.heap.size, 0, none⟩ 1 s rfl HC4.out HLK.out HP4.out ?_)
          intro v' w5 hown' hg' _
          have HBL5 := Lib.hid (HBL4.out.trans (below_grown hg' HP4.out (fun q hq => (HO4.out.lt q hq).1)))
          have HO5 := Lib.hid hown'
          clear hg' hown' HO4 HBL4 HC4
          go_wp2_with fail
          go_roundg (n - (k + 1))
          case measure => have := HGI.out; have := HK.out; omega
          case rel => exact ⟨k + 1, by have := HGI.out; have := HK.out; omega, by go_num, by rw [HNX.out]; exact HO5.out, HBL5.out⟩
        cases hz : (s.upB == 0)
        rotate_left
        · have hz2 : (s.upB != 0) = false := by rw [bne, hz]; rfl
          have HUF := Lib.hid (show upIn G s = false by rw [HUI.out, hz2]; rfl)
          have HNX := Lib.hid (show (l.take (k + 1)).filter (fun s => !g s && !upIn G s) = (l.take k).filter (fun s => !g s && !upIn G s) ++ [s] by rw [HST.out]; rw [if_pos (by rw [HGS.out, HUF.out]; rfl)])
          clear HST
          generalize (l.take k).filter (fun s => !g s && !upIn G s) = L at HO3 HNX HLK
          go_wp2_with ((with_reducible refine wpList_load_k ?L8a 45 (.tmp 15) ?L8b q (0) ?L8c s.cells.toList _ HRG3.out Tryz.underlying45 ?L8d ?L8e ?L8f); (case L8b => rfl); (case L8a => rfl); (case L8c => rfl); (case L8d => rfl); (case L8e => kernel_rfl))
          intro cv hcv
          have ecv : cv = s.cells := by rw [hcv.out]
          subst ecv
          clear hcv
          go_wp2_with (refine wpList_buildSlice_s (op := ⟨some 95, _, _, _, _, _⟩) (by rfl) 28 1 #[(0, .tmp 94)] rfl #[(0, .agg s.cells)] (by kernel_rfl) _ _ (buildS s w3) ?_)
          intro w4 hw4
          have hb4 : Below w3.heap.size w3 w4 := by rw [hw4.out]; exact below_alloc _ _
          have HC4 := Lib.hid (show ∀ j u, s.cells.toList[j]? = some u → w4.cell? ((⟨w3.heap.size, 0, none⟩ : Addr).add j) = some u by rw [hw4.out]; exact newCells w3 s _)
          have HO4 := Lib.hid (HO3.out.below hb4)
          have HP3 := Lib.hid (show p + 3 ≤ w3.heap.size from Nat.le_trans HPW.out HBL3.out.size)
          have HBL4 := Lib.hid (HBL3.out.trans (hb4.mono HP3.out))
          have HP4 := Lib.hid (Nat.le_trans HP3.out hb4.size)
          clear hw4 hb4 HO3 HRG3
          go_wp2_with (at_builtin; refine appSes rfl _ _ rfl (p + 3) _ L rfl HO4.out ⟨w3.heap.size, 0, none⟩ 1 s rfl HC4.out HLK.out HP4.out ?_)
          intro v' w5 hown' hg' _
          have HBL5 := Lib.hid (HBL4.out.trans (below_grown hg' HP4.out (fun q hq => (HO4.out.lt q hq).1)))
          have HO5 := Lib.hid hown'
          clear hg' hown' HO4 HBL4 HC4
          go_wp2_with fail
          go_roundg (n - (k + 1))
          case measure => have := HGI.out; have := HK.out; omega
          case rel => exact ⟨k + 1, by have := HGI.out; have := HK.out; omega, by go_num, by rw [HNX.out]; exact HO5.out, HBL5.out⟩
        have hz2 : (s.upB != 0) = true := by rw [bne, hz]; rfl
        have HUF := Lib.hid (show upIn G s = true by rw [HUI.out, hz2]; rfl)
        have HNX := Lib.hid (show (l.take (k + 1)).filter (fun s => !g s && !upIn G s) = (l.take k).filter (fun s => !g s && !upIn G s) by rw [HST.out]; rw [if_neg (by rw [HUF.out]; simp)]; exact List.append_nil _)
        clear HST
        go_wp2_with fail
        go_roundg (n - (k + 1))
        case measure => have := HGI.out; have := HK.out; omega
        case rel => exact ⟨k + 1, by have := HGI.out; have := HK.out; omega, by go_num, by rw [HNX.out]; exact HO3.out, HBL3.out⟩
      · have k1 : ¬ (k : Int) < (n : Int) := by omega
        have HOE := Lib.hid (show OwnS wr (p + 3) u13 (withoutM g l) by
          have h := HO.out
          rw [List.take_of_length_le (by have := HN.out; omega)] at h
          rw [HWM.out]; exact h)
        obtain ⟨oa, oc, rfl, _⟩ := HOE.out.slice
        have hx := HWK.out.bx
        have hz := HWK.out.bz
        have c0 : wr.cell? ⟨p, 0, none⟩ = some (.int .i64 c) := hx.cell 0 _ rfl
        have c1 : wr.cell? ⟨p, 1, none⟩ = some (.int .i64 b) := hx.cell 1 _ rfl
        have c2 : wr.cell? ⟨p, 2, none⟩ = some (.slice a n cap) := hx.cell 2 _ rfl
        have f2 := hx.free 2
        have d0 : wr.cell? ⟨p + 1, 0, none⟩ = some (.int .i64 0) := hz.cell 0 _ rfl
        have d1 : wr.cell? ⟨p + 1, 1, none⟩ = some (.int .i64 0) := hz.cell 1 _ rfl
        have d2 : wr.cell? ⟨p + 1, 2, none⟩ = some (.slice none 0 0) := hz.cell 2 _ rfl
        have g0 := hz.free 0
        have g1 := hz.free 1
        have g2 := hz.free 2
        have HX := Lib.hid hx
        have HZ := Lib.hid hz
        have HB := Lib.hid hb
        have HPP := Lib.hid (show p + 3 ≤ wr.heap.size by have := HWK.out.mp.lt; omega)
        clear hk hb hx hz HO HGI
        go_wp2_with fail
        have hmf : ∀ (W : World), Mod (fun q => q = p + 1 ∨ q = p) wr W → OwnS W w.heap.size (.slice oa (withoutM g l).length oc) (withoutM g l) ∧ Below w.heap.size w W := fun W hm => by
          have hp := HP.out
          refine ⟨(HOE.out.base (by omega)).mod hm (fun q hq e => ?_), HB.out.trans (hm.below HB.out.size (fun i hi => by omega))⟩
          have := (HOE.out.lt q hq).1
          omega
        have hset : ∀ (W : World) (q o : Nat) (v : Value), Mod (fun q => q = p + 1 ∨ q = p) wr W → (q = p + 1 ∨ q = p) → Mod (fun q => q = p + 1 ∨ q = p) wr (W.setCell ⟨q, o, none⟩ v) := fun W q o v h hq => h.trans (Mod.set _ _ _ _ hq)
        have hfin := hmf ((((wr.setCell ⟨p, 2, none⟩ (.slice oa (withoutM g l).length oc)).setCell ⟨p + 1, 0, none⟩ (.int .i64 c)).setCell ⟨p + 1, 1, none⟩ (.int .i64 b)).setCell ⟨p + 1, 2, none⟩ (.slice oa (withoutM g l).length oc)) (hset _ _ _ _ (hset _ _ _ _ (hset _ _ _ _ (hset _ _ _ _ (Mod.refl _ _) (.inr rfl)) (.inl rfl)) (.inl rfl)) (.inl rfl))
        refine ret_cell rfl rfl (p + 1) 0 rfl [.int .i64 c, .int .i64 b, .slice oa (withoutM g l).length oc] _ ?_ Tryz.underlying30 rfl (by kernel_rfl) ⟨_, rfl, hfin⟩
        have hb4 : Box ((((wr.setCell ⟨p, 2, none⟩ (.slice oa (withoutM g l).length oc)).setCell ⟨p + 1, 0, none⟩ (.int .i64 c)).setCell ⟨p + 1, 1, none⟩ (.int .i64 b)).setCell ⟨p + 1, 2, none⟩ (.slice oa (withoutM g l).length oc)) (p + 1) #[.int .i64 c, .int .i64 b, .slice oa (withoutM g l).length oc] 30 := by
          have h := (((HZ.out.set_other (p := ⟨p, 2, none⟩) (by simp) (.slice oa (withoutM g l).length oc)).set 0 (.int .i64 c)).set 1 (.int .i64 b)).set 2 (.slice oa (withoutM g l).length oc)
          exact h
        intro j v hv
        rw [Nat.zero_add]
        exact hb4.cell j v (by simpa using hv)
end Go.Proofs.YtgcnolapjppbpaaGreatDoor
