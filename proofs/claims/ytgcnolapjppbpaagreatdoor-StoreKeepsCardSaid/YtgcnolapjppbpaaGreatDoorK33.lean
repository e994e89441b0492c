/-
  Texts of one proof, one behind the other.
-/
import Derived.Test.YtgcnolapjppbpaaGreatDoorK31
namespace Go.Proofs.YtgcnolapjppbpaaGreatDoor
open Go.RowKit
set_option maxRecDepth 100000
def zSes : SesM := ⟨0, 0, 0, 0, 0, [], [], 0, 0, 0, 0, 0⟩
theorem zero_ses (w : World) : (zeroValue 45).run Tryz.prog w = .ok (.agg zSes.cells) w := by kernel_rfl
theorem findM_app (b : Int) : ∀ (m : List SesM) (x : SesM), findM b (m ++ [x]) = (findM b m).or (if x.birth = b then some x else none)
  | [], x => rfl
  | y :: m, x => by
    show (if y.birth = b then some y else findM b (m ++ [x])) = (if y.birth = b then some y else findM b m).or _
    split
    · rfl
    · exact findM_app b m x
theorem getM_find (k : Int) : ∀ m : List SesM, getM k (m.map (fun x => (x.birth, Value.agg x.cells))) = (findM k m).map (fun x => .agg x.cells)
  | [] => rfl
  | x :: m => by
    simp only [List.map_cons, getM, findM]
    split
    · rfl
    · exact getM_find k m
def IsK (w : World) (b : Nat) (m : List SesM) : Prop := ∃ es : List SesM, IsMap w b (es.map (fun x => (x.birth, Value.agg x.cells))) ∧ ∀ k, findM k es = findM k m
theorem IsK.mod {w w' : World} {b : Nat} {m : List SesM} {F : Nat → Prop} (h : IsK w b m) (hm : Mod F w w') (hb : ¬ F b) : IsK w' b m := by
  obtain ⟨es, h1, h2⟩ := h; exact ⟨es, h1.mod hm hb, h2⟩
theorem IsK.below {w w' : World} {b : Nat} {m : List SesM} (h : IsK w b m) (hb : Below w.heap.size w w') : IsK w' b m := by
  obtain ⟨es, h1, h2⟩ := h; exact ⟨es, h1.below hb, h2⟩
theorem IsK.lt {w : World} {b : Nat} {m : List SesM} (h : IsK w b m) : b < w.heap.size := by obtain ⟨_, h1, _⟩ := h; exact h1.lt
theorem IsK.new (w : World) : IsK (w.alloc (.map #[] 0)) w.heap.size [] := ⟨[], IsMap.new w, fun _ => rfl⟩
theorem IsK.same {w : World} {b : Nat} {m : List SesM} (h : IsK w b m) {x : SesM} (hx : (findM x.birth m).isSome = true) : IsK w b (m ++ [x]) := by
  obtain ⟨es, h1, h2⟩ := h
  refine ⟨es, h1, fun k => ?_⟩
  rw [h2, findM_app]
  by_cases hk : x.birth = k
  · subst hk
    cases e : findM x.birth m with
    | none => rw [e] at hx; cases hx
    | some y => rfl
  · rw [if_neg hk, Option.or_none]
structure LkR (k : Int) (l : List SesM) where
  y : SesM
  ok : Bool
  hy : Hid ((findM k l).getD zSes = y)
  hok : Hid ((findM k l).isSome = ok)
theorem wpList_lookK {w : World} {ops : Array Oper} {rest : List Oper} {o : Oper} {a : Act} {Q : Exit → Act → World → Prop} (hg : o.guard = none) (m x : Operand) (hop : o.op = Op.lookup 181 m x true)
    (b : Nat) (l : List SesM) (hm : a.eval m = .map (some b)) (h : IsK w b l) (k : Int) (hx : a.eval x = .int .i64 k)
    (hn : ∀ r : LkR k l, wpList Tryz.prog ops Q rest (a.put o.dst (.tuple #[.agg r.y.cells, .bool r.ok])) w) : wpList Tryz.prog ops Q (o :: rest) a w := by
  obtain ⟨es, h1, h2⟩ := h
  have e := getM_find k es
  rw [h2] at e
  refine wpList_look_i hg m x _ hop _ _ .i64 Tryz.underlying181 Tryz.underlying3 (.agg zSes.cells) (zero_ses w) b _ hm h1 k hx _ _ ?_ ?_ (hn ⟨_, _, Lib.hid rfl, Lib.hid rfl⟩)
  · show _ = Value.agg ((findM k l).getD zSes).cells
    rw [e]; cases findM k l <;> rfl
  · show _ = (findM k l).isSome
    rw [e]; cases findM k l <;> rfl
theorem wpList_putK {w : World} {ops : Array Oper} {rest : List Oper} {o : Oper} {a : Act} {Q : Exit → Act → World → Prop} (hg : o.guard = none) (m x y : Operand) (hop : o.op = Op.mapUpdate 181 m x y)
    (b : Nat) (l : List SesM) (hm : a.eval m = .map (some b)) (h : IsK w b l) (s : SesM) (hx : a.eval x = .int .i64 s.birth) (hk : (findM s.birth l).isSome = false)
    (hy : a.eval y = .agg s.cells) (hn : ∀ w', IsK w' b (l ++ [s]) → Mod (fun i => i = b) w w' → wpList Tryz.prog ops Q rest (a.put o.dst undef) w') : wpList Tryz.prog ops Q (o :: rest) a w := by
  obtain ⟨es, h1, h2⟩ := h
  have e := getM_find s.birth es
  rw [h2] at e
  have e0 : findM s.birth l = none := by
    cases h : findM s.birth l with
    | none => rfl
    | some v => rw [h] at hk; cases hk
  rw [e0] at e
  refine wpList_put_i hg m x y _ hop _ _ .i64 Tryz.underlying181 Tryz.underlying3 b _ hm h1 s.birth hx e _ hy (fun w' h3 h4 => hn w' ⟨es ++ [s], by simpa using h3, fun k => ?_⟩ h4)
  rw [findM_app, findM_app, h2]
structure RfS (w0 w : World) (p : Nat) (c b : Int) (v : Value) (s : SesM) (m : List SesM) : Prop where
  bx : Box w p #[.int .i64 c, .int .i64 b, v] 30
  bs : Box w (p + 1) s.cells 45
  mp : IsK w (p + 2) m
  bel : Below p w0 w
  e : p = w0.heap.size
theorem RfS.below {w0 w w' : World} {p : Nat} {c b : Int} {v : Value} {s : SesM} {m : List SesM} (h : RfS w0 w p c b v s m) (hb : Below w.heap.size w w') : RfS w0 w' p c b v s m :=
  ⟨h.bx.below hb, h.bs.below hb, h.mp.below hb, h.bel.trans (hb.mono (by have := h.bx.lt; omega)), h.e⟩
theorem RfS.put {w0 w w' : World} {p : Nat} {c b : Int} {v : Value} {s : SesM} {m m' : List SesM} (h : RfS w0 w p c b v s m) (hm : Mod (fun i => i = p + 2) w w') (hg : IsK w' (p + 2) m') : RfS w0 w' p c b v s m' :=
  ⟨h.bx.mod hm (by omega), h.bs.mod hm (by omega), hg, h.bel.trans (hm.below (by have := h.bx.lt; omega) (fun i hi => by omega)), h.e⟩
theorem RfS.self {w0 w : World} {p : Nat} {c b : Int} {v : Value} {s : SesM} {m : List SesM} (h : RfS w0 w p c b v s m) : Below w0.heap.size w0 w := by have := h.bel; rwa [h.e] at this
theorem any_slot {s : SesM} {l : List SesM} {k : Nat} {x : SesM} (hk : k < l.length) (hx : x = l[k]) : (l.take (k + 1)).any (fun y => y.slot == s.slot) = ((l.take k).any (fun y => y.slot == s.slot) || (x.slot == s.slot)) := by
  rw [any_take hk, hx]
set_option maxHeartbeats 12800000 in
theorem refused_calls (st : StM) (s : SesM) (v : Value) (w : World) (hv : RdS w v st.l) :
    Calls Tryz.prog 58 #[.agg #[.int .i64 st.clock, .int .i64 st.births, v], .agg s.cells] w fun e w' => e = .returned (errV (refM st s)) ∧ Below w.heap.size w w' := by
  obtain ⟨E, hE⟩ : ∃ E, E = refM st s := ⟨_, rfl⟩
  rw [← hE]
  unfold refM at hE
  obtain ⟨c, b, l⟩ := st
  simp only at hv hE ⊢
  obtain ⟨a, cap, rfl, hc1, hc2⟩ := hv.slice
  have HV := Lib.hid hv
  have hln : l.length ≤ 9223372036854775807 := by omega
  obtain ⟨n, hN⟩ : ∃ n, n = l.length := ⟨_, rfl⟩
  rw [← hN] at hln HV hc1 hE ⊢
  have HN := Lib.hid hN
  obtain ⟨W, hW⟩ : ∃ W, IntKind.i64.wrap (b + 1) = W := ⟨_, rfl⟩
  rw [hW] at hE
  have HE := Lib.hid hE
  have hmm := @run_makeMap Tryz.prog
  have HB2 := Lib.hid (below_two w (.cells #[.int .i64 c, .int .i64 b, .slice a n cap] 30) (.cells s.cells 45))
  have hx0 := (Box.new w #[.int .i64 c, .int .i64 b, .slice a n cap] 30).below (below_alloc _ (.cells s.cells 45))
  have hx1 := Box.new (w.alloc (.cells #[.int .i64 c, .int .i64 b, .slice a n cap] 30)) s.cells 45
  rw [World.size_alloc] at hx1
  have HX0 := Lib.hid hx0
  have HX1 := Lib.hid hx1
  clear hv hc1 hN hE hx0 hx1
  have HSC := Lib.hid s.cellsE
  rw [HSC.out] at HB2 HX0 HX1 ⊢
  go_enter Tryz.func58, Tryz.ntmps58
  by_cases h1 : s.birth = W
  rotate_left
  · have H1 := Lib.hid h1
    have n1 : (s.birth != W) = true := by rw [bne_iff_ne]; exact h1
    clear h1
    go_wp2_with fail
    go_ret
    exact ⟨by rw [HE.out, if_neg H1.out]; rfl, HB2.out⟩
  have n1 : (s.birth != W) = false := by rw [bne_eq_false_iff_eq]; exact h1
  have HE1 := Lib.hid (HE.out.trans (if_pos h1))
  clear h1 HE
  by_cases h2 : s.born = c
  rotate_left
  · have H2 := Lib.hid h2
    have n2 : (s.born != c) = true := by rw [bne_iff_ne]; exact h2
    clear h2
    go_wp2_with fail
    go_ret
    exact ⟨by rw [HE1.out, if_neg H2.out]; rfl, HB2.out⟩
  have n2 : (s.born != c) = false := by rw [bne_eq_false_iff_eq]; exact h2
  have HE2 := Lib.hid (HE1.out.trans (if_pos h2))
  clear h2 HE1
  by_cases h3 : 32 ≤ n
  · have H3 := Lib.hid h3
    have n3 : (32 : Int) ≤ (n : Int) := by omega
    clear h3
    go_wp2_with fail
    go_ret
    exact ⟨by rw [HE2.out, if_pos H3.out]; rfl, HB2.out⟩
  have n3 : ¬ (32 : Int) ≤ (n : Int) := by omega
  have HE3 := Lib.hid (HE2.out.trans (if_neg h3))
  clear h3 HE2
  go_wp2_with fail
  clear n1 n2 n3 hW
  have hr0 : RfS w (((w.alloc (.cells #[.int .i64 c, .int .i64 b, .slice a n cap] 30)).alloc (.cells #[.int .i64 s.slot, .int .i64 s.birth, .int .i64 s.upS, .int .i64 s.upB, .int .i64 s.kind, .string (SB s.user), .string (SB s.label), .int .u64 (s.scopes : Int), .int .i64 s.level, .int .i64 s.born, .int .i64 s.deadline, .int .i64 s.depth] 45)).alloc (.map #[] 0)) w.heap.size c b (.slice a n cap) s [] := by
    have h3 := IsK.new ((w.alloc (.cells #[.int .i64 c, .int .i64 b, .slice a n cap] 30)).alloc (.cells #[.int .i64 s.slot, .int .i64 s.birth, .int .i64 s.upS, .int .i64 s.upB, .int .i64 s.kind, .string (SB s.user), .string (SB s.label), .int .u64 (s.scopes : Int), .int .i64 s.level, .int .i64 s.born, .int .i64 s.deadline, .int .i64 s.depth] 45))
    rw [World.size_alloc, World.size_alloc] at h3
    exact ⟨HX0.out.below (below_alloc _ _), by rw [HSC.out]; exact HX1.out.below (below_alloc _ _), h3, HB2.out.trans ((below_alloc _ _).mono HB2.out.size), rfl⟩
  have HR0 := Lib.hid hr0
  clear hr0 HX0 HX1 HB2 HSC
  generalize ((w.alloc _).alloc _).alloc _ = wi at HR0 ⊢
  obtain ⟨p, hp⟩ : ∃ p, p = w.heap.size := ⟨_, rfl⟩
  rw [← hp] at HR0 ⊢
  clear hp hmm
  go_loopg [38] n (fun gk iv wr => ∃ k : Nat, gk + k = n ∧ iv = .int .i64 (k : Int) ∧ RfS w wr p c b (.slice a n cap) s (l.take k) ∧ Hid ((l.take k).any (fun y => y.slot == s.slot) = false))
  case atStart => exact ⟨0, rfl, rfl, HR0.out, Lib.hid rfl⟩
  case round =>
    clear HR0
    obtain ⟨k, hgk, rfl, hrf, HAN⟩ := hrel
    have k0 : (0 : Int) ≤ (k : Int) := by omega
    have HGK := Lib.hid hgk
    have HRF := Lib.hid hrf
    have hb := hrf.self
    clear hgk hrf
    by_cases hk : k < n
    · have k1 : (k : Int) < (n : Int) := by omega
      have hkl : k < l.length := by have := HN.out; omega
      obtain ⟨x, hx⟩ : ∃ x, x = l[k] := ⟨_, rfl⟩
      obtain ⟨rb, ro, hra, hrow⟩ := (HV.out.below hb).row k hkl
      subst hra
      rw [← hx] at hrow
      have HROW := Lib.hid hrow
      have HST := Lib.hid (any_slot (s := s) hkl hx)
      have HTK := Lib.hid (show l.take (k + 1) = l.take k ++ [x] by rw [List.take_succ_eq_append_getElem hkl, hx])
      have HSA := Lib.hid (show (x.slot == s.slot) = true → l.any (fun y => y.slot == s.slot) = true from fun h => by rw [List.any_eq_true]; exact ⟨x, by rw [hx]; exact List.getElem_mem _, h⟩)
      have HK := Lib.hid hk
      clear hrow hx hk hb hkl
      go_wp2_with ((with_reducible refine wpList_load_k ?L1a 45 (.tmp 40) ?L1b rb (ro + k * 12) ?L1c x.cells.toList _ HROW.out Tryz.underlying45 ?L1d ?L1e ?L1f); (case L1b => rfl); (case L1a => rfl); (case L1c => rfl); (case L1d => rfl); (case L1e => kernel_rfl))
      intro cv hcv
      have ecv : cv = x.cells := by rw [hcv.out]
      subst ecv
      clear hcv
      go_wp2_with ((with_reducible refine wpList_store_k ?S2a 45 (.tmp 7) (.tmp 41) ?S2b wr.heap.size 0 x.cells.toList ?S2c x.cells ?S2d (SesM.listS _) ?S2e ?S2f ?S2g ?S2h); (case S2b => rfl); (case S2a => rfl); (case S2c => rfl); (case S2d => rfl); (case S2e => exact thereZ _ _); (case S2f => kernel_rfl); (case S2g => exact SesM.oneS _))
      intro w2 hw2
      obtain ⟨hpx, hb2⟩ := putZ hw2
      have HR2 := Lib.hid (HRF.out.below hb2)
      have HPX := Lib.hid hpx
      have q0 : w2.cell? ⟨wr.heap.size, 0, none⟩ = some (.int .i64 x.slot) := hpx.cell 0 _ rfl
      have q1 : w2.cell? ⟨wr.heap.size, 1, none⟩ = some (.int .i64 x.birth) := hpx.cell 1 _ rfl
      have s0 : w2.cell? ⟨p + 1, 0, none⟩ = some (.int .i64 s.slot) := HR2.out.bs.cell 0 _ rfl
      clear hw2 hpx hb2 HROW HRF
      generalize wr.heap.size = q at *
      cases hsl : (x.slot == s.slot)
      rotate_left
      · have HT := Lib.hid (HSA.out hsl)
        clear HST HSA HTK
        go_wp2_with fail
        go_ret
        exact ⟨by rw [HE3.out, if_pos HT.out]; rfl, HR2.out.self⟩
      have HA2 := Lib.hid (show (l.take (k + 1)).any (fun y => y.slot == s.slot) = false by rw [HST.out, HAN.out, hsl]; rfl)
      clear HST HSA HAN
      go_wp2_with (at_lookup; refine wpList_lookK rfl _ _ rfl _ _ rfl HR2.out.mp x.birth rfl ?_)
      intro lr
      obtain ⟨y, ok, _, HOK⟩ := lr
      simp only
      go_wp2_with ((with_reducible refine wpList_store_k ?S3a 45 (.tmp 8) (.tmp 53) ?S3b w2.heap.size 0 y.cells.toList ?S3c y.cells ?S3d (SesM.listS _) ?S3e ?S3f ?S3g ?S3h); (case S3b => rfl); (case S3a => rfl); (case S3c => rfl); (case S3d => rfl); (case S3e => exact thereZ _ _); (case S3f => kernel_rfl); (case S3g => exact SesM.oneS _))
      intro w3 hw3
      obtain ⟨hpy, hb3⟩ := putZ hw3
      have HR3 := Lib.hid (HR2.out.below hb3)
      have HPX3 := Lib.hid (HPX.out.below hb3)
      have HRG := Lib.hid (Box.rangeS HPX3.out)
      have r1 : w3.cell? ⟨q, 1, none⟩ = some (.int .i64 x.birth) := HPX3.out.cell 1 _ rfl
      clear hw3 hpy hb3 HR2 HPX q0 q1 s0
      generalize w2.heap.size = q2 at *
      cases ok
      rotate_left
      · have HRN := Lib.hid (show IsK w3 (p + 2) (l.take (k + 1)) by rw [HTK.out]; exact HR3.out.mp.same HOK.out)
        have HRF := Lib.hid (show RfS w w3 p c b (.slice (some ⟨rb, ro, none⟩) n cap) s (l.take (k + 1)) from ⟨HR3.out.bx, HR3.out.bs, HRN.out, HR3.out.bel, HR3.out.e⟩)
        clear HRN HR3 HTK HOK
        go_wp2_with fail
        go_roundg (n - (k + 1))
        case measure => have := HGK.out; have := HK.out; omega
        case rel => exact ⟨k + 1, by have := HGK.out; have := HK.out; omega, by go_num, HRF.out, HA2⟩
      go_wp2_with ((with_reducible refine wpList_load_k ?L4a 45 (.tmp 7) ?L4b q (0) ?L4c x.cells.toList _ HRG.out Tryz.underlying45 ?L4d ?L4e ?L4f); (case L4b => rfl); (case L4a => rfl); (case L4c => rfl); (case L4d => rfl); (case L4e => kernel_rfl))
      intro cv hcv
      have ecv : cv = x.cells := by rw [hcv.out]
      subst ecv
      clear hcv
      go_wp2_with (at_mapUpdate; refine wpList_putK rfl _ _ _ rfl _ _ rfl HR3.out.mp x rfl HOK.out rfl ?_)
      intro w4 hg4 hm4
      have HRF := Lib.hid (show RfS w w4 p c b (.slice (some ⟨rb, ro, none⟩) n cap) s (l.take (k + 1)) by rw [HTK.out]; exact HR3.out.put hm4 hg4)
      clear hg4 hm4 HR3 HTK HOK
      go_wp2_with fail
      go_roundg (n - (k + 1))
      case measure => have := HGK.out; have := HK.out; omega
      case rel => exact ⟨k + 1, by have := HGK.out; have := HK.out; omega, by go_num, HRF.out, HA2⟩
    · have k1 : ¬ (k : Int) < (n : Int) := by omega
      have hlt : l.take k = l := List.take_of_length_le (by have := HN.out; omega)
      have HRL := Lib.hid (show RfS w wr p c b (.slice a n cap) s l by have h := HRF.out; rwa [hlt] at h)
      have HE4 := Lib.hid (show E = upM s l by
        have h := HAN.out
        rw [hlt] at h
        rw [HE3.out, if_neg (by rw [h]; decide)])
      have s3 : wr.cell? ⟨p + 1, 3, none⟩ = some (.int .i64 s.upB) := HRL.out.bs.cell 3 _ rfl
      clear hk hb hlt HRF HAN HE3 HGK
      cases h0 : (s.upB == 0)
      rotate_left
      · have H0 := Lib.hid (show s.upB = 0 from beq_iff_eq.1 h0)
        go_wp2_with fail
        go_ret
        exact ⟨by rw [HE4.out]; unfold upM; rw [if_pos H0.out]; rfl, HRL.out.self⟩
      have HE5 := Lib.hid (show E = (match findM s.upB l with | none => 16 | some p => if p.slot = s.upS then (if fitsM s p = true then 0 else 24) else 16) by
        rw [HE4.out]; unfold upM; rw [if_neg (fun e => by rw [e] at h0; cases h0)]; rfl)
      clear HE4
      go_wp2_with (at_lookup; refine wpList_lookK rfl _ _ rfl _ _ rfl HRL.out.mp s.upB rfl ?_)
      intro lr
      obtain ⟨y, ok, hy, hok⟩ := lr
      simp only
      clear s3 h0
      cases hf : findM s.upB l with
      | none =>
        rw [hf] at HE5 hok
        have HE6 := HE5
        obtain rfl : false = ok := hok.out
        clear hy hf HE5 hok
        go_wp2_with ((with_reducible refine wpList_store_k ?S5a 45 (.tmp 10) (.tmp 72) ?S5b wr.heap.size 0 y.cells.toList ?S5c y.cells ?S5d (SesM.listS _) ?S5e ?S5f ?S5g ?S5h); (case S5b => rfl); (case S5a => rfl); (case S5c => rfl); (case S5d => rfl); (case S5e => exact thereZ _ _); (case S5f => kernel_rfl); (case S5g => exact SesM.oneS _))
        intro w3 hw3
        obtain ⟨hpy, hb3⟩ := putZ hw3
        have HR3 := Lib.hid (HRL.out.below hb3)
        clear hw3 hpy hb3 HRL
        go_wp2_with fail
        go_ret
        exact ⟨by rw [HE6.out]; rfl, HR3.out.self⟩
      | some y2 =>
        rw [hf] at HE5 hok hy
        obtain rfl : true = ok := hok.out
        obtain rfl : y2 = y := hy.out
        have HE6 := Lib.hid (show E = (if y2.slot = s.upS then (if fitsM s y2 = true then 0 else 24) else 16) from HE5.out)
        clear hf HE5 hok hy
        obtain ⟨y, hyy⟩ : ∃ y, y = y2 := ⟨_, rfl⟩
        rw [← hyy] at HE6 ⊢
        clear hyy
        go_wp2_with ((with_reducible refine wpList_store_k ?S6a 45 (.tmp 10) (.tmp 72) ?S6b wr.heap.size 0 y.cells.toList ?S6c y.cells ?S6d (SesM.listS _) ?S6e ?S6f ?S6g ?S6h); (case S6b => rfl); (case S6a => rfl); (case S6c => rfl); (case S6d => rfl); (case S6e => exact thereZ _ _); (case S6f => kernel_rfl); (case S6g => exact SesM.oneS _))
        intro w3 hw3
        obtain ⟨hpy, hb3⟩ := putZ hw3
        have HR3 := Lib.hid (HRL.out.below hb3)
        have y0 : w3.cell? ⟨wr.heap.size, 0, none⟩ = some (.int .i64 y.slot) := hpy.cell 0 _ rfl
        have y5 : w3.cell? ⟨wr.heap.size, 5, none⟩ = some (.string (SB y.user)) := hpy.cell 5 _ rfl
        have y7 : w3.cell? ⟨wr.heap.size, 7, none⟩ = some (.int .u64 (y.scopes : Int)) := hpy.cell 7 _ rfl
        have y8 : w3.cell? ⟨wr.heap.size, 8, none⟩ = some (.int .i64 y.level) := hpy.cell 8 _ rfl
        have y10 : w3.cell? ⟨wr.heap.size, 10, none⟩ = some (.int .i64 y.deadline) := hpy.cell 10 _ rfl
        have y11 : w3.cell? ⟨wr.heap.size, 11, none⟩ = some (.int .i64 y.depth) := hpy.cell 11 _ rfl
        have s2 : w3.cell? ⟨p + 1, 2, none⟩ = some (.int .i64 s.upS) := HR3.out.bs.cell 2 _ rfl
        have s4 : w3.cell? ⟨p + 1, 4, none⟩ = some (.int .i64 s.kind) := HR3.out.bs.cell 4 _ rfl
        have s5 : w3.cell? ⟨p + 1, 5, none⟩ = some (.string (SB s.user)) := HR3.out.bs.cell 5 _ rfl
        have s7 : w3.cell? ⟨p + 1, 7, none⟩ = some (.int .u64 (s.scopes : Int)) := HR3.out.bs.cell 7 _ rfl
        have s8 : w3.cell? ⟨p + 1, 8, none⟩ = some (.int .i64 s.level) := HR3.out.bs.cell 8 _ rfl
        have s10 : w3.cell? ⟨p + 1, 10, none⟩ = some (.int .i64 s.deadline) := HR3.out.bs.cell 10 _ rfl
        have s11 : w3.cell? ⟨p + 1, 11, none⟩ = some (.int .i64 s.depth) := HR3.out.bs.cell 11 _ rfl
        clear hw3 hpy hb3 HRL
        generalize wr.heap.size = q at *
        by_cases h1 : y.slot = s.upS
        rotate_left
        · have H1 := Lib.hid h1
          have n1 : (y.slot != s.upS) = true := by rw [bne_iff_ne]; exact h1
          clear h1
          go_wp2_with fail
          go_ret
          exact ⟨by rw [HE6.out, if_neg H1.out]; rfl, HR3.out.self⟩
        have n1 : (y.slot != s.upS) = false := by rw [bne_eq_false_iff_eq]; exact h1
        have HE7 := Lib.hid (HE6.out.trans (if_pos h1))
        clear h1 HE6
        obtain ⟨D, hD⟩ : ∃ D, IntKind.i64.wrap (y.depth + 1) = D := ⟨_, rfl⟩
        obtain ⟨lv, hlv⟩ : ∃ lv, lv = (if s.kind = 2 then decide (y.level < s.level) else s.level == y.level) := ⟨_, rfl⟩
        have HFT := Lib.hid (show fitsM s y = ((s.depth == D) && ((s.user == y.user) && (scIn s.scopes y.scopes && (decide (s.deadline ≤ y.deadline) && lv)))) by unfold fitsM; rw [hD, hlv])
        have HWI := Lib.hid (fun w => within_calls s.scopes y.scopes w)
        generalize fitsM s y = ft at HE7 HFT
        cases hk2 : (s.kind == 2)
        · have HK2 := Lib.hid (show ¬ s.kind = 2 from fun e => by rw [e] at hk2; cases hk2)
          rw [if_neg HK2.out] at hlv
          cases hle : (s.level == y.level)
          · have HLV := Lib.hid (show lv = false by rw [hlv, hle])
            clear hlv
            cases h2 : (s.depth == D)
            · have h2' : (s.depth != D) = true := by rw [bne, h2]; rfl
              go_wp2_with fail
              go_ret
              exact ⟨by rw [HE7.out, HFT.out, h2]; rfl, HR3.out.self⟩
            have h2' : (s.depth != D) = false := by rw [bne, h2]; rfl
            cases h3 : (s.user == y.user)
            · have h3' : ((SB s.user).toList == (SB y.user).toList) = false := by rw [SB_toList, SB_toList]; exact h3
              have h3'' : ((SB s.user).toList != (SB y.user).toList) = true := by rw [bne, h3']; rfl
              go_wp2_with fail
              go_ret
              exact ⟨by rw [HE7.out, HFT.out, h2, h3]; rfl, HR3.out.self⟩
            have h3' : ((SB s.user).toList == (SB y.user).toList) = true := by rw [SB_toList, SB_toList]; exact h3
            have h3'' : ((SB s.user).toList != (SB y.user).toList) = false := by rw [bne, h3']; rfl
            go_wp2_with fail
            refine (HWI.out _).mono ?_
            rintro e w4 ⟨rfl, rfl⟩
            have H23 := Lib.hid (And.intro h2 h3)
            clear h2 h3 HWI
            generalize scIn s.scopes y.scopes = sc at HFT ⊢
            cases sc
            · go_wp2_with fail
              go_ret
              exact ⟨by rw [HE7.out, HFT.out, H23.out.1, H23.out.2]; rfl, HR3.out.self⟩
            by_cases h4 : s.deadline ≤ y.deadline
            rotate_left
            · have n4 : y.deadline < s.deadline := by omega
              have H4 := Lib.hid (decide_eq_false h4)
              clear h4
              go_wp2_with fail
              go_ret
              exact ⟨by rw [HE7.out, HFT.out, H23.out.1, H23.out.2, H4.out]; rfl, HR3.out.self⟩
            have n4 : ¬ y.deadline < s.deadline := by omega
            have H4 := Lib.hid (decide_eq_true h4)
            clear h4
            go_wp2_with fail
            go_ret
            exact ⟨by rw [HE7.out, HFT.out, H23.out.1, H23.out.2, H4.out, HLV.out]; rfl, HR3.out.self⟩
          have HLV := Lib.hid (show lv = true by rw [hlv, hle])
          clear hlv
          cases h2 : (s.depth == D)
          · have h2' : (s.depth != D) = true := by rw [bne, h2]; rfl
            go_wp2_with fail
            go_ret
            exact ⟨by rw [HE7.out, HFT.out, h2]; rfl, HR3.out.self⟩
          have h2' : (s.depth != D) = false := by rw [bne, h2]; rfl
          cases h3 : (s.user == y.user)
          · have h3' : ((SB s.user).toList == (SB y.user).toList) = false := by rw [SB_toList, SB_toList]; exact h3
            have h3'' : ((SB s.user).toList != (SB y.user).toList) = true := by rw [bne, h3']; rfl
            go_wp2_with fail
            go_ret
            exact ⟨by rw [HE7.out, HFT.out, h2, h3]; rfl, HR3.out.self⟩
          have h3' : ((SB s.user).toList == (SB y.user).toList) = true := by rw [SB_toList, SB_toList]; exact h3
          have h3'' : ((SB s.user).toList != (SB y.user).toList) = false := by rw [bne, h3']; rfl
          go_wp2_with fail
          refine (HWI.out _).mono ?_
          rintro e w4 ⟨rfl, rfl⟩
          have H23 := Lib.hid (And.intro h2 h3)
          clear h2 h3 HWI
          generalize scIn s.scopes y.scopes = sc at HFT ⊢
          cases sc
          · go_wp2_with fail
            go_ret
            exact ⟨by rw [HE7.out, HFT.out, H23.out.1, H23.out.2]; rfl, HR3.out.self⟩
          by_cases h4 : s.deadline ≤ y.deadline
          rotate_left
          · have n4 : y.deadline < s.deadline := by omega
            have H4 := Lib.hid (decide_eq_false h4)
            clear h4
            go_wp2_with fail
            go_ret
            exact ⟨by rw [HE7.out, HFT.out, H23.out.1, H23.out.2, H4.out]; rfl, HR3.out.self⟩
          have n4 : ¬ y.deadline < s.deadline := by omega
          have H4 := Lib.hid (decide_eq_true h4)
          clear h4
          go_wp2_with fail
          go_ret
          exact ⟨by rw [HE7.out, HFT.out, H23.out.1, H23.out.2, H4.out, HLV.out]; rfl, HR3.out.self⟩
        have HK2 := Lib.hid (show s.kind = 2 from beq_iff_eq.1 hk2)
        rw [if_pos HK2.out] at hlv
        by_cases hlt : y.level < s.level
        rotate_left
        · have HLV := Lib.hid (show lv = false by rw [hlv, decide_eq_false hlt])
          clear hlv
          cases h2 : (s.depth == D)
          · have h2' : (s.depth != D) = true := by rw [bne, h2]; rfl
            go_wp2_with fail
            go_ret
            exact ⟨by rw [HE7.out, HFT.out, h2]; rfl, HR3.out.self⟩
          have h2' : (s.depth != D) = false := by rw [bne, h2]; rfl
          cases h3 : (s.user == y.user)
          · have h3' : ((SB s.user).toList == (SB y.user).toList) = false := by rw [SB_toList, SB_toList]; exact h3
            have h3'' : ((SB s.user).toList != (SB y.user).toList) = true := by rw [bne, h3']; rfl
            go_wp2_with fail
            go_ret
            exact ⟨by rw [HE7.out, HFT.out, h2, h3]; rfl, HR3.out.self⟩
          have h3' : ((SB s.user).toList == (SB y.user).toList) = true := by rw [SB_toList, SB_toList]; exact h3
          have h3'' : ((SB s.user).toList != (SB y.user).toList) = false := by rw [bne, h3']; rfl
          go_wp2_with fail
          refine (HWI.out _).mono ?_
          rintro e w4 ⟨rfl, rfl⟩
          have H23 := Lib.hid (And.intro h2 h3)
          clear h2 h3 HWI
          generalize scIn s.scopes y.scopes = sc at HFT ⊢
          cases sc
          · go_wp2_with fail
            go_ret
            exact ⟨by rw [HE7.out, HFT.out, H23.out.1, H23.out.2]; rfl, HR3.out.self⟩
          by_cases h4 : s.deadline ≤ y.deadline
          rotate_left
          · have n4 : y.deadline < s.deadline := by omega
            have H4 := Lib.hid (decide_eq_false h4)
            clear h4
            go_wp2_with fail
            go_ret
            exact ⟨by rw [HE7.out, HFT.out, H23.out.1, H23.out.2, H4.out]; rfl, HR3.out.self⟩
          have n4 : ¬ y.deadline < s.deadline := by omega
          have H4 := Lib.hid (decide_eq_true h4)
          clear h4
          go_wp2_with fail
          go_ret
          exact ⟨by rw [HE7.out, HFT.out, H23.out.1, H23.out.2, H4.out, HLV.out]; rfl, HR3.out.self⟩
        have HLV := Lib.hid (show lv = true by rw [hlv, decide_eq_true hlt])
        clear hlv
        cases h2 : (s.depth == D)
        · have h2' : (s.depth != D) = true := by rw [bne, h2]; rfl
          go_wp2_with fail
          go_ret
          exact ⟨by rw [HE7.out, HFT.out, h2]; rfl, HR3.out.self⟩
        have h2' : (s.depth != D) = false := by rw [bne, h2]; rfl
        cases h3 : (s.user == y.user)
        · have h3' : ((SB s.user).toList == (SB y.user).toList) = false := by rw [SB_toList, SB_toList]; exact h3
          have h3'' : ((SB s.user).toList != (SB y.user).toList) = true := by rw [bne, h3']; rfl
          go_wp2_with fail
          go_ret
          exact ⟨by rw [HE7.out, HFT.out, h2, h3]; rfl, HR3.out.self⟩
        have h3' : ((SB s.user).toList == (SB y.user).toList) = true := by rw [SB_toList, SB_toList]; exact h3
        have h3'' : ((SB s.user).toList != (SB y.user).toList) = false := by rw [bne, h3']; rfl
        go_wp2_with fail
        refine (HWI.out _).mono ?_
        rintro e w4 ⟨rfl, rfl⟩
        have H23 := Lib.hid (And.intro h2 h3)
        clear h2 h3 HWI
        generalize scIn s.scopes y.scopes = sc at HFT ⊢
        cases sc
        · go_wp2_with fail
          go_ret
          exact ⟨by rw [HE7.out, HFT.out, H23.out.1, H23.out.2]; rfl, HR3.out.self⟩
        by_cases h4 : s.deadline ≤ y.deadline
        rotate_left
        · have n4 : y.deadline < s.deadline := by omega
          have H4 := Lib.hid (decide_eq_false h4)
          clear h4
          go_wp2_with fail
          go_ret
          exact ⟨by rw [HE7.out, HFT.out, H23.out.1, H23.out.2, H4.out]; rfl, HR3.out.self⟩
        have n4 : ¬ y.deadline < s.deadline := by omega
        have H4 := Lib.hid (decide_eq_true h4)
        clear h4
        go_wp2_with fail
        go_ret
        exact ⟨by rw [HE7.out, HFT.out, H23.out.1, H23.out.2, H4.out, HLV.out]; rfl, HR3.out.self⟩
end Go.Proofs.YtgcnolapjppbpaaGreatDoor
