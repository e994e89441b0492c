/-
  The document's Taken: a text; numbers, ints, texts one behind the other.
-/
import Derived.Test.YtdaimaibnjkfbaaGreatDoorRefNum
import Derived.Test.YtdaimaibnjkfbaaGreatDoorTkInts
namespace Go.Proofs.YtdaimaibnjkfbaaGreatDoor
open Go.RowKit
set_option maxRecDepth 100000

set_option maxHeartbeats 1600000 in
theorem refTaken_calls (v : Value) (l : List UInt8) (w : World) (h : Rd w v l.length (l.map V8)) (hsm : l.length ≤ 1000000000000) :
    Calls Tryz.prog 62 #[v, .int .i64 32] w fun e w' => e = .returned (.tuple #[.string (SB (textR l).2.1), .int .i64 ((textR l).2.2 : Int), .int .i64 (textR l).1]) ∧ w' = w := by
  have Hc := Lib.hid (refNum_calls v l w h hsm)
  obtain ⟨R, hR⟩ : ∃ R, R = textR l := ⟨_, rfl⟩
  rw [← hR]
  unfold textR at hR
  have hus := numR_used l
  generalize numR l = N at Hc hR hus
  obtain ⟨er, n, u⟩ := N
  simp only at Hc hR hus
  have hrd := h
  obtain ⟨a, cap, rfl, h1, h2, h3, _⟩ := hrd
  have HRD := Lib.hid h
  clear h h3
  go_enter Tryz.func62, Tryz.ntmps62
  go_wp2_with fail
  refine Hc.out.mono ?_
  rintro e w1 ⟨rfl, rfl⟩
  by_cases he : er = 0
  rotate_left
  · have HN := Lib.hid (show R = (er, [], 0) by rw [hR, if_neg he])
    have g1 : (er != 0) = true := by simp [he]
    clear hR hus he
    go_wp2_with fail
    go_ret3
    rw [HN.out]; exact ⟨rfl, rfl⟩
  · have hu := hus he
    rw [if_pos he] at hR
    subst he
    by_cases hb : 32 < n
    · have HN := Lib.hid (show R = (3, [], 0) by rw [hR, if_pos hb])
      have g1 : (32 : Int) < (n : Int) := by omega
      clear hR hus hb hu
      go_wp2_with fail
      go_ret3
      rw [HN.out]; exact ⟨rfl, rfl⟩
    · rw [if_neg hb] at hR
      obtain ⟨d, hd⟩ : ∃ d, d = l.length - u := ⟨_, rfl⟩
      have g1 : ¬ (32 : Int) < (n : Int) := by omega
      have zd : IntKind.i64.wrap ((l.length : Int) - (u : Int)) = (d : Int) := by simp [IntKind.wrap, IntKind.bits, IntKind.signed]; omega
      have zd2 : IntKind.u64.wrap (d : Int) = (d : Int) := wrap_u64n d (by omega)
      have zd3 : (l.length : Int) - (u : Int) = (d : Int) := by omega
      rw [← hd] at hR
      by_cases hs : d < n
      · have HN := Lib.hid (show R = (2, [], 0) by rw [hR, if_pos hs])
        have g2 : (d : Int) < (n : Int) := by omega
        clear hR hus hb hs hu hd
        go_wp2_with fail
        go_ret3
        rw [HN.out]; exact ⟨rfl, rfl⟩
      · obtain ⟨q, hq⟩ : ∃ q, q = u + n := ⟨_, rfl⟩
        obtain ⟨T, hT⟩ : ∃ T, T = (l.drop u).take n := ⟨_, rfl⟩
        have HN := Lib.hid (show R = (0, T, q) by rw [hR, if_neg hs, hT, hq])
        have g2 : ¬ (d : Int) < (n : Int) := by omega
        have zn : IntKind.i64.wrap (n : Int) = (n : Int) := by simp [IntKind.wrap, IntKind.bits, IntKind.signed]; omega
        have zs : IntKind.i64.wrap ((u : Int) + (n : Int)) = (q : Int) := by simp [IntKind.wrap, IntKind.bits, IntKind.signed]; omega
        have zs2 : (u : Int) + (n : Int) = (q : Int) := by omega
        obtain ⟨tv, htv⟩ : ∃ tv, tv = tailV a q cap u := ⟨_, rfl⟩
        have hsl : ∀ w, (Instr.slice 22 (.slice a l.length cap) (some (.int .i64 (u : Int))) (some (.int .i64 (q : Int))) none).run Tryz.prog w = .ok tv w := fun w => by rw [htv]; exact run_cutB a _ cap u q (by omega) (by omega) w
        have hcv : (convert 22 9 tv).run Tryz.prog w1 = .ok (.string (SB T)) w1 := by
          have h5 := cutRd HRD.out (show u ≤ q by omega) (by omega)
          rw [show q - u = n by omega, ← htv, ← hT] at h5
          exact convS T h5 (by rw [hT, List.length_take, List.length_drop]; omega)
        clear hR hus hb hs hu hd hq hT htv
        go_wp2_with fail
        go_ret3
        rw [HN.out]; exact ⟨rfl, rfl⟩
/-- The document's taker. -/
structure IsK (w : World) (t : Nat) (v : Value) (s : TkM) : Prop where
  box : Box w t #[v, .int .i64 s.er, .bool s.big] 53
  rd : Rd w v s.rest.length (s.rest.map V8)
  ne : v.ownBlock ≠ some t
  sm : s.rest.length ≤ 1000000000000
theorem IsK.mod {w w' : World} {t : Nat} {v : Value} {s : TkM} {F : Nat → Prop} (h : IsK w t v s) (hm : Mod F w w') (h1 : ¬ F t) (h2 : ∀ b, v.ownBlock = some b → ¬ F b) : IsK w' t v s :=
  ⟨h.box.mod hm h1, h.rd.keep (fun b hb hl => hm.block b hl (h2 b hb)), h.ne, h.sm⟩
theorem IsK.below {w w' : World} {t : Nat} {v : Value} {s : TkM} (h : IsK w t v s) (hb : Below w.heap.size w w') : IsK w' t v s := h.mod (Mod.of_below (F := fun _ => False) hb) (fun h => h) (fun _ _ h => h)
theorem tailV_own (a : Option Addr) (n cap k : Nat) : (tailV a n cap k).ownBlock = (Value.slice a n cap).ownBlock := by
  unfold tailV
  by_cases hc : cap = k
  · rw [if_pos hc]; cases a <;> rfl
  · rw [if_neg hc]; cases a with
    | none => rfl
    | some a => simp only [Value.ownBlock, Option.map]; unfold Addr.add; split <;> rfl
theorem textR_used (l : List UInt8) (h : (textR l).1 = 0) : (textR l).2.2 ≤ l.length := by
  unfold textR at h ⊢
  by_cases h0 : (numR l).1 = 0
  · have hu := numR_used l h0
    rw [if_pos h0] at h ⊢
    split at h
    · exact absurd h (by decide)
    · rename_i h32
      rw [if_neg h32]
      split at h
      · exact absurd h (by decide)
      · rename_i hs
        rw [if_neg hs]
        show (numR l).2.2 + (numR l).2.1 ≤ l.length
        omega
  · rw [if_neg h0] at h; exact absurd h h0
set_option maxHeartbeats 1600000 in
theorem refTkNumber_calls (t : Nat) (v : Value) (s : TkM) (w : World) (h : IsK w t v s) :
    Calls Tryz.prog 13 #[.pointer (some ⟨t, 0, none⟩)] w fun e w' => e = .returned (.int .u64 (s.num.1 : Int)) ∧ (∃ v', IsK w' t v' s.num.2 ∧ v'.ownBlock = v.ownBlock) ∧ Mod (fun i => i = t) w w' := by
  have hrd := h.rd
  obtain ⟨a, cap, rfl, h1, h2, h3, _⟩ := hrd
  have HT := Lib.hid h
  have hsm := h.sm
  have c0 := h.box.cell 0 _ rfl
  have c1 : w.cell? ⟨t, 1, none⟩ = some (.int .i64 s.er) := h.box.cell 1 _ rfl
  have f0 := h.box.free 0
  have f1 := h.box.free 1
  by_cases he : s.er = 0
  rotate_left
  · have HS := Lib.hid (show s.num = (0, s) by unfold TkM.num; rw [if_neg he])
    have g1 : (s.er != 0) = true := by simp [he]
    clear h he
    go_enter Tryz.func13, Tryz.ntmps13
    go_wp2_with fail
    go_ret
    rw [HS.out]
    exact ⟨rfl, ⟨_, HT.out, rfl⟩, Mod.refl _ _⟩
  · have Hc := Lib.hid (refNum_calls _ s.rest w h.rd h.sm)
    have hus := numR_used s.rest
    have HS := Lib.hid (show s.num = (if (numR s.rest).1 = 0 then ((numR s.rest).2.1, ⟨s.l, s.k + (numR s.rest).2.2, 0, s.big⟩) else (0, ⟨s.l, s.k, (numR s.rest).1, s.big⟩)) by unfold TkM.num; rw [if_pos he])
    have HL := Lib.hid (show ∀ u, ({ l := s.l, k := s.k + u, er := 0, big := s.big } : TkM).rest = s.rest.drop u from fun u => by unfold TkM.rest; rw [List.drop_drop])
    have HLs := Lib.hid (show ∀ e, ({ l := s.l, k := s.k, er := e, big := s.big } : TkM).rest = s.rest from fun e => rfl)
    rw [he] at c1
    generalize numR s.rest = N at Hc hus HS
    obtain ⟨er, n, u⟩ := N
    simp only at Hc hus HS
    clear h
    go_enter Tryz.func13, Tryz.ntmps13
    go_wp2_with fail
    refine Hc.out.mono ?_
    rintro e w1 ⟨rfl, rfl⟩
    by_cases hn : er = 0
    · have hu := hus hn
      have HS' := Lib.hid (show s.num = (n, ⟨s.l, s.k + u, 0, s.big⟩) by rw [HS.out, if_pos hn])
      subst hn
      have htl := tailB a s.rest.length cap u hu
      have htr := tailV_rd (k := u) HT.out.rd hu (by simp)
      rw [← List.map_drop] at htr
      obtain ⟨tv, htv⟩ : ∃ tv, tv = tailV a s.rest.length cap u := ⟨_, rfl⟩
      have hto : tv.ownBlock = (Value.slice a s.rest.length cap).ownBlock := by rw [htv]; exact tailV_own _ _ _ _
      rw [← htv] at htl htr
      have hms := Mod.set (fun i => i = t) w1 ⟨t, 0, none⟩ tv rfl
      have hst : IsK (w1.setCell ⟨t, 0, none⟩ tv) t tv ⟨s.l, s.k + u, 0, s.big⟩ := by
        refine ⟨?_, ?_, by rw [hto]; exact HT.out.ne, by rw [HL.out, List.length_drop]; omega⟩
        · have := HT.out.box.set 0 tv
          rw [he] at this; exact this
        · rw [HL.out, List.length_drop]
          exact htr.keep (fun b hb hl => hms.block b hl (fun e => HT.out.ne (by rw [← hto, hb, e])))
      obtain ⟨ta, tn, tc, rfl⟩ : ∃ ta tn tc, tv = .slice ta tn tc := ⟨_, _, _, htv⟩
      have HR := Lib.hid hst
      have HM := Lib.hid hms
      have HO := Lib.hid hto
      clear hst hms hto htr htv hu hus HS he
      go_wp2_with fail
      go_ret
      rw [HS'.out]
      exact ⟨rfl, ⟨_, HR.out, HO.out⟩, HM.out⟩
    · have HS' := Lib.hid (show s.num = (0, ⟨s.l, s.k, er, s.big⟩) by rw [HS.out, if_neg hn])
      have g1 : (er != 0) = true := by simp [hn]
      have hms := Mod.set (fun i => i = t) w1 ⟨t, 1, none⟩ (.int .i64 er) rfl
      have hst : IsK (w1.setCell ⟨t, 1, none⟩ (.int .i64 er)) t (.slice a s.rest.length cap) ⟨s.l, s.k, er, s.big⟩ :=
        ⟨HT.out.box.set 1 _, HT.out.rd.keep (fun b hb hl => hms.block b hl (fun e => HT.out.ne (by rw [hb, e]))), HT.out.ne, HT.out.sm⟩
      have HR := Lib.hid hst
      have HM := Lib.hid hms
      clear hst hms hus HS he hn
      go_wp2_with fail
      go_ret
      rw [HS'.out]
      exact ⟨rfl, ⟨_, HR.out, rfl⟩, HM.out⟩
set_option maxHeartbeats 1600000 in
theorem refTkText_calls (t : Nat) (v : Value) (s : TkM) (w : World) (h : IsK w t v s) :
    Calls Tryz.prog 39 #[.pointer (some ⟨t, 0, none⟩)] w fun e w' => e = .returned (.string (SB s.txt.1)) ∧ (∃ v', IsK w' t v' s.txt.2 ∧ v'.ownBlock = v.ownBlock) ∧ Mod (fun i => i = t) w w' := by
  have hrd := h.rd
  obtain ⟨a, cap, rfl, h1, h2, h3, _⟩ := hrd
  have HT := Lib.hid h
  have hsm := h.sm
  have c0 := h.box.cell 0 _ rfl
  have c1 : w.cell? ⟨t, 1, none⟩ = some (.int .i64 s.er) := h.box.cell 1 _ rfl
  have f0 := h.box.free 0
  have f1 := h.box.free 1
  by_cases he : s.er = 0
  rotate_left
  · have HS := Lib.hid (show s.txt = ([], s) by unfold TkM.txt; rw [if_neg he])
    have g1 : (s.er != 0) = true := by simp [he]
    clear h he
    go_enter Tryz.func39, Tryz.ntmps39
    go_wp2_with fail
    go_ret
    rw [HS.out]
    exact ⟨rfl, ⟨_, HT.out, rfl⟩, Mod.refl _ _⟩
  · have Hc := Lib.hid (refTaken_calls _ s.rest w h.rd h.sm)
    have hus := textR_used s.rest
    have HS := Lib.hid (show s.txt = (if (textR s.rest).1 = 0 then ((textR s.rest).2.1, ⟨s.l, s.k + (textR s.rest).2.2, 0, s.big⟩) else ([], ⟨s.l, s.k, (textR s.rest).1, s.big⟩)) by unfold TkM.txt; rw [if_pos he])
    have HL := Lib.hid (show ∀ u, ({ l := s.l, k := s.k + u, er := 0, big := s.big } : TkM).rest = s.rest.drop u from fun u => by unfold TkM.rest; rw [List.drop_drop])
    have HLs := Lib.hid (show ∀ e, ({ l := s.l, k := s.k, er := e, big := s.big } : TkM).rest = s.rest from fun e => rfl)
    rw [he] at c1
    generalize textR s.rest = N at Hc hus HS
    obtain ⟨er, n, u⟩ := N
    simp only at Hc hus HS
    clear h
    go_enter Tryz.func39, Tryz.ntmps39
    go_wp2_with fail
    refine Hc.out.mono ?_
    rintro e w1 ⟨rfl, rfl⟩
    by_cases hn : er = 0
    · have hu := hus hn
      have HS' := Lib.hid (show s.txt = (n, ⟨s.l, s.k + u, 0, s.big⟩) by rw [HS.out, if_pos hn])
      subst hn
      have htl := tailB a s.rest.length cap u hu
      have htr := tailV_rd (k := u) HT.out.rd hu (by simp)
      rw [← List.map_drop] at htr
      obtain ⟨tv, htv⟩ : ∃ tv, tv = tailV a s.rest.length cap u := ⟨_, rfl⟩
      have hto : tv.ownBlock = (Value.slice a s.rest.length cap).ownBlock := by rw [htv]; exact tailV_own _ _ _ _
      rw [← htv] at htl htr
      have hms := Mod.set (fun i => i = t) w1 ⟨t, 0, none⟩ tv rfl
      have hst : IsK (w1.setCell ⟨t, 0, none⟩ tv) t tv ⟨s.l, s.k + u, 0, s.big⟩ := by
        refine ⟨?_, ?_, by rw [hto]; exact HT.out.ne, by rw [HL.out, List.length_drop]; omega⟩
        · have := HT.out.box.set 0 tv
          rw [he] at this; exact this
        · rw [HL.out, List.length_drop]
          exact htr.keep (fun b hb hl => hms.block b hl (fun e => HT.out.ne (by rw [← hto, hb, e])))
      obtain ⟨ta, tn, tc, rfl⟩ : ∃ ta tn tc, tv = .slice ta tn tc := ⟨_, _, _, htv⟩
      have HR := Lib.hid hst
      have HM := Lib.hid hms
      have HO := Lib.hid hto
      clear hst hms hto htr htv hu hus HS he
      go_wp2_with fail
      go_ret
      rw [HS'.out]
      exact ⟨rfl, ⟨_, HR.out, HO.out⟩, HM.out⟩
    · have HS' := Lib.hid (show s.txt = ([], ⟨s.l, s.k, er, s.big⟩) by rw [HS.out, if_neg hn])
      have g1 : (er != 0) = true := by simp [hn]
      have hms := Mod.set (fun i => i = t) w1 ⟨t, 1, none⟩ (.int .i64 er) rfl
      have hst : IsK (w1.setCell ⟨t, 1, none⟩ (.int .i64 er)) t (.slice a s.rest.length cap) ⟨s.l, s.k, er, s.big⟩ :=
        ⟨HT.out.box.set 1 _, HT.out.rd.keep (fun b hb hl => hms.block b hl (fun e => HT.out.ne (by rw [hb, e]))), HT.out.ne, HT.out.sm⟩
      have HR := Lib.hid hst
      have HM := Lib.hid hms
      clear hst hms hus HS he hn
      go_wp2_with fail
      go_ret
      rw [HS'.out]
      exact ⟨rfl, ⟨_, HR.out, rfl⟩, HM.out⟩
/-- A number that fits, as an int; else 0. -/
def rAs (n : Nat) : Int := if n ≤ 9223372036854775807 then (n : Int) else 0
def TkM.rint (s : TkM) : Int × TkM := (rAs s.num.1, s.int.2)
set_option maxHeartbeats 1600000 in
theorem refTkInt_calls (t : Nat) (v : Value) (s : TkM) (w : World) (h : IsK w t v s) :
    Calls Tryz.prog 12 #[.pointer (some ⟨t, 0, none⟩)] w fun e w' => e = .returned (.int .i64 s.rint.1) ∧ (∃ v', IsK w' t v' s.rint.2 ∧ v'.ownBlock = v.ownBlock) ∧ Mod (fun i => i = t) w w' := by
  have Hc := Lib.hid (refTkNumber_calls t v s w h)
  have hxl := s.num_lt
  have HI := Lib.hid (show s.rint = (rAs s.num.1, ⟨s.num.2.l, s.num.2.k, s.num.2.er, s.num.2.big || !(decide (s.num.1 ≤ 9223372036854775807))⟩) from rfl)
  generalize s.num = q at Hc hxl HI
  obtain ⟨x, s2⟩ := q
  simp only at Hc hxl HI
  clear h
  go_enter Tryz.func12, Tryz.ntmps12
  go_wp2_with fail
  refine Hc.out.mono ?_
  rintro e w1 ⟨rfl, ⟨v', hK, hv⟩, hm⟩
  by_cases hx : (9223372036854775807 : Int) < (x : Int)
  · have hd : decide (x ≤ 9223372036854775807) = false := decide_eq_false (by omega)
    have HI2 := Lib.hid (show s.rint = (0, ⟨s2.l, s2.k, s2.er, true⟩) by rw [HI.out, hd]; unfold rAs; rw [if_neg (by omega)]; simp)
    have c2 := hK.box.cell 2 _ rfl
    have f2 := hK.box.free 2
    have hms := Mod.set (fun i => i = t) w1 ⟨t, 2, none⟩ (.bool true) rfl
    have hst : IsK (w1.setCell ⟨t, 2, none⟩ (.bool true)) t v' ⟨s2.l, s2.k, s2.er, true⟩ := ⟨hK.box.set 2 _, hK.rd.keep (fun b hb hl => hms.block b hl (fun e => hK.ne (by rw [hb, e]))), hK.ne, hK.sm⟩
    have HR := Lib.hid hst
    have HM := Lib.hid (hm.trans hms)
    have HV := Lib.hid hv
    clear hst hms hm hv hK hd HI hxl
    go_wp2_with fail
    go_ret
    rw [HI2.out]
    exact ⟨rfl, ⟨_, HR.out, HV.out⟩, HM.out⟩
  · have hd : decide (x ≤ 9223372036854775807) = true := decide_eq_true (by omega)
    have hd2 : decide ((9223372036854775807 : Int) < (x : Int)) = false := decide_eq_false hx
    have HI2 := Lib.hid (show s.rint = ((x : Int), ⟨s2.l, s2.k, s2.er, s2.big⟩) by rw [HI.out, hd]; unfold rAs; rw [if_pos (by omega)]; simp)
    have zx : IntKind.i64.wrap (x : Int) = (x : Int) := by rw [wrap_asInt x hxl]; unfold asInt; rw [if_pos (by omega)]
    have HR := Lib.hid hK
    have HM := Lib.hid hm
    have HV := Lib.hid hv
    clear hm hv hK hd HI hxl hx
    go_wp2_with fail
    go_ret
    rw [HI2.out]
    exact ⟨rfl, ⟨_, HR.out, HV.out⟩, HM.out⟩
end Go.Proofs.YtdaimaibnjkfbaaGreatDoor
