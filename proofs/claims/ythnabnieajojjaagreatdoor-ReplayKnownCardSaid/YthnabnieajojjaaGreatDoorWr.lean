/-
  Package pack's Writer: New, Number, Text, Bytes.
-/
import Derived.Test.YthnabnieajojjaaGreatDoorSevB
import Derived.Lib.SliceRun
namespace Go.Proofs.YthnabnieajojjaaGreatDoor
open Go.RowKit
set_option maxRecDepth 100000

/-- A writer at a block, that holds bytes. -/
structure IsW (w : World) (B p : Nat) (v : Value) (l : List UInt8) : Prop where
  box : Box w p #[v] 114
  own : OwnM w B 5 v l.length (l.map V8)
  ne : v.ownBlock ≠ some p
/-- Where a row may be, later. -/
def Fresh (w : World) (v v' : Value) : Prop := ∀ k, v'.ownBlock = some k → v.ownBlock = some k ∨ w.heap.size ≤ k
theorem Fresh.refl (w : World) (v : Value) : Fresh w v v := fun _ h => .inl h
theorem Fresh.moved {w w' : World} {v v' v'' : Value} (h : Fresh w v v') (hs : w.heap.size ≤ w'.heap.size) (hm : Moved w' v' v'') : Fresh w v v'' := fun k hk => by
  rcases hm with e | e
  · rw [e] at hk; exact h k hk
  · rw [e] at hk; injection hk with hk; exact .inr (by omega)
theorem Fresh.trans {w w' : World} {v v' v'' : Value} (h : Fresh w v v') (hs : w.heap.size ≤ w'.heap.size) (k : Fresh w' v' v'') : Fresh w v v'' := fun j hj => by
  rcases k j hj with e | e
  · exact h j e
  · exact .inr (by omega)
def WF (p : Nat) (v : Value) : Nat → Prop := fun k => k = p ∨ v.ownBlock = some k
theorem WF.then {w w1 w2 : World} {p : Nat} {v v' : Value} (h : Mod (WF p v) w w1) (hf : Fresh w v v') (k : Mod (WF p v') w1 w2) : Mod (WF p v) w w2 :=
  h.then k (fun i hi => by
    rcases hi with rfl | hi
    · exact .inl (.inl rfl)
    · rcases hf i hi with e | e
      · exact .inl (.inr e)
      · exact .inr e)
theorem IsW.below {w w' : World} {B p : Nat} {v : Value} {l : List UInt8} (h : IsW w B p v l) (hb : Below w.heap.size w w') : IsW w' B p v l := ⟨h.box.below hb, h.own.below hb, h.ne⟩
/-- Behind one append, and the store of what it gave. -/
theorem IsW.step {w w1 : World} {B p : Nat} {v v' : Value} {l m : List UInt8} (h : IsW w B p v l) (hown : OwnM w1 B 5 v' (l.length + m.length) (l.map V8 ++ m.map V8)) (hg : w.grownBy w1 v.ownBlock) (hm : Moved w v v') :
    IsW (w1.setCell ⟨p, 0, none⟩ v') B p v' (l ++ m) ∧ Mod (WF p v) w (w1.setCell ⟨p, 0, none⟩ v') ∧ Fresh w v v' := by
  have hlt := h.box.lt
  have hne : v'.ownBlock ≠ some p := by
    rcases hm with e | e
    · rw [e]; exact h.ne
    · rw [e]; intro e2; injection e2 with e2; omega
  have hb1 : Box w1 p #[v] 114 := h.box.grown hg h.ne
  refine ⟨⟨by have := hb1.set 0 v'; exact this, ?_, hne⟩, ?_, (Fresh.refl w v).moved (Nat.le_refl _) hm⟩
  · rw [List.length_append, List.map_append]
    exact hown.mod (Mod.set (fun k => k = p) w1 ⟨p, 0, none⟩ v' rfl) (fun k hk e => hne (by rw [hk, e]))
  · exact (Mod.of_grown hg (F := WF p v) (fun k hk => .inr hk)).trans (Mod.set _ _ _ _ (.inl rfl))
theorem new_calls (w : World) :
    Calls Tryz.prog 36 #[] w fun e w' => e = .returned (.pointer (some ⟨w.heap.size, 0, none⟩)) ∧ IsW w' w.heap.size w.heap.size (.slice none 0 0) [] ∧ Below w.heap.size w w' := by
  go_enter Tryz.func36, Tryz.ntmps36
  go_wp2_with fail
  go_ret
  exact ⟨rfl, ⟨Box.new _ _ _, OwnM.nil _ _ _, by simp [Value.ownBlock]⟩, below_alloc _ _⟩
set_option maxHeartbeats 1600000 in
theorem wNumber_calls (B p : Nat) (v0 : Value) (l0 : List UInt8) (n : Nat) (w : World) (hw : IsW w B p v0 l0) (hn : n < 2 ^ 64) (hl0 : l0.length ≤ 140737488350000) (hB : B ≤ w.heap.size) :
    Calls Tryz.prog 38 #[.pointer (some ⟨p, 0, none⟩), .int .u64 (n : Int)] w fun e w' => e = .returned (.tuple #[]) ∧ ∃ v', IsW w' B p v' (l0 ++ sevM n) ∧ Mod (WF p v0) w w' ∧ Fresh w v0 v' := by
  go_enter Tryz.func38, Tryz.ntmps38
  go_wp2_with fail
  go_loopg [1] n (fun gk vv wr => ∃ (i v : Nat) (l : List UInt8) (v1 : Value), gk = v ∧ i ≤ 9 ∧ vv = .int .u64 (v : Int) ∧ v < 2 ^ (70 - 7 * i) ∧ v < 2 ^ 64 ∧ IsW wr B p v1 (l0 ++ l) ∧ l ++ sevF (10 - i) v = sevM n ∧ Mod (WF p v0) w wr ∧ Fresh w v0 v1)
  case atStart => exact ⟨0, n, [], v0, rfl, by omega, rfl, by omega, hn, by rw [List.append_nil]; exact hw, by simp [sevM], Mod.refl _ _, Fresh.refl _ _⟩
  case round =>
    obtain ⟨i, v, l, v1, hgk, hi, rfl, hv, hv64, hW, hl, hM, hF⟩ := hrel
    have hs := hM.size
    have hlen : (l0 ++ l).length + 1 ≤ 140737488355328 := by
      have h5 : (l ++ sevF (10 - i) v).length = (sevM n).length := by rw [hl]
      have := sevM_len n
      rw [List.length_append] at h5 ⊢; omega
    obtain ⟨L, hLL⟩ : ∃ L, L = l0 ++ l := ⟨_, rfl⟩
    rw [← hLL] at hW hlen
    have HLe := Lib.hid hLL
    clear hLL
    have HL := Lib.hid hlen
    have hc := hW.box.cell 0 v1 rfl
    have hfz := hW.box.free 0
    have hp := hW.box.lt
    obtain ⟨xa, xc, rfl, _⟩ := hW.own.slice
    have HW := Lib.hid hW
    have HM := Lib.hid hM
    have HF := Lib.hid hF
    have HLL := Lib.hid hl
    by_cases hc2 : 127 < v
    · have g1 : (127 : Int) < (v : Int) := by omega
      have Hgk := Lib.hid hgk
      obtain ⟨k, hk⟩ : ∃ k, k = v % 128 + 128 := ⟨_, rfl⟩
      have HV8 := Lib.hid (v8_nat k (by omega))
      have hor : bits .or .u8 ((v : Int) % 256) 128 = (k : Int) := by
        have := u8_or2 (v % 256) (by omega)
        rw [show ((v : Int) % 256) = ((v % 256 : Nat) : Int) by omega, this]; omega
      have hi8 : i < 9 := by
        rcases Nat.lt_or_ge i 9 with h | h
        · exact h
        · have : i = 9 := by omega
          subst this; omega
      have HI := Lib.hid hi8
      have HQ2 := Lib.hid (show v / 128 < 2 ^ 64 by omega)
      have HQ := Lib.hid (show v / 128 < 2 ^ (70 - 7 * (i + 1)) from by
        have e : 2 ^ (70 - 7 * i) = 2 ^ (70 - 7 * (i + 1)) * 128 := by rw [show 70 - 7 * i = (70 - 7 * (i + 1)) + 7 by omega, Nat.pow_add]
        rw [e] at hv
        exact Nat.div_lt_of_lt_mul (by rw [Nat.mul_comm]; exact hv))
      have HT := Lib.hid (show (l ++ [UInt8.ofNat k]) ++ sevF (10 - (i + 1)) (v / 128) = sevM n from by
        rw [show 10 - i = (9 - i) + 1 by omega] at hl
        unfold sevF at hl
        rw [if_neg (by omega)] at hl
        rw [← hl, hk, List.append_assoc, show 10 - (i + 1) = 9 - i by omega]; rfl)
      have hsh : (v : Int) / 128 = ((v / 128 : Nat) : Int) := by omega
      obtain ⟨q, hq⟩ : ∃ q, q = v / 128 := ⟨_, rfl⟩
      rw [← hq] at hsh HQ HQ2 HT
      have HQv := Lib.hid (show q < v by omega)
      clear hv hv64 hl hM hF hi hlen hgk hc2 hk hi8 hq hW
      go_wp2_with (at_builtin; refine appM1 rfl _ _ rfl B _ _ _ rfl (HW.out.own.below (below_alloc wr _)) ⟨wr.heap.size, 0, none⟩ 1 (.int .u8 (k : Int)) rfl (by exact cell_one_new _ _ _ 0 _ rfl) (by simp [Value.oneCell']) (by have := HL.out; omega) (by simp; omega) ?_)
      intro v' w1 hown' hg' hm' _
      obtain ⟨ya, yc, rfl, _⟩ := hown'.slice
      have hWa := HW.out.below (below_alloc wr (.cells #[.int .u8 (k : Int)] 5))
      have hst := hWa.step (m := [UInt8.ofNat k]) (by rw [List.length_singleton, List.map_singleton, HV8.out]; exact hown') hg' hm'
      obtain ⟨s1, s2, s3⟩ := hst
      have hbx : Box w1 p #[_] _ := hWa.box.grown hg' hWa.ne
      have c1 := hbx.cell 0 _ rfl
      have f1 := hbx.free 0
      have hma := Mod.of_below (F := WF p (.slice xa L.length xc)) (below_alloc wr (.cells #[.int .u8 (k : Int)] 5))
      have HS1 := Lib.hid s1
      have HS2 := Lib.hid (WF.then HM.out HF.out (hma.trans s2))
      have HS3 := Lib.hid (HF.out.trans hs (Fresh.trans (Fresh.refl wr _) (show wr.heap.size ≤ (wr.alloc (.cells #[.int .u8 (k : Int)] 5)).heap.size by simp) s3))
      clear s1 s2 s3 hbx hWa hma hown' hg' hm' hc hfz hp
      go_wp2_with fail
      go_roundg q
      case measure => have := HQv.out; have := Hgk.out; omega
      case rel => exact ⟨i + 1, q, l ++ [UInt8.ofNat k], _, rfl, by have := HI.out; omega, by go_num, HQ.out, HQ2.out, by rw [← List.append_assoc, ← HLe.out]; exact HS1.out, HT.out, HS2.out, HS3.out⟩
    · have g1 : ¬ (127 : Int) < (v : Int) := by omega
      have HV8 := Lib.hid (v8_nat v (by omega))
      have hmod : (v : Int) % 256 = (v : Int) := by omega
      have HT := Lib.hid (show l ++ [UInt8.ofNat v] = sevM n from by
        rw [show 10 - i = (9 - i) + 1 by omega] at hl
        unfold sevF at hl
        rw [if_pos (by omega)] at hl; exact hl)
      clear hv hv64 hl hM hF hi hlen hgk hc2 hW
      go_wp2_with (at_builtin; refine appM1 rfl _ _ rfl B _ _ _ rfl (HW.out.own.below (below_alloc wr _)) ⟨wr.heap.size, 0, none⟩ 1 (.int .u8 (v : Int)) rfl (by exact cell_one_new _ _ _ 0 _ rfl) (by simp [Value.oneCell']) (by have := HL.out; omega) (by simp; omega) ?_)
      intro v' w1 hown' hg' hm' _
      obtain ⟨ya, yc, rfl, _⟩ := hown'.slice
      have hWa := HW.out.below (below_alloc wr (.cells #[.int .u8 (v : Int)] 5))
      have hst := hWa.step (m := [UInt8.ofNat v]) (by rw [List.length_singleton, List.map_singleton, HV8.out]; exact hown') hg' hm'
      obtain ⟨s1, s2, s3⟩ := hst
      have hbx : Box w1 p #[_] _ := hWa.box.grown hg' hWa.ne
      have c1 := hbx.cell 0 _ rfl
      have f1 := hbx.free 0
      have hma := Mod.of_below (F := WF p (.slice xa L.length xc)) (below_alloc wr (.cells #[.int .u8 (v : Int)] 5))
      have HS1 := Lib.hid s1
      have HS2 := Lib.hid (WF.then HM.out HF.out (hma.trans s2))
      have HS3 := Lib.hid (HF.out.trans hs (Fresh.trans (Fresh.refl wr _) (show wr.heap.size ≤ (wr.alloc (.cells #[.int .u8 (v : Int)] 5)).heap.size by simp) s3))
      clear s1 s2 s3 hbx hWa hma hown' hg' hm' hc hfz hp
      go_wp2_with fail
      refine bodyPost_end (results_none rfl _ _ _) rfl ?_
      refine ⟨rfl, _, ?_, HS2.out, HS3.out⟩
      rw [show l0 ++ sevM n = L ++ [UInt8.ofNat v] from by rw [HLe.out, List.append_assoc, HT.out]]; exact HS1.out
set_option maxHeartbeats 800000 in
theorem wText_calls (B p : Nat) (v0 : Value) (l0 : List UInt8) (m : List UInt8) (w : World) (hw : IsW w B p v0 l0) (hm : m.length ≤ 140737488340000) (hl0 : l0.length + m.length ≤ 140737488350000) (hB : B ≤ w.heap.size) :
    Calls Tryz.prog 39 #[.pointer (some ⟨p, 0, none⟩), .string (SB m)] w fun e w' => e = .returned (.tuple #[]) ∧ ∃ v', IsW w' B p v' (l0 ++ textB m) ∧ Mod (WF p v0) w w' ∧ Fresh w v0 v' := by
  have Hc := Lib.hid (wNumber_calls B p v0 l0 m.length w hw (by omega) (by omega) hB)
  have z1 := mod_u64n m.length (by omega)
  have hsz : (SB m).size = m.length := SB_size m
  go_enter Tryz.func39, Tryz.ntmps39
  go_wp2_with fail
  refine Hc.out.mono ?_
  rintro e w1 ⟨rfl, v1, h1, h2, h3⟩
  obtain ⟨L, hL⟩ : ∃ L, L = l0 ++ sevM m.length := ⟨_, rfl⟩
  rw [← hL] at h1
  have HL := Lib.hid (show L.length + m.length ≤ 140737488355328 from by
    have := sevM_len m.length
    rw [hL, List.length_append]; omega)
  have HLe := Lib.hid hL
  have hs := h2.size
  obtain ⟨xa, xc, rfl, _⟩ := h1.own.slice
  have hc := h1.box.cell 0 _ rfl
  have HW := Lib.hid h1
  have HM := Lib.hid h2
  have HF := Lib.hid h3
  clear h1 h2 h3 hL
  go_wp2_with (at_builtin; refine appMS rfl _ _ rfl B _ _ _ rfl HW.out.own m rfl (by have := HL.out; omega) (by omega) ?_)
  intro v' w2 hown' hg' hm'
  obtain ⟨ya, yc, rfl, _⟩ := hown'.slice
  obtain ⟨s1, s2, s3⟩ := HW.out.step hown' hg' hm'
  have hbx : Box w2 p #[_] _ := HW.out.box.grown hg' HW.out.ne
  have c1 := hbx.cell 0 _ rfl
  have f1 := hbx.free 0
  have HS1 := Lib.hid s1
  have HS2 := Lib.hid (WF.then HM.out HF.out s2)
  have HS3 := Lib.hid (HF.out.trans hs s3)
  clear s1 s2 s3 hbx hown' hg' hm' hc
  go_wp2_with fail
  refine bodyPost_end (results_none rfl _ _ _) rfl ?_
  refine ⟨rfl, _, ?_, HS2.out, HS3.out⟩
  rw [show l0 ++ textB m = L ++ m from by rw [HLe.out, List.append_assoc]; rfl]; exact HS1.out
theorem clone_calls (v : Value) (l : List UInt8) (w : World) (hv : Rd w v l.length (l.map V8)) (hl : l.length ≤ 140737488355000) :
    Calls Tryz.prog 59 #[v] w fun e w' => ∃ o, e = .returned o ∧ OwnM w' w.heap.size 5 o l.length (l.map V8) ∧ Below w.heap.size w w' := by
  have hv' := hv
  obtain ⟨a, cap, rfl, h1, h2, h3, h4⟩ := hv
  cases a with
  | none =>
    have h0 : l = [] := List.eq_nil_of_length_eq_zero (by have := h3 rfl; omega)
    subst h0
    have hc0 : cap = 0 := h3 rfl
    subst hc0
    clear h4 h3 hv'
    have heq := fun w => Lib.run_eql_slice_nil (P := Tryz.prog) w 49 5 none 0 0 0 0 Tryz.underlying49
    change ∀ w, Sem.run _ _ w = Result.ok (Value.bool true) w at heq
    go_enter Tryz.func59, Tryz.ntmps59
    go_wp2_with fail
    go_ret
    exact ⟨_, rfl, OwnM.nil _ _ _, Below.refl _ _⟩
  | some a =>
    have Hv := Lib.hid hv'
    clear h4 h3 hv'
    have heq := fun w => Lib.run_eql_slice_nil (P := Tryz.prog) w 49 5 (some a) l.length cap 0 0 Tryz.underlying49
    change ∀ w, Sem.run _ _ w = Result.ok (Value.bool false) w at heq
    have HO := Lib.hid (show OwnM (w.alloc (.cells #[] 5)) w.heap.size 5 (.slice (some ⟨w.heap.size, 0, none⟩) 0 0) 0 [] from ⟨rfl, .inr ⟨w.heap.size, 0, #[], (0, 0), rfl, Nat.le_refl _, heap_alloc_new w _, .inl rfl, by omega, by unfold maxLen; omega, by simp, rfl⟩⟩)
    go_enter Tryz.func59, Tryz.ntmps59
    go_wp2_with (at_builtin; refine appMR rfl _ _ rfl w.heap.size _ _ _ rfl HO.out _ l rfl (Hv.out.below (below_alloc w _)) (by omega) (by simp) ?_)
    intro v' w2 hown' hg' hm'
    have HB := Lib.hid ((below_alloc w (.cells #[] 5)).trans (below_grown hg' (by simp) (fun q hq => (HO.out.lt q hq).1)))
    have HO2 := Lib.hid hown'
    clear hown' hg' hm'
    go_wp2_with fail
    go_ret
    exact ⟨_, rfl, HO2.out, HB.out⟩
theorem wBytes_calls (B p : Nat) (v : Value) (l : List UInt8) (w : World) (hw : IsW w B p v l) (hl : l.length ≤ 140737488355000) :
    Calls Tryz.prog 40 #[.pointer (some ⟨p, 0, none⟩)] w fun e w' => ∃ o, e = .returned o ∧ OwnM w' w.heap.size 5 o l.length (l.map V8) ∧ Below w.heap.size w w' := by
  obtain ⟨xa, xc, rfl, _⟩ := hw.own.slice
  have hc := hw.box.cell 0 _ rfl
  have Hc := Lib.hid (clone_calls _ l w hw.own.rd hl)
  clear hw
  go_enter Tryz.func40, Tryz.ntmps40
  go_wp2_with fail
  refine Hc.out.mono ?_
  rintro e w1 ⟨o, rfl, h1, h2⟩
  have H1 := Lib.hid h1
  have H2 := Lib.hid h2
  clear h1 h2
  go_wp2_with fail
  go_ret
  exact ⟨_, rfl, H1.out, H2.out⟩
end Go.Proofs.YthnabnieajojjaaGreatDoor
