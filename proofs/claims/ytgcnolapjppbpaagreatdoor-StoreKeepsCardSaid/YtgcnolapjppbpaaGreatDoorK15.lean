/-
  Texts of one proof, one behind the other.
-/
import Derived.Test.YtgcnolapjppbpaaGreatDoorK14
import Derived.Lib.SliceRun
namespace Go.Proofs.YtgcnolapjppbpaaGreatDoor
open Go.RowKit
set_option maxRecDepth 100000
structure IsW (w : World) (B p : Nat) (v : Value) (l : List UInt8) : Prop where
  box : Box w p #[v] 188
  own : OwnM w B 5 v l.length (l.map V8)
  ne : v.ownBlock ≠ some p
def Fresh (w : World) (v v' : Value) : Prop := ∀ k, v'.ownBlock = some k → v.ownBlock = some k ∨ w.heap.size ≤ k
theorem Fresh.refl (w : World) (v : Value) : Fresh w v v := fun _ h => .inl h
theorem Fresh.moved {w w' : World} {v v' v'' : Value} (h : Fresh w v v') (hs : w.heap.size ≤ w'.heap.size) (hm : Moved w' v' v'') : Fresh w v v'' := fun k hk => by
  rcases hm with e | e
  · rw [e] at hk; exact h k hk
  · rw [e] at hk; injection hk with hk; exact .inr (by omega)
theorem Fresh.trans {w w' : World} {v v' v'' : Value} (h : Fresh w v v') (hs : w.heap.size ≤ w'.heap.size) (k : Fresh w' v' v'') : Fresh w v v'' := fun j hj => by
  rcases k j hj with e | e
  · exact h j e
  · exact .inr (by omega)
def WF (p : Nat) (v : Value) : Nat → Prop := fun k => k = p ∨ v.ownBlock = some k
theorem WF.then {w w1 w2 : World} {p : Nat} {v v' : Value} (h : Mod (WF p v) w w1) (hf : Fresh w v v') (k : Mod (WF p v') w1 w2) : Mod (WF p v) w w2 :=
  h.then k (fun i hi => by
    rcases hi with rfl | hi
    · exact .inl (.inl rfl)
    · rcases hf i hi with e | e
      · exact .inl (.inr e)
      · exact .inr e)
theorem IsW.below {w w' : World} {B p : Nat} {v : Value} {l : List UInt8} (h : IsW w B p v l) (hb : Below w.heap.size w w') : IsW w' B p v l := ⟨h.box.below hb, h.own.below hb, h.ne⟩
theorem IsW.step {w w1 : World} {B p : Nat} {v v' : Value} {l m : List UInt8} (h : IsW w B p v l) (hown : OwnM w1 B 5 v' (l.length + m.length) (l.map V8 ++ m.map V8)) (hg : w.grownBy w1 v.ownBlock) (hm : Moved w v v') :
    IsW (w1.setCell ⟨p, 0, none⟩ v') B p v' (l ++ m) ∧ Mod (WF p v) w (w1.setCell ⟨p, 0, none⟩ v') ∧ Fresh w v v' := by
  have hlt := h.box.lt
  have hne : v'.ownBlock ≠ some p := by
    rcases hm with e | e
    · rw [e]; exact h.ne
    · rw [e]; intro e2; injection e2 with e2; omega
  have hb1 : Box w1 p #[v] 188 := h.box.grown hg h.ne
  refine ⟨⟨by have := hb1.set 0 v'; exact this, ?_, hne⟩, ?_, (Fresh.refl w v).moved (Nat.le_refl _) hm⟩
  · rw [List.length_append, List.map_append]
    exact hown.mod (Mod.set (fun k => k = p) w1 ⟨p, 0, none⟩ v' rfl) (fun k hk e => hne (by rw [hk, e]))
  · exact (Mod.of_grown hg (F := WF p v) (fun k hk => .inr hk)).trans (Mod.set _ _ _ _ (.inl rfl))
theorem new_calls (w : World) :
    Calls Tryz.prog 66 #[] w fun e w' => e = .returned (.pointer (some ⟨w.heap.size, 0, none⟩)) ∧ IsW w' w.heap.size w.heap.size (.slice none 0 0) [] ∧ Below w.heap.size w w' := by
  go_enter Tryz.func66, Tryz.ntmps66
  go_wp2_with fail
  go_ret
  exact ⟨rfl, ⟨Box.new _ _ _, OwnM.nil _ _ _, by simp [Value.ownBlock]⟩, below_alloc _ _⟩
set_option maxHeartbeats 1600000 in
theorem wNumber_calls (B p : Nat) (v0 : Value) (l0 : List UInt8) (n : Nat) (w : World) (hw : IsW w B p v0 l0) (hn : n < 2 ^ 64) (hl0 : l0.length ≤ 140737488350000) (hB : B ≤ w.heap.size) :
    Calls Tryz.prog 68 #[.pointer (some ⟨p, 0, none⟩), .int .u64 (n : Int)] w fun e w' => e = .returned (.tuple #[]) ∧ ∃ v', IsW w' B p v' (l0 ++ sevM n) ∧ Mod (WF p v0) w w' ∧ Fresh w v0 v' := by
  go_enter Tryz.func68, Tryz.ntmps68
  go_wp2_with fail
  go_loopg [1] n (fun gk vv wr => ∃ (i v : Nat) (l : List UInt8) (v1 : Value), gk = v ∧ i ≤ 9 ∧ vv = .int .u64 (v : Int) ∧ v < 2 ^ (70 - 7 * i) ∧ v < 2 ^ 64 ∧ IsW wr B p v1 (l0 ++ l) ∧ l ++ sevF (10 - i) v = sevM n ∧ Mod (WF p v0) w wr ∧ Fresh w v0 v1)
  case atStart => exact ⟨0, n, [], v0, rfl, by omega, rfl, by omega, hn, by rw [List.append_nil]; exact hw, by simp [sevM], Mod.refl _ _, Fresh.refl _ _⟩
  case round =>
    obtain ⟨i, v, l, v1, hgk, hi, rfl, hv, hv64, hW, hl, hM, hF⟩ := hrel
    have hs := hM.size
    have hlen : (l0 ++ l).length + 1 ≤ 140737488355328 := by
      have h5 : (l ++ sevF (10 - i) v).length = (sevM n).length := by rw [hl]
      have := sevM_len n
      rw [List.length_append] at h5 ⊢; omega
    obtain ⟨L, hLL⟩ : ∃ L, L = l0 ++ l := ⟨_, rfl⟩
    rw [← hLL] at hW hlen
    have HLe := Lib.hid hLL
    clear hLL
    have HL := Lib.hid hlen
    have hc := hW.box.cell 0 v1 rfl
    have hfz := hW.box.free 0
    have hp := hW.box.lt
    obtain ⟨xa, xc, rfl, _⟩ := hW.own.slice
    have HW := Lib.hid hW
    have HM := Lib.hid hM
    have HF := Lib.hid hF
    have HLL := Lib.hid hl
    by_cases hc2 : 127 < v
    · have g1 : (127 : Int) < (v : Int) := by omega
      have Hgk := Lib.hid hgk
      obtain ⟨k, hk⟩ : ∃ k, k = v % 128 + 128 := ⟨_, rfl⟩
      have HV8 := Lib.hid (v8_nat k (by omega))
      have hor : bits .or .u8 ((v : Int) % 256) 128 = (k : Int) := by
        have := u8_or2 (v % 256) (by omega)
        rw [show ((v : Int) % 256) = ((v % 256 : Nat) : Int) by omega, this]; omega
      have hi8 : i < 9 := by
        rcases Nat.lt_or_ge i 9 with h | h
        · exact h
        · have : i = 9 := by omega
          subst this; omega
      have HI := Lib.hid hi8
      have HQ2 := Lib.hid (show v / 128 < 2 ^ 64 by omega)
      have HQ := Lib.hid (show v / 128 < 2 ^ (70 - 7 * (i + 1)) from by
        have e : 2 ^ (70 - 7 * i) = 2 ^ (70 - 7 * (i + 1)) * 128 := by rw [show 70 - 7 * i = (70 - 7 * (i + 1)) + 7 by omega, Nat.pow_add]
        rw [e] at hv
        exact Nat.div_lt_of_lt_mul (by rw [Nat.mul_comm]; exact hv))
      have HT := Lib.hid (show (l ++ [UInt8.ofNat k]) ++ sevF (10 - (i + 1)) (v / 128) = sevM n from by
        rw [show 10 - i = (9 - i) + 1 by omega] at hl
        unfold sevF at hl
        rw [if_neg (by omega)] at hl
        rw [← hl, hk, List.append_assoc, show 10 - (i + 1) = 9 - i by omega]; rfl)
      have hsh : (v : Int) / 128 = ((v / 128 : Nat) : Int) := by omega
      obtain ⟨q, hq⟩ : ∃ q, q = v / 128 := ⟨_, rfl⟩
      rw [← hq] at hsh HQ HQ2 HT
      have HQv := Lib.hid (show q < v by omega)
      clear hv hv64 hl hM hF hi hlen hgk hc2 hk hi8 hq hW
      go_wp2_with (at_builtin; refine appM1 rfl _ _ rfl B _ _ _ rfl (HW.out.own.below (below_alloc wr _)) ⟨wr.heap.size, 0, none⟩ 1 (.int .u8 (k : Int)) rfl (by exact cell_one_new _ _ _ 0 _ rfl) (by simp [Value.oneCell']) (by have := HL.out; omega) (by simp; omega) ?_)
      intro v' w1 hown' hg' hm' _
      obtain ⟨ya, yc, rfl, _⟩ := hown'.slice
      have hWa := HW.out.below (below_alloc wr (.cells #[.int .u8 (k : Int)] 5))
      have hst := hWa.step (m := [UInt8.ofNat k]) (by rw [List.length_singleton, List.map_singleton, HV8.out]; exact hown') hg' hm'
      obtain ⟨s1, s2, s3⟩ := hst
      have hbx : Box w1 p #[_] _ := hWa.box.grown hg' hWa.ne
      have c1 := hbx.cell 0 _ rfl
      have f1 := hbx.free 0
      have hma := Mod.of_below (F := WF p (.slice xa L.length xc)) (below_alloc wr (.cells #[.int .u8 (k : Int)] 5))
      have HS1 := Lib.hid s1
      have HS2 := Lib.hid (WF.then HM.out HF.out (hma.trans s2))
      have HS3 := Lib.hid (HF.out.trans hs (Fresh.trans (Fresh.refl wr _) (show wr.heap.size ≤ (wr.alloc (.cells #[.int .u8 (k : Int)] 5)).heap.size by simp) s3))
      clear s1 s2 s3 hbx hWa hma hown' hg' hm' hc hfz hp
      go_wp2_with fail
      go_roundg q
      case measure => have := HQv.out; have := Hgk.out; omega
      case rel => exact ⟨i + 1, q, l ++ [UInt8.ofNat k], _, rfl, by have := HI.out; omega, by go_num, HQ.out, HQ2.out, by rw [← List.append_assoc, ← HLe.out]; exact HS1.out, HT.out, HS2.out, HS3.out⟩
    · have g1 : ¬ (127 : Int) < (v : Int) := by omega
      have HV8 := Lib.hid (v8_nat v (by omega))
      have hmod : (v : Int) % 256 = (v : Int) := by omega
      have HT := Lib.hid (show l ++ [UInt8.ofNat v] = sevM n from by
        rw [show 10 - i = (9 - i) + 1 by omega] at hl
        unfold sevF at hl
        rw [if_pos (by omega)] at hl; exact hl)
      clear hv hv64 hl hM hF hi hlen hgk hc2 hW
      go_wp2_with (at_builtin; refine appM1 rfl _ _ rfl B _ _ _ rfl (HW.out.own.below (below_alloc wr _)) ⟨wr.heap.size, 0, none⟩ 1 (.int .u8 (v : Int)) rfl (by exact cell_one_new _ _ _ 0 _ rfl) (by simp [Value.oneCell']) (by have := HL.out; omega) (by simp; omega) ?_)
      intro v' w1 hown' hg' hm' _
      obtain ⟨ya, yc, rfl, _⟩ := hown'.slice
      have hWa := HW.out.below (below_alloc wr (.cells #[.int .u8 (v : Int)] 5))
      have hst := hWa.step (m := [UInt8.ofNat v]) (by rw [List.length_singleton, List.map_singleton, HV8.out]; exact hown') hg' hm'
      obtain ⟨s1, s2, s3⟩ := hst
      have hbx : Box w1 p #[_] _ := hWa.box.grown hg' hWa.ne
      have c1 := hbx.cell 0 _ rfl
      have f1 := hbx.free 0
      have hma := Mod.of_below (F := WF p (.slice xa L.length xc)) (below_alloc wr (.cells #[.int .u8 (v : Int)] 5))
      have HS1 := Lib.hid s1
      have HS2 := Lib.hid (WF.then HM.out HF.out (hma.trans s2))
      have HS3 := Lib.hid (HF.out.trans hs (Fresh.trans (Fresh.refl wr _) (show wr.heap.size ≤ (wr.alloc (.cells #[.int .u8 (v : Int)] 5)).heap.size by simp) s3))
      clear s1 s2 s3 hbx hWa hma hown' hg' hm' hc hfz hp
      go_wp2_with fail
      refine bodyPost_end (results_none rfl _ _ _) rfl ?_
      refine ⟨rfl, _, ?_, HS2.out, HS3.out⟩
      rw [show l0 ++ sevM n = L ++ [UInt8.ofNat v] from by rw [HLe.out, List.append_assoc, HT.out]]; exact HS1.out
set_option maxHeartbeats 800000 in
theorem wText_calls (B p : Nat) (v0 : Value) (l0 : List UInt8) (m : List UInt8) (w : World) (hw : IsW w B p v0 l0) (hm : m.length ≤ 140737488340000) (hl0 : l0.length + m.length ≤ 140737488350000) (hB : B ≤ w.heap.size) :
    Calls Tryz.prog 69 #[.pointer (some ⟨p, 0, none⟩), .string (SB m)] w fun e w' => e = .returned (.tuple #[]) ∧ ∃ v', IsW w' B p v' (l0 ++ textB m) ∧ Mod (WF p v0) w w' ∧ Fresh w v0 v' := by
  have Hc := Lib.hid (wNumber_calls B p v0 l0 m.length w hw (by omega) (by omega) hB)
  have z1 := mod_u64n m.length (by omega)
  have hsz : (SB m).size = m.length := SB_size m
  go_enter Tryz.func69, Tryz.ntmps69
  go_wp2_with fail
  refine Hc.out.mono ?_
  rintro e w1 ⟨rfl, v1, h1, h2, h3⟩
  obtain ⟨L, hL⟩ : ∃ L, L = l0 ++ sevM m.length := ⟨_, rfl⟩
  rw [← hL] at h1
  have HL := Lib.hid (show L.length + m.length ≤ 140737488355328 from by
    have := sevM_len m.length
    rw [hL, List.length_append]; omega)
  have HLe := Lib.hid hL
  have hs := h2.size
  obtain ⟨xa, xc, rfl, _⟩ := h1.own.slice
  have hc := h1.box.cell 0 _ rfl
  have HW := Lib.hid h1
  have HM := Lib.hid h2
  have HF := Lib.hid h3
  clear h1 h2 h3 hL
  go_wp2_with (at_builtin; refine appMS rfl _ _ rfl B _ _ _ rfl HW.out.own m rfl (by have := HL.out; omega) (by omega) ?_)
  intro v' w2 hown' hg' hm'
  obtain ⟨ya, yc, rfl, _⟩ := hown'.slice
  obtain ⟨s1, s2, s3⟩ := HW.out.step hown' hg' hm'
  have hbx : Box w2 p #[_] _ := HW.out.box.grown hg' HW.out.ne
  have c1 := hbx.cell 0 _ rfl
  have f1 := hbx.free 0
  have HS1 := Lib.hid s1
  have HS2 := Lib.hid (WF.then HM.out HF.out s2)
  have HS3 := Lib.hid (HF.out.trans hs s3)
  clear s1 s2 s3 hbx hown' hg' hm' hc
  go_wp2_with fail
  refine bodyPost_end (results_none rfl _ _ _) rfl ?_
  refine ⟨rfl, _, ?_, HS2.out, HS3.out⟩
  rw [show l0 ++ textB m = L ++ m from by rw [HLe.out, List.append_assoc]; rfl]; exact HS1.out
theorem clone_calls (v : Value) (l : List UInt8) (w : World) (hv : Rd w v l.length (l.map V8)) (hl : l.length ≤ 140737488355000) :
    Calls Tryz.prog 97 #[v] w fun e w' => ∃ o, e = .returned o ∧ OwnM w' w.heap.size 5 o l.length (l.map V8) ∧ Below w.heap.size w w' := by
  have hv' := hv
  obtain ⟨a, cap, rfl, h1, h2, h3, h4⟩ := hv
  cases a with
  | none =>
    have h0 : l = [] := List.eq_nil_of_length_eq_zero (by have := h3 rfl; omega)
    subst h0
    have hc0 : cap = 0 := h3 rfl
    subst hc0
    clear h4 h3 hv'
    have heq := fun w => Lib.run_eql_slice_nil (P := Tryz.prog) w 92 5 none 0 0 0 0 Tryz.underlying92
    change ∀ w, Sem.run _ _ w = Result.ok (Value.bool true) w at heq
    go_enter Tryz.func97, Tryz.ntmps97
    go_wp2_with fail
    go_ret
    exact ⟨_, rfl, OwnM.nil _ _ _, Below.refl _ _⟩
  | some a =>
    have Hv := Lib.hid hv'
    clear h4 h3 hv'
    have heq := fun w => Lib.run_eql_slice_nil (P := Tryz.prog) w 92 5 (some a) l.length cap 0 0 Tryz.underlying92
    change ∀ w, Sem.run _ _ w = Result.ok (Value.bool false) w at heq
    have HO := Lib.hid (show OwnM (w.alloc (.cells #[] 5)) w.heap.size 5 (.slice (some ⟨w.heap.size, 0, none⟩) 0 0) 0 [] from ⟨rfl, .inr ⟨w.heap.size, 0, #[], (0, 0), rfl, Nat.le_refl _, heap_alloc_new w _, .inl rfl, by omega, by unfold maxLen; omega, by simp, rfl⟩⟩)
    go_enter Tryz.func97, Tryz.ntmps97
    go_wp2_with (at_builtin; refine appMR rfl _ _ rfl w.heap.size _ _ _ rfl HO.out _ l rfl (Hv.out.below (below_alloc w _)) (by omega) (by simp) ?_)
    intro v' w2 hown' hg' hm'
    have HB := Lib.hid ((below_alloc w (.cells #[] 5)).trans (below_grown hg' (by simp) (fun q hq => (HO.out.lt q hq).1)))
    have HO2 := Lib.hid hown'
    clear hown' hg' hm'
    go_wp2_with fail
    go_ret
    exact ⟨_, rfl, HO2.out, HB.out⟩
theorem wBytes_calls (B p : Nat) (v : Value) (l : List UInt8) (w : World) (hw : IsW w B p v l) (hl : l.length ≤ 140737488355000) :
    Calls Tryz.prog 70 #[.pointer (some ⟨p, 0, none⟩)] w fun e w' => ∃ o, e = .returned o ∧ OwnM w' w.heap.size 5 o l.length (l.map V8) ∧ Below w.heap.size w w' := by
  obtain ⟨xa, xc, rfl, _⟩ := hw.own.slice
  have hc := hw.box.cell 0 _ rfl
  have Hc := Lib.hid (clone_calls _ l w hw.own.rd hl)
  clear hw
  go_enter Tryz.func70, Tryz.ntmps70
  go_wp2_with fail
  refine Hc.out.mono ?_
  rintro e w1 ⟨o, rfl, h1, h2⟩
  have H1 := Lib.hid h1
  have H2 := Lib.hid h2
  clear h1 h2
  go_wp2_with fail
  go_ret
  exact ⟨_, rfl, H1.out, H2.out⟩
end Go.Proofs.YtgcnolapjppbpaaGreatDoor
namespace Go.Proofs.YtgcnolapjppbpaaGreatDoor
open Go.RowKit
set_option maxRecDepth 100000
theorem cell_other {w : World} {a b : Addr} (x : Value) (h : a.block ≠ b.block) : (w.setCell b x).cell? a = w.cell? a :=
  World.cell?_of_block (w := w) (Below.heap_setCell w b x a.block h)
theorem rmod {w w2 w3 w1 w4 : World} {r s : Nat} (h2 : Below w.heap.size w w2) (h3 : Below w2.heap.size w2 w3) (hm : Mod (fun i => i = r ∨ i = s) w3 w1) (hs : w.heap.size ≤ s) (hl : Mod (fun i => i = r ∨ w.heap.size ≤ i) w1 w4) : Mod (fun i => i = r) w w4 :=
  (Mod.of_below (F := fun i => i = r) (h2.trans (h3.mono h2.size))).then ((hm.mono (G := fun i => i = r ∨ w.heap.size ≤ i) (fun i hi => hi.imp id (fun e => by omega))).trans hl) (fun _ hi => hi)
set_option maxHeartbeats 800000 in
theorem number1_calls (r k b1 b4 : Nat) (v x : Value) (l : List UInt8) (t : TypeId) (w : World) (h : IsR w r v l k) (h1 : w.cell? ⟨b1, 0, none⟩ = some (.pointer (some ⟨r, 0, none⟩))) (h4 : Box w b4 #[x] t) (hne : b4 ≠ r) (hv : v.ownBlock ≠ some b4) :
    Calls Tryz.prog 181 #[.pointer (some ⟨b1, 0, none⟩), .pointer (some ⟨b4, 0, none⟩)] w fun e w' => Mod (fun i => i = r ∨ i = b4) w w' ∧
      ((e = .returned (.tuple #[]) ∧ ((numR (l.drop k)).1 = 0 ∧ w'.cell? ⟨b4, 0, none⟩ = some (.int .u64 ((numR (l.drop k)).2.1 : Int)) ∧ IsR w' r v l (k + (numR (l.drop k)).2.2))) ∨ ∃ n, e = pan n ∧ (n = (numR (l.drop k)).1 ∧ (numR (l.drop k)).1 ≠ 0) ∧ ∃ j, IsR w' r v l j) := by
  have Hc := Lib.hid (sevens_calls r k v l w h)
  generalize numR (l.drop k) = N at Hc ⊢
  have HX := Lib.hid h4
  clear h h4
  go_enter Tryz.func181, Tryz.ntmps181
  go_wp2_with fail
  refine Hc.out.mono ?_
  rintro e w1 ⟨hm, ⟨hn, rfl, hi⟩ | ⟨hn, rfl, hj⟩⟩
  · have hx1 := HX.out.mod hm hne
    have c0 := hx1.cell 0 _ rfl
    have f0 := hx1.free 0
    have hms := Mod.set (fun i => i = b4) w1 ⟨b4, 0, none⟩ (.int .u64 (N.2.1 : Int)) rfl
    have HI := Lib.hid (hi.mod hms (fun e => hne e.symm) (fun b hb e => hv (by rw [hb, e])))
    have HC := Lib.hid ((hx1.set 0 (.int .u64 (N.2.1 : Int))).cell 0 _ rfl)
    have HM := Lib.hid ((hm.mono (fun i hi => Or.inl hi : ∀ i, i = r → i = r ∨ i = b4)).trans (hms.mono (fun i hi => Or.inr hi : ∀ i, i = b4 → i = r ∨ i = b4)))
    have HN := Lib.hid hn
    clear hm hx1 hms hi hn
    go_wp2_with fail
    refine bodyPost_end (results_none rfl _ _ _) rfl ?_
    exact ⟨HM.out, .inl ⟨rfl, HN.out, HC.out, HI.out⟩⟩
  · have HM := Lib.hid (hm.mono (fun i hi => Or.inl hi : ∀ i, i = r → i = r ∨ i = b4))
    have HN := Lib.hid hn
    have HJ := Lib.hid hj
    clear hm hn hj
    unfold pan
    go_wp2_with fail
    exact ⟨rfl, HM.out, .inr ⟨_, rfl, ⟨rfl, HN.out⟩, HJ.out⟩⟩
set_option maxHeartbeats 1600000 in
theorem rNumber_calls (r k : Nat) (v : Value) (l : List UInt8) (w : World) (h : IsR w r v l k) (hvl : ∀ b, v.ownBlock = some b → b < w.heap.size) :
    Calls Tryz.prog 161 #[.pointer (some ⟨r, 0, none⟩)] w fun e w' => Mod (fun i => i = r) w w' ∧
      (((numR (l.drop k)).1 = 0 ∧ e = .returned (.tuple #[.int .u64 ((numR (l.drop k)).2.1 : Int), .nilIface]) ∧ IsR w' r v l (k + (numR (l.drop k)).2.2)) ∨ ((numR (l.drop k)).1 ≠ 0 ∧ e = .returned (.tuple #[.int .u64 0, .iface 91 (.int .i64 (numR (l.drop k)).1)]) ∧ IsR w' r v l k)) := by
  have hmf : ∀ (fn : Fn) (first cap : Array Value) (w : World), (Instr.makeFunc fn first cap).run Tryz.prog w = .ok (.func fn first cap) w := fun _ _ _ _ => rfl
  have hrl := h.box.lt
  obtain ⟨w2, hw2⟩ : ∃ w2, w2 = (w.alloc (.cells #[.pointer (some ⟨r, 0, none⟩)] 235)).alloc (.cells #[.int .u64 0] 42) := ⟨_, rfl⟩
  have hsz : w2.heap.size = w.heap.size + 2 := by rw [hw2, World.size_alloc, World.size_alloc]
  have hb2 : Below w.heap.size w w2 := by rw [hw2]; exact (below_alloc w _).trans ((below_alloc _ _).mono (by simp))
  have hb3 : Below w2.heap.size w2 (TakeW w2 r k) := by unfold TakeW; exact ((below_alloc w2 _).trans ((below_alloc _ _).mono (by simp))).trans ((below_alloc _ _).mono (by simp; omega))
  have hx1 : Box w2 w.heap.size #[.pointer (some ⟨r, 0, none⟩)] 235 := by rw [hw2]; exact (Box.new w _ _).below (below_alloc _ _)
  have hx4 : Box w2 (w.heap.size + 1) #[.int .u64 0] 42 := by
    rw [hw2]; have := Box.new (w.alloc (.cells #[.pointer (some ⟨r, 0, none⟩)] 235)) #[.int .u64 0] 42
    rw [World.size_alloc] at this; exact this
  have hi3 := (h.below hb2).below hb3
  have hc := take_number r k v l ⟨w.heap.size, 0, none⟩ ⟨w.heap.size + 1, 0, none⟩ w2 (h.below hb2) _ _ (fun i => i = r ∨ i = w.heap.size + 1) (fun i hi => by omega)
    (number1_calls r k w.heap.size (w.heap.size + 1) v _ l 42 (TakeW w2 r k) hi3 ((hx1.below hb3).cell 0 _ rfl) (hx4.below hb3) (by omega) (fun e => by have := hvl _ e; omega))
  rw [hw2] at hc
  have HC := Lib.hid hc
  rw [← hw2] at HC
  clear hc
  have HB2 := Lib.hid hb2
  have HB3 := Lib.hid hb3
  have HX4 := Lib.hid hx4
  have HLE := Lib.hid h.le
  clear hb2 hb3 hx1 hx4 hi3 h
  generalize numR (l.drop k) = N at HC ⊢
  go_enter Tryz.func161, Tryz.ntmps161
  go_wp2_with fail
  rw [← hw2]
  clear hw2
  refine HC.out.mono ?_
  rintro e w9 (⟨rfl, w1, ⟨hn, hcl, hi⟩, hm, rfl⟩ | ⟨n, rfl, w1, ⟨rfl, hn⟩, hm, ⟨j, hj⟩, rfl⟩)
  · have hms := Mod.set (fun i => i = w2.heap.size + 1) w1 ⟨w2.heap.size + 1, 0, none⟩ .nilIface rfl
    have c4 := (cell_other (w := w1) (a := ⟨w.heap.size + 1, 0, none⟩) (b := ⟨w2.heap.size + 1, 0, none⟩) .nilIface (by simp; omega)).trans hcl
    have HI := Lib.hid (hi.mod hms (by omega) (fun b hb e => by have := hvl _ hb; omega))
    have HM := Lib.hid (rmod HB2.out HB3.out hm (by omega) (hms.mono (G := fun i => i = r ∨ w.heap.size ≤ i) (fun i hi => .inr (by omega))))
    have HN := Lib.hid hn
    clear hn hcl hi hm hms HC hsz
    go_wp2_with fail
    refine bodyPost_ret (results_tmp2 rfl _ _ _) rfl ?_
    exact ⟨HM.out, .inl ⟨HN.out, rfl, HI.out⟩⟩
  · obtain ⟨hs1, hs2⟩ := hj.set k HLE.out
    have hms := Mod.set (fun i => i = w2.heap.size + 1) (w1.setCell ⟨r, 1, none⟩ (.int .i64 (k : Int))) ⟨w2.heap.size + 1, 0, none⟩ (.iface 91 (.int .i64 N.1)) rfl
    have HI := Lib.hid (hs1.mod hms (by omega) (fun b hb e => by have := hvl _ hb; omega))
    have HM := Lib.hid (rmod HB2.out HB3.out hm (by omega) ((hs2.mono (G := fun i => i = r ∨ w.heap.size ≤ i) (fun i hi => .inl hi)).trans (hms.mono (G := fun i => i = r ∨ w.heap.size ≤ i) (fun i hi => .inr (by omega)))))
    have HN := Lib.hid hn
    clear hn hj hm hms hs1 hs2 HC hsz
    go_wp2_with fail
    refine bodyPost_ret (results_tmp2 rfl _ _ _) rfl ?_
    exact ⟨HM.out, .inr ⟨HN.out, rfl, HI.out⟩⟩
theorem left_calls (r k : Nat) (v : Value) (l : List UInt8) (w : World) (h : IsR w r v l k) :
    Calls Tryz.prog 162 #[.pointer (some ⟨r, 0, none⟩)] w fun e w' => e = .returned (.int .i64 ((l.length - k : Nat) : Int)) ∧ Below w.heap.size w w' ∧ IsR w' r v l k := by
  have hr := h.rd
  obtain ⟨a, cap, rfl, h1, h2, _, _⟩ := hr
  have hsm := h.sm
  have hle := h.le
  have c0 := h.box.cell 0 _ rfl
  have c1 := h.box.cell 1 _ rfl
  have HI := Lib.hid h
  have z1 : IntKind.i64.wrap ((l.length : Int) - (k : Int)) = ((l.length - k : Nat) : Int) := by simp [IntKind.wrap, IntKind.bits, IntKind.signed]; omega
  clear h
  go_enter Tryz.func162, Tryz.ntmps162
  go_wp2_with fail
  go_quiet (fail)
  have hb2 : Below w.heap.size w (w.drewN nq) := ⟨rfl, rfl, rfl, Nat.le_refl _, fun _ _ => rfl⟩
  have HI2 := Lib.hid (HI.out.below hb2)
  go_wp2_with fail
  go_ret
  exact ⟨rfl, hb2, HI2.out⟩
theorem end_calls (r k : Nat) (v : Value) (l : List UInt8) (w : World) (h : IsR w r v l k) :
    Calls Tryz.prog 125 #[.pointer (some ⟨r, 0, none⟩)] w fun e w' => e = .returned (errV (if k < l.length then 3 else 0)) ∧ Below w.heap.size w w' := by
  obtain ⟨E, hE⟩ : ∃ E, E = errV (if k < l.length then 3 else 0) := ⟨_, rfl⟩
  rw [← hE]
  have Hc := Lib.hid (left_calls r k v l w h)
  obtain ⟨d, hd⟩ : ∃ d, d = l.length - k := ⟨_, rfl⟩
  rw [← hd] at Hc
  have hle := h.le
  clear h
  go_enter Tryz.func125, Tryz.ntmps125
  go_wp2_with fail
  refine Hc.out.mono ?_
  rintro e w1 ⟨rfl, hb, _⟩
  have HB := Lib.hid hb
  clear hb Hc
  by_cases hk : k < l.length
  · have HE := Lib.hid (show E = .iface 91 (.int .i64 3) by rw [hE, if_pos hk]; rfl)
    have g1 : (0 : Int) < (d : Int) := by omega
    clear hk hd hle hE
    go_wp2_with fail
    go_ret
    rw [HE.out]; exact ⟨rfl, HB.out⟩
  · have HE := Lib.hid (show E = .nilIface by rw [hE, if_neg hk]; rfl)
    have g1 : ¬ (0 : Int) < (d : Int) := by omega
    clear hk hd hle hE
    go_wp2_with fail
    go_ret
    rw [HE.out]; exact ⟨rfl, HB.out⟩
theorem open_calls (v : Value) (l : List UInt8) (w : World) (h : Rd w v l.length (l.map V8)) (hl : l.length ≤ 1000000000000) :
    Calls Tryz.prog 121 #[v] w fun e w' => ∃ r v', e = .returned (.pointer (some ⟨r, 0, none⟩)) ∧ IsR w' r v' l 0 ∧ Below w.heap.size w w' ∧ w.heap.size ≤ r ∧ (∀ b, v'.ownBlock = some b → w.heap.size ≤ b ∧ b < w'.heap.size) := by
  have Hc := Lib.hid (clone_calls v l w h (by omega))
  obtain ⟨a, cap, rfl, _⟩ := h
  go_enter Tryz.func121, Tryz.ntmps121
  go_wp2_with fail
  refine Hc.out.mono ?_
  rintro e w1 ⟨o, rfl, ho, hb⟩
  obtain ⟨a2, c2, rfl, _⟩ := ho.slice
  have HO := Lib.hid ho
  have HB := Lib.hid hb
  clear ho hb Hc
  go_wp2_with fail
  go_ret
  have hb2 := below_alloc w1 (.cells #[.slice a2 l.length c2, .int .i64 0] 288)
  refine ⟨w1.heap.size, _, rfl, ⟨Box.new _ _ _, HO.out.rd.below hb2, by omega, fun e => by have := (HO.out.lt _ e).2; omega, hl⟩, HB.out.trans (hb2.mono HB.out.size), HB.out.size, fun b hbb => ⟨(HO.out.lt b hbb).1, by have := (HO.out.lt b hbb).2; simp; omega⟩⟩
end Go.Proofs.YtgcnolapjppbpaaGreatDoor
