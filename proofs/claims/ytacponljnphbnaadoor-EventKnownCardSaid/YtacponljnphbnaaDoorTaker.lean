/-
  Package event: the taker.
-/
import Derived.Test.YtacponljnphbnaaDoorRTxt
namespace Go.Proofs.YtacponljnphbnaaDoor
open Go.RowKit
set_option maxRecDepth 100000

/-- What is taken so far: the bytes, the place, the error, numbers that don't fit. -/
structure TkM where
  l : List UInt8
  k : Nat
  er : Int
  big : Bool
def TkM.rest (s : TkM) : List UInt8 := s.l.drop s.k
def TkM.num (s : TkM) : Nat × TkM := if s.er = 0 then (if (numR s.rest).1 = 0 then ((numR s.rest).2.1, ⟨s.l, s.k + (numR s.rest).2.2, 0, s.big⟩) else (0, ⟨s.l, s.k, (numR s.rest).1, s.big⟩)) else (0, s)
def TkM.txt (s : TkM) : List UInt8 × TkM := if s.er = 0 then (if (textR s.rest).1 = 0 then ((textR s.rest).2.1, ⟨s.l, s.k + (textR s.rest).2.2, 0, s.big⟩) else ([], ⟨s.l, s.k, (textR s.rest).1, s.big⟩)) else ([], s)
def asInt (n : Nat) : Int := if n ≤ 9223372036854775807 then (n : Int) else (n : Int) - 18446744073709551616
def TkM.int (s : TkM) : Int × TkM := (asInt s.num.1, ⟨s.num.2.l, s.num.2.k, s.num.2.er, s.num.2.big || !(decide (s.num.1 ≤ 9223372036854775807))⟩)
structure IsT (w : World) (t r : Nat) (v : Value) (s : TkM) : Prop where
  box : Box w t #[.pointer (some ⟨r, 0, none⟩), errV s.er, .bool s.big] 88
  rd : IsR w r v s.l s.k
  ne : t ≠ r
  nv : v.ownBlock ≠ some t
  vl : ∀ b, v.ownBlock = some b → b < w.heap.size
theorem IsT.mod {w w' : World} {t r : Nat} {v : Value} {s : TkM} {F : Nat → Prop} (h : IsT w t r v s) (hm : Mod F w w') (h1 : ¬ F t) (h2 : ¬ F r) (h3 : ∀ b, v.ownBlock = some b → ¬ F b) : IsT w' t r v s :=
  ⟨h.box.mod hm h1, h.rd.mod hm h2 h3, h.ne, h.nv, fun b hb => Nat.lt_of_lt_of_le (h.vl b hb) hm.size⟩
theorem IsT.below {w w' : World} {t r : Nat} {v : Value} {s : TkM} (h : IsT w t r v s) (hb : Below w.heap.size w w') : IsT w' t r v s := h.mod (Mod.of_below (F := fun _ => False) hb) (fun h => h) (fun h => h) (fun _ _ h => h)
theorem errV_no {n : Int} (h : n ≠ 0) : errV n = .iface 59 (.int .i64 n) := by unfold errV; rw [if_neg h]
set_option maxHeartbeats 1600000 in
theorem tkNumber_calls (t r : Nat) (v : Value) (s : TkM) (w : World) (h : IsT w t r v s) :
    Calls Tryd.prog 38 #[.pointer (some ⟨t, 0, none⟩)] w fun e w' => e = .returned (.int .u64 (s.num.1 : Int)) ∧ IsT w' t r v s.num.2 ∧ Mod (fun i => i = r ∨ i = t) w w' := by
  have HT := Lib.hid h
  have c0 := h.box.cell 0 _ rfl
  have c1 : w.cell? ⟨t, 1, none⟩ = some (errV s.er) := h.box.cell 1 _ rfl
  by_cases he : s.er = 0
  rotate_left
  · have HS := Lib.hid (show s.num = (0, s) by unfold TkM.num; rw [if_neg he])
    rw [errV_no he] at c1
    clear h
    go_enter Tryd.func38, Tryd.ntmps38
    go_wp2_with fail
    go_ret
    rw [HS.out]
    exact ⟨rfl, HT.out, Mod.refl _ _⟩
  · obtain ⟨N, hN⟩ : ∃ N, N = numR s.rest := ⟨_, rfl⟩
    have Hc := Lib.hid (rNumber_calls r s.k v s.l w h.rd h.vl)
    change Hid (Calls _ _ _ _ fun e w' => Mod (fun i => i = r) w w' ∧ (((numR s.rest).1 = 0 ∧ e = .returned (.tuple #[.int .u64 ((numR s.rest).2.1 : Int), .nilIface]) ∧ IsR w' r v s.l (s.k + (numR s.rest).2.2)) ∨ ((numR s.rest).1 ≠ 0 ∧ e = .returned (.tuple #[.int .u64 0, .iface 59 (.int .i64 (numR s.rest).1)]) ∧ IsR w' r v s.l s.k))) at Hc
    have HS := Lib.hid (show s.num = (if N.1 = 0 then (N.2.1, ⟨s.l, s.k + N.2.2, 0, s.big⟩) else (0, ⟨s.l, s.k, N.1, s.big⟩)) by unfold TkM.num; rw [if_pos he, hN])
    rw [← hN] at Hc
    rw [show errV s.er = .nilIface by unfold errV; rw [if_pos he]] at c1
    clear h hN
    go_enter Tryd.func38, Tryd.ntmps38
    go_wp2_with fail
    refine Hc.out.mono ?_
    rintro e w1 ⟨hm, ⟨hn, rfl, hi⟩ | ⟨hn, rfl, hi⟩⟩
    · have hbx := HT.out.box.mod hm HT.out.ne
      have HS' := Lib.hid (show s.num = (N.2.1, ⟨s.l, s.k + N.2.2, 0, s.big⟩) by rw [HS.out, if_pos hn])
      have d1 := hbx.cell 1 _ rfl
      have f1 := hbx.free 1
      have hms := Mod.set (fun i => i = t) w1 ⟨t, 1, none⟩ .nilIface rfl
      have HR := Lib.hid (show IsT (w1.setCell ⟨t, 1, none⟩ .nilIface) t r v ⟨s.l, s.k + N.2.2, 0, s.big⟩ from ⟨hbx.set 1 .nilIface, hi.mod hms (fun e => HT.out.ne e.symm) (fun b hb e => HT.out.nv (by rw [hb, e])), HT.out.ne, HT.out.nv, fun b hb => by have := HT.out.vl b hb; have := hm.size; simp; omega⟩)
      have HM := Lib.hid ((hm.mono (fun i hi => Or.inl hi : ∀ i, i = r → i = r ∨ i = t)).trans (hms.mono (fun i hi => Or.inr hi : ∀ i, i = t → i = r ∨ i = t)))
      clear hm hn hi hbx hms HS c0 c1 he
      go_wp2_with fail
      go_ret
      rw [HS'.out]
      exact ⟨rfl, HR.out, HM.out⟩
    · have hbx := HT.out.box.mod hm HT.out.ne
      have HS' := Lib.hid (show s.num = (0, ⟨s.l, s.k, N.1, s.big⟩) by rw [HS.out, if_neg hn])
      have d1 := hbx.cell 1 _ rfl
      have f1 := hbx.free 1
      have hms := Mod.set (fun i => i = t) w1 ⟨t, 1, none⟩ (.iface 59 (.int .i64 N.1)) rfl
      have HR := Lib.hid (show IsT (w1.setCell ⟨t, 1, none⟩ (.iface 59 (.int .i64 N.1))) t r v ⟨s.l, s.k, N.1, s.big⟩ from ⟨by rw [errV_no hn]; exact hbx.set 1 _, hi.mod hms (fun e => HT.out.ne e.symm) (fun b hb e => HT.out.nv (by rw [hb, e])), HT.out.ne, HT.out.nv, fun b hb => by have := HT.out.vl b hb; have := hm.size; simp; omega⟩)
      have HM := Lib.hid ((hm.mono (fun i hi => Or.inl hi : ∀ i, i = r → i = r ∨ i = t)).trans (hms.mono (fun i hi => Or.inr hi : ∀ i, i = t → i = r ∨ i = t)))
      clear hm hn hi hbx hms HS c0 c1 he
      go_wp2_with fail
      go_ret
      rw [HS'.out]
      exact ⟨rfl, HR.out, HM.out⟩
set_option maxHeartbeats 1600000 in
theorem tkText_calls (t r : Nat) (v : Value) (s : TkM) (w : World) (h : IsT w t r v s) :
    Calls Tryd.prog 40 #[.pointer (some ⟨t, 0, none⟩)] w fun e w' => e = .returned (.string (SB s.txt.1)) ∧ IsT w' t r v s.txt.2 ∧ Mod (fun i => i = r ∨ i = t) w w' := by
  have HT := Lib.hid h
  have c0 := h.box.cell 0 _ rfl
  have c1 : w.cell? ⟨t, 1, none⟩ = some (errV s.er) := h.box.cell 1 _ rfl
  by_cases he : s.er = 0
  rotate_left
  · have HS := Lib.hid (show s.txt = ([], s) by unfold TkM.txt; rw [if_neg he])
    rw [errV_no he] at c1
    clear h
    go_enter Tryd.func40, Tryd.ntmps40
    go_wp2_with fail
    go_ret
    rw [HS.out]
    exact ⟨rfl, HT.out, Mod.refl _ _⟩
  · obtain ⟨N, hN⟩ : ∃ N, N = textR s.rest := ⟨_, rfl⟩
    have Hc := Lib.hid (rText_calls r s.k v s.l w h.rd h.vl)
    change Hid (Calls _ _ _ _ fun e w' => Mod (fun i => i = r) w w' ∧ (((textR s.rest).1 = 0 ∧ e = .returned (.tuple #[.string (SB (textR s.rest).2.1), .nilIface]) ∧ IsR w' r v s.l (s.k + (textR s.rest).2.2)) ∨ ((textR s.rest).1 ≠ 0 ∧ e = .returned (.tuple #[.string ⟨#[]⟩, .iface 59 (.int .i64 (textR s.rest).1)]) ∧ IsR w' r v s.l s.k))) at Hc
    have HS := Lib.hid (show s.txt = (if N.1 = 0 then (N.2.1, ⟨s.l, s.k + N.2.2, 0, s.big⟩) else ([], ⟨s.l, s.k, N.1, s.big⟩)) by unfold TkM.txt; rw [if_pos he, hN])
    rw [← hN] at Hc
    rw [show errV s.er = .nilIface by unfold errV; rw [if_pos he]] at c1
    clear h hN
    go_enter Tryd.func40, Tryd.ntmps40
    go_wp2_with fail
    refine Hc.out.mono ?_
    rintro e w1 ⟨hm, ⟨hn, rfl, hi⟩ | ⟨hn, rfl, hi⟩⟩
    · have hbx := HT.out.box.mod hm HT.out.ne
      have HS' := Lib.hid (show s.txt = (N.2.1, ⟨s.l, s.k + N.2.2, 0, s.big⟩) by rw [HS.out, if_pos hn])
      have d1 := hbx.cell 1 _ rfl
      have f1 := hbx.free 1
      have hms := Mod.set (fun i => i = t) w1 ⟨t, 1, none⟩ .nilIface rfl
      have HR := Lib.hid (show IsT (w1.setCell ⟨t, 1, none⟩ .nilIface) t r v ⟨s.l, s.k + N.2.2, 0, s.big⟩ from ⟨hbx.set 1 .nilIface, hi.mod hms (fun e => HT.out.ne e.symm) (fun b hb e => HT.out.nv (by rw [hb, e])), HT.out.ne, HT.out.nv, fun b hb => by have := HT.out.vl b hb; have := hm.size; simp; omega⟩)
      have HM := Lib.hid ((hm.mono (fun i hi => Or.inl hi : ∀ i, i = r → i = r ∨ i = t)).trans (hms.mono (fun i hi => Or.inr hi : ∀ i, i = t → i = r ∨ i = t)))
      clear hm hn hi hbx hms HS c0 c1 he
      go_wp2_with fail
      go_ret
      rw [HS'.out]
      exact ⟨rfl, HR.out, HM.out⟩
    · have hbx := HT.out.box.mod hm HT.out.ne
      have HS' := Lib.hid (show s.txt = ([], ⟨s.l, s.k, N.1, s.big⟩) by rw [HS.out, if_neg hn])
      have d1 := hbx.cell 1 _ rfl
      have f1 := hbx.free 1
      have hms := Mod.set (fun i => i = t) w1 ⟨t, 1, none⟩ (.iface 59 (.int .i64 N.1)) rfl
      have HR := Lib.hid (show IsT (w1.setCell ⟨t, 1, none⟩ (.iface 59 (.int .i64 N.1))) t r v ⟨s.l, s.k, N.1, s.big⟩ from ⟨by rw [errV_no hn]; exact hbx.set 1 _, hi.mod hms (fun e => HT.out.ne e.symm) (fun b hb e => HT.out.nv (by rw [hb, e])), HT.out.ne, HT.out.nv, fun b hb => by have := HT.out.vl b hb; have := hm.size; simp; omega⟩)
      have HM := Lib.hid ((hm.mono (fun i hi => Or.inl hi : ∀ i, i = r → i = r ∨ i = t)).trans (hms.mono (fun i hi => Or.inr hi : ∀ i, i = t → i = r ∨ i = t)))
      clear hm hn hi hbx hms HS c0 c1 he
      go_wp2_with fail
      go_ret
      rw [HS'.out]
      exact ⟨rfl, HR.out, HM.out⟩
end Go.Proofs.YtacponljnphbnaaDoor
