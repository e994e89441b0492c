/-
  Package event: the taker's ints.
-/
import Derived.Test.YtacponljnphbnaaDoorTaker
namespace Go.Proofs.YtacponljnphbnaaDoor
open Go.RowKit
set_option maxRecDepth 100000

theorem numGo_lt : ∀ (l : List UInt8) (i u : Nat), i ≤ 9 → u < 2 ^ (7 * i) → (numGo i u l).2.1 < 2 ^ 64
  | [], i, u, _, _ => by unfold numGo; exact (show (0 : Nat) < 2 ^ 64 by decide)
  | c :: l, i, u, hi, hu => by
    unfold numGo
    split
    · exact (show (0 : Nat) < 2 ^ 64 by decide)
    · rename_i hf
      have hc := c.toNat_lt
      have h2 : (2 : Nat) ^ (7 * i) ≤ 2 ^ 63 := Nat.pow_le_pow_right (by omega) (by omega)
      split
      · have h1 := (sev_lt (m := c.toNat) (i := i) (by omega) hi (by omega)).1
        show u + c.toNat * 2 ^ (7 * i) < 2 ^ 64
        omega
      · refine numGo_lt l (i + 1) _ (by omega) ?_
        rw [show 7 * (i + 1) = 7 * i + 7 by omega, Nat.pow_add]
        have : (c.toNat - 128 + 1) * 2 ^ (7 * i) ≤ 128 * 2 ^ (7 * i) := Nat.mul_le_mul_right _ (by omega)
        rw [Nat.add_mul] at this
        rw [Nat.mul_comm (2 ^ (7 * i)) (2 ^ 7)]; omega
theorem numR_lt (l : List UInt8) : (numR l).2.1 < 2 ^ 64 := numGo_lt l 0 0 (by omega) (by omega)
theorem TkM.num_lt (s : TkM) : s.num.1 < 2 ^ 64 := by
  unfold TkM.num
  split
  · split
    · exact numR_lt _
    · exact (show (0 : Nat) < 2 ^ 64 by decide)
  · exact (show (0 : Nat) < 2 ^ 64 by decide)
theorem wrap_asInt (n : Nat) (h : n < 2 ^ 64) : IntKind.i64.wrap (n : Int) = asInt n := by
  unfold asInt
  by_cases h2 : n ≤ 9223372036854775807
  · rw [if_pos h2]; simp [IntKind.wrap, IntKind.bits, IntKind.signed]; omega
  · rw [if_neg h2]; simp [IntKind.wrap, IntKind.bits, IntKind.signed]; omega
def intsM (s : TkM) (cs : Array Value) (offs : List Nat) : TkM × Array Value := offs.foldl (fun p o => (p.1.int.2, p.2.setIfInBounds o (.int .i64 p.1.int.1))) (s, cs)
theorem intsM_snoc (s : TkM) (cs : Array Value) (offs : List Nat) (o : Nat) : intsM s cs (offs ++ [o]) = ((intsM s cs offs).1.int.2, (intsM s cs offs).2.setIfInBounds o (.int .i64 (intsM s cs offs).1.int.1)) := by simp [intsM]
theorem intsM_size (s : TkM) (cs : Array Value) : ∀ offs : List Nat, (intsM s cs offs).2.size = cs.size := by
  intro offs
  unfold intsM
  have : ∀ (offs : List Nat) (p : TkM × Array Value), (offs.foldl (fun p o => (p.1.int.2, p.2.setIfInBounds o (.int .i64 p.1.int.1))) p).2.size = p.2.size := by
    intro offs
    induction offs with
    | nil => intro p; rfl
    | cons o offs ih => intro p; rw [List.foldl_cons, ih]; simp
  exact this offs (s, cs)
set_option maxHeartbeats 1600000 in
theorem tkInts_calls (t r eb sb : Nat) (v : Value) (s : TkM) (offs : List Nat) (cs : Array Value) (T Ts : TypeId) (w : World) (h : IsT w t r v s) (hb : Box w eb cs T) (hs : Box w sb (offs.map (fun o => Value.pointer (some ⟨eb, o, none⟩))).toArray Ts)
    (ho : ∀ o ∈ offs, o < cs.size) (h1 : eb ≠ t) (h2 : eb ≠ r) (h3 : sb ≠ t) (h4 : sb ≠ r) (h5 : sb ≠ eb) (h6 : v.ownBlock ≠ some eb) (hn : offs.length ≤ 100) :
    Calls Tryd.prog 39 #[.pointer (some ⟨t, 0, none⟩), .slice (some ⟨sb, 0, none⟩) offs.length offs.length] w fun e w' => e = .returned (.tuple #[]) ∧ IsT w' t r v (intsM s cs offs).1 ∧ Box w' eb (intsM s cs offs).2 T ∧ Mod (fun i => i = r ∨ i = t ∨ i = eb) w w' := by
  go_enter Tryd.func39, Tryd.ntmps39
  go_wp2_with fail
  go_loopg [9] offs.length (fun gk iv wr => ∃ j : Nat, gk + j = offs.length ∧ iv = .int .i64 (j : Int) ∧ IsT wr t r v (intsM s cs (offs.take j)).1 ∧ Box wr eb (intsM s cs (offs.take j)).2 T ∧ Mod (fun i => i = r ∨ i = t ∨ i = eb) w wr)
  case atStart => exact ⟨0, rfl, rfl, h, hb, Mod.refl _ _⟩
  case round =>
    obtain ⟨j, hgk, rfl, hT, hB, hM⟩ := hrel
    by_cases hj : j < offs.length
    · obtain ⟨o, hoo⟩ : ∃ o, o = offs[j] := ⟨_, rfl⟩
      have hlt : o < cs.size := ho o (by rw [hoo]; exact List.getElem_mem _)
      have hst : offs.take (j + 1) = offs.take j ++ [o] := by rw [List.take_succ_eq_append_getElem hj, hoo]
      have hsz := intsM_size s cs (offs.take j)
      have HX := Lib.hid (intsM_snoc s cs (offs.take j) o)
      rw [← hst] at HX
      generalize intsM s cs (offs.take j) = p at hT hB HX hsz
      obtain ⟨s1, cs1⟩ := p
      simp only at hT hB HX hsz
      have c0 : wr.cell? ⟨sb, j, none⟩ = some (.pointer (some ⟨eb, o, none⟩)) := (hs.mod hM (by rintro (e | e | e) <;> contradiction)).cell j _ (by simp [hj, hoo])
      have Hc := Lib.hid (tkNumber_calls t r v s1 wr hT)
      have hxl := s1.num_lt
      have HI := Lib.hid (show s1.int = (asInt s1.num.1, ⟨s1.num.2.l, s1.num.2.k, s1.num.2.er, s1.num.2.big || !(decide (s1.num.1 ≤ 9223372036854775807))⟩) from rfl)
      generalize s1.num = q at Hc hxl HI
      obtain ⟨x, s2⟩ := q
      simp only at Hc hxl HI
      have zx := wrap_asInt x hxl
      have HB := Lib.hid hB
      have HM := Lib.hid hM
      have HG := Lib.hid hgk
      have HJ := Lib.hid hj
      have k0 : (0 : Int) ≤ (j : Int) := by omega
      have k1 : (j : Int) < (offs.length : Int) := by omega
      have HO := Lib.hid (show o < cs1.size by omega)
      clear hT hB hM hgk hj hxl hsz hst hoo hlt
      go_wp2_with fail
      refine Hc.out.mono ?_
      rintro e w1 ⟨rfl, hT1, hm1⟩
      have hB1 := HB.out.mod hm1 (by rintro (e | e) <;> contradiction)
      have d2 := hT1.box.cell 2 _ rfl
      have f2 := hT1.box.free 2
      cases hbg : s2.big
      rotate_left
      · rw [hbg] at d2
        have hbx2 := hT1.box.set 2 (.bool true)
        have hms := Mod.set (fun i => i = t) w1 ⟨t, 2, none⟩ (.bool true) rfl
        have hB2 := hB1.mod hms h1
        have e0 := hB2.cell o _ (Array.getElem?_eq_getElem HO.out)
        have f0 := hB2.free o
        have hms2 := Mod.set (fun i => i = eb) (w1.setCell ⟨t, 2, none⟩ (.bool true)) ⟨eb, o, none⟩ (.int .i64 (asInt x)) rfl
        have HB3 := Lib.hid (hB2.set o (.int .i64 (asInt x)))
        have hT3 : IsT ((w1.setCell ⟨t, 2, none⟩ (.bool true)).setCell ⟨eb, o, none⟩ (.int .i64 (asInt x))) t r v ⟨s2.l, s2.k, s2.er, true⟩ :=
          ⟨hbx2.mod hms2 (fun e => h1 e.symm), (hT1.rd.mod hms (fun e => hT1.ne e.symm) (fun b hb e => hT1.nv (by rw [hb, e]))).mod hms2 (fun e => h2 e.symm) (fun b hb e => h6 (by rw [hb, e])), hT1.ne, hT1.nv, fun b hb => by have := hT1.vl b hb; simp; omega⟩
        have HT3 := Lib.hid hT3
        have HM3 := Lib.hid (((HM.out.trans (hm1.mono (fun i hi => hi.elim (fun e => Or.inl e) (fun e => Or.inr (Or.inl e))))).trans (hms.mono (fun i hi => .inr (.inl hi)))).trans (hms2.mono (fun i hi => .inr (.inr hi))))
        have HE := Lib.hid (show intsM s cs (offs.take (j + 1)) = (⟨s2.l, s2.k, s2.er, true⟩, cs1.setIfInBounds o (.int .i64 (asInt x))) by rw [HX.out, HI.out]; simp only [hbg, Bool.true_or])
        clear hbx2 hms hB2 hms2 hT3 hT1 hB1 hm1 HX HI hbg
        go_wp2_with fail
        go_roundg (offs.length - (j + 1))
        case measure => have := HG.out; have := HJ.out; omega
        case rel => exact ⟨j + 1, by have := HG.out; have := HJ.out; omega, by go_num, by rw [HE.out]; exact HT3.out, by rw [HE.out]; exact HB3.out, HM3.out⟩
      · rw [hbg] at d2
        by_cases hx : (9223372036854775807 : Int) < (x : Int)
        · have hd : decide (x ≤ 9223372036854775807) = false := decide_eq_false (by omega)
          have hbx2 := hT1.box.set 2 (.bool true)
          have hms := Mod.set (fun i => i = t) w1 ⟨t, 2, none⟩ (.bool true) rfl
          have hB2 := hB1.mod hms h1
          have e0 := hB2.cell o _ (Array.getElem?_eq_getElem HO.out)
          have f0 := hB2.free o
          have hms2 := Mod.set (fun i => i = eb) (w1.setCell ⟨t, 2, none⟩ (.bool true)) ⟨eb, o, none⟩ (.int .i64 (asInt x)) rfl
          have HB3 := Lib.hid (hB2.set o (.int .i64 (asInt x)))
          have hT3 : IsT ((w1.setCell ⟨t, 2, none⟩ (.bool true)).setCell ⟨eb, o, none⟩ (.int .i64 (asInt x))) t r v ⟨s2.l, s2.k, s2.er, true⟩ :=
            ⟨hbx2.mod hms2 (fun e => h1 e.symm), (hT1.rd.mod hms (fun e => hT1.ne e.symm) (fun b hb e => hT1.nv (by rw [hb, e]))).mod hms2 (fun e => h2 e.symm) (fun b hb e => h6 (by rw [hb, e])), hT1.ne, hT1.nv, fun b hb => by have := hT1.vl b hb; simp; omega⟩
          have HT3 := Lib.hid hT3
          have HM3 := Lib.hid (((HM.out.trans (hm1.mono (fun i hi => hi.elim (fun e => Or.inl e) (fun e => Or.inr (Or.inl e))))).trans (hms.mono (fun i hi => .inr (.inl hi)))).trans (hms2.mono (fun i hi => .inr (.inr hi))))
          have HE := Lib.hid (show intsM s cs (offs.take (j + 1)) = (⟨s2.l, s2.k, s2.er, true⟩, cs1.setIfInBounds o (.int .i64 (asInt x))) by rw [HX.out, HI.out]; simp only [hbg, hd, Bool.false_or, Bool.not_false])
          clear hbx2 hms hB2 hms2 hT3 hT1 hB1 hm1 HX HI hbg hd
          go_wp2_with fail
          go_roundg (offs.length - (j + 1))
          case measure => have := HG.out; have := HJ.out; omega
          case rel => exact ⟨j + 1, by have := HG.out; have := HJ.out; omega, by go_num, by rw [HE.out]; exact HT3.out, by rw [HE.out]; exact HB3.out, HM3.out⟩
        · have hd : decide (x ≤ 9223372036854775807) = true := decide_eq_true (by omega)
          have hd2 : decide ((9223372036854775807 : Int) < (x : Int)) = false := decide_eq_false hx
          clear hx
          have hbx2 := hT1.box.set 2 (.bool false)
          have hms := Mod.set (fun i => i = t) w1 ⟨t, 2, none⟩ (.bool false) rfl
          have hB2 := hB1.mod hms h1
          have e0 := hB2.cell o _ (Array.getElem?_eq_getElem HO.out)
          have f0 := hB2.free o
          have hms2 := Mod.set (fun i => i = eb) (w1.setCell ⟨t, 2, none⟩ (.bool false)) ⟨eb, o, none⟩ (.int .i64 (asInt x)) rfl
          have HB3 := Lib.hid (hB2.set o (.int .i64 (asInt x)))
          have hT3 : IsT ((w1.setCell ⟨t, 2, none⟩ (.bool false)).setCell ⟨eb, o, none⟩ (.int .i64 (asInt x))) t r v ⟨s2.l, s2.k, s2.er, false⟩ :=
            ⟨hbx2.mod hms2 (fun e => h1 e.symm), (hT1.rd.mod hms (fun e => hT1.ne e.symm) (fun b hb e => hT1.nv (by rw [hb, e]))).mod hms2 (fun e => h2 e.symm) (fun b hb e => h6 (by rw [hb, e])), hT1.ne, hT1.nv, fun b hb => by have := hT1.vl b hb; simp; omega⟩
          have HT3 := Lib.hid hT3
          have HM3 := Lib.hid (((HM.out.trans (hm1.mono (fun i hi => hi.elim (fun e => Or.inl e) (fun e => Or.inr (Or.inl e))))).trans (hms.mono (fun i hi => .inr (.inl hi)))).trans (hms2.mono (fun i hi => .inr (.inr hi))))
          have HE := Lib.hid (show intsM s cs (offs.take (j + 1)) = (⟨s2.l, s2.k, s2.er, false⟩, cs1.setIfInBounds o (.int .i64 (asInt x))) by rw [HX.out, HI.out]; simp only [hbg, hd, Bool.false_or, Bool.not_true])
          clear hbx2 hms hB2 hms2 hT3 hT1 hB1 hm1 HX HI hbg hd
          go_wp2_with fail
          go_roundg (offs.length - (j + 1))
          case measure => have := HG.out; have := HJ.out; omega
          case rel => exact ⟨j + 1, by have := HG.out; have := HJ.out; omega, by go_num, by rw [HE.out]; exact HT3.out, by rw [HE.out]; exact HB3.out, HM3.out⟩
    · have ht : offs.take j = offs := List.take_of_length_le (by omega)
      rw [ht] at hT hB
      have k1 : ¬ (j : Int) < (offs.length : Int) := by omega
      have HT := Lib.hid hT
      have HB := Lib.hid hB
      have HM := Lib.hid hM
      clear hT hB hM hgk ht hj
      go_wp2_with fail
      refine bodyPost_end (results_none rfl _ _ _) rfl ?_
      exact ⟨rfl, HT.out, HB.out, HM.out⟩
end Go.Proofs.YtacponljnphbnaaDoor
