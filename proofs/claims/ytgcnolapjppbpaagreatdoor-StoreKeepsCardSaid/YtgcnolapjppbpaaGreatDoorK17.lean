/-
  Texts of one proof, one behind the other.
-/
import Derived.Test.YtgcnolapjppbpaaGreatDoorK16
import Derived.Test.YtgcnolapjppbpaaGreatDoorK06
import Derived.Deep.LoopGhost
import Derived.Outline
namespace Go.Proofs.YtgcnolapjppbpaaGreatDoor
open Go.RowKit
set_option maxRecDepth 100000
structure TkM where
  l : List UInt8
  k : Nat
  er : Int
  big : Bool
def TkM.rest (s : TkM) : List UInt8 := s.l.drop s.k
def TkM.num (s : TkM) : Nat × TkM := if s.er = 0 then (if (numR s.rest).1 = 0 then ((numR s.rest).2.1, ⟨s.l, s.k + (numR s.rest).2.2, 0, s.big⟩) else (0, ⟨s.l, s.k, (numR s.rest).1, s.big⟩)) else (0, s)
def TkM.txt (s : TkM) : List UInt8 × TkM := if s.er = 0 then (if (textR s.rest).1 = 0 then ((textR s.rest).2.1, ⟨s.l, s.k + (textR s.rest).2.2, 0, s.big⟩) else ([], ⟨s.l, s.k, (textR s.rest).1, s.big⟩)) else ([], s)
def asInt (n : Nat) : Int := if n ≤ 9223372036854775807 then (n : Int) else (n : Int) - 18446744073709551616
def TkM.int (s : TkM) : Int × TkM := (asInt s.num.1, ⟨s.num.2.l, s.num.2.k, s.num.2.er, s.num.2.big || !(decide (s.num.1 ≤ 9223372036854775807))⟩)
structure IsT (w : World) (t r : Nat) (v : Value) (s : TkM) : Prop where
  box : Box w t #[.pointer (some ⟨r, 0, none⟩), errV s.er, .bool s.big] 247
  rd : IsR w r v s.l s.k
  ne : t ≠ r
  nv : v.ownBlock ≠ some t
  vl : ∀ b, v.ownBlock = some b → b < w.heap.size
theorem IsT.mod {w w' : World} {t r : Nat} {v : Value} {s : TkM} {F : Nat → Prop} (h : IsT w t r v s) (hm : Mod F w w') (h1 : ¬ F t) (h2 : ¬ F r) (h3 : ∀ b, v.ownBlock = some b → ¬ F b) : IsT w' t r v s :=
  ⟨h.box.mod hm h1, h.rd.mod hm h2 h3, h.ne, h.nv, fun b hb => Nat.lt_of_lt_of_le (h.vl b hb) hm.size⟩
theorem IsT.below {w w' : World} {t r : Nat} {v : Value} {s : TkM} (h : IsT w t r v s) (hb : Below w.heap.size w w') : IsT w' t r v s := h.mod (Mod.of_below (F := fun _ => False) hb) (fun h => h) (fun h => h) (fun _ _ h => h)
theorem errV_no {n : Int} (h : n ≠ 0) : errV n = .iface 91 (.int .i64 n) := by unfold errV; rw [if_neg h]
set_option maxHeartbeats 1600000 in
theorem tkNumber_calls (t r : Nat) (v : Value) (s : TkM) (w : World) (h : IsT w t r v s) :
    Calls Tryz.prog 127 #[.pointer (some ⟨t, 0, none⟩)] w fun e w' => e = .returned (.int .u64 (s.num.1 : Int)) ∧ IsT w' t r v s.num.2 ∧ Mod (fun i => i = r ∨ i = t) w w' := by
  have HT := Lib.hid h
  have c0 := h.box.cell 0 _ rfl
  have c1 : w.cell? ⟨t, 1, none⟩ = some (errV s.er) := h.box.cell 1 _ rfl
  by_cases he : s.er = 0
  rotate_left
  · have HS := Lib.hid (show s.num = (0, s) by unfold TkM.num; rw [if_neg he])
    rw [errV_no he] at c1
    clear h
    go_enter Tryz.func127, Tryz.ntmps127
    go_wp2_with fail
    go_ret
    rw [HS.out]
    exact ⟨rfl, HT.out, Mod.refl _ _⟩
  · obtain ⟨N, hN⟩ : ∃ N, N = numR s.rest := ⟨_, rfl⟩
    have Hc := Lib.hid (rNumber_calls r s.k v s.l w h.rd h.vl)
    change Hid (Calls _ _ _ _ fun e w' => Mod (fun i => i = r) w w' ∧ (((numR s.rest).1 = 0 ∧ e = .returned (.tuple #[.int .u64 ((numR s.rest).2.1 : Int), .nilIface]) ∧ IsR w' r v s.l (s.k + (numR s.rest).2.2)) ∨ ((numR s.rest).1 ≠ 0 ∧ e = .returned (.tuple #[.int .u64 0, .iface 91 (.int .i64 (numR s.rest).1)]) ∧ IsR w' r v s.l s.k))) at Hc
    have HS := Lib.hid (show s.num = (if N.1 = 0 then (N.2.1, ⟨s.l, s.k + N.2.2, 0, s.big⟩) else (0, ⟨s.l, s.k, N.1, s.big⟩)) by unfold TkM.num; rw [if_pos he, hN])
    rw [← hN] at Hc
    rw [show errV s.er = .nilIface by unfold errV; rw [if_pos he]] at c1
    clear h hN
    go_enter Tryz.func127, Tryz.ntmps127
    go_wp2_with fail
    refine Hc.out.mono ?_
    rintro e w1 ⟨hm, ⟨hn, rfl, hi⟩ | ⟨hn, rfl, hi⟩⟩
    · have hbx := HT.out.box.mod hm HT.out.ne
      have HS' := Lib.hid (show s.num = (N.2.1, ⟨s.l, s.k + N.2.2, 0, s.big⟩) by rw [HS.out, if_pos hn])
      have d1 := hbx.cell 1 _ rfl
      have f1 := hbx.free 1
      have hms := Mod.set (fun i => i = t) w1 ⟨t, 1, none⟩ .nilIface rfl
      have HR := Lib.hid (show IsT (w1.setCell ⟨t, 1, none⟩ .nilIface) t r v ⟨s.l, s.k + N.2.2, 0, s.big⟩ from ⟨hbx.set 1 .nilIface, hi.mod hms (fun e => HT.out.ne e.symm) (fun b hb e => HT.out.nv (by rw [hb, e])), HT.out.ne, HT.out.nv, fun b hb => by have := HT.out.vl b hb; have := hm.size; simp; omega⟩)
      have HM := Lib.hid ((hm.mono (fun i hi => Or.inl hi : ∀ i, i = r → i = r ∨ i = t)).trans (hms.mono (fun i hi => Or.inr hi : ∀ i, i = t → i = r ∨ i = t)))
      clear hm hn hi hbx hms HS c0 c1 he
      go_wp2_with fail
      go_ret
      rw [HS'.out]
      exact ⟨rfl, HR.out, HM.out⟩
    · have hbx := HT.out.box.mod hm HT.out.ne
      have HS' := Lib.hid (show s.num = (0, ⟨s.l, s.k, N.1, s.big⟩) by rw [HS.out, if_neg hn])
      have d1 := hbx.cell 1 _ rfl
      have f1 := hbx.free 1
      have hms := Mod.set (fun i => i = t) w1 ⟨t, 1, none⟩ (.iface 91 (.int .i64 N.1)) rfl
      have HR := Lib.hid (show IsT (w1.setCell ⟨t, 1, none⟩ (.iface 91 (.int .i64 N.1))) t r v ⟨s.l, s.k, N.1, s.big⟩ from ⟨by rw [errV_no hn]; exact hbx.set 1 _, hi.mod hms (fun e => HT.out.ne e.symm) (fun b hb e => HT.out.nv (by rw [hb, e])), HT.out.ne, HT.out.nv, fun b hb => by have := HT.out.vl b hb; have := hm.size; simp; omega⟩)
      have HM := Lib.hid ((hm.mono (fun i hi => Or.inl hi : ∀ i, i = r → i = r ∨ i = t)).trans (hms.mono (fun i hi => Or.inr hi : ∀ i, i = t → i = r ∨ i = t)))
      clear hm hn hi hbx hms HS c0 c1 he
      go_wp2_with fail
      go_ret
      rw [HS'.out]
      exact ⟨rfl, HR.out, HM.out⟩
set_option maxHeartbeats 1600000 in
theorem tkText_calls (t r : Nat) (v : Value) (s : TkM) (w : World) (h : IsT w t r v s) :
    Calls Tryz.prog 129 #[.pointer (some ⟨t, 0, none⟩)] w fun e w' => e = .returned (.string (SB s.txt.1)) ∧ IsT w' t r v s.txt.2 ∧ Mod (fun i => i = r ∨ i = t) w w' := by
  have HT := Lib.hid h
  have c0 := h.box.cell 0 _ rfl
  have c1 : w.cell? ⟨t, 1, none⟩ = some (errV s.er) := h.box.cell 1 _ rfl
  by_cases he : s.er = 0
  rotate_left
  · have HS := Lib.hid (show s.txt = ([], s) by unfold TkM.txt; rw [if_neg he])
    rw [errV_no he] at c1
    clear h
    go_enter Tryz.func129, Tryz.ntmps129
    go_wp2_with fail
    go_ret
    rw [HS.out]
    exact ⟨rfl, HT.out, Mod.refl _ _⟩
  · obtain ⟨N, hN⟩ : ∃ N, N = textR s.rest := ⟨_, rfl⟩
    have Hc := Lib.hid (rText_calls r s.k v s.l w h.rd h.vl)
    change Hid (Calls _ _ _ _ fun e w' => Mod (fun i => i = r) w w' ∧ (((textR s.rest).1 = 0 ∧ e = .returned (.tuple #[.string (SB (textR s.rest).2.1), .nilIface]) ∧ IsR w' r v s.l (s.k + (textR s.rest).2.2)) ∨ ((textR s.rest).1 ≠ 0 ∧ e = .returned (.tuple #[.string ⟨#[]⟩, .iface 91 (.int .i64 (textR s.rest).1)]) ∧ IsR w' r v s.l s.k))) at Hc
    have HS := Lib.hid (show s.txt = (if N.1 = 0 then (N.2.1, ⟨s.l, s.k + N.2.2, 0, s.big⟩) else ([], ⟨s.l, s.k, N.1, s.big⟩)) by unfold TkM.txt; rw [if_pos he, hN])
    rw [← hN] at Hc
    rw [show errV s.er = .nilIface by unfold errV; rw [if_pos he]] at c1
    clear h hN
    go_enter Tryz.func129, Tryz.ntmps129
    go_wp2_with fail
    refine Hc.out.mono ?_
    rintro e w1 ⟨hm, ⟨hn, rfl, hi⟩ | ⟨hn, rfl, hi⟩⟩
    · have hbx := HT.out.box.mod hm HT.out.ne
      have HS' := Lib.hid (show s.txt = (N.2.1, ⟨s.l, s.k + N.2.2, 0, s.big⟩) by rw [HS.out, if_pos hn])
      have d1 := hbx.cell 1 _ rfl
      have f1 := hbx.free 1
      have hms := Mod.set (fun i => i = t) w1 ⟨t, 1, none⟩ .nilIface rfl
      have HR := Lib.hid (show IsT (w1.setCell ⟨t, 1, none⟩ .nilIface) t r v ⟨s.l, s.k + N.2.2, 0, s.big⟩ from ⟨hbx.set 1 .nilIface, hi.mod hms (fun e => HT.out.ne e.symm) (fun b hb e => HT.out.nv (by rw [hb, e])), HT.out.ne, HT.out.nv, fun b hb => by have := HT.out.vl b hb; have := hm.size; simp; omega⟩)
      have HM := Lib.hid ((hm.mono (fun i hi => Or.inl hi : ∀ i, i = r → i = r ∨ i = t)).trans (hms.mono (fun i hi => Or.inr hi : ∀ i, i = t → i = r ∨ i = t)))
      clear hm hn hi hbx hms HS c0 c1 he
      go_wp2_with fail
      go_ret
      rw [HS'.out]
      exact ⟨rfl, HR.out, HM.out⟩
    · have hbx := HT.out.box.mod hm HT.out.ne
      have HS' := Lib.hid (show s.txt = ([], ⟨s.l, s.k, N.1, s.big⟩) by rw [HS.out, if_neg hn])
      have d1 := hbx.cell 1 _ rfl
      have f1 := hbx.free 1
      have hms := Mod.set (fun i => i = t) w1 ⟨t, 1, none⟩ (.iface 91 (.int .i64 N.1)) rfl
      have HR := Lib.hid (show IsT (w1.setCell ⟨t, 1, none⟩ (.iface 91 (.int .i64 N.1))) t r v ⟨s.l, s.k, N.1, s.big⟩ from ⟨by rw [errV_no hn]; exact hbx.set 1 _, hi.mod hms (fun e => HT.out.ne e.symm) (fun b hb e => HT.out.nv (by rw [hb, e])), HT.out.ne, HT.out.nv, fun b hb => by have := HT.out.vl b hb; have := hm.size; simp; omega⟩)
      have HM := Lib.hid ((hm.mono (fun i hi => Or.inl hi : ∀ i, i = r → i = r ∨ i = t)).trans (hms.mono (fun i hi => Or.inr hi : ∀ i, i = t → i = r ∨ i = t)))
      clear hm hn hi hbx hms HS c0 c1 he
      go_wp2_with fail
      go_ret
      rw [HS'.out]
      exact ⟨rfl, HR.out, HM.out⟩
end Go.Proofs.YtgcnolapjppbpaaGreatDoor
namespace Go.Proofs.YtgcnolapjppbpaaGreatDoor
open Go.RowKit
set_option maxRecDepth 100000
theorem numGo_lt : ∀ (l : List UInt8) (i u : Nat), i ≤ 9 → u < 2 ^ (7 * i) → (numGo i u l).2.1 < 2 ^ 64
  | [], i, u, _, _ => by unfold numGo; exact (show (0 : Nat) < 2 ^ 64 by decide)
  | c :: l, i, u, hi, hu => by
    unfold numGo
    split
    · exact (show (0 : Nat) < 2 ^ 64 by decide)
    · rename_i hf
      have hc := c.toNat_lt
      have h2 : (2 : Nat) ^ (7 * i) ≤ 2 ^ 63 := Nat.pow_le_pow_right (by omega) (by omega)
      split
      · have h1 := (sev_lt (m := c.toNat) (i := i) (by omega) hi (by omega)).1
        show u + c.toNat * 2 ^ (7 * i) < 2 ^ 64
        omega
      · refine numGo_lt l (i + 1) _ (by omega) ?_
        rw [show 7 * (i + 1) = 7 * i + 7 by omega, Nat.pow_add]
        have : (c.toNat - 128 + 1) * 2 ^ (7 * i) ≤ 128 * 2 ^ (7 * i) := Nat.mul_le_mul_right _ (by omega)
        rw [Nat.add_mul] at this
        rw [Nat.mul_comm (2 ^ (7 * i)) (2 ^ 7)]; omega
theorem numR_lt (l : List UInt8) : (numR l).2.1 < 2 ^ 64 := numGo_lt l 0 0 (by omega) (by omega)
theorem TkM.num_lt (s : TkM) : s.num.1 < 2 ^ 64 := by
  unfold TkM.num
  split
  · split
    · exact numR_lt _
    · exact (show (0 : Nat) < 2 ^ 64 by decide)
  · exact (show (0 : Nat) < 2 ^ 64 by decide)
theorem wrap_asInt (n : Nat) (h : n < 2 ^ 64) : IntKind.i64.wrap (n : Int) = asInt n := by
  unfold asInt
  by_cases h2 : n ≤ 9223372036854775807
  · rw [if_pos h2]; simp [IntKind.wrap, IntKind.bits, IntKind.signed]; omega
  · rw [if_neg h2]; simp [IntKind.wrap, IntKind.bits, IntKind.signed]; omega
def intsM (s : TkM) (cs : Array Value) (offs : List Nat) : TkM × Array Value := offs.foldl (fun p o => (p.1.int.2, p.2.setIfInBounds o (.int .i64 p.1.int.1))) (s, cs)
theorem intsM_snoc (s : TkM) (cs : Array Value) (offs : List Nat) (o : Nat) : intsM s cs (offs ++ [o]) = ((intsM s cs offs).1.int.2, (intsM s cs offs).2.setIfInBounds o (.int .i64 (intsM s cs offs).1.int.1)) := by simp [intsM]
theorem intsM_size (s : TkM) (cs : Array Value) : ∀ offs : List Nat, (intsM s cs offs).2.size = cs.size := by
  intro offs
  unfold intsM
  have : ∀ (offs : List Nat) (p : TkM × Array Value), (offs.foldl (fun p o => (p.1.int.2, p.2.setIfInBounds o (.int .i64 p.1.int.1))) p).2.size = p.2.size := by
    intro offs
    induction offs with
    | nil => intro p; rfl
    | cons o offs ih => intro p; rw [List.foldl_cons, ih]; simp
  exact this offs (s, cs)
set_option maxHeartbeats 1600000 in
theorem tkInts_calls (t r eb sb : Nat) (v : Value) (s : TkM) (offs : List Nat) (cs : Array Value) (T Ts : TypeId) (w : World) (h : IsT w t r v s) (hb : Box w eb cs T) (hs : Box w sb (offs.map (fun o => Value.pointer (some ⟨eb, o, none⟩))).toArray Ts)
    (ho : ∀ o ∈ offs, o < cs.size) (h1 : eb ≠ t) (h2 : eb ≠ r) (h3 : sb ≠ t) (h4 : sb ≠ r) (h5 : sb ≠ eb) (h6 : v.ownBlock ≠ some eb) (hn : offs.length ≤ 100) :
    Calls Tryz.prog 128 #[.pointer (some ⟨t, 0, none⟩), .slice (some ⟨sb, 0, none⟩) offs.length offs.length] w fun e w' => e = .returned (.tuple #[]) ∧ IsT w' t r v (intsM s cs offs).1 ∧ Box w' eb (intsM s cs offs).2 T ∧ Mod (fun i => i = r ∨ i = t ∨ i = eb) w w' := by
  go_enter Tryz.func128, Tryz.ntmps128
  go_wp2_with fail
  go_loopg [9] offs.length (fun gk iv wr => ∃ j : Nat, gk + j = offs.length ∧ iv = .int .i64 (j : Int) ∧ IsT wr t r v (intsM s cs (offs.take j)).1 ∧ Box wr eb (intsM s cs (offs.take j)).2 T ∧ Mod (fun i => i = r ∨ i = t ∨ i = eb) w wr)
  case atStart => exact ⟨0, rfl, rfl, h, hb, Mod.refl _ _⟩
  case round =>
    obtain ⟨j, hgk, rfl, hT, hB, hM⟩ := hrel
    by_cases hj : j < offs.length
    · obtain ⟨o, hoo⟩ : ∃ o, o = offs[j] := ⟨_, rfl⟩
      have hlt : o < cs.size := ho o (by rw [hoo]; exact List.getElem_mem _)
      have hst : offs.take (j + 1) = offs.take j ++ [o] := by rw [List.take_succ_eq_append_getElem hj, hoo]
      have hsz := intsM_size s cs (offs.take j)
      have HX := Lib.hid (intsM_snoc s cs (offs.take j) o)
      rw [← hst] at HX
      generalize intsM s cs (offs.take j) = p at hT hB HX hsz
      obtain ⟨s1, cs1⟩ := p
      simp only at hT hB HX hsz
      have c0 : wr.cell? ⟨sb, j, none⟩ = some (.pointer (some ⟨eb, o, none⟩)) := (hs.mod hM (by rintro (e | e | e) <;> contradiction)).cell j _ (by simp [hj, hoo])
      have Hc := Lib.hid (tkNumber_calls t r v s1 wr hT)
      have hxl := s1.num_lt
      have HI := Lib.hid (show s1.int = (asInt s1.num.1, ⟨s1.num.2.l, s1.num.2.k, s1.num.2.er, s1.num.2.big || !(decide (s1.num.1 ≤ 9223372036854775807))⟩) from rfl)
      generalize s1.num = q at Hc hxl HI
      obtain ⟨x, s2⟩ := q
      simp only at Hc hxl HI
      have zx := wrap_asInt x hxl
      have HB := Lib.hid hB
      have HM := Lib.hid hM
      have HG := Lib.hid hgk
      have HJ := Lib.hid hj
      have k0 : (0 : Int) ≤ (j : Int) := by omega
      have k1 : (j : Int) < (offs.length : Int) := by omega
      have HO := Lib.hid (show o < cs1.size by omega)
      clear hT hB hM hgk hj hxl hsz hst hoo hlt
      go_wp2_with fail
      refine Hc.out.mono ?_
      rintro e w1 ⟨rfl, hT1, hm1⟩
      have hB1 := HB.out.mod hm1 (by rintro (e | e) <;> contradiction)
      have d2 := hT1.box.cell 2 _ rfl
      have f2 := hT1.box.free 2
      cases hbg : s2.big
      rotate_left
      · rw [hbg] at d2
        have hbx2 := hT1.box.set 2 (.bool true)
        have hms := Mod.set (fun i => i = t) w1 ⟨t, 2, none⟩ (.bool true) rfl
        have hB2 := hB1.mod hms h1
        have e0 := hB2.cell o _ (Array.getElem?_eq_getElem HO.out)
        have f0 := hB2.free o
        have hms2 := Mod.set (fun i => i = eb) (w1.setCell ⟨t, 2, none⟩ (.bool true)) ⟨eb, o, none⟩ (.int .i64 (asInt x)) rfl
        have HB3 := Lib.hid (hB2.set o (.int .i64 (asInt x)))
        have hT3 : IsT ((w1.setCell ⟨t, 2, none⟩ (.bool true)).setCell ⟨eb, o, none⟩ (.int .i64 (asInt x))) t r v ⟨s2.l, s2.k, s2.er, true⟩ :=
          ⟨hbx2.mod hms2 (fun e => h1 e.symm), (hT1.rd.mod hms (fun e => hT1.ne e.symm) (fun b hb e => hT1.nv (by rw [hb, e]))).mod hms2 (fun e => h2 e.symm) (fun b hb e => h6 (by rw [hb, e])), hT1.ne, hT1.nv, fun b hb => by have := hT1.vl b hb; simp; omega⟩
        have HT3 := Lib.hid hT3
        have HM3 := Lib.hid (((HM.out.trans (hm1.mono (fun i hi => hi.elim (fun e => Or.inl e) (fun e => Or.inr (Or.inl e))))).trans (hms.mono (fun i hi => .inr (.inl hi)))).trans (hms2.mono (fun i hi => .inr (.inr hi))))
        have HE := Lib.hid (show intsM s cs (offs.take (j + 1)) = (⟨s2.l, s2.k, s2.er, true⟩, cs1.setIfInBounds o (.int .i64 (asInt x))) by rw [HX.out, HI.out]; simp only [hbg, Bool.true_or])
        clear hbx2 hms hB2 hms2 hT3 hT1 hB1 hm1 HX HI hbg
        go_wp2_with fail
        go_roundg (offs.length - (j + 1))
        case measure => have := HG.out; have := HJ.out; omega
        case rel => exact ⟨j + 1, by have := HG.out; have := HJ.out; omega, by go_num, by rw [HE.out]; exact HT3.out, by rw [HE.out]; exact HB3.out, HM3.out⟩
      · rw [hbg] at d2
        by_cases hx : (9223372036854775807 : Int) < (x : Int)
        · have hd : decide (x ≤ 9223372036854775807) = false := decide_eq_false (by omega)
          have hbx2 := hT1.box.set 2 (.bool true)
          have hms := Mod.set (fun i => i = t) w1 ⟨t, 2, none⟩ (.bool true) rfl
          have hB2 := hB1.mod hms h1
          have e0 := hB2.cell o _ (Array.getElem?_eq_getElem HO.out)
          have f0 := hB2.free o
          have hms2 := Mod.set (fun i => i = eb) (w1.setCell ⟨t, 2, none⟩ (.bool true)) ⟨eb, o, none⟩ (.int .i64 (asInt x)) rfl
          have HB3 := Lib.hid (hB2.set o (.int .i64 (asInt x)))
          have hT3 : IsT ((w1.setCell ⟨t, 2, none⟩ (.bool true)).setCell ⟨eb, o, none⟩ (.int .i64 (asInt x))) t r v ⟨s2.l, s2.k, s2.er, true⟩ :=
            ⟨hbx2.mod hms2 (fun e => h1 e.symm), (hT1.rd.mod hms (fun e => hT1.ne e.symm) (fun b hb e => hT1.nv (by rw [hb, e]))).mod hms2 (fun e => h2 e.symm) (fun b hb e => h6 (by rw [hb, e])), hT1.ne, hT1.nv, fun b hb => by have := hT1.vl b hb; simp; omega⟩
          have HT3 := Lib.hid hT3
          have HM3 := Lib.hid (((HM.out.trans (hm1.mono (fun i hi => hi.elim (fun e => Or.inl e) (fun e => Or.inr (Or.inl e))))).trans (hms.mono (fun i hi => .inr (.inl hi)))).trans (hms2.mono (fun i hi => .inr (.inr hi))))
          have HE := Lib.hid (show intsM s cs (offs.take (j + 1)) = (⟨s2.l, s2.k, s2.er, true⟩, cs1.setIfInBounds o (.int .i64 (asInt x))) by rw [HX.out, HI.out]; simp only [hbg, hd, Bool.false_or, Bool.not_false])
          clear hbx2 hms hB2 hms2 hT3 hT1 hB1 hm1 HX HI hbg hd
          go_wp2_with fail
          go_roundg (offs.length - (j + 1))
          case measure => have := HG.out; have := HJ.out; omega
          case rel => exact ⟨j + 1, by have := HG.out; have := HJ.out; omega, by go_num, by rw [HE.out]; exact HT3.out, by rw [HE.out]; exact HB3.out, HM3.out⟩
        · have hd : decide (x ≤ 9223372036854775807) = true := decide_eq_true (by omega)
          have hd2 : decide ((9223372036854775807 : Int) < (x : Int)) = false := decide_eq_false hx
          clear hx
          have hbx2 := hT1.box.set 2 (.bool false)
          have hms := Mod.set (fun i => i = t) w1 ⟨t, 2, none⟩ (.bool false) rfl
          have hB2 := hB1.mod hms h1
          have e0 := hB2.cell o _ (Array.getElem?_eq_getElem HO.out)
          have f0 := hB2.free o
          have hms2 := Mod.set (fun i => i = eb) (w1.setCell ⟨t, 2, none⟩ (.bool false)) ⟨eb, o, none⟩ (.int .i64 (asInt x)) rfl
          have HB3 := Lib.hid (hB2.set o (.int .i64 (asInt x)))
          have hT3 : IsT ((w1.setCell ⟨t, 2, none⟩ (.bool false)).setCell ⟨eb, o, none⟩ (.int .i64 (asInt x))) t r v ⟨s2.l, s2.k, s2.er, false⟩ :=
            ⟨hbx2.mod hms2 (fun e => h1 e.symm), (hT1.rd.mod hms (fun e => hT1.ne e.symm) (fun b hb e => hT1.nv (by rw [hb, e]))).mod hms2 (fun e => h2 e.symm) (fun b hb e => h6 (by rw [hb, e])), hT1.ne, hT1.nv, fun b hb => by have := hT1.vl b hb; simp; omega⟩
          have HT3 := Lib.hid hT3
          have HM3 := Lib.hid (((HM.out.trans (hm1.mono (fun i hi => hi.elim (fun e => Or.inl e) (fun e => Or.inr (Or.inl e))))).trans (hms.mono (fun i hi => .inr (.inl hi)))).trans (hms2.mono (fun i hi => .inr (.inr hi))))
          have HE := Lib.hid (show intsM s cs (offs.take (j + 1)) = (⟨s2.l, s2.k, s2.er, false⟩, cs1.setIfInBounds o (.int .i64 (asInt x))) by rw [HX.out, HI.out]; simp only [hbg, hd, Bool.false_or, Bool.not_true])
          clear hbx2 hms hB2 hms2 hT3 hT1 hB1 hm1 HX HI hbg hd
          go_wp2_with fail
          go_roundg (offs.length - (j + 1))
          case measure => have := HG.out; have := HJ.out; omega
          case rel => exact ⟨j + 1, by have := HG.out; have := HJ.out; omega, by go_num, by rw [HE.out]; exact HT3.out, by rw [HE.out]; exact HB3.out, HM3.out⟩
    · have ht : offs.take j = offs := List.take_of_length_le (by omega)
      rw [ht] at hT hB
      have k1 : ¬ (j : Int) < (offs.length : Int) := by omega
      have HT := Lib.hid hT
      have HB := Lib.hid hB
      have HM := Lib.hid hM
      clear hT hB hM hgk ht hj
      go_wp2_with fail
      refine bodyPost_end (results_none rfl _ _ _) rfl ?_
      exact ⟨rfl, HT.out, HB.out, HM.out⟩
end Go.Proofs.YtgcnolapjppbpaaGreatDoor
namespace Go.Proofs.YtgcnolapjppbpaaGreatDoor
open Go.RowKit
set_option maxRecDepth 100000
def isLet (c : Nat) : Bool := decide (97 ≤ c ∧ c ≤ 122)
def isDig (c : Nat) : Bool := decide (48 ≤ c ∧ c ≤ 57 ∨ c = 45 ∨ c = 95)
def nameAt (l : List UInt8) (i : Nat) : Bool := isLet (l.getD i 0).toNat || (decide (i ≠ 0) && isDig (l.getD i 0).toNat)
def nameM (l : List UInt8) : Bool := decide (1 ≤ l.length ∧ l.length ≤ 32 ∧ ∀ i, i < l.length → nameAt l i = true)
theorem nameM_no {l : List UInt8} {i : Nat} (h : i < l.length) (hn : nameAt l i = false) : nameM l = false := by
  unfold nameM
  rw [decide_eq_false_iff_not]
  intro ⟨_, _, h3⟩
  rw [h3 i h] at hn; cases hn
theorem nameM_yes {l : List UInt8} (h1 : 1 ≤ l.length) (h2 : l.length ≤ 32) (h : ∀ i, i < l.length → nameAt l i = true) : nameM l = true := by
  unfold nameM
  rw [decide_eq_true_iff]; exact ⟨h1, h2, h⟩
theorem nameM_len {l : List UInt8} (h : ¬ (1 ≤ l.length ∧ l.length ≤ 32)) : nameM l = false := by
  unfold nameM
  rw [decide_eq_false_iff_not]
  intro ⟨h1, h2, _⟩; exact h ⟨h1, h2⟩
theorem nameAt_eq {l : List UInt8} {k c : Nat} {b : Bool} (hc : c = (l.getD k 0).toNat) (h : (isLet c || (decide (k ≠ 0) && isDig c)) = b) : nameAt l k = b := by
  unfold nameAt; rw [← hc]; exact h
theorem nameAt_snoc {l : List UInt8} {k : Nat} (h : ∀ i, i < k → nameAt l i = true) (hk : nameAt l k = true) : ∀ i, i < k + 1 → nameAt l i = true := fun i hi => by
  rcases Nat.lt_or_ge i k with h1 | h1
  · exact h i h1
  · obtain rfl : i = k := by omega
    exact hk
end Go.Proofs.YtgcnolapjppbpaaGreatDoor
