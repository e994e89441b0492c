/-
  Texts of one proof, one behind the other.
-/
import Derived.Test.YtgcnolapjppbpaaGreatDoorK23
namespace Go.Proofs.YtgcnolapjppbpaaGreatDoor
open Go.RowKit
set_option maxRecDepth 100000
theorem numsB_le (ns : List Int) : (numsB ns).length ≤ 10 * ns.length := by
  induction ns with
  | nil => simp [numsB]
  | cons a l ih => have := numB_len a; simp only [numsB, List.flatMap_cons, List.length_append, List.length_cons] at ih ⊢; omega
set_option maxHeartbeats 1600000 in
theorem outInts_calls (B p r : Nat) (v0 : Value) (l0 : List UInt8) (ns : List Int) (w : World) (hw : IsW w B p v0 l0) (hr : Box w r (ns.map (fun n => Value.int .i64 n)).toArray 3)
    (hns : ∀ n ∈ ns, N63 n) (hrl : ¬ WF p v0 r) (hl0 : l0.length ≤ 100000) (hn : ns.length ≤ 100) (hB : B ≤ w.heap.size) :
    Calls Tryz.prog 100 #[.agg #[.pointer (some ⟨p, 0, none⟩)], .slice (some ⟨r, 0, none⟩) ns.length ns.length] w fun e w' => e = .returned (.tuple #[]) ∧ ∃ v', IsW w' B p v' (l0 ++ numsB ns) ∧ Mod (WF p v0) w w' ∧ Fresh w v0 v' := by
  have hb0 := below_alloc w (.cells #[.pointer (some ⟨p, 0, none⟩)] 204)
  have hq := Box.new w #[.pointer (some ⟨p, 0, none⟩)] 204
  have hql : ¬ WF p v0 w.heap.size := by
    have h1 := hw.box.lt
    rintro (e | e)
    · omega
    · have := (hw.own.lt _ e).2; omega
  have hw1 := hw.below hb0
  have hr1 := hr.below hb0
  have hm0 := Mod.of_below (F := WF p v0) hb0
  have hB1 : B ≤ (w.alloc (.cells #[.pointer (some ⟨p, 0, none⟩)] 204)).heap.size := Nat.le_trans hB hb0.size
  go_enter Tryz.func100, Tryz.ntmps100
  go_wp2_with fail
  generalize hwq : w.alloc (.cells #[.pointer (some ⟨p, 0, none⟩)] 204) = wa at hq hw1 hr1 hm0 hB1 ⊢
  have hfa : ∀ v', Fresh wa v0 v' → Fresh w v0 v' := fun v' h k hk => (h k hk).imp id (fun g => Nat.le_trans hm0.size g)
  have HFA := Lib.hid hfa
  have HM0 := Lib.hid hm0
  clear hwq hfa hm0 hb0 hw hr
  go_loopg [8] ns.length (fun gk iv wr => ∃ (k : Nat) (v1 : Value), gk + k = ns.length ∧ iv = .int .i64 (k : Int) ∧ IsW wr B p v1 (l0 ++ numsB (ns.take k)) ∧ Mod (WF p v0) wa wr ∧ Fresh wa v0 v1)
  case atStart => exact ⟨0, v0, rfl, rfl, by simpa [numsB] using hw1, Mod.refl _ _, Fresh.refl _ _⟩
  case round =>
    obtain ⟨k, v1, hgk, rfl, hW, hM, hF⟩ := hrel
    have hs := hM.size
    have HW := Lib.hid hW
    have HM := Lib.hid hM
    have HF := Lib.hid hF
    by_cases hk : k < ns.length
    · obtain ⟨n, hnn⟩ : ∃ n, n = ns[k] := ⟨_, rfl⟩
      have hz := mod_u64z (n := n) (hns n (by rw [hnn]; exact List.getElem_mem _))
      have Hn := Lib.hid (hns n (by rw [hnn]; exact List.getElem_mem _))
      have c0 : wr.cell? ⟨w.heap.size, 0, none⟩ = some (.pointer (some ⟨p, 0, none⟩)) := (hq.mod hM hql).cell 0 _ rfl
      have c1 : wr.cell? ⟨r, k, none⟩ = some (.int .i64 n) := (hr1.mod hM hrl).cell k _ (by simp [hk, hnn])
      have HT := Lib.hid (show numsB (ns.take (k + 1)) = numsB (ns.take k) ++ numB n from by rw [List.take_succ_eq_append_getElem hk, numsB_snoc, hnn])
      have HL := Lib.hid (show (l0 ++ numsB (ns.take k)).length ≤ 140737488350000 from by
        have h1 := numsB_le (ns.take k)
        have h2 : (ns.take k).length ≤ 100 := by rw [List.length_take]; omega
        rw [List.length_append]; omega)
      have k0 : (0 : Int) ≤ (k : Int) := by omega
      have k1 : (k : Int) < (ns.length : Int) := by omega
      have Hgk := Lib.hid hgk
      have Hk := Lib.hid hk
      clear hgk hnn hW hM hF hk
      go_wp2_with fail
      refine (wNumberZ_calls Hn.out B p v1 _ _ HW.out HL.out (by omega)).mono ?_
      rintro e w2 ⟨rfl, v2, s1, s2, s3⟩
      have HS1 := Lib.hid s1
      have HS2 := Lib.hid (WF.then HM.out HF.out s2)
      have HS3 := Lib.hid (HF.out.trans hs s3)
      clear s1 s2 s3 c0 c1
      go_wp2_with fail
      go_roundg (ns.length - (k + 1))
      case measure => have := Hgk.out; have := Hk.out; omega
      case rel => exact ⟨k + 1, v2, by have := Hgk.out; have := Hk.out; omega, by go_num, by rw [HT.out, ← List.append_assoc]; exact HS1.out, HS2.out, HS3.out⟩
    · have k1 : ¬ (k : Int) < (ns.length : Int) := by omega
      have ht : ns.take k = ns := List.take_of_length_le (by omega)
      rw [ht] at hW
      have HW2 := Lib.hid hW
      clear hgk hW hM hF ht HW
      go_wp2_with fail
      refine bodyPost_end (results_none rfl _ _ _) rfl ?_
      exact ⟨rfl, v1, HW2.out, HM0.out.trans HM.out, HFA.out v1 HF.out⟩
structure WSt (w0 w : World) (p : Nat) (v : Value) (A : List UInt8) (xs : List (Nat × Array Value × TypeId)) : Prop where
  iw : IsW w w0.heap.size p v A
  bx : ∀ x ∈ xs, Box w x.1 x.2.1 x.2.2 ∧ ¬ WF p v x.1
  le : w0.heap.size ≤ p
  bel : Below w0.heap.size w0 w
theorem WSt.call {w0 w w' : World} {p : Nat} {v v' : Value} {A A' : List UInt8} {xs : List (Nat × Array Value × TypeId)} (h : WSt w0 w p v A xs) (hw : IsW w' w0.heap.size p v' A') (hm : Mod (WF p v) w w') (hf : Fresh w v v') : WSt w0 w' p v' A' xs := by
  refine ⟨hw, fun x hx => ?_, h.le, h.bel.trans (hm.below h.bel.size (fun i hi => ?_))⟩
  · obtain ⟨h1, h2⟩ := h.bx x hx
    refine ⟨h1.mod hm h2, ?_⟩
    have h3 := h1.lt
    rintro (e | e)
    · exact h2 (.inl e)
    · rcases hf _ e with e | e
      · exact h2 (.inr e)
      · omega
  · rcases hi with rfl | e
    · exact h.le
    · exact (h.iw.own.lt i e).1
theorem WSt.below {w0 w w' : World} {p : Nat} {v : Value} {A : List UInt8} {xs : List (Nat × Array Value × TypeId)} (h : WSt w0 w p v A xs) (hb : Below w.heap.size w w') : WSt w0 w' p v A xs :=
  ⟨h.iw.below hb, fun x hx => ⟨(h.bx x hx).1.below hb, (h.bx x hx).2⟩, h.le, h.bel.trans (hb.mono h.bel.size)⟩
theorem WSt.row {w0 w : World} {p : Nat} {v : Value} {A : List UInt8} {xs : List (Nat × Array Value × TypeId)} (h : WSt w0 w p v A xs) : ¬ WF p v w.heap.size := by
  have h1 := h.iw.box.lt
  rintro (e | e)
  · omega
  · have := (h.iw.own.lt _ e).2; omega
theorem WSt.push {w0 w w' : World} {p b : Nat} {v : Value} {A : List UInt8} {xs : List (Nat × Array Value × TypeId)} {cs : Array Value} {t : TypeId} (h : WSt w0 w p v A xs) (hb : Below w.heap.size w w') (e : b = w.heap.size) (hx : Box w' b cs t) : WSt w0 w' p v A ((b, cs, t) :: xs) := by
  subst e
  have h' := h.below hb
  refine ⟨h'.iw, fun x hx' => ?_, h'.le, h'.bel⟩
  rcases List.mem_cons.1 hx' with rfl | hx'
  · exact ⟨hx, h.row⟩
  · exact h'.bx x hx'
theorem WSt.drop {w0 w : World} {p : Nat} {v : Value} {A : List UInt8} {x : Nat × Array Value × TypeId} {xs : List (Nat × Array Value × TypeId)} (h : WSt w0 w p v A (x :: xs)) : WSt w0 w p v A xs := ⟨h.iw, fun y hy => h.bx y (by simp [hy]), h.le, h.bel⟩
theorem WSt.one {w0 w : World} {p : Nat} {v : Value} {A : List UInt8} {x : Nat × Array Value × TypeId} {xs : List (Nat × Array Value × TypeId)} (h : WSt w0 w p v A (x :: xs)) : Box w x.1 x.2.1 x.2.2 := (h.bx x (by simp)).1
theorem WSt.ints {w0 w : World} {p r : Nat} {v : Value} {A : List UInt8} {xs : List (Nat × Array Value × TypeId)} (h : WSt w0 w p v A xs) (hr : r = w.heap.size) (ns : List Int) (hns : ∀ n ∈ ns, N63 n) (hA : A.length ≤ 100000) (hn : ns.length ≤ 100) :
    Calls Tryz.prog 100 #[.agg #[.pointer (some ⟨p, 0, none⟩)], .slice (some ⟨r, 0, none⟩) ns.length ns.length] (w.alloc (.cells (ns.map (fun n => Value.int .i64 n)).toArray 3)) fun ev w' => ev = .returned (.tuple #[]) ∧ ∃ v', WSt w0 w' p v' (A ++ numsB ns) xs := by
  subst hr
  have h' := h.below (below_alloc w (.cells (ns.map (fun n => Value.int .i64 n)).toArray 3))
  refine (outInts_calls w0.heap.size p w.heap.size v A ns _ h'.iw (Box.new _ _ _) hns h.row hA hn h'.bel.size).mono ?_
  rintro ev w' ⟨rfl, v', s1, s2, s3⟩
  exact ⟨rfl, v', h'.call s1 s2 s3⟩
theorem WSt.text {w0 w : World} {p : Nat} {v : Value} {A : List UInt8} {xs : List (Nat × Array Value × TypeId)} (h : WSt w0 w p v A xs) (m : List UInt8) (hm : m.length ≤ 32) (hA : A.length ≤ 100000) :
    Calls Tryz.prog 69 #[.pointer (some ⟨p, 0, none⟩), .string (SB m)] w fun ev w' => ev = .returned (.tuple #[]) ∧ ∃ v', WSt w0 w' p v' (A ++ textB m) xs := by
  refine (wText_calls w0.heap.size p v A m w h.iw (by omega) (by omega) h.bel.size).mono ?_
  rintro ev w' ⟨rfl, v', s1, s2, s3⟩
  exact ⟨rfl, v', h.call s1 s2 s3⟩
theorem WSt.number {w0 w : World} {p : Nat} {v : Value} {A : List UInt8} {xs : List (Nat × Array Value × TypeId)} (h : WSt w0 w p v A xs) (n : Nat) (hn : n < 2 ^ 64) (hA : A.length ≤ 100000) :
    Calls Tryz.prog 68 #[.pointer (some ⟨p, 0, none⟩), .int .u64 (n : Int)] w fun ev w' => ev = .returned (.tuple #[]) ∧ ∃ v', WSt w0 w' p v' (A ++ sevM n) xs := by
  refine (wNumber_calls w0.heap.size p v A n w h.iw hn (by omega) h.bel.size).mono ?_
  rintro ev w' ⟨rfl, v', s1, s2, s3⟩
  exact ⟨rfl, v', h.call s1 s2 s3⟩
def imgB (st : StM) : List UInt8 := numsB [st.clock, st.births, (st.l.length : Int)] ++ st.l.flatMap (sesOn [])
def imgM (st : StM) : List UInt8 := if checkM st = none then imgB st else []
def imgN (st : StM) : Int := if checkM st = none then 0 else 24
theorem sesOn_parts (q : SesM) : sesOn [] q = (((numsB [q.slot, q.birth, q.upS, q.upB, q.kind] ++ textB q.user) ++ textB q.label) ++ sevM q.scopes) ++ numsB [q.level, q.born, q.deadline, q.depth] := by
  unfold sesOn numsB; simp
theorem sesOn_len {q : SesM} (h : mayS q = true) : (sesOn [] q).length ≤ 200 := by
  have hs := SesN.of h
  unfold sesOn
  have h1 := fun n => numB_len n
  have h2 := fun n => sevM_len n
  have h3 := textB_len hs.user
  have h4 := textB_len hs.label
  simp only [List.length_append, List.length_nil]
  have := h1 q.slot; have := h1 q.birth; have := h1 q.upS; have := h1 q.upB; have := h1 q.kind; have := h2 q.scopes; have := h1 q.level; have := h1 q.born; have := h1 q.deadline; have := h1 q.depth
  omega
theorem sesOns_len : ∀ {l : List SesM}, (∀ s ∈ l, mayS s = true) → (l.flatMap (sesOn [])).length ≤ 200 * l.length
  | [], _ => by simp
  | s :: l, h => by
    have h1 := sesOn_len (h s (by simp))
    have h2 := sesOns_len (l := l) (fun q hq => h q (by simp [hq]))
    rw [List.flatMap_cons, List.length_append, List.length_cons]; omega
theorem numB_len3 (a b c : Int) : (numsB [a, b, c]).length ≤ 30 := numsB_le [a, b, c]
theorem check_parts {st : StM} (h : checkM st = none) : N63 st.clock ∧ N63 st.births ∧ st.l.length ≤ 32 ∧ ∀ s ∈ st.l, mayS s = true := by
  rw [checkM_none] at h
  obtain ⟨h1, h2⟩ := h
  unfold boundsM at h1
  simp only [Bool.and_eq_true, decide_eq_true_eq] at h1
  refine ⟨.of h1.1 (by omega) (by omega), .of h1.2.1 (by omega) (by omega), h1.2.2, fun s hs => ?_⟩
  obtain ⟨i, hi, rfl⟩ := List.getElem_of_mem hs
  exact (mayI_iff.1 (h2 i hi)).may
theorem imgB_len {st : StM} (h : checkM st = none) : (imgB st).length ≤ 7000 := by
  obtain ⟨_, _, h3, h4⟩ := check_parts h
  have h5 := sesOns_len h4
  have := numB_len3 st.clock st.births st.l.length
  unfold imgB
  rw [List.length_append]; omega
set_option maxHeartbeats 12800000 in
theorem encImg_calls (st : StM) (v : Value) (w : World) (hr : RdS w v st.l) (ho : ∀ s ∈ st.l, SesOk s) :
    Calls Tryz.prog 75 #[.agg #[.int .i64 st.clock, .int .i64 st.births, v]] w fun ev w' => ∃ o, ev = .returned (.tuple #[o, errV (imgN st)]) ∧ OwnM w' w.heap.size 5 o (imgM st).length ((imgM st).map V8) ∧ Below w.heap.size w w' := by
  obtain ⟨a, cap, rfl, hc1, hc2⟩ := hr.slice
  have HCK := Lib.hid (fun w' hb => check_calls st (.slice a st.l.length cap) w' (hr.below hb) ho)
  have HR := Lib.hid hr
  have HO := Lib.hid ho
  have HX0 := Lib.hid (Box.new w #[.int .i64 st.clock, .int .i64 st.births, .slice a st.l.length cap] 30)
  have HB := Lib.hid (below_alloc w (.cells #[.int .i64 st.clock, .int .i64 st.births, .slice a st.l.length cap] 30))
  have hln : st.l.length ≤ 9223372036854775807 := by omega
  clear hr ho hc1
  go_enter Tryz.func75, Tryz.ntmps75
  go_wp2_with fail
  refine (HCK.out _ HB.out).mono ?_
  rintro ev w1 ⟨rfl, hb1⟩
  have HB1 := Lib.hid (HB.out.trans (hb1.mono HB.out.size))
  have HX1 := Lib.hid (HX0.out.below hb1)
  clear hb1 HB HX0 HCK
  cases hck : checkM st with
  | some n =>
    have H1 := Lib.hid (show imgM st = [] by unfold imgM; rw [hck]; rfl)
    have H2 := Lib.hid (show imgN st = 24 by unfold imgN; rw [hck]; rfl)
    rw [show chkV (some n) = .iface 99 (.agg #[.int .i64 24, .int .i64 n]) from rfl]
    clear hck
    go_wp2_with fail
    refine bodyPost_ret (results_tmp2 rfl _ _ _) rfl ?_
    rw [H1.out, H2.out]
    exact ⟨_, rfl, OwnM.nil _ _ _, HB1.out⟩
  | none =>
  have H1 := Lib.hid (show imgM st = imgB st by unfold imgM; rw [hck]; rfl)
  have H2 := Lib.hid (show imgN st = 0 by unfold imgN; rw [hck]; rfl)
  have HPA := Lib.hid (check_parts hck)
  have HLB := Lib.hid (imgB_len hck)
  rw [show chkV none = .nilIface from rfl]
  clear hck
  go_wp2_with fail
  refine (new_calls w1).mono ?_
  rintro ev w2 ⟨rfl, hiw, hb2⟩
  have HX2 := Lib.hid (HX1.out.below hb2)
  have HB2 := Lib.hid (HB1.out.trans (hb2.mono HB1.out.size))
  have HIW := Lib.hid hiw
  have hlt1 : w1.heap.size < w2.heap.size := hiw.box.lt
  have hlt0 : w.heap.size < w1.heap.size := HX1.out.lt
  clear hb2 hiw HX1
  go_wp2_with fail
  go_region
  have hst : WSt w (w2.alloc (.cells #[.pointer (some ⟨w1.heap.size, 0, none⟩)] 204)) w1.heap.size (.slice none 0 0) [] [(w2.heap.size, #[.pointer (some ⟨w1.heap.size, 0, none⟩)], 204), (w.heap.size, #[.int .i64 st.clock, .int .i64 st.births, .slice a st.l.length cap], 30)] := by
    refine WSt.push (w := w2) ⟨⟨HIW.out.box, OwnM.nil _ _ _, HIW.out.ne⟩, fun x hx => ?_, HB1.out.size, HB2.out⟩ (below_alloc _ _) rfl (Box.new _ _ _)
    rw [List.mem_singleton.1 hx]
    exact ⟨HX2.out, wf_nil (by show w.heap.size ≠ w1.heap.size; omega)⟩
  have HST := Lib.hid (hst.below (below_drew _))
  clear hst HX2 HIW
  generalize hw3 : World.drew _ = w3 at HST ⊢
  clear hw3
  have c0 : w3.cell? ⟨w.heap.size, 0, none⟩ = some (.int .i64 st.clock) := HST.out.drop.one.cell 0 _ rfl
  have c1 : w3.cell? ⟨w.heap.size, 1, none⟩ = some (.int .i64 st.births) := HST.out.drop.one.cell 1 _ rfl
  have c2 : w3.cell? ⟨w.heap.size, 2, none⟩ = some (.slice a st.l.length cap) := HST.out.drop.one.cell 2 _ rfl
  have HC := Lib.hid (HST.out.ints rfl [st.clock, st.births, (st.l.length : Int)] (fun n hn => by
      simp only [List.mem_cons, List.not_mem_nil, or_false] at hn
      rcases hn with rfl | rfl | rfl
      · exact HPA.out.1
      · exact HPA.out.2.1
      · exact ⟨by omega, by have := HPA.out.2.2.1; omega⟩) (by simp) (by simp))
  clear HST hlt0 hlt1
  go_wp2_with fail
  refine HC.out.mono ?_
  rintro ev w4 ⟨rfl, v4, hst4⟩
  have HS4 := Lib.hid hst4
  have c2 : w4.cell? ⟨w.heap.size, 2, none⟩ = some (.slice a st.l.length cap) := hst4.drop.one.cell 2 _ rfl
  clear hst4 c0 c1 HC
  go_wp2_with fail
  clear c2
  obtain ⟨n, hn⟩ : ∃ n, n = st.l.length := ⟨_, rfl⟩
  have HN := Lib.hid hn
  have hn2 : n ≤ 9223372036854775807 := by omega
  obtain ⟨A0, hA0⟩ : ∃ A0, A0 = [] ++ numsB [st.clock, st.births, (st.l.length : Int)] := ⟨_, rfl⟩
  rw [← hA0] at HS4
  have HA := Lib.hid (show A0.length ≤ 30 by rw [hA0, List.nil_append]; exact numB_len3 _ _ _)
  have HEQ := Lib.hid (show imgB st = A0 ++ st.l.flatMap (sesOn []) by unfold imgB; rw [hA0]; rfl)
  have HLS := Lib.hid (fun k => show (A0 ++ (st.l.take k).flatMap (sesOn [])).length ≤ 7000 by
    have h1 := HA.out
    have h2 := sesOns_len (l := st.l.take k) (fun s hs => HPA.out.2.2.2 s (List.mem_of_mem_take hs))
    have h3 := HPA.out.2.2.1
    rw [List.length_take] at h2
    rw [List.length_append]; omega)
  rw [← hn] at HS4 ⊢
  clear hA0 hn hln
  generalize hxs : (w2.heap.size, (#[.pointer (some ⟨w1.heap.size, 0, none⟩)] : Array Value), 204) = x1 at HS4
  generalize hys : (w.heap.size, (#[.int .i64 st.clock, .int .i64 st.births, .slice a n cap] : Array Value), 30) = x2 at HS4
  have hxo : ∀ (w' : World) (v : Value) (A : List UInt8), WSt w w' w1.heap.size v A [x1, x2] → w'.cell? ⟨w2.heap.size, 0, none⟩ = some (.pointer (some ⟨w1.heap.size, 0, none⟩)) := fun _ _ _ h => by have := h.one; rw [← hxs] at this; exact this.cell 0 _ rfl
  have HXO := Lib.hid hxo
  clear hxs hys hxo
  go_loopg [37] n (fun gk iv wr => ∃ (k : Nat) (v1 : Value), gk + k = n ∧ iv = .int .i64 (k : Int) ∧ WSt w wr w1.heap.size v1 (A0 ++ (st.l.take k).flatMap (sesOn [])) [x1, x2])
  case atStart => exact ⟨0, v4, by omega, rfl, by have := HS4.out; simpa using this⟩
  case round =>
    obtain ⟨k, v1, hgk, rfl, hst⟩ := hrel
    have HST := Lib.hid hst
    have HGK := Lib.hid hgk
    have k0 : (0 : Int) ≤ (k : Int) := by omega
    clear hst hgk HS4
    by_cases hk : k < n
    rotate_left
    · have k1 : ¬ (k : Int) < (n : Int) := by omega
      have hT := HST.out
      rw [List.take_of_length_le (by have := HN.out; omega), ← HEQ.out] at hT
      have HT := Lib.hid hT
      have c0 := HXO.out _ _ _ hT
      clear hk hT HST
      go_wp2_with fail
      refine (wBytes_calls w.heap.size w1.heap.size _ _ _ HT.out.iw (by have := HLB.out; omega)).mono ?_
      rintro ev w9 ⟨o9, rfl, ho9, hb9⟩
      have HO9 := Lib.hid (ho9.lower HT.out.bel.size)
      have HB9 := Lib.hid (HT.out.bel.trans (hb9.mono HT.out.bel.size))
      clear ho9 hb9 c0
      go_wp2_with fail
      refine bodyPost_ret (results_tmp2 rfl _ _ _) rfl ?_
      rw [H1.out, H2.out]
      exact ⟨_, rfl, HO9.out, HB9.out⟩
    have k1 : (k : Int) < (n : Int) := by omega
    have hkl : k < st.l.length := by have := HN.out; omega
    have HRr := Lib.hid (HR.out.below HST.out.bel)
    obtain ⟨s, hs⟩ : ∃ s, s = st.l[k] := ⟨_, rfl⟩
    obtain ⟨rb, ro, hra, hrow⟩ := HRr.out.row k hkl
    subst hra
    rw [← hs] at hrow
    have HSN := Lib.hid (SesN.of (HPA.out.2.2.2 s (by rw [hs]; exact List.getElem_mem hkl)))
    have HSO := Lib.hid (HO.out s (by rw [hs]; exact List.getElem_mem hkl))
    have HTK := Lib.hid (show A0 ++ (st.l.take (k + 1)).flatMap (sesOn []) = ((((A0 ++ (st.l.take k).flatMap (sesOn [])) ++ numsB [s.slot, s.birth, s.upS, s.upB, s.kind]) ++ textB s.user) ++ textB s.label) ++ sevM s.scopes ++ numsB [s.level, s.born, s.deadline, s.depth] by
      rw [List.take_succ_eq_append_getElem hkl, List.flatMap_append, ← hs]
      simp only [List.flatMap_cons, List.flatMap_nil, List.append_nil]
      rw [sesOn_parts]; simp only [List.append_assoc])
    generalize hAk : A0 ++ (st.l.take k).flatMap (sesOn []) = Ak at HST HTK
    have hl1 := HLS.out (k + 1)
    rw [HTK.out] at hl1
    simp only [List.length_append] at hl1
    have HL1 := Lib.hid hl1
    have HROW := Lib.hid hrow
    have HK := Lib.hid hk
    clear hk hkl hs hrow hl1 hAk
    go_wp2_with ((with_reducible refine wpList_load_k ?b0 45 (.tmp 39) ?b1 rb (ro + k * 12) ?b2 s.cells.toList _ HROW.out Tryz.underlying45 ?b3 ?b4 ?b8); (case b1 => rfl); (case b0 => rfl); (case b2 => rfl); (case b3 => rfl); (case b4 => kernel_rfl))
    intro cv hcv
    go_wp2_with ((with_reducible refine wpList_store_k ?a0 45 (.tmp 9) (.tmp 40) ?a1 wr.heap.size 0 s.cells.toList ?a2 cv ?a3 hcv ?a5 ?a6 ?a7 ?a8); (case a1 => rfl); (case a0 => rfl); (case a2 => rfl); (case a3 => rfl); (case a5 => exact thereZ _ _); (case a6 => kernel_rfl); (case a7 => exact SesM.oneS _))
    intro w5 hw5
    obtain ⟨hpx, hb5⟩ := putZ hw5
    have HS5 := Lib.hid (HST.out.push hb5 rfl hpx)
    clear hcv hw5 hpx hb5 HST HROW HRr
    have c0 : w5.cell? ⟨wr.heap.size, 0, none⟩ = some (.int .i64 s.slot) := HS5.out.one.cell 0 _ rfl
    have c1 : w5.cell? ⟨wr.heap.size, 1, none⟩ = some (.int .i64 s.birth) := HS5.out.one.cell 1 _ rfl
    have c2 : w5.cell? ⟨wr.heap.size, 2, none⟩ = some (.int .i64 s.upS) := HS5.out.one.cell 2 _ rfl
    have c3 : w5.cell? ⟨wr.heap.size, 3, none⟩ = some (.int .i64 s.upB) := HS5.out.one.cell 3 _ rfl
    have c4 : w5.cell? ⟨wr.heap.size, 4, none⟩ = some (.int .i64 s.kind) := HS5.out.one.cell 4 _ rfl
    have HC := Lib.hid (HS5.out.ints rfl [s.slot, s.birth, s.upS, s.upB, s.kind] (fun n hn => by
      simp only [List.mem_cons, List.not_mem_nil, or_false] at hn
      rcases hn with rfl | rfl | rfl | rfl | rfl
      · exact HSN.out.slot
      · exact HSN.out.birth
      · exact HSN.out.upS
      · exact HSN.out.upB
      · exact HSN.out.kind) (by have := HL1.out; (try simp only [List.length_append]); omega) (by simp))
    go_wp2_with fail
    refine HC.out.mono ?_
    rintro ev w6 ⟨rfl, v6, hst⟩
    have HS6 := Lib.hid hst
    clear hst HC HS5 c0 c1 c2 c3 c4
    have c5 : w6.cell? ⟨wr.heap.size, 5, none⟩ = some (.string (SB s.user)) := HS6.out.one.cell 5 _ rfl
    have HC := Lib.hid (HS6.out.text s.user HSN.out.user (by have := HL1.out; (try simp only [List.length_append]); omega))
    go_wp2_with fail
    refine HC.out.mono ?_
    rintro ev w7 ⟨rfl, v7, hst⟩
    have HS7 := Lib.hid hst
    clear hst HC HS6 c5
    have c6 : w7.cell? ⟨wr.heap.size, 6, none⟩ = some (.string (SB s.label)) := HS7.out.one.cell 6 _ rfl
    have HC := Lib.hid (HS7.out.text s.label HSN.out.label (by have := HL1.out; (try simp only [List.length_append]); omega))
    go_wp2_with fail
    refine HC.out.mono ?_
    rintro ev w8 ⟨rfl, v8, hst⟩
    have HS8 := Lib.hid hst
    clear hst HC HS7 c6
    have c7 : w8.cell? ⟨wr.heap.size, 7, none⟩ = some (.int .u64 (s.scopes : Int)) := HS8.out.one.cell 7 _ rfl
    have HC := Lib.hid (HS8.out.number s.scopes HSO.out.scopes (by have := HL1.out; (try simp only [List.length_append]); omega))
    go_wp2_with fail
    refine HC.out.mono ?_
    rintro ev w9 ⟨rfl, v9, hst⟩
    have HS9 := Lib.hid hst
    clear hst HC HS8 c7
    have c8 : w9.cell? ⟨wr.heap.size, 8, none⟩ = some (.int .i64 s.level) := HS9.out.one.cell 8 _ rfl
    have c9 : w9.cell? ⟨wr.heap.size, 9, none⟩ = some (.int .i64 s.born) := HS9.out.one.cell 9 _ rfl
    have c10 : w9.cell? ⟨wr.heap.size, 10, none⟩ = some (.int .i64 s.deadline) := HS9.out.one.cell 10 _ rfl
    have c11 : w9.cell? ⟨wr.heap.size, 11, none⟩ = some (.int .i64 s.depth) := HS9.out.one.cell 11 _ rfl
    have HC := Lib.hid (HS9.out.ints rfl [s.level, s.born, s.deadline, s.depth] (fun n hn => by
      simp only [List.mem_cons, List.not_mem_nil, or_false] at hn
      rcases hn with rfl | rfl | rfl | rfl
      · exact HSN.out.level
      · exact HSN.out.born
      · exact HSN.out.deadline
      · exact HSN.out.depth) (by have := HL1.out; (try simp only [List.length_append]); omega) (by simp))
    go_wp2_with fail
    refine HC.out.mono ?_
    rintro ev w10 ⟨rfl, v10, hst⟩
    have HS10 := Lib.hid hst
    clear hst HC HS9 c8 c9 c10 c11
    have HS11 := Lib.hid HS10.out.drop
    clear HS10
    go_wp2_with fail
    go_roundg (n - (k + 1))
    case measure => have := HGK.out; have := HK.out; omega
    case rel => exact ⟨k + 1, v10, by have := HGK.out; have := HK.out; omega, by go_num, by rw [HTK.out]; exact HS11.out⟩
end Go.Proofs.YtgcnolapjppbpaaGreatDoor
