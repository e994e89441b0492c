/-
  Texts of one proof, one behind the other.
-/
import Derived.Test.YtgcnolapjppbpaaGreatDoorK20
import Derived.Test.YtgcnolapjppbpaaGreatDoorK14
import Derived.Test.YtgcnolapjppbpaaGreatDoorK15
import Derived.Test.YtgcnolapjppbpaaGreatDoorK03
namespace Go.Proofs.YtgcnolapjppbpaaGreatDoor
open Go.RowKit
set_option maxRecDepth 100000
def N63 (n : Int) : Prop := 0 ≤ n ∧ n ≤ 9223372036854775807
theorem N63.of {n lo hi : Int} (h : fromM n lo hi = true) (h0 : 0 ≤ lo) (h1 : hi ≤ 9223372036854775807) : N63 n := by
  have := fromM_yes h; exact ⟨by omega, by omega⟩
theorem N63.zero {n : Int} (h : (n == 0) = true) : N63 n := by simp at h; subst h; exact ⟨by omega, by omega⟩
structure SesN (s : SesM) : Prop where
  slot : N63 s.slot
  birth : N63 s.birth
  upS : N63 s.upS
  upB : N63 s.upB
  kind : N63 s.kind
  user : s.user.length ≤ 32
  label : s.label.length ≤ 32
  level : N63 s.level
  born : N63 s.born
  deadline : N63 s.deadline
  depth : N63 s.depth
theorem nameM_le {l : List UInt8} (h : nameM l = true) : l.length ≤ 32 := by
  unfold nameM at h; rw [decide_eq_true_iff] at h; exact h.2.1
theorem SesN.of {s : SesM} (h : mayS s = true) : SesN s := by
  unfold mayS at h
  simp only [Bool.and_eq_true] at h
  obtain ⟨h1, h2, h3, h4, h5, h6, h7⟩ := h
  have hd : N63 s.deadline := by
    have := fromM_yes h5; have := fromM_yes h6; exact ⟨by omega, by omega⟩
  have hch : childM s = true → N63 s.kind → SesN s := fun hc hk => by
    unfold childM at hc
    simp only [Bool.and_eq_true] at hc
    obtain ⟨c1, c2, c3, c4⟩ := hc
    have hb2 : N63 s.upB := by
      have := fromM_yes h2; have := fromM_yes c2; exact ⟨by omega, by omega⟩
    exact ⟨.of h1 (by omega) (by omega), .of h2 (by omega) (by omega), .of c1 (by omega) (by omega), hb2, hk, nameM_le h3, nameM_le c3, .of h4 (by omega) (by omega), .of h5 (by omega) (by omega), hd, .of c4 (by omega) (by omega)⟩
  cases k0 : (s.kind == 0)
  · rw [k0] at h7
    cases k1 : (s.kind == 1)
    · rw [k1] at h7
      cases k2 : (s.kind == 2)
      · rw [k2] at h7; simp at h7
      · rw [k2] at h7
        simp only [Bool.false_eq_true, if_false, if_true, Bool.and_eq_true] at h7
        have : s.kind = 2 := by simpa using k2
        exact hch h7.1 ⟨by omega, by omega⟩
    · rw [k1] at h7
      simp only [Bool.false_eq_true, if_false, if_true] at h7
      have : s.kind = 1 := by simpa using k1
      exact hch h7 ⟨by omega, by omega⟩
  · rw [k0] at h7
    simp only [if_true] at h7
    unfold loginM at h7
    simp only [Bool.and_eq_true] at h7
    obtain ⟨c1, c2, c3, c4⟩ := h7
    exact ⟨.of h1 (by omega) (by omega), .of h2 (by omega) (by omega), .zero c1, .zero c2, .zero k0, nameM_le h3, by rw [List.isEmpty_iff.1 c3]; simp, .of h4 (by omega) (by omega), .of h5 (by omega) (by omega), hd, .zero c4⟩
def sesOn (b : List UInt8) (s : SesM) : List UInt8 := b ++ numB s.slot ++ numB s.birth ++ numB s.upS ++ numB s.upB ++ numB s.kind ++ textB s.user ++ textB s.label ++ sevM s.scopes ++ numB s.level ++ numB s.born ++ numB s.deadline ++ numB s.depth
def evB (e : EvtM) : List UInt8 := if (e.kind == 1) = true then numB e.kind ++ numB e.birth else if (e.kind == 2) = true then numB e.kind ++ numB e.ticks else sesOn (numB e.kind) e.s
theorem numB_len (n : Int) : (numB n).length ≤ 10 := sevM_len _
theorem textB_len {l : List UInt8} (h : l.length ≤ 32) : (textB l).length ≤ 42 := by
  unfold textB; rw [List.length_append]; have := sevM_len l.length; omega
theorem evB_len {e : EvtM} (h : SesN e.s) : (evB e).length ≤ 1000 := by
  unfold evB
  have h1 := fun n => numB_len n
  split
  · rw [List.length_append]; have := h1 e.kind; have := h1 e.birth; omega
  split
  · rw [List.length_append]; have := h1 e.kind; have := h1 e.ticks; omega
  · unfold sesOn
    simp only [List.length_append]
    have := h1 e.kind; have := h1 e.s.slot; have := h1 e.s.birth; have := h1 e.s.upS; have := h1 e.s.upB; have := h1 e.s.kind; have := h1 e.s.level; have := h1 e.s.born; have := h1 e.s.deadline; have := h1 e.s.depth
    have := textB_len h.user; have := textB_len h.label; have := sevM_len e.s.scopes
    omega
structure PutSt (w0 w : World) (b : Nat) (cs : Array Value) (t : TypeId) (v : Value) (A : List UInt8) : Prop where
  bx : Box w b cs t
  own : OwnM w w0.heap.size 5 v A.length (A.map V8)
  ne : v.ownBlock ≠ some b
  bel : Below w0.heap.size w0 w
theorem PutSt.call {w0 w w' : World} {b : Nat} {cs : Array Value} {t : TypeId} {v : Value} {A : List UInt8} (h : PutSt w0 w b cs t v A) (hb : Below w.heap.size w w') : PutSt w0 w' b cs t v A :=
  ⟨h.bx.below hb, h.own.below hb, h.ne, h.bel.trans (hb.mono h.bel.size)⟩
end Go.Proofs.YtgcnolapjppbpaaGreatDoor
namespace Go.Proofs.YtgcnolapjppbpaaGreatDoor
open Go.RowKit
set_option maxRecDepth 100000
def numsB (ns : List Int) : List UInt8 := ns.flatMap numB
theorem numsB_snoc (ns : List Int) (n : Int) : numsB (ns ++ [n]) = numsB ns ++ numB n := by simp [numsB]
theorem wNumberZ_calls {n : Int} (h : N63 n) (B p : Nat) (v0 : Value) (l0 : List UInt8) (w : World) (hw : IsW w B p v0 l0) (hl0 : l0.length ≤ 140737488350000) (hB : B ≤ w.heap.size) :
    Calls Tryz.prog 68 #[.pointer (some ⟨p, 0, none⟩), .int .u64 n] w fun e w' => e = .returned (.tuple #[]) ∧ ∃ v', IsW w' B p v' (l0 ++ numB n) ∧ Mod (WF p v0) w w' ∧ Fresh w v0 v' := by
  obtain ⟨h1, h2⟩ := h
  obtain ⟨k, rfl⟩ : ∃ k : Nat, n = (k : Int) := ⟨n.toNat, by omega⟩
  exact wNumber_calls B p v0 l0 k w hw (by omega) hl0 hB
theorem mod_u64z {n : Int} (h : N63 n) : n % 18446744073709551616 = n := by obtain ⟨h1, h2⟩ := h; omega
set_option maxHeartbeats 1600000 in
theorem encNumbers_calls (B p q r : Nat) (v0 : Value) (l0 : List UInt8) (ns : List Int) (t : TypeId) (w : World) (hw : IsW w B p v0 l0) (hq : Box w q #[.pointer (some ⟨p, 0, none⟩)] t) (hr : Box w r (ns.map (fun n => Value.int .i64 n)).toArray 3)
    (hns : ∀ n ∈ ns, N63 n) (hql : ¬ WF p v0 q) (hrl : ¬ WF p v0 r) (hl0 : l0.length ≤ 100000) (hn : ns.length ≤ 100) (hB : B ≤ w.heap.size) :
    Calls Tryz.prog 67 #[.slice (some ⟨r, 0, none⟩) ns.length ns.length, .pointer (some ⟨q, 0, none⟩)] w fun e w' => e = .returned (.tuple #[]) ∧ ∃ v', IsW w' B p v' (l0 ++ numsB ns) ∧ Mod (WF p v0) w w' ∧ Fresh w v0 v' := by
  go_enter Tryz.func67, Tryz.ntmps67
  go_wp2_with fail
  go_loopg [7] ns.length (fun gk iv wr => ∃ (k : Nat) (v1 : Value), gk + k = ns.length ∧ iv = .int .i64 (k : Int) ∧ IsW wr B p v1 (l0 ++ numsB (ns.take k)) ∧ Mod (WF p v0) w wr ∧ Fresh w v0 v1)
  case atStart => exact ⟨0, v0, rfl, rfl, by simpa [numsB] using hw, Mod.refl _ _, Fresh.refl _ _⟩
  case round =>
    obtain ⟨k, v1, hgk, rfl, hW, hM, hF⟩ := hrel
    have hs := hM.size
    have HW := Lib.hid hW
    have HM := Lib.hid hM
    have HF := Lib.hid hF
    by_cases hk : k < ns.length
    · obtain ⟨n, hnn⟩ : ∃ n, n = ns[k] := ⟨_, rfl⟩
      have hz := mod_u64z (n := n) (hns n (by rw [hnn]; exact List.getElem_mem _))
      have Hn := Lib.hid (hns n (by rw [hnn]; exact List.getElem_mem _))
      have c0 := (hq.mod hM hql).cell 0 _ rfl
      have c1 : wr.cell? ⟨r, k, none⟩ = some (.int .i64 n) := (hr.mod hM hrl).cell k _ (by simp [hk, hnn])
      have HT := Lib.hid (show numsB (ns.take (k + 1)) = numsB (ns.take k) ++ numB n from by rw [List.take_succ_eq_append_getElem hk, numsB_snoc, hnn])
      have HL := Lib.hid (show (l0 ++ numsB (ns.take k)).length ≤ 140737488350000 from by
        have : ∀ l : List Int, (numsB l).length ≤ 10 * l.length := by
          intro l
          induction l with
          | nil => simp [numsB]
          | cons a l ih => have := numB_len a; simp only [numsB, List.flatMap_cons, List.length_append, List.length_cons] at ih ⊢; omega
        have h1 := this (ns.take k)
        have h2 : (ns.take k).length ≤ 100 := by rw [List.length_take]; omega
        rw [List.length_append]; omega)
      have k0 : (0 : Int) ≤ (k : Int) := by omega
      have k1 : (k : Int) < (ns.length : Int) := by omega
      have Hgk := Lib.hid hgk
      have Hk := Lib.hid hk
      clear hgk hnn hW hM hF hk
      go_wp2_with fail
      refine (wNumberZ_calls Hn.out B p v1 _ _ HW.out HL.out (by omega)).mono ?_
      rintro e w2 ⟨rfl, v2, s1, s2, s3⟩
      have HS1 := Lib.hid s1
      have HS2 := Lib.hid (WF.then HM.out HF.out s2)
      have HS3 := Lib.hid (HF.out.trans hs s3)
      clear s1 s2 s3 c0 c1
      go_wp2_with fail
      go_roundg (ns.length - (k + 1))
      case measure => have := Hgk.out; have := Hk.out; omega
      case rel => exact ⟨k + 1, v2, by have := Hgk.out; have := Hk.out; omega, by go_num, by rw [HT.out, ← List.append_assoc]; exact HS1.out, HS2.out, HS3.out⟩
    · have k1 : ¬ (k : Int) < (ns.length : Int) := by omega
      have ht : ns.take k = ns := List.take_of_length_le (by omega)
      rw [ht] at hW
      have HW2 := Lib.hid hW
      clear hgk hW hM hF ht HW
      go_wp2_with fail
      refine bodyPost_end (results_none rfl _ _ _) rfl ?_
      exact ⟨rfl, v1, HW2.out, HM.out, HF.out⟩
end Go.Proofs.YtgcnolapjppbpaaGreatDoor
namespace Go.Proofs.YtgcnolapjppbpaaGreatDoor
open Go.RowKit
set_option maxRecDepth 100000
def encM (e : EvtM) : List UInt8 := if mayE e = true then evB e else []
def encN (e : EvtM) : Int := if mayE e = true then 0 else 1
structure EncSt (w0 w : World) (p q b : Nat) (cs : Array Value) (t : TypeId) (v : Value) (A : List UInt8) : Prop where
  iw : IsW w w0.heap.size p v A
  bq : Box w q #[.pointer (some ⟨p, 0, none⟩)] 130
  bb : Box w b cs t
  nq : ¬ WF p v q
  nb : ¬ WF p v b
  le : w0.heap.size ≤ p
  bel : Below w0.heap.size w0 w
theorem EncSt.call {w0 w w' : World} {p q b : Nat} {cs : Array Value} {t : TypeId} {v v' : Value} {A A' : List UInt8} (h : EncSt w0 w p q b cs t v A) (hw : IsW w' w0.heap.size p v' A') (hm : Mod (WF p v) w w') (hf : Fresh w v v') : EncSt w0 w' p q b cs t v' A' := by
  have h1 := h.bq.lt
  have h2 := h.bb.lt
  refine ⟨hw, h.bq.mod hm h.nq, h.bb.mod hm h.nb, ?_, ?_, h.le, h.bel.trans (hm.below h.bel.size (fun i hi => ?_))⟩
  · rintro (e | e)
    · exact h.nq (.inl e)
    · rcases hf _ e with e | e
      · exact h.nq (.inr e)
      · omega
  · rintro (e | e)
    · exact h.nb (.inl e)
    · rcases hf _ e with e | e
      · exact h.nb (.inr e)
      · omega
  · rcases hi with rfl | e
    · exact h.le
    · exact (h.iw.own.lt i e).1
theorem EncSt.below {w0 w w' : World} {p q b : Nat} {cs : Array Value} {t : TypeId} {v : Value} {A : List UInt8} (h : EncSt w0 w p q b cs t v A) (hb : Below w.heap.size w w') : EncSt w0 w' p q b cs t v A :=
  ⟨h.iw.below hb, h.bq.below hb, h.bb.below hb, h.nq, h.nb, h.le, h.bel.trans (hb.mono h.bel.size)⟩
theorem EncSt.row {w0 w : World} {p q b : Nat} {cs : Array Value} {t : TypeId} {v : Value} {A : List UInt8} (h : EncSt w0 w p q b cs t v A) : ¬ WF p v w.heap.size := by
  have h1 := h.iw.box.lt
  rintro (e | e)
  · omega
  · have := (h.iw.own.lt _ e).2; omega
theorem EncSt.rebox {w0 w : World} {p q b b' : Nat} {cs cs' : Array Value} {t t' : TypeId} {v : Value} {A : List UInt8} (h : EncSt w0 w p q b cs t v A) (hb : Box w b' cs' t') (hn : ¬ WF p v b') : EncSt w0 w p q b' cs' t' v A := ⟨h.iw, h.bq, hb, h.nq, hn, h.le, h.bel⟩
theorem mayE_ses {e : EvtM} (h : mayE e = true) (k0 : (e.kind == 0) = true) : mayS e.s = true := by
  unfold mayE at h; rw [k0] at h
  simp only [if_true, Bool.and_eq_true] at h
  exact h.2.2
theorem mayE_revoke {e : EvtM} (h : mayE e = true) (k0 : (e.kind == 0) = false) (k1 : (e.kind == 1) = true) : N63 e.birth := by
  unfold mayE at h; rw [k0, k1] at h
  simp only [if_true, Bool.and_eq_true, Bool.false_eq_true, if_false] at h
  exact .of h.2.2 (by omega) (by omega)
theorem mayE_tick {e : EvtM} (h : mayE e = true) (k0 : (e.kind == 0) = false) (k1 : (e.kind == 1) = false) : (e.kind == 2) = true ∧ N63 e.ticks := by
  unfold mayE at h; rw [k0, k1] at h
  cases k2 : (e.kind == 2)
  · rw [k2] at h; simp at h
  · rw [k2] at h
    simp only [if_true, Bool.and_eq_true, Bool.false_eq_true, if_false] at h
    exact ⟨rfl, .of h.2.2 (by omega) (by omega)⟩
theorem N63.lit {n : Int} (k : Nat) (h : (n == (k : Int)) = true) (hk : k < 10) : N63 n := by
  have : n = (k : Int) := by simpa using h
  exact ⟨by omega, by omega⟩
theorem wf_nil {p q : Nat} (h : q ≠ p) : ¬ WF p (.slice none 0 0) q := by
  rintro (e | e)
  · exact h e
  · simp [Value.ownBlock] at e
theorem ta_bb (v : Value) (w : World) : (Instr.typeAssert (.iface 135 v) 128 135 true).run Tryz.prog w = .ok (.tuple #[v, .bool true]) w := by kernel_rfl
theorem ta_rb (v : Value) (w : World) : (Instr.typeAssert (.iface 138 v) 128 135 true).run Tryz.prog w = .ok (.tuple #[.agg #[.int .i64 0, .int .i64 0, .int .i64 0, .int .i64 0, .int .i64 0, .string ⟨#[]⟩, .string ⟨#[]⟩, .int .u64 0, .int .i64 0, .int .i64 0, .int .i64 0, .int .i64 0], .bool false]) w := by kernel_rfl
theorem ta_rr (v : Value) (w : World) : (Instr.typeAssert (.iface 138 v) 128 138 true).run Tryz.prog w = .ok (.tuple #[v, .bool true]) w := by kernel_rfl
theorem ta_tb (v : Value) (w : World) : (Instr.typeAssert (.iface 140 v) 128 135 true).run Tryz.prog w = .ok (.tuple #[.agg #[.int .i64 0, .int .i64 0, .int .i64 0, .int .i64 0, .int .i64 0, .string ⟨#[]⟩, .string ⟨#[]⟩, .int .u64 0, .int .i64 0, .int .i64 0, .int .i64 0, .int .i64 0], .bool false]) w := by kernel_rfl
theorem ta_tr (v : Value) (w : World) : (Instr.typeAssert (.iface 140 v) 128 138 true).run Tryz.prog w = .ok (.tuple #[.agg #[.int .i64 0], .bool false]) w := by kernel_rfl
theorem ta_tt (v : Value) (w : World) : (Instr.typeAssert (.iface 140 v) 128 140 true).run Tryz.prog w = .ok (.tuple #[v, .bool true]) w := by kernel_rfl
theorem EncSt.numbers {w0 w : World} {p q b r : Nat} {cs : Array Value} {t : TypeId} {v : Value} {A : List UInt8} (h : EncSt w0 w p q b cs t v A) (hr : r = w.heap.size) (ns : List Int) (hns : ∀ n ∈ ns, N63 n) (hA : A.length ≤ 100000) (hn : ns.length ≤ 100) :
    Calls Tryz.prog 67 #[.slice (some ⟨r, 0, none⟩) ns.length ns.length, .pointer (some ⟨q, 0, none⟩)] (w.alloc (.cells (ns.map (fun n => Value.int .i64 n)).toArray 3)) fun ev w' => ev = .returned (.tuple #[]) ∧ ∃ v', EncSt w0 w' p q b cs t v' (A ++ numsB ns) := by
  subst hr
  have h' := h.below (below_alloc w (.cells (ns.map (fun n => Value.int .i64 n)).toArray 3))
  refine (encNumbers_calls w0.heap.size p q w.heap.size v A ns _ _ h'.iw h'.bq (Box.new _ _ _) hns h'.nq h.row hA hn h'.bel.size).mono ?_
  rintro ev w' ⟨rfl, v', s1, s2, s3⟩
  exact ⟨rfl, v', h'.call s1 s2 s3⟩
set_option maxHeartbeats 6400000 in
theorem enc_calls (e : EvtM) (w : World) (hu : e.s.user.length ≤ 9223372036854775807) (hl : e.s.label.length ≤ 9223372036854775807) (hsc : e.s.scopes < 2 ^ 64) :
    Calls Tryz.prog 38 #[.agg e.cells] w fun ev w' => ∃ o, ev = .returned (.tuple #[o, errV (encN e)]) ∧ OwnM w' w.heap.size 5 o (encM e).length ((encM e).map V8) ∧ Below w.heap.size w w' := by
  have HE := Lib.hid (show e.cells = #[.int .i64 e.kind, .int .i64 e.s.slot, .int .i64 e.s.birth, .int .i64 e.s.upS, .int .i64 e.s.upB, .int .i64 e.s.kind, .string (SB e.s.user), .string (SB e.s.label), .int .u64 (e.s.scopes : Int), .int .i64 e.s.level, .int .i64 e.s.born, .int .i64 e.s.deadline, .int .i64 e.s.depth, .int .i64 e.birth, .int .i64 e.ticks] from rfl)
  have Hof := Lib.hid (fun w => of_calls e w hu hl)
  have Hbx0 := Lib.hid (Box.new w e.cells 47)
  have HB0 := Lib.hid (below_alloc w (.cells e.cells 47))
  have HSC := Lib.hid hsc
  clear hu hl hsc
  rw [HE.out] at Hbx0 HB0 Hof ⊢
  go_enter Tryz.func38, Tryz.ntmps38
  go_wp2_with fail
  refine (Hof.out _).mono ?_
  rintro ev w1 ⟨rfl, hb1⟩
  have HB1 := Lib.hid (HB0.out.trans (hb1.mono (by simp)))
  have HX1 := Lib.hid (Hbx0.out.below hb1)
  clear hb1 Hof
  cases hmay : mayE e
  · rw [ofV_no hmay]
    have H1 := Lib.hid (show encM e = [] by unfold encM; rw [hmay]; rfl)
    have H2 := Lib.hid (show encN e = 1 by unfold encN; rw [hmay]; rfl)
    clear hmay
    go_wp2_with fail
    refine bodyPost_ret (results_tmp2 rfl _ _ _) rfl ?_
    rw [H1.out, H2.out]
    exact ⟨_, rfl, OwnM.nil _ _ _, HB1.out⟩
  have H2 := Lib.hid (show encN e = 0 by unfold encN; rw [hmay]; rfl)
  have H1 := Lib.hid (show encM e = evB e by unfold encM; rw [hmay]; rfl)
  have HMY := Lib.hid hmay
  cases k0 : (e.kind == 0)
  rotate_left
  · have HN := Lib.hid (SesN.of (mayE_ses hmay k0))
    have k1 : (e.kind == 1) = false := by simp at k0 ⊢; omega
    have k2 : (e.kind == 2) = false := by simp at k0 ⊢; omega
    have HEQ := Lib.hid (show evB e = ((((([] ++ numsB [e.kind]) ++ numsB [e.s.slot, e.s.birth, e.s.upS, e.s.upB, e.s.kind]) ++ textB e.s.user) ++ textB e.s.label) ++ sevM e.s.scopes) ++ numsB [e.s.level, e.s.born, e.s.deadline, e.s.depth] by unfold evB sesOn numsB; rw [k1, k2]; simp)
    have HLB := Lib.hid (evB_len HN.out)
    rw [HEQ.out] at HLB
    have HES := Lib.hid (show e.s.cells = #[.int .i64 e.s.slot, .int .i64 e.s.birth, .int .i64 e.s.upS, .int .i64 e.s.upB, .int .i64 e.s.kind, .string (SB e.s.user), .string (SB e.s.label), .int .u64 (e.s.scopes : Int), .int .i64 e.s.level, .int .i64 e.s.born, .int .i64 e.s.deadline, .int .i64 e.s.depth] from rfl)
    clear k1 k2
    have HK := Lib.hid (N63.lit 0 k0 (by omega))
    rw [ofV_birth hmay k0, HES.out]
    clear hmay
    go_wp2_with fail
    refine (new_calls w1).mono ?_
    rintro ev w2 ⟨rfl, hiw, hb2⟩
    have hx2 := HX1.out.below hb2
    have c0 : ∀ o, (w2.alloc o).cell? ⟨w.heap.size, 0, none⟩ = some (.int .i64 e.kind) := fun o => (hx2.below (below_alloc w2 o)).cell 0 _ rfl
    have hwl := HB1.out.size
    have hlt1 : w1.heap.size < w2.heap.size := hiw.box.lt
    have hlt0 : w.heap.size < w2.heap.size := by omega
    have hlt2 : w.heap.size < w1.heap.size := HX1.out.lt
    have hst : EncSt w (w2.alloc (.cells #[.pointer (some ⟨w1.heap.size, 0, none⟩)] 130)) w1.heap.size w2.heap.size w.heap.size _ 47 (.slice none 0 0) [] :=
      ⟨⟨hiw.box.below (below_alloc _ _), OwnM.nil _ _ _, by simp [Value.ownBlock]⟩, Box.new _ _ _, hx2.below (below_alloc _ _), wf_nil (by omega), wf_nil (by omega), hwl, (HB1.out.trans (hb2.mono hwl)).trans ((below_alloc _ _).mono (by omega))⟩
    have HST := Lib.hid hst
    clear hst hx2 hiw hb2 HX1
    go_wp2_with fail
    refine (HST.out.numbers (r := w2.heap.size + 1) (by simp) [e.kind] (fun n hn => by rw [List.mem_singleton.1 hn]; exact HK.out) (by simp) (by simp)).mono ?_
    rintro ev w3 ⟨rfl, v3, hst3⟩
    have HS3 := Lib.hid hst3
    clear hst3 c0 HST
    have hA : EncSt w ((w3.alloc (.cells #[.int .i64 e.s.slot, .int .i64 e.s.birth, .int .i64 e.s.upS, .int .i64 e.s.upB, .int .i64 e.s.kind, .string (SB e.s.user), .string (SB e.s.label), .int .u64 (e.s.scopes : Int), .int .i64 e.s.level, .int .i64 e.s.born, .int .i64 e.s.deadline, .int .i64 e.s.depth] 135)).alloc (.cells #[.int .i64 e.s.slot, .int .i64 e.s.birth, .int .i64 e.s.upS, .int .i64 e.s.upB, .int .i64 e.s.kind, .string (SB e.s.user), .string (SB e.s.label), .int .u64 (e.s.scopes : Int), .int .i64 e.s.level, .int .i64 e.s.born, .int .i64 e.s.deadline, .int .i64 e.s.depth] 45)) w1.heap.size w2.heap.size (w3.heap.size + 1) #[.int .i64 e.s.slot, .int .i64 e.s.birth, .int .i64 e.s.upS, .int .i64 e.s.upB, .int .i64 e.s.kind, .string (SB e.s.user), .string (SB e.s.label), .int .u64 (e.s.scopes : Int), .int .i64 e.s.level, .int .i64 e.s.born, .int .i64 e.s.deadline, .int .i64 e.s.depth] 45 v3 ([] ++ numsB [e.kind]) :=
      (HS3.out.below (below_two _ _ _)).rebox (by have := Box.new (w3.alloc (.cells #[.int .i64 e.s.slot, .int .i64 e.s.birth, .int .i64 e.s.upS, .int .i64 e.s.upB, .int .i64 e.s.kind, .string (SB e.s.user), .string (SB e.s.label), .int .u64 (e.s.scopes : Int), .int .i64 e.s.level, .int .i64 e.s.born, .int .i64 e.s.deadline, .int .i64 e.s.depth] 135)) #[.int .i64 e.s.slot, .int .i64 e.s.birth, .int .i64 e.s.upS, .int .i64 e.s.upB, .int .i64 e.s.kind, .string (SB e.s.user), .string (SB e.s.label), .int .u64 (e.s.scopes : Int), .int .i64 e.s.level, .int .i64 e.s.born, .int .i64 e.s.deadline, .int .i64 e.s.depth] 45; rw [World.size_alloc] at this; exact this) (by have := (HS3.out.below (below_alloc w3 (.cells #[.int .i64 e.s.slot, .int .i64 e.s.birth, .int .i64 e.s.upS, .int .i64 e.s.upB, .int .i64 e.s.kind, .string (SB e.s.user), .string (SB e.s.label), .int .u64 (e.s.scopes : Int), .int .i64 e.s.level, .int .i64 e.s.born, .int .i64 e.s.deadline, .int .i64 e.s.depth] 135))).row; rw [World.size_alloc] at this; exact this)
    have t1 := fun v w => ta_bb v w
    have HA := Lib.hid hA
    clear hA HS3
    go_wp2_with fail
    have hns : ∀ n ∈ [e.s.slot, e.s.birth, e.s.upS, e.s.upB, e.s.kind], N63 n := by
      intro n hn
      simp only [List.mem_cons, List.not_mem_nil, or_false] at hn
      rcases hn with rfl | rfl | rfl | rfl | rfl
      · exact HN.out.slot
      · exact HN.out.birth
      · exact HN.out.upS
      · exact HN.out.upB
      · exact HN.out.kind
    have hlen := HLB.out
    simp only [List.length_append] at hlen
    refine (HA.out.numbers (r := w3.heap.size + 2) (by simp) [e.s.slot, e.s.birth, e.s.upS, e.s.upB, e.s.kind] hns (by simp only [List.length_append]; omega) (by simp)).mono ?_
    rintro ev w4 ⟨rfl, v4, hst3⟩
    have HS4 := Lib.hid hst3
    clear hst3 hns hlen HA
    have c1 := HS4.out.bq.cell 0 _ rfl
    have c2 := HS4.out.bb.cell 5 _ rfl
    have hlen := HLB.out
    simp only [List.length_append] at hlen
    have Hc := Lib.hid (wText_calls w.heap.size w1.heap.size _ _ e.s.user _ HS4.out.iw (by have := HN.out.user; omega) (by simp only [List.length_append]; have := HN.out.user; omega) HS4.out.bel.size)
    clear hlen
    go_wp2_with fail
    refine Hc.out.mono ?_
    rintro ev w5 ⟨rfl, v5, s1, s2, s3⟩
    have HS5 := Lib.hid (HS4.out.call s1 s2 s3)
    clear s1 s2 s3 c1 c2 Hc HS4
    have c1 := HS5.out.bq.cell 0 _ rfl
    have c2 := HS5.out.bb.cell 6 _ rfl
    have hlen := HLB.out
    simp only [List.length_append] at hlen
    have Hc := Lib.hid (wText_calls w.heap.size w1.heap.size _ _ e.s.label _ HS5.out.iw (by have := HN.out.label; omega) (by simp only [List.length_append]; have := HN.out.label; omega) HS5.out.bel.size)
    clear hlen
    go_wp2_with fail
    refine Hc.out.mono ?_
    rintro ev w6 ⟨rfl, v6, s1, s2, s3⟩
    have HS6 := Lib.hid (HS5.out.call s1 s2 s3)
    clear s1 s2 s3 c1 c2 Hc HS5
    have c1 := HS6.out.bq.cell 0 _ rfl
    have c2 := HS6.out.bb.cell 7 _ rfl
    have hlen := HLB.out
    simp only [List.length_append] at hlen
    have Hc := Lib.hid (wNumber_calls w.heap.size w1.heap.size _ _ e.s.scopes _ HS6.out.iw HSC.out (by simp only [List.length_append]; omega) HS6.out.bel.size)
    clear hlen
    go_wp2_with fail
    refine Hc.out.mono ?_
    rintro ev w7 ⟨rfl, v7, s1, s2, s3⟩
    have HS7 := Lib.hid (HS6.out.call s1 s2 s3)
    clear s1 s2 s3 c1 c2 Hc HS6
    have ca := HS7.out.bb.cell 8 _ rfl
    have cb := HS7.out.bb.cell 9 _ rfl
    have cc := HS7.out.bb.cell 10 _ rfl
    have cd := HS7.out.bb.cell 11 _ rfl
    go_wp2_with fail
    have hns : ∀ n ∈ [e.s.level, e.s.born, e.s.deadline, e.s.depth], N63 n := by
      intro n hn
      simp only [List.mem_cons, List.not_mem_nil, or_false] at hn
      rcases hn with rfl | rfl | rfl | rfl
      · exact HN.out.level
      · exact HN.out.born
      · exact HN.out.deadline
      · exact HN.out.depth
    have hlen := HLB.out
    simp only [List.length_append] at hlen
    refine (HS7.out.numbers (r := w7.heap.size) (by simp) [e.s.level, e.s.born, e.s.deadline, e.s.depth] hns (by simp only [List.length_append]; omega) (by simp)).mono ?_
    rintro ev w8 ⟨rfl, v8, hst3⟩
    have HS8 := Lib.hid hst3
    clear hst3 hns hlen HS7
    clear ca cb cc cd
    have c1 := HS8.out.bq.cell 0 _ rfl
    go_wp2_with fail
    refine (wBytes_calls w.heap.size w1.heap.size _ _ _ HS8.out.iw (by have := HLB.out; omega)).mono ?_
    rintro ev w9 ⟨o9, rfl, ho9, hb9⟩
    have HO9 := Lib.hid (ho9.lower HS8.out.bel.size)
    have HB9 := Lib.hid (HS8.out.bel.trans (hb9.mono HS8.out.bel.size))
    clear ho9 hb9 c1
    go_wp2_with fail
    refine bodyPost_ret (results_tmp2 rfl _ _ _) rfl ?_
    rw [H1.out, H2.out, HEQ.out]
    exact ⟨_, rfl, HO9.out, HB9.out⟩
  cases k1 : (e.kind == 1)
  rotate_left
  · have HN := Lib.hid (mayE_revoke hmay k0 k1)
    have HEQ := Lib.hid (show evB e = ([] ++ numsB [e.kind]) ++ numsB [e.birth] by unfold evB numsB; rw [k1]; simp)
    have HLB := Lib.hid (show (([] ++ numsB [e.kind]) ++ numsB [e.birth]).length ≤ 1000 by simp [numsB]; have := numB_len e.kind; have := numB_len e.birth; omega)
    have HK := Lib.hid (N63.lit 1 k1 (by omega))
    rw [ofV_revoke hmay k0 k1]
    clear hmay
    go_wp2_with fail
    refine (new_calls w1).mono ?_
    rintro ev w2 ⟨rfl, hiw, hb2⟩
    have hx2 := HX1.out.below hb2
    have c0 : ∀ o, (w2.alloc o).cell? ⟨w.heap.size, 0, none⟩ = some (.int .i64 e.kind) := fun o => (hx2.below (below_alloc w2 o)).cell 0 _ rfl
    have hwl := HB1.out.size
    have hlt1 : w1.heap.size < w2.heap.size := hiw.box.lt
    have hlt0 : w.heap.size < w2.heap.size := by omega
    have hlt2 : w.heap.size < w1.heap.size := HX1.out.lt
    have hst : EncSt w (w2.alloc (.cells #[.pointer (some ⟨w1.heap.size, 0, none⟩)] 130)) w1.heap.size w2.heap.size w.heap.size _ 47 (.slice none 0 0) [] :=
      ⟨⟨hiw.box.below (below_alloc _ _), OwnM.nil _ _ _, by simp [Value.ownBlock]⟩, Box.new _ _ _, hx2.below (below_alloc _ _), wf_nil (by omega), wf_nil (by omega), hwl, (HB1.out.trans (hb2.mono hwl)).trans ((below_alloc _ _).mono (by omega))⟩
    have HST := Lib.hid hst
    clear hst hx2 hiw hb2 HX1
    go_wp2_with fail
    refine (HST.out.numbers (r := w2.heap.size + 1) (by simp) [e.kind] (fun n hn => by rw [List.mem_singleton.1 hn]; exact HK.out) (by simp) (by simp)).mono ?_
    rintro ev w3 ⟨rfl, v3, hst3⟩
    have HS3 := Lib.hid hst3
    clear hst3 c0 HST
    have HA := Lib.hid (HS3.out.below (below_alloc w3 (.cells #[.int .i64 e.birth] 138)))
    clear HS3
    have t1 := fun v w => ta_rb v w
    have t2 := fun v w => ta_rr v w
    go_wp2_with fail
    refine (HA.out.numbers (r := w3.heap.size + 1) (by simp) [e.birth] (fun n hn => by rw [List.mem_singleton.1 hn]; exact HN.out) (by have := HLB.out; simp only [List.length_append] at this ⊢; omega) (by simp)).mono ?_
    rintro ev w8 ⟨rfl, v8, hst8⟩
    have HS8 := Lib.hid hst8
    clear hst8 HA
    have c1 := HS8.out.bq.cell 0 _ rfl
    go_wp2_with fail
    refine (wBytes_calls w.heap.size w1.heap.size _ _ _ HS8.out.iw (by have := HLB.out; omega)).mono ?_
    rintro ev w9 ⟨o9, rfl, ho9, hb9⟩
    have HO9 := Lib.hid (ho9.lower HS8.out.bel.size)
    have HB9 := Lib.hid (HS8.out.bel.trans (hb9.mono HS8.out.bel.size))
    clear ho9 hb9 c1
    go_wp2_with fail
    refine bodyPost_ret (results_tmp2 rfl _ _ _) rfl ?_
    rw [H1.out, H2.out, HEQ.out]
    exact ⟨_, rfl, HO9.out, HB9.out⟩
  · have HN := Lib.hid (mayE_tick hmay k0 k1).2
    have k2 := (mayE_tick hmay k0 k1).1
    have HEQ := Lib.hid (show evB e = ([] ++ numsB [e.kind]) ++ numsB [e.ticks] by unfold evB numsB; rw [k1, k2]; simp)
    have HLB := Lib.hid (show (([] ++ numsB [e.kind]) ++ numsB [e.ticks]).length ≤ 1000 by simp [numsB]; have := numB_len e.kind; have := numB_len e.ticks; omega)
    have HK := Lib.hid (N63.lit 2 k2 (by omega))
    rw [ofV_tick hmay k0 k1]
    clear hmay
    go_wp2_with fail
    refine (new_calls w1).mono ?_
    rintro ev w2 ⟨rfl, hiw, hb2⟩
    have hx2 := HX1.out.below hb2
    have c0 : ∀ o, (w2.alloc o).cell? ⟨w.heap.size, 0, none⟩ = some (.int .i64 e.kind) := fun o => (hx2.below (below_alloc w2 o)).cell 0 _ rfl
    have hwl := HB1.out.size
    have hlt1 : w1.heap.size < w2.heap.size := hiw.box.lt
    have hlt0 : w.heap.size < w2.heap.size := by omega
    have hlt2 : w.heap.size < w1.heap.size := HX1.out.lt
    have hst : EncSt w (w2.alloc (.cells #[.pointer (some ⟨w1.heap.size, 0, none⟩)] 130)) w1.heap.size w2.heap.size w.heap.size _ 47 (.slice none 0 0) [] :=
      ⟨⟨hiw.box.below (below_alloc _ _), OwnM.nil _ _ _, by simp [Value.ownBlock]⟩, Box.new _ _ _, hx2.below (below_alloc _ _), wf_nil (by omega), wf_nil (by omega), hwl, (HB1.out.trans (hb2.mono hwl)).trans ((below_alloc _ _).mono (by omega))⟩
    have HST := Lib.hid hst
    clear hst hx2 hiw hb2 HX1
    go_wp2_with fail
    refine (HST.out.numbers (r := w2.heap.size + 1) (by simp) [e.kind] (fun n hn => by rw [List.mem_singleton.1 hn]; exact HK.out) (by simp) (by simp)).mono ?_
    rintro ev w3 ⟨rfl, v3, hst3⟩
    have HS3 := Lib.hid hst3
    clear hst3 c0 HST
    have HA := Lib.hid (HS3.out.below (below_alloc w3 (.cells #[.int .i64 e.ticks] 140)))
    clear HS3
    have t1 := fun v w => ta_tb v w
    have t2 := fun v w => ta_tr v w
    have t3 := fun v w => ta_tt v w
    go_wp2_with fail
    refine (HA.out.numbers (r := w3.heap.size + 1) (by simp) [e.ticks] (fun n hn => by rw [List.mem_singleton.1 hn]; exact HN.out) (by have := HLB.out; simp only [List.length_append] at this ⊢; omega) (by simp)).mono ?_
    rintro ev w8 ⟨rfl, v8, hst8⟩
    have HS8 := Lib.hid hst8
    clear hst8 HA
    have c1 := HS8.out.bq.cell 0 _ rfl
    go_wp2_with fail
    refine (wBytes_calls w.heap.size w1.heap.size _ _ _ HS8.out.iw (by have := HLB.out; omega)).mono ?_
    rintro ev w9 ⟨o9, rfl, ho9, hb9⟩
    have HO9 := Lib.hid (ho9.lower HS8.out.bel.size)
    have HB9 := Lib.hid (HS8.out.bel.trans (hb9.mono HS8.out.bel.size))
    clear ho9 hb9 c1
    go_wp2_with fail
    refine bodyPost_ret (results_tmp2 rfl _ _ _) rfl ?_
    rw [H1.out, H2.out, HEQ.out]
    exact ⟨_, rfl, HO9.out, HB9.out⟩
end Go.Proofs.YtgcnolapjppbpaaGreatDoor
