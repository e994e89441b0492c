/-
  The document's bytes of an event.
-/
import Derived.Test.YtacponljnphbnaaDoorOf
import Derived.Test.YtacponljnphbnaaDoorSevB
namespace Go.Proofs.YtacponljnphbnaaDoor
open Go.RowKit
set_option maxRecDepth 100000

/-- A number that is not below 0. -/
def N63 (n : Int) : Prop := 0 ≤ n ∧ n ≤ 9223372036854775807
theorem N63.of {n lo hi : Int} (h : fromM n lo hi = true) (h0 : 0 ≤ lo) (h1 : hi ≤ 9223372036854775807) : N63 n := by
  have := fromM_yes h; exact ⟨by omega, by omega⟩
theorem N63.zero {n : Int} (h : (n == 0) = true) : N63 n := by simp at h; subst h; exact ⟨by omega, by omega⟩
/-- The numbers and texts of a session that may be. -/
structure SesN (s : SesM) : Prop where
  slot : N63 s.slot
  birth : N63 s.birth
  upS : N63 s.upS
  upB : N63 s.upB
  kind : N63 s.kind
  user : s.user.length ≤ 32
  label : s.label.length ≤ 32
  level : N63 s.level
  born : N63 s.born
  deadline : N63 s.deadline
  depth : N63 s.depth
theorem nameM_le {l : List UInt8} (h : nameM l = true) : l.length ≤ 32 := by
  unfold nameM at h; rw [decide_eq_true_iff] at h; exact h.2.1
theorem SesN.of {s : SesM} (h : mayS s = true) : SesN s := by
  unfold mayS at h
  simp only [Bool.and_eq_true] at h
  obtain ⟨h1, h2, h3, h4, h5, h6, h7⟩ := h
  have hd : N63 s.deadline := by
    have := fromM_yes h5; have := fromM_yes h6; exact ⟨by omega, by omega⟩
  have hch : childM s = true → N63 s.kind → SesN s := fun hc hk => by
    unfold childM at hc
    simp only [Bool.and_eq_true] at hc
    obtain ⟨c1, c2, c3, c4⟩ := hc
    have hb2 : N63 s.upB := by
      have := fromM_yes h2; have := fromM_yes c2; exact ⟨by omega, by omega⟩
    exact ⟨.of h1 (by omega) (by omega), .of h2 (by omega) (by omega), .of c1 (by omega) (by omega), hb2, hk, nameM_le h3, nameM_le c3, .of h4 (by omega) (by omega), .of h5 (by omega) (by omega), hd, .of c4 (by omega) (by omega)⟩
  cases k0 : (s.kind == 0)
  · rw [k0] at h7
    cases k1 : (s.kind == 1)
    · rw [k1] at h7
      cases k2 : (s.kind == 2)
      · rw [k2] at h7; simp at h7
      · rw [k2] at h7
        simp only [Bool.false_eq_true, if_false, if_true, Bool.and_eq_true] at h7
        have : s.kind = 2 := by simpa using k2
        exact hch h7.1 ⟨by omega, by omega⟩
    · rw [k1] at h7
      simp only [Bool.false_eq_true, if_false, if_true] at h7
      have : s.kind = 1 := by simpa using k1
      exact hch h7 ⟨by omega, by omega⟩
  · rw [k0] at h7
    simp only [if_true] at h7
    unfold loginM at h7
    simp only [Bool.and_eq_true] at h7
    obtain ⟨c1, c2, c3, c4⟩ := h7
    exact ⟨.of h1 (by omega) (by omega), .of h2 (by omega) (by omega), .zero c1, .zero c2, .zero k0, nameM_le h3, by rw [List.isEmpty_iff.1 c3]; simp, .of h4 (by omega) (by omega), .of h5 (by omega) (by omega), hd, .zero c4⟩
def sesOn (b : List UInt8) (s : SesM) : List UInt8 := b ++ numB s.slot ++ numB s.birth ++ numB s.upS ++ numB s.upB ++ numB s.kind ++ textB s.user ++ textB s.label ++ sevM s.scopes ++ numB s.level ++ numB s.born ++ numB s.deadline ++ numB s.depth
def evB (e : EvtM) : List UInt8 := if (e.kind == 1) = true then numB e.kind ++ numB e.birth else if (e.kind == 2) = true then numB e.kind ++ numB e.ticks else sesOn (numB e.kind) e.s
theorem numB_len (n : Int) : (numB n).length ≤ 10 := sevM_len _
theorem textB_len {l : List UInt8} (h : l.length ≤ 32) : (textB l).length ≤ 42 := by
  unfold textB; rw [List.length_append]; have := sevM_len l.length; omega
theorem evB_len {e : EvtM} (h : SesN e.s) : (evB e).length ≤ 1000 := by
  unfold evB
  have h1 := fun n => numB_len n
  split
  · rw [List.length_append]; have := h1 e.kind; have := h1 e.birth; omega
  split
  · rw [List.length_append]; have := h1 e.kind; have := h1 e.ticks; omega
  · unfold sesOn
    simp only [List.length_append]
    have := h1 e.kind; have := h1 e.s.slot; have := h1 e.s.birth; have := h1 e.s.upS; have := h1 e.s.upB; have := h1 e.s.kind; have := h1 e.s.level; have := h1 e.s.born; have := h1 e.s.deadline; have := h1 e.s.depth
    have := textB_len h.user; have := textB_len h.label; have := sevM_len e.s.scopes
    omega
theorem refBytesZ_calls {n : Int} (h : N63 n) (w : World) :
    Calls Tryd.prog 45 #[.int .i64 n] w fun e w' => ∃ o, e = .returned o ∧ OwnM w' w.heap.size 5 o (numB n).length ((numB n).map V8) ∧ Below w.heap.size w w' := by
  obtain ⟨h1, h2⟩ := h
  obtain ⟨k, rfl⟩ : ∃ k : Nat, n = (k : Int) := ⟨n.toNat, by omega⟩
  exact refBytes_calls k w (by omega)
/-- What stands while bytes are put one behind the other: the event's or session's cells, the bytes so far. -/
structure PutSt (w0 w : World) (b : Nat) (cs : Array Value) (t : TypeId) (v : Value) (A : List UInt8) : Prop where
  bx : Box w b cs t
  own : OwnM w w0.heap.size 5 v A.length (A.map V8)
  ne : v.ownBlock ≠ some b
  bel : Below w0.heap.size w0 w
theorem PutSt.call {w0 w w' : World} {b : Nat} {cs : Array Value} {t : TypeId} {v : Value} {A : List UInt8} (h : PutSt w0 w b cs t v A) (hb : Below w.heap.size w w') : PutSt w0 w' b cs t v A :=
  ⟨h.bx.below hb, h.own.below hb, h.ne, h.bel.trans (hb.mono h.bel.size)⟩
theorem PutSt.app {w0 w w' : World} {b : Nat} {cs : Array Value} {t : TypeId} {v v' : Value} {A l : List UInt8} (h : PutSt w0 w b cs t v A) (ho : OwnM w' w0.heap.size 5 v' (A.length + l.length) (A.map V8 ++ l.map V8)) (hg : w.grownBy w' v.ownBlock) (hm : Moved w v v') : PutSt w0 w' b cs t v' (A ++ l) := by
  have hlt := h.bx.lt
  refine ⟨h.bx.grown hg h.ne, by rw [List.length_append, List.map_append]; exact ho, ?_, h.bel.trans (below_grown hg h.bel.size (fun q hq => (h.own.lt q hq).1))⟩
  rcases hm with e | e
  · rw [e]; exact h.ne
  · rw [e]; intro e2; injection e2 with e2; omega

set_option maxHeartbeats 6400000 in
theorem refEvBytes_calls (e : EvtM) (w : World) (hk : N63 e.kind) (hs : (e.kind == 1) = false → (e.kind == 2) = false → SesN e.s) (hb1 : (e.kind == 1) = true → N63 e.birth) (hb2 : (e.kind == 2) = true → N63 e.ticks) (hsc : e.s.scopes < 2 ^ 64) :
    Calls Tryd.prog 23 #[.agg e.cells] w fun ev w' => ∃ o, ev = .returned o ∧ OwnM w' w.heap.size 5 o (evB e).length ((evB e).map V8) ∧ Below w.heap.size w w' := by
  have HE := Lib.hid (show e.cells = #[.int .i64 e.kind, .int .i64 e.s.slot, .int .i64 e.s.birth, .int .i64 e.s.upS, .int .i64 e.s.upB, .int .i64 e.s.kind, .string (SB e.s.user), .string (SB e.s.label), .int .u64 (e.s.scopes : Int), .int .i64 e.s.level, .int .i64 e.s.born, .int .i64 e.s.deadline, .int .i64 e.s.depth, .int .i64 e.birth, .int .i64 e.ticks] from rfl)
  have Hbx0 := Lib.hid (Box.new w e.cells 29)
  have HB0 := Lib.hid (below_alloc w (.cells e.cells 29))
  have Hk := Lib.hid (refBytesZ_calls hk)
  rw [HE.out] at Hbx0 HB0 ⊢
  have HEV := Lib.hid (show ∀ l, evB e = l → l = evB e from fun _ h => h.symm)
  clear hk
  go_enter Tryd.func23, Tryd.ntmps23
  go_wp2_with fail
  refine (Hk.out _).mono ?_
  rintro ev w1 ⟨v0, rfl, ho, hb⟩
  have hp : PutSt w w1 w.heap.size _ 29 v0 (numB e.kind) := ⟨Hbx0.out.below hb, ho.lower (by simp), fun e2 => by have := (ho.lt _ e2).1; simp at this; omega, HB0.out.trans (hb.mono (by simp))⟩
  have c0 := hp.bx.cell 0 _ rfl
  have HP := Lib.hid hp
  have HL := Lib.hid (numB_len e.kind)
  clear hp ho hb Hbx0 HB0
  cases k1 : (e.kind == 1)
  rotate_left
  · skip
    have Hn := Lib.hid (refBytesZ_calls (hb1 k1))
    have c1 := HP.out.bx.cell 13 _ rfl
    go_wp2_with fail
    refine (Hn.out _).mono ?_
    rintro ev w2 ⟨v1, rfl, ho1, hb1⟩
    have HP1 := Lib.hid (HP.out.call hb1)
    have HO1 := Lib.hid ho1
    have HR := Lib.hid (show (numB e.kind).length + (numB e.birth).length ≤ 140737488355328 by have := HL.out; have := numB_len e.birth; omega)
    clear ho1 hb1 c0 c1
    go_wp2_with (at_builtin; refine appMR rfl _ _ rfl w.heap.size _ _ _ rfl HP1.out.own _ (numB e.birth) rfl HO1.out.rd HR.out HP1.out.bel.size ?_)
    intro v' w3 hown' hg' hm'
    have HP2 := Lib.hid (HP1.out.app hown' hg' hm')
    clear hown' hg' hm'
    go_wp2_with fail
    go_ret
    rw [← HEV.out _ (by unfold evB; rw [k1]; first | done | rfl)]; exact ⟨_, rfl, HP2.out.own, HP2.out.bel⟩
  cases k2 : (e.kind == 2)
  rotate_left
  · skip
    have Hn := Lib.hid (refBytesZ_calls (hb2 k2))
    have c1 := HP.out.bx.cell 14 _ rfl
    go_wp2_with fail
    refine (Hn.out _).mono ?_
    rintro ev w2 ⟨v1, rfl, ho1, hb1⟩
    have HP1 := Lib.hid (HP.out.call hb1)
    have HO1 := Lib.hid ho1
    have HR := Lib.hid (show (numB e.kind).length + (numB e.ticks).length ≤ 140737488355328 by have := HL.out; have := numB_len e.ticks; omega)
    clear ho1 hb1 c0 c1
    go_wp2_with (at_builtin; refine appMR rfl _ _ rfl w.heap.size _ _ _ rfl HP1.out.own _ (numB e.ticks) rfl HO1.out.rd HR.out HP1.out.bel.size ?_)
    intro v' w3 hown' hg' hm'
    have HP2 := Lib.hid (HP1.out.app hown' hg' hm')
    clear hown' hg' hm'
    go_wp2_with fail
    go_ret
    rw [← HEV.out _ (by unfold evB; rw [k1, k2]; first | done | rfl)]; exact ⟨_, rfl, HP2.out.own, HP2.out.bel⟩
  have HS := Lib.hid (hs k1 k2)
  have HSC := Lib.hid hsc
  have HQ := Lib.hid (HEV.out _ (by unfold evB sesOn; rw [k1, k2]; first | done | rfl))
  clear hs hb1 hb2 hsc HEV
  have Hr0 := Lib.hid (HP.out.bx.range 1 [.int .i64 e.s.slot, .int .i64 e.s.birth, .int .i64 e.s.upS, .int .i64 e.s.upB, .int .i64 e.s.kind, .string (SB e.s.user), .string (SB e.s.label), .int .u64 (e.s.scopes : Int), .int .i64 e.s.level, .int .i64 e.s.born, .int .i64 e.s.deadline, .int .i64 e.s.depth] (EvtM.sub e))
  go_wp2_with (refine wpList_load_k (op := ⟨some 25, .load _ _, _, _, _, _⟩) rfl 27 (.tmp 24) rfl w.heap.size 1 rfl [.int .i64 e.s.slot, .int .i64 e.s.birth, .int .i64 e.s.upS, .int .i64 e.s.upB, .int .i64 e.s.kind, .string (SB e.s.user), .string (SB e.s.label), .int .u64 (e.s.scopes : Int), .int .i64 e.s.level, .int .i64 e.s.born, .int .i64 e.s.deadline, .int .i64 e.s.depth] _ Hr0.out Tryd.underlying27 rfl (by kernel_rfl) ?_)
  intro cv hcv
  rw [hcv.out]
  clear hcv cv c0 Hr0 k1 k2
  have hP0 : PutSt w (w1.alloc (.cells #[.int .i64 e.s.slot, .int .i64 e.s.birth, .int .i64 e.s.upS, .int .i64 e.s.upB, .int .i64 e.s.kind, .string (SB e.s.user), .string (SB e.s.label), .int .u64 (e.s.scopes : Int), .int .i64 e.s.level, .int .i64 e.s.born, .int .i64 e.s.deadline, .int .i64 e.s.depth] 27)) w1.heap.size #[.int .i64 e.s.slot, .int .i64 e.s.birth, .int .i64 e.s.upS, .int .i64 e.s.upB, .int .i64 e.s.kind, .string (SB e.s.user), .string (SB e.s.label), .int .u64 (e.s.scopes : Int), .int .i64 e.s.level, .int .i64 e.s.born, .int .i64 e.s.deadline, .int .i64 e.s.depth] 27 v0 (numB e.kind) := ⟨Box.new _ _ _, HP.out.own.below (below_alloc _ _), fun e2 => by have := (HP.out.own.lt _ e2).2; omega, HP.out.bel.trans ((below_alloc _ _).mono HP.out.bel.size)⟩
  obtain ⟨A0, hA0⟩ : ∃ A0, A0 = numB e.kind := ⟨_, rfl⟩
  rw [← hA0] at hP0 HL
  have HA0 := Lib.hid hA0
  have HQ0 := Lib.hid hP0
  have HL0 := HL
  clear hP0 hA0 HP HL
  have Hn := Lib.hid (refBytesZ_calls HS.out.slot)
  have hd : (numB e.s.slot).length ≤ 10 := numB_len _
  have c1 := HQ0.out.bx.cell 0 _ rfl
  have HR := Lib.hid (show A0.length + (numB e.s.slot).length ≤ 140737488355328 by have := HL0.out; omega)
  have HL1 := Lib.hid (show (A0 ++ numB e.s.slot).length ≤ 20 by have := HL0.out; rw [List.length_append]; omega)
  clear hd
  go_wp2_with fail
  refine (Hn.out _).mono ?_
  rintro ev x0 ⟨o0, rfl, ho1, hb1⟩
  have HP1 := Lib.hid (HQ0.out.call hb1)
  have HO1 := Lib.hid ho1
  clear ho1 hb1 c1 Hn HQ0 HL0
  go_wp2_with (at_builtin; refine appMR rfl _ _ rfl w.heap.size _ _ _ rfl HP1.out.own _ (numB e.s.slot) rfl HO1.out.rd HR.out HP1.out.bel.size ?_)
  intro v1 y1 hown' hg' hm'
  have hP := HP1.out.app hown' hg' hm'
  obtain ⟨A1, hA⟩ : ∃ B, B = A0 ++ numB e.s.slot := ⟨_, rfl⟩
  rw [← hA] at hP HL1
  have HQ1 := Lib.hid hP
  have HA1 := Lib.hid hA
  clear hP hA hown' hg' hm' HP1 HO1 HR
  have Hn := Lib.hid (refBytesZ_calls HS.out.birth)
  have hd : (numB e.s.birth).length ≤ 10 := numB_len _
  have c1 := HQ1.out.bx.cell 1 _ rfl
  have HR := Lib.hid (show A1.length + (numB e.s.birth).length ≤ 140737488355328 by have := HL1.out; omega)
  have HL2 := Lib.hid (show (A1 ++ numB e.s.birth).length ≤ 30 by have := HL1.out; rw [List.length_append]; omega)
  clear hd
  go_wp2_with fail
  refine (Hn.out _).mono ?_
  rintro ev x1 ⟨o1, rfl, ho1, hb1⟩
  have HP1 := Lib.hid (HQ1.out.call hb1)
  have HO1 := Lib.hid ho1
  clear ho1 hb1 c1 Hn HQ1 HL1
  go_wp2_with (at_builtin; refine appMR rfl _ _ rfl w.heap.size _ _ _ rfl HP1.out.own _ (numB e.s.birth) rfl HO1.out.rd HR.out HP1.out.bel.size ?_)
  intro v2 y2 hown' hg' hm'
  have hP := HP1.out.app hown' hg' hm'
  obtain ⟨A2, hA⟩ : ∃ B, B = A1 ++ numB e.s.birth := ⟨_, rfl⟩
  rw [← hA] at hP HL2
  have HQ2 := Lib.hid hP
  have HA2 := Lib.hid hA
  clear hP hA hown' hg' hm' HP1 HO1 HR
  have Hn := Lib.hid (refBytesZ_calls HS.out.upS)
  have hd : (numB e.s.upS).length ≤ 10 := numB_len _
  have c1 := HQ2.out.bx.cell 2 _ rfl
  have HR := Lib.hid (show A2.length + (numB e.s.upS).length ≤ 140737488355328 by have := HL2.out; omega)
  have HL3 := Lib.hid (show (A2 ++ numB e.s.upS).length ≤ 40 by have := HL2.out; rw [List.length_append]; omega)
  clear hd
  go_wp2_with fail
  refine (Hn.out _).mono ?_
  rintro ev x2 ⟨o2, rfl, ho1, hb1⟩
  have HP1 := Lib.hid (HQ2.out.call hb1)
  have HO1 := Lib.hid ho1
  clear ho1 hb1 c1 Hn HQ2 HL2
  go_wp2_with (at_builtin; refine appMR rfl _ _ rfl w.heap.size _ _ _ rfl HP1.out.own _ (numB e.s.upS) rfl HO1.out.rd HR.out HP1.out.bel.size ?_)
  intro v3 y3 hown' hg' hm'
  have hP := HP1.out.app hown' hg' hm'
  obtain ⟨A3, hA⟩ : ∃ B, B = A2 ++ numB e.s.upS := ⟨_, rfl⟩
  rw [← hA] at hP HL3
  have HQ3 := Lib.hid hP
  have HA3 := Lib.hid hA
  clear hP hA hown' hg' hm' HP1 HO1 HR
  have Hn := Lib.hid (refBytesZ_calls HS.out.upB)
  have hd : (numB e.s.upB).length ≤ 10 := numB_len _
  have c1 := HQ3.out.bx.cell 3 _ rfl
  have HR := Lib.hid (show A3.length + (numB e.s.upB).length ≤ 140737488355328 by have := HL3.out; omega)
  have HL4 := Lib.hid (show (A3 ++ numB e.s.upB).length ≤ 50 by have := HL3.out; rw [List.length_append]; omega)
  clear hd
  go_wp2_with fail
  refine (Hn.out _).mono ?_
  rintro ev x3 ⟨o3, rfl, ho1, hb1⟩
  have HP1 := Lib.hid (HQ3.out.call hb1)
  have HO1 := Lib.hid ho1
  clear ho1 hb1 c1 Hn HQ3 HL3
  go_wp2_with (at_builtin; refine appMR rfl _ _ rfl w.heap.size _ _ _ rfl HP1.out.own _ (numB e.s.upB) rfl HO1.out.rd HR.out HP1.out.bel.size ?_)
  intro v4 y4 hown' hg' hm'
  have hP := HP1.out.app hown' hg' hm'
  obtain ⟨A4, hA⟩ : ∃ B, B = A3 ++ numB e.s.upB := ⟨_, rfl⟩
  rw [← hA] at hP HL4
  have HQ4 := Lib.hid hP
  have HA4 := Lib.hid hA
  clear hP hA hown' hg' hm' HP1 HO1 HR
  have Hn := Lib.hid (refBytesZ_calls HS.out.kind)
  have hd : (numB e.s.kind).length ≤ 10 := numB_len _
  have c1 := HQ4.out.bx.cell 4 _ rfl
  have HR := Lib.hid (show A4.length + (numB e.s.kind).length ≤ 140737488355328 by have := HL4.out; omega)
  have HL5 := Lib.hid (show (A4 ++ numB e.s.kind).length ≤ 60 by have := HL4.out; rw [List.length_append]; omega)
  clear hd
  go_wp2_with fail
  refine (Hn.out _).mono ?_
  rintro ev x4 ⟨o4, rfl, ho1, hb1⟩
  have HP1 := Lib.hid (HQ4.out.call hb1)
  have HO1 := Lib.hid ho1
  clear ho1 hb1 c1 Hn HQ4 HL4
  go_wp2_with (at_builtin; refine appMR rfl _ _ rfl w.heap.size _ _ _ rfl HP1.out.own _ (numB e.s.kind) rfl HO1.out.rd HR.out HP1.out.bel.size ?_)
  intro v5 y5 hown' hg' hm'
  have hP := HP1.out.app hown' hg' hm'
  obtain ⟨A5, hA⟩ : ∃ B, B = A4 ++ numB e.s.kind := ⟨_, rfl⟩
  rw [← hA] at hP HL5
  have HQ5 := Lib.hid hP
  have HA5 := Lib.hid hA
  clear hP hA hown' hg' hm' HP1 HO1 HR
  have Hn := Lib.hid (fun w => refText_calls e.s.user w (by have := HS.out.user; omega))
  have hd : (textB e.s.user).length ≤ 42 := textB_len HS.out.user
  have c1 := HQ5.out.bx.cell 5 _ rfl
  have HR := Lib.hid (show A5.length + (textB e.s.user).length ≤ 140737488355328 by have := HL5.out; omega)
  have HL6 := Lib.hid (show (A5 ++ textB e.s.user).length ≤ 102 by have := HL5.out; rw [List.length_append]; omega)
  clear hd
  go_wp2_with fail
  refine (Hn.out _).mono ?_
  rintro ev x5 ⟨o5, rfl, ho1, hb1⟩
  have HP1 := Lib.hid (HQ5.out.call hb1)
  have HO1 := Lib.hid ho1
  clear ho1 hb1 c1 Hn HQ5 HL5
  go_wp2_with (at_builtin; refine appMR rfl _ _ rfl w.heap.size _ _ _ rfl HP1.out.own _ (textB e.s.user) rfl HO1.out.rd HR.out HP1.out.bel.size ?_)
  intro v6 y6 hown' hg' hm'
  have hP := HP1.out.app hown' hg' hm'
  obtain ⟨A6, hA⟩ : ∃ B, B = A5 ++ textB e.s.user := ⟨_, rfl⟩
  rw [← hA] at hP HL6
  have HQ6 := Lib.hid hP
  have HA6 := Lib.hid hA
  clear hP hA hown' hg' hm' HP1 HO1 HR
  have Hn := Lib.hid (fun w => refText_calls e.s.label w (by have := HS.out.label; omega))
  have hd : (textB e.s.label).length ≤ 42 := textB_len HS.out.label
  have c1 := HQ6.out.bx.cell 6 _ rfl
  have HR := Lib.hid (show A6.length + (textB e.s.label).length ≤ 140737488355328 by have := HL6.out; omega)
  have HL7 := Lib.hid (show (A6 ++ textB e.s.label).length ≤ 144 by have := HL6.out; rw [List.length_append]; omega)
  clear hd
  go_wp2_with fail
  refine (Hn.out _).mono ?_
  rintro ev x6 ⟨o6, rfl, ho1, hb1⟩
  have HP1 := Lib.hid (HQ6.out.call hb1)
  have HO1 := Lib.hid ho1
  clear ho1 hb1 c1 Hn HQ6 HL6
  go_wp2_with (at_builtin; refine appMR rfl _ _ rfl w.heap.size _ _ _ rfl HP1.out.own _ (textB e.s.label) rfl HO1.out.rd HR.out HP1.out.bel.size ?_)
  intro v7 y7 hown' hg' hm'
  have hP := HP1.out.app hown' hg' hm'
  obtain ⟨A7, hA⟩ : ∃ B, B = A6 ++ textB e.s.label := ⟨_, rfl⟩
  rw [← hA] at hP HL7
  have HQ7 := Lib.hid hP
  have HA7 := Lib.hid hA
  clear hP hA hown' hg' hm' HP1 HO1 HR
  have Hn := Lib.hid (fun w => refSevens_calls e.s.scopes w HSC.out)
  have hd : (sevM e.s.scopes).length ≤ 10 := sevM_len _
  have c1 := HQ7.out.bx.cell 7 _ rfl
  have HR := Lib.hid (show A7.length + (sevM e.s.scopes).length ≤ 140737488355328 by have := HL7.out; omega)
  have HL8 := Lib.hid (show (A7 ++ sevM e.s.scopes).length ≤ 154 by have := HL7.out; rw [List.length_append]; omega)
  clear hd
  go_wp2_with fail
  refine (Hn.out _).mono ?_
  rintro ev x7 ⟨o7, rfl, ho1, hb1⟩
  have HP1 := Lib.hid (HQ7.out.call hb1)
  have HO1 := Lib.hid ho1
  clear ho1 hb1 c1 Hn HQ7 HL7
  go_wp2_with (at_builtin; refine appMR rfl _ _ rfl w.heap.size _ _ _ rfl HP1.out.own _ (sevM e.s.scopes) rfl HO1.out.rd HR.out HP1.out.bel.size ?_)
  intro v8 y8 hown' hg' hm'
  have hP := HP1.out.app hown' hg' hm'
  obtain ⟨A8, hA⟩ : ∃ B, B = A7 ++ sevM e.s.scopes := ⟨_, rfl⟩
  rw [← hA] at hP HL8
  have HQ8 := Lib.hid hP
  have HA8 := Lib.hid hA
  clear hP hA hown' hg' hm' HP1 HO1 HR
  have Hn := Lib.hid (refBytesZ_calls HS.out.level)
  have hd : (numB e.s.level).length ≤ 10 := numB_len _
  have c1 := HQ8.out.bx.cell 8 _ rfl
  have HR := Lib.hid (show A8.length + (numB e.s.level).length ≤ 140737488355328 by have := HL8.out; omega)
  have HL9 := Lib.hid (show (A8 ++ numB e.s.level).length ≤ 164 by have := HL8.out; rw [List.length_append]; omega)
  clear hd
  go_wp2_with fail
  refine (Hn.out _).mono ?_
  rintro ev x8 ⟨o8, rfl, ho1, hb1⟩
  have HP1 := Lib.hid (HQ8.out.call hb1)
  have HO1 := Lib.hid ho1
  clear ho1 hb1 c1 Hn HQ8 HL8
  go_wp2_with (at_builtin; refine appMR rfl _ _ rfl w.heap.size _ _ _ rfl HP1.out.own _ (numB e.s.level) rfl HO1.out.rd HR.out HP1.out.bel.size ?_)
  intro v9 y9 hown' hg' hm'
  have hP := HP1.out.app hown' hg' hm'
  obtain ⟨A9, hA⟩ : ∃ B, B = A8 ++ numB e.s.level := ⟨_, rfl⟩
  rw [← hA] at hP HL9
  have HQ9 := Lib.hid hP
  have HA9 := Lib.hid hA
  clear hP hA hown' hg' hm' HP1 HO1 HR
  have Hn := Lib.hid (refBytesZ_calls HS.out.born)
  have hd : (numB e.s.born).length ≤ 10 := numB_len _
  have c1 := HQ9.out.bx.cell 9 _ rfl
  have HR := Lib.hid (show A9.length + (numB e.s.born).length ≤ 140737488355328 by have := HL9.out; omega)
  have HL10 := Lib.hid (show (A9 ++ numB e.s.born).length ≤ 174 by have := HL9.out; rw [List.length_append]; omega)
  clear hd
  go_wp2_with fail
  refine (Hn.out _).mono ?_
  rintro ev x9 ⟨o9, rfl, ho1, hb1⟩
  have HP1 := Lib.hid (HQ9.out.call hb1)
  have HO1 := Lib.hid ho1
  clear ho1 hb1 c1 Hn HQ9 HL9
  go_wp2_with (at_builtin; refine appMR rfl _ _ rfl w.heap.size _ _ _ rfl HP1.out.own _ (numB e.s.born) rfl HO1.out.rd HR.out HP1.out.bel.size ?_)
  intro v10 y10 hown' hg' hm'
  have hP := HP1.out.app hown' hg' hm'
  obtain ⟨A10, hA⟩ : ∃ B, B = A9 ++ numB e.s.born := ⟨_, rfl⟩
  rw [← hA] at hP HL10
  have HQ10 := Lib.hid hP
  have HA10 := Lib.hid hA
  clear hP hA hown' hg' hm' HP1 HO1 HR
  have Hn := Lib.hid (refBytesZ_calls HS.out.deadline)
  have hd : (numB e.s.deadline).length ≤ 10 := numB_len _
  have c1 := HQ10.out.bx.cell 10 _ rfl
  have HR := Lib.hid (show A10.length + (numB e.s.deadline).length ≤ 140737488355328 by have := HL10.out; omega)
  have HL11 := Lib.hid (show (A10 ++ numB e.s.deadline).length ≤ 184 by have := HL10.out; rw [List.length_append]; omega)
  clear hd
  go_wp2_with fail
  refine (Hn.out _).mono ?_
  rintro ev x10 ⟨o10, rfl, ho1, hb1⟩
  have HP1 := Lib.hid (HQ10.out.call hb1)
  have HO1 := Lib.hid ho1
  clear ho1 hb1 c1 Hn HQ10 HL10
  go_wp2_with (at_builtin; refine appMR rfl _ _ rfl w.heap.size _ _ _ rfl HP1.out.own _ (numB e.s.deadline) rfl HO1.out.rd HR.out HP1.out.bel.size ?_)
  intro v11 y11 hown' hg' hm'
  have hP := HP1.out.app hown' hg' hm'
  obtain ⟨A11, hA⟩ : ∃ B, B = A10 ++ numB e.s.deadline := ⟨_, rfl⟩
  rw [← hA] at hP HL11
  have HQ11 := Lib.hid hP
  have HA11 := Lib.hid hA
  clear hP hA hown' hg' hm' HP1 HO1 HR
  have Hn := Lib.hid (refBytesZ_calls HS.out.depth)
  have hd : (numB e.s.depth).length ≤ 10 := numB_len _
  have c1 := HQ11.out.bx.cell 11 _ rfl
  have HR := Lib.hid (show A11.length + (numB e.s.depth).length ≤ 140737488355328 by have := HL11.out; omega)
  have HL12 := Lib.hid (show (A11 ++ numB e.s.depth).length ≤ 194 by have := HL11.out; rw [List.length_append]; omega)
  clear hd
  go_wp2_with fail
  refine (Hn.out _).mono ?_
  rintro ev x11 ⟨o11, rfl, ho1, hb1⟩
  have HP1 := Lib.hid (HQ11.out.call hb1)
  have HO1 := Lib.hid ho1
  clear ho1 hb1 c1 Hn HQ11 HL11
  go_wp2_with (at_builtin; refine appMR rfl _ _ rfl w.heap.size _ _ _ rfl HP1.out.own _ (numB e.s.depth) rfl HO1.out.rd HR.out HP1.out.bel.size ?_)
  intro v12 y12 hown' hg' hm'
  have hP := HP1.out.app hown' hg' hm'
  obtain ⟨A12, hA⟩ : ∃ B, B = A11 ++ numB e.s.depth := ⟨_, rfl⟩
  rw [← hA] at hP HL12
  have HQ12 := Lib.hid hP
  have HA12 := Lib.hid hA
  clear hP hA hown' hg' hm' HP1 HO1 HR
  go_wp2_with fail
  go_ret
  rw [← HQ.out, ← HA0.out, ← HA1.out, ← HA2.out, ← HA3.out, ← HA4.out, ← HA5.out, ← HA6.out, ← HA7.out, ← HA8.out, ← HA9.out, ← HA10.out, ← HA11.out, ← HA12.out]
  exact ⟨_, rfl, HQ12.out.own, HQ12.out.bel⟩
end Go.Proofs.YtacponljnphbnaaDoor
