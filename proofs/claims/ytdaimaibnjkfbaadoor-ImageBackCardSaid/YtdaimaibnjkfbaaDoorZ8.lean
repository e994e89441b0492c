/-
  A state's bytes: they tell it again; cut off or longer they are refused; bytes that tell a state are its own.
-/
import Derived.Test.YtdaimaibnjkfbaaDoorZ7
import Derived.Deep.LoopGhost
namespace Go.Proofs.YtdaimaibnjkfbaaDoor
open Go.RowKit
set_option maxRecDepth 100000

theorem At.bornV {s : TkM} {q : SesM} {r : List UInt8} (h : At s (sesOn [] q ++ r)) (hq : SesN q) (hsc : q.scopes < 2 ^ 64) : (bornM s).1 = q ∧ At (bornM s).2 r := by
  unfold sesOn at h
  simp only [List.append_assoc, List.nil_append] at h
  obtain ⟨a1, a2⟩ := h.int hq.slot
  obtain ⟨b1, b2⟩ := a2.int hq.birth
  obtain ⟨c1, c2⟩ := b2.int hq.upS
  obtain ⟨d1, d2⟩ := c2.int hq.upB
  obtain ⟨f1, f2⟩ := d2.int hq.kind
  obtain ⟨u1, u2⟩ := f2.txt hq.user
  obtain ⟨l1, l2⟩ := u2.txt hq.label
  obtain ⟨s1, s2⟩ := l2.num hsc
  obtain ⟨g1, g2⟩ := s2.int hq.level
  obtain ⟨h1, h2⟩ := g2.int hq.born
  obtain ⟨i1, i2⟩ := h2.int hq.deadline
  obtain ⟨j1, j2⟩ := i2.int hq.depth
  exact ⟨by unfold bornM; simp only [a1, b1, c1, d1, f1, u1, l1, s1, g1, h1, i1, j1], j2⟩
/-- What may be written of each of a list. -/
def SesW (l : List SesM) : Prop := ∀ q ∈ l, SesN q ∧ q.scopes < 2 ^ 64
theorem SesW.head {q : SesM} {l : List SesM} (h : SesW (q :: l)) : SesN q ∧ q.scopes < 2 ^ 64 := h q (by simp)
theorem SesW.tail {q : SesM} {l : List SesM} (h : SesW (q :: l)) : SesW l := fun x hx => h x (by simp [hx])
theorem At.sesTs : ∀ (l : List SesM) (s : TkM) (r : List UInt8), At s (l.flatMap (sesOn []) ++ r) → SesW l → (sesTs l.length s).1 = l ∧ At (sesTs l.length s).2 r
  | [], s, r, h, _ => ⟨rfl, by rw [List.flatMap_nil, List.nil_append] at h; exact h⟩
  | q :: l, s, r, h, hw => by
    rw [List.flatMap_cons, List.append_assoc] at h
    obtain ⟨h1, h2⟩ := h.bornV hw.head.1 hw.head.2
    obtain ⟨h3, h4⟩ := At.sesTs l (bornM s).2 r h2 hw.tail
    refine ⟨?_, h4⟩
    show (bornM s).1 :: (Go.Proofs.YtdaimaibnjkfbaaDoor.sesTs l.length (bornM s).2).1 = _
    rw [h1, h3]
theorem At.fin {s : TkM} {st : StM} (h : At s []) (hc : checkM st = none) : finI s st = (0, st) := by
  have hk : ¬ s.k < s.l.length := by
    have := congrArg List.length h.rest
    unfold TkM.rest at this
    rw [List.length_drop] at this
    simp at this; omega
  unfold finI
  rw [if_pos h.er, if_neg hk, h.big, if_neg (by decide), if_pos hc]
theorem At.finMore {s : TkM} {c : UInt8} (h : At s [c]) (st : StM) : finI s st = (3, noSt) := by
  have hk : s.k < s.l.length := by
    have := congrArg List.length h.rest
    unfold TkM.rest at this
    rw [List.length_drop] at this
    simp at this; omega
  unfold finI
  rw [if_pos h.er, if_pos hk]
theorem imgB_eq (st : StM) (r : List UInt8) : imgB st ++ r = numB st.clock ++ (numB st.births ++ (sevM st.l.length ++ (st.l.flatMap (sesOn []) ++ r))) := by
  unfold imgB numsB
  simp only [List.flatMap_cons, List.flatMap_nil, List.append_nil, List.append_assoc]
  rfl
theorem decI_at {st : StM} (hc : checkM st = none) (hw : SesW st.l) (r : List UInt8) : ∃ s, At s r ∧ decI (imgB st ++ r) = finI s st := by
  obtain ⟨n1, n2, n3, _⟩ := check_parts hc
  have h0 : At ⟨imgB st ++ r, 0, 0, false⟩ (numB st.clock ++ (numB st.births ++ (sevM st.l.length ++ (st.l.flatMap (sesOn []) ++ r)))) := ⟨imgB_eq st r, rfl, rfl, Nat.zero_le _⟩
  obtain ⟨a1, a2⟩ := h0.int n1
  obtain ⟨b1, b2⟩ := a2.int n2
  obtain ⟨p1, p2⟩ := b2.num (by omega)
  obtain ⟨q1, q2⟩ := At.sesTs _ _ _ p2 hw
  refine ⟨_, q2, ?_⟩
  unfold decI
  simp only
  rw [a1, b1, p1, if_neg (by omega), q1]
theorem decI_imgB {st : StM} (hc : checkM st = none) (hw : SesW st.l) : decI (imgB st) = (0, st) := by
  obtain ⟨s, h1, h2⟩ := decI_at hc hw []
  rw [List.append_nil] at h2
  rw [h2]; exact h1.fin hc
theorem decI_more {st : StM} (hc : checkM st = none) (hw : SesW st.l) (c : UInt8) : decI (imgB st ++ [c]) = (3, noSt) := by
  obtain ⟨s, h1, h2⟩ := decI_at hc hw [c]
  rw [h2]; exact h1.finMore st
theorem int_stay {s : TkM} (h : s.er = 2) : s.int.2.er = 2 := num_stay h
theorem born_stay {s : TkM} (h : s.er = 2) : (bornM s).2.er = 2 := by
  unfold bornM
  exact int_stay (int_stay (int_stay (int_stay (num_stay (txt_stay (txt_stay (int_stay (int_stay (int_stay (int_stay (int_stay h)))))))))))
theorem ses_stay : ∀ (n : Nat) (s : TkM), s.er = 2 → (sesTs n s).2.er = 2
  | 0, _, h => h
  | n + 1, _, h => ses_stay n _ (born_stay h)
theorem Cut.bornR {s : TkM} {q : SesM} {r : List UInt8} {p : Nat} (h : Cut s (sesOn [] q ++ r) p) (hq : SesN q) (hsc : q.scopes < 2 ^ 64) : ∃ p', Cut (bornM s).2 r p' := by
  unfold sesOn at h
  simp only [List.append_assoc, List.nil_append] at h
  have a := h.int hq.slot
  have b := a.int hq.birth
  have c := b.int hq.upS
  have d := c.int hq.upB
  have f := d.int hq.kind
  have u := f.txt hq.user
  have l := u.txt hq.label
  have sc := (l.num hsc).1
  have g := sc.int hq.level
  have hh := g.int hq.born
  have i := hh.int hq.deadline
  exact ⟨_, i.int hq.depth⟩
theorem Cut.sesTs : ∀ (l : List SesM) (s : TkM) (p : Nat), Cut s (l.flatMap (sesOn [])) p → SesW l → (sesTs l.length s).2.er = 2
  | [], s, p, h, _ => h.nil
  | q :: l, s, p, h, hw => by
    rw [List.flatMap_cons] at h
    obtain ⟨p', h1⟩ := h.bornR hw.head.1 hw.head.2
    exact Cut.sesTs l _ p' h1 hw.tail
theorem fin_two {s : TkM} {st : StM} (h : s.er = 2) : finI s st = (2, noSt) := by
  unfold finI; rw [if_neg (by rw [h]; decide), h]
theorem decI_cut {st : StM} (hc : checkM st = none) (hw : SesW st.l) (p : Nat) (hp : p < (imgB st).length) : decI ((imgB st).take p) = (2, noSt) := by
  obtain ⟨n1, n2, n3, _⟩ := check_parts hc
  have he := imgB_eq st []
  rw [List.append_nil, List.append_nil] at he
  have h0 : Cut ⟨(imgB st).take p, 0, 0, false⟩ (numB st.clock ++ (numB st.births ++ (sevM st.l.length ++ st.l.flatMap (sesOn [])))) p :=
    .inl ⟨⟨by rw [← he]; rfl, rfl, rfl, Nat.zero_le _⟩, by rw [← he]; exact hp⟩
  have a := h0.int n1
  have b := a.int n2
  obtain ⟨c1, c2⟩ := b.num (by omega)
  unfold decI
  simp only
  by_cases h0 : ((⟨(imgB st).take p, 0, 0, false⟩ : TkM).int.2.int.2.num).2.er = 0
  · rw [c2 h0, if_neg (by omega)]
    exact fin_two (Cut.sesTs _ _ _ c1 hw)
  · rw [if_neg (fun h => h0 h.1)]
    rcases c1 with ⟨h1, _⟩ | h1
    · exact absurd h1.er h0
    · exact fin_two (ses_stay _ _ h1)
theorem er_born {s : TkM} (h : (bornM s).2.er = 0) : s.er = 0 := by
  unfold bornM at h
  exact er_int (er_int (er_int (er_int (er_int (er_txt (er_txt (er_num (er_int (er_int (er_int (er_int h)))))))))))
theorem big_born {s : TkM} (h : (bornM s).2.big = false) : s.big = false := by
  unfold bornM at h
  simp only at h
  have h1 := (int_big (int_big (int_big (int_big h).1).1).1).1
  rw [num_big, txt_big, txt_big] at h1
  exact (int_big (int_big (int_big (int_big (int_big h1).1).1).1).1).1
theorem er_ses : ∀ (n : Nat) (s : TkM), (sesTs n s).2.er = 0 → s.er = 0
  | 0, _, h => h
  | n + 1, s, h => er_born (er_ses n (bornM s).2 h)
theorem big_ses : ∀ (n : Nat) (s : TkM), (sesTs n s).2.big = false → s.big = false
  | 0, _, h => h
  | n + 1, s, h => big_born (big_ses n (bornM s).2 h)
theorem Got.sesTs {b : List UInt8} : ∀ (n : Nat) (s : TkM) (A : List UInt8), Got b s A → (sesTs n s).2.er = 0 → (sesTs n s).2.big = false → Got b (sesTs n s).2 (A ++ (sesTs n s).1.flatMap (sesOn [])) ∧ ∀ q ∈ (sesTs n s).1, q.scopes < 2 ^ 64
  | 0, s, A, h, _, _ => ⟨by show Got b s (A ++ []); rwa [List.append_nil], fun q hq => by cases hq⟩
  | n + 1, s, A, h, he, hb => by
    obtain ⟨h1, h2⟩ := h.born (er_ses n _ he) (big_ses n _ hb)
    obtain ⟨h3, h4⟩ := Got.sesTs n (bornM s).2 _ h1 he hb
    refine ⟨?_, fun q hq => ?_⟩
    · show Got b (Go.Proofs.YtdaimaibnjkfbaaDoor.sesTs n (bornM s).2).2 (A ++ ((bornM s).1 :: (Go.Proofs.YtdaimaibnjkfbaaDoor.sesTs n (bornM s).2).1).flatMap (sesOn []))
      rw [List.flatMap_cons, ← List.append_assoc, ← sesOn_app]; exact h3
    · rcases List.mem_cons.1 hq with rfl | hq
      · exact h2
      · exact h4 q hq
theorem finI_inv {s : TkM} {e f : StM} (h : finI s e = (0, f)) : s.er = 0 ∧ ¬ s.k < s.l.length ∧ s.big = false ∧ checkM e = none ∧ e = f := by
  unfold finI at h
  split at h
  · rename_i h0
    split at h
    · simp at h
    · rename_i h1
      split at h
      · simp at h
      · rename_i h2
        split at h
        · rename_i h3
          simp only [Prod.mk.injEq, true_and] at h
          exact ⟨h0, h1, by simpa using h2, h3, h⟩
        · simp at h
  · rename_i h0
    simp only [Prod.mk.injEq] at h
    exact absurd h.1 h0
theorem decI_inv {b : List UInt8} {st : StM} (h : decI b = (0, st)) : checkM st = none ∧ (∀ q ∈ st.l, q.scopes < 2 ^ 64) ∧ imgB st = b := by
  unfold decI at h
  simp only at h
  split at h
  · simp at h
  · obtain ⟨h1, h2, h3, h4, h5⟩ := finI_inv h
    have g0 : Got b ⟨b, 0, 0, false⟩ [] := ⟨rfl, Nat.zero_le _⟩
    have e3 := er_ses _ _ h1
    have b3 := big_ses _ _ h3
    rw [num_big] at b3
    have e2 := er_num e3
    have e1 := er_int e2
    have b1 := (int_big b3).1
    have g1 := g0.int e1 b1
    have g2 := g1.int e2 b3
    obtain ⟨g3, _⟩ := g2.num e3
    obtain ⟨g4, g5⟩ := Got.sesTs _ _ _ g3 h1 h3
    have g6 := g4.all h2
    subst h5
    refine ⟨h4, g5, Eq.trans ?_ g6.symm⟩
    have hb := imgB_eq (⟨(⟨b, 0, 0, false⟩ : TkM).int.1, (⟨b, 0, 0, false⟩ : TkM).int.2.int.1, (sesTs (⟨b, 0, 0, false⟩ : TkM).int.2.int.2.num.1 (⟨b, 0, 0, false⟩ : TkM).int.2.int.2.num.2).1⟩ : StM) []
    rw [List.append_nil, List.append_nil] at hb
    simp only at hb
    rw [sesTs_len] at hb
    generalize (⟨b, 0, 0, false⟩ : TkM).int = p at hb ⊢
    rw [hb]
    simp only [List.nil_append, List.append_assoc]
theorem finI_no {s : TkM} {e f : StM} {n : Int} (h : finI s e = (n, f)) (hn : n ≠ 0) : f = noSt := by
  unfold finI at h
  split at h
  · split at h
    · simp only [Prod.mk.injEq] at h; exact h.2.symm
    · split at h
      · simp only [Prod.mk.injEq] at h; exact h.2.symm
      · split at h
        · simp only [Prod.mk.injEq] at h; exact absurd h.1.symm hn
        · simp only [Prod.mk.injEq] at h; exact h.2.symm
  · simp only [Prod.mk.injEq] at h; exact h.2.symm
theorem decI_no {b : List UInt8} {n : Int} {f : StM} (h : decI b = (n, f)) (hn : n ≠ 0) : f = noSt := by
  unfold decI at h
  simp only at h
  split at h
  · simp only [Prod.mk.injEq] at h; exact h.2.symm
  · exact finI_no h hn
theorem check_w {st : StM} (h : checkM st = none) (ho : ∀ s ∈ st.l, SesOk s) : SesW st.l := fun q hq => ⟨SesN.of ((check_parts h).2.2.2 q hq), (ho q hq).scopes⟩
theorem numB_one {n : Int} (h1 : n < 128) : (numB n).length = 1 := by
  unfold numB sevM sevF
  rw [if_pos (by omega)]; rfl
theorem sesOn_tight {q : SesM} (h : mayS q = true) : (sesOn [] q).length ≤ 190 := by
  have hs := SesN.of h
  have hq := h
  unfold mayS at hq
  simp only [Bool.and_eq_true] at hq
  have a1 := numB_one (n := q.slot) (by have := fromM_yes hq.1; omega)
  have a2 := numB_one (n := q.level) (by have := fromM_yes hq.2.2.2.1; omega)
  unfold sesOn
  have h1 := fun n => numB_len n
  have h2 := fun n => sevM_len n
  have h3 := textB_len hs.user
  have h4 := textB_len hs.label
  simp only [List.length_append, List.length_nil]
  have := h1 q.birth; have := h1 q.upS; have := h1 q.upB; have := h1 q.kind; have := h2 q.scopes; have := h1 q.born; have := h1 q.deadline; have := h1 q.depth
  omega
theorem sesOns_tight : ∀ {l : List SesM}, (∀ s ∈ l, mayS s = true) → (l.flatMap (sesOn [])).length ≤ 190 * l.length
  | [], _ => by simp
  | s :: l, h => by
    have h1 := sesOn_tight (h s (by simp))
    have h2 := sesOns_tight (l := l) (fun q hq => h q (by simp [hq]))
    rw [List.flatMap_cons, List.length_append, List.length_cons]; omega
theorem imgB_tight {st : StM} (h : checkM st = none) : (imgB st).length ≤ 6144 := by
  obtain ⟨_, _, h3, h4⟩ := check_parts h
  have h5 := sesOns_tight h4
  have := numB_len3 st.clock st.births st.l.length
  unfold imgB
  rw [List.length_append]; omega
theorem imgB_pos {st : StM} : 0 < (imgB st).length := by
  have hs : ∀ n, 0 < (sevM n).length := fun n => by
    unfold sevM sevF; split <;> simp
  have := imgB_eq st []
  rw [List.append_nil, List.append_nil] at this
  rw [this, List.length_append]
  have := hs st.clock.toNat
  unfold numB; omega
end Go.Proofs.YtdaimaibnjkfbaaDoor
/-
  Package image's taker.
-/
namespace Go.Proofs.YtdaimaibnjkfbaaDoor
open Go.RowKit
set_option maxRecDepth 100000

structure IsTI (w : World) (t r : Nat) (v : Value) (s : TkM) : Prop where
  box : Box w t #[.pointer (some ⟨r, 0, none⟩), errV s.er, .bool s.big] 86
  rd : IsR w r v s.l s.k
  ne : t ≠ r
  nv : v.ownBlock ≠ some t
  vl : ∀ b, v.ownBlock = some b → b < w.heap.size
theorem IsTI.mod {w w' : World} {t r : Nat} {v : Value} {s : TkM} {F : Nat → Prop} (h : IsTI w t r v s) (hm : Mod F w w') (h1 : ¬ F t) (h2 : ¬ F r) (h3 : ∀ b, v.ownBlock = some b → ¬ F b) : IsTI w' t r v s :=
  ⟨h.box.mod hm h1, h.rd.mod hm h2 h3, h.ne, h.nv, fun b hb => Nat.lt_of_lt_of_le (h.vl b hb) hm.size⟩
theorem IsTI.below {w w' : World} {t r : Nat} {v : Value} {s : TkM} (h : IsTI w t r v s) (hb : Below w.heap.size w w') : IsTI w' t r v s := h.mod (Mod.of_below (F := fun _ => False) hb) (fun h => h) (fun h => h) (fun _ _ h => h)
set_option maxHeartbeats 1600000 in
theorem imNumber_calls (t r : Nat) (v : Value) (s : TkM) (w : World) (h : IsTI w t r v s) :
    Calls Tryd.prog 46 #[.pointer (some ⟨t, 0, none⟩)] w fun e w' => e = .returned (.int .u64 (s.num.1 : Int)) ∧ IsTI w' t r v s.num.2 ∧ Mod (fun i => i = r ∨ i = t) w w' := by
  have HT := Lib.hid h
  have c0 := h.box.cell 0 _ rfl
  have c1 : w.cell? ⟨t, 1, none⟩ = some (errV s.er) := h.box.cell 1 _ rfl
  by_cases he : s.er = 0
  rotate_left
  · have HS := Lib.hid (show s.num = (0, s) by unfold TkM.num; rw [if_neg he])
    rw [errV_no he] at c1
    clear h
    go_enter Tryd.func46, Tryd.ntmps46
    go_wp2_with fail
    go_ret
    rw [HS.out]
    exact ⟨rfl, HT.out, Mod.refl _ _⟩
  · obtain ⟨N, hN⟩ : ∃ N, N = numR s.rest := ⟨_, rfl⟩
    have Hc := Lib.hid (rNumber_calls r s.k v s.l w h.rd h.vl)
    change Hid (Calls _ _ _ _ fun e w' => Mod (fun i => i = r) w w' ∧ (((numR s.rest).1 = 0 ∧ e = .returned (.tuple #[.int .u64 ((numR s.rest).2.1 : Int), .nilIface]) ∧ IsR w' r v s.l (s.k + (numR s.rest).2.2)) ∨ ((numR s.rest).1 ≠ 0 ∧ e = .returned (.tuple #[.int .u64 0, .iface 68 (.int .i64 (numR s.rest).1)]) ∧ IsR w' r v s.l s.k))) at Hc
    have HS := Lib.hid (show s.num = (if N.1 = 0 then (N.2.1, ⟨s.l, s.k + N.2.2, 0, s.big⟩) else (0, ⟨s.l, s.k, N.1, s.big⟩)) by unfold TkM.num; rw [if_pos he, hN])
    rw [← hN] at Hc
    rw [show errV s.er = .nilIface by unfold errV; rw [if_pos he]] at c1
    clear h hN
    go_enter Tryd.func46, Tryd.ntmps46
    go_wp2_with fail
    refine Hc.out.mono ?_
    rintro e w1 ⟨hm, ⟨hn, rfl, hi⟩ | ⟨hn, rfl, hi⟩⟩
    · have hbx := HT.out.box.mod hm HT.out.ne
      have HS' := Lib.hid (show s.num = (N.2.1, ⟨s.l, s.k + N.2.2, 0, s.big⟩) by rw [HS.out, if_pos hn])
      have d1 := hbx.cell 1 _ rfl
      have f1 := hbx.free 1
      have hms := Mod.set (fun i => i = t) w1 ⟨t, 1, none⟩ .nilIface rfl
      have HR := Lib.hid (show IsTI (w1.setCell ⟨t, 1, none⟩ .nilIface) t r v ⟨s.l, s.k + N.2.2, 0, s.big⟩ from ⟨hbx.set 1 .nilIface, hi.mod hms (fun e => HT.out.ne e.symm) (fun b hb e => HT.out.nv (by rw [hb, e])), HT.out.ne, HT.out.nv, fun b hb => by have := HT.out.vl b hb; have := hm.size; simp; omega⟩)
      have HM := Lib.hid ((hm.mono (fun i hi => Or.inl hi : ∀ i, i = r → i = r ∨ i = t)).trans (hms.mono (fun i hi => Or.inr hi : ∀ i, i = t → i = r ∨ i = t)))
      clear hm hn hi hbx hms HS c0 c1 he
      go_wp2_with fail
      go_ret
      rw [HS'.out]
      exact ⟨rfl, HR.out, HM.out⟩
    · have hbx := HT.out.box.mod hm HT.out.ne
      have HS' := Lib.hid (show s.num = (0, ⟨s.l, s.k, N.1, s.big⟩) by rw [HS.out, if_neg hn])
      have d1 := hbx.cell 1 _ rfl
      have f1 := hbx.free 1
      have hms := Mod.set (fun i => i = t) w1 ⟨t, 1, none⟩ (.iface 68 (.int .i64 N.1)) rfl
      have HR := Lib.hid (show IsTI (w1.setCell ⟨t, 1, none⟩ (.iface 68 (.int .i64 N.1))) t r v ⟨s.l, s.k, N.1, s.big⟩ from ⟨by rw [errV_no hn]; exact hbx.set 1 _, hi.mod hms (fun e => HT.out.ne e.symm) (fun b hb e => HT.out.nv (by rw [hb, e])), HT.out.ne, HT.out.nv, fun b hb => by have := HT.out.vl b hb; have := hm.size; simp; omega⟩)
      have HM := Lib.hid ((hm.mono (fun i hi => Or.inl hi : ∀ i, i = r → i = r ∨ i = t)).trans (hms.mono (fun i hi => Or.inr hi : ∀ i, i = t → i = r ∨ i = t)))
      clear hm hn hi hbx hms HS c0 c1 he
      go_wp2_with fail
      go_ret
      rw [HS'.out]
      exact ⟨rfl, HR.out, HM.out⟩
set_option maxHeartbeats 1600000 in
theorem imText_calls (t r : Nat) (v : Value) (s : TkM) (w : World) (h : IsTI w t r v s) :
    Calls Tryd.prog 45 #[.pointer (some ⟨t, 0, none⟩)] w fun e w' => e = .returned (.string (SB s.txt.1)) ∧ IsTI w' t r v s.txt.2 ∧ Mod (fun i => i = r ∨ i = t) w w' := by
  have HT := Lib.hid h
  have c0 := h.box.cell 0 _ rfl
  have c1 : w.cell? ⟨t, 1, none⟩ = some (errV s.er) := h.box.cell 1 _ rfl
  by_cases he : s.er = 0
  rotate_left
  · have HS := Lib.hid (show s.txt = ([], s) by unfold TkM.txt; rw [if_neg he])
    rw [errV_no he] at c1
    clear h
    go_enter Tryd.func45, Tryd.ntmps45
    go_wp2_with fail
    go_ret
    rw [HS.out]
    exact ⟨rfl, HT.out, Mod.refl _ _⟩
  · obtain ⟨N, hN⟩ : ∃ N, N = textR s.rest := ⟨_, rfl⟩
    have Hc := Lib.hid (rText_calls r s.k v s.l w h.rd h.vl)
    change Hid (Calls _ _ _ _ fun e w' => Mod (fun i => i = r) w w' ∧ (((textR s.rest).1 = 0 ∧ e = .returned (.tuple #[.string (SB (textR s.rest).2.1), .nilIface]) ∧ IsR w' r v s.l (s.k + (textR s.rest).2.2)) ∨ ((textR s.rest).1 ≠ 0 ∧ e = .returned (.tuple #[.string ⟨#[]⟩, .iface 68 (.int .i64 (textR s.rest).1)]) ∧ IsR w' r v s.l s.k))) at Hc
    have HS := Lib.hid (show s.txt = (if N.1 = 0 then (N.2.1, ⟨s.l, s.k + N.2.2, 0, s.big⟩) else ([], ⟨s.l, s.k, N.1, s.big⟩)) by unfold TkM.txt; rw [if_pos he, hN])
    rw [← hN] at Hc
    rw [show errV s.er = .nilIface by unfold errV; rw [if_pos he]] at c1
    clear h hN
    go_enter Tryd.func45, Tryd.ntmps45
    go_wp2_with fail
    refine Hc.out.mono ?_
    rintro e w1 ⟨hm, ⟨hn, rfl, hi⟩ | ⟨hn, rfl, hi⟩⟩
    · have hbx := HT.out.box.mod hm HT.out.ne
      have HS' := Lib.hid (show s.txt = (N.2.1, ⟨s.l, s.k + N.2.2, 0, s.big⟩) by rw [HS.out, if_pos hn])
      have d1 := hbx.cell 1 _ rfl
      have f1 := hbx.free 1
      have hms := Mod.set (fun i => i = t) w1 ⟨t, 1, none⟩ .nilIface rfl
      have HR := Lib.hid (show IsTI (w1.setCell ⟨t, 1, none⟩ .nilIface) t r v ⟨s.l, s.k + N.2.2, 0, s.big⟩ from ⟨hbx.set 1 .nilIface, hi.mod hms (fun e => HT.out.ne e.symm) (fun b hb e => HT.out.nv (by rw [hb, e])), HT.out.ne, HT.out.nv, fun b hb => by have := HT.out.vl b hb; have := hm.size; simp; omega⟩)
      have HM := Lib.hid ((hm.mono (fun i hi => Or.inl hi : ∀ i, i = r → i = r ∨ i = t)).trans (hms.mono (fun i hi => Or.inr hi : ∀ i, i = t → i = r ∨ i = t)))
      clear hm hn hi hbx hms HS c0 c1 he
      go_wp2_with fail
      go_ret
      rw [HS'.out]
      exact ⟨rfl, HR.out, HM.out⟩
    · have hbx := HT.out.box.mod hm HT.out.ne
      have HS' := Lib.hid (show s.txt = ([], ⟨s.l, s.k, N.1, s.big⟩) by rw [HS.out, if_neg hn])
      have d1 := hbx.cell 1 _ rfl
      have f1 := hbx.free 1
      have hms := Mod.set (fun i => i = t) w1 ⟨t, 1, none⟩ (.iface 68 (.int .i64 N.1)) rfl
      have HR := Lib.hid (show IsTI (w1.setCell ⟨t, 1, none⟩ (.iface 68 (.int .i64 N.1))) t r v ⟨s.l, s.k, N.1, s.big⟩ from ⟨by rw [errV_no hn]; exact hbx.set 1 _, hi.mod hms (fun e => HT.out.ne e.symm) (fun b hb e => HT.out.nv (by rw [hb, e])), HT.out.ne, HT.out.nv, fun b hb => by have := HT.out.vl b hb; have := hm.size; simp; omega⟩)
      have HM := Lib.hid ((hm.mono (fun i hi => Or.inl hi : ∀ i, i = r → i = r ∨ i = t)).trans (hms.mono (fun i hi => Or.inr hi : ∀ i, i = t → i = r ∨ i = t)))
      clear hm hn hi hbx hms HS c0 c1 he
      go_wp2_with fail
      go_ret
      rw [HS'.out]
      exact ⟨rfl, HR.out, HM.out⟩
set_option maxHeartbeats 1600000 in
theorem imInts_calls (t r eb sb : Nat) (v : Value) (s : TkM) (offs : List Nat) (cs : Array Value) (T Ts : TypeId) (w : World) (h : IsTI w t r v s) (hb : Box w eb cs T) (hs : Box w sb (offs.map (fun o => Value.pointer (some ⟨eb, o, none⟩))).toArray Ts)
    (ho : ∀ o ∈ offs, o < cs.size) (h1 : eb ≠ t) (h2 : eb ≠ r) (h3 : sb ≠ t) (h4 : sb ≠ r) (h5 : sb ≠ eb) (h6 : v.ownBlock ≠ some eb) (hn : offs.length ≤ 100) :
    Calls Tryd.prog 44 #[.pointer (some ⟨t, 0, none⟩), .slice (some ⟨sb, 0, none⟩) offs.length offs.length] w fun e w' => e = .returned (.tuple #[]) ∧ IsTI w' t r v (intsM s cs offs).1 ∧ Box w' eb (intsM s cs offs).2 T ∧ Mod (fun i => i = r ∨ i = t ∨ i = eb) w w' := by
  go_enter Tryd.func44, Tryd.ntmps44
  go_wp2_with fail
  go_loopg [9] offs.length (fun gk iv wr => ∃ j : Nat, gk + j = offs.length ∧ iv = .int .i64 (j : Int) ∧ IsTI wr t r v (intsM s cs (offs.take j)).1 ∧ Box wr eb (intsM s cs (offs.take j)).2 T ∧ Mod (fun i => i = r ∨ i = t ∨ i = eb) w wr)
  case atStart => exact ⟨0, rfl, rfl, h, hb, Mod.refl _ _⟩
  case round =>
    obtain ⟨j, hgk, rfl, hT, hB, hM⟩ := hrel
    by_cases hj : j < offs.length
    · obtain ⟨o, hoo⟩ : ∃ o, o = offs[j] := ⟨_, rfl⟩
      have hlt : o < cs.size := ho o (by rw [hoo]; exact List.getElem_mem _)
      have hst : offs.take (j + 1) = offs.take j ++ [o] := by rw [List.take_succ_eq_append_getElem hj, hoo]
      have hsz := intsM_size s cs (offs.take j)
      have HX := Lib.hid (intsM_snoc s cs (offs.take j) o)
      rw [← hst] at HX
      generalize intsM s cs (offs.take j) = p at hT hB HX hsz
      obtain ⟨s1, cs1⟩ := p
      simp only at hT hB HX hsz
      have c0 : wr.cell? ⟨sb, j, none⟩ = some (.pointer (some ⟨eb, o, none⟩)) := (hs.mod hM (by rintro (e | e | e) <;> contradiction)).cell j _ (by simp [hj, hoo])
      have Hc := Lib.hid (imNumber_calls t r v s1 wr hT)
      have hxl := s1.num_lt
      have HI := Lib.hid (show s1.int = (asInt s1.num.1, ⟨s1.num.2.l, s1.num.2.k, s1.num.2.er, s1.num.2.big || !(decide (s1.num.1 ≤ 9223372036854775807))⟩) from rfl)
      generalize s1.num = q at Hc hxl HI
      obtain ⟨x, s2⟩ := q
      simp only at Hc hxl HI
      have zx := wrap_asInt x hxl
      have HB := Lib.hid hB
      have HM := Lib.hid hM
      have HG := Lib.hid hgk
      have HJ := Lib.hid hj
      have k0 : (0 : Int) ≤ (j : Int) := by omega
      have k1 : (j : Int) < (offs.length : Int) := by omega
      have HO := Lib.hid (show o < cs1.size by omega)
      clear hT hB hM hgk hj hxl hsz hst hoo hlt
      go_wp2_with fail
      refine Hc.out.mono ?_
      rintro e w1 ⟨rfl, hT1, hm1⟩
      have hB1 := HB.out.mod hm1 (by rintro (e | e) <;> contradiction)
      have d2 := hT1.box.cell 2 _ rfl
      have f2 := hT1.box.free 2
      cases hbg : s2.big
      rotate_left
      · rw [hbg] at d2
        have hbx2 := hT1.box.set 2 (.bool true)
        have hms := Mod.set (fun i => i = t) w1 ⟨t, 2, none⟩ (.bool true) rfl
        have hB2 := hB1.mod hms h1
        have e0 := hB2.cell o _ (Array.getElem?_eq_getElem HO.out)
        have f0 := hB2.free o
        have hms2 := Mod.set (fun i => i = eb) (w1.setCell ⟨t, 2, none⟩ (.bool true)) ⟨eb, o, none⟩ (.int .i64 (asInt x)) rfl
        have HB3 := Lib.hid (hB2.set o (.int .i64 (asInt x)))
        have hT3 : IsTI ((w1.setCell ⟨t, 2, none⟩ (.bool true)).setCell ⟨eb, o, none⟩ (.int .i64 (asInt x))) t r v ⟨s2.l, s2.k, s2.er, true⟩ :=
          ⟨hbx2.mod hms2 (fun e => h1 e.symm), (hT1.rd.mod hms (fun e => hT1.ne e.symm) (fun b hb e => hT1.nv (by rw [hb, e]))).mod hms2 (fun e => h2 e.symm) (fun b hb e => h6 (by rw [hb, e])), hT1.ne, hT1.nv, fun b hb => by have := hT1.vl b hb; simp; omega⟩
        have HT3 := Lib.hid hT3
        have HM3 := Lib.hid (((HM.out.trans (hm1.mono (fun i hi => hi.elim (fun e => Or.inl e) (fun e => Or.inr (Or.inl e))))).trans (hms.mono (fun i hi => .inr (.inl hi)))).trans (hms2.mono (fun i hi => .inr (.inr hi))))
        have HE := Lib.hid (show intsM s cs (offs.take (j + 1)) = (⟨s2.l, s2.k, s2.er, true⟩, cs1.setIfInBounds o (.int .i64 (asInt x))) by rw [HX.out, HI.out]; simp only [hbg, Bool.true_or])
        clear hbx2 hms hB2 hms2 hT3 hT1 hB1 hm1 HX HI hbg
        go_wp2_with fail
        go_roundg (offs.length - (j + 1))
        case measure => have := HG.out; have := HJ.out; omega
        case rel => exact ⟨j + 1, by have := HG.out; have := HJ.out; omega, by go_num, by rw [HE.out]; exact HT3.out, by rw [HE.out]; exact HB3.out, HM3.out⟩
      · rw [hbg] at d2
        by_cases hx : (9223372036854775807 : Int) < (x : Int)
        · have hd : decide (x ≤ 9223372036854775807) = false := decide_eq_false (by omega)
          have hbx2 := hT1.box.set 2 (.bool true)
          have hms := Mod.set (fun i => i = t) w1 ⟨t, 2, none⟩ (.bool true) rfl
          have hB2 := hB1.mod hms h1
          have e0 := hB2.cell o _ (Array.getElem?_eq_getElem HO.out)
          have f0 := hB2.free o
          have hms2 := Mod.set (fun i => i = eb) (w1.setCell ⟨t, 2, none⟩ (.bool true)) ⟨eb, o, none⟩ (.int .i64 (asInt x)) rfl
          have HB3 := Lib.hid (hB2.set o (.int .i64 (asInt x)))
          have hT3 : IsTI ((w1.setCell ⟨t, 2, none⟩ (.bool true)).setCell ⟨eb, o, none⟩ (.int .i64 (asInt x))) t r v ⟨s2.l, s2.k, s2.er, true⟩ :=
            ⟨hbx2.mod hms2 (fun e => h1 e.symm), (hT1.rd.mod hms (fun e => hT1.ne e.symm) (fun b hb e => hT1.nv (by rw [hb, e]))).mod hms2 (fun e => h2 e.symm) (fun b hb e => h6 (by rw [hb, e])), hT1.ne, hT1.nv, fun b hb => by have := hT1.vl b hb; simp; omega⟩
          have HT3 := Lib.hid hT3
          have HM3 := Lib.hid (((HM.out.trans (hm1.mono (fun i hi => hi.elim (fun e => Or.inl e) (fun e => Or.inr (Or.inl e))))).trans (hms.mono (fun i hi => .inr (.inl hi)))).trans (hms2.mono (fun i hi => .inr (.inr hi))))
          have HE := Lib.hid (show intsM s cs (offs.take (j + 1)) = (⟨s2.l, s2.k, s2.er, true⟩, cs1.setIfInBounds o (.int .i64 (asInt x))) by rw [HX.out, HI.out]; simp only [hbg, hd, Bool.false_or, Bool.not_false])
          clear hbx2 hms hB2 hms2 hT3 hT1 hB1 hm1 HX HI hbg hd
          go_wp2_with fail
          go_roundg (offs.length - (j + 1))
          case measure => have := HG.out; have := HJ.out; omega
          case rel => exact ⟨j + 1, by have := HG.out; have := HJ.out; omega, by go_num, by rw [HE.out]; exact HT3.out, by rw [HE.out]; exact HB3.out, HM3.out⟩
        · have hd : decide (x ≤ 9223372036854775807) = true := decide_eq_true (by omega)
          have hd2 : decide ((9223372036854775807 : Int) < (x : Int)) = false := decide_eq_false hx
          clear hx
          have hbx2 := hT1.box.set 2 (.bool false)
          have hms := Mod.set (fun i => i = t) w1 ⟨t, 2, none⟩ (.bool false) rfl
          have hB2 := hB1.mod hms h1
          have e0 := hB2.cell o _ (Array.getElem?_eq_getElem HO.out)
          have f0 := hB2.free o
          have hms2 := Mod.set (fun i => i = eb) (w1.setCell ⟨t, 2, none⟩ (.bool false)) ⟨eb, o, none⟩ (.int .i64 (asInt x)) rfl
          have HB3 := Lib.hid (hB2.set o (.int .i64 (asInt x)))
          have hT3 : IsTI ((w1.setCell ⟨t, 2, none⟩ (.bool false)).setCell ⟨eb, o, none⟩ (.int .i64 (asInt x))) t r v ⟨s2.l, s2.k, s2.er, false⟩ :=
            ⟨hbx2.mod hms2 (fun e => h1 e.symm), (hT1.rd.mod hms (fun e => hT1.ne e.symm) (fun b hb e => hT1.nv (by rw [hb, e]))).mod hms2 (fun e => h2 e.symm) (fun b hb e => h6 (by rw [hb, e])), hT1.ne, hT1.nv, fun b hb => by have := hT1.vl b hb; simp; omega⟩
          have HT3 := Lib.hid hT3
          have HM3 := Lib.hid (((HM.out.trans (hm1.mono (fun i hi => hi.elim (fun e => Or.inl e) (fun e => Or.inr (Or.inl e))))).trans (hms.mono (fun i hi => .inr (.inl hi)))).trans (hms2.mono (fun i hi => .inr (.inr hi))))
          have HE := Lib.hid (show intsM s cs (offs.take (j + 1)) = (⟨s2.l, s2.k, s2.er, false⟩, cs1.setIfInBounds o (.int .i64 (asInt x))) by rw [HX.out, HI.out]; simp only [hbg, hd, Bool.false_or, Bool.not_true])
          clear hbx2 hms hB2 hms2 hT3 hT1 hB1 hm1 HX HI hbg hd
          go_wp2_with fail
          go_roundg (offs.length - (j + 1))
          case measure => have := HG.out; have := HJ.out; omega
          case rel => exact ⟨j + 1, by have := HG.out; have := HJ.out; omega, by go_num, by rw [HE.out]; exact HT3.out, by rw [HE.out]; exact HB3.out, HM3.out⟩
    · have ht : offs.take j = offs := List.take_of_length_le (by omega)
      rw [ht] at hT hB
      have k1 : ¬ (j : Int) < (offs.length : Int) := by omega
      have HT := Lib.hid hT
      have HB := Lib.hid hB
      have HM := Lib.hid hM
      clear hT hB hM hgk ht hj
      go_wp2_with fail
      refine bodyPost_end (results_none rfl _ _ _) rfl ?_
      exact ⟨rfl, HT.out, HB.out, HM.out⟩
end Go.Proofs.YtdaimaibnjkfbaaDoor
/-
  Lists of sessions: append, CopySessions, CopyState.
-/
namespace Go.Proofs.YtdaimaibnjkfbaaDoor
open Go.RowKit
set_option maxRecDepth 100000

theorem info_ses : (Tryd.prog.info? 56).map (fun i => (i.zero, i.size, i.bytes)) = some (some (.agg #[.int .i64 0, .int .i64 0, .int .i64 0, .int .i64 0, .int .i64 0, .string ⟨#[]⟩, .string ⟨#[]⟩, .int .u64 0, .int .i64 0, .int .i64 0, .int .i64 0, .int .i64 0]), 12, 112) := by kernel_rfl
/-- A list of sessions that a call owns. -/
def OwnS (w : World) (base : Nat) (v : Value) (l : List SesM) : Prop := w.ownsRow base 56 12 v l.length (flatS l)
theorem OwnS.nil (w : World) (base : Nat) : OwnS w base (.slice none 0 0) [] := ⟨rfl, .inl ⟨rfl, rfl⟩⟩
theorem OwnS.rd {w : World} {base : Nat} {v : Value} {l : List SesM} (h : OwnS w base v l) : RdS w v l := rd_of_own h
theorem OwnS.below {w w' : World} {base : Nat} {v : Value} {l : List SesM} (h : OwnS w base v l) (hb : Below w.heap.size w w') : OwnS w' base v l := own_below h hb
theorem OwnS.slice {w : World} {base : Nat} {v : Value} {l : List SesM} (h : OwnS w base v l) : ∃ a cap, v = .slice a l.length cap ∧ l.length ≤ cap := by
  obtain ⟨a, cap, h1, h2, _⟩ := h.rd.slice; exact ⟨a, cap, h1, h2⟩
theorem OwnS.lt {w : World} {base : Nat} {v : Value} {l : List SesM} (h : OwnS w base v l) : ∀ k, v.ownBlock = some k → base ≤ k ∧ k < w.heap.size := own_lt h
theorem OwnS.mod {w w' : World} {base : Nat} {v : Value} {l : List SesM} {F : Nat → Prop} (h : OwnS w base v l) (hm : Mod F w w') (hb : ∀ k, v.ownBlock = some k → ¬ F k) : OwnS w' base v l := own_mod h hm hb
theorem OwnS.base {w : World} {base base' : Nat} {v : Value} {l : List SesM} (h : OwnS w base v l) (hb : base' ≤ base) : OwnS w base' v l := own_base h hb
theorem wpList_buildSlice_s {P : Program} {ops : Array Oper} {rest : List Oper} {op : Oper} {a : Act} {w : World} {Q : Exit → Act → World → Prop} (hw : Region.wanted op (yielded ops a.tmps) = true) (t : TypeId) (n : Nat) (parts : Array (Nat × Operand)) (ho : op.op = .buildSlice t n parts)
    (vals : Array (Nat × Value)) (hv : (parts.map fun (i, x) => (i, a.eval x)) = vals) (cs : Array Value) (e : TypeId) (hr : (Instr.buildSlice t n vals).run P w = .ok (.slice (some ⟨w.heap.size, 0, none⟩) n n) (w.alloc (.cells cs e)))
    (h : ∀ w', Hid (w' = w.alloc (.cells cs e)) → wpList P ops Q rest (a.put op.dst (.slice (some ⟨w.heap.size, 0, none⟩) n n)) w') : wpList P ops Q (op :: rest) a w := by
  rw [wpList, if_pos hw]
  refine .inl ?_
  unfold Oper.wp execOp
  simp only [ho, Sem.run_bind, hv, hr, Result.andThen_ok, Sem.run_pure]
  exact h _ (Lib.hid rfl)
theorem buildS (s : SesM) (w : World) : (Instr.buildSlice 22 1 #[(0, .agg s.cells)]).run Tryd.prog w = .ok (.slice (some ⟨w.heap.size, 0, none⟩) 1 1) (w.alloc (.cells s.cells 56)) := by kernel_rfl
/-- 'append(s, x)' of one session onto sessions that the call owns. -/
theorem appSes {w : World} {ops : Array Oper} {rest : List Oper} {o : Oper} {a : Act} {Q : Exit → Act → World → Prop} (hgd : o.guard = none) (s x : Operand)
    (ho : o.op = .call { callee := .builtin .append, args := #[s, x], argTypes := #[22, 22] })
    (base : Nat) (v : Value) (l : List SesM) (hs : a.eval s = v) (hown : OwnS w base v l)
    (ad : Addr) (c : Nat) (y : SesM) (hx : a.eval x = .slice (some ad) 1 c) (hy : ∀ j u, y.cells.toList[j]? = some u → w.cell? (ad.add j) = some u)
    (hroom : l.length + 1 ≤ 1256584717458) (hbase : base ≤ w.heap.size)
    (h : ∀ v' w', OwnS w' base v' (l ++ [y]) → w.grownBy w' v.ownBlock → Moved w v v' → wpList Tryd.prog ops Q rest (a.put o.dst v') w') : wpList Tryd.prog ops Q (o :: rest) a w := by
  obtain ⟨i0, hi, hz0, hz1, hz2⟩ := info_parts info_ses
  refine wpList_append_own2 hgd s x 22 ho base 56 i0 _ 12 112 Tryd.underlying22 hi hz0 hz1 hz2 rfl (by decide) v l.length (flatS l) hs hown ad 1 c y.cells.toList hx rfl hy y.oneS (by unfold maxLen; omega) (by omega) hbase (fun v' w' h1 h2 h3 => h v' w' ?_ h2 h3)
  unfold OwnS
  rw [flatS_append, flatS_one, List.length_append]; exact h1
theorem newCells (w : World) (s : SesM) (t : TypeId) : ∀ j u, s.cells.toList[j]? = some u → (w.alloc (.cells s.cells t)).cell? ((⟨w.heap.size, 0, none⟩ : Addr).add j) = some u := fun j u hj => World.news_of_block (heap_alloc_new w (.cells s.cells t)) j u hj
end Go.Proofs.YtdaimaibnjkfbaaDoor
/-
  What stands while a state is taken out of bytes.
-/
namespace Go.Proofs.YtdaimaibnjkfbaaDoor
open Go.RowKit
set_option maxRecDepth 100000

structure ImSt (w0 w : World) (t r b2 b8 : Nat) (v : Value) (s : TkM) (c b : Int) (x : Value) (l : List SesM) : Prop where
  it : IsTI w t r v s
  bz : Box w b2 #[.int .i64 0, .int .i64 0, .slice none 0 0] 24
  bs : Box w b8 #[.int .i64 c, .int .i64 b, x] 24
  own : OwnS w (b8 + 1) x l
  bel : Below w0.heap.size w0 w
  g : w0.heap.size ≤ b2
  o1 : b2 < r
  o2 : r < t
  o3 : t < b8
  ov : ∀ k, v.ownBlock = some k → b2 < k ∧ k < t
theorem ImSt.below {w0 w w' : World} {t r b2 b8 : Nat} {v x : Value} {s : TkM} {c b : Int} {l : List SesM} (h : ImSt w0 w t r b2 b8 v s c b x l) (hb : Below w.heap.size w w') : ImSt w0 w' t r b2 b8 v s c b x l :=
  ⟨h.it.below hb, h.bz.below hb, h.bs.below hb, h.own.below hb, h.bel.trans (hb.mono h.bel.size), h.g, h.o1, h.o2, h.o3, h.ov⟩
theorem ImSt.step {w0 w w' : World} {t r b2 b8 : Nat} {v x : Value} {s s' : TkM} {c b : Int} {l : List SesM} (h : ImSt w0 w t r b2 b8 v s c b x l) (hi : IsTI w' t r v s') (hm : Mod (fun i => i = r ∨ i = t) w w') : ImSt w0 w' t r b2 b8 v s' c b x l := by
  have := h.g; have := h.o1; have := h.o2; have := h.o3
  exact ⟨hi, h.bz.mod hm (by rintro (e | e) <;> omega), h.bs.mod hm (by rintro (e | e) <;> omega), h.own.mod hm (fun k hk => by have := (h.own.lt k hk).1; rintro (e | e) <;> omega), h.bel.trans (hm.below h.bel.size (fun i hi => by rcases hi with e | e <;> omega)), h.g, h.o1, h.o2, h.o3, h.ov⟩
/-- A block of its own, beside all, is turned. -/
theorem ImSt.ints {w0 w w' : World} {t r b2 b8 eb : Nat} {v x : Value} {s s' : TkM} {c b : Int} {l : List SesM} (h : ImSt w0 w t r b2 b8 v s c b x l) (hi : IsTI w' t r v s') (hm : Mod (fun i => i = r ∨ i = t ∨ i = eb) w w') (he : b8 < eb) (hx : x.ownBlock ≠ some eb) : ImSt w0 w' t r b2 b8 v s' c b x l := by
  have := h.g; have := h.o1; have := h.o2; have := h.o3
  exact ⟨hi, h.bz.mod hm (by rintro (e | e | e) <;> omega), h.bs.mod hm (by rintro (e | e | e) <;> omega), h.own.mod hm (fun k hk => by have := (h.own.lt k hk).1; rintro (e | e | e); omega; omega; exact hx (by rw [hk, e])), h.bel.trans (hm.below h.bel.size (fun i hi => by rcases hi with e | e | e <;> omega)), h.g, h.o1, h.o2, h.o3, h.ov⟩
theorem ImSt.mod {w0 w w' : World} {t r b2 b8 eb : Nat} {v x : Value} {s : TkM} {c b : Int} {l : List SesM} (h : ImSt w0 w t r b2 b8 v s c b x l) (hm : Mod (fun i => i = eb) w w') (he : b8 < eb) (hx : x.ownBlock ≠ some eb) : ImSt w0 w' t r b2 b8 v s c b x l :=
  h.ints (h.it.mod hm (by have := h.o3; omega) (by have := h.o2; have := h.o3; omega) (fun k hk => by have := (h.ov k hk).2; have := h.o3; omega)) (hm.mono (fun _ e => .inr (.inr e))) he hx
/-- The two clocks are taken. -/
theorem ImSt.clocks {w0 w w' : World} {t r b2 b8 : Nat} {v x : Value} {s s' : TkM} {c b c' b' : Int} {l : List SesM} (h : ImSt w0 w t r b2 b8 v s c b x l) (hi : IsTI w' t r v s') (hb : Box w' b8 #[.int .i64 c', .int .i64 b', x] 24) (hm : Mod (fun i => i = r ∨ i = t ∨ i = b8) w w') : ImSt w0 w' t r b2 b8 v s' c' b' x l := by
  have := h.g; have := h.o1; have := h.o2; have := h.o3
  exact ⟨hi, h.bz.mod hm (by rintro (e | e | e) <;> omega), hb, h.own.mod hm (fun k hk => by have := (h.own.lt k hk).1; rintro (e | e | e) <;> omega), h.bel.trans (hm.below h.bel.size (fun i hi => by rcases hi with e | e | e <;> omega)), h.g, h.o1, h.o2, h.o3, h.ov⟩
/-- One session more is appended, its list not yet stored. -/
theorem ImSt.grown {w0 w w' : World} {t r b2 b8 : Nat} {v x : Value} {s : TkM} {c b : Int} {l : List SesM} (h : ImSt w0 w t r b2 b8 v s c b x l) (hg : w.grownBy w' x.ownBlock) : Below (b8 + 1) w w' :=
  below_grown hg h.bs.lt (fun q hq => (h.own.lt q hq).1)
/-- The grown list is stored. -/
theorem ImSt.put {w0 w w' : World} {t r b2 b8 : Nat} {v x x' : Value} {s : TkM} {c b : Int} {l l' : List SesM} (h : ImSt w0 w t r b2 b8 v s c b x l) (hb : Below (b8 + 1) w w') (ho : OwnS w' (b8 + 1) x' l') : ImSt w0 (w'.setCell ⟨b8, 2, none⟩ x') t r b2 b8 v s c b x' l' := by
  have := h.g; have := h.o1; have := h.o2; have := h.o3
  have hm : Mod (fun i => b8 + 1 ≤ i) w w' := ⟨hb.os, hb.tape, hb.output, hb.size, fun i _ hn => hb.block i (by omega)⟩
  have hms := Mod.set (fun i => i = b8) w' ⟨b8, 2, none⟩ x' rfl
  have hi1 : IsTI w' t r v s := h.it.mod hm (by omega) (by omega) (fun k hk => by have := (h.ov k hk).2; omega)
  have hbs : Box w' b8 #[.int .i64 c, .int .i64 b, x] 24 := h.bs.mod hm (by omega)
  exact ⟨hi1.mod hms (by omega) (by omega) (fun k hk => by have := (h.ov k hk).2; omega), (h.bz.mod hm (by omega)).mod hms (by omega), hbs.set 2 x', ho.mod hms (fun k hk => by have := (ho.lt k hk).1; omega), (h.bel.trans (hb.mono (by omega))).trans (hms.below (Nat.le_trans h.bel.size hb.size) (fun i hi => by omega)), h.g, h.o1, h.o2, h.o3, h.ov⟩
theorem zst_one : ∀ v ∈ [Value.int .i64 0, .int .i64 0, .slice none 0 0], v.oneCell' = true := by
  intro v hv
  simp only [List.mem_cons, List.not_mem_nil, or_false] at hv
  rcases hv with rfl | rfl | rfl <;> rfl
/-- What stands where an error is handed out. -/
structure ExI (w0 : World) (t b2 : Nat) (er : Value) (w' : World) : Prop where
  ce : w'.cell? ⟨t, 1, none⟩ = some er
  bz : Box w' b2 #[.int .i64 0, .int .i64 0, .slice none 0 0] 24
  bel : Below w0.heap.size w0 w'
  ne : b2 ≠ t
  ge : w0.heap.size ≤ b2
theorem ExI.drew {w0 : World} {t b2 : Nat} {er : Value} {w : World} (h : ExI w0 t b2 er w) : ExI w0 t b2 er w.drew := ⟨h.ce, h.bz, h.bel.drew, h.ne, h.ge⟩
theorem ExI.store {w0 : World} {t b2 : Nat} {er : Value} {w : World} (h : ExI w0 t b2 er w) : ExI w0 t b2 er (w.setCells b2 0 [.int .i64 0, .int .i64 0, .slice none 0 0]) := by
  have hb := h.bz.setAll [.int .i64 0, .int .i64 0, .slice none 0 0] rfl
  have hm := Mod.setCells (fun k => k = b2) b2 rfl [.int .i64 0, .int .i64 0, .slice none 0 0] 0 w
  have hlt : t < w.heap.size := World.block_lt_of_cell? w _ h.ce
  exact ⟨by rw [World.cell?_of_block (w := w) (hm.block t hlt (fun e => h.ne e.symm))]; exact h.ce, hb, h.bel.trans (hm.below h.bel.size (fun _ hi => hi ▸ h.ge)), h.ne, h.ge⟩
end Go.Proofs.YtdaimaibnjkfbaaDoor
