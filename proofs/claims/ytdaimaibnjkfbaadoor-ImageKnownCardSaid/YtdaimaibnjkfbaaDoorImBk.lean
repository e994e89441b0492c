/-
  A state's bytes: they tell it again; cut off or longer they are refused; bytes that tell a state are its own.
-/
import Derived.Test.YtdaimaibnjkfbaaDoorUniM
import Derived.Test.YtdaimaibnjkfbaaDoorImEnc
import Derived.Test.YtdaimaibnjkfbaaDoorDecI
namespace Go.Proofs.YtdaimaibnjkfbaaDoor
open Go.RowKit
set_option maxRecDepth 100000

theorem At.bornV {s : TkM} {q : SesM} {r : List UInt8} (h : At s (sesOn [] q ++ r)) (hq : SesN q) (hsc : q.scopes < 2 ^ 64) : (bornM s).1 = q ∧ At (bornM s).2 r := by
  unfold sesOn at h
  simp only [List.append_assoc, List.nil_append] at h
  obtain ⟨a1, a2⟩ := h.int hq.slot
  obtain ⟨b1, b2⟩ := a2.int hq.birth
  obtain ⟨c1, c2⟩ := b2.int hq.upS
  obtain ⟨d1, d2⟩ := c2.int hq.upB
  obtain ⟨f1, f2⟩ := d2.int hq.kind
  obtain ⟨u1, u2⟩ := f2.txt hq.user
  obtain ⟨l1, l2⟩ := u2.txt hq.label
  obtain ⟨s1, s2⟩ := l2.num hsc
  obtain ⟨g1, g2⟩ := s2.int hq.level
  obtain ⟨h1, h2⟩ := g2.int hq.born
  obtain ⟨i1, i2⟩ := h2.int hq.deadline
  obtain ⟨j1, j2⟩ := i2.int hq.depth
  exact ⟨by unfold bornM; simp only [a1, b1, c1, d1, f1, u1, l1, s1, g1, h1, i1, j1], j2⟩
/-- What may be written of each of a list. -/
def SesW (l : List SesM) : Prop := ∀ q ∈ l, SesN q ∧ q.scopes < 2 ^ 64
theorem SesW.head {q : SesM} {l : List SesM} (h : SesW (q :: l)) : SesN q ∧ q.scopes < 2 ^ 64 := h q (by simp)
theorem SesW.tail {q : SesM} {l : List SesM} (h : SesW (q :: l)) : SesW l := fun x hx => h x (by simp [hx])
theorem At.sesTs : ∀ (l : List SesM) (s : TkM) (r : List UInt8), At s (l.flatMap (sesOn []) ++ r) → SesW l → (sesTs l.length s).1 = l ∧ At (sesTs l.length s).2 r
  | [], s, r, h, _ => ⟨rfl, by rw [List.flatMap_nil, List.nil_append] at h; exact h⟩
  | q :: l, s, r, h, hw => by
    rw [List.flatMap_cons, List.append_assoc] at h
    obtain ⟨h1, h2⟩ := h.bornV hw.head.1 hw.head.2
    obtain ⟨h3, h4⟩ := At.sesTs l (bornM s).2 r h2 hw.tail
    refine ⟨?_, h4⟩
    show (bornM s).1 :: (Go.Proofs.YtdaimaibnjkfbaaDoor.sesTs l.length (bornM s).2).1 = _
    rw [h1, h3]
theorem At.fin {s : TkM} {st : StM} (h : At s []) (hc : checkM st = none) : finI s st = (0, st) := by
  have hk : ¬ s.k < s.l.length := by
    have := congrArg List.length h.rest
    unfold TkM.rest at this
    rw [List.length_drop] at this
    simp at this; omega
  unfold finI
  rw [if_pos h.er, if_neg hk, h.big, if_neg (by decide), if_pos hc]
theorem At.finMore {s : TkM} {c : UInt8} (h : At s [c]) (st : StM) : finI s st = (3, noSt) := by
  have hk : s.k < s.l.length := by
    have := congrArg List.length h.rest
    unfold TkM.rest at this
    rw [List.length_drop] at this
    simp at this; omega
  unfold finI
  rw [if_pos h.er, if_pos hk]
theorem imgB_eq (st : StM) (r : List UInt8) : imgB st ++ r = numB st.clock ++ (numB st.births ++ (sevM st.l.length ++ (st.l.flatMap (sesOn []) ++ r))) := by
  unfold imgB numsB
  simp only [List.flatMap_cons, List.flatMap_nil, List.append_nil, List.append_assoc]
  rfl
theorem decI_at {st : StM} (hc : checkM st = none) (hw : SesW st.l) (r : List UInt8) : ∃ s, At s r ∧ decI (imgB st ++ r) = finI s st := by
  obtain ⟨n1, n2, n3, _⟩ := check_parts hc
  have h0 : At ⟨imgB st ++ r, 0, 0, false⟩ (numB st.clock ++ (numB st.births ++ (sevM st.l.length ++ (st.l.flatMap (sesOn []) ++ r)))) := ⟨imgB_eq st r, rfl, rfl, Nat.zero_le _⟩
  obtain ⟨a1, a2⟩ := h0.int n1
  obtain ⟨b1, b2⟩ := a2.int n2
  obtain ⟨p1, p2⟩ := b2.num (by omega)
  obtain ⟨q1, q2⟩ := At.sesTs _ _ _ p2 hw
  refine ⟨_, q2, ?_⟩
  unfold decI
  simp only
  rw [a1, b1, p1, if_neg (by omega), q1]
theorem decI_imgB {st : StM} (hc : checkM st = none) (hw : SesW st.l) : decI (imgB st) = (0, st) := by
  obtain ⟨s, h1, h2⟩ := decI_at hc hw []
  rw [List.append_nil] at h2
  rw [h2]; exact h1.fin hc
theorem decI_more {st : StM} (hc : checkM st = none) (hw : SesW st.l) (c : UInt8) : decI (imgB st ++ [c]) = (3, noSt) := by
  obtain ⟨s, h1, h2⟩ := decI_at hc hw [c]
  rw [h2]; exact h1.finMore st
theorem int_stay {s : TkM} (h : s.er = 2) : s.int.2.er = 2 := num_stay h
theorem born_stay {s : TkM} (h : s.er = 2) : (bornM s).2.er = 2 := by
  unfold bornM
  exact int_stay (int_stay (int_stay (int_stay (num_stay (txt_stay (txt_stay (int_stay (int_stay (int_stay (int_stay (int_stay h)))))))))))
theorem ses_stay : ∀ (n : Nat) (s : TkM), s.er = 2 → (sesTs n s).2.er = 2
  | 0, _, h => h
  | n + 1, _, h => ses_stay n _ (born_stay h)
theorem Cut.bornR {s : TkM} {q : SesM} {r : List UInt8} {p : Nat} (h : Cut s (sesOn [] q ++ r) p) (hq : SesN q) (hsc : q.scopes < 2 ^ 64) : ∃ p', Cut (bornM s).2 r p' := by
  unfold sesOn at h
  simp only [List.append_assoc, List.nil_append] at h
  have a := h.int hq.slot
  have b := a.int hq.birth
  have c := b.int hq.upS
  have d := c.int hq.upB
  have f := d.int hq.kind
  have u := f.txt hq.user
  have l := u.txt hq.label
  have sc := (l.num hsc).1
  have g := sc.int hq.level
  have hh := g.int hq.born
  have i := hh.int hq.deadline
  exact ⟨_, i.int hq.depth⟩
theorem Cut.sesTs : ∀ (l : List SesM) (s : TkM) (p : Nat), Cut s (l.flatMap (sesOn [])) p → SesW l → (sesTs l.length s).2.er = 2
  | [], s, p, h, _ => h.nil
  | q :: l, s, p, h, hw => by
    rw [List.flatMap_cons] at h
    obtain ⟨p', h1⟩ := h.bornR hw.head.1 hw.head.2
    exact Cut.sesTs l _ p' h1 hw.tail
theorem fin_two {s : TkM} {st : StM} (h : s.er = 2) : finI s st = (2, noSt) := by
  unfold finI; rw [if_neg (by rw [h]; decide), h]
theorem decI_cut {st : StM} (hc : checkM st = none) (hw : SesW st.l) (p : Nat) (hp : p < (imgB st).length) : decI ((imgB st).take p) = (2, noSt) := by
  obtain ⟨n1, n2, n3, _⟩ := check_parts hc
  have he := imgB_eq st []
  rw [List.append_nil, List.append_nil] at he
  have h0 : Cut ⟨(imgB st).take p, 0, 0, false⟩ (numB st.clock ++ (numB st.births ++ (sevM st.l.length ++ st.l.flatMap (sesOn [])))) p :=
    .inl ⟨⟨by rw [← he]; rfl, rfl, rfl, Nat.zero_le _⟩, by rw [← he]; exact hp⟩
  have a := h0.int n1
  have b := a.int n2
  obtain ⟨c1, c2⟩ := b.num (by omega)
  unfold decI
  simp only
  by_cases h0 : ((⟨(imgB st).take p, 0, 0, false⟩ : TkM).int.2.int.2.num).2.er = 0
  · rw [c2 h0, if_neg (by omega)]
    exact fin_two (Cut.sesTs _ _ _ c1 hw)
  · rw [if_neg (fun h => h0 h.1)]
    rcases c1 with ⟨h1, _⟩ | h1
    · exact absurd h1.er h0
    · exact fin_two (ses_stay _ _ h1)
theorem er_born {s : TkM} (h : (bornM s).2.er = 0) : s.er = 0 := by
  unfold bornM at h
  exact er_int (er_int (er_int (er_int (er_int (er_txt (er_txt (er_num (er_int (er_int (er_int (er_int h)))))))))))
theorem big_born {s : TkM} (h : (bornM s).2.big = false) : s.big = false := by
  unfold bornM at h
  simp only at h
  have h1 := (int_big (int_big (int_big (int_big h).1).1).1).1
  rw [num_big, txt_big, txt_big] at h1
  exact (int_big (int_big (int_big (int_big (int_big h1).1).1).1).1).1
theorem er_ses : ∀ (n : Nat) (s : TkM), (sesTs n s).2.er = 0 → s.er = 0
  | 0, _, h => h
  | n + 1, s, h => er_born (er_ses n (bornM s).2 h)
theorem big_ses : ∀ (n : Nat) (s : TkM), (sesTs n s).2.big = false → s.big = false
  | 0, _, h => h
  | n + 1, s, h => big_born (big_ses n (bornM s).2 h)
theorem Got.sesTs {b : List UInt8} : ∀ (n : Nat) (s : TkM) (A : List UInt8), Got b s A → (sesTs n s).2.er = 0 → (sesTs n s).2.big = false → Got b (sesTs n s).2 (A ++ (sesTs n s).1.flatMap (sesOn [])) ∧ ∀ q ∈ (sesTs n s).1, q.scopes < 2 ^ 64
  | 0, s, A, h, _, _ => ⟨by show Got b s (A ++ []); rwa [List.append_nil], fun q hq => by cases hq⟩
  | n + 1, s, A, h, he, hb => by
    obtain ⟨h1, h2⟩ := h.born (er_ses n _ he) (big_ses n _ hb)
    obtain ⟨h3, h4⟩ := Got.sesTs n (bornM s).2 _ h1 he hb
    refine ⟨?_, fun q hq => ?_⟩
    · show Got b (Go.Proofs.YtdaimaibnjkfbaaDoor.sesTs n (bornM s).2).2 (A ++ ((bornM s).1 :: (Go.Proofs.YtdaimaibnjkfbaaDoor.sesTs n (bornM s).2).1).flatMap (sesOn []))
      rw [List.flatMap_cons, ← List.append_assoc, ← sesOn_app]; exact h3
    · rcases List.mem_cons.1 hq with rfl | hq
      · exact h2
      · exact h4 q hq
theorem finI_inv {s : TkM} {e f : StM} (h : finI s e = (0, f)) : s.er = 0 ∧ ¬ s.k < s.l.length ∧ s.big = false ∧ checkM e = none ∧ e = f := by
  unfold finI at h
  split at h
  · rename_i h0
    split at h
    · simp at h
    · rename_i h1
      split at h
      · simp at h
      · rename_i h2
        split at h
        · rename_i h3
          simp only [Prod.mk.injEq, true_and] at h
          exact ⟨h0, h1, by simpa using h2, h3, h⟩
        · simp at h
  · rename_i h0
    simp only [Prod.mk.injEq] at h
    exact absurd h.1 h0
theorem decI_inv {b : List UInt8} {st : StM} (h : decI b = (0, st)) : checkM st = none ∧ (∀ q ∈ st.l, q.scopes < 2 ^ 64) ∧ imgB st = b := by
  unfold decI at h
  simp only at h
  split at h
  · simp at h
  · obtain ⟨h1, h2, h3, h4, h5⟩ := finI_inv h
    have g0 : Got b ⟨b, 0, 0, false⟩ [] := ⟨rfl, Nat.zero_le _⟩
    have e3 := er_ses _ _ h1
    have b3 := big_ses _ _ h3
    rw [num_big] at b3
    have e2 := er_num e3
    have e1 := er_int e2
    have b1 := (int_big b3).1
    have g1 := g0.int e1 b1
    have g2 := g1.int e2 b3
    obtain ⟨g3, _⟩ := g2.num e3
    obtain ⟨g4, g5⟩ := Got.sesTs _ _ _ g3 h1 h3
    have g6 := g4.all h2
    subst h5
    refine ⟨h4, g5, Eq.trans ?_ g6.symm⟩
    have hb := imgB_eq (⟨(⟨b, 0, 0, false⟩ : TkM).int.1, (⟨b, 0, 0, false⟩ : TkM).int.2.int.1, (sesTs (⟨b, 0, 0, false⟩ : TkM).int.2.int.2.num.1 (⟨b, 0, 0, false⟩ : TkM).int.2.int.2.num.2).1⟩ : StM) []
    rw [List.append_nil, List.append_nil] at hb
    simp only at hb
    rw [sesTs_len] at hb
    generalize (⟨b, 0, 0, false⟩ : TkM).int = p at hb ⊢
    rw [hb]
    simp only [List.nil_append, List.append_assoc]
theorem finI_no {s : TkM} {e f : StM} {n : Int} (h : finI s e = (n, f)) (hn : n ≠ 0) : f = noSt := by
  unfold finI at h
  split at h
  · split at h
    · simp only [Prod.mk.injEq] at h; exact h.2.symm
    · split at h
      · simp only [Prod.mk.injEq] at h; exact h.2.symm
      · split at h
        · simp only [Prod.mk.injEq] at h; exact absurd h.1.symm hn
        · simp only [Prod.mk.injEq] at h; exact h.2.symm
  · simp only [Prod.mk.injEq] at h; exact h.2.symm
theorem decI_no {b : List UInt8} {n : Int} {f : StM} (h : decI b = (n, f)) (hn : n ≠ 0) : f = noSt := by
  unfold decI at h
  simp only at h
  split at h
  · simp only [Prod.mk.injEq] at h; exact h.2.symm
  · exact finI_no h hn
theorem check_w {st : StM} (h : checkM st = none) (ho : ∀ s ∈ st.l, SesOk s) : SesW st.l := fun q hq => ⟨SesN.of ((check_parts h).2.2.2 q hq), (ho q hq).scopes⟩
theorem numB_one {n : Int} (h1 : n < 128) : (numB n).length = 1 := by
  unfold numB sevM sevF
  rw [if_pos (by omega)]; rfl
theorem sesOn_tight {q : SesM} (h : mayS q = true) : (sesOn [] q).length ≤ 190 := by
  have hs := SesN.of h
  have hq := h
  unfold mayS at hq
  simp only [Bool.and_eq_true] at hq
  have a1 := numB_one (n := q.slot) (by have := fromM_yes hq.1; omega)
  have a2 := numB_one (n := q.level) (by have := fromM_yes hq.2.2.2.1; omega)
  unfold sesOn
  have h1 := fun n => numB_len n
  have h2 := fun n => sevM_len n
  have h3 := textB_len hs.user
  have h4 := textB_len hs.label
  simp only [List.length_append, List.length_nil]
  have := h1 q.birth; have := h1 q.upS; have := h1 q.upB; have := h1 q.kind; have := h2 q.scopes; have := h1 q.born; have := h1 q.deadline; have := h1 q.depth
  omega
theorem sesOns_tight : ∀ {l : List SesM}, (∀ s ∈ l, mayS s = true) → (l.flatMap (sesOn [])).length ≤ 190 * l.length
  | [], _ => by simp
  | s :: l, h => by
    have h1 := sesOn_tight (h s (by simp))
    have h2 := sesOns_tight (l := l) (fun q hq => h q (by simp [hq]))
    rw [List.flatMap_cons, List.length_append, List.length_cons]; omega
theorem imgB_tight {st : StM} (h : checkM st = none) : (imgB st).length ≤ 6144 := by
  obtain ⟨_, _, h3, h4⟩ := check_parts h
  have h5 := sesOns_tight h4
  have := numB_len3 st.clock st.births st.l.length
  unfold imgB
  rw [List.length_append]; omega
theorem imgB_pos {st : StM} : 0 < (imgB st).length := by
  have hs : ∀ n, 0 < (sevM n).length := fun n => by
    unfold sevM sevF; split <;> simp
  have := imgB_eq st []
  rw [List.append_nil, List.append_nil] at this
  rw [this, List.length_append]
  have := hs st.clock.toNat
  unfold numB; omega
end Go.Proofs.YtdaimaibnjkfbaaDoor
