/-
  The document's Decode and the program's tell the same.
-/
import Derived.Test.YtacponljnphbnaaDoorRefDec
namespace Go.Proofs.YtacponljnphbnaaDoor
open Go.RowKit
set_option maxRecDepth 100000

theorem num_big (s : TkM) : s.num.2.big = s.big := by
  unfold TkM.num
  split
  · split <;> rfl
  · rfl
theorem txt_big (s : TkM) : s.txt.2.big = s.big := by
  unfold TkM.txt
  split
  · split <;> rfl
  · rfl
theorem int_eq {s : TkM} (h : s.int.2.big = false) : s.big = false ∧ s.rint.1 = s.int.1 := by
  have h2 : (s.num.2.big || !(decide (s.num.1 ≤ 9223372036854775807))) = false := h
  rw [num_big, Bool.or_eq_false_iff] at h2
  refine ⟨h2.1, ?_⟩
  have h3 : s.num.1 ≤ 9223372036854775807 := by simpa using h2.2
  show rAs s.num.1 = asInt s.num.1
  unfold rAs asInt
  rw [if_pos h3, if_pos h3]
theorem born_eq (s : TkM) (h : (bornM s).2.big = false) : bornR s = bornM s := by
  have h11 := int_eq (s := (((((((((((s).int.2).int.2).int.2).int.2).int.2).txt.2).txt.2).num.2).int.2).int.2).int.2) h
  have h10 := int_eq (s := ((((((((((s).int.2).int.2).int.2).int.2).int.2).txt.2).txt.2).num.2).int.2).int.2) h11.1
  have h9 := int_eq (s := (((((((((s).int.2).int.2).int.2).int.2).int.2).txt.2).txt.2).num.2).int.2) h10.1
  have h8 := int_eq (s := ((((((((s).int.2).int.2).int.2).int.2).int.2).txt.2).txt.2).num.2) h9.1
  have h7 : ((((((((s).int.2).int.2).int.2).int.2).int.2).txt.2).txt.2).big = false := by rw [← num_big]; exact h8.1
  have h6 : (((((((s).int.2).int.2).int.2).int.2).int.2).txt.2).big = false := by rw [← txt_big]; exact h7
  have h5 : ((((((s).int.2).int.2).int.2).int.2).int.2).big = false := by rw [← txt_big]; exact h6
  have h4 := int_eq (s := ((((s).int.2).int.2).int.2).int.2) h5
  have h3 := int_eq (s := (((s).int.2).int.2).int.2) h4.1
  have h2 := int_eq (s := ((s).int.2).int.2) h3.1
  have h1 := int_eq (s := (s).int.2) h2.1
  have h0 := int_eq (s := s) h1.1
  show ((⟨(s).rint.1, ((s).int.2).rint.1, (((s).int.2).int.2).rint.1, ((((s).int.2).int.2).int.2).rint.1, (((((s).int.2).int.2).int.2).int.2).rint.1, ((((((s).int.2).int.2).int.2).int.2).int.2).txt.1, (((((((s).int.2).int.2).int.2).int.2).int.2).txt.2).txt.1, ((((((((s).int.2).int.2).int.2).int.2).int.2).txt.2).txt.2).num.1, (((((((((s).int.2).int.2).int.2).int.2).int.2).txt.2).txt.2).num.2).rint.1, ((((((((((s).int.2).int.2).int.2).int.2).int.2).txt.2).txt.2).num.2).int.2).rint.1, (((((((((((s).int.2).int.2).int.2).int.2).int.2).txt.2).txt.2).num.2).int.2).int.2).rint.1, ((((((((((((s).int.2).int.2).int.2).int.2).int.2).txt.2).txt.2).num.2).int.2).int.2).int.2).rint.1⟩ : SesM), ((((((((((((s).int.2).int.2).int.2).int.2).int.2).txt.2).txt.2).num.2).int.2).int.2).int.2).int.2) = _
  rw [h0.2, h1.2, h2.2, h3.2, h4.2, h8.2, h9.2, h10.2, h11.2]
  rfl
theorem endM_big {s : TkM} (h : s.big = true) (e e' : EvtM) : endM s e = endM s e' := by
  unfold endM; rw [h]; rfl
theorem refDec_eq (l : List UInt8) : refDecM l = decM l := by
  unfold refDecM decM
  simp only
  generalize (TkM.num ⟨l, 0, 0, false⟩) = p
  have hi : ∀ f : Int → EvtM, endM p.2.rint.2 (f p.2.rint.1) = endM p.2.int.2 (f p.2.int.1) := fun f => by
    show endM p.2.int.2 _ = _
    cases hb : p.2.int.2.big
    · rw [(int_eq hb).2]
    · exact endM_big hb _ _
  have hbn : endM (bornR p.2).2 ⟨0, (bornR p.2).1, 0, 0⟩ = endM (bornM p.2).2 ⟨0, (bornM p.2).1, 0, 0⟩ := by
    cases hb : (bornM p.2).2.big
    · rw [born_eq _ hb]
    · show endM (bornM p.2).2 _ = _
      exact endM_big hb _ _
  rw [hbn, hi (fun n => ⟨1, noSes, n, 0⟩), hi (fun n => ⟨2, noSes, 0, n⟩)]
/-- The errors are few. -/
def Er (n : Int) : Prop := 0 ≤ n ∧ n ≤ 4
theorem numGo_er : ∀ (l : List UInt8) (i u : Nat), Er (numGo i u l).1
  | [], _, _ => by unfold numGo; exact ⟨by decide, by decide⟩
  | c :: l, i, u => by
    unfold numGo
    split
    · exact ⟨by show (0 : Int) ≤ 4; omega, by show (4 : Int) ≤ 4; omega⟩
    split
    · exact ⟨by show (0 : Int) ≤ 0; omega, by show (0 : Int) ≤ 4; omega⟩
    · exact numGo_er l _ _
theorem textR_er (l : List UInt8) : Er (textR l).1 := by
  unfold textR
  split
  · split
    · exact ⟨by show (0 : Int) ≤ 3; omega, by show (3 : Int) ≤ 4; omega⟩
    split
    · exact ⟨by show (0 : Int) ≤ 2; omega, by show (2 : Int) ≤ 4; omega⟩
    · exact ⟨by show (0 : Int) ≤ 0; omega, by show (0 : Int) ≤ 4; omega⟩
  · exact numGo_er _ _ _
theorem num_er {s : TkM} (h : Er s.er) : Er s.num.2.er := by
  unfold TkM.num
  split
  · split
    · exact ⟨by show (0 : Int) ≤ 0; omega, by show (0 : Int) ≤ 4; omega⟩
    · exact numGo_er _ _ _
  · exact h
theorem txt_er {s : TkM} (h : Er s.er) : Er s.txt.2.er := by
  unfold TkM.txt
  split
  · split
    · exact ⟨by show (0 : Int) ≤ 0; omega, by show (0 : Int) ≤ 4; omega⟩
    · exact textR_er _
  · exact h
theorem int_er {s : TkM} (h : Er s.er) : Er s.int.2.er := num_er h
theorem born_er {s : TkM} (h : Er s.er) : Er (bornM s).2.er := int_er (int_er (int_er (int_er (num_er (txt_er (txt_er (int_er (int_er (int_er (int_er (int_er h)))))))))))
theorem endM_er {s : TkM} (e : EvtM) (h : Er s.er) : Er (endM s e).1 := by
  unfold endM
  split
  · split
    · exact ⟨by show (0 : Int) ≤ 3; omega, by show (3 : Int) ≤ 4; omega⟩
    split
    · exact ⟨by show (0 : Int) ≤ 1; omega, by show (1 : Int) ≤ 4; omega⟩
    split
    · exact ⟨by show (0 : Int) ≤ 0; omega, by show (0 : Int) ≤ 4; omega⟩
    · exact ⟨by show (0 : Int) ≤ 1; omega, by show (1 : Int) ≤ 4; omega⟩
  · exact h
theorem decM_er (l : List UInt8) : Er (decM l).1 := by
  unfold decM
  simp only
  have hp : Er (TkM.num ⟨l, 0, 0, false⟩).2.er := num_er ⟨by show (0 : Int) ≤ 0; omega, by show (0 : Int) ≤ 4; omega⟩
  generalize (TkM.num ⟨l, 0, 0, false⟩) = p at hp ⊢
  split
  · split
    · exact ⟨by show (0 : Int) ≤ 1; omega, by show (1 : Int) ≤ 4; omega⟩
    split
    · exact endM_er _ (born_er hp)
    split
    · exact endM_er _ (int_er hp)
    · exact endM_er _ (int_er hp)
  · exact hp
end Go.Proofs.YtacponljnphbnaaDoor
