/-
  The document's bytes of an event.
-/
import Derived.Test.YthnabnieajojjaaGreatDoorOf
import Derived.Test.YthnabnieajojjaaGreatDoorSevB
namespace Go.Proofs.YthnabnieajojjaaGreatDoor
open Go.RowKit
set_option maxRecDepth 100000

/-- A number that is not below 0. -/
def N63 (n : Int) : Prop := 0 ≤ n ∧ n ≤ 9223372036854775807
theorem N63.of {n lo hi : Int} (h : fromM n lo hi = true) (h0 : 0 ≤ lo) (h1 : hi ≤ 9223372036854775807) : N63 n := by
  have := fromM_yes h; exact ⟨by omega, by omega⟩
theorem N63.zero {n : Int} (h : (n == 0) = true) : N63 n := by simp at h; subst h; exact ⟨by omega, by omega⟩
/-- The numbers and texts of a session that may be. -/
structure SesN (s : SesM) : Prop where
  slot : N63 s.slot
  birth : N63 s.birth
  upS : N63 s.upS
  upB : N63 s.upB
  kind : N63 s.kind
  user : s.user.length ≤ 32
  label : s.label.length ≤ 32
  level : N63 s.level
  born : N63 s.born
  deadline : N63 s.deadline
  depth : N63 s.depth
theorem nameM_le {l : List UInt8} (h : nameM l = true) : l.length ≤ 32 := by
  unfold nameM at h; rw [decide_eq_true_iff] at h; exact h.2.1
theorem SesN.of {s : SesM} (h : mayS s = true) : SesN s := by
  unfold mayS at h
  simp only [Bool.and_eq_true] at h
  obtain ⟨h1, h2, h3, h4, h5, h6, h7⟩ := h
  have hd : N63 s.deadline := by
    have := fromM_yes h5; have := fromM_yes h6; exact ⟨by omega, by omega⟩
  have hch : childM s = true → N63 s.kind → SesN s := fun hc hk => by
    unfold childM at hc
    simp only [Bool.and_eq_true] at hc
    obtain ⟨c1, c2, c3, c4⟩ := hc
    have hb2 : N63 s.upB := by
      have := fromM_yes h2; have := fromM_yes c2; exact ⟨by omega, by omega⟩
    exact ⟨.of h1 (by omega) (by omega), .of h2 (by omega) (by omega), .of c1 (by omega) (by omega), hb2, hk, nameM_le h3, nameM_le c3, .of h4 (by omega) (by omega), .of h5 (by omega) (by omega), hd, .of c4 (by omega) (by omega)⟩
  cases k0 : (s.kind == 0)
  · rw [k0] at h7
    cases k1 : (s.kind == 1)
    · rw [k1] at h7
      cases k2 : (s.kind == 2)
      · rw [k2] at h7; simp at h7
      · rw [k2] at h7
        simp only [Bool.false_eq_true, if_false, if_true, Bool.and_eq_true] at h7
        have : s.kind = 2 := by simpa using k2
        exact hch h7.1 ⟨by omega, by omega⟩
    · rw [k1] at h7
      simp only [Bool.false_eq_true, if_false, if_true] at h7
      have : s.kind = 1 := by simpa using k1
      exact hch h7 ⟨by omega, by omega⟩
  · rw [k0] at h7
    simp only [if_true] at h7
    unfold loginM at h7
    simp only [Bool.and_eq_true] at h7
    obtain ⟨c1, c2, c3, c4⟩ := h7
    exact ⟨.of h1 (by omega) (by omega), .of h2 (by omega) (by omega), .zero c1, .zero c2, .zero k0, nameM_le h3, by rw [List.isEmpty_iff.1 c3]; simp, .of h4 (by omega) (by omega), .of h5 (by omega) (by omega), hd, .zero c4⟩
def sesOn (b : List UInt8) (s : SesM) : List UInt8 := b ++ numB s.slot ++ numB s.birth ++ numB s.upS ++ numB s.upB ++ numB s.kind ++ textB s.user ++ textB s.label ++ sevM s.scopes ++ numB s.level ++ numB s.born ++ numB s.deadline ++ numB s.depth
def evB (e : EvtM) : List UInt8 := if (e.kind == 1) = true then numB e.kind ++ numB e.birth else if (e.kind == 2) = true then numB e.kind ++ numB e.ticks else sesOn (numB e.kind) e.s
theorem numB_len (n : Int) : (numB n).length ≤ 10 := sevM_len _
theorem textB_len {l : List UInt8} (h : l.length ≤ 32) : (textB l).length ≤ 42 := by
  unfold textB; rw [List.length_append]; have := sevM_len l.length; omega
theorem evB_len {e : EvtM} (h : SesN e.s) : (evB e).length ≤ 1000 := by
  unfold evB
  have h1 := fun n => numB_len n
  split
  · rw [List.length_append]; have := h1 e.kind; have := h1 e.birth; omega
  split
  · rw [List.length_append]; have := h1 e.kind; have := h1 e.ticks; omega
  · unfold sesOn
    simp only [List.length_append]
    have := h1 e.kind; have := h1 e.s.slot; have := h1 e.s.birth; have := h1 e.s.upS; have := h1 e.s.upB; have := h1 e.s.kind; have := h1 e.s.level; have := h1 e.s.born; have := h1 e.s.deadline; have := h1 e.s.depth
    have := textB_len h.user; have := textB_len h.label; have := sevM_len e.s.scopes
    omega
/-- What stands while bytes are put one behind the other: the event's or session's cells, the bytes so far. -/
structure PutSt (w0 w : World) (b : Nat) (cs : Array Value) (t : TypeId) (v : Value) (A : List UInt8) : Prop where
  bx : Box w b cs t
  own : OwnM w w0.heap.size 5 v A.length (A.map V8)
  ne : v.ownBlock ≠ some b
  bel : Below w0.heap.size w0 w
theorem PutSt.call {w0 w w' : World} {b : Nat} {cs : Array Value} {t : TypeId} {v : Value} {A : List UInt8} (h : PutSt w0 w b cs t v A) (hb : Below w.heap.size w w') : PutSt w0 w' b cs t v A :=
  ⟨h.bx.below hb, h.own.below hb, h.ne, h.bel.trans (hb.mono h.bel.size)⟩
theorem PutSt.app {w0 w w' : World} {b : Nat} {cs : Array Value} {t : TypeId} {v v' : Value} {A l : List UInt8} (h : PutSt w0 w b cs t v A) (ho : OwnM w' w0.heap.size 5 v' (A.length + l.length) (A.map V8 ++ l.map V8)) (hg : w.grownBy w' v.ownBlock) (hm : Moved w v v') : PutSt w0 w' b cs t v' (A ++ l) := by
  have hlt := h.bx.lt
  refine ⟨h.bx.grown hg h.ne, by rw [List.length_append, List.map_append]; exact ho, ?_, h.bel.trans (below_grown hg h.bel.size (fun q hq => (h.own.lt q hq).1))⟩
  rcases hm with e | e
  · rw [e]; exact h.ne
  · rw [e]; intro e2; injection e2 with e2; omega

end Go.Proofs.YthnabnieajojjaaGreatDoor
