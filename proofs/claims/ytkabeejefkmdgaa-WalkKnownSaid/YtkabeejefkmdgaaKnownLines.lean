/-
  WalkKnown: lines of all depths.
-/
import Derived.Test.YtkabeejefkmdgaaAbove
import Derived.Deep.LoopGhost
namespace Go.Proofs.Ytkabeejefkmdgaa
open Go.RowKit

/-- A list of numbers that the call owns. -/
structure IntsAt (w0 : World) (v : Value) (L : List Int) (w : World) : Prop where
  own : w.ownsRow w0.heap.size 3 1 v L.length (L.map VI)
  small : ∀ i, i < L.length → -9223372036854775808 ≤ L.getD i 0 ∧ L.getD i 0 ≤ 9223372036854775807
  below : Below w0.heap.size w0 w
theorem IntsAt.keep {w0 : World} {v : Value} {L : List Int} {w w' : World} (h : IntsAt w0 v L w) (hb : Below w.heap.size w w') : IntsAt w0 v L w' :=
  ⟨own_below h.own hb, h.small, h.below.trans (hb.mono h.below.size)⟩
theorem IntsAt.snoc {w0 : World} {v v' : Value} {L : List Int} {w w' : World} {x : Int} (h : IntsAt w0 v L w) (hown : w'.ownsRow w0.heap.size 3 1 v' (L.length + 1) (L.map VI ++ [VI x])) (hg : w.grownBy w' v.ownBlock)
    (hx : -9223372036854775808 ≤ x ∧ x ≤ 9223372036854775807) : IntsAt w0 v' (L ++ [x]) w' := by
  refine ⟨by rw [List.length_append, List.map_append]; exact hown, fun i hi => ?_, h.below.trans (below_grown hg h.below.size (fun q hq => (h.own.lt q hq).1))⟩
  by_cases e : i < L.length
  · rw [List.getD, List.getElem?_append_left e]; exact h.small i e
  · have : i = L.length := by simp at hi; omega
    subst this
    rw [List.getD, List.getElem?_append_right (Nat.le_refl _)]; simpa using hx
set_option maxHeartbeats 1600000 in
theorem knownLines_calls (w : World) : Calls Try.prog 23 #[] w fun e w' => e = .returned (.bool true) ∧ Below w.heap.size w w' := by
  go_enter Try.func23, Try.ntmps23
  go_wp2_with fail
  go_loopg [1] 9 (fun gk iv wr => ∃ n : Nat, gk + n = 9 ∧ iv = .int .i64 (n : Int) ∧ Below w.heap.size w wr)
  case atStart => exact ⟨0, rfl, rfl, Below.refl _ _⟩
  case round =>
    obtain ⟨n, hgn, rfl, hb⟩ := hrel
    have hn0 : (0 : Int) ≤ (n : Int) := by omega
    have HB := Lib.hid hb
    have Hgn := Lib.hid hgn
    clear hb
    by_cases hn : n ≤ 8
    · have hn1 : (n : Int) ≤ 8 := by omega
      clear hgn
      go_wp2_with fail
      obtain ⟨wo, hwo⟩ : ∃ wo : World, wo = wr := ⟨_, rfl⟩
      go_loopg [2, 3] n (fun gi lv iv wr => ∃ (i : Nat) (L : List Int), gi + i = n ∧ iv = .int .i64 (i : Int) ∧ L.length = i ∧ IntsAt w lv L wr)
      case atStart => exact ⟨0, [], rfl, rfl, rfl, World.ownsRow_nil _ _ _ _, fun i hi => by simp at hi, HB.out⟩
      case round =>
        clear hwo
        obtain ⟨i, L, hgi, rfl, hLi, hI⟩ := hrel
        obtain ⟨la, lc, rfl, _⟩ := own_slice hI.own
        have hi0 : (0 : Int) ≤ (i : Int) := by omega
        have HI := Lib.hid hI
        have Hgi := Lib.hid hgi
        have HLi := Lib.hid hLi
        clear hI hLi
        by_cases hi : i < n
        · have hi1 : (i : Int) < (n : Int) := by omega
          have hx : -9223372036854775808 ≤ (i : Int) * 9 + (n : Int) ∧ (i : Int) * 9 + (n : Int) ≤ 9223372036854775807 := by omega
          have hb1 := HI.out.keep (below_alloc wr (.cells #[.int .i64 ((i : Int) * 9 + (n : Int))] 3))
          have HI1 := Lib.hid hb1
          clear hgi hb1
          go_wp2_with (at_builtin; refine appI rfl _ _ rfl w.heap.size _ _ _ rfl HI1.out.own ⟨wr.heap.size, 0, none⟩ 1 (.int .i64 ((i : Int) * 9 + (n : Int))) rfl (by simp) rfl (by have := HLi.out; omega) HI1.out.below.size ?_)
          intro v' w4 hown' hg' _ _
          have HI2 := Lib.hid (HI1.out.snoc hown' hg' hx)
          clear hown' hg' hx
          go_wp2_with fail
          go_roundg (n - (i + 1))
          case measure => have := Hgi.out; omega
          case rel => exact ⟨i + 1, _, by have := Hgi.out; omega, by go_num, by simp [HLi.out], HI2.out⟩
        · clear hgi
          have hi1 : ¬ (i : Int) < (n : Int) := by omega
          go_wp2_with fail
          obtain ⟨wo, hwo⟩ : ∃ wo : World, wo = wr := ⟨_, rfl⟩
          go_loopg [4] 32 (fun gk iv wr => ∃ k : Nat, gk + k = 32 ∧ iv = .int .i64 (k : Int) ∧ IntsAt w (.slice la L.length lc) L wr)
          case atStart => exact ⟨0, rfl, rfl, HI.out⟩
          case round =>
            clear hwo HI
            obtain ⟨k, hgk, rfl, hI⟩ := hrel
            have hk0 : (0 : Int) ≤ (k : Int) := by omega
            have HI := Lib.hid hI
            have Hgk := Lib.hid hgk
            have hab := fun (at_ kind : Int) (w2 : World) (hI : IntsAt w (.slice la L.length lc) L w2) (h1 : -9223372036854775808 ≤ at_) (h2 : at_ ≤ 9223372036854775807) (h3 : -9223372036854775808 ≤ kind) (h4 : kind ≤ 9223372036854775807) => above_calls _ L at_ kind w2 (rd_of_own hI.own) hI.small h1 h2 h3 h4
            have Hab := Lib.hid hab
            clear hI hab
            by_cases hk : k < 32
            · have hk1 : (k : Int) < 32 := by omega
              clear hgk
              go_wp2_with fail
              refine (Hab.out k k wr HI.out (by omega) (by omega) (by omega) (by omega)).mono ?_
              rintro e w2 ⟨rfl, hb2⟩
              have HI2 := Lib.hid (HI.out.keep hb2)
              clear hb2
              go_wp2_with fail
              refine (Hab.out k (k + 1) w2 HI2.out (by omega) (by omega) (by omega) (by omega)).mono ?_
              rintro e w3 ⟨rfl, hb3⟩
              have HI3 := Lib.hid (HI2.out.keep hb3)
              clear hb3
              go_wp2_with fail
              refine (Hab.out k (k + 2) w3 HI3.out (by omega) (by omega) (by omega) (by omega)).mono ?_
              rintro e w4 ⟨rfl, hb4⟩
              have HI4 := Lib.hid (HI3.out.keep hb4)
              clear hb4
              go_wp2_with fail
              go_roundg (32 - (k + 1))
              case measure => have := Hgk.out; omega
              case rel => exact ⟨k + 1, by have := Hgk.out; omega, by go_num, HI4.out⟩
            · have hk1 : ¬ (k : Int) < 32 := by omega
              clear hgk
              go_wp2_with fail
              go_roundg (9 - (n + 1))
              case measure => have := Hgn.out; omega
              case rel => exact ⟨n + 1, by have := Hgn.out; omega, by go_num, HI.out.below⟩
    · have hn1 : ¬ (n : Int) ≤ 8 := by omega
      clear hgn
      go_wp2_with fail
      go_ret
      exact ⟨rfl, HB.out⟩
end Go.Proofs.Ytkabeejefkmdgaa
