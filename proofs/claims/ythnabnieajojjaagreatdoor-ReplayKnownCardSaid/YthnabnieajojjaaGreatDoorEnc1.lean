/-
  Package event: the function that Encode makes, which puts numbers.
-/
import Derived.Test.YthnabnieajojjaaGreatDoorWr
import Derived.Test.YthnabnieajojjaaGreatDoorRefB
namespace Go.Proofs.YthnabnieajojjaaGreatDoor
open Go.RowKit
set_option maxRecDepth 100000

def numsB (ns : List Int) : List UInt8 := ns.flatMap numB
theorem numsB_snoc (ns : List Int) (n : Int) : numsB (ns ++ [n]) = numsB ns ++ numB n := by simp [numsB]
theorem wNumberZ_calls {n : Int} (h : N63 n) (B p : Nat) (v0 : Value) (l0 : List UInt8) (w : World) (hw : IsW w B p v0 l0) (hl0 : l0.length ≤ 140737488350000) (hB : B ≤ w.heap.size) :
    Calls Tryz.prog 38 #[.pointer (some ⟨p, 0, none⟩), .int .u64 n] w fun e w' => e = .returned (.tuple #[]) ∧ ∃ v', IsW w' B p v' (l0 ++ numB n) ∧ Mod (WF p v0) w w' ∧ Fresh w v0 v' := by
  obtain ⟨h1, h2⟩ := h
  obtain ⟨k, rfl⟩ : ∃ k : Nat, n = (k : Int) := ⟨n.toNat, by omega⟩
  exact wNumber_calls B p v0 l0 k w hw (by omega) hl0 hB
theorem mod_u64z {n : Int} (h : N63 n) : n % 18446744073709551616 = n := by obtain ⟨h1, h2⟩ := h; omega
set_option maxHeartbeats 1600000 in
theorem encNumbers_calls (B p q r : Nat) (v0 : Value) (l0 : List UInt8) (ns : List Int) (t : TypeId) (w : World) (hw : IsW w B p v0 l0) (hq : Box w q #[.pointer (some ⟨p, 0, none⟩)] t) (hr : Box w r (ns.map (fun n => Value.int .i64 n)).toArray 3)
    (hns : ∀ n ∈ ns, N63 n) (hql : ¬ WF p v0 q) (hrl : ¬ WF p v0 r) (hl0 : l0.length ≤ 100000) (hn : ns.length ≤ 100) (hB : B ≤ w.heap.size) :
    Calls Tryz.prog 37 #[.slice (some ⟨r, 0, none⟩) ns.length ns.length, .pointer (some ⟨q, 0, none⟩)] w fun e w' => e = .returned (.tuple #[]) ∧ ∃ v', IsW w' B p v' (l0 ++ numsB ns) ∧ Mod (WF p v0) w w' ∧ Fresh w v0 v' := by
  go_enter Tryz.func37, Tryz.ntmps37
  go_wp2_with fail
  go_loopg [7] ns.length (fun gk iv wr => ∃ (k : Nat) (v1 : Value), gk + k = ns.length ∧ iv = .int .i64 (k : Int) ∧ IsW wr B p v1 (l0 ++ numsB (ns.take k)) ∧ Mod (WF p v0) w wr ∧ Fresh w v0 v1)
  case atStart => exact ⟨0, v0, rfl, rfl, by simpa [numsB] using hw, Mod.refl _ _, Fresh.refl _ _⟩
  case round =>
    obtain ⟨k, v1, hgk, rfl, hW, hM, hF⟩ := hrel
    have hs := hM.size
    have HW := Lib.hid hW
    have HM := Lib.hid hM
    have HF := Lib.hid hF
    by_cases hk : k < ns.length
    · obtain ⟨n, hnn⟩ : ∃ n, n = ns[k] := ⟨_, rfl⟩
      have hz := mod_u64z (n := n) (hns n (by rw [hnn]; exact List.getElem_mem _))
      have Hn := Lib.hid (hns n (by rw [hnn]; exact List.getElem_mem _))
      have c0 := (hq.mod hM hql).cell 0 _ rfl
      have c1 : wr.cell? ⟨r, k, none⟩ = some (.int .i64 n) := (hr.mod hM hrl).cell k _ (by simp [hk, hnn])
      have HT := Lib.hid (show numsB (ns.take (k + 1)) = numsB (ns.take k) ++ numB n from by rw [List.take_succ_eq_append_getElem hk, numsB_snoc, hnn])
      have HL := Lib.hid (show (l0 ++ numsB (ns.take k)).length ≤ 140737488350000 from by
        have : ∀ l : List Int, (numsB l).length ≤ 10 * l.length := by
          intro l
          induction l with
          | nil => simp [numsB]
          | cons a l ih => have := numB_len a; simp only [numsB, List.flatMap_cons, List.length_append, List.length_cons] at ih ⊢; omega
        have h1 := this (ns.take k)
        have h2 : (ns.take k).length ≤ 100 := by rw [List.length_take]; omega
        rw [List.length_append]; omega)
      have k0 : (0 : Int) ≤ (k : Int) := by omega
      have k1 : (k : Int) < (ns.length : Int) := by omega
      have Hgk := Lib.hid hgk
      have Hk := Lib.hid hk
      clear hgk hnn hW hM hF hk
      go_wp2_with fail
      refine (wNumberZ_calls Hn.out B p v1 _ _ HW.out HL.out (by omega)).mono ?_
      rintro e w2 ⟨rfl, v2, s1, s2, s3⟩
      have HS1 := Lib.hid s1
      have HS2 := Lib.hid (WF.then HM.out HF.out s2)
      have HS3 := Lib.hid (HF.out.trans hs s3)
      clear s1 s2 s3 c0 c1
      go_wp2_with fail
      go_roundg (ns.length - (k + 1))
      case measure => have := Hgk.out; have := Hk.out; omega
      case rel => exact ⟨k + 1, v2, by have := Hgk.out; have := Hk.out; omega, by go_num, by rw [HT.out, ← List.append_assoc]; exact HS1.out, HS2.out, HS3.out⟩
    · have k1 : ¬ (k : Int) < (ns.length : Int) := by omega
      have ht : ns.take k = ns := List.take_of_length_le (by omega)
      rw [ht] at hW
      have HW2 := Lib.hid hW
      clear hgk hW hM hF ht HW
      go_wp2_with fail
      refine bodyPost_end (results_none rfl _ _ _) rfl ?_
      exact ⟨rfl, v1, HW2.out, HM.out, HF.out⟩
end Go.Proofs.YthnabnieajojjaaGreatDoor
