/-
  The book's Apart: of a book that holds lists of raw writes, each of memory of its own, it says yes.
-/
import Derived.Test.YtmlckfdjiljjhaaDoorApartR
import Derived.Test.YtmlckfdjiljjhaaDoorApartE
import Derived.Test.YtmlckfdjiljjhaaDoorDiskQ
namespace Go.Proofs.YtmlckfdjiljjhaaDoor
open Go.RowKit
set_option maxRecDepth 100000

theorem mkR_one (k i : Nat) : ∀ u ∈ mkR k i, u.oneCell' = true := by simp [mkR, Value.oneCell']
/-- The rows of a book. -/
def rowsR (ys : List Value) (ns : Nat → Nat) (B : Nat) : RowsS := ⟨ys.length, fun i => ys.getD i undef, ns, B, 53, 2, by omega, mkR, fun _ _ => rfl, mkR_one⟩
theorem map_getD_range (ys : List Value) : (List.range ys.length).map (fun i => ys.getD i undef) = ys := by
  refine List.ext_getElem (by simp) fun i h1 h2 => ?_
  simp [List.getD, show i < ys.length from h2]
set_option maxHeartbeats 1600000 in
theorem bookApart_calls (B bp c : Nat) (bv : Value) (ys : List Value) (W : World) (hc : c ≤ 10000) (hb : Box W bp (bookC bv) 43) (ho : W.ownsRow B 57 1 bv ys.length ys)
    (hr : ∀ i, i < ys.length → ∃ l : List (Int × ByteArray), l.length ≤ c ∧ W.ownsRow B 53 2 (ys.getD i undef) l.length (flatRaws l)) (hap : ∀ i j, i < j → j < ys.length → Apart (ys.getD i undef) (ys.getD j undef)) (hyc : ys.length ≤ c)
    (hba : ∀ i, i < ys.length → Apart bv (ys.getD i undef)) (hyn : ∀ i, i < ys.length → (ys.getD i undef).ownBlock ≠ some bp) (hB : B ≤ W.heap.size) :
    Calls Tryd.prog 11 #[.pointer (some ⟨bp, 0, none⟩)] W fun e W' => e = .returned (.bool true) ∧ Mod (fun b => ∃ i, i < ys.length ∧ (ys.getD i undef).ownBlock = some b) W W' := by
  obtain ⟨ls, hls⟩ : ∃ ls : Nat → List (Int × ByteArray), ∀ i, i < ys.length → (ls i).length ≤ c ∧ W.ownsRow B 53 2 (ys.getD i undef) (ls i).length (flatRaws (ls i)) :=
    ⟨fun i => if hi : i < ys.length then (hr i hi).choose else [], fun i hi => by simp only [dif_pos hi]; exact (hr i hi).choose_spec⟩
  have hR := apartR_calls (rowsR ys (fun i => (ls i).length) B) bv W rfl rfl rfl
    ⟨⟨fun i => flatRaws (ls i), fun j hj => (hls j hj).2, fun j hj _ => by omega, fun _ => by simp [marksS]⟩,
      fun j j' hj hj' hne => by
        rcases Nat.lt_or_gt_of_ne hne with h | h
        · exact hap j j' h hj'
        · exact (hap j' j h hj).symm,
      by show Rd W bv ys.length _
         have := rd_of_own ho
         rw [← map_getD_range ys] at this
         simpa [rowsR] using this,
      fun j hj => hba j hj, Mod.refl _ _⟩ (by show ys.length ≤ 1000000; omega) (fun j hj => by have := (hls j hj).1; show (ls j).length ≤ _; omega) (fun b hbb => (ho.lt b hbb).2) hB
  have hR : Calls Tryd.prog 38 #[bv] W fun e W' => e = .returned (.bool true) ∧ Mod (fun b => ∃ i, i < ys.length ∧ (ys.getD i undef).ownBlock = some b) W W' := hR
  have c0 := hb.cell 0 _ rfl
  have c1 := hb.cell 1 _ rfl
  have c2 := hb.cell 2 _ rfl
  have c3 := hb.cell 3 _ rfl
  have c4 := hb.cell 4 _ rfl
  have c5 := hb.cell 5 _ rfl
  have c6 := hb.cell 6 _ rfl
  have c7 := hb.cell 7 _ rfl
  have c8 := hb.cell 8 _ rfl
  have c9 := hb.cell 9 _ rfl
  have HR := Lib.hid hR
  have HBx := Lib.hid hb
  have Hyn := Lib.hid hyn
  clear hR hb hr hap hba hyn ho hls
  go_enter Tryd.func11, Tryd.ntmps11
  go_wp2_with fail
  refine (apartBytes_nil W).mono ?_
  rintro e w1 ⟨rfl, rfl⟩
  go_wp2_with fail
  refine (apartTexts_nil W).mono ?_
  rintro e w1 ⟨rfl, rfl⟩
  go_wp2_with fail
  refine (apartInts_nil W).mono ?_
  rintro e w1 ⟨rfl, rfl⟩
  go_wp2_with fail
  refine (apartNumbers_nil W).mono ?_
  rintro e w1 ⟨rfl, rfl⟩
  go_wp2_with fail
  refine (apartSessions_nil W).mono ?_
  rintro e w1 ⟨rfl, rfl⟩
  go_wp2_with fail
  refine (apartSlots_nil W).mono ?_
  rintro e w1 ⟨rfl, rfl⟩
  go_wp2_with fail
  refine (apartLinks_nil W).mono ?_
  rintro e w1 ⟨rfl, rfl⟩
  go_wp2_with fail
  refine (apartEvents_nil W).mono ?_
  rintro e w1 ⟨rfl, rfl⟩
  go_wp2_with fail
  refine HR.out.mono ?_
  rintro e w1 ⟨rfl, hm⟩
  have c9 := (Box.mod HBx.out hm (fun h => by obtain ⟨i, h1, h2⟩ := h; exact Hyn.out i h1 h2)).cell 9 _ rfl
  have Hm := Lib.hid hm
  clear hm
  go_wp2_with fail
  refine (apartCommands_nil w1).mono ?_
  rintro e w2 ⟨rfl, rfl⟩
  go_wp2_with fail
  go_ret
  exact ⟨rfl, Hm.out⟩
end Go.Proofs.YtmlckfdjiljjhaaDoor
