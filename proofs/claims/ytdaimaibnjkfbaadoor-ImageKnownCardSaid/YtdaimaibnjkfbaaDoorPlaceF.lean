/-
  Faults of package api: lineagekit.Place, At.
-/
import Derived.Test.YtdaimaibnjkfbaaDoorAsF
import Derived.Test.YtdaimaibnjkfbaaDoorSetCells
namespace Go.Proofs.YtdaimaibnjkfbaaDoor
open Go.RowKit Go.Extern.Stop Go.Stop Go.Extern
set_option maxRecDepth 100000

set_option maxHeartbeats 1600000 in
theorem placeF_calls (n : Nat) (at_ : Int) (w : World) (h1 : 1 ≤ n) (h2 : n ≤ 24) (hg : ErrType w) :
    Calls Tryd.prog 31 #[errF n at_] w fun e w' => e = .returned (.tuple #[.int .i64 at_, .bool true]) ∧ Below w.heap.size w w' := by
  have hb := below_alloc w (.cells #[.int .i64 0, .int .i64 0] 78)
  have hx := Box.new w #[.int .i64 0, .int .i64 0] 78
  have HA := Lib.hid (as_hitF (n : Int) at_ 0 0 w.heap.size _ (hg.below hb) hx)
  have HN := Lib.hid (fun w => numF_calls n at_ w h1 h2)
  have hba := asW_below (w.alloc (.cells #[.int .i64 0, .int .i64 0] 78)) w.heap.size n at_
  have hx2 := hx.below hba
  have hb2 := hb.trans (hba.mono hb.size)
  have hx3 : Box ((asW (w.alloc (.cells #[.int .i64 0, .int .i64 0] 78)) w.heap.size n at_).setCells w.heap.size 0 [.int .i64 (n : Int), .int .i64 at_]) w.heap.size #[.int .i64 (n : Int), .int .i64 at_] 78 := (hx2.set 0 (.int .i64 (n : Int))).set 1 (.int .i64 at_)
  have hb3 : Below w.heap.size w ((asW (w.alloc (.cells #[.int .i64 0, .int .i64 0] 78)) w.heap.size n at_).setCells w.heap.size 0 [.int .i64 (n : Int), .int .i64 at_]) := by
    have hm := Mod.setCells (fun k => k = w.heap.size) w.heap.size rfl [.int .i64 (n : Int), .int .i64 at_] 0 (asW (w.alloc (.cells #[.int .i64 0, .int .i64 0] 78)) w.heap.size n at_)
    exact hb2.trans (hm.below hb2.size (fun i hi => by omega))
  generalize (asW (w.alloc (.cells #[.int .i64 0, .int .i64 0] 78)) w.heap.size n at_).setCells w.heap.size 0 [.int .i64 (n : Int), .int .i64 at_] = w2 at HA hx3 hb3
  have HX3 := Lib.hid hx3
  have HB3 := Lib.hid hb3
  clear hb hx hba hx2 hb2 hx3 hb3 hg
  unfold errF at HA HN ⊢
  go_enter Tryd.func31, Tryd.ntmps31
  go_wp2_with fail
  refine HA.out.mono ?_
  rintro e w' ⟨rfl, rfl⟩
  go_wp2_with fail
  have hnn : ((n : Int) == (n : Int)) = true := by rw [beq_iff_eq]
  have f0 : w'.drew.cell? ⟨w.heap.size, 0, none⟩ = some (.int .i64 (n : Int)) ∧ w'.drew.cell? ⟨w.heap.size, 1, none⟩ = some (.int .i64 at_) := ⟨HX3.out.cell 0 _ rfl, HX3.out.cell 1 _ rfl⟩
  have HB4 := Lib.hid HB3.out.drew
  clear HX3 HB3 HA
  go_region_held3 (fun W => W.cell? ⟨w.heap.size, 0, none⟩ = some (.int .i64 (n : Int)) ∧ W.cell? ⟨w.heap.size, 1, none⟩ = some (.int .i64 at_))
    (first | with_reducible exact f0 | with_reducible exact f1)
    (first | (go_at_call 32; refine (HN.out _).mono ?_; rintro e w5 ⟨rfl, hb5⟩; have f1 : w5.cell? ⟨w.heap.size, 0, none⟩ = some (.int .i64 (n : Int)) ∧ w5.cell? ⟨w.heap.size, 1, none⟩ = some (.int .i64 at_) := And.intro (below_heap hb5 f0.1) (below_heap hb5 f0.2); have HB5 := Lib.hid (HB4.out.trans (hb5.mono HB4.out.size)); clear hb5))
  all_goals go_wp2_with fail
  all_goals go_ret2
  all_goals exact ⟨rfl, HB5.out⟩
set_option maxHeartbeats 1600000 in
theorem atF_calls (n : Nat) (at_ : Int) (w : World) (h1 : 1 ≤ n) (h2 : n ≤ 24) (hg : ErrType w) :
    Calls Tryd.prog 11 #[errF n at_, .int .i64 (n : Int), .int .i64 at_] w fun e w' => e = .returned (.bool true) ∧ Below w.heap.size w w' := by
  have HP := Lib.hid (placeF_calls n at_ w h1 h2 hg)
  have HN := Lib.hid (fun w => numF_calls n at_ w h1 h2)
  have n0 : ((n : Int) == 0) = false := by rw [beq_eq_false_iff_ne]; omega
  have n1 : ((n : Int) == (n : Int)) = true := by rw [beq_iff_eq]
  have n2 : (at_ == at_) = true := by rw [beq_iff_eq]
  unfold errF at HP HN ⊢
  clear hg
  go_enter Tryd.func11, Tryd.ntmps11
  go_wp2_with fail
  refine HP.out.mono ?_
  rintro e w1 ⟨rfl, hb1⟩
  have HB1 := Lib.hid hb1
  clear hb1
  go_wp2_with fail
  refine (HN.out _).mono ?_
  rintro e w2 ⟨rfl, hb2⟩
  have HB2 := Lib.hid (HB1.out.trans (hb2.mono HB1.out.size))
  clear hb2
  go_wp2_with fail
  go_ret
  exact ⟨rfl, HB2.out⟩
theorem atNil_calls (k : Int) (w : World) :
    Calls Tryd.prog 11 #[.nilIface, .int .i64 0, .int .i64 k] w fun e w' => e = .returned (.bool true) ∧ w' = w := by
  go_enter Tryd.func11, Tryd.ntmps11
  go_wp2_with fail
  go_ret
  exact ⟨rfl, rfl⟩
end Go.Proofs.YtdaimaibnjkfbaaDoor
