/-
  Chapter 11's works.
-/
import Derived.Test.YtacponljnphbnaaDoorEnc
import Derived.Test.YtacponljnphbnaaDoorSameB
namespace Go.Proofs.YtacponljnphbnaaDoor
open Go.RowKit
set_option maxRecDepth 100000

def evW : EvtM := ⟨1, noSes, 300, 0⟩
theorem encM_W : encM evW = [1, 172, 2] := by decide +kernel
theorem encN_W : encN evW = 0 := by decide +kernel
theorem rd_three (w : World) (a b c : Value) (t : TypeId) : Rd (w.alloc (.cells #[a, b, c] t)) (.slice (some ⟨w.heap.size, 0, none⟩) 3 3) 3 [a, b, c] := by
  refine ⟨_, 3, rfl, Nat.le_refl _, by omega, (fun h => by cases h), fun j hj => ⟨w.heap.size, 0, rfl, ?_⟩⟩
  have hj : j < 3 := hj
  rw [Nat.zero_add]
  refine (Box.new w #[a, b, c] t).cell j _ ?_
  rcases (show j = 0 ∨ j = 1 ∨ j = 2 by omega) with rfl | rfl | rfl <;> rfl
set_option maxHeartbeats 1600000 in
theorem worksEv_calls (w : World) :
    Calls Tryd.prog 16 #[] w fun e w' => e = .returned (.bool true) ∧ Below w.heap.size w w' := by
  have he := enc_calls evW w (by decide) (by decide) (by decide)
  rw [encM_W, encN_W, show errV 0 = .nilIface from rfl] at he
  have HE := Lib.hid he
  clear he
  go_enter Tryd.func16, Tryd.ntmps16
  go_wp2_with fail
  refine HE.out.mono ?_
  rintro ev w1 ⟨o, rfl, ho, hb⟩
  have hr : Rd (w1.alloc (.cells #[.int .u8 1, .int .u8 172, .int .u8 2] 5)) (.slice (some ⟨w1.heap.size, 0, none⟩) 3 3) 3 (([1, 172, 2] : List UInt8).map V8) := rd_three w1 _ _ _ _
  have Hs := Lib.hid (sameBytes_calls o _ [1, 172, 2] _ (ho.rd.below (below_alloc w1 _)) hr)
  have HB := Lib.hid (hb.trans ((below_alloc w1 (.cells #[.int .u8 1, .int .u8 172, .int .u8 2] 5)).mono hb.size))
  clear ho hb hr HE
  go_wp2_with fail
  refine Hs.out.mono ?_
  rintro ev w2 ⟨rfl, k, rfl⟩
  have HB2 := Lib.hid (HB.out.trans ((below_drewN _ k).mono HB.out.size))
  clear Hs
  go_wp2_with fail
  go_ret
  exact ⟨rfl, HB2.out⟩
end Go.Proofs.YtacponljnphbnaaDoor
