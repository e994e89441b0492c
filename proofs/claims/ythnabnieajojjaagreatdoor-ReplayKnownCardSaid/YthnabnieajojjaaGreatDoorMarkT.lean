/-
  The mark of a place in a list of texts: MarkText, markTexts.
-/
import Derived.Test.YthnabnieajojjaaGreatDoorStr
import Derived.Outline
import Derived.Deep.LoopGhost
namespace Go.Proofs.YthnabnieajojjaaGreatDoor
open Go.RowKit

/-- The mark of a place. -/
def markT (k i : Int) : List UInt8 := [35, B8 k, B8 (k / 256), B8 i, B8 (i / 256)]
theorem markText_calls (k i : Int) (w : World) :
    Calls Tryz.prog 70 #[.int .i64 k, .int .i64 i] w fun e w' => e = .returned (.string (SB (markT k i))) ∧ Below w.heap.size w w' := by
  have hrd := rd_lit w #[.int .u8 35, .int .u8 (k % 256), .int .u8 (k / 256 % 256), .int .u8 (i % 256), .int .u8 (i / 256 % 256)] 5 (markT k i) (by
    show _ = [V8 35, V8 (B8 k), V8 (B8 (k / 256)), V8 (B8 i), V8 (B8 (i / 256))]
    rw [V8_B8, V8_B8, V8_B8, V8_B8]; rfl) (by show 5 ≤ _; decide)
  have kc := convS (markT k i) hrd rfl
  have hb := below_alloc w (.cells #[.int .u8 35, .int .u8 (k % 256), .int .u8 (k / 256 % 256), .int .u8 (i % 256), .int .u8 (i / 256 % 256)] 5)
  have HB := Lib.hid hb
  obtain ⟨s, hs⟩ : ∃ s, s = SB (markT k i) := ⟨_, rfl⟩
  rw [← hs] at kc ⊢
  have kc : (convert 49 9 (.slice (some ⟨w.heap.size, 0, none⟩) 5 5)).run Tryz.prog (w.alloc (.cells #[.int .u8 35, .int .u8 (k % 256), .int .u8 (k / 256 % 256), .int .u8 (i % 256), .int .u8 (i / 256 % 256)] 5)) = .ok (.string s) (w.alloc (.cells #[.int .u8 35, .int .u8 (k % 256), .int .u8 (k / 256 % 256), .int .u8 (i % 256), .int .u8 (i / 256 % 256)] 5)) := kc
  clear hrd hb hs
  go_enter Tryz.func70, Tryz.ntmps70
  go_wp2_with fail
  go_ret
  exact ⟨rfl, HB.out⟩
end Go.Proofs.YthnabnieajojjaaGreatDoor
