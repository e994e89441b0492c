/-
  The document's bytes of a number, of a text.
-/
import Derived.Test.YtdaimaibnjkfbaaDoorSev
namespace Go.Proofs.YtdaimaibnjkfbaaDoor
open Go.RowKit
set_option maxRecDepth 100000

def numB (n : Int) : List UInt8 := sevM n.toNat
def textB (l : List UInt8) : List UInt8 := sevM l.length ++ l
theorem wrap_u64n (n : Nat) (h : n ≤ 9223372036854775807) : IntKind.u64.wrap (n : Int) = (n : Int) := by
  simp [IntKind.wrap, IntKind.bits, IntKind.signed]; omega
theorem mod_u64n (n : Nat) (h : n ≤ 9223372036854775807) : (n : Int) % 18446744073709551616 = (n : Int) := by omega
theorem refText_calls (l : List UInt8) (w : World) (hn : l.length ≤ 140737488355000) :
    Calls Tryd.prog 58 #[.string (SB l)] w fun e w' => ∃ o, e = .returned o ∧ OwnM w' w.heap.size 5 o (textB l).length ((textB l).map V8) ∧ Below w.heap.size w w' := by
  have Hc := Lib.hid (refSevens_calls l.length w (by omega))
  have z1 := mod_u64n l.length (by omega)
  have hsz : (SB l).size = l.length := SB_size l
  go_enter Tryd.func58, Tryd.ntmps58
  go_wp2_with fail
  refine Hc.out.mono ?_
  rintro e w1 ⟨o, rfl, ho, hb⟩
  have hlen := sevM_len l.length
  have hs := hb.size
  have HL := Lib.hid (show (sevM l.length).length + l.length ≤ 140737488355328 by omega)
  go_wp2_with (at_builtin; refine appMS rfl _ _ rfl w.heap.size _ _ _ rfl ho l rfl (by have := HL.out; omega) (by omega) ?_)
  intro v' w2 hown' hg' _
  have hb2 := hb.trans (below_grown hg' hs (fun q hq => (ho.lt q hq).1))
  have HO := Lib.hid hown'
  have HB := Lib.hid hb2
  clear ho hb hown' hb2 hg'
  go_wp2_with fail
  go_ret
  exact ⟨_, rfl, by unfold textB; rw [List.length_append, List.map_append]; exact HO.out, HB.out⟩
end Go.Proofs.YtdaimaibnjkfbaaDoor
