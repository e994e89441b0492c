/-
  lineagelaw13.same: of two lists of the same payloads it says so.
-/
import Derived.Test.YtjoadcgegobjpaaSameB
namespace Go.Proofs.Ytjoadcgegobjpaa
open Go.RowKit

theorem same12_calls (va vb : Value) (as_ bs : List Value) (ps : List (List UInt8)) (w : World) (ha : Rd w va ps.length as_) (hb : Rd w vb ps.length bs) (hal : as_.length = ps.length) (hbl : bs.length = ps.length)
    (har : ∀ i, i < ps.length → Rd w (as_.getD i undef) (ps.getD i []).length ((ps.getD i []).map V8)) (hbr : ∀ i, i < ps.length → Rd w (bs.getD i undef) (ps.getD i []).length ((ps.getD i []).map V8)) :
    Calls Try.prog 16 #[va, vb] w fun e w' => e = .returned (.bool true) ∧ ∃ k, w' = w.drewN k := by
  have hlen := ha.len
  obtain ⟨a, cap, rfl, hc1, hc2, _, hc⟩ := ha
  obtain ⟨a', cap', rfl, hd1, hd2, _, hd⟩ := hb
  have Hc := Lib.hid hc
  have Hd := Lib.hid hd
  have Hr := Lib.hid har
  have Hs := Lib.hid hbr
  have Hal := Lib.hid hal
  have Hbl := Lib.hid hbl
  clear hc hd har hbr hal hbl
  go_enter Try.func16, Try.ntmps16
  go_wp2
  go_loopw [5] (fun i wr => ∃ k : Nat, k ≤ ps.length ∧ i = .int .i64 k ∧ ∃ m, wr = w.drewN m) (fun i _ => ps.length - (intOf i).toNat)
  case atStart => exact ⟨0, by omega, rfl, 0, rfl⟩
  case round =>
    obtain ⟨k, hk, rfl, m, rfl⟩ := hrel
    by_cases hlt : k < ps.length
    · obtain ⟨b, off, rfl, hcell'⟩ := Hc.out k (by rw [Hal.out]; exact hlt)
      obtain ⟨b', off', rfl, hdell'⟩ := Hd.out k (by rw [Hbl.out]; exact hlt)
      have hr := Hr.out k hlt
      have hs := Hs.out k hlt
      obtain ⟨p, hp⟩ : ∃ p, p = ps.getD k [] := ⟨_, rfl⟩
      obtain ⟨x, hx⟩ : ∃ x, x = as_.getD k undef := ⟨_, rfl⟩
      obtain ⟨y, hy⟩ : ∃ y, y = bs.getD k undef := ⟨_, rfl⟩
      rw [← hx] at hcell' hr
      rw [← hy] at hdell' hs
      rw [← hp] at hr hs
      obtain ⟨xa, xc, hxe⟩ : ∃ xa xc, x = .slice xa p.length xc := by obtain ⟨p, q, e, _⟩ := hr; exact ⟨p, q, e⟩
      obtain ⟨ya, yc, hye⟩ : ∃ xa xc, y = .slice xa p.length xc := by obtain ⟨p, q, e, _⟩ := hs; exact ⟨p, q, e⟩
      rw [hxe] at hcell' hr
      rw [hye] at hdell' hs
      obtain ⟨W, hW⟩ : ∃ W, W = w.drewN m := ⟨_, rfl⟩
      have hcW : W.cell? ⟨b, off + k, none⟩ = some (.slice xa p.length xc) := by rw [hW]; exact hcell'
      have hdW : W.cell? ⟨b', off' + k, none⟩ = some (.slice ya p.length yc) := by rw [hW]; exact hdell'
      rw [← hW]
      have hsm : ∀ j, Calls Try.prog 20 #[.slice xa p.length xc, .slice ya p.length yc] (W.drewN j) fun e w' => e = .returned (.bool true) ∧ ∃ k, w' = (W.drewN j).drewN k := fun j => by
        rw [hW]; exact sameBytes_calls _ _ p _ hr hs
      have Hsm := Lib.hid hsm
      have HW := Lib.hid hW
      have h1 : (0 : Int) ≤ (k : Int) := by omega
      have h2 : (k : Int) < (ps.length : Int) := by omega
      clear Hc Hd Hr Hs Hal Hbl hx hy hxe hye hr hs hsm hp hW hcell' hdell'
      go_wp2
      go_quiet ((go_at_call 20; exact Calls.quiet_of (Hsm.out _)))
      go_wp2
      go_roundw
      case rel => exact ⟨k + 1, by omega, by go_num, m + nq, by rw [HW.out, World.drewN_drewN]⟩
      case measure => simp [intOf]; omega
    · obtain rfl : k = ps.length := by omega
      clear Hc Hd Hr Hs Hal Hbl
      go_wp2
      go_ret
      exact ⟨rfl, m, rfl⟩
end Go.Proofs.Ytjoadcgegobjpaa
