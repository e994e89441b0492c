/-
  The document's After: CopyRaws, (*lineageref09.Disk).After.
-/
import Derived.Test.YtmlckfdjiljjhaaDoorRefDisk
import Derived.Test.YtmlckfdjiljjhaaDoorDiskA
import Derived.Deep.RegionHeld3
namespace Go.Proofs.YtmlckfdjiljjhaaDoor
open Go.RowKit
set_option maxRecDepth 100000

theorem copyRaws_calls (v : Value) (l : List (Int × ByteArray)) (w : World) (hv : Rd w v l.length (flatRaws l)) (hl : l.length ≤ 100000000000) :
    Calls Tryd.prog 40 #[v] w fun e w' => ∃ oa oc, e = .returned (.slice oa l.length oc) ∧ w'.ownsRow w.heap.size 53 2 (.slice oa l.length oc) l.length (flatRaws l) ∧ Below w.heap.size w w' := by
  obtain ⟨a, cap, rfl, hc1, hc2, _, hc⟩ := hv
  have Hc := Lib.hid hc
  clear hc
  go_enter Tryd.func40, Tryd.ntmps40
  go_wp2
  go_loopw [3, 4] (fun o i wr => ∃ k : Nat, k ≤ l.length ∧ i = .int .i64 k ∧ wr.ownsRow w.heap.size 53 2 o k (flatRaws (l.take k)) ∧ Below w.heap.size w wr) (fun _ i _ => l.length - (intOf i).toNat)
  case atStart => exact ⟨0, by omega, rfl, World.ownsRow_nil _ _ _ _, Below.refl _ _⟩
  case round =>
    obtain ⟨k, hk, rfl, hown, hb⟩ := hrel
    obtain ⟨oa, oc, rfl, _⟩ := own_form hown
    have hs := hb.size
    by_cases hlt : k < l.length
    · obtain ⟨bi, sx, q0, q1, q2, q3⟩ := raw_at l k hlt
      obtain ⟨b, off, rfl, x1⟩ := Hc.out (k * 2) (by rw [flatRaws_length]; omega)
      obtain ⟨b2, off2, e2, x2⟩ := Hc.out (k * 2 + 1) (by rw [flatRaws_length]; omega)
      injection e2 with e2; injection e2 with e3 e4
      subst e3; subst e4
      rw [List.getD, q1] at x1
      rw [List.getD, q2, ← Nat.add_assoc] at x2
      have c1 : wr.cell? ⟨b, off + k * 2, none⟩ = some (.int .i64 bi) := below_heap hb x1
      have c2 : wr.cell? ⟨b, off + k * 2 + 1, none⟩ = some (.string sx) := below_heap hb x2
      have HOwn := Lib.hid (fun ob => own_below hown (below_alloc wr ob))
      have HsA := Lib.hid (fun ob => Nat.le_trans hs (below_alloc wr ob).size)
      have HB := Lib.hid hb
      have Q0 := Lib.hid q0
      clear x1 x2 q0 q1 q2 q3 hown hb hs Hc
      go_wp2_with (at_builtin; refine appR rfl _ _ rfl w.heap.size _ k _ rfl (HOwn.out _) _ 1 [.int .i64 bi, .string sx] rfl (rd_one' _ _ _ _ (by simp)) rfl (oneC_raw _ _) (by omega) (HsA.out _) ?_)
      intro v' w1 hown' hg' _
      have hb1 := (HB.out.trans ((below_alloc wr _).mono HB.out.size)).trans (below_grown hg' (HsA.out _) (fun q hq => ((HOwn.out (.cells #[] 53)).lt q hq).1))
      have hown1 : w1.ownsRow w.heap.size 53 2 v' (k + 1) (flatRaws (l.take (k + 1))) := by
        rw [Q0.out, flatRaws_append]; exact hown'
      have HN := Lib.hid (And.intro hown1 hb1)
      clear hb1 hown1 hown' hg' c1 c2 HOwn HsA HB
      go_wp2
      go_roundw
      case rel => exact ⟨k + 1, by omega, by go_num, HN.out⟩
      case measure => simp [intOf]; omega
    · obtain rfl : k = l.length := by omega
      rw [List.take_of_length_le (by simp)] at hown
      clear Hc
      go_wp2
      go_ret
      exact ⟨oa, oc, rfl, hown, hb⟩
/-- The disk behind its first n raw writes. -/
def DiskM.after (d : DiskM) (n : Nat) : DiskM := { strs := playRaws (List.replicate d.strs.length ByteArray.empty) (d.trail.take n), trail := d.trail.take n, left := none }
theorem DiskM.after_len (d : DiskM) (n : Nat) : (d.after n).strs.length = d.strs.length := by
  unfold DiskM.after; simp [playRaws_len]
theorem DiskM.Wf.after {d : DiskM} (h : d.Wf) (n : Nat) : (d.after n).Wf := by
  refine ⟨fun r hr => ?_, fun r hr => h.short r (List.mem_of_mem_take hr), ?_⟩
  · rw [d.after_len n]; exact h.inr r (List.mem_of_mem_take hr)
  · rw [d.after_len n]; rfl
theorem refAfter_no (d : DiskM) (rp : Nat) (G : Nat → Prop) (n : Int) (w : World) (h : IsRef w d rp G) (hi : ¬ (0 ≤ n ∧ n ≤ d.trail.length)) :
    Calls Tryd.prog 12 #[.pointer (some ⟨rp, 0, none⟩), .int .i64 n] w fun e w' => e = .returned (.tuple #[.pointer none, .int .i64 1]) ∧ w = w' := by
  obtain ⟨tv, h1, h2, h3, hlb, rfl⟩ := h
  obtain ⟨ta, tc, rfl, _, _⟩ := own_form h2
  have c1 := h1.cell 1 _ rfl
  clear h1 h2 h3 hlb
  by_cases h0 : n < 0
  · go_enter Tryd.func12, Tryd.ntmps12
    go_wp2
    go_ret2
    exact ⟨rfl, rfl⟩
  · have h9 : (d.trail.length : Int) < n := by omega
    clear hi
    go_enter Tryd.func12, Tryd.ntmps12
    go_wp2
    go_ret2
    exact ⟨rfl, rfl⟩
theorem rd_take {w : World} {ta : Option Addr} {tc n : Nat} {l : List (Int × ByteArray)} (hrd : Rd w (.slice ta l.length tc) l.length (flatRaws l)) (hn : n ≤ l.length) (htc : l.length ≤ tc) : Rd w (.slice ta n tc) n (flatRaws (l.take n)) := by
  have := hrd.cut (m := n) (by omega) (n * 2)
  have e : (flatRaws l).take (n * 2) = flatRaws (l.take n) := by
    conv => lhs; rw [← List.take_append_drop n l, flatRaws_append]
    rw [List.take_append_of_le_length (by rw [flatRaws_length, List.length_take]; omega), List.take_of_length_le (by rw [flatRaws_length, List.length_take]; omega)]
  rw [e] at this; exact this
set_option maxHeartbeats 800000 in
theorem refAfter_yes (d : DiskM) (rp : Nat) (G : Nat → Prop) (n : Nat) (w : World) (h : IsRef w d rp G) (hn : n ≤ d.trail.length) (ht : d.trail.length ≤ 100000000000) :
    Calls Tryd.prog 12 #[.pointer (some ⟨rp, 0, none⟩), .int .i64 (n : Int)] w fun e w' => ∃ rp' G', e = .returned (.tuple #[.pointer (some ⟨rp', 0, none⟩), .int .i64 0]) ∧ IsRef w' (d.after n) rp' G' ∧ Below w.heap.size w w' ∧ ∀ k, G' k → w.heap.size ≤ k := by
  obtain ⟨tv, h1, h2, h3, hlb, rfl⟩ := h
  have hrd := rd_of_own h2
  obtain ⟨ta, tc, rfl, htc, _⟩ := own_form h2
  have c0 := h1.cell 0 _ rfl
  have c1 := h1.cell 1 _ rfl
  have hp := h1.lt
  have hhd := fun w => run_head (P := Tryd.prog) Tryd.underlying57 ⟨2, by kernel_rfl⟩ ta d.trail.length tc n (by omega) w
  have hlen : (d.trail.take n).length = n := by rw [List.length_take]; omega
  have hrd2 := rd_take hrd hn htc
  have Hcp := Lib.hid (fun w2 (hb : Below w.heap.size w w2) => by
    have := copyRaws_calls (.slice ta n tc) (d.trail.take n) w2 (by rw [hlen]; exact hrd2.below hb) (by omega)
    rw [hlen] at this
    exact this)
  have Hd := Lib.hid (show (d.after n).strs.length = d.strs.length ∧ (d.after n).trail = d.trail.take n ∧ (d.after n).left = none ∧ (d.trail.take n).length = n from ⟨d.after_len n, rfl, rfl, hlen⟩)
  have hn0 : (n : Int) ≤ (tc : Int) := by omega
  have hn1 : (0 : Int) ≤ (n : Int) := by omega
  have hn2 : (n : Int) ≤ (d.trail.length : Int) := by omega
  have hn3 : decide ((d.trail.length : Int) < (n : Int)) = false := by simp; omega
  clear h1 h2 h3 hlb hrd hrd2 hlen
  go_enter Tryd.func12, Tryd.ntmps12
  go_wp2_with fail
  go_region_held3 (fun w' => w'.cell? ⟨rp, 0, none⟩ = some (.int .i64 (d.strs.length : Int)) ∧ w'.cell? ⟨rp, 1, none⟩ = some (.slice ta d.trail.length tc)) (first | go_keep | exact ⟨c0, c1⟩ | (go_split_ands; refine ⟨?_, ?_⟩ <;> (apply below_heap hbc; (first | assumption | (simp [go_sem, World.cell?_alloc_past, hp]; assumption))))) (first | (go_at_call 40; refine (Hcp.out _ (by go_grown)).mono ?_; rintro e w' ⟨oa, oc, rfl, hown, hbc⟩))
  have HX := Lib.hid (own_base (own_below hown (below_alloc w' (.cells #[.int .i64 (d.strs.length : Int), .slice oa n oc, .int .i64 (-1)] 59))) (Nat.zero_le _))
  have HL := Lib.hid (fun k hk => (hown.lt k hk))
  have HB := Lib.hid (below_trans (below_trans (below_drew w) hbc) (below_alloc w' (.cells #[.int .i64 (d.strs.length : Int), .slice oa n oc, .int .i64 (-1)] 59)))
  have Hsz := Lib.hid (show w.heap.size ≤ w'.heap.size from hbc.size)
  clear hown hbc
  go_wp2_with fail
  go_ret2
  have hd := Hd.out
  refine ⟨w'.heap.size, _, rfl, ⟨.slice oa n oc, ?_, ?_, fun k hk e => ?_, fun m hm => ?_, rfl⟩, HB.out, ?_⟩
  · rw [hd.1, hd.2.2.1]; exact Box.new _ _ _
  · rw [hd.2.1, hd.2.2.2]; exact HX.out
  · have := (HL.out k hk).2; omega
  · rw [hd.2.2.1] at hm; cases hm
  · rintro k (rfl | hk)
    · exact Hsz.out
    · exact (HL.out k hk).1
end Go.Proofs.YtmlckfdjiljjhaaDoor
