/-
  The walks of package lineagekit over lists of bytes.
-/
import Derived.Test.YtacponljnphbnaaDoorMarkB
namespace Go.Proofs.YtacponljnphbnaaDoor
open Go.RowKit

/-- The marks behind a list. -/
def marksB : Nat → List Value
  | 0 => []
  | n + 1 => marksB n ++ [.int .u8 (markI 90 n)]
theorem marksB_length (n : Nat) : (marksB n).length = n := by induction n with | zero => rfl | succ n ih => simp [marksB, ih]

theorem marksB_get (n j : Nat) (h : j < n) : (marksB n).getD j undef = .int .u8 (markI 90 j) := by
  induction n with
  | zero => omega
  | succ n ih =>
    rw [marksB]
    by_cases hj : j < n
    · rw [List.getD, List.getElem?_append_left (by rw [marksB_length]; exact hj)]; exact ih hj
    · obtain rfl : j = n := by omega
      rw [List.getD, List.getElem?_append_right (by rw [marksB_length]; omega), marksB_length]; simp
set_option maxHeartbeats 400000 in
theorem fullB_calls (v : Value) (l : List UInt8) (w : World) (hv : Rd w v l.length (l.map V8)) (hn : l.length ≤ 140737488355000) :
    Calls Tryd.prog 36 #[v] w fun e w' => ∃ o, e = .returned o ∧ w'.ownsRow w.heap.size 5 1 o (l.length + 16) (l.map V8 ++ marksB 16) ∧ Below w.heap.size w w' := by
  obtain ⟨a, cap, rfl, hc1, hc2, _, hc⟩ := hv
  have Hc := Lib.hid hc
  clear hc
  go_enter Tryd.func36, Tryd.ntmps36
  go_wp2
  go_loopw [3, 4] (fun o i wr => ∃ k : Nat, k ≤ l.length ∧ i = .int .i64 k ∧ wr.ownsRow w.heap.size 5 1 o k ((l.map V8).take k) ∧ Below w.heap.size w wr) (fun _ i _ => l.length - (intOf i).toNat)
  case atStart => exact ⟨0, by omega, rfl, World.ownsRow_nil _ _ _ _, Below.refl _ _⟩
  case round =>
    obtain ⟨k, hk, rfl, hown, hb⟩ := hrel
    by_cases hlt : k < l.length
    · obtain ⟨b, off, rfl, hcell'⟩ := Hc.out k (by simpa using hlt)
      have hcell : wr.cell? ⟨b, off + k, none⟩ = some (.int .u8 (l[k].toNat : Int)) := below_heap hb (by rw [hcell']; simp [hlt, V8])
      clear hcell' Hc
      have hs := hb.size
      have htk := Lib.hid (show (l.map V8).take (k + 1) = (l.map V8).take k ++ [.int .u8 (l[k].toNat : Int)] from by rw [List.take_succ_eq_append_getElem (by simpa using hlt)]; simp [V8])
      go_wp2_with (at_builtin; refine appB rfl _ _ rfl w.heap.size _ _ _ rfl (hown.alloc _) ⟨wr.heap.size, 0, none⟩ 1 1 [.int .u8 (l[k].toNat : Int)] rfl rfl ?c1 ?c2 ?c3 ?c4 ?_)
      case c1 => exact cell_one_new _ _ _
      case c2 => simp [Value.oneCell']
      case c3 => omega
      case c4 => simp; omega
      intro v' w1 hown' hg' _
      have hb' := hb.trans ((below_alloc wr (.cells #[.int .u8 (l[k].toNat : Int)] 5)).mono hs)
      have hb1 := hb'.trans (below_grown hg' (by simp; omega) (fun q hq => (hown.lt q hq).1))
      clear hb' hg' hcell
      go_wp2
      go_roundw
      case rel => exact ⟨k + 1, by omega, by go_num, by rw [htk.out]; exact hown', hb1⟩
      case measure => simp [intOf]; omega
    · obtain rfl : k = l.length := by omega
      rw [List.take_of_length_le (by simp)] at hown
      clear Hc
      go_wp2
      obtain ⟨wo, rfl⟩ : ∃ wo : World, wo = wr := ⟨_, rfl⟩
      go_loopw [3, 5] (fun o i wr => ∃ k : Nat, k ≤ 16 ∧ i = .int .i64 k ∧ wr.ownsRow w.heap.size 5 1 o (l.length + k) (l.map V8 ++ marksB k) ∧ Below w.heap.size w wr) (fun _ i _ => 16 - (intOf i).toNat)
      case atStart => exact ⟨0, by omega, rfl, by simpa [marksB] using hown, hb⟩
      case round =>
        clear hown hb
        obtain ⟨k, hk, rfl, hown, hb⟩ := hrel
        have hs := hb.size
        by_cases hlt : k < 16
        · go_wp2_with fail
          refine (mark_calls 90 k _ (by omega) (by omega) (by omega) (by omega)).mono ?_
          rintro e w' ⟨rfl, rfl⟩
          go_wp2_with (at_builtin; refine appB rfl _ _ rfl w.heap.size _ _ _ rfl (hown.alloc _) ⟨wr.heap.size, 0, none⟩ 1 1 [.int .u8 (markI 90 k)] rfl rfl ?c1 ?c2 ?c3 ?c4 ?_)
          case c1 => exact cell_one_new _ _ _
          case c2 => simp [Value.oneCell']
          case c3 => omega
          case c4 => simp; omega
          intro v' w1 hown' hg' _
          have hb' := hb.trans ((below_alloc wr (.cells #[.int .u8 (markI 90 k)] 5)).mono hs)
          have hb1 := hb'.trans (below_grown hg' (by simp; omega) (fun q hq => (hown.lt q hq).1))
          clear hb' hg'
          go_wp2
          go_roundw
          case rel => exact ⟨k + 1, by omega, by go_num, by simpa [marksB, Nat.add_assoc] using hown', hb1⟩
          case measure => simp [intOf]; omega
        · obtain rfl : k = 16 := by omega
          go_wp2
          go_ret
          exact ⟨_, rfl, hown, hb⟩

/-- A list that was lent: it reads as the list, and behind it, in the same row, stand the marks. -/
def LentB (w : World) (base : Nat) (v : Value) (l : List UInt8) : Prop :=
  ∃ g cap, v = .slice (some ⟨g, 0, none⟩) l.length cap ∧ w.ownsRow base 5 1 (.slice (some ⟨g, 0, none⟩) (l.length + 16) cap) (l.length + 16) (l.map V8 ++ marksB 16)
theorem LentB.below {w w' : World} {base : Nat} {v : Value} {l : List UInt8} (h : LentB w base v l) (hb : Below w.heap.size w w') : LentB w' base v l := by
  obtain ⟨g, cap, rfl, h⟩ := h; exact ⟨g, cap, rfl, own_below h hb⟩
theorem LentB.full {w : World} {base : Nat} {v : Value} {l : List UInt8} (h : LentB w base v l) : ∃ g cap, v = .slice (some ⟨g, 0, none⟩) l.length cap ∧ l.length + 16 ≤ cap ∧ Rd w (.slice (some ⟨g, 0, none⟩) (l.length + 16) cap) (l.length + 16) (l.map V8 ++ marksB 16) := by
  obtain ⟨g, cap, rfl, h⟩ := h
  have hr := rd_of_own h
  have hr' := hr
  obtain ⟨_, _, e, h1, _⟩ := hr
  injection e with _ _ e; subst e
  exact ⟨g, cap, rfl, h1, hr'⟩
theorem LentB.rd {w : World} {base : Nat} {v : Value} {l : List UInt8} (h : LentB w base v l) : Rd w v l.length (l.map V8) := by
  obtain ⟨g, cap, rfl, h1, h2⟩ := h.full
  have := h2.cut (m := l.length) (by omega) l.length
  simpa [List.take_append_of_le_length] using this
theorem lentB_calls (v : Value) (l : List UInt8) (w : World) (hv : Rd w v l.length (l.map V8)) (hn : l.length ≤ 140737488355000) :
    Calls Tryd.prog 13 #[v] w fun e w' => ∃ o, e = .returned o ∧ LentB w' w.heap.size o l ∧ Below w.heap.size w w' := by
  have hv' := hv
  obtain ⟨a, cap, rfl, hc1, hc2, _, hc⟩ := hv
  clear hc
  go_enter Tryd.func13, Tryd.ntmps13
  go_wp2_with fail
  refine (fullB_calls _ l _ hv' hn).mono ?_
  rintro e w' ⟨o, rfl, hown, hb⟩
  rcases hown.2 with ⟨rfl, h0⟩ | ⟨g, cap', cur, rfl, hbg, hg, hn', hm, hs, ht⟩
  · omega
  · clear hg hs ht hv'
    unfold maxLen at hm
    go_wp2
    go_ret
    exact ⟨_, rfl, ⟨g, cap', rfl, hown⟩, hb⟩

set_option maxHeartbeats 400000 in
theorem keptFullB_calls (v v' : Value) (l : List UInt8) (w : World) (hv : Rd w v (l.length + 16) (l.map V8 ++ marksB 16)) (hv' : Rd w v' l.length (l.map V8)) (hn : l.length ≤ 140737488355000) :
    Calls Tryd.prog 42 #[v, v'] w fun e w' => e = .returned (.bool true) ∧ w = w' := by
  obtain ⟨a, cap, rfl, hc1, hc2, _, hc⟩ := hv
  obtain ⟨a', cap', rfl, hd1, hd2, _, hd⟩ := hv'
  have Hc := Lib.hid hc
  have Hd := Lib.hid hd
  clear hc hd
  go_enter Tryd.func42, Tryd.ntmps42
  go_wp2
  go_loop [5] (fun i => ∃ k : Nat, k ≤ l.length + 16 ∧ i = .int .i64 k) (fun i => l.length + 16 - (intOf i).toNat)
  case atStart => exact ⟨0, by omega, rfl⟩
  case round =>
    obtain ⟨k, hk, rfl⟩ := hrel
    by_cases hlt : k < l.length + 16
    · obtain ⟨b, off, rfl, hcell'⟩ := Hc.out k (by simp [marksB_length]; omega)
      by_cases hl : k < l.length
      · obtain ⟨b', off', rfl, hdell'⟩ := Hd.out k (by simpa using hl)
        have hcell : w.cell? ⟨b, off + k, none⟩ = some (.int .u8 (l[k].toNat : Int)) := by rw [hcell']; simp [hl, V8, List.getElem?_append_left]
        have hdell : w.cell? ⟨b', off' + k, none⟩ = some (.int .u8 (l[k].toNat : Int)) := by rw [hdell']; simp [hl, V8]
        clear hcell' hdell' Hc Hd
        go_wp2_with fail
        refine (mark_calls 90 _ _ (by omega) (by omega) (by omega) (by omega)).mono ?_
        rintro e w' ⟨rfl, rfl⟩
        go_wp2
        go_round
        case rel => exact ⟨k + 1, by omega, by go_num⟩
        case measure => simp [intOf]; omega
      · have hcell : w.cell? ⟨b, off + k, none⟩ = some (.int .u8 (markI 90 ((k : Int) - (l.length : Int)))) := by
          rw [hcell', List.getD, List.getElem?_append_right (by simp; omega)]
          have h := marksB_get 16 (k - l.length) (by omega)
          rw [List.getD] at h
          rw [List.length_map, h, show ((k - l.length : Nat) : Int) = (k : Int) - (l.length : Int) from by omega]
        clear hcell' Hc Hd
        go_wp2_with fail
        refine (mark_calls 90 _ _ (by omega) (by omega) (by omega) (by omega)).mono ?_
        rintro e w' ⟨rfl, rfl⟩
        go_wp2
        go_round
        case rel => exact ⟨k + 1, by omega, by go_num⟩
        case measure => simp [intOf]; omega
    · obtain rfl : k = l.length + 16 := by omega
      clear Hc Hd
      go_wp2
      go_ret
      exact ⟨rfl, rfl⟩
theorem keptB_calls (v v' : Value) (base : Nat) (l : List UInt8) (w : World) (hv : LentB w base v l) (hv' : Rd w v' l.length (l.map V8)) (hn : l.length ≤ 140737488355000) :
    Calls Tryd.prog 15 #[v, v'] w fun e w' => e = .returned (.bool true) ∧ w = w' := by
  obtain ⟨g, cap, rfl, hc, hr⟩ := hv.full
  have hr' := hv'
  obtain ⟨a', cap', rfl, hd1, hd2, _, hd⟩ := hv'
  clear hd hv
  go_enter Tryd.func15, Tryd.ntmps15
  go_wp2_with fail
  refine (keptFullB_calls _ _ l _ hr hr' hn).mono ?_
  rintro e w' ⟨rfl, rfl⟩
  go_wp2
  go_ret
  exact ⟨rfl, rfl⟩

/-- The marks as bytes. -/
def marksL : Nat → List UInt8
  | 0 => []
  | n + 1 => marksL n ++ [B8 (37 * (90 + 1) + (n : Int))]
theorem marksB_V8 (n : Nat) : marksB n = (marksL n).map V8 := by
  induction n with
  | zero => rfl
  | succ n ih => rw [marksB, marksL, List.map_append, ih]; simp only [List.map_cons, List.map_nil, V8_B8]; rfl
theorem marksL_length (n : Nat) : (marksL n).length = n := by induction n with | zero => rfl | succ n ih => simp [marksL, ih]
end Go.Proofs.YtacponljnphbnaaDoor
