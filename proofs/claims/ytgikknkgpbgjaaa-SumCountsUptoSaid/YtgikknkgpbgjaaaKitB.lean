/-
  The walks of package lineagekit over lists of bytes.
-/
import Derived.Test.YtgikknkgpbgjaaaBase
namespace Go.Proofs.Ytgikknkgpbgjaaa
open Go.RowKit

theorem info_u8 : (Try.prog.info? 5).map (fun i => (i.zero, i.size, i.bytes)) = some (some (.int .u8 0), 1, 1) := by kernel_rfl
/-- 'append(s, x..)' onto bytes that the call owns. -/
theorem appB {w : World} {ops : Array Oper} {rest : List Oper} {o : Oper} {a : Act} {Q : Exit → Act → World → Prop} (hgd : o.guard = none) (s x : Operand)
    (ho : o.op = .call { callee := .builtin .append, args := #[s, x], argTypes := #[31, 31] })
    (base : Nat) (v : Value) (n : Nat) (xs : List Value) (hs : a.eval s = v) (hown : w.ownsRow base 5 1 v n xs)
    (ad : Addr) (m c : Nat) (news : List Value) (hx : a.eval x = .slice (some ad) m c) (hl : news.length = m) (hnews : ∀ j u, news[j]? = some u → w.cell? (ad.add j) = some u) (h1 : ∀ u ∈ news, u.oneCell' = true)
    (hroom : n + m ≤ 140737488355328) (hbase : base ≤ w.heap.size)
    (h : ∀ v' w', w'.ownsRow base 5 1 v' (n + m) (xs ++ news) → w.grownBy w' v.ownBlock → Moved w v v' → wpList Try.prog ops Q rest (a.put o.dst v') w') : wpList Try.prog ops Q (o :: rest) a w := by
  obtain ⟨i0, hi, hz0, hz1, hz2⟩ := info_parts info_u8
  exact wpList_append_own2 hgd s x 31 ho base 5 i0 (.int .u8 0) 1 1 Try.underlying31 hi hz0 hz1 hz2 rfl (by decide) v n xs hs hown ad m c news hx (by omega) hnews h1 (by unfold maxLen; omega) (by omega) hbase h

theorem tailB (a : Option Addr) (n cap k : Nat) (hk : k ≤ n) (w : World) : (Instr.slice 31 (.slice a n cap) (some (.int .i64 (k : Int))) none none).run Try.prog w = .ok (tailV a n cap k) w :=
  run_tail Try.underlying31 (by kernel_rfl) a n cap k hk w
theorem headB (a : Option Addr) (n cap k : Nat) (hk : k ≤ cap) (w : World) : (Instr.slice 31 (.slice a n cap) none (some (.int .i64 (k : Int))) none).run Try.prog w = .ok (.slice a k cap) w :=
  run_head Try.underlying31 ⟨1, by kernel_rfl⟩ a n cap k hk w
/-- 'append(s, x...)' of whatever source, onto bytes that the call owns. -/
theorem appSB {w : World} {ops : Array Oper} {rest : List Oper} {o : Oper} {a : Act} {Q : Exit → Act → World → Prop} (hgd : o.guard = none) (s x : Operand)
    (ho : o.op = .call { callee := .builtin .append, args := #[s, x], argTypes := #[31, 31] })
    (base : Nat) (v : Value) (n : Nat) (xs : List Value) (hs : a.eval s = v) (hown : w.ownsRow base 5 1 v n xs)
    (src : Value) (l : List UInt8) (hx : a.eval x = src) (hsrc : Rd w src l.length (l.map V8))
    (hroom : n + l.length ≤ 140737488355328) (hbase : base ≤ w.heap.size)
    (h : ∀ v' w', w'.ownsRow base 5 1 v' (n + l.length) (xs ++ l.map V8) → w.grownBy w' v.ownBlock → Moved w v v' → wpList Try.prog ops Q rest (a.put o.dst v') w') : wpList Try.prog ops Q (o :: rest) a w := by
  obtain ⟨i0, hi, hz0, hz1, hz2⟩ := info_parts info_u8
  exact wpList_append_src hgd s x 31 ho base 5 i0 (.int .u8 0) 1 1 Try.underlying31 hi hz0 hz1 hz2 rfl (by decide) v n xs hs hown src l.length (l.map V8) hx hsrc (by simp) (by
    intro u hu
    obtain ⟨c, _, rfl⟩ := List.mem_map.1 hu
    simp [V8, Value.oneCell']) (by unfold maxLen; omega) (by omega) hbase h
/-- The mark's number. -/
def markI (k i : Int) : Int := (37 * (k + 1) + i) % 256
theorem mark_calls (k i : Int) (w : World) (h0 : 0 ≤ k) (h1 : k ≤ 1000000000) (h2 : -1000000000000000000 ≤ i) (h3 : i ≤ 1000000000000000000) :
    Calls Try.prog 22 #[.int .i64 k, .int .i64 i] w fun e w' => e = .returned (.int .u8 (markI k i)) ∧ w = w' := by
  go_enter Try.func22, Try.ntmps22
  go_wp2
  go_ret
  exact ⟨rfl, rfl⟩
/-- The marks behind a list. -/
def marksB : Nat → List Value
  | 0 => []
  | n + 1 => marksB n ++ [.int .u8 (markI 90 n)]
theorem marksB_length (n : Nat) : (marksB n).length = n := by induction n with | zero => rfl | succ n ih => simp [marksB, ih]

theorem marksB_get (n j : Nat) (h : j < n) : (marksB n).getD j undef = .int .u8 (markI 90 j) := by
  induction n with
  | zero => omega
  | succ n ih =>
    rw [marksB]
    by_cases hj : j < n
    · rw [List.getD, List.getElem?_append_left (by rw [marksB_length]; exact hj)]; exact ih hj
    · obtain rfl : j = n := by omega
      rw [List.getD, List.getElem?_append_right (by rw [marksB_length]; omega), marksB_length]; simp
set_option maxHeartbeats 400000 in
theorem fullB_calls (v : Value) (l : List UInt8) (w : World) (hv : Rd w v l.length (l.map V8)) (hn : l.length ≤ 140737488355000) :
    Calls Try.prog 19 #[v] w fun e w' => ∃ o, e = .returned o ∧ w'.ownsRow w.heap.size 5 1 o (l.length + 16) (l.map V8 ++ marksB 16) ∧ Below w.heap.size w w' := by
  obtain ⟨a, cap, rfl, hc1, hc2, _, hc⟩ := hv
  have Hc := Lib.hid hc
  clear hc
  go_enter Try.func19, Try.ntmps19
  go_wp2
  go_loopw [3, 4] (fun o i wr => ∃ k : Nat, k ≤ l.length ∧ i = .int .i64 k ∧ wr.ownsRow w.heap.size 5 1 o k ((l.map V8).take k) ∧ Below w.heap.size w wr) (fun _ i _ => l.length - (intOf i).toNat)
  case atStart => exact ⟨0, by omega, rfl, World.ownsRow_nil _ _ _ _, Below.refl _ _⟩
  case round =>
    obtain ⟨k, hk, rfl, hown, hb⟩ := hrel
    by_cases hlt : k < l.length
    · obtain ⟨b, off, rfl, hcell'⟩ := Hc.out k (by simpa using hlt)
      have hcell : wr.cell? ⟨b, off + k, none⟩ = some (.int .u8 (l[k].toNat : Int)) := below_heap hb (by rw [hcell']; simp [hlt, V8])
      clear hcell' Hc
      have hs := hb.size
      have htk := Lib.hid (show (l.map V8).take (k + 1) = (l.map V8).take k ++ [.int .u8 (l[k].toNat : Int)] from by rw [List.take_succ_eq_append_getElem (by simpa using hlt)]; simp [V8])
      go_wp2_with (at_builtin; refine appB rfl _ _ rfl w.heap.size _ _ _ rfl (hown.alloc _) ⟨wr.heap.size, 0, none⟩ 1 1 [.int .u8 (l[k].toNat : Int)] rfl rfl ?c1 ?c2 ?c3 ?c4 ?_)
      case c1 => exact cell_one_new _ _ _
      case c2 => simp [Value.oneCell']
      case c3 => omega
      case c4 => simp; omega
      intro v' w1 hown' hg' _
      have hb' := hb.trans ((below_alloc wr (.cells #[.int .u8 (l[k].toNat : Int)] 5)).mono hs)
      have hb1 := hb'.trans (below_grown hg' (by simp; omega) (fun q hq => (hown.lt q hq).1))
      clear hb' hg' hcell
      go_wp2
      go_roundw
      case rel => exact ⟨k + 1, by omega, by go_num, by rw [htk.out]; exact hown', hb1⟩
      case measure => simp [intOf]; omega
    · obtain rfl : k = l.length := by omega
      rw [List.take_of_length_le (by simp)] at hown
      clear Hc
      go_wp2
      obtain ⟨wo, rfl⟩ : ∃ wo : World, wo = wr := ⟨_, rfl⟩
      go_loopw [3, 5] (fun o i wr => ∃ k : Nat, k ≤ 16 ∧ i = .int .i64 k ∧ wr.ownsRow w.heap.size 5 1 o (l.length + k) (l.map V8 ++ marksB k) ∧ Below w.heap.size w wr) (fun _ i _ => 16 - (intOf i).toNat)
      case atStart => exact ⟨0, by omega, rfl, by simpa [marksB] using hown, hb⟩
      case round =>
        clear hown hb
        obtain ⟨k, hk, rfl, hown, hb⟩ := hrel
        have hs := hb.size
        by_cases hlt : k < 16
        · go_wp2_with fail
          refine (mark_calls 90 k _ (by omega) (by omega) (by omega) (by omega)).mono ?_
          rintro e w' ⟨rfl, rfl⟩
          go_wp2_with (at_builtin; refine appB rfl _ _ rfl w.heap.size _ _ _ rfl (hown.alloc _) ⟨wr.heap.size, 0, none⟩ 1 1 [.int .u8 (markI 90 k)] rfl rfl ?c1 ?c2 ?c3 ?c4 ?_)
          case c1 => exact cell_one_new _ _ _
          case c2 => simp [Value.oneCell']
          case c3 => omega
          case c4 => simp; omega
          intro v' w1 hown' hg' _
          have hb' := hb.trans ((below_alloc wr (.cells #[.int .u8 (markI 90 k)] 5)).mono hs)
          have hb1 := hb'.trans (below_grown hg' (by simp; omega) (fun q hq => (hown.lt q hq).1))
          clear hb' hg'
          go_wp2
          go_roundw
          case rel => exact ⟨k + 1, by omega, by go_num, by simpa [marksB, Nat.add_assoc] using hown', hb1⟩
          case measure => simp [intOf]; omega
        · obtain rfl : k = 16 := by omega
          go_wp2
          go_ret
          exact ⟨_, rfl, hown, hb⟩

/-- A list that was lent: it reads as the list, and behind it, in the same row, stand the marks. -/
def LentB (w : World) (base : Nat) (v : Value) (l : List UInt8) : Prop :=
  ∃ g cap, v = .slice (some ⟨g, 0, none⟩) l.length cap ∧ w.ownsRow base 5 1 (.slice (some ⟨g, 0, none⟩) (l.length + 16) cap) (l.length + 16) (l.map V8 ++ marksB 16)
theorem LentB.below {w w' : World} {base : Nat} {v : Value} {l : List UInt8} (h : LentB w base v l) (hb : Below w.heap.size w w') : LentB w' base v l := by
  obtain ⟨g, cap, rfl, h⟩ := h; exact ⟨g, cap, rfl, own_below h hb⟩
theorem LentB.full {w : World} {base : Nat} {v : Value} {l : List UInt8} (h : LentB w base v l) : ∃ g cap, v = .slice (some ⟨g, 0, none⟩) l.length cap ∧ l.length + 16 ≤ cap ∧ Rd w (.slice (some ⟨g, 0, none⟩) (l.length + 16) cap) (l.length + 16) (l.map V8 ++ marksB 16) := by
  obtain ⟨g, cap, rfl, h⟩ := h
  have hr := rd_of_own h
  have hr' := hr
  obtain ⟨_, _, e, h1, _⟩ := hr
  injection e with _ _ e; subst e
  exact ⟨g, cap, rfl, h1, hr'⟩
theorem LentB.rd {w : World} {base : Nat} {v : Value} {l : List UInt8} (h : LentB w base v l) : Rd w v l.length (l.map V8) := by
  obtain ⟨g, cap, rfl, h1, h2⟩ := h.full
  have := h2.cut (m := l.length) (by omega) l.length
  simpa [List.take_append_of_le_length] using this
theorem lentB_calls (v : Value) (l : List UInt8) (w : World) (hv : Rd w v l.length (l.map V8)) (hn : l.length ≤ 140737488355000) :
    Calls Try.prog 11 #[v] w fun e w' => ∃ o, e = .returned o ∧ LentB w' w.heap.size o l ∧ Below w.heap.size w w' := by
  have hv' := hv
  obtain ⟨a, cap, rfl, hc1, hc2, _, hc⟩ := hv
  clear hc
  go_enter Try.func11, Try.ntmps11
  go_wp2_with fail
  refine (fullB_calls _ l _ hv' hn).mono ?_
  rintro e w' ⟨o, rfl, hown, hb⟩
  rcases hown.2 with ⟨rfl, h0⟩ | ⟨g, cap', cur, rfl, hbg, hg, hn', hm, hs, ht⟩
  · omega
  · clear hg hs ht hv'
    unfold maxLen at hm
    go_wp2
    go_ret
    exact ⟨_, rfl, ⟨g, cap', rfl, hown⟩, hb⟩

set_option maxHeartbeats 400000 in
theorem keptFullB_calls (v v' : Value) (l : List UInt8) (w : World) (hv : Rd w v (l.length + 16) (l.map V8 ++ marksB 16)) (hv' : Rd w v' l.length (l.map V8)) (hn : l.length ≤ 140737488355000) :
    Calls Try.prog 20 #[v, v'] w fun e w' => e = .returned (.bool true) ∧ w = w' := by
  obtain ⟨a, cap, rfl, hc1, hc2, _, hc⟩ := hv
  obtain ⟨a', cap', rfl, hd1, hd2, _, hd⟩ := hv'
  have Hc := Lib.hid hc
  have Hd := Lib.hid hd
  clear hc hd
  go_enter Try.func20, Try.ntmps20
  go_wp2
  go_loop [5] (fun i => ∃ k : Nat, k ≤ l.length + 16 ∧ i = .int .i64 k) (fun i => l.length + 16 - (intOf i).toNat)
  case atStart => exact ⟨0, by omega, rfl⟩
  case round =>
    obtain ⟨k, hk, rfl⟩ := hrel
    by_cases hlt : k < l.length + 16
    · obtain ⟨b, off, rfl, hcell'⟩ := Hc.out k (by simp [marksB_length]; omega)
      by_cases hl : k < l.length
      · obtain ⟨b', off', rfl, hdell'⟩ := Hd.out k (by simpa using hl)
        have hcell : w.cell? ⟨b, off + k, none⟩ = some (.int .u8 (l[k].toNat : Int)) := by rw [hcell']; simp [hl, V8, List.getElem?_append_left]
        have hdell : w.cell? ⟨b', off' + k, none⟩ = some (.int .u8 (l[k].toNat : Int)) := by rw [hdell']; simp [hl, V8]
        clear hcell' hdell' Hc Hd
        go_wp2_with fail
        refine (mark_calls 90 _ _ (by omega) (by omega) (by omega) (by omega)).mono ?_
        rintro e w' ⟨rfl, rfl⟩
        go_wp2
        go_round
        case rel => exact ⟨k + 1, by omega, by go_num⟩
        case measure => simp [intOf]; omega
      · have hcell : w.cell? ⟨b, off + k, none⟩ = some (.int .u8 (markI 90 ((k : Int) - (l.length : Int)))) := by
          rw [hcell', List.getD, List.getElem?_append_right (by simp; omega)]
          have h := marksB_get 16 (k - l.length) (by omega)
          rw [List.getD] at h
          rw [List.length_map, h, show ((k - l.length : Nat) : Int) = (k : Int) - (l.length : Int) from by omega]
        clear hcell' Hc Hd
        go_wp2_with fail
        refine (mark_calls 90 _ _ (by omega) (by omega) (by omega) (by omega)).mono ?_
        rintro e w' ⟨rfl, rfl⟩
        go_wp2
        go_round
        case rel => exact ⟨k + 1, by omega, by go_num⟩
        case measure => simp [intOf]; omega
    · obtain rfl : k = l.length + 16 := by omega
      clear Hc Hd
      go_wp2
      go_ret
      exact ⟨rfl, rfl⟩
theorem keptB_calls (v v' : Value) (base : Nat) (l : List UInt8) (w : World) (hv : LentB w base v l) (hv' : Rd w v' l.length (l.map V8)) (hn : l.length ≤ 140737488355000) :
    Calls Try.prog 13 #[v, v'] w fun e w' => e = .returned (.bool true) ∧ w = w' := by
  obtain ⟨g, cap, rfl, hc, hr⟩ := hv.full
  have hr' := hv'
  obtain ⟨a', cap', rfl, hd1, hd2, _, hd⟩ := hv'
  clear hd hv
  go_enter Try.func13, Try.ntmps13
  go_wp2_with fail
  refine (keptFullB_calls _ _ l _ hr hr' hn).mono ?_
  rintro e w' ⟨rfl, rfl⟩
  go_wp2
  go_ret
  exact ⟨rfl, rfl⟩

/-- A number from 0 to n - 1 out of any number. -/
def pickI (k n : Int) : Int := if n < 1 then 0 else k % n
theorem pickI_lt (k n : Int) (h : 1 ≤ n) : 0 ≤ pickI k n ∧ pickI k n < n := by
  unfold pickI; rw [if_neg (by omega)]; exact ⟨Int.emod_nonneg _ (by omega), Int.emod_lt_of_pos _ (by omega)⟩
theorem tmod_pick (k n : Int) (hn : 1 ≤ n) : (if k.tmod n < 0 then k.tmod n + n else k.tmod n) = k % n := by
  have h1 := Int.tmod_eq_emod (a := k) (b := n)
  have h5 : 0 ≤ k % n := Int.emod_nonneg _ (by omega)
  have h6 : k % n < n := Int.emod_lt_of_pos _ (by omega)
  by_cases h : 0 ≤ k ∨ n ∣ k
  · rw [if_pos h] at h1; rw [if_neg (by omega)]; omega
  · rw [if_neg h] at h1; rw [if_pos (by omega)]; omega
set_option maxHeartbeats 400000 in
theorem pick_calls (k n : Int) (w : World) (h1 : -9223372036854775808 ≤ k) (h2 : k ≤ 9223372036854775807) (h3 : -9223372036854775808 ≤ n) (h4 : n ≤ 9223372036854775807) :
    Calls Try.prog 17 #[.int .i64 k, .int .i64 n] w fun e w' => e = .returned (.int .i64 (pickI k n)) ∧ w = w' := by
  by_cases hn : n < 1
  · go_enter Try.func17, Try.ntmps17
    go_wp2
    go_ret
    exact ⟨by simp [pickI, hn], rfl⟩
  · have hne : Hid (pickI k n = k % n) := by unfold pickI; rw [if_neg hn]; rfl
    have ht := tmod_pick k n (by omega)
    have hm1 : 0 ≤ k % n := Int.emod_nonneg _ (by omega)
    have hm0 : k % n < n := Int.emod_lt_of_pos _ (by omega)
    by_cases hk : 0 ≤ k
    · clear ht
      go_enter Try.func17, Try.ntmps17
      go_wp2
      go_ret
      exact ⟨by rw [hne.out]; rfl, rfl⟩
    · by_cases hz : k.tmod n < 0
      · rw [if_pos hz] at ht
        have hm2 : -n ≤ k.tmod n := by omega
        have hm3 := Lib.hid ht
        clear ht
        go_enter Try.func17, Try.ntmps17
        go_wp2
        go_ret
        exact ⟨by rw [hne.out, ← hm3.out]; rfl, rfl⟩
      · rw [if_neg hz] at ht
        have hm3 := Lib.hid ht
        clear ht
        go_enter Try.func17, Try.ntmps17
        go_wp2
        go_ret
        exact ⟨by rw [hne.out, ← hm3.out]; rfl, rfl⟩

set_option maxHeartbeats 400000 in
theorem bytes_calls (s : ByteArray) (w : World) (hn : s.size ≤ 140737488355000) :
    Calls Try.prog 18 #[.string s] w fun e w' => ∃ o, e = .returned o ∧ w'.ownsRow w.heap.size 5 1 o s.size (s.data.toList.map V8) ∧ Below w.heap.size w w' := by
  go_enter Try.func18, Try.ntmps18
  go_wp2
  go_loopw [3, 4] (fun o i wr => ∃ k : Nat, k ≤ s.size ∧ i = .int .i64 k ∧ wr.ownsRow w.heap.size 5 1 o k ((s.data.toList.map V8).take k) ∧ Below w.heap.size w wr) (fun _ i _ => s.size - (intOf i).toNat)
  case atStart => exact ⟨0, by omega, rfl, World.ownsRow_nil _ _ _ _, Below.refl _ _⟩
  case round =>
    obtain ⟨k, hk, rfl, hown, hb⟩ := hrel
    by_cases hlt : k < s.size
    · have hs := hb.size
      have htk := Lib.hid (show (s.data.toList.map V8).take (k + 1) = (s.data.toList.map V8).take k ++ [.int .u8 (s[k].toNat : Int)] from by rw [List.take_succ_eq_append_getElem (by simpa using hlt)]; simp [V8]; rfl)
      go_wp2_with (at_builtin; refine appB rfl _ _ rfl w.heap.size _ _ _ rfl (hown.alloc _) ⟨wr.heap.size, 0, none⟩ 1 1 [.int .u8 (s[k].toNat : Int)] rfl rfl ?c1 ?c2 ?c3 ?c4 ?_)
      case c1 => exact cell_one_new _ _ _
      case c2 => simp [Value.oneCell']
      case c3 => omega
      case c4 => simp; omega
      intro v' w1 hown' hg' _
      have hb' := hb.trans ((below_alloc wr (.cells #[.int .u8 (s[k].toNat : Int)] 5)).mono hs)
      have hb1 := hb'.trans (below_grown hg' (by simp; omega) (fun q hq => (hown.lt q hq).1))
      clear hb' hg'
      go_wp2
      go_roundw
      case rel => exact ⟨k + 1, by omega, by go_num, by rw [htk.out]; exact hown', hb1⟩
      case measure => simp [intOf]; omega
    · obtain rfl : k = s.size := by omega
      rw [List.take_of_length_le (by simp)] at hown
      go_wp2
      go_ret
      exact ⟨_, rfl, hown, hb⟩
/-- The marks as bytes. -/
def marksL : Nat → List UInt8
  | 0 => []
  | n + 1 => marksL n ++ [B8 (37 * (90 + 1) + (n : Int))]
theorem marksB_V8 (n : Nat) : marksB n = (marksL n).map V8 := by
  induction n with
  | zero => rfl
  | succ n ih => rw [marksB, marksL, List.map_append, ih]; simp only [List.map_cons, List.map_nil, V8_B8]; rfl
theorem marksL_length (n : Nat) : (marksL n).length = n := by induction n with | zero => rfl | succ n ih => simp [marksL, ih]
end Go.Proofs.Ytgikknkgpbgjaaa
