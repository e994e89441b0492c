/-
  Texts of one proof, one behind the other.
-/
import Derived.Test.YtgcnolapjppbpaaGreatDoorK02
namespace Go.Proofs.YtgcnolapjppbpaaGreatDoor
def errV (n : Int) : Value := if n = 0 then .nilIface else .iface 91 (.int .i64 n)
end Go.Proofs.YtgcnolapjppbpaaGreatDoor
namespace Go.Proofs.YtgcnolapjppbpaaGreatDoor
open Go.RowKit
theorem info_raw : (Tryz.prog.info? 111).map (fun i => (i.zero, i.size, i.bytes)) = some (some (.agg #[.int .i64 0, .string ByteArray.empty]), 2, 24) := by kernel_rfl
theorem info_str : (Tryz.prog.info? 9).map (fun i => (i.zero, i.size, i.bytes)) = some (some (.string ByteArray.empty), 1, 16) := by kernel_rfl
def flatRaws (l : List (Int × ByteArray)) : List Value := l.flatMap fun r => [.int .i64 r.1, .string r.2]
theorem flatRaws_append (l m : List (Int × ByteArray)) : flatRaws (l ++ m) = flatRaws l ++ flatRaws m := by simp [flatRaws]
structure DiskM where
  strs : List ByteArray
  trail : List (Int × ByteArray)
  left : Option Nat
def PowerAt (w : World) (pv : Value) (left : Option Nat) (q : Option Nat) : Prop :=
  match left with
  | none => pv = .func (.func 35) #[] #[] ∧ q = none
  | some k => ∃ b, q = some b ∧ pv = .func (.func 57) #[] #[.pointer (some ⟨b, 0, none⟩)] ∧ Box w b #[.int .i64 (k : Int)] 3 ∧ k ≤ 9223372036854775807
def diskF (p bb : Nat) (tv : Value) (q : Option Nat) : Nat → Prop := fun k => k = p ∨ k = bb ∨ tv.ownBlock = some k ∨ q = some k
def IsDisk (w : World) (d : DiskM) (p : Nat) (F : Nat → Prop) : Prop :=
  ∃ (bb : Nat) (tv pv : Value) (q : Option Nat), Box w p #[.slice (some ⟨bb, 0, none⟩) d.strs.length d.strs.length, tv, pv] 83 ∧ Box w bb (d.strs.map Value.string).toArray 9 ∧
    w.ownsRow 0 111 2 tv d.trail.length (flatRaws d.trail) ∧ PowerAt w pv d.left q ∧ d.strs.length ≤ 4096 ∧ bb ≠ p ∧ (∀ k, tv.ownBlock = some k → k ≠ p ∧ k ≠ bb) ∧ (∀ k, q = some k → k ≠ p ∧ k ≠ bb ∧ tv.ownBlock ≠ some k) ∧ F = diskF p bb tv q
theorem PowerAt.mod {w w' : World} {pv : Value} {left : Option Nat} {q : Option Nat} {G : Nat → Prop} (h : PowerAt w pv left q) (hm : Mod G w w') (hg : ∀ k, q = some k → ¬ G k) : PowerAt w' pv left q := by
  cases left with
  | none => exact h
  | some k => obtain ⟨b, rfl, h1, h2, h3⟩ := h; exact ⟨b, rfl, h1, h2.mod hm (hg b rfl), h3⟩
theorem IsDisk.mod {w w' : World} {d : DiskM} {p : Nat} {F G : Nat → Prop} (h : IsDisk w d p F) (hm : Mod G w w') (hg : ∀ k, F k → ¬ G k) : IsDisk w' d p F := by
  obtain ⟨bb, tv, pv, q, h1, h2, h3, h4, h5, h6, h7, h8, rfl⟩ := h
  exact ⟨bb, tv, pv, q, h1.mod hm (hg p (.inl rfl)), h2.mod hm (hg bb (.inr (.inl rfl))), own_mod h3 hm (fun k hk => hg k (.inr (.inr (.inl hk)))), h4.mod hm (fun k hk => hg k (.inr (.inr (.inr hk)))), h5, h6, h7, h8, rfl⟩
theorem IsDisk.lt {w : World} {d : DiskM} {p : Nat} {F : Nat → Prop} (h : IsDisk w d p F) : ∀ k, F k → k < w.heap.size := by
  obtain ⟨bb, tv, pv, q, h1, h2, h3, h4, h5, h6, h7, h8, rfl⟩ := h
  rintro k (rfl | rfl | hk | hk)
  · exact h1.lt
  · exact h2.lt
  · exact (h3.lt k hk).2
  · cases hl : d.left with
    | none => rw [hl] at h4; obtain ⟨_, e⟩ := h4; rw [e] at hk; cases hk
    | some n => rw [hl] at h4; obtain ⟨b, rfl, _, h, _⟩ := h4; injection hk with hk; subst hk; exact h.lt
theorem always_calls (w : World) : Calls Tryz.prog 35 #[] w fun e w' => e = .returned (.bool true) ∧ w = w' := by
  go_enter Tryz.func35, Tryz.ntmps35
  go_wp2
  go_ret
  exact ⟨rfl, rfl⟩
theorem failing1_no (b : Nat) (w : World) (h : Box w b #[.int .i64 0] 3) : Calls Tryz.prog 57 #[.pointer (some ⟨b, 0, none⟩)] w fun e w' => e = .returned (.bool false) ∧ w = w' := by
  have hc := h.cell 0 _ rfl
  go_enter Tryz.func57, Tryz.ntmps57
  go_wp2
  go_ret
  exact ⟨rfl, rfl⟩
theorem failing1_yes (b k : Nat) (w : World) (h : Box w b #[.int .i64 ((k : Int) + 1)] 3) (hk : k < 9223372036854775807) : Calls Tryz.prog 57 #[.pointer (some ⟨b, 0, none⟩)] w fun e w' => e = .returned (.bool true) ∧ w' = w.setCell ⟨b, 0, none⟩ (.int .i64 (k : Int)) := by
  have hc := h.cell 0 _ rfl
  have hf := h.free 0
  have h0 : (((k : Int) + 1) == 0) = false := by simp; omega
  clear h
  go_enter Tryz.func57, Tryz.ntmps57
  go_wp2
  go_ret
  exact ⟨rfl, rfl⟩
theorem there_calls (d : DiskM) (p : Nat) (F : Nat → Prop) (i : Int) (w : World) (h : IsDisk w d p F) :
    Calls Tryz.prog 49 #[.pointer (some ⟨p, 0, none⟩), .int .i64 i] w fun e w' => e = .returned (.bool (decide (0 ≤ i ∧ i < d.strs.length))) ∧ w = w' := by
  obtain ⟨bb, tv, pv, q, h1, h2, h3, h4, h5, h6, h7, h8, rfl⟩ := h
  have hc := h1.cell 0 _ rfl
  clear h1 h2 h3 h4 h7 h8
  by_cases h0 : 0 ≤ i
  · go_enter Tryz.func49, Tryz.ntmps49
    go_wp2
    go_ret
    exact ⟨by simp [h0], rfl⟩
  · go_enter Tryz.func49, Tryz.ntmps49
    go_wp2
    go_ret
    exact ⟨by simp; omega, rfl⟩
theorem blocks_calls (d : DiskM) (p : Nat) (F : Nat → Prop) (w : World) (h : IsDisk w d p F) :
    Calls Tryz.prog 55 #[.pointer (some ⟨p, 0, none⟩)] w fun e w' => e = .returned (.int .i64 (d.strs.length : Int)) ∧ w = w' := by
  obtain ⟨bb, tv, pv, q, h1, h2, h3, h4, h5, h6, h7, h8, rfl⟩ := h
  have hc := h1.cell 0 _ rfl
  clear h1 h2 h3 h4 h7 h8
  go_enter Tryz.func55, Tryz.ntmps55
  go_wp2
  go_ret
  exact ⟨rfl, rfl⟩
theorem own_form {w : World} {base : Nat} {e : TypeId} {size n : Nat} {v : Value} {xs : List Value} (h : w.ownsRow base e size v n xs) : ∃ a cap, v = .slice a n cap ∧ n ≤ cap ∧ cap ≤ 9223372036854775807 := by
  obtain ⟨a, cap, rfl, h1, h2, _⟩ := rd_of_own h
  exact ⟨a, cap, rfl, h1, h2⟩
theorem read_no (d : DiskM) (p : Nat) (F : Nat → Prop) (i : Int) (w : World) (h : IsDisk w d p F) (hi : ¬ (0 ≤ i ∧ i < d.strs.length)) :
    Calls Tryz.prog 119 #[.pointer (some ⟨p, 0, none⟩), .int .i64 i] w fun e w' => e = .returned (.tuple #[.string ByteArray.empty, errV 1]) ∧ w = w' := by
  have hd : decide (0 ≤ i ∧ i < d.strs.length) = false := by simpa using hi
  go_enter Tryz.func119, Tryz.ntmps119
  go_wp2_with fail
  refine (there_calls d p F i w h).mono ?_
  rw [hd]
  rintro e w' ⟨rfl, rfl⟩
  go_wp2
  go_ret2
  exact ⟨rfl, rfl⟩
theorem read_yes (d : DiskM) (p : Nat) (F : Nat → Prop) (i : Nat) (w : World) (h : IsDisk w d p F) (hi : i < d.strs.length) :
    Calls Tryz.prog 119 #[.pointer (some ⟨p, 0, none⟩), .int .i64 (i : Int)] w fun e w' => e = .returned (.tuple #[.string (d.strs.getD i ByteArray.empty), errV 0]) ∧ w = w' := by
  have hd : decide (0 ≤ (i : Int) ∧ (i : Int) < d.strs.length) = true := by simpa using hi
  go_enter Tryz.func119, Tryz.ntmps119
  go_wp2_with fail
  refine (there_calls d p F i w h).mono ?_
  rw [hd]
  rintro e w' ⟨rfl, rfl⟩
  obtain ⟨bb, tv, pv, q, h1, h2, h3, h4, h5, h6, h7, h8, rfl⟩ := h
  have hc := h1.cell 0 _ rfl
  obtain ⟨s, hs⟩ : ∃ s, s = d.strs.getD i ByteArray.empty := ⟨_, rfl⟩
  have hb := h2.cell i (.string s) (by rw [hs]; simp [hi])
  have Hs := Lib.hid hs
  clear h1 h2 h3 h4 h7 h8 hd hs
  go_wp2
  go_ret2
  exact ⟨by rw [← Hs.out]; rfl, rfl⟩
def DiskM.write (d : DiskM) (i : Int) (s : ByteArray) : DiskM × Int :=
  if ¬ (0 ≤ i ∧ i < d.strs.length) then (d, 1)
  else if 256 < s.size then (d, 3)
  else if d.left = some 0 then (d, 22)
  else ({ strs := d.strs.set i.toNat s, trail := d.trail ++ [(i, s)], left := d.left.map (· - 1) }, 0)
theorem write_arg (d : DiskM) (p : Nat) (F : Nat → Prop) (i : Int) (s : ByteArray) (w : World) (h : IsDisk w d p F) (hi : ¬ (0 ≤ i ∧ i < d.strs.length)) :
    Calls Tryz.prog 25 #[.pointer (some ⟨p, 0, none⟩), .int .i64 i, .string s] w fun e w' => e = .returned (errV 1) ∧ w = w' := by
  have hd : decide (0 ≤ i ∧ i < d.strs.length) = false := by simpa using hi
  go_enter Tryz.func25, Tryz.ntmps25
  go_wp2_with fail
  refine (there_calls d p F i w h).mono ?_
  rw [hd]
  rintro e w' ⟨rfl, rfl⟩
  go_wp2
  go_ret
  exact ⟨rfl, rfl⟩
theorem write_long (d : DiskM) (p : Nat) (F : Nat → Prop) (i : Int) (s : ByteArray) (w : World) (h : IsDisk w d p F) (hi : 0 ≤ i ∧ i < d.strs.length) (hs : 256 < s.size) :
    Calls Tryz.prog 25 #[.pointer (some ⟨p, 0, none⟩), .int .i64 i, .string s] w fun e w' => e = .returned (errV 3) ∧ w = w' := by
  have hd : decide (0 ≤ i ∧ i < d.strs.length) = true := by simpa using hi
  go_enter Tryz.func25, Tryz.ntmps25
  go_wp2_with fail
  refine (there_calls d p F i w h).mono ?_
  rw [hd]
  rintro e w' ⟨rfl, rfl⟩
  go_wp2
  go_ret
  exact ⟨rfl, rfl⟩
theorem write_power (d : DiskM) (p : Nat) (F : Nat → Prop) (i : Int) (s : ByteArray) (w : World) (h : IsDisk w d p F) (hi : 0 ≤ i ∧ i < d.strs.length) (hs : s.size ≤ 256) (hl : d.left = some 0) :
    Calls Tryz.prog 25 #[.pointer (some ⟨p, 0, none⟩), .int .i64 i, .string s] w fun e w' => e = .returned (errV 22) ∧ w = w' := by
  have hd : decide (0 ≤ i ∧ i < d.strs.length) = true := by simpa using hi
  go_enter Tryz.func25, Tryz.ntmps25
  go_wp2_with fail
  refine (there_calls d p F i w h).mono ?_
  rw [hd]
  rintro e w' ⟨rfl, rfl⟩
  obtain ⟨bb, tv, pv, q, h1, h2, h3, h4, h5, h6, h7, h8, rfl⟩ := h
  rw [hl] at h4
  obtain ⟨b, rfl, rfl, hbx, _⟩ := h4
  have hc := h1.cell 2 _ rfl
  clear h1 h2 h3 h7 h8 hd hl
  go_wp2_with fail
  refine (failing1_no b _ hbx).mono ?_
  rintro e w' ⟨rfl, rfl⟩
  go_wp2
  go_ret
  exact ⟨rfl, rfl⟩
theorem appR {w : World} {ops : Array Oper} {rest : List Oper} {o : Oper} {a : Act} {Q : Exit → Act → World → Prop} (hgd : o.guard = none) (s x : Operand)
    (ho : o.op = .call { callee := .builtin .append, args := #[s, x], argTypes := #[72, 72] })
    (base : Nat) (v : Value) (n : Nat) (xs : List Value) (hs : a.eval s = v) (hown : w.ownsRow base 111 2 v n xs)
    (src : Value) (m : Nat) (news : List Value) (hx : a.eval x = src) (hsrc : Rd w src m news) (hl : news.length = m * 2) (h1 : ∀ u ∈ news, u.oneCell' = true)
    (hroom : n + m ≤ 1000000000000) (hbase : base ≤ w.heap.size)
    (h : ∀ v' w', w'.ownsRow base 111 2 v' (n + m) (xs ++ news) → w.grownBy w' v.ownBlock → Moved w v v' → wpList Tryz.prog ops Q rest (a.put o.dst v') w') : wpList Tryz.prog ops Q (o :: rest) a w := by
  obtain ⟨i0, hi, hz0, hz1, hz2⟩ := info_parts info_raw
  exact wpList_append_src hgd s x 72 ho base 111 i0 _ 2 24 Tryz.underlying72 hi hz0 hz1 hz2 rfl (by decide) v n xs hs hown src m news hx hsrc hl h1 (by unfold maxLen; omega) (by omega) hbase h
theorem rd_one (w : World) (cs : Array Value) (T : TypeId) : Rd (w.alloc (.cells cs T)) (.slice (some ⟨w.heap.size, 0, none⟩) 1 1) 1 cs.toList := by
  refine ⟨_, _, rfl, Nat.le_refl _, by omega, (fun h => by cases h), fun j hj => ⟨w.heap.size, 0, rfl, ?_⟩⟩
  rw [Nat.zero_add]
  refine (Box.new w cs T).cell j _ ?_
  rw [← Array.getElem?_toList, List.getD, List.getElem?_eq_getElem hj]; rfl
theorem rd_one' (w : World) (cs : Array Value) (T : TypeId) (b : Nat) (hb : w.heap.size = b) : Rd (w.alloc (.cells cs T)) (.slice (some ⟨b, 0, none⟩) 1 1) 1 cs.toList := by
  subst hb; exact rd_one w cs T
theorem oneC_raw (i : Int) (s : ByteArray) : ∀ u ∈ [Value.int .i64 i, .string s], u.oneCell' = true := by simp [Value.oneCell']
set_option maxHeartbeats 800000 in
theorem write_ok (d : DiskM) (p : Nat) (F : Nat → Prop) (i : Nat) (s : ByteArray) (w : World) (h : IsDisk w d p F) (hi : i < d.strs.length) (hs : s.size ≤ 256) (hl : d.left ≠ some 0) (ht : d.trail.length ≤ 100000000000) :
    Calls Tryz.prog 25 #[.pointer (some ⟨p, 0, none⟩), .int .i64 (i : Int), .string s] w fun e w' => e = .returned (errV 0) ∧
      ∃ F', IsDisk w' { strs := d.strs.set i s, trail := d.trail ++ [((i : Int), s)], left := d.left.map (· - 1) } p F' ∧ Mod F w w' ∧ ∀ k, F' k → F k ∨ w.heap.size ≤ k := by
  have hd : decide (0 ≤ (i : Int) ∧ (i : Int) < d.strs.length) = true := by simpa using hi
  go_enter Tryz.func25, Tryz.ntmps25
  go_wp2_with fail
  refine (there_calls d p F i w h).mono ?_
  rw [hd]
  rintro e w' ⟨rfl, rfl⟩
  clear hd
  have hFlt := h.lt
  obtain ⟨bb, tv, pv, q, h1, h2, h3, h4, h5, h6, h7, h8, rfl⟩ := h
  have hcp := h1.cell 2 _ rfl
  have hst : ∃ left', left' = d.left.map (· - 1) := ⟨_, rfl⟩
  obtain ⟨left', hleft⟩ := hst
  have Hleft := Lib.hid hleft
  have hpow : (∃ w1, w1 = w ∧ pv = .func (.func 35) #[] #[] ∧ q = none ∧ PowerAt w1 pv left' q ∧ Mod (fun k => q = some k) w w1) ∨
      (∃ (b n : Nat), q = some b ∧ pv = .func (.func 57) #[] #[.pointer (some ⟨b, 0, none⟩)] ∧ Box w b #[.int .i64 ((n : Int) + 1)] 3 ∧ n < 9223372036854775807 ∧ PowerAt (w.setCell ⟨b, 0, none⟩ (.int .i64 (n : Int))) pv left' q ∧ Mod (fun k => q = some k) w (w.setCell ⟨b, 0, none⟩ (.int .i64 (n : Int)))) := by
    rw [hleft]
    cases hlf : d.left with
    | none =>
      rw [hlf] at h4; obtain ⟨rfl, rfl⟩ := h4
      exact .inl ⟨w, rfl, rfl, rfl, ⟨rfl, rfl⟩, Mod.refl _ _⟩
    | some n =>
      rw [hlf] at h4; obtain ⟨b, rfl, rfl, hbx, hn⟩ := h4
      cases n with
      | zero => exact absurd hlf hl
      | succ n =>
        exact .inr ⟨b, n, rfl, rfl, by simpa using hbx, by omega, ⟨b, rfl, rfl, by simpa using hbx.set 0 (.int .i64 (n : Int)), by simp; omega⟩, Mod.set _ _ _ _ rfl⟩
  clear h4 hl hleft
  have hrest : ∀ w1, PowerAt w1 pv left' q → Mod (fun k => q = some k) w w1 → Box w1 p #[.slice (some ⟨bb, 0, none⟩) d.strs.length d.strs.length, tv, pv] 83 ∧ Box w1 bb (d.strs.map Value.string).toArray 9 ∧ w1.ownsRow 0 111 2 tv d.trail.length (flatRaws d.trail) := fun w1 _ hm =>
    ⟨h1.mod hm (fun e => (h8 p e).1 rfl), h2.mod hm (fun e => (h8 bb e).2.1 rfl), own_mod h3 hm (fun k hk e => (h8 k e).2.2 hk)⟩
  have Hrest := Lib.hid hrest
  clear hrest
  rcases hpow with ⟨w1, rfl, rfl, rfl, hP1, hM1⟩ | ⟨b, n, rfl, rfl, hbx, hn, hP1, hM1⟩
  · go_wp2_with fail
    refine (always_calls _).mono ?_
    rintro e w2 ⟨rfl, rfl⟩
    obtain ⟨k1, k2, k3⟩ := Hrest.out _ hP1 hM1
    clear h1 h2 h3 Hrest hcp
    have hc0 := k1.cell 0 _ rfl
    have hc1 := k1.cell 1 _ rfl
    have hfp := k1.free 1
    have hold := k2.cell i (.string (d.strs.getD i ByteArray.empty)) (by simp [hi])
    have hfb := k2.free i
    have m2 : Mod (fun k => k = bb) w1 (w1.setCell ⟨bb, i, none⟩ (.string s)) := Mod.set _ _ _ _ rfl
    have k1' := k1.mod m2 (fun e => h6 e.symm)
    have k2' := k2.set i (.string s)
    have k3' := own_mod k3 m2 (fun k hk e => (h7 k hk).2 e)
    have hP2 := hP1.mod m2 (fun k hk e => (h8 k hk).2.1 e)
    have m3 : Mod (fun k => k = bb) w1 ((w1.setCell ⟨bb, i, none⟩ (.string s)).alloc (.cells #[.int .i64 (i : Int), .string s] 111)) := m2.trans (Mod.alloc _ _ _)
    have k1'' := k1'.below (below_alloc _ (.cells #[.int .i64 (i : Int), .string s] 111))
    have k2'' := k2'.below (below_alloc _ (.cells #[.int .i64 (i : Int), .string s] 111))
    have hP3 := hP2.mod (Mod.alloc (fun _ => False) _ (.cells #[.int .i64 (i : Int), .string s] 111)) (fun _ _ h => h)
    have Hk3 := Lib.hid k3'
    have hW1 : w1.heap.size ≤ ((w1.setCell ⟨bb, i, none⟩ (.string s)).alloc (.cells #[.int .i64 (i : Int), .string s] 111)).heap.size := by simp
    clear k1 k2 k3 k3' k1' k2' hP1 hP2 m2
    go_wp2_with (at_builtin; refine appR rfl _ _ rfl 0 _ _ _ rfl (Hk3.out.alloc _) _ 1 [.int .i64 (i : Int), .string s] rfl (rd_one' _ _ _ _ (by simp)) rfl (oneC_raw _ _) (by omega) (Nat.zero_le _) ?_)
    intro v' w3 hv3 hg3 hm3
    have hgm : ∀ k, tv.ownBlock = some k → tv.ownBlock = some k := fun _ h => h
    have m4 := Mod.of_grown (F := fun k => tv.ownBlock = some k) hg3 hgm
    have l1 := k1''.mod m4 (fun e => (h7 p e).1 rfl)
    have l2 := k2''.mod m4 (fun e => (h7 bb e).2 rfl)
    have l4 := hP3.mod m4 (fun k hk e => (h8 k hk).2.2 e)
    have hnew : ∀ k, v'.ownBlock = some k → tv.ownBlock = some k ∨ w1.heap.size ≤ k := fun k hk => by
      rcases hm3 with e | e
      · left; rw [← e]; exact hk
      · right; rw [e] at hk; injection hk with hk; omega
    have hsz3 := hg3.size
    have hpw : p < w1.heap.size ∧ bb < w1.heap.size := ⟨Nat.lt_of_lt_of_le (hFlt p (.inl rfl)) hM1.size, Nat.lt_of_lt_of_le (hFlt bb (.inr (.inl rfl))) hM1.size⟩
    have hc3 := l1.cell 1 _ rfl
    have hf3 := l1.free 1
    clear hc0 hc1 hfp hold hfb k1'' k2'' hP3 hg3 hm3 Hk3
    obtain ⟨va, vc, hve, _, _⟩ := own_form hv3
    subst hve
    go_wp2
    go_ret
    refine ⟨rfl, diskF p bb _ none, ⟨bb, _, _, none, by simpa using l1.set 1 (.slice va (d.trail.length + 1) vc), ?_, ?_, ?_, by simpa using h5, h6, ?_, ?_, rfl⟩, ?_, ?_⟩
    · have := l2.set_other (p := ⟨p, 1, none⟩) (fun e => h6 e.symm) (.slice va (d.trail.length + 1) vc)
      simpa [List.map_set] using this
    · have := own_mod hv3 (Mod.set (fun k => k = p) w3 ⟨p, 1, none⟩ (.slice va (d.trail.length + 1) vc) rfl) (fun k hk e => by
        rcases hnew k hk with h | h
        · exact (h7 k h).1 e
        · omega)
      rw [flatRaws_append]
      simpa [flatRaws] using this
    · rw [← Hleft.out]
      exact l4.mod (Mod.set (fun k => k = p) w3 ⟨p, 1, none⟩ (.slice va (d.trail.length + 1) vc) rfl) (fun k hk e => (h8 k hk).1 e)
    · intro k hk
      rcases hnew k hk with h | h
      · exact h7 k h
      · exact ⟨by omega, by omega⟩
    · intro k hk
      refine ⟨(h8 k hk).1, (h8 k hk).2.1, fun e => ?_⟩
      rcases hnew k e with h | h
      · exact (h8 k hk).2.2 h
      · have := Nat.lt_of_lt_of_le (hFlt k (.inr (.inr (.inr hk)))) hM1.size
        omega
    · refine (hM1.mono (fun k hk => .inr (.inr (.inr hk)))).trans ((m3.mono (fun k hk => .inr (.inl hk))).trans ((m4.mono (fun k hk => .inr (.inr (.inl hk)))).trans (Mod.set _ _ _ _ (.inl rfl))))
    · rintro k (h | h | h | h)
      · exact .inl (.inl h)
      · exact .inl (.inr (.inl h))
      · rcases hnew k h with h' | h'
        · exact .inl (.inr (.inr (.inl h')))
        · exact .inr (Nat.le_trans hM1.size h')
      · exact .inl (.inr (.inr (.inr h)))
  · go_wp2_with fail
    refine (failing1_yes b n _ hbx hn).mono ?_
    rintro e w2 ⟨rfl, rfl⟩
    obtain ⟨k1, k2, k3⟩ := Hrest.out _ hP1 hM1
    clear h1 h2 h3 Hrest hcp hbx
    obtain ⟨w1, hw1⟩ : ∃ w1, w1 = w.setCell ⟨b, 0, none⟩ (.int .i64 (n : Int)) := ⟨_, rfl⟩
    rw [← hw1] at hP1 hM1 k1 k2 k3 ⊢
    clear hw1
    have hc0 := k1.cell 0 _ rfl
    have hc1 := k1.cell 1 _ rfl
    have hfp := k1.free 1
    have hold := k2.cell i (.string (d.strs.getD i ByteArray.empty)) (by simp [hi])
    have hfb := k2.free i
    have m2 : Mod (fun k => k = bb) w1 (w1.setCell ⟨bb, i, none⟩ (.string s)) := Mod.set _ _ _ _ rfl
    have k1' := k1.mod m2 (fun e => h6 e.symm)
    have k2' := k2.set i (.string s)
    have k3' := own_mod k3 m2 (fun k hk e => (h7 k hk).2 e)
    have hP2 := hP1.mod m2 (fun k hk e => (h8 k hk).2.1 e)
    have m3 : Mod (fun k => k = bb) w1 ((w1.setCell ⟨bb, i, none⟩ (.string s)).alloc (.cells #[.int .i64 (i : Int), .string s] 111)) := m2.trans (Mod.alloc _ _ _)
    have k1'' := k1'.below (below_alloc _ (.cells #[.int .i64 (i : Int), .string s] 111))
    have k2'' := k2'.below (below_alloc _ (.cells #[.int .i64 (i : Int), .string s] 111))
    have hP3 := hP2.mod (Mod.alloc (fun _ => False) _ (.cells #[.int .i64 (i : Int), .string s] 111)) (fun _ _ h => h)
    have Hk3 := Lib.hid k3'
    have hW1 : w1.heap.size ≤ ((w1.setCell ⟨bb, i, none⟩ (.string s)).alloc (.cells #[.int .i64 (i : Int), .string s] 111)).heap.size := by simp
    clear k1 k2 k3 k3' k1' k2' hP1 hP2 m2
    go_wp2_with (at_builtin; refine appR rfl _ _ rfl 0 _ _ _ rfl (Hk3.out.alloc _) _ 1 [.int .i64 (i : Int), .string s] rfl (rd_one' _ _ _ _ (by simp)) rfl (oneC_raw _ _) (by omega) (Nat.zero_le _) ?_)
    intro v' w3 hv3 hg3 hm3
    have hgm : ∀ k, tv.ownBlock = some k → tv.ownBlock = some k := fun _ h => h
    have m4 := Mod.of_grown (F := fun k => tv.ownBlock = some k) hg3 hgm
    have l1 := k1''.mod m4 (fun e => (h7 p e).1 rfl)
    have l2 := k2''.mod m4 (fun e => (h7 bb e).2 rfl)
    have l4 := hP3.mod m4 (fun k hk e => (h8 k hk).2.2 e)
    have hnew : ∀ k, v'.ownBlock = some k → tv.ownBlock = some k ∨ w1.heap.size ≤ k := fun k hk => by
      rcases hm3 with e | e
      · left; rw [← e]; exact hk
      · right; rw [e] at hk; injection hk with hk; omega
    have hsz3 := hg3.size
    have hpw : p < w1.heap.size ∧ bb < w1.heap.size := ⟨Nat.lt_of_lt_of_le (hFlt p (.inl rfl)) hM1.size, Nat.lt_of_lt_of_le (hFlt bb (.inr (.inl rfl))) hM1.size⟩
    have hc3 := l1.cell 1 _ rfl
    have hf3 := l1.free 1
    clear hc0 hc1 hfp hold hfb k1'' k2'' hP3 hg3 hm3 Hk3
    obtain ⟨va, vc, hve, _, _⟩ := own_form hv3
    subst hve
    go_wp2
    go_ret
    refine ⟨rfl, diskF p bb _ (some b), ⟨bb, _, _, some b, by simpa using l1.set 1 (.slice va (d.trail.length + 1) vc), ?_, ?_, ?_, by simpa using h5, h6, ?_, ?_, rfl⟩, ?_, ?_⟩
    · have := l2.set_other (p := ⟨p, 1, none⟩) (fun e => h6 e.symm) (.slice va (d.trail.length + 1) vc)
      simpa [List.map_set] using this
    · have := own_mod hv3 (Mod.set (fun k => k = p) w3 ⟨p, 1, none⟩ (.slice va (d.trail.length + 1) vc) rfl) (fun k hk e => by
        rcases hnew k hk with h | h
        · exact (h7 k h).1 e
        · omega)
      rw [flatRaws_append]
      simpa [flatRaws] using this
    · rw [← Hleft.out]
      exact l4.mod (Mod.set (fun k => k = p) w3 ⟨p, 1, none⟩ (.slice va (d.trail.length + 1) vc) rfl) (fun k hk e => (h8 k hk).1 e)
    · intro k hk
      rcases hnew k hk with h | h
      · exact h7 k h
      · exact ⟨by omega, by omega⟩
    · intro k hk
      refine ⟨(h8 k hk).1, (h8 k hk).2.1, fun e => ?_⟩
      rcases hnew k e with h | h
      · exact (h8 k hk).2.2 h
      · have := Nat.lt_of_lt_of_le (hFlt k (.inr (.inr (.inr hk)))) hM1.size
        omega
    · refine (hM1.mono (fun k hk => .inr (.inr (.inr hk)))).trans ((m3.mono (fun k hk => .inr (.inl hk))).trans ((m4.mono (fun k hk => .inr (.inr (.inl hk)))).trans (Mod.set _ _ _ _ (.inl rfl))))
    · rintro k (h | h | h | h)
      · exact .inl (.inl h)
      · exact .inl (.inr (.inl h))
      · rcases hnew k h with h' | h'
        · exact .inl (.inr (.inr (.inl h')))
        · exact .inr (Nat.le_trans hM1.size h')
      · exact .inl (.inr (.inr (.inr h)))
end Go.Proofs.YtgcnolapjppbpaaGreatDoor
