/-
  The document's answer for layer 9 (lineageref09), and disk.Read: walks over the same plain disk.
-/
import Derived.Test.YtjoadcgegobjpaaDoorZ4
import Derived.Deep.LoopGhost
import Derived.RangeFuncNested
import Derived.RangeFuncBound
import Derived.RangeFuncCalls
import Derived.RangeFuncLeaves
import Derived.StillTailTactics
import Derived.Shelf.Abstract
import Derived.Shelf.RegionOpen
import Derived.WalkKit
import Derived.OwnWalkIn
import Derived.TacticsInMore
import Derived.LoopNIn
import Derived.LoopIn
namespace Go.Proofs.YtjoadcgegobjpaaDoor
open Go.RowKit
set_option maxRecDepth 100000

def leftI : Option Nat → Int
  | none => -1
  | some n => (n : Int)
/-- A disk as the document has it. -/
def IsRef (w : World) (d : DiskM) (rp : Nat) (G : Nat → Prop) : Prop :=
  ∃ tv : Value, Box w rp #[.int .i64 (d.strs.length : Int), tv, .int .i64 (leftI d.left)] 57 ∧ w.ownsRow 0 112 2 tv d.trail.length (flatRaws d.trail) ∧ (∀ k, tv.ownBlock = some k → k ≠ rp) ∧ (∀ n, d.left = some n → n ≤ 9223372036854775807) ∧ G = fun k => k = rp ∨ tv.ownBlock = some k
theorem IsRef.mod {w w' : World} {d : DiskM} {rp : Nat} {G F : Nat → Prop} (h : IsRef w d rp G) (hm : Mod F w w') (hg : ∀ k, G k → ¬ F k) : IsRef w' d rp G := by
  obtain ⟨tv, h1, h2, h3, hlb, rfl⟩ := h
  exact ⟨tv, h1.mod hm (hg rp (.inl rfl)), own_mod h2 hm (fun k hk => hg k (.inr hk)), h3, hlb, rfl⟩
theorem IsRef.lt {w : World} {d : DiskM} {rp : Nat} {G : Nat → Prop} (h : IsRef w d rp G) : ∀ k, G k → k < w.heap.size := by
  obtain ⟨tv, h1, h2, h3, hlb, rfl⟩ := h
  rintro k (rfl | hk)
  · exact h1.lt
  · exact (h2.lt k hk).2
theorem IsRef.below {w w' : World} {d : DiskM} {rp : Nat} {G : Nat → Prop} (h : IsRef w d rp G) (hb : Below w.heap.size w w') : IsRef w' d rp G := h.mod (Mod.of_below (F := fun _ => False) hb) (fun _ _ h => h)
/-- What a read tells. -/
def DiskM.read (d : DiskM) (i : Int) : ByteArray × Int := if 0 ≤ i ∧ i < d.strs.length then (d.strs.getD i.toNat ByteArray.empty, 0) else (ByteArray.empty, 1)
theorem read_any (d : DiskM) (p : Nat) (F : Nat → Prop) (i : Int) (w : World) (h : IsDisk w d p F) :
    Calls Tryd.prog 16 #[.pointer (some ⟨p, 0, none⟩), .int .i64 i] w fun e w' => e = .returned (.tuple #[.string (d.read i).1, errV (d.read i).2]) ∧ w = w' := by
  unfold DiskM.read
  by_cases hi : 0 ≤ i ∧ i < d.strs.length
  · rw [if_pos hi]
    obtain ⟨n, rfl⟩ := Int.eq_ofNat_of_zero_le hi.1
    exact read_yes d p F n w h (by omega)
  · rw [if_neg hi]
    exact read_no d p F i w h hi
theorem refNew_no (n : Int) (w : World) (h : n < 1 ∨ 4096 < n) : Calls Tryd.prog 5 #[.int .i64 n] w fun e w' => e = .returned (.tuple #[.pointer none, .int .i64 1]) ∧ w' = w := by
  by_cases h1 : n < 1
  · go_enter Tryd.func5, Tryd.ntmps5
    go_wp2_with fail
    go_ret2
    exact ⟨rfl, rfl⟩
  · have h2 : 4096 < n := by omega
    go_enter Tryd.func5, Tryd.ntmps5
    go_wp2_with fail
    go_ret2
    exact ⟨rfl, rfl⟩
theorem refNew_yes (n : Nat) (w : World) (h1 : 1 ≤ n) (h2 : n ≤ 4096) : Calls Tryd.prog 5 #[.int .i64 (n : Int)] w fun e w' => e = .returned (.tuple #[.pointer (some ⟨w.heap.size, 0, none⟩), .int .i64 0]) ∧
    ∃ G, IsRef w' { strs := List.replicate n ByteArray.empty, trail := [], left := none } w.heap.size G ∧ Below w.heap.size w w' ∧ ∀ k, G k → w.heap.size ≤ k := by
  have c1 : ¬ (n : Int) < 1 := by omega
  have c2 : ¬ (4096 : Int) < (n : Int) := by omega
  go_enter Tryd.func5, Tryd.ntmps5
  go_wp2_with fail
  go_ret2
  refine ⟨rfl, _, ⟨.slice none 0 0, ?_, World.ownsRow_nil _ _ _ _, fun k hk => (by simp [Value.ownBlock] at hk), fun m hm => (by cases hm), rfl⟩, below_alloc _ _, fun k hk => ?_⟩
  · simp only [List.length_replicate]
    exact Box.new _ _ _
  · rcases hk with rfl | hk
    · exact Nat.le_refl _
    · simp [Value.ownBlock] at hk
theorem refCut_calls (d : DiskM) (rp : Nat) (G : Nat → Prop) (n : Int) (w : World) (h : IsRef w d rp G) (hn : n ≤ 9223372036854775807) :
    Calls Tryd.prog 21 #[.pointer (some ⟨rp, 0, none⟩), .int .i64 n] w fun e w' => e = .returned (.tuple #[]) ∧ IsRef w' { d with left := if n < 0 then none else some n.toNat } rp G ∧ Mod G w w' := by
  obtain ⟨tv, h1, h2, h3, hlb, rfl⟩ := h
  have hmx : ∀ ts t w', (Builtin.max_ ts t #[.int .i64 n, .int .i64 (-1)]).run Tryd.prog w' = .ok (.int .i64 (leftI (if n < 0 then none else some n.toNat))) w' := fun ts t w' => by
    rw [run_max_int2]
    have : (if (-1 : Int) > n then (-1 : Int) else n) = leftI (if n < 0 then none else some n.toNat) := by
      by_cases h : n < 0
      · rw [if_pos h]; simp only [leftI]; split <;> omega
      · rw [if_neg h]; simp only [leftI]; split <;> omega
    rw [this]
  have c2 := h1.cell 2 _ rfl
  have f2 := h1.free 2
  obtain ⟨lf, hlf⟩ : ∃ lf : Option Nat, lf = if n < 0 then none else some n.toNat := ⟨_, rfl⟩
  rw [← hlf] at hmx ⊢
  have H1 := Lib.hid h1
  have H2 := Lib.hid h2
  have H3 := Lib.hid h3
  have Hlf := Lib.hid hlf
  clear h1 h2 h3 hlf
  go_enter Tryd.func21, Tryd.ntmps21
  go_wp2_with fail
  refine bodyPost_end (results_none rfl _ _ _) rfl ?_
  have hm := Mod.set (fun b => b = rp) w ⟨rp, 2, none⟩ (.int .i64 (leftI lf)) rfl
  exact ⟨rfl, ⟨tv, H1.out.set 2 _, own_mod H2.out hm (fun k hk e => H3.out k hk e), H3.out, fun m hm2 => by
    rw [Hlf.out] at hm2
    split at hm2
    · cases hm2
    · injection hm2 with hm2; omega, rfl⟩, hm.mono (fun b hb => .inl hb)⟩
theorem leftI_zero {o : Option Nat} : leftI o = 0 ↔ o = some 0 := by
  cases o with
  | none => simp [leftI]
  | some n => simp [leftI]
set_option maxHeartbeats 800000 in
theorem refWrite_any (d : DiskM) (rp : Nat) (G : Nat → Prop) (i : Int) (s : ByteArray) (w : World) (h : IsRef w d rp G) (ht : d.trail.length ≤ 100000000000) (hs : s.size ≤ 9223372036854775807) :
    Calls Tryd.prog 48 #[.pointer (some ⟨rp, 0, none⟩), .int .i64 i, .string s] w fun e w' => e = .returned (.int .i64 (d.write i s).2) ∧
      ∃ G', IsRef w' (d.write i s).1 rp G' ∧ Mod G w w' ∧ ∀ k, G' k → G k ∨ w.heap.size ≤ k := by
  obtain ⟨tv, h1, h2, h3, hlb, rfl⟩ := h
  have c0 := h1.cell 0 _ rfl
  have H1 := Lib.hid h1
  have H2 := Lib.hid h2
  have H3 := Lib.hid h3
  by_cases hi : 0 ≤ i ∧ i < d.strs.length
  · have hn1 : ¬ i < 0 := by omega
    have hn2 : ¬ (d.strs.length : Int) ≤ i := by omega
    by_cases h256 : 256 < s.size
    · have ew : d.write i s = (d, 3) := by unfold DiskM.write; rw [if_neg (by omega), if_pos h256]
      have Ew := Lib.hid ew
      have hs1 : (256 : Int) < (s.size : Int) := by omega
      clear h1 h2 h3 ew
      go_enter Tryd.func48, Tryd.ntmps48
      go_wp2_with fail
      go_ret
      rw [Ew.out]
      exact ⟨rfl, _, ⟨tv, H1.out, H2.out, H3.out, hlb, rfl⟩, Mod.refl _ _, fun k hk => .inl hk⟩
    · have hs1 : ¬ (256 : Int) < (s.size : Int) := by omega
      have hs2 : decide (256 < s.size) = false := by simp; omega
      have c2 := h1.cell 2 _ rfl
      by_cases h0 : d.left = some 0
      · have ew : d.write i s = (d, 22) := by unfold DiskM.write; rw [if_neg (by omega), if_neg h256, if_pos h0]
        have Ew := Lib.hid ew
        rw [show leftI d.left = 0 from leftI_zero.2 h0] at c2
        clear h1 h2 h3 ew
        go_enter Tryd.func48, Tryd.ntmps48
        go_wp2_with fail
        go_ret
        rw [Ew.out]
        exact ⟨rfl, _, ⟨tv, H1.out, H2.out, H3.out, hlb, rfl⟩, Mod.refl _ _, fun k hk => .inl hk⟩
      · have ew : d.write i s = ({ strs := d.strs.set i.toNat s, trail := d.trail ++ [(i, s)], left := d.left.map (· - 1) }, 0) := by unfold DiskM.write; rw [if_neg (by omega), if_neg h256, if_neg h0]
        have Ew := Lib.hid ew
        obtain ⟨ta, tc, rfl, _, _⟩ := own_form h2
        obtain ⟨lf, hlf⟩ : ∃ lf : Int, lf = leftI d.left := ⟨_, rfl⟩
        rw [← hlf] at c2
        have hlf0 : lf ≠ 0 := by rw [hlf]; exact fun e => h0 (leftI_zero.1 e)
        clear hlf0
        cases hcl : d.left with
        | none =>
          have hlf1 : lf = -1 := by rw [hlf, hcl]; rfl
          subst hlf1
          rw [hcl] at Ew
          have k1 : Box w rp #[.int .i64 (d.strs.length : Int), .slice ta d.trail.length tc, .int .i64 (-1)] 57 := by rw [hlf]; exact h1
          have k2 := h2
          have mm := Mod.refl (fun b => b = rp) w
          clear h1 h2 h3 hlf ew h0 hcl
          have k1' := k1.below (below_alloc (w) (.cells #[.int .i64 i, .string s] 112))
          have c1' := k1'.cell 1 _ rfl
          have c1 := k1.cell 1 _ rfl
          have Hk1 := Lib.hid k1'
          have Hk2 := Lib.hid k2
          have Hmm := Lib.hid mm
          have hszW : w.heap.size ≤ (w).heap.size := mm.size
          clear k1 k1' k2 mm c1'
          go_enter Tryd.func48, Tryd.ntmps48
          go_wp2_with (at_builtin; refine appR rfl _ _ rfl 0 _ _ _ rfl (Hk2.out.alloc _) _ 1 [.int .i64 i, .string s] rfl (rd_one' _ _ _ _ (by simp)) rfl (oneC_raw _ _) (by omega) (Nat.zero_le _) ?_)
          intro v' w3 hv3 hg3 hm3
          obtain ⟨na, nc, rfl, _, _⟩ := own_form hv3
          have m4 := Mod.of_grown (F := fun k => (Value.slice ta d.trail.length tc).ownBlock = some k) hg3 (fun _ h => h)
          have l1 := Box.mod Hk1.out m4 (fun e => H3.out rp e rfl)
          have hnew : ∀ k, (Value.slice na (d.trail.length + 1) nc).ownBlock = some k → (Value.slice ta d.trail.length tc).ownBlock = some k ∨ (w).heap.size ≤ k := fun k hk => by
            rcases hm3 with e | e
            · left; rw [← e]; exact hk
            · right; rw [e] at hk; injection hk with hk; rw [← hk]; simp
          have hrpl : rp < (w).heap.size := Nat.lt_of_lt_of_le H1.out.lt hszW
          have f1 := l1.free 1
          have c1' := l1.cell 1 _ rfl
          have hfl : flatRaws (d.trail ++ [(i, s)]) = flatRaws d.trail ++ [.int .i64 i, .string s] := by rw [flatRaws_append]; rfl
          have Hl1 := Lib.hid (l1.set 1 (.slice na (d.trail.length + 1) nc))
          have Hv3 := Lib.hid hv3
          have Hm4 := Lib.hid m4
          have Hnew := Lib.hid hnew
          clear l1 hv3 hg3 hm3 m4 hnew c0 c2 c1
          go_wp2_with fail
          go_ret
          rw [Ew.out]
          have hm5 := Mod.set (fun b => b = rp) w3 ⟨rp, 1, none⟩ (.slice na (d.trail.length + 1) nc) rfl
          have hno : ∀ k, (Value.slice na (d.trail.length + 1) nc).ownBlock = some k → k ≠ rp := fun k hk e => by
            rcases Hnew.out k hk with h | h
            · exact H3.out k h e
            · omega
          refine ⟨rfl, _, ⟨.slice na (d.trail.length + 1) nc, ?_, ?_, hno, fun m hm2 => by simp at hm2, rfl⟩, ?_, fun k hk => ?_⟩
          · simp only [List.length_set]
            exact Hl1.out
          · simp only [List.length_append, List.length_singleton]
            rw [hfl]
            exact own_mod Hv3.out hm5 (fun k hk e => hno k hk e)
          · exact ((Hmm.out.mono (fun b hb => .inl hb)).trans (((Mod.alloc (fun b => (Value.slice ta d.trail.length tc).ownBlock = some b) (w) (.cells #[.int .i64 i, .string s] 112)).trans Hm4.out).mono (fun b hb => .inr hb))).trans (hm5.mono (fun b hb => .inl hb))
          · rcases hk with rfl | hk
            · exact .inl (.inl rfl)
            · rcases Hnew.out k hk with h | h
              · exact .inl (.inr h)
              · exact .inr (Nat.le_trans hszW h)
        | some n =>
          obtain ⟨m, rfl⟩ : ∃ m, n = m + 1 := ⟨n - 1, by
            rcases Nat.eq_zero_or_pos n with h | h
            · rw [h] at hcl; exact absurd hcl h0
            · omega⟩
          have hlf1 : lf = (m : Int) + 1 := by rw [hlf, hcl]; simp [leftI]
          have hlfp : 0 < lf := by omega
          have hlfb : lf ≤ 9223372036854775807 := by have := hlb (m + 1) hcl; omega
          have hlm : (m : Int) = lf - 1 := by omega
          rw [hcl] at Ew
          have k1 : Box (w.setCell ⟨rp, 2, none⟩ (.int .i64 (lf - 1))) rp #[.int .i64 (d.strs.length : Int), .slice ta d.trail.length tc, .int .i64 (lf - 1)] 57 := h1.set 2 _
          have mm := Mod.set (fun b => b = rp) w ⟨rp, 2, none⟩ (.int .i64 (lf - 1)) rfl
          have k2 := own_mod h2 mm (fun k hk e => h3 k hk e)
          have f2 := h1.free 2
          have c1 := h1.cell 1 _ rfl
          have Hlm := Lib.hid hlm
          have Hlb := Lib.hid (hlb (m + 1) hcl)
          clear h1 h2 h3 hlf ew h0 hcl hlf1 hlm hlb
          have k1' := k1.below (below_alloc (w.setCell ⟨rp, 2, none⟩ (.int .i64 (lf - 1))) (.cells #[.int .i64 i, .string s] 112))
          have c1' := k1'.cell 1 _ rfl
          have Hk1 := Lib.hid k1'
          have Hk2 := Lib.hid k2
          have Hmm := Lib.hid mm
          have hszW : w.heap.size ≤ (w.setCell ⟨rp, 2, none⟩ (.int .i64 (lf - 1))).heap.size := mm.size
          clear k1 k1' k2 mm c1'
          go_enter Tryd.func48, Tryd.ntmps48
          go_wp2_with (at_builtin; refine appR rfl _ _ rfl 0 _ _ _ rfl (Hk2.out.alloc _) _ 1 [.int .i64 i, .string s] rfl (rd_one' _ _ _ _ (by simp)) rfl (oneC_raw _ _) (by omega) (Nat.zero_le _) ?_)
          intro v' w3 hv3 hg3 hm3
          obtain ⟨na, nc, rfl, _, _⟩ := own_form hv3
          have m4 := Mod.of_grown (F := fun k => (Value.slice ta d.trail.length tc).ownBlock = some k) hg3 (fun _ h => h)
          have l1 := Box.mod Hk1.out m4 (fun e => H3.out rp e rfl)
          have hnew : ∀ k, (Value.slice na (d.trail.length + 1) nc).ownBlock = some k → (Value.slice ta d.trail.length tc).ownBlock = some k ∨ (w.setCell ⟨rp, 2, none⟩ (.int .i64 (lf - 1))).heap.size ≤ k := fun k hk => by
            rcases hm3 with e | e
            · left; rw [← e]; exact hk
            · right; rw [e] at hk; injection hk with hk; rw [← hk]; simp
          have hrpl : rp < (w.setCell ⟨rp, 2, none⟩ (.int .i64 (lf - 1))).heap.size := Nat.lt_of_lt_of_le H1.out.lt hszW
          have f1 := l1.free 1
          have c1' := l1.cell 1 _ rfl
          have hfl : flatRaws (d.trail ++ [(i, s)]) = flatRaws d.trail ++ [.int .i64 i, .string s] := by rw [flatRaws_append]; rfl
          have Hl1 := Lib.hid (l1.set 1 (.slice na (d.trail.length + 1) nc))
          have Hv3 := Lib.hid hv3
          have Hm4 := Lib.hid m4
          have Hnew := Lib.hid hnew
          clear l1 hv3 hg3 hm3 m4 hnew c0 c2 c1
          go_wp2_with fail
          go_ret
          rw [Ew.out]
          have hm5 := Mod.set (fun b => b = rp) w3 ⟨rp, 1, none⟩ (.slice na (d.trail.length + 1) nc) rfl
          have hno : ∀ k, (Value.slice na (d.trail.length + 1) nc).ownBlock = some k → k ≠ rp := fun k hk e => by
            rcases Hnew.out k hk with h | h
            · exact H3.out k h e
            · omega
          refine ⟨rfl, _, ⟨.slice na (d.trail.length + 1) nc, ?_, ?_, hno, fun m hm2 => by have := Hlb.out; simp at hm2; omega, rfl⟩, ?_, fun k hk => ?_⟩
          · simp only [List.length_set]
            have e : leftI ((some (m + 1)).map (· - 1)) = lf - 1 := by simp only [Option.map_some, Nat.add_sub_cancel, leftI]; exact Hlm.out
            rw [e]
            exact Hl1.out
          · simp only [List.length_append, List.length_singleton]
            rw [hfl]
            exact own_mod Hv3.out hm5 (fun k hk e => hno k hk e)
          · exact ((Hmm.out.mono (fun b hb => .inl hb)).trans (((Mod.alloc (fun b => (Value.slice ta d.trail.length tc).ownBlock = some b) (w.setCell ⟨rp, 2, none⟩ (.int .i64 (lf - 1))) (.cells #[.int .i64 i, .string s] 112)).trans Hm4.out).mono (fun b hb => .inr hb))).trans (hm5.mono (fun b hb => .inl hb))
          · rcases hk with rfl | hk
            · exact .inl (.inl rfl)
            · rcases Hnew.out k hk with h | h
              · exact .inl (.inr h)
              · exact .inr (Nat.le_trans hszW h)
  · have ew : d.write i s = (d, 1) := by unfold DiskM.write; rw [if_pos hi]
    have Ew := Lib.hid ew
    clear h1 h2 h3 ew
    by_cases hneg : i < 0
    · go_enter Tryd.func48, Tryd.ntmps48
      go_wp2_with fail
      go_ret
      rw [Ew.out]
      exact ⟨rfl, _, ⟨tv, H1.out, H2.out, H3.out, hlb, rfl⟩, Mod.refl _ _, fun k hk => .inl hk⟩
    · have hge : (d.strs.length : Int) ≤ i := by omega
      go_enter Tryd.func48, Tryd.ntmps48
      go_wp2_with fail
      go_ret
      rw [Ew.out]
      exact ⟨rfl, _, ⟨tv, H1.out, H2.out, H3.out, hlb, rfl⟩, Mod.refl _ _, fun k hk => .inl hk⟩
theorem play_skip (i : Nat) : ∀ (l : List (Int × ByteArray)) (s : List ByteArray), (∀ r ∈ l, 0 ≤ r.1 ∧ r.1 ≠ (i : Int)) → (playRaws s l).getD i ByteArray.empty = s.getD i ByteArray.empty
  | [], _, _ => rfl
  | r :: l, s, h => by
    have ih := play_skip i l (s.set r.1.toNat r.2) (fun x hx => h x (List.mem_cons_of_mem _ hx))
    have h0 := h r (List.mem_cons_self ..)
    show (playRaws (s.set r.1.toNat r.2) l).getD i ByteArray.empty = _
    rw [ih, List.getD, List.getD, List.getElem?_set_ne (by omega)]
theorem playRaws_append (s : List ByteArray) (l m : List (Int × ByteArray)) : playRaws s (l ++ m) = playRaws (playRaws s l) m := by simp [playRaws]
theorem DiskM.Wf.find {d : DiskM} (h : d.Wf) (i k : Nat) (hi : i < d.strs.length) (hk : k ≤ d.trail.length) (hn : ∀ r ∈ d.trail.drop k, r.1 ≠ (i : Int)) :
    d.strs.getD i ByteArray.empty = if k = 0 then ByteArray.empty else (if (d.trail.getD (k - 1) (0, ByteArray.empty)).1 = (i : Int) then (d.trail.getD (k - 1) (0, ByteArray.empty)).2 else d.strs.getD i ByteArray.empty) := by
  have e1 : d.strs.getD i ByteArray.empty = (playRaws (List.replicate d.strs.length ByteArray.empty) (d.trail.take k)).getD i ByteArray.empty := by
    conv => lhs; rw [h.play]
    conv => lhs; rw [← List.take_append_drop k d.trail, playRaws_append]
    exact play_skip i _ _ (fun r hr => ⟨(h.inr r (List.mem_of_mem_drop hr)).1, hn r hr⟩)
  by_cases h0 : k = 0
  · rw [if_pos h0, e1, h0]
    simp [playRaws, List.getD, hi]
  · rw [if_neg h0]
    by_cases hc : (d.trail.getD (k - 1) (0, ByteArray.empty)).1 = (i : Int)
    · rw [if_pos hc, e1]
      obtain ⟨m, rfl⟩ : ∃ m, k = m + 1 := ⟨k - 1, by omega⟩
      have hm : m < d.trail.length := by omega
      rw [Nat.add_sub_cancel] at hc ⊢
      have e2 : d.trail.getD m (0, ByteArray.empty) = d.trail[m] := by simp [List.getD, hm]
      rw [e2] at hc ⊢
      rw [List.take_succ_eq_append_getElem hm, playRaws_snoc, hc, Int.toNat_natCast, List.getD, List.getElem?_set_self (by rw [playRaws_len, List.length_replicate]; exact hi)]
      rfl
    · rw [if_neg hc]
set_option maxHeartbeats 800000 in
theorem refRead_any (d : DiskM) (rp : Nat) (G : Nat → Prop) (i : Int) (w : World) (h : IsRef w d rp G) (hw : d.Wf) (ht : d.trail.length ≤ 100000000000) :
    Calls Tryd.prog 51 #[.pointer (some ⟨rp, 0, none⟩), .int .i64 i] w fun e w' => e = .returned (.tuple #[.string (d.read i).1, .int .i64 (d.read i).2]) ∧ w' = w := by
  obtain ⟨tv, h1, h2, h3, hlb, rfl⟩ := h
  have c0 := h1.cell 0 _ rfl
  have c1 := h1.cell 1 _ rfl
  by_cases hi : 0 ≤ i ∧ i < d.strs.length
  · have er : d.read i = (d.strs.getD i.toNat ByteArray.empty, 0) := by unfold DiskM.read; rw [if_pos hi]
    obtain ⟨n, rfl⟩ := Int.eq_ofNat_of_zero_le hi.1
    rw [er, Int.toNat_natCast]
    obtain ⟨sv, hsv⟩ : ∃ sv, sv = d.strs.getD n ByteArray.empty := ⟨_, rfl⟩
    rw [← hsv]
    have hnl : n < d.strs.length := by omega
    have hn1 : ¬ (n : Int) < 0 := by omega
    have hn2 : ¬ (d.strs.length : Int) ≤ (n : Int) := by omega
    have hn3 : decide (d.strs.length ≤ n) = false := by simp; omega
    obtain ⟨ta, tc, rfl, _, _⟩ := own_form h2
    have HRd := Lib.hid (rd_of_own h2)
    have HFd := Lib.hid (fun k hk hn => hsv.trans (hw.find n k hnl hk hn))
    have Hsv := Lib.hid hsv
    clear h1 h2 h3 hlb er hw hi hsv
    go_enter Tryd.func51, Tryd.ntmps51
    go_wp2_with fail
    go_loopg [6] d.trail.length (fun gk iv wr => ∃ k : Nat, gk = k ∧ iv = .int .i64 ((k : Int) - 1) ∧ k ≤ d.trail.length ∧ wr = w ∧ Hid (∀ r ∈ d.trail.drop k, r.1 ≠ (n : Int)))
    case atStart => exact ⟨_, rfl, rfl, Nat.le_refl _, rfl, Lib.hid (by rw [List.drop_length]; intro r hr; cases hr)⟩
    case round =>
      obtain ⟨k, hgk, rfl, hk, rfl, hnot⟩ := hrel
      have hfd := HFd.out k hk hnot.out
      by_cases h0 : k = 0
      · subst h0
        rw [if_pos rfl] at hfd
        have Hf := Lib.hid hfd
        have hneg : ¬ (0 : Int) ≤ ((0 : Nat) : Int) - 1 := by omega
        clear hfd
        go_wp2_with fail
        go_ret2
        rw [Hf.out]
        exact ⟨rfl, rfl⟩
      · obtain ⟨m, rfl⟩ : ∃ m, k = m + 1 := ⟨k - 1, by omega⟩
        rw [if_neg h0, Nat.add_sub_cancel] at hfd
        have hm : m < d.trail.length := by omega
        have ek : (((m + 1 : Nat) : Int) - 1) = (m : Int) := by omega
        rw [ek]
        obtain ⟨rb, rs, e1, e2, e3, _⟩ := raw_at d.trail m hm
        have hgd : d.trail.getD m (0, ByteArray.empty) = (rb, rs) := by
          have h4 := congrArg (fun l => l.getD m (0, ByteArray.empty)) e1
          rw [List.getD, List.getD, List.getElem?_append_right (by rw [List.length_take]; omega), List.length_take, show min m d.trail.length = m by omega, Nat.sub_self] at h4
          rw [List.getD, List.getElem?_eq_getElem hm]
          rw [List.getElem?_take_of_lt (by omega), List.getElem?_eq_getElem hm] at h4
          exact h4
        rw [hgd] at hfd
        obtain ⟨a0, cap0, g1, _, _, _, g2⟩ := HRd.out
        injection g1 with g1 _ g3
        subst g1; subst g3
        obtain ⟨b, off, f1, f2⟩ := g2 (m * 2) (by rw [flatRaws_length]; omega)
        obtain ⟨b', off', f3, f4⟩ := g2 (m * 2 + 1) (by rw [flatRaws_length]; omega)
        subst f1
        injection f3 with f3; injection f3 with f6 f7
        subst f6; subst f7
        clear g2
        rw [List.getD, e2] at f2
        rw [List.getD, e3, ← Nat.add_assoc] at f4
        have f2 : wr.cell? ⟨b, off + m * 2, none⟩ = some (.int .i64 rb) := f2
        have f4 : wr.cell? ⟨b, off + m * 2 + 1, none⟩ = some (.string rs) := f4
        have hm0 : (0 : Int) ≤ (m : Int) := by omega
        have hm1 : (m : Int) < (d.trail.length : Int) := by omega
        have Hfd := Lib.hid hfd
        have Hgd := Lib.hid hgd
        clear hfd hgd e1 e2 e3
        by_cases hc : rb = (n : Int)
        · go_wp2_with fail
          go_ret2
          have := Hfd.out
          rw [if_pos hc] at this
          rw [this]
          exact ⟨rfl, rfl⟩
        · go_wp2_with fail
          go_roundg m
          case measure => have := hgk; omega
          case rel =>
            refine ⟨m, rfl, rfl, by omega, rfl, Lib.hid (fun r hr => ?_)⟩
            rw [List.drop_eq_getElem_cons hm] at hr
            rcases List.mem_cons.1 hr with rfl | hr
            · have := Hgd.out
              simp [List.getD, hm] at this
              rw [this]; exact hc
            · exact hnot.out r hr
  · have er : d.read i = (ByteArray.empty, 1) := by unfold DiskM.read; rw [if_neg hi]
    rw [er]
    clear h1 h2 h3 hlb er hw
    by_cases hneg : i < 0
    · go_enter Tryd.func51, Tryd.ntmps51
      go_wp2_with fail
      go_ret2
      exact ⟨rfl, rfl⟩
    · have hge : (d.strs.length : Int) ≤ i := by omega
      go_enter Tryd.func51, Tryd.ntmps51
      go_wp2_with fail
      go_ret2
      exact ⟨rfl, rfl⟩
end Go.Proofs.YtjoadcgegobjpaaDoor
/-
  A range over a function whose iterator makes, between two rounds, what it hands out: the body is told what lies there.
-/
namespace Go.Proofs.YtjoadcgegobjpaaDoor
open Go.RowKit

/-- What abides new blocks, and the turn of a block from B on that holds no cells. -/
structure Soft (B : Nat) (I : World → Prop) : Prop where
  below : ∀ {A C : World}, I A → Below A.heap.size A C → I C
  put : ∀ {A : World} {l : Nat} {o : Obj} (o' : Obj), I A → B ≤ l → A.heap[l]? = some o → o.isCells = false → I (A.putObj l o')
/-- An iterator's contract: T tells of what it hands out next. -/
def SeqR {α : Type} (F : Fence) (n : Nat) (P : Program) (g : Nat) (lb : Array Value) (encs : α → Array Value) (Fm : Nat → Prop) (T : List α → α → World → Prop) (S Sp : List α → Prop) (w : World) : Prop :=
  ∀ (l : Nat) (J Jx : List α → World → Prop) (W : World), Mod Fm w W → (∀ s (A C : World), J s A → Below A.heap.size A C → J s C) → (∀ s (A C : World), Jx s A → Below A.heap.size A C → Jx s C) →
    (∀ pre x W1, J pre W1 → T pre x W1 → YieldAt F (n - 1) P l (encs x) W1 fun e W' => (e = .returned (.bool true) ∧ J (pre ++ [x]) W' ∧ Mod Fm W1 W') ∨ (e = .returned (.bool false) ∧ Jx (pre ++ [x]) W')) →
    J [] W → CallsIn F n P g (#[.func (.yield l) #[] #[]] ++ lb) W fun e W' => (∃ v, e = .returned v) ∧ ((∃ xs, S xs ∧ J xs W') ∨ ∃ pre, Sp pre ∧ Jx pre W')
/-- How a round's body may end. -/
def roundR {α : Type} (Fm : Nat → Prop) (I : List α → World → Prop) (Ix : Code → List α → World → Prop) (xs : List α) (W : World) : Exit → Act → World → Prop
  | .normal, _, W' => KeepsOthers W W' ∧ Mod Fm W W' ∧ I xs W'
  | .ret, _, W' => KeepsOthers W W' ∧ Ix .ret xs W'
  | .exit id, _, W' => KeepsOthers W W' ∧ Ix (.exit id) xs W'
  | .goto t, _, W' => KeepsOthers W W' ∧ Ix (.goto t) xs W'
  | .panic _, _, _ => False
  | .outgrown, _, _ => False
theorem keepsOthers_below {W W' : World} (h : Below W.heap.size W W') : KeepsOthers W W' := ⟨h.size, fun k _ hk _ => (h.block k (Array.getElem?_eq_some_iff.1 hk).1).trans hk⟩
theorem mod_put {Fm : Nat → Prop} {l : Nat} {W : World} (hn : Fm l) (o : Obj) : Mod Fm W (W.putObj l o) := Mod.of_grown (grownBy_putObj' W l o) (fun k e => by cases e; exact hn)
section
variable {F : Fence} {n : Nat} {P : Program}
theorem wpIn_rangeFunc_R {α : Type} {g : Operand} {ps : Array Tmp} {assign body : Code} {Q : Exit → Act → World → Prop} {a : Act} {w : World}
    (hro : F.round = none) (h1 : 1 ≤ n) {gf : Nat} {lb : Array Value} (hg : a.eval g = .func (.func gf) #[] lb) (hFg : F.fn gf) (eg : ∀ args w, (callFunc gf args).run P w = .ok (.enter gf args) w)
    {encs : α → Array Value} {Fm : Nat → Prop} {T : List α → α → World → Prop} {S Sp : List α → Prop} (hseq : SeqR F (n - 1) P gf lb encs Fm T S Sp w) (hFm : ∀ b, w.heap.size ≤ b → Fm b) (hps : ∀ x, (encs x).size = ps.size)
    (I : List α → World → Prop) (Ix : Code → List α → World → Prop) (hI : ∀ s, Soft w.heap.size (I s)) (hIx : ∀ c s, Soft w.heap.size (Ix c s)) (hT : ∀ s x, Soft w.heap.size (T s x)) (h0 : I [] w) (a₁ : α → Act)
    (hassign : ∀ (l : Nat) (x : α) (W : World) (K : Act → World → Prop), K (a₁ x) W → assign.wpIn (F.inRound l) (n - 1 - 1) P (Exit.then K (fun _ _ _ => False)) { tmps := (ps.zip (encs x)).foldl (fun t (p, v) => t.setIfInBounds p v) a.tmps, defers := [] } W)
    (hbody : ∀ (l : Nat) (pre : List α) (x : α) (W : World), I pre W → T pre x W → body.wpIn (F.inRound l) (n - 1 - 1) P (roundR Fm I Ix (pre ++ [x]) W) (a₁ x) W)
    (hdone : ∀ (D : Nat) (xs : List α) (W : World), S xs → I xs W → w.heap.size ≤ D → W.heap[D]? = some (.deferred (some [])) → Q .normal { a with defers := { target := .collected D, args := #[] } :: a.defers } W)
    (hstop : ∀ (D : Nat) (c : Code) (pre : List α) (W : World), Sp pre → Ix c pre W → w.heap.size ≤ D → W.heap[D]? = some (.deferred (some [])) → c.wpIn F n P Q { a with defers := { target := .collected D, args := #[] } :: a.defers } W) :
    (Code.rangeFunc g ps assign body).wpIn F n P Q a w := by
  refine wpIn_rangeFunc fun fn hfn => ?_
  rw [hro]
  let rec0 : LoopState → Option Code → Loop := fun st pe => { state := st, pending := pe, fn, tmps := a.tmps, params := ps, assign, body, defers := w.heap.size }
  obtain ⟨rc, hrc⟩ : ∃ rc, rc = rec0 := ⟨_, rfl⟩
  obtain ⟨D, hD⟩ : ∃ D, D = w.heap.size := ⟨_, rfl⟩
  obtain ⟨WA, hWA⟩ : ∃ WA, WA = w.alloc (.deferred (some [])) := ⟨_, rfl⟩
  obtain ⟨W1, hW1⟩ : ∃ W1, W1 = WA.alloc (.loop (rc .ready none)) := ⟨_, rfl⟩
  have hbA : Below w.heap.size w WA := by rw [hWA]; exact below_alloc _ _
  have hbB : Below WA.heap.size WA W1 := by rw [hW1]; exact below_alloc _ _
  have hsA : WA.heap.size = D + 1 := by rw [hWA, hD]; simp
  have hDA : WA.heap[D]? = some (.deferred (some [])) := by rw [hWA, hD]; exact heap_alloc_new w _
  have hD1 : W1.heap[D]? = some (.deferred (some [])) := by rw [hbB.block D (by omega)]; exact hDA
  have hL1 : W1.heap[D + 1]? = some (.loop (rc .ready none)) := by rw [← hsA, hW1]; exact heap_alloc_new WA _
  have hb1 : Below w.heap.size w W1 := hbA.trans (hbB.mono hbA.size)
  have hdl : D ≤ D + 1 := Nat.le_succ D
  -- what is held between two rounds
  let J : List α → World → Prop := fun pre W => I pre W ∧ W.heap[D + 1]? = some (.loop (rc .ready none)) ∧ W.heap[D]? = some (.deferred (some []))
  let Jx : List α → World → Prop := fun pre W => ∃ c, Ix c pre W ∧ W.heap[D + 1]? = some (.loop (rc .done (some c))) ∧ W.heap[D]? = some (.deferred (some []))
  have keepAt : ∀ {A C : World} {k : Nat} {o : Obj}, A.heap[k]? = some o → Below A.heap.size A C → C.heap[k]? = some o := fun h hb => (hb.block _ (Array.getElem?_eq_some_iff.1 h).1).trans h
  refine ⟨D + 1, [{ target := .collected D, args := #[] }], W1, { target := .fn (.func gf) lb, args := #[.func (.yield (D + 1)) #[] #[]] }, W1, gf, #[.func (.yield (D + 1)) #[] #[]] ++ lb, W1, ?_, ?_, ?_, ?_, fun _ => h1, ?_⟩
  · rw [hW1, hWA, hrc, hD]; exact run_enterLoop_outer _ _ _ _ _
  · simp only [resolve, hg]
    simp [go_sem]
  · intro f' hf'; simp [Target.leads] at hf'; subst hf'; exact hFg
  · simp [invoke, go_sem, eg]
  · refine (hseq (D + 1) J Jx W1 (Mod.of_below hb1) (fun s A C h hb => ⟨(hI s).below h.1 hb, keepAt h.2.1 hb, keepAt h.2.2 hb⟩) (fun s A C h hb => by
      obtain ⟨c, h1, h2, h3⟩ := h
      exact ⟨c, (hIx c s).below h1 hb, keepAt h2 hb, keepAt h3 hb⟩) ?_ ⟨(hI []).below ((hI []).below h0 hbA) hbB, hL1, hD1⟩).mono ?_
    · rintro pre x W ⟨hi, hl, hd⟩ ht
      have hlt : D + 1 < W.heap.size := (Array.getElem?_eq_some_iff.1 hl).1
      have hy := run_yield (P := P) (args := encs x) hl (by rw [hrc]; exact hps x)
      rw [hrc] at hy
      refine ⟨fn, _, assign, body, hy, roundIn_of_wpIn hfn (hassign _ x W _ ⟨_, run_beginRound hl (by rw [hrc]), ?_⟩)⟩
      clear hy
      obtain ⟨busy, hbu⟩ : ∃ b : Loop, b = { rc .ready none with state := .busy } := ⟨_, rfl⟩
      rw [← hbu]
      obtain ⟨W2, hW2⟩ : ∃ W2, W2 = W.putObj (D + 1) (.loop busy) := ⟨_, rfl⟩
      rw [← hW2]
      have hl2 : W2.heap[D + 1]? = some (.loop busy) := by rw [hW2]; exact World.putObj_heap_same hlt
      have hd2 : W2.heap[D]? = some (.deferred (some [])) := by rw [hW2]; exact (World.putObj_heap_other (by omega)).trans hd
      have hb2 : Mod Fm W W2 := by rw [hW2]; exact mod_put (hFm _ (by omega)) _
      have hi2 : I pre W2 := by rw [hW2]; exact (hI pre).put _ hi (by omega) hl rfl
      have ht2 : T pre x W2 := by rw [hW2]; exact (hT pre x).put _ ht (by omega) hl rfl
      have hend : ∀ (jump : Option Code) (W3 : World), KeepsOthers W2 W3 → (Instr.endRound (D + 1) jump).run P W3 = .ok (.bool jump.isNone) (W3.putObj (D + 1) (.loop (rc (if jump.isNone then .ready else .done) jump))) ∧
          W3.heap[D + 1]? = some (.loop busy) ∧ (W3.putObj (D + 1) (.loop (rc (if jump.isNone then .ready else .done) jump))).heap[D + 1]? = some (.loop (rc (if jump.isNone then .ready else .done) jump)) ∧
          (W3.putObj (D + 1) (.loop (rc (if jump.isNone then .ready else .done) jump))).heap[D]? = some (.deferred (some [])) := fun jump W3 hk => by
        have hl3 := hk.same _ _ hl2 rfl
        have hr := run_endRound (P := P) jump hl3
        refine ⟨by rw [hr, hbu, hrc], hl3, World.putObj_heap_same (Array.getElem?_eq_some_iff.1 hl3).1, (World.putObj_heap_other (by omega)).trans (hk.same _ _ hd2 rfl)⟩
      refine wpIn_mono (hbody _ pre x _ hi2 ht2) ?_
      rintro e a3 W3 hp
      cases e with
      | normal =>
        obtain ⟨hk3, hbl3, hi3⟩ := hp
        obtain ⟨hr, hl3, hl4, hd4⟩ := hend none W3 hk3
        exact ⟨_, _, hr, .inl ⟨rfl, ⟨(hI _).put _ hi3 (by omega) hl3 rfl, hl4, hd4⟩, (hb2.trans hbl3).trans (mod_put (hFm _ (by omega)) _)⟩⟩
      | ret =>
        obtain ⟨hr, hl3, hl4, hd4⟩ := hend (some .ret) W3 hp.1
        exact ⟨_, _, hr, .inr ⟨rfl, .ret, (hIx _ _).put _ hp.2 (by omega) hl3 rfl, hl4, hd4⟩⟩
      | exit id =>
        obtain ⟨hr, hl3, hl4, hd4⟩ := hend (some (.exit id)) W3 hp.1
        exact ⟨_, _, hr, .inr ⟨rfl, .exit id, (hIx _ _).put _ hp.2 (by omega) hl3 rfl, hl4, hd4⟩⟩
      | goto t =>
        obtain ⟨hr, hl3, hl4, hd4⟩ := hend (some (.goto t)) W3 hp.1
        exact ⟨_, _, hr, .inr ⟨rfl, .goto t, (hIx _ _).put _ hp.2 (by omega) hl3 rfl, hl4, hd4⟩⟩
      | panic ch => exact hp.elim
      | outgrown => exact hp.elim
    · rintro e W2 ⟨⟨v, rfl⟩, (⟨xs, hS, hi, hl, hd⟩ | ⟨pre, hS, c, hi, hl, hd⟩)⟩
      · have hr := run_endLoop (P := P) hl (by rw [hrc]; simp [rec0])
        rw [hrc] at hr
        exact ⟨none, _, hr, by rw [hD] at *; exact hdone _ xs _ hS ((hI xs).put _ hi (by omega) hl rfl) (Nat.le_refl _) ((World.putObj_heap_other (by omega)).trans hd)⟩
      · have hr := run_endLoop (P := P) hl (by rw [hrc]; simp [rec0])
        rw [hrc] at hr
        exact ⟨some c, _, hr, by rw [hD] at *; exact hstop _ c pre _ hS ((hIx c pre).put _ hi (by omega) hl rfl) (Nat.le_refl _) ((World.putObj_heap_other (by omega)).trans hd)⟩
end
end Go.Proofs.YtjoadcgegobjpaaDoor
/-
  The walk of record.All: an iterator is made.
-/
namespace Go.Proofs.YtjoadcgegobjpaaDoor
open Go.RowKit

/-- What the iterator has captured. -/
structure AllAt (n₀ : Nat) (e : UInt32) (bl : List (List UInt8)) (E B : Nat) (w : World) : Prop where
  lo : n₀ ≤ E ∧ n₀ ≤ B
  ec : w.cell? ⟨E, 0, none⟩ = some (.int .u32 (e.toNat : Int))
  bc : ∃ bv, w.cell? ⟨B, 0, none⟩ = some bv ∧ Rd w bv bl.length (bl.map SV) ∧ ∀ k, bv.ownBlock = some k → n₀ ≤ k
theorem AllAt.below {n₀ : Nat} {e : UInt32} {bl : List (List UInt8)} {E B : Nat} {w w' : World} (h : AllAt n₀ e bl E B w) (hb : Below w.heap.size w w') : AllAt n₀ e bl E B w' := by
  obtain ⟨bv, h1, h2, h3⟩ := h.bc
  exact ⟨h.lo, below_heap hb h.ec, bv, below_heap hb h1, h2.below hb, h3⟩
theorem mod_cell {F : Nat → Prop} {w w' : World} (hm : Mod F w w') {a : Addr} {x : Value} (h : w.cell? a = some x) (hF : ¬ F a.block) : w'.cell? a = some x := by
  rw [World.cell?_of_block (hm.block a.block (cell_lt h) hF)]; exact h
theorem AllAt.kept {n₀ : Nat} {e : UInt32} {bl : List (List UInt8)} {E B : Nat} {w w' : World} (h : AllAt n₀ e bl E B w) (hm : Mod (fun b => b < n₀ ∨ w.heap.size ≤ b) w w') : AllAt n₀ e bl E B w' := by
  obtain ⟨bv, h1, h2, h3⟩ := h.bc
  have hE := cell_lt h.ec
  have hB := cell_lt h1
  obtain ⟨l1, l2⟩ := h.lo
  refine ⟨h.lo, mod_cell hm h.ec (by simp only at hE ⊢; omega), bv, mod_cell hm h1 (by simp only at hB ⊢; omega), h2.keep (fun k hk hl => hm.block k hl (by have := h3 k hk; omega)), h3⟩
theorem all_calls (e : UInt32) (lv : Value) (bl : List (List UInt8)) (w : World) (hl : Rd w lv bl.length (bl.map SV)) (hn : bl.length ≤ 8796093022208) :
    Calls Tryd.prog 36 #[.int .u32 (e.toNat : Int), lv] w fun r w' => ∃ E B, r = .returned (.func (.func 55) #[] #[.pointer (some ⟨E, 0, none⟩), .pointer (some ⟨B, 0, none⟩)]) ∧ AllAt w.heap.size e bl E B w' ∧ Below w.heap.size w w' := by
  obtain ⟨la, lc, rfl⟩ : ∃ a c, lv = .slice a bl.length c := by obtain ⟨a, c, h, _⟩ := hl; exact ⟨a, c, h⟩
  have hb1 := below_alloc w (.cells #[.int .u32 (e.toNat : Int)] 22)
  have Hb1 := Lib.hid hb1
  have HX1 := Lib.hid (Box.new w #[.int .u32 (e.toNat : Int)] 22)
  have HL1 := Lib.hid (hl.below hb1)
  have Hn := Lib.hid (show 0 + bl.length ≤ 8796093022208 by omega)
  clear hl hb1
  go_enter Tryd.func36, Tryd.ntmps36
  go_wp2_with (at_builtin; refine appT rfl _ _ rfl w.heap.size _ 0 [] rfl (World.ownsRow_nil _ _ _ _) _ bl rfl HL1.out Hn.out Hb1.out.size ?_)
  intro v' w2 ho2 hg2 _
  obtain ⟨ra, rc, rfl⟩ : ∃ a c, v' = .slice a bl.length c := by
    obtain ⟨a, c, h, _⟩ := own_slice ho2
    exact ⟨a, c, by simpa using h⟩
  have hg3 : Below (w.alloc (.cells #[.int .u32 (e.toNat : Int)] 22)).heap.size (w.alloc (.cells #[.int .u32 (e.toNat : Int)] 22)) w2 := below_of_grown hg2 (Nat.le_refl _) (fun k h => by simp [Value.ownBlock] at h)
  have hb2 := Hb1.out.trans (hg3.mono Hb1.out.size)
  have hx2 := HX1.out.below hg3
  have Hb2 := Lib.hid hb2
  have HX2 := Lib.hid hx2
  have HR2 := Lib.hid (rd_of_own ho2)
  have HO2 := Lib.hid (fun k hk => (ho2.lt k hk).1)
  clear hg3 hb2 hx2 ho2 hg2 HX1 HL1 Hb1
  go_wp2_with fail
  go_ret
  have hm := below_alloc w2 (.cells #[.slice ra bl.length rc] 59)
  refine ⟨_, _, rfl, ⟨⟨Nat.le_refl _, Hb2.out.size⟩, (HX2.out.below hm).cell 0 _ rfl, _, (Box.new w2 #[.slice ra bl.length rc] 59).cell 0 _ rfl, ?_, HO2.out⟩, Hb2.out.trans (hm.mono Hb2.out.size)⟩
  have := HR2.out.below hm
  simpa using this
end Go.Proofs.YtjoadcgegobjpaaDoor
/-
  The walk of record.All's iterator.
-/
namespace Go.Proofs.YtjoadcgegobjpaaDoor
open Go.RowKit Go.Shelf
attribute [local go_sem] Oper.semAt_some

/-- Where the record number i begins. -/
def posM (e : UInt32) (bl : List (List UInt8)) : Nat → Nat
  | 0 => 0
  | i + 1 => match oneM e (bl.drop (posM e bl i)) with
    | none => posM e bl i
    | some g => posM e bl i + g.2
def payM (e : UInt32) (bl : List (List UInt8)) (i : Nat) : Option (List UInt8 × Nat) := oneM e (bl.drop (posM e bl i))
theorem posM_succ {e : UInt32} {bl : List (List UInt8)} {i : Nat} {p : List UInt8} {k : Nat} (h : payM e bl i = some (p, k)) : posM e bl (i + 1) = posM e bl i + k := by
  unfold payM at h
  rw [posM, h]
theorem posM_le (e : UInt32) (bl : List (List UInt8)) : ∀ i, posM e bl i ≤ bl.length
  | 0 => Nat.zero_le _
  | i + 1 => by
    have ih := posM_le e bl i
    rw [posM]
    cases h : oneM e (bl.drop (posM e bl i)) with
    | none => exact ih
    | some g =>
      have := oneM_pos (p := g.1) (k := g.2) h
      rw [List.length_drop] at this
      show posM e bl i + g.2 ≤ _
      omega
/-- What the iterator hands out next. -/
def NextR (n₀ : Nat) (e : UInt32) (bl : List (List UInt8)) (pre : List (Nat × Value)) (x : Nat × Value) (W : World) : Prop :=
  x.1 = posM e bl pre.length ∧ (∃ p k, payM e bl pre.length = some (p, k) ∧ OwnM W n₀ 5 x.2 p.length (p.map V8)) ∧ ∀ y ∈ pre, Apart y.2 x.2
structure AllK (e : UInt32) (E B n : Nat) (ba : Option Addr) (bc : Nat) (wr w' : World) : Prop where
  ec : w'.cell? ⟨E, 0, none⟩ = some (.int .u32 (e.toNat : Int))
  bc : w'.cell? ⟨B, 0, none⟩ = some (.slice ba n bc)
  below : Below wr.heap.size wr w'
theorem AllK.keep {e : UInt32} {E B n : Nat} {ba : Option Addr} {bc : Nat} {wr w1 w2 : World} (h : AllK e E B n ba bc wr w1) (hb : Below w1.heap.size w1 w2) : AllK e E B n ba bc wr w2 := ⟨below_heap hb h.ec, below_heap hb h.bc, h.below.trans (hb.mono h.below.size)⟩
set_option maxRecDepth 100000 in
set_option maxHeartbeats 2000000 in
theorem allIt (e : UInt32) (bl : List (List UInt8)) (hbig : ∀ b ∈ bl, b.length ≤ 9223372036854775807) (E B n₀ : Nat) (w : World) (hA : AllAt n₀ e bl E B w) (n : Nat) (hn : 1 ≤ n) :
    SeqR Fence.wide n Tryd.prog 55 #[.pointer (some ⟨E, 0, none⟩), .pointer (some ⟨B, 0, none⟩)] (fun x : Nat × Value => #[.int .i64 (x.1 : Int), x.2]) (fun b => b < n₀ ∨ w.heap.size ≤ b) (NextR w.heap.size e bl) (fun xs => payM e bl xs.length = none) (fun _ => True) w := by
  intro l J Jx W hW hJ hJx hY h0
  refine callsIn_of_wp Tryd.func55 rfl trivial ?_ rfl
  simp only [Tryd.ntmps55, List.size_toArray, List.length_cons, List.length_nil, Nat.reduceAdd, Nat.reduceSub, Array.replicate_succ, Array.replicate_zero, List.push_toArray, List.append_toArray, List.nil_append, List.cons_append]
  refine wpIn_wide.2 ?_
  have HY := Lib.hid hY
  have HJ := Lib.hid hJ
  have HJx := Lib.hid hJx
  have HA := Lib.hid hA
  have HW := Lib.hid hW
  have Hbig := Lib.hid hbig
  clear hY hJ hJx hA hW hbig
  go_wp2_with fail
  go_loopg [4, 5, 6] bl.length (fun gk s4 s5 s6 wr => ∃ pre : List (Nat × Value), gk + posM e bl pre.length = bl.length ∧ s4 = .int .i64 ((posM e bl pre.length : Nat) : Int) ∧ J pre wr ∧ Mod (fun b => b < n₀ ∨ w.heap.size ≤ b) w wr ∧ ∀ y ∈ pre, ∀ b, y.2.ownBlock = some b → b < wr.heap.size)
  case atStart => exact ⟨[], by simp [posM], rfl, h0, HW.out, fun y hy => by simp at hy⟩
  case round =>
    obtain ⟨pre, hgk, rfl, hj, hb, hlt⟩ := hrel
    obtain ⟨at_, hat⟩ : ∃ a, a = posM e bl pre.length := ⟨_, rfl⟩
    rw [← hat] at hgk ⊢
    have Hat := Lib.hid hat
    have Hgk := Lib.hid hgk
    have HJ0 := Lib.hid hj
    have HB := Lib.hid hb
    have Hlt := Lib.hid hlt
    have hAw := HA.out.kept HB.out
    have hce := hAw.ec
    obtain ⟨bv, hcb, hbr, _⟩ := hAw.bc
    obtain ⟨ba, bc, rfl⟩ : ∃ a c, bv = .slice a bl.length c := by obtain ⟨a, c, h, _⟩ := hbr; exact ⟨a, c, h⟩
    have hal : at_ ≤ bl.length := by omega
    have hlen := hbr.len
    have hsl := run_tail (P := Tryd.prog) (t := 59) Tryd.underlying59 (by kernel_rfl) ba bl.length bc at_ hal
    have hrt := tailV_rd hbr (k := at_) hal (by simp)
    rw [← List.map_drop, ← List.length_drop] at hrt
    obtain ⟨tv, htv⟩ : ∃ t, t = tailV ba bl.length bc at_ := ⟨_, rfl⟩
    rw [← htv] at hsl hrt
    have Hone := Lib.hid (fun (w' : World) (h : Below wr.heap.size wr w') => one_calls e tv (bl.drop at_) w' (hrt.below h) (fun b hb => Hbig.out b (List.mem_of_mem_drop hb)))
    clear hAw hbr hrt hj hb hlt htv hat hgk
    go_wp2_with fail
    refine wp_region_held_drew (S := AllK e E B bl.length ba bc wr) (by kernel_rfl) ⟨below_heap (below_drew _) hce, below_heap (below_drew _) hcb, below_drew _⟩ (fun hHeld => ?_)
    have hk0 : ∀ w', AllK e E B bl.length ba bc wr w' → w'.cell? ⟨E, 0, none⟩ = some (.int .u32 (e.toNat : Int)) := fun w' h => h.ec
    have hk1 : ∀ w', AllK e E B bl.length ba bc wr w' → w'.cell? ⟨B, 0, none⟩ = some (.slice ba bl.length bc) := fun w' h => h.bc
    refine wpAnyH_take (i := 0) (oi := ⟨some 8, _, _, _, _, _⟩) (v := ?_) rfl (by kernel_rfl) (by kernel_rfl) (by kernel_rfl) (fun _ _ _ h => h) (Or.inl ⟨by kernel_rfl, ?_⟩) (by assumption) ?_
    rotate_left 1
    · intro w' hw'; go_simp; try with_reducible rfl
    simp only [Act.put, List.setIfInBounds_toArray, List.set_cons_zero, List.set_cons_succ]
    refine wpAnyH_take (i := 1) (oi := ⟨some 9, _, _, _, _, _⟩) (v := ?_) rfl (by kernel_rfl) (by kernel_rfl) (by kernel_rfl) (fun _ _ _ h => h) (Or.inl ⟨by kernel_rfl, ?_⟩) (by assumption) ?_
    rotate_left 1
    · intro w' hw'; go_simp; try with_reducible rfl
    simp only [Act.put, List.setIfInBounds_toArray, List.set_cons_zero, List.set_cons_succ]
    refine wpAnyH_take (i := 2) (oi := ⟨some 10, _, _, _, _, _⟩) (v := ?_) rfl (by kernel_rfl) (by kernel_rfl) (by kernel_rfl) (fun _ _ _ h => h) (Or.inl ⟨by kernel_rfl, ?_⟩) (by assumption) ?_
    rotate_left 1
    · intro w' hw'; go_simp; try with_reducible rfl
    simp only [Act.put, List.setIfInBounds_toArray, List.set_cons_zero, List.set_cons_succ]
    refine wpAnyH_take (i := 3) (oi := ⟨some 11, _, _, _, _, _⟩) (v := ?_) rfl (by kernel_rfl) (by kernel_rfl) (by kernel_rfl) (fun _ _ _ h => h) (Or.inl ⟨by kernel_rfl, ?_⟩) (by assumption) ?_
    rotate_left 1
    · intro w' hw'; go_simp; try with_reducible rfl
    simp only [Act.put, List.setIfInBounds_toArray, List.set_cons_zero, List.set_cons_succ]
    refine wpAnyH_ready (rs := [4]) (by kernel_rfl) (by simp) (AllReadyH.cons (o := ⟨some 12, .call _, _, _, _, _⟩) rfl (fun K hK => ?_) AllReadyH.nil)
    try rw [if_pos (by kernel_rfl)]
    go_simp
    refine (Hone.out _ hHeld.below).mono ?_
    rintro rr w4 ⟨hb4, hone⟩
    obtain ⟨pv, kk, rfl, hkk⟩ : ∃ (pv : Value) (kk : Nat), rr = .returned (.tuple #[pv, .int .i64 (kk : Int)]) ∧ ((payM e bl pre.length = none ∧ kk = 0) ∨ ∃ p, payM e bl pre.length = some (p, kk) ∧ OwnM w4 wr.heap.size 5 pv p.length (p.map V8)) := by
      rcases hone with ⟨h1, h2⟩ | ⟨p, k, v, h1, h2, h3⟩
      · exact ⟨_, 0, h2, .inl ⟨by unfold payM; rw [← Hat.out]; exact h1, rfl⟩⟩
      · exact ⟨v, k, h2, .inr ⟨p, by unfold payM; rw [← Hat.out]; exact h1, h3.lower hHeld.below.size⟩⟩
    refine hK.out _ _ (hHeld.keep hb4) (fun hHeld4 => ?_)
    clear hK K hone hHeld
    have Hkk := Lib.hid hkk
    clear hkk
    try simp only [Act.put, List.setIfInBounds_toArray, List.set_cons_zero, List.set_cons_succ]
    refine wpAnyH_take (i := 5) (oi := ⟨some 7, _, _, _, _, _⟩) (v := ?_) rfl (by kernel_rfl) (by kernel_rfl) (by kernel_rfl) (fun _ _ _ h => h) (Or.inl ⟨by kernel_rfl, ?_⟩) (by assumption) ?_
    rotate_left 1
    · intro w' hw'; go_simp; try with_reducible rfl
    simp only [Act.put, List.setIfInBounds_toArray, List.set_cons_zero, List.set_cons_succ]
    refine wpAnyH_take (i := 6) (oi := ⟨some 13, _, _, _, _, _⟩) (v := ?_) rfl (by kernel_rfl) (by kernel_rfl) (by kernel_rfl) (fun _ _ _ h => h) (Or.inl ⟨by kernel_rfl, ?_⟩) (by assumption) ?_
    rotate_left 1
    · intro w' hw'; go_simp; try with_reducible rfl
    simp only [Act.put, List.setIfInBounds_toArray, List.set_cons_zero, List.set_cons_succ]
    refine wpAnyH_take (i := 7) (oi := ⟨some 14, _, _, _, _, _⟩) (v := ?_) rfl (by kernel_rfl) (by kernel_rfl) (by kernel_rfl) (fun _ _ _ h => h) (Or.inl ⟨by kernel_rfl, ?_⟩) (by assumption) ?_
    rotate_left 1
    · intro w' hw'; go_simp; try with_reducible rfl
    simp only [Act.put, List.setIfInBounds_toArray, List.set_cons_zero, List.set_cons_succ]
    refine wpAnyH_take (i := 8) (oi := ⟨some 5, _, _, _, _, _⟩) (v := ?_) rfl (by kernel_rfl) (by kernel_rfl) (by kernel_rfl) (fun _ _ _ h => h) (Or.inl ⟨by kernel_rfl, ?_⟩) (by assumption) ?_
    rotate_left 1
    · intro w' hw'; go_simp; try with_reducible rfl
    simp only [Act.put, List.setIfInBounds_toArray, List.set_cons_zero, List.set_cons_succ]
    refine wpAnyH_take (i := 9) (oi := ⟨some 6, _, _, _, _, _⟩) (v := ?_) rfl (by kernel_rfl) (by kernel_rfl) (by kernel_rfl) (fun _ _ _ h => h) (Or.inl ⟨by kernel_rfl, ?_⟩) (by assumption) ?_
    rotate_left 1
    · intro w' hw'; go_simp; try with_reducible rfl
    simp only [Act.put, List.setIfInBounds_toArray, List.set_cons_zero, List.set_cons_succ]
    refine wpAnyH_done (by kernel_rfl) ?_ _
    have hjw := HJ.out pre wr w4 HJ0.out hHeld4.below
    have hbw := HB.out.trans (Mod.of_below (F := fun b => b < n₀ ∨ w.heap.size ≤ b) hHeld4.below)
    have hsw := hHeld4.below.size
    have HJ4 := Lib.hid hjw
    have HB4 := Lib.hid hbw
    clear hHeld4 hk0 hk1 hce hcb hsl Hone HJ0 hjw hbw hb4
    by_cases h0k : kk = 0
    · have hpn : payM e bl pre.length = none := by
        rcases Hkk.out with h | ⟨p, h, _⟩
        · exact h.1
        · have := oneM_pos h; omega
      have Hpn := Lib.hid hpn
      clear hpn
      subst h0k
      have hz : (((0 : Nat) : Int) == 0) = true := rfl
      go_wp2_with fail
      refine bodyPost_ret (results_none rfl _ _ _) rfl ?_
      exact ⟨⟨_, rfl⟩, .inl ⟨pre, Hpn.out, HJ4.out⟩⟩
    · obtain ⟨p, hp, hown⟩ : ∃ p, payM e bl pre.length = some (p, kk) ∧ OwnM w4 wr.heap.size 5 pv p.length (p.map V8) := by
        rcases Hkk.out with h | h
        · exact absurd h.2 h0k
        · exact h
      have hz : ((kk : Int) == 0) = false := by rw [beq_eq_false_iff_ne]; omega
      obtain ⟨fn, tmps, assign, body, hy, hR⟩ := HY.out pre (at_, pv) w4 HJ4.out ⟨Hat.out, ⟨p, kk, hp, hown.lower HB.out.size⟩, fun y hy k hk hk2 => by have h1 := Hlt.out y hy k hk; have h2 := (hown.lt k hk2).1; omega⟩
      have Hp := Lib.hid hp
      have HO := Lib.hid hown
      clear hp hown
      go_upto_region 2 with (fail)
      refine (wpIn_wide (n := n)).1 ?_
      gi_wp2
      refine hR.mono ?_
      rintro rr w5 (⟨rfl, hj5, hb5⟩ | ⟨rfl, hjx5⟩)
      · have hpos : posM e bl (pre ++ [(at_, pv)]).length = at_ + kk := by
          rw [List.length_append, List.length_singleton, posM_succ Hp.out, ← Hat.out]
        have hle := posM_le e bl (pre ++ [(at_, pv)]).length
        rw [hpos] at hle
        have hk1 := (oneM_pos Hp.out).1
        have HJ5 := Lib.hid hj5
        have HB5 := Lib.hid hb5
        have Hpos := Lib.hid hpos
        clear hj5 hb5 hpos hR hy
        have hwr : wrap64 ((at_ : Int) + (kk : Int)) = (at_ : Int) + (kk : Int) := by unfold wrap64; omega
        try gi_wp2
        go_wp2_with fail
        go_roundg (bl.length - (at_ + kk))
        case measure => have := Hgk.out; omega
        case rel => exact ⟨pre ++ [(at_, pv)], by rw [Hpos.out]; omega, by rw [Hpos.out]; go_num, HJ5.out, HB4.out.trans HB5.out, fun y hy b hb => by
          have hs5 := HB5.out.size
          rcases List.mem_append.1 hy with hy | hy
          · have := Hlt.out y hy b hb; omega
          · have hy2 : y = (at_, pv) := by simpa using hy
            subst hy2
            have := (HO.out.lt b hb).2
            omega⟩
      · try gi_wp2
        go_wp2_with fail
        refine bodyPost_ret (results_none rfl _ _ _) rfl ?_
        exact ⟨⟨_, rfl⟩, .inr ⟨_, trivial, hjx5⟩⟩
end Go.Proofs.YtjoadcgegobjpaaDoor
/-
  Records that are laid one behind the other, in plain mathematics.
-/
namespace Go.Proofs.YtjoadcgegobjpaaDoor

def laidM (e : UInt32) (ps : List (List UInt8)) : List (List UInt8) := ps.flatMap (frameM e)
theorem laid_pos (e : UInt32) (ps : List (List UInt8)) (t : List (List UInt8)) (hp : ∀ p ∈ ps, p.length ≤ 512) : ∀ i, i ≤ ps.length → posM e (laidM e ps ++ t) i = (laidM e (ps.take i)).length ∧ (∀ h : i < ps.length, payM e (laidM e ps ++ t) i = some (ps[i], (frameM e ps[i]).length)) := by
  have hdrop : ∀ i, i ≤ ps.length → (laidM e ps ++ t).drop (laidM e (ps.take i)).length = laidM e (ps.drop i) ++ t := by
    intro i hi
    have h1 : laidM e ps = laidM e (ps.take i) ++ laidM e (ps.drop i) := by
      unfold laidM
      rw [← List.flatMap_append, List.take_append_drop]
    rw [h1, List.append_assoc, List.drop_left]
  have hpay : ∀ i (h : i < ps.length), posM e (laidM e ps ++ t) i = (laidM e (ps.take i)).length → payM e (laidM e ps ++ t) i = some (ps[i], (frameM e ps[i]).length) := by
    intro i h hpos
    unfold payM
    rw [hpos, hdrop i (Nat.le_of_lt h), List.drop_eq_getElem_cons h]
    show oneM e ((frameM e ps[i] ++ laidM e (ps.drop (i + 1))) ++ t) = _
    rw [List.append_assoc]
    exact oneM_frame e _ _ (hp _ (List.getElem_mem h))
  intro i
  induction i with
  | zero =>
    intro hi
    exact ⟨rfl, fun h => hpay 0 h rfl⟩
  | succ i ih =>
    intro hi
    obtain ⟨h1, h2⟩ := ih (by omega)
    have h3 : posM e (laidM e ps ++ t) (i + 1) = (laidM e (ps.take (i + 1))).length := by
      rw [posM_succ (h2 (by omega)), h1]
      have h4 : ps.take (i + 1) = ps.take i ++ [ps[i]] := by rw [List.take_add_one, List.getElem?_eq_getElem (by omega)]; rfl
      rw [h4]
      unfold laidM
      rw [List.flatMap_append, List.length_append]; simp
    exact ⟨h3, fun h => hpay (i + 1) h h3⟩
/-- Behind the last of them. -/
theorem laid_end (e : UInt32) (ps : List (List UInt8)) (t : List (List UInt8)) (hp : ∀ p ∈ ps, p.length ≤ 512) (ht : oneM e t = none) : posM e (laidM e ps ++ t) ps.length = (laidM e ps).length ∧ payM e (laidM e ps ++ t) ps.length = none := by
  have h := (laid_pos e ps t hp ps.length (Nat.le_refl _)).1
  rw [List.take_length] at h
  refine ⟨h, ?_⟩
  unfold payM
  rw [h, List.drop_left]; exact ht
/-- What does not begin as a first block of the epoch is no record. -/
theorem one_begins (e : UInt32) (b : List UInt8) (r : List (List UInt8)) (h : ¬ b.take 5 = 104 :: le e.toNat 4) : oneM e (b :: r) = none := by
  rw [oneM]
  by_cases h1 : b.length < 11
  · rw [if_pos h1]
  rw [if_neg h1]
  by_cases h2 : sizeOf0 b > 512 ∨ b.length ≠ 11 + min (sizeOf0 b) 245
  · rw [if_pos h2]
  rw [if_neg h2]
  simp only
  rw [if_pos]
  right
  intro h3
  apply h
  have h4 := congrArg (List.take 5) h3
  rw [List.take_take] at h4
  rw [show min 5 11 = 5 from rfl] at h4
  rw [← h4]
  simp [headM, pre, le]
end Go.Proofs.YtjoadcgegobjpaaDoor
