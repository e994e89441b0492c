/-
  The document's answer for layer 9 (lineageref09), and disk.Read: walks over the same plain disk.
-/
import Derived.Test.YtbmijamailfaeaaDoorDiskW
import Derived.Deep.LoopGhost
namespace Go.Proofs.YtbmijamailfaeaaDoor
open Go.RowKit
set_option maxRecDepth 100000

def leftI : Option Nat → Int
  | none => -1
  | some n => (n : Int)
/-- A disk as the document has it. -/
def IsRef (w : World) (d : DiskM) (rp : Nat) (G : Nat → Prop) : Prop :=
  ∃ tv : Value, Box w rp #[.int .i64 (d.strs.length : Int), tv, .int .i64 (leftI d.left)] 54 ∧ w.ownsRow 0 71 2 tv d.trail.length (flatRaws d.trail) ∧ (∀ k, tv.ownBlock = some k → k ≠ rp) ∧ (∀ n, d.left = some n → n ≤ 9223372036854775807) ∧ G = fun k => k = rp ∨ tv.ownBlock = some k
theorem IsRef.mod {w w' : World} {d : DiskM} {rp : Nat} {G F : Nat → Prop} (h : IsRef w d rp G) (hm : Mod F w w') (hg : ∀ k, G k → ¬ F k) : IsRef w' d rp G := by
  obtain ⟨tv, h1, h2, h3, hlb, rfl⟩ := h
  exact ⟨tv, h1.mod hm (hg rp (.inl rfl)), own_mod h2 hm (fun k hk => hg k (.inr hk)), h3, hlb, rfl⟩
theorem IsRef.lt {w : World} {d : DiskM} {rp : Nat} {G : Nat → Prop} (h : IsRef w d rp G) : ∀ k, G k → k < w.heap.size := by
  obtain ⟨tv, h1, h2, h3, hlb, rfl⟩ := h
  rintro k (rfl | hk)
  · exact h1.lt
  · exact (h2.lt k hk).2
theorem IsRef.below {w w' : World} {d : DiskM} {rp : Nat} {G : Nat → Prop} (h : IsRef w d rp G) (hb : Below w.heap.size w w') : IsRef w' d rp G := h.mod (Mod.of_below (F := fun _ => False) hb) (fun _ _ h => h)
/-- What a read tells. -/
def DiskM.read (d : DiskM) (i : Int) : ByteArray × Int := if 0 ≤ i ∧ i < d.strs.length then (d.strs.getD i.toNat ByteArray.empty, 0) else (ByteArray.empty, 1)
theorem read_any (d : DiskM) (p : Nat) (F : Nat → Prop) (i : Int) (w : World) (h : IsDisk w d p F) :
    Calls Tryd.prog 48 #[.pointer (some ⟨p, 0, none⟩), .int .i64 i] w fun e w' => e = .returned (.tuple #[.string (d.read i).1, errV (d.read i).2]) ∧ w = w' := by
  unfold DiskM.read
  by_cases hi : 0 ≤ i ∧ i < d.strs.length
  · rw [if_pos hi]
    obtain ⟨n, rfl⟩ := Int.eq_ofNat_of_zero_le hi.1
    exact read_yes d p F n w h (by omega)
  · rw [if_neg hi]
    exact read_no d p F i w h hi
theorem refNew_no (n : Int) (w : World) (h : n < 1 ∨ 4096 < n) : Calls Tryd.prog 17 #[.int .i64 n] w fun e w' => e = .returned (.tuple #[.pointer none, .int .i64 1]) ∧ w' = w := by
  by_cases h1 : n < 1
  · go_enter Tryd.func17, Tryd.ntmps17
    go_wp2_with fail
    go_ret2
    exact ⟨rfl, rfl⟩
  · have h2 : 4096 < n := by omega
    go_enter Tryd.func17, Tryd.ntmps17
    go_wp2_with fail
    go_ret2
    exact ⟨rfl, rfl⟩
theorem refNew_yes (n : Nat) (w : World) (h1 : 1 ≤ n) (h2 : n ≤ 4096) : Calls Tryd.prog 17 #[.int .i64 (n : Int)] w fun e w' => e = .returned (.tuple #[.pointer (some ⟨w.heap.size, 0, none⟩), .int .i64 0]) ∧
    ∃ G, IsRef w' { strs := List.replicate n ByteArray.empty, trail := [], left := none } w.heap.size G ∧ Below w.heap.size w w' ∧ ∀ k, G k → w.heap.size ≤ k := by
  have c1 : ¬ (n : Int) < 1 := by omega
  have c2 : ¬ (4096 : Int) < (n : Int) := by omega
  go_enter Tryd.func17, Tryd.ntmps17
  go_wp2_with fail
  go_ret2
  refine ⟨rfl, _, ⟨.slice none 0 0, ?_, World.ownsRow_nil _ _ _ _, fun k hk => (by simp [Value.ownBlock] at hk), fun m hm => (by cases hm), rfl⟩, below_alloc _ _, fun k hk => ?_⟩
  · simp only [List.length_replicate]
    exact Box.new _ _ _
  · rcases hk with rfl | hk
    · exact Nat.le_refl _
    · simp [Value.ownBlock] at hk
theorem refCut_calls (d : DiskM) (rp : Nat) (G : Nat → Prop) (n : Int) (w : World) (h : IsRef w d rp G) (hn : n ≤ 9223372036854775807) :
    Calls Tryd.prog 19 #[.pointer (some ⟨rp, 0, none⟩), .int .i64 n] w fun e w' => e = .returned (.tuple #[]) ∧ IsRef w' { d with left := if n < 0 then none else some n.toNat } rp G ∧ Mod G w w' := by
  obtain ⟨tv, h1, h2, h3, hlb, rfl⟩ := h
  have hmx : ∀ ts t w', (Builtin.max_ ts t #[.int .i64 n, .int .i64 (-1)]).run Tryd.prog w' = .ok (.int .i64 (leftI (if n < 0 then none else some n.toNat))) w' := fun ts t w' => by
    rw [run_max_int2]
    have : (if (-1 : Int) > n then (-1 : Int) else n) = leftI (if n < 0 then none else some n.toNat) := by
      by_cases h : n < 0
      · rw [if_pos h]; simp only [leftI]; split <;> omega
      · rw [if_neg h]; simp only [leftI]; split <;> omega
    rw [this]
  have c2 := h1.cell 2 _ rfl
  have f2 := h1.free 2
  obtain ⟨lf, hlf⟩ : ∃ lf : Option Nat, lf = if n < 0 then none else some n.toNat := ⟨_, rfl⟩
  rw [← hlf] at hmx ⊢
  have H1 := Lib.hid h1
  have H2 := Lib.hid h2
  have H3 := Lib.hid h3
  have Hlf := Lib.hid hlf
  clear h1 h2 h3 hlf
  go_enter Tryd.func19, Tryd.ntmps19
  go_wp2_with fail
  refine bodyPost_end (results_none rfl _ _ _) rfl ?_
  have hm := Mod.set (fun b => b = rp) w ⟨rp, 2, none⟩ (.int .i64 (leftI lf)) rfl
  exact ⟨rfl, ⟨tv, H1.out.set 2 _, own_mod H2.out hm (fun k hk e => H3.out k hk e), H3.out, fun m hm2 => by
    rw [Hlf.out] at hm2
    split at hm2
    · cases hm2
    · injection hm2 with hm2; omega, rfl⟩, hm.mono (fun b hb => .inl hb)⟩
theorem leftI_zero {o : Option Nat} : leftI o = 0 ↔ o = some 0 := by
  cases o with
  | none => simp [leftI]
  | some n => simp [leftI]
set_option maxHeartbeats 800000 in
theorem refWrite_any (d : DiskM) (rp : Nat) (G : Nat → Prop) (i : Int) (s : ByteArray) (w : World) (h : IsRef w d rp G) (ht : d.trail.length ≤ 100000000000) (hs : s.size ≤ 9223372036854775807) :
    Calls Tryd.prog 18 #[.pointer (some ⟨rp, 0, none⟩), .int .i64 i, .string s] w fun e w' => e = .returned (.int .i64 (d.write i s).2) ∧
      ∃ G', IsRef w' (d.write i s).1 rp G' ∧ Mod G w w' ∧ ∀ k, G' k → G k ∨ w.heap.size ≤ k := by
  obtain ⟨tv, h1, h2, h3, hlb, rfl⟩ := h
  have c0 := h1.cell 0 _ rfl
  have H1 := Lib.hid h1
  have H2 := Lib.hid h2
  have H3 := Lib.hid h3
  by_cases hi : 0 ≤ i ∧ i < d.strs.length
  · have hn1 : ¬ i < 0 := by omega
    have hn2 : ¬ (d.strs.length : Int) ≤ i := by omega
    by_cases h256 : 256 < s.size
    · have ew : d.write i s = (d, 3) := by unfold DiskM.write; rw [if_neg (by omega), if_pos h256]
      have Ew := Lib.hid ew
      have hs1 : (256 : Int) < (s.size : Int) := by omega
      clear h1 h2 h3 ew
      go_enter Tryd.func18, Tryd.ntmps18
      go_wp2_with fail
      go_ret
      rw [Ew.out]
      exact ⟨rfl, _, ⟨tv, H1.out, H2.out, H3.out, hlb, rfl⟩, Mod.refl _ _, fun k hk => .inl hk⟩
    · have hs1 : ¬ (256 : Int) < (s.size : Int) := by omega
      have hs2 : decide (256 < s.size) = false := by simp; omega
      have c2 := h1.cell 2 _ rfl
      by_cases h0 : d.left = some 0
      · have ew : d.write i s = (d, 22) := by unfold DiskM.write; rw [if_neg (by omega), if_neg h256, if_pos h0]
        have Ew := Lib.hid ew
        rw [show leftI d.left = 0 from leftI_zero.2 h0] at c2
        clear h1 h2 h3 ew
        go_enter Tryd.func18, Tryd.ntmps18
        go_wp2_with fail
        go_ret
        rw [Ew.out]
        exact ⟨rfl, _, ⟨tv, H1.out, H2.out, H3.out, hlb, rfl⟩, Mod.refl _ _, fun k hk => .inl hk⟩
      · have ew : d.write i s = ({ strs := d.strs.set i.toNat s, trail := d.trail ++ [(i, s)], left := d.left.map (· - 1) }, 0) := by unfold DiskM.write; rw [if_neg (by omega), if_neg h256, if_neg h0]
        have Ew := Lib.hid ew
        obtain ⟨ta, tc, rfl, _, _⟩ := own_form h2
        obtain ⟨lf, hlf⟩ : ∃ lf : Int, lf = leftI d.left := ⟨_, rfl⟩
        rw [← hlf] at c2
        have hlf0 : lf ≠ 0 := by rw [hlf]; exact fun e => h0 (leftI_zero.1 e)
        clear hlf0
        cases hcl : d.left with
        | none =>
          have hlf1 : lf = -1 := by rw [hlf, hcl]; rfl
          subst hlf1
          rw [hcl] at Ew
          have k1 : Box w rp #[.int .i64 (d.strs.length : Int), .slice ta d.trail.length tc, .int .i64 (-1)] 54 := by rw [hlf]; exact h1
          have k2 := h2
          have mm := Mod.refl (fun b => b = rp) w
          clear h1 h2 h3 hlf ew h0 hcl
          have k1' := k1.below (below_alloc (w) (.cells #[.int .i64 i, .string s] 71))
          have c1' := k1'.cell 1 _ rfl
          have c1 := k1.cell 1 _ rfl
          have Hk1 := Lib.hid k1'
          have Hk2 := Lib.hid k2
          have Hmm := Lib.hid mm
          have hszW : w.heap.size ≤ (w).heap.size := mm.size
          clear k1 k1' k2 mm c1'
          go_enter Tryd.func18, Tryd.ntmps18
          go_wp2_with (at_builtin; refine appR rfl _ _ rfl 0 _ _ _ rfl (Hk2.out.alloc _) _ 1 [.int .i64 i, .string s] rfl (rd_one' _ _ _ _ (by simp)) rfl (oneC_raw _ _) (by omega) (Nat.zero_le _) ?_)
          intro v' w3 hv3 hg3 hm3
          obtain ⟨na, nc, rfl, _, _⟩ := own_form hv3
          have m4 := Mod.of_grown (F := fun k => (Value.slice ta d.trail.length tc).ownBlock = some k) hg3 (fun _ h => h)
          have l1 := Box.mod Hk1.out m4 (fun e => H3.out rp e rfl)
          have hnew : ∀ k, (Value.slice na (d.trail.length + 1) nc).ownBlock = some k → (Value.slice ta d.trail.length tc).ownBlock = some k ∨ (w).heap.size ≤ k := fun k hk => by
            rcases hm3 with e | e
            · left; rw [← e]; exact hk
            · right; rw [e] at hk; injection hk with hk; rw [← hk]; simp
          have hrpl : rp < (w).heap.size := Nat.lt_of_lt_of_le H1.out.lt hszW
          have f1 := l1.free 1
          have c1' := l1.cell 1 _ rfl
          have hfl : flatRaws (d.trail ++ [(i, s)]) = flatRaws d.trail ++ [.int .i64 i, .string s] := by rw [flatRaws_append]; rfl
          have Hl1 := Lib.hid (l1.set 1 (.slice na (d.trail.length + 1) nc))
          have Hv3 := Lib.hid hv3
          have Hm4 := Lib.hid m4
          have Hnew := Lib.hid hnew
          clear l1 hv3 hg3 hm3 m4 hnew c0 c2 c1
          go_wp2_with fail
          go_ret
          rw [Ew.out]
          have hm5 := Mod.set (fun b => b = rp) w3 ⟨rp, 1, none⟩ (.slice na (d.trail.length + 1) nc) rfl
          have hno : ∀ k, (Value.slice na (d.trail.length + 1) nc).ownBlock = some k → k ≠ rp := fun k hk e => by
            rcases Hnew.out k hk with h | h
            · exact H3.out k h e
            · omega
          refine ⟨rfl, _, ⟨.slice na (d.trail.length + 1) nc, ?_, ?_, hno, fun m hm2 => by simp at hm2, rfl⟩, ?_, fun k hk => ?_⟩
          · simp only [List.length_set]
            exact Hl1.out
          · simp only [List.length_append, List.length_singleton]
            rw [hfl]
            exact own_mod Hv3.out hm5 (fun k hk e => hno k hk e)
          · exact ((Hmm.out.mono (fun b hb => .inl hb)).trans (((Mod.alloc (fun b => (Value.slice ta d.trail.length tc).ownBlock = some b) (w) (.cells #[.int .i64 i, .string s] 71)).trans Hm4.out).mono (fun b hb => .inr hb))).trans (hm5.mono (fun b hb => .inl hb))
          · rcases hk with rfl | hk
            · exact .inl (.inl rfl)
            · rcases Hnew.out k hk with h | h
              · exact .inl (.inr h)
              · exact .inr (Nat.le_trans hszW h)
        | some n =>
          obtain ⟨m, rfl⟩ : ∃ m, n = m + 1 := ⟨n - 1, by
            rcases Nat.eq_zero_or_pos n with h | h
            · rw [h] at hcl; exact absurd hcl h0
            · omega⟩
          have hlf1 : lf = (m : Int) + 1 := by rw [hlf, hcl]; simp [leftI]
          have hlfp : 0 < lf := by omega
          have hlfb : lf ≤ 9223372036854775807 := by have := hlb (m + 1) hcl; omega
          have hlm : (m : Int) = lf - 1 := by omega
          rw [hcl] at Ew
          have k1 : Box (w.setCell ⟨rp, 2, none⟩ (.int .i64 (lf - 1))) rp #[.int .i64 (d.strs.length : Int), .slice ta d.trail.length tc, .int .i64 (lf - 1)] 54 := h1.set 2 _
          have mm := Mod.set (fun b => b = rp) w ⟨rp, 2, none⟩ (.int .i64 (lf - 1)) rfl
          have k2 := own_mod h2 mm (fun k hk e => h3 k hk e)
          have f2 := h1.free 2
          have c1 := h1.cell 1 _ rfl
          have Hlm := Lib.hid hlm
          have Hlb := Lib.hid (hlb (m + 1) hcl)
          clear h1 h2 h3 hlf ew h0 hcl hlf1 hlm hlb
          have k1' := k1.below (below_alloc (w.setCell ⟨rp, 2, none⟩ (.int .i64 (lf - 1))) (.cells #[.int .i64 i, .string s] 71))
          have c1' := k1'.cell 1 _ rfl
          have Hk1 := Lib.hid k1'
          have Hk2 := Lib.hid k2
          have Hmm := Lib.hid mm
          have hszW : w.heap.size ≤ (w.setCell ⟨rp, 2, none⟩ (.int .i64 (lf - 1))).heap.size := mm.size
          clear k1 k1' k2 mm c1'
          go_enter Tryd.func18, Tryd.ntmps18
          go_wp2_with (at_builtin; refine appR rfl _ _ rfl 0 _ _ _ rfl (Hk2.out.alloc _) _ 1 [.int .i64 i, .string s] rfl (rd_one' _ _ _ _ (by simp)) rfl (oneC_raw _ _) (by omega) (Nat.zero_le _) ?_)
          intro v' w3 hv3 hg3 hm3
          obtain ⟨na, nc, rfl, _, _⟩ := own_form hv3
          have m4 := Mod.of_grown (F := fun k => (Value.slice ta d.trail.length tc).ownBlock = some k) hg3 (fun _ h => h)
          have l1 := Box.mod Hk1.out m4 (fun e => H3.out rp e rfl)
          have hnew : ∀ k, (Value.slice na (d.trail.length + 1) nc).ownBlock = some k → (Value.slice ta d.trail.length tc).ownBlock = some k ∨ (w.setCell ⟨rp, 2, none⟩ (.int .i64 (lf - 1))).heap.size ≤ k := fun k hk => by
            rcases hm3 with e | e
            · left; rw [← e]; exact hk
            · right; rw [e] at hk; injection hk with hk; rw [← hk]; simp
          have hrpl : rp < (w.setCell ⟨rp, 2, none⟩ (.int .i64 (lf - 1))).heap.size := Nat.lt_of_lt_of_le H1.out.lt hszW
          have f1 := l1.free 1
          have c1' := l1.cell 1 _ rfl
          have hfl : flatRaws (d.trail ++ [(i, s)]) = flatRaws d.trail ++ [.int .i64 i, .string s] := by rw [flatRaws_append]; rfl
          have Hl1 := Lib.hid (l1.set 1 (.slice na (d.trail.length + 1) nc))
          have Hv3 := Lib.hid hv3
          have Hm4 := Lib.hid m4
          have Hnew := Lib.hid hnew
          clear l1 hv3 hg3 hm3 m4 hnew c0 c2 c1
          go_wp2_with fail
          go_ret
          rw [Ew.out]
          have hm5 := Mod.set (fun b => b = rp) w3 ⟨rp, 1, none⟩ (.slice na (d.trail.length + 1) nc) rfl
          have hno : ∀ k, (Value.slice na (d.trail.length + 1) nc).ownBlock = some k → k ≠ rp := fun k hk e => by
            rcases Hnew.out k hk with h | h
            · exact H3.out k h e
            · omega
          refine ⟨rfl, _, ⟨.slice na (d.trail.length + 1) nc, ?_, ?_, hno, fun m hm2 => by have := Hlb.out; simp at hm2; omega, rfl⟩, ?_, fun k hk => ?_⟩
          · simp only [List.length_set]
            have e : leftI ((some (m + 1)).map (· - 1)) = lf - 1 := by simp only [Option.map_some, Nat.add_sub_cancel, leftI]; exact Hlm.out
            rw [e]
            exact Hl1.out
          · simp only [List.length_append, List.length_singleton]
            rw [hfl]
            exact own_mod Hv3.out hm5 (fun k hk e => hno k hk e)
          · exact ((Hmm.out.mono (fun b hb => .inl hb)).trans (((Mod.alloc (fun b => (Value.slice ta d.trail.length tc).ownBlock = some b) (w.setCell ⟨rp, 2, none⟩ (.int .i64 (lf - 1))) (.cells #[.int .i64 i, .string s] 71)).trans Hm4.out).mono (fun b hb => .inr hb))).trans (hm5.mono (fun b hb => .inl hb))
          · rcases hk with rfl | hk
            · exact .inl (.inl rfl)
            · rcases Hnew.out k hk with h | h
              · exact .inl (.inr h)
              · exact .inr (Nat.le_trans hszW h)
  · have ew : d.write i s = (d, 1) := by unfold DiskM.write; rw [if_pos hi]
    have Ew := Lib.hid ew
    clear h1 h2 h3 ew
    by_cases hneg : i < 0
    · go_enter Tryd.func18, Tryd.ntmps18
      go_wp2_with fail
      go_ret
      rw [Ew.out]
      exact ⟨rfl, _, ⟨tv, H1.out, H2.out, H3.out, hlb, rfl⟩, Mod.refl _ _, fun k hk => .inl hk⟩
    · have hge : (d.strs.length : Int) ≤ i := by omega
      go_enter Tryd.func18, Tryd.ntmps18
      go_wp2_with fail
      go_ret
      rw [Ew.out]
      exact ⟨rfl, _, ⟨tv, H1.out, H2.out, H3.out, hlb, rfl⟩, Mod.refl _ _, fun k hk => .inl hk⟩
theorem play_skip (i : Nat) : ∀ (l : List (Int × ByteArray)) (s : List ByteArray), (∀ r ∈ l, 0 ≤ r.1 ∧ r.1 ≠ (i : Int)) → (playRaws s l).getD i ByteArray.empty = s.getD i ByteArray.empty
  | [], _, _ => rfl
  | r :: l, s, h => by
    have ih := play_skip i l (s.set r.1.toNat r.2) (fun x hx => h x (List.mem_cons_of_mem _ hx))
    have h0 := h r (List.mem_cons_self ..)
    show (playRaws (s.set r.1.toNat r.2) l).getD i ByteArray.empty = _
    rw [ih, List.getD, List.getD, List.getElem?_set_ne (by omega)]
theorem playRaws_append (s : List ByteArray) (l m : List (Int × ByteArray)) : playRaws s (l ++ m) = playRaws (playRaws s l) m := by simp [playRaws]
theorem DiskM.Wf.find {d : DiskM} (h : d.Wf) (i k : Nat) (hi : i < d.strs.length) (hk : k ≤ d.trail.length) (hn : ∀ r ∈ d.trail.drop k, r.1 ≠ (i : Int)) :
    d.strs.getD i ByteArray.empty = if k = 0 then ByteArray.empty else (if (d.trail.getD (k - 1) (0, ByteArray.empty)).1 = (i : Int) then (d.trail.getD (k - 1) (0, ByteArray.empty)).2 else d.strs.getD i ByteArray.empty) := by
  have e1 : d.strs.getD i ByteArray.empty = (playRaws (List.replicate d.strs.length ByteArray.empty) (d.trail.take k)).getD i ByteArray.empty := by
    conv => lhs; rw [h.play]
    conv => lhs; rw [← List.take_append_drop k d.trail, playRaws_append]
    exact play_skip i _ _ (fun r hr => ⟨(h.inr r (List.mem_of_mem_drop hr)).1, hn r hr⟩)
  by_cases h0 : k = 0
  · rw [if_pos h0, e1, h0]
    simp [playRaws, List.getD, hi]
  · rw [if_neg h0]
    by_cases hc : (d.trail.getD (k - 1) (0, ByteArray.empty)).1 = (i : Int)
    · rw [if_pos hc, e1]
      obtain ⟨m, rfl⟩ : ∃ m, k = m + 1 := ⟨k - 1, by omega⟩
      have hm : m < d.trail.length := by omega
      rw [Nat.add_sub_cancel] at hc ⊢
      have e2 : d.trail.getD m (0, ByteArray.empty) = d.trail[m] := by simp [List.getD, hm]
      rw [e2] at hc ⊢
      rw [List.take_succ_eq_append_getElem hm, playRaws_snoc, hc, Int.toNat_natCast, List.getD, List.getElem?_set_self (by rw [playRaws_len, List.length_replicate]; exact hi)]
      rfl
    · rw [if_neg hc]
set_option maxHeartbeats 800000 in
theorem refRead_any (d : DiskM) (rp : Nat) (G : Nat → Prop) (i : Int) (w : World) (h : IsRef w d rp G) (hw : d.Wf) (ht : d.trail.length ≤ 100000000000) :
    Calls Tryd.prog 61 #[.pointer (some ⟨rp, 0, none⟩), .int .i64 i] w fun e w' => e = .returned (.tuple #[.string (d.read i).1, .int .i64 (d.read i).2]) ∧ w' = w := by
  obtain ⟨tv, h1, h2, h3, hlb, rfl⟩ := h
  have c0 := h1.cell 0 _ rfl
  have c1 := h1.cell 1 _ rfl
  by_cases hi : 0 ≤ i ∧ i < d.strs.length
  · have er : d.read i = (d.strs.getD i.toNat ByteArray.empty, 0) := by unfold DiskM.read; rw [if_pos hi]
    obtain ⟨n, rfl⟩ := Int.eq_ofNat_of_zero_le hi.1
    rw [er, Int.toNat_natCast]
    obtain ⟨sv, hsv⟩ : ∃ sv, sv = d.strs.getD n ByteArray.empty := ⟨_, rfl⟩
    rw [← hsv]
    have hnl : n < d.strs.length := by omega
    have hn1 : ¬ (n : Int) < 0 := by omega
    have hn2 : ¬ (d.strs.length : Int) ≤ (n : Int) := by omega
    have hn3 : decide (d.strs.length ≤ n) = false := by simp; omega
    obtain ⟨ta, tc, rfl, _, _⟩ := own_form h2
    have HRd := Lib.hid (rd_of_own h2)
    have HFd := Lib.hid (fun k hk hn => hsv.trans (hw.find n k hnl hk hn))
    have Hsv := Lib.hid hsv
    clear h1 h2 h3 hlb er hw hi hsv
    go_enter Tryd.func61, Tryd.ntmps61
    go_wp2_with fail
    go_loopg [6] d.trail.length (fun gk iv wr => ∃ k : Nat, gk = k ∧ iv = .int .i64 ((k : Int) - 1) ∧ k ≤ d.trail.length ∧ wr = w ∧ Hid (∀ r ∈ d.trail.drop k, r.1 ≠ (n : Int)))
    case atStart => exact ⟨_, rfl, rfl, Nat.le_refl _, rfl, Lib.hid (by rw [List.drop_length]; intro r hr; cases hr)⟩
    case round =>
      obtain ⟨k, hgk, rfl, hk, rfl, hnot⟩ := hrel
      have hfd := HFd.out k hk hnot.out
      by_cases h0 : k = 0
      · subst h0
        rw [if_pos rfl] at hfd
        have Hf := Lib.hid hfd
        have hneg : ¬ (0 : Int) ≤ ((0 : Nat) : Int) - 1 := by omega
        clear hfd
        go_wp2_with fail
        go_ret2
        rw [Hf.out]
        exact ⟨rfl, rfl⟩
      · obtain ⟨m, rfl⟩ : ∃ m, k = m + 1 := ⟨k - 1, by omega⟩
        rw [if_neg h0, Nat.add_sub_cancel] at hfd
        have hm : m < d.trail.length := by omega
        have ek : (((m + 1 : Nat) : Int) - 1) = (m : Int) := by omega
        rw [ek]
        obtain ⟨rb, rs, e1, e2, e3, _⟩ := raw_at d.trail m hm
        have hgd : d.trail.getD m (0, ByteArray.empty) = (rb, rs) := by
          have h4 := congrArg (fun l => l.getD m (0, ByteArray.empty)) e1
          rw [List.getD, List.getD, List.getElem?_append_right (by rw [List.length_take]; omega), List.length_take, show min m d.trail.length = m by omega, Nat.sub_self] at h4
          rw [List.getD, List.getElem?_eq_getElem hm]
          rw [List.getElem?_take_of_lt (by omega), List.getElem?_eq_getElem hm] at h4
          exact h4
        rw [hgd] at hfd
        obtain ⟨a0, cap0, g1, _, _, _, g2⟩ := HRd.out
        injection g1 with g1 _ g3
        subst g1; subst g3
        obtain ⟨b, off, f1, f2⟩ := g2 (m * 2) (by rw [flatRaws_length]; omega)
        obtain ⟨b', off', f3, f4⟩ := g2 (m * 2 + 1) (by rw [flatRaws_length]; omega)
        subst f1
        injection f3 with f3; injection f3 with f6 f7
        subst f6; subst f7
        clear g2
        rw [List.getD, e2] at f2
        rw [List.getD, e3, ← Nat.add_assoc] at f4
        have f2 : wr.cell? ⟨b, off + m * 2, none⟩ = some (.int .i64 rb) := f2
        have f4 : wr.cell? ⟨b, off + m * 2 + 1, none⟩ = some (.string rs) := f4
        have hm0 : (0 : Int) ≤ (m : Int) := by omega
        have hm1 : (m : Int) < (d.trail.length : Int) := by omega
        have Hfd := Lib.hid hfd
        have Hgd := Lib.hid hgd
        clear hfd hgd e1 e2 e3
        by_cases hc : rb = (n : Int)
        · go_wp2_with fail
          go_ret2
          have := Hfd.out
          rw [if_pos hc] at this
          rw [this]
          exact ⟨rfl, rfl⟩
        · go_wp2_with fail
          go_roundg m
          case measure => have := hgk; omega
          case rel =>
            refine ⟨m, rfl, rfl, by omega, rfl, Lib.hid (fun r hr => ?_)⟩
            rw [List.drop_eq_getElem_cons hm] at hr
            rcases List.mem_cons.1 hr with rfl | hr
            · have := Hgd.out
              simp [List.getD, hm] at this
              rw [this]; exact hc
            · exact hnot.out r hr
  · have er : d.read i = (ByteArray.empty, 1) := by unfold DiskM.read; rw [if_neg hi]
    rw [er]
    clear h1 h2 h3 hlb er hw
    by_cases hneg : i < 0
    · go_enter Tryd.func61, Tryd.ntmps61
      go_wp2_with fail
      go_ret2
      exact ⟨rfl, rfl⟩
    · have hge : (d.strs.length : Int) ≤ i := by omega
      go_enter Tryd.func61, Tryd.ntmps61
      go_wp2_with fail
      go_ret2
      exact ⟨rfl, rfl⟩
end Go.Proofs.YtbmijamailfaeaaDoor
