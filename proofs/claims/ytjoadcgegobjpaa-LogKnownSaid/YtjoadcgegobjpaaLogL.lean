/-
  What LogKnown asks: calls that are refused, long lists, the raw writes of an Append.
-/
import Derived.Test.YtjoadcgegobjpaaLogK
namespace Go.Proofs.Ytjoadcgegobjpaa
open Go.RowKit
set_option maxRecDepth 100000

/-- The raw writes of blocks, the last one first. -/
def backT : Nat → List (List UInt8) → List (Int × ByteArray)
  | _, [] => []
  | a, b :: r => backT (a + 1) r ++ [((a : Int), SB b)]
theorem back_trail {d : DiskM} (h : d.left = none) : ∀ (bs : List (List UInt8)) (a : Nat), (∀ b ∈ bs, b.length ≤ 256) → a + bs.length ≤ d.strs.length → (d.back a bs).1.trail = d.trail ++ backT a bs
  | [], _, _, _ => by simp [DiskM.back, backT]
  | b :: r, a, hb, ha => by
    rw [List.length_cons] at ha
    have ih := back_trail h r (a + 1) (fun x hx => hb x (List.mem_cons_of_mem _ hx)) (by omega)
    have hn := back_none h r (a + 1) (fun x hx => hb x (List.mem_cons_of_mem _ hx)) (by omega)
    have h1 := (back_len d r (a + 1)).1
    have h2 := hb b (List.mem_cons_self ..)
    rw [back_cons, if_neg (by rw [hn.1]; simp)]
    unfold DiskM.write
    rw [if_neg (by rw [h1]; omega), if_neg (by rw [SB_size]; omega), if_neg (by rw [hn.2]; simp)]
    simp only
    rw [ih, backT, List.append_assoc]
theorem append_trail {l : LogM} {d : DiskM} {p : List UInt8} (h : d.left = none) (hd : l.dead = false) (hp : p.length ≤ 512) (hl : l.base + l.n ≤ d.strs.length) (hu : l.used + (frameM l.epoch p).length ≤ l.n) : (l.append d p).2.1.trail = d.trail ++ backT (l.base + l.used) (frameM l.epoch p) := by
  unfold LogM.append
  have h1 := (back_none h (frameM l.epoch p) (l.base + l.used) (fun b hb => frameM_le256 hb) (by omega)).1
  have h2 := back_trail h (frameM l.epoch p) (l.base + l.used) (fun b hb => frameM_le256 hb) (by omega)
  rw [if_neg (by rw [hd]; simp), if_neg (by omega), if_neg (by omega), if_neg (by rw [h1]; simp)]
  exact h2
/-- The power fails behind the first of two blocks. -/
theorem append_cut {l : LogM} {d : DiskM} {p : List UInt8} (h : d.left = some 1) (hd : l.dead = false) (hp : p.length ≤ 512) (hf : (frameM l.epoch p).length = 2) (hl : l.base + l.n ≤ d.strs.length) (hu : l.used + 2 ≤ l.n) : (l.append d p).2.2 = 22 := by
  obtain ⟨b, c, e⟩ : ∃ b c, frameM l.epoch p = [b, c] := by
    match frameM l.epoch p, hf with
    | [b, c], _ => exact ⟨b, c, rfl⟩
  have hb : b.length ≤ 256 := frameM_le256 (e := l.epoch) (p := p) (by rw [e]; simp)
  have hc : c.length ≤ 256 := frameM_le256 (e := l.epoch) (p := p) (by rw [e]; simp)
  have h1 : (d.back (l.base + l.used + 1) [c]).2 = 0 ∧ (d.back (l.base + l.used + 1) [c]).1.left = some 0 ∧ (d.back (l.base + l.used + 1) [c]).1.strs.length = d.strs.length := by
    rw [back_cons]
    show (if (0 : Int) ≠ 0 then _ else (d.write _ _)).2 = 0 ∧ _
    unfold DiskM.back DiskM.write
    rw [if_neg (by simp), if_neg (by omega), if_neg (by rw [SB_size]; omega), if_neg (by rw [h]; simp)]
    exact ⟨rfl, by rw [h]; rfl, by simp⟩
  have h2 : (d.back (l.base + l.used) [b, c]).2 = 22 := by
    rw [back_cons, if_neg (by rw [h1.1]; simp)]
    unfold DiskM.write
    rw [if_neg (by rw [h1.2.2]; omega), if_neg (by rw [SB_size]; omega), if_pos h1.2.1]
  unfold LogM.append
  rw [if_neg (by rw [hd]; simp), if_neg (by omega), if_neg (by omega), e, if_pos (by rw [h2]; decide)]
theorem append_dead {l : LogM} (d : DiskM) (hd : l.dead = true) (p : List UInt8) : l.append d p = (l, d, 22) := by
  unfold LogM.append; rw [if_pos hd]
theorem append_full {l : LogM} (d : DiskM) {p : List UInt8} (hd : l.dead = false) (hp : p.length ≤ 512) (h : l.n - l.used < (frameM l.epoch p).length) : l.append d p = (l, d, 19) := by
  unfold LogM.append; rw [if_neg (by rw [hd]; simp), if_neg (by omega), if_pos h]
theorem append_long {l : LogM} (d : DiskM) {p : List UInt8} (hd : l.dead = false) (hp : 512 < p.length) : l.append d p = (l, d, 3) := by
  unfold LogM.append; rw [if_neg (by rw [hd]; simp), if_pos hp]
theorem LogI.strs {e : UInt32} {base n : Nat} {want : List (List UInt8)} {l : LogM} {d d' : DiskM} (h : LogI e base n want l d) (hs : d'.strs = d.strs) : LogI e base n want l d' :=
  ⟨h.same, h.used, h.le, h.recs, h.short, by rw [hs]; exact h.len, by rw [hs]; exact h.stand, by rw [hs]; exact h.no⟩
theorem clean_none {e : UInt32} {d : DiskM} (h : ∀ (j : Nat) (s : ByteArray), d.strs[j]? = some s → NoB e s) {base n : Nat} (bl : List (List UInt8)) (hn : bl.length = n) (hg : ∀ j, j < n → d.strs[base + j]? = some (SB (bl.getD j []))) : oneM e bl = none := by
  cases bl with
  | nil => rfl
  | cons b r =>
    refine one_begins e b r (fun hc => ?_)
    rw [List.length_cons] at hn
    have := h _ _ (hg 0 (by omega))
    unfold NoB at this
    rw [SB_data] at this
    exact this hc
def longM (n : Nat) : List UInt8 := (List.range n).map (fun i => UInt8.ofNat i)
theorem longM_length (n : Nat) : (longM n).length = n := by simp [longM]
theorem longM_succ (n : Nat) : longM (n + 1) = longM n ++ [UInt8.ofNat n] := by simp [longM, List.range_succ]
theorem long_calls (n : Nat) (w : World) (hn : n ≤ 1000000) :
    Calls Try.prog 17 #[.int .i64 (n : Int)] w fun e w' => ∃ v', e = .returned v' ∧ w'.ownsRow w.heap.size 5 1 v' n ((longM n).map V8) ∧ Below w.heap.size w w' := by
  go_enter Try.func17, Try.ntmps17
  go_wp2_with fail
  go_loopw [3, 4] (fun v i wr => ∃ k : Nat, k ≤ n ∧ i = .int .i64 k ∧ wr.ownsRow w.heap.size 5 1 v k ((longM k).map V8) ∧ Below w.heap.size w wr) (fun _ i _ => n - (intOf i).toNat)
  case atStart => exact ⟨0, by omega, rfl, World.ownsRow_nil _ _ _ _, Below.refl _ _⟩
  case round =>
    obtain ⟨k, hk, rfl, hown, hb⟩ := hrel
    obtain ⟨va, vc, rfl, _⟩ := own_slice hown
    by_cases hlt : k < n
    · have hk0 : (0 : Int) ≤ (k : Int) := by omega
      obtain ⟨c, hc⟩ : ∃ c, c = UInt8.ofNat k := ⟨_, rfl⟩
      have hcv : ∀ W : World, W.alloc (.cells #[.int .u8 ((k : Int) % 256)] 5) = W.alloc (.cells #[V8 c] 5) := fun W => by
        rw [hc, V8_ofNat]
      have HO := Lib.hid (own_below hown (below_alloc wr (.cells #[.int .u8 ((k : Int) % 256)] 5)))
      have HSrc := Lib.hid (show Rd (wr.alloc (.cells #[.int .u8 ((k : Int) % 256)] 5)) (.slice (some ⟨wr.heap.size, 0, none⟩) 1 1) [c].length ([c].map V8) by
        rw [hcv]; exact rd_lit wr #[V8 c] 5 [c] rfl (by show 1 ≤ _; decide))
      have HB := Lib.hid hb
      have Hs := Lib.hid (Nat.le_trans hb.size (below_alloc wr (.cells #[.int .u8 ((k : Int) % 256)] 5)).size)
      have Hr := Lib.hid (show k + [c].length ≤ 140737488355328 by rw [List.length_singleton]; omega)
      have Hc := Lib.hid hc
      clear hown hb hcv hc
      go_wp2_with (at_builtin; refine appSB rfl _ _ rfl w.heap.size _ k ((longM k).map V8) rfl HO.out _ [c] rfl HSrc.out Hr.out Hs.out ?_)
      intro v' w1 ho1 hg1 _
      have hb1 := (HB.out.trans ((below_alloc wr (.cells #[.int .u8 ((k : Int) % 256)] 5)).mono HB.out.size)).trans (below_grown hg1 Hs.out (fun q hq => (HO.out.lt q hq).1))
      have HN := Lib.hid (show w1.ownsRow w.heap.size 5 1 v' (k + 1) ((longM (k + 1)).map V8) ∧ Below w.heap.size w w1 from ⟨by rw [longM_succ, List.map_append, ← Hc.out]; exact ho1, hb1⟩)
      clear ho1 hg1 hb1 HO HSrc HB Hs Hr Hc
      go_wp2_with fail
      go_roundw
      case rel => exact ⟨k + 1, by omega, by go_num, HN.out⟩
      case measure => simp [intOf]; omega
    · obtain rfl : k = n := by omega
      have HN := Lib.hid (And.intro hown hb)
      clear hown hb
      go_wp2_with fail
      go_ret
      exact ⟨_, rfl, HN.out⟩
theorem log_new_no (d : DiskM) (pd : Nat) (F : Nat → Prop) (base n e : Int) (w : World) (h : IsDisk w d pd F) (hno : ¬ (0 ≤ base ∧ 1 ≤ n ∧ base ≤ d.strs.length ∧ n ≤ d.strs.length - base)) (h1 : -9223372036854775808 ≤ base) (h2 : base ≤ 9223372036854775807) (h3 : n ≤ 9223372036854775807) :
    Calls Try.prog 7 #[.pointer (some ⟨pd, 0, none⟩), .int .i64 base, .int .i64 n, .int .u32 e] w fun r w' => r = .returned (.tuple #[.pointer none, errV 1]) ∧ w' = w := by
  have hl : d.strs.length ≤ 4096 := by obtain ⟨_, _, _, _, _, _, _, _, h5, _⟩ := h; exact h5
  have H := Lib.hid h
  clear h
  by_cases c1 : base < 0
  · go_enter Try.func7, Try.ntmps7
    go_wp2_with fail
    go_ret2
    exact ⟨rfl, rfl⟩
  by_cases c2 : n < 1
  · go_enter Try.func7, Try.ntmps7
    go_wp2_with fail
    go_ret2
    exact ⟨rfl, rfl⟩
  by_cases c3 : (d.strs.length : Int) < base
  · go_enter Try.func7, Try.ntmps7
    go_wp2_with fail
    refine (blocks_calls d pd F w H.out).mono ?_
    rintro r w1 ⟨rfl, rfl⟩
    go_wp2_with fail
    go_ret2
    exact ⟨rfl, rfl⟩
  have c4 : (d.strs.length : Int) - base < n := by omega
  clear hno
  go_enter Try.func7, Try.ntmps7
  go_wp2_with fail
  refine (blocks_calls d pd F w H.out).mono ?_
  rintro r w1 ⟨rfl, rfl⟩
  go_wp2_with fail
  refine (blocks_calls d pd F _ H.out).mono ?_
  rintro r w1 ⟨rfl, rfl⟩
  go_wp2_with fail
  go_ret2
  exact ⟨rfl, rfl⟩
theorem log_open_no (d : DiskM) (pd : Nat) (F : Nat → Prop) (base n e : Int) (w : World) (h : IsDisk w d pd F) (hno : ¬ (0 ≤ base ∧ 1 ≤ n ∧ base ≤ d.strs.length ∧ n ≤ d.strs.length - base)) (h1 : -9223372036854775808 ≤ base) (h2 : base ≤ 9223372036854775807) (h3 : n ≤ 9223372036854775807) :
    Calls Try.prog 15 #[.pointer (some ⟨pd, 0, none⟩), .int .i64 base, .int .i64 n, .int .u32 e] w fun r w' => r = .returned (.tuple #[.pointer none, .slice none 0 0, errV 1]) ∧ w' = w := by
  have H := Lib.hid (log_new_no d pd F base n e w h hno h1 h2 h3)
  clear h hno
  go_enter Try.func15, Try.ntmps15
  go_wp2_with fail
  refine H.out.mono ?_
  rintro r w1 ⟨rfl, rfl⟩
  rw [show errV 1 = errN 1 from rfl]
  unfold errN
  go_wp2_with fail
  go_ret3
  exact ⟨rfl, rfl⟩
/-- A log of three blocks on a disk of four, between two calls. -/
structure LS (B : Nat) (W0 : World) (pl pd c : Nat) (l : LogM) (d : DiskM) (F : Nat → Prop) (W : World) : Prop where
  log : IsLog W l pl pd
  disk : IsDisk W d pd F
  npl : ¬ F pl ∧ B ≤ pl
  ge : ∀ k, F k → B ≤ k
  below : Below B W0 W
  size : B ≤ W.heap.size
  geo : l.base = 1 ∧ l.n = 3 ∧ l.used ≤ 3 ∧ l.records ≤ c
  len : d.strs.length = 4 ∧ d.trail.length ≤ 4 * c
  small : d.Small
theorem LS.to {B : Nat} {W0 : World} {pl pd c : Nat} {l : LogM} {d : DiskM} {F : Nat → Prop} {W W' : World} (h : LS B W0 pl pd c l d F W) (hb : Below W.heap.size W W') : LS B W0 pl pd c l d F W' :=
  ⟨Box.below h.log hb, h.disk.mod (Mod.of_below (F := fun _ => False) hb) (fun _ _ h => h), h.npl, h.ge, h.below.trans (hb.mono h.size), Nat.le_trans h.size hb.size, h.geo, h.len, h.small⟩
theorem LS.app {B : Nat} {W0 : World} {pl pd c : Nat} {l : LogM} {d : DiskM} {F : Nat → Prop} {W : World} (h : LS B W0 pl pd c l d F W) (hc : c ≤ 1000) (p : List UInt8) (v : Value) (hv : Rd W v p.length (p.map V8)) {er : Int} (he : (l.append d p).2.2 = er) :
    Calls Try.prog 8 #[.pointer (some ⟨pl, 0, none⟩), v] W fun r w' => r = .returned (errV er) ∧ ∃ F', LS B W0 pl pd (c + 1) (l.append d p).1 (l.append d p).2.1 F' w' := by
  obtain ⟨g1, g2, g3, g4⟩ := h.geo
  have hl := h.len
  refine (append_calls l d p pl pd F v W h.log h.disk h.npl.1 hv (by omega) (by omega) (by omega) (by omega)).mono ?_
  rintro r w' ⟨rfl, a1, a2, F', a3, a4⟩
  rw [he]
  obtain ⟨b1, b2, b3, b4, b5, b6⟩ := append_same l d p
  have ht := append_len l d p
  have hs := h.size
  have hlt := h.log.lt
  refine ⟨rfl, F', a1, a3, ⟨fun hk => ?_, h.npl.2⟩, fun k hk => ?_, h.below.trans (a2.below hs (fun b hb => ?_)), Nat.le_trans hs a2.size, ⟨by omega, by omega, by have := b5 (by omega); omega, by omega⟩, ⟨by omega, by omega⟩, small_append l h.small p⟩
  · rcases a4 pl hk with h2 | h2
    · exact h.npl.1 h2
    · omega
  · rcases a4 k hk with h2 | h2
    · exact h.ge k h2
    · omega
  · rcases hb with rfl | hb
    · exact h.npl.2
    · exact h.ge b hb
theorem rd_newL (w : World) (cs : Array Value) (T : TypeId) (n : Nat) (h : cs.size = n) (hn : n ≤ 1000) : Rd (w.alloc (.cells cs T)) (.slice (some ⟨w.heap.size, 0, none⟩) n n) n cs.toList := by
  refine ⟨_, n, rfl, Nat.le_refl _, by omega, (fun h => by cases h), fun j hj => ⟨w.heap.size, 0, rfl, ?_⟩⟩
  have hj : j < cs.size := by simpa using hj
  rw [Nat.zero_add, Box.cell (Box.new w cs T) j cs[j] (by simp [hj])]
  simp [List.getD, hj]
theorem nothing_found {e : UInt32} {bl : List (List UInt8)} {B : Nat} {pre : List (Nat × Value)} {W : World} (h : Found e bl B pre W) (h0 : oneM e bl = none) : pre.length = 0 := by
  have h00 : payM e bl 0 = none := by unfold payM; exact h0
  have := pay_lt (n := 0) (m := pre.length) h00 (fun i hi h2 => by
    obtain ⟨_, p, c, h1, _⟩ := h.row i pre[i] (List.getElem?_eq_getElem hi)
    rw [h1] at h2; cases h2)
  omega
/-- The power is cut, or restored. -/
theorem LS.turn {B : Nat} {W0 : World} {pl pd c : Nat} {l : LogM} {d d' : DiskM} {F F' : Nat → Prop} {W W' : World} (h : LS B W0 pl pd c l d F W) (hd : IsDisk W' d' pd F') (hm : Mod F W W') (hF : ∀ k, F' k → F k ∨ W.heap.size ≤ k) (hs : d'.strs = d.strs) (ht : d'.trail = d.trail) : LS B W0 pl pd c l d' F' W' := by
  have hlt := h.log.lt
  have hz := h.size
  refine ⟨Box.mod h.log hm h.npl.1, hd, ⟨fun hk => ?_, h.npl.2⟩, fun k hk => ?_, h.below.trans (hm.below hz (fun b hb => h.ge b hb)), Nat.le_trans hz hm.size, h.geo, by rw [hs, ht]; exact h.len, fun s hx => h.small s (hs ▸ hx)⟩
  · rcases hF pl hk with h2 | h2
    · exact h.npl.1 h2
    · omega
  · rcases hF k hk with h2 | h2
    · exact h.ge k h2
    · omega
end Go.Proofs.Ytjoadcgegobjpaa
