/-
  WalkLives: its walk.
-/
import Derived.Test.YtkabeejefkmdgaaFilled
import Derived.Test.YtkabeejefkmdgaaApartI
import Derived.Outline
namespace Go.Proofs.Ytkabeejefkmdgaa
open Go.RowKit

def linkV (x : Int × Int) : List Value := [.int .i64 x.1, .int .i64 x.2]
theorem links_len (l : List (Int × Int)) : (l.flatMap linkV).length = l.length * 2 := by
  induction l with
  | nil => rfl
  | cons a l ih => rw [List.flatMap_cons, List.length_append, ih, List.length_cons]; simp [linkV]; omega
theorem links_get (l : List (Int × Int)) (i j : Nat) (hi : i < l.length) (hj : j < 2) : (l.flatMap linkV).getD (i * 2 + j) undef = (linkV (l.getD i (0, 0))).getD j undef := by
  induction l generalizing i with
  | nil => simp at hi
  | cons a l ih =>
    rw [List.flatMap_cons]
    cases i with
    | zero => rw [List.getD, List.getElem?_append_left (by simp [linkV]; omega)]; simp
    | succ i =>
      rw [List.getD, List.getElem?_append_right (by simp [linkV]; omega), show (i + 1) * 2 + j - (linkV a).length = i * 2 + j by simp [linkV]; omega]
      have := ih i (by simpa using hi)
      rw [List.getD] at this
      simpa using this
/-- A link of a list. -/
theorem rd_link {w : World} {v : Value} {l : List (Int × Int)} (h : Rd w v l.length (l.flatMap linkV)) (i : Nat) (hi : i < l.length) :
    ∃ b off cap, v = .slice (some ⟨b, off, none⟩) l.length cap ∧ w.cell? ⟨b, off + i * 2, none⟩ = some (.int .i64 (l.getD i (0, 0)).1) ∧ w.cell? ⟨b, off + i * 2 + 1, none⟩ = some (.int .i64 (l.getD i (0, 0)).2) := by
  have hl := links_len l
  obtain ⟨b, off, cap, e, h0⟩ := h.at (i * 2) (by omega)
  obtain ⟨b', off', cap', e', h1⟩ := h.at (i * 2 + 1) (by omega)
  rw [e] at e'
  injection e' with e1; injection e1 with e1; injection e1 with e1 e2
  subst e1; subst e2
  refine ⟨b, off, cap, e, ?_, ?_⟩
  · rw [h0]; have := links_get l i 0 hi (by omega); rw [Nat.add_zero] at this; rw [this]; rfl
  · rw [Nat.add_assoc, h1, links_get l i 1 hi (by omega)]; rfl
/-- Paths that were gathered. -/
structure PathsAt (Bp N : Nat) (pv : Value) (vs : Nat → Value) (xs : Nat → List Value) (w : World) : Prop where
  own : ∀ j, j < N → w.ownsRow Bp 3 1 (vs j) (xs j).length (xs j)
  small : ∀ j, j < N → (xs j).length ≤ 7
  apart : ∀ i j, i < N → j < N → i ≠ j → Apart (vs i) (vs j)
  outer : w.ownsRow Bp 22 1 pv N ((List.range N).map vs)
  oap : ∀ j, j < N → Apart pv (vs j)
theorem PathsAt.below {Bp N : Nat} {pv : Value} {vs : Nat → Value} {xs : Nat → List Value} {w w' : World} (h : PathsAt Bp N pv vs xs w) (hb : Below w.heap.size w w') : PathsAt Bp N pv vs xs w' :=
  ⟨fun j hj => own_below (h.own j hj) hb, h.small, h.apart, own_below h.outer hb, h.oap⟩
theorem apart_new {u v : Value} {H : Nat} (hu : ∀ k, u.ownBlock = some k → k < H) (hv : ∀ k, v.ownBlock = some k → H ≤ k) : Apart u v := fun k h1 h2 => by
  have := hu k h1; have := hv k h2; omega
/-- Two paths more. -/
theorem PathsAt.two {Bp N H1 H2 : Nat} {pv pv' p1 p2 : Value} {vs : Nat → Value} {xs : Nat → List Value} {x1 x2 : List Value} {w w' : World} (h : PathsAt Bp N pv vs xs w)
    (h1 : w.ownsRow Bp 3 1 p1 x1.length x1) (h2 : w.ownsRow Bp 3 1 p2 x2.length x2) (l1 : x1.length ≤ 7) (l2 : x2.length ≤ 7)
    (a0 : ∀ k, pv.ownBlock = some k → k < H1) (a1 : ∀ j, j < N → ∀ k, (vs j).ownBlock = some k → k < H1) (a2 : ∀ k, p1.ownBlock = some k → H1 ≤ k ∧ k < H2) (a3 : ∀ k, p2.ownBlock = some k → H2 ≤ k) (hH : H1 ≤ H2)
    (hown : w'.ownsRow Bp 22 1 pv' (N + 2) ((List.range N).map vs ++ [p1, p2])) (hg : w.grownBy w' pv.ownBlock) (hm : Moved w pv pv') :
    PathsAt Bp (N + 2) pv' (fun j => if j = N then p1 else if j = N + 1 then p2 else vs j) (fun j => if j = N then x1 else if j = N + 1 then x2 else xs j) w' := by
  have hp1 : Apart pv p1 := apart_new a0 (fun k hk => (a2 k hk).1)
  have hp2 : Apart pv p2 := apart_new a0 (fun k hk => Nat.le_trans hH (a3 k hk))
  have h12 : Apart p1 p2 := apart_new (fun k hk => (a2 k hk).2) a3
  have hv1 : ∀ j, j < N → Apart (vs j) p1 := fun j hj => apart_new (a1 j hj) (fun k hk => (a2 k hk).1)
  have hv2 : ∀ j, j < N → Apart (vs j) p2 := fun j hj => apart_new (a1 j hj) (fun k hk => Nat.le_trans hH (a3 k hk))
  refine ⟨fun j hj => ?_, fun j hj => ?_, fun i j hi hj hne => ?_, ?_, fun j hj => ?_⟩ <;> try dsimp only
  · by_cases e1 : j = N
    · rw [if_pos e1, if_pos e1]; exact own_other h1 hg hp1.symm
    · rw [if_neg e1, if_neg e1]
      by_cases e2 : j = N + 1
      · rw [if_pos e2, if_pos e2]; exact own_other h2 hg hp2.symm
      · rw [if_neg e2, if_neg e2]; exact own_other (h.own j (by omega)) hg (h.oap j (by omega)).symm
  · by_cases e1 : j = N
    · rw [if_pos e1]; exact l1
    · rw [if_neg e1]
      by_cases e2 : j = N + 1
      · rw [if_pos e2]; exact l2
      · rw [if_neg e2]; exact h.small j (by omega)
  · by_cases e1 : i = N
    · rw [if_pos e1]
      by_cases f1 : j = N
      · omega
      · rw [if_neg f1]
        by_cases f2 : j = N + 1
        · rw [if_pos f2]; exact h12
        · rw [if_neg f2]; exact (hv1 j (by omega)).symm
    · rw [if_neg e1]
      by_cases e2 : i = N + 1
      · rw [if_pos e2]
        by_cases f1 : j = N
        · rw [if_pos f1]; exact h12.symm
        · rw [if_neg f1, if_neg (by omega)]; exact (hv2 j (by omega)).symm
      · rw [if_neg e2]
        by_cases f1 : j = N
        · rw [if_pos f1]; exact hv1 i (by omega)
        · rw [if_neg f1]
          by_cases f2 : j = N + 1
          · rw [if_pos f2]; exact hv2 i (by omega)
          · rw [if_neg f2]; exact h.apart i j (by omega) (by omega) hne
  · have e : (List.range (N + 2)).map (fun j => if j = N then p1 else if j = N + 1 then p2 else vs j) = (List.range N).map vs ++ [p1, p2] := by
      rw [show N + 2 = N + 1 + 1 from rfl, List.range_succ, List.range_succ, List.append_assoc, List.map_append]
      congr 1
      · refine List.map_congr_left fun j hj => ?_
        simp only [List.mem_range] at hj
        rw [if_neg (by omega), if_neg (by omega)]
      · simp
    rw [e]; exact hown
  · by_cases e1 : j = N
    · rw [if_pos e1]
      exact (hp1.symm.moved hm (fun k hk => (h1.lt k hk).2)).symm
    · rw [if_neg e1]
      by_cases e2 : j = N + 1
      · rw [if_pos e2]; exact (hp2.symm.moved hm (fun k hk => (h2.lt k hk).2)).symm
      · rw [if_neg e2]; exact ((h.oap j (by omega)).symm.moved hm (fun k hk => ((h.own j (by omega)).lt k hk).2)).symm
/-- What ApartInts is handed. -/
theorem PathsAt.turn {Bp N : Nat} {pv : Value} {vs : Nat → Value} {xs : Nat → List Value} {w : World} (h : PathsAt Bp N pv vs xs w) : Turn1 ⟨N, vs, fun j => (xs j).length, Bp, 3⟩ mkI pv w 0 0 w :=
  ⟨⟨xs, h.own, fun j hj => by omega, fun _ => rfl⟩, fun i j hi hj => h.apart i j hi hj, rd_of_own h.outer, h.oap, Mod.refl _ _⟩
theorem pathOf_len (l : List SlotM) (sl bi : Int) : (pathOf (upM l 7 sl bi)).length ≤ 7 := by
  have := upM_len l 7 sl bi
  unfold pathOf; split <;> simp <;> omega
theorem below_drewN (w : World) (k : Nat) : Below w.heap.size w (w.drewN k) := ⟨rfl, rfl, rfl, Nat.le_refl _, fun _ _ => rfl⟩
/-- What holds at the head of a round of WalkLives. -/
structure LivesAt (W w1 : World) (l : List SlotM) (m b B rb : Nat) (sv fv : Value) (ys : List Value) (N : Nat) (pv : Value) (wr : World) : Prop where
  filled : Filled W l m b B rb sv fv ys wr
  paths : ∃ vs xs, PathsAt w1.heap.size N pv vs xs wr
  below : Below w1.heap.size w1 wr
set_option maxRecDepth 100000 in
set_option maxHeartbeats 3200000 in
theorem livesLaw_calls (v lv : Value) (l : List SlotM) (ks : List (Int × Int)) (w : World) (hv : Rd w v l.length (l.flatMap SlotM.vals)) (hk : Rd w lv ks.length (ks.flatMap linkV)) :
    Calls Try.prog 5 #[v, lv] w fun e w' => e = .returned (.bool true) ∧ Below w.heap.size w w' := by
  have hklen := hk.len
  obtain ⟨la, lc, rfl⟩ : ∃ a c, lv = .slice a ks.length c := by obtain ⟨a, c, e, _⟩ := hk; exact ⟨a, c, e⟩
  have HK := Lib.hid hk
  clear hk
  go_enter Try.func5, Try.ntmps5
  go_wp2_with fail
  refine (filled_calls v l w hv).mono ?_
  rintro e w1 ⟨b, B, rb, sv, fv, ys, rfl, hF⟩
  obtain ⟨m, hm⟩ : ∃ m, m = min l.length 32 := ⟨_, rfl⟩
  rw [← hm] at hF
  have HF := Lib.hid hF
  clear hF hm hv
  go_wp2_with (go_at_call 17; refine (writes_calls _ _ b w1 HF.out.arena).mono ?_; rintro e w' ⟨rfl, rfl⟩)
  go_loopg [9, 10] ks.length (fun gk pv iv wr => ∃ i : Nat, gk + i = ks.length ∧ iv = .int .i64 (i : Int) ∧ i ≤ 100 ∧ LivesAt w w1 l m b B rb sv fv ys (2 * i) pv wr)
  case atStart => exact ⟨0, rfl, rfl, by omega, HF.out, ⟨fun _ => .slice none 0 0, fun _ => [], ⟨fun j hj => by omega, fun j hj => by omega, fun i j hi => by omega, World.ownsRow_nil _ _ _ _, fun j hj => by omega⟩⟩, Below.refl _ _⟩
  case round =>
    obtain ⟨i, hgi, rfl, hi100, hT⟩ := hrel
    have hi0 : (0 : Int) ≤ (i : Int) := by omega
    have Hgi := Lib.hid hgi
    obtain ⟨⟨hFr, hP, hB1⟩⟩ : PLift (LivesAt w w1 l m b B rb sv fv ys (2 * i) u9 wr) := ⟨hT⟩
    obtain ⟨vs, xs, hP⟩ := hP
    obtain ⟨pa, pc, rfl, _⟩ := own_slice hP.outer
    have HFr := Lib.hid hFr
    have HP := Lib.hid hP
    have HB1 := Lib.hid hB1
    clear hT hFr hP hB1
    by_cases hi : i < ks.length ∧ i < 100
    · obtain ⟨hik, hi99⟩ := hi
      obtain ⟨bl, off, cap, e1, hc0, hc1⟩ := rd_link HK.out i hik
      injection e1 with e2 _ e3
      subst e2; subst e3
      obtain ⟨sl, hsl⟩ : ∃ sl, sl = (ks.getD i (0, 0)).1 := ⟨_, rfl⟩
      obtain ⟨bi, hbi⟩ : ∃ bi, bi = (ks.getD i (0, 0)).2 := ⟨_, rfl⟩
      rw [← hsl] at hc0
      rw [← hbi] at hc1
      have HC := Lib.hid (fun w2 (hb : Below w.heap.size w w2) => (⟨below_heap hb hc0, below_heap hb hc1⟩ : _ ∧ _))
      have hi1 : (i : Int) < (ks.length : Int) := by omega
      have hi2 : (i : Int) < 100 := by omega
      clear hc0 hc1 hsl hbi hgi HK
      obtain ⟨c0, c1⟩ := HC.out wr HFr.out.below
      obtain ⟨p, hp⟩ : ∃ p, p = upM (fillL l m) 7 sl bi := ⟨_, rfl⟩
      have hlv := fun w2 (hF : Filled w l m b B rb sv fv ys w2) => lives_calls _ _ b sl bi w2 hF.arena
      have hrl := fun w2 (hF : Filled w l m b B rb sv fv ys w2) => refLives_calls B rb 32 _ _ sv fv ys sl bi w2 hF.ref (fillL_len l m)
      have hpa := fun w2 (hF : Filled w l m b B rb sv fv ys w2) => path_calls _ _ b sl bi w2 hF.arena
      have hrp := fun w2 (hF : Filled w l m b B rb sv fv ys w2) => refPath_calls B rb 32 _ _ sv fv ys sl bi w2 hF.ref (fillL_len l m)
      have hpl := pathOf_len (fillL l m) sl bi
      rw [← hp] at hlv hrl hpa hrp hpl
      obtain ⟨ok, hok⟩ : ∃ ok, ok = p.2 := ⟨_, rfl⟩
      obtain ⟨n, hn⟩ : ∃ n, n = upN p := ⟨_, rfl⟩
      obtain ⟨q, hq⟩ : ∃ q, q = pathOf p := ⟨_, rfl⟩
      rw [← hok, ← hn] at hlv hrl
      rw [← hq] at hpa hrp hpl
      have Hlv := Lib.hid hlv
      have Hrl := Lib.hid hrl
      have Hpa := Lib.hid hpa
      have Hrp := Lib.hid hrp
      clear hp hlv hrl hpa hrp hok hn hq
      go_wp2_with fail
      refine (Hlv.out wr HFr.out).mono ?_
      rintro e w2 ⟨rfl, hb2⟩
      have HF2 := Lib.hid (HFr.out.keep hb2)
      have HP2 := Lib.hid (HP.out.below hb2)
      have HB2 := Lib.hid (HB1.out.trans (hb2.mono HB1.out.size))
      clear hb2 HFr HP HB1 c0 c1
      obtain ⟨c0, c1⟩ := HC.out w2 HF2.out.below
      go_wp2_with fail
      refine (Hrl.out w2 HF2.out).mono ?_
      rintro e w3 ⟨rfl, hb3⟩
      have HF3 := Lib.hid (HF2.out.keep hb3)
      have HP3 := Lib.hid (HP2.out.below hb3)
      have HB3 := Lib.hid (HB2.out.trans (hb3.mono HB2.out.size))
      have HBs3 := Lib.hid HB3.out.size
      clear hb3 HF2 HP2 HB2 c0 c1
      obtain ⟨c0, c1⟩ := HC.out w3 HF3.out.below
      go_wp2_with fail
      refine (Hpa.out w3 HF3.out).mono ?_
      rintro e w4 ⟨p1, rfl, hown1, hb4⟩
      have HF4 := Lib.hid (HF3.out.keep hb4)
      have HP4 := Lib.hid (HP3.out.below hb4)
      have HB4 := Lib.hid (HB3.out.trans (hb4.mono HB3.out.size))
      have hs4 := hb4.size
      have HO4 := Lib.hid hown1
      obtain ⟨p1a, p1c, rfl, _⟩ := own_slice hown1
      clear hb4 HF3 HB3 c0 c1 hown1
      obtain ⟨c0, c1⟩ := HC.out w4 HF4.out.below
      go_wp2_with fail
      refine (Hrp.out w4 HF4.out).mono ?_
      rintro e w5 ⟨p2, rfl, hown2, hb5⟩
      have HF5 := Lib.hid (HF4.out.keep hb5)
      have HP5 := Lib.hid (HP4.out.below hb5)
      have HB5 := Lib.hid (HB4.out.trans (hb5.mono HB4.out.size))
      have hs5 := hb5.size
      have HO5 := Lib.hid (own_below HO4.out hb5)
      have HQ5 := Lib.hid hown2
      clear hb5 HF4 HP4 HB4 c0 c1 hown2
      go_wp2_with fail
      refine (sameInts_calls _ _ q w5 (rd_of_own (by have := HO5.out; rwa [show (q.map VI) = q.map VI from rfl] at this)) (rd_of_own HQ5.out)).mono ?_
      rintro e w6 ⟨rfl, kd, hw6⟩
      have hb6 : Below w5.heap.size w5 w6 := by rw [hw6]; exact below_drewN _ _
      have HF6 := Lib.hid (HF5.out.keep hb6)
      have HP6 := Lib.hid (HP5.out.below hb6)
      have HB6 := Lib.hid (HB5.out.trans (hb6.mono HB5.out.size))
      have hs6 := hb6.size
      have HO6 := Lib.hid (own_below HO5.out hb6)
      clear hb6 HF5 HP5 HB5 HO5 HQ5 hw6
      obtain ⟨c0, c1⟩ := HC.out w6 HF6.out.below
      go_wp2_with fail
      refine (Hpa.out w6 HF6.out).mono ?_
      rintro e w7 ⟨p3, rfl, hown3, hb7⟩
      have hb8 := below_alloc w7 (.cells #[.slice p1a q.length p1c, p3] 22)
      have hbb := hb7.trans (hb8.mono hb7.size)
      have HF7 := Lib.hid (HF6.out.keep hbb)
      have HP7 := Lib.hid (HP6.out.below hbb)
      have HB7 := Lib.hid (HB6.out.trans (hbb.mono HB6.out.size))
      have hs7 := hb7.size
      have HO7 := Lib.hid (own_below HO6.out hbb)
      have HQ7 := Lib.hid (own_below hown3 hb8)
      have hq3 := fun k hk => (hown3.lt k hk).1
      obtain ⟨p3a, p3c, rfl, _⟩ := own_slice hown3
      clear hb7 hb8 hbb HP6 HB6 HO6 c0 c1 hown3
      have HB7s := HB7.out.size
      go_wp2_with (at_builtin; refine appSI rfl _ _ rfl w1.heap.size _ _ _ rfl HP7.out.outer ⟨w7.heap.size, 0, none⟩ 2 2 [.slice p1a q.length p1c, .slice p3a q.length p3c] rfl rfl (news_new w7 _ _ _ rfl) (by simp [Value.oneCell']) (by omega) HB7s ?_)
      intro v' w8 hown' hg' hm'
      have hB8 := HB7.out.trans (below_grown hg' HB7s (fun k hk => (HP7.out.outer.lt k hk).1))
      have hP8 := HP7.out.two (H1 := w3.heap.size) (H2 := w6.heap.size) (x1 := q.map VI) (x2 := q.map VI)
        (by have := own_base (base' := w1.heap.size) HO7.out HBs3.out; simpa using this) (by have := own_base (base' := w1.heap.size) HQ7.out (by have := HBs3.out; omega); simpa using this) (by simpa using hpl) (by simpa using hpl)
        (fun k hk => (HP3.out.outer.lt k hk).2) (fun j hj k hk => ((HP3.out.own j hj).lt k hk).2) (fun k hk => ⟨(HO4.out.lt k hk).1, by have := (HO4.out.lt k hk).2; omega⟩) hq3 (by omega) hown' hg' hm'
      have HT' := Lib.hid (show LivesAt w w1 l m b B rb sv fv ys (2 * (i + 1)) v' w8 from ⟨HF.out.keep hB8, ⟨_, _, hP8⟩, hB8⟩)
      clear hown' hg' hm' hB8 hP8 HP7 HB7 HO7 HQ7 hq3 HF7
      go_wp2_with fail
      go_roundg (ks.length - (i + 1))
      case measure => have := Hgi.out; omega
      case rel => exact ⟨i + 1, by have := Hgi.out; omega, by go_num, by omega, HT'.out⟩
    · have hend : ∀ w9, Mod (fun q => w1.heap.size ≤ q) wr w9 → Below w.heap.size w w9 ∧ IsArena w9 (fillL l m) m b := fun w9 hm9 => by
        have h1 : Below w1.heap.size w1 w9 := HB1.out.trans (hm9.below HB1.out.size (fun _ h => h))
        exact ⟨HF.out.below.trans (h1.mono HF.out.below.size), HF.out.arena.below h1⟩
      have hap := apartI_calls ⟨2 * i, vs, fun j => (xs j).length, w1.heap.size, 3⟩ _ wr rfl HP.out.turn (by show 2 * i ≤ 1000000; omega) (fun j hj => by have := HP.out.small j hj; show (xs j).length ≤ 1000000000000; omega) (fun q hq => (HP.out.outer.lt q hq).2) HB1.out.size
      have Hap := Lib.hid hap
      have Hend := Lib.hid hend
      clear hap hend HP HFr HB1 HF HK hgi
      by_cases h100 : i < ks.length
      · have hi1 : (i : Int) < (ks.length : Int) := by omega
        have hi2 : decide ((i : Int) < 100) = false := by simp; omega
        clear hi
        go_wp2_with fail
        refine Hap.out.mono ?_
        rintro e w9 ⟨rfl, hm9⟩
        obtain ⟨hb9, ha9⟩ := Hend.out w9 hm9
        have HB9 := Lib.hid hb9
        clear hm9 hb9
        go_wp2_with (go_at_call 17; refine (writes_calls _ _ b w9 ha9).mono ?_; rintro e w' ⟨rfl, rfl⟩)
        go_ret
        exact ⟨rfl, HB9.out⟩
      · have hi1 : decide (i < ks.length) = false := by simp; omega
        clear hi
        go_wp2_with fail
        refine Hap.out.mono ?_
        rintro e w9 ⟨rfl, hm9⟩
        obtain ⟨hb9, ha9⟩ := Hend.out w9 hm9
        have HB9 := Lib.hid hb9
        clear hm9 hb9
        go_wp2_with (go_at_call 17; refine (writes_calls _ _ b w9 ha9).mono ?_; rintro e w' ⟨rfl, rfl⟩)
        go_ret
        exact ⟨rfl, HB9.out⟩
end Go.Proofs.Ytkabeejefkmdgaa
