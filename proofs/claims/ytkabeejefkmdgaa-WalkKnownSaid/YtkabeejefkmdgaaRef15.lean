/-
  The reference's arena: New, There, Bare, Put.
-/
import Derived.Test.YtkabeejefkmdgaaArena
import Derived.Test.YtkabeejefkmdgaaKitI
import Derived.Outline
import Derived.Deep.LoopGhost
import Derived.Deep.RegionLaw
namespace Go.Proofs.Ytkabeejefkmdgaa
open Go.RowKit

theorem info_slot : (Try.prog.info? 37).map (fun i => (i.zero, i.size, i.bytes)) = some (some (.agg SlotM.none.vals.toArray), 17, 144) := by kernel_rfl
theorem refBare_calls (w : World) :
    Calls Try.prog 36 #[] w fun e w' => e = .returned (.agg SlotM.bare.vals.toArray) ∧ Below w.heap.size w w' := by
  go_enter Try.func36, Try.ntmps36
  have hm0 := below_alloc w (.cells SlotM.none.vals.toArray 37)
  have hb0 : Box (w.alloc (.cells SlotM.none.vals.toArray 37)) w.heap.size SlotM.none.vals.toArray 37 := Box.new _ _ _
  have Ht1 := Lib.hid (slot_there hb0)
  have Hm1 := Lib.hid hm0
  clear hm0 hb0
  go_wp2_with (refine wpList_store_k (op := ⟨none, .store _ _ _, _, _, _, _⟩) rfl 37 (.tmp 0) (.tmp 1) rfl w.heap.size 0 SlotM.bare.vals rfl _ rfl (Lib.hid rfl) Ht1.out (by kernel_rfl) SlotM.bare.vals_one ?_)
  intro w2 hw2
  have hr2 := stored_range hw2 Ht1.out
  have hm2 : Below w.heap.size w w2 := by rw [hw2.out]; exact Hm1.out.trans ((Mod.setCells (fun k => k = w.heap.size) _ rfl _ _ _).below Hm1.out.size (fun k hk => by omega))
  have Hr2 := Lib.hid hr2
  have Hm2 := Lib.hid hm2
  clear hr2 hm2 hw2
  go_wp2_with fail
  exact ret_cell rfl rfl w.heap.size 0 rfl SlotM.bare.vals _ Hr2.out Try.underlying37 rfl (by kernel_rfl) ⟨rfl, Hm2.out⟩
theorem refBareL_calls (w : World) :
    Calls Try.prog 36 #[] w fun e w' => e = .returned (.agg #[.bool false, .bool false, .int .i64 (-1), .int .i64 (-1), .int .i64 (-1), .int .i64 0, .int .i64 0, .int .i64 0, .int .i64 0, .int .i64 0, .string ⟨#[]⟩, .string ⟨#[]⟩, .int .u64 0, .int .i64 0, .int .i64 0, .int .i64 0, .int .i64 0]) ∧ Below w.heap.size w w' := refBare_calls w
theorem refThere_calls (i : Int) (w : World) :
    Calls Try.prog 37 #[.int .i64 i] w fun e w' => e = .returned (.bool (decide (0 ≤ i ∧ i < 32))) ∧ w = w' := by
  go_enter Try.func37, Try.ntmps37
  by_cases h1 : 0 ≤ i
  · by_cases h2 : i < 32
    · go_wp2
      go_ret
      exact ⟨by simp [h1, h2], rfl⟩
    · go_wp2
      go_ret
      exact ⟨by simp [h2], rfl⟩
  · go_wp2
    go_ret
    exact ⟨by simp; omega, rfl⟩
/-- The reference's arena: its block, its rows. -/
structure RefAt (w : World) (B rb k : Nat) (l : List SlotM) (n : Int) (sv fv : Value) (ys : List Value) : Prop where
  box : Box w rb #[sv, fv, .int .i64 n] 80
  slots : w.ownsRow B 37 17 sv l.length (l.flatMap SlotM.vals)
  free : w.ownsRow B 3 1 fv k ys
  apart : Apart sv fv
  sne : sv.ownBlock ≠ some rb
  fne : fv.ownBlock ≠ some rb
  le : B ≤ rb
theorem RefAt.below {w w' : World} {B rb k : Nat} {l : List SlotM} {n : Int} {sv fv : Value} {ys : List Value} (h : RefAt w B rb k l n sv fv ys) (hb : Below w.heap.size w w') : RefAt w' B rb k l n sv fv ys :=
  ⟨h.box.below hb, own_below h.slots hb, own_below h.free hb, h.apart, h.sne, h.fne, h.le⟩
theorem news_new (w : World) (cs : Array Value) (t : TypeId) (news : List Value) (h : cs.toList = news) : ∀ j u, news[j]? = some u → (w.alloc (.cells cs t)).cell? ((⟨w.heap.size, 0, none⟩ : Addr).add j) = some u := fun j u hj => by
  subst h; exact World.news_of_block (heap_alloc_new w (.cells cs t)) j u hj
/-- A slot more. -/
theorem RefAt.slot {w w5 : World} {B rb k : Nat} {l : List SlotM} {n : Int} {sv fv nv : Value} {ys : List Value} {s : SlotM} (h : RefAt w B rb k l n sv fv ys)
    (hown : w5.ownsRow B 37 17 nv (l.length + 1) (l.flatMap SlotM.vals ++ s.vals)) (hg : w.grownBy w5 sv.ownBlock) (hm : Moved w sv nv) : RefAt (w5.setCell ⟨rb, 0, none⟩ nv) B rb k (l ++ [s]) n nv fv ys := by
  have hx5 := h.box.grown hg h.sne
  have hne : nv.ownBlock ≠ some rb := by
    rcases hm with e | e
    · rw [e]; exact h.sne
    · rw [e]; intro e2; injection e2 with e2; have := h.box.lt; omega
  have hms : Mod (fun q => q = rb) w5 (w5.setCell ⟨rb, 0, none⟩ nv) := Mod.set (fun q => q = rb) w5 ⟨rb, 0, none⟩ nv rfl
  have hf5 := own_other h.free hg h.apart.symm
  refine ⟨by simpa using hx5.set 0 nv, ?_, own_mod hf5 hms (fun q hq e => h.fne (e ▸ hq)), ?_, hne, h.fne, h.le⟩
  · have := own_mod hown hms (fun q hq e => hne (e ▸ hq))
    simpa using this
  · exact (h.apart.symm.moved hm (fun q hq => (h.free.lt q hq).2)).symm
theorem RefAt.one {w w5 : World} {B rb k : Nat} {l : List SlotM} {n : Int} {sv fv nv : Value} {ys : List Value} {y : Value} (h : RefAt w B rb k l n sv fv ys)
    (hown : w5.ownsRow B 3 1 nv (k + 1) (ys ++ [y])) (hg : w.grownBy w5 fv.ownBlock) (hm : Moved w fv nv) : RefAt (w5.setCell ⟨rb, 1, none⟩ nv) B rb (k + 1) l n sv nv (ys ++ [y]) := by
  have hx5 := h.box.grown hg h.fne
  have hne : nv.ownBlock ≠ some rb := by
    rcases hm with e | e
    · rw [e]; exact h.fne
    · rw [e]; intro e2; injection e2 with e2; have := h.box.lt; omega
  have hms : Mod (fun q => q = rb) w5 (w5.setCell ⟨rb, 1, none⟩ nv) := Mod.set (fun q => q = rb) w5 ⟨rb, 1, none⟩ nv rfl
  have hs5 := own_other h.slots hg h.apart
  exact ⟨by simpa using hx5.set 1 nv, own_mod hs5 hms (fun q hq e => h.sne (e ▸ hq)), own_mod hown hms (fun q hq e => hne (e ▸ hq)), h.apart.moved hm (fun q hq => (h.slots.lt q hq).2), h.sne, hne, h.le⟩
theorem moved_of {w : World} {v : Value} {g m cap H : Nat} (h : v.ownBlock = some g ∨ g = H) (hH : H = w.heap.size) : Moved w v (.slice (some ⟨g, 0, none⟩) m cap) := by
  rcases h with h | h
  · left; rw [h]; rfl
  · right; rw [← hH, ← h]; rfl
set_option maxHeartbeats 1600000 in
theorem refNew_calls (w : World) :
    Calls Try.prog 29 #[] w fun e w' => ∃ rb sv fv ys, e = .returned (.pointer (some ⟨rb, 0, none⟩)) ∧ RefAt w' w.heap.size rb 32 (List.replicate 32 SlotM.bare) 0 sv fv ys ∧ Below w.heap.size w w' := by
  obtain ⟨i0, hi0, hz0, hz1, hz2⟩ := info_parts info_slot
  have Hi0 := Lib.hid hi0
  have Hz0 := Lib.hid hz0
  have Hz1 := Lib.hid hz1
  have Hz2 := Lib.hid hz2
  clear hi0 hz0 hz1 hz2
  go_enter Try.func29, Try.ntmps29
  go_wp2_with fail
  generalize hw1 : World.alloc w _ = w1
  have hR : RefAt w1 w.heap.size w.heap.size 0 [] 0 (.slice none 0 0) (.slice none 0 0) [] := by
    rw [← hw1]; exact ⟨Box.new _ _ _, World.ownsRow_nil _ _ _ _, World.ownsRow_nil _ _ _ _, nil_apart _, by simp [Value.ownBlock], by simp [Value.ownBlock], Nat.le_refl _⟩
  have hb1 : Below w.heap.size w w1 := by rw [← hw1]; exact below_alloc _ _
  have HR := Lib.hid hR
  have HB := Lib.hid hb1
  obtain ⟨rb, hrb⟩ : ∃ rb, rb = w.heap.size := ⟨_, rfl⟩
  have HRB := Lib.hid hrb
  rw [show RefAt w1 w.heap.size w.heap.size 0 [] 0 (.slice none 0 0) (.slice none 0 0) [] = RefAt w1 w.heap.size rb 0 [] 0 (.slice none 0 0) (.slice none 0 0) [] from by rw [hrb]] at HR
  rw [← hrb]
  clear hw1 hR hb1 hrb
  go_loopg [2] 32 (fun gk iv wr => ∃ (i : Nat) (sv fv : Value) (ys : List Value), gk + i = 32 ∧ iv = .int .i64 (i : Int) ∧ RefAt wr w.heap.size rb i (List.replicate i SlotM.bare) 0 sv fv ys ∧ Below w.heap.size w wr)
  case atStart => exact ⟨0, _, _, _, rfl, rfl, HR.out, HB.out⟩
  case round =>
    clear HR HB
    obtain ⟨i, sv, fv, ys, hgi, rfl, hR, hb⟩ := hrel
    have hs := hb.size
    have HR := Lib.hid hR
    have HB := Lib.hid hb
    have Hgi := Lib.hid hgi
    by_cases hi : i < 32
    · have hi1 : (i : Int) < 32 := by omega
      have hc0 : wr.cell? ⟨rb, 0, none⟩ = some sv := hR.box.cell 0 _ rfl
      clear hR hb hgi
      go_wp2_with fail
      go_region_law (first | ((refine step_append_lies _ (by rfl) _ _ _ (by rfl) w.heap.size 37 i0 _ 17 144 Try.underlying48 Hi0.out Hz0.out Hz1.out Hz2.out rfl (by omega) _ _ _ (by rfl) (HR4.out.slots.alloc _) ⟨_, 0, none⟩ 1 1 SlotM.bare.vals (by rfl) (by rfl) (news_new w4 _ _ _ rfl) SlotM.bare.vals_one (by omega) (by simp; unfold maxLen; omega) (by simp; omega) (by have := HR4.out.box.lt; have := HR4.out.le; simp; omega) _ rfl ?_); intro g cap w5 hown5 hg5 hat5 hlt5; have hx5 := (HR4.out.box.below (below_alloc w4 (.cells SlotM.bare.vals.toArray 37))).grown hg5 HR4.out.sne; have hc5 := hx5.cell 0 _ rfl; have hf5 := hx5.free 0; have HX5 := Lib.hid hx5; have HO5 := Lib.hid hown5; have HG5 := Lib.hid hg5; have HA5 := Lib.hid hat5; clear hx5 hown5 hg5 hat5 hlt5) | ((go_simp; go_at_call 36; refine (refBareL_calls _).mono ?_; rintro e w4 ⟨rfl, hb4⟩; have hc4 : w4.cell? ⟨rb, 0, none⟩ = some sv := below_heap hb4 hc0; have hcA : ∀ o, (w4.alloc o).cell? ⟨rb, 0, none⟩ = some sv := fun o => below_heap (below_alloc _ _) hc4; have hb4' := (below_drew wr).trans hb4; have HR4 := Lib.hid (HR.out.below hb4'); have HB4 := Lib.hid (HB.out.trans (hb4'.mono hs)); clear hb4 hb4')))
      all_goals
        have hR6 := (HR4.out.below (below_alloc w4 (.cells SlotM.bare.vals.toArray 37))).slot (nv := .slice (some ⟨g, 0, none⟩) (i + 1) cap) (by simpa using HO5.out) HG5.out (moved_of HA5.out rfl)
        have hb6 : Below w.heap.size w (w5.setCell ⟨rb, 0, none⟩ (.slice (some ⟨g, 0, none⟩) (i + 1) cap)) :=
          (((HB4.out.trans ((below_alloc w4 _).mono HB4.out.size)).trans (below_grown HG5.out (by have := HB4.out.size; simp; omega) (fun q hq => (HR4.out.slots.lt q hq).1)))).setCell (by rw [HRB.out]; exact Nat.le_refl _) _
        generalize w5.setCell ⟨rb, 0, none⟩ (.slice (some ⟨g, 0, none⟩) (i + 1) cap) = w6 at hR6 hb6 ⊢
        generalize Value.slice (some ⟨g, 0, none⟩) (i + 1) cap = nv at hR6 ⊢
        rw [← List.replicate_succ'] at hR6
        have hc6 : w6.cell? ⟨rb, 1, none⟩ = some fv := hR6.box.cell 1 _ rfl
        have hs6 := hb6.size
        have hrl := hR6.box.lt
        have hrle := hR6.le
        obtain ⟨fa, fc, rfl, _⟩ := own_slice hR6.free
        have hownA := hR6.free.alloc (.cells #[.int .i64 (i : Int)] 3)
        have hR6A := hR6.below (below_alloc w6 (.cells #[.int .i64 (i : Int)] 3))
        have HR6 := Lib.hid hR6A
        have HB6 := Lib.hid (hb6.trans ((below_alloc w6 (.cells #[.int .i64 (i : Int)] 3)).mono hs6))
        have HOA := Lib.hid hownA
        clear hR6 hb6 hownA hR6A HO5 HG5 HA5 HR4 HB4 hc0 hc4 hcA hc5 hf5 HX5
        go_wp2_with (at_builtin; refine appI rfl _ _ rfl w.heap.size _ _ _ rfl HOA.out ⟨w6.heap.size, 0, none⟩ 1 (.int .i64 (i : Int)) rfl (by simp) rfl (by omega) (by simp; omega) ?_)
        intro v' w7 hown' hg' hm' _
        have hx7 := HR6.out.box.grown hg' HR6.out.fne
        have hc7 := hx7.cell 1 _ rfl
        have hf7 := hx7.free 1
        have hR8 := HR6.out.one hown' hg' hm'
        have hb8 := (HB6.out.trans (below_grown hg' HB6.out.size (fun q hq => (HOA.out.lt q hq).1))).setCell (p := ⟨rb, 1, none⟩) hrle v'
        obtain ⟨fa', fc', rfl, _⟩ := own_slice hown'
        have HR8 := Lib.hid hR8
        have HB8 := Lib.hid hb8
        clear hown' hg' hm' hR8 hb8 HR6 HB6 hx7
        go_wp2_with fail
        go_roundg (32 - (i + 1))
        case measure => have := Hgi.out; omega
        case rel => exact ⟨i + 1, _, _, _, by omega, by go_num, HR8.out, HB8.out⟩
    · obtain rfl : i = 32 := by omega
      clear hR hb hgi
      go_wp2_with fail
      go_ret
      exact ⟨rb, sv, fv, ys, rfl, by rw [← HRB.out] at HR ⊢; exact HR.out, HB.out⟩
/-- Cells of an owned row are written. -/
theorem own_setCells {w : World} {base : Nat} {e : TypeId} {size : Nat} {v : Value} {n : Nat} {xs vs : List Value} (h : w.ownsRow base e size v n xs) (g : Nat) (hg : v.ownBlock = some g) (o : Nat) (ho : o + vs.length ≤ n * size) :
    (w.setCells g o vs).ownsRow base e size v n (xs.take o ++ vs ++ xs.drop (o + vs.length)) := by
  obtain ⟨hl, h⟩ := h
  rcases h with ⟨rfl, rfl⟩ | ⟨g', cap, cur, rfl, hbg, hB, hnc, hcm, hcs, htake⟩
  · simp [Value.ownBlock] at hg
  · simp only [Value.ownBlock, Option.some.injEq] at hg
    subst hg
    have hB' : Box w g' cur e := hB
    have hsz : n * size ≤ cur.size := by rw [hcs]; exact Nat.mul_le_mul_right _ hnc
    obtain ⟨cs', k1, k2, k3, k4⟩ := Box.setCells vs o hB' (by omega)
    refine ⟨by simp; omega, .inr ⟨g', cap, cs', rfl, hbg, k1, hnc, hcm, by omega, ?_⟩⟩
    apply List.ext_getElem?
    intro j
    rw [List.getElem?_take]
    by_cases hj : j < n * size
    · rw [if_pos hj, Array.getElem?_toList]
      have hold : ∀ j, j < n * size → cur[j]? = xs[j]? := fun j hj => by rw [← htake, List.getElem?_take, if_pos hj, Array.getElem?_toList]
      by_cases h1 : j < o
      · rw [k4 j (.inl h1), hold j hj, List.append_assoc, List.getElem?_append_left (by simp; omega), List.getElem?_take, if_pos h1]
      · by_cases h2 : j < o + vs.length
        · have := k3 (j - o) vs[j - o] (by simp [show j - o < vs.length by omega])
          rw [show o + (j - o) = j by omega] at this
          rw [this, List.append_assoc, List.getElem?_append_right (by simp; omega), List.getElem?_append_left (by simp; omega)]
          simp only [List.length_take]
          rw [show min o xs.length = o by omega]; simp [show j - o < vs.length by omega]
        · rw [k4 j (.inr (by omega)), hold j hj, List.getElem?_append_right (by simp; omega), List.getElem?_drop]
          simp only [List.length_append, List.length_take]
          rw [show min o xs.length = o by omega, show o + vs.length + (j - (o + vs.length)) = j by omega]
    · rw [if_neg hj, List.getElem?_eq_none (by simp; omega)]
theorem flatMap_set (l : List SlotM) (i : Nat) (s : SlotM) (hi : i < l.length) : (l.set i s).flatMap SlotM.vals = (l.flatMap SlotM.vals).take (17 * i) ++ s.vals ++ (l.flatMap SlotM.vals).drop (17 * i + 17) := by
  induction l generalizing i with
  | nil => simp at hi
  | cons a l ih =>
    cases i with
    | zero => simp [SlotM.vals]
    | succ i =>
      rw [List.set_cons_succ, List.flatMap_cons, ih i (by simpa using hi), List.flatMap_cons, List.take_append, List.drop_append]
      have h1 : a.vals.length = 17 := rfl
      rw [h1, List.take_of_length_le (show a.vals.length ≤ 17 * (i + 1) by rw [h1]; omega), List.drop_eq_nil_of_le (show a.vals.length ≤ 17 * (i + 1) + 17 by rw [h1]; omega)]
      rw [show 17 * (i + 1) - 17 = 17 * i by omega, show 17 * (i + 1) + 17 - 17 = 17 * i + 17 by omega]
      simp
theorem flatMap_len17 (l : List SlotM) : (l.flatMap SlotM.vals).length = 17 * l.length := by
  induction l with
  | nil => rfl
  | cons a l ih => rw [List.flatMap_cons, List.length_append, ih, SlotM.vals_length, List.length_cons]; omega
theorem flatMap_get17 (l : List SlotM) (i : Nat) (s : SlotM) (hs : l[i]? = some s) (j : Nat) (v : Value) (hv : s.vals[j]? = some v) : (l.flatMap SlotM.vals)[17 * i + j]? = some v := by
  induction l generalizing i with
  | nil => simp at hs
  | cons a l ih =>
    have hj : j < 17 := by have := (List.getElem?_eq_some_iff.1 hv).1; rwa [SlotM.vals_length] at this
    have h1 : a.vals.length = 17 := rfl
    rw [List.flatMap_cons]
    cases i with
    | zero => simp only [List.getElem?_cons_zero, Option.some.injEq] at hs; subst hs; rw [List.getElem?_append_left (by rw [h1]; omega)]; simpa using hv
    | succ i =>
      rw [List.getElem?_append_right (by rw [h1]; omega), h1, show 17 * (i + 1) + j - 17 = 17 * i + j by omega]
      exact ih i (by simpa using hs)
/-- A slot of the reference's arena. -/
theorem RefAt.range {w : World} {B rb k : Nat} {l : List SlotM} {n : Int} {sv fv : Value} {ys : List Value} (h : RefAt w B rb k l n sv fv ys) (i : Nat) (s : SlotM) (hs : l[i]? = some s) :
    ∃ g cap, sv = .slice (some ⟨g, 0, none⟩) l.length cap ∧ l.length ≤ 9223372036854775807 ∧ w.rangeAt g (17 * i) s.vals ∧ w.there g (17 * i) 17 ∧ g < w.heap.size := by
  have hi : i < l.length := (List.getElem?_eq_some_iff.1 hs).1
  rcases h.slots.2 with ⟨_, h0⟩ | ⟨g, cap, cur, e, hbg, hB, hnc, hcm, hcs, htake⟩
  · omega
  · have hB' : Box w g cur 37 := hB
    have hr : w.rangeAt g (17 * i) s.vals := fun j v hv => by
      have := flatMap_get17 l i s hs j v hv
      rw [← htake, List.getElem?_take] at this
      split at this
      · rw [Array.getElem?_toList] at this; exact hB'.cell _ _ this
      · cases this
    exact ⟨g, cap, e, by unfold maxLen at hcm; omega, hr, fun j hj => ⟨by rw [hr j (s.vals[j]'(by rw [SlotM.vals_length]; exact hj)) (by simp)]; rfl, hB'.free _⟩, hB'.lt⟩
theorem RefAt.put {w : World} {B rb k : Nat} {l : List SlotM} {n : Int} {sv fv : Value} {ys : List Value} (h : RefAt w B rb k l n sv fv ys) (i : Nat) (hi : i < l.length) (s : SlotM) (g : Nat) (hg : sv.ownBlock = some g) :
    RefAt (w.setCells g (17 * i) s.vals) B rb k (l.set i s) n sv fv ys := by
  have hm : Mod (fun q => q = g) w (w.setCells g (17 * i) s.vals) := Mod.setCells (fun q => q = g) g rfl s.vals (17 * i) w
  refine ⟨h.box.mod hm (fun e => h.sne (by rw [e]; exact hg)), ?_, own_mod h.free hm (fun q hq e => h.apart.symm q hq (by rw [e]; exact hg)), h.apart, h.sne, h.fne, h.le⟩
  have := own_setCells (vs := s.vals) h.slots g hg (17 * i) (by rw [SlotM.vals_length]; omega)
  rw [SlotM.vals_length] at this
  rw [List.length_set, flatMap_set l i s hi]; exact this
theorem RefAt.count {w : World} {B rb k : Nat} {l : List SlotM} {n : Int} {sv fv : Value} {ys : List Value} (h : RefAt w B rb k l n sv fv ys) (m : Int) : RefAt (w.setCell ⟨rb, 2, none⟩ (.int .i64 m)) B rb k l m sv fv ys := by
  have hm : Mod (fun q => q = rb) w (w.setCell ⟨rb, 2, none⟩ (.int .i64 m)) := Mod.set (fun q => q = rb) w ⟨rb, 2, none⟩ _ rfl
  exact ⟨by simpa using h.box.set 2 (.int .i64 m), own_mod h.slots hm (fun q hq e => h.sne (e ▸ hq)), own_mod h.free hm (fun q hq e => h.fne (e ▸ hq)), h.apart, h.sne, h.fne, h.le⟩
set_option maxHeartbeats 800000 in
theorem refPut_calls (B rb k : Nat) (l : List SlotM) (n : Int) (sv fv : Value) (ys : List Value) (i : Nat) (s : SlotM) (w : World) (h : RefAt w B rb k l n sv fv ys) (hl : l.length = 32) (hi : i < 32) (hn : 0 ≤ n ∧ n ≤ 1000000000000) :
    Calls Try.prog 30 #[.pointer (some ⟨rb, 0, none⟩), .int .i64 (i : Int), .agg s.vals.toArray] w fun e w' => e = .returned (.int .i64 0) ∧ RefAt w' B rb k (l.set i s) (n + 1) sv fv ys ∧ Mod (fun q => q = rb ∨ sv.ownBlock = some q) w w' := by
  have hd : decide (0 ≤ (i : Int) ∧ (i : Int) < 32) = true := by simp; omega
  obtain ⟨av, hav⟩ : ∃ av, av = s.vals.toArray := ⟨_, rfl⟩
  have Hav := Lib.hid hav
  rw [← hav]
  clear hav
  have Hl := Lib.hid hl
  have HR := Lib.hid h
  clear h hl
  go_enter Try.func30, Try.ntmps30
  go_wp2_with fail
  rw [Hav.out]
  generalize hw1 : World.alloc w _ = w1
  have hbx : Box w1 w.heap.size s.vals.toArray 37 := by rw [← hw1]; exact Box.new _ _ _
  have hR1 : RefAt w1 B rb k l n sv fv ys := by rw [← hw1]; exact HR.out.below (below_alloc _ _)
  have hm1 : Below w.heap.size w w1 := by rw [← hw1]; exact below_alloc _ _
  have Hr1 := Lib.hid (slot_range hbx)
  have Hm1 := Lib.hid hm1
  have HR1 := Lib.hid hR1
  have hi0 : (0 : Int) ≤ (i : Int) := by omega
  have hi1 : (i : Int) < 32 := by omega
  clear hw1 hbx hm1 hR1 HR Hav
  refine (refThere_calls i _).mono ?_
  rw [hd]
  clear hd
  rintro e w' ⟨rfl, rfl⟩
  obtain ⟨g, cap, e1, _, _, ht, hglt⟩ := HR1.out.range i (l[i]'(by rw [Hl.out]; exact hi)) (by simp)
  rw [Hl.out] at e1
  subst e1
  have hc0 : w1.cell? ⟨rb, 0, none⟩ = some (.slice (some ⟨g, 0, none⟩) 32 cap) := HR1.out.box.cell 0 _ rfl
  have Ht2 : Hid (w1.drew.there g (i * 17) s.vals.length) := Lib.hid (by rw [Nat.mul_comm]; exact (World.there_drew _ _ _ _).2 ht)
  have Hr2 : Hid (w1.drew.rangeAt w.heap.size 0 s.vals) := Lib.hid ((World.rangeAt_drew _ _ _ _).2 Hr1.out)
  clear ht hglt Hr1
  go_wp2_with fail
  go_still_tail 7, (by kernel_rfl)
  refine wpStill_load_k rfl 37 (.tmp 5) rfl w.heap.size 0 rfl s.vals _ Hr2.out Try.underlying37 rfl (by kernel_rfl) ?_
  intro v hv
  repeat still_step
  refine wpStill_nil ?_
  change wpList _ _ _ _ _ w1.drew
  go_wp2_with (refine wpList_store_k (op := ⟨none, .store _ _ _, _, _, _, _⟩) rfl 37 (.tmp 16) (.tmp 15) rfl g (i * 17) s.vals rfl v rfl hv Ht2.out (by kernel_rfl) s.vals_one ?_)
  intro w2 hw2
  have hR3 : RefAt w2 B rb k (l.set i s) n (.slice (some ⟨g, 0, none⟩) 32 cap) fv ys := by
    rw [hw2.out, Nat.mul_comm]
    exact (HR1.out.below (below_drew _)).put i (by rw [Hl.out]; exact hi) s g rfl
  have hm3 : Mod (fun q => q = rb ∨ (Value.slice (some ⟨g, 0, none⟩) 32 cap).ownBlock = some q) w w2 := by
    rw [hw2.out]
    exact ((Mod.of_below Hm1.out).trans (Mod.drew _ _)).trans (Mod.setCells _ g (.inr rfl) _ _ _)
  have hc2 : w2.cell? ⟨rb, 2, none⟩ = some (.int .i64 n) := hR3.box.cell 2 _ rfl
  have hf2 := hR3.box.free 2
  have HR3 := Lib.hid hR3
  have Hm3 := Lib.hid hm3
  clear hR3 hm3 hw2 hc0 HR1 Hm1
  go_wp2_with fail
  go_ret
  exact ⟨rfl, HR3.out.count _, Hm3.out.trans (Mod.set _ _ _ _ (.inl rfl))⟩
end Go.Proofs.Ytkabeejefkmdgaa
