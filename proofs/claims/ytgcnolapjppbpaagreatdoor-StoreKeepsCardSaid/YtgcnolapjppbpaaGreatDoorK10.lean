/-
  Texts of one proof, one behind the other.
-/
import Derived.Test.YtgcnolapjppbpaaGreatDoorK09
import Derived.StillTailTactics
import Derived.Shelf.Abstract
import Derived.Shelf.RegionOpen
import Derived.WalkKit
import Derived.OwnWalkIn
import Derived.TacticsInMore
import Derived.LoopNIn
import Derived.LoopIn
namespace Go.Proofs.YtgcnolapjppbpaaGreatDoor
open Go.RowKit Go.Shelf
attribute [local go_sem] Oper.semAt_some
def posM (e : UInt32) (bl : List (List UInt8)) : Nat → Nat
  | 0 => 0
  | i + 1 => match oneM e (bl.drop (posM e bl i)) with
    | none => posM e bl i
    | some g => posM e bl i + g.2
def payM (e : UInt32) (bl : List (List UInt8)) (i : Nat) : Option (List UInt8 × Nat) := oneM e (bl.drop (posM e bl i))
theorem posM_succ {e : UInt32} {bl : List (List UInt8)} {i : Nat} {p : List UInt8} {k : Nat} (h : payM e bl i = some (p, k)) : posM e bl (i + 1) = posM e bl i + k := by
  unfold payM at h
  rw [posM, h]
theorem posM_le (e : UInt32) (bl : List (List UInt8)) : ∀ i, posM e bl i ≤ bl.length
  | 0 => Nat.zero_le _
  | i + 1 => by
    have ih := posM_le e bl i
    rw [posM]
    cases h : oneM e (bl.drop (posM e bl i)) with
    | none => exact ih
    | some g =>
      have := oneM_pos (p := g.1) (k := g.2) h
      rw [List.length_drop] at this
      show posM e bl i + g.2 ≤ _
      omega
def NextR (n₀ : Nat) (e : UInt32) (bl : List (List UInt8)) (pre : List (Nat × Value)) (x : Nat × Value) (W : World) : Prop :=
  x.1 = posM e bl pre.length ∧ (∃ p k, payM e bl pre.length = some (p, k) ∧ OwnM W n₀ 5 x.2 p.length (p.map V8)) ∧ ∀ y ∈ pre, Apart y.2 x.2
structure AllK (e : UInt32) (E B n : Nat) (ba : Option Addr) (bc : Nat) (wr w' : World) : Prop where
  ec : w'.cell? ⟨E, 0, none⟩ = some (.int .u32 (e.toNat : Int))
  bc : w'.cell? ⟨B, 0, none⟩ = some (.slice ba n bc)
  below : Below wr.heap.size wr w'
theorem AllK.keep {e : UInt32} {E B n : Nat} {ba : Option Addr} {bc : Nat} {wr w1 w2 : World} (h : AllK e E B n ba bc wr w1) (hb : Below w1.heap.size w1 w2) : AllK e E B n ba bc wr w2 := ⟨below_heap hb h.ec, below_heap hb h.bc, h.below.trans (hb.mono h.below.size)⟩
set_option maxRecDepth 100000 in
set_option maxHeartbeats 2000000 in
theorem allIt (e : UInt32) (bl : List (List UInt8)) (hbig : ∀ b ∈ bl, b.length ≤ 9223372036854775807) (E B n₀ : Nat) (w : World) (hA : AllAt n₀ e bl E B w) (n : Nat) (hn : 1 ≤ n) :
    SeqR Fence.wide n Tryz.prog 182 #[.pointer (some ⟨E, 0, none⟩), .pointer (some ⟨B, 0, none⟩)] (fun x : Nat × Value => #[.int .i64 (x.1 : Int), x.2]) (fun b => b < n₀ ∨ w.heap.size ≤ b) (NextR w.heap.size e bl) (fun xs => payM e bl xs.length = none) (fun _ => True) w := by
  intro l J Jx W hW hJ hJx hY h0
  refine callsIn_of_wp Tryz.func182 rfl trivial ?_ rfl
  simp only [Tryz.ntmps182, List.size_toArray, List.length_cons, List.length_nil, Nat.reduceAdd, Nat.reduceSub, Array.replicate_succ, Array.replicate_zero, List.push_toArray, List.append_toArray, List.nil_append, List.cons_append]
  refine wpIn_wide.2 ?_
  have HY := Lib.hid hY
  have HJ := Lib.hid hJ
  have HJx := Lib.hid hJx
  have HA := Lib.hid hA
  have HW := Lib.hid hW
  have Hbig := Lib.hid hbig
  clear hY hJ hJx hA hW hbig
  go_wp2_with fail
  go_loopg [4, 5, 6] bl.length (fun gk s4 s5 s6 wr => ∃ pre : List (Nat × Value), gk + posM e bl pre.length = bl.length ∧ s4 = .int .i64 ((posM e bl pre.length : Nat) : Int) ∧ J pre wr ∧ Mod (fun b => b < n₀ ∨ w.heap.size ≤ b) w wr ∧ ∀ y ∈ pre, ∀ b, y.2.ownBlock = some b → b < wr.heap.size)
  case atStart => exact ⟨[], by simp [posM], rfl, h0, HW.out, fun y hy => by simp at hy⟩
  case round =>
    obtain ⟨pre, hgk, rfl, hj, hb, hlt⟩ := hrel
    obtain ⟨at_, hat⟩ : ∃ a, a = posM e bl pre.length := ⟨_, rfl⟩
    rw [← hat] at hgk ⊢
    have Hat := Lib.hid hat
    have Hgk := Lib.hid hgk
    have HJ0 := Lib.hid hj
    have HB := Lib.hid hb
    have Hlt := Lib.hid hlt
    have hAw := HA.out.kept HB.out
    have hce := hAw.ec
    obtain ⟨bv, hcb, hbr, _⟩ := hAw.bc
    obtain ⟨ba, bc, rfl⟩ : ∃ a c, bv = .slice a bl.length c := by obtain ⟨a, c, h, _⟩ := hbr; exact ⟨a, c, h⟩
    have hal : at_ ≤ bl.length := by omega
    have hlen := hbr.len
    have hsl := run_tail (P := Tryz.prog) (t := 81) Tryz.underlying81 (by kernel_rfl) ba bl.length bc at_ hal
    have hrt := tailV_rd hbr (k := at_) hal (by simp)
    rw [← List.map_drop, ← List.length_drop] at hrt
    obtain ⟨tv, htv⟩ : ∃ t, t = tailV ba bl.length bc at_ := ⟨_, rfl⟩
    rw [← htv] at hsl hrt
    have Hone := Lib.hid (fun (w' : World) (h : Below wr.heap.size wr w') => one_calls e tv (bl.drop at_) w' (hrt.below h) (fun b hb => Hbig.out b (List.mem_of_mem_drop hb)))
    clear hAw hbr hrt hj hb hlt htv hat hgk
    go_wp2_with fail
    refine wp_region_held_drew (S := AllK e E B bl.length ba bc wr) (by kernel_rfl) ⟨below_heap (below_drew _) hce, below_heap (below_drew _) hcb, below_drew _⟩ (fun hHeld => ?_)
    have hk0 : ∀ w', AllK e E B bl.length ba bc wr w' → w'.cell? ⟨E, 0, none⟩ = some (.int .u32 (e.toNat : Int)) := fun w' h => h.ec
    have hk1 : ∀ w', AllK e E B bl.length ba bc wr w' → w'.cell? ⟨B, 0, none⟩ = some (.slice ba bl.length bc) := fun w' h => h.bc
    refine wpAnyH_take (i := 0) (oi := ⟨some 8, _, _, _, _, _⟩) (v := ?_) rfl (by kernel_rfl) (by kernel_rfl) (by kernel_rfl) (fun _ _ _ h => h) (Or.inl ⟨by kernel_rfl, ?_⟩) (by assumption) ?_
    rotate_left 1
    · intro w' hw'; go_simp; try with_reducible rfl
    simp only [Act.put, List.setIfInBounds_toArray, List.set_cons_zero, List.set_cons_succ]
    refine wpAnyH_take (i := 1) (oi := ⟨some 9, _, _, _, _, _⟩) (v := ?_) rfl (by kernel_rfl) (by kernel_rfl) (by kernel_rfl) (fun _ _ _ h => h) (Or.inl ⟨by kernel_rfl, ?_⟩) (by assumption) ?_
    rotate_left 1
    · intro w' hw'; go_simp; try with_reducible rfl
    simp only [Act.put, List.setIfInBounds_toArray, List.set_cons_zero, List.set_cons_succ]
    refine wpAnyH_take (i := 2) (oi := ⟨some 10, _, _, _, _, _⟩) (v := ?_) rfl (by kernel_rfl) (by kernel_rfl) (by kernel_rfl) (fun _ _ _ h => h) (Or.inl ⟨by kernel_rfl, ?_⟩) (by assumption) ?_
    rotate_left 1
    · intro w' hw'; go_simp; try with_reducible rfl
    simp only [Act.put, List.setIfInBounds_toArray, List.set_cons_zero, List.set_cons_succ]
    refine wpAnyH_take (i := 3) (oi := ⟨some 11, _, _, _, _, _⟩) (v := ?_) rfl (by kernel_rfl) (by kernel_rfl) (by kernel_rfl) (fun _ _ _ h => h) (Or.inl ⟨by kernel_rfl, ?_⟩) (by assumption) ?_
    rotate_left 1
    · intro w' hw'; go_simp; try with_reducible rfl
    simp only [Act.put, List.setIfInBounds_toArray, List.set_cons_zero, List.set_cons_succ]
    refine wpAnyH_ready (rs := [4]) (by kernel_rfl) (by simp) (AllReadyH.cons (o := ⟨some 12, .call _, _, _, _, _⟩) rfl (fun K hK => ?_) AllReadyH.nil)
    try rw [if_pos (by kernel_rfl)]
    go_simp
    refine (Hone.out _ hHeld.below).mono ?_
    rintro rr w4 ⟨hb4, hone⟩
    obtain ⟨pv, kk, rfl, hkk⟩ : ∃ (pv : Value) (kk : Nat), rr = .returned (.tuple #[pv, .int .i64 (kk : Int)]) ∧ ((payM e bl pre.length = none ∧ kk = 0) ∨ ∃ p, payM e bl pre.length = some (p, kk) ∧ OwnM w4 wr.heap.size 5 pv p.length (p.map V8)) := by
      rcases hone with ⟨h1, h2⟩ | ⟨p, k, v, h1, h2, h3⟩
      · exact ⟨_, 0, h2, .inl ⟨by unfold payM; rw [← Hat.out]; exact h1, rfl⟩⟩
      · exact ⟨v, k, h2, .inr ⟨p, by unfold payM; rw [← Hat.out]; exact h1, h3.lower hHeld.below.size⟩⟩
    refine hK.out _ _ (hHeld.keep hb4) (fun hHeld4 => ?_)
    clear hK K hone hHeld
    have Hkk := Lib.hid hkk
    clear hkk
    try simp only [Act.put, List.setIfInBounds_toArray, List.set_cons_zero, List.set_cons_succ]
    refine wpAnyH_take (i := 5) (oi := ⟨some 7, _, _, _, _, _⟩) (v := ?_) rfl (by kernel_rfl) (by kernel_rfl) (by kernel_rfl) (fun _ _ _ h => h) (Or.inl ⟨by kernel_rfl, ?_⟩) (by assumption) ?_
    rotate_left 1
    · intro w' hw'; go_simp; try with_reducible rfl
    simp only [Act.put, List.setIfInBounds_toArray, List.set_cons_zero, List.set_cons_succ]
    refine wpAnyH_take (i := 6) (oi := ⟨some 13, _, _, _, _, _⟩) (v := ?_) rfl (by kernel_rfl) (by kernel_rfl) (by kernel_rfl) (fun _ _ _ h => h) (Or.inl ⟨by kernel_rfl, ?_⟩) (by assumption) ?_
    rotate_left 1
    · intro w' hw'; go_simp; try with_reducible rfl
    simp only [Act.put, List.setIfInBounds_toArray, List.set_cons_zero, List.set_cons_succ]
    refine wpAnyH_take (i := 7) (oi := ⟨some 14, _, _, _, _, _⟩) (v := ?_) rfl (by kernel_rfl) (by kernel_rfl) (by kernel_rfl) (fun _ _ _ h => h) (Or.inl ⟨by kernel_rfl, ?_⟩) (by assumption) ?_
    rotate_left 1
    · intro w' hw'; go_simp; try with_reducible rfl
    simp only [Act.put, List.setIfInBounds_toArray, List.set_cons_zero, List.set_cons_succ]
    refine wpAnyH_take (i := 8) (oi := ⟨some 5, _, _, _, _, _⟩) (v := ?_) rfl (by kernel_rfl) (by kernel_rfl) (by kernel_rfl) (fun _ _ _ h => h) (Or.inl ⟨by kernel_rfl, ?_⟩) (by assumption) ?_
    rotate_left 1
    · intro w' hw'; go_simp; try with_reducible rfl
    simp only [Act.put, List.setIfInBounds_toArray, List.set_cons_zero, List.set_cons_succ]
    refine wpAnyH_take (i := 9) (oi := ⟨some 6, _, _, _, _, _⟩) (v := ?_) rfl (by kernel_rfl) (by kernel_rfl) (by kernel_rfl) (fun _ _ _ h => h) (Or.inl ⟨by kernel_rfl, ?_⟩) (by assumption) ?_
    rotate_left 1
    · intro w' hw'; go_simp; try with_reducible rfl
    simp only [Act.put, List.setIfInBounds_toArray, List.set_cons_zero, List.set_cons_succ]
    refine wpAnyH_done (by kernel_rfl) ?_ _
    have hjw := HJ.out pre wr w4 HJ0.out hHeld4.below
    have hbw := HB.out.trans (Mod.of_below (F := fun b => b < n₀ ∨ w.heap.size ≤ b) hHeld4.below)
    have hsw := hHeld4.below.size
    have HJ4 := Lib.hid hjw
    have HB4 := Lib.hid hbw
    clear hHeld4 hk0 hk1 hce hcb hsl Hone HJ0 hjw hbw hb4
    by_cases h0k : kk = 0
    · have hpn : payM e bl pre.length = none := by
        rcases Hkk.out with h | ⟨p, h, _⟩
        · exact h.1
        · have := oneM_pos h; omega
      have Hpn := Lib.hid hpn
      clear hpn
      subst h0k
      have hz : (((0 : Nat) : Int) == 0) = true := rfl
      go_wp2_with fail
      refine bodyPost_ret (results_none rfl _ _ _) rfl ?_
      exact ⟨⟨_, rfl⟩, .inl ⟨pre, Hpn.out, HJ4.out⟩⟩
    · obtain ⟨p, hp, hown⟩ : ∃ p, payM e bl pre.length = some (p, kk) ∧ OwnM w4 wr.heap.size 5 pv p.length (p.map V8) := by
        rcases Hkk.out with h | h
        · exact absurd h.2 h0k
        · exact h
      have hz : ((kk : Int) == 0) = false := by rw [beq_eq_false_iff_ne]; omega
      obtain ⟨fn, tmps, assign, body, hy, hR⟩ := HY.out pre (at_, pv) w4 HJ4.out ⟨Hat.out, ⟨p, kk, hp, hown.lower HB.out.size⟩, fun y hy k hk hk2 => by have h1 := Hlt.out y hy k hk; have h2 := (hown.lt k hk2).1; omega⟩
      have Hp := Lib.hid hp
      have HO := Lib.hid hown
      clear hp hown
      go_upto_region 2 with (fail)
      refine (wpIn_wide (n := n)).1 ?_
      gi_wp2
      refine hR.mono ?_
      rintro rr w5 (⟨rfl, hj5, hb5⟩ | ⟨rfl, hjx5⟩)
      · have hpos : posM e bl (pre ++ [(at_, pv)]).length = at_ + kk := by
          rw [List.length_append, List.length_singleton, posM_succ Hp.out, ← Hat.out]
        have hle := posM_le e bl (pre ++ [(at_, pv)]).length
        rw [hpos] at hle
        have hk1 := (oneM_pos Hp.out).1
        have HJ5 := Lib.hid hj5
        have HB5 := Lib.hid hb5
        have Hpos := Lib.hid hpos
        clear hj5 hb5 hpos hR hy
        have hwr : wrap64 ((at_ : Int) + (kk : Int)) = (at_ : Int) + (kk : Int) := by unfold wrap64; omega
        try gi_wp2
        go_wp2_with fail
        go_roundg (bl.length - (at_ + kk))
        case measure => have := Hgk.out; omega
        case rel => exact ⟨pre ++ [(at_, pv)], by rw [Hpos.out]; omega, by rw [Hpos.out]; go_num, HJ5.out, HB4.out.trans HB5.out, fun y hy b hb => by
          have hs5 := HB5.out.size
          rcases List.mem_append.1 hy with hy | hy
          · have := Hlt.out y hy b hb; omega
          · have hy2 : y = (at_, pv) := by simpa using hy
            subst hy2
            have := (HO.out.lt b hb).2
            omega⟩
      · try gi_wp2
        go_wp2_with fail
        refine bodyPost_ret (results_none rfl _ _ _) rfl ?_
        exact ⟨⟨_, rfl⟩, .inr ⟨_, trivial, hjx5⟩⟩
end Go.Proofs.YtgcnolapjppbpaaGreatDoor
namespace Go.Proofs.YtgcnolapjppbpaaGreatDoor
def laidM (e : UInt32) (ps : List (List UInt8)) : List (List UInt8) := ps.flatMap (frameM e)
theorem laid_pos (e : UInt32) (ps : List (List UInt8)) (t : List (List UInt8)) (hp : ∀ p ∈ ps, p.length ≤ 512) : ∀ i, i ≤ ps.length → posM e (laidM e ps ++ t) i = (laidM e (ps.take i)).length ∧ (∀ h : i < ps.length, payM e (laidM e ps ++ t) i = some (ps[i], (frameM e ps[i]).length)) := by
  have hdrop : ∀ i, i ≤ ps.length → (laidM e ps ++ t).drop (laidM e (ps.take i)).length = laidM e (ps.drop i) ++ t := by
    intro i hi
    have h1 : laidM e ps = laidM e (ps.take i) ++ laidM e (ps.drop i) := by
      unfold laidM
      rw [← List.flatMap_append, List.take_append_drop]
    rw [h1, List.append_assoc, List.drop_left]
  have hpay : ∀ i (h : i < ps.length), posM e (laidM e ps ++ t) i = (laidM e (ps.take i)).length → payM e (laidM e ps ++ t) i = some (ps[i], (frameM e ps[i]).length) := by
    intro i h hpos
    unfold payM
    rw [hpos, hdrop i (Nat.le_of_lt h), List.drop_eq_getElem_cons h]
    show oneM e ((frameM e ps[i] ++ laidM e (ps.drop (i + 1))) ++ t) = _
    rw [List.append_assoc]
    exact oneM_frame e _ _ (hp _ (List.getElem_mem h))
  intro i
  induction i with
  | zero =>
    intro hi
    exact ⟨rfl, fun h => hpay 0 h rfl⟩
  | succ i ih =>
    intro hi
    obtain ⟨h1, h2⟩ := ih (by omega)
    have h3 : posM e (laidM e ps ++ t) (i + 1) = (laidM e (ps.take (i + 1))).length := by
      rw [posM_succ (h2 (by omega)), h1]
      have h4 : ps.take (i + 1) = ps.take i ++ [ps[i]] := by rw [List.take_add_one, List.getElem?_eq_getElem (by omega)]; rfl
      rw [h4]
      unfold laidM
      rw [List.flatMap_append, List.length_append]; simp
    exact ⟨h3, fun h => hpay (i + 1) h h3⟩
theorem laid_end (e : UInt32) (ps : List (List UInt8)) (t : List (List UInt8)) (hp : ∀ p ∈ ps, p.length ≤ 512) (ht : oneM e t = none) : posM e (laidM e ps ++ t) ps.length = (laidM e ps).length ∧ payM e (laidM e ps ++ t) ps.length = none := by
  have h := (laid_pos e ps t hp ps.length (Nat.le_refl _)).1
  rw [List.take_length] at h
  refine ⟨h, ?_⟩
  unfold payM
  rw [h, List.drop_left]; exact ht
theorem one_begins (e : UInt32) (b : List UInt8) (r : List (List UInt8)) (h : ¬ b.take 5 = 104 :: le e.toNat 4) : oneM e (b :: r) = none := by
  rw [oneM]
  by_cases h1 : b.length < 11
  · rw [if_pos h1]
  rw [if_neg h1]
  by_cases h2 : sizeOf0 b > 512 ∨ b.length ≠ 11 + min (sizeOf0 b) 245
  · rw [if_pos h2]
  rw [if_neg h2]
  simp only
  rw [if_pos]
  right
  intro h3
  apply h
  have h4 := congrArg (List.take 5) h3
  rw [List.take_take] at h4
  rw [show min 5 11 = 5 from rfl] at h4
  rw [← h4]
  simp [headM, pre, le]
end Go.Proofs.YtgcnolapjppbpaaGreatDoor
