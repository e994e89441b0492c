/-
  Texts of one proof, one behind the other.
-/
import Derived.Test.YtgcnolapjppbpaaGreatDoorK22
namespace Go.Proofs.YtgcnolapjppbpaaGreatDoor
open Go.RowKit
set_option maxRecDepth 100000
set_option maxHeartbeats 12800000 in
theorem dec_calls (x : Value) (l : List UInt8) (w : World) (hx : Rd w x l.length (l.map V8)) (hl : l.length ≤ 1000000000000) :
    Calls Tryz.prog 93 #[x] w fun ev w' => ev = .returned (.tuple #[.agg (decM l).2.cells, errV (decM l).1]) ∧ Below w.heap.size w w' := by
  have Hop := Lib.hid (fun o => open_calls x l (w.alloc o) (hx.below (below_alloc w o)) hl)
  have HB0 := Lib.hid (fun o => below_alloc w o)
  have hbz : ∀ t, Box (w.alloc (.cells #[.int .i64 0, .int .i64 0, .int .i64 0, .int .i64 0, .int .i64 0, .int .i64 0, .string ⟨#[]⟩, .string ⟨#[]⟩, .int .u64 0, .int .i64 0, .int .i64 0, .int .i64 0, .int .i64 0, .int .i64 0, .int .i64 0] t)) w.heap.size noEvt.cells t := fun t => Box.new w noEvt.cells t
  have HBZ := Lib.hid hbz
  obtain ⟨D, hD⟩ : ∃ D, D = decM l := ⟨_, rfl⟩
  rw [← hD]
  unfold decM at hD
  simp only at hD
  obtain ⟨xa, xc, rfl, _⟩ := hx
  clear hl hbz
  go_enter Tryz.func93, Tryz.ntmps93
  go_wp2_with fail
  refine (Hop.out _).mono ?_
  rintro ev w1 ⟨r, v, rfl, hi, hb, hr, hv⟩
  rw [World.size_alloc] at hr hv
  have hw1 : w.heap.size + 1 ≤ w1.heap.size := by have := hb.size; rw [World.size_alloc] at this; exact this
  have hrl := hi.box.lt
  have hst0 : DecSt w (w1.alloc (.cells #[.pointer (some ⟨r, 0, none⟩), .nilIface, .bool false] 247)) w1.heap.size r w.heap.size v ⟨l, 0, 0, false⟩ :=
    ⟨⟨Box.new _ _ _, hi.below (below_alloc _ _), by omega, fun e => by have := (hv _ e).2; omega, fun b hbb => by have := (hv b hbb).2; simp; omega⟩,
      ((HBZ.out _).below hb).below (below_alloc _ _), ((HB0.out _).trans (hb.mono (by simp))).trans ((below_alloc _ _).mono (by omega)), by omega, by omega, fun e => by have := (hv _ e).1; omega, by omega, by omega, Nat.le_refl _⟩
  have HST := Lib.hid hst0
  have HVL := Lib.hid hv
  have HRL := Lib.hid (And.intro hw1 (And.intro hr hrl))
  clear hst0 hv hw1 hrl hr hb hi Hop HB0 HBZ
  go_wp2_with fail
  refine (tkNumber_calls w1.heap.size r v _ _ HST.out.it).mono ?_
  rintro ev w2 ⟨rfl, hi2, hm2⟩
  have HS2 := Lib.hid (HST.out.step hi2 hm2)
  generalize (TkM.num ⟨l, 0, 0, false⟩) = p at hD HS2 hi2 ⊢
  obtain ⟨x, s1⟩ := p
  simp only at hD HS2 hi2 ⊢
  clear hi2 hm2 HST
  have c1 : w2.cell? ⟨w1.heap.size, 1, none⟩ = some (errV s1.er) := HS2.out.it.box.cell 1 _ rfl
  by_cases he : s1.er = 0
  rotate_left
  · rw [errV_no he] at c1
    rw [if_neg he] at hD
    have HX := Lib.hid (⟨c1, HS2.out.bz, HS2.out.bel, HS2.out.n1, HS2.out.g3⟩ : ExS w w1.heap.size w.heap.size (.iface 91 (.int .i64 s1.er)) w2)
    have HD := Lib.hid hD
    have hke : ∀ w', ExS w w1.heap.size w.heap.size (.iface 91 (.int .i64 s1.er)) w' → w'.cell? ⟨w1.heap.size, 1, none⟩ = some (.iface 91 (.int .i64 s1.er)) := fun w' h => h.ce
    clear hD HS2
    go_wp2_with fail
    clear c1
    refine wp_region_held_drew (S := ExS w w1.heap.size w.heap.size (.iface 91 (.int .i64 s1.er))) (by kernel_rfl) HX.out.drew (fun hHeld => ?_)
    refine wpAnyH_take (i := 0) (oi := ⟨some 20, _, _, _, _, _⟩) (v := ?_) rfl (by kernel_rfl) (by kernel_rfl) (by kernel_rfl) (fun _ _ _ h => h) (Or.inl ⟨by kernel_rfl, ?_⟩) (by assumption) ?_
    rotate_left 1
    · intro w' hw'; go_simp; try with_reducible rfl
    simp only [Act.put, List.setIfInBounds_toArray, List.set_cons_zero, List.set_cons_succ]
    refine wpAnyH_take (i := 1) (oi := ⟨some 21, _, _, _, _, _⟩) (v := ?_) rfl (by kernel_rfl) (by kernel_rfl) (by kernel_rfl) (fun _ _ _ h => h) (Or.inl ⟨by kernel_rfl, ?_⟩) (by assumption) ?_
    rotate_left 1
    · intro w' hw'; go_simp; try with_reducible rfl
    simp only [Act.put, List.setIfInBounds_toArray, List.set_cons_zero, List.set_cons_succ]
    refine wpAnyH_take (i := 2) (oi := ⟨some 22, _, _, _, _, _⟩) (v := ?_) rfl (by kernel_rfl) (by kernel_rfl) (by kernel_rfl) (fun _ _ _ h => h) (Or.inl ⟨by kernel_rfl, ?_⟩) (by assumption) ?_
    rotate_left 1
    · intro w' hw'; go_simp; try with_reducible rfl
    simp only [Act.put, List.setIfInBounds_toArray, List.set_cons_zero, List.set_cons_succ]
    refine wpAnyH_take (i := 3) (oi := ⟨some 23, _, _, _, _, _⟩) (v := ?_) rfl (by kernel_rfl) (by kernel_rfl) (by kernel_rfl) (fun _ _ _ h => h) (Or.inl ⟨by kernel_rfl, ?_⟩) (by assumption) ?_
    rotate_left 1
    · intro w' hw'; go_simp; try with_reducible rfl
    simp only [Act.put, List.setIfInBounds_toArray, List.set_cons_zero, List.set_cons_succ]
    refine wpAnyH_take (i := 4) (oi := ⟨some 24, _, _, _, _, _⟩) (v := ?_) rfl (by kernel_rfl) (by kernel_rfl) (by kernel_rfl) (fun _ _ _ h => h) (Or.inl ⟨by kernel_rfl, ?_⟩) (by assumption) ?_
    rotate_left 1
    · intro w' hw'; go_simp; try with_reducible rfl
    simp only [Act.put, List.setIfInBounds_toArray, List.set_cons_zero, List.set_cons_succ]
    refine wpAnyH_ready (rs := [5]) (by kernel_rfl) (by simp) (AllReadyH.cons (o := ⟨none, .store 47 (.tmp 2) (.tmp 20), _, _, _, none⟩) rfl (fun K hK => ?_) AllReadyH.nil)
    rw [if_pos (by kernel_rfl)]
    refine wp_store_k 47 (.tmp 2) (.tmp 20) rfl w.heap.size 0 noEvt.cells.toList rfl rfl hHeld.bz.thereE (by kernel_rfl) noEvt.one ?_
    refine hK.out _ _ hHeld.store (fun hHeld2 => ?_)
    clear hK K
    try simp only [Act.put]
    refine wpAnyH_take (i := 6) (oi := ⟨some 3, _, _, _, _, _⟩) (v := ?_) rfl (by kernel_rfl) (by kernel_rfl) (by kernel_rfl) (fun _ _ _ h => h) (Or.inl ⟨by kernel_rfl, ?_⟩) (by assumption) ?_
    rotate_left 1
    · intro w' hw'; go_simp; try with_reducible rfl
    simp only [Act.put, List.setIfInBounds_toArray, List.set_cons_zero, List.set_cons_succ]
    refine wpAnyH_done (by kernel_rfl) ?_ _
    have HZ := Lib.hid hHeld2
    clear hHeld hHeld2 hke HX
    generalize World.setCells _ _ _ _ = wz at HZ ⊢
    go_wp2_with fail
    exact ret_cell_tmp rfl rfl (w.heap.size) 0 rfl noEvt.cells.toList _ HZ.out.bz.rangeE Tryz.underlying47 rfl (by kernel_rfl) _ rfl ⟨by rw [HD.out, errV_no he]; rfl, HZ.out.bel⟩
  rw [show errV s1.er = .nilIface by unfold errV; rw [if_pos he]] at c1
  rw [if_pos he] at hD
  clear he
  by_cases h2 : 2 < x
  · have g2 : (2 : Int) < (x : Int) := by omega
    rw [if_pos h2] at hD
    have HD := Lib.hid hD
    clear hD h2
    go_wp2_with ((with_reducible refine wpList_store_k ?q72_0 47 (.tmp 2) (.tmp 27) ?q72_1 (w.heap.size) 0 noEvt.cells.toList ?q72_2 noEvt.cells ?q72_3 noEvt_list ?q72_5 ?q72_6 ?q72_7 ?q72_8); (case q72_1 => rfl); (case q72_0 => rfl); (case q72_2 => rfl); (case q72_3 => rfl); (case q72_5 => exact HS2.out.bz.thereE); (case q72_6 => kernel_rfl); (case q72_7 => exact noEvt.one))
    intro wz hwz
    have hzz := HS2.out.out noEvt
    rw [← hwz.out] at hzz
    have HZ := Lib.hid hzz
    clear hwz hzz
    go_wp2_with fail
    exact ret_cell_tmp rfl rfl (w.heap.size) 0 rfl noEvt.cells.toList _ HZ.out.1.rangeE Tryz.underlying47 rfl (by kernel_rfl) _ rfl ⟨by rw [HD.out]; rfl, HZ.out.2⟩
  rw [if_neg h2] at hD
  obtain rfl | rfl | rfl : x = 0 ∨ x = 1 ∨ x = 2 := by omega
  · rw [if_pos rfl] at hD
    clear h2
    have hS3 : DecSt w (w2.alloc (.cells #[.int .i64 0, .int .i64 0, .int .i64 0, .int .i64 0, .int .i64 0, .int .i64 0, .string ⟨#[]⟩, .string ⟨#[]⟩, .int .u64 0, .int .i64 0, .int .i64 0, .int .i64 0, .int .i64 0, .int .i64 0, .int .i64 0] 47)) w1.heap.size r w.heap.size v s1 := HS2.out.below (below_alloc _ _)
    have hE3 : Box (w2.alloc (.cells #[.int .i64 0, .int .i64 0, .int .i64 0, .int .i64 0, .int .i64 0, .int .i64 0, .string ⟨#[]⟩, .string ⟨#[]⟩, .int .u64 0, .int .i64 0, .int .i64 0, .int .i64 0, .int .i64 0, .int .i64 0, .int .i64 0] 47)) w2.heap.size (EvtM.cells ⟨0, noSes, 0, 0⟩) 47 := Box.new _ _ _
    have hwz : w.heap.size < w2.heap.size := HS2.out.bz.lt
    have hwt : w1.heap.size < w2.heap.size := HS2.out.it.box.lt
    have hwr : r < w2.heap.size := HS2.out.it.rd.box.lt
    have hwv : v.ownBlock ≠ some w2.heap.size := fun e => by have := HS2.out.it.vl _ e; omega
    have HS3 := Lib.hid hS3
    have HE3 := Lib.hid hE3
    have HLT := Lib.hid (And.intro hwz (And.intro hwt (And.intro hwr hwv)))
    clear hS3 hE3 hwz hwt hwr hwv HS2
    unfold bornM at hD
    simp only at hD
    go_wp2_with fail
    clear c1
    have HSd : DecSt w ((w2.alloc (.cells #[.int .i64 0, .int .i64 0, .int .i64 0, .int .i64 0, .int .i64 0, .int .i64 0, .string ⟨#[]⟩, .string ⟨#[]⟩, .int .u64 0, .int .i64 0, .int .i64 0, .int .i64 0, .int .i64 0, .int .i64 0, .int .i64 0] 47))).drew w1.heap.size r w.heap.size v s1 := HS3.out.below (below_drew _)
    have HEd : Box ((w2.alloc (.cells #[.int .i64 0, .int .i64 0, .int .i64 0, .int .i64 0, .int .i64 0, .int .i64 0, .string ⟨#[]⟩, .string ⟨#[]⟩, .int .u64 0, .int .i64 0, .int .i64 0, .int .i64 0, .int .i64 0, .int .i64 0, .int .i64 0] 47))).drew w2.heap.size (EvtM.cells ⟨0, noSes, 0, 0⟩) 47 := HE3.out
    have hint := tkInts_calls w1.heap.size r w2.heap.size (w2.heap.size + 1) v s1 [1, 2, 3, 4, 5] (EvtM.cells ⟨0, noSes, 0, 0⟩) 47 242 (World.alloc ((w2.alloc (.cells #[.int .i64 0, .int .i64 0, .int .i64 0, .int .i64 0, .int .i64 0, .int .i64 0, .string ⟨#[]⟩, .string ⟨#[]⟩, .int .u64 0, .int .i64 0, .int .i64 0, .int .i64 0, .int .i64 0, .int .i64 0, .int .i64 0] 47)).drew) (.cells #[.pointer (some ⟨w2.heap.size, 1, none⟩), .pointer (some ⟨w2.heap.size, 2, none⟩), .pointer (some ⟨w2.heap.size, 3, none⟩), .pointer (some ⟨w2.heap.size, 4, none⟩), .pointer (some ⟨w2.heap.size, 5, none⟩)] 242)) (HSd.below (below_alloc _ _)).it (HEd.below (below_alloc _ _)) (by have := Box.new ((w2.alloc (.cells #[.int .i64 0, .int .i64 0, .int .i64 0, .int .i64 0, .int .i64 0, .int .i64 0, .string ⟨#[]⟩, .string ⟨#[]⟩, .int .u64 0, .int .i64 0, .int .i64 0, .int .i64 0, .int .i64 0, .int .i64 0, .int .i64 0] 47))).drew #[.pointer (some ⟨w2.heap.size, 1, none⟩), .pointer (some ⟨w2.heap.size, 2, none⟩), .pointer (some ⟨w2.heap.size, 3, none⟩), .pointer (some ⟨w2.heap.size, 4, none⟩), .pointer (some ⟨w2.heap.size, 5, none⟩)] 242; rw [show ((w2.alloc (.cells #[.int .i64 0, .int .i64 0, .int .i64 0, .int .i64 0, .int .i64 0, .int .i64 0, .string ⟨#[]⟩, .string ⟨#[]⟩, .int .u64 0, .int .i64 0, .int .i64 0, .int .i64 0, .int .i64 0, .int .i64 0, .int .i64 0] 47))).drew.heap.size = w2.heap.size + 1 from by show ((w2.alloc (.cells #[.int .i64 0, .int .i64 0, .int .i64 0, .int .i64 0, .int .i64 0, .int .i64 0, .string ⟨#[]⟩, .string ⟨#[]⟩, .int .u64 0, .int .i64 0, .int .i64 0, .int .i64 0, .int .i64 0, .int .i64 0, .int .i64 0] 47))).heap.size = _; rw [World.size_alloc]] at this; exact this) (by intro o ho; simp only [List.mem_cons, List.not_mem_nil, or_false] at ho; rcases ho with rfl | rfl | rfl | rfl | rfl <;> (change _ < 15; decide)) (by have := HLT.out; omega) (by have := HLT.out; omega) (by have := HLT.out; omega) (by have := HLT.out; omega) (by omega) HLT.out.2.2.2 (by decide)
    have HI := Lib.hid hint
    have HSq := Lib.hid HSd
    clear hint HSd HEd HS3 HE3
    have hTr : True := trivial
    refine wp_region_held_drew (S := fun _ => True) (by kernel_rfl) trivial (fun hHeld => ?_)
    refine wpAnyH_take (i := 0) (oi := ⟨some 37, _, _, _, _, _⟩) (v := ?_) rfl (by kernel_rfl) (by kernel_rfl) (by kernel_rfl) (fun _ _ _ h => h) (Or.inl ⟨by kernel_rfl, ?_⟩) (by assumption) ?_
    rotate_left 1
    · intro w' hw'; go_simp; try with_reducible rfl
    simp only [Act.put, List.setIfInBounds_toArray, List.set_cons_zero, List.set_cons_succ]
    refine wpAnyH_take (i := 1) (oi := ⟨some 38, _, _, _, _, _⟩) (v := ?_) rfl (by kernel_rfl) (by kernel_rfl) (by kernel_rfl) (fun _ _ _ h => h) (Or.inl ⟨by kernel_rfl, ?_⟩) (by assumption) ?_
    rotate_left 1
    · intro w' hw'; go_simp; try with_reducible rfl
    simp only [Act.put, List.setIfInBounds_toArray, List.set_cons_zero, List.set_cons_succ]
    refine wpAnyH_take (i := 2) (oi := ⟨some 39, _, _, _, _, _⟩) (v := ?_) rfl (by kernel_rfl) (by kernel_rfl) (by kernel_rfl) (fun _ _ _ h => h) (Or.inl ⟨by kernel_rfl, ?_⟩) (by assumption) ?_
    rotate_left 1
    · intro w' hw'; go_simp; try with_reducible rfl
    simp only [Act.put, List.setIfInBounds_toArray, List.set_cons_zero, List.set_cons_succ]
    refine wpAnyH_take (i := 3) (oi := ⟨some 40, _, _, _, _, _⟩) (v := ?_) rfl (by kernel_rfl) (by kernel_rfl) (by kernel_rfl) (fun _ _ _ h => h) (Or.inl ⟨by kernel_rfl, ?_⟩) (by assumption) ?_
    rotate_left 1
    · intro w' hw'; go_simp; try with_reducible rfl
    simp only [Act.put, List.setIfInBounds_toArray, List.set_cons_zero, List.set_cons_succ]
    refine wpAnyH_take (i := 4) (oi := ⟨some 41, _, _, _, _, _⟩) (v := ?_) rfl (by kernel_rfl) (by kernel_rfl) (by kernel_rfl) (fun _ _ _ h => h) (Or.inl ⟨by kernel_rfl, ?_⟩) (by assumption) ?_
    rotate_left 1
    · intro w' hw'; go_simp; try with_reducible rfl
    simp only [Act.put, List.setIfInBounds_toArray, List.set_cons_zero, List.set_cons_succ]
    refine wpAnyH_take (i := 5) (oi := ⟨some 42, _, _, _, _, _⟩) (v := ?_) rfl (by kernel_rfl) (by kernel_rfl) (by kernel_rfl) (fun _ _ _ h => h) (Or.inl ⟨by kernel_rfl, ?_⟩) (by assumption) ?_
    rotate_left 1
    · intro w' hw'; go_simp; try with_reducible rfl
    simp only [Act.put, List.setIfInBounds_toArray, List.set_cons_zero, List.set_cons_succ]
    refine wpAnyH_take (i := 6) (oi := ⟨some 43, _, _, _, _, _⟩) (v := ?_) rfl (by kernel_rfl) (by kernel_rfl) (by kernel_rfl) (fun _ _ _ h => h) (Or.inl ⟨by kernel_rfl, ?_⟩) (by assumption) ?_
    rotate_left 1
    · intro w' hw'; go_simp; try with_reducible rfl
    simp only [Act.put, List.setIfInBounds_toArray, List.set_cons_zero, List.set_cons_succ]
    refine wpAnyH_take (i := 7) (oi := ⟨some 44, _, _, _, _, _⟩) (v := ?_) rfl (by kernel_rfl) (by kernel_rfl) (by kernel_rfl) (fun _ _ _ h => h) (Or.inl ⟨by kernel_rfl, ?_⟩) (by assumption) ?_
    rotate_left 1
    · intro w' hw'; go_simp; try with_reducible rfl
    simp only [Act.put, List.setIfInBounds_toArray, List.set_cons_zero, List.set_cons_succ]
    refine wpAnyH_take (i := 8) (oi := ⟨some 45, _, _, _, _, _⟩) (v := ?_) rfl (by kernel_rfl) (by kernel_rfl) (by kernel_rfl) (fun _ _ _ h => h) (Or.inl ⟨by kernel_rfl, ?_⟩) (by assumption) ?_
    rotate_left 1
    · intro w' hw'; go_simp; try with_reducible rfl
    simp only [Act.put, List.setIfInBounds_toArray, List.set_cons_zero, List.set_cons_succ]
    refine wpAnyH_take (i := 9) (oi := ⟨some 46, _, _, _, _, _⟩) (v := ?_) rfl (by kernel_rfl) (by kernel_rfl) (by kernel_rfl) (fun _ _ _ h => h) (Or.inl ⟨by kernel_rfl, ?_⟩) (by assumption) ?_
    rotate_left 1
    · intro w' hw'; go_simp; try with_reducible rfl
    simp only [Act.put, List.setIfInBounds_toArray, List.set_cons_zero, List.set_cons_succ]
    refine wpAnyH_take (i := 10) (oi := ⟨some 47, _, _, _, _, _⟩) (v := ?_) rfl (by kernel_rfl) (by kernel_rfl) (by kernel_rfl) (fun _ _ _ h => h) (Or.inl ⟨by kernel_rfl, ?_⟩) (by assumption) ?_
    rotate_left 1
    · intro w' hw'; go_simp; try with_reducible rfl
    simp only [Act.put, List.setIfInBounds_toArray, List.set_cons_zero, List.set_cons_succ]
    refine wpAnyH_take (i := 11) (oi := ⟨some 48, _, _, _, _, _⟩) (v := ?_) rfl (by kernel_rfl) (by kernel_rfl) (by kernel_rfl) (fun _ _ _ h => h) (Or.inl ⟨by kernel_rfl, ?_⟩) (by assumption) ?_
    rotate_left 1
    · intro w' hw'; go_simp; try with_reducible rfl
    simp only [Act.put, List.setIfInBounds_toArray, List.set_cons_zero, List.set_cons_succ]
    refine wpAnyH_take (i := 12) (oi := ⟨some 49, _, _, _, _, _⟩) (v := ?_) rfl (by kernel_rfl) (by kernel_rfl) (by kernel_rfl) (fun _ _ _ h => h) (Or.inl ⟨by kernel_rfl, ?_⟩) (by assumption) ?_
    rotate_left 1
    · intro w' hw'; go_simp; try with_reducible rfl
    simp only [Act.put, List.setIfInBounds_toArray, List.set_cons_zero, List.set_cons_succ]
    refine wpAnyH_take (i := 13) (oi := ⟨some 50, _, _, _, _, _⟩) (v := ?_) rfl (by kernel_rfl) (by kernel_rfl) (by kernel_rfl) (fun _ _ _ h => h) (Or.inl ⟨by kernel_rfl, ?_⟩) (by assumption) ?_
    rotate_left 1
    · intro w' hw'; go_simp; try with_reducible rfl
    simp only [Act.put, List.setIfInBounds_toArray, List.set_cons_zero, List.set_cons_succ]
    refine wpAnyH_take (i := 14) (oi := ⟨some 51, _, _, _, _, _⟩) (v := ?_) rfl (by kernel_rfl) (by kernel_rfl) (by kernel_rfl) (fun _ _ _ h => h) (Or.inl ⟨by kernel_rfl, ?_⟩) (by assumption) ?_
    rotate_left 1
    · intro w' hw'; go_simp; try with_reducible rfl
    simp only [Act.put, List.setIfInBounds_toArray, List.set_cons_zero, List.set_cons_succ]
    refine wpAnyH_take (i := 15) (oi := ⟨some 52, _, _, _, _, _⟩) (v := ?_) rfl (by kernel_rfl) (by kernel_rfl) (by kernel_rfl) (fun _ _ _ h => h) (Or.inl ⟨by kernel_rfl, ?_⟩) (by assumption) ?_
    rotate_left 1
    · intro w' hw'; go_simp; try with_reducible rfl
    simp only [Act.put, List.setIfInBounds_toArray, List.set_cons_zero, List.set_cons_succ]
    refine wpAnyH_take (i := 16) (oi := ⟨some 53, _, _, _, _, _⟩) (v := ?_) rfl (by kernel_rfl) (by kernel_rfl) (by kernel_rfl) (fun _ _ _ h => h) (Or.inl ⟨by kernel_rfl, ?_⟩) (by assumption) ?_
    rotate_left 1
    · intro w' hw'; go_simp; try with_reducible rfl
    simp only [Act.put, List.setIfInBounds_toArray, List.set_cons_zero, List.set_cons_succ]
    refine wpAnyH_take (i := 17) (oi := ⟨some 54, _, _, _, _, _⟩) (v := ?_) rfl (by kernel_rfl) (by kernel_rfl) (by kernel_rfl) (fun _ _ _ h => h) (Or.inl ⟨by kernel_rfl, ?_⟩) (by assumption) ?_
    rotate_left 1
    · intro w' hw'; go_simp; try with_reducible rfl
    simp only [Act.put, List.setIfInBounds_toArray, List.set_cons_zero, List.set_cons_succ]
    refine wpAnyH_ready (rs := [18]) (by kernel_rfl) (by simp) (AllReadyH.cons (o := ⟨some 55, .buildSlice _ 5 _, _, _, _, none⟩) rfl (fun K hK => ?_) AllReadyH.nil)
    go_simp
    refine hK.out _ _ trivial (fun hHeld2 => ?_)
    clear hK K hHeld2
    try simp only [Act.put, List.setIfInBounds_toArray, List.set_cons_zero, List.set_cons_succ]
    refine wpAnyH_ready (rs := [19]) (by kernel_rfl) (by simp) (AllReadyH.cons (o := ⟨some 56, .call _, _, _, _, _⟩) rfl (fun K hK => ?_) AllReadyH.nil)
    go_simp
    refine HI.out.mono ?_
    rintro ev w4 ⟨rfl, hi4, hb4, hm4⟩
    refine hK.out _ _ trivial (fun _ => ?_)
    clear hK K
    try simp only [Act.put, List.setIfInBounds_toArray, List.set_cons_zero, List.set_cons_succ]
    refine wpAnyH_done (by kernel_rfl) ?_ _
    have hs4 := (HSq.out.below (below_alloc _ (.cells #[.pointer (some ⟨w2.heap.size, 1, none⟩), .pointer (some ⟨w2.heap.size, 2, none⟩), .pointer (some ⟨w2.heap.size, 3, none⟩), .pointer (some ⟨w2.heap.size, 4, none⟩), .pointer (some ⟨w2.heap.size, 5, none⟩)] 242))).ints hi4 hm4 (by have := HLT.out; omega) (by have := HLT.out; omega)
    change DecSt w w4 w1.heap.size r w.heap.size v s1.int.2.int.2.int.2.int.2.int.2 at hs4
    change Box w4 w2.heap.size (EvtM.cells ⟨0, ⟨s1.int.1, s1.int.2.int.1, s1.int.2.int.2.int.1, s1.int.2.int.2.int.2.int.1, s1.int.2.int.2.int.2.int.2.int.1, [], [], 0, 0, 0, 0, 0⟩, 0, 0⟩) 47 at hb4
    clear hi4 hm4 HI HSq hTr hHeld
    generalize s1.int = p at hs4 hb4 hD
    obtain ⟨n1, s2⟩ := p
    simp only at hs4 hb4 hD
    generalize s2.int = p at hs4 hb4 hD
    obtain ⟨n2, s3⟩ := p
    simp only at hs4 hb4 hD
    generalize s3.int = p at hs4 hb4 hD
    obtain ⟨n3, s4⟩ := p
    simp only at hs4 hb4 hD
    generalize s4.int = p at hs4 hb4 hD
    obtain ⟨n4, s5⟩ := p
    simp only at hs4 hb4 hD
    generalize s5.int = p at hs4 hb4 hD
    obtain ⟨n5, s6⟩ := p
    simp only at hs4 hb4 hD
    have HS4 := Lib.hid hs4
    have HE4 := Lib.hid hb4
    clear hs4 hb4
    go_wp2_with fail
    refine (tkText_calls w1.heap.size r v s6 _ HS4.out.it).mono ?_
    rintro ev w5 ⟨rfl, hi, hm⟩
    have hst := HS4.out.step hi hm
    have hE := HE4.out.mod hm (by rintro (e | e) <;> (have := HLT.out; omega))
    have hulen := s6.txt_len
    clear hi hm
    generalize s6.txt = p at hst hD hulen ⊢
    obtain ⟨u, s7⟩ := p
    simp only at hst hD hulen ⊢
    have HS5 := Lib.hid hst
    have HE5 := Lib.hid hE
    have Hulen := Lib.hid hulen
    clear hst hE hulen HS4 HE4
    go_wp2_with fail
    refine (tkText_calls w1.heap.size r v s7 _ HS5.out.it).mono ?_
    rintro ev w6 ⟨rfl, hi, hm⟩
    have hst := HS5.out.step hi hm
    have hE := HE5.out.mod hm (by rintro (e | e) <;> (have := HLT.out; omega))
    have hlblen := s7.txt_len
    clear hi hm
    generalize s7.txt = p at hst hD hlblen ⊢
    obtain ⟨lb, s8⟩ := p
    simp only at hst hD hlblen ⊢
    have HS6 := Lib.hid hst
    have HE6 := Lib.hid hE
    have Hlblen := Lib.hid hlblen
    clear hst hE hlblen HS5 HE5
    have k6 := HE6.out.cell 6 _ rfl
    have f6 := HE6.out.free 6
    have hEa : Box (w6.setCell ⟨w2.heap.size, 6, none⟩ (.string (SB u))) w2.heap.size (EvtM.cells ⟨0, ⟨n1, n2, n3, n4, n5, u, [], 0, 0, 0, 0, 0⟩, 0, 0⟩) 47 := HE6.out.set 6 _
    have hSa := HS6.out.mod (Mod.set (fun i => i = w2.heap.size) w6 ⟨w2.heap.size, 6, none⟩ (.string (SB u)) rfl) (by have := HLT.out; omega) (by have := HLT.out; omega) (by have := HLT.out; omega) HLT.out.2.2.2 (by have := HLT.out; omega)
    have k7 := hEa.cell 7 _ rfl
    have f7 := hEa.free 7
    have hEb : Box ((w6.setCell ⟨w2.heap.size, 6, none⟩ (.string (SB u))).setCell ⟨w2.heap.size, 7, none⟩ (.string (SB lb))) w2.heap.size (EvtM.cells ⟨0, ⟨n1, n2, n3, n4, n5, u, lb, 0, 0, 0, 0, 0⟩, 0, 0⟩) 47 := hEa.set 7 _
    have hSb := hSa.mod (Mod.set (fun i => i = w2.heap.size) (w6.setCell ⟨w2.heap.size, 6, none⟩ (.string (SB u))) ⟨w2.heap.size, 7, none⟩ (.string (SB lb)) rfl) (by have := HLT.out; omega) (by have := HLT.out; omega) (by have := HLT.out; omega) HLT.out.2.2.2 (by have := HLT.out; omega)
    have HEb := Lib.hid hEb
    have HSb := Lib.hid hSb
    clear hEa hEb hSa hSb HE6 HS6
    go_wp2_with fail
    refine (tkNumber_calls w1.heap.size r v s8 _ HSb.out.it).mono ?_
    rintro ev w7 ⟨rfl, hi, hm⟩
    have hst := HSb.out.step hi hm
    have hE := HEb.out.mod hm (by rintro (e | e) <;> (have := HLT.out; omega))
    clear hi hm k6 f6 k7 f7 HSb HEb
    generalize s8.num = p at hst hD ⊢
    obtain ⟨sc, s9⟩ := p
    simp only at hst hD ⊢
    have k8 := hE.cell 8 _ rfl
    have f8 := hE.free 8
    have hEa : Box (w7.setCell ⟨w2.heap.size, 8, none⟩ (.int .u64 (sc : Int))) w2.heap.size (EvtM.cells ⟨0, ⟨n1, n2, n3, n4, n5, u, lb, sc, 0, 0, 0, 0⟩, 0, 0⟩) 47 := hE.set 8 _
    have hSa := hst.mod (Mod.set (fun i => i = w2.heap.size) w7 ⟨w2.heap.size, 8, none⟩ (.int .u64 (sc : Int)) rfl) (by have := HLT.out; omega) (by have := HLT.out; omega) (by have := HLT.out; omega) HLT.out.2.2.2 (by have := HLT.out; omega)
    have HE7 := Lib.hid hEa
    have HS7 := Lib.hid hSa
    clear hE hst hEa hSa
    go_wp2_with fail
    clear k8 f8
    obtain ⟨wa, hwa⟩ : ∃ wa, wa = (w7.setCell ⟨w2.heap.size, 8, none⟩ (.int .u64 (sc : Int))) := ⟨_, rfl⟩
    rw [← hwa] at HE7 HS7 ⊢
    clear hwa
    have HSd : DecSt w wa.drew w1.heap.size r w.heap.size v s9 := HS7.out.below (below_drew _)
    have HEd : Box wa.drew w2.heap.size (EvtM.cells ⟨0, ⟨n1, n2, n3, n4, n5, u, lb, sc, 0, 0, 0, 0⟩, 0, 0⟩) 47 := HE7.out
    have hsa : w2.heap.size < wa.heap.size := HE7.out.lt
    have hta : w1.heap.size < wa.heap.size := HS7.out.it.box.lt
    have hra : r < wa.heap.size := HS7.out.it.rd.box.lt
    have hint := tkInts_calls w1.heap.size r w2.heap.size (wa.heap.size) v s9 [9, 10, 11, 12] (EvtM.cells ⟨0, ⟨n1, n2, n3, n4, n5, u, lb, sc, 0, 0, 0, 0⟩, 0, 0⟩) 47 242 (World.alloc (wa.drew) (.cells #[.pointer (some ⟨w2.heap.size, 9, none⟩), .pointer (some ⟨w2.heap.size, 10, none⟩), .pointer (some ⟨w2.heap.size, 11, none⟩), .pointer (some ⟨w2.heap.size, 12, none⟩)] 242)) (HSd.below (below_alloc _ _)).it (HEd.below (below_alloc _ _)) (Box.new wa.drew #[.pointer (some ⟨w2.heap.size, 9, none⟩), .pointer (some ⟨w2.heap.size, 10, none⟩), .pointer (some ⟨w2.heap.size, 11, none⟩), .pointer (some ⟨w2.heap.size, 12, none⟩)] 242) (by intro o ho; simp only [List.mem_cons, List.not_mem_nil, or_false] at ho; rcases ho with rfl | rfl | rfl | rfl <;> (change _ < 15; decide)) (by have := HLT.out; omega) (by have := HLT.out; omega) (by have := HLT.out; omega) (by have := HLT.out; omega) (by omega) HLT.out.2.2.2 (by decide)
    have HI := Lib.hid hint
    have HSq := Lib.hid HSd
    clear hint HSd HEd HS7 HE7
    have hTr : True := trivial
    refine wp_region_held_drew (S := fun _ => True) (by kernel_rfl) trivial (fun hHeld => ?_)
    refine wpAnyH_take (i := 0) (oi := ⟨some 72, _, _, _, _, _⟩) (v := ?_) rfl (by kernel_rfl) (by kernel_rfl) (by kernel_rfl) (fun _ _ _ h => h) (Or.inl ⟨by kernel_rfl, ?_⟩) (by assumption) ?_
    rotate_left 1
    · intro w' hw'; go_simp; try with_reducible rfl
    simp only [Act.put, List.setIfInBounds_toArray, List.set_cons_zero, List.set_cons_succ]
    refine wpAnyH_take (i := 1) (oi := ⟨some 73, _, _, _, _, _⟩) (v := ?_) rfl (by kernel_rfl) (by kernel_rfl) (by kernel_rfl) (fun _ _ _ h => h) (Or.inl ⟨by kernel_rfl, ?_⟩) (by assumption) ?_
    rotate_left 1
    · intro w' hw'; go_simp; try with_reducible rfl
    simp only [Act.put, List.setIfInBounds_toArray, List.set_cons_zero, List.set_cons_succ]
    refine wpAnyH_take (i := 2) (oi := ⟨some 74, _, _, _, _, _⟩) (v := ?_) rfl (by kernel_rfl) (by kernel_rfl) (by kernel_rfl) (fun _ _ _ h => h) (Or.inl ⟨by kernel_rfl, ?_⟩) (by assumption) ?_
    rotate_left 1
    · intro w' hw'; go_simp; try with_reducible rfl
    simp only [Act.put, List.setIfInBounds_toArray, List.set_cons_zero, List.set_cons_succ]
    refine wpAnyH_take (i := 3) (oi := ⟨some 75, _, _, _, _, _⟩) (v := ?_) rfl (by kernel_rfl) (by kernel_rfl) (by kernel_rfl) (fun _ _ _ h => h) (Or.inl ⟨by kernel_rfl, ?_⟩) (by assumption) ?_
    rotate_left 1
    · intro w' hw'; go_simp; try with_reducible rfl
    simp only [Act.put, List.setIfInBounds_toArray, List.set_cons_zero, List.set_cons_succ]
    refine wpAnyH_take (i := 4) (oi := ⟨some 76, _, _, _, _, _⟩) (v := ?_) rfl (by kernel_rfl) (by kernel_rfl) (by kernel_rfl) (fun _ _ _ h => h) (Or.inl ⟨by kernel_rfl, ?_⟩) (by assumption) ?_
    rotate_left 1
    · intro w' hw'; go_simp; try with_reducible rfl
    simp only [Act.put, List.setIfInBounds_toArray, List.set_cons_zero, List.set_cons_succ]
    refine wpAnyH_take (i := 5) (oi := ⟨some 77, _, _, _, _, _⟩) (v := ?_) rfl (by kernel_rfl) (by kernel_rfl) (by kernel_rfl) (fun _ _ _ h => h) (Or.inl ⟨by kernel_rfl, ?_⟩) (by assumption) ?_
    rotate_left 1
    · intro w' hw'; go_simp; try with_reducible rfl
    simp only [Act.put, List.setIfInBounds_toArray, List.set_cons_zero, List.set_cons_succ]
    refine wpAnyH_take (i := 6) (oi := ⟨some 78, _, _, _, _, _⟩) (v := ?_) rfl (by kernel_rfl) (by kernel_rfl) (by kernel_rfl) (fun _ _ _ h => h) (Or.inl ⟨by kernel_rfl, ?_⟩) (by assumption) ?_
    rotate_left 1
    · intro w' hw'; go_simp; try with_reducible rfl
    simp only [Act.put, List.setIfInBounds_toArray, List.set_cons_zero, List.set_cons_succ]
    refine wpAnyH_take (i := 7) (oi := ⟨some 79, _, _, _, _, _⟩) (v := ?_) rfl (by kernel_rfl) (by kernel_rfl) (by kernel_rfl) (fun _ _ _ h => h) (Or.inl ⟨by kernel_rfl, ?_⟩) (by assumption) ?_
    rotate_left 1
    · intro w' hw'; go_simp; try with_reducible rfl
    simp only [Act.put, List.setIfInBounds_toArray, List.set_cons_zero, List.set_cons_succ]
    refine wpAnyH_take (i := 8) (oi := ⟨some 80, _, _, _, _, _⟩) (v := ?_) rfl (by kernel_rfl) (by kernel_rfl) (by kernel_rfl) (fun _ _ _ h => h) (Or.inl ⟨by kernel_rfl, ?_⟩) (by assumption) ?_
    rotate_left 1
    · intro w' hw'; go_simp; try with_reducible rfl
    simp only [Act.put, List.setIfInBounds_toArray, List.set_cons_zero, List.set_cons_succ]
    refine wpAnyH_take (i := 9) (oi := ⟨some 81, _, _, _, _, _⟩) (v := ?_) rfl (by kernel_rfl) (by kernel_rfl) (by kernel_rfl) (fun _ _ _ h => h) (Or.inl ⟨by kernel_rfl, ?_⟩) (by assumption) ?_
    rotate_left 1
    · intro w' hw'; go_simp; try with_reducible rfl
    simp only [Act.put, List.setIfInBounds_toArray, List.set_cons_zero, List.set_cons_succ]
    refine wpAnyH_take (i := 10) (oi := ⟨some 82, _, _, _, _, _⟩) (v := ?_) rfl (by kernel_rfl) (by kernel_rfl) (by kernel_rfl) (fun _ _ _ h => h) (Or.inl ⟨by kernel_rfl, ?_⟩) (by assumption) ?_
    rotate_left 1
    · intro w' hw'; go_simp; try with_reducible rfl
    simp only [Act.put, List.setIfInBounds_toArray, List.set_cons_zero, List.set_cons_succ]
    refine wpAnyH_take (i := 11) (oi := ⟨some 83, _, _, _, _, _⟩) (v := ?_) rfl (by kernel_rfl) (by kernel_rfl) (by kernel_rfl) (fun _ _ _ h => h) (Or.inl ⟨by kernel_rfl, ?_⟩) (by assumption) ?_
    rotate_left 1
    · intro w' hw'; go_simp; try with_reducible rfl
    simp only [Act.put, List.setIfInBounds_toArray, List.set_cons_zero, List.set_cons_succ]
    refine wpAnyH_take (i := 12) (oi := ⟨some 84, _, _, _, _, _⟩) (v := ?_) rfl (by kernel_rfl) (by kernel_rfl) (by kernel_rfl) (fun _ _ _ h => h) (Or.inl ⟨by kernel_rfl, ?_⟩) (by assumption) ?_
    rotate_left 1
    · intro w' hw'; go_simp; try with_reducible rfl
    simp only [Act.put, List.setIfInBounds_toArray, List.set_cons_zero, List.set_cons_succ]
    refine wpAnyH_ready (rs := [13]) (by kernel_rfl) (by simp) (AllReadyH.cons (o := ⟨some 85, .buildSlice _ 4 _, _, _, _, none⟩) rfl (fun K hK => ?_) AllReadyH.nil)
    go_simp
    refine hK.out _ _ trivial (fun hHeld2 => ?_)
    clear hK K hHeld2
    try simp only [Act.put, List.setIfInBounds_toArray, List.set_cons_zero, List.set_cons_succ]
    refine wpAnyH_ready (rs := [14]) (by kernel_rfl) (by simp) (AllReadyH.cons (o := ⟨some 86, .call _, _, _, _, _⟩) rfl (fun K hK => ?_) AllReadyH.nil)
    go_simp
    refine HI.out.mono ?_
    rintro ev w8 ⟨rfl, hi4, hb4, hm4⟩
    refine hK.out _ _ trivial (fun _ => ?_)
    clear hK K
    try simp only [Act.put, List.setIfInBounds_toArray, List.set_cons_zero, List.set_cons_succ]
    refine wpAnyH_done (by kernel_rfl) ?_ _
    have hs4 := (HSq.out.below (below_alloc _ (.cells #[.pointer (some ⟨w2.heap.size, 9, none⟩), .pointer (some ⟨w2.heap.size, 10, none⟩), .pointer (some ⟨w2.heap.size, 11, none⟩), .pointer (some ⟨w2.heap.size, 12, none⟩)] 242))).ints hi4 hm4 (by have := HLT.out; omega) (by have := HLT.out; omega)
    change DecSt w w8 w1.heap.size r w.heap.size v s9.int.2.int.2.int.2.int.2 at hs4
    change Box w8 w2.heap.size (EvtM.cells ⟨0, ⟨n1, n2, n3, n4, n5, u, lb, sc, s9.int.1, s9.int.2.int.1, s9.int.2.int.2.int.1, s9.int.2.int.2.int.2.int.1⟩, 0, 0⟩) 47 at hb4
    clear hi4 hm4 HI HSq hTr hHeld hsa hta hra
    generalize s9.int = p at hs4 hb4 hD
    obtain ⟨n6, s10⟩ := p
    simp only at hs4 hb4 hD
    generalize s10.int = p at hs4 hb4 hD
    obtain ⟨n7, s11⟩ := p
    simp only at hs4 hb4 hD
    generalize s11.int = p at hs4 hb4 hD
    obtain ⟨n8, s12⟩ := p
    simp only at hs4 hb4 hD
    generalize s12.int = p at hs4 hb4 hD
    obtain ⟨n9, s13⟩ := p
    simp only at hs4 hb4 hD
    obtain ⟨e9, he9⟩ : ∃ e : EvtM, e = ⟨0, ⟨n1, n2, n3, n4, n5, u, lb, sc, n6, n7, n8, n9⟩, 0, 0⟩ := ⟨_, rfl⟩
    have HU := Lib.hid (show e9.s.user.length ≤ 9223372036854775807 ∧ e9.s.label.length ≤ 9223372036854775807 by rw [he9]; exact ⟨Nat.le_trans Hulen.out (by decide), Nat.le_trans Hlblen.out (by decide)⟩)
    rw [← he9] at hb4 hD
    clear he9 Hulen Hlblen
    have HS9 := Lib.hid hs4
    have HE9 := Lib.hid hb4
    clear hs4 hb4
    have c1 : w8.cell? ⟨w1.heap.size, 1, none⟩ = some (errV s13.er) := HS9.out.it.box.cell 1 _ rfl
    unfold endM at hD
    by_cases he : s13.er = 0
    rotate_left
    · rw [errV_no he] at c1
      rw [if_neg he] at hD
      have HX := Lib.hid (⟨c1, HS9.out.bz, HS9.out.bel, HS9.out.n1, HS9.out.g3⟩ : ExS w w1.heap.size w.heap.size (.iface 91 (.int .i64 s13.er)) w8)
      have HD := Lib.hid hD
      have hke : ∀ w', ExS w w1.heap.size w.heap.size (.iface 91 (.int .i64 s13.er)) w' → w'.cell? ⟨w1.heap.size, 1, none⟩ = some (.iface 91 (.int .i64 s13.er)) := fun w' h => h.ce
      clear hD HS9
      go_wp2_with fail
      clear c1
      refine wp_region_held_drew (S := ExS w w1.heap.size w.heap.size (.iface 91 (.int .i64 s13.er))) (by kernel_rfl) HX.out.drew (fun hHeld => ?_)
      refine wpAnyH_take (i := 0) (oi := ⟨some 104, _, _, _, _, _⟩) (v := ?_) rfl (by kernel_rfl) (by kernel_rfl) (by kernel_rfl) (fun _ _ _ h => h) (Or.inl ⟨by kernel_rfl, ?_⟩) (by assumption) ?_
      rotate_left 1
      · intro w' hw'; go_simp; try with_reducible rfl
      simp only [Act.put, List.setIfInBounds_toArray, List.set_cons_zero, List.set_cons_succ]
      refine wpAnyH_take (i := 1) (oi := ⟨some 105, _, _, _, _, _⟩) (v := ?_) rfl (by kernel_rfl) (by kernel_rfl) (by kernel_rfl) (fun _ _ _ h => h) (Or.inl ⟨by kernel_rfl, ?_⟩) (by assumption) ?_
      rotate_left 1
      · intro w' hw'; go_simp; try with_reducible rfl
      simp only [Act.put, List.setIfInBounds_toArray, List.set_cons_zero, List.set_cons_succ]
      refine wpAnyH_take (i := 2) (oi := ⟨some 106, _, _, _, _, _⟩) (v := ?_) rfl (by kernel_rfl) (by kernel_rfl) (by kernel_rfl) (fun _ _ _ h => h) (Or.inl ⟨by kernel_rfl, ?_⟩) (by assumption) ?_
      rotate_left 1
      · intro w' hw'; go_simp; try with_reducible rfl
      simp only [Act.put, List.setIfInBounds_toArray, List.set_cons_zero, List.set_cons_succ]
      refine wpAnyH_take (i := 3) (oi := ⟨some 107, _, _, _, _, _⟩) (v := ?_) rfl (by kernel_rfl) (by kernel_rfl) (by kernel_rfl) (fun _ _ _ h => h) (Or.inl ⟨by kernel_rfl, ?_⟩) (by assumption) ?_
      rotate_left 1
      · intro w' hw'; go_simp; try with_reducible rfl
      simp only [Act.put, List.setIfInBounds_toArray, List.set_cons_zero, List.set_cons_succ]
      refine wpAnyH_take (i := 4) (oi := ⟨some 108, _, _, _, _, _⟩) (v := ?_) rfl (by kernel_rfl) (by kernel_rfl) (by kernel_rfl) (fun _ _ _ h => h) (Or.inl ⟨by kernel_rfl, ?_⟩) (by assumption) ?_
      rotate_left 1
      · intro w' hw'; go_simp; try with_reducible rfl
      simp only [Act.put, List.setIfInBounds_toArray, List.set_cons_zero, List.set_cons_succ]
      refine wpAnyH_ready (rs := [5]) (by kernel_rfl) (by simp) (AllReadyH.cons (o := ⟨none, .store 47 (.tmp 2) (.tmp 104), _, _, _, none⟩) rfl (fun K hK => ?_) AllReadyH.nil)
      rw [if_pos (by kernel_rfl)]
      refine wp_store_k 47 (.tmp 2) (.tmp 104) rfl w.heap.size 0 noEvt.cells.toList rfl rfl hHeld.bz.thereE (by kernel_rfl) noEvt.one ?_
      refine hK.out _ _ hHeld.store (fun hHeld2 => ?_)
      clear hK K
      try simp only [Act.put]
      refine wpAnyH_take (i := 6) (oi := ⟨some 3, _, _, _, _, _⟩) (v := ?_) rfl (by kernel_rfl) (by kernel_rfl) (by kernel_rfl) (fun _ _ _ h => h) (Or.inl ⟨by kernel_rfl, ?_⟩) (by assumption) ?_
      rotate_left 1
      · intro w' hw'; go_simp; try with_reducible rfl
      simp only [Act.put, List.setIfInBounds_toArray, List.set_cons_zero, List.set_cons_succ]
      refine wpAnyH_done (by kernel_rfl) ?_ _
      have HZ := Lib.hid hHeld2
      clear hHeld hHeld2 hke HX
      generalize World.setCells _ _ _ _ = wz at HZ ⊢
      go_wp2_with fail
      exact ret_cell_tmp rfl rfl (w.heap.size) 0 rfl noEvt.cells.toList _ HZ.out.bz.rangeE Tryz.underlying47 rfl (by kernel_rfl) _ rfl ⟨by rw [HD.out, errV_no he]; rfl, HZ.out.bel⟩
    rw [show errV s13.er = .nilIface by unfold errV; rw [if_pos he]] at c1
    rw [if_pos he] at hD
    have c0 := HS9.out.it.box.cell 0 _ rfl
    clear he
    go_wp2_with fail
    refine (end_calls r s13.k v s13.l _ HS9.out.it.rd).mono ?_
    rintro ev w7 ⟨rfl, hb7⟩
    have HS7 := Lib.hid (HS9.out.below hb7)
    have HE7 := Lib.hid (HE9.out.below hb7)
    clear c0 c1 hb7 HS9 HE9
    by_cases hk : s13.k < s13.l.length
    · rw [if_pos hk, errV_no (by decide : (3 : Int) ≠ 0)]
      rw [if_pos hk] at hD
      have HD := Lib.hid hD
      clear hD hk HE7
      go_wp2_with ((with_reducible refine wpList_store_k ?q436_0 47 (.tmp 2) (.tmp 116) ?q436_1 (w.heap.size) 0 noEvt.cells.toList ?q436_2 noEvt.cells ?q436_3 noEvt_list ?q436_5 ?q436_6 ?q436_7 ?q436_8); (case q436_1 => rfl); (case q436_0 => rfl); (case q436_2 => rfl); (case q436_3 => rfl); (case q436_5 => exact HS7.out.bz.thereE); (case q436_6 => kernel_rfl); (case q436_7 => exact noEvt.one))
      intro wz hwz
      have hzz := HS7.out.out noEvt
      rw [← hwz.out] at hzz
      have HZ := Lib.hid hzz
      clear hwz hzz
      go_wp2_with fail
      exact ret_cell_tmp rfl rfl (w.heap.size) 0 rfl noEvt.cells.toList _ HZ.out.1.rangeE Tryz.underlying47 rfl (by kernel_rfl) _ rfl ⟨by rw [HD.out]; rfl, HZ.out.2⟩
    rw [if_neg hk, show errV 0 = .nilIface from rfl]
    rw [if_neg hk] at hD
    clear hk
    have c2 : w7.cell? ⟨w1.heap.size, 2, none⟩ = some (.bool s13.big) := HS7.out.it.box.cell 2 _ rfl
    cases hbg : s13.big
    rotate_left
    · rw [hbg] at c2 hD
      rw [if_pos rfl] at hD
      have HD := Lib.hid hD
      clear hD hbg HE7
      go_wp2_with ((with_reducible refine wpList_store_k ?q454_0 47 (.tmp 2) (.tmp 127) ?q454_1 (w.heap.size) 0 noEvt.cells.toList ?q454_2 noEvt.cells ?q454_3 noEvt_list ?q454_5 ?q454_6 ?q454_7 ?q454_8); (case q454_1 => rfl); (case q454_0 => rfl); (case q454_2 => rfl); (case q454_3 => rfl); (case q454_5 => exact HS7.out.bz.thereE); (case q454_6 => kernel_rfl); (case q454_7 => exact noEvt.one))
      intro wz hwz
      have hzz := HS7.out.out noEvt
      rw [← hwz.out] at hzz
      have HZ := Lib.hid hzz
      clear hwz hzz
      go_wp2_with fail
      exact ret_cell_tmp rfl rfl (w.heap.size) 0 rfl noEvt.cells.toList _ HZ.out.1.rangeE Tryz.underlying47 rfl (by kernel_rfl) _ rfl ⟨by rw [HD.out]; rfl, HZ.out.2⟩
    rw [hbg] at c2 hD
    rw [if_neg (by decide)] at hD
    go_wp2_with ((with_reducible refine wpList_load_g ?q464_0 47 (.tmp 6) ?q464_1 (w2.heap.size) 0 ?q464_2 e9.cells.toList _ HE7.out.rangeE Tryz.underlying47 ?q464_3 ?q464_4 ?q464_8); (case q464_1 => rfl); (case q464_0 => rfl); (case q464_2 => rfl); (case q464_3 => rfl); (case q464_4 => kernel_rfl))
    intro cv hcv
    have ecv : cv = e9.cells := by rw [hcv.out]
    have Hofc := Lib.hid (of_calls e9 w7 HU.out.1 HU.out.2)
    rw [← ecv] at Hofc
    clear hcv hbg ecv
    go_wp2_with fail
    refine Hofc.out.mono ?_
    rintro ev w8 ⟨rfl, hb8⟩
    have HS8 := Lib.hid (HS7.out.below hb8)
    have HE8 := Lib.hid (HE7.out.below hb8)
    clear hb8 HS7 HE7 c2 Hofc
    cases hmay : mayE e9
    · rw [ofV_no hmay]
      rw [hmay, if_neg (by decide)] at hD
      have HD := Lib.hid hD
      clear hD hmay HE8
      go_wp2_with ((with_reducible refine wpList_store_k ?q481_0 47 (.tmp 2) (.tmp 127) ?q481_1 (w.heap.size) 0 noEvt.cells.toList ?q481_2 noEvt.cells ?q481_3 noEvt_list ?q481_5 ?q481_6 ?q481_7 ?q481_8); (case q481_1 => rfl); (case q481_0 => rfl); (case q481_2 => rfl); (case q481_3 => rfl); (case q481_5 => exact HS8.out.bz.thereE); (case q481_6 => kernel_rfl); (case q481_7 => exact noEvt.one))
      intro wz hwz
      have hzz := HS8.out.out noEvt
      rw [← hwz.out] at hzz
      have HZ := Lib.hid hzz
      clear hwz hzz
      go_wp2_with fail
      exact ret_cell_tmp rfl rfl (w.heap.size) 0 rfl noEvt.cells.toList _ HZ.out.1.rangeE Tryz.underlying47 rfl (by kernel_rfl) _ rfl ⟨by rw [HD.out]; rfl, HZ.out.2⟩
    obtain ⟨ot, ou, hof⟩ := ofV_iface hmay
    rw [hof]
    rw [hmay, if_pos rfl] at hD
    have HD := Lib.hid hD
    clear hD hmay hof
    go_wp2_with ((with_reducible refine wpList_load_k ?q494_0 47 (.tmp 6) ?q494_1 (w2.heap.size) 0 ?q494_2 e9.cells.toList _ HE8.out.rangeE Tryz.underlying47 ?q494_3 ?q494_4 ?q494_8); (case q494_1 => rfl); (case q494_0 => rfl); (case q494_2 => rfl); (case q494_3 => rfl); (case q494_4 => kernel_rfl))
    intro cv hcv
    go_wp2_with ((with_reducible refine wpList_store_k ?q496_0 47 (.tmp 2) (.tmp 129) ?q496_1 (w.heap.size) 0 e9.cells.toList ?q496_2 cv ?q496_3 hcv (HS8.out.bz.thereF e9) ?q496_4 e9.one ?q496_8); (case q496_1 => rfl); (case q496_0 => rfl); (case q496_2 => rfl); (case q496_3 => rfl); (case q496_4 => kernel_rfl))
    intro wz hwz
    have hzz := HS8.out.out e9
    rw [← hwz.out] at hzz
    have HZ := Lib.hid hzz
    clear hwz hzz hcv
    go_wp2_with fail
    exact ret_cell_tmp rfl rfl (w.heap.size) 0 rfl e9.cells.toList _ HZ.out.1.rangeE Tryz.underlying47 rfl (by kernel_rfl) _ rfl ⟨by rw [HD.out]; rfl, HZ.out.2⟩
  · rw [if_neg (by decide), if_pos rfl] at hD
    clear h2
    have hS3 : DecSt w (w2.alloc (.cells #[.int .i64 1, .int .i64 0, .int .i64 0, .int .i64 0, .int .i64 0, .int .i64 0, .string ⟨#[]⟩, .string ⟨#[]⟩, .int .u64 0, .int .i64 0, .int .i64 0, .int .i64 0, .int .i64 0, .int .i64 0, .int .i64 0] 47)) w1.heap.size r w.heap.size v s1 := HS2.out.below (below_alloc _ _)
    have hE3 : Box (w2.alloc (.cells #[.int .i64 1, .int .i64 0, .int .i64 0, .int .i64 0, .int .i64 0, .int .i64 0, .string ⟨#[]⟩, .string ⟨#[]⟩, .int .u64 0, .int .i64 0, .int .i64 0, .int .i64 0, .int .i64 0, .int .i64 0, .int .i64 0] 47)) w2.heap.size (EvtM.cells ⟨1, noSes, 0, 0⟩) 47 := Box.new _ _ _
    have hwz : w.heap.size < w2.heap.size := HS2.out.bz.lt
    have hwt : w1.heap.size < w2.heap.size := HS2.out.it.box.lt
    have hwr : r < w2.heap.size := HS2.out.it.rd.box.lt
    have hwv : v.ownBlock ≠ some w2.heap.size := fun e => by have := HS2.out.it.vl _ e; omega
    have HS3 := Lib.hid hS3
    have HE3 := Lib.hid hE3
    have HLT := Lib.hid (And.intro hwz (And.intro hwt (And.intro hwr hwv)))
    clear hS3 hE3 hwz hwt hwr hwv HS2
    have hint := tkInts_calls w1.heap.size r w2.heap.size (w2.heap.size + 1) v s1 [13] (EvtM.cells ⟨1, noSes, 0, 0⟩) 47 242 ((w2.alloc (.cells #[.int .i64 1, .int .i64 0, .int .i64 0, .int .i64 0, .int .i64 0, .int .i64 0, .string ⟨#[]⟩, .string ⟨#[]⟩, .int .u64 0, .int .i64 0, .int .i64 0, .int .i64 0, .int .i64 0, .int .i64 0, .int .i64 0] 47)).alloc (.cells #[.pointer (some ⟨w2.heap.size, 13, none⟩)] 242)) (HS3.out.below (below_alloc _ _)).it (HE3.out.below (below_alloc _ _)) (by have := Box.new (w2.alloc (.cells #[.int .i64 1, .int .i64 0, .int .i64 0, .int .i64 0, .int .i64 0, .int .i64 0, .string ⟨#[]⟩, .string ⟨#[]⟩, .int .u64 0, .int .i64 0, .int .i64 0, .int .i64 0, .int .i64 0, .int .i64 0, .int .i64 0] 47)) #[.pointer (some ⟨w2.heap.size, 13, none⟩)] 242; rw [World.size_alloc] at this; exact this) (by intro o ho; rw [List.mem_singleton.1 ho]; decide) (by have := HLT.out; omega) (by have := HLT.out; omega) (by have := HLT.out; omega) (by have := HLT.out; omega) (by omega) HLT.out.2.2.2 (by decide)
    have HI := Lib.hid hint
    clear hint
    go_wp2_with fail
    clear c1
    refine HI.out.mono ?_
    rintro ev w4 ⟨rfl, hi4, hb4, hm4⟩
    have hs4 := (HS3.out.below (below_alloc _ (.cells #[.pointer (some ⟨w2.heap.size, 13, none⟩)] 242))).ints hi4 hm4 (by have := HLT.out; omega) (by have := HLT.out; omega)
    change DecSt w w4 w1.heap.size r w.heap.size v s1.int.2 at hs4
    change Box w4 w2.heap.size (EvtM.cells ⟨1, noSes, s1.int.1, 0⟩) 47 at hb4
    obtain ⟨e9, he9⟩ : ∃ e : EvtM, e = ⟨1, noSes, s1.int.1, 0⟩ := ⟨_, rfl⟩
    have HU := Lib.hid (show e9.s.user.length ≤ 9223372036854775807 ∧ e9.s.label.length ≤ 9223372036854775807 by rw [he9]; exact ⟨by show (0 : Nat) ≤ _; omega, by show (0 : Nat) ≤ _; omega⟩)
    rw [← he9] at hb4 hD
    clear he9
    generalize s1.int.2 = s9 at hs4 hD
    have HS9 := Lib.hid hs4
    have HE9 := Lib.hid hb4
    clear hi4 hb4 hm4 hs4 HS3 HE3 HI
    have c1 : w4.cell? ⟨w1.heap.size, 1, none⟩ = some (errV s9.er) := HS9.out.it.box.cell 1 _ rfl
    unfold endM at hD
    by_cases he : s9.er = 0
    rotate_left
    · rw [errV_no he] at c1
      rw [if_neg he] at hD
      have HX := Lib.hid (⟨c1, HS9.out.bz, HS9.out.bel, HS9.out.n1, HS9.out.g3⟩ : ExS w w1.heap.size w.heap.size (.iface 91 (.int .i64 s9.er)) w4)
      have HD := Lib.hid hD
      have hke : ∀ w', ExS w w1.heap.size w.heap.size (.iface 91 (.int .i64 s9.er)) w' → w'.cell? ⟨w1.heap.size, 1, none⟩ = some (.iface 91 (.int .i64 s9.er)) := fun w' h => h.ce
      clear hD HS9
      go_wp2_with fail
      clear c1
      refine wp_region_held_drew (S := ExS w w1.heap.size w.heap.size (.iface 91 (.int .i64 s9.er))) (by kernel_rfl) HX.out.drew (fun hHeld => ?_)
      refine wpAnyH_take (i := 0) (oi := ⟨some 104, _, _, _, _, _⟩) (v := ?_) rfl (by kernel_rfl) (by kernel_rfl) (by kernel_rfl) (fun _ _ _ h => h) (Or.inl ⟨by kernel_rfl, ?_⟩) (by assumption) ?_
      rotate_left 1
      · intro w' hw'; go_simp; try with_reducible rfl
      simp only [Act.put, List.setIfInBounds_toArray, List.set_cons_zero, List.set_cons_succ]
      refine wpAnyH_take (i := 1) (oi := ⟨some 105, _, _, _, _, _⟩) (v := ?_) rfl (by kernel_rfl) (by kernel_rfl) (by kernel_rfl) (fun _ _ _ h => h) (Or.inl ⟨by kernel_rfl, ?_⟩) (by assumption) ?_
      rotate_left 1
      · intro w' hw'; go_simp; try with_reducible rfl
      simp only [Act.put, List.setIfInBounds_toArray, List.set_cons_zero, List.set_cons_succ]
      refine wpAnyH_take (i := 2) (oi := ⟨some 106, _, _, _, _, _⟩) (v := ?_) rfl (by kernel_rfl) (by kernel_rfl) (by kernel_rfl) (fun _ _ _ h => h) (Or.inl ⟨by kernel_rfl, ?_⟩) (by assumption) ?_
      rotate_left 1
      · intro w' hw'; go_simp; try with_reducible rfl
      simp only [Act.put, List.setIfInBounds_toArray, List.set_cons_zero, List.set_cons_succ]
      refine wpAnyH_take (i := 3) (oi := ⟨some 107, _, _, _, _, _⟩) (v := ?_) rfl (by kernel_rfl) (by kernel_rfl) (by kernel_rfl) (fun _ _ _ h => h) (Or.inl ⟨by kernel_rfl, ?_⟩) (by assumption) ?_
      rotate_left 1
      · intro w' hw'; go_simp; try with_reducible rfl
      simp only [Act.put, List.setIfInBounds_toArray, List.set_cons_zero, List.set_cons_succ]
      refine wpAnyH_take (i := 4) (oi := ⟨some 108, _, _, _, _, _⟩) (v := ?_) rfl (by kernel_rfl) (by kernel_rfl) (by kernel_rfl) (fun _ _ _ h => h) (Or.inl ⟨by kernel_rfl, ?_⟩) (by assumption) ?_
      rotate_left 1
      · intro w' hw'; go_simp; try with_reducible rfl
      simp only [Act.put, List.setIfInBounds_toArray, List.set_cons_zero, List.set_cons_succ]
      refine wpAnyH_ready (rs := [5]) (by kernel_rfl) (by simp) (AllReadyH.cons (o := ⟨none, .store 47 (.tmp 2) (.tmp 104), _, _, _, none⟩) rfl (fun K hK => ?_) AllReadyH.nil)
      rw [if_pos (by kernel_rfl)]
      refine wp_store_k 47 (.tmp 2) (.tmp 104) rfl w.heap.size 0 noEvt.cells.toList rfl rfl hHeld.bz.thereE (by kernel_rfl) noEvt.one ?_
      refine hK.out _ _ hHeld.store (fun hHeld2 => ?_)
      clear hK K
      try simp only [Act.put]
      refine wpAnyH_take (i := 6) (oi := ⟨some 3, _, _, _, _, _⟩) (v := ?_) rfl (by kernel_rfl) (by kernel_rfl) (by kernel_rfl) (fun _ _ _ h => h) (Or.inl ⟨by kernel_rfl, ?_⟩) (by assumption) ?_
      rotate_left 1
      · intro w' hw'; go_simp; try with_reducible rfl
      simp only [Act.put, List.setIfInBounds_toArray, List.set_cons_zero, List.set_cons_succ]
      refine wpAnyH_done (by kernel_rfl) ?_ _
      have HZ := Lib.hid hHeld2
      clear hHeld hHeld2 hke HX
      generalize World.setCells _ _ _ _ = wz at HZ ⊢
      go_wp2_with fail
      exact ret_cell_tmp rfl rfl (w.heap.size) 0 rfl noEvt.cells.toList _ HZ.out.bz.rangeE Tryz.underlying47 rfl (by kernel_rfl) _ rfl ⟨by rw [HD.out, errV_no he]; rfl, HZ.out.bel⟩
    rw [show errV s9.er = .nilIface by unfold errV; rw [if_pos he]] at c1
    rw [if_pos he] at hD
    have c0 := HS9.out.it.box.cell 0 _ rfl
    clear he
    go_wp2_with fail
    refine (end_calls r s9.k v s9.l _ HS9.out.it.rd).mono ?_
    rintro ev w7 ⟨rfl, hb7⟩
    have HS7 := Lib.hid (HS9.out.below hb7)
    have HE7 := Lib.hid (HE9.out.below hb7)
    clear c0 c1 hb7 HS9 HE9
    by_cases hk : s9.k < s9.l.length
    · rw [if_pos hk, errV_no (by decide : (3 : Int) ≠ 0)]
      rw [if_pos hk] at hD
      have HD := Lib.hid hD
      clear hD hk HE7
      go_wp2_with ((with_reducible refine wpList_store_k ?q598_0 47 (.tmp 2) (.tmp 116) ?q598_1 (w.heap.size) 0 noEvt.cells.toList ?q598_2 noEvt.cells ?q598_3 noEvt_list ?q598_5 ?q598_6 ?q598_7 ?q598_8); (case q598_1 => rfl); (case q598_0 => rfl); (case q598_2 => rfl); (case q598_3 => rfl); (case q598_5 => exact HS7.out.bz.thereE); (case q598_6 => kernel_rfl); (case q598_7 => exact noEvt.one))
      intro wz hwz
      have hzz := HS7.out.out noEvt
      rw [← hwz.out] at hzz
      have HZ := Lib.hid hzz
      clear hwz hzz
      go_wp2_with fail
      exact ret_cell_tmp rfl rfl (w.heap.size) 0 rfl noEvt.cells.toList _ HZ.out.1.rangeE Tryz.underlying47 rfl (by kernel_rfl) _ rfl ⟨by rw [HD.out]; rfl, HZ.out.2⟩
    rw [if_neg hk, show errV 0 = .nilIface from rfl]
    rw [if_neg hk] at hD
    clear hk
    have c2 : w7.cell? ⟨w1.heap.size, 2, none⟩ = some (.bool s9.big) := HS7.out.it.box.cell 2 _ rfl
    cases hbg : s9.big
    rotate_left
    · rw [hbg] at c2 hD
      rw [if_pos rfl] at hD
      have HD := Lib.hid hD
      clear hD hbg HE7
      go_wp2_with ((with_reducible refine wpList_store_k ?q616_0 47 (.tmp 2) (.tmp 127) ?q616_1 (w.heap.size) 0 noEvt.cells.toList ?q616_2 noEvt.cells ?q616_3 noEvt_list ?q616_5 ?q616_6 ?q616_7 ?q616_8); (case q616_1 => rfl); (case q616_0 => rfl); (case q616_2 => rfl); (case q616_3 => rfl); (case q616_5 => exact HS7.out.bz.thereE); (case q616_6 => kernel_rfl); (case q616_7 => exact noEvt.one))
      intro wz hwz
      have hzz := HS7.out.out noEvt
      rw [← hwz.out] at hzz
      have HZ := Lib.hid hzz
      clear hwz hzz
      go_wp2_with fail
      exact ret_cell_tmp rfl rfl (w.heap.size) 0 rfl noEvt.cells.toList _ HZ.out.1.rangeE Tryz.underlying47 rfl (by kernel_rfl) _ rfl ⟨by rw [HD.out]; rfl, HZ.out.2⟩
    rw [hbg] at c2 hD
    rw [if_neg (by decide)] at hD
    go_wp2_with ((with_reducible refine wpList_load_g ?q626_0 47 (.tmp 6) ?q626_1 (w2.heap.size) 0 ?q626_2 e9.cells.toList _ HE7.out.rangeE Tryz.underlying47 ?q626_3 ?q626_4 ?q626_8); (case q626_1 => rfl); (case q626_0 => rfl); (case q626_2 => rfl); (case q626_3 => rfl); (case q626_4 => kernel_rfl))
    intro cv hcv
    have ecv : cv = e9.cells := by rw [hcv.out]
    have Hofc := Lib.hid (of_calls e9 w7 HU.out.1 HU.out.2)
    rw [← ecv] at Hofc
    clear hcv hbg ecv
    go_wp2_with fail
    refine Hofc.out.mono ?_
    rintro ev w8 ⟨rfl, hb8⟩
    have HS8 := Lib.hid (HS7.out.below hb8)
    have HE8 := Lib.hid (HE7.out.below hb8)
    clear hb8 HS7 HE7 c2 Hofc
    cases hmay : mayE e9
    · rw [ofV_no hmay]
      rw [hmay, if_neg (by decide)] at hD
      have HD := Lib.hid hD
      clear hD hmay HE8
      go_wp2_with ((with_reducible refine wpList_store_k ?q643_0 47 (.tmp 2) (.tmp 127) ?q643_1 (w.heap.size) 0 noEvt.cells.toList ?q643_2 noEvt.cells ?q643_3 noEvt_list ?q643_5 ?q643_6 ?q643_7 ?q643_8); (case q643_1 => rfl); (case q643_0 => rfl); (case q643_2 => rfl); (case q643_3 => rfl); (case q643_5 => exact HS8.out.bz.thereE); (case q643_6 => kernel_rfl); (case q643_7 => exact noEvt.one))
      intro wz hwz
      have hzz := HS8.out.out noEvt
      rw [← hwz.out] at hzz
      have HZ := Lib.hid hzz
      clear hwz hzz
      go_wp2_with fail
      exact ret_cell_tmp rfl rfl (w.heap.size) 0 rfl noEvt.cells.toList _ HZ.out.1.rangeE Tryz.underlying47 rfl (by kernel_rfl) _ rfl ⟨by rw [HD.out]; rfl, HZ.out.2⟩
    obtain ⟨ot, ou, hof⟩ := ofV_iface hmay
    rw [hof]
    rw [hmay, if_pos rfl] at hD
    have HD := Lib.hid hD
    clear hD hmay hof
    go_wp2_with ((with_reducible refine wpList_load_k ?q656_0 47 (.tmp 6) ?q656_1 (w2.heap.size) 0 ?q656_2 e9.cells.toList _ HE8.out.rangeE Tryz.underlying47 ?q656_3 ?q656_4 ?q656_8); (case q656_1 => rfl); (case q656_0 => rfl); (case q656_2 => rfl); (case q656_3 => rfl); (case q656_4 => kernel_rfl))
    intro cv hcv
    go_wp2_with ((with_reducible refine wpList_store_k ?q658_0 47 (.tmp 2) (.tmp 129) ?q658_1 (w.heap.size) 0 e9.cells.toList ?q658_2 cv ?q658_3 hcv (HS8.out.bz.thereF e9) ?q658_4 e9.one ?q658_8); (case q658_1 => rfl); (case q658_0 => rfl); (case q658_2 => rfl); (case q658_3 => rfl); (case q658_4 => kernel_rfl))
    intro wz hwz
    have hzz := HS8.out.out e9
    rw [← hwz.out] at hzz
    have HZ := Lib.hid hzz
    clear hwz hzz hcv
    go_wp2_with fail
    exact ret_cell_tmp rfl rfl (w.heap.size) 0 rfl e9.cells.toList _ HZ.out.1.rangeE Tryz.underlying47 rfl (by kernel_rfl) _ rfl ⟨by rw [HD.out]; rfl, HZ.out.2⟩
  · rw [if_neg (by decide), if_neg (by decide)] at hD
    clear h2
    have hS3 : DecSt w (w2.alloc (.cells #[.int .i64 2, .int .i64 0, .int .i64 0, .int .i64 0, .int .i64 0, .int .i64 0, .string ⟨#[]⟩, .string ⟨#[]⟩, .int .u64 0, .int .i64 0, .int .i64 0, .int .i64 0, .int .i64 0, .int .i64 0, .int .i64 0] 47)) w1.heap.size r w.heap.size v s1 := HS2.out.below (below_alloc _ _)
    have hE3 : Box (w2.alloc (.cells #[.int .i64 2, .int .i64 0, .int .i64 0, .int .i64 0, .int .i64 0, .int .i64 0, .string ⟨#[]⟩, .string ⟨#[]⟩, .int .u64 0, .int .i64 0, .int .i64 0, .int .i64 0, .int .i64 0, .int .i64 0, .int .i64 0] 47)) w2.heap.size (EvtM.cells ⟨2, noSes, 0, 0⟩) 47 := Box.new _ _ _
    have hwz : w.heap.size < w2.heap.size := HS2.out.bz.lt
    have hwt : w1.heap.size < w2.heap.size := HS2.out.it.box.lt
    have hwr : r < w2.heap.size := HS2.out.it.rd.box.lt
    have hwv : v.ownBlock ≠ some w2.heap.size := fun e => by have := HS2.out.it.vl _ e; omega
    have HS3 := Lib.hid hS3
    have HE3 := Lib.hid hE3
    have HLT := Lib.hid (And.intro hwz (And.intro hwt (And.intro hwr hwv)))
    clear hS3 hE3 hwz hwt hwr hwv HS2
    have hint := tkInts_calls w1.heap.size r w2.heap.size (w2.heap.size + 1) v s1 [14] (EvtM.cells ⟨2, noSes, 0, 0⟩) 47 242 ((w2.alloc (.cells #[.int .i64 2, .int .i64 0, .int .i64 0, .int .i64 0, .int .i64 0, .int .i64 0, .string ⟨#[]⟩, .string ⟨#[]⟩, .int .u64 0, .int .i64 0, .int .i64 0, .int .i64 0, .int .i64 0, .int .i64 0, .int .i64 0] 47)).alloc (.cells #[.pointer (some ⟨w2.heap.size, 14, none⟩)] 242)) (HS3.out.below (below_alloc _ _)).it (HE3.out.below (below_alloc _ _)) (by have := Box.new (w2.alloc (.cells #[.int .i64 2, .int .i64 0, .int .i64 0, .int .i64 0, .int .i64 0, .int .i64 0, .string ⟨#[]⟩, .string ⟨#[]⟩, .int .u64 0, .int .i64 0, .int .i64 0, .int .i64 0, .int .i64 0, .int .i64 0, .int .i64 0] 47)) #[.pointer (some ⟨w2.heap.size, 14, none⟩)] 242; rw [World.size_alloc] at this; exact this) (by intro o ho; rw [List.mem_singleton.1 ho]; decide) (by have := HLT.out; omega) (by have := HLT.out; omega) (by have := HLT.out; omega) (by have := HLT.out; omega) (by omega) HLT.out.2.2.2 (by decide)
    have HI := Lib.hid hint
    clear hint
    go_wp2_with fail
    clear c1
    refine HI.out.mono ?_
    rintro ev w4 ⟨rfl, hi4, hb4, hm4⟩
    have hs4 := (HS3.out.below (below_alloc _ (.cells #[.pointer (some ⟨w2.heap.size, 14, none⟩)] 242))).ints hi4 hm4 (by have := HLT.out; omega) (by have := HLT.out; omega)
    change DecSt w w4 w1.heap.size r w.heap.size v s1.int.2 at hs4
    change Box w4 w2.heap.size (EvtM.cells ⟨2, noSes, 0, s1.int.1⟩) 47 at hb4
    obtain ⟨e9, he9⟩ : ∃ e : EvtM, e = ⟨2, noSes, 0, s1.int.1⟩ := ⟨_, rfl⟩
    have HU := Lib.hid (show e9.s.user.length ≤ 9223372036854775807 ∧ e9.s.label.length ≤ 9223372036854775807 by rw [he9]; exact ⟨by show (0 : Nat) ≤ _; omega, by show (0 : Nat) ≤ _; omega⟩)
    rw [← he9] at hb4 hD
    clear he9
    generalize s1.int.2 = s9 at hs4 hD
    have HS9 := Lib.hid hs4
    have HE9 := Lib.hid hb4
    clear hi4 hb4 hm4 hs4 HS3 HE3 HI
    have c1 : w4.cell? ⟨w1.heap.size, 1, none⟩ = some (errV s9.er) := HS9.out.it.box.cell 1 _ rfl
    unfold endM at hD
    by_cases he : s9.er = 0
    rotate_left
    · rw [errV_no he] at c1
      rw [if_neg he] at hD
      have HX := Lib.hid (⟨c1, HS9.out.bz, HS9.out.bel, HS9.out.n1, HS9.out.g3⟩ : ExS w w1.heap.size w.heap.size (.iface 91 (.int .i64 s9.er)) w4)
      have HD := Lib.hid hD
      have hke : ∀ w', ExS w w1.heap.size w.heap.size (.iface 91 (.int .i64 s9.er)) w' → w'.cell? ⟨w1.heap.size, 1, none⟩ = some (.iface 91 (.int .i64 s9.er)) := fun w' h => h.ce
      clear hD HS9
      go_wp2_with fail
      clear c1
      refine wp_region_held_drew (S := ExS w w1.heap.size w.heap.size (.iface 91 (.int .i64 s9.er))) (by kernel_rfl) HX.out.drew (fun hHeld => ?_)
      refine wpAnyH_take (i := 0) (oi := ⟨some 104, _, _, _, _, _⟩) (v := ?_) rfl (by kernel_rfl) (by kernel_rfl) (by kernel_rfl) (fun _ _ _ h => h) (Or.inl ⟨by kernel_rfl, ?_⟩) (by assumption) ?_
      rotate_left 1
      · intro w' hw'; go_simp; try with_reducible rfl
      simp only [Act.put, List.setIfInBounds_toArray, List.set_cons_zero, List.set_cons_succ]
      refine wpAnyH_take (i := 1) (oi := ⟨some 105, _, _, _, _, _⟩) (v := ?_) rfl (by kernel_rfl) (by kernel_rfl) (by kernel_rfl) (fun _ _ _ h => h) (Or.inl ⟨by kernel_rfl, ?_⟩) (by assumption) ?_
      rotate_left 1
      · intro w' hw'; go_simp; try with_reducible rfl
      simp only [Act.put, List.setIfInBounds_toArray, List.set_cons_zero, List.set_cons_succ]
      refine wpAnyH_take (i := 2) (oi := ⟨some 106, _, _, _, _, _⟩) (v := ?_) rfl (by kernel_rfl) (by kernel_rfl) (by kernel_rfl) (fun _ _ _ h => h) (Or.inl ⟨by kernel_rfl, ?_⟩) (by assumption) ?_
      rotate_left 1
      · intro w' hw'; go_simp; try with_reducible rfl
      simp only [Act.put, List.setIfInBounds_toArray, List.set_cons_zero, List.set_cons_succ]
      refine wpAnyH_take (i := 3) (oi := ⟨some 107, _, _, _, _, _⟩) (v := ?_) rfl (by kernel_rfl) (by kernel_rfl) (by kernel_rfl) (fun _ _ _ h => h) (Or.inl ⟨by kernel_rfl, ?_⟩) (by assumption) ?_
      rotate_left 1
      · intro w' hw'; go_simp; try with_reducible rfl
      simp only [Act.put, List.setIfInBounds_toArray, List.set_cons_zero, List.set_cons_succ]
      refine wpAnyH_take (i := 4) (oi := ⟨some 108, _, _, _, _, _⟩) (v := ?_) rfl (by kernel_rfl) (by kernel_rfl) (by kernel_rfl) (fun _ _ _ h => h) (Or.inl ⟨by kernel_rfl, ?_⟩) (by assumption) ?_
      rotate_left 1
      · intro w' hw'; go_simp; try with_reducible rfl
      simp only [Act.put, List.setIfInBounds_toArray, List.set_cons_zero, List.set_cons_succ]
      refine wpAnyH_ready (rs := [5]) (by kernel_rfl) (by simp) (AllReadyH.cons (o := ⟨none, .store 47 (.tmp 2) (.tmp 104), _, _, _, none⟩) rfl (fun K hK => ?_) AllReadyH.nil)
      rw [if_pos (by kernel_rfl)]
      refine wp_store_k 47 (.tmp 2) (.tmp 104) rfl w.heap.size 0 noEvt.cells.toList rfl rfl hHeld.bz.thereE (by kernel_rfl) noEvt.one ?_
      refine hK.out _ _ hHeld.store (fun hHeld2 => ?_)
      clear hK K
      try simp only [Act.put]
      refine wpAnyH_take (i := 6) (oi := ⟨some 3, _, _, _, _, _⟩) (v := ?_) rfl (by kernel_rfl) (by kernel_rfl) (by kernel_rfl) (fun _ _ _ h => h) (Or.inl ⟨by kernel_rfl, ?_⟩) (by assumption) ?_
      rotate_left 1
      · intro w' hw'; go_simp; try with_reducible rfl
      simp only [Act.put, List.setIfInBounds_toArray, List.set_cons_zero, List.set_cons_succ]
      refine wpAnyH_done (by kernel_rfl) ?_ _
      have HZ := Lib.hid hHeld2
      clear hHeld hHeld2 hke HX
      generalize World.setCells _ _ _ _ = wz at HZ ⊢
      go_wp2_with fail
      exact ret_cell_tmp rfl rfl (w.heap.size) 0 rfl noEvt.cells.toList _ HZ.out.bz.rangeE Tryz.underlying47 rfl (by kernel_rfl) _ rfl ⟨by rw [HD.out, errV_no he]; rfl, HZ.out.bel⟩
    rw [show errV s9.er = .nilIface by unfold errV; rw [if_pos he]] at c1
    rw [if_pos he] at hD
    have c0 := HS9.out.it.box.cell 0 _ rfl
    clear he
    go_wp2_with fail
    refine (end_calls r s9.k v s9.l _ HS9.out.it.rd).mono ?_
    rintro ev w7 ⟨rfl, hb7⟩
    have HS7 := Lib.hid (HS9.out.below hb7)
    have HE7 := Lib.hid (HE9.out.below hb7)
    clear c0 c1 hb7 HS9 HE9
    by_cases hk : s9.k < s9.l.length
    · rw [if_pos hk, errV_no (by decide : (3 : Int) ≠ 0)]
      rw [if_pos hk] at hD
      have HD := Lib.hid hD
      clear hD hk HE7
      go_wp2_with ((with_reducible refine wpList_store_k ?q760_0 47 (.tmp 2) (.tmp 116) ?q760_1 (w.heap.size) 0 noEvt.cells.toList ?q760_2 noEvt.cells ?q760_3 noEvt_list ?q760_5 ?q760_6 ?q760_7 ?q760_8); (case q760_1 => rfl); (case q760_0 => rfl); (case q760_2 => rfl); (case q760_3 => rfl); (case q760_5 => exact HS7.out.bz.thereE); (case q760_6 => kernel_rfl); (case q760_7 => exact noEvt.one))
      intro wz hwz
      have hzz := HS7.out.out noEvt
      rw [← hwz.out] at hzz
      have HZ := Lib.hid hzz
      clear hwz hzz
      go_wp2_with fail
      exact ret_cell_tmp rfl rfl (w.heap.size) 0 rfl noEvt.cells.toList _ HZ.out.1.rangeE Tryz.underlying47 rfl (by kernel_rfl) _ rfl ⟨by rw [HD.out]; rfl, HZ.out.2⟩
    rw [if_neg hk, show errV 0 = .nilIface from rfl]
    rw [if_neg hk] at hD
    clear hk
    have c2 : w7.cell? ⟨w1.heap.size, 2, none⟩ = some (.bool s9.big) := HS7.out.it.box.cell 2 _ rfl
    cases hbg : s9.big
    rotate_left
    · rw [hbg] at c2 hD
      rw [if_pos rfl] at hD
      have HD := Lib.hid hD
      clear hD hbg HE7
      go_wp2_with ((with_reducible refine wpList_store_k ?q778_0 47 (.tmp 2) (.tmp 127) ?q778_1 (w.heap.size) 0 noEvt.cells.toList ?q778_2 noEvt.cells ?q778_3 noEvt_list ?q778_5 ?q778_6 ?q778_7 ?q778_8); (case q778_1 => rfl); (case q778_0 => rfl); (case q778_2 => rfl); (case q778_3 => rfl); (case q778_5 => exact HS7.out.bz.thereE); (case q778_6 => kernel_rfl); (case q778_7 => exact noEvt.one))
      intro wz hwz
      have hzz := HS7.out.out noEvt
      rw [← hwz.out] at hzz
      have HZ := Lib.hid hzz
      clear hwz hzz
      go_wp2_with fail
      exact ret_cell_tmp rfl rfl (w.heap.size) 0 rfl noEvt.cells.toList _ HZ.out.1.rangeE Tryz.underlying47 rfl (by kernel_rfl) _ rfl ⟨by rw [HD.out]; rfl, HZ.out.2⟩
    rw [hbg] at c2 hD
    rw [if_neg (by decide)] at hD
    go_wp2_with ((with_reducible refine wpList_load_g ?q788_0 47 (.tmp 6) ?q788_1 (w2.heap.size) 0 ?q788_2 e9.cells.toList _ HE7.out.rangeE Tryz.underlying47 ?q788_3 ?q788_4 ?q788_8); (case q788_1 => rfl); (case q788_0 => rfl); (case q788_2 => rfl); (case q788_3 => rfl); (case q788_4 => kernel_rfl))
    intro cv hcv
    have ecv : cv = e9.cells := by rw [hcv.out]
    have Hofc := Lib.hid (of_calls e9 w7 HU.out.1 HU.out.2)
    rw [← ecv] at Hofc
    clear hcv hbg ecv
    go_wp2_with fail
    refine Hofc.out.mono ?_
    rintro ev w8 ⟨rfl, hb8⟩
    have HS8 := Lib.hid (HS7.out.below hb8)
    have HE8 := Lib.hid (HE7.out.below hb8)
    clear hb8 HS7 HE7 c2 Hofc
    cases hmay : mayE e9
    · rw [ofV_no hmay]
      rw [hmay, if_neg (by decide)] at hD
      have HD := Lib.hid hD
      clear hD hmay HE8
      go_wp2_with ((with_reducible refine wpList_store_k ?q805_0 47 (.tmp 2) (.tmp 127) ?q805_1 (w.heap.size) 0 noEvt.cells.toList ?q805_2 noEvt.cells ?q805_3 noEvt_list ?q805_5 ?q805_6 ?q805_7 ?q805_8); (case q805_1 => rfl); (case q805_0 => rfl); (case q805_2 => rfl); (case q805_3 => rfl); (case q805_5 => exact HS8.out.bz.thereE); (case q805_6 => kernel_rfl); (case q805_7 => exact noEvt.one))
      intro wz hwz
      have hzz := HS8.out.out noEvt
      rw [← hwz.out] at hzz
      have HZ := Lib.hid hzz
      clear hwz hzz
      go_wp2_with fail
      exact ret_cell_tmp rfl rfl (w.heap.size) 0 rfl noEvt.cells.toList _ HZ.out.1.rangeE Tryz.underlying47 rfl (by kernel_rfl) _ rfl ⟨by rw [HD.out]; rfl, HZ.out.2⟩
    obtain ⟨ot, ou, hof⟩ := ofV_iface hmay
    rw [hof]
    rw [hmay, if_pos rfl] at hD
    have HD := Lib.hid hD
    clear hD hmay hof
    go_wp2_with ((with_reducible refine wpList_load_k ?q818_0 47 (.tmp 6) ?q818_1 (w2.heap.size) 0 ?q818_2 e9.cells.toList _ HE8.out.rangeE Tryz.underlying47 ?q818_3 ?q818_4 ?q818_8); (case q818_1 => rfl); (case q818_0 => rfl); (case q818_2 => rfl); (case q818_3 => rfl); (case q818_4 => kernel_rfl))
    intro cv hcv
    go_wp2_with ((with_reducible refine wpList_store_k ?q820_0 47 (.tmp 2) (.tmp 129) ?q820_1 (w.heap.size) 0 e9.cells.toList ?q820_2 cv ?q820_3 hcv (HS8.out.bz.thereF e9) ?q820_4 e9.one ?q820_8); (case q820_1 => rfl); (case q820_0 => rfl); (case q820_2 => rfl); (case q820_3 => rfl); (case q820_4 => kernel_rfl))
    intro wz hwz
    have hzz := HS8.out.out e9
    rw [← hwz.out] at hzz
    have HZ := Lib.hid hzz
    clear hwz hzz hcv
    go_wp2_with fail
    exact ret_cell_tmp rfl rfl (w.heap.size) 0 rfl e9.cells.toList _ HZ.out.1.rangeE Tryz.underlying47 rfl (by kernel_rfl) _ rfl ⟨by rw [HD.out]; rfl, HZ.out.2⟩
end Go.Proofs.YtgcnolapjppbpaaGreatDoor
