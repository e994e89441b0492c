/-
  Package pack's Reader: Number, Left, End, Open.
-/
import Derived.Test.YtdaimaibnjkfbaaDoorTake
import Derived.Test.YtdaimaibnjkfbaaDoorWr
namespace Go.Proofs.YtdaimaibnjkfbaaDoor
open Go.RowKit
set_option maxRecDepth 100000

theorem cell_other {w : World} {a b : Addr} (x : Value) (h : a.block ≠ b.block) : (w.setCell b x).cell? a = w.cell? a :=
  World.cell?_of_block (w := w) (Below.heap_setCell w b x a.block h)
/-- What a reader's call turns: its own block, and what is new. -/
theorem rmod {w w2 w3 w1 w4 : World} {r s : Nat} (h2 : Below w.heap.size w w2) (h3 : Below w2.heap.size w2 w3) (hm : Mod (fun i => i = r ∨ i = s) w3 w1) (hs : w.heap.size ≤ s) (hl : Mod (fun i => i = r ∨ w.heap.size ≤ i) w1 w4) : Mod (fun i => i = r) w w4 :=
  (Mod.of_below (F := fun i => i = r) (h2.trans (h3.mono h2.size))).then ((hm.mono (G := fun i => i = r ∨ w.heap.size ≤ i) (fun i hi => hi.imp id (fun e => by omega))).trans hl) (fun _ hi => hi)
set_option maxHeartbeats 800000 in
theorem number1_calls (r k b1 b4 : Nat) (v x : Value) (l : List UInt8) (t : TypeId) (w : World) (h : IsR w r v l k) (h1 : w.cell? ⟨b1, 0, none⟩ = some (.pointer (some ⟨r, 0, none⟩))) (h4 : Box w b4 #[x] t) (hne : b4 ≠ r) (hv : v.ownBlock ≠ some b4) :
    Calls Tryd.prog 78 #[.pointer (some ⟨b1, 0, none⟩), .pointer (some ⟨b4, 0, none⟩)] w fun e w' => Mod (fun i => i = r ∨ i = b4) w w' ∧
      ((e = .returned (.tuple #[]) ∧ ((numR (l.drop k)).1 = 0 ∧ w'.cell? ⟨b4, 0, none⟩ = some (.int .u64 ((numR (l.drop k)).2.1 : Int)) ∧ IsR w' r v l (k + (numR (l.drop k)).2.2))) ∨ ∃ n, e = pan n ∧ (n = (numR (l.drop k)).1 ∧ (numR (l.drop k)).1 ≠ 0) ∧ ∃ j, IsR w' r v l j) := by
  have Hc := Lib.hid (sevens_calls r k v l w h)
  generalize numR (l.drop k) = N at Hc ⊢
  have HX := Lib.hid h4
  clear h h4
  go_enter Tryd.func78, Tryd.ntmps78
  go_wp2_with fail
  refine Hc.out.mono ?_
  rintro e w1 ⟨hm, ⟨hn, rfl, hi⟩ | ⟨hn, rfl, hj⟩⟩
  · have hx1 := HX.out.mod hm hne
    have c0 := hx1.cell 0 _ rfl
    have f0 := hx1.free 0
    have hms := Mod.set (fun i => i = b4) w1 ⟨b4, 0, none⟩ (.int .u64 (N.2.1 : Int)) rfl
    have HI := Lib.hid (hi.mod hms (fun e => hne e.symm) (fun b hb e => hv (by rw [hb, e])))
    have HC := Lib.hid ((hx1.set 0 (.int .u64 (N.2.1 : Int))).cell 0 _ rfl)
    have HM := Lib.hid ((hm.mono (fun i hi => Or.inl hi : ∀ i, i = r → i = r ∨ i = b4)).trans (hms.mono (fun i hi => Or.inr hi : ∀ i, i = b4 → i = r ∨ i = b4)))
    have HN := Lib.hid hn
    clear hm hx1 hms hi hn
    go_wp2_with fail
    refine bodyPost_end (results_none rfl _ _ _) rfl ?_
    exact ⟨HM.out, .inl ⟨rfl, HN.out, HC.out, HI.out⟩⟩
  · have HM := Lib.hid (hm.mono (fun i hi => Or.inl hi : ∀ i, i = r → i = r ∨ i = b4))
    have HN := Lib.hid hn
    have HJ := Lib.hid hj
    clear hm hn hj
    unfold pan
    go_wp2_with fail
    exact ⟨rfl, HM.out, .inr ⟨_, rfl, ⟨rfl, HN.out⟩, HJ.out⟩⟩
set_option maxHeartbeats 1600000 in
theorem rNumber_calls (r k : Nat) (v : Value) (l : List UInt8) (w : World) (h : IsR w r v l k) (hvl : ∀ b, v.ownBlock = some b → b < w.heap.size) :
    Calls Tryd.prog 65 #[.pointer (some ⟨r, 0, none⟩)] w fun e w' => Mod (fun i => i = r) w w' ∧
      (((numR (l.drop k)).1 = 0 ∧ e = .returned (.tuple #[.int .u64 ((numR (l.drop k)).2.1 : Int), .nilIface]) ∧ IsR w' r v l (k + (numR (l.drop k)).2.2)) ∨ ((numR (l.drop k)).1 ≠ 0 ∧ e = .returned (.tuple #[.int .u64 0, .iface 68 (.int .i64 (numR (l.drop k)).1)]) ∧ IsR w' r v l k)) := by
  have hmf : ∀ (fn : Fn) (first cap : Array Value) (w : World), (Instr.makeFunc fn first cap).run Tryd.prog w = .ok (.func fn first cap) w := fun _ _ _ _ => rfl
  have hrl := h.box.lt
  obtain ⟨w2, hw2⟩ : ∃ w2, w2 = (w.alloc (.cells #[.pointer (some ⟨r, 0, none⟩)] 83)).alloc (.cells #[.int .u64 0] 53) := ⟨_, rfl⟩
  have hsz : w2.heap.size = w.heap.size + 2 := by rw [hw2, World.size_alloc, World.size_alloc]
  have hb2 : Below w.heap.size w w2 := by rw [hw2]; exact (below_alloc w _).trans ((below_alloc _ _).mono (by simp))
  have hb3 : Below w2.heap.size w2 (TakeW w2 r k) := by unfold TakeW; exact ((below_alloc w2 _).trans ((below_alloc _ _).mono (by simp))).trans ((below_alloc _ _).mono (by simp; omega))
  have hx1 : Box w2 w.heap.size #[.pointer (some ⟨r, 0, none⟩)] 83 := by rw [hw2]; exact (Box.new w _ _).below (below_alloc _ _)
  have hx4 : Box w2 (w.heap.size + 1) #[.int .u64 0] 53 := by
    rw [hw2]; have := Box.new (w.alloc (.cells #[.pointer (some ⟨r, 0, none⟩)] 83)) #[.int .u64 0] 53
    rw [World.size_alloc] at this; exact this
  have hi3 := (h.below hb2).below hb3
  have hc := take_number r k v l ⟨w.heap.size, 0, none⟩ ⟨w.heap.size + 1, 0, none⟩ w2 (h.below hb2) _ _ (fun i => i = r ∨ i = w.heap.size + 1) (fun i hi => by omega)
    (number1_calls r k w.heap.size (w.heap.size + 1) v _ l 53 (TakeW w2 r k) hi3 ((hx1.below hb3).cell 0 _ rfl) (hx4.below hb3) (by omega) (fun e => by have := hvl _ e; omega))
  rw [hw2] at hc
  have HC := Lib.hid hc
  rw [← hw2] at HC
  clear hc
  have HB2 := Lib.hid hb2
  have HB3 := Lib.hid hb3
  have HX4 := Lib.hid hx4
  have HLE := Lib.hid h.le
  clear hb2 hb3 hx1 hx4 hi3 h
  generalize numR (l.drop k) = N at HC ⊢
  go_enter Tryd.func65, Tryd.ntmps65
  go_wp2_with fail
  rw [← hw2]
  clear hw2
  refine HC.out.mono ?_
  rintro e w9 (⟨rfl, w1, ⟨hn, hcl, hi⟩, hm, rfl⟩ | ⟨n, rfl, w1, ⟨rfl, hn⟩, hm, ⟨j, hj⟩, rfl⟩)
  · have hms := Mod.set (fun i => i = w2.heap.size + 1) w1 ⟨w2.heap.size + 1, 0, none⟩ .nilIface rfl
    have c4 := (cell_other (w := w1) (a := ⟨w.heap.size + 1, 0, none⟩) (b := ⟨w2.heap.size + 1, 0, none⟩) .nilIface (by simp; omega)).trans hcl
    have HI := Lib.hid (hi.mod hms (by omega) (fun b hb e => by have := hvl _ hb; omega))
    have HM := Lib.hid (rmod HB2.out HB3.out hm (by omega) (hms.mono (G := fun i => i = r ∨ w.heap.size ≤ i) (fun i hi => .inr (by omega))))
    have HN := Lib.hid hn
    clear hn hcl hi hm hms HC hsz
    go_wp2_with fail
    refine bodyPost_ret (results_tmp2 rfl _ _ _) rfl ?_
    exact ⟨HM.out, .inl ⟨HN.out, rfl, HI.out⟩⟩
  · obtain ⟨hs1, hs2⟩ := hj.set k HLE.out
    have hms := Mod.set (fun i => i = w2.heap.size + 1) (w1.setCell ⟨r, 1, none⟩ (.int .i64 (k : Int))) ⟨w2.heap.size + 1, 0, none⟩ (.iface 68 (.int .i64 N.1)) rfl
    have HI := Lib.hid (hs1.mod hms (by omega) (fun b hb e => by have := hvl _ hb; omega))
    have HM := Lib.hid (rmod HB2.out HB3.out hm (by omega) ((hs2.mono (G := fun i => i = r ∨ w.heap.size ≤ i) (fun i hi => .inl hi)).trans (hms.mono (G := fun i => i = r ∨ w.heap.size ≤ i) (fun i hi => .inr (by omega)))))
    have HN := Lib.hid hn
    clear hn hj hm hms hs1 hs2 HC hsz
    go_wp2_with fail
    refine bodyPost_ret (results_tmp2 rfl _ _ _) rfl ?_
    exact ⟨HM.out, .inr ⟨HN.out, rfl, HI.out⟩⟩
theorem left_calls (r k : Nat) (v : Value) (l : List UInt8) (w : World) (h : IsR w r v l k) :
    Calls Tryd.prog 66 #[.pointer (some ⟨r, 0, none⟩)] w fun e w' => e = .returned (.int .i64 ((l.length - k : Nat) : Int)) ∧ Below w.heap.size w w' ∧ IsR w' r v l k := by
  have hr := h.rd
  obtain ⟨a, cap, rfl, h1, h2, _, _⟩ := hr
  have hsm := h.sm
  have hle := h.le
  have c0 := h.box.cell 0 _ rfl
  have c1 := h.box.cell 1 _ rfl
  have HI := Lib.hid h
  have z1 : IntKind.i64.wrap ((l.length : Int) - (k : Int)) = ((l.length - k : Nat) : Int) := by simp [IntKind.wrap, IntKind.bits, IntKind.signed]; omega
  clear h
  go_enter Tryd.func66, Tryd.ntmps66
  go_wp2_with fail
  go_quiet (fail)
  have hb2 : Below w.heap.size w (w.drewN nq) := ⟨rfl, rfl, rfl, Nat.le_refl _, fun _ _ => rfl⟩
  have HI2 := Lib.hid (HI.out.below hb2)
  go_wp2_with fail
  go_ret
  exact ⟨rfl, hb2, HI2.out⟩
theorem end_calls (r k : Nat) (v : Value) (l : List UInt8) (w : World) (h : IsR w r v l k) :
    Calls Tryd.prog 47 #[.pointer (some ⟨r, 0, none⟩)] w fun e w' => e = .returned (errV (if k < l.length then 3 else 0)) ∧ Below w.heap.size w w' := by
  obtain ⟨E, hE⟩ : ∃ E, E = errV (if k < l.length then 3 else 0) := ⟨_, rfl⟩
  rw [← hE]
  have Hc := Lib.hid (left_calls r k v l w h)
  obtain ⟨d, hd⟩ : ∃ d, d = l.length - k := ⟨_, rfl⟩
  rw [← hd] at Hc
  have hle := h.le
  clear h
  go_enter Tryd.func47, Tryd.ntmps47
  go_wp2_with fail
  refine Hc.out.mono ?_
  rintro e w1 ⟨rfl, hb, _⟩
  have HB := Lib.hid hb
  clear hb Hc
  by_cases hk : k < l.length
  · have HE := Lib.hid (show E = .iface 68 (.int .i64 3) by rw [hE, if_pos hk]; rfl)
    have g1 : (0 : Int) < (d : Int) := by omega
    clear hk hd hle hE
    go_wp2_with fail
    go_ret
    rw [HE.out]; exact ⟨rfl, HB.out⟩
  · have HE := Lib.hid (show E = .nilIface by rw [hE, if_neg hk]; rfl)
    have g1 : ¬ (0 : Int) < (d : Int) := by omega
    clear hk hd hle hE
    go_wp2_with fail
    go_ret
    rw [HE.out]; exact ⟨rfl, HB.out⟩
theorem open_calls (v : Value) (l : List UInt8) (w : World) (h : Rd w v l.length (l.map V8)) (hl : l.length ≤ 1000000000000) :
    Calls Tryd.prog 43 #[v] w fun e w' => ∃ r v', e = .returned (.pointer (some ⟨r, 0, none⟩)) ∧ IsR w' r v' l 0 ∧ Below w.heap.size w w' ∧ w.heap.size ≤ r ∧ (∀ b, v'.ownBlock = some b → w.heap.size ≤ b ∧ b < w'.heap.size) := by
  have Hc := Lib.hid (clone_calls v l w h (by omega))
  obtain ⟨a, cap, rfl, _⟩ := h
  go_enter Tryd.func43, Tryd.ntmps43
  go_wp2_with fail
  refine Hc.out.mono ?_
  rintro e w1 ⟨o, rfl, ho, hb⟩
  obtain ⟨a2, c2, rfl, _⟩ := ho.slice
  have HO := Lib.hid ho
  have HB := Lib.hid hb
  clear ho hb Hc
  go_wp2_with fail
  go_ret
  have hb2 := below_alloc w1 (.cells #[.slice a2 l.length c2, .int .i64 0] 114)
  refine ⟨w1.heap.size, _, rfl, ⟨Box.new _ _ _, HO.out.rd.below hb2, by omega, fun e => by have := (HO.out.lt _ e).2; omega, hl⟩, HB.out.trans (hb2.mono HB.out.size), HB.out.size, fun b hbb => ⟨(HO.out.lt b hbb).1, by have := (HO.out.lt b hbb).2; simp; omega⟩⟩
end Go.Proofs.YtdaimaibnjkfbaaDoor
