/-
  Texts of one proof, one behind the other.
-/
import Derived.Test.YtgcnolapjppbpaaGreatDoorQ14
import Derived.Test.YtgcnolapjppbpaaGreatDoorQ03
namespace Go.Proofs.YtgcnolapjppbpaaGreatDoor
open Go.RowKit
set_option maxRecDepth 100000
def TakeW (w : World) (r k : Nat) : World := ((w.alloc (.cells #[.pointer (some ⟨r, 0, none⟩)] 235)).alloc (.cells #[.nilIface] 49)).alloc (.cells #[.int .i64 (k : Int)] 3)
theorem idle_calls (p q s : Addr) (w : World) :
    CallsD Tryz.prog 189 #[.pointer (some p), .pointer (some q), .pointer (some s)] .returning w fun e u' w' => e = .returned (.tuple #[]) ∧ u' = .returning ∧ w' = w := by
  refine callsD_of_wpS Tryz.func189 rfl fun c₀ cs hu => ?_
  apply wpS_seq
  apply wpS_region
  simp [wpOpsS, go_sem, recoverD, hu, Tryz.ntmps189, Exit.thenS]
  apply wpS_seq
  apply wpS_region
  simp [wpOpsS, go_sem, Exit.thenS]
  refine wpS_cond (t := false) (by simp [Act.eval, Array.replicate]) ?_
  simp only [Bool.false_eq_true, if_false]
  refine wpS_of_wp (wp_skip ?_)
  cases c₀
  simp_all [bodyPostS, results, Tryz.results189]
theorem ta_err (v : Value) (w : World) : (Instr.typeAssert (.iface 91 v) 20 91 true).run Tryz.prog w = .ok (.tuple #[v, .bool true]) w := by kernel_rfl
theorem catch_calls (p q s : Addr) (n k : Int) (r : Nat) (x y : Value) (older : List PanicEntry) (w : World) (hp : w.cell? p = some (.int .i64 k)) (hq : w.cell? q = some (.pointer (some ⟨r, 0, none⟩)))
    (c1 : w.cell? ⟨r, 1, none⟩ = some x) (f1 : w.frozen? ⟨r, 1, none⟩ = false) (hs : (w.setCell ⟨r, 1, none⟩ (.int .i64 k)).cell? s = some y) (fs : (w.setCell ⟨r, 1, none⟩ (.int .i64 k)).frozen? s = false) :
    CallsD Tryz.prog 189 #[.pointer (some p), .pointer (some q), .pointer (some s)] (.panicking ({ v := .iface 91 (.int .i64 n), recovered := false } :: older)) w fun e u' w' =>
      e = .returned (.tuple #[]) ∧ u' = .panicking ({ v := .iface 91 (.int .i64 n), recovered := true } :: older) ∧ w' = (w.setCell ⟨r, 1, none⟩ (.int .i64 k)).setCell s (.iface 91 (.int .i64 n)) := by
  have ht := fun w => ta_err (.int .i64 n) w
  refine callsD_of_wpS Tryz.func189 rfl fun c₀ cs hu => ?_
  apply wpS_seq
  apply wpS_region
  simp [wpOpsS, go_sem, recoverD, hu, Tryz.ntmps189, Exit.thenS]
  apply wpS_seq
  apply wpS_region
  simp [wpOpsS, go_sem, Exit.thenS]
  refine wpS_cond (t := true) (by simp [Act.eval, Array.replicate]) ?_
  simp only [if_true]
  refine wpS_of_wp ?_
  simp only [Array.replicate, List.replicate]
  go_wp2_with fail
  simp [bodyPostS, results, Tryz.results189]
set_option maxHeartbeats 1600000 in
theorem take_number (r k : Nat) (v : Value) (l : List UInt8) (p q : Addr) (w : World) (h : IsR w r v l k) (A : World → Prop) (B : Int → World → Prop) (F : Nat → Prop) (hF : ∀ i, F i → i < w.heap.size)
    (hc : Calls Tryz.prog 181 #[.pointer (some p), .pointer (some q)] (TakeW w r k) fun e w' => Mod F (TakeW w r k) w' ∧ ((e = .returned (.tuple #[]) ∧ A w') ∨ ∃ n, e = pan n ∧ B n w' ∧ ∃ j, IsR w' r v l j)) :
    Calls Tryz.prog 178 #[.pointer (some ⟨r, 0, none⟩), .func (.func 181) #[] #[.pointer (some p), .pointer (some q)]] w fun e w' =>
      (e = .returned .nilIface ∧ ∃ w1, A w1 ∧ Mod F (TakeW w r k) w1 ∧ w' = w1.setCell ⟨w.heap.size + 1, 0, none⟩ .nilIface) ∨
      ∃ n, e = .returned (.iface 91 (.int .i64 n)) ∧ ∃ w1, B n w1 ∧ Mod F (TakeW w r k) w1 ∧ (∃ j, IsR w1 r v l j) ∧ w' = (w1.setCell ⟨r, 1, none⟩ (.int .i64 (k : Int))).setCell ⟨w.heap.size + 1, 0, none⟩ (.iface 91 (.int .i64 n)) := by
  have hmf : ∀ (fn : Fn) (first cap : Array Value) (w : World), (Instr.makeFunc fn first cap).run Tryz.prog w = .ok (.func fn first cap) w := fun _ _ _ _ => rfl
  have hbx0 : Box (TakeW w r k) w.heap.size #[.pointer (some ⟨r, 0, none⟩)] 235 := ((Box.new w #[.pointer (some ⟨r, 0, none⟩)] _).below (below_alloc _ _)).below (below_alloc _ _)
  have hbx1 : Box (TakeW w r k) (w.heap.size + 1) #[.nilIface] 49 := by
    have := (Box.new (w.alloc (.cells #[.pointer (some ⟨r, 0, none⟩)] 235)) #[.nilIface] 49).below (below_alloc _ (.cells #[.int .i64 (k : Int)] 3))
    rw [World.size_alloc] at this; exact this
  have hbx2 : Box (TakeW w r k) (w.heap.size + 2) #[.int .i64 (k : Int)] 3 := by
    have := Box.new ((w.alloc (.cells #[.pointer (some ⟨r, 0, none⟩)] 235)).alloc (.cells #[.nilIface] 49)) #[.int .i64 (k : Int)] 3
    rw [World.size_alloc, World.size_alloc] at this; exact this
  have hal : ∀ o o2, ((w.alloc o).alloc o2).cell? ⟨r, 1, none⟩ = some (.int .i64 (k : Int)) := fun o o2 => ((h.box.below (below_alloc _ _)).below (below_alloc _ _)).cell 1 _ rfl
  have HC := Lib.hid hc
  have HX0 := Lib.hid hbx0
  have HX1 := Lib.hid hbx1
  have HX2 := Lib.hid hbx2
  have HLE := Lib.hid h.le
  have hrl := h.box.lt
  clear hc h hbx0 hbx1 hbx2
  go_enter_defers Tryz.func178, Tryz.ntmps178
  go_wp2_with fail
  refine HC.out.mono ?_
  rintro e w1 ⟨hm, hcase⟩
  have HM := Lib.hid hm
  have hx0 := HX0.out.mod hm (fun hf => by have := hF _ hf; omega)
  have hx1 := HX1.out.mod hm (fun hf => by have := hF _ hf; omega)
  have hx2 := HX2.out.mod hm (fun hf => by have := hF _ hf; omega)
  rcases hcase with ⟨rfl, hA⟩ | ⟨n, rfl, hB, j, hj⟩
  · have HA := Lib.hid hA
    have d0 := hx1.cell 0 _ rfl
    have d1 := hx1.free 0
    have d2 := (hx1.set 0 .nilIface).cell 0 _ rfl
    clear hA hm hx0 hx1 hx2 hal
    go_wp2_with fail
    refine leaves_cons (f := 189) (args := #[.pointer (some ⟨w.heap.size + 1 + 1, 0, none⟩), .pointer (some ⟨w.heap.size, 0, none⟩), .pointer (some ⟨w.heap.size + 1, 0, none⟩)]) (by simp) (by simp [go_sem]) ?_
    refine (idle_calls _ _ _ _).mono ?_
    rintro e u' w'' ⟨rfl, rfl, rfl⟩
    refine ⟨_, ?_, .inl ⟨rfl, w1, HA.out, HM.out, rfl⟩⟩
    simp [results, Tryz.results178, go_sem, d2]
  · have HB := Lib.hid hB
    have c0 := hx2.cell 0 _ rfl
    have c1 := hx0.cell 0 _ rfl
    have c2 := hj.box.cell 1 _ rfl
    have c3 := hj.box.free 1
    have hx3 : Box (w1.setCell ⟨r, 1, none⟩ (.int .i64 (k : Int))) (w.heap.size + 1) #[.nilIface] 49 := hx1.set_other (by show r ≠ w.heap.size + 1; omega) _
    have c4 := hx3.cell 0 _ rfl
    have c5 := hx3.free 0
    have d2 := (hx3.set 0 (.iface 91 (.int .i64 n))).cell 0 _ rfl
    have HJ := Lib.hid (show ∃ j, IsR w1 r v l j from ⟨j, hj⟩)
    clear hB hm hx0 hx1 hx2 hal hj
    unfold pan
    go_wp2_with fail
    refine leaves_cons (f := 189) (args := #[.pointer (some ⟨w.heap.size + 1 + 1, 0, none⟩), .pointer (some ⟨w.heap.size, 0, none⟩), .pointer (some ⟨w.heap.size + 1, 0, none⟩)]) (by simp) (by simp [go_sem]) ?_
    refine (catch_calls _ _ _ n (k : Int) r _ _ [] _ c0 c1 c2 c3 c4 c5).mono ?_
    rintro e u' w'' ⟨rfl, rfl, rfl⟩
    refine ⟨_, ?_, .inr ⟨n, rfl, w1, HB.out, HM.out, HJ.out, rfl⟩⟩
    simp [results, Tryz.results178, go_sem, d2]
set_option maxHeartbeats 1600000 in
theorem take_text (r k : Nat) (v : Value) (l : List UInt8) (p q s : Addr) (w : World) (h : IsR w r v l k) (A : World → Prop) (B : Int → World → Prop) (F : Nat → Prop) (hF : ∀ i, F i → i < w.heap.size)
    (hc : Calls Tryz.prog 179 #[.pointer (some p), .pointer (some q), .pointer (some s)] (TakeW w r k) fun e w' => Mod F (TakeW w r k) w' ∧ ((e = .returned (.tuple #[]) ∧ A w') ∨ ∃ n, e = pan n ∧ B n w' ∧ ∃ j, IsR w' r v l j)) :
    Calls Tryz.prog 178 #[.pointer (some ⟨r, 0, none⟩), .func (.func 179) #[] #[.pointer (some p), .pointer (some q), .pointer (some s)]] w fun e w' =>
      (e = .returned .nilIface ∧ ∃ w1, A w1 ∧ Mod F (TakeW w r k) w1 ∧ w' = w1.setCell ⟨w.heap.size + 1, 0, none⟩ .nilIface) ∨
      ∃ n, e = .returned (.iface 91 (.int .i64 n)) ∧ ∃ w1, B n w1 ∧ Mod F (TakeW w r k) w1 ∧ (∃ j, IsR w1 r v l j) ∧ w' = (w1.setCell ⟨r, 1, none⟩ (.int .i64 (k : Int))).setCell ⟨w.heap.size + 1, 0, none⟩ (.iface 91 (.int .i64 n)) := by
  have hmf : ∀ (fn : Fn) (first cap : Array Value) (w : World), (Instr.makeFunc fn first cap).run Tryz.prog w = .ok (.func fn first cap) w := fun _ _ _ _ => rfl
  have hbx0 : Box (TakeW w r k) w.heap.size #[.pointer (some ⟨r, 0, none⟩)] 235 := ((Box.new w #[.pointer (some ⟨r, 0, none⟩)] _).below (below_alloc _ _)).below (below_alloc _ _)
  have hbx1 : Box (TakeW w r k) (w.heap.size + 1) #[.nilIface] 49 := by
    have := (Box.new (w.alloc (.cells #[.pointer (some ⟨r, 0, none⟩)] 235)) #[.nilIface] 49).below (below_alloc _ (.cells #[.int .i64 (k : Int)] 3))
    rw [World.size_alloc] at this; exact this
  have hbx2 : Box (TakeW w r k) (w.heap.size + 2) #[.int .i64 (k : Int)] 3 := by
    have := Box.new ((w.alloc (.cells #[.pointer (some ⟨r, 0, none⟩)] 235)).alloc (.cells #[.nilIface] 49)) #[.int .i64 (k : Int)] 3
    rw [World.size_alloc, World.size_alloc] at this; exact this
  have hal : ∀ o o2, ((w.alloc o).alloc o2).cell? ⟨r, 1, none⟩ = some (.int .i64 (k : Int)) := fun o o2 => ((h.box.below (below_alloc _ _)).below (below_alloc _ _)).cell 1 _ rfl
  have HC := Lib.hid hc
  have HX0 := Lib.hid hbx0
  have HX1 := Lib.hid hbx1
  have HX2 := Lib.hid hbx2
  have HLE := Lib.hid h.le
  have hrl := h.box.lt
  clear hc h hbx0 hbx1 hbx2
  go_enter_defers Tryz.func178, Tryz.ntmps178
  go_wp2_with fail
  refine HC.out.mono ?_
  rintro e w1 ⟨hm, hcase⟩
  have HM := Lib.hid hm
  have hx0 := HX0.out.mod hm (fun hf => by have := hF _ hf; omega)
  have hx1 := HX1.out.mod hm (fun hf => by have := hF _ hf; omega)
  have hx2 := HX2.out.mod hm (fun hf => by have := hF _ hf; omega)
  rcases hcase with ⟨rfl, hA⟩ | ⟨n, rfl, hB, j, hj⟩
  · have HA := Lib.hid hA
    have d0 := hx1.cell 0 _ rfl
    have d1 := hx1.free 0
    have d2 := (hx1.set 0 .nilIface).cell 0 _ rfl
    clear hA hm hx0 hx1 hx2 hal
    go_wp2_with fail
    refine leaves_cons (f := 189) (args := #[.pointer (some ⟨w.heap.size + 1 + 1, 0, none⟩), .pointer (some ⟨w.heap.size, 0, none⟩), .pointer (some ⟨w.heap.size + 1, 0, none⟩)]) (by simp) (by simp [go_sem]) ?_
    refine (idle_calls _ _ _ _).mono ?_
    rintro e u' w'' ⟨rfl, rfl, rfl⟩
    refine ⟨_, ?_, .inl ⟨rfl, w1, HA.out, HM.out, rfl⟩⟩
    simp [results, Tryz.results178, go_sem, d2]
  · have HB := Lib.hid hB
    have c0 := hx2.cell 0 _ rfl
    have c1 := hx0.cell 0 _ rfl
    have c2 := hj.box.cell 1 _ rfl
    have c3 := hj.box.free 1
    have hx3 : Box (w1.setCell ⟨r, 1, none⟩ (.int .i64 (k : Int))) (w.heap.size + 1) #[.nilIface] 49 := hx1.set_other (by show r ≠ w.heap.size + 1; omega) _
    have c4 := hx3.cell 0 _ rfl
    have c5 := hx3.free 0
    have d2 := (hx3.set 0 (.iface 91 (.int .i64 n))).cell 0 _ rfl
    have HJ := Lib.hid (show ∃ j, IsR w1 r v l j from ⟨j, hj⟩)
    clear hB hm hx0 hx1 hx2 hal hj
    unfold pan
    go_wp2_with fail
    refine leaves_cons (f := 189) (args := #[.pointer (some ⟨w.heap.size + 1 + 1, 0, none⟩), .pointer (some ⟨w.heap.size, 0, none⟩), .pointer (some ⟨w.heap.size + 1, 0, none⟩)]) (by simp) (by simp [go_sem]) ?_
    refine (catch_calls _ _ _ n (k : Int) r _ _ [] _ c0 c1 c2 c3 c4 c5).mono ?_
    rintro e u' w'' ⟨rfl, rfl, rfl⟩
    refine ⟨_, ?_, .inr ⟨n, rfl, w1, HB.out, HM.out, HJ.out, rfl⟩⟩
    simp [results, Tryz.results178, go_sem, d2]
end Go.Proofs.YtgcnolapjppbpaaGreatDoor
