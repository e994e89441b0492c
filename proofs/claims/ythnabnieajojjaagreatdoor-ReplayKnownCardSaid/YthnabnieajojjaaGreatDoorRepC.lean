/-
  What package replay calls: bits.Within, its own closures, slices.IndexFunc, ContainsFunc, Clone.
-/
import Derived.Test.YthnabnieajojjaaGreatDoorRepM
import Derived.Test.YthnabnieajojjaaGreatDoorSesK
namespace Go.Proofs.YthnabnieajojjaaGreatDoor
open Go.RowKit
set_option maxRecDepth 100000

theorem within_calls (a b : Nat) (w : World) :
    Calls Tryz.prog 41 #[.int .u64 (a : Int), .int .u64 (b : Int)] w fun e w' => e = .returned (.bool (scIn a b)) ∧ w = w' := by
  go_enter Tryz.func41, Tryz.ntmps41
  go_wp2_with fail
  go_ret
  exact ⟨rfl, rfl⟩
theorem SesM.cellsE (s : SesM) : s.cells = #[.int .i64 s.slot, .int .i64 s.birth, .int .i64 s.upS, .int .i64 s.upB, .int .i64 s.kind, .string (SB s.user), .string (SB s.label), .int .u64 (s.scopes : Int), .int .i64 s.level, .int .i64 s.born, .int .i64 s.deadline, .int .i64 s.depth] := rfl
set_option maxHeartbeats 800000 in
theorem apply1_calls (s : SesM) (eb : Nat) (b : Int) (w : World) (hc : w.cell? ⟨eb, 13, none⟩ = some (.int .i64 b)) :
    Calls Tryz.prog 22 #[.agg s.cells, .pointer (some ⟨eb, 0, none⟩)] w fun e w' => e = .returned (.bool (s.birth == b)) ∧ Below w.heap.size w w' := by
  have HB := Lib.hid (below_alloc w (.cells s.cells 36))
  have hx := (Box.new w s.cells 36).cell 1 (.int .i64 s.birth) rfl
  have h2 := below_heap (below_alloc w (.cells s.cells 36)) hc
  rw [s.cellsE] at HB hx h2 ⊢
  clear hc
  go_enter Tryz.func22, Tryz.ntmps22
  go_wp2_with fail
  go_ret
  exact ⟨rfl, HB.out⟩
set_option maxHeartbeats 800000 in
theorem apply2_calls (s : SesM) (eb : Nat) (b : Int) (w : World) (hc : w.cell? ⟨eb, 13, none⟩ = some (.int .i64 b)) :
    Calls Tryz.prog 24 #[.agg s.cells, .pointer (some ⟨eb, 0, none⟩)] w fun e w' => e = .returned (.bool (s.birth == b)) ∧ Below w.heap.size w w' := by
  have HB := Lib.hid (below_alloc w (.cells s.cells 36))
  have hx := (Box.new w s.cells 36).cell 1 (.int .i64 s.birth) rfl
  have h2 := below_heap (below_alloc w (.cells s.cells 36)) hc
  rw [s.cellsE] at HB hx h2 ⊢
  clear hc
  go_enter Tryz.func24, Tryz.ntmps24
  go_wp2_with fail
  go_ret
  exact ⟨rfl, HB.out⟩
set_option maxHeartbeats 800000 in
theorem apply3_calls (s : SesM) (eb : Nat) (b : Int) (w : World) (hc : w.cell? ⟨eb, 0, none⟩ = some (.int .i64 b)) :
    Calls Tryz.prog 25 #[.agg s.cells, .pointer (some ⟨eb, 0, none⟩)] w fun e w' => e = .returned (.bool (decide (s.deadline ≤ b))) ∧ Below w.heap.size w w' := by
  have HB := Lib.hid (below_alloc w (.cells s.cells 36))
  have hx := (Box.new w s.cells 36).cell 10 (.int .i64 s.deadline) rfl
  have h2 := below_heap (below_alloc w (.cells s.cells 36)) hc
  rw [s.cellsE] at HB hx h2 ⊢
  clear hc
  go_enter Tryz.func25, Tryz.ntmps25
  go_wp2_with fail
  go_ret
  exact ⟨rfl, HB.out⟩
/-- A test of sessions that is handed in: a closure over one variable. -/
structure TestF (f : FuncId) (ca : Addr) (g : SesM → Bool) (w : World) : Prop where
  run : ∀ (args : Array Value) (w' : World), (callFunc f args).run Tryz.prog w' = .ok (.enter f args) w'
  tells : ∀ (s : SesM) (w' : World), Below w.heap.size w w' → Calls Tryz.prog f #[.agg s.cells, .pointer (some ca)] w' fun e w'' => e = .returned (.bool (g s)) ∧ Below w'.heap.size w' w''
theorem any_take {g : SesM → Bool} {l : List SesM} {k : Nat} (hk : k < l.length) : (l.take (k + 1)).any g = ((l.take k).any g || g l[k]) := by
  rw [List.take_succ_eq_append_getElem hk, List.any_append]; simp
set_option maxHeartbeats 1600000 in
theorem indexF_calls (f : FuncId) (ca : Addr) (g : SesM → Bool) (v : Value) (l : List SesM) (w : World) (hv : RdS w v l) (hf : TestF f ca g w) :
    Calls Tryz.prog 42 #[v, .func (.func f) #[] #[.pointer (some ca)]] w fun e w' => ∃ r : Int, e = .returned (.int .i64 r) ∧ decide (0 ≤ r) = l.any g ∧ Below w.heap.size w w' := by
  obtain ⟨a, cap, rfl, hc1, hc2⟩ := hv.slice
  have HV := Lib.hid hv
  have HF := Lib.hid hf
  have hln : l.length ≤ 9223372036854775807 := by omega
  obtain ⟨n, hN⟩ : ∃ n, n = l.length := ⟨_, rfl⟩
  rw [← hN] at hln HV hc1 ⊢
  have HN := Lib.hid hN
  clear hv hf hc1 hN
  go_enter Tryz.func42, Tryz.ntmps42
  go_wp2_with fail
  go_loopg [8] n (fun gk iv wr => ∃ k : Nat, gk + k = n ∧ iv = .int .i64 (k : Int) ∧ Below w.heap.size w wr ∧ Hid ((l.take k).any g = false))
  case atStart => exact ⟨0, rfl, rfl, Below.refl _ _, Lib.hid rfl⟩
  case round =>
    obtain ⟨k, hgk, rfl, hb, HT⟩ := hrel
    have k0 : (0 : Int) ≤ (k : Int) := by omega
    have HGK := Lib.hid hgk
    have HB := Lib.hid hb
    clear hgk
    by_cases hk : k < n
    · have k1 : (k : Int) < (n : Int) := by omega
      have hkl : k < l.length := by have := HN.out; omega
      obtain ⟨s, hs⟩ : ∃ s, s = l[k] := ⟨_, rfl⟩
      obtain ⟨rb, ro, hra, hrow⟩ := (HV.out.below hb).row k hkl
      subst hra
      rw [← hs] at hrow
      have HROW := Lib.hid hrow
      have HAT := Lib.hid (show (l.take (k + 1)).any g = ((l.take k).any g || g s) by rw [any_take hkl, hs])
      have HAL := Lib.hid (show g s = true → l.any g = true from fun h => by rw [List.any_eq_true]; exact ⟨s, by rw [hs]; exact List.getElem_mem _, h⟩)
      have HK := Lib.hid hk
      clear hrow hs hk hb
      go_wp2_with ((with_reducible refine wpList_load_k ?b01 36 (.tmp 14) ?b11 rb (ro + k * 12) ?b21 s.cells.toList _ HROW.out Tryz.underlying36 ?b31 ?b41 ?b81); (case b11 => rfl); (case b01 => rfl); (case b21 => rfl); (case b31 => rfl); (case b41 => kernel_rfl))
      intro cv hcv
      have ecv : cv = s.cells := by rw [hcv.out]
      subst ecv
      clear hcv
      go_wp2_with fail
      rw [HF.out.run, Oper.upon_enter]
      refine (HF.out.tells s wr HB.out).mono ?_
      rintro e w1 ⟨rfl, hb1⟩
      have HB1 := Lib.hid (HB.out.trans (hb1.mono HB.out.size))
      generalize g s = r at HAT HAL ⊢
      clear hb1 HB HROW
      cases r
      · have HT2 := Lib.hid (show (l.take (k + 1)).any g = false by rw [HAT.out, HT.out]; rfl)
        clear HT HAT HAL
        go_wp2_with fail
        go_roundg (n - (k + 1))
        case measure => have := HGK.out; have := HK.out; omega
        case rel => exact ⟨k + 1, by have := HGK.out; have := HK.out; omega, by go_num, HB1.out, HT2⟩
      · have HE := Lib.hid (HAL.out rfl)
        clear HT HAT HAL
        go_wp2_with fail
        go_ret
        exact ⟨_, rfl, by rw [HE.out]; exact decide_eq_true (by omega), HB1.out⟩
    · have k1 : ¬ (k : Int) < (n : Int) := by omega
      have HE := Lib.hid (show l.any g = false by
        have h := HT.out
        rwa [List.take_of_length_le (by have := HN.out; omega)] at h)
      clear hk hb HT
      go_wp2_with fail
      go_ret
      exact ⟨_, rfl, by rw [HE.out]; rfl, HB.out⟩
set_option maxHeartbeats 800000 in
theorem containsF_calls (f : FuncId) (ca : Addr) (g : SesM → Bool) (v : Value) (l : List SesM) (w : World) (hv : RdS w v l) (hf : TestF f ca g w) :
    Calls Tryz.prog 21 #[v, .func (.func f) #[] #[.pointer (some ca)]] w fun e w' => e = .returned (.bool (l.any g)) ∧ Below w.heap.size w w' := by
  have HI := Lib.hid (indexF_calls f ca g v l w hv hf)
  obtain ⟨a, cap, rfl, _⟩ := hv.slice
  clear hv hf
  go_enter Tryz.func21, Tryz.ntmps21
  go_wp2_with fail
  refine HI.out.mono ?_
  rintro e w1 ⟨r, rfl, hr, hb⟩
  have HB := Lib.hid hb
  have HR := Lib.hid hr
  clear hb hr HI
  go_wp2_with fail
  go_ret
  rw [← HR.out]
  exact ⟨rfl, HB.out⟩
end Go.Proofs.YthnabnieajojjaaGreatDoor
