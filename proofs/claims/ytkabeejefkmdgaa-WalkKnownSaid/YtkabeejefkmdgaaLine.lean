/-
  Of the statements of the walk: line, works.
-/
import Derived.Test.YtkabeejefkmdgaaPath
import Derived.Test.YtkabeejefkmdgaaSlots
namespace Go.Proofs.Ytkabeejefkmdgaa
open Go.RowKit

/-- The slot of the j-th of a line. -/
def lineSlot (p : List Nat) (j : Nat) : SlotM :=
  ⟨true, false, 0, 0, 0, (p.getD j 0 : Nat), 10 + (j : Int), if j = 0 then 0 else ((p.getD (j - 1) 0 : Nat) : Int), if j = 0 then 0 else 9 + (j : Int), 0, ByteArray.empty, ByteArray.empty, 0, 0, 0, 0, j⟩
/-- The slots when i of a line are laid. -/
def lineL (p : List Nat) : Nat → List SlotM
  | 0 => List.replicate 32 SlotM.bare
  | i + 1 => (lineL p i).set (p.getD i 0) (lineSlot p i)
theorem wpStill_build_k {P : Program} {ops : Array Oper} {rest : List Oper} {op : Oper} {a : Act} {w : World} {Q : Act → Prop} (hw : Region.wanted op (yielded ops a.tmps) = true) (ty : TypeId) (parts : Array (Nat × Operand)) (ho : op.op = .build ty parts)
    (c0 : Array Value) (hr : ∀ w, (Instr.build ty (parts.map fun (i, x) => (i, a.eval x))).run P w = .ok (.agg c0) w) (h : wpStill P ops w Q rest (a.put op.dst (.agg c0))) : wpStill P ops w Q (op :: rest) a := by
  unfold wpStill
  rw [if_pos hw]
  unfold Oper.still execOp
  simp only [ho, Sem.run_bind, hr, Result.andThen_ok, Sem.run_pure]
  exact ⟨rfl, h⟩
set_option maxHeartbeats 1600000 in
theorem line_calls (v : Value) (p : List Nat) (w : World) (hv : Rd w v p.length (p.map VN)) (hp : ∀ x ∈ p, x < 32) (hl : p.length ≤ 100) :
    Calls Try.prog 8 #[v] w fun e w' => ∃ b, e = .returned (.pointer (some ⟨b, 0, none⟩)) ∧ IsArena w' (lineL p p.length) p.length b ∧ w.heap.size ≤ b ∧ Below w.heap.size w w' := by
  obtain ⟨a, cap, rfl, hc1, hc2, _, hc⟩ := hv
  have Hc := Lib.hid hc
  have Hp := Lib.hid hp
  clear hc hp
  go_enter Try.func8, Try.ntmps8
  go_wp2_with fail
  refine (arenaNew_calls w).mono ?_
  rintro e w1 ⟨b, rfl, hA, hb1, hbb⟩
  have HA := Lib.hid hA
  have HB := Lib.hid hb1
  clear hA hb1
  go_wp2_with fail
  go_loopg [4] p.length (fun gk iv wr => ∃ i : Nat, gk + i = p.length ∧ iv = .int .i64 (i : Int) ∧ IsArena wr (lineL p i) i b ∧ Below w.heap.size w wr)
  case atStart => exact ⟨0, rfl, rfl, HA.out, HB.out⟩
  case round =>
    clear HA HB
    obtain ⟨i, hgi, rfl, hA, hb⟩ := hrel
    have hi0 : (0 : Int) ≤ (i : Int) := by omega
    have HA := Lib.hid hA
    have HB := Lib.hid hb
    have Hgi := Lib.hid hgi
    have hs := hb.size
    by_cases hi : i < p.length
    · obtain ⟨bl, off, rfl, hcell⟩ := Hc.out i (by simpa using hi)
      obtain ⟨x, hx⟩ : ∃ x, x = p.getD i 0 := ⟨_, rfl⟩
      have hx32 : x < 32 := by rw [hx]; refine Hp.out _ ?_; simp [List.getD, hi]
      rw [show (p.map VN).getD i undef = VN (p.getD i 0) by simp [List.getD, hi], ← hx] at hcell
      have hcell := below_heap hb hcell
      unfold VN at hcell
      have hi1 : (i : Int) < (p.length : Int) := by omega
      have Hx := Lib.hid hx
      clear hx
      have hx0 : (0 : Int) ≤ (x : Int) := by omega
      by_cases h0 : i = 0
      · have hgt : decide (0 < i) = false := by simp; omega
        have H0 := Lib.hid h0
        clear Hc Hp h0 hA hb hgi
        go_wp2_with fail
        generalize hw3 : World.alloc wr _ = w3
        obtain ⟨s, hs'⟩ : ∃ s : SlotM, s = ⟨true, false, 0, 0, 0, x, 10 + (i : Int), 0, 0, 0, ⟨#[]⟩, ⟨#[]⟩, 0, 0, 0, 0, i⟩ := ⟨_, rfl⟩
        have hx3 : Box w3 wr.heap.size #[.int .i64 x, .int .i64 (10 + (i : Int)), .int .i64 0, .int .i64 0, .int .i64 0, .string ⟨#[]⟩, .string ⟨#[]⟩, .int .u64 0, .int .i64 0, .int .i64 0, .int .i64 0, .int .i64 i] 35 := by rw [← hw3]; exact Box.new _ _ _
        have hr3 : w3.drew.rangeAt wr.heap.size 0 [.int .i64 x, .int .i64 (10 + (i : Int)), .int .i64 0, .int .i64 0, .int .i64 0, .string ⟨#[]⟩, .string ⟨#[]⟩, .int .u64 0, .int .i64 0, .int .i64 0, .int .i64 0, .int .i64 i] := fun j u hj => by
          rw [Nat.zero_add]; exact hx3.cell j u (by rw [← hj, ← Array.getElem?_toList])
        have ha3 : IsArena w3.drew (lineL p i) i b := by rw [← hw3]; exact (HA.out.below (below_alloc _ _)).mod (Mod.drew (fun _ => False) _) (fun h => h)
        have hb3 : Below w.heap.size w w3.drew := by rw [← hw3]; exact (HB.out.trans ((below_alloc _ _).mono hs)).drew
        have hcell3 : w3.cell? ⟨bl, off + i, none⟩ = some (.int .i64 (x : Int)) := by rw [← hw3]; exact below_heap (below_alloc _ _) hcell
        have hse : s = lineSlot p i := by
          rw [hs']; unfold lineSlot
          rw [if_pos H0.out, if_pos H0.out]
          rw [← Hx.out]; rfl
        have hpn := put_calls (lineL p i) i b x s w3.drew ha3 hx32 (by omega)
        rw [hse] at hpn
        have hvals : (lineSlot p i).vals.toArray = #[.bool true, .bool false, .int .i64 0, .int .i64 0, .int .i64 0, .int .i64 x, .int .i64 (10 + (i : Int)), .int .i64 0, .int .i64 0, .int .i64 0, .string ⟨#[]⟩, .string ⟨#[]⟩, .int .u64 0, .int .i64 0, .int .i64 0, .int .i64 0, .int .i64 i] := by rw [← hse, hs']; rfl
        rw [hvals] at hpn
        have HR := Lib.hid hr3
        have HP := Lib.hid hpn
        have HB3 := Lib.hid hb3
        clear hx3 hr3 ha3 hb3 hse hpn hw3 hcell hvals hs'
        go_still_tail 7, (by kernel_rfl)
        refine wpStill_load_k rfl 35 (.tmp 5) rfl wr.heap.size 0 rfl _ _ HR.out Try.underlying35 rfl (by kernel_rfl) ?_
        intro c hc
        rw [hc.out]
        clear hc
        repeat still_step
        refine wpStill_nil ?_
        change wpList _ _ _ _ _ w3.drew
        go_wp2_with (go_at_call 13; refine HP.out.mono ?_; rintro e w' ⟨rfl, hA', hM'⟩)
        have hb' := HB3.out.trans (hM'.below HB3.out.size (fun q hq => by rw [hq]; exact hbb))
        rw [Hx.out] at hA'
        have HA' := Lib.hid hA'
        have HB' := Lib.hid hb'
        clear hA' hM' hb'
        go_wp2_with fail
        go_roundg (p.length - (i + 1))
        case measure => have := Hgi.out; omega
        case rel => exact ⟨i + 1, by have := Hgi.out; omega, by go_num, by have := HA'.out; rwa [show ((i : Int) + 1) = ((i + 1 : Nat) : Int) by omega] at this, HB'.out⟩
      · obtain ⟨b2, off2, e2, hcell2⟩ := Hc.out (i - 1) (by simp; omega)
        injection e2 with e2; injection e2 with e2 e3
        subst e2; subst e3
        obtain ⟨y, hy⟩ : ∃ y, y = p.getD (i - 1) 0 := ⟨_, rfl⟩
        rw [show (p.map VN).getD (i - 1) undef = VN (p.getD (i - 1) 0) by simp [List.getD, show i - 1 < p.length by omega], ← hy] at hcell2
        have hcell2 := below_heap hb hcell2
        unfold VN at hcell2
        have hal : ∀ o, (wr.alloc o).cell? ⟨bl, off + (i - 1), none⟩ = some (.int .i64 (y : Int)) := fun o => below_heap (below_alloc _ _) hcell2
        have hgt : 0 < i := by omega
        have hii : ((i - 1 : Nat) : Int) = (i : Int) - 1 := by omega
        have Hy := Lib.hid hy
        have H0 := Lib.hid h0
        clear Hc Hp h0 hy hii hA hb hgi
        go_wp2_with fail
        clear hal
        generalize hw3 : World.alloc wr _ = w3
        obtain ⟨s, hs'⟩ : ∃ s : SlotM, s = ⟨true, false, 0, 0, 0, x, 10 + (i : Int), (y : Int), (9 + (i : Int)), 0, ⟨#[]⟩, ⟨#[]⟩, 0, 0, 0, 0, i⟩ := ⟨_, rfl⟩
        have hx3 : Box w3 wr.heap.size #[.int .i64 x, .int .i64 (10 + (i : Int)), .int .i64 (y : Int), .int .i64 (9 + (i : Int)), .int .i64 0, .string ⟨#[]⟩, .string ⟨#[]⟩, .int .u64 0, .int .i64 0, .int .i64 0, .int .i64 0, .int .i64 i] 35 := by rw [← hw3]; exact Box.new _ _ _
        have hr3 : w3.drew.rangeAt wr.heap.size 0 [.int .i64 x, .int .i64 (10 + (i : Int)), .int .i64 (y : Int), .int .i64 (9 + (i : Int)), .int .i64 0, .string ⟨#[]⟩, .string ⟨#[]⟩, .int .u64 0, .int .i64 0, .int .i64 0, .int .i64 0, .int .i64 i] := fun j u hj => by
          rw [Nat.zero_add]; exact hx3.cell j u (by rw [← hj, ← Array.getElem?_toList])
        have ha3 : IsArena w3.drew (lineL p i) i b := by rw [← hw3]; exact (HA.out.below (below_alloc _ _)).mod (Mod.drew (fun _ => False) _) (fun h => h)
        have hb3 : Below w.heap.size w w3.drew := by rw [← hw3]; exact (HB.out.trans ((below_alloc _ _).mono hs)).drew
        have hcell3 : w3.cell? ⟨bl, off + i, none⟩ = some (.int .i64 (x : Int)) := by rw [← hw3]; exact below_heap (below_alloc _ _) hcell
        have hse : s = lineSlot p i := by
          rw [hs']; unfold lineSlot
          rw [if_neg H0.out, if_neg H0.out, ← Hy.out]
          rw [← Hx.out]; rfl
        have hpn := put_calls (lineL p i) i b x s w3.drew ha3 hx32 (by omega)
        rw [hse] at hpn
        have hvals : (lineSlot p i).vals.toArray = #[.bool true, .bool false, .int .i64 0, .int .i64 0, .int .i64 0, .int .i64 x, .int .i64 (10 + (i : Int)), .int .i64 (y : Int), .int .i64 (9 + (i : Int)), .int .i64 0, .string ⟨#[]⟩, .string ⟨#[]⟩, .int .u64 0, .int .i64 0, .int .i64 0, .int .i64 0, .int .i64 i] := by rw [← hse, hs']; rfl
        rw [hvals] at hpn
        have HR := Lib.hid hr3
        have HP := Lib.hid hpn
        have HB3 := Lib.hid hb3
        clear hx3 hr3 ha3 hb3 hse hpn hw3 hcell hvals hs'
        go_still_tail 7, (by kernel_rfl)
        refine wpStill_load_k rfl 35 (.tmp 5) rfl wr.heap.size 0 rfl _ _ HR.out Try.underlying35 rfl (by kernel_rfl) ?_
        intro c hc
        rw [hc.out]
        clear hc
        repeat still_step
        refine wpStill_nil ?_
        change wpList _ _ _ _ _ w3.drew
        go_wp2_with (go_at_call 13; refine HP.out.mono ?_; rintro e w' ⟨rfl, hA', hM'⟩)
        have hb' := HB3.out.trans (hM'.below HB3.out.size (fun q hq => by rw [hq]; exact hbb))
        rw [Hx.out] at hA'
        have HA' := Lib.hid hA'
        have HB' := Lib.hid hb'
        clear hA' hM' hb'
        go_wp2_with fail
        go_roundg (p.length - (i + 1))
        case measure => have := Hgi.out; omega
        case rel => exact ⟨i + 1, by have := Hgi.out; omega, by go_num, by have := HA'.out; rwa [show ((i : Int) + 1) = ((i + 1 : Nat) : Int) by omega] at this, HB'.out⟩
    · obtain rfl : i = p.length := by omega
      clear hA hb hgi Hc
      go_wp2_with fail
      go_ret
      exact ⟨b, rfl, HA.out, hbb, HB.out⟩
end Go.Proofs.Ytkabeejefkmdgaa
