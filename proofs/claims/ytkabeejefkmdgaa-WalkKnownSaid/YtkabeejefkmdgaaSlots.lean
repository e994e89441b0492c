/-
  Of the statements of the walk: slots, harmed.
-/
import Derived.Test.YtkabeejefkmdgaaKitI
import Derived.Test.YtkabeejefkmdgaaPick
import Derived.Test.YtkabeejefkmdgaaArena
import Derived.Outline
import Derived.Deep.LoopGhost
namespace Go.Proofs.Ytkabeejefkmdgaa
open Go.RowKit

def VN (n : Nat) : Value := .int .i64 (n : Int)
/-- Slots, each once, at most seven. -/
structure IsSlots (p : List Nat) : Prop where
  nodup : p.Nodup
  lt : ∀ x ∈ p, x < 32
  len : p.length ≤ 7
theorem IsSlots.nil : IsSlots [] := ⟨List.nodup_nil, by simp, by simp⟩
theorem IsSlots.snoc {p : List Nat} {k : Nat} (h : IsSlots p) (hk : k < 32) (hn : k ∉ p) (hl : p.length ≤ 6) : IsSlots (p ++ [k]) :=
  ⟨List.nodup_append.2 ⟨h.nodup, by simp, fun a ha b hb e => by simp at hb; subst hb; subst e; exact hn ha⟩, fun x hx => by
    rcases List.mem_append.1 hx with hx | hx
    · exact h.lt x hx
    · simp at hx; omega, by simp; omega⟩
/-- What was seen. -/
def Seen (w : World) (b : Nat) (p : List Nat) : Prop := ∃ cs, Box w b cs 62 ∧ cs.size = 32 ∧ ∀ k, k < 32 → cs[k]? = some (.bool (decide (k ∈ p)))
theorem Seen.mod {w w' : World} {b : Nat} {p : List Nat} {F : Nat → Prop} (h : Seen w b p) (hm : Mod F w w') (hb : ¬ F b) : Seen w' b p := by
  obtain ⟨cs, h1, h2⟩ := h; exact ⟨cs, h1.mod hm hb, h2⟩
theorem Seen.cell {w : World} {b : Nat} {p : List Nat} (h : Seen w b p) (k : Nat) (hk : k < 32) : w.cell? ⟨b, k, none⟩ = some (.bool (decide (k ∈ p))) ∧ w.frozen? ⟨b, k, none⟩ = false := by
  obtain ⟨cs, h1, h2, h3⟩ := h; exact ⟨h1.cell k _ (h3 k hk), h1.free k⟩
theorem Seen.lt {w : World} {b : Nat} {p : List Nat} (h : Seen w b p) : b < w.heap.size := by obtain ⟨cs, h1, _⟩ := h; exact h1.lt
theorem Seen.set {w : World} {b : Nat} {p : List Nat} (h : Seen w b p) (k : Nat) (_ : k < 32) : Seen (w.setCell ⟨b, k, none⟩ (.bool true)) b (p ++ [k]) := by
  obtain ⟨cs, h1, h2, h3⟩ := h
  refine ⟨_, h1.set k _, by simpa using h2, fun j hj => ?_⟩
  by_cases e : k = j
  · subst e; simp [h2, hj]
  · rw [Array.getElem?_setIfInBounds_ne e, h3 j hj]; simp [Ne.symm e]
set_option maxHeartbeats 800000 in
theorem slots_calls (v : Value) (l : List Int) (w : World) (hv : Rd w v l.length (l.map VI)) (hl : ∀ i, i < l.length → -9223372036854775808 ≤ l.getD i 0 ∧ l.getD i 0 ≤ 9223372036854775807) :
    Calls Try.prog 7 #[v] w fun e w' => ∃ o p, e = .returned o ∧ IsSlots p ∧ w'.ownsRow w.heap.size 3 1 o p.length (p.map VN) ∧ Below w.heap.size w w' := by
  have hlen := hv.len
  obtain ⟨a, cap, rfl, hc1, hc2, _, hc⟩ := hv
  have Hc := Lib.hid hc
  have Hl := Lib.hid hl
  clear hc hl
  go_enter Try.func7, Try.ntmps7
  go_wp2_with fail
  generalize hw1 : World.alloc w _ = w1
  have hS : Seen w1 w.heap.size [] := by rw [← hw1]; exact ⟨_, Box.new _ _ _, rfl, fun k _ => by
    rcases k with _ | _ | _ | _ | _ | _ | _ | _ | _ | _ | _ | _ | _ | _ | _ | _ | _ | _ | _ | _ | _ | _ | _ | _ | _ | _ | _ | _ | _ | _ | _ | _ | k <;> first | rfl | omega⟩
  have hb1 : Below w.heap.size w w1 := by rw [← hw1]; exact below_alloc _ _
  have HS := Lib.hid hS
  have HB := Lib.hid hb1
  obtain ⟨b, hb⟩ : ∃ b, b = w.heap.size := ⟨_, rfl⟩
  rw [← hb] at HS ⊢
  have Hb := Lib.hid hb
  clear hw1 hS hb1 hb
  go_loopg [3, 5] l.length (fun gk ov iv wr => ∃ (i : Nat) (p : List Nat), gk + i = l.length ∧ iv = .int .i64 (i : Int) ∧ IsSlots p ∧ Seen wr b p ∧ wr.ownsRow w.heap.size 3 1 ov p.length (p.map VN) ∧ ov.ownBlock ≠ some b ∧ Below w.heap.size w wr)
  case atStart => exact ⟨0, [], rfl, rfl, IsSlots.nil, HS.out, World.ownsRow_nil _ _ _ _, by simp [Value.ownBlock], HB.out⟩
  case round =>
    clear HS HB
    obtain ⟨i, p, hgi, rfl, hp, hS, hown, hne, hb⟩ := hrel
    obtain ⟨oa, oc, rfl, _⟩ := own_slice hown
    have hpl := hp.len
    have hs := hb.size
    have Hgi := Lib.hid hgi
    have hi0 : (0 : Int) ≤ (i : Int) := by omega
    by_cases hi : i < l.length
    · by_cases hp6 : p.length ≤ 6
      · obtain ⟨bl, off, rfl, hcell⟩ := Hc.out i (by simpa using hi)
        have hli := Hl.out i hi
        obtain ⟨x, hx⟩ : ∃ x, x = l.getD i 0 := ⟨_, rfl⟩
        rw [show (l.map VI).getD i undef = VI (l.getD i 0) by simp [List.getD, hi], ← hx] at hcell
        rw [← hx] at hli
        have hcell := below_heap hb hcell
        unfold VI at hcell
        have hpk := pickI_lt x 32 (by omega)
        obtain ⟨k, hk⟩ := Int.eq_ofNat_of_zero_le hpk.1
        rw [hk] at hpk
        have hk32 : k < 32 := by omega
        obtain ⟨hsc, hsf⟩ := hS.cell k hk32
        have hpc := fun w => pick_calls x 32 w hli.1 hli.2 (by omega) (by omega)
        rw [hk] at hpc
        have Hpc := Lib.hid hpc
        have HS := Lib.hid hS
        have Hown := Lib.hid hown
        have Hne := Lib.hid hne
        have Hb2 := Lib.hid hb
        have Hp := Lib.hid hp
        have hk0 : (0 : Int) ≤ (k : Int) := by omega
        have hk1 : (k : Int) < 32 := by omega
        have hi1 : (i : Int) < (l.length : Int) := by omega
        have hp61 : (p.length : Int) ≤ 6 := by omega
        clear hS hown hne hb hp hk hpk hx hpc hli Hc Hl hgi
        by_cases hm : k ∈ p
        · have hsc' : wr.cell? ⟨b, k, none⟩ = some (.bool true) := by rw [hsc]; simp [hm]
          clear hsc
          go_wp2_with (go_at_call 10; refine (Hpc.out _).mono ?_; rintro e w' ⟨rfl, rfl⟩)
          go_roundg (l.length - (i + 1))
          case measure => have := Hgi.out; omega
          case rel => exact ⟨i + 1, p, by omega, by go_num, Hp.out, HS.out, Hown.out, Hne.out, Hb2.out⟩
        · have hsc' : wr.cell? ⟨b, k, none⟩ = some (.bool false) := by rw [hsc]; simp [hm]
          clear hsc
          have Hm := Lib.hid hm
          clear hm
          obtain ⟨w2, hw2⟩ : ∃ w2, w2 = wr.setCell ⟨b, k, none⟩ (.bool true) := ⟨_, rfl⟩
          have hm2 : Mod (fun q => q = b) wr w2 := by rw [hw2]; exact Mod.set (fun q => q = b) wr ⟨b, k, none⟩ (.bool true) rfl
          have hS2 : Seen w2 b (p ++ [k]) := by rw [hw2]; exact HS.out.set k hk32
          have hown2 := own_mod Hown.out hm2 (fun q hq e => Hne.out (e ▸ hq))
          have hb2 : Below w.heap.size w w2 := Hb2.out.trans (hm2.below hs (fun q hq => by rw [hq, Hb.out]; exact Nat.le_refl _))
          have hs2 := hm2.size
          have hownA := hown2.alloc (.cells #[.int .i64 (k : Int)] 3)
          have hS3 : Seen (w2.alloc (.cells #[.int .i64 (k : Int)] 3)) b (p ++ [k]) := hS2.mod (Mod.alloc (fun _ => False) _ _) (fun h => h)
          have hb3 := hb2.trans ((below_alloc w2 (.cells #[.int .i64 (k : Int)] 3)).mono (by have := hb2.size; omega))
          have hblt := hS2.lt
          have hq : (w2.alloc (.cells #[.int .i64 (k : Int)] 3)).cell? ⟨wr.heap.size, 0, none⟩ = some (.int .i64 (k : Int)) := by
            have hz : wr.heap.size = w2.heap.size := by rw [hw2]; simp
            rw [hz]; simp
          have HQ := Lib.hid hq
          have HownA := Lib.hid hownA
          have HS3 := Lib.hid hS3
          have HB3 := Lib.hid hb3
          have HS2 := Lib.hid hs2
          have Hblt := Lib.hid hblt
          have Hw2 := Lib.hid hw2
          clear hm2 hS2 hown2 hb2 hs2 hownA hS3 hb3 hblt hw2 HS Hown Hb2 hq
          go_wp2_with (first | (go_at_call 10; refine (Hpc.out _).mono ?_; rintro e w' ⟨rfl, rfl⟩) | (at_builtin; (try rw [← Hw2.out]); refine appI rfl _ _ rfl w.heap.size _ _ _ rfl HownA.out ⟨_, 0, none⟩ 1 (.int .i64 (k : Int)) rfl HQ.out rfl (by omega) HB3.out.size ?_))
          intro v' w4 hown' hg' hm' _
          have hS4 : Seen w4 b (p ++ [k]) := HS3.out.mod (Mod.of_grown hg' (F := fun q => oa.map (·.block) = some q) (fun q hq => by cases oa <;> simp_all [Value.ownBlock])) (fun e => Hne.out (by cases oa <;> simp_all [Value.ownBlock]))
          have hb4 := HB3.out.trans (below_grown hg' HB3.out.size (fun q hq => (HownA.out.lt q hq).1))
          have hne4 : v'.ownBlock ≠ some b := by
            rcases hm' with e | e
            · rw [e]; exact Hne.out
            · rw [e]; intro e2; injection e2 with e2; have := HS3.out.lt; omega
          have HS4 := Lib.hid hS4
          have HB4 := Lib.hid hb4
          have Hown4 := Lib.hid hown'
          have Hne4 := Lib.hid hne4
          have Hp2 := Lib.hid (Hp.out.snoc hk32 Hm.out hp6)
          clear hS4 hb4 hown' hne4 hg' hm'
          go_wp2_with fail
          go_roundg (l.length - (i + 1))
          case measure => have := Hgi.out; omega
          case rel => exact ⟨i + 1, p ++ [k], by omega, by go_num, Hp2.out, HS4.out, by rw [List.length_append, List.map_append]; exact Hown4.out, Hne4.out, HB4.out⟩
      · clear hi0
        have hp61 : decide ((p.length : Int) ≤ 6) = false := by simp; omega
        have hi1 : (i : Int) < (l.length : Int) := by omega
        have hi0 : (0 : Int) ≤ (i : Int) := by omega
        have Hown := Lib.hid hown
        have Hb2 := Lib.hid hb
        have Hp := Lib.hid hp
        clear hown hb hp hS hgi Hc Hl
        go_wp2_with fail
        go_ret
        exact ⟨_, p, rfl, Hp.out, Hown.out, Hb2.out⟩
    · obtain rfl : i = l.length := by omega
      have Hown := Lib.hid hown
      have Hb2 := Lib.hid hb
      have Hp := Lib.hid hp
      clear hown hb hp hS hgi Hc Hl
      go_wp2_with fail
      go_ret
      exact ⟨_, p, rfl, Hp.out, Hown.out, Hb2.out⟩
end Go.Proofs.Ytkabeejefkmdgaa
