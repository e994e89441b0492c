/-
  lineagelaw12.row and lineageref0.CopyTexts: rows of their own.
-/
import Derived.Test.YtefegebnohenaaaDoorRefRec
import Derived.Test.YtefegebnohenaaaDoorKitT
namespace Go.Proofs.YtefegebnohenaaaDoor
open Go.RowKit
set_option maxRecDepth 100000

def rowM (n : Nat) : List UInt8 := (List.range n).map (fun i => UInt8.ofNat (i * 7))
theorem rowM_length (n : Nat) : (rowM n).length = n := by simp [rowM]
theorem rowM_succ (n : Nat) : rowM (n + 1) = rowM n ++ [UInt8.ofNat (n * 7)] := by simp [rowM, List.range_succ]
theorem row12_calls (n : Nat) (w : World) (hn : n ≤ 1000000) :
    Calls Tryd.prog 22 #[.int .i64 (n : Int)] w fun e w' => ∃ v', e = .returned v' ∧ w'.ownsRow w.heap.size 5 1 v' n ((rowM n).map V8) ∧ Below w.heap.size w w' := by
  go_enter Tryd.func22, Tryd.ntmps22
  go_wp2_with fail
  go_loopw [3, 4] (fun v i wr => ∃ k : Nat, k ≤ n ∧ i = .int .i64 k ∧ wr.ownsRow w.heap.size 5 1 v k ((rowM k).map V8) ∧ Below w.heap.size w wr) (fun _ i _ => n - (intOf i).toNat)
  case atStart => exact ⟨0, by omega, rfl, World.ownsRow_nil _ _ _ _, Below.refl _ _⟩
  case round =>
    obtain ⟨k, hk, rfl, hown, hb⟩ := hrel
    obtain ⟨va, vc, rfl, _⟩ := own_slice hown
    by_cases hlt : k < n
    · have hk0 : (0 : Int) ≤ (k : Int) := by omega
      obtain ⟨c, hc⟩ : ∃ c, c = UInt8.ofNat (k * 7) := ⟨_, rfl⟩
      have hcv : ∀ W : World, W.alloc (.cells #[.int .u8 ((k : Int) * 7 % 256)] 5) = W.alloc (.cells #[V8 c] 5) := fun W => by
        rw [hc, V8_ofNat]; simp
      have HO := Lib.hid (own_below hown (below_alloc wr (.cells #[.int .u8 ((k : Int) * 7 % 256)] 5)))
      have HSrc := Lib.hid (show Rd (wr.alloc (.cells #[.int .u8 ((k : Int) * 7 % 256)] 5)) (.slice (some ⟨wr.heap.size, 0, none⟩) 1 1) [c].length ([c].map V8) by
        rw [hcv]; exact rd_lit wr #[V8 c] 5 [c] rfl (by show 1 ≤ _; decide))
      have HB := Lib.hid hb
      have Hs := Lib.hid (Nat.le_trans hb.size (below_alloc wr (.cells #[.int .u8 ((k : Int) * 7 % 256)] 5)).size)
      have Hr := Lib.hid (show k + [c].length ≤ 140737488355328 by rw [List.length_singleton]; omega)
      have Hc := Lib.hid hc
      clear hown hb hcv hc
      go_wp2_with (at_builtin; refine appSB rfl _ _ rfl w.heap.size _ k ((rowM k).map V8) rfl HO.out _ [c] rfl HSrc.out Hr.out Hs.out ?_)
      intro v' w1 ho1 hg1 _
      have hb1 := (HB.out.trans ((below_alloc wr (.cells #[.int .u8 ((k : Int) * 7 % 256)] 5)).mono HB.out.size)).trans (below_grown hg1 Hs.out (fun q hq => (HO.out.lt q hq).1))
      have HN := Lib.hid (show w1.ownsRow w.heap.size 5 1 v' (k + 1) ((rowM (k + 1)).map V8) ∧ Below w.heap.size w w1 from ⟨by rw [rowM_succ, List.map_append, ← Hc.out]; exact ho1, hb1⟩)
      clear ho1 hg1 hb1 HO HSrc HB Hs Hr Hc
      go_wp2_with fail
      go_roundw
      case rel => exact ⟨k + 1, by omega, by go_num, HN.out⟩
      case measure => simp [intOf]; omega
    · obtain rfl : k = n := by omega
      have HN := Lib.hid (And.intro hown hb)
      clear hown hb
      go_wp2_with fail
      go_ret
      exact ⟨_, rfl, HN.out⟩
theorem copyT_calls (v : Value) (l : List (List UInt8)) (w : World) (hv : Rd w v l.length (l.map SV)) (hn : l.length ≤ 8796093022000) :
    Calls Tryd.prog 26 #[v] w fun e w' => ∃ o, e = .returned o ∧ w'.ownsRow w.heap.size 9 1 o l.length (l.map SV) ∧ Below w.heap.size w w' := by
  obtain ⟨a, cap, rfl, hc1, hc2, _, hc⟩ := hv
  have Hc := Lib.hid hc
  clear hc
  go_enter Tryd.func26, Tryd.ntmps26
  go_wp2_with fail
  go_loopw [3, 4] (fun o i wr => ∃ k : Nat, k ≤ l.length ∧ i = .int .i64 k ∧ wr.ownsRow w.heap.size 9 1 o k ((l.take k).map SV) ∧ Below w.heap.size w wr) (fun _ i _ => l.length - (intOf i).toNat)
  case atStart => exact ⟨0, by omega, rfl, World.ownsRow_nil _ _ _ _, Below.refl _ _⟩
  case round =>
    obtain ⟨k, hk, rfl, hown, hb⟩ := hrel
    obtain ⟨oa, oc, rfl, _⟩ := own_slice hown
    have hs := hb.size
    by_cases hlt : k < l.length
    · obtain ⟨b, off, rfl, hcell'⟩ := Hc.out k (by simpa using hlt)
      obtain ⟨x, hx⟩ : ∃ x, x = l.getD k [] := ⟨_, rfl⟩
      have hcell : wr.cell? ⟨b, off + k, none⟩ = some (.string (SB x)) := below_heap hb (by rw [hcell', hx]; simp [hlt, SV, List.getD])
      have HOwn := Lib.hid (fun ob => own_below hown (below_alloc wr ob))
      have HSrc := Lib.hid (rd_one_new wr x 9)
      have HsA := Lib.hid (fun ob => Nat.le_trans hs (below_alloc wr ob).size)
      have HRm := Lib.hid (show k + [x].length ≤ 8796093022208 by rw [List.length_singleton]; omega)
      have HB := Lib.hid hb
      have Hx := Lib.hid hx
      clear hcell' Hc hown hb hs hx
      go_wp2_with (at_builtin; refine appT rfl _ _ rfl w.heap.size _ k ((l.take k).map SV) rfl (HOwn.out _) _ [x] rfl HSrc.out HRm.out (HsA.out _) ?_)
      intro v' w1 hown' hg' _
      have hb1 := (HB.out.trans ((below_alloc wr _).mono HB.out.size)).trans (below_grown hg' (HsA.out _) (fun q hq => ((HOwn.out (.cells #[] 9)).lt q hq).1))
      have hown1 : w1.ownsRow w.heap.size 9 1 v' (k + 1) ((l.take (k + 1)).map SV) := by
        rw [List.take_succ_eq_append_getElem hlt, List.map_append]
        have e1 : l[k] = x := by rw [Hx.out]; simp [List.getD, hlt]
        rw [e1]; simpa using hown'
      have HN := Lib.hid (And.intro hown1 hb1)
      clear hb1 hown1 hown' hg' hcell HOwn HSrc HsA HRm HB
      go_wp2_with fail
      go_roundw
      case rel => exact ⟨k + 1, by omega, by go_num, HN.out⟩
      case measure => simp [intOf]; omega
    · obtain rfl : k = l.length := by omega
      rw [List.take_of_length_le (by simp)] at hown
      have HN := Lib.hid (And.intro hown hb)
      clear Hc hown hb
      go_wp2_with fail
      go_ret
      exact ⟨_, rfl, HN.out⟩
end Go.Proofs.YtefegebnohenaaaDoor
