/-
  AreaKnown: knownPlaces.
-/
import Derived.Test.YtbmijamailfaeaaDoorAreaK2
import Derived.Test.YtbmijamailfaeaaDoorAreaZ
namespace Go.Proofs.YtbmijamailfaeaaDoor
open Go.RowKit
set_option maxRecDepth 100000

def endCells : Array Value := #[.int .i64 (-9223372036854775808), .int .i64 (-1), .int .i64 0, .int .i64 1, .int .i64 2, .int .i64 3, .int .i64 4, .int .i64 7, .int .i64 8, .int .i64 4611686018427387904, .int .i64 9223372036854775807]
theorem endCells_at (i : Nat) (hi : i < 11) : ∃ z : Int, I64 z ∧ endCells[i]? = some (.int .i64 z) := by
  rcases (show i = 0 ∨ i = 1 ∨ i = 2 ∨ i = 3 ∨ i = 4 ∨ i = 5 ∨ i = 6 ∨ i = 7 ∨ i = 8 ∨ i = 9 ∨ i = 10 by omega) with rfl | rfl | rfl | rfl | rfl | rfl | rfl | rfl | rfl | rfl | rfl
  · exact ⟨-9223372036854775808, by unfold I64; omega, rfl⟩
  · exact ⟨-1, by unfold I64; omega, rfl⟩
  · exact ⟨0, by unfold I64; omega, rfl⟩
  · exact ⟨1, by unfold I64; omega, rfl⟩
  · exact ⟨2, by unfold I64; omega, rfl⟩
  · exact ⟨3, by unfold I64; omega, rfl⟩
  · exact ⟨4, by unfold I64; omega, rfl⟩
  · exact ⟨7, by unfold I64; omega, rfl⟩
  · exact ⟨8, by unfold I64; omega, rfl⟩
  · exact ⟨4611686018427387904, by unfold I64; omega, rfl⟩
  · exact ⟨9223372036854775807, by unfold I64; omega, rfl⟩
theorem rd_newG (w : World) (cs : Array Value) (T : TypeId) (n : Nat) (xs : List Value) (h : cs.toList = xs) (hn : n ≤ 9223372036854775807) : Rd (w.alloc (.cells cs T)) (.slice (some ⟨w.heap.size, 0, none⟩) n n) n xs := by
  refine ⟨_, n, rfl, Nat.le_refl _, hn, (fun h => by cases h), fun j hj => ⟨w.heap.size, 0, rfl, ?_⟩⟩
  rw [Nat.zero_add]
  refine (Box.new w cs T).cell j _ ?_
  rw [← Array.getElem?_toList, h, List.getD, List.getElem?_eq_getElem hj]; rfl
/-- Three acts at one place. -/
theorem threeActs (x y : Int) (hx : I64 x) (hy : I64 y) (w : World) (a1 a2 a3 : Option Addr) (c1 c2 c3 : Nat) (h1 : Rd w (.slice a1 100 c1) 100 ((rowM 100).map V8)) (h2 : Rd w (.slice a2 3 c2) 3 ((rowM 3).map V8)) (h3 : Rd w (.slice a3 700 c3) 700 ((rowM 700).map V8)) (hg : ErrType w) :
    Calls Tryd.prog 5 #[.int .i64 8, .slice (some ⟨w.heap.size, 0, none⟩) 3 3] (w.alloc (.cells #[.int .i64 0, .int .i64 x, .int .i64 y, .int .u32 5, .slice a1 100 c1, .int .i64 2, .int .i64 x, .int .i64 y, .int .u32 0, .slice a2 3 c2, .int .i64 0, .int .i64 x, .int .i64 y, .int .u32 6, .slice a3 700 c3] 37))
      fun r W' => r = .returned (.bool true) ∧ Below w.heap.size w W' := by
  have hb := below_alloc w (.cells #[.int .i64 0, .int .i64 x, .int .i64 y, .int .u32 5, .slice a1 100 c1, .int .i64 2, .int .i64 x, .int .i64 y, .int .u32 0, .slice a2 3 c2, .int .i64 0, .int .i64 x, .int .i64 y, .int .u32 6, .slice a3 700 c3] 37)
  refine (areaPlays_calls 8 _ [⟨0, x, y, 5, .slice a1 100 c1, rowM 100⟩, ⟨2, x, y, 0, .slice a2 3 c2, rowM 3⟩, ⟨0, x, y, 6, .slice a3 700 c3, rowM 700⟩] _ (rd_newG w _ _ 3 _ rfl (by omega)) (fun a ha => ?_) (hg.below hb) (by unfold I64; omega)).mono (fun r W' h => ⟨h.1, below_trans hb h.2⟩)
  simp only [List.mem_cons, List.not_mem_nil, or_false] at ha
  rcases ha with rfl | rfl | rfl
  · exact ⟨(show I64 0 by unfold I64; omega), hx, hy, by rw [show (ActA.l ⟨0, x, y, 5, .slice a1 100 c1, rowM 100⟩) = rowM 100 from rfl, rowM_length]; exact h1.below hb, by rw [show (ActA.l ⟨0, x, y, 5, .slice a1 100 c1, rowM 100⟩) = rowM 100 from rfl, rowM_length]; omega⟩
  · exact ⟨(show I64 2 by unfold I64; omega), hx, hy, by rw [show (ActA.l ⟨2, x, y, 0, .slice a2 3 c2, rowM 3⟩) = rowM 3 from rfl, rowM_length]; exact h2.below hb, by rw [show (ActA.l ⟨2, x, y, 0, .slice a2 3 c2, rowM 3⟩) = rowM 3 from rfl, rowM_length]; omega⟩
  · exact ⟨(show I64 0 by unfold I64; omega), hx, hy, by rw [show (ActA.l ⟨0, x, y, 6, .slice a3 700 c3, rowM 700⟩) = rowM 700 from rfl, rowM_length]; exact h3.below hb, by rw [show (ActA.l ⟨0, x, y, 6, .slice a3 700 c3, rowM 700⟩) = rowM 700 from rfl, rowM_length]; omega⟩
set_option maxHeartbeats 6400000 in
theorem knownPlaces_calls (W : World) (hg : ErrType W) : Calls Tryd.prog 28 #[] W fun r w' => r = .returned (.bool true) ∧ Below W.heap.size W w' := by
  have HG := Lib.hid hg
  have hB0 := below_alloc W (.cells endCells 3)
  have hX0 := Box.new W endCells 3
  obtain ⟨sb, hsb⟩ : ∃ sb, sb = W.heap.size := ⟨_, rfl⟩
  rw [← hsb] at hX0
  have HB0 := Lib.hid hB0
  have HX0 := Lib.hid hX0
  clear hg hB0 hX0
  go_enter Tryd.func28, Tryd.ntmps28
  go_wp2_with fail
  rw [← hsb]
  generalize hw0 : W.alloc (.cells #[.int .i64 (-9223372036854775808), .int .i64 (-1), .int .i64 0, .int .i64 1, .int .i64 2, .int .i64 3, .int .i64 4, .int .i64 7, .int .i64 8, .int .i64 4611686018427387904, .int .i64 9223372036854775807] 3) = w0
  have hI0 : Below W.heap.size W w0 ∧ Box w0 sb endCells 3 := by rw [← hw0]; exact ⟨HB0.out, HX0.out⟩
  have HI0 := Lib.hid hI0
  clear hI0 hw0 hsb HB0 HX0
  go_loopg [2] 11 (fun gk iv wr => ∃ i : Nat, gk + i = 11 ∧ iv = .int .i64 (i : Int) ∧ Below W.heap.size W wr ∧ Box wr sb endCells 3)
  case atStart => exact ⟨0, rfl, rfl, HI0.out⟩
  case round =>
    clear HI0
    obtain ⟨i, hgi, rfl, hI⟩ := hrel
    have Hgi := Lib.hid hgi
    have HI := Lib.hid hI
    clear hI hgi
    by_cases hi : i < 11
    · have hi1 : (i : Int) < 11 := by omega
      have hi0 : (0 : Int) ≤ (i : Int) := by omega
      go_wp2_with fail
      obtain ⟨wo, hwo⟩ : ∃ wo : World, wo = wr := ⟨_, rfl⟩
      rw [← hwo] at HI ⊢
      clear hwo
      go_loopg [3] 11 (fun gk kv wr => ∃ k : Nat, gk + k = 11 ∧ kv = .int .i64 (k : Int) ∧ Below W.heap.size W wr ∧ Box wr sb endCells 3)
      case atStart => exact ⟨0, rfl, rfl, HI.out⟩
      case round =>
        clear HI
        obtain ⟨k, hgk, rfl, hI⟩ := hrel
        have Hgk := Lib.hid hgk
        have HI := Lib.hid hI
        clear hI hgk
        by_cases hk : k < 11
        · have hk1 : (k : Int) < 11 := by omega
          have hk0 : (0 : Int) ≤ (k : Int) := by omega
          obtain ⟨zi, hzi, hci⟩ := endCells_at i hi
          obtain ⟨zk, hzk, hck⟩ := endCells_at k hk
          have s : wr.drew.cell? ⟨sb, i, none⟩ = some (.int .i64 zi) ∧ wr.drew.cell? ⟨sb, k, none⟩ = some (.int .i64 zk) := ⟨HI.out.2.cell i _ hci, HI.out.2.cell k _ hck⟩
          have Hr1 := Lib.hid (fun w => (show Calls Tryd.prog 44 #[.int .i64 100] w fun e w' => ∃ a c, e = .returned (.slice a 100 c) ∧ w'.ownsRow w.heap.size 5 1 (.slice a 100 c) 100 ((rowM 100).map V8) ∧ Below w.heap.size w w' from row_calls 100 w (by omega)))
          have Hr2 := Lib.hid (fun w => (show Calls Tryd.prog 44 #[.int .i64 3] w fun e w' => ∃ a c, e = .returned (.slice a 3 c) ∧ w'.ownsRow w.heap.size 5 1 (.slice a 3 c) 3 ((rowM 3).map V8) ∧ Below w.heap.size w w' from row_calls 3 w (by omega)))
          have Hr3 := Lib.hid (fun w => (show Calls Tryd.prog 44 #[.int .i64 700] w fun e w' => ∃ a c, e = .returned (.slice a 700 c) ∧ w'.ownsRow w.heap.size 5 1 (.slice a 700 c) 700 ((rowM 700).map V8) ∧ Below w.heap.size w w' from row_calls 700 w (by omega)))
          have HA := Lib.hid (fun w a1 a2 a3 c1 c2 c3 h1 h2 h3 (hb : Below W.heap.size W w) => threeActs zi zk hzi hzk w a1 a2 a3 c1 c2 c3 h1 h2 h3 (HG.out.below hb))
          have hb := below_trans HI.out.1 (below_drew wr)
          have hX := HI.out.2.below (below_drew wr)
          clear hci hck hzi hzk HI
          go_wp2_with fail
          go_region_held3 (fun w' => w'.cell? ⟨sb, i, none⟩ = some (.int .i64 zi) ∧ w'.cell? ⟨sb, k, none⟩ = some (.int .i64 zk))
            (first | with_reducible exact s | exact s')
            (first | (go_at_call 44; first | (with_reducible refine (Hr1.out _).mono ?_; rintro e w5 ⟨a1, c1, rfl, hi5, hb5⟩; have s := And.intro (below_heap hb5 s.1) (below_heap hb5 s.2); have g1 := rd_of_own hi5; have hb := below_trans hb hb5; have hX := Box.below hX hb5; clear hb5 hi5) | (with_reducible refine (Hr2.out _).mono ?_; rintro e w6 ⟨a2, c2, rfl, hk5, hb5⟩; have s := And.intro (below_heap hb5 s.1) (below_heap hb5 s.2); have g1 := Rd.below g1 hb5; have g2 := rd_of_own hk5; have hb := below_trans hb hb5; have hX := Box.below hX hb5; clear hb5 hk5) | (with_reducible refine (Hr3.out _).mono ?_; rintro e w7 ⟨a3, c3, rfl, hk5, hb5⟩; have hbA := below_alloc w7 (.cells #[.int .i64 0, .int .i64 zi, .int .i64 zk, .int .u32 5, .slice a1 100 c1, .int .i64 2, .int .i64 zi, .int .i64 zk, .int .u32 0, .slice a2 3 c2, .int .i64 0, .int .i64 zi, .int .i64 zk, .int .u32 6, .slice a3 700 c3] 37); have s := And.intro (below_heap hb5 s.1) (below_heap hb5 s.2); have s' := And.intro (below_heap hbA s.1) (below_heap hbA s.2); have g1 := Rd.below g1 hb5; have g2 := Rd.below g2 hb5; have g3 := rd_of_own hk5; have hb := below_trans hb hb5; have hX := Box.below hX hb5; clear hb5 hk5 hbA)) | (go_at_call 5; refine (HA.out _ _ _ _ _ _ _ g1 g2 g3 hb).mono ?_; rintro e w5 ⟨rfl, hb5⟩; have s := And.intro (below_heap hb5 s.1) (below_heap hb5 s.2); have hb := below_trans hb hb5; have hX := Box.below hX hb5; clear hb5))
          have HN := Lib.hid (And.intro hb hX)
          clear hb hX s
          go_wp2_with fail
          go_roundg (11 - (k + 1))
          case measure => have := Hgk.out; omega
          case rel => exact ⟨k + 1, by have := Hgk.out; omega, by go_num, HN.out⟩
        · obtain rfl : k = 11 := by have := Hgk.out; omega
          go_wp2_with fail
          go_roundg (11 - (i + 1))
          case measure => have := Hgi.out; omega
          case rel => exact ⟨i + 1, by have := Hgi.out; omega, by go_num, HI.out⟩
    · obtain rfl : i = 11 := by have := Hgi.out; omega
      go_wp2_with fail
      go_ret
      exact ⟨rfl, HI.out.1⟩
end Go.Proofs.YtbmijamailfaeaaDoor
