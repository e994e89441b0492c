/-
  The walk of SumThree.
-/
import Derived.Test.YtgikknkgpbgjaaaSumLaws
namespace Go.Proofs.Ytgikknkgpbgjaaa
open Go.RowKit

theorem u8_xor_val (a b c : UInt8) : Value.int .u8 (bits .xor .u8 (bits .xor .u8 (a.toNat : Int) (b.toNat : Int)) (c.toNat : Int)) = V8 (a ^^^ b ^^^ c) := by
  have ha := a.toNat_lt; have hb := b.toNat_lt; have hc := c.toNat_lt
  have hx : a.toNat ^^^ b.toNat < 2 ^ 8 := Nat.xor_lt_two_pow (by omega) (by omega)
  rw [u8_xor_nat _ _ (by omega) (by omega), u8_xor_nat _ _ (by omega) (by omega), V8]
  simp
set_option maxHeartbeats 800000 in
theorem sumThree_calls (va vb vc : Value) (a b c : List UInt8) (W : World) (hva : Rd W va a.length (a.map V8)) (hvb : Rd W vb b.length (b.map V8)) (hvc : Rd W vc c.length (c.map V8))
    (hna : a.length ≤ 140737488351232) :
    Calls Try.prog 5 #[va, vb, vc] W fun e W' => e = .returned (.bool true) ∧ Below W.heap.size W W' := by
  have hla := hva.len
  have hlb := hvb.len
  have hlc := hvc.len
  obtain ⟨pa, ca, rfl, ha1, ha2, ha⟩ := hva
  obtain ⟨pb, cb, rfl, hb1, hb2, hb⟩ := hvb
  obtain ⟨pc, cc, rfl, hc1, hc2, hc⟩ := hvc
  have Ha := Lib.hid ha
  have Hb := Lib.hid hb
  have Hc := Lib.hid hc
  clear ha hb hc
  go_enter Try.func5, Try.ntmps5
  go_wp2
  go_loopw [7, 8, 9, 10, 11] (fun x y z s i wr => ∃ k : Nat, ∃ d : List UInt8, k ≤ a.length ∧ k ≤ b.length ∧ k ≤ c.length ∧ i = .int .i64 k ∧ d.length = k ∧ (∀ j, j < k → d.getD j 0 = a.getD j 0 ^^^ b.getD j 0 ^^^ c.getD j 0) ∧
      OwnAll wr W.heap.size [⟨x, 5, 1, k, (a.map V8).take k⟩, ⟨y, 5, 1, k, (b.map V8).take k⟩, ⟨z, 5, 1, k, (c.map V8).take k⟩, ⟨s, 5, 1, k, d.map V8⟩] ∧ Below W.heap.size W wr) (fun _ _ _ _ i _ => a.length - (intOf i).toNat)
  case atStart => exact ⟨0, [], by omega, by omega, by omega, rfl, rfl, fun j hj => by omega, ⟨World.ownsRow_nil _ _ _ _, fun p _ => nil_apart _, World.ownsRow_nil _ _ _ _, fun p _ => nil_apart _, World.ownsRow_nil _ _ _ _, fun p _ => nil_apart _, World.ownsRow_nil _ _ _ _, fun p _ => nil_apart _, trivial⟩, Below.refl _ _⟩
  case round =>
    obtain ⟨k, d, hka, hkb, hkc, rfl, hdl, hd, hown, hbel⟩ := hrel
    have Hd := Lib.hid hd
    clear hd
    have hs := hbel.size
    by_cases h1 : k < a.length ∧ k < b.length ∧ k < c.length
    · obtain ⟨h1, h2, h3⟩ := h1
      obtain ⟨ba, oa, rfl, ea'⟩ := Ha.out k (by simpa using h1)
      obtain ⟨bb, ob, rfl, eb'⟩ := Hb.out k (by simpa using h2)
      obtain ⟨bc, oc, rfl, ec'⟩ := Hc.out k (by simpa using h3)
      have ea : W.cell? ⟨ba, oa + k, none⟩ = some (.int .u8 (a[k].toNat : Int)) := by rw [ea']; simp [h1, V8]
      have eb : W.cell? ⟨bb, ob + k, none⟩ = some (.int .u8 (b[k].toNat : Int)) := by rw [eb']; simp [h2, V8]
      have ec : W.cell? ⟨bc, oc + k, none⟩ = some (.int .u8 (c[k].toNat : Int)) := by rw [ec']; simp [h3, V8]
      have EA := Lib.hid ea
      have EB := Lib.hid eb
      have EC := Lib.hid ec
      clear ea' eb' ec' Ha Hb Hc ea eb ec
      have HW := Lib.hid hdl
      clear hdl
      obtain ⟨w0, rfl⟩ : ∃ w0, w0 = wr := ⟨_, rfl⟩
      have hown0 := hown
      have hbel0 := hbel
      have hs0 := hs
      clear hown hbel hs
      have ea := below_heap hbel0 EA.out
      have ho0 := hown0.1
      simp only [ORow.at] at ho0
      have Ho0 := Lib.hid ho0
      clear ho0
      go_wp2_with (at_builtin; refine appB rfl _ _ rfl W.heap.size _ _ _ rfl (Ho0.out.alloc _) ⟨w0.heap.size, 0, none⟩ 1 1 [(.int .u8 (a[k].toNat : Int))] rfl rfl (cell_one_new _ _ _) (oneC_int _ _) (by omega) (by simp; omega) ?_)
      intro v0 w1 hv0 hg0 hm0
      have hown1 := (((hown0.alloc (.cells #[(.int .u8 (a[k].toNat : Int))] 5)).step hv0 hg0 hm0).rotate)
      have hbel1 := below_step (hbel0.alloc hs0 (.cells #[(.int .u8 (a[k].toNat : Int))] 5)) (by simp; omega) hg0 (fun q hq => (hown0.1.lt q hq).1)
      have hs1 := hbel1.size
      clear hv0 hg0 hm0 hown0 hs0 Ho0
      clear ea
      have eb := below_heap hbel1 EB.out
      have ho1 := hown1.1
      simp only [ORow.at] at ho1
      have Ho1 := Lib.hid ho1
      clear ho1
      go_wp2_with (at_builtin; refine appB rfl _ _ rfl W.heap.size _ _ _ rfl (Ho1.out.alloc _) ⟨w1.heap.size, 0, none⟩ 1 1 [(.int .u8 (b[k].toNat : Int))] rfl rfl (cell_one_new _ _ _) (oneC_int _ _) (by omega) (by simp; omega) ?_)
      intro v1 w2 hv1 hg1 hm1
      have hown2 := (((hown1.alloc (.cells #[(.int .u8 (b[k].toNat : Int))] 5)).step hv1 hg1 hm1).rotate)
      have hbel2 := below_step (hbel1.alloc hs1 (.cells #[(.int .u8 (b[k].toNat : Int))] 5)) (by simp; omega) hg1 (fun q hq => (hown1.1.lt q hq).1)
      have hs2 := hbel2.size
      clear hv1 hg1 hm1 hown1 hs1 Ho1
      clear eb
      have ec := below_heap hbel2 EC.out
      have ho2 := hown2.1
      simp only [ORow.at] at ho2
      have Ho2 := Lib.hid ho2
      clear ho2
      go_wp2_with (at_builtin; refine appB rfl _ _ rfl W.heap.size _ _ _ rfl (Ho2.out.alloc _) ⟨w2.heap.size, 0, none⟩ 1 1 [(.int .u8 (c[k].toNat : Int))] rfl rfl (cell_one_new _ _ _) (oneC_int _ _) (by omega) (by simp; omega) ?_)
      intro v2 w3 hv2 hg2 hm2
      have hown3 := (((hown2.alloc (.cells #[(.int .u8 (c[k].toNat : Int))] 5)).step hv2 hg2 hm2).rotate)
      have hbel3 := below_step (hbel2.alloc hs2 (.cells #[(.int .u8 (c[k].toNat : Int))] 5)) (by simp; omega) hg2 (fun q hq => (hown2.1.lt q hq).1)
      have hs3 := hbel3.size
      clear hv2 hg2 hm2 hown2 hs2 Ho2
      clear ec
      have ea := below_heap hbel3 EA.out
      have eb := below_heap hbel3 EB.out
      have ec := below_heap hbel3 EC.out
      have ho3 := hown3.1
      simp only [ORow.at] at ho3
      have Ho3 := Lib.hid ho3
      clear ho3
      obtain ⟨i0, hi0, hz0, hz1, hz2⟩ := info_parts info_u8
      have ka1 : (k : Int) < (a.length : Int) := by omega
      have kb1 : (k : Int) < (b.length : Int) := by omega
      have kc1 : (k : Int) < (c.length : Int) := by omega
      have k0 : (0 : Int) ≤ (k : Int) := by omega
      go_wp2_with fail
      go_region_held3 (fun w' => w'.cell? ⟨ba, oa + k, none⟩ = some (.int .u8 (a[k].toNat : Int)) ∧ w'.cell? ⟨bb, ob + k, none⟩ = some (.int .u8 (b[k].toNat : Int)) ∧ w'.cell? ⟨bc, oc + k, none⟩ = some (.int .u8 (c[k].toNat : Int)))
        (first | go_keep | (have hbl := below_step ((hbel3.alloc hs3 (.cells #[(.int .u8 (bits .xor .u8 (bits .xor .u8 (a[k].toNat : Int) (b[k].toNat : Int)) (c[k].toNat : Int)))] 5)).drew) (by simp; omega) hg3 (fun q hq => (Ho3.out.lt q hq).1); exact ⟨below_heap hbl EA.out, below_heap hbl EB.out, below_heap hbl EC.out⟩))
        ((refine step_append_lies _ (by rfl) _ _ _ (by rfl) W.heap.size 5 i0 _ 1 1 Try.underlying31 hi0 hz0 hz1 hz2 rfl (by omega) _ k _ (by rfl) ((Ho3.out.alloc _).drew) ⟨w3.heap.size, 0, none⟩ 1 1 [(.int .u8 (bits .xor .u8 (bits .xor .u8 (a[k].toNat : Int) (b[k].toNat : Int)) (c[k].toNat : Int)))] (by rfl) (by rfl) (World.news_of_block (cs := #[(.int .u8 (bits .xor .u8 (bits .xor .u8 (a[k].toNat : Int) (b[k].toNat : Int)) (c[k].toNat : Int)))]) (t := 5) (fr := (0, 0)) (heap_alloc_new w3 _)) (oneC_int _ _) (by omega) (by unfold maxLen; omega) (by omega) (by simp; omega) (w3.heap.size + 1) (by simp) ?_; intro gg cap w4 hv3 hg3 hat hlt))
      have hm3 : Moved ((w3.alloc (.cells #[(.int .u8 (bits .xor .u8 (bits .xor .u8 (a[k].toNat : Int) (b[k].toNat : Int)) (c[k].toNat : Int)))] 5)).drew) u10 (.slice (some ⟨gg, 0, none⟩) (k + 1) cap) := by
        rcases hat with h | h
        · left; exact h.symm
        · right; simp [Value.ownBlock, h]
      have hown4 := (((hown3.alloc (.cells #[(.int .u8 (bits .xor .u8 (bits .xor .u8 (a[k].toNat : Int) (b[k].toNat : Int)) (c[k].toNat : Int)))] 5)).below (below_drew _)).step hv3 hg3 hm3).rotate
      have hbel4 := below_step ((hbel3.alloc hs3 (.cells #[(.int .u8 (bits .xor .u8 (bits .xor .u8 (a[k].toNat : Int) (b[k].toNat : Int)) (c[k].toNat : Int)))] 5)).drew) (by simp; omega) hg3 (fun q hq => (Ho3.out.lt q hq).1)
      clear hv3 hg3 hm3 hown3 hs3 Ho3 hat hlt
      go_wp2
      go_roundw
      case rel =>
        refine ⟨k + 1, d ++ [a[k] ^^^ b[k] ^^^ c[k]], by omega, by omega, by omega, by go_num, by simp [HW.out], fun j hj => ?_, ?_, hbel4⟩
        · by_cases hjk : j < k
          · rw [List.getD, List.getElem?_append_left (by rw [HW.out]; exact hjk)]; exact Hd.out j hjk
          · obtain rfl : j = k := by omega
            rw [List.getD, List.getElem?_append_right (by rw [HW.out]; omega), HW.out]; simp [h1, h2, h3]
        · rw [List.take_succ_eq_append_getElem (by simpa using h1), List.take_succ_eq_append_getElem (by simpa using h2), List.take_succ_eq_append_getElem (by simpa using h3), List.map_append, List.map_singleton, ← u8_xor_val]
          simpa [V8] using hown4
      case measure => simp [intOf]; omega
    · have hx := crc_three (a.take k) (b.take k) (c.take k) d (by simp; omega) (by simp; omega) (by simp; omega) (fun i hi => by
        rw [List.length_take] at hi
        have h := Hd.out i (by omega)
        simpa [List.getD, show i < k by omega] using h)
      have ra := rd_of_own (hown.1)
      have rb := rd_of_own (hown.2.2.1)
      have rc := rd_of_own (hown.2.2.2.2.1)
      have rd := rd_of_own (hown.2.2.2.2.2.2.1)
      simp only [← List.map_take] at ra rb rc
      have la : (a.take k).length = k := by simp; omega
      have lb : (b.take k).length = k := by simp; omega
      have lc : (c.take k).length = k := by simp; omega
      have ra' : Rd wr u7 (a.take k).length ((a.take k).map V8) := by rw [la]; exact ra
      have rb' : Rd wr u8 (b.take k).length ((b.take k).map V8) := by rw [lb]; exact rb
      have rc' : Rd wr u9 (c.take k).length ((c.take k).map V8) := by rw [lc]; exact rc
      have rd' : Rd wr u10 d.length (d.map V8) := by rw [hdl]; exact rd
      clear ra rb rc rd la lb lc hown Hd hdl Ha Hb Hc
      generalize a.take k = A at *
      generalize b.take k = B at *
      generalize c.take k = C at *
      have Hx := Lib.hid hx
      clear hx
      have hcase : ¬ k < a.length ∨ (k < a.length ∧ ¬ k < b.length) ∨ (k < a.length ∧ k < b.length ∧ ¬ k < c.length) := by omega
      clear h1
      rcases hcase with h2 | ⟨h2, h3⟩ | ⟨h2, h3, h4⟩
      all_goals
        go_wp2_with fail
        refine (works_calls _).mono ?_
        rintro e w1 ⟨rfl, hb1⟩
        go_wp2_with fail
        refine (of_calls _ A _ (ra'.below hb1)).mono ?_
        rintro e w2 ⟨rfl, hb2⟩
        have hb12 := below_trans hb1 hb2
        go_wp2_with fail
        refine (of_calls _ B _ (rb'.below hb12)).mono ?_
        rintro e w3 ⟨rfl, hb3⟩
        have hb13 := below_trans hb12 hb3
        go_wp2_with fail
        refine (of_calls _ C _ (rc'.below hb13)).mono ?_
        rintro e w4 ⟨rfl, hb4⟩
        have hb14 := below_trans hb13 hb4
        go_wp2_with fail
        refine (of_calls _ d _ (rd'.below hb14)).mono ?_
        rintro e w5 ⟨rfl, hb5⟩
        have hb15 := below_trans hb14 hb5
        have hx := Hx.out
        go_wp2
        go_ret
        exact ⟨rfl, hbel.trans (hb15.mono hs)⟩
theorem sumThree_walk : Walks false 5 [31, 31, 31] := by
  intro W vs h
  match vs, h with
  | [v, v', v''], ⟨h, h', h'', _⟩ =>
    obtain ⟨a, a1, _, a2⟩ := (h.slice Try.underlying31).bytes
    obtain ⟨b, b1, _, _⟩ := (h'.slice Try.underlying31).bytes
    obtain ⟨c, c1, _, _⟩ := (h''.slice Try.underlying31).bytes
    exact sumThree_calls v v' v'' a b c W a1 b1 c1 (a2 rfl)
end Go.Proofs.Ytgikknkgpbgjaaa
