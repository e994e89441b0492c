/-
  The document's Born: a session that is taken.
-/
import Derived.Test.YtdaimaibnjkfbaaGreatDoorRefTk
import Derived.Test.YtdaimaibnjkfbaaGreatDoorDecM
namespace Go.Proofs.YtdaimaibnjkfbaaGreatDoor
open Go.RowKit
set_option maxRecDepth 100000

def bornR (s : TkM) : SesM × TkM :=
  let a := s.rint
  let b := a.2.rint
  let c := b.2.rint
  let d := c.2.rint
  let f := d.2.rint
  let u := f.2.txt
  let l := u.2.txt
  let sc := l.2.num
  let g := sc.2.rint
  let h := g.2.rint
  let i := h.2.rint
  let j := i.2.rint
  (⟨a.1, b.1, c.1, d.1, f.1, u.1, l.1, sc.1, g.1, h.1, i.1, j.1⟩, j.2)
structure BorSt (w0 w : World) (t : Nat) (v0 v : Value) (s : TkM) (E : SesM) : Prop where
  k : IsK w t v s
  vo : v.ownBlock = v0.ownBlock
  bx : Box w (w0.heap.size + 1) E.cells 61
  bz : Box w w0.heap.size noSes.cells 61
  md : Mod (fun i => i = t) w0 w
  lt : t < w0.heap.size
  vl : ∀ b, v0.ownBlock = some b → b < w0.heap.size
theorem BorSt.call {w0 w w' : World} {t : Nat} {v0 v v' : Value} {s s' : TkM} {E : SesM} (h : BorSt w0 w t v0 v s E) (hk : IsK w' t v' s') (hv : v'.ownBlock = v.ownBlock) (hm : Mod (fun i => i = t) w w') : BorSt w0 w' t v0 v' s' E := by
  have hl := h.lt
  exact ⟨hk, hv.trans h.vo, h.bx.mod hm (fun e => by omega), h.bz.mod hm (fun e => by omega), h.md.trans hm, h.lt, h.vl⟩
theorem BorSt.set {w0 w : World} {t : Nat} {v0 v : Value} {s : TkM} {E : SesM} (h : BorSt w0 w t v0 v s E) (j : Nat) (x : Value) (E' : SesM) (he : E.cells.setIfInBounds j x = E'.cells) : BorSt w0 (w.setCell ⟨w0.heap.size + 1, j, none⟩ x) t v0 v s E' := by
  have hl := h.lt
  have hms := Mod.set (fun i => i = w0.heap.size + 1) w ⟨w0.heap.size + 1, j, none⟩ x rfl
  refine ⟨h.k.mod hms (fun e => by omega) (fun b hb e => by have := h.vl b (by rw [← h.vo]; exact hb); omega), h.vo, ?_, h.bz.mod hms (fun e => by omega), h.md.then hms (fun i hi => .inr (by omega)), h.lt, h.vl⟩
  have := h.bx.set j x
  rw [he] at this; exact this
set_option maxHeartbeats 6400000 in
theorem refBorn_calls (t : Nat) (v : Value) (s : TkM) (w : World) (h : IsK w t v s) (hvl : ∀ b, v.ownBlock = some b → b < w.heap.size) :
    Calls Tryz.prog 14 #[.pointer (some ⟨t, 0, none⟩)] w fun e w' => e = .returned (.agg (bornR s).1.cells) ∧ (∃ v', IsK w' t v' (bornR s).2 ∧ v'.ownBlock = v.ownBlock) ∧ Mod (fun i => i = t) w w' := by
  have hst : BorSt w ((w.alloc (.cells #[.int .i64 0, .int .i64 0, .int .i64 0, .int .i64 0, .int .i64 0, .string ⟨#[]⟩, .string ⟨#[]⟩, .int .u64 0, .int .i64 0, .int .i64 0, .int .i64 0, .int .i64 0] 61)).alloc (.cells #[.int .i64 0, .int .i64 0, .int .i64 0, .int .i64 0, .int .i64 0, .string ⟨#[]⟩, .string ⟨#[]⟩, .int .u64 0, .int .i64 0, .int .i64 0, .int .i64 0, .int .i64 0] 61)) t v v s noSes := ⟨h.below (below_two _ _ _), rfl, by have := Box.new (w.alloc (.cells #[.int .i64 0, .int .i64 0, .int .i64 0, .int .i64 0, .int .i64 0, .string ⟨#[]⟩, .string ⟨#[]⟩, .int .u64 0, .int .i64 0, .int .i64 0, .int .i64 0, .int .i64 0] 61)) noSes.cells 61; rw [World.size_alloc] at this; exact this, (Box.new w noSes.cells 61).below (below_alloc _ _), Mod.of_below (below_two _ _ _), h.box.lt, hvl⟩
  obtain ⟨B, hB⟩ : ∃ B, B = bornR s := ⟨_, rfl⟩
  rw [← hB]
  unfold bornR at hB
  simp only at hB
  have HS0 := Lib.hid hst
  have hlt := hst.lt
  clear hst h hvl hlt
  go_enter Tryz.func14, Tryz.ntmps14
  go_wp2_with fail
  refine (refTkInt_calls t _ s _ HS0.out.k).mono ?_
  rintro e w1 ⟨rfl, ⟨v1, hk, hv⟩, hm⟩
  have hc := HS0.out.call hk hv hm
  clear hk hv hm HS0
  generalize s.rint = p at hc hB ⊢
  obtain ⟨n0, s1⟩ := p
  simp only at hc hB ⊢
  have x0 := hc.bx.cell 0 _ rfl
  have y0 := hc.bx.free 0
  have HS1 := Lib.hid (hc.set 0 (.int .i64 n0) ⟨n0, 0, 0, 0, 0, [], [], 0, 0, 0, 0, 0⟩ rfl)
  clear hc
  go_wp2_with fail
  refine (refTkInt_calls t _ s1 _ HS1.out.k).mono ?_
  rintro e w2 ⟨rfl, ⟨v2, hk, hv⟩, hm⟩
  have hc := HS1.out.call hk hv hm
  clear hk hv hm HS1
  clear x0 y0
  generalize s1.rint = p at hc hB ⊢
  obtain ⟨n1, s2⟩ := p
  simp only at hc hB ⊢
  have x1 := hc.bx.cell 1 _ rfl
  have y1 := hc.bx.free 1
  have HS2 := Lib.hid (hc.set 1 (.int .i64 n1) ⟨n0, n1, 0, 0, 0, [], [], 0, 0, 0, 0, 0⟩ rfl)
  clear hc
  go_wp2_with fail
  refine (refTkInt_calls t _ s2 _ HS2.out.k).mono ?_
  rintro e w3 ⟨rfl, ⟨v3, hk, hv⟩, hm⟩
  have hc := HS2.out.call hk hv hm
  clear hk hv hm HS2
  clear x1 y1
  generalize s2.rint = p at hc hB ⊢
  obtain ⟨n2, s3⟩ := p
  simp only at hc hB ⊢
  have x2 := hc.bx.cell 2 _ rfl
  have y2 := hc.bx.free 2
  have HS3 := Lib.hid (hc.set 2 (.int .i64 n2) ⟨n0, n1, n2, 0, 0, [], [], 0, 0, 0, 0, 0⟩ rfl)
  clear hc
  go_wp2_with fail
  refine (refTkInt_calls t _ s3 _ HS3.out.k).mono ?_
  rintro e w4 ⟨rfl, ⟨v4, hk, hv⟩, hm⟩
  have hc := HS3.out.call hk hv hm
  clear hk hv hm HS3
  clear x2 y2
  generalize s3.rint = p at hc hB ⊢
  obtain ⟨n3, s4⟩ := p
  simp only at hc hB ⊢
  have x3 := hc.bx.cell 3 _ rfl
  have y3 := hc.bx.free 3
  have HS4 := Lib.hid (hc.set 3 (.int .i64 n3) ⟨n0, n1, n2, n3, 0, [], [], 0, 0, 0, 0, 0⟩ rfl)
  clear hc
  go_wp2_with fail
  refine (refTkInt_calls t _ s4 _ HS4.out.k).mono ?_
  rintro e w5 ⟨rfl, ⟨v5, hk, hv⟩, hm⟩
  have hc := HS4.out.call hk hv hm
  clear hk hv hm HS4
  clear x3 y3
  generalize s4.rint = p at hc hB ⊢
  obtain ⟨n4, s5⟩ := p
  simp only at hc hB ⊢
  have x4 := hc.bx.cell 4 _ rfl
  have y4 := hc.bx.free 4
  have HS5 := Lib.hid (hc.set 4 (.int .i64 n4) ⟨n0, n1, n2, n3, n4, [], [], 0, 0, 0, 0, 0⟩ rfl)
  clear hc
  go_wp2_with fail
  refine (refTkText_calls t _ s5 _ HS5.out.k).mono ?_
  rintro e w6 ⟨rfl, ⟨v6, hk, hv⟩, hm⟩
  have hc := HS5.out.call hk hv hm
  clear hk hv hm HS5
  clear x4 y4
  generalize s5.txt = p at hc hB ⊢
  obtain ⟨n5, s6⟩ := p
  simp only at hc hB ⊢
  have x5 := hc.bx.cell 5 _ rfl
  have y5 := hc.bx.free 5
  have HS6 := Lib.hid (hc.set 5 (.string (SB n5)) ⟨n0, n1, n2, n3, n4, n5, [], 0, 0, 0, 0, 0⟩ rfl)
  clear hc
  go_wp2_with fail
  refine (refTkText_calls t _ s6 _ HS6.out.k).mono ?_
  rintro e w7 ⟨rfl, ⟨v7, hk, hv⟩, hm⟩
  have hc := HS6.out.call hk hv hm
  clear hk hv hm HS6
  clear x5 y5
  generalize s6.txt = p at hc hB ⊢
  obtain ⟨n6, s7⟩ := p
  simp only at hc hB ⊢
  have x6 := hc.bx.cell 6 _ rfl
  have y6 := hc.bx.free 6
  have HS7 := Lib.hid (hc.set 6 (.string (SB n6)) ⟨n0, n1, n2, n3, n4, n5, n6, 0, 0, 0, 0, 0⟩ rfl)
  clear hc
  go_wp2_with fail
  refine (refTkNumber_calls t _ s7 _ HS7.out.k).mono ?_
  rintro e w8 ⟨rfl, ⟨v8, hk, hv⟩, hm⟩
  have hc := HS7.out.call hk hv hm
  clear hk hv hm HS7
  clear x6 y6
  generalize s7.num = p at hc hB ⊢
  obtain ⟨n7, s8⟩ := p
  simp only at hc hB ⊢
  have x7 := hc.bx.cell 7 _ rfl
  have y7 := hc.bx.free 7
  have HS8 := Lib.hid (hc.set 7 (.int .u64 (n7 : Int)) ⟨n0, n1, n2, n3, n4, n5, n6, n7, 0, 0, 0, 0⟩ rfl)
  clear hc
  go_wp2_with fail
  refine (refTkInt_calls t _ s8 _ HS8.out.k).mono ?_
  rintro e w9 ⟨rfl, ⟨v9, hk, hv⟩, hm⟩
  have hc := HS8.out.call hk hv hm
  clear hk hv hm HS8
  clear x7 y7
  generalize s8.rint = p at hc hB ⊢
  obtain ⟨n8, s9⟩ := p
  simp only at hc hB ⊢
  have x8 := hc.bx.cell 8 _ rfl
  have y8 := hc.bx.free 8
  have HS9 := Lib.hid (hc.set 8 (.int .i64 n8) ⟨n0, n1, n2, n3, n4, n5, n6, n7, n8, 0, 0, 0⟩ rfl)
  clear hc
  go_wp2_with fail
  refine (refTkInt_calls t _ s9 _ HS9.out.k).mono ?_
  rintro e w10 ⟨rfl, ⟨v10, hk, hv⟩, hm⟩
  have hc := HS9.out.call hk hv hm
  clear hk hv hm HS9
  clear x8 y8
  generalize s9.rint = p at hc hB ⊢
  obtain ⟨n9, s10⟩ := p
  simp only at hc hB ⊢
  have x9 := hc.bx.cell 9 _ rfl
  have y9 := hc.bx.free 9
  have HS10 := Lib.hid (hc.set 9 (.int .i64 n9) ⟨n0, n1, n2, n3, n4, n5, n6, n7, n8, n9, 0, 0⟩ rfl)
  clear hc
  go_wp2_with fail
  refine (refTkInt_calls t _ s10 _ HS10.out.k).mono ?_
  rintro e w11 ⟨rfl, ⟨v11, hk, hv⟩, hm⟩
  have hc := HS10.out.call hk hv hm
  clear hk hv hm HS10
  clear x9 y9
  generalize s10.rint = p at hc hB ⊢
  obtain ⟨n10, s11⟩ := p
  simp only at hc hB ⊢
  have x10 := hc.bx.cell 10 _ rfl
  have y10 := hc.bx.free 10
  have HS11 := Lib.hid (hc.set 10 (.int .i64 n10) ⟨n0, n1, n2, n3, n4, n5, n6, n7, n8, n9, n10, 0⟩ rfl)
  clear hc
  go_wp2_with fail
  refine (refTkInt_calls t _ s11 _ HS11.out.k).mono ?_
  rintro e w12 ⟨rfl, ⟨v12, hk, hv⟩, hm⟩
  have hc := HS11.out.call hk hv hm
  clear hk hv hm HS11
  clear x10 y10
  generalize s11.rint = p at hc hB ⊢
  obtain ⟨n11, s12⟩ := p
  simp only at hc hB ⊢
  have x11 := hc.bx.cell 11 _ rfl
  have y11 := hc.bx.free 11
  have HS12 := Lib.hid (hc.set 11 (.int .i64 n11) ⟨n0, n1, n2, n3, n4, n5, n6, n7, n8, n9, n10, n11⟩ rfl)
  clear hc
  have HR := Lib.hid (HS12.out.bx.range 0 [.int .i64 n0, .int .i64 n1, .int .i64 n2, .int .i64 n3, .int .i64 n4, .string (SB n5), .string (SB n6), .int .u64 (n7 : Int), .int .i64 n8, .int .i64 n9, .int .i64 n10, .int .i64 n11] (fun j v hv => by rw [Nat.zero_add, ← Array.getElem?_toList]; exact hv))
  have HTH := Lib.hid (HS12.out.bz.there 0 12 (by show 0 + 12 ≤ 12; decide))
  have HBB := Lib.hid hB
  clear hB
  go_wp2_with ((with_reducible refine wpList_load_k ?qa_0 61 (.tmp 3) ?qa_1 (w.heap.size + 1) 0 ?qa_2 [.int .i64 n0, .int .i64 n1, .int .i64 n2, .int .i64 n3, .int .i64 n4, .string (SB n5), .string (SB n6), .int .u64 (n7 : Int), .int .i64 n8, .int .i64 n9, .int .i64 n10, .int .i64 n11] _ HR.out Tryz.underlying61 ?qa_3 ?qa_4 ?qa_8); (case qa_1 => rfl); (case qa_0 => rfl); (case qa_2 => rfl); (case qa_3 => rfl); (case qa_4 => kernel_rfl))
  intro cv hcv
  clear x11 y11
  go_wp2_with ((with_reducible refine wpList_store_k ?qb_0 61 (.tmp 2) (.tmp 43) ?qb_1 w.heap.size 0 [.int .i64 n0, .int .i64 n1, .int .i64 n2, .int .i64 n3, .int .i64 n4, .string (SB n5), .string (SB n6), .int .u64 (n7 : Int), .int .i64 n8, .int .i64 n9, .int .i64 n10, .int .i64 n11] ?qb_2 cv ?qb_3 hcv ?qb_6 ?qb_4 ?qb_5 ?qb_8); (case qb_6 => exact HTH.out); (case qb_1 => rfl); (case qb_0 => rfl); (case qb_2 => rfl); (case qb_3 => rfl); (case qb_4 => kernel_rfl); (case qb_5 => exact SesM.one ⟨n0, n1, n2, n3, n4, n5, n6, n7, n8, n9, n10, n11⟩))
  intro wz hwz
  have hbz := HS12.out.bz.setAll [.int .i64 n0, .int .i64 n1, .int .i64 n2, .int .i64 n3, .int .i64 n4, .string (SB n5), .string (SB n6), .int .u64 (n7 : Int), .int .i64 n8, .int .i64 n9, .int .i64 n10, .int .i64 n11] rfl
  have hlt := HS12.out.lt
  rw [← hwz.out] at hbz
  have hmz : Mod (fun i => i = w.heap.size) (w12.setCell ⟨w.heap.size + 1, 11, none⟩ (.int .i64 n11)) wz := by rw [hwz.out]; exact Mod.setCells (fun i => i = w.heap.size) w.heap.size rfl [.int .i64 n0, .int .i64 n1, .int .i64 n2, .int .i64 n3, .int .i64 n4, .string (SB n5), .string (SB n6), .int .u64 (n7 : Int), .int .i64 n8, .int .i64 n9, .int .i64 n10, .int .i64 n11] 0 _
  have HZ := Lib.hid hbz
  have HK := Lib.hid (HS12.out.k.mod hmz (fun e => by omega) (fun b hb e => by have := HS12.out.vl b (by rw [← HS12.out.vo]; exact hb); omega))
  have HMD := Lib.hid (HS12.out.md.then hmz (fun i hi => .inr (by omega)))
  have HVO := Lib.hid HS12.out.vo
  clear hbz hmz hwz hcv hlt
  go_wp2_with fail
  refine ret_cell rfl rfl w.heap.size 0 rfl [.int .i64 n0, .int .i64 n1, .int .i64 n2, .int .i64 n3, .int .i64 n4, .string (SB n5), .string (SB n6), .int .u64 (n7 : Int), .int .i64 n8, .int .i64 n9, .int .i64 n10, .int .i64 n11] _ (HZ.out.range 0 _ (fun j v hv => by rw [Nat.zero_add, ← Array.getElem?_toList]; exact hv)) Tryz.underlying61 rfl (by kernel_rfl) ?_
  rw [HBB.out]
  exact ⟨rfl, ⟨_, HK.out, HVO.out⟩, HMD.out⟩
end Go.Proofs.YtdaimaibnjkfbaaGreatDoor
