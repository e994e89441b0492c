/-
  Texts of one proof, one behind the other.
-/
import Derived.Test.YtgcnolapjppbpaaGreatDoorK15
namespace Go.Proofs.YtgcnolapjppbpaaGreatDoor
open Go.RowKit
set_option maxRecDepth 100000
def textR (l : List UInt8) : Int × List UInt8 × Nat :=
  if (numR l).1 = 0 then (if 32 < (numR l).2.1 then (3, [], 0) else if l.length - (numR l).2.2 < (numR l).2.1 then (2, [], 0) else (0, (l.drop (numR l).2.2).take (numR l).2.1, (numR l).2.2 + (numR l).2.1)) else ((numR l).1, [], 0)
theorem run_cutB (a : Option Addr) (n cap lo hi : Nat) (h1 : lo ≤ hi) (h2 : hi ≤ cap) (w : World) : (Instr.slice 92 (.slice a n cap) (some (.int .i64 (lo : Int))) (some (.int .i64 (hi : Int))) none).run Tryz.prog w = .ok (tailV a hi cap lo) w := by
  have hx : Tryz.prog.elem 92 = 5 := by unfold Program.elem; rw [Tryz.underlying92]
  have hsz : (sizeOf 5).run Tryz.prog w = .ok 1 w := by kernel_rfl
  rw [run_slice_lh w 92 a n cap (by rw [hx]; exact Tryz.underlying92) .i64 .i64 (lo : Int) (hi : Int) (by omega) (by omega) (by omega), hx, hsz]
  simp [Result.andThen, sliced, tailV]
theorem rd_heap {w w' : World} {v : Value} {n : Nat} {xs : List Value} (h : Rd w v n xs) (hh : w'.heap = w.heap) : Rd w' v n xs := h.keep (fun b _ _ => by rw [hh])
theorem cutRd {w : World} {a : Option Addr} {n cap lo hi : Nat} {l : List UInt8} (h : Rd w (.slice a n cap) n (l.map V8)) (h1 : lo ≤ hi) (h2 : hi ≤ n) : Rd w (tailV a hi cap lo) (hi - lo) (((l.drop lo).take (hi - lo)).map V8) := by
  have hc : hi ≤ cap := by obtain ⟨a', cap', e, h5, _⟩ := h; injection e with _ _ e3; omega
  have h3 := h.cut hc hi
  have h4 := tailV_rd (k := lo) h3 h1 (by rw [List.length_take]; omega)
  rw [← List.map_take, ← List.map_drop, List.drop_take] at h4
  exact h4
theorem wpStill_convert {P : Program} {ops : Array Oper} {rest : List Oper} {op : Oper} {a : Act} {w : World} {Q : Act → Prop} (hw : Region.wanted op (yielded ops a.tmps) = true) (s d : TypeId) (x : Operand) (ho : op.op = .convert s d x)
    (v r : Value) (hx : a.eval x = v) (hr : (convert s d v).run P w = .ok r w) (h : wpStill P ops w Q rest (a.put op.dst r)) : wpStill P ops w Q (op :: rest) a := by
  unfold wpStill
  rw [if_pos hw]
  unfold Oper.still execOp
  simp only [ho, hx, Sem.run_bind, Sem.run_pure, Result.andThen_ok, hr]
  exact ⟨rfl, h⟩
set_option maxHeartbeats 3200000 in
theorem text1_calls (r k b1 bm b6 : Nat) (v x : Value) (l : List UInt8) (t t2 t3 : TypeId) (w : World) (h : IsR w r v l k) (h1 : Box w b1 #[.pointer (some ⟨r, 0, none⟩)] t2) (hm : Box w bm #[.int .i64 32] t3) (h6 : Box w b6 #[x] t) (hne : b6 ≠ r) (hne1 : b1 ≠ r) (hnem : bm ≠ r) (hn16 : b1 ≠ b6) (hv : v.ownBlock ≠ some b6) :
    Calls Tryz.prog 179 #[.pointer (some ⟨b1, 0, none⟩), .pointer (some ⟨bm, 0, none⟩), .pointer (some ⟨b6, 0, none⟩)] w fun e w' => Mod (fun i => i = r ∨ i = b6) w w' ∧
      ((e = .returned (.tuple #[]) ∧ ((textR (l.drop k)).1 = 0 ∧ w'.cell? ⟨b6, 0, none⟩ = some (.string (SB (textR (l.drop k)).2.1)) ∧ IsR w' r v l (k + (textR (l.drop k)).2.2))) ∨ ∃ n, e = pan n ∧ (n = (textR (l.drop k)).1 ∧ (textR (l.drop k)).1 ≠ 0) ∧ ∃ j, IsR w' r v l j) := by
  have hrd := h.rd
  obtain ⟨a, cap, rfl, hq1, hq2, hq3, _⟩ := hrd
  have Hc := Lib.hid (sevens_calls r k _ l w h)
  obtain ⟨R, hR⟩ : ∃ R, R = textR (l.drop k) := ⟨_, rfl⟩
  rw [← hR]
  unfold textR at hR
  rw [List.length_drop, List.drop_drop] at hR
  generalize numR (l.drop k) = N at Hc hR
  obtain ⟨er, n, u⟩ := N
  have c1 := h1.cell 0 _ rfl
  have HX1 := Lib.hid h1
  have HXm := Lib.hid hm
  have HX6 := Lib.hid h6
  have hle0 := h.le
  have hsm := h.sm
  clear h h1 hm h6
  go_enter Tryz.func179, Tryz.ntmps179
  go_wp2_with fail
  refine Hc.out.mono ?_
  clear Hc
  rintro e w1 ⟨hmd, ⟨hn, rfl, hi⟩ | ⟨hn, rfl, hj⟩⟩
  rotate_left
  · have HM := Lib.hid (hmd.mono (fun i hi => Or.inl hi : ∀ i, i = r → i = r ∨ i = b6))
    have HN := Lib.hid (show R = (er, [], 0) by rw [hR, if_neg hn])
    have Hn := Lib.hid hn
    have HJ := Lib.hid hj
    clear hmd hn hj hR
    unfold pan
    go_wp2_with fail
    rw [HN.out]
    exact ⟨rfl, HM.out, .inr ⟨_, rfl, ⟨rfl, Hn.out⟩, HJ.out⟩⟩
  · simp only at hn hi hR ⊢
    rw [if_pos hn] at hR
    have hx1 := HX1.out.mod hmd hne1
    have hxm := HXm.out.mod hmd hnem
    have hx6 := HX6.out.mod hmd hne
    have HI := Lib.hid hi
    have HM := Lib.hid (hmd.mono (fun i hi => Or.inl hi : ∀ i, i = r → i = r ∨ i = b6))
    have d1 := hx1.cell 0 _ rfl
    have dm := hxm.cell 0 _ rfl
    have HX1' := Lib.hid hx1
    have HX6' := Lib.hid hx6
    clear hx1 hxm hx6 HX1 HXm HX6 hmd c1 hi hn
    by_cases hbig : 32 < n
    · have HN := Lib.hid (show R = (3, [], 0) by rw [hR, if_pos hbig])
      have g1 : (32 : Int) < (n : Int) := by omega
      clear hR hbig
      go_wp2_with fail
      rw [HN.out]
      exact ⟨rfl, HM.out, .inr ⟨_, rfl, ⟨rfl, by decide⟩, _, HI.out⟩⟩
    · rw [if_neg hbig] at hR
      have g1 : ¬ (32 : Int) < (n : Int) := by omega
      have HBig := Lib.hid hbig
      have HR := Lib.hid hR
      clear hbig hR
      go_wp2_with fail
      refine (left_calls r (k + u) _ l w1 HI.out).mono ?_
      rintro e w2 ⟨rfl, hb2, hi2⟩
      obtain ⟨d, hd⟩ : ∃ d, d = l.length - (k + u) := ⟨_, rfl⟩
      rw [← hd]
      have hle := hi2.le
      have zd : IntKind.u64.wrap (d : Int) = (d : Int) := wrap_u64n d (by omega)
      have HR' := HR
      have HI2 := Lib.hid hi2
      have HM2 := Lib.hid (HM.out.trans (Mod.of_below (F := fun i => i = r ∨ i = b6) hb2))
      have hx1 := HX1'.out.below hb2
      have hx6 := HX6'.out.below hb2
      have d2 := hx1.cell 0 _ rfl
      have HX1 := Lib.hid hx1
      have HX6 := Lib.hid hx6
      clear hi2 hb2 hx1 hx6 HX1' HX6' HM HI d1 dm
      by_cases hsh : d < n
      · have HN := Lib.hid (show R = (2, [], 0) by have h5 := HR.out; rw [show l.length - k - u = d by omega, if_pos hsh] at h5; exact h5)
        have g2 : (d : Int) < (n : Int) := by omega
        clear hsh hd hle
        go_wp2_with fail
        rw [HN.out]
        exact ⟨rfl, HM2.out, .inr ⟨_, rfl, ⟨rfl, by decide⟩, _, HI2.out⟩⟩
      · have hn32 := HBig.out
        obtain ⟨p, hp⟩ : ∃ p, p = k + u := ⟨_, rfl⟩
        rw [← hp] at hd hle HI2
        obtain ⟨q, hq⟩ : ∃ q, q = p + n := ⟨_, rfl⟩
        obtain ⟨T, hT⟩ : ∃ T, T = (l.drop p).take n := ⟨_, rfl⟩
        have HN := Lib.hid (show R = (0, T, u + n) by have h5 := HR.out; rw [show l.length - k - u = d by omega, if_neg hsh, ← hp, ← hT] at h5; exact h5)
        have g2 : ¬ (d : Int) < (n : Int) := by omega
        have zn : IntKind.i64.wrap (n : Int) = (n : Int) := by simp [IntKind.wrap, IntKind.bits, IntKind.signed]; omega
        have zs : IntKind.i64.wrap ((p : Int) + (n : Int)) = (q : Int) := by simp [IntKind.wrap, IntKind.bits, IntKind.signed]; omega
        obtain ⟨tv, htv⟩ : ∃ tv, tv = tailV a q cap p := ⟨_, rfl⟩
        have hsl : ∀ w, (Instr.slice 92 (.slice a l.length cap) (some (.int .i64 (p : Int))) (some (.int .i64 (q : Int))) none).run Tryz.prog w = .ok tv w := fun w => by rw [htv]; exact run_cutB a _ cap p q (by omega) (by omega) w
        have hcv : ∀ w', w'.heap = w2.heap → (convert 92 9 tv).run Tryz.prog w' = .ok (.string (SB T)) w' := fun w' hw' => by
          have h5 := cutRd HI2.out.rd (show p ≤ q by omega) (by omega)
          rw [show q - p = n by omega, ← htv, ← hT] at h5
          exact convS T (rd_heap h5 hw') (by rw [hT, List.length_take, List.length_drop]; omega)
        have c0 : w2.cell? ⟨r, 0, none⟩ = some (.slice a l.length cap) := HI2.out.box.cell 0 _ rfl
        have c1 : w2.cell? ⟨r, 1, none⟩ = some (.int .i64 (p : Int)) := HI2.out.box.cell 1 _ rfl
        have hb3 : Below w2.heap.size w2 w2.drew := below_drew _
        have hx6 : Box w2.drew b6 #[x] t := HX6.out
        have hx1 : Box w2.drew b1 #[.pointer (some ⟨r, 0, none⟩)] t2 := HX1.out
        have e6 : w2.cell? ⟨b6, 0, none⟩ = some x := hx6.cell 0 _ rfl
        have f6 : w2.frozen? ⟨b6, 0, none⟩ = false := hx6.free 0
        have hms := Mod.set (fun i => i = b6) w2.drew ⟨b6, 0, none⟩ (.string (SB T)) rfl
        have hi3 := (HI2.out.below hb3).mod hms (fun e => hne e.symm) (fun b hb e => hv (by rw [hb, e]))
        have hx13 := hx1.mod hms hn16
        have c3 : (w2.setCell ⟨b6, 0, none⟩ (.string (SB T))).cell? ⟨r, 1, none⟩ = some (.int .i64 (p : Int)) := hi3.box.cell 1 _ rfl
        have f3 : (w2.setCell ⟨b6, 0, none⟩ (.string (SB T))).frozen? ⟨r, 1, none⟩ = false := hi3.box.free 1
        have d3 : (w2.setCell ⟨b6, 0, none⟩ (.string (SB T))).cell? ⟨b1, 0, none⟩ = some (.pointer (some ⟨r, 0, none⟩)) := hx13.cell 0 _ rfl
        obtain ⟨hs1, hs2⟩ := hi3.set q (by omega)
        have HS1 := Lib.hid hs1
        have HC6 := Lib.hid ((cell_other (w := w2.drew.setCell ⟨b6, 0, none⟩ (.string (SB T))) (a := ⟨b6, 0, none⟩) (b := ⟨r, 1, none⟩) (.int .i64 (q : Int)) hne).trans ((hx6.set 0 (.string (SB T))).cell 0 _ rfl))
        have HM4 := Lib.hid (((HM2.out.trans (Mod.of_below hb3)).trans (hms.mono (fun i hi => Or.inr hi : ∀ i, i = b6 → i = r ∨ i = b6))).trans (hs2.mono (fun i hi => Or.inl hi : ∀ i, i = r → i = r ∨ i = b6)))
        have HQ := Lib.hid (show q = k + (u + n) by omega)
        clear hT htv hq hp hd hsh hx6 hx1 hms hi3 hx13 hs1 hs2 hb3 hle HR HR' HBig hn32
        go_wp2_with fail
        go_still_tail 17, (by kernel_rfl)
        refine wpStill_convert rfl 92 9 (.tmp 33) rfl tv _ rfl (hcv _ rfl) ?_
        refine wpStill_nil ?_
        change wpList _ _ _ _ _ w2.drew
        go_wp2_with fail
        refine bodyPost_end (results_none rfl _ _ _) rfl ?_
        rw [HN.out]
        refine ⟨HM4.out, .inl ⟨rfl, rfl, HC6.out, ?_⟩⟩
        show IsR _ r _ l (k + (u + n))
        rw [← HQ.out]; exact HS1.out
set_option maxHeartbeats 1600000 in
theorem rText_calls (r k : Nat) (v : Value) (l : List UInt8) (w : World) (h : IsR w r v l k) (hvl : ∀ b, v.ownBlock = some b → b < w.heap.size) :
    Calls Tryz.prog 160 #[.pointer (some ⟨r, 0, none⟩), .int .i64 32] w fun e w' => Mod (fun i => i = r) w w' ∧
      (((textR (l.drop k)).1 = 0 ∧ e = .returned (.tuple #[.string (SB (textR (l.drop k)).2.1), .nilIface]) ∧ IsR w' r v l (k + (textR (l.drop k)).2.2)) ∨ ((textR (l.drop k)).1 ≠ 0 ∧ e = .returned (.tuple #[.string ⟨#[]⟩, .iface 91 (.int .i64 (textR (l.drop k)).1)]) ∧ IsR w' r v l k)) := by
  have hmf : ∀ (fn : Fn) (first cap : Array Value) (w : World), (Instr.makeFunc fn first cap).run Tryz.prog w = .ok (.func fn first cap) w := fun _ _ _ _ => rfl
  have hrl := h.box.lt
  obtain ⟨w2, hw2⟩ : ∃ w2, w2 = ((w.alloc (.cells #[.pointer (some ⟨r, 0, none⟩)] 235)).alloc (.cells #[.int .i64 32] 3)).alloc (.cells #[.string ⟨#[]⟩] 9) := ⟨_, rfl⟩
  have hsz : w2.heap.size = w.heap.size + 3 := by rw [hw2, World.size_alloc, World.size_alloc, World.size_alloc]
  have hb2 : Below w.heap.size w w2 := by rw [hw2]; exact ((below_alloc w _).trans ((below_alloc _ _).mono (by simp))).trans ((below_alloc _ _).mono (by simp; omega))
  have hb3 : Below w2.heap.size w2 (TakeW w2 r k) := by unfold TakeW; exact ((below_alloc w2 _).trans ((below_alloc _ _).mono (by simp))).trans ((below_alloc _ _).mono (by simp; omega))
  have hx1 : Box w2 w.heap.size #[.pointer (some ⟨r, 0, none⟩)] 235 := by rw [hw2]; exact ((Box.new w _ _).below (below_alloc _ _)).below (below_alloc _ _)
  have hxm : Box w2 (w.heap.size + 1) #[.int .i64 32] 3 := by
    rw [hw2]; have := (Box.new (w.alloc (.cells #[.pointer (some ⟨r, 0, none⟩)] 235)) #[.int .i64 32] 3).below (below_alloc _ (.cells #[.string ⟨#[]⟩] 9))
    rw [World.size_alloc] at this; exact this
  have hx6 : Box w2 (w.heap.size + 2) #[.string ⟨#[]⟩] 9 := by
    rw [hw2]; have := Box.new ((w.alloc (.cells #[.pointer (some ⟨r, 0, none⟩)] 235)).alloc (.cells #[.int .i64 32] 3)) #[.string ⟨#[]⟩] 9
    rw [World.size_alloc, World.size_alloc] at this; exact this
  have hi3 := (h.below hb2).below hb3
  have hc := take_text r k v l ⟨w.heap.size, 0, none⟩ ⟨w.heap.size + 1, 0, none⟩ ⟨w.heap.size + 2, 0, none⟩ w2 (h.below hb2) _ _ (fun i => i = r ∨ i = w.heap.size + 2) (fun i hi => by omega)
    (text1_calls r k w.heap.size (w.heap.size + 1) (w.heap.size + 2) v _ l 9 235 3 (TakeW w2 r k) hi3 (hx1.below hb3) (hxm.below hb3) (hx6.below hb3) (by omega) (by omega) (by omega) (by omega) (fun e => by have := hvl _ e; omega))
  rw [hw2] at hc
  have HC := Lib.hid hc
  rw [← hw2] at HC
  clear hc
  have HB2 := Lib.hid hb2
  have HB3 := Lib.hid hb3
  have HLE := Lib.hid h.le
  clear hb2 hb3 hx1 hxm hx6 hi3 h
  generalize textR (l.drop k) = N at HC ⊢
  go_enter Tryz.func160, Tryz.ntmps160
  go_wp2_with fail
  rw [← hw2]
  clear hw2
  refine HC.out.mono ?_
  rintro e w9 (⟨rfl, w1, ⟨hn, hcl, hi⟩, hm, rfl⟩ | ⟨n, rfl, w1, ⟨rfl, hn⟩, hm, ⟨j, hj⟩, rfl⟩)
  · have hms := Mod.set (fun i => i = w2.heap.size + 1) w1 ⟨w2.heap.size + 1, 0, none⟩ .nilIface rfl
    have c4 := (cell_other (w := w1) (a := ⟨w.heap.size + 2, 0, none⟩) (b := ⟨w2.heap.size + 1, 0, none⟩) .nilIface (by simp; omega)).trans hcl
    have HI := Lib.hid (hi.mod hms (by omega) (fun b hb e => by have := hvl _ hb; omega))
    have HM := Lib.hid (rmod HB2.out HB3.out hm (by omega) (hms.mono (G := fun i => i = r ∨ w.heap.size ≤ i) (fun i hi => .inr (by omega))))
    have HN := Lib.hid hn
    clear hn hcl hi hm hms HC hsz
    go_wp2_with fail
    refine bodyPost_ret (results_tmp2 rfl _ _ _) rfl ?_
    exact ⟨HM.out, .inl ⟨HN.out, rfl, HI.out⟩⟩
  · obtain ⟨hs1, hs2⟩ := hj.set k HLE.out
    have hms := Mod.set (fun i => i = w2.heap.size + 1) (w1.setCell ⟨r, 1, none⟩ (.int .i64 (k : Int))) ⟨w2.heap.size + 1, 0, none⟩ (.iface 91 (.int .i64 N.1)) rfl
    have HI := Lib.hid (hs1.mod hms (by omega) (fun b hb e => by have := hvl _ hb; omega))
    have HM := Lib.hid (rmod HB2.out HB3.out hm (by omega) ((hs2.mono (G := fun i => i = r ∨ w.heap.size ≤ i) (fun i hi => .inl hi)).trans (hms.mono (G := fun i => i = r ∨ w.heap.size ≤ i) (fun i hi => .inr (by omega)))))
    have HN := Lib.hid hn
    clear hn hj hm hms hs1 hs2 HC hsz
    go_wp2_with fail
    refine bodyPost_ret (results_tmp2 rfl _ _ _) rfl ?_
    exact ⟨HM.out, .inr ⟨HN.out, rfl, HI.out⟩⟩
end Go.Proofs.YtgcnolapjppbpaaGreatDoor
