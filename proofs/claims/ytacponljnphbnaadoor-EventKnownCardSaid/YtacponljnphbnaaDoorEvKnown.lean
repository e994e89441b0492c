/-
  The law EventKnown.
-/
import Derived.Test.YtacponljnphbnaaDoorKnE
import Derived.Test.YtacponljnphbnaaDoorUniM
import Derived.Outline
namespace Go.Proofs.YtacponljnphbnaaDoor
open Go.RowKit
set_option maxRecDepth 100000

theorem wpList_buildSlice_k {P : Program} {ops : Array Oper} {rest : List Oper} {op : Oper} {a : Act} {w : World} {Q : Exit → Act → World → Prop} (hw : Region.wanted op (yielded ops a.tmps) = true) (t : TypeId) (n : Nat) (parts : Array (Nat × Operand)) (ho : op.op = .buildSlice t n parts)
    (vals : Array (Nat × Value)) (hv : (parts.map fun (i, x) => (i, a.eval x)) = vals) (cs : Array Value) (e : TypeId) (hr : (Instr.buildSlice t n vals).run P w = .ok (.slice (some ⟨w.heap.size, 0, none⟩) n n) (w.alloc (.cells cs e)))
    (h : ∀ w', Hid (w' = w.alloc (.cells cs e)) → wpList P ops Q rest (a.put op.dst (.slice (some ⟨w.heap.size, 0, none⟩) n n)) w') : wpList P ops Q (op :: rest) a w := by
  rw [wpList, if_pos hw]
  refine .inl ?_
  unfold Oper.wp execOp
  simp only [ho, Sem.run_bind, hv, hr, Result.andThen_ok, Sem.run_pure]
  exact h _ (Lib.hid rfl)
theorem exec_load_k {P : Program} {a : Act} {w : World} {op : Oper} (ty : TypeId) (x : Operand) (ho : op.op = .load ty x)
    (b o : Nat) (hx : a.eval x = .pointer (some ⟨b, o, none⟩)) (cs : List Value) (d : TypeDesc) (hc : w.rangeAt b o cs)
    (hu : P.underlying ty = some d) (hd : d.isRow = true) (hi : (P.info? ty).map (·.size) = some cs.length) : (execOp a.eval op).run P w = .ok (.value (.agg cs.toArray)) w := by
  unfold execOp
  simp only [ho, hx, Instr.loadAt, Instr.sureAddr, Sem.run_bind, Sem.run_pure, Result.andThen_ok, run_loadVar_mid w b o ty cs d hc hu hd hi]
theorem no_any (k : Nat) (hk : k < 19) (w : World) (hg : ErrType w) : Calls Tryd.prog 21 #[.int .i64 (k : Int)] w fun ev w' => ev = .returned (.bool true) ∧ Below w.heap.size w w' := by
  rcases (show k = 0 ∨ k = 1 ∨ k = 2 ∨ k = 3 ∨ k = 4 ∨ k = 5 ∨ k = 6 ∨ k = 7 ∨ k = 8 ∨ k = 9 ∨ k = 10 ∨ k = 11 ∨ k = 12 ∨ k = 13 ∨ k = 14 ∨ k = 15 ∨ k = 16 ∨ k = 17 ∨ k = 18 by omega) with rfl | rfl | rfl | rfl | rfl | rfl | rfl | rfl | rfl | rfl | rfl | rfl | rfl | rfl | rfl | rfl | rfl | rfl | rfl
  · exact no_calls0 w hg
  · exact no_calls1 w hg
  · exact no_calls2 w hg
  · exact no_calls3 w hg
  · exact no_calls4 w hg
  · exact no_calls5 w hg
  · exact no_calls6 w hg
  · exact no_calls7 w hg
  · exact no_calls8 w hg
  · exact no_calls9 w hg
  · exact no_calls10 w hg
  · exact no_calls11 w hg
  · exact no_calls12 w hg
  · exact no_calls13 w hg
  · exact no_calls14 w hg
  · exact no_calls15 w hg
  · exact no_calls16 w hg
  · exact no_calls17 w hg
  · exact no_calls18 w hg
def evL : List EvtM := [⟨2, noSes, 0, 0⟩, ⟨1, noSes, 1, 1⟩, ⟨3, noSes, 0, 0⟩, ⟨-1, noSes, 0, 0⟩, ⟨2, noSes, 0, 1073741825⟩, ⟨1, noSes, 1048577, 0⟩, ⟨1, noSes, 0, 0⟩, ⟨2, ⟨0, 0, 0, 0, 0, [], [], 0, 0, 0, 0, 1⟩, 0, 1⟩, ⟨0, ⟨3, 1, 0, 0, 0, [97, 110, 110], [116, 118], 0, 0, 0, 300, 0⟩, 0, 0⟩, ⟨0, ⟨3, 1, 1, 0, 0, [97, 110, 110], [], 0, 0, 0, 300, 0⟩, 0, 0⟩]
def wrongL : List (List UInt8) := [[], [3], [3, 0], [1], [1, 0], [1, 1, 0], [2, 128, 0], [0, 3, 1, 0, 0, 0, 33], [1, 255, 255, 255, 255, 255, 255, 255, 255, 255, 1], [255, 255, 255, 255, 255, 255, 255, 255, 255, 1]]
def nosL : List Int := [2, 1, 1, 2, 1, 3, 4, 3, 1, 1]
theorem evL_len : evL.length = 10 := rfl
theorem evL_no : ∀ e ∈ evL, encN e = 1 := by decide +kernel
theorem evL_fit : ∀ e ∈ evL, e.s.user.length ≤ 9223372036854775807 ∧ e.s.label.length ≤ 9223372036854775807 ∧ e.s.scopes < 2 ^ 64 := by decide +kernel
theorem wrongL_len : wrongL.length = 10 := rfl
theorem nosL_len : nosL.length = 10 := rfl
theorem wrong_no : ∀ k, k < 10 → (decM (wrongL.getD k [])).1 = nosL.getD k 0 := by decide +kernel
theorem wrong_small : ∀ k, k < 10 → (wrongL.getD k []).length ≤ 11 := by decide +kernel
theorem nos_er : ∀ k, k < 10 → 1 ≤ nosL.getD k 0 ∧ nosL.getD k 0 ≤ 4 := by decide +kernel
theorem encM_login : encM loginE = [0, 3, 1, 0, 0, 0, 3, 97, 110, 110, 0, 7, 1, 0, 172, 2, 0] := by decide +kernel
theorem encN_login : encN loginE = 0 := by decide +kernel
def tickE : EvtM := ⟨2, noSes, 0, 5⟩
theorem encM_tick : encM tickE = [2, 5] := by decide +kernel
theorem encN_tick : encN tickE = 0 := by decide +kernel
theorem encN_child : encN childE = 0 := by decide +kernel
theorem decM_child : decM (encM childE) = (0, childE) := by kernel_rfl
theorem flat15 : ∀ (L : List EvtM) (k j : Nat), j < 15 → (L.flatMap (fun e => e.cells.toList))[k * 15 + j]? = L[k]?.bind (fun e => e.cells.toList[j]?)
  | [], _, _, _ => by simp
  | e :: L, k, j, hj => by
    have h15 : e.cells.toList.length = 15 := rfl
    rw [List.flatMap_cons]
    cases k with
    | zero =>
      rw [List.getElem?_append_left (by omega)]
      simp
    | succ k =>
      rw [List.getElem?_append_right (by omega), h15, show (k + 1) * 15 + j - 15 = k * 15 + j by omega, flat15 L k j hj]
      simp
theorem rowE {w : World} {b : Nat} {L : List EvtM} {t : TypeId} (h : Box w b (L.flatMap (fun e => e.cells.toList)).toArray t) (k : Nat) (hk : k < L.length) : w.rangeAt b (k * 15) L[k].cells.toList := by
  intro j v hv
  have hj : j < 15 := by
    have := (List.getElem?_eq_some_iff.1 hv).1
    exact this
  refine h.cell _ _ ?_
  rw [List.getElem?_toArray, flat15 L k j hj, List.getElem?_eq_getElem hk]
  exact hv
theorem buildEvs (w : World) : (Instr.buildSlice 53 10 #[(0, .agg evL[0].cells), (1, .agg evL[1].cells), (2, .agg evL[2].cells), (3, .agg evL[3].cells), (4, .agg evL[4].cells), (5, .agg evL[5].cells), (6, .agg evL[6].cells), (7, .agg evL[7].cells), (8, .agg evL[8].cells), (9, .agg evL[9].cells)]).run Tryd.prog w = .ok (.slice (some ⟨w.heap.size, 0, none⟩) 10 10) (w.alloc (.cells (evL.flatMap (fun e => e.cells.toList)).toArray 29)) := by kernel_rfl
/-- What stands in the two rows of the third loop. -/
structure WrS (w : World) (wb nb : Nat) : Prop where
  wr : ∀ k, k < 10 → ∃ a n c, w.cell? ⟨wb, k, none⟩ = some (.slice a n c) ∧ Rd w (.slice a n c) (wrongL.getD k []).length ((wrongL.getD k []).map V8)
  no : ∀ k, k < 10 → w.cell? ⟨nb, k, none⟩ = some (.int .i64 (nosL.getD k 0))
theorem WrS.below {w w' : World} {wb nb : Nat} (h : WrS w wb nb) (hb : Below w.heap.size w w') : WrS w' wb nb :=
  ⟨fun k hk => by obtain ⟨a, n, c, h1, h2⟩ := h.wr k hk; exact ⟨a, n, c, below_heap hb h1, h2.below hb⟩, fun k hk => below_heap hb (h.no k hk)⟩
def wrL (w : World) : List Obj := [.cells #[.int .u8 3] 5, .cells #[.int .u8 3, .int .u8 0] 5, .cells #[.int .u8 1] 5, .cells #[.int .u8 1, .int .u8 0] 5, .cells #[.int .u8 1, .int .u8 1, .int .u8 0] 5, .cells #[.int .u8 2, .int .u8 128, .int .u8 0] 5, .cells #[.int .u8 0, .int .u8 3, .int .u8 1, .int .u8 0, .int .u8 0, .int .u8 0, .int .u8 33] 5, .cells #[.int .u8 1, .int .u8 255, .int .u8 255, .int .u8 255, .int .u8 255, .int .u8 255, .int .u8 255, .int .u8 255, .int .u8 255, .int .u8 255, .int .u8 1] 5, .cells #[.int .u8 255, .int .u8 255, .int .u8 255, .int .u8 255, .int .u8 255, .int .u8 255, .int .u8 255, .int .u8 255, .int .u8 255, .int .u8 1] 5, .cells #[.slice none 0 0, .slice (some ⟨w.heap.size, 0, none⟩) 1 1, .slice (some ⟨w.heap.size + 1, 0, none⟩) 2 2, .slice (some ⟨w.heap.size + 2, 0, none⟩) 1 1, .slice (some ⟨w.heap.size + 3, 0, none⟩) 2 2, .slice (some ⟨w.heap.size + 4, 0, none⟩) 3 3, .slice (some ⟨w.heap.size + 5, 0, none⟩) 3 3, .slice (some ⟨w.heap.size + 6, 0, none⟩) 7 7, .slice (some ⟨w.heap.size + 7, 0, none⟩) 11 11, .slice (some ⟨w.heap.size + 8, 0, none⟩) 10 10] 30, .cells #[.int .i64 2, .int .i64 1, .int .i64 1, .int .i64 2, .int .i64 1, .int .i64 3, .int .i64 4, .int .i64 3, .int .i64 1, .int .i64 1] 3]
def wrW (w : World) : World := (((((((((((w.alloc (.cells #[.int .u8 3] 5)).alloc (.cells #[.int .u8 3, .int .u8 0] 5)).alloc (.cells #[.int .u8 1] 5)).alloc (.cells #[.int .u8 1, .int .u8 0] 5)).alloc (.cells #[.int .u8 1, .int .u8 1, .int .u8 0] 5)).alloc (.cells #[.int .u8 2, .int .u8 128, .int .u8 0] 5)).alloc (.cells #[.int .u8 0, .int .u8 3, .int .u8 1, .int .u8 0, .int .u8 0, .int .u8 0, .int .u8 33] 5)).alloc (.cells #[.int .u8 1, .int .u8 255, .int .u8 255, .int .u8 255, .int .u8 255, .int .u8 255, .int .u8 255, .int .u8 255, .int .u8 255, .int .u8 255, .int .u8 1] 5)).alloc (.cells #[.int .u8 255, .int .u8 255, .int .u8 255, .int .u8 255, .int .u8 255, .int .u8 255, .int .u8 255, .int .u8 255, .int .u8 255, .int .u8 1] 5)).alloc (.cells #[.slice none 0 0, .slice (some ⟨w.heap.size, 0, none⟩) 1 1, .slice (some ⟨w.heap.size + 1, 0, none⟩) 2 2, .slice (some ⟨w.heap.size + 2, 0, none⟩) 1 1, .slice (some ⟨w.heap.size + 3, 0, none⟩) 2 2, .slice (some ⟨w.heap.size + 4, 0, none⟩) 3 3, .slice (some ⟨w.heap.size + 5, 0, none⟩) 3 3, .slice (some ⟨w.heap.size + 6, 0, none⟩) 7 7, .slice (some ⟨w.heap.size + 7, 0, none⟩) 11 11, .slice (some ⟨w.heap.size + 8, 0, none⟩) 10 10] 30)).alloc (.cells #[.int .i64 2, .int .i64 1, .int .i64 1, .int .i64 2, .int .i64 1, .int .i64 3, .int .i64 4, .int .i64 3, .int .i64 1, .int .i64 1] 3))
def laysW (w : World) (L : List Obj) : World := L.foldl World.alloc w
theorem lays_below : ∀ (L : List Obj) (w : World), Below w.heap.size w (laysW w L)
  | [], w => Below.refl _ _
  | o :: L, w => (below_alloc w o).trans ((lays_below L (w.alloc o)).mono (by rw [World.size_alloc]; omega))
theorem lays_at : ∀ (L : List Obj) (w : World) (i : Nat), i < L.length → (laysW w L).heap[w.heap.size + i]? = L[i]?
  | [], _, _, h => by simp at h
  | o :: L, w, 0, _ => by
    have h := (lays_below L (w.alloc o)).block w.heap.size (by rw [World.size_alloc]; omega)
    show (laysW (w.alloc o) L).heap[w.heap.size]? = some o
    rw [h]; exact heap_alloc_new w o
  | o :: L, w, i + 1, h => by
    have h1 := lays_at L (w.alloc o) i (by simpa using h)
    rw [World.size_alloc, show w.heap.size + 1 + i = w.heap.size + (i + 1) by omega] at h1
    exact h1
theorem wrW_lays (w : World) : wrW w = laysW w (wrL w) := rfl
theorem wrW_below (w : World) : Below w.heap.size w (wrW w) := by rw [wrW_lays]; exact lays_below _ _
theorem wrW_at (w : World) (i : Nat) (hi : i < 11) {o : Obj} (h : (wrL w)[i]? = some o) : (wrW w).heap[w.heap.size + i]? = some o := by
  rw [wrW_lays, lays_at _ _ _ hi, h]
theorem rd_row {w : World} {b : Nat} (cs : Array Value) (T : TypeId) (l : List UInt8) (n : Nat) (hb : Box w b cs T) (h : cs.toList = l.map V8) (hn : n = l.length) (hl : l.length ≤ 9223372036854775807) : Rd w (.slice (some ⟨b, 0, none⟩) n n) l.length (l.map V8) := by
  subst hn
  refine ⟨_, l.length, rfl, Nat.le_refl _, hl, (fun h => by cases h), fun j hj => ⟨b, 0, rfl, ?_⟩⟩
  rw [Nat.zero_add]
  refine hb.cell j _ ?_
  rw [← Array.getElem?_toList, h, List.getD, List.getElem?_eq_getElem hj]; rfl
theorem wrS_new (w : World) : WrS (wrW w) (w.heap.size + 9) (w.heap.size + 10) := by
  have hr : Box (wrW w) (w.heap.size + 9) #[.slice none 0 0, .slice (some ⟨w.heap.size, 0, none⟩) 1 1, .slice (some ⟨w.heap.size + 1, 0, none⟩) 2 2, .slice (some ⟨w.heap.size + 2, 0, none⟩) 1 1, .slice (some ⟨w.heap.size + 3, 0, none⟩) 2 2, .slice (some ⟨w.heap.size + 4, 0, none⟩) 3 3, .slice (some ⟨w.heap.size + 5, 0, none⟩) 3 3, .slice (some ⟨w.heap.size + 6, 0, none⟩) 7 7, .slice (some ⟨w.heap.size + 7, 0, none⟩) 11 11, .slice (some ⟨w.heap.size + 8, 0, none⟩) 10 10] 30 := wrW_at w 9 (by decide) rfl
  have hn : Box (wrW w) (w.heap.size + 10) #[.int .i64 2, .int .i64 1, .int .i64 1, .int .i64 2, .int .i64 1, .int .i64 3, .int .i64 4, .int .i64 3, .int .i64 1, .int .i64 1] 3 := wrW_at w 10 (by decide) rfl
  constructor
  · intro k hk
    rcases (show k = 0 ∨ k = 1 ∨ k = 2 ∨ k = 3 ∨ k = 4 ∨ k = 5 ∨ k = 6 ∨ k = 7 ∨ k = 8 ∨ k = 9 by omega) with rfl | rfl | rfl | rfl | rfl | rfl | rfl | rfl | rfl | rfl
    · exact ⟨none, 0, 0, hr.cell 0 _ rfl, Rd.nil _⟩
    · exact ⟨_, _, _, hr.cell 1 _ rfl, rd_row #[.int .u8 3] 5 [3] 1 (wrW_at w 0 (by decide) rfl) rfl rfl (by decide)⟩
    · exact ⟨_, _, _, hr.cell 2 _ rfl, rd_row #[.int .u8 3, .int .u8 0] 5 [3, 0] 2 (wrW_at w 1 (by decide) rfl) rfl rfl (by decide)⟩
    · exact ⟨_, _, _, hr.cell 3 _ rfl, rd_row #[.int .u8 1] 5 [1] 1 (wrW_at w 2 (by decide) rfl) rfl rfl (by decide)⟩
    · exact ⟨_, _, _, hr.cell 4 _ rfl, rd_row #[.int .u8 1, .int .u8 0] 5 [1, 0] 2 (wrW_at w 3 (by decide) rfl) rfl rfl (by decide)⟩
    · exact ⟨_, _, _, hr.cell 5 _ rfl, rd_row #[.int .u8 1, .int .u8 1, .int .u8 0] 5 [1, 1, 0] 3 (wrW_at w 4 (by decide) rfl) rfl rfl (by decide)⟩
    · exact ⟨_, _, _, hr.cell 6 _ rfl, rd_row #[.int .u8 2, .int .u8 128, .int .u8 0] 5 [2, 128, 0] 3 (wrW_at w 5 (by decide) rfl) rfl rfl (by decide)⟩
    · exact ⟨_, _, _, hr.cell 7 _ rfl, rd_row #[.int .u8 0, .int .u8 3, .int .u8 1, .int .u8 0, .int .u8 0, .int .u8 0, .int .u8 33] 5 [0, 3, 1, 0, 0, 0, 33] 7 (wrW_at w 6 (by decide) rfl) rfl rfl (by decide)⟩
    · exact ⟨_, _, _, hr.cell 8 _ rfl, rd_row #[.int .u8 1, .int .u8 255, .int .u8 255, .int .u8 255, .int .u8 255, .int .u8 255, .int .u8 255, .int .u8 255, .int .u8 255, .int .u8 255, .int .u8 1] 5 [1, 255, 255, 255, 255, 255, 255, 255, 255, 255, 1] 11 (wrW_at w 7 (by decide) rfl) rfl rfl (by decide)⟩
    · exact ⟨_, _, _, hr.cell 9 _ rfl, rd_row #[.int .u8 255, .int .u8 255, .int .u8 255, .int .u8 255, .int .u8 255, .int .u8 255, .int .u8 255, .int .u8 255, .int .u8 255, .int .u8 1] 5 [255, 255, 255, 255, 255, 255, 255, 255, 255, 1] 10 (wrW_at w 8 (by decide) rfl) rfl rfl (by decide)⟩
  · intro k hk
    rcases (show k = 0 ∨ k = 1 ∨ k = 2 ∨ k = 3 ∨ k = 4 ∨ k = 5 ∨ k = 6 ∨ k = 7 ∨ k = 8 ∨ k = 9 by omega) with rfl | rfl | rfl | rfl | rfl | rfl | rfl | rfl | rfl | rfl
    · exact hn.cell 0 _ rfl
    · exact hn.cell 1 _ rfl
    · exact hn.cell 2 _ rfl
    · exact hn.cell 3 _ rfl
    · exact hn.cell 4 _ rfl
    · exact hn.cell 5 _ rfl
    · exact hn.cell 6 _ rfl
    · exact hn.cell 7 _ rfl
    · exact hn.cell 8 _ rfl
    · exact hn.cell 9 _ rfl
set_option maxHeartbeats 12800000 in
theorem eventKnown_calls (w : World) (hg : ErrType w) : Calls Tryd.prog 6 #[] w fun ev w' => ev = .returned (.bool true) ∧ Below w.heap.size w w' := by
  have HG := Lib.hid hg
  have He1 := Lib.hid (fun w => enc_calls loginE w (by decide) (by decide) (by decide))
  have He2 := Lib.hid (fun w => enc_calls tickE w (by decide) (by decide) (by decide))
  have He3 := Lib.hid (fun w => enc_calls childE w (by decide) (by decide) (by decide))
  have Hpl1 := Lib.hid (fun w h => plain_any 1 w (by decide) (by decide) h)
  rw [show errV 1 = .iface 59 (.int .i64 1) from rfl] at Hpl1
  have Hdc := Lib.hid (fun o w h => dec_calls o (encM childE) w h (Nat.le_trans (encM_len _) (by decide)))
  rw [encM_login, encN_login, show errV 0 = .nilIface from rfl] at He1
  rw [encM_tick, encN_tick, show errV 0 = .nilIface from rfl] at He2
  rw [encN_child, show errV 0 = .nilIface from rfl] at He3
  rw [decM_child] at Hdc
  clear hg
  go_enter Tryd.func6, Tryd.ntmps6
  go_wp2_with fail
  refine (login_calls _).mono ?_
  rintro ev w1 ⟨rfl, hb1⟩
  have HB1 := Lib.hid hb1
  clear hb1
  go_wp2_with fail
  refine (He1.out _).mono ?_
  rintro ev w2 ⟨o1, rfl, ho, hb⟩
  obtain ⟨oa1, oc1, rfl, _⟩ := ho.slice
  have HO1 := Lib.hid ho.rd
  have HB2 := Lib.hid (HB1.out.trans (hb.mono HB1.out.size))
  clear ho hb HB1 He1
  go_wp2_with fail
  refine (He2.out _).mono ?_
  rintro ev w3 ⟨o2, rfl, ho, hb⟩
  obtain ⟨oa2, oc2, rfl, _⟩ := ho.slice
  have HO2 := Lib.hid ho.rd
  have HO1 := Lib.hid (HO1.out.below hb)
  have HB3 := Lib.hid (HB2.out.trans (hb.mono HB2.out.size))
  clear ho hb HB2 He2
  go_wp2_with fail
  refine (child_calls _).mono ?_
  rintro ev w4 ⟨rfl, hb⟩
  have HO1 := Lib.hid (HO1.out.below hb)
  have HO2 := Lib.hid (HO2.out.below hb)
  have HB4 := Lib.hid (HB3.out.trans (hb.mono HB3.out.size))
  clear hb HB3
  go_wp2_with fail
  refine (He3.out _).mono ?_
  rintro ev w5 ⟨o3, rfl, ho, hb⟩
  have HO1 := Lib.hid (HO1.out.below hb)
  have HO2 := Lib.hid (HO2.out.below hb)
  have HO3 := Lib.hid ho.rd
  have HB5 := Lib.hid (HB4.out.trans (hb.mono HB4.out.size))
  obtain ⟨oa3, oc3, rfl, _⟩ := ho.slice
  clear ho hb HB4 He3
  generalize hL3 : encM childE = L3 at HO3 Hdc ⊢
  clear hL3
  go_wp2_with fail
  refine (worksEv_calls _).mono ?_
  rintro ev w6 ⟨rfl, hb⟩
  have HO1 := Lib.hid (HO1.out.below hb)
  have HO2 := Lib.hid (HO2.out.below hb)
  have HO3 := Lib.hid (HO3.out.below hb)
  have HB6 := Lib.hid (HB5.out.trans (hb.mono HB5.out.size))
  clear hb HB5
  have hl1 := rd_lit w6 #[.int .u8 0, .int .u8 3, .int .u8 1, .int .u8 0, .int .u8 0, .int .u8 0, .int .u8 3, .int .u8 97, .int .u8 110, .int .u8 110, .int .u8 0, .int .u8 7, .int .u8 1, .int .u8 0, .int .u8 172, .int .u8 2, .int .u8 0] 5 [0, 3, 1, 0, 0, 0, 3, 97, 110, 110, 0, 7, 1, 0, 172, 2, 0] rfl (by decide)
  have hba := below_alloc w6 (.cells #[.int .u8 0, .int .u8 3, .int .u8 1, .int .u8 0, .int .u8 0, .int .u8 0, .int .u8 3, .int .u8 97, .int .u8 110, .int .u8 110, .int .u8 0, .int .u8 7, .int .u8 1, .int .u8 0, .int .u8 172, .int .u8 2, .int .u8 0] 5)
  have Hs1 := Lib.hid (sameBytes_calls _ _ _ _ (HO1.out.below hba) hl1)
  have HO2 := Lib.hid (HO2.out.below hba)
  have HO3 := Lib.hid (HO3.out.below hba)
  have HB7 := Lib.hid (HB6.out.trans (hba.mono HB6.out.size))
  clear hl1 hba HB6 HO1
  go_wp2_with fail
  refine Hs1.out.mono ?_
  rintro ev w7 ⟨rfl, k7, rfl⟩
  have hb := below_drewN (w6.alloc (.cells #[.int .u8 0, .int .u8 3, .int .u8 1, .int .u8 0, .int .u8 0, .int .u8 0, .int .u8 3, .int .u8 97, .int .u8 110, .int .u8 110, .int .u8 0, .int .u8 7, .int .u8 1, .int .u8 0, .int .u8 172, .int .u8 2, .int .u8 0] 5)) k7
  generalize World.drewN _ k7 = w7 at hb ⊢
  have HO2 := Lib.hid (HO2.out.below hb)
  have HO3 := Lib.hid (HO3.out.below hb)
  have HB8 := Lib.hid (HB7.out.trans (hb.mono HB7.out.size))
  clear hb HB7 Hs1
  have hl1 := rd_lit w7 #[.int .u8 2, .int .u8 5] 5 [2, 5] rfl (by decide)
  have hba := below_alloc w7 (.cells #[.int .u8 2, .int .u8 5] 5)
  have Hs2 := Lib.hid (sameBytes_calls _ _ _ _ (HO2.out.below hba) hl1)
  have HO3 := Lib.hid (HO3.out.below hba)
  have HB9 := Lib.hid (HB8.out.trans (hba.mono HB8.out.size))
  clear hl1 hba HB8 HO2
  go_wp2_with fail
  refine Hs2.out.mono ?_
  rintro ev w8 ⟨rfl, k8, rfl⟩
  have hb := below_drewN (w7.alloc (.cells #[.int .u8 2, .int .u8 5] 5)) k8
  generalize World.drewN _ k8 = w8 at hb ⊢
  have HO3 := Lib.hid (HO3.out.below hb)
  have HB10 := Lib.hid (HB9.out.trans (hb.mono HB9.out.size))
  clear hb HB9 Hs2
  rw [show errV 0 = .nilIface from rfl] at Hdc
  go_wp2_with fail
  refine (Hdc.out _ _ HO3.out).mono ?_
  rintro ev w9 ⟨rfl, hb⟩
  have HB11 := Lib.hid (HB10.out.trans (hb.mono HB10.out.size))
  clear hb HB10 HO3 Hdc
  have HX := Lib.hid (Box.new w9 noEvt.cells 29)
  have HB12 := Lib.hid (HB11.out.trans ((below_alloc w9 (.cells noEvt.cells 29)).mono HB11.out.size))
  have HLE := Lib.hid HB11.out.size
  clear HB11
  go_wp2_with ((with_reducible refine wpList_store_k ?a0 29 (.tmp 7) (.tmp 62) ?a1 w9.heap.size 0 childE.cells.toList ?a2 childE.cells ?a3 childE_list ?a5 ?a6 ?a7 ?a8); (case a1 => rfl); (case a0 => rfl); (case a2 => rfl); (case a3 => rfl); (case a5 => exact HX.out.thereF _); (case a6 => kernel_rfl); (case a7 => exact EvtM.one _))
  intro w10 hw10
  have hx := HX.out.setE childE
  have hm := HB12.out.trans ((Mod.setCells (fun k => k = w9.heap.size) w9.heap.size rfl childE.cells.toList 0 (w9.alloc (.cells noEvt.cells 29))).below HB12.out.size (fun _ hi => hi ▸ HLE.out))
  rw [show noEvt.cells = #[.int .i64 0, .int .i64 0, .int .i64 0, .int .i64 0, .int .i64 0, .int .i64 0, .string ⟨#[]⟩, .string ⟨#[]⟩, .int .u64 0, .int .i64 0, .int .i64 0, .int .i64 0, .int .i64 0, .int .i64 0, .int .i64 0] from rfl, ← hw10.out] at hx hm
  have HX2 := Lib.hid hx
  have HB13 := Lib.hid hm
  clear hx hm hw10 HX HB12 HLE
  generalize w9.heap.size = db at HX2 ⊢
  go_wp2_with fail
  refine wp_region_held_drew (S := fun w' => Box w' db childE.cells 29 ∧ Below w.heap.size w w') (by kernel_rfl) (And.intro HX2.out HB13.out.drew) (fun hHeld => ?_)

  refine wpAnyH_take (i := 0) (oi := ⟨some 64, _, _, _, _, _⟩) (v := ?_) rfl (by kernel_rfl) (by kernel_rfl) (by kernel_rfl) (fun _ _ _ h => h) (Or.inl ⟨by kernel_rfl, ?_⟩) (by assumption) ?_
  rotate_left 1
  · intro w' hw'; go_simp; try with_reducible rfl
  try simp only [Act.put, List.setIfInBounds_toArray, List.set_cons_zero, List.set_cons_succ]
  refine wpAnyH_take (i := 1) (oi := ⟨some 65, _, _, _, _, _⟩) (v := ?_) rfl (by kernel_rfl) (by kernel_rfl) (by kernel_rfl) (fun _ _ _ h => h) (Or.inl ⟨by kernel_rfl, ?_⟩) (by assumption) ?_
  rotate_left 1
  · intro w' hw'; go_simp; try with_reducible rfl
  try simp only [Act.put, List.setIfInBounds_toArray, List.set_cons_zero, List.set_cons_succ]
  refine wpAnyH_take (i := 2) (oi := ⟨some 66, _, _, _, _, _⟩) (v := ?_) rfl (by kernel_rfl) (by kernel_rfl) (by kernel_rfl) (fun _ _ _ h => h) (Or.inl ⟨by kernel_rfl, ?_⟩) (by assumption) ?_
  rotate_left 1
  · intro w' hw'; go_simp; try with_reducible rfl
  try simp only [Act.put, List.setIfInBounds_toArray, List.set_cons_zero, List.set_cons_succ]
  refine wpAnyH_take (i := 3) (oi := ⟨some 67, .load _ _, _, _, _, _⟩) (v := .agg childE.cells) rfl (by kernel_rfl) (by kernel_rfl) (by kernel_rfl) (fun _ _ _ h => h) (Or.inl ⟨by kernel_rfl, fun w' hw' => exec_load_k 29 (.tmp 7) rfl db 0 rfl childE.cells.toList _ hw'.1.rangeE Tryd.underlying29 rfl (by kernel_rfl)⟩) (by assumption) ?_
  try simp only [Act.put, List.setIfInBounds_toArray, List.set_cons_zero, List.set_cons_succ]
  refine wpAnyH_ready (rs := [4]) (by kernel_rfl) (by simp) (AllReadyH.cons (o := ⟨some 68, .call _, _, _, _, _⟩) rfl (fun K hK => ?_) AllReadyH.nil)
  go_simp
  refine (child_calls _).mono ?_
  rintro ev w11 ⟨rfl, hb⟩
  refine hK.out _ _ ⟨hHeld.1.below hb, hHeld.2.trans (hb.mono hHeld.2.size)⟩ (fun hHeld2 => ?_)
  clear hK K hb hHeld
  try simp only [Act.put, List.setIfInBounds_toArray, List.set_cons_zero, List.set_cons_succ]
  have hne : ∀ w, (binOp .neq 29 (.agg childE.cells) (.agg childE.cells)).run Tryd.prog w = .ok (.bool false) w := fun w => by rw [run_neqE, sameE_iff.2 rfl]; rfl
  refine wpAnyH_take (i := 5) (oi := ⟨some 69, _, _, _, _, _⟩) (v := .bool false) rfl (by kernel_rfl) (by kernel_rfl) (by kernel_rfl) (fun _ _ _ h => h) (Or.inl ⟨by kernel_rfl, ?_⟩) (by assumption) ?_
  · intro w' hw'
    go_simp
  try simp only [Act.put, List.setIfInBounds_toArray, List.set_cons_zero, List.set_cons_succ]
  refine wpAnyH_take (i := 6) (oi := ⟨some 70, _, _, _, _, _⟩) (v := ?_) rfl (by kernel_rfl) (by kernel_rfl) (by kernel_rfl) (fun _ _ _ h => h) (Or.inl ⟨by kernel_rfl, ?_⟩) (by assumption) ?_
  rotate_left 1
  · intro w' hw'; go_simp; try with_reducible rfl
  try simp only [Act.put, List.setIfInBounds_toArray, List.set_cons_zero, List.set_cons_succ]
  refine wpAnyH_done (by kernel_rfl) ?_ _
  have HB14 := Lib.hid hHeld2.2
  clear hHeld2 hne HX2 HB13 HO1 HO2
  generalize hz : w11 = wz at HB14 ⊢
  clear hz
  go_wp2_with fail
  go_loopg [8] 19 (fun gk iv wr => ∃ k : Nat, gk + k = 19 ∧ iv = .int .i64 (k : Int) ∧ Below w.heap.size w wr)
  case atStart => exact ⟨0, rfl, rfl, HB14.out⟩
  case round =>
    obtain ⟨k, hgk, rfl, hb⟩ := hrel
    have k0 : (0 : Int) ≤ (k : Int) := by omega
    have HB15 := Lib.hid hb
    by_cases hk : k < 19
    · have k1 : (k : Int) < 19 := by omega
      have Hn := Lib.hid (no_any k hk wr (HG.out.below hb))
      clear hb
      go_wp2_with fail
      refine Hn.out.mono ?_
      rintro ev w12 ⟨rfl, hb⟩
      have HB16 := Lib.hid (HB15.out.trans (hb.mono HB15.out.size))
      clear hb
      go_wp2_with fail
      go_roundg (19 - (k + 1))
      case measure => omega
      case rel => exact ⟨k + 1, by omega, by go_num, HB16.out⟩
    have k1 : ¬ (k : Int) < 19 := by omega
    obtain rfl : k = 19 := by omega
    clear hk hb hgk HB14
    go_wp2_with (refine wpList_buildSlice_k (op := ⟨some 92, _, _, _, _, _⟩) (by rfl) 53 10 #[(0, .tmp 78), (1, .tmp 79), (2, .tmp 80), (3, .tmp 81), (4, .tmp 82), (5, .tmp 83), (6, .tmp 84), (7, .tmp 86), (8, .tmp 88), (9, .tmp 91)] rfl #[(0, .agg evL[0].cells), (1, .agg evL[1].cells), (2, .agg evL[2].cells), (3, .agg evL[3].cells), (4, .agg evL[4].cells), (5, .agg evL[5].cells), (6, .agg evL[6].cells), (7, .agg evL[7].cells), (8, .agg evL[8].cells), (9, .agg evL[9].cells)] (by kernel_rfl) _ _ (buildEvs _) ?_; intro w17 hw17)
    have HBX := Lib.hid (show Box w17 wr.heap.size (evL.flatMap (fun e => e.cells.toList)).toArray 29 from by rw [hw17.out]; exact Box.new wr _ _)
    have HB18 := Lib.hid (show Below w.heap.size w w17 from by rw [hw17.out]; exact HB15.out.trans ((below_alloc wr _).mono HB15.out.size))
    clear hw17 HB15
    generalize wr.heap.size = lb at HBX ⊢
    go_wp2_with fail
    go_loopg [10] 10 (fun gk iv wr => ∃ k : Nat, gk + k = 10 ∧ iv = .int .i64 (k : Int) ∧ Box wr lb (evL.flatMap (fun e => e.cells.toList)).toArray 29 ∧ Below w.heap.size w wr)
    case atStart => exact ⟨0, rfl, rfl, HBX.out, HB18.out⟩
    case round =>
      obtain ⟨k, hgk, rfl, hbx, hb⟩ := hrel
      clear HBX HB18
      have k0 : (0 : Int) ≤ (k : Int) := by omega
      have HB15 := Lib.hid hb
      by_cases hk : k < 10
      · have k1 : (k : Int) < 10 := by omega
        have hke : k < evL.length := hk
        have HR := Lib.hid (rowE hbx k hke)
        have hm := List.getElem_mem hke
        have hno := evL_no _ hm
        have hft := evL_fit _ hm
        have Hn := Lib.hid (enc_calls evL[k] wr hft.1 hft.2.1 hft.2.2)
        rw [hno, show errV 1 = .iface 59 (.int .i64 1) from rfl] at Hn
        have HX := Lib.hid hbx
        clear hb hbx hm hno hft
        generalize evL[k] = e at HR Hn
        go_wp2_with ((with_reducible refine wpList_load_k ?b0 29 (.tmp 102) ?b1 lb (k * 15) ?b2 e.cells.toList _ HR.out Tryd.underlying29 ?b3 ?b4 ?b8); (case b1 => rfl); (case b0 => rfl); (case b2 => rfl); (case b3 => rfl); (case b4 => kernel_rfl))
        intro cv hcv
        have ecv : cv = e.cells := by rw [hcv.out]
        subst ecv
        clear hcv HR
        go_wp2_with fail
        refine Hn.out.mono ?_
        rintro ev w12 ⟨o, rfl, ho, hb⟩
        obtain ⟨oa, oc, rfl, _⟩ := ho.slice
        have HX12 := Lib.hid (HX.out.below hb)
        have HB16 := Lib.hid (HB15.out.trans (hb.mono HB15.out.size))
        have HG16 := Lib.hid (HG.out.below HB16.out)
        clear ho hb HX HB15 Hn
        go_wp2_with fail
        refine (Hpl1.out _ HG16.out).mono ?_
        rintro ev w13 ⟨rfl, hb⟩
        have HX13 := Lib.hid (HX12.out.below hb)
        have HB17 := Lib.hid (HB16.out.trans (hb.mono HB16.out.size))
        clear hb HX12 HB16 HG16
        go_wp2_with fail
        go_roundg (10 - (k + 1))
        case measure => omega
        case rel => exact ⟨k + 1, by omega, by go_num, HX13.out, HB17.out⟩
      have k1 : ¬ (k : Int) < 10 := by omega
      obtain rfl : k = 10 := by omega
      clear hk hb hgk hbx
      go_wp2_with fail
      have HW := Lib.hid (wrS_new wr)
      have HBw := Lib.hid (HB15.out.trans ((wrW_below wr).mono HB15.out.size))
      unfold wrW at HW HBw
      generalize hz : (((((((((((wr.alloc (.cells #[.int .u8 3] 5)).alloc (.cells #[.int .u8 3, .int .u8 0] 5)).alloc (.cells #[.int .u8 1] 5)).alloc (.cells #[.int .u8 1, .int .u8 0] 5)).alloc (.cells #[.int .u8 1, .int .u8 1, .int .u8 0] 5)).alloc (.cells #[.int .u8 2, .int .u8 128, .int .u8 0] 5)).alloc (.cells #[.int .u8 0, .int .u8 3, .int .u8 1, .int .u8 0, .int .u8 0, .int .u8 0, .int .u8 33] 5)).alloc (.cells #[.int .u8 1, .int .u8 255, .int .u8 255, .int .u8 255, .int .u8 255, .int .u8 255, .int .u8 255, .int .u8 255, .int .u8 255, .int .u8 255, .int .u8 1] 5)).alloc (.cells #[.int .u8 255, .int .u8 255, .int .u8 255, .int .u8 255, .int .u8 255, .int .u8 255, .int .u8 255, .int .u8 255, .int .u8 255, .int .u8 1] 5)).alloc (.cells #[.slice none 0 0, .slice (some ⟨wr.heap.size, 0, none⟩) 1 1, .slice (some ⟨wr.heap.size + 1, 0, none⟩) 2 2, .slice (some ⟨wr.heap.size + 2, 0, none⟩) 1 1, .slice (some ⟨wr.heap.size + 3, 0, none⟩) 2 2, .slice (some ⟨wr.heap.size + 4, 0, none⟩) 3 3, .slice (some ⟨wr.heap.size + 5, 0, none⟩) 3 3, .slice (some ⟨wr.heap.size + 6, 0, none⟩) 7 7, .slice (some ⟨wr.heap.size + 7, 0, none⟩) 11 11, .slice (some ⟨wr.heap.size + 8, 0, none⟩) 10 10] 30)).alloc (.cells #[.int .i64 2, .int .i64 1, .int .i64 1, .int .i64 2, .int .i64 1, .int .i64 3, .int .i64 4, .int .i64 3, .int .i64 1, .int .i64 1] 3)) = wz at HW HBw ⊢
      clear hz HB15
      have HW2 := Lib.hid (show WrS wz (wr.heap.size + 9) ((wr.heap.size + 9) + 1) from HW.out)
      clear HW
      have HW := HW2
      clear HW2
      generalize wr.heap.size + 9 = wb at HW ⊢
      go_loopg [15] 10 (fun gk iv wr => ∃ k : Nat, gk + k = 10 ∧ iv = .int .i64 (k : Int) ∧ WrS wr wb (wb + 1) ∧ Below w.heap.size w wr)
      case atStart => exact ⟨0, rfl, rfl, HW.out, HBw.out⟩
      case round =>
        obtain ⟨k, hgk, rfl, hws, hb⟩ := hrel
        clear HW HBw
        have k0 : (0 : Int) ≤ (k : Int) := by omega
        have HB20 := Lib.hid hb
        have HW := Lib.hid hws
        have HGK := Lib.hid hgk
        by_cases hk : k < 10
        · have k1 : (k : Int) < 10 := by omega
          have HK := Lib.hid hk
          obtain ⟨ra, rn, rc, hc1, hrd⟩ := hws.wr k hk
          have hc2 := hws.no k hk
          have hno := wrong_no k hk
          have her := nos_er k hk
          have Hd := Lib.hid (dec_calls _ _ wr hrd (Nat.le_trans (wrong_small k hk) (by decide)))
          have hf := @decM_no (wrongL.getD k [])
          generalize decM (wrongL.getD k []) = D at Hd hno hf
          generalize nosL.getD k 0 = no at hno her hc2
          obtain ⟨er, f⟩ := D
          simp only at hno Hd
          subst hno
          have hf0 := hf rfl (by omega)
          subst hf0
          have Hpl := Lib.hid (fun w h => plain_any er w (by omega) (by omega) h)
          rw [show noEvt.cells = #[.int .i64 0, .int .i64 0, .int .i64 0, .int .i64 0, .int .i64 0, .int .i64 0, .string ⟨#[]⟩, .string ⟨#[]⟩, .int .u64 0, .int .i64 0, .int .i64 0, .int .i64 0, .int .i64 0, .int .i64 0, .int .i64 0] from rfl] at Hd
          generalize errV er = ev at Hd Hpl
          have hnn : (0 : Int) ≤ er := by omega
          clear hk hgk hws hb hrd her hf
          go_wp2_with fail
          refine Hd.out.mono ?_
          rintro ev2 w21 ⟨rfl, hb⟩
          have HW21 := Lib.hid (HW.out.below hb)
          have HB21 := Lib.hid (HB20.out.trans (hb.mono HB20.out.size))
          have hal := below_alloc w21 (.cells #[.int .i64 0, .int .i64 0, .int .i64 0, .int .i64 0, .int .i64 0, .int .i64 0, .string ⟨#[]⟩, .string ⟨#[]⟩, .int .u64 0, .int .i64 0, .int .i64 0, .int .i64 0, .int .i64 0, .int .i64 0, .int .i64 0] 29)
          have HW22 := Lib.hid (HW21.out.below hal)
          have HB22 := Lib.hid (HB21.out.trans (hal.mono HB21.out.size))
          have hc3 := below_heap (hb.trans (hal.mono hb.size)) hc2
          have HG22 := Lib.hid (HG.out.below HB22.out)
          clear hb hal hc1 hc2 HW HB20 HW21 HB21 Hd
          go_wp2_with fail
          refine (Hpl.out _ HG22.out).mono ?_
          rintro ev2 w23 ⟨rfl, hb⟩
          have HW23 := Lib.hid (HW22.out.below hb)
          have HB23 := Lib.hid (HB22.out.trans (hb.mono HB22.out.size))
          clear hb HW22 HB22 HG22 Hpl hc3
          go_wp2_with fail
          go_roundg (10 - (k + 1))
          case measure => have := HGK.out; have := HK.out; omega
          case rel => exact ⟨k + 1, by have := HGK.out; have := HK.out; omega, by go_num, HW23.out, HB23.out⟩
        have k1 : ¬ (k : Int) < 10 := by omega
        obtain rfl : k = 10 := by omega
        clear hk hb hgk hws
        go_wp2_with fail
        go_ret
        exact ⟨rfl, HB20.out⟩
end Go.Proofs.YtacponljnphbnaaDoor
