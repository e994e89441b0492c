/-
  Chapter 13's world is asked.
-/
import Derived.Test.YtjoadcgegobjpaaDoorZ9
import Derived.Test.YtjoadcgegobjpaaDoorRows
import Derived.WalkKit
import Derived.ProofKit
import Derived.SizedLaws
import Derived.JoinedCond
namespace Go.Proofs.YtjoadcgegobjpaaDoor
open Go.RowKit
set_option maxRecDepth 100000

set_option maxHeartbeats 1600000 in
theorem askedW_calls (W : World) (pw p rp c : Nat) (l : LogM) (pl pm : Nat) (d : DiskM) (F G : Nat → Prop) (wr : World) (h : PlayW W pw p rp c l pl pm d F G wr) (hc : c ≤ 10000000) :
    Calls Tryd.prog 12 #[.pointer (some ⟨pw, 0, none⟩)] wr fun r w' => r = .returned (.bool true) ∧ Below wr.heap.size wr w' := by
  have Hro := Lib.hid (fun w (h : PlayW W pw p rp c l pl pm d F G w) => room_calls l pl p w h.log h.fit.2.2.1 (by have := h.fit.1; have := h.dr.small; omega))
  have Hrr := Lib.hid (fun w (h : PlayW W pw p rp c l pl pm d F G w) => refLRoom_calls l pm rp w h.rlog h.fit.2.2.1 (by have := h.fit.1; have := h.dr.small; omega))
  have Hre := Lib.hid (fun w (h : PlayW W pw p rp c l pl pm d F G w) => records_calls l pl p w h.log)
  have Htr := Lib.hid (fun w (h : PlayW W pw p rp c l pl pm d F G w) => trail_calls d p F w h.dr.disk (by have := h.dr.trail; omega))
  have hd := h.to (below_drew wr)
  have b0 := hd.box.cell 0 _ rfl
  have b1 := hd.box.cell 1 _ rfl
  have b2 := hd.box.cell 2 _ rfl
  have b3 := hd.box.cell 3 _ rfl
  have q5 := Box.cell hd.rlog 5 _ rfl
  obtain ⟨tv, g1, g2, _⟩ := hd.dr.ref
  obtain ⟨ta, tc, rfl, _, _⟩ := own_form g2
  have t1 := g1.cell 1 _ rfl
  have HRd := Lib.hid (rd_of_own g2)
  have HI0 := Lib.hid hd
  obtain ⟨rm, hrm⟩ : ∃ rm, rm = l.n - l.used := ⟨_, rfl⟩
  obtain ⟨rc, hrc⟩ : ∃ rc, rc = l.records := ⟨_, rfl⟩
  rw [← hrm] at Hro Hrr
  rw [← hrc] at Hre q5
  have k1 : (((rm : Int) == (rm : Int)) = true) := by simp
  have k2 : (((rc : Int) == (rc : Int)) = true) := by simp
  have f0 : wr.drew.cell? ⟨pw, 0, none⟩ = some (.pointer (some ⟨p, 0, none⟩)) ∧ wr.drew.cell? ⟨pw, 1, none⟩ = some (.pointer (some ⟨pl, 0, none⟩)) ∧ wr.drew.cell? ⟨pw, 2, none⟩ = some (.pointer (some ⟨rp, 0, none⟩)) ∧ wr.drew.cell? ⟨pw, 3, none⟩ = some (.pointer (some ⟨pm, 0, none⟩)) ∧ wr.drew.cell? ⟨pm, 5, none⟩ = some (.int .i64 (rc : Int)) ∧ wr.drew.cell? ⟨rp, 1, none⟩ = some (.slice ta d.trail.length tc) := ⟨b0, b1, b2, b3, q5, t1⟩
  clear h hc hd b0 b1 b2 b3 q5 g1 g2 t1 hrm hrc
  go_enter Tryd.func12, Tryd.ntmps12
  go_wp2_with fail
  go_region_held3 (fun w' => w'.cell? ⟨pw, 0, none⟩ = some (.pointer (some ⟨p, 0, none⟩)) ∧ w'.cell? ⟨pw, 1, none⟩ = some (.pointer (some ⟨pl, 0, none⟩)) ∧ w'.cell? ⟨pw, 2, none⟩ = some (.pointer (some ⟨rp, 0, none⟩)) ∧ w'.cell? ⟨pw, 3, none⟩ = some (.pointer (some ⟨pm, 0, none⟩)) ∧ w'.cell? ⟨pm, 5, none⟩ = some (.int .i64 (rc : Int)) ∧ w'.cell? ⟨rp, 1, none⟩ = some (.slice ta d.trail.length tc))
    (first | with_reducible exact f0 | with_reducible exact f1 | with_reducible exact f2 | with_reducible exact f3 | with_reducible exact f4 | with_reducible exact f5)
    (first
      | (go_at_call 26; refine (Hro.out _ HI0.out).mono ?_; rintro r w1 ⟨rfl, k1, e1⟩; have hb1 : Below wr.drew.heap.size wr.drew w1 := by rw [e1]; exact below_drewN _ _
         have f1 := And.intro (below_heap hb1 f0.1) (And.intro (below_heap hb1 f0.2.1) (And.intro (below_heap hb1 f0.2.2.1) (And.intro (below_heap hb1 f0.2.2.2.1) (And.intro (below_heap hb1 f0.2.2.2.2.1) (below_heap hb1 f0.2.2.2.2.2)))))
         have HI1 := Lib.hid (HI0.out.to hb1); have HB1 := Lib.hid hb1; clear hb1 e1)
      | (go_at_call 27; refine (Hrr.out _ HI1.out).mono ?_; rintro r w2 ⟨rfl, k2, e2⟩; have hb2 : Below w1.heap.size w1 w2 := by rw [e2]; exact below_drewN _ _
         have f2 := And.intro (below_heap hb2 f1.1) (And.intro (below_heap hb2 f1.2.1) (And.intro (below_heap hb2 f1.2.2.1) (And.intro (below_heap hb2 f1.2.2.2.1) (And.intro (below_heap hb2 f1.2.2.2.2.1) (below_heap hb2 f1.2.2.2.2.2)))))
         have HI2 := Lib.hid (HI1.out.to hb2); have HB2 := Lib.hid (below_trans HB1.out hb2); clear hb2 e2)
      | (go_at_call 28; refine (Hre.out _ HI2.out).mono ?_; rintro r w3 ⟨rfl, rfl⟩)
      | (go_at_call 30; refine (Htr.out _ HI2.out).mono ?_; rintro r w4 ⟨oa, oc, rfl, ho, hb4⟩
         have f4 := And.intro (below_heap hb4 f2.1) (And.intro (below_heap hb4 f2.2.1) (And.intro (below_heap hb4 f2.2.2.1) (And.intro (below_heap hb4 f2.2.2.2.1) (And.intro (below_heap hb4 f2.2.2.2.2.1) (below_heap hb4 f2.2.2.2.2.2)))))
         have HB4 := Lib.hid (below_trans HB2.out hb4); have Hsr := Lib.hid (sameRaws_calls _ _ d.trail w4 (rd_of_own ho) (HRd.out.below HB4.out)); clear ho hb4)
      | (go_at_call 29; refine Hsr.out.mono ?_; rintro r w5 ⟨rfl, k5, e5⟩; have hb5 : Below w4.heap.size w4 w5 := by rw [e5]; exact below_drewN _ _
         have f5 := And.intro (below_heap hb5 f4.1) (And.intro (below_heap hb5 f4.2.1) (And.intro (below_heap hb5 f4.2.2.1) (And.intro (below_heap hb5 f4.2.2.2.1) (And.intro (below_heap hb5 f4.2.2.2.2.1) (below_heap hb5 f4.2.2.2.2.2)))))
         have HB5 := Lib.hid (below_trans HB4.out hb5); clear hb5 e5))
  go_wp2_with fail
  go_ret
  exact ⟨rfl, below_trans (below_drew wr) HB5.out⟩
end Go.Proofs.YtjoadcgegobjpaaDoor
/-
  How a law's walk becomes its row: for any number of parameters; under the bound of 'uptoSmall', and under the form's own reach.
-/
namespace Go.Proofs.YtjoadcgegobjpaaDoor
set_option maxRecDepth 100000
open Go.ChangeShapes Go.WideShapes Go.ChangeAt Go.RowKit
theorem L.own : ownKnob Tryd.prog.godebug = none := by kernel_rfl
theorem L.laidOut : laidOutB Tryd.prog = true := by kernel_rfl

/-- How great what was read is: its bulk (up), or each piece within the form's reach. -/
def SizeOk (up : Bool) (N : Nat) (t : TypeId) {H : Type} (d : DataW H) : Prop :=
  match up with | true => Rows.uptoBulk d ≤ N | false => (DataW.weights Tryd.prog t d).all (· ≤ reachBytes) = true
/-- Cells that the form reads as a value of a type. -/
def ArgC (up : Bool) (N : Nat) (t : TypeId) (W : World) (cs : List Value) : Prop :=
  ∃ (H : Type) (enc : TypeId × Value → H) (d : DataW H) (ps : List MemPlace) (fuel : Nat), DataW.trod enc Tryd.prog W 0 (fun _ => true) true fuel t cs = some (d, ps) ∧ SizeOk up N t d
/-- An argument, as the form reads it; its size. -/
def Arg (up : Bool) (t : TypeId) (W : World) (v : Value) : Prop :=
  ArgC up 1048576 t W v.cells.toList ∧ ∃ base, Value.okWide Tryd.prog W .any base t v
def ArgAll (up : Bool) (W : World) : List TypeId → List Value → Prop
  | [], [] => True
  | t :: ts, v :: vs => Arg up t W v ∧ ArgAll up W ts vs
  | _, _ => False
/-- What a law's walk says. -/
def Walks (up : Bool) (f : FuncId) (ts : List TypeId) : Prop :=
  ∀ (W : World) (vs : List Value), ArgAll up W ts vs → Calls Tryd.prog f vs.toArray W fun e W' => e = .returned (.bool true) ∧ Below W.heap.size W W'

theorem bulk_all_le {H : Type} {d : DataW H} {l : List (DataW H)} (h : d ∈ l) : Rows.uptoBulk d ≤ Rows.uptoBulkAll l := by
  induction l with
  | nil => cases h
  | cons x r ih =>
    simp only [Rows.uptoBulkAll]
    cases List.mem_cons.1 h with
    | inl e => subst e; omega
    | inr e => have := ih e; omega
set_option maxRecDepth 100000 in
theorem argAll_mk {up : Bool} {H : Type} {enc : TypeId × Value → H} {W : World} {base : Nat} : ∀ {ts : List TypeId} {vs : List Value} {ds : List (DataW H)} {ps : List MemPlace},
    DataW.TrodAll enc Tryd.prog W 0 (fun _ => true) true ts vs ds ps → (∀ (j : Nat) t v, ts[j]? = some t → vs[j]? = some v → Value.okWide Tryd.prog W .any base t v) →
    (match up with | true => Rows.uptoBulkAll ds ≤ 1048576 | false => (DataW.weightsEach Tryd.prog ts ds).all (· ≤ reachBytes) = true) → ArgAll up W ts vs
  | [], [], [], _, _, _, _ => trivial
  | t :: ts, v :: vs, d :: ds, ps, h, hv, hs => by
    obtain ⟨p, q, h1, h2, rfl⟩ := h
    refine ⟨⟨⟨H, enc, d, p, h1.choose, h1.choose_spec, ?_⟩, base, hv 0 t v rfl rfl⟩, argAll_mk (base := base) h2 (fun j t v ht hv' => hv (j + 1) t v (by simpa using ht) (by simpa using hv')) ?_⟩
    · cases up with
      | true => simp only [Rows.uptoBulkAll] at hs; show Rows.uptoBulk d ≤ 1048576; omega
      | false => simp only [DataW.weightsEach, List.all_append, Bool.and_eq_true] at hs; exact hs.1
    · cases up with
      | true => simp only [Rows.uptoBulkAll] at hs ⊢; omega
      | false => simp only [DataW.weightsEach, List.all_append, Bool.and_eq_true] at hs; exact hs.2
  | [], [], _ :: _, _, h, _, _ => h.elim
  | [], _ :: _, _, _, h, _, _ => h.elim
  | _ :: _, [], _, _, h, _, _ => h.elim
  | _ :: _, _ :: _, [], _, h, _, _ => h.elim
theorem trodAll_below {H : Type} {enc : TypeId × Value → H} {W W' : World} (hb : Below W.heap.size W W') : ∀ {ts : List TypeId} {vs : List Value} {ds : List (DataW H)} {ps : List MemPlace},
    (∀ t ∈ ts, Tryd.prog.readableRec t = true ∧ t < Tryd.prog.types.size) → DataW.TrodAll enc Tryd.prog W 0 (fun _ => true) true ts vs ds ps → (∀ x ∈ ps, x.block < W.heap.size) →
    DataW.TrodAll enc Tryd.prog W' 0 (fun b => decide (b < W.heap.size)) true ts vs ds ps
  | [], [], [], _, _, h, _ => h
  | t :: ts, v :: vs, d :: ds, ps, hr, h, hlt => by
    obtain ⟨p, q, h1, h2, rfl⟩ := h
    refine ⟨p, q, Below.trod L.laidOut (hr t (by simp)).1 (hr t (by simp)).2 h1 hb (fun x hx => hlt x (by simp [hx])), trodAll_below hb (fun t ht => hr t (by simp [ht])) h2 (fun x hx => hlt x (by simp [hx])), rfl⟩
  | [], [], _ :: _, _, _, h, _ => h.elim
  | [], _ :: _, _, _, _, h, _ => h.elim
  | _ :: _, [], _, _, _, h, _ => h.elim
  | _ :: _, _ :: _, [], _, _, h, _ => h.elim

/-! What an argument's cells are, by its type. -/
theorem ArgC.int {up : Bool} {N : Nat} {t : TypeId} {W : World} {cs : List Value} {k : IntKind} (ht : Tryd.prog.underlying t = some (.int k)) (h : ArgC up N t W cs) : ∃ n, cs = [.int k n] ∧ (Lit.int k n).wf = true := by
  obtain ⟨H, enc, d, ps, fuel, h, _⟩ := h
  obtain ⟨n, h1, _, h2⟩ := DataW.trod_int ht h
  exact ⟨n, h1, h2⟩
theorem ArgC.bool {up : Bool} {N : Nat} {t : TypeId} {W : World} {cs : List Value} (ht : Tryd.prog.underlying t = some .bool) (h : ArgC up N t W cs) : ∃ b, cs = [.bool b] := by
  obtain ⟨H, enc, d, ps, fuel, h, _⟩ := h
  obtain ⟨n, h1, _⟩ := DataW.trod_bool ht h
  exact ⟨n, h1⟩
theorem ArgC.string {up : Bool} {N : Nat} {t : TypeId} {W : World} {cs : List Value} (ht : Tryd.prog.underlying t = some .string) (h : ArgC up N t W cs) : ∃ s : ByteArray, cs = [.string s] ∧ s.size ≤ 9223372036854775807 ∧ (up = true → s.size + 1 ≤ N) ∧ (up = false → s.size ≤ 140737488351232) := by
  obtain ⟨H, enc, d, ps, fuel, h, hs⟩ := h
  obtain ⟨s, h1, h2, h3⟩ := DataW.trod_string ht h
  simp only [Prod.mk.injEq] at h2
  obtain ⟨rfl, rfl⟩ := h2
  have e : s.data.toList.length = s.size := by rw [Array.length_toList]; rfl
  refine ⟨s, h1, h3, fun hu => ?_, fun hu => ?_⟩
  · subst hu; simp only [SizeOk, Rows.uptoBulk] at hs; omega
  · subst hu; simp only [SizeOk, DataW.weights, List.all_cons, List.all_nil, Bool.and_true, reachBytes] at hs; have := of_decide_eq_true hs; omega
theorem ArgC.struct {up : Bool} {N : Nat} {t : TypeId} {W : World} {cs : List Value} {fs : Array Field} (ht : Tryd.prog.underlying t = some (.struct fs)) (h : ArgC up N t W cs) :
    cs.length = Tryd.prog.cellsOf t ∧ ∃ Ns : List Nat, Ns.length = fs.size ∧ (up = true → Ns.sum + 1 ≤ N) ∧ ∀ (i : Nat) (f : Field), fs[i]? = some f → ArgC up (Ns.getD i 0) f.type W ((cs.drop f.offset).take (Tryd.prog.cellsOf f.type)) := by
  obtain ⟨H, enc, d, ps, fuel, h, hs⟩ := h
  obtain ⟨xs, n, rfl, h1, h2, h3, h4⟩ := DataW.trod_struct ht h
  simp only [Prod.mk.injEq] at h1
  obtain ⟨rfl, rfl⟩ := h1
  refine ⟨h2, xs.map (fun x => Rows.uptoBulk x.1), by simpa using h3, fun hu => ?_, fun i f hf => ?_⟩
  · subst hu
    simp only [SizeOk, Rows.uptoBulk] at hs
    have : ∀ l : List (DataW H × List MemPlace), (l.map (fun x => Rows.uptoBulk x.1)).sum = Rows.uptoBulkAll (l.map (·.1)) := by
      intro l; induction l with
      | nil => rfl
      | cons a l ih => simp [Rows.uptoBulkAll, ih]
    rw [this]; omega
  · have hi : i < xs.length := by rw [h3]; exact (Array.getElem?_eq_some_iff.1 hf).1
    have h5 := h4 i f hf
    rw [List.getElem?_eq_getElem hi] at h5
    refine ⟨H, enc, xs[i].1, xs[i].2, n, h5, ?_⟩
    cases up with
    | true => simp only [SizeOk]; rw [List.getD, List.getElem?_map, List.getElem?_eq_getElem hi]; exact Nat.le_refl _
    | false =>
      simp only [SizeOk, DataW.weights, ht] at hs ⊢
      refine List.all_eq_true.2 fun m hm => List.all_eq_true.1 hs m ?_
      exact DataW.weights_mem_each (j := i) (t := f.type) (d := xs[i].1) (by simpa using (congrArg (Option.map (·.type)) hf)) (by simp [List.getElem?_eq_getElem hi]) m hm
theorem cells_of {w : World} {a : Addr} {n : Nat} {cs : List Value} (h : w.cells? 0 a n = some cs) : cs.length = n ∧ ∀ j, j < n → w.cell? (a.add j) = some (cs.getD j undef) := by
  unfold World.cells? at h
  rw [if_pos (Nat.zero_le _)] at h
  have h1 := mapM_some_length h
  simp at h1
  refine ⟨h1, fun j hj => ?_⟩
  have := mapM_some_get h j j (by simp [hj])
  rw [this, List.getD, List.getElem?_eq_getElem (by omega)]; rfl
theorem ArgC.slice {up : Bool} {N : Nat} {t e : TypeId} {W : World} {cs : List Value} {size : Nat} (ht : Tryd.prog.underlying t = some (.slice e)) (hsz : Tryd.prog.cellsOf e = size) (hpos : 0 < size) (h : ArgC up N t W cs) :
    ∃ a n cap, cs = [.slice a n cap] ∧ n ≤ cap ∧ cap ≤ 9223372036854775807 ∧ (a = none → cap = 0) ∧ (up = false → cap * Tryd.prog.bytesOf e ≤ 140737488351232) ∧
      ∃ Ns : List Nat, Ns.length = n ∧ (up = true → Ns.sum + 1 ≤ N ∧ n + 1 ≤ N) ∧
      ∀ i, i < n → ∃ b off cs', a = some ⟨b, off, none⟩ ∧ cs'.length = size ∧ (∀ j, j < size → W.cell? ⟨b, off + (i * size + j), none⟩ = some (cs'.getD j undef)) ∧ ArgC up (Ns.getD i 0) e W cs' := by
  obtain ⟨H, enc, d, ps, fuel, h, hs⟩ := h
  rcases DataW.trod_slice ht h with ⟨h1, h2⟩ | ⟨a, len, cap, elems, rest, n, rfl, h1, h2, _, h3, h4, h5, h6, h7, _⟩
  · subst h1
    simp only [Prod.mk.injEq] at h2
    obtain ⟨rfl, rfl⟩ := h2
    refine ⟨none, 0, 0, rfl, by omega, by omega, fun _ => rfl, fun _ => by omega, [], rfl, fun hu => ?_, fun i hi => by omega⟩
    subst hu; simp only [SizeOk, Rows.uptoBulk] at hs; simp; omega
  · subst h1
    simp only [Prod.mk.injEq] at h2
    obtain ⟨rfl, rfl⟩ := h2
    obtain ⟨h7, _⟩ := h7 rfl
    refine ⟨some a, len, cap, rfl, h3, by unfold maxLen at h4; omega, fun h => by (cases h), fun hu => ?_, elems.map (fun x => Rows.uptoBulk x.1), by simpa using h5, fun hu => ?_, fun i hi => ?_⟩
    · subst hu
      simp only [SizeOk, DataW.weights, ht, List.all_cons, Bool.and_eq_true, List.length_map, reachBytes] at hs
      have : elems.length + rest.length = cap := by omega
      rw [this] at hs; exact of_decide_eq_true hs.1
    · subst hu
      simp only [SizeOk, Rows.uptoBulk] at hs
      have hb : ∀ l : List (DataW H × List MemPlace), (l.map (fun x => Rows.uptoBulk x.1)).sum = Rows.uptoBulkAll (l.map (·.1)) ∧ l.length ≤ Rows.uptoBulkAll (l.map (·.1)) := by
        intro l; induction l with
        | nil => exact ⟨rfl, by simp⟩
        | cons a l ih =>
          have h1 : 1 ≤ Rows.uptoBulk a.1 := by
            cases a.1 with
            | lit l => cases l <;> simp [Rows.uptoBulk]
            | _ => simp [Rows.uptoBulk]
          simp only [List.map_cons, List.sum_cons, Rows.uptoBulkAll, List.length_cons, ih.1, true_and]; omega
      have := hb elems
      rw [this.1]; omega
    · have hi' : i < elems.length := by omega
      have h8 := h6 i hi
      rw [List.getElem?_eq_getElem hi'] at h8
      simp only [Option.bind_eq_some_iff] at h8
      obtain ⟨cs', hc1, hc2⟩ := h8
      obtain ⟨hl, hcell⟩ := cells_of hc1
      rw [hsz] at hl
      have hspot : a.spot = none := by
        have h0 := h6 0 (by omega)
        rw [List.getElem?_eq_getElem (by omega), Nat.zero_mul] at h0
        simp only [Option.bind_eq_some_iff] at h0
        obtain ⟨cs0, hc0, _⟩ := h0
        have h9 := (cells_of hc0).2 0 (by rw [hsz]; omega)
        simpa [Addr.add] using World.cell?_spot h9
      obtain ⟨b, off, spot⟩ := a
      simp only at hspot; subst hspot
      refine ⟨b, off, cs', rfl, hl, fun j hj => ?_, H, enc, elems[i].1, elems[i].2, n, hc2, ?_⟩
      · have := hcell j (by omega)
        rw [hsz] at this
        rw [add_plain, add_plain, Nat.add_assoc] at this; exact this
      · cases up with
        | true => simp only [SizeOk]; rw [List.getD, List.getElem?_map, List.getElem?_eq_getElem hi']; exact Nat.le_refl _
        | false =>
          simp only [SizeOk, DataW.weights, ht, List.all_cons, Bool.and_eq_true, List.all_append] at hs ⊢
          have hall : ∀ (l : List (DataW H)) (d : DataW H), d ∈ l → (DataW.weightsAll Tryd.prog e l).all (· ≤ reachBytes) = true → (DataW.weights Tryd.prog e d).all (· ≤ reachBytes) = true := by
            intro l d hd
            induction l with
            | nil => cases hd
            | cons x l ih =>
              intro hw
              simp only [DataW.weightsAll, List.all_append, Bool.and_eq_true] at hw
              cases List.mem_cons.1 hd with
              | inl e => subst e; exact hw.1
              | inr e => exact ih e hw.2
          exact hall (elems.map (·.1)) _ (List.mem_map.2 ⟨_, List.getElem_mem hi', rfl⟩) hs.2.1
theorem law_contract {up : Bool} {vt : List TypeId} (hvt : vt = []) {f : FuncId} {fn : Func} {s : ChangeSpec} {ts : List TypeId} (hp : fn.params.toList = ts) (hres : fn.resultTypes = #[4]) (hvars : s.vars = [])
    (hr : ∀ t ∈ ts, Tryd.prog.readableRec t = true ∧ t < Tryd.prog.types.size) (hs : ∀ (H : Type) (ds : List (DataW H)), ds.length = ts.length → (s.fn H ds).results = [.lit (.bool true)] ∧ (s.fn H ds).args = ds ∧ (s.fn H ds).vars = []) (walk : Walks up f ts)
    (H : Type) (enc : TypeId × Value → H) (W : World) (base : Nat) (args : Array Value) (ds gs : List (DataW H)) (before : List MemPlace)
    (hval : ∀ (j : Nat) t v, fn.params[j]? = some t → args[j]? = some v → Value.okWide Tryd.prog W .any base t v)
    (hW : DataW.Whole enc Tryd.prog fn.params.toList s.vars false W args.toList ds gs before)
    (hsz : match up with | true => Rows.uptoSmall H (ds ++ gs) = true | false => (DataW.weightsEach Tryd.prog (fn.params.toList ++ vt) (ds ++ gs)).all (· ≤ reachBytes) = true) :
    Calls Tryd.prog f args W fun e W' => ∃ v, e = .returned v ∧ s.post enc Tryd.prog fn false true false false W args v W' := by
  have hW' := hW
  obtain ⟨p, q, hA, hV, rfl, _, _⟩ := hW
  rw [hvars] at hV
  have hg : gs = [] ∧ q = [] := by
    cases gs with
    | nil => exact ⟨rfl, hV⟩
    | cons g gs => exact hV.elim
  obtain ⟨rfl, rfl⟩ := hg
  have hlt : ∀ x ∈ p, x.block < W.heap.size := fun x hx => by simpa using hW'.lt x (by simpa using hx)
  have hlen : ds.length = ts.length := by
    have : ∀ {ts : List TypeId} {vs : List Value} {ds : List (DataW H)} {ps : List MemPlace}, DataW.TrodAll enc Tryd.prog W 0 (fun _ => true) true ts vs ds ps → ds.length = ts.length := by
      intro ts
      induction ts with
      | nil => intro vs ds ps h; cases vs with
        | nil => cases ds with
          | nil => rfl
          | cons _ _ => exact h.elim
        | cons _ _ => exact h.elim
      | cons t ts ih => intro vs ds ps h; cases vs with
        | nil => exact h.elim
        | cons v vs => cases ds with
          | nil => exact h.elim
          | cons d ds => obtain ⟨_, _, _, h2, _⟩ := h; simp [ih h2]
    rw [hp] at hA
    exact this hA
  have hall : ArgAll up W ts args.toList := by
    rw [← hp]
    refine argAll_mk (base := base) hA (fun j t v ht hv => hval j t v (by simpa using ht) (by simpa using hv)) ?_
    cases up with
    | true => have h : Rows.uptoBulkAll (ds ++ []) ≤ 1048576 := of_decide_eq_true hsz
              simpa using h
    | false => subst hvt; simpa using hsz
  have hwalk := walk W args.toList hall
  rw [Array.toArray_toList] at hwalk
  refine hwalk.mono fun e W' ⟨he, hb⟩ => ?_
  obtain ⟨s1, s2, s3⟩ := hs H (ds ++ []) (by simpa using hlen)
  refine ⟨_, he, _, _, _, [], p, [], hW', ?_, ?_, ?_, hb.frame _, fun h => by cases h⟩
  · rw [s1, hres]; exact ⟨[], [], shut_bool (by kernel_rfl) true, rfl, rfl⟩
  · rw [s2, List.append_nil]; exact trodAll_below hb (by rw [hp]; exact hr) hA hlt
  · rw [s3, hvars]; rfl
end Go.Proofs.YtjoadcgegobjpaaDoor
/-
  What arguments read as: numbers, structs, slices of structs, lists of numbers.
-/
namespace Go.Proofs.YtjoadcgegobjpaaDoor
set_option maxRecDepth 100000
open Go.RowKit

theorem list_of {α : Type} (z : α) (Q : Nat → α → Prop) : ∀ n : Nat, (∀ i, i < n → ∃ x, Q i x) → ∃ l : List α, l.length = n ∧ ∀ i, i < n → Q i (l.getD i z)
  | 0, _ => ⟨[], rfl, fun i h => by omega⟩
  | n + 1, h => by
    obtain ⟨l, h1, h2⟩ := list_of z Q n (fun i hi => h i (by omega))
    obtain ⟨x, hx⟩ := h n (by omega)
    refine ⟨l ++ [x], by simp [h1], fun i hi => ?_⟩
    by_cases hin : i < n
    · rw [List.getD, List.getElem?_append_left (by omega)]; exact h2 i hin
    · obtain rfl : i = n := by omega
      rw [List.getD, List.getElem?_append_right (by omega), h1]; simpa using hx
theorem getD_map_lt {α β : Type} (f : α → β) (l : List α) (i : Nat) (z : α) (y : β) (h : i < l.length) : (l.map f).getD i y = f (l.getD i z) := by
  simp [List.getD, h]
theorem flatMap_get {α : Type} (f : α → List Value) (size : Nat) (hs : ∀ x, (f x).length = size) (hp : 0 < size) (z : α) : ∀ (l : List α) (i j : Nat), i < l.length → j < size → (l.flatMap f).getD (i * size + j) undef = (f (l.getD i z)).getD j undef
  | [], i, j, hi, _ => by simp at hi
  | a :: l, 0, j, _, hj => by
    rw [List.flatMap_cons, List.getD, List.getElem?_append_left (by rw [hs]; omega)]; simp
  | a :: l, i + 1, j, hi, hj => by
    have := flatMap_get f size hs hp z l i j (by simpa using hi) hj
    rw [List.flatMap_cons, List.getD, List.getElem?_append_right (by rw [hs, Nat.add_mul]; omega), hs, show (i + 1) * size + j - size = i * size + j by rw [Nat.add_mul]; omega]
    simpa [List.getD] using this
theorem flatMap_len {α : Type} (f : α → List Value) (size : Nat) (hs : ∀ x, (f x).length = size) : ∀ l : List α, (l.flatMap f).length = l.length * size
  | [] => by simp
  | a :: l => by rw [List.flatMap_cons, List.length_append, hs, flatMap_len f size hs l, List.length_cons, Nat.add_mul]; omega
/-- A slice of elements of so many cells, each of which reads as something. -/
theorem ArgC.flat {up : Bool} {N : Nat} {t e : TypeId} {W : World} {v : Value} {size : Nat} {α : Type} (z : α) (f : α → List Value) (hf : ∀ x, (f x).length = size) (hp : 0 < size) (R : Nat → α → Prop) (ht : Tryd.prog.underlying t = some (.slice e)) (hsz : Tryd.prog.cellsOf e = size) (h : ArgC up N t W [v])
    (hel : ∀ N cs, cs.length = size → ArgC up N e W cs → ∃ x, cs = f x ∧ R N x) :
    ∃ l : List α, Rd W v l.length (l.flatMap f) ∧ (up = false → l.length * Tryd.prog.bytesOf e ≤ 140737488351232) ∧ ∃ Ns : List Nat, Ns.length = l.length ∧ (up = true → Ns.sum + 1 ≤ N ∧ l.length + 1 ≤ N) ∧ ∀ i, i < l.length → R (Ns.getD i 0) (l.getD i z) := by
  obtain ⟨a, n, cap, h1, h2, h3, h4, h5, Ns, h6, h7, h8⟩ := h.slice ht hsz hp
  simp only [List.cons.injEq, and_true] at h1
  subst h1
  obtain ⟨l, hl, hv⟩ := list_of z (fun i x => ∃ b off, a = some ⟨b, off, none⟩ ∧ (∀ j, j < size → W.cell? ⟨b, off + (i * size + j), none⟩ = some ((f x).getD j undef)) ∧ R (Ns.getD i 0) x) n (fun i hi => by
    obtain ⟨b, off, cs', g1, g2, g3, g4⟩ := h8 i hi
    obtain ⟨x, rfl, hx⟩ := hel _ cs' g2 g4
    exact ⟨x, b, off, g1, g3, hx⟩)
  subst hl
  refine ⟨l, ⟨a, cap, rfl, h2, h3, h4, fun j hj => ?_⟩, fun hu => Nat.le_trans (Nat.mul_le_mul_right _ h2) (h5 hu), Ns, h6, h7, fun i hi => ?_⟩
  · rw [flatMap_len f size hf] at hj
    have hq : j / size < l.length := (Nat.div_lt_iff_lt_mul hp).2 hj
    obtain ⟨b, off, g1, g2, _⟩ := hv (j / size) hq
    have hr : j % size < size := Nat.mod_lt _ hp
    have hj2 : j / size * size + j % size = j := by rw [Nat.mul_comm]; exact Nat.div_add_mod j size
    refine ⟨b, off, g1, ?_⟩
    have g3 := g2 (j % size) hr
    rw [hj2] at g3
    rw [g3, ← flatMap_get f size hf hp z l (j / size) (j % size) hq hr, hj2]
  · obtain ⟨_, _, _, _, g3⟩ := hv i hi
    exact g3
theorem i64_of_wf {n : Int} (h : (Lit.int .i64 n).wf = true) : -9223372036854775808 ≤ n ∧ n ≤ 9223372036854775807 := by
  simp [Lit.wf, IntKind.min, IntKind.max, IntKind.signed, IntKind.bits] at h; omega
theorem Arg.slice {up : Bool} {t e : TypeId} {W : World} {v : Value} (ht : Tryd.prog.underlying t = some (.slice e)) (h : Arg up t W v) : ArgC up 1048576 t W [v] := by
  obtain ⟨h, base, ho⟩ := h
  obtain ⟨a, n, c, rfl⟩ := Go.WideShapes.okWide_slice ht ho
  exact h
theorem Arg.int {up : Bool} {t : TypeId} {k : IntKind} {W : World} {v : Value} (ht : Tryd.prog.underlying t = some (.int k)) (h : Arg up t W v) : ∃ n, v = .int k n ∧ (Lit.int k n).wf = true := by
  obtain ⟨h, base, ho⟩ := h
  obtain ⟨n, rfl⟩ := Go.WideShapes.okWide_int ht ho
  obtain ⟨m, h1, h2⟩ := h.int ht
  simp [Value.cells] at h1
  subst h1
  exact ⟨n, rfl, h2⟩
theorem Arg.struct {up : Bool} {t : TypeId} {fs : Array Field} {W : World} {v : Value} (ht : Tryd.prog.underlying t = some (.struct fs)) (h : Arg up t W v) : ∃ cs : Array Value, v = .agg cs ∧ ArgC up 1048576 t W cs.toList := by
  obtain ⟨h, base, ho⟩ := h
  obtain ⟨cs, rfl, _⟩ := Go.WideShapes.okWide_struct ht ho
  exact ⟨cs, rfl, h⟩
theorem drop_take_one {cs : List Value} {o : Nat} {c : Value} (h : cs[o]? = some c) : (cs.drop o).take 1 = [c] := by
  have ho := (List.getElem?_eq_some_iff.1 h).1
  have hc := (List.getElem?_eq_some_iff.1 h).2
  rw [List.drop_eq_getElem_cons ho, hc]; rfl
/-- A field of a struct, by its cell. -/
theorem ArgC.fcell {up : Bool} {N : Nat} {t : TypeId} {fs : Array Field} {W : World} {cs : List Value} (h : ArgC up N t W cs) (ht : Tryd.prog.underlying t = some (.struct fs)) (i : Nat) (f : Field) (hf : fs[i]? = some f) (hc : Tryd.prog.cellsOf f.type = 1) (c : Value) (hcs : cs[f.offset]? = some c) :
    ∃ M, M ≤ N + (if up then 0 else M) ∧ ArgC up M f.type W [c] := by
  obtain ⟨_, Ns, h1, h2, h3⟩ := h.struct ht
  have g := h3 i f hf
  rw [hc, drop_take_one hcs] at g
  refine ⟨_, ?_, g⟩
  cases up with
  | false => simp
  | true =>
    have := h2 rfl
    have hle : ∀ (l : List Nat) (i : Nat), l.getD i 0 ≤ l.sum := by
      intro l
      induction l with
      | nil => intro i; simp
      | cons a l ih =>
        intro i
        cases i with
        | zero => simp
        | succ i => have := ih i; simp at this ⊢; omega
    have := hle Ns i
    rw [if_pos rfl]; omega
theorem ArgC.fint {up : Bool} {N : Nat} {t : TypeId} {fs : Array Field} {W : World} {cs : List Value} (h : ArgC up N t W cs) (ht : Tryd.prog.underlying t = some (.struct fs)) (i : Nat) (f : Field) (hf : fs[i]? = some f) (hc : Tryd.prog.cellsOf f.type = 1) (c : Value) (hcs : cs[f.offset]? = some c)
    (k : IntKind) (hk : Tryd.prog.underlying f.type = some (.int k)) : ∃ n, c = .int k n ∧ (Lit.int k n).wf = true := by
  obtain ⟨M, _, g⟩ := h.fcell ht i f hf hc c hcs
  obtain ⟨n, e, hw⟩ := g.int (k := k) hk
  simp only [List.cons.injEq, and_true] at e
  exact ⟨n, e, hw⟩
theorem ArgC.fbool {up : Bool} {N : Nat} {t : TypeId} {fs : Array Field} {W : World} {cs : List Value} (h : ArgC up N t W cs) (ht : Tryd.prog.underlying t = some (.struct fs)) (i : Nat) (f : Field) (hf : fs[i]? = some f) (hc : Tryd.prog.cellsOf f.type = 1) (c : Value) (hcs : cs[f.offset]? = some c)
    (hk : Tryd.prog.underlying f.type = some .bool) : ∃ b, c = .bool b := by
  obtain ⟨M, _, g⟩ := h.fcell ht i f hf hc c hcs
  obtain ⟨n, e⟩ := g.bool hk
  simp only [List.cons.injEq, and_true] at e
  exact ⟨n, e⟩
theorem ArgC.fstring {up : Bool} {N : Nat} {t : TypeId} {fs : Array Field} {W : World} {cs : List Value} (h : ArgC up N t W cs) (ht : Tryd.prog.underlying t = some (.struct fs)) (i : Nat) (f : Field) (hf : fs[i]? = some f) (hc : Tryd.prog.cellsOf f.type = 1) (c : Value) (hcs : cs[f.offset]? = some c)
    (hk : Tryd.prog.underlying f.type = some .string) : ∃ s : ByteArray, c = .string s ∧ s.size ≤ 9223372036854775807 ∧ (up = true → s.size + 1 ≤ N) ∧ (up = false → s.size ≤ 140737488351232) := by
  obtain ⟨M, hM, g⟩ := h.fcell ht i f hf hc c hcs
  obtain ⟨s, e, h1, h2, h3⟩ := g.string hk
  simp only [List.cons.injEq, and_true] at e
  refine ⟨s, e, h1, fun hu => ?_, h3⟩
  have := h2 hu
  subst hu
  simp at hM; omega
/-- A struct in a struct. -/
theorem ArgC.fstruct {up : Bool} {N : Nat} {t : TypeId} {fs : Array Field} {W : World} {cs : List Value} (h : ArgC up N t W cs) (ht : Tryd.prog.underlying t = some (.struct fs)) (i : Nat) (f : Field) (hf : fs[i]? = some f) (t' : TypeId) (o n : Nat) (e1 : f.type = t') (e2 : f.offset = o) (e3 : Tryd.prog.cellsOf t' = n) : ∃ M, M ≤ N + (if up then 0 else M) ∧ ArgC up M t' W ((cs.drop o).take n) := by
  subst e1; subst e2; subst e3
  obtain ⟨_, Ns, h1, h2, h3⟩ := h.struct ht
  refine ⟨_, ?_, h3 i f hf⟩
  cases up with
  | false => simp
  | true =>
    have := h2 rfl
    have hle : ∀ (l : List Nat) (i : Nat), l.getD i 0 ≤ l.sum := by
      intro l
      induction l with
      | nil => intro i; simp
      | cons a l ih =>
        intro i
        cases i with
        | zero => simp
        | succ i => have := ih i; simp at this ⊢; omega
    have := hle Ns i
    rw [if_pos rfl]; omega
/-- The numbers that Go's int holds. -/
def I64 (n : Int) : Prop := -9223372036854775808 ≤ n ∧ n ≤ 9223372036854775807
end Go.Proofs.YtjoadcgegobjpaaDoor
/-
  One act of chapter 13's world.
-/
namespace Go.Proofs.YtjoadcgegobjpaaDoor
open Go.RowKit
set_option maxRecDepth 100000

theorem PlayW.more {W : World} {pw p rp c c' : Nat} {l : LogM} {pl pm : Nat} {d : DiskM} {F G : Nat → Prop} {wr : World} (h : PlayW W pw p rp c l pl pm d F G wr) (hc : c ≤ c') : PlayW W pw p rp c' l pl pm d F G wr :=
  ⟨h.dr.more hc, h.box, h.log, h.rlog, h.small, h.fit, h.ids⟩
/-- Other logs. -/
theorem PlayW.renew {W : World} {pw p rp c : Nat} {l l' : LogM} {pl pm pl' pm' : Nat} {d : DiskM} {F G : Nat → Prop} {w8 : World} (h : PlayW W pw p rp c l pl pm d F G w8) (hl : IsLog w8 l' pl' p) (hr : IsRLog w8 l' pm' rp)
    (fit : l'.base + l'.n ≤ d.strs.length ∧ 1 ≤ l'.n ∧ l'.used ≤ l'.n ∧ l'.records ≤ l'.used) (hpm : W.heap.size ≤ pm' ∧ ∀ k, F k ∨ G k ∨ k = pw → k < pm') (hpl : pm' < pl') :
    PlayW W pw p rp c l' pl' pm' d F G ((w8.setCell ⟨pw, 1, none⟩ (.pointer (some ⟨pl', 0, none⟩))).setCell ⟨pw, 3, none⟩ (.pointer (some ⟨pm', 0, none⟩))) := by
  have hm := (Mod.set (fun b => b = pw) w8 ⟨pw, 1, none⟩ (.pointer (some ⟨pl', 0, none⟩)) rfl).trans (Mod.set (fun b => b = pw) _ ⟨pw, 3, none⟩ (.pointer (some ⟨pm', 0, none⟩)) rfl)
  have s3 := (h.box.set 1 (.pointer (some ⟨pl', 0, none⟩))).set 3 (.pointer (some ⟨pm', 0, none⟩))
  have hids := h.ids
  have hp := hpm.2 pw (.inr (.inr rfl))
  exact ⟨h.dr.aside hm (fun k hk e => (hids.1 k hk).1 e) (fun k e => e ▸ hids.2.2.2.2.1), s3, Box.mod hl hm (by omega), Box.mod hr hm (by omega), h.small, fit,
      fun k hk => by have := hpm.2 k (by rcases hk with hk | hk; exact .inl hk; exact .inr (.inl hk)); exact ⟨(hids.1 k hk).1, by omega, by omega⟩, by omega, by omega, by omega, hids.2.2.2.2.1, by have := hpm.1; omega, hpm.1⟩
set_option maxHeartbeats 1600000 in
theorem doesW_cut (W : World) (kind n : Int) (v : Value) (q : List UInt8) (pw p rp c : Nat) (l : LogM) (pl pm : Nat) (d : DiskM) (F G : Nat → Prop) (wr : World) (hk : I64 kind) (hn : I64 n) (hv : Rd W v q.length (q.map V8)) (hq : q.length ≤ 10000) (h : PlayW W pw p rp c l pl pm d F G wr) (hg : ErrType W) (hc : c ≤ 10000000) (hpk : pickI kind 7 = 3) :
    Calls Tryd.prog 11 #[.pointer (some ⟨pw, 0, none⟩), .agg #[.int .i64 kind, .int .i64 n, v]] wr fun r w' => r = .returned (.bool true) ∧ ∃ (l' : LogM) (pl' pm' : Nat) (d' : DiskM) (F' G' : Nat → Prop), PlayW W pw p rp (c + 4) l' pl' pm' d' F' G' w' := by
  obtain ⟨va, vc, rfl⟩ : ∃ a c, v = .slice a q.length c := by obtain ⟨a, c, h, _⟩ := hv; exact ⟨a, c, h⟩
  have hpick := fun w => pick_calls kind 7 w hk.1 hk.2 (by omega) (by omega)
  have hlt := pickI_lt kind 7 (by omega)
  obtain ⟨pk, hpe⟩ : ∃ pk, pk = pickI kind 7 := ⟨_, rfl⟩
  rw [← hpe] at hpick hpk hlt
  have Hpick := Lib.hid hpick
  clear hpick hpe hk
  have hX := Box.new wr #[.int .i64 kind, .int .i64 n, .slice va q.length vc] 48
  have hbA := below_alloc wr (.cells #[.int .i64 kind, .int .i64 n, .slice va q.length vc] 48)
  have hpA := h.to hbA
  obtain ⟨ab, hab⟩ : ∃ ab, ab = wr.heap.size := ⟨_, rfl⟩
  have Hab := Lib.hid (show (∀ k, F k ∨ G k ∨ k = pw ∨ k = pl ∨ k = pm → k ≠ ab) ∧ W.heap.size ≤ ab from ⟨fun k hk e => by
    rcases hk with hk | hk | rfl | rfl | rfl
    · have := h.dr.disk.lt k hk; omega
    · have := h.dr.ref.lt k hk; omega
    · have := h.box.lt; omega
    · have := Box.lt h.log; omega
    · have := Box.lt h.rlog; omega, by rw [hab]; exact h.dr.below.size⟩)
  rw [← hab] at hX
  have Hv := Lib.hid hv
  have Hq := Lib.hid hq
  have HE := Lib.hid hg
  have Hn := Lib.hid hn
  have Hc := Lib.hid hc
  have HX := Lib.hid hX
  have HP := Lib.hid hpA
  have c0 := hX.cell 0 _ rfl
  clear h hbA hX hpA hv hq hg hn hc
  go_enter Tryd.func11, Tryd.ntmps11
  go_wp2_with fail
  rw [← hab]
  clear hab
  generalize wr.alloc (.cells #[.int .i64 kind, .int .i64 n, .slice va q.length vc] 48) = wA at c0 HX HP ⊢
  refine (Hpick.out _).mono ?_
  rintro r w0 ⟨rfl, rfl⟩
  clear Hpick c0
  subst hpk
  have b0 := HP.out.box.cell 0 _ rfl
  have x1 := HX.out.cell 1 _ rfl
  have hcu := cut_calls d p F n wA.drew (HP.out.to (below_drew wA)).dr.disk Hn.out.2
  obtain ⟨d', hd'⟩ : ∃ d' : DiskM, d' = { d with left := if n < 0 then none else some n.toNat } := ⟨_, rfl⟩
  rw [← hd'] at hcu
  have Hcu := Lib.hid hcu
  have Hd' := Lib.hid hd'
  clear hcu hd'
  go_wp2_with fail
  go_still_tail 6, (by kernel_rfl)
  change wpList _ _ _ _ _ wA.drew
  go_wp2_with fail
  refine Hcu.out.mono ?_
  rintro r w1 ⟨rfl, F1, g1, g2, g3⟩
  have hid := (HP.out.to (below_drew wA)).ids.1
  have hx1 := ((HX.out.below (below_drew wA)).mod g2 (fun hf => Hab.out.1 ab (.inl hf) rfl)).below (below_drew w1)
  have hb1 := (((HP.out.to (below_drew wA)).box).mod g2 (fun hf => (hid pw (.inl hf)).1 rfl)).below (below_drew w1)
  have hr1 := (((HP.out.to (below_drew wA)).dr.ref).mod g2 (fun k hk hf => HP.out.dr.fg k hf hk)).below (below_drew w1)
  have x1 := hx1.cell 1 _ rfl
  have b2 := hb1.cell 2 _ rfl
  have hcut := refCut_calls d rp G n w1.drew hr1 Hn.out.2
  rw [← Hd'.out] at hcut
  have Hcut := Lib.hid hcut
  have HG := Lib.hid (show IsDisk w1.drew d' p F1 ∧ Mod F wA w1.drew ∧ ∀ k, F1 k → F k ∨ wA.heap.size ≤ k from ⟨g1.mod (Mod.drew (fun _ => False) _) (fun _ _ h => h), ((Mod.drew F wA).trans g2).trans (Mod.drew F w1), g3⟩)
  clear g1 g2 g3 hid hx1 hb1 hr1 hcut b0 Hcu
  have x1 : w1.cell? ⟨ab, 1, none⟩ = some (.int .i64 n) := x1
  have b2 : w1.cell? ⟨pw, 2, none⟩ = some (.pointer (some ⟨rp, 0, none⟩)) := b2
  go_wp2_with fail
  go_still_tail 6, (by kernel_rfl)
  change wpList _ _ _ _ _ w1.drew
  go_wp2_with fail
  refine Hcut.out.mono ?_
  rintro r w2 ⟨rfl, k1, k2⟩
  have HZ := Lib.hid (show PlayW W pw p rp (c + 4) l pl pm d' F1 G w2 from by
    have hwf := HP.out.dr.wf
    have htr := HP.out.dr.trail
    exact HP.out.turn HG.out.1 HG.out.2.1 HG.out.2.2 k1 k2 (fun k hk => .inl hk) (by rw [Hd'.out]; exact ⟨hwf.inr, hwf.short, hwf.play⟩) (by rw [Hd'.out]) (by rw [Hd'.out]; show d.trail.length ≤ _; omega) (by rw [Hd'.out]; exact HP.out.small))
  clear k1 k2 x1 b2
  go_wp2_with fail
  go_ret
  exact ⟨rfl, _, _, _, _, _, _, HZ.out⟩
set_option maxHeartbeats 1600000 in
theorem doesW_open4 (W : World) (kind n : Int) (v : Value) (q : List UInt8) (pw p rp c : Nat) (l : LogM) (pl pm : Nat) (d : DiskM) (F G : Nat → Prop) (wr : World) (hk : I64 kind) (hn : I64 n) (hv : Rd W v q.length (q.map V8)) (hq : q.length ≤ 10000) (h : PlayW W pw p rp c l pl pm d F G wr) (hg : ErrType W) (hc : c ≤ 10000000) (hpk : pickI kind 7 = 4) :
    Calls Tryd.prog 11 #[.pointer (some ⟨pw, 0, none⟩), .agg #[.int .i64 kind, .int .i64 n, v]] wr fun r w' => r = .returned (.bool true) ∧ ∃ (l' : LogM) (pl' pm' : Nat) (d' : DiskM) (F' G' : Nat → Prop), PlayW W pw p rp (c + 4) l' pl' pm' d' F' G' w' := by
  obtain ⟨va, vc, rfl⟩ : ∃ a c, v = .slice a q.length c := by obtain ⟨a, c, h, _⟩ := hv; exact ⟨a, c, h⟩
  have hpick := fun w => pick_calls kind 7 w hk.1 hk.2 (by omega) (by omega)
  have hlt := pickI_lt kind 7 (by omega)
  obtain ⟨pk, hpe⟩ : ∃ pk, pk = pickI kind 7 := ⟨_, rfl⟩
  rw [← hpe] at hpick hpk hlt
  have Hpick := Lib.hid hpick
  clear hpick hpe hk
  have hX := Box.new wr #[.int .i64 kind, .int .i64 n, .slice va q.length vc] 48
  have hbA := below_alloc wr (.cells #[.int .i64 kind, .int .i64 n, .slice va q.length vc] 48)
  have hpA := h.to hbA
  obtain ⟨ab, hab⟩ : ∃ ab, ab = wr.heap.size := ⟨_, rfl⟩
  have Hab := Lib.hid (show (∀ k, F k ∨ G k ∨ k = pw ∨ k = pl ∨ k = pm → k ≠ ab) ∧ W.heap.size ≤ ab from ⟨fun k hk e => by
    rcases hk with hk | hk | rfl | rfl | rfl
    · have := h.dr.disk.lt k hk; omega
    · have := h.dr.ref.lt k hk; omega
    · have := h.box.lt; omega
    · have := Box.lt h.log; omega
    · have := Box.lt h.rlog; omega, by rw [hab]; exact h.dr.below.size⟩)
  rw [← hab] at hX
  have Hv := Lib.hid hv
  have Hq := Lib.hid hq
  have HE := Lib.hid hg
  have Hn := Lib.hid hn
  have Hc := Lib.hid hc
  have HX := Lib.hid hX
  have HP := Lib.hid hpA
  have c0 := hX.cell 0 _ rfl
  clear h hbA hX hpA hv hq hg hn hc
  go_enter Tryd.func11, Tryd.ntmps11
  go_wp2_with fail
  rw [← hab]
  clear hab
  generalize wr.alloc (.cells #[.int .i64 kind, .int .i64 n, .slice va q.length vc] 48) = wA at c0 HX HP ⊢
  refine (Hpick.out _).mono ?_
  rintro r w0 ⟨rfl, rfl⟩
  clear Hpick c0
  subst hpk
  have b3 := HP.out.box.cell 3 _ rfl
  have q3 := Box.cell HP.out.rlog 3 _ rfl
  have Hop := Lib.hid (openW_calls W pw p rp c l pl pm d F G l.epoch wA HP.out Hc.out)
  go_wp2_with fail
  refine Hop.out.mono ?_
  rintro r w2 ⟨rfl, l', pl', pm', d', F', G', hz⟩
  have HZ := Lib.hid (hz.more (show c ≤ c + 4 by omega))
  clear hz
  go_wp2_with fail
  go_ret
  exact ⟨rfl, _, _, _, _, _, _, HZ.out⟩
set_option maxHeartbeats 1600000 in
theorem doesW_open5 (W : World) (kind n : Int) (v : Value) (q : List UInt8) (pw p rp c : Nat) (l : LogM) (pl pm : Nat) (d : DiskM) (F G : Nat → Prop) (wr : World) (hk : I64 kind) (hn : I64 n) (hv : Rd W v q.length (q.map V8)) (hq : q.length ≤ 10000) (h : PlayW W pw p rp c l pl pm d F G wr) (hg : ErrType W) (hc : c ≤ 10000000) (hpk : pickI kind 7 = 5) :
    Calls Tryd.prog 11 #[.pointer (some ⟨pw, 0, none⟩), .agg #[.int .i64 kind, .int .i64 n, v]] wr fun r w' => r = .returned (.bool true) ∧ ∃ (l' : LogM) (pl' pm' : Nat) (d' : DiskM) (F' G' : Nat → Prop), PlayW W pw p rp (c + 4) l' pl' pm' d' F' G' w' := by
  obtain ⟨va, vc, rfl⟩ : ∃ a c, v = .slice a q.length c := by obtain ⟨a, c, h, _⟩ := hv; exact ⟨a, c, h⟩
  have hpick := fun w => pick_calls kind 7 w hk.1 hk.2 (by omega) (by omega)
  have hlt := pickI_lt kind 7 (by omega)
  obtain ⟨pk, hpe⟩ : ∃ pk, pk = pickI kind 7 := ⟨_, rfl⟩
  rw [← hpe] at hpick hpk hlt
  have Hpick := Lib.hid hpick
  clear hpick hpe hk
  have hX := Box.new wr #[.int .i64 kind, .int .i64 n, .slice va q.length vc] 48
  have hbA := below_alloc wr (.cells #[.int .i64 kind, .int .i64 n, .slice va q.length vc] 48)
  have hpA := h.to hbA
  obtain ⟨ab, hab⟩ : ∃ ab, ab = wr.heap.size := ⟨_, rfl⟩
  have Hab := Lib.hid (show (∀ k, F k ∨ G k ∨ k = pw ∨ k = pl ∨ k = pm → k ≠ ab) ∧ W.heap.size ≤ ab from ⟨fun k hk e => by
    rcases hk with hk | hk | rfl | rfl | rfl
    · have := h.dr.disk.lt k hk; omega
    · have := h.dr.ref.lt k hk; omega
    · have := h.box.lt; omega
    · have := Box.lt h.log; omega
    · have := Box.lt h.rlog; omega, by rw [hab]; exact h.dr.below.size⟩)
  rw [← hab] at hX
  have Hv := Lib.hid hv
  have Hq := Lib.hid hq
  have HE := Lib.hid hg
  have Hn := Lib.hid hn
  have Hc := Lib.hid hc
  have HX := Lib.hid hX
  have HP := Lib.hid hpA
  have c0 := hX.cell 0 _ rfl
  clear h hbA hX hpA hv hq hg hn hc
  go_enter Tryd.func11, Tryd.ntmps11
  go_wp2_with fail
  rw [← hab]
  clear hab
  generalize wr.alloc (.cells #[.int .i64 kind, .int .i64 n, .slice va q.length vc] 48) = wA at c0 HX HP ⊢
  refine (Hpick.out _).mono ?_
  rintro r w0 ⟨rfl, rfl⟩
  clear Hpick c0
  subst hpk
  have x1 := HX.out.cell 1 _ rfl
  have h4 := pickI_lt n 4 (by omega)
  have hp4 := pick_calls n 4 wA Hn.out.1 Hn.out.2 (by omega) (by omega)
  obtain ⟨z4, hz4⟩ : ∃ z4, z4 = pickI n 4 := ⟨_, rfl⟩
  rw [← hz4] at h4 hp4
  obtain ⟨e4, he4⟩ : ∃ e4 : UInt32, e4 = UInt32.ofNat z4.toNat := ⟨_, rfl⟩
  have z1 : IntKind.u32.wrap z4 = (e4.toNat : Int) := by
    have h1 : (UInt32.ofNat z4.toNat).toNat = z4.toNat % 4294967296 := rfl
    rw [he4, h1]
    simp [IntKind.wrap, IntKind.bits, IntKind.signed]; omega
  have Hp4 := Lib.hid hp4
  have Hop := Lib.hid (openW_calls W pw p rp c l pl pm d F G e4 wA HP.out Hc.out)
  clear hp4 he4 hz4
  go_wp2_with fail
  refine Hp4.out.mono ?_
  rintro r w1 ⟨rfl, rfl⟩
  go_wp2_with fail
  refine Hop.out.mono ?_
  rintro r w2 ⟨rfl, l', pl', pm', d', F', G', hz⟩
  have HZ := Lib.hid (hz.more (show c ≤ c + 4 by omega))
  clear hz
  go_wp2_with fail
  go_ret
  exact ⟨rfl, _, _, _, _, _, _, HZ.out⟩
end Go.Proofs.YtjoadcgegobjpaaDoor
/-
  One act of chapter 13's world: a new log.
-/
namespace Go.Proofs.YtjoadcgegobjpaaDoor
open Go.RowKit
set_option maxRecDepth 100000

set_option maxHeartbeats 1600000 in
theorem doesW_new (W : World) (kind n : Int) (v : Value) (q : List UInt8) (pw p rp c : Nat) (l : LogM) (pl pm : Nat) (d : DiskM) (F G : Nat → Prop) (wr : World) (hk : I64 kind) (hn : I64 n) (hv : Rd W v q.length (q.map V8)) (hq : q.length ≤ 10000) (h : PlayW W pw p rp c l pl pm d F G wr) (hg : ErrType W) (hc : c ≤ 10000000) (hpk : pickI kind 7 = 6) :
    Calls Tryd.prog 11 #[.pointer (some ⟨pw, 0, none⟩), .agg #[.int .i64 kind, .int .i64 n, v]] wr fun r w' => r = .returned (.bool true) ∧ ∃ (l' : LogM) (pl' pm' : Nat) (d' : DiskM) (F' G' : Nat → Prop), PlayW W pw p rp (c + 4) l' pl' pm' d' F' G' w' := by
  obtain ⟨va, vc, rfl⟩ : ∃ a c, v = .slice a q.length c := by obtain ⟨a, c, h, _⟩ := hv; exact ⟨a, c, h⟩
  have hpick := fun w => pick_calls kind 7 w hk.1 hk.2 (by omega) (by omega)
  have hlt := pickI_lt kind 7 (by omega)
  obtain ⟨pk, hpe⟩ : ∃ pk, pk = pickI kind 7 := ⟨_, rfl⟩
  rw [← hpe] at hpick hpk hlt
  have Hpick := Lib.hid hpick
  clear hpick hpe hk
  have hX := Box.new wr #[.int .i64 kind, .int .i64 n, .slice va q.length vc] 48
  have hbA := below_alloc wr (.cells #[.int .i64 kind, .int .i64 n, .slice va q.length vc] 48)
  have hpA := h.to hbA
  obtain ⟨ab, hab⟩ : ∃ ab, ab = wr.heap.size := ⟨_, rfl⟩
  have Hab := Lib.hid (show (∀ k, F k ∨ G k ∨ k = pw ∨ k = pl ∨ k = pm → k ≠ ab) ∧ W.heap.size ≤ ab from ⟨fun k hk e => by
    rcases hk with hk | hk | rfl | rfl | rfl
    · have := h.dr.disk.lt k hk; omega
    · have := h.dr.ref.lt k hk; omega
    · have := h.box.lt; omega
    · have := Box.lt h.log; omega
    · have := Box.lt h.rlog; omega, by rw [hab]; exact h.dr.below.size⟩)
  rw [← hab] at hX
  have Hv := Lib.hid hv
  have Hq := Lib.hid hq
  have HE := Lib.hid hg
  have Hn := Lib.hid hn
  have Hc := Lib.hid hc
  have HX := Lib.hid hX
  have HP := Lib.hid hpA
  have c0 := hX.cell 0 _ rfl
  clear h hbA hX hpA hv hq hg hn hc
  go_enter Tryd.func11, Tryd.ntmps11
  go_wp2_with fail
  rw [← hab]
  clear hab
  generalize wr.alloc (.cells #[.int .i64 kind, .int .i64 n, .slice va q.length vc] 48) = wA at c0 HX HP ⊢
  refine (Hpick.out _).mono ?_
  rintro r w0 ⟨rfl, rfl⟩
  clear Hpick c0
  subst hpk
  have h4 := pickI_lt n 4 (by omega)
  have hp4 := fun w => pick_calls n 4 w Hn.out.1 Hn.out.2 (by omega) (by omega)
  obtain ⟨z4, hz4⟩ : ∃ z4, z4 = pickI n 4 := ⟨_, rfl⟩
  rw [← hz4] at h4 hp4
  obtain ⟨e4, he4⟩ : ∃ e4 : UInt32, e4 = UInt32.ofNat z4.toNat := ⟨_, rfl⟩
  have z1 : IntKind.u32.wrap z4 = (e4.toNat : Int) := by
    have h1 : (UInt32.ofNat z4.toNat).toNat = z4.toNat % 4294967296 := rfl
    rw [he4, h1]
    simp [IntKind.wrap, IntKind.bits, IntKind.signed]; omega
  have Hp4 := Lib.hid hp4
  have hpd := HP.out.to (below_drew wA)
  have hfit := hpd.fit
  have Hrn := Lib.hid (refLNew_yes d rp G l.base l.n e4 wA.drew hpd.dr.ref hpd.dr.small hfit.2.1 hfit.1)
  have x1 := (HX.out.below (below_drew wA)).cell 1 _ rfl
  have b2 := hpd.box.cell 2 _ rfl
  have b3 := hpd.box.cell 3 _ rfl
  have q1 := Box.cell hpd.rlog 1 _ rfl
  have q2 := Box.cell hpd.rlog 2 _ rfl
  have f0 : wA.drew.cell? ⟨pw, 2, none⟩ = some (.pointer (some ⟨rp, 0, none⟩)) ∧ wA.drew.cell? ⟨pw, 3, none⟩ = some (.pointer (some ⟨pm, 0, none⟩)) ∧ wA.drew.cell? ⟨pm, 1, none⟩ = some (.int .i64 (l.base : Int)) ∧ wA.drew.cell? ⟨pm, 2, none⟩ = some (.int .i64 (l.n : Int)) ∧ wA.drew.cell? ⟨ab, 1, none⟩ = some (.int .i64 n) := ⟨b2, b3, q1, q2, x1⟩
  have HX0 := Lib.hid (HX.out.below (below_drew wA))
  have HP0 := Lib.hid hpd
  have Hfit := Lib.hid hfit
  clear hp4 he4 hz4 hpd hfit x1 b2 b3 q1 q2 HX HP
  go_wp2_with fail
  go_region_held3 (fun w' => w'.cell? ⟨pw, 2, none⟩ = some (.pointer (some ⟨rp, 0, none⟩)) ∧ w'.cell? ⟨pw, 3, none⟩ = some (.pointer (some ⟨pm, 0, none⟩)) ∧ w'.cell? ⟨pm, 1, none⟩ = some (.int .i64 (l.base : Int)) ∧ w'.cell? ⟨pm, 2, none⟩ = some (.int .i64 (l.n : Int)) ∧ w'.cell? ⟨ab, 1, none⟩ = some (.int .i64 n))
    (first | with_reducible exact f0 | with_reducible exact f1)
    (first
      | (go_at_call 4; refine (Hp4.out _).mono ?_; rintro r w5 ⟨rfl, rfl⟩)
      | (go_at_call 7; refine Hrn.out.mono ?_; rintro r w1 ⟨rfl, hrl, hb1⟩; have f1 := And.intro (below_heap hb1 f0.1) (And.intro (below_heap hb1 f0.2.1) (And.intro (below_heap hb1 f0.2.2.1) (And.intro (below_heap hb1 f0.2.2.2.1) (below_heap hb1 f0.2.2.2.2)))); have HX1 := Lib.hid (HX0.out.below hb1); have HP1 := Lib.hid (HP0.out.to hb1); have HR1 := Lib.hid hrl; clear hrl hb1))
  clear f0 f1
  obtain ⟨pm', hpm'⟩ : ∃ pm', pm' = wA.drew.heap.size := ⟨_, rfl⟩
  have hpm2 : pm' = wA.heap.size := hpm'
  rw [← hpm'] at HR1
  rw [← hpm2]
  have Hpm := Lib.hid (show W.heap.size ≤ pm' ∧ ∀ k, F k ∨ G k ∨ k = pw → k < pm' from ⟨by rw [hpm']; exact HP0.out.dr.below.size, fun k hk => by
    rw [hpm']
    rcases hk with hk | hk | rfl
    · exact HP0.out.dr.disk.lt k hk
    · exact HP0.out.dr.ref.lt k hk
    · exact HP0.out.box.lt⟩)
  clear hpm' hpm2 HX0 HP0 Hrn
  have hpd := HP1.out.to (below_drew w1)
  have Hln := Lib.hid (log_new_yes d p F l.base l.n e4 w1.drew hpd.dr.disk Hfit.out.2.1 Hfit.out.1)
  have x1 := (HX1.out.below (below_drew w1)).cell 1 _ rfl
  have b0 := hpd.box.cell 0 _ rfl
  have b3 := hpd.box.cell 3 _ rfl
  have q1 := Box.cell hpd.rlog 1 _ rfl
  have q2 := Box.cell hpd.rlog 2 _ rfl
  have f0 : w1.drew.cell? ⟨pw, 0, none⟩ = some (.pointer (some ⟨p, 0, none⟩)) ∧ w1.drew.cell? ⟨pw, 3, none⟩ = some (.pointer (some ⟨pm, 0, none⟩)) ∧ w1.drew.cell? ⟨pm, 1, none⟩ = some (.int .i64 (l.base : Int)) ∧ w1.drew.cell? ⟨pm, 2, none⟩ = some (.int .i64 (l.n : Int)) ∧ w1.drew.cell? ⟨ab, 1, none⟩ = some (.int .i64 n) := ⟨b0, b3, q1, q2, x1⟩
  have HP0 := Lib.hid hpd
  have HR0 := Lib.hid (Box.below HR1.out (below_drew w1))
  clear hpd x1 b0 b3 q1 q2 HX1 HP1 HR1
  go_wp2_with fail
  go_region_held3 (fun w' => w'.cell? ⟨pw, 0, none⟩ = some (.pointer (some ⟨p, 0, none⟩)) ∧ w'.cell? ⟨pw, 3, none⟩ = some (.pointer (some ⟨pm, 0, none⟩)) ∧ w'.cell? ⟨pm, 1, none⟩ = some (.int .i64 (l.base : Int)) ∧ w'.cell? ⟨pm, 2, none⟩ = some (.int .i64 (l.n : Int)) ∧ w'.cell? ⟨ab, 1, none⟩ = some (.int .i64 n))
    (first | with_reducible exact f0 | with_reducible exact f1)
    (first
      | (go_at_call 4; refine (Hp4.out _).mono ?_; rintro r w5 ⟨rfl, rfl⟩)
      | (go_at_call 8; refine Hln.out.mono ?_; rintro r w2 ⟨rfl, hl2, hb2⟩; have f1 := And.intro (below_heap hb2 f0.1) (And.intro (below_heap hb2 f0.2.1) (And.intro (below_heap hb2 f0.2.2.1) (And.intro (below_heap hb2 f0.2.2.2.1) (below_heap hb2 f0.2.2.2.2)))); have HP2 := Lib.hid (HP0.out.to hb2); have HR2 := Lib.hid (Box.below HR0.out hb2); have HL2 := Lib.hid hl2; clear hl2 hb2))
  clear f0 f1
  obtain ⟨pl', hpl'⟩ : ∃ pl', pl' = w1.drew.heap.size := ⟨_, rfl⟩
  have hpl2 : pl' = w1.heap.size := hpl'
  have hlt2 : pm' < pl' := by rw [hpl']; exact Box.lt HR0.out
  rw [← hpl'] at HL2
  rw [← hpl2]
  clear hpl' hpl2 HP0 HR0 Hln
  go_wp2_with fail
  refine (plain_nil _).mono ?_
  rintro r w8 ⟨rfl, hb8⟩
  have hP8 := HP2.out.to hb8
  have s1 := hP8.box.set 1 (.pointer (some ⟨pl', 0, none⟩))
  have c1 := hP8.box.cell 1 _ rfl
  have f1 := hP8.box.free 1
  have c3 := s1.cell 3 _ rfl
  have f3 := s1.free 3
  have HZ := Lib.hid ((hP8.renew (Box.below HL2.out hb8) (Box.below HR2.out hb8) ⟨Hfit.out.1, Hfit.out.2.1, Nat.zero_le _, Nat.le_refl _⟩ Hpm.out hlt2).more (show c ≤ c + 4 by omega))
  clear hP8 s1 hb8
  go_wp2_with fail
  go_ret
  exact ⟨rfl, _, _, _, _, _, _, HZ.out⟩
end Go.Proofs.YtjoadcgegobjpaaDoor
/-
  One act of chapter 13's world: an Append.
-/
namespace Go.Proofs.YtjoadcgegobjpaaDoor
open Go.RowKit
set_option maxRecDepth 100000

theorem append_recs (l : LogM) (d : DiskM) (q : List UInt8) (h : l.records ≤ l.used) : (l.append d q).1.records ≤ (l.append d q).1.used := by
  have h1 := frameM_pos l.epoch q
  unfold LogM.append
  split
  · exact h
  split
  · exact h
  split
  · exact h
  split
  · exact h
  · show l.records + 1 ≤ l.used + _; omega
theorem append_err (l : LogM) (d : DiskM) (q : List UInt8) : 0 ≤ (l.append d q).2.2 ∧ (l.append d q).2.2 ≤ 24 := by
  unfold LogM.append
  split
  · simp
  split
  · simp
  split
  · simp
  split <;> simp
theorem PlayW.appended {W : World} {pw p rp c : Nat} {l : LogM} {pl pm : Nat} {d : DiskM} {F G F' G' : Nat → Prop} {wr w1 w2 : World} (h : PlayW W pw p rp c l pl pm d F G wr) (q : List UInt8) (hl : IsLog w1 (l.append d q).1 pl p) (hm1 : Mod (fun b => b = pl ∨ F b) wr w1) (hd : IsDisk w1 (l.append d q).2.1 p F') (hF : ∀ k, F' k → F k ∨ wr.heap.size ≤ k)
    (hrl : IsRLog w2 (l.append d q).1 pm rp) (hm2 : Mod (fun b => b = pm ∨ G b) w1 w2) (hr : IsRef w2 (l.append d q).2.1 rp G') (hG : ∀ k, G' k → G k ∨ w1.heap.size ≤ k) : PlayW W pw p rp (c + 4) (l.append d q).1 pl pm (l.append d q).2.1 F' G' w2 := by
  obtain ⟨i1, i2, i3, i4, i5, i6, i7⟩ := h.ids
  obtain ⟨a1, a2, a3, a4, a5, a6⟩ := append_same l d q
  obtain ⟨b1, b2⟩ := append_len l d q
  have hs0 := h.dr.below.size
  have hs1 := hm1.size
  have l1 := h.box.lt
  have l2 := Box.lt h.log
  have l3 := Box.lt h.rlog
  have htr := h.dr.trail
  have hfit := h.fit
  have hrlt := h.dr.ref.lt
  have hdlt := h.dr.disk.lt
  have hd1 := hd.lt
  have hFG : ∀ k, F' k → ¬ (k = pm ∨ G k) := fun k hk hg => by
    rcases hF k hk with h1 | h1
    · rcases hg with rfl | hg
      · exact (i1 k (.inl h1)).2.2 rfl
      · exact h.dr.fg k h1 hg
    · rcases hg with rfl | hg
      · omega
      · have := hrlt k hg; omega
  have hlo : ∀ k, F' k ∨ G' k → W.heap.size ≤ k ∧ k ≠ pw ∧ k ≠ pl ∧ k ≠ pm := fun k hk => by
    have : (F k ∨ G k) ∨ wr.heap.size ≤ k := by
      rcases hk with hk | hk
      · rcases hF k hk with hk | hk
        · exact .inl (.inl hk)
        · exact .inr hk
      · rcases hG k hk with hk | hk
        · exact .inl (.inr hk)
        · exact .inr (by omega)
    rcases this with hk | hk
    · exact ⟨h.dr.lo k hk, i1 k hk⟩
    · exact ⟨by omega, by omega, by omega, by omega⟩
  refine ⟨⟨hd.mod hm2 hFG, hr, append_wf l h.dr.wf q, by rw [b1]; exact h.dr.small, by omega, fun k hk hg => ?_, fun k hk => (hlo k hk).1, ?_⟩, ?_, Box.mod hl hm2 (fun e => ?_), hrl, small_append l h.small q, ⟨by rw [a1, a2, b1]; exact hfit.1, by rw [a2]; exact hfit.2.1, by rw [a2]; exact a5 hfit.2.2.1, append_recs l d q hfit.2.2.2⟩,
    fun k hk => (hlo k hk).2, i2, i3, i4, i5, i6, i7⟩
  · rcases hG k hg with h1 | h1
    · exact hFG k hk (.inr h1)
    · have := hd1 k hk; omega
  · refine (h.dr.below.trans (hm1.below hs0 (fun k hk => ?_))).trans (hm2.below (by omega) (fun k hk => ?_))
    · rcases hk with rfl | hk
      · exact i6
      · exact h.dr.lo k (.inl hk)
    · rcases hk with rfl | hk
      · exact i7
      · exact h.dr.lo k (.inr hk)
  · refine (h.box.mod hm1 (fun e => ?_)).mod hm2 (fun e => ?_)
    · rcases e with e | e
      · exact i2 e
      · exact (i1 pw (.inl e)).1 rfl
    · rcases e with e | e
      · exact i3 e
      · exact (i1 pw (.inr e)).1 rfl
  · rcases e with e | e
    · exact i4 e
    · exact (i1 pl (.inr e)).2.1 rfl
set_option maxHeartbeats 1600000 in
theorem doesW_app (W : World) (kind n : Int) (v : Value) (q : List UInt8) (pw p rp c : Nat) (l : LogM) (pl pm : Nat) (d : DiskM) (F G : Nat → Prop) (wr : World) (hk : I64 kind) (hn : I64 n) (hv : Rd W v q.length (q.map V8)) (hq : q.length ≤ 10000) (h : PlayW W pw p rp c l pl pm d F G wr) (hg : ErrType W) (hc : c ≤ 10000000) (hpk : pickI kind 7 = 0 ∨ pickI kind 7 = 1 ∨ pickI kind 7 = 2) :
    Calls Tryd.prog 11 #[.pointer (some ⟨pw, 0, none⟩), .agg #[.int .i64 kind, .int .i64 n, v]] wr fun r w' => r = .returned (.bool true) ∧ ∃ (l' : LogM) (pl' pm' : Nat) (d' : DiskM) (F' G' : Nat → Prop), PlayW W pw p rp (c + 4) l' pl' pm' d' F' G' w' := by
  obtain ⟨va, vc, rfl⟩ : ∃ a c, v = .slice a q.length c := by obtain ⟨a, c, h, _⟩ := hv; exact ⟨a, c, h⟩
  have hpick := fun w => pick_calls kind 7 w hk.1 hk.2 (by omega) (by omega)
  have hlt := pickI_lt kind 7 (by omega)
  obtain ⟨pk, hpe⟩ : ∃ pk, pk = pickI kind 7 := ⟨_, rfl⟩
  rw [← hpe] at hpick hpk hlt
  have Hpick := Lib.hid hpick
  clear hpick hpe hk
  have hX := Box.new wr #[.int .i64 kind, .int .i64 n, .slice va q.length vc] 48
  have hbA := below_alloc wr (.cells #[.int .i64 kind, .int .i64 n, .slice va q.length vc] 48)
  have hpA := h.to hbA
  obtain ⟨ab, hab⟩ : ∃ ab, ab = wr.heap.size := ⟨_, rfl⟩
  have Hab := Lib.hid (show (∀ k, F k ∨ G k ∨ k = pw ∨ k = pl ∨ k = pm → k ≠ ab) ∧ W.heap.size ≤ ab from ⟨fun k hk e => by
    rcases hk with hk | hk | rfl | rfl | rfl
    · have := h.dr.disk.lt k hk; omega
    · have := h.dr.ref.lt k hk; omega
    · have := h.box.lt; omega
    · have := Box.lt h.log; omega
    · have := Box.lt h.rlog; omega, by rw [hab]; exact h.dr.below.size⟩)
  rw [← hab] at hX
  have Hv := Lib.hid hv
  have Hq := Lib.hid hq
  have HE := Lib.hid hg
  have Hn := Lib.hid hn
  have Hc := Lib.hid hc
  have HX := Lib.hid hX
  have HP := Lib.hid hpA
  have c0 := hX.cell 0 _ rfl
  clear h hbA hX hpA hv hq hg hn hc
  go_enter Tryd.func11, Tryd.ntmps11
  go_wp2_with fail
  rw [← hab]
  clear hab
  generalize wr.alloc (.cells #[.int .i64 kind, .int .i64 n, .slice va q.length vc] 48) = wA at c0 HX HP ⊢
  refine (Hpick.out _).mono ?_
  rintro r w0 ⟨rfl, rfl⟩
  clear Hpick c0
  have hp3 : ¬ pk = 3 := by omega
  have hp4 : ¬ pk = 4 := by omega
  have hp5 : ¬ pk = 5 := by omega
  have hp6 : ¬ pk = 6 := by omega
  have x2 := HX.out.cell 2 _ rfl
  have Hdat := Lib.hid (fun w2 (hb : Below W.heap.size W w2) => Hv.out.below hb)
  have Hle := Lib.hid (lentB_calls (.slice va q.length vc) q wA (Hdat.out _ HP.out.dr.below) (by have := Hq.out; omega))
  clear hpk hlt
  go_wp2_with fail
  refine Hle.out.mono ?_
  rintro r w1 ⟨o, rfl, hle1, hb1⟩
  have hp1 := HP.out.to hb1
  have b1 := hp1.box.cell 1 _ rfl
  have hol := hle1.lt
  have Hap := Lib.hid (append_calls l d q pl p F o w1 hp1.log hp1.dr.disk (fun hf => (hp1.ids.1 pl (.inl hf)).2.1 rfl) hle1.rd (by have := hp1.dr.trail; have := Hc.out; omega) hp1.fit.1 hp1.fit.2.2.1 (by have := hp1.fit; have := hp1.dr.small; omega))
  have HX1 := Lib.hid (HX.out.below hb1)
  have HLe := Lib.hid hle1
  have HP1 := Lib.hid hp1
  have Hs1 := Lib.hid (show ∀ k, F k ∨ G k ∨ k = pw ∨ k = pl ∨ k = pm ∨ k = ab → k < wA.heap.size from fun k hk => by
    rcases hk with hk | hk | rfl | rfl | rfl | rfl
    · exact HP.out.dr.disk.lt k hk
    · exact HP.out.dr.ref.lt k hk
    · exact HP.out.box.lt
    · exact Box.lt HP.out.log
    · exact Box.lt HP.out.rlog
    · exact HX.out.lt)
  have Hol := Lib.hid hol
  obtain ⟨og, ocap, rfl, hown⟩ := hle1
  have Hog := Lib.hid (show wA.heap.size ≤ og ∧ og < w1.heap.size from hol og rfl)
  clear hp1 hol hown hb1 Hle HX x2
  go_wp2_with fail
  refine Hap.out.mono ?_
  rintro r w2 ⟨rfl, a1, a2, F2, a3, a4⟩
  have herr := append_err l d q
  have hsw := a2.size
  have hnw : ∀ k, k = pl ∨ F k → k < wA.heap.size := fun k hk => Hs1.out k (by rcases hk with hk | hk; exact .inr (.inr (.inr (.inl hk))); exact .inl hk)
  have HA := Lib.hid (show IsLog w2.drew (l.append d q).1 pl p ∧ Mod (fun b => b = pl ∨ F b) w1 w2.drew ∧ IsDisk w2.drew (l.append d q).2.1 p F2 ∧ ∀ k, F2 k → F k ∨ w1.heap.size ≤ k from
    ⟨Box.below a1 (below_drew w2), a2.trans (Mod.drew _ w2), a3.mod (Mod.drew (fun _ => False) _) (fun _ _ h => h), a4⟩)
  have hm2 := HA.out.2.1
  have hids := HP1.out.ids
  have hbx2 := HP1.out.box.mod hm2 (fun e => by rcases e with e | e; exact hids.2.1 e; exact (hids.1 pw (.inl e)).1 rfl)
  have hrl2 : IsRLog w2.drew l pm rp := Box.mod HP1.out.rlog hm2 (fun e => by rcases e with e | e; exact hids.2.2.2.1 e.symm; exact (hids.1 pm (.inl e)).2.2 rfl)
  have hrf2 := HP1.out.dr.ref.mod hm2 (fun k hk e => by rcases e with e | e; exact (hids.1 k (.inr hk)).2.1 e; exact HP1.out.dr.fg k e hk)
  have hx2 := HX1.out.mod hm2 (fun e => by rcases e with e | e; exact Hab.out.1 pl (by simp) e.symm; exact Hab.out.1 ab (.inl e) rfl)
  have hle2 := HLe.out.mod' hm2 (fun k hk e => by have h1 := (Hol.out k hk).1; have h2 := hnw k e; omega)
  have hbW2 : Below W.heap.size W w2.drew := HP1.out.dr.below.trans (hm2.below HP1.out.dr.below.size (fun k hk => by
    rcases hk with rfl | hk
    · exact hids.2.2.2.2.2.1
    · exact HP1.out.dr.lo k (.inl hk)))
  have b3 := hbx2.cell 3 _ rfl
  have x2 := hx2.cell 2 _ rfl
  have HRap := Lib.hid (refAppend_calls l d q pm rp G (.slice va q.length vc) w2.drew hrl2 hrf2 (fun hf => (hids.1 pm (.inr hf)).2.2 rfl) (Hdat.out _ hbW2) (by have := HP1.out.dr.trail; have := Hc.out; omega) HP1.out.fit.1 HP1.out.fit.2.2.1 (by have := HP1.out.fit; have := HP1.out.dr.small; omega) HP1.out.dr.small)
  have HB2 := Lib.hid hbx2
  have HX2 := Lib.hid hx2
  have HLe2 := Lib.hid hle2
  have hs2 : w1.heap.size ≤ w2.drew.heap.size := hm2.size
  have Hs2 := Lib.hid hs2
  have f0 : w2.drew.cell? ⟨pw, 3, none⟩ = some (.pointer (some ⟨pm, 0, none⟩)) ∧ w2.drew.cell? ⟨ab, 2, none⟩ = some (.slice va q.length vc) := ⟨b3, x2⟩
  clear a1 a2 a3 a4 hsw hnw hm2 hids hbx2 hrl2 hrf2 hx2 hle2 hbW2 b3 x2 hs2 Hap HX1 HLe b1
  obtain ⟨er, her⟩ : ∃ er, er = (l.append d q).2.2 := ⟨_, rfl⟩
  rw [← her] at herr HRap ⊢
  clear her
  have Hpl := Lib.hid (fun w (hb : Below W.heap.size W w) => plain_any er w herr.1 herr.2 (HE.out.below hb))
  generalize errV er = ev at Hpl ⊢
  go_wp2_with fail
  go_region_held3 (fun w' => w'.cell? ⟨pw, 3, none⟩ = some (.pointer (some ⟨pm, 0, none⟩)) ∧ w'.cell? ⟨ab, 2, none⟩ = some (.slice va q.length vc))
    (first | with_reducible exact f0 | with_reducible exact f1 | with_reducible exact f2)
    (first
      | (go_at_call 24; refine HRap.out.mono ?_; rintro r w3 ⟨rfl, c1, c2, G3, c3, c4⟩
         have hids := HP1.out.ids
         have f1 : w3.cell? ⟨pw, 3, none⟩ = some (.pointer (some ⟨pm, 0, none⟩)) ∧ w3.cell? ⟨ab, 2, none⟩ = some (.slice va q.length vc) := And.intro ((HB2.out.mod c2 (fun e => by rcases e with e | e; exact hids.2.2.1 e; exact (hids.1 pw (.inr e)).1 rfl)).cell 3 _ rfl) ((HX2.out.mod c2 (fun e => by rcases e with e | e; exact Hab.out.1 pm (by simp) e.symm; exact Hab.out.1 ab (.inr (.inl e)) rfl)).cell 2 _ rfl)
         have HP3 := Lib.hid (HP1.out.appended q HA.out.1 HA.out.2.1 HA.out.2.2.1 HA.out.2.2.2 c1 c2 c3 c4)
         have HLe3 := Lib.hid (HLe2.out.mod' c2 (fun k hk e => by have h1 := (Hol.out k hk).1; have h2 := Hs1.out k (by rcases e with e | e; exact .inr (.inr (.inr (.inr (.inl e)))); exact .inr (.inl e)); omega))
         have Hg3 := Lib.hid c4
         have Hpl3 := Lib.hid (Hpl.out w3 HP3.out.dr.below)
         clear c1 c2 c3 c4 hids)
      | (go_at_call 10; refine Hpl3.out.mono ?_; rintro r w4 ⟨rfl, hb4⟩
         have f2 := And.intro (below_heap hb4 f1.1) (below_heap hb4 f1.2)
         have HP4 := Lib.hid (HP3.out.to hb4)
         have HLe4 := Lib.hid (HLe3.out.below hb4)
         have Hkp := Lib.hid (keptB_calls _ (.slice va q.length vc) wA.heap.size q w4 HLe4.out (Hdat.out w4 HP4.out.dr.below) (by have := Hq.out; omega))
         clear hb4)
      | (go_at_call 25; refine Hkp.out.mono ?_; rintro r w5 ⟨rfl, rfl⟩))
  have HN := Lib.hid HP4.out
  have Hgg := Lib.hid (show ∀ k, F2 k ∨ G3 k ∨ k = pw ∨ k = pl ∨ k = pm → k ≠ og from fun k hk e => by
    have h1 := Hog.out
    have h2 := Hs2.out
    rcases hk with hk | hk | hk | hk | hk
    · rcases HA.out.2.2.2 k hk with h3 | h3
      · have := Hs1.out k (.inl h3); omega
      · omega
    · rcases Hg3.out k hk with h3 | h3
      · have := Hs1.out k (.inr (.inl h3)); omega
      · omega
    · have := Hs1.out k (by simp [hk]); omega
    · have := Hs1.out k (by simp [hk]); omega
    · have := Hs1.out k (by simp [hk]); omega)
  have hw0 := HP.out.dr.below.size
  obtain ⟨g', cap', e1, hown⟩ := HLe4.out
  injection e1 with e1 _ e3
  injection e1 with e1
  injection e1 with e1
  subst e1; subst e3
  have HOw := Lib.hid hown
  clear hown f0 f1 f2 HP3 HP4 HLe3 HLe4 HLe2 Hpl Hpl3 Hkp HRap HB2 HX2 HA HP1 HP Hol Hog Hs1 Hs2 Hg3 herr Hab
  generalize (l.append d q).1 = l2 at HN
  generalize (l.append d q).2.1 = d2 at HN
  go_wp2_with fail
  go_loopg [11] q.length (fun gk iv wr => ∃ (k : Nat) (xs : List Value), gk + k = q.length ∧ iv = .int .i64 (k : Int) ∧ PlayW W pw p rp (c + 4) l2 pl pm d2 F2 G3 wr ∧ wr.ownsRow wA.heap.size 5 1 (.slice (some ⟨og, 0, none⟩) (q.length + 16) ocap) (q.length + 16) xs)
  case atStart => exact ⟨0, _, rfl, rfl, HN.out, HOw.out⟩
  case round =>
    clear HN HOw
    obtain ⟨k, xs, hgk, rfl, hI, hO⟩ := hrel
    by_cases hk : k < q.length
    · have hq10 := Hq.out
      have hk0 : (0 : Int) ≤ (k : Int) := by omega
      have hk1 : (k : Int) < (q.length : Int) := by omega
      obtain ⟨g, cap', e1, hb, ⟨y, hy⟩, hf, hs⟩ := own_set hO k (by omega) (.int .u8 238)
      injection e1 with e1 _ e3
      injection e1 with e1
      injection e1 with e1
      subst e1; subst e3
      have hm := Mod.set (fun b => b = og) wr ⟨og, k, none⟩ (.int .u8 238) rfl
      have HN := Lib.hid (And.intro (hI.aside hm (fun j hj e => Hgg.out j hj e) (fun j e => by omega)) hs)
      have Hgk := Lib.hid hgk
      clear hI hO hs hm hgk hb
      go_wp2_with fail
      go_roundg (q.length - (k + 1))
      case measure => have := Hgk.out; omega
      case rel => exact ⟨k + 1, _, by have := Hgk.out; omega, by go_num, HN.out⟩
    · have HN := Lib.hid hI
      have hk1 : ¬ (k : Int) < (q.length : Int) := by omega
      clear hI hO
      go_wp2_with fail
      go_ret
      exact ⟨rfl, _, _, _, _, _, _, HN.out⟩
end Go.Proofs.YtjoadcgegobjpaaDoor
