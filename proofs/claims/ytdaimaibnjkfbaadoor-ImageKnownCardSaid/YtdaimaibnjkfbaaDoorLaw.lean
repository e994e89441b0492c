/-
  How a law's walk becomes its row: for any number of parameters; under the bound of 'uptoSmall', and under the form's own reach.
-/
import Derived.Test.YtdaimaibnjkfbaaDoorRows
import Derived.WalkKit
import Derived.ProofKit
import Derived.SizedLaws
import Derived.JoinedCond
namespace Go.Proofs.YtdaimaibnjkfbaaDoor
set_option maxRecDepth 100000
open Go.ChangeShapes Go.WideShapes Go.ChangeAt Go.RowKit
theorem L.own : ownKnob Tryd.prog.godebug = none := by kernel_rfl
theorem L.laidOut : laidOutB Tryd.prog = true := by kernel_rfl

/-- How great what was read is: its bulk (up), or each piece within the form's reach. -/
def SizeOk (up : Bool) (N : Nat) (t : TypeId) {H : Type} (d : DataW H) : Prop :=
  match up with | true => Rows.uptoBulk d ≤ N | false => (DataW.weights Tryd.prog t d).all (· ≤ reachBytes) = true
/-- Cells that the form reads as a value of a type. -/
def ArgC (up : Bool) (N : Nat) (t : TypeId) (W : World) (cs : List Value) : Prop :=
  ∃ (H : Type) (enc : TypeId × Value → H) (d : DataW H) (ps : List MemPlace) (fuel : Nat), DataW.trod enc Tryd.prog W 0 (fun _ => true) true fuel t cs = some (d, ps) ∧ SizeOk up N t d
/-- An argument, as the form reads it; its size. -/
def Arg (up : Bool) (t : TypeId) (W : World) (v : Value) : Prop :=
  ArgC up 1048576 t W v.cells.toList ∧ ∃ base, Value.okWide Tryd.prog W .any base t v
def ArgAll (up : Bool) (W : World) : List TypeId → List Value → Prop
  | [], [] => True
  | t :: ts, v :: vs => Arg up t W v ∧ ArgAll up W ts vs
  | _, _ => False
/-- What a law's walk says. -/
def Walks (up : Bool) (f : FuncId) (ts : List TypeId) : Prop :=
  ∀ (W : World) (vs : List Value), ArgAll up W ts vs → Calls Tryd.prog f vs.toArray W fun e W' => e = .returned (.bool true) ∧ Below W.heap.size W W'

theorem bulk_all_le {H : Type} {d : DataW H} {l : List (DataW H)} (h : d ∈ l) : Rows.uptoBulk d ≤ Rows.uptoBulkAll l := by
  induction l with
  | nil => cases h
  | cons x r ih =>
    simp only [Rows.uptoBulkAll]
    cases List.mem_cons.1 h with
    | inl e => subst e; omega
    | inr e => have := ih e; omega
set_option maxRecDepth 100000 in
theorem argAll_mk {up : Bool} {H : Type} {enc : TypeId × Value → H} {W : World} {base : Nat} : ∀ {ts : List TypeId} {vs : List Value} {ds : List (DataW H)} {ps : List MemPlace},
    DataW.TrodAll enc Tryd.prog W 0 (fun _ => true) true ts vs ds ps → (∀ (j : Nat) t v, ts[j]? = some t → vs[j]? = some v → Value.okWide Tryd.prog W .any base t v) →
    (match up with | true => Rows.uptoBulkAll ds ≤ 1048576 | false => (DataW.weightsEach Tryd.prog ts ds).all (· ≤ reachBytes) = true) → ArgAll up W ts vs
  | [], [], [], _, _, _, _ => trivial
  | t :: ts, v :: vs, d :: ds, ps, h, hv, hs => by
    obtain ⟨p, q, h1, h2, rfl⟩ := h
    refine ⟨⟨⟨H, enc, d, p, h1.choose, h1.choose_spec, ?_⟩, base, hv 0 t v rfl rfl⟩, argAll_mk (base := base) h2 (fun j t v ht hv' => hv (j + 1) t v (by simpa using ht) (by simpa using hv')) ?_⟩
    · cases up with
      | true => simp only [Rows.uptoBulkAll] at hs; show Rows.uptoBulk d ≤ 1048576; omega
      | false => simp only [DataW.weightsEach, List.all_append, Bool.and_eq_true] at hs; exact hs.1
    · cases up with
      | true => simp only [Rows.uptoBulkAll] at hs ⊢; omega
      | false => simp only [DataW.weightsEach, List.all_append, Bool.and_eq_true] at hs; exact hs.2
  | [], [], _ :: _, _, h, _, _ => h.elim
  | [], _ :: _, _, _, h, _, _ => h.elim
  | _ :: _, [], _, _, h, _, _ => h.elim
  | _ :: _, _ :: _, [], _, h, _, _ => h.elim
theorem trodAll_below {H : Type} {enc : TypeId × Value → H} {W W' : World} (hb : Below W.heap.size W W') : ∀ {ts : List TypeId} {vs : List Value} {ds : List (DataW H)} {ps : List MemPlace},
    (∀ t ∈ ts, Tryd.prog.readableRec t = true ∧ t < Tryd.prog.types.size) → DataW.TrodAll enc Tryd.prog W 0 (fun _ => true) true ts vs ds ps → (∀ x ∈ ps, x.block < W.heap.size) →
    DataW.TrodAll enc Tryd.prog W' 0 (fun b => decide (b < W.heap.size)) true ts vs ds ps
  | [], [], [], _, _, h, _ => h
  | t :: ts, v :: vs, d :: ds, ps, hr, h, hlt => by
    obtain ⟨p, q, h1, h2, rfl⟩ := h
    refine ⟨p, q, Below.trod L.laidOut (hr t (by simp)).1 (hr t (by simp)).2 h1 hb (fun x hx => hlt x (by simp [hx])), trodAll_below hb (fun t ht => hr t (by simp [ht])) h2 (fun x hx => hlt x (by simp [hx])), rfl⟩
  | [], [], _ :: _, _, _, h, _ => h.elim
  | [], _ :: _, _, _, _, h, _ => h.elim
  | _ :: _, [], _, _, _, h, _ => h.elim
  | _ :: _, _ :: _, [], _, _, h, _ => h.elim

/-! What an argument's cells are, by its type. -/
theorem ArgC.int {up : Bool} {N : Nat} {t : TypeId} {W : World} {cs : List Value} {k : IntKind} (ht : Tryd.prog.underlying t = some (.int k)) (h : ArgC up N t W cs) : ∃ n, cs = [.int k n] ∧ (Lit.int k n).wf = true := by
  obtain ⟨H, enc, d, ps, fuel, h, _⟩ := h
  obtain ⟨n, h1, _, h2⟩ := DataW.trod_int ht h
  exact ⟨n, h1, h2⟩
theorem ArgC.bool {up : Bool} {N : Nat} {t : TypeId} {W : World} {cs : List Value} (ht : Tryd.prog.underlying t = some .bool) (h : ArgC up N t W cs) : ∃ b, cs = [.bool b] := by
  obtain ⟨H, enc, d, ps, fuel, h, _⟩ := h
  obtain ⟨n, h1, _⟩ := DataW.trod_bool ht h
  exact ⟨n, h1⟩
theorem ArgC.string {up : Bool} {N : Nat} {t : TypeId} {W : World} {cs : List Value} (ht : Tryd.prog.underlying t = some .string) (h : ArgC up N t W cs) : ∃ s : ByteArray, cs = [.string s] ∧ s.size ≤ 9223372036854775807 ∧ (up = true → s.size + 1 ≤ N) ∧ (up = false → s.size ≤ 140737488351232) := by
  obtain ⟨H, enc, d, ps, fuel, h, hs⟩ := h
  obtain ⟨s, h1, h2, h3⟩ := DataW.trod_string ht h
  simp only [Prod.mk.injEq] at h2
  obtain ⟨rfl, rfl⟩ := h2
  have e : s.data.toList.length = s.size := by rw [Array.length_toList]; rfl
  refine ⟨s, h1, h3, fun hu => ?_, fun hu => ?_⟩
  · subst hu; simp only [SizeOk, Rows.uptoBulk] at hs; omega
  · subst hu; simp only [SizeOk, DataW.weights, List.all_cons, List.all_nil, Bool.and_true, reachBytes] at hs; have := of_decide_eq_true hs; omega
theorem ArgC.struct {up : Bool} {N : Nat} {t : TypeId} {W : World} {cs : List Value} {fs : Array Field} (ht : Tryd.prog.underlying t = some (.struct fs)) (h : ArgC up N t W cs) :
    cs.length = Tryd.prog.cellsOf t ∧ ∃ Ns : List Nat, Ns.length = fs.size ∧ (up = true → Ns.sum + 1 ≤ N) ∧ ∀ (i : Nat) (f : Field), fs[i]? = some f → ArgC up (Ns.getD i 0) f.type W ((cs.drop f.offset).take (Tryd.prog.cellsOf f.type)) := by
  obtain ⟨H, enc, d, ps, fuel, h, hs⟩ := h
  obtain ⟨xs, n, rfl, h1, h2, h3, h4⟩ := DataW.trod_struct ht h
  simp only [Prod.mk.injEq] at h1
  obtain ⟨rfl, rfl⟩ := h1
  refine ⟨h2, xs.map (fun x => Rows.uptoBulk x.1), by simpa using h3, fun hu => ?_, fun i f hf => ?_⟩
  · subst hu
    simp only [SizeOk, Rows.uptoBulk] at hs
    have : ∀ l : List (DataW H × List MemPlace), (l.map (fun x => Rows.uptoBulk x.1)).sum = Rows.uptoBulkAll (l.map (·.1)) := by
      intro l; induction l with
      | nil => rfl
      | cons a l ih => simp [Rows.uptoBulkAll, ih]
    rw [this]; omega
  · have hi : i < xs.length := by rw [h3]; exact (Array.getElem?_eq_some_iff.1 hf).1
    have h5 := h4 i f hf
    rw [List.getElem?_eq_getElem hi] at h5
    refine ⟨H, enc, xs[i].1, xs[i].2, n, h5, ?_⟩
    cases up with
    | true => simp only [SizeOk]; rw [List.getD, List.getElem?_map, List.getElem?_eq_getElem hi]; exact Nat.le_refl _
    | false =>
      simp only [SizeOk, DataW.weights, ht] at hs ⊢
      refine List.all_eq_true.2 fun m hm => List.all_eq_true.1 hs m ?_
      exact DataW.weights_mem_each (j := i) (t := f.type) (d := xs[i].1) (by simpa using (congrArg (Option.map (·.type)) hf)) (by simp [List.getElem?_eq_getElem hi]) m hm
theorem cells_of {w : World} {a : Addr} {n : Nat} {cs : List Value} (h : w.cells? 0 a n = some cs) : cs.length = n ∧ ∀ j, j < n → w.cell? (a.add j) = some (cs.getD j undef) := by
  unfold World.cells? at h
  rw [if_pos (Nat.zero_le _)] at h
  have h1 := mapM_some_length h
  simp at h1
  refine ⟨h1, fun j hj => ?_⟩
  have := mapM_some_get h j j (by simp [hj])
  rw [this, List.getD, List.getElem?_eq_getElem (by omega)]; rfl
theorem ArgC.slice {up : Bool} {N : Nat} {t e : TypeId} {W : World} {cs : List Value} {size : Nat} (ht : Tryd.prog.underlying t = some (.slice e)) (hsz : Tryd.prog.cellsOf e = size) (hpos : 0 < size) (h : ArgC up N t W cs) :
    ∃ a n cap, cs = [.slice a n cap] ∧ n ≤ cap ∧ cap ≤ 9223372036854775807 ∧ (a = none → cap = 0) ∧ (up = false → cap * Tryd.prog.bytesOf e ≤ 140737488351232) ∧
      ∃ Ns : List Nat, Ns.length = n ∧ (up = true → Ns.sum + 1 ≤ N ∧ n + 1 ≤ N) ∧
      ∀ i, i < n → ∃ b off cs', a = some ⟨b, off, none⟩ ∧ cs'.length = size ∧ (∀ j, j < size → W.cell? ⟨b, off + (i * size + j), none⟩ = some (cs'.getD j undef)) ∧ ArgC up (Ns.getD i 0) e W cs' := by
  obtain ⟨H, enc, d, ps, fuel, h, hs⟩ := h
  rcases DataW.trod_slice ht h with ⟨h1, h2⟩ | ⟨a, len, cap, elems, rest, n, rfl, h1, h2, _, h3, h4, h5, h6, h7, _⟩
  · subst h1
    simp only [Prod.mk.injEq] at h2
    obtain ⟨rfl, rfl⟩ := h2
    refine ⟨none, 0, 0, rfl, by omega, by omega, fun _ => rfl, fun _ => by omega, [], rfl, fun hu => ?_, fun i hi => by omega⟩
    subst hu; simp only [SizeOk, Rows.uptoBulk] at hs; simp; omega
  · subst h1
    simp only [Prod.mk.injEq] at h2
    obtain ⟨rfl, rfl⟩ := h2
    obtain ⟨h7, _⟩ := h7 rfl
    refine ⟨some a, len, cap, rfl, h3, by unfold maxLen at h4; omega, fun h => by (cases h), fun hu => ?_, elems.map (fun x => Rows.uptoBulk x.1), by simpa using h5, fun hu => ?_, fun i hi => ?_⟩
    · subst hu
      simp only [SizeOk, DataW.weights, ht, List.all_cons, Bool.and_eq_true, List.length_map, reachBytes] at hs
      have : elems.length + rest.length = cap := by omega
      rw [this] at hs; exact of_decide_eq_true hs.1
    · subst hu
      simp only [SizeOk, Rows.uptoBulk] at hs
      have hb : ∀ l : List (DataW H × List MemPlace), (l.map (fun x => Rows.uptoBulk x.1)).sum = Rows.uptoBulkAll (l.map (·.1)) ∧ l.length ≤ Rows.uptoBulkAll (l.map (·.1)) := by
        intro l; induction l with
        | nil => exact ⟨rfl, by simp⟩
        | cons a l ih =>
          have h1 : 1 ≤ Rows.uptoBulk a.1 := by
            cases a.1 with
            | lit l => cases l <;> simp [Rows.uptoBulk]
            | _ => simp [Rows.uptoBulk]
          simp only [List.map_cons, List.sum_cons, Rows.uptoBulkAll, List.length_cons, ih.1, true_and]; omega
      have := hb elems
      rw [this.1]; omega
    · have hi' : i < elems.length := by omega
      have h8 := h6 i hi
      rw [List.getElem?_eq_getElem hi'] at h8
      simp only [Option.bind_eq_some_iff] at h8
      obtain ⟨cs', hc1, hc2⟩ := h8
      obtain ⟨hl, hcell⟩ := cells_of hc1
      rw [hsz] at hl
      have hspot : a.spot = none := by
        have h0 := h6 0 (by omega)
        rw [List.getElem?_eq_getElem (by omega), Nat.zero_mul] at h0
        simp only [Option.bind_eq_some_iff] at h0
        obtain ⟨cs0, hc0, _⟩ := h0
        have h9 := (cells_of hc0).2 0 (by rw [hsz]; omega)
        simpa [Addr.add] using World.cell?_spot h9
      obtain ⟨b, off, spot⟩ := a
      simp only at hspot; subst hspot
      refine ⟨b, off, cs', rfl, hl, fun j hj => ?_, H, enc, elems[i].1, elems[i].2, n, hc2, ?_⟩
      · have := hcell j (by omega)
        rw [hsz] at this
        rw [add_plain, add_plain, Nat.add_assoc] at this; exact this
      · cases up with
        | true => simp only [SizeOk]; rw [List.getD, List.getElem?_map, List.getElem?_eq_getElem hi']; exact Nat.le_refl _
        | false =>
          simp only [SizeOk, DataW.weights, ht, List.all_cons, Bool.and_eq_true, List.all_append] at hs ⊢
          have hall : ∀ (l : List (DataW H)) (d : DataW H), d ∈ l → (DataW.weightsAll Tryd.prog e l).all (· ≤ reachBytes) = true → (DataW.weights Tryd.prog e d).all (· ≤ reachBytes) = true := by
            intro l d hd
            induction l with
            | nil => cases hd
            | cons x l ih =>
              intro hw
              simp only [DataW.weightsAll, List.all_append, Bool.and_eq_true] at hw
              cases List.mem_cons.1 hd with
              | inl e => subst e; exact hw.1
              | inr e => exact ih e hw.2
          exact hall (elems.map (·.1)) _ (List.mem_map.2 ⟨_, List.getElem_mem hi', rfl⟩) hs.2.1
theorem law_contract {up : Bool} {vt : List TypeId} (hvt : vt = []) {f : FuncId} {fn : Func} {s : ChangeSpec} {ts : List TypeId} (hp : fn.params.toList = ts) (hres : fn.resultTypes = #[4]) (hvars : s.vars = [])
    (hr : ∀ t ∈ ts, Tryd.prog.readableRec t = true ∧ t < Tryd.prog.types.size) (hs : ∀ (H : Type) (ds : List (DataW H)), ds.length = ts.length → (s.fn H ds).results = [.lit (.bool true)] ∧ (s.fn H ds).args = ds ∧ (s.fn H ds).vars = []) (walk : Walks up f ts)
    (H : Type) (enc : TypeId × Value → H) (W : World) (base : Nat) (args : Array Value) (ds gs : List (DataW H)) (before : List MemPlace)
    (hval : ∀ (j : Nat) t v, fn.params[j]? = some t → args[j]? = some v → Value.okWide Tryd.prog W .any base t v)
    (hW : DataW.Whole enc Tryd.prog fn.params.toList s.vars false W args.toList ds gs before)
    (hsz : match up with | true => Rows.uptoSmall H (ds ++ gs) = true | false => (DataW.weightsEach Tryd.prog (fn.params.toList ++ vt) (ds ++ gs)).all (· ≤ reachBytes) = true) :
    Calls Tryd.prog f args W fun e W' => ∃ v, e = .returned v ∧ s.post enc Tryd.prog fn false true false false W args v W' := by
  have hW' := hW
  obtain ⟨p, q, hA, hV, rfl, _, _⟩ := hW
  rw [hvars] at hV
  have hg : gs = [] ∧ q = [] := by
    cases gs with
    | nil => exact ⟨rfl, hV⟩
    | cons g gs => exact hV.elim
  obtain ⟨rfl, rfl⟩ := hg
  have hlt : ∀ x ∈ p, x.block < W.heap.size := fun x hx => by simpa using hW'.lt x (by simpa using hx)
  have hlen : ds.length = ts.length := by
    have : ∀ {ts : List TypeId} {vs : List Value} {ds : List (DataW H)} {ps : List MemPlace}, DataW.TrodAll enc Tryd.prog W 0 (fun _ => true) true ts vs ds ps → ds.length = ts.length := by
      intro ts
      induction ts with
      | nil => intro vs ds ps h; cases vs with
        | nil => cases ds with
          | nil => rfl
          | cons _ _ => exact h.elim
        | cons _ _ => exact h.elim
      | cons t ts ih => intro vs ds ps h; cases vs with
        | nil => exact h.elim
        | cons v vs => cases ds with
          | nil => exact h.elim
          | cons d ds => obtain ⟨_, _, _, h2, _⟩ := h; simp [ih h2]
    rw [hp] at hA
    exact this hA
  have hall : ArgAll up W ts args.toList := by
    rw [← hp]
    refine argAll_mk (base := base) hA (fun j t v ht hv => hval j t v (by simpa using ht) (by simpa using hv)) ?_
    cases up with
    | true => have h : Rows.uptoBulkAll (ds ++ []) ≤ 1048576 := of_decide_eq_true hsz
              simpa using h
    | false => subst hvt; simpa using hsz
  have hwalk := walk W args.toList hall
  rw [Array.toArray_toList] at hwalk
  refine hwalk.mono fun e W' ⟨he, hb⟩ => ?_
  obtain ⟨s1, s2, s3⟩ := hs H (ds ++ []) (by simpa using hlen)
  refine ⟨_, he, _, _, _, [], p, [], hW', ?_, ?_, ?_, hb.frame _, fun h => by cases h⟩
  · rw [s1, hres]; exact ⟨[], [], shut_bool (by kernel_rfl) true, rfl, rfl⟩
  · rw [s2, List.append_nil]; exact trodAll_below hb (by rw [hp]; exact hr) hA hlt
  · rw [s3, hvars]; rfl
end Go.Proofs.YtdaimaibnjkfbaaDoor
