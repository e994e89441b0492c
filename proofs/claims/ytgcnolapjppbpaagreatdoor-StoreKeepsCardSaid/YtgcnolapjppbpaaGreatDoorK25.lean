/-
  Texts of one proof, one behind the other.
-/
import Derived.Test.YtgcnolapjppbpaaGreatDoorK07
import Derived.Test.YtgcnolapjppbpaaGreatDoorK12
import Derived.Test.YtgcnolapjppbpaaGreatDoorK10
import Derived.Test.YtgcnolapjppbpaaGreatDoorK22
import Derived.Test.YtgcnolapjppbpaaGreatDoorK24
import Derived.Test.YtgcnolapjppbpaaGreatDoorK21
import Derived.Test.YtgcnolapjppbpaaGreatDoorRows
import Derived.WalkKit
import Derived.ProofKit
import Derived.SizedLaws
import Derived.JoinedCond
namespace Go.Proofs.YtgcnolapjppbpaaGreatDoor
open Go.RowKit
set_option maxRecDepth 100000
def blksM (d : DiskM) (base n : Nat) : List (List UInt8) := ((d.strs.drop base).take n).map (fun s => s.data.toList)
def IsPays (e : UInt32) (bl : List (List UInt8)) (ps : List (List UInt8)) : Prop := payM e bl ps.length = none ∧ ∀ i (h : i < ps.length), ∃ k, payM e bl i = some (ps[i], k)
theorem IsPays.uniq {e : UInt32} {bl ps qs : List (List UInt8)} (h : IsPays e bl ps) (g : IsPays e bl qs) : ps = qs := by
  have hl : ps.length = qs.length := by
    rcases Nat.lt_trichotomy ps.length qs.length with h1 | h1 | h1
    · obtain ⟨k, h2⟩ := g.2 _ h1
      rw [h.1] at h2; cases h2
    · exact h1
    · obtain ⟨k, h2⟩ := h.2 _ h1
      rw [g.1] at h2; cases h2
  refine List.ext_getElem hl (fun i h1 h2 => ?_)
  obtain ⟨k, e1⟩ := h.2 i h1
  obtain ⟨m, e2⟩ := g.2 i h2
  rw [e1] at e2
  injection e2 with e2
  exact congrArg Prod.fst e2
open Classical in
noncomputable def paysM (e : UInt32) (bl : List (List UInt8)) : List (List UInt8) := if h : ∃ ps, IsPays e bl ps then h.choose else []
theorem IsPays.eq {e : UInt32} {bl ps : List (List UInt8)} (h : IsPays e bl ps) : paysM e bl = ps := by
  unfold paysM
  rw [dif_pos ⟨ps, h⟩]
  exact (Exists.choose_spec (⟨ps, h⟩ : ∃ ps, IsPays e bl ps)).uniq h
def evsM : List (List UInt8) → List EvtM
  | [] => []
  | p :: l => if (decM p).1 = 0 then (decM p).2 :: evsM l else []
noncomputable def keptM (d : DiskM) : StM × UInt32 × Int :=
  if (loadM d 0 24).2.2 = 10 then (noSt, 0, 0)
  else if (loadM d 0 24).2.2 = 0 then
    (if (decI (loadM d 0 24).2.1).1 = 0 then ((allM (decI (loadM d 0 24).2.1).2 (evsM (paysM (UInt32.ofNat (loadM d 0 24).1) (blksM d 49 16)))).1, UInt32.ofNat (loadM d 0 24).1, 0) else (noSt, 0, 24))
  else (noSt, 0, (loadM d 0 24).2.2)
def layM (ep : UInt32) (d : DiskM) (st : StM) : DiskM × Int :=
  if imgN st = 0 then (if ep = 4294967295 then (d, 5) else saveM d 0 24 (ep + 1).toNat (imgM st)) else (d, 24)
def logN (ep : UInt32) : LogM := ⟨49, 16, ep, 0, 0, false⟩
structure StoM where
  epoch : UInt32
  log : LogM
  dead : Bool
noncomputable def openM (d : DiskM) : DiskM × UInt32 × StM × Int :=
  if d.strs.length < 65 then (d, 0, noSt, 1)
  else if (keptM d).2.2 = 0 then
    (if (layM (keptM d).2.1 d (keptM d).1).2 = 0 then ((layM (keptM d).2.1 d (keptM d).1).1, (keptM d).2.1 + 1, (keptM d).1, 0)
    else ((layM (keptM d).2.1 d (keptM d).1).1, 0, noSt, (layM (keptM d).2.1 d (keptM d).1).2))
  else (d, 0, noSt, (keptM d).2.2)
theorem blks_get (d : DiskM) (hl : 65 ≤ d.strs.length) (j : Nat) (hj : j < 16) : d.strs[49 + j]? = some (SB ((blksM d 49 16).getD j [])) := by
  have h3 : 49 + j < d.strs.length := by omega
  have e : (blksM d 49 16).getD j [] = d.strs[49 + j].data.toList := by
    unfold blksM
    simp [List.getD, hj, h3]
  rw [e, List.getElem?_eq_getElem h3]
  congr 1
theorem blks_uniq (d : DiskM) (hl : 65 ≤ d.strs.length) (bl : List (List UInt8)) (h1 : bl.length = 16) (h2 : ∀ j, j < 16 → d.strs[49 + j]? = some (SB (bl.getD j []))) : bl = blksM d 49 16 := by
  have h3 : (blksM d 49 16).length = 16 := by unfold blksM; rw [List.length_map, List.length_take, List.length_drop]; omega
  refine List.ext_getElem (by omega) (fun j g1 g2 => ?_)
  have e1 := h2 j (by omega)
  rw [blks_get d hl j (by omega)] at e1
  injection e1 with e1
  have e2 := SB_inj e1
  rw [List.getD, List.getD, List.getElem?_eq_getElem g1, List.getElem?_eq_getElem g2] at e2
  exact e2.symm
theorem lies_len (d : DiskM) : ∀ (f : Nat) (b : Int) (z : Nat) (acc p : List UInt8), acc.length ≤ z → liesM d f b z acc = some p → p.length ≤ z
  | 0, _, z, acc, p, h, e => by
    rw [liesM] at e
    injection e with e
    rw [← e]; exact h
  | f + 1, b, z, acc, p, h, e => by
    rw [liesM] at e
    split at e
    · split at e
      · cases e
      · refine lies_len d f (b + 1) z _ p ?_ e
        rw [List.length_append, List.length_take]; omega
    · injection e with e
      rw [← e]; exact h
theorem loadM_len (d : DiskM) : (loadM d 0 24).2.1.length ≤ 6144 := by
  unfold loadM
  split
  · split
    · exact Nat.zero_le _
    split
    · split
      · exact Nat.zero_le _
      rename_i h2
      split
      · exact Nat.zero_le _
      · rename_i p hp
        have := lies_len d _ _ _ _ _ (Nat.zero_le _) hp
        split
        · show p.length ≤ 6144; omega
        · exact Nat.zero_le _
    · exact Nat.zero_le _
  · exact Nat.zero_le _
def isP (n : Int) : Bool := n == 22
def StoM.append (s : StoM) (d : DiskM) (e : EvtM) (st : StM) : StoM × DiskM × Int :=
  if s.dead = true then (s, d, 22)
  else if mayE e = true then
    (if (s.log.append d (evB e)).2.2 = 19 then
      (if (layM s.epoch d st).2 = 0 then
        (⟨s.epoch + 1, ((logN (s.epoch + 1)).append (layM s.epoch d st).1 (evB e)).1, isP ((logN (s.epoch + 1)).append (layM s.epoch d st).1 (evB e)).2.2⟩,
          ((logN (s.epoch + 1)).append (layM s.epoch d st).1 (evB e)).2.1, ((logN (s.epoch + 1)).append (layM s.epoch d st).1 (evB e)).2.2)
      else (⟨s.epoch, s.log, isP (layM s.epoch d st).2⟩, (layM s.epoch d st).1, (layM s.epoch d st).2))
    else (⟨s.epoch, (s.log.append d (evB e)).1, isP (s.log.append d (evB e)).2.2⟩, (s.log.append d (evB e)).2.1, (s.log.append d (evB e)).2.2))
  else (s, d, 1)
end Go.Proofs.YtgcnolapjppbpaaGreatDoor
namespace Go.Proofs.YtgcnolapjppbpaaGreatDoor
open Go.RowKit
theorem sumOf0_calls (v : Value) (l : List UInt8) (w : World) (hv : Rd w v l.length (l.map V8)) :
    Calls Tryz.prog 137 #[v] w fun e w' => e = .returned (.int .u32 (I32 (crc l))) ∧ Below w.heap.size w w' := by
  go_enter Tryz.func137, Tryz.ntmps137
  go_wp2_with fail
  refine (sumNew_calls _).mono ?_
  rintro e w' ⟨rfl, rfl⟩
  go_wp2_with fail
  refine (add_calls _ 0 v l _ (by simp [go_sem]) (by simp [go_sem]) (hv.below (below_alloc _ _))).mono ?_
  rintro e w' ⟨rfl, rfl⟩
  go_wp2_with fail
  refine (value_calls _ (.int .u32 (I32 (crc l))) _ (by simp [go_sem]; rfl)).mono ?_
  rintro e w' ⟨rfl, rfl⟩
  go_wp2
  go_ret
  exact ⟨rfl, by go_grown⟩
end Go.Proofs.YtgcnolapjppbpaaGreatDoor
namespace Go.Proofs.YtgcnolapjppbpaaGreatDoor
set_option maxRecDepth 100000
open Go.ChangeShapes Go.WideShapes Go.ChangeAt Go.RowKit
theorem L.own : ownKnob Tryz.prog.godebug = none := by kernel_rfl
theorem L.laidOut : laidOutB Tryz.prog = true := by kernel_rfl
def SizeOk (up : Bool) (N : Nat) (t : TypeId) {H : Type} (d : DataW H) : Prop :=
  match up with | true => Rows.uptoBulk d ≤ N | false => (DataW.weights Tryz.prog t d).all (· ≤ reachBytes) = true
def ArgC (up : Bool) (N : Nat) (t : TypeId) (W : World) (cs : List Value) : Prop :=
  ∃ (H : Type) (enc : TypeId × Value → H) (d : DataW H) (ps : List MemPlace) (fuel : Nat), DataW.trod enc Tryz.prog W 0 (fun _ => true) true fuel t cs = some (d, ps) ∧ SizeOk up N t d
def Arg (up : Bool) (t : TypeId) (W : World) (v : Value) : Prop :=
  ArgC up 1048576 t W v.cells.toList ∧ ∃ base, Value.okWide Tryz.prog W .any base t v
def ArgAll (up : Bool) (W : World) : List TypeId → List Value → Prop
  | [], [] => True
  | t :: ts, v :: vs => Arg up t W v ∧ ArgAll up W ts vs
  | _, _ => False
set_option maxRecDepth 100000 in
theorem argAll_mk {up : Bool} {H : Type} {enc : TypeId × Value → H} {W : World} {base : Nat} : ∀ {ts : List TypeId} {vs : List Value} {ds : List (DataW H)} {ps : List MemPlace},
    DataW.TrodAll enc Tryz.prog W 0 (fun _ => true) true ts vs ds ps → (∀ (j : Nat) t v, ts[j]? = some t → vs[j]? = some v → Value.okWide Tryz.prog W .any base t v) →
    (match up with | true => Rows.uptoBulkAll ds ≤ 1048576 | false => (DataW.weightsEach Tryz.prog ts ds).all (· ≤ reachBytes) = true) → ArgAll up W ts vs
  | [], [], [], _, _, _, _ => trivial
  | t :: ts, v :: vs, d :: ds, ps, h, hv, hs => by
    obtain ⟨p, q, h1, h2, rfl⟩ := h
    refine ⟨⟨⟨H, enc, d, p, h1.choose, h1.choose_spec, ?_⟩, base, hv 0 t v rfl rfl⟩, argAll_mk (base := base) h2 (fun j t v ht hv' => hv (j + 1) t v (by simpa using ht) (by simpa using hv')) ?_⟩
    · cases up with
      | true => simp only [Rows.uptoBulkAll] at hs; show Rows.uptoBulk d ≤ 1048576; omega
      | false => simp only [DataW.weightsEach, List.all_append, Bool.and_eq_true] at hs; exact hs.1
    · cases up with
      | true => simp only [Rows.uptoBulkAll] at hs ⊢; omega
      | false => simp only [DataW.weightsEach, List.all_append, Bool.and_eq_true] at hs; exact hs.2
  | [], [], _ :: _, _, h, _, _ => h.elim
  | [], _ :: _, _, _, h, _, _ => h.elim
  | _ :: _, [], _, _, h, _, _ => h.elim
  | _ :: _, _ :: _, [], _, h, _, _ => h.elim
theorem trodAll_below {H : Type} {enc : TypeId × Value → H} {W W' : World} (hb : Below W.heap.size W W') : ∀ {ts : List TypeId} {vs : List Value} {ds : List (DataW H)} {ps : List MemPlace},
    (∀ t ∈ ts, Tryz.prog.readableRec t = true ∧ t < Tryz.prog.types.size) → DataW.TrodAll enc Tryz.prog W 0 (fun _ => true) true ts vs ds ps → (∀ x ∈ ps, x.block < W.heap.size) →
    DataW.TrodAll enc Tryz.prog W' 0 (fun b => decide (b < W.heap.size)) true ts vs ds ps
  | [], [], [], _, _, h, _ => h
  | t :: ts, v :: vs, d :: ds, ps, hr, h, hlt => by
    obtain ⟨p, q, h1, h2, rfl⟩ := h
    refine ⟨p, q, Below.trod L.laidOut (hr t (by simp)).1 (hr t (by simp)).2 h1 hb (fun x hx => hlt x (by simp [hx])), trodAll_below hb (fun t ht => hr t (by simp [ht])) h2 (fun x hx => hlt x (by simp [hx])), rfl⟩
  | [], [], _ :: _, _, _, h, _ => h.elim
  | [], _ :: _, _, _, _, h, _ => h.elim
  | _ :: _, [], _, _, _, h, _ => h.elim
  | _ :: _, _ :: _, [], _, _, h, _ => h.elim
theorem ArgC.int {up : Bool} {N : Nat} {t : TypeId} {W : World} {cs : List Value} {k : IntKind} (ht : Tryz.prog.underlying t = some (.int k)) (h : ArgC up N t W cs) : ∃ n, cs = [.int k n] ∧ (Lit.int k n).wf = true := by
  obtain ⟨H, enc, d, ps, fuel, h, _⟩ := h
  obtain ⟨n, h1, _, h2⟩ := DataW.trod_int ht h
  exact ⟨n, h1, h2⟩
theorem ArgC.bool {up : Bool} {N : Nat} {t : TypeId} {W : World} {cs : List Value} (ht : Tryz.prog.underlying t = some .bool) (h : ArgC up N t W cs) : ∃ b, cs = [.bool b] := by
  obtain ⟨H, enc, d, ps, fuel, h, _⟩ := h
  obtain ⟨n, h1, _⟩ := DataW.trod_bool ht h
  exact ⟨n, h1⟩
theorem ArgC.string {up : Bool} {N : Nat} {t : TypeId} {W : World} {cs : List Value} (ht : Tryz.prog.underlying t = some .string) (h : ArgC up N t W cs) : ∃ s : ByteArray, cs = [.string s] ∧ s.size ≤ 9223372036854775807 ∧ (up = true → s.size + 1 ≤ N) ∧ (up = false → s.size ≤ 140737488351232) := by
  obtain ⟨H, enc, d, ps, fuel, h, hs⟩ := h
  obtain ⟨s, h1, h2, h3⟩ := DataW.trod_string ht h
  simp only [Prod.mk.injEq] at h2
  obtain ⟨rfl, rfl⟩ := h2
  have e : s.data.toList.length = s.size := by rw [Array.length_toList]; rfl
  refine ⟨s, h1, h3, fun hu => ?_, fun hu => ?_⟩
  · subst hu; simp only [SizeOk, Rows.uptoBulk] at hs; omega
  · subst hu; simp only [SizeOk, DataW.weights, List.all_cons, List.all_nil, Bool.and_true, reachBytes] at hs; have := of_decide_eq_true hs; omega
theorem ArgC.struct {up : Bool} {N : Nat} {t : TypeId} {W : World} {cs : List Value} {fs : Array Field} (ht : Tryz.prog.underlying t = some (.struct fs)) (h : ArgC up N t W cs) :
    cs.length = Tryz.prog.cellsOf t ∧ ∃ Ns : List Nat, Ns.length = fs.size ∧ (up = true → Ns.sum + 1 ≤ N) ∧ ∀ (i : Nat) (f : Field), fs[i]? = some f → ArgC up (Ns.getD i 0) f.type W ((cs.drop f.offset).take (Tryz.prog.cellsOf f.type)) := by
  obtain ⟨H, enc, d, ps, fuel, h, hs⟩ := h
  obtain ⟨xs, n, rfl, h1, h2, h3, h4⟩ := DataW.trod_struct ht h
  simp only [Prod.mk.injEq] at h1
  obtain ⟨rfl, rfl⟩ := h1
  refine ⟨h2, xs.map (fun x => Rows.uptoBulk x.1), by simpa using h3, fun hu => ?_, fun i f hf => ?_⟩
  · subst hu
    simp only [SizeOk, Rows.uptoBulk] at hs
    have : ∀ l : List (DataW H × List MemPlace), (l.map (fun x => Rows.uptoBulk x.1)).sum = Rows.uptoBulkAll (l.map (·.1)) := by
      intro l; induction l with
      | nil => rfl
      | cons a l ih => simp [Rows.uptoBulkAll, ih]
    rw [this]; omega
  · have hi : i < xs.length := by rw [h3]; exact (Array.getElem?_eq_some_iff.1 hf).1
    have h5 := h4 i f hf
    rw [List.getElem?_eq_getElem hi] at h5
    refine ⟨H, enc, xs[i].1, xs[i].2, n, h5, ?_⟩
    cases up with
    | true => simp only [SizeOk]; rw [List.getD, List.getElem?_map, List.getElem?_eq_getElem hi]; exact Nat.le_refl _
    | false =>
      simp only [SizeOk, DataW.weights, ht] at hs ⊢
      refine List.all_eq_true.2 fun m hm => List.all_eq_true.1 hs m ?_
      exact DataW.weights_mem_each (j := i) (t := f.type) (d := xs[i].1) (by simpa using (congrArg (Option.map (·.type)) hf)) (by simp [List.getElem?_eq_getElem hi]) m hm
theorem cells_of {w : World} {a : Addr} {n : Nat} {cs : List Value} (h : w.cells? 0 a n = some cs) : cs.length = n ∧ ∀ j, j < n → w.cell? (a.add j) = some (cs.getD j undef) := by
  unfold World.cells? at h
  rw [if_pos (Nat.zero_le _)] at h
  have h1 := mapM_some_length h
  simp at h1
  refine ⟨h1, fun j hj => ?_⟩
  have := mapM_some_get h j j (by simp [hj])
  rw [this, List.getD, List.getElem?_eq_getElem (by omega)]; rfl
theorem ArgC.slice {up : Bool} {N : Nat} {t e : TypeId} {W : World} {cs : List Value} {size : Nat} (ht : Tryz.prog.underlying t = some (.slice e)) (hsz : Tryz.prog.cellsOf e = size) (hpos : 0 < size) (h : ArgC up N t W cs) :
    ∃ a n cap, cs = [.slice a n cap] ∧ n ≤ cap ∧ cap ≤ 9223372036854775807 ∧ (a = none → cap = 0) ∧ (up = false → cap * Tryz.prog.bytesOf e ≤ 140737488351232) ∧
      ∃ Ns : List Nat, Ns.length = n ∧ (up = true → Ns.sum + 1 ≤ N ∧ n + 1 ≤ N) ∧
      ∀ i, i < n → ∃ b off cs', a = some ⟨b, off, none⟩ ∧ cs'.length = size ∧ (∀ j, j < size → W.cell? ⟨b, off + (i * size + j), none⟩ = some (cs'.getD j undef)) ∧ ArgC up (Ns.getD i 0) e W cs' := by
  obtain ⟨H, enc, d, ps, fuel, h, hs⟩ := h
  rcases DataW.trod_slice ht h with ⟨h1, h2⟩ | ⟨a, len, cap, elems, rest, n, rfl, h1, h2, _, h3, h4, h5, h6, h7, _⟩
  · subst h1
    simp only [Prod.mk.injEq] at h2
    obtain ⟨rfl, rfl⟩ := h2
    refine ⟨none, 0, 0, rfl, by omega, by omega, fun _ => rfl, fun _ => by omega, [], rfl, fun hu => ?_, fun i hi => by omega⟩
    subst hu; simp only [SizeOk, Rows.uptoBulk] at hs; simp; omega
  · subst h1
    simp only [Prod.mk.injEq] at h2
    obtain ⟨rfl, rfl⟩ := h2
    obtain ⟨h7, _⟩ := h7 rfl
    refine ⟨some a, len, cap, rfl, h3, by unfold maxLen at h4; omega, fun h => by (cases h), fun hu => ?_, elems.map (fun x => Rows.uptoBulk x.1), by simpa using h5, fun hu => ?_, fun i hi => ?_⟩
    · subst hu
      simp only [SizeOk, DataW.weights, ht, List.all_cons, Bool.and_eq_true, List.length_map, reachBytes] at hs
      have : elems.length + rest.length = cap := by omega
      rw [this] at hs; exact of_decide_eq_true hs.1
    · subst hu
      simp only [SizeOk, Rows.uptoBulk] at hs
      have hb : ∀ l : List (DataW H × List MemPlace), (l.map (fun x => Rows.uptoBulk x.1)).sum = Rows.uptoBulkAll (l.map (·.1)) ∧ l.length ≤ Rows.uptoBulkAll (l.map (·.1)) := by
        intro l; induction l with
        | nil => exact ⟨rfl, by simp⟩
        | cons a l ih =>
          have h1 : 1 ≤ Rows.uptoBulk a.1 := by
            cases a.1 with
            | lit l => cases l <;> simp [Rows.uptoBulk]
            | _ => simp [Rows.uptoBulk]
          simp only [List.map_cons, List.sum_cons, Rows.uptoBulkAll, List.length_cons, ih.1, true_and]; omega
      have := hb elems
      rw [this.1]; omega
    · have hi' : i < elems.length := by omega
      have h8 := h6 i hi
      rw [List.getElem?_eq_getElem hi'] at h8
      simp only [Option.bind_eq_some_iff] at h8
      obtain ⟨cs', hc1, hc2⟩ := h8
      obtain ⟨hl, hcell⟩ := cells_of hc1
      rw [hsz] at hl
      have hspot : a.spot = none := by
        have h0 := h6 0 (by omega)
        rw [List.getElem?_eq_getElem (by omega), Nat.zero_mul] at h0
        simp only [Option.bind_eq_some_iff] at h0
        obtain ⟨cs0, hc0, _⟩ := h0
        have h9 := (cells_of hc0).2 0 (by rw [hsz]; omega)
        simpa [Addr.add] using World.cell?_spot h9
      obtain ⟨b, off, spot⟩ := a
      simp only at hspot; subst hspot
      refine ⟨b, off, cs', rfl, hl, fun j hj => ?_, H, enc, elems[i].1, elems[i].2, n, hc2, ?_⟩
      · have := hcell j (by omega)
        rw [hsz] at this
        rw [add_plain, add_plain, Nat.add_assoc] at this; exact this
      · cases up with
        | true => simp only [SizeOk]; rw [List.getD, List.getElem?_map, List.getElem?_eq_getElem hi']; exact Nat.le_refl _
        | false =>
          simp only [SizeOk, DataW.weights, ht, List.all_cons, Bool.and_eq_true, List.all_append] at hs ⊢
          have hall : ∀ (l : List (DataW H)) (d : DataW H), d ∈ l → (DataW.weightsAll Tryz.prog e l).all (· ≤ reachBytes) = true → (DataW.weights Tryz.prog e d).all (· ≤ reachBytes) = true := by
            intro l d hd
            induction l with
            | nil => cases hd
            | cons x l ih =>
              intro hw
              simp only [DataW.weightsAll, List.all_append, Bool.and_eq_true] at hw
              cases List.mem_cons.1 hd with
              | inl e => subst e; exact hw.1
              | inr e => exact ih e hw.2
          exact hall (elems.map (·.1)) _ (List.mem_map.2 ⟨_, List.getElem_mem hi', rfl⟩) hs.2.1
end Go.Proofs.YtgcnolapjppbpaaGreatDoor
