/-
  The statement of layer, proved out of its walk: whatever the input, the law answers true and leaves its arguments as they were; package errors' variable errorType reads as the program's text lays it (the card ties it).
-/
import Derived.Test.YtgcnolapjppbpaaGreatDoorK22
import Derived.Test.YtgcnolapjppbpaaGreatDoorK36
import Derived.Test.YtgcnolapjppbpaaGreatDoorK25
import Derived.Test.YtgcnolapjppbpaaGreatDoorK49
import Derived.LaidLaws
import Derived.LaidHandle
import Derived.ChangeSame
import Derived.ChangeVars
import Derived.JoinedOf
import Derived.RowKit
import Derived.RowKitTokens
import Derived.Stop.Joined
import Derived.Test.YtgcnolapjppbpaaGreatDoorK53
import Derived.Test.YtgcnolapjppbpaaGreatDoorTie
import Derived.Test.YtgcnolapjppbpaaGreatDoorCards
import Derived.SevenTiedAt
namespace Go.Proofs.YtgcnolapjppbpaaGreatDoor
open Go.RowKit
set_option maxRecDepth 100000
theorem u64_of_wfS {n : Int} (h : (Lit.int .u64 n).wf = true) : ∃ k : Nat, n = (k : Int) ∧ k < 2 ^ 64 := by
  have h1 : 0 ≤ n ∧ n ≤ 18446744073709551615 := by simpa [Lit.wf, IntKind.min, IntKind.max, IntKind.bits, IntKind.signed] using h
  exact ⟨n.toNat, by omega, by omega⟩
structure SesI (s : SesM) : Prop where
  ok : SesOk s
  slot : I64 s.slot
  birth : I64 s.birth
  upS : I64 s.upS
  upB : I64 s.upB
  kind : I64 s.kind
  level : I64 s.level
  born : I64 s.born
  deadline : I64 s.deadline
  depth : I64 s.depth
theorem ArgC.session {N : Nat} {W : World} {cs : List Value} (hl : cs.length = 12) (h : ArgC false N 45 W cs) : ∃ s : SesM, cs = s.cells.toList ∧ SesI s := by
  match cs, hl with
  | [c1, c2, c3, c4, c5, c6, c7, c8, c9, c10, c11, c12], _ =>
    have ci : Tryz.prog.cellsOf 3 = 1 := by kernel_rfl
    have cs' : Tryz.prog.cellsOf 9 = 1 := by kernel_rfl
    have cu : Tryz.prog.cellsOf 43 = 1 := by kernel_rfl
    have cl : Tryz.prog.cellsOf 41 = 2 := by kernel_rfl
    have hx := Tryz.underlying45
    obtain ⟨n1, rfl, b1⟩ := h.fint hx 0 _ rfl ci c1 rfl .i64 Tryz.underlying3
    obtain ⟨n2, rfl, b2⟩ := h.fint hx 1 _ rfl ci c2 rfl .i64 Tryz.underlying3
    obtain ⟨M2, _, k⟩ := h.fstruct hx 2 _ rfl 41 2 2 rfl rfl cl
    have k' : ArgC false M2 41 W [c3, c4] := k
    have hk := Tryz.underlying41
    obtain ⟨n3, rfl, b3⟩ := k'.fint hk 0 _ rfl ci c3 rfl .i64 Tryz.underlying3
    obtain ⟨n4, rfl, b4⟩ := k'.fint hk 1 _ rfl ci c4 rfl .i64 Tryz.underlying3
    obtain ⟨n5, rfl, b5⟩ := h.fint hx 3 _ rfl ci c5 rfl .i64 Tryz.underlying3
    obtain ⟨s6, rfl, _, _, b6⟩ := h.fstring hx 4 _ rfl cs' c6 rfl Tryz.underlying9
    obtain ⟨s7, rfl, _, _, b7⟩ := h.fstring hx 5 _ rfl cs' c7 rfl Tryz.underlying9
    obtain ⟨n8, rfl, b8⟩ := h.fint hx 6 _ rfl cu c8 rfl .u64 Tryz.underlying43
    obtain ⟨n9, rfl, b9⟩ := h.fint hx 7 _ rfl ci c9 rfl .i64 Tryz.underlying3
    obtain ⟨n10, rfl, b10⟩ := h.fint hx 8 _ rfl ci c10 rfl .i64 Tryz.underlying3
    obtain ⟨n11, rfl, b11⟩ := h.fint hx 9 _ rfl ci c11 rfl .i64 Tryz.underlying3
    obtain ⟨n12, rfl, b12⟩ := h.fint hx 10 _ rfl ci c12 rfl .i64 Tryz.underlying3
    obtain ⟨u, rfl, hu⟩ := SB_of s6
    obtain ⟨l, rfl, hl⟩ := SB_of s7
    obtain ⟨sc, rfl, hsc⟩ := u64_of_wfS b8
    refine ⟨⟨n1, n2, n3, n4, n5, u, l, sc, n9, n10, n11, n12⟩, rfl, ⟨?_, ?_, hsc⟩, i64_of_wf b1, i64_of_wf b2, i64_of_wf b3, i64_of_wf b4, i64_of_wf b5, i64_of_wf b9, i64_of_wf b10, i64_of_wf b11, i64_of_wf b12⟩
    · show u.length ≤ _; rw [hu]; exact Nat.le_trans (b6 rfl) (by decide)
    · show l.length ≤ _; rw [hl]; exact Nat.le_trans (b7 rfl) (by decide)
theorem ArgC.sessions {N : Nat} {W : World} {v : Value} (h : ArgC false N 28 W [v]) : ∃ l : List SesM, RdS W v l ∧ (∀ s ∈ l, SesI s) ∧ l.length ≤ 1256584717421 := by
  obtain ⟨l, h1, h2, Ns, _, _, h5⟩ := h.flat noSes (fun s : SesM => s.cells.toList) (fun _ => rfl) (by decide) (fun _ s => SesI s) Tryz.underlying28 (by kernel_rfl) (fun N cs hl hc => hc.session hl)
  refine ⟨l, h1, fun s hs => ?_, ?_⟩
  · obtain ⟨i, hi, rfl⟩ := List.getElem_of_mem hs
    have := h5 i hi
    simpa [List.getD, hi] using this
  · have := h2 rfl
    rw [show Tryz.prog.bytesOf 45 = 112 by kernel_rfl] at this; omega
theorem Arg.state {W : World} {v : Value} (h : Arg false 30 W v) : ∃ (st : StM) (x : Value), v = .agg #[.int .i64 st.clock, .int .i64 st.births, x] ∧ RdS W x st.l ∧ (∀ s ∈ st.l, SesI s) ∧ st.l.length ≤ 1256584717421 ∧ I64 st.clock ∧ I64 st.births := by
  obtain ⟨⟨cs⟩, rfl, hc⟩ := h.struct Tryz.underlying30
  have hl : cs.length = 3 := by
    have := (hc.struct Tryz.underlying30).1
    rw [show Tryz.prog.cellsOf 30 = 3 by kernel_rfl] at this; exact this
  match cs, hl, hc with
  | [c0, c1, c2], _, hc =>
    obtain ⟨a, rfl, hw⟩ := hc.fint Tryz.underlying30 0 _ rfl (by kernel_rfl) c0 rfl .i64 Tryz.underlying3
    obtain ⟨n, rfl, hw2⟩ := hc.fint Tryz.underlying30 1 _ rfl (by kernel_rfl) c1 rfl .i64 Tryz.underlying3
    obtain ⟨M, _, hd⟩ := hc.fcell Tryz.underlying30 2 _ rfl (by kernel_rfl) c2 rfl
    obtain ⟨l, h1, h2, h3⟩ := hd.sessions
    exact ⟨⟨a, n, l⟩, c2, rfl, h1, h2, h3, i64_of_wf hw, i64_of_wf hw2⟩
end Go.Proofs.YtgcnolapjppbpaaGreatDoor
namespace Go.Proofs.YtgcnolapjppbpaaGreatDoor
open Go.RowKit
set_option maxRecDepth 100000
theorem ArgC.events {N : Nat} {W : World} {v : Value} (h : ArgC false N 22 W [v]) : ∃ l : List EvtM, RdE W v l ∧ (∀ s ∈ l, EvOk s) ∧ l.length ≤ 1034834473170 := by
  obtain ⟨l, h1, h2, Ns, _, _, h5⟩ := h.flat (⟨0, noSes, 0, 0⟩ : EvtM) (fun s : EvtM => s.cells.toList) (fun _ => rfl) (by decide) (fun _ s => EvOk s) Tryz.underlying22 (by kernel_rfl) (fun N cs hl hc => ArgC.event hl hc)
  refine ⟨l, h1, fun s hs => ?_, ?_⟩
  · obtain ⟨i, hi, rfl⟩ := List.getElem_of_mem hs
    have := h5 i hi
    simpa [List.getD, hi] using this
  · have := h2 rfl
    rw [show Tryz.prog.bytesOf 47 = 136 by kernel_rfl] at this; omega
end Go.Proofs.YtgcnolapjppbpaaGreatDoor
namespace Go.Proofs.YtgcnolapjppbpaaGreatDoor
open Go.ChangeShapes Go.WideShapes Go.ChangeAt Go.RowKit
set_option maxRecDepth 100000
def laidL : List (String × DataW Unit) := [("errors.errorType", Rows.laid_errors_errorType)]
theorem L.et : Tryz.prog.globalNamed "errors.errorType" = some 0 := by kernel_rfl
theorem L.rt : (Tryz.prog.cutTypes.find? (·.1 == "internal/reflectlite.rtype")).map (·.2) = some 193 := by kernel_rfl
theorem L.oneRow : ((List.range 350).filter fun t => Tryz.prog.rowNamed t [101, 114, 114, 111, 114]) = [49] := by kernel_rfl
theorem L.size : Tryz.prog.types.size = 350 := by kernel_rfl
theorem errType_of_laid {W : World} (h : laidMetH Tryz.prog laidL W) : ErrType W := by
  have h' : laidMet Tryz.prog [] W ∧ handlesMet Tryz.prog laidL W := h
  obtain ⟨name, u, ty, e1, e2, e3, e4, e5⟩ := h'.2 _ (List.mem_singleton.2 rfl)
  have en : name = [101, 114, 114, 111, 114] := (Option.some.inj e1).symm
  subst en
  obtain rfl := Option.some.inj (L.rt.symm.trans e2)
  have hm : ty ∈ (List.range 350).filter fun t => Tryz.prog.rowNamed t [101, 114, 114, 111, 114] := List.mem_filter.2 ⟨List.mem_range.2 (by rw [← L.size]; exact e3), e4⟩
  rw [L.oneRow] at hm
  obtain rfl := List.mem_singleton.1 hm
  have hh : typeHandle Tryz.prog 49 = .pointer (some ⟨2, 49, none⟩) := by kernel_rfl
  rw [hh] at e5
  have := World.var?_cell L.et e5 0
  unfold ErrType
  simpa using this
noncomputable def laidWorld (os : Os) : World :=
  let w0 := World.holding Tryz.prog os ⟨#[], #[], []⟩
  { w0 with heap := w0.heap.modify 0 fun
      | .cells _ t frozen => .cells #[.iface 193 (.agg #[.pointer (some ⟨2, 49, none⟩)])] t frozen
      | o => o }
theorem laidWorld_met (os : Os) (args : Array Value) : laidMetH Tryz.prog laidL ((laidWorld os).forCall (fun _ _ => 0) ⟨#[], args, []⟩).memory :=
  laidMetH_of_parts (laidMet_nil _ _) (by kernel_rfl)
theorem law_contract_at {up : Bool} {vt : List TypeId} (hvt : vt = []) {f : FuncId} {fn : Func} {s : ChangeSpec} {ts : List TypeId} (hp : fn.params.toList = ts) (hres : fn.resultTypes = #[4]) (hvars : s.vars = [])
    (hr : ∀ t ∈ ts, Tryz.prog.readableRec t = true ∧ t < Tryz.prog.types.size) (hs : ∀ (H : Type) (ds : List (DataW H)), ds.length = ts.length → (s.fn H ds).results = [.lit (.bool true)] ∧ (s.fn H ds).args = ds ∧ (s.fn H ds).vars = [])
    (H : Type) (enc : TypeId × Value → H) (W : World) (base : Nat) (args : Array Value) (ds gs : List (DataW H)) (before : List MemPlace)
    (hval : ∀ (j : Nat) t v, fn.params[j]? = some t → args[j]? = some v → Value.okWide Tryz.prog W .any base t v)
    (hW : DataW.Whole enc Tryz.prog fn.params.toList s.vars false W args.toList ds gs before)
    (hsz : match up with | true => Rows.uptoSmall H (ds ++ gs) = true | false => (DataW.weightsEach Tryz.prog (fn.params.toList ++ vt) (ds ++ gs)).all (· ≤ reachBytes) = true)
    (walkAt : ArgAll up W ts args.toList → Calls Tryz.prog f args W fun e W' => e = .returned (.bool true) ∧ Below W.heap.size W W') :
    Calls Tryz.prog f args W fun e W' => ∃ v, e = .returned v ∧ s.post enc Tryz.prog fn false true false false W args v W' := by
  have hW' := hW
  obtain ⟨p, q, hA, hV, rfl, _, _⟩ := hW
  rw [hvars] at hV
  have hg : gs = [] ∧ q = [] := by
    cases gs with
    | nil => exact ⟨rfl, hV⟩
    | cons g gs => exact hV.elim
  obtain ⟨rfl, rfl⟩ := hg
  have hlt : ∀ x ∈ p, x.block < W.heap.size := fun x hx => by simpa using hW'.lt x (by simpa using hx)
  have hlen : ds.length = ts.length := by
    have : ∀ {ts : List TypeId} {vs : List Value} {ds : List (DataW H)} {ps : List MemPlace}, DataW.TrodAll enc Tryz.prog W 0 (fun _ => true) true ts vs ds ps → ds.length = ts.length := by
      intro ts
      induction ts with
      | nil => intro vs ds ps h; cases vs with
        | nil => cases ds with
          | nil => rfl
          | cons _ _ => exact h.elim
        | cons _ _ => exact h.elim
      | cons t ts ih => intro vs ds ps h; cases vs with
        | nil => exact h.elim
        | cons v vs => cases ds with
          | nil => exact h.elim
          | cons d ds => obtain ⟨_, _, _, h2, _⟩ := h; simp [ih h2]
    rw [hp] at hA
    exact this hA
  have hall : ArgAll up W ts args.toList := by
    rw [← hp]
    refine argAll_mk (base := base) hA (fun j t v ht hv => hval j t v (by simpa using ht) (by simpa using hv)) ?_
    cases up with
    | true => have h : Rows.uptoBulkAll (ds ++ []) ≤ 1048576 := of_decide_eq_true hsz
              simpa using h
    | false => subst hvt; simpa using hsz
  have hwalk := walkAt hall
  refine hwalk.mono fun e W' ⟨he, hb⟩ => ?_
  obtain ⟨s1, s2, s3⟩ := hs H (ds ++ []) (by simpa using hlen)
  refine ⟨_, he, _, _, _, [], p, [], hW', ?_, ?_, ?_, hb.frame _, fun h => by cases h⟩
  · rw [s1, hres]; exact ⟨[], [], shut_bool (by kernel_rfl) true, rfl, rfl⟩
  · rw [s2, List.append_nil]; exact trodAll_below hb (by rw [hp]; exact hr) hA hlt
  · rw [s3, hvars]; rfl
end Go.Proofs.YtgcnolapjppbpaaGreatDoor
namespace Go.Proofs.YtgcnolapjppbpaaGreatDoor
open Go.ChangeShapes Go.WideShapes Go.ChangeAt Go.RowKit
set_option maxRecDepth 100000
theorem ArgC.ints26 {N : Nat} {W : World} {v : Value} (h : ArgC false N 34 W [v]) :
    ∃ l : List Int, Rd W v l.length (l.map (Value.int .i64)) ∧ ∀ y ∈ l, I64 y := by
  obtain ⟨l, h1, h2, Ns, h3, h4, h5⟩ := h.flat 0 (fun n : Int => [Value.int .i64 n]) (fun _ => rfl) (by decide) (fun _ n => I64 n) Tryz.underlying34 (by kernel_rfl) (fun N cs hl hc => by
    match cs, hl with
    | [c0], _ =>
      obtain ⟨n, e1, hw⟩ := hc.int (k := .i64) Tryz.underlying3
      simp only [List.cons.injEq, and_true] at e1
      exact ⟨n, by rw [e1], i64_of_wf hw⟩)
  refine ⟨l, ?_, fun y hy => ?_⟩
  · have e : l.flatMap (fun n : Int => [Value.int .i64 n]) = l.map (Value.int .i64) := List.map_eq_flatMap.symm
    rw [e] at h1; exact h1
  · obtain ⟨i, hi, rfl⟩ := List.getElem_of_mem hy
    have := h5 i hi
    simpa [List.getD, hi] using this
theorem ArgC.failM {N : Nat} {W : World} {cs : List Value} (hl : cs.length = 3) (h : ArgC false N 36 W cs) : ∃ x : FailM, cs = x.cells ∧ x.Ok W := by
  match cs, hl with
  | [c0, c1, c2], _ =>
    obtain ⟨k, rfl, hw⟩ := h.fint Tryz.underlying36 0 _ rfl (by kernel_rfl) c0 rfl .i64 Tryz.underlying3
    obtain ⟨a, rfl, hw2⟩ := h.fint Tryz.underlying36 1 _ rfl (by kernel_rfl) c1 rfl .i64 Tryz.underlying3
    obtain ⟨M, _, hd⟩ := h.fcell Tryz.underlying36 2 _ rfl (by kernel_rfl) c2 rfl
    obtain ⟨l, h1, h2⟩ := ArgC.ints26 hd
    exact ⟨⟨k, a, c2, l⟩, rfl, i64_of_wf hw, i64_of_wf hw2, h1, h2⟩
theorem Arg.failsM {W : World} {v : Value} (h : Arg false 23 W v) : ∃ l : List FailM, Rd W v l.length (l.flatMap FailM.cells) ∧ ∀ r ∈ l, r.Ok W := by
  obtain ⟨l, h1, h2, Ns, _, _, h5⟩ := (h.slice Tryz.underlying23).flat FailM.zero FailM.cells (fun _ => rfl) (by decide) (fun _ x => x.Ok W) Tryz.underlying23 (by kernel_rfl) (fun N cs hl hc => hc.failM hl)
  refine ⟨l, h1, fun r hr => ?_⟩
  obtain ⟨i, hi, rfl⟩ := List.getElem_of_mem hr
  have := h5 i hi
  simpa [List.getD, hi] using this
theorem storeKeeps_at (W : World) (vs : Array Value) (hg : ErrType W) (h : ArgAll false W [22, 23] vs.toList) : Calls Tryz.prog 3 vs W fun e W' => e = .returned (.bool true) ∧ Below W.heap.size W W' := by
  obtain ⟨vs⟩ := vs
  match vs, h with
  | [x, y], ⟨h1, h2, _⟩ =>
    obtain ⟨l, hl, hok, _⟩ := (h1.slice Tryz.underlying22).events
    obtain ⟨fs, hf, hfk⟩ := h2.failsM
    exact storeKeeps_calls l x fs y W hl hok hf hfk hg
theorem storeKeeps_lifted (os : Os) (started : os.Started) (H : Type) (enc : TypeId × Value → H) :
    ReturnsInHanded {} Tryz.checked os 3 .any (fun w args => (Rows.storeKeepsSpec.pre enc Tryz.prog Tryz.f3 [] false w args ∧ laidMetH Tryz.prog laidL w) ∧ sizedMet enc Tryz.prog Tryz.f3 (OpenSpec.ofChange Rows.storeKeepsSpec) false w args)
      (Rows.storeKeepsSpec.post enc Tryz.prog Tryz.f3 false true false false) := by
  refine returnsInHanded_of_change_and (C := Tryz.checked) (X := fun w _ => laidMetH Tryz.prog laidL w) (fun _ _ _ hh h => h.of_heap hh) L.own started (by kernel_rfl) Tryz.func3
    (ChangeSpec.witness_at (enc := enc) (C := Tryz.checked) (os := os) (X := fun w _ => laidMetH Tryz.prog laidL w) false (laidWorld os) #[.slice none 0 0, .slice none 0 0] 8 rfl (by kernel_rfl) (by kernel_rfl) (by kernel_rfl) (by kernel_rfl) (by kernel_rfl) (laidWorld_met os _)) ?_
  intro W base args ds gs before hval hW _ hsz hL _
  exact law_contract_at (up := false) (vt := Rows.storeKeepsSpec.plain.varTypes Tryz.prog) rfl (ts := [22, 23]) rfl rfl rfl (by decide +kernel) (fun H ds h => by
      rcases ds with _ | ⟨d0, _ | ⟨d1, _ | ⟨d2, _ | ⟨d3, _ | ⟨d4, _ | ⟨d5, ds⟩⟩⟩⟩⟩⟩ <;> first | exact ⟨rfl, rfl, rfl⟩ | (exfalso; simp at h; done) | (exfalso; simp at h; omega)) H enc W base args ds gs before hval hW hsz (fun h => storeKeeps_at W args (errType_of_laid hL) h)
theorem storeKeeps_row : Rows.StoreKeepsSaid :=
  OpenClaim.holds_of_wide 3 Tryz.f3 rfl rfl rfl rfl rfl rfl rfl ⟨rfl, rfl, rfl, rfl, rfl⟩ rfl rfl rfl rfl rfl (by kernel_rfl) Tryz.func3 (by kernel_rfl)
    (of_decide_eq_true (by kernel_rfl)) (by unfold Func.isWrapper; first | (rw [if_pos (by decide +kernel)]; kernel_rfl) | (rw [if_neg (by decide +kernel)]; exact ⟨rfl, rfl⟩))
    (fun os started H enc _ => storeKeeps_lifted os started H enc)
theorem storeKeeps_card : Rows.StoreKeepsCardSaid :=
  Claim7.holds_tied_plain_at .later [] [.handle] true (true, "092bf81c706308b9d9ed6c913da4f0e89253c5483a1ccd7890a9d92c8cc91fba") true
    storeKeeps_row (fun _ h => by cases h) (by kernel_rfl) (fun _ h => by cases h) storeKeeps_row_tie rfl ⟨rfl, rfl⟩ (by kernel_rfl) rfl
    (fun f fn hf hfn => by
      obtain rfl : f = 3 := Option.some.inj ((show Tryz.prog.funcNamed "lineage/lineagelaw26.StoreKeeps" = some 3 by kernel_rfl).symm.trans hf) |>.symm
      obtain rfl : fn = Tryz.f3 := (Option.some.inj (Tryz.func3.symm.trans hfn)).symm
      exact ⟨by kernel_rfl, fun j t ht => by
        have hp : Tryz.f3.params = #[22, 23] := rfl
        rw [hp] at ht
        have h3 : t = 22 ∨ t = 23 := by
          rcases j with _ | _ | j
          · left; simpa using ht.symm
          · right; simpa using ht.symm
          · simp at ht
        rcases h3 with rfl | rfl
        · exact (show Tryz.prog.wantsStandIn 22 = false by kernel_rfl)
        · exact (show Tryz.prog.wantsStandIn 23 = false by kernel_rfl)⟩)
    (by kernel_rfl)
#print axioms storeKeeps_card
end Go.Proofs.YtgcnolapjppbpaaGreatDoor
