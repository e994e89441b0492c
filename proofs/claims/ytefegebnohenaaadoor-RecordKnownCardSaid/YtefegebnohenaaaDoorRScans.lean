/-
  The walk of RecordScans.
-/
import Derived.Test.YtefegebnohenaaaDoorRefScan
import Derived.Test.YtefegebnohenaaaDoorAllItP
import Derived.Test.YtefegebnohenaaaDoorKitT
import Derived.Test.YtefegebnohenaaaDoorApartB
import Derived.LoopNIn
import Derived.Maps.OwnIn
import Derived.Deep.RegionLaw
namespace Go.Proofs.YtefegebnohenaaaDoor
open Go.RowKit Go.Shelf
attribute [local go_sem] Oper.semAt_some
set_option maxRecDepth 100000

/-- Lists that have come: rows of their own, pairwise apart. -/
structure Items (B : Nat) (ys : List Value) (W : World) : Prop where
  row : ∀ i, i < ys.length → ∃ p : List UInt8, p.length ≤ 512 ∧ OwnM W B 5 (ys.getD i undef) p.length (p.map V8)
  apart : ∀ i j, i < j → j < ys.length → Apart (ys.getD i undef) (ys.getD j undef)
theorem Items.nil (B : Nat) (W : World) : Items B [] W := ⟨fun i hi => by simp at hi, fun i j _ hj => by simp at hj⟩
theorem Items.keep {B : Nat} {ys : List Value} {W W' : World} (h : Items B ys W) (hk : ∀ i, i < ys.length → ∀ k, (ys.getD i undef).ownBlock = some k → k < W.heap.size → W'.heap[k]? = W.heap[k]?) : Items B ys W' :=
  ⟨fun i hi => by obtain ⟨p, h1, h2⟩ := h.row i hi; exact ⟨p, h1, h2.keep (hk i hi)⟩, h.apart⟩
theorem Items.below {B : Nat} {ys : List Value} {W W' : World} (h : Items B ys W) (hb : Below W.heap.size W W') : Items B ys W' := h.keep (fun _ _ k _ hl => hb.block k hl)
theorem Items.ck {B : Nat} {ys : List Value} {W W' : World} (h : Items B ys W) (hc : CellsKept W W') : Items B ys W' :=
  ⟨fun i hi => by obtain ⟨p, h1, h2⟩ := h.row i hi; exact ⟨p, h1, h2.ck hc⟩, h.apart⟩
theorem Items.lt {B : Nat} {ys : List Value} {W : World} (h : Items B ys W) {i : Nat} (hi : i < ys.length) : ∀ k, (ys.getD i undef).ownBlock = some k → B ≤ k ∧ k < W.heap.size := by
  obtain ⟨p, _, h2⟩ := h.row i hi
  exact h2.lt
theorem Items.snoc {B : Nat} {ys : List Value} {W : World} {x : Value} {p : List UInt8} (h : Items B ys W) (hp : p.length ≤ 512) (hx : OwnM W B 5 x p.length (p.map V8)) (ha : ∀ i, i < ys.length → Apart (ys.getD i undef) x) : Items B (ys ++ [x]) W := by
  refine ⟨fun i hi => ?_, fun i j hij hj => ?_⟩
  · rw [List.length_append, List.length_singleton] at hi
    rcases Nat.lt_or_ge i ys.length with h1 | h1
    · rw [List.getD, List.getElem?_append_left h1]; exact h.row i h1
    · obtain rfl : i = ys.length := by omega
      rw [List.getD, List.getElem?_append_right (Nat.le_refl _), Nat.sub_self]; exact ⟨p, hp, hx⟩
  · rw [List.length_append, List.length_singleton] at hj
    have hi : i < ys.length := by omega
    have e1 : (ys ++ [x]).getD i undef = ys.getD i undef := by rw [List.getD, List.getElem?_append_left hi]; rfl
    rw [e1]
    rcases Nat.lt_or_ge j ys.length with h1 | h1
    · rw [List.getD, List.getD, List.getElem?_append_left h1]; exact h.apart i j hij h1
    · obtain rfl : j = ys.length := by omega
      have e2 : (ys ++ [x]).getD ys.length undef = x := by rw [List.getD, List.getElem?_append_right (Nat.le_refl _), Nat.sub_self]; rfl
      rw [e2]; exact ha i hi
/-- The list of lists, in its cell; from w6 on only what is new has turned. -/
structure RI (w6 : World) (C L0 B : Nat) (lv : Value) (ys : List Value) (W : World) : Prop where
  mod : Mod (fun b => b = C ∨ L0 ≤ b) w6 W
  box : Box W C #[lv] 50
  row : W.ownsRow L0 23 1 lv ys.length ys
  items : Items B ys W
theorem OwnM.ne_box {W : World} {B n b : Nat} {v : Value} {xs : List Value} {cs : Array Value} {e t : TypeId} (h : OwnM W B e v n xs) (hb : Box W b cs t) (hne : e ≠ t) : ∀ k, v.ownBlock = some k → k ≠ b := by
  intro k hk e2
  subst e2
  rcases h.2 with ⟨rfl, _⟩ | ⟨g, cap, cur, fz, rfl, _, hg, _⟩
  · simp [Value.ownBlock] at hk
  · simp [Value.ownBlock] at hk
    subst hk
    unfold Box at hb
    rw [hg] at hb
    injection hb with h1; injection h1 with _ h2 _
    exact hne h2
theorem RI.below {w6 : World} {C L0 B : Nat} {lv : Value} {ys : List Value} {W W' : World} (h : RI w6 C L0 B lv ys W) (hb : Below W.heap.size W W') : RI w6 C L0 B lv ys W' :=
  ⟨h.mod.trans (Mod.of_below hb), h.box.below hb, own_below h.row hb, h.items.below hb⟩
/-- One more. -/
theorem RI.push {w6 : World} {C L0 B : Nat} {lv v' x : Value} {ys : List Value} {W W1 w2 : World} {o : Obj} {p : List UInt8} (h : RI w6 C L0 B lv ys W) (_hL : L0 ≤ w6.heap.size) (hb1 : Below W.heap.size W W1) (hp : p.length ≤ 512) (hx : OwnM W B 5 x p.length (p.map V8)) (ha : ∀ i, i < ys.length → Apart (ys.getD i undef) x)
    (ho : w2.ownsRow L0 23 1 v' (ys.length + 1) (ys ++ [x])) (hg : (W1.alloc o).grownBy w2 lv.ownBlock) :
    RI w6 C L0 B v' (ys ++ [x]) (w2.setCell ⟨C, 0, none⟩ v') ∧ Mod (fun b => b = C ∨ lv.ownBlock = some b) W (w2.setCell ⟨C, 0, none⟩ v') := by
  have hba := below_trans hb1 (below_alloc W1 o)
  have hra := own_below h.row hba
  have hm2 : Mod (fun b => lv.ownBlock = some b) W w2 := (Mod.of_below hba).trans (Mod.of_grown hg (fun k hk => hk))
  have hm3 : Mod (fun b => b = C ∨ lv.ownBlock = some b) W (w2.setCell ⟨C, 0, none⟩ v') := (hm2.mono (fun i hi => .inr hi)).trans (Mod.set _ w2 ⟨C, 0, none⟩ v' (.inl rfl))
  have hlv := h.row.lt
  have hit : Items B (ys ++ [x]) W := h.items.snoc hp hx ha
  have hbx : Box w2 C #[lv] 50 := h.box.mod hm2 (fun e => by
    rcases h.row.2 with ⟨e1, _⟩ | ⟨g, cap, cur, e1, _, hg2, _⟩
    · rw [e1] at e; simp [Value.ownBlock] at e
    · rw [e1] at e
      simp [Value.ownBlock] at e
      subst e
      have := h.box
      unfold Box at this
      rw [hg2] at this
      injection this with h1; injection h1 with _ h2 _
      exact absurd h2 (by decide))
  have hbo : ∀ k, v'.ownBlock = some k → k ≠ C := fun k hk e => by
    subst e
    rcases ho.2 with ⟨e1, _⟩ | ⟨g, cap, cur, e1, _, hg2, _⟩
    · rw [e1] at hk; simp [Value.ownBlock] at hk
    · rw [e1] at hk
      simp [Value.ownBlock] at hk
      subst hk
      unfold Box at hbx
      rw [hg2] at hbx
      injection hbx with h1; injection h1 with _ h2 _
      exact absurd h2 (by decide)
  refine ⟨⟨h.mod.trans (hm3.mono (fun i hi => ?_)), ?_, ?_, hit.keep (fun i hi k hk hl => hm3.block k hl (fun e => ?_))⟩, hm3⟩
  · rcases hi with hi | hi
    · exact .inl hi
    · exact .inr (hlv i hi).1
  · exact hbx.set 0 v'
  · rw [List.length_append, List.length_singleton]
    exact own_mod ho (Mod.set (fun b => b = C) w2 ⟨C, 0, none⟩ v' rfl) hbo
  · obtain ⟨q, _, hq⟩ := hit.row i hi
    rcases e with e | e
    · exact hq.ne_box h.box (by decide) k hk e
    · exact apart_types h.row hq (by decide) k e hk
theorem own_ne_box {W : World} {B s n b : Nat} {v : Value} {xs : List Value} {cs : Array Value} {e t : TypeId} (h : W.ownsRow B e s v n xs) (hb : Box W b cs t) (hne : e ≠ t) : v.ownBlock ≠ some b := by
  intro e2
  rcases h.2 with ⟨rfl, _⟩ | ⟨g, cap, cur, rfl, _, hg, _⟩
  · simp [Value.ownBlock] at e2
  · simp [Value.ownBlock] at e2
    subst e2
    unfold Box at hb
    rw [hg] at hb
    injection hb with h1; injection h1 with _ h2 _
    exact hne h2
theorem grown_drew (w : World) (r : Option Nat) : w.grownBy w.drew r := ⟨rfl, rfl, rfl, Nat.le_refl _, fun _ _ _ => rfl⟩
theorem eqlIn_func (fn : Fn) (lb : Array Value) (w : World) (d : Nat) : (Op.equalIn (d + 1) 94 (.func fn #[] lb) .nilFunc).run Tryd.prog w = .ok false w := by
  simp [Op.equalIn, run_underlying Tryd.underlying94]
theorem eql_func (fn : Fn) (lb : Array Value) (w : World) : (binOp .eql 94 (.func fn #[] lb) .nilFunc).run Tryd.prog w = .ok (.bool false) w := by
  have h := eqlIn_func fn lb w 9999
  simp only [binOp]
  simp [Op.equal, Op.maxDepth, h]
/-- No panic. -/
def noPanic (Q : Exit → Act → World → Prop) (e : Exit) (a : Act) (w : World) : Prop := match e with | .panic _ => False | e => Q e a w
theorem noPanic_of {Q : Exit → Act → World → Prop} {e : Exit} {a : Act} {w : World} (h : noPanic Q e a w) : Q e a w := by
  cases e <;> first | exact h | exact h.elim
/-- The two answers find as many. -/
theorem scans_count {e : UInt32} {bl : List (List UInt8)} {n m : Nat} (hn : payM e bl n = none) (hm : payM e bl m = none) (h1 : ∀ i, i < n → payM e bl i ≠ none) (h2 : ∀ i, i < m → payM e bl i ≠ none) : n = m :=
  Nat.le_antisymm (pay_lt hm h1) (pay_lt hn h2)
theorem pay_512 {e : UInt32} {bl : List (List UInt8)} {i k : Nat} {p : List UInt8} (h : payM e bl i = some (p, k)) : p.length ≤ 512 := by
  unfold payM at h
  exact ((oneM_isOne _ _ _ _).1 h).1
def payB (e : UInt32) (bl : List (List UInt8)) (i : Nat) : List UInt8 := match payM e bl i with | some x => x.1 | none => []
theorem payB_eq {e : UInt32} {bl : List (List UInt8)} {i k : Nat} {p : List UInt8} (h : payM e bl i = some (p, k)) : payB e bl i = p := by unfold payB; rw [h]
/-- What stays from the loops on: the answers, where they are held; the blocks that were lent; all below T. -/
structure ScanK (e : UInt32) (bl : List (List UInt8)) (m R Bw Bp : Nat) (wv pv xv : Value) (wys : List Value) (bx T : Nat) (W : World) : Prop where
  want : Box W Bw #[wv] 50
  wrd : Rd W wv m wys
  wlt : ∀ k, wv.ownBlock = some k → k < T
  wl : wys.length = m
  rows : ∀ i, i < m → Rd W (wys.getD i undef) (payB e bl i).length ((payB e bl i).map V8) ∧ ∀ k, (wys.getD i undef).ownBlock = some k → k < T
  pl : Box W Bp #[pv] 59
  prd : Rd W pv m (placesV e bl m)
  plt : ∀ k, pv.ownBlock = some k → k < T
  res : Box W R #[.bool false] 4
  x : LentT W bx xv bl
  xlt : ∀ k, xv.ownBlock = some k → k < T
  lt : Bw < T ∧ Bp < T ∧ R < T
theorem ScanK.mod {e : UInt32} {bl : List (List UInt8)} {m R Bw Bp : Nat} {wv pv xv : Value} {wys : List Value} {bx T : Nat} {W W' : World} {F : Nat → Prop} (h : ScanK e bl m R Bw Bp wv pv xv wys bx T W) (hm : Mod F W W') (hF : ∀ b, F b → T ≤ b) : ScanK e bl m R Bw Bp wv pv xv wys bx T W' := by
  have hn : ∀ b, b < T → ¬ F b := fun b hb h2 => by have := hF b h2; omega
  obtain ⟨l1, l2, l3⟩ := h.lt
  exact ⟨h.want.mod hm (hn _ l1), h.wrd.mod hm (fun k hk => hn k (h.wlt k hk)), h.wlt, h.wl, fun i hi => ⟨(h.rows i hi).1.mod hm (fun k hk => hn k ((h.rows i hi).2 k hk)), (h.rows i hi).2⟩, h.pl.mod hm (hn _ l2), h.prd.mod hm (fun k hk => hn k (h.plt k hk)), h.plt, h.res.mod hm (hn _ l3), h.x.kept hm (fun k hk => hn k (h.xlt k hk)), h.xlt, h.lt⟩
theorem ScanK.below {e : UInt32} {bl : List (List UInt8)} {m R Bw Bp : Nat} {wv pv xv : Value} {wys : List Value} {bx T : Nat} {W W' : World} (h : ScanK e bl m R Bw Bp wv pv xv wys bx T W) (hb : Below W.heap.size W W') : ScanK e bl m R Bw Bp wv pv xv wys bx T W' :=
  h.mod (F := fun _ => False) (Mod.of_below hb) (fun _ h => h.elim)
/-- What stands fixed over the turns. -/
structure TS where
  e : UInt32
  bl : List (List UInt8)
  m : Nat
  R : Nat
  Bw : Nat
  Bp : Nat
  C : Nat
  B : Nat
  bx : Nat
  E : Nat
  Bl : Nat
  T : Nat
  wv : Value
  pv : Value
  xv : Value
  wys : List Value
  Pr : Nat → Prop
  w6 : World
structure TS.Ok (s : TS) : Prop where
  size6 : s.w6.heap.size = s.C + 1
  lt : s.C + 1 ≤ s.T
  pr : ∀ b, s.Pr b → s.C + 1 ≤ b ∧ b < s.T
structure TurnI (s : TS) (Ds : List Nat) (lv : Value) (ys : List Value) (W : World) : Prop where
  ri : RI s.w6 s.C (s.C + 1) s.B lv ys W
  np : ∀ k, lv.ownBlock = some k → ¬ s.Pr k
  k : ScanK s.e s.bl s.m s.R s.Bw s.Bp s.wv s.pv s.xv s.wys s.bx s.C W
  all : AllAtP s.Pr s.e s.bl s.E s.Bl W
  ds : ∀ D ∈ Ds, W.heap[D]? = some (.deferred (some []))
  size : s.T ≤ W.heap.size
theorem ck_below {A C : World} (hb : Below A.heap.size A C) : CellsKept A C := fun k _ _ _ hk => (hb.block k (Array.getElem?_eq_some_iff.1 hk).1).trans hk
theorem TurnI.step {s : TS} (ok : s.Ok) {Ds : List Nat} {lv : Value} {ys : List Value} {A C : World} {F : Nat → Prop} (h : TurnI s Ds lv ys A) (hm : Mod F A C) (hc : CellsKept A C) (hF : ∀ b, F b → s.T ≤ b ∧ b ∉ Ds) : TurnI s Ds lv ys C :=
  ⟨⟨h.ri.mod.trans (hm.mono (fun b hb => .inr (Nat.le_trans ok.lt (hF b hb).1))), h.ri.box.ck hc, own_ck h.ri.row hc, h.ri.items.ck hc⟩, h.np, h.k.mod hm (fun b hb => by have := (hF b hb).1; have := ok.lt; omega),
    h.all.kept (hm.mono (fun b hb => .inl (fun h2 => by have := (hF b hb).1; have := (ok.pr b h2).2; omega))), fun D hD => (hm.block D (Array.getElem?_eq_some_iff.1 (h.ds D hD)).1 (fun hb => (hF D hb).2 hD)).trans (h.ds D hD), Nat.le_trans h.size hm.size⟩
theorem TurnI.below {s : TS} (ok : s.Ok) {Ds : List Nat} {lv : Value} {ys : List Value} {A C : World} (h : TurnI s Ds lv ys A) (hb : Below A.heap.size A C) : TurnI s Ds lv ys C :=
  h.step ok (F := fun _ => False) (Mod.of_below hb) (ck_below hb) (fun _ hb => hb.elim)
theorem RI.setX {w6 : World} {C L0 B X : Nat} {lv z z' : Value} {ys : List Value} {W : World} (h : RI w6 C L0 B lv ys W) (hX : Box W X #[z] 3) (hC : C < X) (hL : L0 ≤ X) : RI w6 C L0 B lv ys (W.setCell ⟨X, 0, none⟩ z') := by
  have hm := Mod.set (fun b => b = X) W ⟨X, 0, none⟩ z' rfl
  refine ⟨h.mod.trans (hm.mono (fun b hb => .inr (by rw [hb]; exact hL))), h.box.mod hm (by omega), own_mod h.row hm (fun k hk e => by subst e; exact own_ne_box h.row hX (by decide) hk), h.items.keep (fun i hi k hk hl => hm.block k hl (fun e => ?_))⟩
  obtain ⟨q, _, hq⟩ := h.items.row i hi
  exact hq.ne_box hX (by decide) k hk e
theorem keepsOthers_of {G : Nat → Prop} {W W' : World} (hm : Mod G W W') (hG : ∀ b, G b → ∃ cs t fz, W.heap[b]? = some (.cells cs t fz)) : KeepsOthers W W' :=
  ⟨hm.size, fun k o hk ho => (hm.block k (Array.getElem?_eq_some_iff.1 hk).1 (fun hb => by
    obtain ⟨cs, t, fz, h⟩ := hG k hb
    rw [hk] at h; injection h with h; rw [h] at ho; simp [Obj.isCells] at ho)).trans hk⟩
/-- One counted on. -/
theorem TurnI.tick {s : TS} (ok : s.Ok) {Ds : List Nat} {lv z z' : Value} {ys : List Value} {W : World} {X : Nat} (h : TurnI s Ds lv ys W) (hX : Box W X #[z] 3) (hT : s.T ≤ X) :
    KeepsOthers W (W.setCell ⟨X, 0, none⟩ z') ∧ Mod (fun b => b = X) W (W.setCell ⟨X, 0, none⟩ z') ∧ TurnI s Ds lv ys (W.setCell ⟨X, 0, none⟩ z') ∧ Box (W.setCell ⟨X, 0, none⟩ z') X #[z'] 3 := by
  have hm := Mod.set (fun b => b = X) W ⟨X, 0, none⟩ z' rfl
  have hk : KeepsOthers W (W.setCell ⟨X, 0, none⟩ z') := keepsOthers_of hm (fun b hb => by subst hb; exact ⟨_, _, _, hX⟩)
  have h1 := ok.lt
  refine ⟨hk, hm, ⟨h.ri.setX hX (by omega) (by omega), h.np, h.k.mod hm (fun b hb => by omega), h.all.kept (hm.mono (fun b hb => .inl (fun h2 => by have := (ok.pr b h2).2; omega))), fun D hD => hk.same _ _ (h.ds D hD) rfl, Nat.le_trans h.size hm.size⟩, hX.set 0 z'⟩
/-- One more list, and counted on. -/
theorem TurnI.push {s : TS} (ok : s.Ok) {Ds : List Nat} {lv v' x z z' : Value} {ys : List Value} {p : List UInt8} {W W1 w2 : World} {o : Obj} {X : Nat} (h : TurnI s Ds lv ys W) (hb1 : Below W.heap.size W W1) (hp : p.length ≤ 512) (hx : OwnM W s.B 5 x p.length (p.map V8)) (ha : ∀ i, i < ys.length → Apart (ys.getD i undef) x)
    (ho : w2.ownsRow (s.C + 1) 23 1 v' (ys.length + 1) (ys ++ [x])) (hg : (W1.alloc o).grownBy w2 lv.ownBlock) (hat : v'.ownBlock = lv.ownBlock ∨ v'.ownBlock = some (W1.alloc o).heap.size) (hX : Box W X #[z] 3) (hT : s.T ≤ X) :
    KeepsOthers W ((w2.setCell ⟨s.C, 0, none⟩ v').setCell ⟨X, 0, none⟩ z') ∧ Mod (fun b => ¬ s.Pr b) W ((w2.setCell ⟨s.C, 0, none⟩ v').setCell ⟨X, 0, none⟩ z') ∧ TurnI s Ds v' (ys ++ [x]) ((w2.setCell ⟨s.C, 0, none⟩ v').setCell ⟨X, 0, none⟩ z') ∧ Box ((w2.setCell ⟨s.C, 0, none⟩ v').setCell ⟨X, 0, none⟩ z') X #[z'] 3 := by
  obtain ⟨hr3, hm3⟩ := h.ri.push (by rw [ok.size6]; exact Nat.le_refl _) hb1 hp hx ha ho hg
  have h1 := ok.lt
  have hX3 := hX.mod hm3 (fun e => by
    rcases e with e | e
    · omega
    · exact own_ne_box h.ri.row hX (by decide) e)
  obtain ⟨w3, hw3⟩ : ∃ w3, w3 = w2.setCell ⟨s.C, 0, none⟩ v' := ⟨_, rfl⟩
  rw [← hw3] at hr3 hm3 hX3 ⊢
  have hm4 := Mod.set (fun b => b = X) w3 ⟨X, 0, none⟩ z' rfl
  obtain ⟨G, hG⟩ : ∃ G : Nat → Prop, G = fun b => b = s.C ∨ lv.ownBlock = some b ∨ b = X := ⟨_, rfl⟩
  have hm : Mod G W (w3.setCell ⟨X, 0, none⟩ z') := by
    rw [hG]
    exact (hm3.mono (fun b hb => by rcases hb with hb | hb; exact .inl hb; exact .inr (.inl hb))).trans (hm4.mono (fun b hb => .inr (.inr hb)))
  have hGp : ∀ b, G b → ¬ s.Pr b := by
    rw [hG]; rintro b (hb | hb | hb) h2
    · have := (ok.pr b h2).1; omega
    · exact h.np b hb h2
    · have := (ok.pr b h2).2; omega
  have hGc : ∀ b, G b → s.C ≤ b := by
    rw [hG]; rintro b (hb | hb | hb)
    · omega
    · have := (h.ri.row.lt b hb).1; omega
    · omega
  have hk : KeepsOthers W (w3.setCell ⟨X, 0, none⟩ z') := keepsOthers_of hm (by
    rw [hG]; rintro b (hb | hb | hb)
    · subst hb; exact ⟨_, _, _, h.ri.box⟩
    · exact own_cells h.ri.row hb
    · subst hb; exact ⟨_, _, _, hX⟩)
  have hs1 := hb1.size
  refine ⟨hk, hm.mono hGp, ⟨hr3.setX hX3 (by omega) (by omega), fun k hk h2 => ?_, h.k.mod hm hGc, h.all.kept (hm.mono (fun b hb => .inl (hGp b hb))), fun D hD => hk.same _ _ (h.ds D hD) rfl, Nat.le_trans h.size hm.size⟩, hX3.set 0 z'⟩
  rcases hat with e | e
  · exact h.np k (e ▸ hk) h2
  · rw [e] at hk
    injection hk with hk
    rw [World.size_alloc] at hk
    have := (ok.pr k h2).2
    have := h.size
    omega
theorem results_cell1 {fn : Func} {p : Tmp} {ty : TypeId} (h : fn.results = #[.cell p ty]) {tmps : Array Value} {P : Program} {w : World} {b : Nat} (hp : tmps.getD p undef = .pointer (some ⟨b, 0, none⟩)) {v : Value} (hc : w.cell? ⟨b, 0, none⟩ = some v)
    (hl : ∀ w : World, w.cell? ⟨b, 0, none⟩ = some v → (loadVar ty ⟨b, 0, none⟩).run P w = .ok v w) : (results fn tmps).run P w = .ok v w := by
  simp only [results, h]
  have hp2 : tmps[p]?.getD undef = .pointer (some ⟨b, 0, none⟩) := by simpa using hp
  simp [hp2, asAddr, hl w hc]
theorem load_bool {w : World} {a : Addr} {v : Value} (hc : w.cell? a = some v) : (loadVar 4 a).run Tryd.prog w = .ok v w := by
  simp [loadVar, isAgg, underlying, Tryd.underlying4, hc, Result.andThen]
theorem range_getD (ys : List Value) : (List.range ys.length).map (fun j => ys.getD j undef) = ys := by
  refine List.ext_getElem (by simp) (fun i h1 h2 => ?_)
  simp [List.getD, h2]
/-- What ApartBytes asks. -/
theorem Items.turn {B L0 : Nat} {ys : List Value} {W : World} {lv : Value} (h : Items B ys W) (hr : W.ownsRow L0 23 1 lv ys.length ys) :
    ∃ R : Rows0M, R.N = ys.length ∧ R.B = B ∧ R.e = 5 ∧ (∀ j, j < R.N → R.ns j ≤ 512) ∧ Turn1M R mkB lv W 0 0 W := by
  obtain ⟨ps, hps⟩ : ∃ ps : Nat → List UInt8, ∀ i, i < ys.length → (ps i).length ≤ 512 ∧ OwnM W B 5 (ys.getD i undef) (ps i).length ((ps i).map V8) :=
    ⟨fun i => if hi : i < ys.length then Classical.choose (h.row i hi) else [], fun i hi => by simp only [dif_pos hi]; exact Classical.choose_spec (h.row i hi)⟩
  refine ⟨⟨ys.length, fun j => ys.getD j undef, fun j => (ps j).length, B, 5⟩, rfl, rfl, rfl, fun j hj => (hps j hj).1, ⟨⟨fun j => (ps j).map V8, fun j hj => (hps j hj).2, fun j hj _ => by omega, fun _ => rfl⟩, fun j j' hj hj' hne => ?_, ?_, fun j hj => apart_types hr (hps j hj).2 (by decide), ⟨Mod.refl _ _, KeepsOthers.refl _⟩⟩⟩
  · rcases Nat.lt_or_gt_of_ne hne with hlt | hlt
    · exact h.apart j j' hlt hj'
    · exact (h.apart j' j hlt hj).symm
  · show Rd W lv ys.length ((List.range ys.length).map (fun j => ys.getD j undef))
    rw [range_getD]; exact rd_of_own hr
set_option maxHeartbeats 3200000 in
theorem recordScans_calls (e : UInt32) (lv : Value) (bl : List (List UInt8)) (most : Int) (W : World) (hl : Rd W lv bl.length (bl.map SV)) (hn : bl.length ≤ 1048576) (hbig : ∀ b ∈ bl, b.length ≤ 1048576) (hm1 : -9223372036854775808 ≤ most) (hm2 : most ≤ 9223372036854775807) :
    Calls Tryd.prog 27 #[.int .u32 (e.toNat : Int), lv, .int .i64 most] W fun r w' => r = .returned (.bool true) ∧ Below W.heap.size W w' := by
  refine (callsIn_wide (n := 9)).1 ?_
  refine callsIn_of_wp_marks Tryd.func27 rfl trivial ?_ rfl
  simp only [Tryd.ntmps27, List.size_toArray, List.length_cons, List.length_nil, Nat.reduceAdd, Nat.reduceSub, Array.replicate_succ, Array.replicate_zero, List.push_toArray, List.append_toArray, List.nil_append, List.cons_append]
  refine wpIn_mono ?_ (fun e a w h => noPanic_of h)
  refine wpIn_wide.2 ?_
  obtain ⟨la, lc, rfl⟩ : ∃ a c, lv = .slice a bl.length c := by obtain ⟨a, c, h, _⟩ := hl; exact ⟨a, c, h⟩
  have hb0 := below_alloc W (.cells #[.bool false] 4)
  have HL := Lib.hid (hl.below hb0)
  have HL0 := Lib.hid hl
  have HB0 := Lib.hid hb0
  have HR0 := Lib.hid (Box.new W #[.bool false] 4)
  have Hbig := Lib.hid hbig
  clear hl hb0 hbig
  go_wp2_with fail
  refine (lentT_calls _ bl _ HL.out (by omega)).mono ?_
  rintro r w1 ⟨xv, rfl, hx, hb1⟩
  obtain ⟨xa, xc, rfl⟩ : ∃ a c, xv = .slice a bl.length c := by obtain ⟨a, c, h, _⟩ := hx.rd; exact ⟨a, c, h⟩
  have HX := Lib.hid hx
  have HBW1 := Lib.hid (below_trans HB0.out hb1)
  have HR1 := Lib.hid (HR0.out.below hb1)
  clear hx hb1 HL HB0 HR0
  go_wp2_with fail
  refine (scan_calls e _ bl _ HX.out.rd (by omega) (fun b hb => by have := Hbig.out b hb; omega)).mono ?_
  rintro r w2 ⟨gv, pre, hno, rfl, hfo, hov, hb2⟩
  obtain ⟨ga, gc, rfl, _⟩ := own_slice hov
  obtain ⟨N, hN⟩ : ∃ N, N = pre.length := ⟨_, rfl⟩
  rw [← hN] at hov hno ⊢
  obtain ⟨q, hq⟩ : ∃ q, q = posM e bl N := ⟨_, rfl⟩
  rw [← hq]
  have HFo := Lib.hid hfo
  have HOv := Lib.hid hov
  have HB2 := Lib.hid hb2
  have Hno := Lib.hid hno
  have HNl := Lib.hid hN
  have Hq := Lib.hid hq
  clear hno hfo hov hb2 hN hq
  go_wp2_with fail
  refine (refScan_calls e _ bl _ (HL0.out.below (HBW1.out.trans (HB2.out.mono HBW1.out.size))) hn Hbig.out).mono ?_
  rintro r w3 ⟨m, wv, pv, wys, hm, rfl, hS⟩
  obtain rfl : m = N := scans_count hm Hno.out (fun i hi h => by
    obtain ⟨p, c, h1, _⟩ := hS.found i hi
    rw [h1] at h; cases h) (fun i hi h => by
    obtain ⟨_, p, k, h1, _⟩ := HFo.out.row i pre[i] (List.getElem?_eq_getElem (by rw [← HNl.out]; exact hi))
    rw [h1] at h; cases h)
  rw [← Hq.out]
  obtain ⟨wa, wc, rfl, _⟩ := own_slice hS.out
  obtain ⟨pa, pc, rfl, _⟩ := own_slice hS.pl
  have hm5 : m ≤ 1048576 := by
    have h1 := posM_ge (e := e) (bl := bl) m (fun i hi h => by
      obtain ⟨p, c, h1, _⟩ := hS.found i hi
      rw [h1] at h; cases h)
    have h2 := posM_le e bl m
    omega
  have HS := Lib.hid hS
  have hs3 := (HBW1.out.trans (HB2.out.mono HBW1.out.size)).trans (hS.below.mono (Nat.le_trans HBW1.out.size HB2.out.size))
  have HBW3 := Lib.hid hs3
  have HR3 := Lib.hid ((HR1.out.below HB2.out).below hS.below)
  have HX3 := Lib.hid ((HX.out.below HB2.out).below hS.below)
  have HOv3 := Lib.hid (own_below HOv.out hS.below)
  have HB13 := Lib.hid (below_trans HB2.out hS.below)
  have Hsome := Lib.hid (show ∀ i, i < m → payM e bl i ≠ none from fun i hi h => by
    obtain ⟨p, c, h1, _⟩ := hS.found i hi
    rw [h1] at h; cases h)
  clear hm hS hs3
  have hb5 := below_trans (below_alloc w3 (.cells #[.slice wa m wc] 50)) (below_alloc (w3.alloc (.cells #[.slice wa m wc] 50)) (.cells #[.slice pa m pc] 59))
  have hlt3 : ∀ {v : Value}, (∀ k, v.ownBlock = some k → k < w3.heap.size) → ∀ k, v.ownBlock = some k → k < w3.heap.size + 1 + 1 := fun h k hk => by have := h k hk; omega
  have hK : ScanK e bl m W.heap.size w3.heap.size (w3.heap.size + 1) (.slice wa m wc) (.slice pa m pc) (.slice xa bl.length xc) wys (W.alloc (.cells #[.bool false] 4)).heap.size (w3.heap.size + 1 + 1) ((w3.alloc (.cells #[.slice wa m wc] 50)).alloc (.cells #[.slice pa m pc] 59)) := by
    have hx0 := HX3.out
    refine ⟨(Box.new w3 _ _).below (below_alloc _ _), (rd_of_own HS.out.out).below hb5, hlt3 (fun k hk => (HS.out.out.lt k hk).2), HS.out.len, fun i hi => ?_, ?_, (rd_of_own HS.out.pl).below hb5, hlt3 (fun k hk => (HS.out.pl.lt k hk).2), HR3.out.below hb5, hx0.below hb5, ?_, by omega, by omega, ?_⟩
    · obtain ⟨p, c, h1, h2⟩ := HS.out.found i hi
      rw [payB_eq h1]
      exact ⟨h2.rd.below hb5, hlt3 (fun k hk => (h2.lt k hk).2)⟩
    · have := Box.new (w3.alloc (.cells #[.slice wa m wc] 50)) #[.slice pa m pc] 59
      rw [World.size_alloc] at this; exact this
    · obtain ⟨g, cap, e1, h2⟩ := hx0
      intro k hk
      rw [e1] at hk
      have := (h2.lt k (by simpa [Value.ownBlock] using hk)).2
      omega
    · have := HR3.out.lt; omega
  obtain ⟨w5, hw5⟩ : ∃ w5, w5 = (w3.alloc (.cells #[.slice wa m wc] 50)).alloc (.cells #[.slice pa m pc] 59) := ⟨_, rfl⟩
  have hs5 : w5.heap.size = w3.heap.size + 1 + 1 := by rw [hw5]; simp
  rw [← hw5] at hK hb5
  rw [← hs5] at hK
  have hrow : ∀ i, i < m → OwnM w5 w1.heap.size 5 ((pre.map (·.2)).getD i undef) (payB e bl i).length ((payB e bl i).map V8) := fun i hi => by
    have hi' : i < pre.length := by rw [← HNl.out]; exact hi
    obtain ⟨_, p, k, h1, h2⟩ := HFo.out.row i pre[i] (List.getElem?_eq_getElem hi')
    have e1 : (pre.map (·.2)).getD i undef = pre[i].2 := by simp [List.getD, hi']
    rw [e1, payB_eq h1]
    exact (h2.below HS.out.below).below hb5
  have H512 := Lib.hid (show ∀ i, i < m → (payB e bl i).length ≤ 512 from fun i hi => by
    have hi' : i < pre.length := by rw [← HNl.out]; exact hi
    obtain ⟨_, p, k, h1, h2⟩ := HFo.out.row i pre[i] (List.getElem?_eq_getElem hi')
    rw [payB_eq h1]; exact pay_512 h1)
  have hap : ∀ i j, i < j → j < m → Apart ((pre.map (·.2)).getD i undef) ((pre.map (·.2)).getD j undef) := fun i j hij hj => by
    have hj' : j < pre.length := by rw [← HNl.out]; exact hj
    have e1 : (pre.map (·.2)).getD i undef = pre[i].2 := by simp [List.getD, show i < pre.length by omega]
    have e2 : (pre.map (·.2)).getD j undef = pre[j].2 := by simp [List.getD, hj']
    rw [e1, e2]
    exact HFo.out.apart i j _ _ hij (List.getElem?_eq_getElem (by omega)) (List.getElem?_eq_getElem hj')
  have hpl : (pre.map (·.2)).length = m := by rw [List.length_map, HNl.out]
  obtain ⟨gys, hgys⟩ : ∃ gys, gys = pre.map (·.2) := ⟨_, rfl⟩
  have hgov := own_below HOv3.out hb5
  rw [← hgys] at hrow hap hpl hgov
  have hps : ∀ i, i < m → ((List.range m).map (payB e bl)).getD i [] = payB e bl i := fun i hi => by simp [List.getD, hi]
  have hsm := same12_calls (.slice ga m gc) (.slice wa m wc) gys wys ((List.range m).map (payB e bl)) w5 (by simpa using rd_of_own hgov) (by simpa using hK.wrd) (by simpa using hpl) (by simpa using hK.wl)
    (fun i hi => by
      have hi : i < m := by simpa using hi
      rw [hps i hi]; exact (hrow i hi).rd) (fun i hi => by
      have hi : i < m := by simpa using hi
      rw [hps i hi]; exact (hK.rows i hi).1)
  have hc10 := hK.want.cell 0 _ rfl
  have HK5 := Lib.hid hK
  have Hrow5 := Lib.hid hrow
  have Hap5 := Lib.hid hap
  have Hpl := Lib.hid hpl
  have Hgv5 := Lib.hid (rd_of_own hgov)
  have Hsm := Lib.hid hsm
  have Hgl5 := Lib.hid (fun k hk => (hgov.lt k hk))
  have HBW5 := Lib.hid (HBW3.out.trans (hb5.mono HBW3.out.size))
  have HB15 := Lib.hid (below_trans HB13.out hb5)
  have Hs5 := Lib.hid hs5
  clear hb5 hK hrow hap hpl hgov hps hsm hlt3 hgys hs5 HOv3 HFo HX3 HR3 HS
  go_wp2_with fail
  rw [← hw5]
  clear hw5
  refine Hsm.out.mono ?_
  rintro r w6 ⟨rfl, k6, rfl⟩
  have hbd := below_drewN w5 k6
  obtain ⟨v6, hv6⟩ : ∃ v6, v6 = w5.drewN k6 := ⟨_, rfl⟩
  have hsv : v6.heap.size = w5.heap.size := by rw [hv6]; rfl
  rw [← hv6] at hbd ⊢
  clear hv6
  have HB6 := Lib.hid (below_trans hbd (below_alloc v6 (.cells #[.slice none 0 0] 50)))
  have hRI : RI (v6.alloc (.cells #[.slice none 0 0] 50)) v6.heap.size (v6.heap.size + 1) w1.heap.size (.slice none 0 0) [] (v6.alloc (.cells #[.slice none 0 0] 50)) :=
    ⟨Mod.refl _ _, Box.new _ _ _, World.ownsRow_nil _ _ _ _, Items.nil _ _⟩
  have HRI := Lib.hid hRI
  have Hsv := Lib.hid hsv
  clear hbd hRI hc10 hsv
  go_wp2_with fail
  obtain ⟨C, hC⟩ : ∃ C, C = v6.heap.size := ⟨_, rfl⟩
  obtain ⟨w6, hw6⟩ : ∃ w6, w6 = v6.alloc (.cells #[.slice none 0 0] 50) := ⟨_, rfl⟩
  have hs6 : w6.heap.size = C + 1 := by rw [hw6, hC]; exact World.size_alloc _ _
  rw [← hC] at HRI ⊢
  rw [← hw6] at HRI HB6 ⊢
  have HsC := Lib.hid (hC.trans Hsv.out)
  have Hs6 := Lib.hid hs6
  clear hw6 hC hs6 Hsv
  have hHK6 := HK5.out.below HB6.out
  rw [← HsC.out] at hHK6
  have HK6 := Lib.hid hHK6
  clear hHK6
  go_loopw [14] (fun iv wr => ∃ (k : Nat) (lv : Value), k ≤ m ∧ iv = .int .i64 k ∧ RI w6 C (C + 1) w1.heap.size lv (gys.take k) wr) (fun iv _ => m - (intOf iv).toNat)
  case atStart => exact ⟨0, _, by omega, rfl, HRI.out⟩
  case round =>
    clear HRI
    obtain ⟨k, lv, hk, rfl, hI⟩ := hrel
    have htl : (gys.take k).length = k := by rw [List.length_take, Hpl.out]; omega
    have hrowk := hI.row
    rw [htl] at hrowk
    obtain ⟨oa, oc, rfl, _⟩ := own_slice hrowk
    by_cases hlt : k < m
    · have hcl := hI.box.cell 0 _ rfl
      have hcf := hI.box.free 0
      have hb5r : Below w5.heap.size w5 wr := HB6.out.trans (hI.mod.below (by rw [Hs6.out]; have := HsC.out; omega) (fun b hb => by have := HsC.out; omega))
      obtain ⟨p, hp⟩ : ∃ p, p = payB e bl k := ⟨_, rfl⟩
      have hrw := Hrow5.out k hlt
      have hp5 := H512.out k hlt
      rw [← hp] at hp5
      rw [← hp] at hrw
      obtain ⟨xv, hxv⟩ : ∃ xv, xv = gys.getD k undef := ⟨_, rfl⟩
      rw [← hxv] at hrw
      obtain ⟨ia, ic, hie, _⟩ := hrw.slice
      rw [hie] at hrw
      have hca : ∃ b off, ga = some ⟨b, off, none⟩ ∧ wr.cell? ⟨b, off + k, none⟩ = some (.slice ia p.length ic) := by
        obtain ⟨b, off, cap, e1, e2⟩ := (Hgv5.out.below hb5r).at k (by rw [Hpl.out]; exact hlt)
        injection e1 with e1
        exact ⟨b, off, e1, by rw [e2, ← hxv, hie]⟩
      obtain ⟨gb, goff, rfl, hca⟩ := hca
      have hk0 : (0 : Int) ≤ (k : Int) := by omega
      have hk1 : (k : Int) < (m : Int) := by omega
      obtain ⟨i0, hi, hz0, hz1, hz2⟩ := info_parts info_rowsB
      have HOwnA := Lib.hid (fun ob => own_below hrowk (below_trans (below_alloc wr ob) (below_drew _)))
      have HsA := Lib.hid (show C + 1 ≤ (wr.alloc (.cells #[.slice ia p.length ic] 23)).drew.heap.size by show C + 1 ≤ (wr.alloc (.cells #[.slice ia p.length ic] 23)).heap.size; have := hI.mod.size; rw [Hs6.out] at this; rw [World.size_alloc]; omega)
      have Hbx := Lib.hid (fun (ob : Obj) (w2 : World) (hg : (wr.alloc ob).drew.grownBy w2 (Value.slice oa k oc).ownBlock) => (hI.box.below (below_trans (below_alloc wr ob) (below_drew _))).grown hg (own_ne_box hrowk hI.box (by decide)))
      have Hpu := Lib.hid (fun (w2 : World) (v' : Value) (ho : w2.ownsRow (C + 1) 23 1 v' (k + 1) (gys.take k ++ [.slice ia p.length ic])) (hg : (wr.alloc (.cells #[.slice ia p.length ic] 23)).drew.grownBy w2 (Value.slice oa k oc).ownBlock) =>
        (hI.push (x := .slice ia p.length ic) (p := p) (by rw [Hs6.out]; exact Nat.le_refl _) (Below.refl _ _) hp5 (hrw.below hb5r) (fun i hi => by
          rw [htl] at hi
          have e1 : (gys.take k).getD i undef = gys.getD i undef := by simp [List.getD, hi]
          rw [e1, ← hie, hxv]; exact Hap5.out i k hi hlt) (by rw [htl]; exact ho) (grown_trans (grown_drew _ _) hg)).1)
      have hm63 : k + 1 ≤ 1048577 := by omega
      have Htk := Lib.hid (show gys.take (k + 1) = gys.take k ++ [.slice ia p.length ic] by
        have hl : k < gys.length := by rw [Hpl.out]; exact hlt
        rw [List.take_succ_eq_append_getElem hl]
        have e1 : gys[k] = gys.getD k undef := by simp [List.getD, hl]
        rw [e1, ← hxv, hie])
      have hcl2 := below_heap (below_alloc wr (.cells #[.slice ia p.length ic] 23)) hcl
      clear hI hrowk hrw hxv hie hp htl
      go_wp2_with fail
      go_region_law ((refine step_append_lies _ (by rfl) _ _ _ (by rfl) (C + 1) 23 i0 _ 1 24 Tryd.underlying50 hi hz0 hz1 hz2 rfl (by omega) _ k _ (by rfl) (HOwnA.out _) ⟨wr.heap.size, 0, none⟩ 1 1 [.slice ia p.length ic] (by rfl) (by rfl) (World.news_of_block (cs := #[.slice ia p.length ic]) (t := 23) (fr := (0, 0)) (heap_alloc_new wr _)) (oneC_slice _ _ _) (by omega) (by unfold maxLen; omega) (by omega) HsA.out _ rfl ?_); intro g cap w5 hown5 hg5 hat5 hlt5; have hx5 := Hbx.out _ _ hg5; have hc5 := hx5.cell 0 _ rfl; have hf5 := hx5.free 0; have HP5 := Lib.hid (Hpu.out _ _ hown5 hg5); clear hx5 hown5 hg5 hat5 hlt5)
      all_goals
        have HP6 := Lib.hid (show RI w6 C (C + 1) w1.heap.size _ (gys.take (k + 1)) _ by rw [Htk.out]; exact HP5.out)
        clear HP5 hc5 hf5 hcl hcl2 hcf hca HOwnA Hbx Hpu
        go_wp2_with fail
        go_roundw
        case rel => exact ⟨k + 1, _, by omega, by go_num, HP6.out⟩
        case measure => simp [intOf]; omega
    · obtain rfl : k = m := by omega
      rw [List.take_of_length_le (by rw [Hpl.out]; exact Nat.le_refl _)] at hI
      have hKr := HK6.out.mod hI.mod (fun b hb => by omega)
      have hBWr : Below W.heap.size W wr := (HBW5.out.trans (HB6.out.mono HBW5.out.size)).trans (hI.mod.below (by have := (HBW5.out.trans (HB6.out.mono HBW5.out.size)).size; exact this) (fun b hb => by have := HBW5.out.size; have := HsC.out; omega))
      have hwr : C + 1 ≤ wr.heap.size := by have := hI.mod.size; rw [Hs6.out] at this; exact this
      have HI := Lib.hid hI
      have HKr := Lib.hid hKr
      have HBWr := Lib.hid hBWr
      have Hwr := Lib.hid hwr
      clear hI hrowk hKr hBWr hwr
      go_wp2_with fail
      refine (all_calls e _ bl _ HKr.out.x.rd (by omega)).mono ?_
      rintro r w8 ⟨E, B, rfl, hA, hb8⟩
      obtain ⟨Pr, hPr, hAP⟩ := hA.narrow
      have HPr := Lib.hid hPr
      have HAP := Lib.hid hAP
      have HI8 := Lib.hid (HI.out.below hb8)
      have HLo := Lib.hid (fun k hk => (HI.out.row.lt k hk).2)
      have HK8 := Lib.hid (HKr.out.below hb8)
      have HBW8 := Lib.hid (HBWr.out.trans (hb8.mono HBWr.out.size))
      have Hs8 := Lib.hid (show C + 1 ≤ wr.heap.size ∧ wr.heap.size ≤ w8.heap.size from ⟨Hwr.out, hb8.size⟩)
      have hef := eql_func (.func 63) #[.pointer (some ⟨E, 0, none⟩), .pointer (some ⟨B, 0, none⟩)]
      clear hA hPr hAP hb8 HI HKr HBWr Hwr
      go_wp2_with fail
      have ok : TS.Ok (TS.mk e bl k W.heap.size w3.heap.size (w3.heap.size + 1) C w1.heap.size (W.alloc (.cells #[.bool false] 4)).heap.size E B w8.heap.size (.slice wa k wc) (.slice pa k pc) (.slice xa bl.length xc) wys Pr w6) := ⟨Hs6.out, Nat.le_trans Hs8.out.1 Hs8.out.2, fun b hb => ⟨Nat.le_trans Hs8.out.1 (HPr.out b hb).1, (HPr.out b hb).2⟩⟩
      have hT0 : TurnI (TS.mk e bl k W.heap.size w3.heap.size (w3.heap.size + 1) C w1.heap.size (W.alloc (.cells #[.bool false] 4)).heap.size E B w8.heap.size (.slice wa k wc) (.slice pa k pc) (.slice xa bl.length xc) wys Pr w6) [] (.slice oa k oc) gys w8 := ⟨HI8.out, fun k hk h2 => by
        have := (HPr.out k h2).1; have := HLo.out k hk; omega, HsC.out ▸ HK8.out, HAP.out, fun D hD => by simp at hD, Nat.le_refl _⟩
      have HT0 := Lib.hid hT0
      clear hT0 HI8 HK8 HAP
      refine (wpIn_wide (n := 9)).1 ?_
      refine wpIn_loop_rounds 3 ?_
      rw [roundsIn_succ]
      gi_wp2_with fail
      have Hbig9 := Lib.hid (fun b hb => (Nat.le_trans (Hbig.out b hb) (by omega) : b.length ≤ 9223372036854775807))
      have Hsz := Lib.hid (show w8.heap.size ≤ w8.heap.size from Nat.le_refl _)
      have hb9 := below_alloc w8 (.cells #[.int .i64 0] 3)
      have hX9 := Box.new w8 #[.int .i64 0] 3
      have hT9 := HT0.out.below ok hb9
      obtain ⟨w9, hw9⟩ : ∃ w9, w9 = w8.alloc (.cells #[.int .i64 0] 3) := ⟨_, rfl⟩
      have hs9 : w9.heap.size = w8.heap.size + 1 := by rw [hw9]; exact World.size_alloc _ _
      rw [← hw9] at hb9 hX9 hT9 ⊢
      clear hw9 hb9
      refine' wpIn_rangeFunc_R rfl (by omega) (gf := 63) (lb := #[.pointer (some ⟨E, 0, none⟩), .pointer (some ⟨B, 0, none⟩)]) rfl trivial (enters_of Tryd.func63 (by kernel_rfl) rfl)
        (allItP e bl Hbig9.out E B Pr w9 hT9.all (9 - 1) (by omega)) (fun b hb => .inr hb) (fun _ => rfl)
        (fun pre U => pre.length ≤ k ∧ (∃ lv, TurnI (TS.mk e bl k W.heap.size w3.heap.size (w3.heap.size + 1) C w1.heap.size (W.alloc (.cells #[.bool false] 4)).heap.size E B w8.heap.size (.slice wa k wc) (.slice pa k pc) (.slice xa bl.length xc) wys Pr w6) [] lv (gys ++ pre.map (·.2)) U) ∧ Box U w8.heap.size #[.int .i64 (pre.length : Int)] 3) (fun _ _ _ => False) (fun pre => ?soft2) (fun _ _ => soft_of (fun _ _ h _ _ => h)) (fun s x => NextR.soft _ s x)
        ⟨Nat.zero_le _, ⟨_, by simpa using hT9⟩, hX9⟩ _
        ?assign2 ?body2 ?done2 ?stop2
      case assign2 =>
        intro l x U K hK
        gi_wp2
        exact hK
      case soft2 =>
        exact soft_of (fun A A' ⟨h1, ⟨lv, h2⟩, h3⟩ hc hm => ⟨h1, ⟨lv, h2.step ok hm hc (fun b hb => ⟨by show w8.heap.size ≤ b; have := Hsz.out; omega, by simp⟩)⟩, h3.ck hc⟩)
      case stop2 =>
        rintro D c pre U _ h _ _
        exact h.elim
      case done2 =>
        rintro D2 pre U hS ⟨hpk, ⟨lv, hTU⟩, hXU⟩ hD hK
        have hpe : pre.length = k := by
          rcases Nat.lt_or_ge pre.length k with h | h
          · exact absurd hS (Hsome.out _ h)
          · omega
        rw [hpe] at hXU
        obtain ⟨y2, hy2⟩ : ∃ yy, yy = gys ++ pre.map (·.2) := ⟨_, rfl⟩
        have hy2l : y2.length = k + k := by rw [hy2, List.length_append, Hpl.out, List.length_map, hpe]
        rw [← hy2] at hTU
        have hT2 : TurnI (TS.mk e bl k W.heap.size w3.heap.size (w3.heap.size + 1) C w1.heap.size (W.alloc (.cells #[.bool false] 4)).heap.size E B w8.heap.size (.slice wa k wc) (.slice pa k pc) (.slice xa bl.length xc) wys Pr w6) (D2 :: []) lv y2 U := ⟨hTU.ri, hTU.np, hTU.k, hTU.all, fun D' h => by
            rcases List.mem_cons.1 h with rfl | h
            · exact hK
            · exact hTU.ds _ h, hTU.size⟩
        have hDs : D2 < U.heap.size := (Array.getElem?_eq_some_iff.1 hK).1
        have c1 := hXU.cell 0 _ rfl
        have c2 := hTU.k.want.cell 0 _ rfl
        have HT2 := Lib.hid hT2
        have Hy2 := Lib.hid hy2l
        have HDs2 := Lib.hid hDs
        have HDb2 := Lib.hid (show w8.heap.size ≤ D2 by omega)
        have HBU := Lib.hid hTU.ri.mod
        clear hS hTU hXU hD hK hy2 hT2 hDs hT9 hX9 hy2l hpk hpe
        gi_wp2_with fail
        rw [roundsIn_succ]
        gi_wp2_with fail
        have Hsz := Lib.hid (show w8.heap.size ≤ U.heap.size from HT2.out.size)
        have hb9 := below_alloc U (.cells #[.int .i64 0] 3)
        have hX9 := Box.new U #[.int .i64 0] 3
        have hT9 := HT2.out.below ok hb9
        obtain ⟨U9, hw9⟩ : ∃ U9, U9 = U.alloc (.cells #[.int .i64 0] 3) := ⟨_, rfl⟩
        have hs9 : U9.heap.size = U.heap.size + 1 := by rw [hw9]; exact World.size_alloc _ _
        rw [← hw9] at hb9 hX9 hT9 ⊢
        clear hw9 hb9
        refine' wpIn_rangeFunc_R rfl (by omega) (gf := 63) (lb := #[.pointer (some ⟨E, 0, none⟩), .pointer (some ⟨B, 0, none⟩)]) rfl trivial (enters_of Tryd.func63 (by kernel_rfl) rfl)
          (allItP e bl Hbig9.out E B Pr U9 hT9.all (9 - 1) (by omega)) (fun b hb => .inr hb) (fun _ => rfl)
          (fun pre V => pre.length ≤ k ∧ (∃ lv, TurnI (TS.mk e bl k W.heap.size w3.heap.size (w3.heap.size + 1) C w1.heap.size (W.alloc (.cells #[.bool false] 4)).heap.size E B w8.heap.size (.slice wa k wc) (.slice pa k pc) (.slice xa bl.length xc) wys Pr w6) [D2] lv (y2 ++ pre.map (·.2)) V) ∧ Box V U.heap.size #[.int .i64 (pre.length : Int)] 3) (fun _ _ _ => False) (fun pre => ?soft3) (fun _ _ => soft_of (fun _ _ h _ _ => h)) (fun s x => NextR.soft _ s x)
          ⟨Nat.zero_le _, ⟨_, by simpa using hT9⟩, hX9⟩ _
          ?assign3 ?body3 ?done3 ?stop3
        case assign3 =>
          intro l x V K hK
          gi_wp2
          exact hK
        case soft3 =>
          exact soft_of (fun A A' ⟨h1, ⟨lv, h2⟩, h3⟩ hc hm => ⟨h1, ⟨lv, h2.step ok hm hc (fun b hb => ⟨by show w8.heap.size ≤ b; have := Hsz.out; omega, fun h => by simp at h; have := HDs2.out; omega⟩)⟩, h3.ck hc⟩)
        case stop3 =>
          rintro D c pre V _ h _ _
          exact h.elim
        case done3 =>
          rintro D3 pre V hS ⟨hpk, ⟨lv, hTU⟩, hXU⟩ hD hK
          have hpe : pre.length = k := by
            rcases Nat.lt_or_ge pre.length k with h | h
            · exact absurd hS (Hsome.out _ h)
            · omega
          rw [hpe] at hXU
          obtain ⟨y3, hy2⟩ : ∃ yy, yy = y2 ++ pre.map (·.2) := ⟨_, rfl⟩
          have hy2l : y3.length = k + k + k := by rw [hy2, List.length_append, Hy2.out, List.length_map, hpe]
          rw [← hy2] at hTU
          have hT2 : TurnI (TS.mk e bl k W.heap.size w3.heap.size (w3.heap.size + 1) C w1.heap.size (W.alloc (.cells #[.bool false] 4)).heap.size E B w8.heap.size (.slice wa k wc) (.slice pa k pc) (.slice xa bl.length xc) wys Pr w6) (D3 :: [D2]) lv y3 V := ⟨hTU.ri, hTU.np, hTU.k, hTU.all, fun D' h => by
              rcases List.mem_cons.1 h with rfl | h
              · exact hK
              · exact hTU.ds _ h, hTU.size⟩
          have hDs : D3 < V.heap.size := (Array.getElem?_eq_some_iff.1 hK).1
          have c1 := hXU.cell 0 _ rfl
          have c2 := hTU.k.want.cell 0 _ rfl
          have HT3 := Lib.hid hT2
          have Hy3 := Lib.hid hy2l
          have HDs3 := Lib.hid hDs
          have HDb3 := Lib.hid (show U.heap.size ≤ D3 by omega)
          have HBU := Lib.hid hTU.ri.mod
          clear hS hTU hXU hD hK hy2 hT2 hDs hT9 hX9 hy2l hpk hpe
          gi_wp2_with fail
          rw [roundsIn_succ]
          gi_wp2_with fail
          go_wp2_with fail
          have hpk4 := pickI_lt most 4 (by omega)
          refine (pick_calls most 4 _ hm1 hm2 (by omega) (by omega)).mono ?_
          rintro r V2 ⟨rfl, rfl⟩
          obtain ⟨lf, hlf⟩ : ∃ t : Nat, pickI most 4 = (t : Int) := ⟨(pickI most 4).toNat, by omega⟩
          rw [hlf] at hpk4 ⊢
          go_wp2_with fail
          have hb20 := below_alloc V (.cells #[.int .i64 (lf : Int)] 3)
          have hb21 := below_alloc (V.alloc (.cells #[.int .i64 (lf : Int)] 3)) (.cells #[.int .i64 0] 3)
          have hX20 := (Box.new V #[.int .i64 (lf : Int)] 3).below hb21
          have hX21 := Box.new (V.alloc (.cells #[.int .i64 (lf : Int)] 3)) #[.int .i64 0] 3
          have hT10 := (HT3.out.below ok hb20).below ok hb21
          rw [World.size_alloc] at hX21
          obtain ⟨w10, hw10⟩ : ∃ w10, w10 = (V.alloc (.cells #[.int .i64 (lf : Int)] 3)).alloc (.cells #[.int .i64 0] 3) := ⟨_, rfl⟩
          have hs10 : w10.heap.size = V.heap.size + 1 + 1 := by rw [hw10]; simp
          rw [← hw10] at hX20 hX21 hT10 ⊢
          have HV := Lib.hid (show w8.heap.size ≤ V.heap.size from HT3.out.size)
          have HD2V := Lib.hid (show D2 < V.heap.size from (Array.getElem?_eq_some_iff.1 (HT3.out.ds D2 (by simp))).1)
          clear hw10 hb20 hb21
          refine (wpIn_wide (n := 9)).1 ?_
          refine' wpIn_rangeFunc_R rfl (by omega) (gf := 63) (lb := #[.pointer (some ⟨E, 0, none⟩), .pointer (some ⟨B, 0, none⟩)]) rfl trivial (enters_of Tryd.func63 (by kernel_rfl) rfl)
            (allItP e bl Hbig9.out E B Pr w10 hT10.all (9 - 1) (by omega)) (fun b hb => .inr hb) (fun _ => rfl)
            (fun pre Z => pre.length ≤ k ∧ pre.length ≤ lf ∧ TurnI (TS.mk e bl k W.heap.size w3.heap.size (w3.heap.size + 1) C w1.heap.size (W.alloc (.cells #[.bool false] 4)).heap.size E B w8.heap.size (.slice wa k wc) (.slice pa k pc) (.slice xa bl.length xc) wys Pr w6) [D3, D2] lv y3 Z ∧ Box Z V.heap.size #[.int .i64 (lf : Int)] 3 ∧ Box Z (V.heap.size + 1) #[.int .i64 (pre.length : Int)] 3)
            (fun c _ Z => c = .exit 6 ∧ lf ≤ k ∧ TurnI (TS.mk e bl k W.heap.size w3.heap.size (w3.heap.size + 1) C w1.heap.size (W.alloc (.cells #[.bool false] 4)).heap.size E B w8.heap.size (.slice wa k wc) (.slice pa k pc) (.slice xa bl.length xc) wys Pr w6) [D3, D2] lv y3 Z ∧ Box Z V.heap.size #[.int .i64 (lf : Int)] 3 ∧ Box Z (V.heap.size + 1) #[.int .i64 (lf : Int)] 3) (fun pre => ?soft4) (fun c s => ?softx) (fun s x => NextR.soft _ s x)
            ⟨Nat.zero_le _, Nat.zero_le _, hT10, hX20, hX21⟩ _
            ?assign4 ?body4 ?done4 ?stop4
          case assign4 =>
            intro l x Z K hK
            gi_wp2
            exact hK
          case soft4 =>
            exact soft_of (fun A A' ⟨h1, h0, h2, h3, h4⟩ hc hm => ⟨h1, h0, h2.step ok hm hc (fun b hb => ⟨by show w8.heap.size ≤ b; have := HV.out; omega, fun h => by simp at h; have := HD2V.out; have := HDs3.out; omega⟩), h3.ck hc, h4.ck hc⟩)
          case softx =>
            exact soft_of (fun A A' ⟨h1, h0, h2, h3, h4⟩ hc hm => ⟨h1, h0, h2.step ok hm hc (fun b hb => ⟨by show w8.heap.size ≤ b; have := HV.out; omega, fun h => by simp at h; have := HD2V.out; have := HDs3.out; omega⟩), h3.ck hc, h4.ck hc⟩)
          case stop4 =>
            rintro D c pre Z _ ⟨rfl, hlk, hTZ, hZ1, hZ2⟩ hD hK
            clear hT10 hX20 hX21
            obtain ⟨iv, hiv, hZ2, hik⟩ : ∃ iv : Nat, min (lf : Int) (k : Int) = (iv : Int) ∧ Box Z (V.heap.size + 1) #[.int .i64 (iv : Int)] 3 ∧ iv ≤ k := ⟨lf, by omega, hZ2, hlk⟩
            have c0 := hZ1.cell 0 _ rfl
            have c1 := hZ2.cell 0 _ rfl
            have c2 := hTZ.k.want.cell 0 _ rfl
            have c3 := hTZ.ri.box.cell 0 _ rfl
            obtain ⟨va, vc, rfl, _⟩ := own_slice hTZ.ri.row
            have hmi : ∀ ts t w', (Builtin.min_ ts t #[.int .i64 (lf : Int), .int .i64 (k : Int)]).run Tryd.prog w' = .ok (.int .i64 (iv : Int)) w' := fun ts t w' => minI _ _ _ hiv.symm ts t w'
            have HTZ := Lib.hid hTZ
            have HDZ := Lib.hid hK
            have HDl := Lib.hid hD
            clear hTZ hZ1 hZ2 hK hD hpk4 hm1 hm2
            gi_wp2_with fail
            go_wp2_with fail
            obtain ⟨R1, hRN, hRB, hRe, hRn, hT1⟩ := HTZ.out.ri.items.turn HTZ.out.ri.row
            have hsz8 : w8.heap.size ≤ Z.heap.size := HTZ.out.size
            have hszZ : C + 1 ≤ Z.heap.size := by have := Hs8.out; omega
            have hszC : w1.heap.size ≤ C := by have := HB15.out.size; have := HsC.out; omega
            have hBWZ : Below W.heap.size W Z := (HBW5.out.trans (HB6.out.mono HBW5.out.size)).trans (HTZ.out.ri.mod.below (by have := (HBW5.out.trans (HB6.out.mono HBW5.out.size)).size; exact this) (fun b hb => by have := HBW5.out.size; have := HsC.out; rcases hb with hb | hb <;> simp only at hb <;> omega))
            have hxl : ∀ b, (Value.slice xa bl.length xc).ownBlock = some b → b < w1.heap.size := by
              obtain ⟨g, cap, e1, h2⟩ := HX.out
              intro b hk
              rw [e1] at hk
              exact (h2.lt b (by simpa [Value.ownBlock] using hk)).2
            refine (apartB_calls R1 _ Z hRe hT1 (by rw [hRN, Hy3.out]; omega) (fun j hj => Nat.le_trans (hRn j hj) (by omega)) (fun b hb => (HTZ.out.ri.row.lt b hb).2) (by rw [hRB]; show w1.heap.size ≤ _; omega)).mono ?_
            rintro r Z1 ⟨rfl, hm9, hko⟩
            rw [hRB] at hm9
            have hm9 : Mod (fun b => w1.heap.size ≤ b) Z Z1 := hm9
            have hRl := HR1.out.lt
            have hx9 := HTZ.out.k.x.kept hm9 (fun b hb => by have := hxl b hb; omega)
            have hBW9 := hBWZ.trans (hm9.below hBWZ.size (fun b hb => by have := HBW1.out.size; omega))
            have HX9 := Lib.hid hx9
            have HR9 := Lib.hid (HTZ.out.k.res.mod hm9 (by show ¬ w1.heap.size ≤ W.heap.size; omega))
            have HBW9 := Lib.hid hBW9
            have HD9 := Lib.hid (⟨hko.same _ _ HDZ.out rfl, hko.same _ _ (HTZ.out.ds D3 (by simp)) rfl, hko.same _ _ (HTZ.out.ds D2 (by simp)) rfl⟩ : _ ∧ _ ∧ _)
            clear hRN hRB hRe hRn hT1 hx9 hBW9 hm9 hko c0 c1 c2 c3 hmi
            go_wp2_with fail
            refine (keptT_calls _ _ _ bl _ HX9.out (HL0.out.below HBW9.out) (by omega)).mono ?_
            rintro r Z2 ⟨rfl, hb2⟩
            have hr2 := HR9.out.below hb2
            have c0 := hr2.cell 0 _ rfl
            have c4 := hr2.free 0
            have HR10 := Lib.hid hr2
            have HBW10 := Lib.hid (HBW9.out.trans (hb2.mono HBW9.out.size))
            have HD10 := Lib.hid (⟨(hb2.block D (Array.getElem?_eq_some_iff.1 HD9.out.1).1).trans HD9.out.1, (hb2.block D3 (Array.getElem?_eq_some_iff.1 HD9.out.2.1).1).trans HD9.out.2.1, (hb2.block D2 (Array.getElem?_eq_some_iff.1 HD9.out.2.2).1).trans HD9.out.2.2⟩ : _ ∧ _ ∧ _)
            clear hr2 hb2 HD9 HR9 HX9
            go_wp2_with fail
            have hR11 := HR10.out.set 0 (.bool true)
            have hBW11 := HBW10.out.trans ((Mod.set (fun b => b = W.heap.size) Z2 ⟨W.heap.size, 0, none⟩ (.bool true) rfl).below HBW10.out.size (fun b hb => by omega))
            have hD11 := fun D h => (KeepsOthers.setCell Z2 ⟨W.heap.size, 0, none⟩ (.bool true)).same D (.deferred (some [])) h rfl
            obtain ⟨Z3, hZ3⟩ : ∃ Z3, Z3 = Z2.setCell ⟨W.heap.size, 0, none⟩ (.bool true) := ⟨_, rfl⟩
            rw [← hZ3] at hR11 hBW11 hD11 ⊢
            have hne1 : D3 ≠ D := by have := HDl.out; have := HDs3.out; omega
            have hne2 : D2 ≠ D := by have := HDl.out; have := HD2V.out; omega
            have hne3 : D2 ≠ D3 := by have := HDb3.out; have := HDs2.out; omega
            have hl1 : W.heap.size < D := by have := HDl.out; have := HDs3.out; have := HV.out; have := HBW8.out.size; omega
            have hl0 : W.heap.size < w8.heap.size := by have := Hs8.out; have := HB15.out.size; have := HsC.out; omega
            have hl2 : W.heap.size < D3 := by have := HDb3.out; have := Hsz.out; omega
            have hl3 : W.heap.size < D2 := by have := HDb2.out; omega
            clear hZ3
            refine ⟨by simp, .inl ⟨_, _, rfl, run_takeDeferred (hD11 _ HD10.out.1), ?_⟩⟩
            have m1 := mod_put (Fm := fun b => b = D) (W := Z3) rfl (.deferred none)
            have k1 := (m1.block D3 (Array.getElem?_eq_some_iff.1 (hD11 _ HD10.out.2.1)).1 hne1).trans (hD11 _ HD10.out.2.1)
            have k2 := (m1.block D2 (Array.getElem?_eq_some_iff.1 (hD11 _ HD10.out.2.2)).1 hne2).trans (hD11 _ HD10.out.2.2)
            refine ⟨by simp, .inl ⟨_, _, rfl, run_takeDeferred k1, ?_⟩⟩
            have m2 := mod_put (Fm := fun b => b = D3) (W := Z3.putObj D (.deferred none)) rfl (.deferred none)
            have k3 := (m2.block D2 (Array.getElem?_eq_some_iff.1 k2).1 hne3).trans k2
            refine ⟨by simp, .inl ⟨_, _, rfl, run_takeDeferred k3, ?_⟩⟩
            have m3 := mod_put (Fm := fun b => b = D2) (W := (Z3.putObj D (.deferred none)).putObj D3 (.deferred none)) rfl (.deferred none)
            have hR14 := ((hR11.mod m1 (by omega)).mod m2 (by omega)).mod m3 (by omega)
            have hBW14 := ((hBW11.trans (m1.below hBW11.size (fun b hb => by omega))).trans (m2.below (Nat.le_trans hBW11.size m1.size) (fun b hb => by omega))).trans (m3.below (Nat.le_trans (Nat.le_trans hBW11.size m1.size) m2.size) (fun b hb => by omega))
            have cR := hR14.cell 0 _ rfl
            refine ⟨_, results_cell1 rfl rfl cR (fun w hw => load_bool hw), rfl, hBW14⟩
          case done4 =>
            rintro D pre Z hS ⟨hpk, hpl, hTZ, hZ1, hZ2⟩ hD hK
            clear hT10 hX20 hX21
            have hpe : pre.length = k := by
              rcases Nat.lt_or_ge pre.length k with h | h
              · exact absurd hS (Hsome.out _ h)
              · omega
            rw [hpe] at hZ2 hpl
            obtain ⟨iv, hiv, hZ2, hik⟩ : ∃ iv : Nat, min (lf : Int) (k : Int) = (iv : Int) ∧ Box Z (V.heap.size + 1) #[.int .i64 (iv : Int)] 3 ∧ iv ≤ k := ⟨k, by omega, hZ2, Nat.le_refl _⟩
            have c0 := hZ1.cell 0 _ rfl
            have c1 := hZ2.cell 0 _ rfl
            have c2 := hTZ.k.want.cell 0 _ rfl
            have c3 := hTZ.ri.box.cell 0 _ rfl
            obtain ⟨va, vc, rfl, _⟩ := own_slice hTZ.ri.row
            have hmi : ∀ ts t w', (Builtin.min_ ts t #[.int .i64 (lf : Int), .int .i64 (k : Int)]).run Tryd.prog w' = .ok (.int .i64 (iv : Int)) w' := fun ts t w' => minI _ _ _ hiv.symm ts t w'
            have HTZ := Lib.hid hTZ
            have HDZ := Lib.hid hK
            have HDl := Lib.hid hD
            clear hTZ hZ1 hZ2 hK hD hpk4 hm1 hm2
            gi_wp2_with fail
            go_wp2_with fail
            obtain ⟨R1, hRN, hRB, hRe, hRn, hT1⟩ := HTZ.out.ri.items.turn HTZ.out.ri.row
            have hsz8 : w8.heap.size ≤ Z.heap.size := HTZ.out.size
            have hszZ : C + 1 ≤ Z.heap.size := by have := Hs8.out; omega
            have hszC : w1.heap.size ≤ C := by have := HB15.out.size; have := HsC.out; omega
            have hBWZ : Below W.heap.size W Z := (HBW5.out.trans (HB6.out.mono HBW5.out.size)).trans (HTZ.out.ri.mod.below (by have := (HBW5.out.trans (HB6.out.mono HBW5.out.size)).size; exact this) (fun b hb => by have := HBW5.out.size; have := HsC.out; rcases hb with hb | hb <;> simp only at hb <;> omega))
            have hxl : ∀ b, (Value.slice xa bl.length xc).ownBlock = some b → b < w1.heap.size := by
              obtain ⟨g, cap, e1, h2⟩ := HX.out
              intro b hk
              rw [e1] at hk
              exact (h2.lt b (by simpa [Value.ownBlock] using hk)).2
            refine (apartB_calls R1 _ Z hRe hT1 (by rw [hRN, Hy3.out]; omega) (fun j hj => Nat.le_trans (hRn j hj) (by omega)) (fun b hb => (HTZ.out.ri.row.lt b hb).2) (by rw [hRB]; show w1.heap.size ≤ _; omega)).mono ?_
            rintro r Z1 ⟨rfl, hm9, hko⟩
            rw [hRB] at hm9
            have hm9 : Mod (fun b => w1.heap.size ≤ b) Z Z1 := hm9
            have hRl := HR1.out.lt
            have hx9 := HTZ.out.k.x.kept hm9 (fun b hb => by have := hxl b hb; omega)
            have hBW9 := hBWZ.trans (hm9.below hBWZ.size (fun b hb => by have := HBW1.out.size; omega))
            have HX9 := Lib.hid hx9
            have HR9 := Lib.hid (HTZ.out.k.res.mod hm9 (by show ¬ w1.heap.size ≤ W.heap.size; omega))
            have HBW9 := Lib.hid hBW9
            have HD9 := Lib.hid (⟨hko.same _ _ HDZ.out rfl, hko.same _ _ (HTZ.out.ds D3 (by simp)) rfl, hko.same _ _ (HTZ.out.ds D2 (by simp)) rfl⟩ : _ ∧ _ ∧ _)
            clear hRN hRB hRe hRn hT1 hx9 hBW9 hm9 hko c0 c1 c2 c3 hmi
            go_wp2_with fail
            refine (keptT_calls _ _ _ bl _ HX9.out (HL0.out.below HBW9.out) (by omega)).mono ?_
            rintro r Z2 ⟨rfl, hb2⟩
            have hr2 := HR9.out.below hb2
            have c0 := hr2.cell 0 _ rfl
            have c4 := hr2.free 0
            have HR10 := Lib.hid hr2
            have HBW10 := Lib.hid (HBW9.out.trans (hb2.mono HBW9.out.size))
            have HD10 := Lib.hid (⟨(hb2.block D (Array.getElem?_eq_some_iff.1 HD9.out.1).1).trans HD9.out.1, (hb2.block D3 (Array.getElem?_eq_some_iff.1 HD9.out.2.1).1).trans HD9.out.2.1, (hb2.block D2 (Array.getElem?_eq_some_iff.1 HD9.out.2.2).1).trans HD9.out.2.2⟩ : _ ∧ _ ∧ _)
            clear hr2 hb2 HD9 HR9 HX9
            go_wp2_with fail
            have hR11 := HR10.out.set 0 (.bool true)
            have hBW11 := HBW10.out.trans ((Mod.set (fun b => b = W.heap.size) Z2 ⟨W.heap.size, 0, none⟩ (.bool true) rfl).below HBW10.out.size (fun b hb => by omega))
            have hD11 := fun D h => (KeepsOthers.setCell Z2 ⟨W.heap.size, 0, none⟩ (.bool true)).same D (.deferred (some [])) h rfl
            obtain ⟨Z3, hZ3⟩ : ∃ Z3, Z3 = Z2.setCell ⟨W.heap.size, 0, none⟩ (.bool true) := ⟨_, rfl⟩
            rw [← hZ3] at hR11 hBW11 hD11 ⊢
            have hne1 : D3 ≠ D := by have := HDl.out; have := HDs3.out; omega
            have hne2 : D2 ≠ D := by have := HDl.out; have := HD2V.out; omega
            have hne3 : D2 ≠ D3 := by have := HDb3.out; have := HDs2.out; omega
            have hl1 : W.heap.size < D := by have := HDl.out; have := HDs3.out; have := HV.out; have := HBW8.out.size; omega
            have hl0 : W.heap.size < w8.heap.size := by have := Hs8.out; have := HB15.out.size; have := HsC.out; omega
            have hl2 : W.heap.size < D3 := by have := HDb3.out; have := Hsz.out; omega
            have hl3 : W.heap.size < D2 := by have := HDb2.out; omega
            clear hZ3
            refine ⟨by simp, .inl ⟨_, _, rfl, run_takeDeferred (hD11 _ HD10.out.1), ?_⟩⟩
            have m1 := mod_put (Fm := fun b => b = D) (W := Z3) rfl (.deferred none)
            have k1 := (m1.block D3 (Array.getElem?_eq_some_iff.1 (hD11 _ HD10.out.2.1)).1 hne1).trans (hD11 _ HD10.out.2.1)
            have k2 := (m1.block D2 (Array.getElem?_eq_some_iff.1 (hD11 _ HD10.out.2.2)).1 hne2).trans (hD11 _ HD10.out.2.2)
            refine ⟨by simp, .inl ⟨_, _, rfl, run_takeDeferred k1, ?_⟩⟩
            have m2 := mod_put (Fm := fun b => b = D3) (W := Z3.putObj D (.deferred none)) rfl (.deferred none)
            have k3 := (m2.block D2 (Array.getElem?_eq_some_iff.1 k2).1 hne3).trans k2
            refine ⟨by simp, .inl ⟨_, _, rfl, run_takeDeferred k3, ?_⟩⟩
            have m3 := mod_put (Fm := fun b => b = D2) (W := (Z3.putObj D (.deferred none)).putObj D3 (.deferred none)) rfl (.deferred none)
            have hR14 := ((hR11.mod m1 (by omega)).mod m2 (by omega)).mod m3 (by omega)
            have hBW14 := ((hBW11.trans (m1.below hBW11.size (fun b hb => by omega))).trans (m2.below (Nat.le_trans hBW11.size m1.size) (fun b hb => by omega))).trans (m3.below (Nat.le_trans (Nat.le_trans hBW11.size m1.size) m2.size) (fun b hb => by omega))
            have cR := hR14.cell 0 _ rfl
            refine ⟨_, results_cell1 rfl rfl cR (fun w hw => load_bool hw), rfl, hBW14⟩
          case body4 =>
            rintro l pre x Z hI hT
            obtain ⟨xa0, xv0⟩ := x
            obtain ⟨hpk, hpl, hTZ, hZ1, hZ2⟩ := hI
            obtain ⟨hxa, ⟨p, kk, hp, hown⟩, hap⟩ := hT
            simp only at hxa hown hap
            subst hxa
            have hlt : pre.length < k := by
              rcases Nat.lt_or_ge pre.length k with h | h
              · exact h
              · rw [show pre.length = k by omega, Hno.out] at hp; cases hp
            have c0 := hZ1.cell 0 _ rfl
            have c1 := hZ2.cell 0 _ rfl
            by_cases hle : pre.length = lf
            · have HI := Lib.hid (⟨hTZ, hZ1, hZ2⟩ : _ ∧ _ ∧ _)
              have hle2 : (pre.length : Int) = (lf : Int) := by rw [hle]
              rw [hle2] at c1
              have Hlk := Lib.hid (show lf ≤ k by omega)
              clear hT10 hX20 hX21 hTZ hZ1 hZ2 hown hap hp
              gi_wp2_with fail
              exact ⟨keepsOthers_below (Below.refl _ _), rfl, Hlk.out, HI.out.1, HI.out.2.1, by rw [← hle2]; exact HI.out.2.2⟩
            · have hpB := payB_eq hp
              obtain ⟨ia, ic, rfl, _⟩ := hown.slice
              have hrw := (hTZ.k.rows pre.length hlt).1
              simp only [hpB] at hrw
              obtain ⟨yv, hyv⟩ : ∃ yv, yv = wys.getD pre.length undef := ⟨_, rfl⟩
              rw [← hyv] at hrw
              obtain ⟨ya, yc, rfl⟩ : ∃ a c, yv = .slice a p.length c := by obtain ⟨a, c, h, _⟩ := hrw; exact ⟨a, c, by simpa using h⟩
              have hcw : ∃ b off, wa = some ⟨b, off, none⟩ ∧ Z.cell? ⟨b, off + pre.length, none⟩ = some (.slice ya p.length yc) := by
                obtain ⟨b, off, cap, e1, e2⟩ := hTZ.k.wrd.at pre.length (by rw [hTZ.k.wl]; exact hlt)
                injection e1 with e1
                exact ⟨b, off, e1, by rw [e2]; show some (wys.getD pre.length undef) = _; rw [← hyv]⟩
              have hcp : ∃ b off, pa = some ⟨b, off, none⟩ ∧ Z.cell? ⟨b, off + pre.length, none⟩ = some (.int .i64 ((posM e bl pre.length : Nat) : Int)) := by
                obtain ⟨b, off, cap, e1, e2⟩ := hTZ.k.prd.at pre.length (by simp [placesV]; exact hlt)
                injection e1 with e1
                exact ⟨b, off, e1, by rw [e2]; simp [placesV, List.getD, hlt]⟩
              obtain ⟨wb, woff, rfl, hcw⟩ := hcw
              obtain ⟨pb, poff, rfl, hcp⟩ := hcp
              have Hsb := Lib.hid (sameBytes_calls (.slice ia p.length ic) (.slice ya p.length yc) p Z hown.rd hrw)
              have c2 := hTZ.k.want.cell 0 _ rfl
              have c3 := hTZ.k.pl.cell 0 _ rfl
              have hi0 : (0 : Int) ≤ (pre.length : Int) := by omega
              have hi1 : (pre.length : Int) < (k : Int) := by omega
              have hi2 : ¬ (pre.length : Int) = (lf : Int) := by omega
              have Hll := Lib.hid (show pre.length + 1 ≤ lf by omega)
              have HI := Lib.hid (⟨hTZ, hZ1, hZ2⟩ : _ ∧ _ ∧ _)
              clear hT10 hX20 hX21 hTZ hZ1 hZ2 hown hap hp hrw hyv hpB
              gi_wp2_with fail
              refine ⟨trivial, ((callsIn_wide.2 Hsb.out).inRound l).mono ?_⟩
              rintro r Z1 ⟨rfl, kd, rfl⟩
              have hbd := below_drewN Z kd
              obtain ⟨Z1, hZd⟩ : ∃ Z1, Z1 = Z.drewN kd := ⟨_, rfl⟩
              rw [← hZd] at hbd ⊢
              clear hZd c0 c1 c2 c3 hcw hcp
              have hT1 := HI.out.1.below ok hbd
              have hx1 := HI.out.2.1.below hbd
              have hx2 := HI.out.2.2.below hbd
              have c1 := hx2.cell 0 _ rfl
              have c4 := hx2.free 0
              have HT1 := Lib.hid hT1
              have Hx1 := Lib.hid hx1
              have Hx2 := Lib.hid hx2
              have Hbd := Lib.hid hbd
              clear hT1 hx1 hx2 hbd
              gi_wp2_with fail
              obtain ⟨p1, p2, p3, p4⟩ := HT1.out.tick (z' := .int .i64 ((pre.length : Int) + 1)) ok Hx2.out (show w8.heap.size ≤ _ by have := HV.out; omega)
              have hm := (Mod.of_below (F := fun b => b = V.heap.size + 1) Hbd.out).trans p2
              refine ⟨⟨hm.size, fun b o hb ho => p1.same b o ((Hbd.out.block b (Array.getElem?_eq_some_iff.1 hb).1).trans hb) ho⟩, hm.mono (fun b hb => .inl (fun h2 => by have := (HPr.out b h2).2; have := HV.out; omega)), by simp; omega, by simp; exact Hll.out, p3, Hx1.out.mod p2 (by omega), by simpa using p4⟩
        case body3 =>
          rintro l pre x V hI hT
          obtain ⟨xa0, xv0⟩ := x
          obtain ⟨hpk, ⟨lv, hTU⟩, hXU⟩ := hI
          obtain ⟨hxa, ⟨p, kk, hp, hown⟩, hap⟩ := hT
          simp only at hxa hown hap
          subst hxa
          have hlt : pre.length < k := by
            rcases Nat.lt_or_ge pre.length k with h | h
            · exact h
            · rw [show pre.length = k by omega, Hno.out] at hp; cases hp
          have hpB := payB_eq hp
          obtain ⟨ia, ic, rfl, _⟩ := hown.slice
          have hrw := (hTU.k.rows pre.length hlt).1
          simp only [hpB] at hrw
          obtain ⟨yv, hyv⟩ : ∃ yv, yv = wys.getD pre.length undef := ⟨_, rfl⟩
          rw [← hyv] at hrw
          obtain ⟨ya, yc, rfl⟩ : ∃ a c, yv = .slice a p.length c := by obtain ⟨a, c, h, _⟩ := hrw; exact ⟨a, c, by simpa using h⟩
          have hcw : ∃ b off, wa = some ⟨b, off, none⟩ ∧ V.cell? ⟨b, off + pre.length, none⟩ = some (.slice ya p.length yc) := by
            obtain ⟨b, off, cap, e1, e2⟩ := hTU.k.wrd.at pre.length (by rw [hTU.k.wl]; exact hlt)
            injection e1 with e1
            exact ⟨b, off, e1, by rw [e2]; show some (wys.getD pre.length undef) = _; rw [← hyv]⟩
          have hcp : ∃ b off, pa = some ⟨b, off, none⟩ ∧ V.cell? ⟨b, off + pre.length, none⟩ = some (.int .i64 ((posM e bl pre.length : Nat) : Int)) := by
            obtain ⟨b, off, cap, e1, e2⟩ := hTU.k.prd.at pre.length (by simp [placesV]; exact hlt)
            injection e1 with e1
            exact ⟨b, off, e1, by rw [e2]; simp [placesV, List.getD, hlt]⟩
          obtain ⟨wb, woff, rfl, hcw⟩ := hcw
          obtain ⟨pb, poff, rfl, hcp⟩ := hcp
          have Hsb := Lib.hid (sameBytes_calls (.slice ia p.length ic) (.slice ya p.length yc) p V hown.rd hrw)
          have c1 := hXU.cell 0 _ rfl
          have c2 := hTU.k.want.cell 0 _ rfl
          have c3 := hTU.k.pl.cell 0 _ rfl
          have hi0 : (0 : Int) ≤ (pre.length : Int) := by omega
          have hi1 : (pre.length : Int) < (k : Int) := by omega
          obtain ⟨ys, hys⟩ : ∃ ys, ys = y2 ++ pre.map (·.2) := ⟨_, rfl⟩
          have hyl : ys.length = k + k + pre.length := by rw [hys, List.length_append, Hy2.out, List.length_map]
          have hax : ∀ i, i < ys.length → Apart (ys.getD i undef) (.slice ia p.length ic) := fun i hi => by
            rcases Nat.lt_or_ge i y2.length with h1 | h1
            · have e1 : ys.getD i undef = y2.getD i undef := by rw [hys, List.getD, List.getElem?_append_left h1]; rfl
              rw [e1]
              intro b hb hb2
              have := (hT9.ri.items.lt h1 b hb).2
              have := (hown.lt b hb2).1
              omega
            · have h2 : i - y2.length < pre.length := by rw [hyl] at hi; rw [Hy2.out] at h1 ⊢; omega
              have e1 : ys.getD i undef = pre[i - y2.length].2 := by
                rw [hys, List.getD, List.getElem?_append_right h1]; simp [h2]
              rw [e1]
              exact hap _ (List.getElem_mem h2)
          rw [← hys] at hTU
          have hrow := hTU.ri.row
          obtain ⟨va, vc, rfl, _⟩ := own_slice hrow
          have hown' : OwnM V w1.heap.size 5 (.slice ia p.length ic) p.length (p.map V8) := hown.lower (by
            have := HBW8.out.size; have := Hsz.out; have := Hs8.out; have := Hs6.out; have := HsC.out; have := HB15.out.size; omega)
          have HTU := Lib.hid hTU
          have HXU := Lib.hid hXU
          have HOw := Lib.hid hown'
          have HAx := Lib.hid hax
          have Hrow := Lib.hid hrow
          have Hys := Lib.hid hys
          have Hyl := Lib.hid hyl
          have Hp5 := Lib.hid (show p.length ≤ 512 from pay_512 hp)
          clear hTU hXU hown hap hrw hyv hp hpB hT9 hX9 hax hrow hys hyl hown'
          gi_wp2_with fail
          refine ⟨trivial, ((callsIn_wide.2 Hsb.out).inRound l).mono ?_⟩
          rintro r V1 ⟨rfl, kd, rfl⟩
          have hbd := below_drewN V kd
          obtain ⟨V1, hU1⟩ : ∃ V1, V1 = V.drewN kd := ⟨_, rfl⟩
          rw [← hU1] at hbd ⊢
          clear hU1 c1 c2 c3 hcw hcp
          have c1 := (HTU.out.ri.box.below hbd).cell 0 _ rfl
          obtain ⟨i0, hi, hz0, hz1, hz2⟩ := info_parts info_rowsB
          have Hr1 := Lib.hid (show ys.length + 1 ≤ maxLen by rw [Hyl.out]; unfold maxLen; omega)
          have Hr2 := Lib.hid (show (ys.length + 1) * 24 ≤ 140737488355328 by rw [Hyl.out]; omega)
          have HsU := Lib.hid (show C + 1 ≤ (V1.alloc (.cells #[.slice ia p.length ic] 23)).heap.size by
            rw [World.size_alloc]; have h1 := HTU.out.size; have := hbd.size; have := Hs8.out; simp only at h1; omega)
          have Hbd := Lib.hid hbd
          clear hbd
          gi_wp2_with (gi_at_builtin; refine wpListIn_append_own_at _ rfl _ _ 50 rfl (C + 1) 23 i0 (.slice none 0 0) 1 24 Tryd.underlying50 hi hz0 hz1 hz2 rfl (by decide) _ _ _ rfl (own_below Hrow.out (below_trans Hbd.out (below_alloc V1 _))) ⟨V1.heap.size, 0, none⟩ 1 1 [.slice ia p.length ic] rfl rfl (cell_one_new _ _ _) (by simp [Value.oneCell']) Hr1.out Hr2.out HsU.out ?_)
          intro v' w7 hown' hgrow _ hat
          obtain ⟨na, nc, rfl, _⟩ := own_slice hown'
          have hPu := fun z' => TurnI.push ok (Ds := [D2]) (z' := z') (W1 := V1) HTU.out Hbd.out Hp5.out HOw.out HAx.out hown' hgrow (by rw [World.size_alloc]; exact hat) HXU.out Hsz.out
          have hxC : Box w7 C #[.slice va ys.length vc] 50 := ((HTU.out.ri.box.below (below_trans Hbd.out (below_alloc V1 _)))).grown hgrow (own_ne_box Hrow.out HTU.out.ri.box (by decide))
          have hxX : Box w7 U.heap.size #[.int .i64 (pre.length : Int)] 3 := (HXU.out.below (below_trans Hbd.out (below_alloc V1 _))).grown hgrow (own_ne_box Hrow.out HXU.out (by decide))
          have hneC : ¬ U.heap.size = C := by have := Hs8.out; have := Hsz.out; omega
          have hneC' : ¬ C = U.heap.size := by have := Hs8.out; have := Hsz.out; omega
          have a1 := hxC.cell 0 _ rfl
          have a2 := hxC.free 0
          have a3 := hxX.cell 0 _ rfl
          have a4 := hxX.free 0
          have HPu := Lib.hid hPu
          clear hPu hxC hxX hown' hgrow hat c1
          gi_wp2_with fail
          obtain ⟨p1, p2, p3, p4⟩ := HPu.out (.int .i64 ((pre.length : Int) + 1))
          have e2 : y2 ++ (pre ++ [(posM e bl pre.length, Value.slice ia p.length ic)]).map (·.2) = ys ++ [.slice ia p.length ic] := by rw [Hys.out]; simp
          exact ⟨p1, p2.mono (fun b hb => .inl hb), by simp; omega, ⟨_, by rw [e2]; have p5 := p3; rw [World.size_alloc] at p5; exact p5⟩, by simpa using p4⟩
      case body2 =>
        rintro l pre x U hI hT
        obtain ⟨xa0, xv0⟩ := x
        obtain ⟨hpk, ⟨lv, hTU⟩, hXU⟩ := hI
        obtain ⟨hxa, ⟨p, kk, hp, hown⟩, hap⟩ := hT
        simp only at hxa hown hap
        subst hxa
        have hlt : pre.length < k := by
          rcases Nat.lt_or_ge pre.length k with h | h
          · exact h
          · rw [show pre.length = k by omega, Hno.out] at hp; cases hp
        have hpB := payB_eq hp
        obtain ⟨ia, ic, rfl, _⟩ := hown.slice
        have hrw := (hTU.k.rows pre.length hlt).1
        simp only [hpB] at hrw
        obtain ⟨yv, hyv⟩ : ∃ yv, yv = wys.getD pre.length undef := ⟨_, rfl⟩
        rw [← hyv] at hrw
        obtain ⟨ya, yc, rfl⟩ : ∃ a c, yv = .slice a p.length c := by obtain ⟨a, c, h, _⟩ := hrw; exact ⟨a, c, by simpa using h⟩
        have hcw : ∃ b off, wa = some ⟨b, off, none⟩ ∧ U.cell? ⟨b, off + pre.length, none⟩ = some (.slice ya p.length yc) := by
          obtain ⟨b, off, cap, e1, e2⟩ := hTU.k.wrd.at pre.length (by rw [hTU.k.wl]; exact hlt)
          injection e1 with e1
          exact ⟨b, off, e1, by rw [e2]; show some (wys.getD pre.length undef) = _; rw [← hyv]⟩
        have hcp : ∃ b off, pa = some ⟨b, off, none⟩ ∧ U.cell? ⟨b, off + pre.length, none⟩ = some (.int .i64 ((posM e bl pre.length : Nat) : Int)) := by
          obtain ⟨b, off, cap, e1, e2⟩ := hTU.k.prd.at pre.length (by simp [placesV]; exact hlt)
          injection e1 with e1
          exact ⟨b, off, e1, by rw [e2]; simp [placesV, List.getD, hlt]⟩
        obtain ⟨wb, woff, rfl, hcw⟩ := hcw
        obtain ⟨pb, poff, rfl, hcp⟩ := hcp
        have Hsb := Lib.hid (sameBytes_calls (.slice ia p.length ic) (.slice ya p.length yc) p U hown.rd hrw)
        have c1 := hXU.cell 0 _ rfl
        have c2 := hTU.k.want.cell 0 _ rfl
        have c3 := hTU.k.pl.cell 0 _ rfl
        have hi0 : (0 : Int) ≤ (pre.length : Int) := by omega
        have hi1 : (pre.length : Int) < (k : Int) := by omega
        obtain ⟨ys, hys⟩ : ∃ ys, ys = gys ++ pre.map (·.2) := ⟨_, rfl⟩
        have hyl : ys.length = k + pre.length := by rw [hys, List.length_append, Hpl.out, List.length_map]
        have hax : ∀ i, i < ys.length → Apart (ys.getD i undef) (.slice ia p.length ic) := fun i hi => by
          rcases Nat.lt_or_ge i gys.length with h1 | h1
          · have e1 : ys.getD i undef = gys.getD i undef := by rw [hys, List.getD, List.getElem?_append_left h1]; rfl
            rw [e1]
            intro b hb hb2
            have := (hT9.ri.items.lt h1 b hb).2
            have := (hown.lt b hb2).1
            omega
          · have h2 : i - gys.length < pre.length := by rw [hyl] at hi; rw [Hpl.out] at h1 ⊢; omega
            have e1 : ys.getD i undef = pre[i - gys.length].2 := by
              rw [hys, List.getD, List.getElem?_append_right h1]; simp [h2]
            rw [e1]
            exact hap _ (List.getElem_mem h2)
        rw [← hys] at hTU
        have hrow := hTU.ri.row
        obtain ⟨va, vc, rfl, _⟩ := own_slice hrow
        have hown' : OwnM U w1.heap.size 5 (.slice ia p.length ic) p.length (p.map V8) := hown.lower (by
          have := HBW8.out.size; have := Hsz.out; have := Hs8.out; have := Hs6.out; have := HsC.out; have := HB15.out.size; omega)
        have HTU := Lib.hid hTU
        have HXU := Lib.hid hXU
        have HOw := Lib.hid hown'
        have HAx := Lib.hid hax
        have Hrow := Lib.hid hrow
        have Hys := Lib.hid hys
        have Hyl := Lib.hid hyl
        have Hp5 := Lib.hid (show p.length ≤ 512 from pay_512 hp)
        clear hTU hXU hown hap hrw hyv hp hpB hT9 hX9 hax hrow hys hyl hown'
        gi_wp2_with fail
        refine ⟨trivial, ((callsIn_wide.2 Hsb.out).inRound l).mono ?_⟩
        rintro r U1 ⟨rfl, kd, rfl⟩
        have hbd := below_drewN U kd
        obtain ⟨U1, hU1⟩ : ∃ U1, U1 = U.drewN kd := ⟨_, rfl⟩
        rw [← hU1] at hbd ⊢
        clear hU1 c1 c2 c3 hcw hcp
        have c1 := (HTU.out.ri.box.below hbd).cell 0 _ rfl
        obtain ⟨i0, hi, hz0, hz1, hz2⟩ := info_parts info_rowsB
        have Hr1 := Lib.hid (show ys.length + 1 ≤ maxLen by rw [Hyl.out]; unfold maxLen; omega)
        have Hr2 := Lib.hid (show (ys.length + 1) * 24 ≤ 140737488355328 by rw [Hyl.out]; omega)
        have HsU := Lib.hid (show C + 1 ≤ (U1.alloc (.cells #[.slice ia p.length ic] 23)).heap.size by
          rw [World.size_alloc]; have h1 := HTU.out.size; have := hbd.size; have := Hs8.out; simp only at h1; omega)
        have Hbd := Lib.hid hbd
        clear hbd
        gi_wp2_with (gi_at_builtin; refine wpListIn_append_own_at _ rfl _ _ 50 rfl (C + 1) 23 i0 (.slice none 0 0) 1 24 Tryd.underlying50 hi hz0 hz1 hz2 rfl (by decide) _ _ _ rfl (own_below Hrow.out (below_trans Hbd.out (below_alloc U1 _))) ⟨U1.heap.size, 0, none⟩ 1 1 [.slice ia p.length ic] rfl rfl (cell_one_new _ _ _) (by simp [Value.oneCell']) Hr1.out Hr2.out HsU.out ?_)
        intro v' w7 hown' hgrow _ hat
        obtain ⟨na, nc, rfl, _⟩ := own_slice hown'
        have hPu := fun z' => TurnI.push ok (Ds := []) (z' := z') (W1 := U1) HTU.out Hbd.out Hp5.out HOw.out HAx.out hown' hgrow (by rw [World.size_alloc]; exact hat) HXU.out Hsz.out
        have hxC : Box w7 C #[.slice va ys.length vc] 50 := ((HTU.out.ri.box.below (below_trans Hbd.out (below_alloc U1 _)))).grown hgrow (own_ne_box Hrow.out HTU.out.ri.box (by decide))
        have hxX : Box w7 w8.heap.size #[.int .i64 (pre.length : Int)] 3 := (HXU.out.below (below_trans Hbd.out (below_alloc U1 _))).grown hgrow (own_ne_box Hrow.out HXU.out (by decide))
        have hneC : ¬ w8.heap.size = C := by have := Hs8.out; have := Hsz.out; omega
        have hneC' : ¬ C = w8.heap.size := by have := Hs8.out; have := Hsz.out; omega
        have a1 := hxC.cell 0 _ rfl
        have a2 := hxC.free 0
        have a3 := hxX.cell 0 _ rfl
        have a4 := hxX.free 0
        have HPu := Lib.hid hPu
        clear hPu hxC hxX hown' hgrow hat c1
        gi_wp2_with fail
        obtain ⟨p1, p2, p3, p4⟩ := HPu.out (.int .i64 ((pre.length : Int) + 1))
        have e2 : gys ++ (pre ++ [(posM e bl pre.length, Value.slice ia p.length ic)]).map (·.2) = ys ++ [.slice ia p.length ic] := by rw [Hys.out]; simp
        exact ⟨p1, p2.mono (fun b hb => .inl hb), by simp; omega, ⟨_, by rw [e2]; have p5 := p3; rw [World.size_alloc] at p5; exact p5⟩, by simpa using p4⟩
end Go.Proofs.YtefegebnohenaaaDoor
