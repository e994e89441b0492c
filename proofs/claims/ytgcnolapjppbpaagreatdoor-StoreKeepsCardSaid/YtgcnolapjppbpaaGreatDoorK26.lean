/-
  Texts of one proof, one behind the other.
-/
import Derived.Test.YtgcnolapjppbpaaGreatDoorK25
import Derived.Test.YtgcnolapjppbpaaGreatDoorK02
import Derived.Test.YtgcnolapjppbpaaGreatDoorK07
import Derived.Test.YtgcnolapjppbpaaGreatDoorK19
import Derived.BigQuiet
import Derived.Lib.JoinLaws
import Derived.Outline
import Derived.Deep.LoopGhost
namespace Go.Proofs.YtgcnolapjppbpaaGreatDoor
set_option maxRecDepth 100000
open Go.RowKit
theorem list_of {α : Type} (z : α) (Q : Nat → α → Prop) : ∀ n : Nat, (∀ i, i < n → ∃ x, Q i x) → ∃ l : List α, l.length = n ∧ ∀ i, i < n → Q i (l.getD i z)
  | 0, _ => ⟨[], rfl, fun i h => by omega⟩
  | n + 1, h => by
    obtain ⟨l, h1, h2⟩ := list_of z Q n (fun i hi => h i (by omega))
    obtain ⟨x, hx⟩ := h n (by omega)
    refine ⟨l ++ [x], by simp [h1], fun i hi => ?_⟩
    by_cases hin : i < n
    · rw [List.getD, List.getElem?_append_left (by omega)]; exact h2 i hin
    · obtain rfl : i = n := by omega
      rw [List.getD, List.getElem?_append_right (by omega), h1]; simpa using hx
theorem flatMap_get {α : Type} (f : α → List Value) (size : Nat) (hs : ∀ x, (f x).length = size) (hp : 0 < size) (z : α) : ∀ (l : List α) (i j : Nat), i < l.length → j < size → (l.flatMap f).getD (i * size + j) undef = (f (l.getD i z)).getD j undef
  | [], i, j, hi, _ => by simp at hi
  | a :: l, 0, j, _, hj => by
    rw [List.flatMap_cons, List.getD, List.getElem?_append_left (by rw [hs]; omega)]; simp
  | a :: l, i + 1, j, hi, hj => by
    have := flatMap_get f size hs hp z l i j (by simpa using hi) hj
    rw [List.flatMap_cons, List.getD, List.getElem?_append_right (by rw [hs, Nat.add_mul]; omega), hs, show (i + 1) * size + j - size = i * size + j by rw [Nat.add_mul]; omega]
    simpa [List.getD] using this
theorem flatMap_len {α : Type} (f : α → List Value) (size : Nat) (hs : ∀ x, (f x).length = size) : ∀ l : List α, (l.flatMap f).length = l.length * size
  | [] => by simp
  | a :: l => by rw [List.flatMap_cons, List.length_append, hs, flatMap_len f size hs l, List.length_cons, Nat.add_mul]; omega
theorem ArgC.flat {up : Bool} {N : Nat} {t e : TypeId} {W : World} {v : Value} {size : Nat} {α : Type} (z : α) (f : α → List Value) (hf : ∀ x, (f x).length = size) (hp : 0 < size) (R : Nat → α → Prop) (ht : Tryz.prog.underlying t = some (.slice e)) (hsz : Tryz.prog.cellsOf e = size) (h : ArgC up N t W [v])
    (hel : ∀ N cs, cs.length = size → ArgC up N e W cs → ∃ x, cs = f x ∧ R N x) :
    ∃ l : List α, Rd W v l.length (l.flatMap f) ∧ (up = false → l.length * Tryz.prog.bytesOf e ≤ 140737488351232) ∧ ∃ Ns : List Nat, Ns.length = l.length ∧ (up = true → Ns.sum + 1 ≤ N ∧ l.length + 1 ≤ N) ∧ ∀ i, i < l.length → R (Ns.getD i 0) (l.getD i z) := by
  obtain ⟨a, n, cap, h1, h2, h3, h4, h5, Ns, h6, h7, h8⟩ := h.slice ht hsz hp
  simp only [List.cons.injEq, and_true] at h1
  subst h1
  obtain ⟨l, hl, hv⟩ := list_of z (fun i x => ∃ b off, a = some ⟨b, off, none⟩ ∧ (∀ j, j < size → W.cell? ⟨b, off + (i * size + j), none⟩ = some ((f x).getD j undef)) ∧ R (Ns.getD i 0) x) n (fun i hi => by
    obtain ⟨b, off, cs', g1, g2, g3, g4⟩ := h8 i hi
    obtain ⟨x, rfl, hx⟩ := hel _ cs' g2 g4
    exact ⟨x, b, off, g1, g3, hx⟩)
  subst hl
  refine ⟨l, ⟨a, cap, rfl, h2, h3, h4, fun j hj => ?_⟩, fun hu => Nat.le_trans (Nat.mul_le_mul_right _ h2) (h5 hu), Ns, h6, h7, fun i hi => ?_⟩
  · rw [flatMap_len f size hf] at hj
    have hq : j / size < l.length := (Nat.div_lt_iff_lt_mul hp).2 hj
    obtain ⟨b, off, g1, g2, _⟩ := hv (j / size) hq
    have hr : j % size < size := Nat.mod_lt _ hp
    have hj2 : j / size * size + j % size = j := by rw [Nat.mul_comm]; exact Nat.div_add_mod j size
    refine ⟨b, off, g1, ?_⟩
    have g3 := g2 (j % size) hr
    rw [hj2] at g3
    rw [g3, ← flatMap_get f size hf hp z l (j / size) (j % size) hq hr, hj2]
  · obtain ⟨_, _, _, _, g3⟩ := hv i hi
    exact g3
theorem i64_of_wf {n : Int} (h : (Lit.int .i64 n).wf = true) : -9223372036854775808 ≤ n ∧ n ≤ 9223372036854775807 := by
  simp [Lit.wf, IntKind.min, IntKind.max, IntKind.signed, IntKind.bits] at h; omega
theorem Arg.slice {up : Bool} {t e : TypeId} {W : World} {v : Value} (ht : Tryz.prog.underlying t = some (.slice e)) (h : Arg up t W v) : ArgC up 1048576 t W [v] := by
  obtain ⟨h, base, ho⟩ := h
  obtain ⟨a, n, c, rfl⟩ := Go.WideShapes.okWide_slice ht ho
  exact h
theorem Arg.int {up : Bool} {t : TypeId} {k : IntKind} {W : World} {v : Value} (ht : Tryz.prog.underlying t = some (.int k)) (h : Arg up t W v) : ∃ n, v = .int k n ∧ (Lit.int k n).wf = true := by
  obtain ⟨h, base, ho⟩ := h
  obtain ⟨n, rfl⟩ := Go.WideShapes.okWide_int ht ho
  obtain ⟨m, h1, h2⟩ := h.int ht
  simp [Value.cells] at h1
  subst h1
  exact ⟨n, rfl, h2⟩
theorem Arg.struct {up : Bool} {t : TypeId} {fs : Array Field} {W : World} {v : Value} (ht : Tryz.prog.underlying t = some (.struct fs)) (h : Arg up t W v) : ∃ cs : Array Value, v = .agg cs ∧ ArgC up 1048576 t W cs.toList := by
  obtain ⟨h, base, ho⟩ := h
  obtain ⟨cs, rfl, _⟩ := Go.WideShapes.okWide_struct ht ho
  exact ⟨cs, rfl, h⟩
theorem drop_take_one {cs : List Value} {o : Nat} {c : Value} (h : cs[o]? = some c) : (cs.drop o).take 1 = [c] := by
  have ho := (List.getElem?_eq_some_iff.1 h).1
  have hc := (List.getElem?_eq_some_iff.1 h).2
  rw [List.drop_eq_getElem_cons ho, hc]; rfl
theorem ArgC.fcell {up : Bool} {N : Nat} {t : TypeId} {fs : Array Field} {W : World} {cs : List Value} (h : ArgC up N t W cs) (ht : Tryz.prog.underlying t = some (.struct fs)) (i : Nat) (f : Field) (hf : fs[i]? = some f) (hc : Tryz.prog.cellsOf f.type = 1) (c : Value) (hcs : cs[f.offset]? = some c) :
    ∃ M, M ≤ N + (if up then 0 else M) ∧ ArgC up M f.type W [c] := by
  obtain ⟨_, Ns, h1, h2, h3⟩ := h.struct ht
  have g := h3 i f hf
  rw [hc, drop_take_one hcs] at g
  refine ⟨_, ?_, g⟩
  cases up with
  | false => simp
  | true =>
    have := h2 rfl
    have hle : ∀ (l : List Nat) (i : Nat), l.getD i 0 ≤ l.sum := by
      intro l
      induction l with
      | nil => intro i; simp
      | cons a l ih =>
        intro i
        cases i with
        | zero => simp
        | succ i => have := ih i; simp at this ⊢; omega
    have := hle Ns i
    rw [if_pos rfl]; omega
theorem ArgC.fint {up : Bool} {N : Nat} {t : TypeId} {fs : Array Field} {W : World} {cs : List Value} (h : ArgC up N t W cs) (ht : Tryz.prog.underlying t = some (.struct fs)) (i : Nat) (f : Field) (hf : fs[i]? = some f) (hc : Tryz.prog.cellsOf f.type = 1) (c : Value) (hcs : cs[f.offset]? = some c)
    (k : IntKind) (hk : Tryz.prog.underlying f.type = some (.int k)) : ∃ n, c = .int k n ∧ (Lit.int k n).wf = true := by
  obtain ⟨M, _, g⟩ := h.fcell ht i f hf hc c hcs
  obtain ⟨n, e, hw⟩ := g.int (k := k) hk
  simp only [List.cons.injEq, and_true] at e
  exact ⟨n, e, hw⟩
theorem ArgC.fstring {up : Bool} {N : Nat} {t : TypeId} {fs : Array Field} {W : World} {cs : List Value} (h : ArgC up N t W cs) (ht : Tryz.prog.underlying t = some (.struct fs)) (i : Nat) (f : Field) (hf : fs[i]? = some f) (hc : Tryz.prog.cellsOf f.type = 1) (c : Value) (hcs : cs[f.offset]? = some c)
    (hk : Tryz.prog.underlying f.type = some .string) : ∃ s : ByteArray, c = .string s ∧ s.size ≤ 9223372036854775807 ∧ (up = true → s.size + 1 ≤ N) ∧ (up = false → s.size ≤ 140737488351232) := by
  obtain ⟨M, hM, g⟩ := h.fcell ht i f hf hc c hcs
  obtain ⟨s, e, h1, h2, h3⟩ := g.string hk
  simp only [List.cons.injEq, and_true] at e
  refine ⟨s, e, h1, fun hu => ?_, h3⟩
  have := h2 hu
  subst hu
  simp at hM; omega
theorem ArgC.fstruct {up : Bool} {N : Nat} {t : TypeId} {fs : Array Field} {W : World} {cs : List Value} (h : ArgC up N t W cs) (ht : Tryz.prog.underlying t = some (.struct fs)) (i : Nat) (f : Field) (hf : fs[i]? = some f) (t' : TypeId) (o n : Nat) (e1 : f.type = t') (e2 : f.offset = o) (e3 : Tryz.prog.cellsOf t' = n) : ∃ M, M ≤ N + (if up then 0 else M) ∧ ArgC up M t' W ((cs.drop o).take n) := by
  subst e1; subst e2; subst e3
  obtain ⟨_, Ns, h1, h2, h3⟩ := h.struct ht
  refine ⟨_, ?_, h3 i f hf⟩
  cases up with
  | false => simp
  | true =>
    have := h2 rfl
    have hle : ∀ (l : List Nat) (i : Nat), l.getD i 0 ≤ l.sum := by
      intro l
      induction l with
      | nil => intro i; simp
      | cons a l ih =>
        intro i
        cases i with
        | zero => simp
        | succ i => have := ih i; simp at this ⊢; omega
    have := hle Ns i
    rw [if_pos rfl]; omega
def I64 (n : Int) : Prop := -9223372036854775808 ≤ n ∧ n ≤ 9223372036854775807
end Go.Proofs.YtgcnolapjppbpaaGreatDoor
namespace Go.Proofs.YtgcnolapjppbpaaGreatDoor
open Go.RowKit
set_option maxRecDepth 100000
theorem box_range {w : World} {b : Nat} {cs : Array Value} {t : TypeId} (h : Box w b cs t) : w.rangeAt b 0 cs.toList := fun j v hv => by
  rw [Nat.zero_add]
  exact h.cell j v (by rw [← Array.getElem?_toList]; exact hv)
set_option maxHeartbeats 800000 in
theorem firsts_no (d : DiskM) (p : Nat) (F : Nat → Prop) (at_ n : Int) (w : World) (h : IsDisk w d p F) (hm : ¬ mayA d.strs.length at_ n) (ha : I64 at_) (hn : I64 n) :
    Calls Tryz.prog 101 #[.pointer (some ⟨p, 0, none⟩), .int .i64 at_, .int .i64 n] w fun e w' => e = .returned (.tuple #[.agg #[.int .i64 0, .int .i64 0], .bool false]) ∧ Below w.heap.size w w' := by
  obtain ⟨ha1, ha2⟩ := ha
  obtain ⟨hn1, hn2⟩ := hn
  have hN : d.strs.length ≤ 4096 := by obtain ⟨bb, tv, pv, q, h1, h2, h3, h4, h5, _⟩ := h; exact h5
  obtain ⟨N, hNe⟩ : ∃ N, N = d.strs.length := ⟨_, rfl⟩
  have HB := Lib.hid (below_alloc w (.cells #[.int .i64 0, .int .i64 0] 205))
  have hbl := blocks_calls d p F (w.alloc (.cells #[.int .i64 0, .int .i64 0] 205)) (h.mod (Mod.of_below (F := fun _ => False) (below_alloc w _)) (fun _ _ h => h))
  rw [← hNe] at hbl hN hm
  have HBl := Lib.hid hbl
  unfold mayA at hm
  clear h hNe hbl
  by_cases c1 : at_ < 0
  · go_enter Tryz.func101, Tryz.ntmps101
    go_wp2_with fail
    refine HBl.out.mono ?_
    rintro r w1 ⟨rfl, rfl⟩
    go_wp2_with fail
    exact ret_cell_tmp rfl rfl w.heap.size 0 rfl [.int .i64 0, .int .i64 0] _ (box_range (Box.new _ _ _)) Tryz.underlying205 rfl (by kernel_rfl) _ rfl ⟨rfl, HB.out⟩
  have c1' : decide (at_ < 0) = false := by simpa using c1
  by_cases c2 : n < 1
  · go_enter Tryz.func101, Tryz.ntmps101
    go_wp2_with fail
    refine HBl.out.mono ?_
    rintro r w1 ⟨rfl, rfl⟩
    go_wp2_with fail
    exact ret_cell_tmp rfl rfl w.heap.size 0 rfl [.int .i64 0, .int .i64 0] _ (box_range (Box.new _ _ _)) Tryz.underlying205 rfl (by kernel_rfl) _ rfl ⟨rfl, HB.out⟩
  have c2' : decide (n < 1) = false := by simpa using c2
  by_cases c3 : (N : Int) < at_
  · go_enter Tryz.func101, Tryz.ntmps101
    go_wp2_with fail
    refine HBl.out.mono ?_
    rintro r w1 ⟨rfl, rfl⟩
    go_wp2_with fail
    exact ret_cell_tmp rfl rfl w.heap.size 0 rfl [.int .i64 0, .int .i64 0] _ (box_range (Box.new _ _ _)) Tryz.underlying205 rfl (by kernel_rfl) _ rfl ⟨rfl, HB.out⟩
  have c3' : decide ((N : Int) < at_) = false := by simpa using c3
  by_cases c4 : (N : Int) < n
  · go_enter Tryz.func101, Tryz.ntmps101
    go_wp2_with fail
    refine HBl.out.mono ?_
    rintro r w1 ⟨rfl, rfl⟩
    go_wp2_with fail
    exact ret_cell_tmp rfl rfl w.heap.size 0 rfl [.int .i64 0, .int .i64 0] _ (box_range (Box.new _ _ _)) Tryz.underlying205 rfl (by kernel_rfl) _ rfl ⟨rfl, HB.out⟩
  have c4' : decide ((N : Int) < n) = false := by simpa using c4
  have c5 : (N : Int) < at_ + 1 + 2 * n := by omega
  go_enter Tryz.func101, Tryz.ntmps101
  go_wp2_with fail
  refine HBl.out.mono ?_
  rintro r w1 ⟨rfl, rfl⟩
  go_wp2_with fail
  exact ret_cell_tmp rfl rfl w.heap.size 0 rfl [.int .i64 0, .int .i64 0] _ (box_range (Box.new _ _ _)) Tryz.underlying205 rfl (by kernel_rfl) _ rfl ⟨rfl, HB.out⟩
theorem firsts_yes (d : DiskM) (p : Nat) (F : Nat → Prop) (at_ n : Int) (w : World) (h : IsDisk w d p F) (hm : mayA d.strs.length at_ n) :
    Calls Tryz.prog 101 #[.pointer (some ⟨p, 0, none⟩), .int .i64 at_, .int .i64 n] w fun e w' => e = .returned (.tuple #[.agg #[.int .i64 (at_ + 1), .int .i64 (at_ + 1 + n)], .bool true]) ∧ Below w.heap.size w w' := by
  have hN : d.strs.length ≤ 4096 := by obtain ⟨bb, tv, pv, q, h1, h2, h3, h4, h5, _⟩ := h; exact h5
  obtain ⟨N, hNe⟩ : ∃ N, N = d.strs.length := ⟨_, rfl⟩
  have hbl := blocks_calls d p F (w.alloc (.cells #[.int .i64 0, .int .i64 0] 205)) (h.mod (Mod.of_below (F := fun _ => False) (below_alloc w _)) (fun _ _ h => h))
  rw [← hNe] at hbl hN hm
  have HBl := Lib.hid hbl
  unfold mayA at hm
  obtain ⟨m1, m2, m3⟩ := hm
  clear h hNe hbl
  have c1' : decide (at_ < 0) = false := by simp; omega
  have c2' : decide (n < 1) = false := by simp; omega
  have c3' : decide ((N : Int) < at_) = false := by simp; omega
  have c4' : decide ((N : Int) < n) = false := by simp; omega
  have c5' : decide ((N : Int) < at_ + 1 + 2 * n) = false := by simp; omega
  go_enter Tryz.func101, Tryz.ntmps101
  go_wp2_with fail
  refine HBl.out.mono ?_
  rintro r w1 ⟨rfl, rfl⟩
  go_wp2_with fail
  exact ret_cell_tmp rfl rfl w.heap.size 0 rfl [.int .i64 (at_ + 1), .int .i64 (at_ + 1 + n)] _ (box_range (Box.new _ _ _)) Tryz.underlying205 rfl (by kernel_rfl) _ rfl ⟨rfl, below_alloc _ _⟩
theorem cells_new (w : World) (cs : Array Value) (t : TypeId) (xs : List Value) (h : cs.toList = xs) : ∀ j u, xs[j]? = some u → (w.alloc (.cells cs t)).cell? ((⟨w.heap.size, 0, none⟩ : Addr).add j) = some u := by
  intro j u hj
  rw [Go.WideShapes.add_plain, Nat.zero_add]
  refine (Box.new w cs t).cell j u ?_
  rw [← Array.getElem?_toList, h]; exact hj
theorem V8_one (l : List UInt8) : ∀ u ∈ l.map V8, u.oneCell' = true := by
  intro u hu
  obtain ⟨c, _, rfl⟩ := List.mem_map.1 hu
  simp [V8, Value.oneCell']
theorem put_calls (B q : Nat) (sv : Value) (xs : List UInt8) (m : UInt32) (w : World) (hq : Box w q #[sv] 92) (ho : w.ownsRow B 5 1 sv xs.length (xs.map V8)) (hne : ∀ k, sv.ownBlock = some k → k ≠ q) (hB : B ≤ w.heap.size) (hBq : B ≤ q) (hx : xs.length ≤ 1000) :
    Calls Tryz.prog 136 #[.int .u32 (I32 m), .pointer (some ⟨q, 0, none⟩)] w fun e w' => e = .returned (.tuple #[]) ∧ ∃ sv', Box w' q #[sv'] 92 ∧ w'.ownsRow B 5 1 sv' (xs.length + 4) ((xs ++ le m.toNat 4).map V8) ∧ (∀ k, sv'.ownBlock = some k → k ≠ q) ∧ Below B w w' := by
  obtain ⟨sa, sc, rfl, _⟩ := own_slice ho
  have c0 := hq.cell 0 _ rfl
  have hyl : (#[.int .u8 (I32 m % 256), .int .u8 (I32 m / 256 % 256), .int .u8 (I32 m / 65536 % 256), .int .u8 (I32 m / 16777216 % 256)] : Array Value).toList = (le m.toNat 4).map V8 := by rw [le4_vals]; rfl
  have hbA := fun ob => below_alloc w ob
  have HQ := Lib.hid (fun ob => Box.below hq (hbA ob))
  have HO := Lib.hid (fun ob => own_below ho (hbA ob))
  have HY := Lib.hid hyl
  have Hne := Lib.hid hne
  have HsA := Lib.hid (fun ob => Nat.le_trans hB (hbA ob).size)
  have HBA := Lib.hid (fun ob => (hbA ob).mono hB)
  have hql := hq.lt
  have Hql := Lib.hid hql
  clear hq ho hyl hne hbA
  go_enter Tryz.func136, Tryz.ntmps136
  go_wp2_with (at_builtin; refine appB rfl _ _ rfl B _ _ _ rfl (HO.out _) ⟨w.heap.size, 0, none⟩ 4 4 _ rfl (by rw [List.length_map, le_length]) (cells_new _ _ _ _ HY.out) (V8_one _) (by omega) (HsA.out _) ?_)
  intro v' w1 hown' hg' hm'
  have hq1 := Box.mod (HQ.out _) (Mod.of_grown (F := fun k => (Value.slice sa xs.length sc).ownBlock = some k) hg' (fun _ h => h)) (fun e => Hne.out _ e rfl)
  have c1 := hq1.cell 0 _ rfl
  have f1 := hq1.free 0
  have hne' : ∀ k, v'.ownBlock = some k → k ≠ q := fun k hk e => by
    rcases hm' with h | h
    · rw [h] at hk; exact Hne.out k hk e
    · rw [h] at hk; injection hk with hk; have := Hql.out; rw [World.size_alloc] at hk; omega
  have hb1 := (HBA.out (.cells #[.int .u8 (I32 m % 256), .int .u8 (I32 m / 256 % 256), .int .u8 (I32 m / 65536 % 256), .int .u8 (I32 m / 16777216 % 256)] 5)).trans (below_grown hg' (HsA.out _) (fun k hk => ((HO.out (.cells #[] 5)).lt k hk).1))
  rw [← List.map_append] at hown'
  obtain ⟨na, nc, rfl, _⟩ := own_slice hown'
  have HN := Lib.hid (And.intro hq1 (And.intro hown' (And.intro hne' hb1)))
  clear hq1 hown' hne' hb1 hg' hm' HQ HO Hne HBA c0 hql
  go_wp2_with fail
  refine bodyPost_end (results_none rfl _ _ _) rfl ?_
  obtain ⟨h1, h2, h3, h4⟩ := HN.out
  refine ⟨rfl, _, h1.set 0 _, own_mod h2 (Mod.set (fun k => k = q) w1 ⟨q, 0, none⟩ _ rfl) (fun k hk e => h3 k hk e), h3, h4.setCell hBq _⟩
theorem wrap_u32n' (n : Int) : IntKind.u32.wrap n = n % 4294967296 := by simp [IntKind.wrap, IntKind.bits, IntKind.signed]
theorem le_mod (n : Nat) : le (UInt32.ofNat n).toNat 4 = le n 4 := by
  have h : (UInt32.ofNat n).toNat = n % 2 ^ 32 := by show n % 2 ^ 32 = _; rfl
  have hof : ∀ a b : Nat, a % 256 = b % 256 → UInt8.ofNat a = UInt8.ofNat b := fun a b hab => by
    refine UInt8.toNat_inj.1 ?_
    show a % 2 ^ 8 = b % 2 ^ 8
    exact hab
  rw [h]
  simp only [le]
  rw [hof (n % 2 ^ 32) n (by omega), hof (n % 2 ^ 32 / 256) (n / 256) (by omega), hof (n % 2 ^ 32 / 256 / 256) (n / 256 / 256) (by omega), hof (n % 2 ^ 32 / 256 / 256 / 256) (n / 256 / 256 / 256) (by omega)]
theorem header_calls (e : UInt32) (v : Value) (l : List UInt8) (w : World) (hv : Rd w v l.length (l.map V8)) :
    Calls Tryz.prog 102 #[.int .u32 (I32 e), v] w fun r w' => r = .returned (.string (SB (hdrM e.toNat l))) ∧ Below w.heap.size w w' := by
  obtain ⟨va, vc, rfl⟩ : ∃ a c, v = .slice a l.length c := by obtain ⟨a, c, h, _⟩ := hv; exact ⟨a, c, h⟩
  have hmk : ∀ w, (Instr.makeSlice 92 (.int .i64 0) (.int .i64 16)).run Tryz.prog w = .ok (.slice (some ⟨w.heap.size, 0, none⟩) 0 16) (w.alloc (.cells (madeCells #[.int .u8 0] 16) 5)) := fun w => run_make_room (P := Tryz.prog) 92 5 (.int .u8 0) 1 Tryz.underlying92 info_u8 rfl .i64 .i64 16 (by omega) (by omega) w
  obtain ⟨lu, hlu⟩ : ∃ lu, lu = UInt32.ofNat l.length := ⟨_, rfl⟩
  have hcv : ∀ w, (convert 3 87 (.int .i64 (l.length : Int))).run Tryz.prog w = .ok (.int .u32 (I32 lu)) w := fun w => by
    have h1 : I32 lu = (l.length : Int) % 4294967296 := by
      rw [hlu]; show ((l.length % 2 ^ 32 : Nat) : Int) = _; omega
    rw [run_convert_int (P := Tryz.prog) w 3 87 .i64 (l.length : Int) (by kernel_rfl) (by kernel_rfl), show Tryz.prog.intKind 87 = .u32 by kernel_rfl, wrap_u32n', h1]
  have hle : le lu.toNat 4 = le l.length 4 := by rw [hlu]; exact le_mod _
  obtain ⟨g, hg⟩ : ∃ g, g = w.heap.size := ⟨_, rfl⟩
  obtain ⟨sv, hsv⟩ : ∃ sv, sv = SB (hdrM e.toNat l) := ⟨_, rfl⟩
  rw [← hsv]
  have Hsv := Lib.hid hsv
  have HV := Lib.hid hv
  have Hle := Lib.hid hle
  clear hv hlu hle hsv
  have ho0 := own_below (World.ownsRow_made (base := w.heap.size) (e := 5) (size := 1) w (madeCells #[.int .u8 0] 16) 16 (Nat.le_refl _) (by unfold maxLen; omega) (by simp [size_madeCells])) (below_alloc _ (.cells #[.slice (some ⟨w.heap.size, 0, none⟩) 0 16] 92))
  have hq0 := Box.new (w.alloc (.cells (madeCells #[.int .u8 0] 16) 5)) #[.slice (some ⟨w.heap.size, 0, none⟩) 0 16] 92
  have hb0 := below_trans (below_alloc w (.cells (madeCells #[.int .u8 0] 16) 5)) (below_alloc _ (.cells #[.slice (some ⟨w.heap.size, 0, none⟩) 0 16] 92))
  rw [World.size_alloc] at hq0
  have h1 := put_calls w.heap.size (w.heap.size + 1) (.slice (some ⟨w.heap.size, 0, none⟩) 0 16) [] e _ hq0 ho0 (fun k hk e => by simp [Value.ownBlock] at hk; omega) hb0.size (Nat.le_succ _) (by simp)
  have H1 := Lib.hid h1
  have HB0 := Lib.hid hb0
  clear ho0 hq0 hb0 h1
  go_enter Tryz.func102, Tryz.ntmps102
  go_wp2_with fail
  refine H1.out.mono ?_
  rintro r w1 ⟨rfl, s1, hq1, ho1, hn1, hb1⟩
  have HB1 := Lib.hid (HB0.out.trans hb1)
  obtain ⟨B, hB⟩ : ∃ B, B = w.heap.size := ⟨_, rfl⟩
  rw [← hB] at hq1 ho1 hn1 HB1 ⊢
  have HBe := Lib.hid hB
  have h2 := put_calls B (B + 1) s1 (le e.toNat 4) lu w1 hq1 (by simpa [le_length] using ho1) hn1 (Nat.le_trans (Nat.le_of_eq HBe.out) HB1.out.size) (Nat.le_succ _) (by simp [le_length])
  have H2 := Lib.hid h2
  clear hq1 ho1 hn1 hb1 H1 HB0 h2 hB
  go_wp2_with fail
  refine H2.out.mono ?_
  rintro r w2 ⟨rfl, s2, hq2, ho2, hn2, hb2⟩
  rw [Hle.out] at ho2
  have HB2 := Lib.hid (HB1.out.trans hb2)
  have HBw2 := Lib.hid (show Below w.heap.size w w2 from by rw [← HBe.out]; exact HB2.out)
  have Hsum := Lib.hid (sumOf0_calls (.slice va l.length vc) l w2 (HV.out.below HBw2.out))
  have HQ2 := Lib.hid hq2
  have HO2 := Lib.hid ho2
  have HN2 := Lib.hid hn2
  clear hq2 ho2 hn2 hb2 H2 HB1
  go_wp2_with fail
  refine Hsum.out.mono ?_
  rintro r w3 ⟨rfl, hb3⟩
  have HB3 := Lib.hid (HB2.out.trans (hb3.mono (Nat.le_trans (Nat.le_of_eq HBe.out) HB2.out.size)))
  have h3 := put_calls B (B + 1) s2 (le e.toNat 4 ++ le l.length 4) (crc l) w3 (Box.below HQ2.out hb3) (by have := own_below HO2.out hb3; simpa [le_length] using this) HN2.out (Nat.le_trans (Nat.le_of_eq HBe.out) HB3.out.size) (Nat.le_succ _) (by simp [le_length])
  have H3 := Lib.hid h3
  clear h3 hb3 Hsum HQ2 HO2 HN2 HB2
  go_wp2_with fail
  refine H3.out.mono ?_
  rintro r w4 ⟨rfl, s4, hq4, ho4, hn4, hb4⟩
  have HB4 := Lib.hid (HB3.out.trans hb4)
  have ho4 : w4.ownsRow B 5 1 s4 (hd12 e.toNat l).length ((hd12 e.toNat l).map V8) := by
    have := ho4
    rw [hd12_length]
    simpa [hd12, le_length] using this
  have c4 := hq4.cell 0 _ rfl
  have Hsum := Lib.hid (sumOf0_calls s4 (hd12 e.toNat l) w4 (rd_of_own ho4))
  have HQ4 := Lib.hid hq4
  have HO4 := Lib.hid ho4
  have HN4 := Lib.hid hn4
  clear hq4 ho4 hn4 hb4 H3 HB3
  go_wp2_with fail
  refine Hsum.out.mono ?_
  rintro r w5 ⟨rfl, hb5⟩
  have HB5 := Lib.hid (HB4.out.trans (hb5.mono (Nat.le_trans (Nat.le_of_eq HBe.out) HB4.out.size)))
  have h5 := put_calls B (B + 1) s4 (hd12 e.toNat l) (crc (hd12 e.toNat l)) w5 (Box.below HQ4.out hb5) (own_below HO4.out hb5) HN4.out (Nat.le_trans (Nat.le_of_eq HBe.out) HB5.out.size) (Nat.le_succ _) (by rw [hd12_length]; omega)
  have H5 := Lib.hid h5
  clear h5 hb5 Hsum HQ4 HO4 HN4 HB4 c4
  go_wp2_with fail
  refine H5.out.mono ?_
  rintro r w6 ⟨rfl, s6, hq6, ho6, _, hb6⟩
  have HB6 := Lib.hid (HB5.out.trans hb6)
  have c6 := hq6.cell 0 _ rfl
  have ho6 : w6.ownsRow B 5 1 s6 (hdrM e.toNat l).length ((hdrM e.toNat l).map V8) := by
    have := ho6
    rw [hdrM_length]
    rw [hd12_length] at this
    exact this
  have kc := convS (hdrM e.toNat l) (rd_of_own ho6) rfl
  rw [← Hsv.out] at kc
  clear hq6 ho6 hb6 H5 HB5
  go_wp2_with fail
  go_ret
  exact ⟨rfl, by rw [← HBe.out]; exact HB6.out⟩
end Go.Proofs.YtgcnolapjppbpaaGreatDoor
