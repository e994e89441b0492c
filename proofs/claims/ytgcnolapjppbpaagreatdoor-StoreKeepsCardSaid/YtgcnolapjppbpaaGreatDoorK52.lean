/-
  Texts of one proof, one behind the other.
-/
import Derived.Test.YtgcnolapjppbpaaGreatDoorK51
import Derived.Test.YtgcnolapjppbpaaGreatDoorK36
import Derived.Test.YtgcnolapjppbpaaGreatDoorK50
import Derived.Test.YtgcnolapjppbpaaGreatDoorK06
namespace Go.Proofs.YtgcnolapjppbpaaGreatDoor
open Go.RowKit
set_option maxRecDepth 100000
structure LivI (w wr : World) (pd ps pl q : Nat) (F : Nat → Prop) (d : DiskM) (s : StoM) (st : StM) (sv : Value) : Prop where
  dk : IsDisk wr d pd F
  sb : StoB wr ps pd s.epoch (.pointer (some ⟨pl, 0, none⟩)) s.dead
  lg : IsLog wr s.log pl pd
  np : ¬ F ps ∧ ¬ F pl ∧ ps ≠ pl
  nq : ¬ F q ∧ q ≠ ps ∧ q ≠ pl
  lo : (∀ k, F k → w.heap.size ≤ k) ∧ w.heap.size ≤ ps ∧ w.heap.size ≤ pl ∧ w.heap.size ≤ q
  si : StoI d s st
  al : s.dead = false ∧ s.log.dead = false
  bx : Box wr q #[.int .i64 st.clock, .int .i64 st.births, sv] 30
  rs : RdS wr sv st.l
  nv : ∀ k, sv.ownBlock = some k → ¬ F k ∧ k ≠ ps ∧ k ≠ pl ∧ k ≠ q ∧ k < wr.heap.size
  bel : Below w.heap.size w wr
theorem LivI.below {w wr w2 : World} {pd ps pl q : Nat} {F : Nat → Prop} {d : DiskM} {s : StoM} {st : StM} {sv : Value} (h : LivI w wr pd ps pl q F d s st sv) (hb : Below wr.heap.size wr w2) : LivI w w2 pd ps pl q F d s st sv :=
  ⟨h.dk.grow hb, h.sb.below hb, Box.below h.lg hb, h.np, h.nq, h.lo, h.si, h.al, h.bx.below hb, h.rs.below hb, fun k hk => by have := h.nv k hk; exact ⟨this.1, this.2.1, this.2.2.1, this.2.2.2.1, Nat.lt_of_lt_of_le this.2.2.2.2 hb.size⟩, h.bel.trans (hb.mono h.bel.size)⟩
theorem LivI.apd {w wr w2 : World} {pd ps pl q : Nat} {F : Nat → Prop} {d : DiskM} {s : StoM} {st : StM} {sv : Value} {R : StoM × DiskM × Int} (h : LivI w wr pd ps pl q F d s st sv) (ha : Appd wr ps pl pd F R w2) : Below w.heap.size w w2 ∧ Box w2 q #[.int .i64 st.clock, .int .i64 st.births, sv] 30 :=
  ⟨h.bel.trans (ha.md.below h.bel.size (fun k hk => by
    rcases hk with hk | hk | hk
    · have := h.lo.2.1; omega
    · have := h.lo.2.2.1; omega
    · exact h.lo.1 k hk)), h.bx.mod ha.md (fun hk => by
    rcases hk with hk | hk | hk
    · exact h.nq.2.1 hk
    · exact h.nq.2.2 hk
    · exact h.nq.1 hk)⟩
structure NxtI (wr : World) (q q8 : Nat) (ps pl : Nat) (F : Nat → Prop) (C B : Int) (o : Value) (L : List SesM) : Prop where
  bx : Box wr q8 #[.int .i64 C, .int .i64 B, o] 30
  rs : RdS wr o L
  nq : q8 ≠ q ∧ ¬ F q8 ∧ q8 ≠ ps ∧ q8 ≠ pl
  nv : ∀ k, o.ownBlock = some k → ¬ F k ∧ k ≠ ps ∧ k ≠ pl ∧ k ≠ q ∧ k ≠ q8 ∧ k < wr.heap.size
theorem applyM_may {st : StM} {e : EvtM} (h : (applyM st e).1 = 0) : mayE e = true := by
  unfold applyM at h
  split at h
  · assumption
  · cases h
end Go.Proofs.YtgcnolapjppbpaaGreatDoor
namespace Go.Proofs.YtgcnolapjppbpaaGreatDoor
open Go.RowKit
set_option maxRecDepth 100000
structure FailM where
  at_ : Int
  writes : Int
  v : Value
  cuts : List Int
def FailM.cells (x : FailM) : List Value := [.int .i64 x.at_, .int .i64 x.writes, x.v]
structure FailM.Ok (W : World) (x : FailM) : Prop where
  at_ : -9223372036854775808 ≤ x.at_ ∧ x.at_ ≤ 9223372036854775807
  writes : -9223372036854775808 ≤ x.writes ∧ x.writes ≤ 9223372036854775807
  rd : Rd W x.v x.cuts.length (x.cuts.map (Value.int .i64))
  ok : ∀ y ∈ x.cuts, I64 y
def FailM.zero : FailM := ⟨0, 0, .slice none 0 0, []⟩
theorem flatFail_get (l : List FailM) (k j : Nat) (hk : k < l.length) (hj : j < 3) : (l.flatMap FailM.cells).getD (k * 3 + j) undef = (l[k]).cells.getD j undef := by
  have := flatMap_get FailM.cells 3 (fun _ => rfl) (by omega) FailM.zero l k j hk hj
  rw [this]; simp [List.getD, hk]
theorem fail_at {W : World} {a : Option Addr} {n c : Nat} {l : List FailM} (h : Rd W (.slice a n c) n (l.flatMap FailM.cells)) (k : Nat) (hk : k < l.length) :
    ∃ b off, a = some ⟨b, off, none⟩ ∧ W.cell? ⟨b, off + k * 3, none⟩ = some (.int .i64 l[k].at_) ∧ W.cell? ⟨b, off + k * 3 + 1, none⟩ = some (.int .i64 l[k].writes) ∧ W.cell? ⟨b, off + k * 3 + 2, none⟩ = some l[k].v := by
  have hlen : (l.flatMap FailM.cells).length = l.length * 3 := flatMap_len FailM.cells 3 (fun _ => rfl) l
  obtain ⟨a0, cap0, g1, _, _, _, g2⟩ := h
  injection g1 with g1 _ g3
  subst g1
  obtain ⟨b, off, f1, f2⟩ := g2 (k * 3 + 0) (by rw [hlen]; omega)
  have hc : ∀ j, j < 3 → W.cell? ⟨b, off + k * 3 + j, none⟩ = some ((l[k]).cells.getD j undef) := fun j hj => by
    obtain ⟨b1, off1, f3, f4⟩ := g2 (k * 3 + j) (by rw [hlen]; omega)
    rw [f1] at f3
    injection f3 with f3; injection f3 with f7 f8
    subst f7; subst f8
    rw [Nat.add_assoc, f4, flatFail_get l k j hk hj]
  exact ⟨b, off, f1, hc 0 (by omega), hc 1 (by omega), hc 2 (by omega)⟩
def IsCuts (fs : List FailM) (v : Value) (l : List Int) : Prop := (v = .slice none 0 0 ∧ l = []) ∨ ∃ f ∈ fs, v = f.v ∧ l = f.cuts
set_option maxHeartbeats 3200000 in
theorem cuts_calls (fs : List FailM) (fv : Value) (i n : Int) (w : World) (hr : Rd w fv fs.length (fs.flatMap FailM.cells)) (hok : ∀ f ∈ fs, (-9223372036854775808 ≤ f.at_ ∧ f.at_ ≤ 9223372036854775807) ∧ ∃ a c, f.v = .slice a f.cuts.length c) (hn1 : -9223372036854775808 ≤ n) (hn2 : n ≤ 9223372036854775807) :
    Calls Tryz.prog 15 #[fv, .int .i64 i, .int .i64 n] w fun e w' => ∃ v, e = .returned v ∧ (∃ l, IsCuts fs v l) ∧ ∃ k, w' = w.drewN k := by
  obtain ⟨fa, fc, rfl⟩ : ∃ a c, fv = .slice a fs.length c := by obtain ⟨a, c, h, _⟩ := hr; exact ⟨a, c, h⟩
  obtain ⟨fn, hfn⟩ : ∃ m, m = fs.length := ⟨_, rfl⟩
  have hcl : fs.length ≤ 9223372036854775807 := by obtain ⟨_, _, e, h1, h2, _⟩ := hr; injection e with _ e2 e3; omega
  rw [← hfn] at hr hcl ⊢
  have HR := Lib.hid hr
  have HOK := Lib.hid hok
  have HFN := Lib.hid hfn
  have HN := Lib.hid (And.intro hn1 hn2)
  clear hr hok hfn hn1 hn2
  go_enter Tryz.func15, Tryz.ntmps15
  go_wp2_with fail
  go_loopg [7, 8] fn (fun gk cv iv wr => ∃ (k : Nat) (l : List Int), gk + k = fn ∧ iv = .int .i64 (k : Int) ∧ k ≤ 5 ∧ IsCuts fs cv l ∧ wr = w)
  case atStart => exact ⟨0, [], Nat.add_zero _, rfl, by omega, .inl ⟨rfl, rfl⟩, rfl⟩
  case round =>
    obtain ⟨k, l, hgk, rfl, hk5, hcu, rfl⟩ := hrel
    have k0 : (0 : Int) ≤ (k : Int) := by omega
    have HGK := Lib.hid hgk
    have HK5 := Lib.hid hk5
    have HCU := Lib.hid hcu
    clear hgk hk5 hcu
    by_cases hk : k < fn
    rotate_left
    · have k1 : ¬ (k : Int) < (fn : Int) := by omega
      have k2 : decide ((k : Int) < (fn : Int)) = false := by simpa using k1
      clear hk
      go_wp2_with fail
      go_ret
      exact ⟨_, rfl, ⟨l, HCU.out⟩, 0, rfl⟩
    have k1 : (k : Int) < (fn : Int) := by omega
    have k2 : decide ((k : Int) < (fn : Int)) = true := by simpa using k1
    have HK := Lib.hid hk
    by_cases h5 : k < 5
    rotate_left
    · have k3 : ¬ (k : Int) < 5 := by omega
      have k4 : decide ((k : Int) < 5) = false := by simpa using k3
      clear hk h5
      go_wp2_with fail
      go_ret
      exact ⟨_, rfl, ⟨l, HCU.out⟩, 0, rfl⟩
    have k3 : (k : Int) < 5 := by omega
    have k4 : decide ((k : Int) < 5) = true := by simpa using k3
    have HH5 := Lib.hid h5
    have hkl : k < fs.length := by have := HFN.out; omega
    obtain ⟨fb, fo, hfa, hc0, hc1, hc2⟩ := fail_at HR.out k hkl
    subst hfa
    obtain ⟨f, hf⟩ : ∃ f, f = fs[k] := ⟨_, rfl⟩
    rw [← hf] at hc0 hc1 hc2
    have hmem : f ∈ fs := by rw [hf]; exact List.getElem_mem hkl
    obtain ⟨ho1, a, c, hv⟩ := HOK.out f hmem
    have HPK := Lib.hid (fun W => pick_calls f.at_ n W ho1.1 ho1.2 HN.out.1 HN.out.2)
    obtain ⟨y, hy⟩ : ∃ y, y = pickI f.at_ n := ⟨_, rfl⟩
    rw [← hy] at HPK
    have HNC := Lib.hid (show IsCuts fs (.slice a f.cuts.length c) f.cuts from .inr ⟨f, hmem, hv.symm, rfl⟩)
    rw [hv] at hc2
    obtain ⟨fl, hfl⟩ : ∃ m, m = f.cuts.length := ⟨_, rfl⟩
    rw [← hfl] at hc2 HNC
    clear hk h5 hkl hf hmem ho1 hv hy hfl hc1
    go_wp2_with fail
    refine (HPK.out _).mono ?_
    rintro ev w2 ⟨rfl, rfl⟩
    cases hq : (y == i)
    · go_wp2_with fail
      go_roundg (fn - (k + 1))
      case measure => have := HGK.out; have := HK.out; omega
      case rel => exact ⟨k + 1, l, by have := HGK.out; have := HK.out; omega, by go_num, by have := HH5.out; omega, HCU.out, rfl⟩
    · go_wp2_with fail
      go_roundg (fn - (k + 1))
      case measure => have := HGK.out; have := HK.out; omega
      case rel => exact ⟨k + 1, f.cuts, by have := HGK.out; have := HK.out; omega, by go_num, by have := HH5.out; omega, HNC.out, rfl⟩
theorem stoDead_calls (e : EvtM) (c b : Int) (va : Option Addr) (n vc ps pd : Nat) (ep : UInt32) (lv : Value) (w : World) (h : StoB w ps pd ep lv true) :
    Calls Tryz.prog 13 #[.pointer (some ⟨ps, 0, none⟩), .agg e.cells, .agg #[.int .i64 c, .int .i64 b, .slice va n vc]] w fun r w' => r = .returned (.iface 91 (.int .i64 22)) ∧ Below w.heap.size w w' := by
  have hba := below_two w (.cells e.cells 47) (.cells #[.int .i64 c, .int .i64 b, .slice va n vc] 30)
  have c3 : ((w.alloc (.cells e.cells 47)).alloc (.cells #[.int .i64 c, .int .i64 b, .slice va n vc] 30)).cell? ⟨ps, 3, none⟩ = some (.bool true) := (h.bx.below hba).cell 3 _ rfl
  have HB := Lib.hid hba
  clear hba h
  go_enter Tryz.func13, Tryz.ntmps13
  go_wp2_with fail
  go_ret
  exact ⟨rfl, HB.out⟩
end Go.Proofs.YtgcnolapjppbpaaGreatDoor
