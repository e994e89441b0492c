/-
  The walk of LogKeeps.
-/
import Derived.Test.YtjoadcgegobjpaaLogW
import Derived.Test.YtjoadcgegobjpaaPick
import Derived.Maps.AppendAt
import Derived.BigQuiet
namespace Go.Proofs.Ytjoadcgegobjpaa
open Go.RowKit
set_option maxRecDepth 100000

theorem info_rowsW : (Try.prog.info? 34).map (fun i => (i.zero, i.size, i.bytes)) = some (some (.slice none 0 0), 1, 24) := by kernel_rfl
/-- 'append(l, p)' onto a list of lists of bytes that is owned. -/
theorem appW {w : World} {ops : Array Oper} {rest : List Oper} {o : Oper} {a : Act} {Q : Exit → Act → World → Prop} (hgd : o.guard = none) (s x : Operand)
    (ho : o.op = .call { callee := .builtin .append, args := #[s, x], argTypes := #[22, 22] })
    (base : Nat) (v : Value) (n : Nat) (xs : List Value) (hs : a.eval s = v) (hown : w.ownsRow base 34 1 v n xs)
    (ad : Addr) (m c : Nat) (ys : List Value) (hx : a.eval x = .slice (some ad) m c) (hl : ys.length = m) (hy : ∀ j u, ys[j]? = some u → w.cell? (ad.add j) = some u) (h1 : ∀ u ∈ ys, u.oneCell' = true)
    (hroom : n + m ≤ 4398046511104) (hbase : base ≤ w.heap.size)
    (h : ∀ v' w', w'.ownsRow base 34 1 v' (n + m) (xs ++ ys) → w.grownBy w' v.ownBlock → Moved w v v' → wpList Try.prog ops Q rest (a.put o.dst v') w') : wpList Try.prog ops Q (o :: rest) a w := by
  obtain ⟨i0, hi, hz0, hz1, hz2⟩ := info_parts info_rowsW
  exact wpList_append_own2 hgd s x 22 ho base 34 i0 (.slice none 0 0) 1 24 Try.underlying22 hi hz0 hz1 hz2 rfl (by decide) v n xs hs hown ad m c ys hx (by omega) hy h1 (by unfold maxLen; omega) (by omega) hbase h
theorem wrap_i64n (x : Int) (h1 : -9223372036854775808 ≤ x) (h2 : x ≤ 9223372036854775807) : IntKind.i64.wrap x = x := by
  simp only [IntKind.wrap, IntKind.signed, IntKind.bits]
  simp
  omega
/-- Over the old log's appends. -/
structure OldI (B : Nat) (W0 : World) (pl pd i : Nat) (l : LogM) (d : DiskM) (F : Nat → Prop) (W : World) : Prop where
  log : IsLog W l pl pd
  disk : IsDisk W d pd F
  lb : l.base = 1 ∧ l.n = 8 ∧ l.epoch = 3 ∧ l.used ≤ 8 ∧ l.records ≤ i
  left : d.left = none
  len : d.strs.length = 9
  small : d.Small
  no : ∀ (j : Nat) (s : ByteArray), d.strs[j]? = some s → NoB 4 s
  trail : d.trail.length ≤ 4 * i
  ge : ∀ k, F k → B ≤ k
  npl : ¬ F pl ∧ B ≤ pl
  below : Below B W0 W
  size : B ≤ W.heap.size
theorem OldI.next {B : Nat} {W0 : World} {pl pd i : Nat} {l : LogM} {d : DiskM} {F F' : Nat → Prop} {W w' : World} (h : OldI B W0 pl pd i l d F W) (p : List UInt8) (hl : IsLog w' (l.append d p).1 pl pd) (hm : Mod (fun b => b = pl ∨ F b) W w')
    (hd : IsDisk w' (l.append d p).2.1 pd F') (hF : ∀ k, F' k → F k ∨ W.heap.size ≤ k) : OldI B W0 pl pd (i + 1) (l.append d p).1 (l.append d p).2.1 F' w' := by
  obtain ⟨b1, b2, b3, b4, b5⟩ := h.lb
  obtain ⟨a1, a2, a3, a4, a5, a6⟩ := append_same l d p
  have ht := (append_len l d p).2
  have h1 := h.trail
  have hs := h.size
  refine ⟨hl, hd, ⟨by rw [a1, b1], by rw [a2, b2], by rw [a3, b3], by have := a5 (by omega); omega, by omega⟩, append_left l h.left (by rw [b1, b2, h.len]; decide) (by omega) p, by rw [(append_len l d p).1]; exact h.len, small_append l h.small p,
    append_clean (by rw [b3]; decide) h.no p, by omega, fun k hk => ?_, ⟨fun hk => ?_, h.npl.2⟩, h.below.trans (hm.below hs (fun b hb => ?_)), Nat.le_trans hs hm.size⟩
  · rcases hF k hk with h2 | h2
    · exact h.ge k h2
    · omega
  · rcases hF pl hk with h2 | h2
    · exact h.npl.1 h2
    · have := h.log.lt; omega
  · rcases hb with rfl | hb
    · exact h.npl.2
    · exact h.ge b hb
/-- Over the new log's appends: what has been appended (want), what the list of the law holds (got). -/
structure NowI (B : Nat) (W0 : World) (pl pd i : Nat) (want got : List (List UInt8)) (wys : List Value) (wv : Value) (l : LogM) (d : DiskM) (F : Nat → Prop) (W : World) : Prop where
  log : IsLog W l pl pd
  disk : IsDisk W d pd F
  inv : LogI 4 1 8 want l d
  len : d.strs.length = 9
  small : d.Small
  trail : d.trail.length ≤ 400 + 4 * i
  recs : l.records ≤ i
  ge : ∀ k, F k → B ≤ k
  npl : ¬ F pl ∧ B ≤ pl
  below : Below B W0 W
  size : B ≤ W.heap.size
  row : W.ownsRow B 34 1 wv got.length wys
  vals : wys.length = got.length ∧ ∀ j, j < got.length → Rd W0 (wys.getD j undef) (got.getD j []).length ((got.getD j []).map V8)
  apart : ∀ k, wv.ownBlock = some k → ¬ F k ∧ k ≠ pl
  cnt : got.length ≤ i
theorem NowI.below' {B : Nat} {W0 : World} {pl pd i : Nat} {want got : List (List UInt8)} {wys : List Value} {wv : Value} {l : LogM} {d : DiskM} {F : Nat → Prop} {W W' : World} (h : NowI B W0 pl pd i want got wys wv l d F W) (hb : Below W.heap.size W W') : NowI B W0 pl pd i want got wys wv l d F W' :=
  ⟨Box.below h.log hb, h.disk.mod (Mod.of_below (F := fun _ => False) hb) (fun _ _ h => h), h.inv, h.len, h.small, h.trail, h.recs, h.ge, h.npl, h.below.trans (hb.mono h.size), Nat.le_trans h.size hb.size, own_below h.row hb, h.vals, h.apart, h.cnt⟩
theorem NowI.appended {B : Nat} {W0 : World} {pl pd i : Nat} {want got want' : List (List UInt8)} {wys : List Value} {wv : Value} {l : LogM} {d : DiskM} {F F' : Nat → Prop} {W w' : World} (h : NowI B W0 pl pd i want got wys wv l d F W) (p : List UInt8)
    (hl : IsLog w' (l.append d p).1 pl pd) (hm : Mod (fun b => b = pl ∨ F b) W w') (hd : IsDisk w' (l.append d p).2.1 pd F') (hF : ∀ k, F' k → F k ∨ W.heap.size ≤ k) (hi : LogI 4 1 8 want' (l.append d p).1 (l.append d p).2.1) : NowI B W0 pl pd (i + 1) want' got wys wv (l.append d p).1 (l.append d p).2.1 F' w' := by
  have ht := (append_len l d p).2
  have hr := (append_same l d p).2.2.2.2.2
  have h1 := h.trail
  have h2 := h.recs
  have hs := h.size
  refine ⟨hl, hd, hi, by rw [(append_len l d p).1]; exact h.len, small_append l h.small p, by omega, by omega, fun k hk => ?_, ⟨fun hk => ?_, h.npl.2⟩, h.below.trans (hm.below hs (fun b hb => ?_)), Nat.le_trans hs hm.size,
    own_mod h.row hm (fun k hk e => ?_), h.vals, fun k hk => ⟨fun e => ?_, (h.apart k hk).2⟩, Nat.le_succ_of_le h.cnt⟩
  · rcases hF k hk with h3 | h3
    · exact h.ge k h3
    · omega
  · rcases hF pl hk with h3 | h3
    · exact h.npl.1 h3
    · have := h.log.lt; omega
  · rcases hb with rfl | hb
    · exact h.npl.2
    · exact h.ge b hb
  · rcases e with e | e
    · exact (h.apart k hk).2 e
    · exact (h.apart k hk).1 e
  · rcases hF k e with h3 | h3
    · exact (h.apart k hk).1 h3
    · have := (h.row.lt k hk).2; omega
theorem NowI.push {B : Nat} {W0 : World} {pl pd i : Nat} {want got : List (List UInt8)} {wys : List Value} {wv v' x : Value} {l : LogM} {d : DiskM} {F : Nat → Prop} {W w' : World} {o : Obj} (h : NowI B W0 pl pd (i + 1) want got wys wv l d F W) (hc : got.length ≤ i) (p : List UInt8)
    (ho : w'.ownsRow B 34 1 v' (got.length + 1) (wys ++ [x])) (hg : (W.alloc o).grownBy w' wv.ownBlock) (hm : Moved (W.alloc o) wv v') (hx : Rd W0 x p.length (p.map V8)) : NowI B W0 pl pd (i + 1) want (got ++ [p]) (wys ++ [x]) v' l d F w' := by
  have hA := h.below' (below_alloc W o)
  have hgm := Mod.of_grown (F := fun b => wv.ownBlock = some b) hg (fun k e => e)
  have hs := hA.size
  refine ⟨Box.mod hA.log hgm (fun e => (h.apart pl e).2 rfl), hA.disk.mod hgm (fun k hk e => (h.apart k e).1 hk), h.inv, h.len, h.small, h.trail, h.recs, h.ge, h.npl, hA.below.trans (hgm.below hs (fun b hb => (hA.row.lt b hb).1)), Nat.le_trans hs hgm.size,
    by rw [List.length_append, List.length_singleton]; exact ho, ⟨by rw [List.length_append, List.length_append, h.vals.1]; rfl, fun j hj => ?_⟩, fun k hk => ?_, by rw [List.length_append, List.length_singleton]; omega⟩
  · rw [List.length_append, List.length_singleton] at hj
    rcases Nat.lt_or_ge j got.length with h1 | h1
    · rw [List.getD, List.getD, List.getElem?_append_left (by rw [h.vals.1]; exact h1), List.getElem?_append_left h1]
      exact h.vals.2 j h1
    · obtain rfl : j = got.length := by omega
      have e1 : (wys ++ [x]).getD got.length undef = x := by rw [List.getD, List.getElem?_append_right (by rw [h.vals.1]; exact Nat.le_refl _), h.vals.1, Nat.sub_self]; rfl
      have e2 : (got ++ [p]).getD got.length [] = p := by rw [List.getD, List.getElem?_append_right (Nat.le_refl _), Nat.sub_self]; rfl
      rw [e1, e2]; exact hx
  · rcases hm with e | e
    · exact h.apart k (e ▸ hk)
    · rw [e, World.size_alloc] at hk
      injection hk with hk
      have h1 := h.log.lt
      exact ⟨fun hf => by have := h.disk.lt k hf; omega, by omega⟩
set_option maxHeartbeats 3200000 in
theorem logKeeps_calls (ov lv : Value) (vs us : List Value) (os ls : List (List UInt8)) (cut : Int) (W : World) (hv : Rd W ov os.length vs) (hvl : vs.length = os.length) (hvr : ∀ i, i < os.length → Rd W (vs.getD i undef) (os.getD i []).length ((os.getD i []).map V8))
    (hu : Rd W lv ls.length us) (hul : us.length = ls.length) (hur : ∀ i, i < ls.length → Rd W (us.getD i undef) (ls.getD i []).length ((ls.getD i []).map V8)) (hc1 : -9223372036854775808 ≤ cut) (hc2 : cut ≤ 9223372036854775807) :
    Calls Try.prog 3 #[ov, lv, .int .i64 cut] W fun e W' => e = .returned (.bool true) ∧ Below W.heap.size W W' := by
  obtain ⟨oa, oc, rfl⟩ : ∃ a c, ov = .slice a os.length c := by obtain ⟨a, c, h, _⟩ := hv; exact ⟨a, c, h⟩
  obtain ⟨la, lc, rfl⟩ : ∃ a c, lv = .slice a ls.length c := by obtain ⟨a, c, h, _⟩ := hu; exact ⟨a, c, h⟩
  have HV := Lib.hid hv
  have Hvl := Lib.hid hvl
  have Hvr := Lib.hid hvr
  have HU := Lib.hid hu
  have Hul := Lib.hid hul
  have Hur := Lib.hid hur
  clear hv hvl hvr hu hul hur
  go_enter Try.func3, Try.ntmps3
  go_wp2_with fail
  refine (works13_calls W).mono ?_
  rintro r w0 ⟨rfl, hb0⟩
  have HB0 := Lib.hid hb0
  clear hb0
  by_cases h1 : 100 < os.length
  · have h1' : (100 : Int) < (os.length : Int) := by omega
    go_wp2_with fail
    go_ret
    exact ⟨rfl, HB0.out⟩
  have h1' : decide ((100 : Int) < (os.length : Int)) = false := by simp; omega
  have h1n : decide (100 < os.length) = false := by simp; omega
  by_cases h2 : 100 < ls.length
  · have h2' : (100 : Int) < (ls.length : Int) := by omega
    go_wp2_with fail
    go_ret
    exact ⟨rfl, HB0.out⟩
  have h2' : decide ((100 : Int) < (ls.length : Int)) = false := by simp; omega
  have h2n : decide (100 < ls.length) = false := by simp; omega
  have H9 := Lib.hid (new_yes 9 w0 (by omega) (by omega))
  go_wp2_with fail
  refine H9.out.mono ?_
  rintro r w1 ⟨pd, F, rfl, hd, hb1, hF⟩
  rw [show errV 0 = .nilIface from rfl]
  obtain ⟨d0, hd0⟩ : ∃ d0 : DiskM, d0 = { strs := List.replicate 9 ByteArray.empty, trail := [], left := none } := ⟨_, rfl⟩
  rw [← hd0] at hd
  have hs0 : d0.strs = List.replicate 9 ByteArray.empty := by rw [hd0]
  have ht0 : d0.trail.length = 0 := by rw [hd0]; rfl
  have hl0 : d0.left = none := by rw [hd0]
  have hn0 : d0.strs.length = 9 := by rw [hs0]; rfl
  have hsm : d0.Small := by
    intro s hs
    rw [hs0] at hs
    rw [List.eq_of_mem_replicate hs]; decide
  have hB1 := HB0.out.trans (hb1.mono HB0.out.size)
  have HD := Lib.hid hd
  have HB1 := Lib.hid hB1
  have HF := Lib.hid (fun k hk => Nat.le_trans HB0.out.size (hF k hk))
  have Hno := Lib.hid (show ∀ (j : Nat) (s : ByteArray), d0.strs[j]? = some s → NoB 4 s from fun j s h => noB_new 4 9 j s (by rw [← hs0]; exact h))
  have Hd0 := Lib.hid (show d0.trail.length = 0 ∧ d0.left = none ∧ d0.strs.length = 9 ∧ d0.Small from ⟨ht0, hl0, hn0, hsm⟩)
  have hnw := log_new_yes d0 pd F 1 8 3 w1 hd (by omega) (by omega)
  rw [show (((3 : UInt32).toNat : Nat) : Int) = 3 from rfl, show ((1 : Nat) : Int) = 1 from rfl, show ((8 : Nat) : Int) = 8 from rfl] at hnw
  have Hnw := Lib.hid hnw
  clear hd hb1 hF hd0 hs0 hnw H9 ht0 hl0 hn0 hsm hB1 HB0
  go_wp2_with fail
  refine Hnw.out.mono ?_
  rintro r w2 ⟨rfl, hl, hb2⟩
  obtain ⟨pl, hpl⟩ : ∃ pl, pl = w1.heap.size := ⟨_, rfl⟩
  rw [← hpl] at hl ⊢
  have hB2 := HB1.out.trans (hb2.mono HB1.out.size)
  have hI0 : OldI W.heap.size W pl pd 0 ⟨1, 8, 3, 0, 0, false⟩ d0 F w2 :=
    ⟨hl, HD.out.mod (Mod.of_below (F := fun _ => False) hb2) (fun _ _ h => h), ⟨rfl, rfl, rfl, Nat.zero_le _, Nat.le_refl _⟩, Hd0.out.2.1, Hd0.out.2.2.1, Hd0.out.2.2.2, Hno.out, by rw [Hd0.out.1]; exact Nat.zero_le _, HF.out, ⟨fun h => by have := HD.out.lt pl h; omega, by rw [hpl]; exact HB1.out.size⟩, hB2, hB2.size⟩
  have HI0 := Lib.hid hI0
  clear hl hb2 hpl hB2 hI0 Hnw HD HB1 HF Hno Hd0
  go_wp2_with fail
  go_loopg [10] os.length (fun gk iv wr => ∃ (i : Nat) (l : LogM) (d : DiskM) (F : Nat → Prop), gk + i = os.length ∧ iv = .int .i64 (i : Int) ∧ OldI W.heap.size W pl pd i l d F wr)
  case atStart => exact ⟨0, _, _, _, rfl, rfl, HI0.out⟩
  case round =>
    clear HI0
    obtain ⟨i, l, d, F, hgk, rfl, hI⟩ := hrel
    by_cases hi : i < os.length
    · have hi1 : (i : Int) < (os.length : Int) := by omega
      have hi0 : (0 : Int) ≤ (i : Int) := by omega
      obtain ⟨b, off, c, e1, hcell⟩ := HV.out.at i (by rw [Hvl.out]; exact hi)
      injection e1 with e1 _ e3
      subst e1; subst e3
      have hx := Hvr.out i hi
      obtain ⟨p, hp⟩ : ∃ p, p = os.getD i [] := ⟨_, rfl⟩
      obtain ⟨x, hxe⟩ : ∃ x, x = vs.getD i undef := ⟨_, rfl⟩
      rw [← hp, ← hxe] at hx
      rw [← hxe] at hcell
      have hcell := below_heap hI.below hcell
      have hap := append_calls l d p pl pd F x wr hI.log hI.disk hI.npl.1 (hx.below hI.below) (by have := hI.trail; omega) (by have := hI.lb; have := hI.len; omega) (by have := hI.lb; omega) (by have := hI.lb; omega)
      have Hap := Lib.hid hap
      have HI := Lib.hid hI
      have Hgk := Lib.hid hgk
      clear hap hI hgk hp hxe hx
      go_wp2_with fail
      refine Hap.out.mono ?_
      rintro r w3 ⟨rfl, a1, a2, F2, a3, a4⟩
      have HN := Lib.hid (HI.out.next p a1 a2 a3 a4)
      clear a1 a2 a3 a4 hcell HI Hap
      go_wp2_with fail
      go_roundg (os.length - (i + 1))
      case measure => have := Hgk.out; omega
      case rel => exact ⟨i + 1, _, _, F2, by have := Hgk.out; omega, by go_num, HN.out⟩
    · obtain rfl : i = os.length := by omega
      have hnw := log_new_yes d pd F 1 8 4 wr hI.disk (by omega) (by rw [hI.len]; decide)
      rw [show (((4 : UInt32).toNat : Nat) : Int) = 4 from rfl, show ((1 : Nat) : Int) = 1 from rfl, show ((8 : Nat) : Int) = 8 from rfl] at hnw
      have Hnw := Lib.hid hnw
      have HI := Lib.hid hI
      clear hnw hI hgk
      go_wp2_with fail
      refine Hnw.out.mono ?_
      rintro r w2 ⟨rfl, hl, hb2⟩
      obtain ⟨pn, hpn⟩ : ∃ pn, pn = wr.heap.size := ⟨_, rfl⟩
      rw [← hpn] at hl ⊢
      have hd2 := HI.out.disk.mod (Mod.of_below (F := fun _ => False) hb2) (fun _ _ h => h)
      have hnpn : ¬ F pn := fun h => by have := HI.out.disk.lt pn h; omega
      have HB2 := Lib.hid (HI.out.below.trans (hb2.mono HI.out.size))
      have hpk0 := pickI_lt cut 20 (by omega)
      have hpk := pick_calls cut 20 w2 hc1 hc2 (by omega) (by omega)
      obtain ⟨ct, hct⟩ : ∃ ct : Nat, pickI cut 20 = (ct : Int) := ⟨(pickI cut 20).toNat, by omega⟩
      rw [hct] at hpk hpk0
      have hcu := cut_calls d pd F (ct : Int) w2 hd2 (by omega)
      have Hpk := Lib.hid hpk
      have Hcu := Lib.hid hcu
      have Hl2 := Lib.hid hl
      have Hnpn := Lib.hid (show ¬ F pn ∧ W.heap.size ≤ pn from ⟨hnpn, by rw [hpn]; exact HI.out.size⟩)
      have hnn : ¬ ((ct : Nat) : Int) < 0 := by omega
      clear hd2 hnpn hpk hcu hl hb2 hpn hct Hnw
      go_wp2_with fail
      refine Hpk.out.mono ?_
      rintro r w3 ⟨rfl, rfl⟩
      go_wp2_with fail
      refine Hcu.out.mono ?_
      rintro r w3 ⟨rfl, F3, hd3, hm3, hF3⟩
      obtain ⟨d3, hd3e⟩ : ∃ d3 : DiskM, d3 = { d with left := if ((ct : Nat) : Int) < 0 then none else some ((ct : Nat) : Int).toNat } := ⟨_, rfl⟩
      rw [← hd3e] at hd3
      have hst : d3.strs = d.strs := by rw [hd3e]
      have htr : d3.trail = d.trail := by rw [hd3e]
      have hs2 := HB2.out.size
      have hge3 : ∀ k, F3 k → W.heap.size ≤ k := fun k hk => by
        rcases hF3 k hk with h | h
        · exact HI.out.ge k h
        · omega
      have hlt2 : pn < w2.heap.size := Box.lt Hl2.out
      have hB3 : Below W.heap.size W w3 := HB2.out.trans (hm3.below hs2 (fun b hb => HI.out.ge b hb))
      have hI3 : NowI W.heap.size W pn pd 0 [] [] [] (.slice none 0 0) ⟨1, 8, 4, 0, 0, false⟩ d3 F3 w3 :=
        ⟨Box.mod Hl2.out hm3 Hnpn.out.1, hd3, LogI.new (by rw [hst, HI.out.len]; decide) (by rw [hst]; exact HI.out.no), by rw [hst]; exact HI.out.len, fun s hs => HI.out.small s (hst ▸ hs), by rw [htr]; have := HI.out.trail; omega, Nat.le_refl _, hge3,
          ⟨fun h => by
            rcases hF3 pn h with h | h
            · exact Hnpn.out.1 h
            · omega, Hnpn.out.2⟩, hB3, hB3.size, World.ownsRow_nil _ _ _ _, ⟨rfl, fun j hj => by simp at hj⟩, fun k hk => by simp [Value.ownBlock] at hk, Nat.le_refl _⟩
      have HI3 := Lib.hid hI3
      clear hd3 hm3 hF3 hst htr hs2 hge3 hlt2 hB3 hI3 hd3e Hpk Hcu Hl2 Hnpn HB2 HI hnn hpk0 F
      go_wp2_with fail
      go_loopg [12, 13, 14] ls.length (fun gk wv fv iv wr => ∃ (i : Nat) (l : LogM) (d : DiskM) (F : Nat → Prop) (want : List (List UInt8)) (wys : List Value), gk + i = ls.length ∧ iv = .int .i64 (i : Int) ∧ fv = .bool l.dead ∧ NowI W.heap.size W pn pd i want want wys wv l d F wr)
      case atStart => exact ⟨0, _, _, _, _, _, rfl, rfl, rfl, HI3.out⟩
      case round =>
        clear HI3
        obtain ⟨i, l, d, F, want, wys, hgk, rfl, rfl, hI⟩ := hrel
        obtain ⟨va, vc, rfl, _⟩ := own_slice hI.row
        by_cases hi : i < ls.length
        · have hi1 : (i : Int) < (ls.length : Int) := by omega
          have hi0 : (0 : Int) ≤ (i : Int) := by omega
          obtain ⟨b, off, c, e1, hcell⟩ := HU.out.at i (by rw [Hul.out]; exact hi)
          injection e1 with e1 _ e3
          subst e1; subst e3
          have hx := Hur.out i hi
          obtain ⟨p, hp⟩ : ∃ p, p = ls.getD i [] := ⟨_, rfl⟩
          obtain ⟨x, hxe⟩ : ∃ x, x = us.getD i undef := ⟨_, rfl⟩
          rw [← hp, ← hxe] at hx
          rw [← hxe] at hcell
          obtain ⟨xa, xc, rfl⟩ : ∃ a c, x = .slice a p.length c := by obtain ⟨a, c, h, _⟩ := hx; exact ⟨a, c, h⟩
          have hro := room_calls l pn pd wr hI.log hI.inv.le2 (by have := hI.inv.same; omega)
          obtain ⟨r0, hr0⟩ : ∃ r0, r0 = l.n - l.used := ⟨_, rfl⟩
          rw [← hr0] at hro
          have Hro := Lib.hid hro
          have HI := Lib.hid hI
          have Hgk := Lib.hid hgk
          have HX := Lib.hid hx
          have HC := Lib.hid hcell
          have Hr0 := Lib.hid hr0
          have hr8 : r0 ≤ 8 := by have := hI.inv.same.2.1; omega
          clear hro hI hgk hx hcell hp hxe hr0
          go_wp2_with fail
          refine Hro.out.mono ?_
          rintro r w4 ⟨rfl, k4, rfl⟩
          have hb4 := below_drewN wr k4
          obtain ⟨w4, hw4⟩ : ∃ w4, w4 = wr.drewN k4 := ⟨_, rfl⟩
          rw [← hw4] at hb4 ⊢
          have hI4 := HI.out.below' hb4
          have hcell := below_heap hI4.below HC.out
          have hap := append_calls l d p pn pd F _ w4 hI4.log hI4.disk hI4.npl.1 (HX.out.below hI4.below) (by have := hI4.trail; omega) (by have := hI4.inv.same; have := hI4.len; omega) hI4.inv.le2 (by have := hI4.recs; omega)
          have Hap := Lib.hid hap
          have HI4 := Lib.hid hI4
          clear hb4 hw4 hI4 hap HI Hro
          go_wp2_with fail
          refine Hap.out.mono ?_
          rintro r w5 ⟨rfl, a1, a2, F5, a3, a4⟩
          have hstep := fun want' => HI4.out.appended (want' := want') p a1 a2 a3 a4
          have hcase := HI4.out.inv.append p
          obtain ⟨l5, hl5⟩ : ∃ l5, l5 = (l.append d p).1 := ⟨_, rfl⟩
          obtain ⟨d5, hd5⟩ : ∃ d5, d5 = (l.append d p).2.1 := ⟨_, rfl⟩
          obtain ⟨er, her⟩ : ∃ er, er = (l.append d p).2.2 := ⟨_, rfl⟩
          rw [← hl5, ← hd5] at hstep
          rw [← hl5, ← hd5, ← her] at hcase
          rw [← her]
          have Hstep := Lib.hid hstep
          have Hcnt := Lib.hid HI4.out.cnt
          clear a1 a2 a3 a4 hstep Hap hl5 hd5 her hcell
          rcases hcase with ⟨rfl, hd0, hd5, hp5, hu5, hi5⟩ | ⟨rfl, hd5, hi5⟩ | ⟨rfl, hp5, hd0, rfl, rfl⟩ | ⟨rfl, hp5, hd0, rfl, rfl⟩
          · have hI5 := Hstep.out _ hi5
            have hcell := below_heap hI5.below HC.out
            have HOwn := Lib.hid (fun ob => own_below hI5.row (below_alloc w5 ob))
            have HsA := Lib.hid (fun ob => Nat.le_trans hI5.size (below_alloc w5 ob).size)
            have hcl := Hcnt.out
            have HI5 := Lib.hid hI5
            have Hu5 := Lib.hid hu5
            have hcnt := frame_count 4 p hp5
            obtain ⟨cn, hcn⟩ : ∃ cn, cn = (frameM 4 p).length := ⟨_, rfl⟩
            rw [← hcn] at hcnt hu5
            have hl5n := hi5.same.2.1
            have hln := HI4.out.inv.same.2.1
            have hl5u := hi5.le2
            obtain ⟨r1, hr1⟩ : ∃ r1, r1 = l5.n - l5.used := ⟨_, rfl⟩
            have hr10 : r0 = r1 + cn := by rw [Hr0.out, hr1]; omega
            have hc1' : 1 ≤ cn := by rw [hcnt]; split <;> omega
            obtain ⟨mx, hmx⟩ : ∃ mx : Nat, mx = p.length - 245 := ⟨_, rfl⟩
            have Hmx := Lib.hid hmx
            have hcm : cn = 1 + (mx + 254) / 255 := by rw [hcnt, hmx]; split <;> omega
            have hpm : (if (0 : Int) > (p.length : Int) - 245 then (0 : Int) else (p.length : Int) - 245) = (mx : Int) := by rw [hmx]; split <;> omega
            have Hq := Lib.hid (And.intro hr10 (And.intro hc1' (And.intro hcm (And.intro hpm hr1))))
            rw [show errV 0 = .nilIface from rfl, hd0]
            clear Hstep hi5 HI4 hI5 hu5 hcnt hcn hl5n hln hl5u hr10 hc1' hcm hpm hr1 hmx
            go_wp2_with fail
            refine (num_nil _).mono ?_
            rintro r w6 ⟨rfl, rfl⟩
            go_wp2_with (at_builtin; refine appW rfl _ _ rfl W.heap.size _ want.length wys rfl (HOwn.out _) ⟨w6.heap.size, 0, none⟩ 1 1 [.slice xa p.length xc] rfl rfl (cell_one_new _ _ _) (by simp [Value.oneCell']) (by omega) (HsA.out _) ?_)
            intro v' w7 ho7 hg7 hm7
            obtain ⟨na, nc, rfl, _⟩ := own_slice ho7
            have hI7 := HI5.out.push hcl p ho7 hg7 hm7 HX.out
            have hcell7 := below_heap hI7.below HC.out
            have hro := fun j => room_calls l5 pn pd (w7.drewN j) (hI7.below' (below_drewN w7 j)).log hI7.inv.le2 (by have := hI7.inv.same; omega)
            rw [← Hq.out.2.2.2.2] at hro
            have Hro := Lib.hid hro
            have HI7 := Lib.hid hI7
            have hq := Hq.out
            have hmxe := Hmx.out
            have hw1 : IntKind.i64.wrap ((r0 : Int) - (r1 : Int)) = (cn : Int) := by rw [wrap_i64n _ (by omega) (by omega)]; omega
            have hA : decide ((cn : Int) < 1) = false := by simp; omega
            obtain ⟨q, hqe⟩ : ∃ q, q = (p.length : Int) - 245 := ⟨_, rfl⟩
            have hw2 : IntKind.i64.wrap ((p.length : Int) - 245) = q := by rw [wrap_i64n _ (by omega) (by omega), hqe]
            have hmxl : ∀ ts t w', (Builtin.max_ ts t #[.int .i64 q, .int .i64 0]).run Try.prog w' = .ok (.int .i64 (mx : Int)) w' := fun ts t w' => by
              rw [run_max_int2]
              have : (if (0 : Int) > q then (0 : Int) else q) = (mx : Int) := by split <;> omega
              rw [this]
            obtain ⟨s, hse⟩ : ∃ s, s = mx + 254 := ⟨_, rfl⟩
            have hw4 : IntKind.i64.wrap ((mx : Int) + 254) = (s : Int) := by rw [wrap_i64n _ (by omega) (by omega), hse]; omega
            obtain ⟨tq, hte⟩ : ∃ tq, tq = s / 255 := ⟨_, rfl⟩
            have hd1 : (s : Int).tdiv 255 = (tq : Int) := by rw [Int.tdiv_eq_ediv_of_nonneg (by omega), hte]; omega
            have hd2 : (s : Int) / 255 = (tq : Int) := by rw [hte]; omega
            have hw5 : IntKind.i64.wrap (tq : Int) = (tq : Int) := wrap_i64n _ (by omega) (by omega)
            have hw6 : IntKind.i64.wrap (1 + (tq : Int)) = (cn : Int) := by rw [wrap_i64n _ (by omega) (by omega)]; omega
            clear hq hmxe hqe hse hte
            clear ho7 hg7 hm7 hI7 hro hcell HOwn HsA HI5
            go_wp2_with fail
            go_quiet ((go_at_call 11; exact Calls.quiet_of (Hro.out _)))
            go_wp2_with fail
            go_roundg (ls.length - (i + 1))
            case measure => have := Hgk.out; omega
            case rel => exact ⟨i + 1, _, _, _, _, _, by have := Hgk.out; omega, by go_num, by rw [hd5], HI7.out.below' (below_drewN w7 _)⟩
          · have HN := Lib.hid (Hstep.out _ hi5)
            have Hnu := Lib.hid (fun w => num_calls 22 w (by omega) (by omega))
            rw [show errV 22 = errN 22 from rfl]
            unfold errN at Hnu ⊢
            clear Hstep hi5 HI4
            go_wp2_with fail
            refine (Hnu.out _).mono ?_
            rintro r w6 ⟨rfl, rfl⟩
            go_wp2_with fail
            go_roundg (ls.length - (i + 1))
            case measure => have := Hgk.out; omega
            case rel => exact ⟨i + 1, _, _, _, _, _, by have := Hgk.out; omega, by go_num, by rw [hd5], HN.out⟩
          · have hI5 := Hstep.out _ HI4.out.inv
            have HN := Lib.hid hI5
            have Hnu := Lib.hid (fun w => num_calls 3 w (by omega) (by omega))
            rw [show errV 3 = errN 3 from rfl]
            unfold errN at Hnu ⊢
            have hro := room_calls l5 pn pd w5 hI5.log hI5.inv.le2 (by have := hI5.inv.same; omega)
            rw [← Hr0.out] at hro
            have Hro := Lib.hid hro
            have hcell := below_heap hI5.below HC.out
            clear Hstep HI4 hI5 hro
            rw [hd0]
            go_wp2_with fail
            refine (Hnu.out _).mono ?_
            rintro r w6 ⟨rfl, rfl⟩
            have h512 : decide ((p.length : Int) ≤ 512) = false := by simp; omega
            have h512n : decide (p.length ≤ 512) = false := by simp; omega
            go_wp2_with fail
            refine Hro.out.mono ?_
            rintro r w7 ⟨rfl, k7, rfl⟩
            have hb7 := below_drewN w6 k7
            have HN7 := Lib.hid (HN.out.below' hb7)
            have hcell7 := below_heap hb7 hcell
            obtain ⟨w7, hw7⟩ : ∃ w7, w7 = w6.drewN k7 := ⟨_, rfl⟩
            rw [← hw7] at HN7 hcell7 ⊢
            clear hb7 hw7 hcell Hro HN
            go_wp2_with fail
            go_roundg (ls.length - (i + 1))
            case measure => have := Hgk.out; omega
            case rel => exact ⟨i + 1, _, _, _, _, _, by have := Hgk.out; omega, by go_num, by rw [hd0], HN7.out⟩
          · have hI5 := Hstep.out _ HI4.out.inv
            have HN := Lib.hid hI5
            have Hnu := Lib.hid (fun w => num_calls 19 w (by omega) (by omega))
            rw [show errV 19 = errN 19 from rfl]
            unfold errN at Hnu ⊢
            have hro := room_calls l5 pn pd w5 hI5.log hI5.inv.le2 (by have := hI5.inv.same; omega)
            rw [← Hr0.out] at hro
            have Hro := Lib.hid hro
            have hcell := below_heap hI5.below HC.out
            clear Hstep HI4 hI5 hro
            rw [hd0]
            go_wp2_with fail
            refine (Hnu.out _).mono ?_
            rintro r w6 ⟨rfl, rfl⟩
            go_wp2_with fail
            refine Hro.out.mono ?_
            rintro r w7 ⟨rfl, k7, rfl⟩
            have hb7 := below_drewN w6 k7
            have HN7 := Lib.hid (HN.out.below' hb7)
            have hcell7 := below_heap hb7 hcell
            obtain ⟨w7, hw7⟩ : ∃ w7, w7 = w6.drewN k7 := ⟨_, rfl⟩
            rw [← hw7] at HN7 hcell7 ⊢
            clear hb7 hw7 hcell Hro HN
            go_wp2_with fail
            go_roundg (ls.length - (i + 1))
            case measure => have := Hgk.out; omega
            case rel => exact ⟨i + 1, _, _, _, _, _, by have := Hgk.out; omega, by go_num, by rw [hd0], HN7.out⟩
        · obtain rfl : i = ls.length := by omega
          have hrec := records_calls l pn pd wr hI.log
          rw [hI.inv.recs] at hrec
          have Hrec := Lib.hid hrec
          have Hre := Lib.hid (restore_calls d pd F wr hI.disk)
          have HI := Lib.hid hI
          clear hrec hI hgk
          go_wp2_with fail
          refine Hrec.out.mono ?_
          rintro r w3 ⟨rfl, rfl⟩
          go_wp2_with fail
          refine Hre.out.mono ?_
          rintro r w4 ⟨rfl, F4, hd4, hm4, hF4⟩
          obtain ⟨d4, hd4e⟩ : ∃ d4 : DiskM, d4 = { d with left := none } := ⟨_, rfl⟩
          rw [← hd4e] at hd4
          have hst : d4.strs = d.strs := by rw [hd4e]
          have HRow := Lib.hid (own_mod HI.out.row hm4 (fun k hk hf => (HI.out.apart k hk).1 hf))
          have HB4 := Lib.hid (HI.out.below.trans (hm4.below HI.out.size (fun b hb => HI.out.ge b hb)))
          have hop := log_open_yes d4 pd F4 1 8 4 w4 hd4 (by omega) (by rw [hst, HI.out.len]; decide) (fun s hs => HI.out.small s (hst ▸ hs))
          rw [show (((4 : UInt32).toNat : Nat) : Int) = 4 from rfl, show ((1 : Nat) : Int) = 1 from rfl, show ((8 : Nat) : Int) = 8 from rfl] at hop
          have Hop := Lib.hid hop
          have Hst := Lib.hid hst
          clear hop hst hd4e hd4 hm4 hF4 Hrec Hre
          go_wp2_with fail
          refine Hop.out.mono ?_
          rintro r w5 ⟨pl2, ov, pre, bl, hbl, hget, hno, rfl, hfo, hov, hb5⟩
          obtain ⟨t, rfl, htn⟩ := HI.out.inv.blocks bl hbl (fun j hj => by rw [← Hst.out]; exact hget j hj)
          obtain ⟨f1, f2, f3⟩ := found_laid (ps := want) (t := t) HI.out.inv.short htn hfo hno
          rw [f1] at hov
          have hB5 := HB4.out.trans (hb5.mono HB4.out.size)
          have hsa := same12_calls ov (.slice va want.length vc) (pre.map (·.2)) wys want w5 (rd_of_own hov) (rd_of_own (own_below HRow.out hb5)) (by rw [List.length_map, f1]) HI.out.vals.1 (fun i hi => (f3 i hi).rd) (fun i hi => (HI.out.vals.2 i hi).below hB5)
          obtain ⟨ga, gc, rfl, _⟩ := own_slice hov
          have Hsa := Lib.hid hsa
          have HB5 := Lib.hid hB5
          clear hbl hget hno hfo hov hb5 f1 f2 f3 htn hB5 hsa Hop HI HRow HB4 Hst
          go_wp2_with fail
          refine Hsa.out.mono ?_
          rintro r w6 ⟨rfl, k6, rfl⟩
          go_wp2_with fail
          go_ret
          exact ⟨rfl, HB5.out.trans ((below_drewN _ k6).mono HB5.out.size)⟩
end Go.Proofs.Ytjoadcgegobjpaa
