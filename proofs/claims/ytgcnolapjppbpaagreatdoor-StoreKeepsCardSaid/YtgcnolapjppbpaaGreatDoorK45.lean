/-
  Texts of one proof, one behind the other.
-/
import Derived.Test.YtgcnolapjppbpaaGreatDoorK35
import Derived.Test.YtgcnolapjppbpaaGreatDoorK43
import Derived.Test.YtgcnolapjppbpaaGreatDoorK44
namespace Go.Proofs.YtgcnolapjppbpaaGreatDoor
open Go.RowKit
set_option maxRecDepth 100000
theorem wp_store_kk {P : Program} {op : Oper} {a : Act} {w : World} {K : Act → World → Prop} {Q : Exit → Act → World → Prop} (ty : TypeId) (x y : Operand) (ho : op.op = .store ty x y)
    (b o : Nat) (cs : List Value) (hx : a.eval x = .pointer (some ⟨b, o, none⟩)) (hy : a.eval y = .agg cs.toArray) (ht : w.there b o cs.length) (hi : (P.info? ty).map (·.size) = some cs.length) (h1 : ∀ v ∈ cs, v.oneCell' = true)
    (h : K (a.put op.dst undef) (w.setCells b o cs)) : op.wp P a w K Q := by
  refine wp_store_mid ty x y ho b o cs.toArray hx hy ?_ ?_ (all_oneCell_toArray h1) ?_
  · rw [List.size_toArray]; exact ht
  · rw [List.size_toArray]; exact hi
  · exact h
theorem Box.there3 {w : World} {b : Nat} {x y z : Value} {t : TypeId} (h : Box w b #[x, y, z] t) : w.there b 0 3 := by
  intro j hj
  rw [Nat.zero_add]
  match j, hj with
  | 0, _ => exact ⟨by rw [h.cell 0 _ rfl]; rfl, h.free _⟩
  | 1, _ => exact ⟨by rw [h.cell 1 _ rfl]; rfl, h.free _⟩
  | 2, _ => exact ⟨by rw [h.cell 2 _ rfl]; rfl, h.free _⟩
theorem Box.set3 {w : World} {b : Nat} {x y z : Value} {t : TypeId} (h : Box w b #[x, y, z] t) (x' y' z' : Value) : Box (w.setCells b 0 [x', y', z']) b #[x', y', z'] t ∧ Mod (fun i => i = b) w (w.setCells b 0 [x', y', z']) :=
  ⟨((h.set 0 x').set 1 y').set 2 z', Mod.set3 b w x' y' z'⟩
theorem one3 (x y : Int) (a : Option Addr) (n c : Nat) : ∀ v ∈ [Value.int .i64 x, Value.int .i64 y, Value.slice a n c], v.oneCell' = true := by
  intro v hv
  simp only [List.mem_cons, List.not_mem_nil, or_false] at hv
  rcases hv with rfl | rfl | rfl <;> rfl
end Go.Proofs.YtgcnolapjppbpaaGreatDoor
namespace Go.Proofs.YtgcnolapjppbpaaGreatDoor
open Go.RowKit
set_option maxRecDepth 100000
theorem ret_tmp_cell_tmp {P : Program} {fn : Func} {R : Ending → World → Prop} {a : Act} {w : World} {p u v : Tmp} {ty : TypeId} (h : fn.results = #[.tmp u, .cell p ty, .tmp v]) (hdf : a.defers = [])
    (b o : Nat) (hp : a.tmps.getD p undef = .pointer (some ⟨b, o, none⟩)) (cs : List Value) (d : TypeDesc) (hc : w.rangeAt b o cs)
    (hu : P.underlying ty = some d) (hd : d.isRow = true) (hi : (P.info? ty).map (·.size) = some cs.length)
    (x y : Value) (hx : a.tmps.getD u undef = x) (hy : a.tmps.getD v undef = y) (hR : R (.returned (.tuple #[x, .agg cs.toArray, y])) w) : bodyPost P fn R .ret a w := by
  refine bodyPost_ret (v := .tuple #[x, .agg cs.toArray, y]) ?_ hdf hR
  have hp2 : a.tmps[p]?.getD undef = .pointer (some ⟨b, o, none⟩) := by simpa using hp
  have hx2 : a.tmps[u]?.getD undef = x := by simpa using hx
  have hy2 : a.tmps[v]?.getD undef = y := by simpa using hy
  simp only [results, h]
  simp [hp2, hx2, hy2, asAddr, Result.andThen, run_loadVar_mid w b o ty cs d hc hu hd hi]
structure Opnd (w : World) (pd : Nat) (F : Nat → Prop) (R : DiskM × UInt32 × StM × Int) (pv o : Value) (w' : World) : Prop where
  ex : ∃ F', IsDisk w' R.1 pd F' ∧ (∀ k, F' k → F k ∨ w.heap.size ≤ k) ∧ (∀ k, o.ownBlock = some k → w.heap.size ≤ k ∧ ¬ F' k) ∧ (R.2.2.2 = 0 → ∃ ps pl, pv = .pointer (some ⟨ps, 0, none⟩) ∧ w.heap.size ≤ ps ∧ w.heap.size ≤ pl ∧ ¬ F' ps ∧ ¬ F' pl ∧ ps ≠ pl ∧ StoB w' ps pd R.2.1 (.pointer (some ⟨pl, 0, none⟩)) false ∧ IsLog w' (logN R.2.1) pl pd ∧ (∀ k, o.ownBlock = some k → k ≠ ps ∧ k ≠ pl))
  no : R.2.2.2 ≠ 0 → pv = .pointer none
  ow : OwnS w' w.heap.size o R.2.2.1.l
  md : Mod F w w'
set_option maxHeartbeats 12800000 in
theorem stoOpen_calls (d : DiskM) (pd : Nat) (F : Nat → Prop) (w : World) (hd : IsDisk w d pd F) (hsm : ∀ s ∈ d.strs, s.size ≤ 256) (ht : d.trail.length ≤ 9000000000) (hs : ∀ b, (readB d b).length ≤ 9223372036854775807) (hso : ∀ s ∈ (keptM d).1.l, SesOk s) :
    Calls Tryz.prog 33 #[.pointer (some ⟨pd, 0, none⟩)] w fun e w' => ∃ pv o, e = .returned (.tuple #[pv, .agg #[.int .i64 (openM d).2.2.1.clock, .int .i64 (openM d).2.2.1.births, o], errV (openM d).2.2.2]) ∧ Opnd w pd F (openM d) pv o w' := by
  have hl4 : d.strs.length ≤ 4096 := by obtain ⟨_, _, _, _, _, _, _, _, h5, _⟩ := hd; exact h5
  obtain ⟨R, hR⟩ : ∃ R, R = openM d := ⟨_, rfl⟩
  rw [← hR]
  unfold openM at hR
  have hkp := fun W (hW : IsDisk W d pd F) (hl : 65 ≤ d.strs.length) => kept_calls d pd F W hW hsm hl hs
  obtain ⟨K, hK⟩ : ∃ K, K = keptM d := ⟨_, rfl⟩
  rw [← hK] at hkp hso hR
  have hlc := fun (v : Value) ps lv w' (h4 : StoB w' ps pd K.2.1 lv false) (h5 : IsDisk w' d pd F) h6 h7 hl => lay_calls K.1 v d ps pd K.2.1 lv false F w' h4 h5 h6 h7 hso (Nat.le_trans ht (by decide)) hl (Nat.le_trans (imgM_le K.1) (by decide))
  have HBL := Lib.hid (fun W (hW : IsDisk W d pd F) => blocks_calls d pd F W hW)
  have hba := below_alloc w (.cells #[.int .i64 0, .int .i64 0, .slice none 0 0] 30)
  have HZ := Lib.hid (Box.new w #[.int .i64 0, .int .i64 0, .slice none 0 0] 30)
  have HB := Lib.hid hba
  have HD := Lib.hid (hd.grow hba)
  have HFL := Lib.hid hd.lt
  obtain ⟨N, hN⟩ : ∃ N, N = d.strs.length := ⟨_, rfl⟩
  rw [← hN] at HBL hl4 hR hkp
  have HN := Lib.hid hN
  clear hd hsm ht hs hba hN hso hK
  by_cases h65 : N < 65
  · rw [if_pos h65] at hR
    obtain rfl : R = (d, 0, noSt, 1) := hR
    have hn : (N : Int) < 65 := by omega
    clear hkp hlc hl4
    go_enter Tryz.func33, Tryz.ntmps33
    go_wp2_with fail
    refine (HBL.out _ HD.out).mono ?_
    rintro ev w2 ⟨rfl, rfl⟩
    have z0 := HZ.out.cell 0 _ rfl
    have z1 := HZ.out.cell 1 _ rfl
    have z2 := HZ.out.cell 2 _ rfl
    go_wp2_with fail
    exact ret_tmp_cell_tmp rfl rfl w.heap.size 0 rfl [.int .i64 0, .int .i64 0, .slice none 0 0] _ (zrangeS HZ.out) Tryz.underlying30 rfl (by kernel_rfl) _ _ rfl rfl ⟨_, _, rfl, ⟨F, HD.out, fun k hk => .inl hk, (fun k hk => by cases hk), fun h => by cases h⟩, fun _ => rfl, OwnS.nil _ _, Mod.of_below HB.out⟩
  rw [if_neg h65] at hR
  have hn : ¬ (N : Int) < 65 := by omega
  have HKP := Lib.hid (fun W hW => hkp W hW (by omega))
  have HLC := Lib.hid (fun v ps lv w' h4 h5 h6 h7 => hlc v ps lv w' h4 h5 h6 h7 (by rw [← HN.out]; omega))
  obtain ⟨⟨KC, KB, KL⟩, ke, kr⟩ := K
  simp only at HKP HLC hR
  have HR := Lib.hid hR
  clear hkp hlc hR h65 hl4
  go_enter Tryz.func33, Tryz.ntmps33
  go_wp2_with fail
  obtain ⟨w1, hw1⟩ : ∃ w1, w1 = (w.alloc (.cells #[.int .i64 0, .int .i64 0, .slice none 0 0] 30)) := ⟨_, rfl⟩
  rw [← hw1] at HZ HB HD ⊢
  clear hw1
  refine (HBL.out _ HD.out).mono ?_
  rintro ev w1' ⟨rfl, rfl⟩
  go_wp2_with fail
  refine (HKP.out w1 HD.out).mono ?_
  rintro ev w2 ⟨o, rfl, ho, hb⟩
  obtain ⟨oa, oc, rfl, _⟩ := ho.slice
  obtain ⟨on, hon⟩ : ∃ n, n = KL.length := ⟨_, rfl⟩
  rw [← hon] at ho ⊢
  have hba := below_alloc w2 (.cells #[.int .i64 KC, .int .i64 KB, .slice oa on oc] 30)
  have HX3 := Lib.hid (Box.new w2 #[.int .i64 KC, .int .i64 KB, .slice oa on oc] 30)
  have HD3 := Lib.hid ((HD.out.grow hb).grow hba)
  have HZ3 := Lib.hid ((HZ.out.below hb).below hba)
  have HB3 := Lib.hid ((HB.out.trans (hb.mono HB.out.size)).trans (hba.mono (HB.out.trans (hb.mono HB.out.size)).size))
  have HO3 := Lib.hid ((ho.below hba).base (base' := w.heap.size) HB.out.size)
  have HOL := Lib.hid (show ∀ k, (Value.slice oa on oc).ownBlock = some k → w.heap.size + 1 ≤ k ∧ k < w2.heap.size from fun k hk => ⟨by have := (ho.lt k hk).1; have := HZ.out.lt; omega, (ho.lt k hk).2⟩)
  have HQ := Lib.hid (show w.heap.size < w2.heap.size from Nat.lt_of_lt_of_le HZ.out.lt hb.size)
  clear ho hb hba hon HD HZ HB HKP HBL
  by_cases h0 : kr = 0
  rotate_left
  · rw [if_neg h0] at HR
    rw [show errV kr = .iface 91 (.int .i64 kr) from if_neg h0]
    obtain rfl : R = (d, 0, noSt, kr) := HR.out
    have HH0 := Lib.hid h0
    have z0 : (w2.alloc (.cells #[.int .i64 KC, .int .i64 KB, .slice oa on oc] 30)).cell? ⟨w.heap.size, 0, none⟩ = some (.int .i64 0) := HZ3.out.cell 0 _ rfl
    have y0 := HZ3.out.free 0
    have z1 : (w2.alloc (.cells #[.int .i64 KC, .int .i64 KB, .slice oa on oc] 30)).cell? ⟨w.heap.size, 1, none⟩ = some (.int .i64 0) := HZ3.out.cell 1 _ rfl
    have y1 := HZ3.out.free 1
    have z2 : (w2.alloc (.cells #[.int .i64 KC, .int .i64 KB, .slice oa on oc] 30)).cell? ⟨w.heap.size, 2, none⟩ = some (.slice none 0 0) := HZ3.out.cell 2 _ rfl
    have y2 := HZ3.out.free 2
    have hmz := Mod.set3 w.heap.size (w2.alloc (.cells #[.int .i64 KC, .int .i64 KB, .slice oa on oc] 30)) (.int .i64 0) (.int .i64 0) (.slice none 0 0)
    have HZF := Lib.hid (show Box ((((w2.alloc (.cells #[.int .i64 KC, .int .i64 KB, .slice oa on oc] 30)).setCell ⟨w.heap.size, 0, none⟩ (.int .i64 0)).setCell ⟨w.heap.size, 1, none⟩ (.int .i64 0)).setCell ⟨w.heap.size, 2, none⟩ (.slice none 0 0)) w.heap.size #[.int .i64 0, .int .i64 0, .slice none 0 0] 30 ∧ Mod (fun i => i = w.heap.size) (w2.alloc (.cells #[.int .i64 KC, .int .i64 KB, .slice oa on oc] 30)) ((((w2.alloc (.cells #[.int .i64 KC, .int .i64 KB, .slice oa on oc] 30)).setCell ⟨w.heap.size, 0, none⟩ (.int .i64 0)).setCell ⟨w.heap.size, 1, none⟩ (.int .i64 0)).setCell ⟨w.heap.size, 2, none⟩ (.slice none 0 0)) ∧ Below w.heap.size w ((((w2.alloc (.cells #[.int .i64 KC, .int .i64 KB, .slice oa on oc] 30)).setCell ⟨w.heap.size, 0, none⟩ (.int .i64 0)).setCell ⟨w.heap.size, 1, none⟩ (.int .i64 0)).setCell ⟨w.heap.size, 2, none⟩ (.slice none 0 0)) from ⟨((HZ3.out.set 0 (.int .i64 0)).set 1 (.int .i64 0)).set 2 (.slice none 0 0), hmz, HB3.out.trans (hmz.below HB3.out.size (fun i hi => Nat.le_of_eq hi.symm))⟩)
    clear hmz
    clear HR HX3 HO3 HOL HLC h0
    go_wp2_with fail
    exact ret_tmp_cell_tmp rfl rfl w.heap.size 0 rfl [.int .i64 0, .int .i64 0, .slice none 0 0] _ (zrangeS (HZF.out.1)) Tryz.underlying30 rfl (by kernel_rfl) _ _ rfl rfl ⟨_, _, by show Ending.returned _ = Ending.returned (.tuple #[_, _, errV kr]); rw [show errV kr = .iface 91 (.int .i64 kr) from if_neg HH0.out]; rfl, ⟨F, HD3.out.mod HZF.out.2.1 (fun k hk e => by have := HFL.out k hk; omega), fun k hk => .inl hk, (fun k hk => by cases hk), fun h => absurd h HH0.out⟩, fun _ => rfl, OwnS.nil _ _, Mod.of_below HZF.out.2.2⟩
  rw [if_pos h0] at HR
  rw [show errV kr = .nilIface from if_pos h0]
  clear h0
  have hba := below_alloc (w2.alloc (.cells #[.int .i64 KC, .int .i64 KB, .slice oa on oc] 30)) (.cells #[.pointer (some ⟨pd, 0, none⟩), .int .u32 (I32 ke), .pointer none, .bool false] 90)
  have hsb := Box.new (w2.alloc (.cells #[.int .i64 KC, .int .i64 KB, .slice oa on oc] 30)) #[.pointer (some ⟨pd, 0, none⟩), .int .u32 (I32 ke), .pointer none, .bool false] 90
  rw [World.size_alloc] at hsb
  have HSB := Lib.hid (show StoB ((w2.alloc (.cells #[.int .i64 KC, .int .i64 KB, .slice oa on oc] 30)).alloc (.cells #[.pointer (some ⟨pd, 0, none⟩), .int .u32 (I32 ke), .pointer none, .bool false] 90)) (w2.heap.size + 1) pd ke (.pointer none) false from ⟨hsb⟩)
  have HX4 := Lib.hid (HX3.out.below hba)
  have HD4 := Lib.hid (HD3.out.grow hba)
  have HZ4 := Lib.hid (HZ3.out.below hba)
  have HB4 := Lib.hid (HB3.out.trans (hba.mono HB3.out.size))
  have HO4 := Lib.hid (HO3.out.below hba)
  obtain ⟨q, hq⟩ : ∃ q, q = w2.heap.size := ⟨_, rfl⟩
  obtain ⟨A, hA⟩ : ∃ A, A = layM ke d ⟨KC, KB, KL⟩ := ⟨_, rfl⟩
  rw [← hA] at HLC HR
  obtain ⟨w4, hw4⟩ : ∃ w4, w4 = ((w2.alloc (.cells #[.int .i64 KC, .int .i64 KB, .slice oa on oc] 30)).alloc (.cells #[.pointer (some ⟨pd, 0, none⟩), .int .u32 (I32 ke), .pointer none, .bool false] 90)) := ⟨_, rfl⟩
  rw [← hw4] at HSB HX4 HD4 HZ4 HB4 HO4
  rw [← hq] at HSB HX4 HQ HOL
  have HS4 := Lib.hid (show q + 1 < w4.heap.size from HSB.out.bx.lt)
  have HPQ := Lib.hid (show w.heap.size < w4.heap.size by have := HX4.out.lt; have := HQ.out; omega)
  have HPS := Lib.hid (show ¬ F (q + 1) from fun h => by have := HFL.out _ h; have := HQ.out; omega)
  have x0 : w4.cell? ⟨q, 0, none⟩ = some (.int .i64 KC) := HX4.out.cell 0 _ rfl
  have x1 : w4.cell? ⟨q, 1, none⟩ = some (.int .i64 KB) := HX4.out.cell 1 _ rfl
  have x2 : w4.cell? ⟨q, 2, none⟩ = some (.slice oa on oc) := HX4.out.cell 2 _ rfl
  rw [hw4] at x0 x1 x2
  rw [hq] at x0 x1 x2
  clear hba hsb hA HX3 HD3 HZ3 HB3 HO3
  go_wp2_with fail
  rw [← hw4, ← hq]
  refine (HLC.out _ _ _ w4 HSB.out HD4.out HPS.out HO4.out.rd).mono ?_
  rintro ev w5 ⟨rfl, hla⟩
  clear x0 x1 x2 hw4 hq
  have hmz := hla.md
  have HX5 := Lib.hid (HX4.out.mod hmz (fun h => h.elim (fun h => by omega) (fun h => by have := HFL.out _ h; have := HQ.out; omega)))
  have HZ5 := Lib.hid (HZ4.out.mod hmz (fun h => h.elim (fun h => by have := HQ.out; omega) (fun h => by have := HFL.out _ h; omega)))
  have HO5 := Lib.hid (HO4.out.mod hmz (fun k hk h => by
    have h1 := HOL.out k hk
    rcases h with h | h
    · omega
    · have := HFL.out _ h; omega))
  have HM5 := Lib.hid (show Mod F w w5 from (show Mod F w w4 from Mod.of_below HB4.out).old hmz (fun i hi h => h.elim (fun h => by have := HQ.out; omega) id))
  have HLA := Lib.hid hla
  clear hla hmz HX4 HZ4 HO4 HSB HD4 HLC
  by_cases h0 : A.2 = 0
  rotate_left
  · rw [if_neg h0] at HR
    rw [show errV A.2 = .iface 91 (.int .i64 A.2) from if_neg h0]
    obtain rfl : R = (A.1, 0, noSt, A.2) := HR.out
    have HH0 := Lib.hid h0
    have z0 : w5.cell? ⟨w.heap.size, 0, none⟩ = some (.int .i64 0) := HZ5.out.cell 0 _ rfl
    have y0 := HZ5.out.free 0
    have z1 : w5.cell? ⟨w.heap.size, 1, none⟩ = some (.int .i64 0) := HZ5.out.cell 1 _ rfl
    have y1 := HZ5.out.free 1
    have z2 : w5.cell? ⟨w.heap.size, 2, none⟩ = some (.slice none 0 0) := HZ5.out.cell 2 _ rfl
    have y2 := HZ5.out.free 2
    have hmm := Mod.set3 w.heap.size w5 (.int .i64 0) (.int .i64 0) (.slice none 0 0)
    obtain ⟨F5, hd5, hg5, _⟩ := HLA.out.dk
    have hnz : ¬ F5 w.heap.size := fun h => by
      rcases hg5 _ h with g | g
      · have := HFL.out _ g; omega
      · have := HPQ.out; omega
    have HZF := Lib.hid (show Box (((w5.setCell ⟨w.heap.size, 0, none⟩ (.int .i64 0)).setCell ⟨w.heap.size, 1, none⟩ (.int .i64 0)).setCell ⟨w.heap.size, 2, none⟩ (.slice none 0 0)) w.heap.size #[.int .i64 0, .int .i64 0, .slice none 0 0] 30 ∧ Opnd w pd F (A.1, 0, noSt, A.2) (.pointer none) (.slice none 0 0) (((w5.setCell ⟨w.heap.size, 0, none⟩ (.int .i64 0)).setCell ⟨w.heap.size, 1, none⟩ (.int .i64 0)).setCell ⟨w.heap.size, 2, none⟩ (.slice none 0 0)) from
      ⟨((HZ5.out.set 0 (.int .i64 0)).set 1 (.int .i64 0)).set 2 (.slice none 0 0), ⟨F5, hd5.mod hmm (fun k hk e => hnz (by rw [← e]; exact hk)), fun k hk => (hg5 k hk).imp id (fun g => Nat.le_trans HB4.out.size g), (fun k hk => by cases hk), fun h => absurd h HH0.out⟩, fun _ => rfl, OwnS.nil _ _, HM5.out.old hmm (fun i hi h => by omega)⟩)
    clear hmm hd5 hg5 hnz HR HX5 HO5 HOL h0 HLA
    go_wp2_with fail
    exact ret_tmp_cell_tmp rfl rfl w.heap.size 0 rfl [.int .i64 0, .int .i64 0, .slice none 0 0] _ (zrangeS (HZF.out.1)) Tryz.underlying30 rfl (by kernel_rfl) _ _ rfl rfl ⟨_, _, by show Ending.returned _ = Ending.returned (.tuple #[_, _, errV A.2]); rw [show errV A.2 = .iface 91 (.int .i64 A.2) from if_neg HH0.out]; rfl, HZF.out.2⟩
  rw [if_pos h0] at HR
  rw [show errV A.2 = .nilIface from if_pos h0]
  obtain rfl : R = (A.1, ke + 1, ⟨KC, KB, KL⟩, 0) := HR.out
  obtain ⟨F5, hd5, hg5, hx5⟩ := HLA.out.dk
  obtain ⟨pl5, hp1, hp2, hs5, hl5⟩ := hx5 h0
  have hnz : ¬ F5 w.heap.size := fun h => by
    rcases hg5 _ h with g | g
    · have := HFL.out _ g; omega
    · have := HQ.out; have := HB4.out.size; have := HPQ.out; omega
  have HD5 := Lib.hid (hd5.grow (below_drew w5))
  have HS5 := Lib.hid (hs5.below (below_drew w5))
  have HL5 := Lib.hid (show IsLog w5.drew (logN (ke + 1)) pl5 pd from Box.below hl5 (below_drew w5))
  have HOD := Lib.hid (HO5.out.below (below_drew w5))
  have HZD := Lib.hid (HZ5.out.below (below_drew w5))
  have HMD := Lib.hid (HM5.out.trans (Mod.of_below (below_drew w5)))
  have HP := Lib.hid (show (∀ k, F5 k → F k ∨ w.heap.size ≤ k) ∧ ¬ F5 w.heap.size ∧ w.heap.size ≤ pl5 ∧ pl5 ≠ w.heap.size ∧ q + 1 ≠ pl5 ∧ ¬ F5 pl5 ∧ ¬ F5 (q + 1) from
    ⟨fun k hk => (hg5 k hk).imp id (fun g => Nat.le_trans HB4.out.size g), hnz, by have := HPQ.out; omega, by have := HPQ.out; omega, by have := HS4.out; omega, hp2, fun h => by
      rcases hg5 _ h with g | g
      · exact HPS.out g
      · have := HS4.out; omega⟩)
  have HOL2 := Lib.hid (show ∀ k, (Value.slice oa on oc).ownBlock = some k → ¬ F5 k ∧ k ≠ q + 1 ∧ k ≠ pl5 ∧ k ≠ w.heap.size ∧ w.heap.size ≤ k from fun k hk => by
    have h1 := HOL.out k hk
    have h2 := HS4.out
    refine ⟨fun h => ?_, by omega, by omega, by omega, by omega⟩
    rcases hg5 k h with g | g
    · have := HFL.out _ g; omega
    · omega)
  clear h0 HR HLA hx5 hd5 hg5 hp1 hp2 hs5 hl5 hnz HO5 HZ5 HM5 HOL
  go_wp2_with fail
  refine wp_region_held_drew (S := fun W => Box W q #[.int .i64 KC, .int .i64 KB, .slice oa on oc] 30) (by kernel_rfl) (HX5.out.below (below_drew w5)) (fun hHeld => ?_)
  refine wpAnyH_take (i := 0) (oi := ⟨some 36, _, _, _, _, _⟩) (v := ?_) rfl (by kernel_rfl) (by kernel_rfl) (by kernel_rfl) (fun _ _ _ h => h) (Or.inl ⟨by kernel_rfl, ?_⟩) (by assumption) ?_
  rotate_left 1
  · intro w' hw'; clear hw'; go_simp; try with_reducible rfl
  try simp only [Act.put, List.setIfInBounds_toArray, List.set_cons_zero, List.set_cons_succ]
  refine wpAnyH_take (i := 1) (oi := ⟨some 37, .load _ _, _, _, _, _⟩) (v := .agg #[.int .i64 KC, .int .i64 KB, .slice oa on oc]) rfl (by kernel_rfl) (by kernel_rfl) (by kernel_rfl) (fun _ _ _ h => h) (Or.inl ⟨by kernel_rfl, fun w' hw' => exec_load_m 30 (.tmp 5) rfl (q) (0) rfl (#[.int .i64 KC, .int .i64 KB, .slice oa on oc]).toList _ (zrangeS hw') Tryz.underlying30 rfl (by kernel_rfl)⟩) (by assumption) ?_
  try simp only [Act.put, List.setIfInBounds_toArray, List.set_cons_zero, List.set_cons_succ]
  refine wpAnyH_take (i := 2) (oi := ⟨some 2, _, _, _, _, _⟩) (v := ?_) rfl (by kernel_rfl) (by kernel_rfl) (by kernel_rfl) (fun _ _ _ h => h) (Or.inl ⟨by kernel_rfl, ?_⟩) (by assumption) ?_
  rotate_left 1
  · intro w' hw'; clear hw'; go_simp; try with_reducible rfl
  try simp only [Act.put, List.setIfInBounds_toArray, List.set_cons_zero, List.set_cons_succ]
  refine wpAnyH_ready (rs := [3]) (by kernel_rfl) (by simp) (AllReadyH.cons (o := ⟨none, .store 30 (.tmp 3) (.tmp 37), _, _, _, none⟩) rfl (fun K hK => ?_) AllReadyH.nil)
  rw [if_pos (by kernel_rfl)]
  refine wp_store_kk 30 (.tmp 3) (.tmp 37) rfl w.heap.size 0 [.int .i64 KC, .int .i64 KB, .slice oa on oc] rfl rfl HZD.out.there3 (by kernel_rfl) (one3 _ _ _ _ _) ?_
  obtain ⟨hx9, hm9⟩ := HZD.out.set3 (.int .i64 KC) (.int .i64 KB) (.slice oa on oc)
  refine hK.out _ _ (hHeld.mod hm9 (by have := HQ.out; omega)) (fun hS9 => ?_)
  have HF := Lib.hid (And.intro hx9 (show Opnd w pd F (A.1, ke + 1, ⟨KC, KB, KL⟩, 0) (.pointer (some ⟨q + 1, 0, none⟩)) (.slice oa on oc) _ from
    ⟨⟨F5, HD5.out.mod hm9 (fun k hk e => HP.out.2.1 (by rw [← e]; exact hk)), HP.out.1, fun k hk => ⟨(HOL2.out k hk).2.2.2.2, (HOL2.out k hk).1⟩, fun _ => ⟨q + 1, pl5, rfl, by have := HQ.out; omega, HP.out.2.2.1, HP.out.2.2.2.2.2.2, HP.out.2.2.2.2.2.1, HP.out.2.2.2.2.1, HS5.out.mod hm9 (by have := HQ.out; omega), Box.mod HL5.out hm9 HP.out.2.2.2.1, fun k hk => ⟨(HOL2.out k hk).2.1, (HOL2.out k hk).2.2.1⟩⟩⟩, fun h => absurd rfl h, HOD.out.mod hm9 (fun k hk => (HOL2.out k hk).2.2.2.1), HMD.out.old hm9 (fun i hi h => by omega)⟩))
  clear hK K hx9 hm9 HD5 HS5 HL5 HOD HZD HMD HP HOL2
  generalize (World.setCells _ _ _ _) = w9 at HF hS9 ⊢
  try simp only [Act.put]
  refine wpAnyH_take (i := 4) (oi := ⟨some 4, _, _, _, _, _⟩) (v := ?_) rfl (by kernel_rfl) (by kernel_rfl) (by kernel_rfl) (fun _ _ _ h => h) (Or.inl ⟨by kernel_rfl, ?_⟩) (by assumption) ?_
  rotate_left 1
  · intro w' hw'; clear hw'; go_simp; try with_reducible rfl
  try simp only [Act.put, List.setIfInBounds_toArray, List.set_cons_zero, List.set_cons_succ]
  refine wpAnyH_done (by kernel_rfl) ?_ _
  clear hHeld hS9
  go_wp2_with fail
  exact ret_tmp_cell_tmp rfl rfl w.heap.size 0 rfl [.int .i64 KC, .int .i64 KB, .slice oa on oc] _ (zrangeS HF.out.1) Tryz.underlying30 rfl (by kernel_rfl) _ _ rfl rfl ⟨_, _, rfl, HF.out.2⟩
end Go.Proofs.YtgcnolapjppbpaaGreatDoor
