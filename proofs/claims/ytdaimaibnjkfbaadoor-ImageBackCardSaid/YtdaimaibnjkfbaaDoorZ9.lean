/-
  Package image: Decode.
-/
import Derived.Test.YtdaimaibnjkfbaaDoorZ8
import Derived.Outline
import Derived.Deep.LoopGhost
import Derived.BigQuiet
namespace Go.Proofs.YtdaimaibnjkfbaaDoor
open Go.RowKit
set_option maxRecDepth 100000

/-- What the taker has behind Open. -/
theorem ImSt.start {w w1 : World} {r : Nat} {v : Value} {l : List UInt8} (hi : IsR w1 r v l 0) (hb : Below (w.alloc (.cells #[.int .i64 0, .int .i64 0, .slice none 0 0] 24)).heap.size (w.alloc (.cells #[.int .i64 0, .int .i64 0, .slice none 0 0] 24)) w1)
    (hr : w.heap.size + 1 ≤ r) (hv : ∀ b, v.ownBlock = some b → w.heap.size + 1 ≤ b ∧ b < w1.heap.size) :
    ImSt w ((w1.alloc (.cells #[.pointer (some ⟨r, 0, none⟩), .nilIface, .bool false] 86)).alloc (.cells #[.int .i64 0, .int .i64 0, .slice none 0 0] 24)) w1.heap.size r w.heap.size (w1.heap.size + 1) v ⟨l, 0, 0, false⟩ 0 0 (.slice none 0 0) [] := by
  have hsz : w.heap.size + 1 ≤ w1.heap.size := by have := hb.size; rw [World.size_alloc] at this; exact this
  have hrl := hi.box.lt
  have hit : IsTI (w1.alloc (.cells #[.pointer (some ⟨r, 0, none⟩), .nilIface, .bool false] 86)) w1.heap.size r v ⟨l, 0, 0, false⟩ :=
    ⟨Box.new _ _ _, hi.below (below_alloc _ _), by omega, fun e => by have := (hv _ e).2; omega, fun b hbb => by have := (hv b hbb).2; simp; omega⟩
  have hbx := Box.new (w1.alloc (.cells #[.pointer (some ⟨r, 0, none⟩), .nilIface, .bool false] 86)) #[.int .i64 0, .int .i64 0, .slice none 0 0] 24
  rw [World.size_alloc] at hbx
  exact ⟨hit.below (below_alloc _ _), (((Box.new w _ _).below hb).below (below_alloc _ _)).below (below_alloc _ _), hbx, OwnS.nil _ _,
    (((below_alloc w _).trans (hb.mono (by simp))).trans ((below_alloc _ _).mono (by omega))).trans ((below_alloc _ _).mono (by rw [World.size_alloc]; omega)), Nat.le_refl _, by omega, by omega, by omega, fun k hk => ⟨by have := (hv k hk).1; omega, (hv k hk).2⟩⟩
theorem num_nz (s : TkM) (h : s.num.2.er ≠ 0) : s.num.1 = 0 := by
  unfold TkM.num at h ⊢
  split
  · rename_i h0
    rw [if_pos h0] at h
    split
    · rename_i h1; rw [if_pos h1] at h; exact absurd rfl h
    · rfl
  · rfl
theorem ImSt.zero {w0 w : World} {t r b2 b8 : Nat} {v x : Value} {s : TkM} {c b : Int} {l : List SesM} (h : ImSt w0 w t r b2 b8 v s c b x l) :
    Box (((w.setCell ⟨b2, 0, none⟩ (.int .i64 0)).setCell ⟨b2, 1, none⟩ (.int .i64 0)).setCell ⟨b2, 2, none⟩ (.slice none 0 0)) b2 #[.int .i64 0, .int .i64 0, .slice none 0 0] 24 ∧ Below w0.heap.size w0 (((w.setCell ⟨b2, 0, none⟩ (.int .i64 0)).setCell ⟨b2, 1, none⟩ (.int .i64 0)).setCell ⟨b2, 2, none⟩ (.slice none 0 0)) :=
  ⟨((h.bz.set 0 (.int .i64 0)).set 1 (.int .i64 0)).set 2 (.slice none 0 0), h.bel.trans ((((Mod.set (fun i => i = b2) w ⟨b2, 0, none⟩ (.int .i64 0) rfl).trans (Mod.set (fun i => i = b2) _ ⟨b2, 1, none⟩ (.int .i64 0) rfl)).trans (Mod.set (fun i => i = b2) _ ⟨b2, 2, none⟩ (.slice none 0 0) rfl)).below h.bel.size (fun _ e => e ▸ h.g))⟩
theorem ImSt.full {w0 w : World} {t r b2 b8 : Nat} {v x : Value} {s : TkM} {c b : Int} {l : List SesM} (h : ImSt w0 w t r b2 b8 v s c b x l) :
    Box (((w.setCell ⟨b2, 0, none⟩ (.int .i64 c)).setCell ⟨b2, 1, none⟩ (.int .i64 b)).setCell ⟨b2, 2, none⟩ x) b2 #[.int .i64 c, .int .i64 b, x] 24 ∧ OwnS (((w.setCell ⟨b2, 0, none⟩ (.int .i64 c)).setCell ⟨b2, 1, none⟩ (.int .i64 b)).setCell ⟨b2, 2, none⟩ x) w0.heap.size x l ∧ Below w0.heap.size w0 (((w.setCell ⟨b2, 0, none⟩ (.int .i64 c)).setCell ⟨b2, 1, none⟩ (.int .i64 b)).setCell ⟨b2, 2, none⟩ x) := by
  have hm := (((Mod.set (fun i => i = b2) w ⟨b2, 0, none⟩ (.int .i64 c) rfl).trans (Mod.set (fun i => i = b2) _ ⟨b2, 1, none⟩ (.int .i64 b) rfl)).trans (Mod.set (fun i => i = b2) _ ⟨b2, 2, none⟩ x rfl))
  have := h.g; have := h.o1; have := h.o2; have := h.o3
  exact ⟨((h.bz.set 0 (.int .i64 c)).set 1 (.int .i64 b)).set 2 x, (h.own.base (by omega)).mod hm (fun k hk e => by have := (h.own.lt k hk).1; omega), h.bel.trans (hm.below h.bel.size (fun _ e => e ▸ h.g))⟩
theorem bornM_ok (s : TkM) : SesOk (bornM s).1 := ⟨Nat.le_trans (TkM.txt_len _) (by decide), Nat.le_trans (TkM.txt_len _) (by decide), TkM.num_lt _⟩
theorem sesTs_ok : ∀ (n : Nat) (s : TkM), ∀ x ∈ (sesTs n s).1, SesOk x
  | 0, s, x, h => by cases h
  | n + 1, s, x, h => by
    rcases List.mem_cons.1 h with rfl | h
    · exact bornM_ok s
    · exact sesTs_ok n _ x h
theorem zrange {w : World} {b : Nat} {cs : List Value} {t : TypeId} (h : Box w b cs.toArray t) : w.rangeAt b 0 cs := h.range 0 _ (fun j v hv => by rw [Nat.zero_add]; simpa using hv)
set_option maxHeartbeats 12800000 in
theorem decI_calls (x : Value) (l : List UInt8) (w : World) (hx : Rd w x l.length (l.map V8)) (hl : l.length ≤ 1000000000000) :
    Calls Tryd.prog 19 #[x] w fun ev w' => ∃ o, ev = .returned (.tuple #[.agg #[.int .i64 (decI l).2.clock, .int .i64 (decI l).2.births, o], errV (decI l).1]) ∧ OwnS w' w.heap.size o (decI l).2.l ∧ Below w.heap.size w w' := by
  have Hop := Lib.hid (fun o => open_calls x l (w.alloc o) (hx.below (below_alloc w o)) hl)
  obtain ⟨D, hD⟩ : ∃ D, D = decI l := ⟨_, rfl⟩
  rw [← hD]
  unfold decI at hD
  simp only at hD
  have HD := Lib.hid hD
  obtain ⟨xa, xc, rfl, hx0⟩ := hx
  clear hl hD hx0
  go_enter Tryd.func19, Tryd.ntmps19
  go_wp2_with fail
  refine (Hop.out _).mono ?_
  rintro ev w1 ⟨r, v, rfl, hi, hb, hr, hv⟩
  rw [World.size_alloc] at hr hv
  have HST := Lib.hid (ImSt.start hi hb hr hv)
  clear hi hb hr hv Hop
  go_wp2_with fail
  have hit := HST.out.below (below_alloc _ (.cells #[.pointer (some ⟨w1.heap.size + 1, 0, none⟩), .pointer (some ⟨w1.heap.size + 1, 1, none⟩)] 90))
  have hsb := Box.new ((w1.alloc (.cells #[.pointer (some ⟨r, 0, none⟩), .nilIface, .bool false] 86)).alloc (.cells #[.int .i64 0, .int .i64 0, .slice none 0 0] 24)) #[.pointer (some ⟨w1.heap.size + 1, 0, none⟩), .pointer (some ⟨w1.heap.size + 1, 1, none⟩)] 90
  rw [World.size_alloc, World.size_alloc] at hsb
  have hwr := HST.out.o2
  have hwv := HST.out.ov
  have HI := Lib.hid (imInts_calls w1.heap.size r (w1.heap.size + 1) (w1.heap.size + 1 + 1) v ⟨l, 0, 0, false⟩ [0, 1] _ 24 90 _ hit.it hit.bs hsb (by decide) (by omega) (by omega) (by omega) (by omega) (by omega) (fun e => by have := (hwv _ e).2; omega) (by decide))
  have HI2 := Lib.hid hit
  clear hit hsb hwr hwv HST
  refine HI.out.mono ?_
  rintro ev w4 ⟨rfl, hi4, hb4, hm4⟩
  have hs4 := HI2.out.clocks (c' := (⟨l, 0, 0, false⟩ : TkM).int.1) (b' := (⟨l, 0, 0, false⟩ : TkM).int.2.int.1) hi4 hb4 hm4
  change ImSt _ _ _ _ _ _ _ (⟨l, 0, 0, false⟩ : TkM).int.2.int.2 _ _ _ _ at hs4
  clear hi4 hb4 hm4 HI HI2
  have hDD := HD.out
  clear HD
  generalize (⟨l, 0, 0, false⟩ : TkM).int = p at hs4 hDD
  obtain ⟨c, s1⟩ := p
  simp only at hs4 hDD
  generalize s1.int = p at hs4 hDD
  obtain ⟨bb, s2⟩ := p
  simp only at hs4 hDD
  have HS4 := Lib.hid hs4
  have HD := Lib.hid hDD
  generalize w1.heap.size = t at *
  clear hs4 hDD
  go_wp2_with fail
  refine (imNumber_calls t r v s2 w4 HS4.out.it).mono ?_
  rintro ev w5 ⟨rfl, hi, hm⟩
  have hs5 := HS4.out.step hi hm
  have hDD := HD.out
  clear hi hm HS4 HD
  have hnz := num_nz s2
  generalize s2.num = p at hs5 hDD hnz ⊢
  obtain ⟨n, s3⟩ := p
  simp only at hs5 hDD hnz ⊢
  have HS5 := Lib.hid hs5
  have c1 : w5.cell? ⟨t, 1, none⟩ = some (errV s3.er) := hs5.it.box.cell 1 _ rfl
  clear hs5
  by_cases hbig : s3.er = 0 ∧ 32 < n
  · rw [if_pos hbig] at hDD
    obtain ⟨he, hn⟩ := hbig
    rw [show errV s3.er = .nilIface by unfold errV; rw [if_pos he]] at c1
    have g2 : (32 : Int) < (n : Int) := by omega
    have d0 : w5.cell? ⟨w.heap.size, 0, none⟩ = some (.int .i64 0) := HS5.out.bz.cell 0 _ rfl
    have d1 : w5.cell? ⟨w.heap.size, 1, none⟩ = some (.int .i64 0) := HS5.out.bz.cell 1 _ rfl
    have d2 : w5.cell? ⟨w.heap.size, 2, none⟩ = some (.slice none 0 0) := HS5.out.bz.cell 2 _ rfl
    have e0 := HS5.out.bz.free 0
    have e1 := HS5.out.bz.free 1
    have e2 := HS5.out.bz.free 2
    have HZ := Lib.hid HS5.out.zero
    subst hDD
    clear he hn hnz HS5
    go_wp2_with fail
    exact ret_cell_tmp rfl rfl w.heap.size 0 rfl [.int .i64 0, .int .i64 0, .slice none 0 0] _ (zrange HZ.out.1) Tryd.underlying24 rfl (by kernel_rfl) _ rfl ⟨_, rfl, OwnS.nil _ _, HZ.out.2⟩
  rw [if_neg hbig] at hDD
  have hn : n ≤ 32 := by
    by_cases he : s3.er = 0
    · exact Nat.le_of_not_lt (fun h => hbig ⟨he, h⟩)
    · rw [hnz he]; exact Nat.zero_le _
  have HNZ := Lib.hid hnz
  have HN := Lib.hid hn
  have HD := Lib.hid hDD
  clear hbig hnz hDD
  by_cases he : s3.er = 0
  rotate_left
  · rw [errV_no he] at c1
    have hn0 := HNZ.out he
    have hDD := HD.out
    rw [hn0] at hDD
    unfold finI at hDD
    change D = (if s3.er = 0 then _ else _) at hDD
    rw [if_neg he] at hDD
    change D = (s3.er, noSt) at hDD
    have HER := Lib.hid he
    subst hDD
    subst hn0
    clear HNZ HN HD hn he
    go_wp2_with fail
    go_loopg [41] 0 (fun gk iv wr => iv = .int .u64 0 ∧ ImSt w wr t r w.heap.size (t + 1) v s3 c bb (.slice none 0 0) [])
    case atStart => exact ⟨rfl, HS5.out⟩
    case round =>
      obtain ⟨rfl, hst⟩ := hrel
      have HSR := Lib.hid hst
      have c2 : wr.cell? ⟨t, 1, none⟩ = some (errV s3.er) := hst.it.box.cell 1 _ rfl
      rw [errV_no HER.out] at c2
      clear hst c1 HS5
      have HX := Lib.hid (⟨c2, HSR.out.bz, HSR.out.bel, by have := HSR.out.o1; have := HSR.out.o2; omega, HSR.out.g⟩ : ExI w t w.heap.size (.iface 68 (.int .i64 s3.er)) wr)
      have hke : ∀ w', ExI w t w.heap.size (.iface 68 (.int .i64 s3.er)) w' → w'.cell? ⟨t, 1, none⟩ = some (.iface 68 (.int .i64 s3.er)) := fun w' h => h.ce
      clear HSR
      go_wp2_with fail
      clear c2
      refine wp_region_held_drew (S := ExI w t w.heap.size (.iface 68 (.int .i64 s3.er))) (by kernel_rfl) HX.out.drew (fun hHeld => ?_)
      refine wpAnyH_take (i := 0) (oi := ⟨some 81, _, _, _, _, _⟩) (v := ?_) rfl (by kernel_rfl) (by kernel_rfl) (by kernel_rfl) (fun _ _ _ h => h) (Or.inl ⟨by kernel_rfl, ?_⟩) (by assumption) ?_
      rotate_left 1
      · intro w' hw'; go_simp; try with_reducible rfl
      simp only [Act.put, List.setIfInBounds_toArray, List.set_cons_zero, List.set_cons_succ]
      refine wpAnyH_take (i := 1) (oi := ⟨some 82, _, _, _, _, _⟩) (v := ?_) rfl (by kernel_rfl) (by kernel_rfl) (by kernel_rfl) (fun _ _ _ h => h) (Or.inl ⟨by kernel_rfl, ?_⟩) (by assumption) ?_
      rotate_left 1
      · intro w' hw'; go_simp; try with_reducible rfl
      simp only [Act.put, List.setIfInBounds_toArray, List.set_cons_zero, List.set_cons_succ]
      refine wpAnyH_take (i := 2) (oi := ⟨some 83, _, _, _, _, _⟩) (v := ?_) rfl (by kernel_rfl) (by kernel_rfl) (by kernel_rfl) (fun _ _ _ h => h) (Or.inl ⟨by kernel_rfl, ?_⟩) (by assumption) ?_
      rotate_left 1
      · intro w' hw'; go_simp; try with_reducible rfl
      simp only [Act.put, List.setIfInBounds_toArray, List.set_cons_zero, List.set_cons_succ]
      refine wpAnyH_take (i := 3) (oi := ⟨some 84, _, _, _, _, _⟩) (v := ?_) rfl (by kernel_rfl) (by kernel_rfl) (by kernel_rfl) (fun _ _ _ h => h) (Or.inl ⟨by kernel_rfl, ?_⟩) (by assumption) ?_
      rotate_left 1
      · intro w' hw'; go_simp; try with_reducible rfl
      simp only [Act.put, List.setIfInBounds_toArray, List.set_cons_zero, List.set_cons_succ]
      refine wpAnyH_take (i := 4) (oi := ⟨some 85, _, _, _, _, _⟩) (v := ?_) rfl (by kernel_rfl) (by kernel_rfl) (by kernel_rfl) (fun _ _ _ h => h) (Or.inl ⟨by kernel_rfl, ?_⟩) (by assumption) ?_
      rotate_left 1
      · intro w' hw'; go_simp; try with_reducible rfl
      simp only [Act.put, List.setIfInBounds_toArray, List.set_cons_zero, List.set_cons_succ]
      refine wpAnyH_ready (rs := [5]) (by kernel_rfl) (by simp) (AllReadyH.cons (o := ⟨none, .store 24 (.tmp 2) (.tmp 81), _, _, _, none⟩) rfl (fun K hK => ?_) AllReadyH.nil)
      rw [if_pos (by kernel_rfl)]
      refine wp_store_k 24 (.tmp 2) (.tmp 81) rfl w.heap.size 0 [.int .i64 0, .int .i64 0, .slice none 0 0] rfl rfl (hHeld.bz.there 0 3 (by decide)) (by kernel_rfl) zst_one ?_
      refine hK.out _ _ hHeld.store (fun hHeld2 => ?_)
      clear hK K
      try simp only [Act.put]
      refine wpAnyH_take (i := 6) (oi := ⟨some 3, _, _, _, _, _⟩) (v := ?_) rfl (by kernel_rfl) (by kernel_rfl) (by kernel_rfl) (fun _ _ _ h => h) (Or.inl ⟨by kernel_rfl, ?_⟩) (by assumption) ?_
      rotate_left 1
      · intro w' hw'; go_simp; try with_reducible rfl
      simp only [Act.put, List.setIfInBounds_toArray, List.set_cons_zero, List.set_cons_succ]
      refine wpAnyH_done (by kernel_rfl) ?_ _
      have HZ := Lib.hid hHeld2
      clear hHeld hHeld2 hke HX
      generalize World.setCells _ _ _ _ = wz at HZ ⊢
      go_wp2_with fail
      exact ret_cell_tmp rfl rfl w.heap.size 0 rfl [.int .i64 0, .int .i64 0, .slice none 0 0] _ (zrange HZ.out.bz) Tryd.underlying24 rfl (by kernel_rfl) _ rfl ⟨_, by rw [errV_no HER.out]; rfl, OwnS.nil _ _, HZ.out.bel⟩
  rw [show errV s3.er = .nilIface by unfold errV; rw [if_pos he]] at c1
  have g2 : ¬ (32 : Int) < (n : Int) := by omega
  clear he hn
  go_wp2_with fail
  go_loopg [41] n (fun gk iv wr => ∃ (k : Nat) (x : Value), gk + k = n ∧ iv = .int .u64 (k : Int) ∧ ImSt w wr t r w.heap.size (t + 1) v (sesTs k s3).2 c bb x (sesTs k s3).1)
  case atStart => exact ⟨0, _, rfl, rfl, HS5.out⟩
  case round =>
    obtain ⟨k, x, hgk, rfl, hst⟩ := hrel
    have k0 : (0 : Int) ≤ (k : Int) := by omega
    have HGK := Lib.hid hgk
    have HSR := Lib.hid hst
    have HTS := Lib.hid (sesTs_snoc k s3)
    by_cases hk : k < n
    · have k1 : (k : Int) < (n : Int) := by omega
      have HK := Lib.hid hk
      clear hst hk hgk
      have HLL := Lib.hid (sesTs_len k s3)
      generalize sesTs k s3 = p at HSR HTS HLL
      obtain ⟨l, sk⟩ := p
      simp only at HSR HTS HLL
      unfold bornM at HTS
      simp only at HTS
      have hlt : t + 1 < wr.heap.size := HSR.out.bs.lt
      have hrt : r < t := HSR.out.o2
      have hsz : (wr.alloc (.cells #[.int .i64 0, .int .i64 0, .int .i64 0, .int .i64 0, .int .i64 0, .string ⟨#[]⟩, .string ⟨#[]⟩, .int .u64 0, .int .i64 0, .int .i64 0, .int .i64 0, .int .i64 0] 56)).heap.size = wr.heap.size + 1 := World.size_alloc _ _
      have hst1 := HSR.out.below (below_alloc _ (.cells #[.int .i64 0, .int .i64 0, .int .i64 0, .int .i64 0, .int .i64 0, .string ⟨#[]⟩, .string ⟨#[]⟩, .int .u64 0, .int .i64 0, .int .i64 0, .int .i64 0, .int .i64 0] 56))
      have hbx1 : Box (wr.alloc (.cells #[.int .i64 0, .int .i64 0, .int .i64 0, .int .i64 0, .int .i64 0, .string ⟨#[]⟩, .string ⟨#[]⟩, .int .u64 0, .int .i64 0, .int .i64 0, .int .i64 0, .int .i64 0] 56)) wr.heap.size #[.int .i64 0, .int .i64 0, .int .i64 0, .int .i64 0, .int .i64 0, .string ⟨#[]⟩, .string ⟨#[]⟩, .int .u64 0, .int .i64 0, .int .i64 0, .int .i64 0, .int .i64 0] 56 := Box.new wr _ _
      have hxo : ∀ eb, eb = wr.heap.size → x.ownBlock ≠ some eb := fun eb he e => by have := (HSR.out.own.lt _ e).2; omega
      have hvo : ∀ eb, eb = wr.heap.size → v.ownBlock ≠ some eb := fun eb he e => by have := (HSR.out.ov _ e).2; omega
      obtain ⟨eb, heb⟩ : ∃ eb, eb = wr.heap.size := ⟨_, rfl⟩
      have HXO := Lib.hid (hxo eb heb)
      have HVO := Lib.hid (hvo eb heb)
      have HW1 := Lib.hid (And.intro hst1 hbx1)
      have HLT := Lib.hid (show t + 1 < eb ∧ r < t by omega)
      clear hst1 hbx1 hxo hvo hlt hrt HSR
      go_wp2_with fail
      rw [← heb] at HW1 hsz ⊢
      have hsb := Box.new (wr.alloc (.cells #[.int .i64 0, .int .i64 0, .int .i64 0, .int .i64 0, .int .i64 0, .string ⟨#[]⟩, .string ⟨#[]⟩, .int .u64 0, .int .i64 0, .int .i64 0, .int .i64 0, .int .i64 0] 56)) #[.pointer (some ⟨eb, 0, none⟩), .pointer (some ⟨eb, 1, none⟩), .pointer (some ⟨eb, 2, none⟩), .pointer (some ⟨eb, 3, none⟩), .pointer (some ⟨eb, 4, none⟩)] 90
      rw [hsz] at hsb
      have hst2 := HW1.out.1.below (below_alloc _ (.cells #[.pointer (some ⟨eb, 0, none⟩), .pointer (some ⟨eb, 1, none⟩), .pointer (some ⟨eb, 2, none⟩), .pointer (some ⟨eb, 3, none⟩), .pointer (some ⟨eb, 4, none⟩)] 90))
      have hbx2 := HW1.out.2.below (below_alloc _ (.cells #[.pointer (some ⟨eb, 0, none⟩), .pointer (some ⟨eb, 1, none⟩), .pointer (some ⟨eb, 2, none⟩), .pointer (some ⟨eb, 3, none⟩), .pointer (some ⟨eb, 4, none⟩)] 90))
      have HI := Lib.hid (imInts_calls t r eb (eb + 1) v sk [0, 1, 2, 3, 4] _ 56 90 _ hst2.it hbx2 hsb (by decide) (by have := HLT.out; omega) (by have := HLT.out; omega) (by have := HLT.out; omega) (by have := HLT.out; omega) (by omega) HVO.out (by decide))
      have HS2 := Lib.hid hst2
      clear hst2 hbx2 hsb HW1 heb hsz
      refine HI.out.mono ?_
      rintro ev w4 ⟨rfl, hi4, hb4, hm4⟩
      have hs4 := HS2.out.ints hi4 hm4 HLT.out.1 HXO.out
      change ImSt _ _ _ _ _ _ _ sk.int.2.int.2.int.2.int.2.int.2 _ _ _ _ at hs4
      change Box w4 eb (SesM.cells ⟨sk.int.1, sk.int.2.int.1, sk.int.2.int.2.int.1, sk.int.2.int.2.int.2.int.1, sk.int.2.int.2.int.2.int.2.int.1, [], [], 0, 0, 0, 0, 0⟩) 56 at hb4
      clear hi4 hm4 HI HS2
      generalize sk.int = p at hs4 hb4 HTS
      obtain ⟨n1, q2⟩ := p
      simp only at hs4 hb4 HTS
      generalize q2.int = p at hs4 hb4 HTS
      obtain ⟨n2, q3⟩ := p
      simp only at hs4 hb4 HTS
      generalize q3.int = p at hs4 hb4 HTS
      obtain ⟨n3, q4⟩ := p
      simp only at hs4 hb4 HTS
      generalize q4.int = p at hs4 hb4 HTS
      obtain ⟨n4, q5⟩ := p
      simp only at hs4 hb4 HTS
      generalize q5.int = p at hs4 hb4 HTS
      obtain ⟨n5, q6⟩ := p
      simp only at hs4 hb4 HTS
      have HS4 := Lib.hid hs4
      have HE4 := Lib.hid hb4
      clear hs4 hb4
      go_wp2_with fail
      refine (imText_calls t r v q6 _ HS4.out.it).mono ?_
      rintro ev w5 ⟨rfl, hi, hm⟩
      have hst := HS4.out.step hi hm
      have hE := HE4.out.mod hm (by rintro (e | e) <;> (have := HLT.out; omega))
      clear hi hm
      generalize q6.txt = p at hst HTS ⊢
      obtain ⟨u, q7⟩ := p
      simp only at hst HTS ⊢
      have HS5 := Lib.hid hst
      have HE5 := Lib.hid hE
      clear hst hE HS4 HE4
      go_wp2_with fail
      refine (imText_calls t r v q7 _ HS5.out.it).mono ?_
      rintro ev w6 ⟨rfl, hi, hm⟩
      have hst := HS5.out.step hi hm
      have hE := HE5.out.mod hm (by rintro (e | e) <;> (have := HLT.out; omega))
      clear hi hm
      generalize q7.txt = p at hst HTS ⊢
      obtain ⟨lb, q8⟩ := p
      simp only at hst HTS ⊢
      have HS6 := Lib.hid hst
      have HE6 := Lib.hid hE
      clear hst hE HS5 HE5
      have k5 := HE6.out.cell 5 _ rfl
      have f5 := HE6.out.free 5
      have hEa : Box (w6.setCell ⟨eb, 5, none⟩ (.string (SB u))) eb (SesM.cells ⟨n1, n2, n3, n4, n5, u, [], 0, 0, 0, 0, 0⟩) 56 := HE6.out.set 5 _
      have hSa := HS6.out.mod (Mod.set (fun i => i = eb) w6 ⟨eb, 5, none⟩ (.string (SB u)) rfl) HLT.out.1 HXO.out
      have k6 := hEa.cell 6 _ rfl
      have f6 := hEa.free 6
      have hEb : Box ((w6.setCell ⟨eb, 5, none⟩ (.string (SB u))).setCell ⟨eb, 6, none⟩ (.string (SB lb))) eb (SesM.cells ⟨n1, n2, n3, n4, n5, u, lb, 0, 0, 0, 0, 0⟩) 56 := hEa.set 6 _
      have hSb := hSa.mod (Mod.set (fun i => i = eb) (w6.setCell ⟨eb, 5, none⟩ (.string (SB u))) ⟨eb, 6, none⟩ (.string (SB lb)) rfl) HLT.out.1 HXO.out
      have HEb := Lib.hid hEb
      have HSb := Lib.hid hSb
      clear hEa hEb hSa hSb HE6 HS6
      go_wp2_with fail
      refine (imNumber_calls t r v q8 _ HSb.out.it).mono ?_
      rintro ev w7 ⟨rfl, hi, hm⟩
      have hst := HSb.out.step hi hm
      have hE := HEb.out.mod hm (by rintro (e | e) <;> (have := HLT.out; omega))
      clear hi hm k5 f5 k6 f6 HSb HEb
      generalize q8.num = p at hst HTS ⊢
      obtain ⟨sc, q9⟩ := p
      simp only at hst HTS ⊢
      have k7 := hE.cell 7 _ rfl
      have f7 := hE.free 7
      have hEa : Box (w7.setCell ⟨eb, 7, none⟩ (.int .u64 (sc : Int))) eb (SesM.cells ⟨n1, n2, n3, n4, n5, u, lb, sc, 0, 0, 0, 0⟩) 56 := hE.set 7 _
      have hSa := hst.mod (Mod.set (fun i => i = eb) w7 ⟨eb, 7, none⟩ (.int .u64 (sc : Int)) rfl) HLT.out.1 HXO.out
      have hEl : eb < w7.heap.size := hE.lt
      have HE7 := Lib.hid hEa
      have HS7 := Lib.hid hSa
      clear hE hst hEa hSa
      go_wp2_with fail
      clear k7 f7
      have hst2 := HS7.out.below (below_alloc _ (.cells #[.pointer (some ⟨eb, 8, none⟩), .pointer (some ⟨eb, 9, none⟩), .pointer (some ⟨eb, 10, none⟩), .pointer (some ⟨eb, 11, none⟩)] 90))
      have hbx2 := HE7.out.below (below_alloc _ (.cells #[.pointer (some ⟨eb, 8, none⟩), .pointer (some ⟨eb, 9, none⟩), .pointer (some ⟨eb, 10, none⟩), .pointer (some ⟨eb, 11, none⟩)] 90))
      have hsb := Box.new (w7.setCell ⟨eb, 7, none⟩ (.int .u64 (sc : Int))) #[.pointer (some ⟨eb, 8, none⟩), .pointer (some ⟨eb, 9, none⟩), .pointer (some ⟨eb, 10, none⟩), .pointer (some ⟨eb, 11, none⟩)] 90
      rw [show (w7.setCell ⟨eb, 7, none⟩ (.int .u64 (sc : Int))).heap.size = w7.heap.size by simp] at hsb
      have HI := Lib.hid (imInts_calls t r eb w7.heap.size v q9 [8, 9, 10, 11] _ 56 90 _ hst2.it hbx2 hsb (show ∀ o ∈ [8, 9, 10, 11], o < 12 by decide) (by have := HLT.out; omega) (by have := HLT.out; omega) (by have := HLT.out; omega) (by have := HLT.out; omega) (by omega) HVO.out (by decide))
      have HS2 := Lib.hid hst2
      clear hst2 hbx2 hsb HE7 HS7 hEl
      refine HI.out.mono ?_
      rintro ev w8 ⟨rfl, hi4, hb4, hm4⟩
      have hs4 := HS2.out.ints hi4 hm4 HLT.out.1 HXO.out
      change ImSt _ _ _ _ _ _ _ q9.int.2.int.2.int.2.int.2 _ _ _ _ at hs4
      change Box w8 eb (SesM.cells ⟨n1, n2, n3, n4, n5, u, lb, sc, q9.int.1, q9.int.2.int.1, q9.int.2.int.2.int.1, q9.int.2.int.2.int.2.int.1⟩) 56 at hb4
      clear hi4 hm4 HI HS2
      generalize q9.int = p at hs4 hb4 HTS
      obtain ⟨n6, q10⟩ := p
      simp only at hs4 hb4 HTS
      generalize q10.int = p at hs4 hb4 HTS
      obtain ⟨n7, q11⟩ := p
      simp only at hs4 hb4 HTS
      generalize q11.int = p at hs4 hb4 HTS
      obtain ⟨n8, q12⟩ := p
      simp only at hs4 hb4 HTS
      generalize q12.int = p at hs4 hb4 HTS
      obtain ⟨n9, q13⟩ := p
      simp only at hs4 hb4 HTS
      obtain ⟨y, hy⟩ : ∃ y : SesM, y = ⟨n1, n2, n3, n4, n5, u, lb, sc, n6, n7, n8, n9⟩ := ⟨_, rfl⟩
      rw [← hy] at hb4 HTS
      clear hy
      have HRG := Lib.hid (Box.rangeS hb4)
      have s2 : w8.cell? ⟨t + 1, 2, none⟩ = some x := hs4.bs.cell 2 _ rfl
      have HS8 := Lib.hid hs4
      clear hs4 hb4
      go_wp2_with ((with_reducible refine wpList_load_k ?b01 56 (.tmp 10) ?b11 eb 0 ?b21 y.cells.toList _ HRG.out Tryd.underlying56 ?b31 ?b41 ?b81); (case b11 => rfl); (case b01 => rfl); (case b21 => rfl); (case b31 => rfl); (case b41 => kernel_rfl))
      intro cv hcv
      have ecv : cv = y.cells := by rw [hcv.out]
      subst ecv
      clear hcv
      go_wp2_with (refine wpList_buildSlice_s (op := ⟨some 72, _, _, _, _, _⟩) (by rfl) 22 1 #[(0, .tmp 71)] rfl #[(0, .agg y.cells)] (by kernel_rfl) _ _ (buildS y w8) ?_)
      intro w9 hw9
      have hb9 : Below w8.heap.size w8 w9 := by rw [hw9.out]; exact below_alloc _ _
      have HC9 := Lib.hid (show ∀ j u, y.cells.toList[j]? = some u → w9.cell? ((⟨w8.heap.size, 0, none⟩ : Addr).add j) = some u by rw [hw9.out]; exact newCells w8 y _)
      have HS9 := Lib.hid (HS8.out.below hb9)
      have HLK := Lib.hid (show l.length + 1 ≤ 1256584717458 by have := HLL.out; have := HK.out; have := HN.out; omega)
      have HBS := Lib.hid (show t + 1 + 1 ≤ w9.heap.size by have := HS9.out.bs.lt; omega)
      clear hw9 hb9 HS8 HRG s2
      go_wp2_with (at_builtin; refine appSes rfl _ _ rfl (t + 1 + 1) _ l rfl HS9.out.own ⟨w8.heap.size, 0, none⟩ 1 y rfl HC9.out HLK.out HBS.out ?_)
      intro x' w10 hown' hg' _
      obtain ⟨va, vc, hve, _⟩ := hown'.slice
      rw [List.length_append, List.length_singleton] at hve
      subst hve
      have hb10 := HS9.out.grown hg'
      have hm10 : Mod (fun i => t + 1 + 1 ≤ i) w9 w10 := ⟨hb10.os, hb10.tape, hb10.output, hb10.size, fun i _ hn => hb10.block i (by omega)⟩
      have hbs10 := HS9.out.bs.mod hm10 (by omega)
      have g2 : w10.cell? ⟨t + 1, 2, none⟩ = some x := hbs10.cell 2 _ rfl
      have e2 := hbs10.free 2
      have HSF := Lib.hid (HS9.out.put hb10 hown')
      clear hown' hg' hb10 hm10 hbs10 HS9 HC9 HLK HBS
      go_wp2_with fail
      go_roundg (n - (k + 1))
      case measure => have := HGK.out; have := HK.out; omega
      case rel => exact ⟨k + 1, _, by have := HGK.out; have := HK.out; omega, by go_num, by rw [HTS.out]; exact HSF.out⟩
    · have hkn : k = n := by omega
      subst hkn
      have k1 : ¬ (k : Int) < (k : Int) := by omega
      clear hgk hk hst HTS HGK HNZ HN HS5 c1
      have hDD := HD.out
      clear HD
      have hok := sesTs_ok k s3
      generalize sesTs k s3 = p at HSR hDD hok
      obtain ⟨L, sN⟩ := p
      simp only at HSR hDD hok
      have HOK := Lib.hid hok
      clear hok
      have c2 : wr.cell? ⟨t, 1, none⟩ = some (errV sN.er) := HSR.out.it.box.cell 1 _ rfl
      unfold finI at hDD
      by_cases he : sN.er = 0
      rotate_left
      · rw [if_neg he] at hDD
        rw [errV_no he] at c2
        have HER := Lib.hid he
        subst hDD
        clear he
        have HX := Lib.hid (⟨c2, HSR.out.bz, HSR.out.bel, by have := HSR.out.o1; have := HSR.out.o2; omega, HSR.out.g⟩ : ExI w t w.heap.size (.iface 68 (.int .i64 sN.er)) wr)
        have hke : ∀ w', ExI w t w.heap.size (.iface 68 (.int .i64 sN.er)) w' → w'.cell? ⟨t, 1, none⟩ = some (.iface 68 (.int .i64 sN.er)) := fun w' h => h.ce
        clear HSR
        go_wp2_with fail
        clear c2
        refine wp_region_held_drew (S := ExI w t w.heap.size (.iface 68 (.int .i64 sN.er))) (by kernel_rfl) HX.out.drew (fun hHeld => ?_)
        refine wpAnyH_take (i := 0) (oi := ⟨some 81, _, _, _, _, _⟩) (v := ?_) rfl (by kernel_rfl) (by kernel_rfl) (by kernel_rfl) (fun _ _ _ h => h) (Or.inl ⟨by kernel_rfl, ?_⟩) (by assumption) ?_
        rotate_left 1
        · intro w' hw'; go_simp; try with_reducible rfl
        simp only [Act.put, List.setIfInBounds_toArray, List.set_cons_zero, List.set_cons_succ]
        refine wpAnyH_take (i := 1) (oi := ⟨some 82, _, _, _, _, _⟩) (v := ?_) rfl (by kernel_rfl) (by kernel_rfl) (by kernel_rfl) (fun _ _ _ h => h) (Or.inl ⟨by kernel_rfl, ?_⟩) (by assumption) ?_
        rotate_left 1
        · intro w' hw'; go_simp; try with_reducible rfl
        simp only [Act.put, List.setIfInBounds_toArray, List.set_cons_zero, List.set_cons_succ]
        refine wpAnyH_take (i := 2) (oi := ⟨some 83, _, _, _, _, _⟩) (v := ?_) rfl (by kernel_rfl) (by kernel_rfl) (by kernel_rfl) (fun _ _ _ h => h) (Or.inl ⟨by kernel_rfl, ?_⟩) (by assumption) ?_
        rotate_left 1
        · intro w' hw'; go_simp; try with_reducible rfl
        simp only [Act.put, List.setIfInBounds_toArray, List.set_cons_zero, List.set_cons_succ]
        refine wpAnyH_take (i := 3) (oi := ⟨some 84, _, _, _, _, _⟩) (v := ?_) rfl (by kernel_rfl) (by kernel_rfl) (by kernel_rfl) (fun _ _ _ h => h) (Or.inl ⟨by kernel_rfl, ?_⟩) (by assumption) ?_
        rotate_left 1
        · intro w' hw'; go_simp; try with_reducible rfl
        simp only [Act.put, List.setIfInBounds_toArray, List.set_cons_zero, List.set_cons_succ]
        refine wpAnyH_take (i := 4) (oi := ⟨some 85, _, _, _, _, _⟩) (v := ?_) rfl (by kernel_rfl) (by kernel_rfl) (by kernel_rfl) (fun _ _ _ h => h) (Or.inl ⟨by kernel_rfl, ?_⟩) (by assumption) ?_
        rotate_left 1
        · intro w' hw'; go_simp; try with_reducible rfl
        simp only [Act.put, List.setIfInBounds_toArray, List.set_cons_zero, List.set_cons_succ]
        refine wpAnyH_ready (rs := [5]) (by kernel_rfl) (by simp) (AllReadyH.cons (o := ⟨none, .store 24 (.tmp 2) (.tmp 81), _, _, _, none⟩) rfl (fun K hK => ?_) AllReadyH.nil)
        rw [if_pos (by kernel_rfl)]
        refine wp_store_k 24 (.tmp 2) (.tmp 81) rfl w.heap.size 0 [.int .i64 0, .int .i64 0, .slice none 0 0] rfl rfl (hHeld.bz.there 0 3 (by decide)) (by kernel_rfl) zst_one ?_
        refine hK.out _ _ hHeld.store (fun hHeld2 => ?_)
        clear hK K
        try simp only [Act.put]
        refine wpAnyH_take (i := 6) (oi := ⟨some 3, _, _, _, _, _⟩) (v := ?_) rfl (by kernel_rfl) (by kernel_rfl) (by kernel_rfl) (fun _ _ _ h => h) (Or.inl ⟨by kernel_rfl, ?_⟩) (by assumption) ?_
        rotate_left 1
        · intro w' hw'; go_simp; try with_reducible rfl
        simp only [Act.put, List.setIfInBounds_toArray, List.set_cons_zero, List.set_cons_succ]
        refine wpAnyH_done (by kernel_rfl) ?_ _
        have HZ := Lib.hid hHeld2
        clear hHeld hHeld2 hke HX
        generalize World.setCells _ _ _ _ = wz at HZ ⊢
        go_wp2_with fail
        exact ret_cell_tmp rfl rfl w.heap.size 0 rfl [.int .i64 0, .int .i64 0, .slice none 0 0] _ (zrange HZ.out.bz) Tryd.underlying24 rfl (by kernel_rfl) _ rfl ⟨_, by rw [errV_no HER.out]; rfl, OwnS.nil _ _, HZ.out.bel⟩
      rw [if_pos he] at hDD
      rw [show errV sN.er = .nilIface by unfold errV; rw [if_pos he]] at c2
      have c3 := HSR.out.it.box.cell 0 _ rfl
      clear he
      go_wp2_with fail
      refine (end_calls r sN.k v sN.l _ HSR.out.it.rd).mono ?_
      rintro ev w7 ⟨rfl, hb7⟩
      have HS7 := Lib.hid (HSR.out.below hb7)
      clear c2 c3 hb7 HSR
      by_cases hk : sN.k < sN.l.length
      · rw [if_pos hk, errV_no (by decide : (3 : Int) ≠ 0)]
        rw [if_pos hk] at hDD
        subst hDD
        clear hk
        have d0 : w7.cell? ⟨w.heap.size, 0, none⟩ = some (.int .i64 0) := HS7.out.bz.cell 0 _ rfl
        have e0 := HS7.out.bz.free 0
        have d1 : w7.cell? ⟨w.heap.size, 1, none⟩ = some (.int .i64 0) := HS7.out.bz.cell 1 _ rfl
        have e1 := HS7.out.bz.free 1
        have d2 : w7.cell? ⟨w.heap.size, 2, none⟩ = some (.slice none 0 0) := HS7.out.bz.cell 2 _ rfl
        have e2 := HS7.out.bz.free 2
        have HZ := Lib.hid HS7.out.zero
        clear HS7
        go_wp2_with fail
        exact ret_cell_tmp rfl rfl w.heap.size 0 rfl [.int .i64 0, .int .i64 0, .slice none 0 0] _ (zrange HZ.out.1) Tryd.underlying24 rfl (by kernel_rfl) _ rfl ⟨_, rfl, OwnS.nil _ _, HZ.out.2⟩
      rw [if_neg hk, show errV 0 = .nilIface from rfl]
      rw [if_neg hk] at hDD
      clear hk
      have c4 : w7.cell? ⟨t, 2, none⟩ = some (.bool sN.big) := HS7.out.it.box.cell 2 _ rfl
      cases hbg : sN.big
      rotate_left
      · rw [hbg] at c4 hDD
        rw [if_pos rfl] at hDD
        subst hDD
        clear hbg
        have d0 : w7.cell? ⟨w.heap.size, 0, none⟩ = some (.int .i64 0) := HS7.out.bz.cell 0 _ rfl
        have e0 := HS7.out.bz.free 0
        have d1 : w7.cell? ⟨w.heap.size, 1, none⟩ = some (.int .i64 0) := HS7.out.bz.cell 1 _ rfl
        have e1 := HS7.out.bz.free 1
        have d2 : w7.cell? ⟨w.heap.size, 2, none⟩ = some (.slice none 0 0) := HS7.out.bz.cell 2 _ rfl
        have e2 := HS7.out.bz.free 2
        have HZ := Lib.hid HS7.out.zero
        clear HS7
        go_wp2_with fail
        exact ret_cell_tmp rfl rfl w.heap.size 0 rfl [.int .i64 0, .int .i64 0, .slice none 0 0] _ (zrange HZ.out.1) Tryd.underlying24 rfl (by kernel_rfl) _ rfl ⟨_, rfl, OwnS.nil _ _, HZ.out.2⟩
      rw [hbg] at c4 hDD
      rw [if_neg (by decide)] at hDD
      have HD := Lib.hid hDD
      clear hDD hbg
      have s0 : w7.cell? ⟨t + 1, 0, none⟩ = some (.int .i64 c) := HS7.out.bs.cell 0 _ rfl
      have s1 : w7.cell? ⟨t + 1, 1, none⟩ = some (.int .i64 bb) := HS7.out.bs.cell 1 _ rfl
      have s2 : w7.cell? ⟨t + 1, 2, none⟩ = some x := HS7.out.bs.cell 2 _ rfl
      obtain ⟨xa, xc, rfl, _⟩ := HS7.out.own.slice
      go_wp2_with fail
      refine (check_calls ⟨c, bb, L⟩ _ w7 HS7.out.own.rd HOK.out).mono ?_
      rintro ev w8 ⟨rfl, hb8⟩
      have HS8 := Lib.hid (HS7.out.below hb8)
      have hDD := HD.out
      clear s0 s1 s2 c4 hb8 HS7 HD HOK
      generalize checkM ⟨c, bb, L⟩ = C at hDD ⊢
      cases C with
      | some f =>
        rw [if_neg (by simp)] at hDD
        subst hDD
        rw [show chkV (some f) = .iface 78 (.agg #[.int .i64 24, .int .i64 f]) from rfl]
        have d0 : w8.cell? ⟨w.heap.size, 0, none⟩ = some (.int .i64 0) := HS8.out.bz.cell 0 _ rfl
        have e0 := HS8.out.bz.free 0
        have d1 : w8.cell? ⟨w.heap.size, 1, none⟩ = some (.int .i64 0) := HS8.out.bz.cell 1 _ rfl
        have e1 := HS8.out.bz.free 1
        have d2 : w8.cell? ⟨w.heap.size, 2, none⟩ = some (.slice none 0 0) := HS8.out.bz.cell 2 _ rfl
        have e2 := HS8.out.bz.free 2
        have HZ := Lib.hid HS8.out.zero
        clear HS8
        go_wp2_with fail
        exact ret_cell_tmp rfl rfl w.heap.size 0 rfl [.int .i64 0, .int .i64 0, .slice none 0 0] _ (zrange HZ.out.1) Tryd.underlying24 rfl (by kernel_rfl) _ rfl ⟨_, rfl, OwnS.nil _ _, HZ.out.2⟩
      | none =>
        rw [if_pos rfl] at hDD
        subst hDD
        rw [show chkV none = .nilIface from rfl]
        have s0 : w8.cell? ⟨t + 1, 0, none⟩ = some (.int .i64 c) := HS8.out.bs.cell 0 _ rfl
        have s1 : w8.cell? ⟨t + 1, 1, none⟩ = some (.int .i64 bb) := HS8.out.bs.cell 1 _ rfl
        have s2 := HS8.out.bs.cell 2 _ rfl
        have HZ := Lib.hid HS8.out.full
        have d0 : w8.cell? ⟨w.heap.size, 0, none⟩ = some (.int .i64 0) := HS8.out.bz.cell 0 _ rfl
        have e0 := HS8.out.bz.free 0
        have d1 : w8.cell? ⟨w.heap.size, 1, none⟩ = some (.int .i64 0) := HS8.out.bz.cell 1 _ rfl
        have e1 := HS8.out.bz.free 1
        have d2 : w8.cell? ⟨w.heap.size, 2, none⟩ = some (.slice none 0 0) := HS8.out.bz.cell 2 _ rfl
        have e2 := HS8.out.bz.free 2
        clear HS8
        go_wp2_with fail
        exact ret_cell_tmp rfl rfl w.heap.size 0 rfl [.int .i64 c, .int .i64 bb, _] _ (zrange HZ.out.1) Tryd.underlying24 rfl (by kernel_rfl) _ rfl ⟨_, rfl, HZ.out.2.1, HZ.out.2.2⟩
end Go.Proofs.YtdaimaibnjkfbaaDoor
/-
  The mark of a place in a list of texts: MarkText, markTexts.
-/
namespace Go.Proofs.YtdaimaibnjkfbaaDoor
open Go.RowKit

/-- The mark of a place. -/
def markT (k i : Int) : List UInt8 := [35, B8 k, B8 (k / 256), B8 i, B8 (i / 256)]
theorem markText_calls (k i : Int) (w : World) :
    Calls Tryd.prog 79 #[.int .i64 k, .int .i64 i] w fun e w' => e = .returned (.string (SB (markT k i))) ∧ Below w.heap.size w w' := by
  have hrd := rd_lit w #[.int .u8 35, .int .u8 (k % 256), .int .u8 (k / 256 % 256), .int .u8 (i % 256), .int .u8 (i / 256 % 256)] 5 (markT k i) (by
    show _ = [V8 35, V8 (B8 k), V8 (B8 (k / 256)), V8 (B8 i), V8 (B8 (i / 256))]
    rw [V8_B8, V8_B8, V8_B8, V8_B8]; rfl) (by show 5 ≤ _; decide)
  have kc := convS (markT k i) hrd rfl
  have hb := below_alloc w (.cells #[.int .u8 35, .int .u8 (k % 256), .int .u8 (k / 256 % 256), .int .u8 (i % 256), .int .u8 (i / 256 % 256)] 5)
  have HB := Lib.hid hb
  obtain ⟨s, hs⟩ : ∃ s, s = SB (markT k i) := ⟨_, rfl⟩
  rw [← hs] at kc ⊢
  have kc : (convert 34 9 (.slice (some ⟨w.heap.size, 0, none⟩) 5 5)).run Tryd.prog (w.alloc (.cells #[.int .u8 35, .int .u8 (k % 256), .int .u8 (k / 256 % 256), .int .u8 (i % 256), .int .u8 (i / 256 % 256)] 5)) = .ok (.string s) (w.alloc (.cells #[.int .u8 35, .int .u8 (k % 256), .int .u8 (k / 256 % 256), .int .u8 (i % 256), .int .u8 (i / 256 % 256)] 5)) := kc
  clear hrd hb hs
  go_enter Tryd.func79, Tryd.ntmps79
  go_wp2_with fail
  go_ret
  exact ⟨rfl, HB.out⟩
end Go.Proofs.YtdaimaibnjkfbaaDoor
/-
  Sessions and states that are lent, and kept.
-/
namespace Go.Proofs.YtdaimaibnjkfbaaDoor
open Go.RowKit
set_option maxRecDepth 100000

theorem run_neqS (s t : SesM) (w : World) : (binOp .neq 56 (.agg s.cells) (.agg t.cells)).run Tryd.prog w = .ok (.bool (!(sameS s t))) w := by
  obtain ⟨r, hr⟩ : ∃ r, r = sameS s t := ⟨_, rfl⟩
  rw [← hr]
  unfold SesM.cells
  go_simp
  subst hr
  unfold sameS
  simp only [SB_toList]
  refine ite_step (fun b => Value.bool (!b)) bdec rfl ?_
  refine ite_step (fun b => Value.bool (!b)) bdec rfl ?_
  refine ite_step (fun b => Value.bool (!b)) bdec rfl ?_
  refine ite_step (fun b => Value.bool (!b)) bdec rfl ?_
  refine ite_step (fun b => Value.bool (!b)) bdec rfl ?_
  refine ite_step (fun b => Value.bool (!b)) bdec rfl ?_
  refine ite_step (fun b => Value.bool (!b)) bdec rfl ?_
  refine ite_step (fun b => Value.bool (!b)) bdec rfl ?_
  refine ite_step (fun b => Value.bool (!b)) bdec rfl ?_
  refine ite_step (fun b => Value.bool (!b)) bdec rfl ?_
  refine ite_step (fun b => Value.bool (!b)) bdec rfl ?_
  exact ite_last (fun b => Value.bool (!b)) bdec rfl rfl
theorem Box.setAllS {w : World} {b : Nat} {cs : Array Value} {t : TypeId} (h : Box w b cs t) (hs : cs.size = 12) (s : SesM) : Box (w.setCells b 0 s.cells.toList) b s.cells t ∧ w.there b 0 s.cells.toList.length := by
  constructor
  · obtain ⟨cs', h1, h2, h3, _⟩ := Box.setCells s.cells.toList 0 h (by show 0 + 12 ≤ cs.size; omega)
    have e1 : cs' = s.cells := by
      apply Array.ext_getElem?
      intro j
      by_cases hj : j < 12
      · have := h3 j _ (List.getElem?_eq_getElem (show j < s.cells.toList.length from hj))
        rw [Nat.zero_add] at this
        rw [this, ← Array.getElem?_toList, List.getElem?_eq_getElem (show j < s.cells.toList.length from hj)]
      · rw [Array.getElem?_eq_none (by omega), Array.getElem?_eq_none (by show 12 ≤ j; omega)]
    rw [e1] at h1
    exact h1
  · intro j hj
    have hj : j < 12 := hj
    obtain ⟨v, hv⟩ : ∃ v, cs[j]? = some v := ⟨_, Array.getElem?_eq_getElem (by omega)⟩
    rw [Nat.zero_add]
    exact ⟨by rw [h.cell _ v hv]; rfl, h.free _⟩
/-- The mark of a place. -/
def markS (k i : Int) : SesM := ⟨0, -7 - k, 0, 0, 0, [], markT k i, 0, 0, 0, 0, 0⟩
theorem markS_cells (k i : Int) : (markS k i).cells = #[.int .i64 0, .int .i64 (-7 - k), .int .i64 0, .int .i64 0, .int .i64 0, .string ⟨#[]⟩, .string (SB (markT k i)), .int .u64 0, .int .i64 0, .int .i64 0, .int .i64 0, .int .i64 0] := rfl
set_option maxHeartbeats 1600000 in
theorem markS_calls (k i : Int) (w : World) (h0 : 0 ≤ k) (h1 : k ≤ 1000000000) :
    Calls Tryd.prog 69 #[.int .i64 k, .int .i64 i] w fun e w' => e = .returned (.agg (markS k i).cells) ∧ Below w.heap.size w w' := by
  have HMT := Lib.hid (fun w => markText_calls k i w)
  have HX := Lib.hid (Box.new w #[.int .i64 0, .int .i64 0, .int .i64 0, .int .i64 0, .int .i64 0, .string ⟨#[]⟩, .string ⟨#[]⟩, .int .u64 0, .int .i64 0, .int .i64 0, .int .i64 0, .int .i64 0] 56)
  have HB := Lib.hid (below_alloc w (.cells #[.int .i64 0, .int .i64 0, .int .i64 0, .int .i64 0, .int .i64 0, .string ⟨#[]⟩, .string ⟨#[]⟩, .int .u64 0, .int .i64 0, .int .i64 0, .int .i64 0, .int .i64 0] 56))
  have hz : IntKind.i64.wrap (-7 - k) = -7 - k := by simp [IntKind.wrap, IntKind.bits, IntKind.signed]; omega
  have HMC := Lib.hid (markS_cells k i)
  go_enter Tryd.func69, Tryd.ntmps69
  go_wp2_with fail
  refine (HMT.out _).mono ?_
  rintro e w1 ⟨rfl, hb1⟩
  have hx1 := HX.out.below hb1
  have HB1 := Lib.hid (HB.out.trans (hb1.mono HB.out.size))
  obtain ⟨hset, hth⟩ := hx1.setAllS rfl (markS k i)
  have HTH := Lib.hid hth
  have HSE := Lib.hid hset
  have HLE := Lib.hid (show w.heap.size ≤ w.heap.size from Nat.le_refl _)
  clear hb1 hx1 HX HB HMT hset hth
  go_wp2_with ((with_reducible refine wpList_store_k ?a0 56 (.tmp 4) (.tmp 10) ?a1 w.heap.size 0 (markS k i).cells.toList ?a2 (markS k i).cells ?a3 (SesM.listS _) HTH.out ?a6 ?a7 ?a8); (case a1 => rfl); (case a0 => rfl); (case a2 => rfl); (case a3 => rfl); (case a6 => kernel_rfl); (case a7 => exact SesM.oneS _))
  intro w2 hw2
  rw [← hw2.out] at HSE
  have HB2 := Lib.hid (show Below w.heap.size w w2 by
    rw [hw2.out]
    generalize (markS k i).cells.toList = L
    exact HB1.out.trans ((Mod.setCells (fun q => q = w.heap.size) w.heap.size rfl L 0 w1).below HB1.out.size (fun i hi => Nat.le_of_eq hi.symm)))
  clear hw2 HTH HB1
  go_wp2_with fail
  exact ret_cell rfl rfl w.heap.size 0 rfl (markS k i).cells.toList _ (Box.rangeS HSE.out) Tryd.underlying56 rfl (by kernel_rfl) ⟨rfl, HB2.out⟩
def mksS (n : Nat) : List SesM := (List.range n).map (fun i : Nat => markS 90 (i : Int))
theorem mksS_length (n : Nat) : (mksS n).length = n := by simp [mksS]
theorem mksS_succ (n : Nat) : mksS (n + 1) = mksS n ++ [markS 90 n] := by simp [mksS, List.range_succ]
theorem mksS_get (n j : Nat) (h : j < (mksS n).length) : (mksS n)[j] = markS 90 j := by simp [mksS]
set_option maxHeartbeats 3200000 in
theorem fullS_calls (v : Value) (l : List SesM) (w : World) (hv : RdS w v l) (hn : l.length + 16 ≤ 1256584717457) :
    Calls Tryd.prog 52 #[v] w fun e w' => ∃ o, e = .returned o ∧ OwnS w' w.heap.size o (l ++ mksS 16) ∧ Below w.heap.size w w' := by
  obtain ⟨a, cap, rfl, hc1, hc2⟩ := hv.slice
  have HV := Lib.hid hv
  have hln : l.length ≤ 9223372036854775807 := by omega
  obtain ⟨n, hN⟩ : ∃ n, n = l.length := ⟨_, rfl⟩
  rw [← hN] at hln hn HV hc1 ⊢
  have HN := Lib.hid hN
  have HNN := Lib.hid hn
  clear hv hc1 hN hn
  go_enter Tryd.func52, Tryd.ntmps52
  go_wp2_with fail
  go_loopg [3, 4] n (fun gk o iv wr => ∃ k : Nat, gk + k = n ∧ iv = .int .i64 (k : Int) ∧ OwnS wr w.heap.size o (l.take k) ∧ Below w.heap.size w wr)
  case atStart => exact ⟨0, rfl, rfl, OwnS.nil _ _, Below.refl _ _⟩
  case round =>
    obtain ⟨k, hgk, rfl, hown, hb⟩ := hrel
    have k0 : (0 : Int) ≤ (k : Int) := by omega
    have HGK := Lib.hid hgk
    have HO := Lib.hid hown
    have HB := Lib.hid hb
    clear hgk
    by_cases hk : k < n
    · have k1 : (k : Int) < (n : Int) := by omega
      have hkl : k < l.length := by have := HN.out; omega
      obtain ⟨s, hs⟩ : ∃ s, s = l[k] := ⟨_, rfl⟩
      have hV := (HV.out.below hb)
      obtain ⟨rb, ro, hra, hrow⟩ := hV.row k hkl
      subst hra
      rw [← hs] at hrow
      have HT := Lib.hid (show l.take (k + 1) = l.take k ++ [s] by rw [List.take_succ_eq_append_getElem hkl, hs])
      have HROW := Lib.hid hrow
      have HK := Lib.hid hk
      have HLK := Lib.hid (show (l.take k).length + 1 ≤ 1256584717458 by rw [List.length_take]; have := HNN.out; omega)
      clear hkl hs hrow hV hb hown hk
      go_wp2_with ((with_reducible refine wpList_load_k ?b01 56 (.tmp 15) ?b11 rb (ro + k * 12) ?b21 s.cells.toList _ HROW.out Tryd.underlying56 ?b31 ?b41 ?b81); (case b11 => rfl); (case b01 => rfl); (case b21 => rfl); (case b31 => rfl); (case b41 => kernel_rfl))
      intro cv hcv
      have ecv : cv = s.cells := by rw [hcv.out]
      subst ecv
      clear hcv
      go_wp2_with (refine wpList_buildSlice_s (op := ⟨some 17, _, _, _, _, _⟩) (by rfl) 22 1 #[(0, .tmp 16)] rfl #[(0, .agg s.cells)] (by kernel_rfl) _ _ (buildS s wr) ?_)
      intro w2 hw2
      have hb2 : Below wr.heap.size wr w2 := by rw [hw2.out]; exact below_alloc _ _
      have HC2 := Lib.hid (show ∀ j u, s.cells.toList[j]? = some u → w2.cell? ((⟨wr.heap.size, 0, none⟩ : Addr).add j) = some u by rw [hw2.out]; exact newCells wr s _)
      have HO2 := Lib.hid (HO.out.below hb2)
      have HB2 := Lib.hid (HB.out.trans (hb2.mono HB.out.size))
      clear hw2 hb2 HO HROW
      go_wp2_with (at_builtin; refine appSes rfl _ _ rfl w.heap.size _ (l.take k) rfl HO2.out ⟨wr.heap.size, 0, none⟩ 1 s rfl HC2.out HLK.out (by have := HB2.out.size; omega) ?_)
      intro v' w3 hown' hg' _
      have HB3 := Lib.hid (HB2.out.trans (below_grown hg' HB2.out.size (fun q hq => (HO2.out.lt q hq).1)))
      have HO3 := Lib.hid hown'
      clear hg' hown' HO2 HB2 HC2
      go_wp2_with fail
      go_roundg (n - (k + 1))
      case measure => have := HGK.out; have := HK.out; omega
      case rel => exact ⟨k + 1, by have := HGK.out; have := HK.out; omega, by go_num, by rw [HT.out]; exact HO3.out, HB3.out⟩
    have k1 : ¬ (k : Int) < (n : Int) := by omega
    rw [List.take_of_length_le (by have := HN.out; omega)] at HO
    clear hk hown hb
    go_wp2_with fail
    go_loopg [3, 5] 16 (fun gk o iv wr => ∃ j : Nat, gk + j = 16 ∧ iv = .int .i64 (j : Int) ∧ OwnS wr w.heap.size o (l ++ mksS j) ∧ Below w.heap.size w wr)
    case atStart => exact ⟨0, rfl, rfl, by rw [show mksS 0 = [] from rfl, List.append_nil]; exact HO.out, HB.out⟩
    case round =>
      clear HO HB
      obtain ⟨j, hgj, rfl, hown, hb⟩ := hrel
      have j0 : (0 : Int) ≤ (j : Int) := by omega
      have HGJ := Lib.hid hgj
      have HO := Lib.hid hown
      have HB := Lib.hid hb
      clear hgj hown hb
      by_cases hj : j < 16
      · have j1 : (j : Int) < 16 := by omega
        have HJ := Lib.hid hj
        have HLK := Lib.hid (show (l ++ mksS j).length + 1 ≤ 1256584717458 by rw [List.length_append, mksS_length]; have := HNN.out; have := HN.out; omega)
        have HT := Lib.hid (show l ++ mksS (j + 1) = (l ++ mksS j) ++ [markS 90 j] by rw [mksS_succ, List.append_assoc])
        clear hj
        go_wp2_with fail
        refine (markS_calls 90 (j : Int) _ (by omega) (by omega)).mono ?_
        rintro e w1 ⟨rfl, hb1⟩
        have HO1 := Lib.hid (HO.out.below hb1)
        have HB1 := Lib.hid (HB.out.trans (hb1.mono HB.out.size))
        clear hb1 HO HB
        generalize markS 90 (j : Int) = s at HT ⊢
        go_wp2_with (refine wpList_buildSlice_s (op := ⟨some 26, _, _, _, _, _⟩) (by rfl) 22 1 #[(0, .tmp 25)] rfl #[(0, .agg s.cells)] (by kernel_rfl) _ _ (buildS s w1) ?_)
        intro w2 hw2
        have hb2 : Below w1.heap.size w1 w2 := by rw [hw2.out]; exact below_alloc _ _
        have HC2 := Lib.hid (show ∀ j u, s.cells.toList[j]? = some u → w2.cell? ((⟨w1.heap.size, 0, none⟩ : Addr).add j) = some u by rw [hw2.out]; exact newCells w1 s _)
        have HO2 := Lib.hid (HO1.out.below hb2)
        have HB2 := Lib.hid (HB1.out.trans (hb2.mono HB1.out.size))
        clear hw2 hb2 HO1 HB1
        go_wp2_with (at_builtin; refine appSes rfl _ _ rfl w.heap.size _ (l ++ mksS j) rfl HO2.out ⟨w1.heap.size, 0, none⟩ 1 s rfl HC2.out HLK.out (by have := HB2.out.size; omega) ?_)
        intro v' w3 hown' hg' _
        have HB3 := Lib.hid (HB2.out.trans (below_grown hg' HB2.out.size (fun q hq => (HO2.out.lt q hq).1)))
        have HO3 := Lib.hid hown'
        clear hg' hown' HO2 HB2 HC2
        go_wp2_with fail
        go_roundg (16 - (j + 1))
        case measure => have := HGJ.out; have := HJ.out; omega
        case rel => exact ⟨j + 1, by have := HGJ.out; have := HJ.out; omega, by go_num, by rw [HT.out]; first | exact HO3.out | (rw [List.append_assoc]; exact HO3.out), HB3.out⟩
      have j1 : ¬ (j : Int) < 16 := by omega
      obtain rfl : j = 16 := by have := HGJ.out; omega
      clear hj
      go_wp2_with fail
      go_ret
      exact ⟨_, rfl, HO.out, HB.out⟩
/-- A list of sessions that is lent: in its spare room stand marks. -/
def LentS (w : World) (base : Nat) (v : Value) (l : List SesM) : Prop := ∃ a cap, v = .slice a l.length cap ∧ OwnS w base (.slice a (l.length + 16) cap) (l ++ mksS 16)
theorem LentS.below {w w' : World} {base : Nat} {v : Value} {l : List SesM} (h : LentS w base v l) (hb : Below w.heap.size w w') : LentS w' base v l := by
  obtain ⟨a, cap, h1, h2⟩ := h; exact ⟨a, cap, h1, h2.below hb⟩
theorem full_len (l : List SesM) : (l ++ mksS 16).length = l.length + 16 := by rw [List.length_append, mksS_length]
theorem LentS.rd {w : World} {base : Nat} {v : Value} {l : List SesM} (h : LentS w base v l) : RdS w v l := by
  obtain ⟨a, cap, rfl, h2⟩ := h
  have h3 := h2.rd
  rw [← full_len] at h3
  have := h3.cut l.length (by rw [full_len]; omega)
  rw [List.take_left] at this
  exact this
theorem LentS.mod {w w' : World} {base : Nat} {v : Value} {l : List SesM} {F : Nat → Prop} (h : LentS w base v l) (hm : Mod F w w') (hb : ∀ k, v.ownBlock = some k → ¬ F k) : LentS w' base v l := by
  obtain ⟨a, cap, rfl, h2⟩ := h; exact ⟨a, cap, rfl, h2.mod hm (fun k hk => hb k (by cases a <;> exact hk))⟩
theorem lentS_calls (v : Value) (l : List SesM) (w : World) (hv : RdS w v l) (hn : l.length + 16 ≤ 1256584717457) :
    Calls Tryd.prog 28 #[v] w fun e w' => ∃ o, e = .returned o ∧ LentS w' w.heap.size o l ∧ Below w.heap.size w w' := by
  have HF := Lib.hid (fullS_calls v l w hv hn)
  obtain ⟨a, cap, rfl, hc1, hc2⟩ := hv.slice
  have hln : l.length ≤ 9223372036854775807 := by omega
  clear hv hc1 hn
  go_enter Tryd.func28, Tryd.ntmps28
  go_wp2_with fail
  refine HF.out.mono ?_
  rintro e w1 ⟨o, rfl, ho, hb⟩
  have HB := Lib.hid hb
  obtain ⟨oa, oc, rfl, hoc⟩ := ho.slice
  rw [full_len] at ho hoc ⊢
  have hhd := fun w => headS oa (l.length + 16) oc l.length (by omega) w
  have HO := Lib.hid (show LentS w1 w.heap.size (.slice oa l.length oc) l from ⟨oa, oc, rfl, ho⟩)
  clear ho hb hoc HF
  go_wp2_with fail
  go_ret
  exact ⟨_, rfl, HO.out, HB.out⟩
theorem wpQuiet_load_k {P : Program} {ops : Array Oper} {rest : List Oper} {op : Oper} {a : Act} {C : World → Prop} {Q : Act → Prop} (hw : Region.wanted op (yielded ops a.tmps) = true) (ty : TypeId) (x : Operand) (ho : op.op = .load ty x)
    (b o : Nat) (hx : a.eval x = .pointer (some ⟨b, o, none⟩)) (cs : List Value) (d : TypeDesc) (hc : ∀ w, C w → w.rangeAt b o cs)
    (hu : P.underlying ty = some d) (hd : d.isRow = true) (hi : (P.info? ty).map (·.size) = some cs.length)
    (h : ∀ c, Hid (c = cs.toArray) → wpQuiet P ops C Q rest (a.put op.dst (.agg c))) : wpQuiet P ops C Q (op :: rest) a := by
  unfold wpQuiet
  rw [if_pos hw]
  refine ⟨.agg cs.toArray, fun w hC => ?_, h _ (Lib.hid rfl)⟩
  unfold Oper.quietAt execOp
  simp only [ho, hx, Instr.loadAt, Instr.sureAddr, Sem.run_bind, Sem.run_pure, Result.andThen_ok, run_loadVar_mid w b o ty cs d (hc w hC) hu hd hi]
  exact ⟨rfl, rfl⟩
set_option maxHeartbeats 3200000 in
theorem keptFullS_calls (v v' : Value) (l : List SesM) (w : World) (hv : RdS w v (l ++ mksS 16)) (hv' : RdS w v' l) (hn : l.length ≤ 1256584717457) :
    Calls Tryd.prog 56 #[v, v'] w fun e w' => e = .returned (.bool true) ∧ Below w.heap.size w w' := by
  obtain ⟨a, cap, rfl, hc1, hc2⟩ := hv.slice
  obtain ⟨a2, cap2, rfl, hd1, hd2⟩ := hv'.slice
  have HV := Lib.hid hv
  have HV2 := Lib.hid hv'
  rw [full_len] at HV hc1 ⊢
  obtain ⟨n, hN⟩ : ∃ n, n = l.length := ⟨_, rfl⟩
  rw [← hN] at HV HV2 hc1 hd1 hn ⊢
  have hn2 : n + 16 ≤ 9223372036854775807 := by omega
  have HN := Lib.hid hN
  have hsum : ((n + 16 : Nat) : Int) = (n : Int) + 16 := by omega
  clear hv hv' hc1 hd1 hc2 hd2 hN hn
  rw [show ((n + 16 : Nat)) = n + 16 from rfl]
  obtain ⟨N, hNN⟩ : ∃ N, N = n + 16 := ⟨_, rfl⟩
  rw [← hNN] at HV hsum hn2 ⊢
  have HNN := Lib.hid hNN
  have n0 : (0 : Int) ≤ (n : Int) := by omega
  have n1 : (n : Int) + 16 ≤ 9223372036854775807 := by omega
  have hne : ((N : Int) != (n : Int) + 16) = false := by rw [bne, hsum]; simp
  clear hNN hsum
  go_enter Tryd.func56, Tryd.ntmps56
  go_wp2_with fail
  clear hne
  go_loopg [5] N (fun gk iv wr => ∃ k : Nat, gk + k = N ∧ iv = .int .i64 (k : Int) ∧ Below w.heap.size w wr)
  case atStart => exact ⟨0, rfl, rfl, Below.refl _ _⟩
  case round =>
    obtain ⟨k, hgk, rfl, hb⟩ := hrel
    have k0 : (0 : Int) ≤ (k : Int) := by omega
    have HGK := Lib.hid hgk
    have HB := Lib.hid hb
    clear hgk hb
    by_cases hk : k < N
    rotate_left
    · have k1 : ¬ (k : Int) < (N : Int) := by omega
      clear hk
      go_wp2_with fail
      go_ret
      exact ⟨rfl, HB.out⟩
    have k1 : (k : Int) < (N : Int) := by omega
    have HK := Lib.hid hk
    have hkl : k < (l ++ mksS 16).length := by rw [full_len]; have := HNN.out; have := HN.out; omega
    obtain ⟨s, hs⟩ : ∃ s, s = (l ++ mksS 16)[k] := ⟨_, rfl⟩
    obtain ⟨rb, ro, hra, hrow⟩ := (HV.out.below HB.out).row k hkl
    subst hra
    rw [← hs] at hrow
    have HROW := Lib.hid hrow
    have HSM := Lib.hid (show ¬ k < n → s = markS 90 ((k : Int) - (n : Int)) from fun h => by
      have e := HN.out
      rw [hs, List.getElem_append_right (by omega), mksS_get]
      congr 1
      omega)
    have HSL := Lib.hid (show ∀ h : k < n, ∃ hl : k < l.length, s = l[k] from fun h => by
      have e := HN.out
      refine ⟨by omega, ?_⟩
      rw [hs, List.getElem_append_left (by omega)])
    have hz : IntKind.i64.wrap ((k : Int) - (n : Int)) = (k : Int) - (n : Int) := by simp [IntKind.wrap, IntKind.bits, IntKind.signed]; omega
    clear hk hkl hs hrow
    go_wp2_with fail
    refine (markS_calls 90 ((k : Int) - (n : Int)) _ (by omega) (by omega)).mono ?_
    rintro e w1 ⟨rfl, hb1⟩
    obtain ⟨mk, hmk⟩ : ∃ mk, mk = markS 90 ((k : Int) - (n : Int)) := ⟨_, rfl⟩
    rw [← hmk] at HSM ⊢
    have HB1 := Lib.hid (HB.out.trans (hb1.mono HB.out.size))
    have HROW1 := Lib.hid (show w1.rangeAt rb (ro + k * 12) s.cells.toList from fun j v hv => below_heap hb1 (HROW.out j v hv))
    clear hb1 hmk HB HROW hz
    go_wp2_with ((with_reducible refine wpList_store_k ?a0 56 (.tmp 6) (.tmp 23) ?a1 w1.heap.size 0 mk.cells.toList ?a2 mk.cells ?a3 (SesM.listS _) ?a5 ?a6 ?a7 ?a8); (case a1 => rfl); (case a0 => rfl); (case a2 => rfl); (case a3 => rfl); (case a5 => exact thereZ _ _); (case a6 => kernel_rfl); (case a7 => exact SesM.oneS _))
    intro w2 hw2
    obtain ⟨hpx, hb2⟩ := putZ hw2
    have HPX := Lib.hid hpx
    have HB2 := Lib.hid (HB1.out.trans (hb2.mono HB1.out.size))
    have HROW2 := Lib.hid (show w2.rangeAt rb (ro + k * 12) s.cells.toList from fun j v hv => below_heap hb2 (HROW1.out j v hv))
    have HNE := Lib.hid (show rb < w1.heap.size from World.block_lt_of_cell? w1 _ (HROW1.out 0 _ rfl))
    have HLE := Lib.hid (show w.heap.size ≤ w1.heap.size from HB1.out.size)
    clear hw2 hpx hb2 HB1 HROW1
    generalize w1.heap.size = pb at HPX HNE HLE ⊢
    by_cases hkn : k < n
    · have kn : (k : Int) < (n : Int) := by omega
      obtain ⟨hl, hsl⟩ := HSL.out hkn
      obtain ⟨sb, so, hsa, hsrow⟩ := (HV2.out.below HB2.out).row k hl
      subst hsa
      rw [← hsl] at hsrow
      have HSR := Lib.hid hsrow
      obtain ⟨hset, hth⟩ := HPX.out.setAllS rfl s
      have HSE := Lib.hid hset
      have HTH := Lib.hid hth
      clear hkn hsl hsrow hset hth HSM HSL hl
      go_wp2_with ((with_reducible refine wpList_load_k ?b02 56 (.tmp 30) ?b12 sb (so + k * 12) ?b22 s.cells.toList _ HSR.out Tryd.underlying56 ?b32 ?b42 ?b82); (case b12 => rfl); (case b02 => rfl); (case b22 => rfl); (case b32 => rfl); (case b42 => kernel_rfl))
      intro cv hcv
      go_wp2_with ((with_reducible refine wpList_store_k ?d0 56 (.tmp 6) (.tmp 31) ?d1 pb 0 s.cells.toList ?d2 cv ?d3 hcv HTH.out ?d6 ?d7 ?d8); (case d1 => rfl); (case d0 => rfl); (case d2 => rfl); (case d3 => rfl); (case d6 => kernel_rfl); (case d7 => exact SesM.oneS _))
      intro w3 hw3
      have HX3 := Lib.hid (show Box w3 pb s.cells 56 by rw [hw3.out]; exact HSE.out)
      have hm : Mod (fun q => q = pb) w2 w3 := by
        rw [hw3.out]
        generalize s.cells.toList = L
        exact Mod.setCells (fun q => q = pb) pb rfl L 0 w2
      have HB3 := Lib.hid (HB2.out.trans (hm.below HB2.out.size (fun i hi => by have := HLE.out; omega)))
      have HROW3 := Lib.hid (show ∀ wq, (∃ n, wq = w3.drewN n) → wq.rangeAt rb (ro + k * 12) s.cells.toList from fun wq hq j v hv => by
        obtain ⟨q, rfl⟩ := hq
        have h1 := HROW2.out j v hv
        show w3.cell? _ = _
        rw [World.cell?_of_block (w := w2) (hm.block rb (World.block_lt_of_cell? w2 _ (HROW2.out 0 _ rfl)) (by have := HNE.out; omega))]
        exact h1)
      have HRX3 := Lib.hid (show ∀ wq, (∃ n, wq = w3.drewN n) → wq.rangeAt pb 0 s.cells.toList from fun wq hq => by
        obtain ⟨q, rfl⟩ := hq
        exact Box.rangeS (show Box (w3.drewN q) pb s.cells 56 from HX3.out))
      clear hcv hw3 hm HTH HSE HPX HB2 HROW2 HSR HX3
      go_wp2_with fail
      refine wp_region_quiet_lit (by kernel_rfl) (by kernel_rfl) ?_
      repeat (go_big_quiet_step (fail))
      refine wpQuiet_load_k rfl 56 (.tmp 34) rfl rb (ro + k * 12) rfl s.cells.toList _ HROW3.out Tryd.underlying56 rfl (by kernel_rfl) ?_
      intro c1 hc1
      have ec1 : c1 = s.cells := by rw [hc1.out]
      subst ec1
      simp only [Act.put, List.setIfInBounds_toArray, List.set_cons_zero, List.set_cons_succ]
      refine wpQuiet_load_k rfl 56 (.tmp 6) rfl pb 0 rfl s.cells.toList _ HRX3.out Tryd.underlying56 rfl (by kernel_rfl) ?_
      intro c2 hc2
      have ec2 : c2 = s.cells := by rw [hc2.out]
      subst ec2
      simp only [Act.put, List.setIfInBounds_toArray, List.set_cons_zero, List.set_cons_succ]
      have hneq : ∀ w, (binOp .neq 56 (.agg s.cells) (.agg s.cells)).run Tryd.prog w = .ok (.bool false) w := fun w => by rw [run_neqS, sameS_iff.2 rfl]; rfl
      repeat (go_big_quiet_step (fail))
      refine wpQuiet_nil ?_
      intro wq hwq
      obtain ⟨nq, rfl⟩ := hwq
      have HB4 := Lib.hid (HB3.out.trans ((below_drewN _ nq).mono HB3.out.size))
      clear hneq hc1 hc2 HROW3 HRX3
      go_wp2_with fail
      go_roundg (N - (k + 1))
      case measure => have := HGK.out; have := HK.out; omega
      case rel => exact ⟨k + 1, by have := HGK.out; have := HK.out; omega, by go_num, HB4.out⟩
    have kn : ¬ (k : Int) < (n : Int) := by omega
    obtain rfl := HSM.out hkn
    have HB3 := HB2
    have HROW3 := Lib.hid (show ∀ wq, (∃ n, wq = w2.drewN n) → wq.rangeAt rb (ro + k * 12) s.cells.toList from fun wq hq => by
      obtain ⟨q, rfl⟩ := hq
      exact HROW2.out)
    have HRX3 := Lib.hid (show ∀ wq, (∃ n, wq = w2.drewN n) → wq.rangeAt pb 0 s.cells.toList from fun wq hq => by
      obtain ⟨q, rfl⟩ := hq
      exact Box.rangeS (show Box (w2.drewN q) pb s.cells 56 from HPX.out))
    clear hkn HPX HB2 HROW2 HSM HSL
    go_wp2_with fail
    refine wp_region_quiet_lit (by kernel_rfl) (by kernel_rfl) ?_
    repeat (go_big_quiet_step (fail))
    refine wpQuiet_load_k rfl 56 (.tmp 34) rfl rb (ro + k * 12) rfl s.cells.toList _ HROW3.out Tryd.underlying56 rfl (by kernel_rfl) ?_
    intro c1 hc1
    have ec1 : c1 = s.cells := by rw [hc1.out]
    subst ec1
    simp only [Act.put, List.setIfInBounds_toArray, List.set_cons_zero, List.set_cons_succ]
    refine wpQuiet_load_k rfl 56 (.tmp 6) rfl pb 0 rfl s.cells.toList _ HRX3.out Tryd.underlying56 rfl (by kernel_rfl) ?_
    intro c2 hc2
    have ec2 : c2 = s.cells := by rw [hc2.out]
    subst ec2
    simp only [Act.put, List.setIfInBounds_toArray, List.set_cons_zero, List.set_cons_succ]
    have hneq : ∀ w, (binOp .neq 56 (.agg s.cells) (.agg s.cells)).run Tryd.prog w = .ok (.bool false) w := fun w => by rw [run_neqS, sameS_iff.2 rfl]; rfl
    repeat (go_big_quiet_step (fail))
    refine wpQuiet_nil ?_
    intro wq hwq
    obtain ⟨nq, rfl⟩ := hwq
    have HB4 := Lib.hid (HB3.out.trans ((below_drewN _ nq).mono HB3.out.size))
    clear hneq hc1 hc2 HROW3 HRX3
    go_wp2_with fail
    go_roundg (N - (k + 1))
    case measure => have := HGK.out; have := HK.out; omega
    case rel => exact ⟨k + 1, by have := HGK.out; have := HK.out; omega, by go_num, HB4.out⟩
end Go.Proofs.YtdaimaibnjkfbaaDoor
/-
  Lists of sessions, and states, that are the same.
-/
namespace Go.Proofs.YtdaimaibnjkfbaaDoor
open Go.RowKit
set_option maxRecDepth 100000

def sameL : List SesM → List SesM → Bool
  | [], [] => true
  | a :: l, b :: m => sameS a b && sameL l m
  | _, _ => false
theorem sameL_iff : ∀ {l m : List SesM}, sameL l m = true ↔ l = m
  | [], [] => by simp [sameL]
  | [], b :: m => by simp [sameL]
  | a :: l, [] => by simp [sameL]
  | a :: l, b :: m => by
    unfold sameL
    rw [Bool.and_eq_true, sameS_iff, sameL_iff]
    simp
theorem sameL_no {l m : List SesM} (h : l ≠ m) : sameL l m = false := by
  cases e : sameL l m
  · rfl
  · exact absurd (sameL_iff.1 e) h
def sameSt (a b : StM) : Bool := (a.clock == b.clock) && ((a.births == b.births) && sameL a.l b.l)
theorem sameSt_iff {a b : StM} : sameSt a b = true ↔ a = b := by
  obtain ⟨c, x, l⟩ := a
  obtain ⟨d, y, m⟩ := b
  simp [sameSt, sameL_iff]
set_option maxHeartbeats 1600000 in
theorem sameSes_calls (v v' : Value) (l m : List SesM) (w : World) (hv : RdS w v l) (hv' : RdS w v' m) :
    Calls Tryd.prog 48 #[v, v'] w fun e w' => e = .returned (.bool (sameL l m)) ∧ Below w.heap.size w w' := by
  obtain ⟨a, cap, rfl, hc1, hc2⟩ := hv.slice
  obtain ⟨a2, cap2, rfl, hd1, hd2⟩ := hv'.slice
  have HV := Lib.hid hv
  have HV2 := Lib.hid hv'
  have hln : l.length ≤ 9223372036854775807 := by omega
  have hln2 : m.length ≤ 9223372036854775807 := by omega
  by_cases hlm : l.length = m.length
  rotate_left
  · have HR := Lib.hid (sameL_no (l := l) (m := m) (fun e => hlm (by rw [e])))
    have hne : ((l.length : Int) != (m.length : Int)) = true := by rw [bne_iff_ne]; omega
    clear hlm hv hv' hc1 hd1 HV HV2
    go_enter Tryd.func48, Tryd.ntmps48
    go_wp2_with fail
    go_ret
    rw [HR.out]
    exact ⟨rfl, Below.refl _ _⟩
  obtain ⟨n, hN⟩ : ∃ n, n = l.length := ⟨_, rfl⟩
  rw [← hlm] at HV2 hd1 ⊢
  rw [← hN] at HV HV2 hc1 hd1 hln ⊢
  have HN := Lib.hid hN
  have HLM := Lib.hid hlm
  have hne : ((n : Int) != (n : Int)) = false := by rw [bne_eq_false_iff_eq]
  clear hlm hv hv' hc1 hd1 hN hln2
  go_enter Tryd.func48, Tryd.ntmps48
  go_wp2_with fail
  go_loopg [5] n (fun gk iv wr => ∃ k : Nat, gk + k = n ∧ iv = .int .i64 (k : Int) ∧ Below w.heap.size w wr ∧ Hid (l.take k = m.take k))
  case atStart => exact ⟨0, rfl, rfl, Below.refl _ _, Lib.hid rfl⟩
  case round =>
    obtain ⟨k, hgk, rfl, hb, HT⟩ := hrel
    have k0 : (0 : Int) ≤ (k : Int) := by omega
    have HGK := Lib.hid hgk
    have HB := Lib.hid hb
    clear hgk
    by_cases hk : k < n
    · have k1 : (k : Int) < (n : Int) := by omega
      have hkl : k < l.length := by have := HN.out; omega
      have hkm : k < m.length := by have := HLM.out; omega
      obtain ⟨s, hs⟩ : ∃ s, s = l[k] := ⟨_, rfl⟩
      obtain ⟨u, hu⟩ : ∃ u, u = m[k] := ⟨_, rfl⟩
      obtain ⟨rb, ro, hra, hrow⟩ := (HV.out.below hb).row k hkl
      subst hra
      rw [← hs] at hrow
      obtain ⟨qb, qo, hqa, hqow⟩ := (HV2.out.below hb).row k hkm
      subst hqa
      rw [← hu] at hqow
      have HROW := Lib.hid (show ∀ wq, (∃ n, wq = wr.drewN n) → wq.rangeAt rb (ro + k * 12) s.cells.toList from fun wq hq => by
        obtain ⟨q, rfl⟩ := hq
        exact hrow)
      have HQOW := Lib.hid (show ∀ wq, (∃ n, wq = wr.drewN n) → wq.rangeAt qb (qo + k * 12) u.cells.toList from fun wq hq => by
        obtain ⟨q, rfl⟩ := hq
        exact hqow)
      have HLK := Lib.hid (show s = l[k] ∧ u = m[k] from ⟨hs, hu⟩)
      have HK := Lib.hid hk
      clear hrow hqow hs hu hk hb
      obtain ⟨r, hr⟩ : ∃ r, r = sameS s u := ⟨_, rfl⟩
      have HR := Lib.hid hr
      have hneq : ∀ w, (binOp .neq 56 (.agg s.cells) (.agg u.cells)).run Tryd.prog w = .ok (.bool (!r)) w := fun w => by rw [run_neqS, HR.out]
      clear hr
      go_wp2_with fail
      refine wp_region_quiet_lit (by kernel_rfl) (by kernel_rfl) ?_
      repeat (go_big_quiet_step (fail))
      refine wpQuiet_load_k rfl 56 (.tmp 19) rfl rb (ro + k * 12) rfl s.cells.toList _ HROW.out Tryd.underlying56 rfl (by kernel_rfl) ?_
      intro c1 hc1
      have ec1 : c1 = s.cells := by rw [hc1.out]
      subst ec1
      simp only [Act.put, List.setIfInBounds_toArray, List.set_cons_zero, List.set_cons_succ]
      repeat (go_big_quiet_step (fail))
      refine wpQuiet_load_k rfl 56 (.tmp 23) rfl qb (qo + k * 12) rfl u.cells.toList _ HQOW.out Tryd.underlying56 rfl (by kernel_rfl) ?_
      intro c2 hc2
      have ec2 : c2 = u.cells := by rw [hc2.out]
      subst ec2
      simp only [Act.put, List.setIfInBounds_toArray, List.set_cons_zero, List.set_cons_succ]
      repeat (go_big_quiet_step (fail))
      refine wpQuiet_nil ?_
      intro wq hwq
      obtain ⟨nq, rfl⟩ := hwq
      have HB4 := Lib.hid (HB.out.trans ((below_drewN _ nq).mono HB.out.size))
      clear hneq hc1 hc2 HROW HQOW
      cases r
      · have HF := Lib.hid (sameL_no (l := l) (m := m) (fun e => by
          obtain ⟨h1, h2⟩ := HLK.out
          have h3 := HR.out
          rw [h1, h2] at h3
          subst e
          rw [sameS_iff.2 rfl] at h3
          cases h3))
        clear HB HR HLK
        go_wp2_with fail
        go_ret
        rw [HF.out]
        exact ⟨rfl, HB4.out⟩
      · have HT2 := Lib.hid (show l.take (k + 1) = m.take (k + 1) by
          rw [List.take_succ_eq_append_getElem hkl, List.take_succ_eq_append_getElem hkm, HT.out, ← HLK.out.1, ← HLK.out.2, sameS_iff.1 HR.out.symm])
        clear HB HR HLK HT
        go_wp2_with fail
        go_roundg (n - (k + 1))
        case measure => have := HGK.out; have := HK.out; omega
        case rel => exact ⟨k + 1, by have := HGK.out; have := HK.out; omega, by go_num, HB4.out, HT2⟩
    · have k1 : ¬ (k : Int) < (n : Int) := by omega
      have HE := Lib.hid (show sameL l m = true from sameL_iff.2 (by
        have h := HT.out
        rw [List.take_of_length_le (by have := HN.out; omega), List.take_of_length_le (by have := HN.out; have := HLM.out; omega)] at h
        exact h))
      clear hk hb HT
      go_wp2_with fail
      go_ret
      rw [HE.out]
      exact ⟨rfl, HB.out⟩
set_option maxHeartbeats 1600000 in
theorem sameState_calls (a b : StM) (v v' : Value) (w : World) (hv : RdS w v a.l) (hv' : RdS w v' b.l) :
    Calls Tryd.prog 20 #[.agg #[.int .i64 a.clock, .int .i64 a.births, v], .agg #[.int .i64 b.clock, .int .i64 b.births, v']] w fun e w' => e = .returned (.bool (sameSt a b)) ∧ Below w.heap.size w w' := by
  have HB0 := Lib.hid (fun o o2 => below_two w o o2)
  have HK := Lib.hid (fun w' hb => sameSes_calls v v' a.l b.l w' (hv.below hb) (hv'.below hb))
  obtain ⟨xa, xc, rfl, _⟩ := hv.slice
  obtain ⟨ya, yc, rfl, _⟩ := hv'.slice
  unfold sameSt
  generalize sameL a.l b.l = r at HK ⊢
  clear hv hv'
  obtain ⟨c1, b1, l1⟩ := a
  obtain ⟨c2, b2, l2⟩ := b
  simp only at HK ⊢
  go_enter Tryd.func20, Tryd.ntmps20
  cases e1 : (c1 == c2)
  · go_wp2_with fail
    go_ret
    exact ⟨rfl, HB0.out _ _⟩
  cases e2 : (b1 == b2)
  · go_wp2_with fail
    go_ret
    exact ⟨rfl, HB0.out _ _⟩
  go_wp2_with fail
  refine (HK.out _ (HB0.out _ _)).mono ?_
  rintro e w1 ⟨rfl, hb⟩
  have HB := Lib.hid ((HB0.out _ _).trans (hb.mono (HB0.out (.cells #[.int .i64 c1, .int .i64 b1, .slice xa l1.length xc] 24) (.cells #[.int .i64 c2, .int .i64 b2, .slice ya l2.length yc] 24)).size))
  clear hb HK HB0
  go_wp2_with fail
  go_ret
  exact ⟨rfl, HB.out⟩
end Go.Proofs.YtdaimaibnjkfbaaDoor
