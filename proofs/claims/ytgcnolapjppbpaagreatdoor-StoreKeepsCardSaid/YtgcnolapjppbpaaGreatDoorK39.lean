/-
  Texts of one proof, one behind the other.
-/
import Derived.Test.YtgcnolapjppbpaaGreatDoorK38
import Derived.Test.YtgcnolapjppbpaaGreatDoorK23
namespace Go.Proofs.YtgcnolapjppbpaaGreatDoor
open Go.RowKit
set_option maxRecDepth 100000
theorem ImSt.start {w w1 : World} {r : Nat} {v : Value} {l : List UInt8} (hi : IsR w1 r v l 0) (hb : Below (w.alloc (.cells #[.int .i64 0, .int .i64 0, .slice none 0 0] 30)).heap.size (w.alloc (.cells #[.int .i64 0, .int .i64 0, .slice none 0 0] 30)) w1)
    (hr : w.heap.size + 1 ≤ r) (hv : ∀ b, v.ownBlock = some b → w.heap.size + 1 ≤ b ∧ b < w1.heap.size) :
    ImSt w ((w1.alloc (.cells #[.pointer (some ⟨r, 0, none⟩), .nilIface, .bool false] 238)).alloc (.cells #[.int .i64 0, .int .i64 0, .slice none 0 0] 30)) w1.heap.size r w.heap.size (w1.heap.size + 1) v ⟨l, 0, 0, false⟩ 0 0 (.slice none 0 0) [] := by
  have hsz : w.heap.size + 1 ≤ w1.heap.size := by have := hb.size; rw [World.size_alloc] at this; exact this
  have hrl := hi.box.lt
  have hit : IsTI (w1.alloc (.cells #[.pointer (some ⟨r, 0, none⟩), .nilIface, .bool false] 238)) w1.heap.size r v ⟨l, 0, 0, false⟩ :=
    ⟨Box.new _ _ _, hi.below (below_alloc _ _), by omega, fun e => by have := (hv _ e).2; omega, fun b hbb => by have := (hv b hbb).2; simp; omega⟩
  have hbx := Box.new (w1.alloc (.cells #[.pointer (some ⟨r, 0, none⟩), .nilIface, .bool false] 238)) #[.int .i64 0, .int .i64 0, .slice none 0 0] 30
  rw [World.size_alloc] at hbx
  exact ⟨hit.below (below_alloc _ _), (((Box.new w _ _).below hb).below (below_alloc _ _)).below (below_alloc _ _), hbx, OwnS.nil _ _,
    (((below_alloc w _).trans (hb.mono (by simp))).trans ((below_alloc _ _).mono (by omega))).trans ((below_alloc _ _).mono (by rw [World.size_alloc]; omega)), Nat.le_refl _, by omega, by omega, by omega, fun k hk => ⟨by have := (hv k hk).1; omega, (hv k hk).2⟩⟩
theorem num_nz (s : TkM) (h : s.num.2.er ≠ 0) : s.num.1 = 0 := by
  unfold TkM.num at h ⊢
  split
  · rename_i h0
    rw [if_pos h0] at h
    split
    · rename_i h1; rw [if_pos h1] at h; exact absurd rfl h
    · rfl
  · rfl
theorem ImSt.zero {w0 w : World} {t r b2 b8 : Nat} {v x : Value} {s : TkM} {c b : Int} {l : List SesM} (h : ImSt w0 w t r b2 b8 v s c b x l) :
    Box (((w.setCell ⟨b2, 0, none⟩ (.int .i64 0)).setCell ⟨b2, 1, none⟩ (.int .i64 0)).setCell ⟨b2, 2, none⟩ (.slice none 0 0)) b2 #[.int .i64 0, .int .i64 0, .slice none 0 0] 30 ∧ Below w0.heap.size w0 (((w.setCell ⟨b2, 0, none⟩ (.int .i64 0)).setCell ⟨b2, 1, none⟩ (.int .i64 0)).setCell ⟨b2, 2, none⟩ (.slice none 0 0)) :=
  ⟨((h.bz.set 0 (.int .i64 0)).set 1 (.int .i64 0)).set 2 (.slice none 0 0), h.bel.trans ((((Mod.set (fun i => i = b2) w ⟨b2, 0, none⟩ (.int .i64 0) rfl).trans (Mod.set (fun i => i = b2) _ ⟨b2, 1, none⟩ (.int .i64 0) rfl)).trans (Mod.set (fun i => i = b2) _ ⟨b2, 2, none⟩ (.slice none 0 0) rfl)).below h.bel.size (fun _ e => e ▸ h.g))⟩
theorem ImSt.full {w0 w : World} {t r b2 b8 : Nat} {v x : Value} {s : TkM} {c b : Int} {l : List SesM} (h : ImSt w0 w t r b2 b8 v s c b x l) :
    Box (((w.setCell ⟨b2, 0, none⟩ (.int .i64 c)).setCell ⟨b2, 1, none⟩ (.int .i64 b)).setCell ⟨b2, 2, none⟩ x) b2 #[.int .i64 c, .int .i64 b, x] 30 ∧ OwnS (((w.setCell ⟨b2, 0, none⟩ (.int .i64 c)).setCell ⟨b2, 1, none⟩ (.int .i64 b)).setCell ⟨b2, 2, none⟩ x) w0.heap.size x l ∧ Below w0.heap.size w0 (((w.setCell ⟨b2, 0, none⟩ (.int .i64 c)).setCell ⟨b2, 1, none⟩ (.int .i64 b)).setCell ⟨b2, 2, none⟩ x) := by
  have hm := (((Mod.set (fun i => i = b2) w ⟨b2, 0, none⟩ (.int .i64 c) rfl).trans (Mod.set (fun i => i = b2) _ ⟨b2, 1, none⟩ (.int .i64 b) rfl)).trans (Mod.set (fun i => i = b2) _ ⟨b2, 2, none⟩ x rfl))
  have := h.g; have := h.o1; have := h.o2; have := h.o3
  exact ⟨((h.bz.set 0 (.int .i64 c)).set 1 (.int .i64 b)).set 2 x, (h.own.base (by omega)).mod hm (fun k hk e => by have := (h.own.lt k hk).1; omega), h.bel.trans (hm.below h.bel.size (fun _ e => e ▸ h.g))⟩
theorem bornM_ok (s : TkM) : SesOk (bornM s).1 := ⟨Nat.le_trans (TkM.txt_len _) (by decide), Nat.le_trans (TkM.txt_len _) (by decide), TkM.num_lt _⟩
theorem sesTs_ok : ∀ (n : Nat) (s : TkM), ∀ x ∈ (sesTs n s).1, SesOk x
  | 0, s, x, h => by cases h
  | n + 1, s, x, h => by
    rcases List.mem_cons.1 h with rfl | h
    · exact bornM_ok s
    · exact sesTs_ok n _ x h
theorem zrange {w : World} {b : Nat} {cs : List Value} {t : TypeId} (h : Box w b cs.toArray t) : w.rangeAt b 0 cs := h.range 0 _ (fun j v hv => by rw [Nat.zero_add]; simpa using hv)
set_option maxHeartbeats 12800000 in
theorem decI_calls (x : Value) (l : List UInt8) (w : World) (hx : Rd w x l.length (l.map V8)) (hl : l.length ≤ 1000000000000) :
    Calls Tryz.prog 91 #[x] w fun ev w' => ∃ o, ev = .returned (.tuple #[.agg #[.int .i64 (decI l).2.clock, .int .i64 (decI l).2.births, o], errV (decI l).1]) ∧ OwnS w' w.heap.size o (decI l).2.l ∧ Below w.heap.size w w' := by
  have Hop := Lib.hid (fun o => open_calls x l (w.alloc o) (hx.below (below_alloc w o)) hl)
  obtain ⟨D, hD⟩ : ∃ D, D = decI l := ⟨_, rfl⟩
  rw [← hD]
  unfold decI at hD
  simp only at hD
  have HD := Lib.hid hD
  obtain ⟨xa, xc, rfl, hx0⟩ := hx
  clear hl hD hx0
  go_enter Tryz.func91, Tryz.ntmps91
  go_wp2_with fail
  refine (Hop.out _).mono ?_
  rintro ev w1 ⟨r, v, rfl, hi, hb, hr, hv⟩
  rw [World.size_alloc] at hr hv
  have HST := Lib.hid (ImSt.start hi hb hr hv)
  clear hi hb hr hv Hop
  go_wp2_with fail
  have hit := HST.out.below (below_alloc _ (.cells #[.pointer (some ⟨w1.heap.size + 1, 0, none⟩), .pointer (some ⟨w1.heap.size + 1, 1, none⟩)] 242))
  have hsb := Box.new ((w1.alloc (.cells #[.pointer (some ⟨r, 0, none⟩), .nilIface, .bool false] 238)).alloc (.cells #[.int .i64 0, .int .i64 0, .slice none 0 0] 30)) #[.pointer (some ⟨w1.heap.size + 1, 0, none⟩), .pointer (some ⟨w1.heap.size + 1, 1, none⟩)] 242
  rw [World.size_alloc, World.size_alloc] at hsb
  have hwr := HST.out.o2
  have hwv := HST.out.ov
  have HI := Lib.hid (imInts_calls w1.heap.size r (w1.heap.size + 1) (w1.heap.size + 1 + 1) v ⟨l, 0, 0, false⟩ [0, 1] _ 30 242 _ hit.it hit.bs hsb (by decide) (by omega) (by omega) (by omega) (by omega) (by omega) (fun e => by have := (hwv _ e).2; omega) (by decide))
  have HI2 := Lib.hid hit
  clear hit hsb hwr hwv HST
  refine HI.out.mono ?_
  rintro ev w4 ⟨rfl, hi4, hb4, hm4⟩
  have hs4 := HI2.out.clocks (c' := (⟨l, 0, 0, false⟩ : TkM).int.1) (b' := (⟨l, 0, 0, false⟩ : TkM).int.2.int.1) hi4 hb4 hm4
  change ImSt _ _ _ _ _ _ _ (⟨l, 0, 0, false⟩ : TkM).int.2.int.2 _ _ _ _ at hs4
  clear hi4 hb4 hm4 HI HI2
  have hDD := HD.out
  clear HD
  generalize (⟨l, 0, 0, false⟩ : TkM).int = p at hs4 hDD
  obtain ⟨c, s1⟩ := p
  simp only at hs4 hDD
  generalize s1.int = p at hs4 hDD
  obtain ⟨bb, s2⟩ := p
  simp only at hs4 hDD
  have HS4 := Lib.hid hs4
  have HD := Lib.hid hDD
  generalize w1.heap.size = t at *
  clear hs4 hDD
  go_wp2_with fail
  refine (imNumber_calls t r v s2 w4 HS4.out.it).mono ?_
  rintro ev w5 ⟨rfl, hi, hm⟩
  have hs5 := HS4.out.step hi hm
  have hDD := HD.out
  clear hi hm HS4 HD
  have hnz := num_nz s2
  generalize s2.num = p at hs5 hDD hnz ⊢
  obtain ⟨n, s3⟩ := p
  simp only at hs5 hDD hnz ⊢
  have HS5 := Lib.hid hs5
  have c1 : w5.cell? ⟨t, 1, none⟩ = some (errV s3.er) := hs5.it.box.cell 1 _ rfl
  clear hs5
  by_cases hbig : s3.er = 0 ∧ 32 < n
  · rw [if_pos hbig] at hDD
    obtain ⟨he, hn⟩ := hbig
    rw [show errV s3.er = .nilIface by unfold errV; rw [if_pos he]] at c1
    have g2 : (32 : Int) < (n : Int) := by omega
    have d0 : w5.cell? ⟨w.heap.size, 0, none⟩ = some (.int .i64 0) := HS5.out.bz.cell 0 _ rfl
    have d1 : w5.cell? ⟨w.heap.size, 1, none⟩ = some (.int .i64 0) := HS5.out.bz.cell 1 _ rfl
    have d2 : w5.cell? ⟨w.heap.size, 2, none⟩ = some (.slice none 0 0) := HS5.out.bz.cell 2 _ rfl
    have e0 := HS5.out.bz.free 0
    have e1 := HS5.out.bz.free 1
    have e2 := HS5.out.bz.free 2
    have HZ := Lib.hid HS5.out.zero
    subst hDD
    clear he hn hnz HS5
    go_wp2_with fail
    exact ret_cell_tmp rfl rfl w.heap.size 0 rfl [.int .i64 0, .int .i64 0, .slice none 0 0] _ (zrange HZ.out.1) Tryz.underlying30 rfl (by kernel_rfl) _ rfl ⟨_, rfl, OwnS.nil _ _, HZ.out.2⟩
  rw [if_neg hbig] at hDD
  have hn : n ≤ 32 := by
    by_cases he : s3.er = 0
    · exact Nat.le_of_not_lt (fun h => hbig ⟨he, h⟩)
    · rw [hnz he]; exact Nat.zero_le _
  have HNZ := Lib.hid hnz
  have HN := Lib.hid hn
  have HD := Lib.hid hDD
  clear hbig hnz hDD
  by_cases he : s3.er = 0
  rotate_left
  · rw [errV_no he] at c1
    have hn0 := HNZ.out he
    have hDD := HD.out
    rw [hn0] at hDD
    unfold finI at hDD
    change D = (if s3.er = 0 then _ else _) at hDD
    rw [if_neg he] at hDD
    change D = (s3.er, noSt) at hDD
    have HER := Lib.hid he
    subst hDD
    subst hn0
    clear HNZ HN HD hn he
    go_wp2_with fail
    go_loopg [41] 0 (fun gk iv wr => iv = .int .u64 0 ∧ ImSt w wr t r w.heap.size (t + 1) v s3 c bb (.slice none 0 0) [])
    case atStart => exact ⟨rfl, HS5.out⟩
    case round =>
      obtain ⟨rfl, hst⟩ := hrel
      have HSR := Lib.hid hst
      have c2 : wr.cell? ⟨t, 1, none⟩ = some (errV s3.er) := hst.it.box.cell 1 _ rfl
      rw [errV_no HER.out] at c2
      clear hst c1 HS5
      have HX := Lib.hid (⟨c2, HSR.out.bz, HSR.out.bel, by have := HSR.out.o1; have := HSR.out.o2; omega, HSR.out.g⟩ : ExI w t w.heap.size (.iface 91 (.int .i64 s3.er)) wr)
      have hke : ∀ w', ExI w t w.heap.size (.iface 91 (.int .i64 s3.er)) w' → w'.cell? ⟨t, 1, none⟩ = some (.iface 91 (.int .i64 s3.er)) := fun w' h => h.ce
      clear HSR
      go_wp2_with fail
      clear c2
      refine wp_region_held_drew (S := ExI w t w.heap.size (.iface 91 (.int .i64 s3.er))) (by kernel_rfl) HX.out.drew (fun hHeld => ?_)
      refine wpAnyH_take (i := 0) (oi := ⟨some 81, _, _, _, _, _⟩) (v := ?_) rfl (by kernel_rfl) (by kernel_rfl) (by kernel_rfl) (fun _ _ _ h => h) (Or.inl ⟨by kernel_rfl, ?_⟩) (by assumption) ?_
      rotate_left 1
      · intro w' hw'; go_simp; try with_reducible rfl
      simp only [Act.put, List.setIfInBounds_toArray, List.set_cons_zero, List.set_cons_succ]
      refine wpAnyH_take (i := 1) (oi := ⟨some 82, _, _, _, _, _⟩) (v := ?_) rfl (by kernel_rfl) (by kernel_rfl) (by kernel_rfl) (fun _ _ _ h => h) (Or.inl ⟨by kernel_rfl, ?_⟩) (by assumption) ?_
      rotate_left 1
      · intro w' hw'; go_simp; try with_reducible rfl
      simp only [Act.put, List.setIfInBounds_toArray, List.set_cons_zero, List.set_cons_succ]
      refine wpAnyH_take (i := 2) (oi := ⟨some 83, _, _, _, _, _⟩) (v := ?_) rfl (by kernel_rfl) (by kernel_rfl) (by kernel_rfl) (fun _ _ _ h => h) (Or.inl ⟨by kernel_rfl, ?_⟩) (by assumption) ?_
      rotate_left 1
      · intro w' hw'; go_simp; try with_reducible rfl
      simp only [Act.put, List.setIfInBounds_toArray, List.set_cons_zero, List.set_cons_succ]
      refine wpAnyH_take (i := 3) (oi := ⟨some 84, _, _, _, _, _⟩) (v := ?_) rfl (by kernel_rfl) (by kernel_rfl) (by kernel_rfl) (fun _ _ _ h => h) (Or.inl ⟨by kernel_rfl, ?_⟩) (by assumption) ?_
      rotate_left 1
      · intro w' hw'; go_simp; try with_reducible rfl
      simp only [Act.put, List.setIfInBounds_toArray, List.set_cons_zero, List.set_cons_succ]
      refine wpAnyH_take (i := 4) (oi := ⟨some 85, _, _, _, _, _⟩) (v := ?_) rfl (by kernel_rfl) (by kernel_rfl) (by kernel_rfl) (fun _ _ _ h => h) (Or.inl ⟨by kernel_rfl, ?_⟩) (by assumption) ?_
      rotate_left 1
      · intro w' hw'; go_simp; try with_reducible rfl
      simp only [Act.put, List.setIfInBounds_toArray, List.set_cons_zero, List.set_cons_succ]
      refine wpAnyH_ready (rs := [5]) (by kernel_rfl) (by simp) (AllReadyH.cons (o := ⟨none, .store 30 (.tmp 2) (.tmp 81), _, _, _, none⟩) rfl (fun K hK => ?_) AllReadyH.nil)
      rw [if_pos (by kernel_rfl)]
      refine wp_store_k 30 (.tmp 2) (.tmp 81) rfl w.heap.size 0 [.int .i64 0, .int .i64 0, .slice none 0 0] rfl rfl (hHeld.bz.there 0 3 (by decide)) (by kernel_rfl) zst_one ?_
      refine hK.out _ _ hHeld.store (fun hHeld2 => ?_)
      clear hK K
      try simp only [Act.put]
      refine wpAnyH_take (i := 6) (oi := ⟨some 3, _, _, _, _, _⟩) (v := ?_) rfl (by kernel_rfl) (by kernel_rfl) (by kernel_rfl) (fun _ _ _ h => h) (Or.inl ⟨by kernel_rfl, ?_⟩) (by assumption) ?_
      rotate_left 1
      · intro w' hw'; go_simp; try with_reducible rfl
      simp only [Act.put, List.setIfInBounds_toArray, List.set_cons_zero, List.set_cons_succ]
      refine wpAnyH_done (by kernel_rfl) ?_ _
      have HZ := Lib.hid hHeld2
      clear hHeld hHeld2 hke HX
      generalize World.setCells _ _ _ _ = wz at HZ ⊢
      go_wp2_with fail
      exact ret_cell_tmp rfl rfl w.heap.size 0 rfl [.int .i64 0, .int .i64 0, .slice none 0 0] _ (zrange HZ.out.bz) Tryz.underlying30 rfl (by kernel_rfl) _ rfl ⟨_, by rw [errV_no HER.out]; rfl, OwnS.nil _ _, HZ.out.bel⟩
  rw [show errV s3.er = .nilIface by unfold errV; rw [if_pos he]] at c1
  have g2 : ¬ (32 : Int) < (n : Int) := by omega
  clear he hn
  go_wp2_with fail
  go_loopg [41] n (fun gk iv wr => ∃ (k : Nat) (x : Value), gk + k = n ∧ iv = .int .u64 (k : Int) ∧ ImSt w wr t r w.heap.size (t + 1) v (sesTs k s3).2 c bb x (sesTs k s3).1)
  case atStart => exact ⟨0, _, rfl, rfl, HS5.out⟩
  case round =>
    obtain ⟨k, x, hgk, rfl, hst⟩ := hrel
    have k0 : (0 : Int) ≤ (k : Int) := by omega
    have HGK := Lib.hid hgk
    have HSR := Lib.hid hst
    have HTS := Lib.hid (sesTs_snoc k s3)
    by_cases hk : k < n
    · have k1 : (k : Int) < (n : Int) := by omega
      have HK := Lib.hid hk
      clear hst hk hgk
      have HLL := Lib.hid (sesTs_len k s3)
      generalize sesTs k s3 = p at HSR HTS HLL
      obtain ⟨l, sk⟩ := p
      simp only at HSR HTS HLL
      unfold bornM at HTS
      simp only at HTS
      have hlt : t + 1 < wr.heap.size := HSR.out.bs.lt
      have hrt : r < t := HSR.out.o2
      have hsz : (wr.alloc (.cells #[.int .i64 0, .int .i64 0, .int .i64 0, .int .i64 0, .int .i64 0, .string ⟨#[]⟩, .string ⟨#[]⟩, .int .u64 0, .int .i64 0, .int .i64 0, .int .i64 0, .int .i64 0] 45)).heap.size = wr.heap.size + 1 := World.size_alloc _ _
      have hst1 := HSR.out.below (below_alloc _ (.cells #[.int .i64 0, .int .i64 0, .int .i64 0, .int .i64 0, .int .i64 0, .string ⟨#[]⟩, .string ⟨#[]⟩, .int .u64 0, .int .i64 0, .int .i64 0, .int .i64 0, .int .i64 0] 45))
      have hbx1 : Box (wr.alloc (.cells #[.int .i64 0, .int .i64 0, .int .i64 0, .int .i64 0, .int .i64 0, .string ⟨#[]⟩, .string ⟨#[]⟩, .int .u64 0, .int .i64 0, .int .i64 0, .int .i64 0, .int .i64 0] 45)) wr.heap.size #[.int .i64 0, .int .i64 0, .int .i64 0, .int .i64 0, .int .i64 0, .string ⟨#[]⟩, .string ⟨#[]⟩, .int .u64 0, .int .i64 0, .int .i64 0, .int .i64 0, .int .i64 0] 45 := Box.new wr _ _
      have hxo : ∀ eb, eb = wr.heap.size → x.ownBlock ≠ some eb := fun eb he e => by have := (HSR.out.own.lt _ e).2; omega
      have hvo : ∀ eb, eb = wr.heap.size → v.ownBlock ≠ some eb := fun eb he e => by have := (HSR.out.ov _ e).2; omega
      obtain ⟨eb, heb⟩ : ∃ eb, eb = wr.heap.size := ⟨_, rfl⟩
      have HXO := Lib.hid (hxo eb heb)
      have HVO := Lib.hid (hvo eb heb)
      have HW1 := Lib.hid (And.intro hst1 hbx1)
      have HLT := Lib.hid (show t + 1 < eb ∧ r < t by omega)
      clear hst1 hbx1 hxo hvo hlt hrt HSR
      go_wp2_with fail
      rw [← heb] at HW1 hsz ⊢
      have hsb := Box.new (wr.alloc (.cells #[.int .i64 0, .int .i64 0, .int .i64 0, .int .i64 0, .int .i64 0, .string ⟨#[]⟩, .string ⟨#[]⟩, .int .u64 0, .int .i64 0, .int .i64 0, .int .i64 0, .int .i64 0] 45)) #[.pointer (some ⟨eb, 0, none⟩), .pointer (some ⟨eb, 1, none⟩), .pointer (some ⟨eb, 2, none⟩), .pointer (some ⟨eb, 3, none⟩), .pointer (some ⟨eb, 4, none⟩)] 242
      rw [hsz] at hsb
      have hst2 := HW1.out.1.below (below_alloc _ (.cells #[.pointer (some ⟨eb, 0, none⟩), .pointer (some ⟨eb, 1, none⟩), .pointer (some ⟨eb, 2, none⟩), .pointer (some ⟨eb, 3, none⟩), .pointer (some ⟨eb, 4, none⟩)] 242))
      have hbx2 := HW1.out.2.below (below_alloc _ (.cells #[.pointer (some ⟨eb, 0, none⟩), .pointer (some ⟨eb, 1, none⟩), .pointer (some ⟨eb, 2, none⟩), .pointer (some ⟨eb, 3, none⟩), .pointer (some ⟨eb, 4, none⟩)] 242))
      have HI := Lib.hid (imInts_calls t r eb (eb + 1) v sk [0, 1, 2, 3, 4] _ 45 242 _ hst2.it hbx2 hsb (by decide) (by have := HLT.out; omega) (by have := HLT.out; omega) (by have := HLT.out; omega) (by have := HLT.out; omega) (by omega) HVO.out (by decide))
      have HS2 := Lib.hid hst2
      clear hst2 hbx2 hsb HW1 heb hsz
      refine HI.out.mono ?_
      rintro ev w4 ⟨rfl, hi4, hb4, hm4⟩
      have hs4 := HS2.out.ints hi4 hm4 HLT.out.1 HXO.out
      change ImSt _ _ _ _ _ _ _ sk.int.2.int.2.int.2.int.2.int.2 _ _ _ _ at hs4
      change Box w4 eb (SesM.cells ⟨sk.int.1, sk.int.2.int.1, sk.int.2.int.2.int.1, sk.int.2.int.2.int.2.int.1, sk.int.2.int.2.int.2.int.2.int.1, [], [], 0, 0, 0, 0, 0⟩) 45 at hb4
      clear hi4 hm4 HI HS2
      generalize sk.int = p at hs4 hb4 HTS
      obtain ⟨n1, q2⟩ := p
      simp only at hs4 hb4 HTS
      generalize q2.int = p at hs4 hb4 HTS
      obtain ⟨n2, q3⟩ := p
      simp only at hs4 hb4 HTS
      generalize q3.int = p at hs4 hb4 HTS
      obtain ⟨n3, q4⟩ := p
      simp only at hs4 hb4 HTS
      generalize q4.int = p at hs4 hb4 HTS
      obtain ⟨n4, q5⟩ := p
      simp only at hs4 hb4 HTS
      generalize q5.int = p at hs4 hb4 HTS
      obtain ⟨n5, q6⟩ := p
      simp only at hs4 hb4 HTS
      have HS4 := Lib.hid hs4
      have HE4 := Lib.hid hb4
      clear hs4 hb4
      go_wp2_with fail
      refine (imText_calls t r v q6 _ HS4.out.it).mono ?_
      rintro ev w5 ⟨rfl, hi, hm⟩
      have hst := HS4.out.step hi hm
      have hE := HE4.out.mod hm (by rintro (e | e) <;> (have := HLT.out; omega))
      clear hi hm
      generalize q6.txt = p at hst HTS ⊢
      obtain ⟨u, q7⟩ := p
      simp only at hst HTS ⊢
      have HS5 := Lib.hid hst
      have HE5 := Lib.hid hE
      clear hst hE HS4 HE4
      go_wp2_with fail
      refine (imText_calls t r v q7 _ HS5.out.it).mono ?_
      rintro ev w6 ⟨rfl, hi, hm⟩
      have hst := HS5.out.step hi hm
      have hE := HE5.out.mod hm (by rintro (e | e) <;> (have := HLT.out; omega))
      clear hi hm
      generalize q7.txt = p at hst HTS ⊢
      obtain ⟨lb, q8⟩ := p
      simp only at hst HTS ⊢
      have HS6 := Lib.hid hst
      have HE6 := Lib.hid hE
      clear hst hE HS5 HE5
      have k5 := HE6.out.cell 5 _ rfl
      have f5 := HE6.out.free 5
      have hEa : Box (w6.setCell ⟨eb, 5, none⟩ (.string (SB u))) eb (SesM.cells ⟨n1, n2, n3, n4, n5, u, [], 0, 0, 0, 0, 0⟩) 45 := HE6.out.set 5 _
      have hSa := HS6.out.mod (Mod.set (fun i => i = eb) w6 ⟨eb, 5, none⟩ (.string (SB u)) rfl) HLT.out.1 HXO.out
      have k6 := hEa.cell 6 _ rfl
      have f6 := hEa.free 6
      have hEb : Box ((w6.setCell ⟨eb, 5, none⟩ (.string (SB u))).setCell ⟨eb, 6, none⟩ (.string (SB lb))) eb (SesM.cells ⟨n1, n2, n3, n4, n5, u, lb, 0, 0, 0, 0, 0⟩) 45 := hEa.set 6 _
      have hSb := hSa.mod (Mod.set (fun i => i = eb) (w6.setCell ⟨eb, 5, none⟩ (.string (SB u))) ⟨eb, 6, none⟩ (.string (SB lb)) rfl) HLT.out.1 HXO.out
      have HEb := Lib.hid hEb
      have HSb := Lib.hid hSb
      clear hEa hEb hSa hSb HE6 HS6
      go_wp2_with fail
      refine (imNumber_calls t r v q8 _ HSb.out.it).mono ?_
      rintro ev w7 ⟨rfl, hi, hm⟩
      have hst := HSb.out.step hi hm
      have hE := HEb.out.mod hm (by rintro (e | e) <;> (have := HLT.out; omega))
      clear hi hm k5 f5 k6 f6 HSb HEb
      generalize q8.num = p at hst HTS ⊢
      obtain ⟨sc, q9⟩ := p
      simp only at hst HTS ⊢
      have k7 := hE.cell 7 _ rfl
      have f7 := hE.free 7
      have hEa : Box (w7.setCell ⟨eb, 7, none⟩ (.int .u64 (sc : Int))) eb (SesM.cells ⟨n1, n2, n3, n4, n5, u, lb, sc, 0, 0, 0, 0⟩) 45 := hE.set 7 _
      have hSa := hst.mod (Mod.set (fun i => i = eb) w7 ⟨eb, 7, none⟩ (.int .u64 (sc : Int)) rfl) HLT.out.1 HXO.out
      have hEl : eb < w7.heap.size := hE.lt
      have HE7 := Lib.hid hEa
      have HS7 := Lib.hid hSa
      clear hE hst hEa hSa
      go_wp2_with fail
      clear k7 f7
      have hst2 := HS7.out.below (below_alloc _ (.cells #[.pointer (some ⟨eb, 8, none⟩), .pointer (some ⟨eb, 9, none⟩), .pointer (some ⟨eb, 10, none⟩), .pointer (some ⟨eb, 11, none⟩)] 242))
      have hbx2 := HE7.out.below (below_alloc _ (.cells #[.pointer (some ⟨eb, 8, none⟩), .pointer (some ⟨eb, 9, none⟩), .pointer (some ⟨eb, 10, none⟩), .pointer (some ⟨eb, 11, none⟩)] 242))
      have hsb := Box.new (w7.setCell ⟨eb, 7, none⟩ (.int .u64 (sc : Int))) #[.pointer (some ⟨eb, 8, none⟩), .pointer (some ⟨eb, 9, none⟩), .pointer (some ⟨eb, 10, none⟩), .pointer (some ⟨eb, 11, none⟩)] 242
      rw [show (w7.setCell ⟨eb, 7, none⟩ (.int .u64 (sc : Int))).heap.size = w7.heap.size by simp] at hsb
      have HI := Lib.hid (imInts_calls t r eb w7.heap.size v q9 [8, 9, 10, 11] _ 45 242 _ hst2.it hbx2 hsb (show ∀ o ∈ [8, 9, 10, 11], o < 12 by decide) (by have := HLT.out; omega) (by have := HLT.out; omega) (by have := HLT.out; omega) (by have := HLT.out; omega) (by omega) HVO.out (by decide))
      have HS2 := Lib.hid hst2
      clear hst2 hbx2 hsb HE7 HS7 hEl
      refine HI.out.mono ?_
      rintro ev w8 ⟨rfl, hi4, hb4, hm4⟩
      have hs4 := HS2.out.ints hi4 hm4 HLT.out.1 HXO.out
      change ImSt _ _ _ _ _ _ _ q9.int.2.int.2.int.2.int.2 _ _ _ _ at hs4
      change Box w8 eb (SesM.cells ⟨n1, n2, n3, n4, n5, u, lb, sc, q9.int.1, q9.int.2.int.1, q9.int.2.int.2.int.1, q9.int.2.int.2.int.2.int.1⟩) 45 at hb4
      clear hi4 hm4 HI HS2
      generalize q9.int = p at hs4 hb4 HTS
      obtain ⟨n6, q10⟩ := p
      simp only at hs4 hb4 HTS
      generalize q10.int = p at hs4 hb4 HTS
      obtain ⟨n7, q11⟩ := p
      simp only at hs4 hb4 HTS
      generalize q11.int = p at hs4 hb4 HTS
      obtain ⟨n8, q12⟩ := p
      simp only at hs4 hb4 HTS
      generalize q12.int = p at hs4 hb4 HTS
      obtain ⟨n9, q13⟩ := p
      simp only at hs4 hb4 HTS
      obtain ⟨y, hy⟩ : ∃ y : SesM, y = ⟨n1, n2, n3, n4, n5, u, lb, sc, n6, n7, n8, n9⟩ := ⟨_, rfl⟩
      rw [← hy] at hb4 HTS
      clear hy
      have HRG := Lib.hid (Box.rangeS hb4)
      have s2 : w8.cell? ⟨t + 1, 2, none⟩ = some x := hs4.bs.cell 2 _ rfl
      have HS8 := Lib.hid hs4
      clear hs4 hb4
      go_wp2_with ((with_reducible refine wpList_load_k ?b01 45 (.tmp 10) ?b11 eb 0 ?b21 y.cells.toList _ HRG.out Tryz.underlying45 ?b31 ?b41 ?b81); (case b11 => rfl); (case b01 => rfl); (case b21 => rfl); (case b31 => rfl); (case b41 => kernel_rfl))
      intro cv hcv
      have ecv : cv = y.cells := by rw [hcv.out]
      subst ecv
      clear hcv
      go_wp2_with (refine wpList_buildSlice_s (op := ⟨some 72, _, _, _, _, _⟩) (by rfl) 28 1 #[(0, .tmp 71)] rfl #[(0, .agg y.cells)] (by kernel_rfl) _ _ (buildS y w8) ?_)
      intro w9 hw9
      have hb9 : Below w8.heap.size w8 w9 := by rw [hw9.out]; exact below_alloc _ _
      have HC9 := Lib.hid (show ∀ j u, y.cells.toList[j]? = some u → w9.cell? ((⟨w8.heap.size, 0, none⟩ : Addr).add j) = some u by rw [hw9.out]; exact newCells w8 y _)
      have HS9 := Lib.hid (HS8.out.below hb9)
      have HLK := Lib.hid (show l.length + 1 ≤ 1256584717458 by have := HLL.out; have := HK.out; have := HN.out; omega)
      have HBS := Lib.hid (show t + 1 + 1 ≤ w9.heap.size by have := HS9.out.bs.lt; omega)
      clear hw9 hb9 HS8 HRG s2
      go_wp2_with (at_builtin; refine appSes rfl _ _ rfl (t + 1 + 1) _ l rfl HS9.out.own ⟨w8.heap.size, 0, none⟩ 1 y rfl HC9.out HLK.out HBS.out ?_)
      intro x' w10 hown' hg' _
      obtain ⟨va, vc, hve, _⟩ := hown'.slice
      rw [List.length_append, List.length_singleton] at hve
      subst hve
      have hb10 := HS9.out.grown hg'
      have hm10 : Mod (fun i => t + 1 + 1 ≤ i) w9 w10 := ⟨hb10.os, hb10.tape, hb10.output, hb10.size, fun i _ hn => hb10.block i (by omega)⟩
      have hbs10 := HS9.out.bs.mod hm10 (by omega)
      have g2 : w10.cell? ⟨t + 1, 2, none⟩ = some x := hbs10.cell 2 _ rfl
      have e2 := hbs10.free 2
      have HSF := Lib.hid (HS9.out.put hb10 hown')
      clear hown' hg' hb10 hm10 hbs10 HS9 HC9 HLK HBS
      go_wp2_with fail
      go_roundg (n - (k + 1))
      case measure => have := HGK.out; have := HK.out; omega
      case rel => exact ⟨k + 1, _, by have := HGK.out; have := HK.out; omega, by go_num, by rw [HTS.out]; exact HSF.out⟩
    · have hkn : k = n := by omega
      subst hkn
      have k1 : ¬ (k : Int) < (k : Int) := by omega
      clear hgk hk hst HTS HGK HNZ HN HS5 c1
      have hDD := HD.out
      clear HD
      have hok := sesTs_ok k s3
      generalize sesTs k s3 = p at HSR hDD hok
      obtain ⟨L, sN⟩ := p
      simp only at HSR hDD hok
      have HOK := Lib.hid hok
      clear hok
      have c2 : wr.cell? ⟨t, 1, none⟩ = some (errV sN.er) := HSR.out.it.box.cell 1 _ rfl
      unfold finI at hDD
      by_cases he : sN.er = 0
      rotate_left
      · rw [if_neg he] at hDD
        rw [errV_no he] at c2
        have HER := Lib.hid he
        subst hDD
        clear he
        have HX := Lib.hid (⟨c2, HSR.out.bz, HSR.out.bel, by have := HSR.out.o1; have := HSR.out.o2; omega, HSR.out.g⟩ : ExI w t w.heap.size (.iface 91 (.int .i64 sN.er)) wr)
        have hke : ∀ w', ExI w t w.heap.size (.iface 91 (.int .i64 sN.er)) w' → w'.cell? ⟨t, 1, none⟩ = some (.iface 91 (.int .i64 sN.er)) := fun w' h => h.ce
        clear HSR
        go_wp2_with fail
        clear c2
        refine wp_region_held_drew (S := ExI w t w.heap.size (.iface 91 (.int .i64 sN.er))) (by kernel_rfl) HX.out.drew (fun hHeld => ?_)
        refine wpAnyH_take (i := 0) (oi := ⟨some 81, _, _, _, _, _⟩) (v := ?_) rfl (by kernel_rfl) (by kernel_rfl) (by kernel_rfl) (fun _ _ _ h => h) (Or.inl ⟨by kernel_rfl, ?_⟩) (by assumption) ?_
        rotate_left 1
        · intro w' hw'; go_simp; try with_reducible rfl
        simp only [Act.put, List.setIfInBounds_toArray, List.set_cons_zero, List.set_cons_succ]
        refine wpAnyH_take (i := 1) (oi := ⟨some 82, _, _, _, _, _⟩) (v := ?_) rfl (by kernel_rfl) (by kernel_rfl) (by kernel_rfl) (fun _ _ _ h => h) (Or.inl ⟨by kernel_rfl, ?_⟩) (by assumption) ?_
        rotate_left 1
        · intro w' hw'; go_simp; try with_reducible rfl
        simp only [Act.put, List.setIfInBounds_toArray, List.set_cons_zero, List.set_cons_succ]
        refine wpAnyH_take (i := 2) (oi := ⟨some 83, _, _, _, _, _⟩) (v := ?_) rfl (by kernel_rfl) (by kernel_rfl) (by kernel_rfl) (fun _ _ _ h => h) (Or.inl ⟨by kernel_rfl, ?_⟩) (by assumption) ?_
        rotate_left 1
        · intro w' hw'; go_simp; try with_reducible rfl
        simp only [Act.put, List.setIfInBounds_toArray, List.set_cons_zero, List.set_cons_succ]
        refine wpAnyH_take (i := 3) (oi := ⟨some 84, _, _, _, _, _⟩) (v := ?_) rfl (by kernel_rfl) (by kernel_rfl) (by kernel_rfl) (fun _ _ _ h => h) (Or.inl ⟨by kernel_rfl, ?_⟩) (by assumption) ?_
        rotate_left 1
        · intro w' hw'; go_simp; try with_reducible rfl
        simp only [Act.put, List.setIfInBounds_toArray, List.set_cons_zero, List.set_cons_succ]
        refine wpAnyH_take (i := 4) (oi := ⟨some 85, _, _, _, _, _⟩) (v := ?_) rfl (by kernel_rfl) (by kernel_rfl) (by kernel_rfl) (fun _ _ _ h => h) (Or.inl ⟨by kernel_rfl, ?_⟩) (by assumption) ?_
        rotate_left 1
        · intro w' hw'; go_simp; try with_reducible rfl
        simp only [Act.put, List.setIfInBounds_toArray, List.set_cons_zero, List.set_cons_succ]
        refine wpAnyH_ready (rs := [5]) (by kernel_rfl) (by simp) (AllReadyH.cons (o := ⟨none, .store 30 (.tmp 2) (.tmp 81), _, _, _, none⟩) rfl (fun K hK => ?_) AllReadyH.nil)
        rw [if_pos (by kernel_rfl)]
        refine wp_store_k 30 (.tmp 2) (.tmp 81) rfl w.heap.size 0 [.int .i64 0, .int .i64 0, .slice none 0 0] rfl rfl (hHeld.bz.there 0 3 (by decide)) (by kernel_rfl) zst_one ?_
        refine hK.out _ _ hHeld.store (fun hHeld2 => ?_)
        clear hK K
        try simp only [Act.put]
        refine wpAnyH_take (i := 6) (oi := ⟨some 3, _, _, _, _, _⟩) (v := ?_) rfl (by kernel_rfl) (by kernel_rfl) (by kernel_rfl) (fun _ _ _ h => h) (Or.inl ⟨by kernel_rfl, ?_⟩) (by assumption) ?_
        rotate_left 1
        · intro w' hw'; go_simp; try with_reducible rfl
        simp only [Act.put, List.setIfInBounds_toArray, List.set_cons_zero, List.set_cons_succ]
        refine wpAnyH_done (by kernel_rfl) ?_ _
        have HZ := Lib.hid hHeld2
        clear hHeld hHeld2 hke HX
        generalize World.setCells _ _ _ _ = wz at HZ ⊢
        go_wp2_with fail
        exact ret_cell_tmp rfl rfl w.heap.size 0 rfl [.int .i64 0, .int .i64 0, .slice none 0 0] _ (zrange HZ.out.bz) Tryz.underlying30 rfl (by kernel_rfl) _ rfl ⟨_, by rw [errV_no HER.out]; rfl, OwnS.nil _ _, HZ.out.bel⟩
      rw [if_pos he] at hDD
      rw [show errV sN.er = .nilIface by unfold errV; rw [if_pos he]] at c2
      have c3 := HSR.out.it.box.cell 0 _ rfl
      clear he
      go_wp2_with fail
      refine (end_calls r sN.k v sN.l _ HSR.out.it.rd).mono ?_
      rintro ev w7 ⟨rfl, hb7⟩
      have HS7 := Lib.hid (HSR.out.below hb7)
      clear c2 c3 hb7 HSR
      by_cases hk : sN.k < sN.l.length
      · rw [if_pos hk, errV_no (by decide : (3 : Int) ≠ 0)]
        rw [if_pos hk] at hDD
        subst hDD
        clear hk
        have d0 : w7.cell? ⟨w.heap.size, 0, none⟩ = some (.int .i64 0) := HS7.out.bz.cell 0 _ rfl
        have e0 := HS7.out.bz.free 0
        have d1 : w7.cell? ⟨w.heap.size, 1, none⟩ = some (.int .i64 0) := HS7.out.bz.cell 1 _ rfl
        have e1 := HS7.out.bz.free 1
        have d2 : w7.cell? ⟨w.heap.size, 2, none⟩ = some (.slice none 0 0) := HS7.out.bz.cell 2 _ rfl
        have e2 := HS7.out.bz.free 2
        have HZ := Lib.hid HS7.out.zero
        clear HS7
        go_wp2_with fail
        exact ret_cell_tmp rfl rfl w.heap.size 0 rfl [.int .i64 0, .int .i64 0, .slice none 0 0] _ (zrange HZ.out.1) Tryz.underlying30 rfl (by kernel_rfl) _ rfl ⟨_, rfl, OwnS.nil _ _, HZ.out.2⟩
      rw [if_neg hk, show errV 0 = .nilIface from rfl]
      rw [if_neg hk] at hDD
      clear hk
      have c4 : w7.cell? ⟨t, 2, none⟩ = some (.bool sN.big) := HS7.out.it.box.cell 2 _ rfl
      cases hbg : sN.big
      rotate_left
      · rw [hbg] at c4 hDD
        rw [if_pos rfl] at hDD
        subst hDD
        clear hbg
        have d0 : w7.cell? ⟨w.heap.size, 0, none⟩ = some (.int .i64 0) := HS7.out.bz.cell 0 _ rfl
        have e0 := HS7.out.bz.free 0
        have d1 : w7.cell? ⟨w.heap.size, 1, none⟩ = some (.int .i64 0) := HS7.out.bz.cell 1 _ rfl
        have e1 := HS7.out.bz.free 1
        have d2 : w7.cell? ⟨w.heap.size, 2, none⟩ = some (.slice none 0 0) := HS7.out.bz.cell 2 _ rfl
        have e2 := HS7.out.bz.free 2
        have HZ := Lib.hid HS7.out.zero
        clear HS7
        go_wp2_with fail
        exact ret_cell_tmp rfl rfl w.heap.size 0 rfl [.int .i64 0, .int .i64 0, .slice none 0 0] _ (zrange HZ.out.1) Tryz.underlying30 rfl (by kernel_rfl) _ rfl ⟨_, rfl, OwnS.nil _ _, HZ.out.2⟩
      rw [hbg] at c4 hDD
      rw [if_neg (by decide)] at hDD
      have HD := Lib.hid hDD
      clear hDD hbg
      have s0 : w7.cell? ⟨t + 1, 0, none⟩ = some (.int .i64 c) := HS7.out.bs.cell 0 _ rfl
      have s1 : w7.cell? ⟨t + 1, 1, none⟩ = some (.int .i64 bb) := HS7.out.bs.cell 1 _ rfl
      have s2 : w7.cell? ⟨t + 1, 2, none⟩ = some x := HS7.out.bs.cell 2 _ rfl
      obtain ⟨xa, xc, rfl, _⟩ := HS7.out.own.slice
      go_wp2_with fail
      refine (check_calls ⟨c, bb, L⟩ _ w7 HS7.out.own.rd HOK.out).mono ?_
      rintro ev w8 ⟨rfl, hb8⟩
      have HS8 := Lib.hid (HS7.out.below hb8)
      have hDD := HD.out
      clear s0 s1 s2 c4 hb8 HS7 HD HOK
      generalize checkM ⟨c, bb, L⟩ = C at hDD ⊢
      cases C with
      | some f =>
        rw [if_neg (by simp)] at hDD
        subst hDD
        rw [show chkV (some f) = .iface 99 (.agg #[.int .i64 24, .int .i64 f]) from rfl]
        have d0 : w8.cell? ⟨w.heap.size, 0, none⟩ = some (.int .i64 0) := HS8.out.bz.cell 0 _ rfl
        have e0 := HS8.out.bz.free 0
        have d1 : w8.cell? ⟨w.heap.size, 1, none⟩ = some (.int .i64 0) := HS8.out.bz.cell 1 _ rfl
        have e1 := HS8.out.bz.free 1
        have d2 : w8.cell? ⟨w.heap.size, 2, none⟩ = some (.slice none 0 0) := HS8.out.bz.cell 2 _ rfl
        have e2 := HS8.out.bz.free 2
        have HZ := Lib.hid HS8.out.zero
        clear HS8
        go_wp2_with fail
        exact ret_cell_tmp rfl rfl w.heap.size 0 rfl [.int .i64 0, .int .i64 0, .slice none 0 0] _ (zrange HZ.out.1) Tryz.underlying30 rfl (by kernel_rfl) _ rfl ⟨_, rfl, OwnS.nil _ _, HZ.out.2⟩
      | none =>
        rw [if_pos rfl] at hDD
        subst hDD
        rw [show chkV none = .nilIface from rfl]
        have s0 : w8.cell? ⟨t + 1, 0, none⟩ = some (.int .i64 c) := HS8.out.bs.cell 0 _ rfl
        have s1 : w8.cell? ⟨t + 1, 1, none⟩ = some (.int .i64 bb) := HS8.out.bs.cell 1 _ rfl
        have s2 := HS8.out.bs.cell 2 _ rfl
        have HZ := Lib.hid HS8.out.full
        have d0 : w8.cell? ⟨w.heap.size, 0, none⟩ = some (.int .i64 0) := HS8.out.bz.cell 0 _ rfl
        have e0 := HS8.out.bz.free 0
        have d1 : w8.cell? ⟨w.heap.size, 1, none⟩ = some (.int .i64 0) := HS8.out.bz.cell 1 _ rfl
        have e1 := HS8.out.bz.free 1
        have d2 : w8.cell? ⟨w.heap.size, 2, none⟩ = some (.slice none 0 0) := HS8.out.bz.cell 2 _ rfl
        have e2 := HS8.out.bz.free 2
        clear HS8
        go_wp2_with fail
        exact ret_cell_tmp rfl rfl w.heap.size 0 rfl [.int .i64 c, .int .i64 bb, _] _ (zrange HZ.out.1) Tryz.underlying30 rfl (by kernel_rfl) _ rfl ⟨_, rfl, HZ.out.2.1, HZ.out.2.2⟩
end Go.Proofs.YtgcnolapjppbpaaGreatDoor
