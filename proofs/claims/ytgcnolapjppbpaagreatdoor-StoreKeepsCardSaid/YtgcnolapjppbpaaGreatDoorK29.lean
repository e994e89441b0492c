/-
  Texts of one proof, one behind the other.
-/
import Derived.Test.YtgcnolapjppbpaaGreatDoorK25
import Derived.Test.YtgcnolapjppbpaaGreatDoorK27
import Derived.Test.YtgcnolapjppbpaaGreatDoorK28
import Derived.Test.YtgcnolapjppbpaaGreatDoorK24
namespace Go.Proofs.YtgcnolapjppbpaaGreatDoor
open Go.RowKit
set_option maxRecDepth 100000
theorem is_nil (b : Int) (w : World) : Calls Tryz.prog 40 #[.nilIface, errN b] w fun e w' => e = .returned (.bool false) ∧ w' = w := by
  unfold errN
  have he : ∀ w, (binOp .eql 49 .nilIface (.iface 91 (.int .i64 b))).run Tryz.prog w = .ok (.bool false) w := fun w => by kernel_rfl
  go_enter Tryz.func40, Tryz.ntmps40
  go_wp2_with fail
  go_ret
  exact ⟨rfl, rfl⟩
theorem is_any (a b : Int) (hb : b ≠ 0) (w : World) : Calls Tryz.prog 40 #[errV a, .iface 91 (.int .i64 b)] w fun e w' => e = .returned (.bool (a == b)) ∧ w' = w := by
  by_cases h : a = 0
  · subst h
    have e : ((0 : Int) == b) = false := by simp; omega
    rw [e]
    exact is_nil b w
  · have e : errV a = errN a := by unfold errV; rw [if_neg h]; rfl
    rw [e]
    exact is_calls a b w
theorem wrap_next {ep : UInt32} (h : ep ≠ 4294967295) : IntKind.u32.wrap (I32 ep + 1) = I32 (ep + 1) := by
  have h1 := ep.toNat_lt
  have h2 : ep.toNat ≠ 4294967295 := fun e => h (UInt32.toNat_inj.1 (by rw [e]; rfl))
  have h3 : (ep + 1).toNat = ep.toNat + 1 := by rw [UInt32.toNat_add]; show (ep.toNat + 1) % 4294967296 = _; omega
  unfold I32
  rw [h3]
  simp [IntKind.wrap, IntKind.signed, IntKind.bits]
  omega
structure StoB (w : World) (ps pd : Nat) (ep : UInt32) (lv : Value) (b : Bool) : Prop where
  bx : Box w ps #[.pointer (some ⟨pd, 0, none⟩), .int .u32 (I32 ep), lv, .bool b] 90
theorem StoB.mod {w w' : World} {ps pd : Nat} {ep : UInt32} {lv : Value} {b : Bool} {F : Nat → Prop} (h : StoB w ps pd ep lv b) (hm : Mod F w w') (hn : ¬ F ps) : StoB w' ps pd ep lv b := ⟨h.bx.mod hm hn⟩
theorem StoB.below {w w' : World} {ps pd : Nat} {ep : UInt32} {lv : Value} {b : Bool} (h : StoB w ps pd ep lv b) (hb : Below w.heap.size w w') : StoB w' ps pd ep lv b := ⟨h.bx.below hb⟩
theorem StoB.set1 {w : World} {ps pd : Nat} {ep : UInt32} {lv : Value} {b : Bool} (h : StoB w ps pd ep lv b) (e : UInt32) : StoB (w.setCell ⟨ps, 1, none⟩ (.int .u32 (I32 e))) ps pd e lv b := ⟨h.bx.set 1 _⟩
theorem StoB.set2 {w : World} {ps pd : Nat} {ep : UInt32} {lv : Value} {b : Bool} (h : StoB w ps pd ep lv b) (v : Value) : StoB (w.setCell ⟨ps, 2, none⟩ v) ps pd ep v b := ⟨h.bx.set 2 _⟩
theorem StoB.set3 {w : World} {ps pd : Nat} {ep : UInt32} {lv : Value} {b : Bool} (h : StoB w ps pd ep lv b) (c : Bool) : StoB (w.setCell ⟨ps, 3, none⟩ (.bool c)) ps pd ep lv c := ⟨h.bx.set 3 _⟩
structure Laid (w : World) (ps pd : Nat) (ep : UInt32) (lv : Value) (b : Bool) (F : Nat → Prop) (R : DiskM × Int) (w' : World) : Prop where
  dk : ∃ F', IsDisk w' R.1 pd F' ∧ (∀ k, F' k → F k ∨ w.heap.size ≤ k) ∧ (R.2 = 0 → ∃ pl', w.heap.size ≤ pl' ∧ ¬ F' pl' ∧ StoB w' ps pd (ep + 1) (.pointer (some ⟨pl', 0, none⟩)) b ∧ IsLog w' (logN (ep + 1)) pl' pd)
  no : R.2 ≠ 0 → StoB w' ps pd ep lv b
  md : Mod (fun k => k = ps ∨ F k) w w'
set_option maxHeartbeats 6400000 in
theorem lay_calls (st : StM) (v : Value) (d : DiskM) (ps pd : Nat) (ep : UInt32) (lv : Value) (b : Bool) (F : Nat → Prop) (w : World) (h : StoB w ps pd ep lv b) (hd : IsDisk w d pd F) (hps : ¬ F ps) (hr : RdS w v st.l) (ho : ∀ s ∈ st.l, SesOk s) (ht : d.trail.length ≤ 90000000000) (hl : 65 ≤ d.strs.length) (him : (imgM st).length ≤ 140737488355000) :
    Calls Tryz.prog 41 #[.pointer (some ⟨ps, 0, none⟩), .agg #[.int .i64 st.clock, .int .i64 st.births, v]] w fun e w' => e = .returned (errV (layM ep d st).2) ∧ Laid w ps pd ep lv b F (layM ep d st) w' := by
  obtain ⟨va, vc, rfl, _⟩ := hr.slice
  obtain ⟨n, hn⟩ : ∃ n, n = st.l.length := ⟨_, rfl⟩
  rw [← hn] at hr ⊢
  obtain ⟨c, hc⟩ : ∃ c, c = st.clock := ⟨_, rfl⟩
  obtain ⟨bi, hb⟩ : ∃ b, b = st.births := ⟨_, rfl⟩
  have hec := fun w' h => encImg_calls st (.slice va n vc) w' h ho
  rw [← hc, ← hb] at hec ⊢
  obtain ⟨I, hI⟩ : ∃ I, I = imgM st := ⟨_, rfl⟩
  obtain ⟨N, hN⟩ : ∃ N, N = imgN st := ⟨_, rfl⟩
  have hlay : layM ep d st = if N = 0 then (if ep = 4294967295 then (d, 5) else saveM d 0 24 (ep + 1).toNat I) else (d, 24) := by rw [hI, hN]; rfl
  obtain ⟨RL, hRL⟩ : ∃ R, R = layM ep d st := ⟨_, rfl⟩
  rw [← hRL] at hlay ⊢
  have HLY := Lib.hid hlay
  rw [← hI, ← hN] at hec
  rw [← hI] at him
  have HEC := Lib.hid hec
  have hba := below_alloc w (.cells #[.int .i64 c, .int .i64 bi, .slice va n vc] 30)
  have HR := Lib.hid (hr.below hba)
  have HS := Lib.hid (h.below hba)
  have HD := Lib.hid (hd.grow hba)
  have HB := Lib.hid hba
  have HT := Lib.hid ht
  have HLN := Lib.hid hl
  have HIM := Lib.hid him
  have HP := Lib.hid hps
  have HPS := Lib.hid (show ps < w.heap.size from h.bx.lt)
  have HFL := Lib.hid hd.lt
  have HX := Lib.hid (Box.new w #[.int .i64 c, .int .i64 bi, .slice va n vc] 30)
  clear h hd hps hr ho ht hl him hn hc hb hI hN hec hba hlay hRL
  go_enter Tryz.func41, Tryz.ntmps41
  go_wp2_with fail
  generalize (w.alloc (.cells #[.int .i64 c, .int .i64 bi, .slice va n vc] 30)) = w1 at HR HS HD HB HX ⊢
  refine (HEC.out w1 HR.out).mono ?_
  rintro e w2 ⟨iv, rfl, ho, hb⟩
  have HS2 := Lib.hid (HS.out.below hb)
  have HD2 := Lib.hid (HD.out.grow hb)
  have HB2 := Lib.hid (HB.out.trans (hb.mono HB.out.size))
  have HO2 := Lib.hid ho.rd
  have HOL := Lib.hid (show ∀ k, iv.ownBlock = some k → w1.heap.size ≤ k from fun k hk => (ho.lt k hk).1)
  obtain ⟨ia, ic, rfl, _⟩ := ho.rd
  obtain ⟨m, hm⟩ : ∃ m, m = I.length := ⟨_, rfl⟩
  rw [← hm] at HO2 HOL ⊢
  have HM := Lib.hid hm
  have c1 : w2.cell? ⟨ps, 1, none⟩ = some (.int .u32 (I32 ep)) := HS2.out.bx.cell 1 _ rfl
  clear ho hb HEC HR HS HD HX hm
  by_cases hn : N = 0
  rotate_left
  · rw [show errV N = .iface 91 (.int .i64 N) from if_neg hn]
    obtain rfl : RL = (d, 24) := by rw [HLY.out, if_neg hn]
    clear hn c1 HLY
    go_wp2_with fail
    go_ret
    exact ⟨rfl, ⟨⟨F, HD2.out, fun k hk => .inl hk, fun h => by cases h⟩, fun _ => HS2.out, Mod.of_below HB2.out⟩⟩
  rw [if_pos hn] at HLY
  rw [show errV N = .nilIface from if_pos hn]
  clear hn
  by_cases hep : ep = 4294967295
  · obtain rfl : RL = (d, 5) := by rw [HLY.out, if_pos hep]
    have hI : I32 ep = 4294967295 := by rw [hep]; rfl
    have c1' : w2.cell? ⟨ps, 1, none⟩ = some (.int .u32 4294967295) := by rw [c1, hI]
    clear hep hI c1 HLY
    go_wp2_with fail
    go_ret
    exact ⟨rfl, ⟨⟨F, HD2.out, fun k hk => .inl hk, fun h => by cases h⟩, fun _ => HS2.out, Mod.of_below HB2.out⟩⟩
  rw [if_neg hep] at HLY
  have hI : (I32 ep == 4294967295) = false := by
    rw [beq_eq_false_iff_ne]
    intro e
    exact hep (I32_inj (e.trans rfl))
  have HW := Lib.hid (wrap_next hep)
  have hnx := Lib.hid hep
  obtain ⟨e1, he1⟩ : ∃ e, e = ep + 1 := ⟨_, rfl⟩
  rw [← he1] at HW HLY
  have HE1 := Lib.hid he1
  obtain ⟨R, rfl⟩ : ∃ R, R = RL := ⟨_, rfl⟩
  have hR := HLY.out
  clear HLY
  have hsv := fun W (hW : IsDisk W d pd F) (hrd : Rd W (.slice ia m ic) I.length (I.map V8)) => save_calls d pd F 0 24 e1 (.slice ia m ic) I W hW hrd (fun _ k hk hf => by have := HOL.out k hk; have := HFL.out k hf; have := HB.out.size; omega) HT.out ⟨by decide, by decide⟩ ⟨by decide, by decide⟩ HIM.out
  rw [← hR] at hsv
  have HSV := Lib.hid hsv
  have HRL := Lib.hid (show R.1.strs.length = d.strs.length by rw [hR, saveM_len])
  clear hep he1 hR hsv
  go_wp2_with fail
  refine wp_region_held_drew (S := fun W => StoB W ps pd ep lv b) (by kernel_rfl) (HS2.out.below (below_drew w2)) (fun hHeld => ?_)
  refine wpAnyH_take (i := 0) (oi := ⟨some 22, _, _, _, _, _⟩) (v := ?_) rfl (by kernel_rfl) (by kernel_rfl) (by kernel_rfl) (fun _ _ _ h => h) (Or.inl ⟨by kernel_rfl, ?_⟩) (by assumption) ?_
  rotate_left 1
  · intro w' hw'; clear hw'; go_simp; try with_reducible rfl
  try simp only [Act.put, List.setIfInBounds_toArray, List.set_cons_zero, List.set_cons_succ]
  refine wpAnyH_take (i := 1) (oi := ⟨some 23, _, _, _, _, _⟩) (v := ?_) rfl (by kernel_rfl) (by kernel_rfl) (by kernel_rfl) (fun _ _ _ h => h) (Or.inl ⟨by kernel_rfl, ?_⟩) (by assumption) ?_
  rotate_left 1
  · intro w' hw'; clear hw'; go_simp; try with_reducible rfl
  try simp only [Act.put, List.setIfInBounds_toArray, List.set_cons_zero, List.set_cons_succ]
  refine wpAnyH_take (i := 2) (oi := ⟨some 24, _, _, _, _, _⟩) (v := ?_) rfl (by kernel_rfl) (by kernel_rfl) (by kernel_rfl) (fun _ _ _ h => h) (Or.inl ⟨by kernel_rfl, ?_⟩) (by assumption) ?_
  rotate_left 1
  · intro w' hw'; clear hw'; go_simp; try with_reducible rfl
  try simp only [Act.put, List.setIfInBounds_toArray, List.set_cons_zero, List.set_cons_succ]
  refine wpAnyH_take (i := 3) (oi := ⟨some 25, _, _, _, _, _⟩) (v := ?_) rfl (by kernel_rfl) (by kernel_rfl) (by kernel_rfl) (fun _ _ _ h => h) (Or.inl ⟨by kernel_rfl, ?_⟩) (by assumption) ?_
  rotate_left 1
  · intro w' hw'; have u1 := (StoB.bx hw').cell 0 _ rfl; clear hw'; go_simp; try with_reducible rfl
  try simp only [Act.put, List.setIfInBounds_toArray, List.set_cons_zero, List.set_cons_succ]
  refine wpAnyH_take (i := 4) (oi := ⟨some 26, _, _, _, _, _⟩) (v := ?_) rfl (by kernel_rfl) (by kernel_rfl) (by kernel_rfl) (fun _ _ _ h => h) (Or.inl ⟨by kernel_rfl, ?_⟩) (by assumption) ?_
  rotate_left 1
  · intro w' hw'; clear hw'; go_simp; try with_reducible rfl
  try simp only [Act.put, List.setIfInBounds_toArray, List.set_cons_zero, List.set_cons_succ]
  refine wpAnyH_take (i := 5) (oi := ⟨some 27, _, _, _, _, _⟩) (v := ?_) rfl (by kernel_rfl) (by kernel_rfl) (by kernel_rfl) (fun _ _ _ h => h) (Or.inl ⟨by kernel_rfl, ?_⟩) (by assumption) ?_
  rotate_left 1
  · intro w' hw'; clear hw'; go_simp; try with_reducible rfl
  try simp only [Act.put, List.setIfInBounds_toArray, List.set_cons_zero, List.set_cons_succ]
  refine wpAnyH_take (i := 6) (oi := ⟨some 28, _, _, _, _, _⟩) (v := ?_) rfl (by kernel_rfl) (by kernel_rfl) (by kernel_rfl) (fun _ _ _ h => h) (Or.inl ⟨by kernel_rfl, ?_⟩) (by assumption) ?_
  rotate_left 1
  · intro w' hw'; clear hw'; go_simp; try with_reducible rfl
  try simp only [Act.put, List.setIfInBounds_toArray, List.set_cons_zero, List.set_cons_succ]
  refine wpAnyH_take (i := 7) (oi := ⟨some 29, _, _, _, _, _⟩) (v := ?_) rfl (by kernel_rfl) (by kernel_rfl) (by kernel_rfl) (fun _ _ _ h => h) (Or.inl ⟨by kernel_rfl, ?_⟩) (by assumption) ?_
  rotate_left 1
  · intro w' hw'; have u1 := (StoB.bx hw').cell 1 _ rfl; clear hw'; go_simp; try with_reducible rfl
  try simp only [Act.put, List.setIfInBounds_toArray, List.set_cons_zero, List.set_cons_succ]
  refine wpAnyH_take (i := 8) (oi := ⟨some 30, _, _, _, _, _⟩) (v := ?_) rfl (by kernel_rfl) (by kernel_rfl) (by kernel_rfl) (fun _ _ _ h => h) (Or.inl ⟨by kernel_rfl, ?_⟩) (by assumption) ?_
  rotate_left 1
  · intro w' hw'; have u2 := HW.out; clear hw'; go_simp; try with_reducible rfl
  try simp only [Act.put, List.setIfInBounds_toArray, List.set_cons_zero, List.set_cons_succ]
  refine wpAnyH_take (i := 9) (oi := ⟨some 31, _, _, _, _, _⟩) (v := ?_) rfl (by kernel_rfl) (by kernel_rfl) (by kernel_rfl) (fun _ _ _ h => h) (Or.inl ⟨by kernel_rfl, ?_⟩) (by assumption) ?_
  rotate_left 1
  · intro w' hw'; clear hw'; go_simp; try with_reducible rfl
  try simp only [Act.put, List.setIfInBounds_toArray, List.set_cons_zero, List.set_cons_succ]
  refine wpAnyH_ready (rs := [10]) (by kernel_rfl) (by simp) (AllReadyH.cons (o := ⟨some 32, .call _, _, _, _, _⟩) rfl (fun K hK => ?_) AllReadyH.nil)
  go_simp
  refine (HSV.out _ (HD2.out.grow (below_drew w2)) (by rw [← HM.out]; exact HO2.out.below (below_drew w2))).mono ?_
  rintro ev w3 ⟨rfl, F', hd3, hm3, hg3⟩
  have hs3 := hHeld.mod hm3 HP.out
  refine hK.out _ _ hs3 (fun _ => ?_)
  have HS3 := Lib.hid hs3
  have HD3 := Lib.hid hd3
  have HM3 := Lib.hid (show Mod F w w3 from (Mod.of_below HB2.out).trans ((Mod.of_below (below_drew w2)).trans hm3))
  have HG3 := Lib.hid (show ∀ k, F' k → F k ∨ w.heap.size ≤ k from fun k hk => by
    rcases hg3 k hk with g | g
    · exact .inl g
    · right; exact Nat.le_trans HB2.out.size g)
  clear hK K hs3 hd3 hm3 hg3 hHeld HSV HD2 HO2 HB2 HS2 c1 hI
  try simp only [Act.put, List.setIfInBounds_toArray, List.set_cons_zero, List.set_cons_succ]
  refine wpAnyH_take (i := 11) (oi := ⟨some 7, _, _, _, _, _⟩) (v := ?_) rfl (by kernel_rfl) (by kernel_rfl) (by kernel_rfl) (fun _ _ _ h => h) (Or.inl ⟨by kernel_rfl, ?_⟩) (by assumption) ?_
  rotate_left 1
  · intro w' hw'; clear hw'; go_simp; try with_reducible rfl
  try simp only [Act.put, List.setIfInBounds_toArray, List.set_cons_zero, List.set_cons_succ]
  refine wpAnyH_done (by kernel_rfl) ?_ _
  by_cases h0 : R.2 = 0
  rotate_left
  · rw [show errV R.2 = .iface 91 (.int .i64 R.2) from if_neg h0]
    have H0 := Lib.hid h0
    clear h0
    go_wp2_with fail
    go_ret
    exact ⟨by rw [show errV R.2 = .iface 91 (.int .i64 R.2) from if_neg H0.out]; rfl, ⟨⟨F', HD3.out, HG3.out, fun h => absurd h H0.out⟩, fun _ => HS3.out, HM3.out.mono (fun _ h => .inr h)⟩⟩
  rw [show errV R.2 = .nilIface from if_pos h0]
  have H0 := Lib.hid h0
  clear h0
  have c1 : w3.cell? ⟨ps, 1, none⟩ = some (.int .u32 (I32 ep)) := HS3.out.bx.cell 1 _ rfl
  have f1 := HS3.out.bx.free 1
  have uw := HW.out
  have HS4 := Lib.hid (show StoB (w3.setCell ⟨ps, 1, none⟩ (.int .u32 (I32 e1))) ps pd e1 lv b from HS3.out.set1 e1)
  have hm4 := Mod.set (fun k => k = ps) w3 ⟨ps, 1, none⟩ (.int .u32 (I32 e1)) rfl
  have hpf : ¬ F' ps := fun hf => by
    rcases HG3.out ps hf with g | g
    · exact HP.out g
    · have := HPS.out; omega
  have HD4 := Lib.hid (HD3.out.mod hm4 (fun k hk e => hpf (by rw [← e]; exact hk)))
  have HM4 := Lib.hid (show Mod (fun k => k = ps ∨ F k) w (w3.setCell ⟨ps, 1, none⟩ (.int .u32 (I32 e1))) from (HM3.out.mono (fun _ h => .inr h)).trans (hm4.mono (fun _ h => .inl h)))
  have HPF := Lib.hid hpf
  clear hm4 hpf HD3 HS3 HM3
  go_wp2_with fail
  clear c1 f1 uw
  generalize w3.setCell ⟨ps, 1, none⟩ (.int .u32 (I32 e1)) = w4 at HS4 HD4 HM4 ⊢
  have HLG := Lib.hid (fun W (hW : IsDisk W R.1 pd F') => log_new_yes R.1 pd F' 49 16 e1 W hW (by decide) (by rw [HRL.out]; exact HLN.out))
  refine wp_region_held_drew (S := fun W => ∃ x, StoB W ps pd e1 x b) (by kernel_rfl) ⟨lv, HS4.out.below (below_drew w4)⟩ (fun hHeld => ?_)
  refine wpAnyH_take (i := 0) (oi := ⟨some 44, _, _, _, _, _⟩) (v := ?_) rfl (by kernel_rfl) (by kernel_rfl) (by kernel_rfl) (fun _ _ _ h => h) (Or.inl ⟨by kernel_rfl, ?_⟩) (by assumption) ?_
  rotate_left 1
  · intro w' hw'; clear hw'; go_simp; try with_reducible rfl
  try simp only [Act.put, List.setIfInBounds_toArray, List.set_cons_zero, List.set_cons_succ]
  refine wpAnyH_take (i := 1) (oi := ⟨some 45, _, _, _, _, _⟩) (v := ?_) rfl (by kernel_rfl) (by kernel_rfl) (by kernel_rfl) (fun _ _ _ h => h) (Or.inl ⟨by kernel_rfl, ?_⟩) (by assumption) ?_
  rotate_left 1
  · intro w' hw'; clear hw'; go_simp; try with_reducible rfl
  try simp only [Act.put, List.setIfInBounds_toArray, List.set_cons_zero, List.set_cons_succ]
  refine wpAnyH_take (i := 2) (oi := ⟨some 46, _, _, _, _, _⟩) (v := ?_) rfl (by kernel_rfl) (by kernel_rfl) (by kernel_rfl) (fun _ _ _ h => h) (Or.inl ⟨by kernel_rfl, ?_⟩) (by assumption) ?_
  rotate_left 1
  · intro w' hw'; clear hw'; go_simp; try with_reducible rfl
  try simp only [Act.put, List.setIfInBounds_toArray, List.set_cons_zero, List.set_cons_succ]
  refine wpAnyH_take (i := 3) (oi := ⟨some 47, _, _, _, _, _⟩) (v := ?_) rfl (by kernel_rfl) (by kernel_rfl) (by kernel_rfl) (fun _ _ _ h => h) (Or.inl ⟨by kernel_rfl, ?_⟩) (by assumption) ?_
  rotate_left 1
  · intro w' hw'; clear hw'; go_simp; try with_reducible rfl
  try simp only [Act.put, List.setIfInBounds_toArray, List.set_cons_zero, List.set_cons_succ]
  refine wpAnyH_take (i := 4) (oi := ⟨some 48, _, _, _, _, _⟩) (v := ?_) rfl (by kernel_rfl) (by kernel_rfl) (by kernel_rfl) (fun _ _ _ h => h) (Or.inl ⟨by kernel_rfl, ?_⟩) (by assumption) ?_
  rotate_left 1
  · intro w' hw'; obtain ⟨x, hx⟩ := hw'; have u1 := hx.bx.cell 0 _ rfl; clear hx; go_simp; try with_reducible rfl
  try simp only [Act.put, List.setIfInBounds_toArray, List.set_cons_zero, List.set_cons_succ]
  refine wpAnyH_take (i := 5) (oi := ⟨some 49, _, _, _, _, _⟩) (v := ?_) rfl (by kernel_rfl) (by kernel_rfl) (by kernel_rfl) (fun _ _ _ h => h) (Or.inl ⟨by kernel_rfl, ?_⟩) (by assumption) ?_
  rotate_left 1
  · intro w' hw'; clear hw'; go_simp; try with_reducible rfl
  try simp only [Act.put, List.setIfInBounds_toArray, List.set_cons_zero, List.set_cons_succ]
  refine wpAnyH_take (i := 6) (oi := ⟨some 50, _, _, _, _, _⟩) (v := ?_) rfl (by kernel_rfl) (by kernel_rfl) (by kernel_rfl) (fun _ _ _ h => h) (Or.inl ⟨by kernel_rfl, ?_⟩) (by assumption) ?_
  rotate_left 1
  · intro w' hw'; clear hw'; go_simp; try with_reducible rfl
  try simp only [Act.put, List.setIfInBounds_toArray, List.set_cons_zero, List.set_cons_succ]
  refine wpAnyH_take (i := 7) (oi := ⟨some 51, _, _, _, _, _⟩) (v := ?_) rfl (by kernel_rfl) (by kernel_rfl) (by kernel_rfl) (fun _ _ _ h => h) (Or.inl ⟨by kernel_rfl, ?_⟩) (by assumption) ?_
  rotate_left 1
  · intro w' hw'; clear hw'; go_simp; try with_reducible rfl
  try simp only [Act.put, List.setIfInBounds_toArray, List.set_cons_zero, List.set_cons_succ]
  refine wpAnyH_take (i := 8) (oi := ⟨some 52, _, _, _, _, _⟩) (v := ?_) rfl (by kernel_rfl) (by kernel_rfl) (by kernel_rfl) (fun _ _ _ h => h) (Or.inl ⟨by kernel_rfl, ?_⟩) (by assumption) ?_
  rotate_left 1
  · intro w' hw'; obtain ⟨x, hx⟩ := hw'; have u1 := hx.bx.cell 1 _ rfl; clear hx; go_simp; try with_reducible rfl
  try simp only [Act.put, List.setIfInBounds_toArray, List.set_cons_zero, List.set_cons_succ]
  refine wpAnyH_ready (rs := [9]) (by kernel_rfl) (by simp) (AllReadyH.cons (o := ⟨some 53, .call _, _, _, _, _⟩) rfl (fun K hK => ?_) AllReadyH.nil)
  go_simp
  refine (show Calls _ _ #[.pointer (some ⟨pd, 0, none⟩), .int .i64 49, .int .i64 16, .int .u32 (I32 e1)] _ _ from HLG.out _ (HD4.out.grow (below_drew w4))).mono ?_
  rintro ev w5 ⟨rfl, hlg5, hb5⟩
  have hs5 := (HS4.out.below (below_drew w4)).below hb5
  refine hK.out _ _ ⟨lv, hs5⟩ (fun _ => ?_)
  have c2 : w5.cell? ⟨ps, 2, none⟩ = some lv := hs5.bx.cell 2 _ rfl
  have f2 := hs5.bx.free 2
  have HS5 := Lib.hid hs5
  have HL5 := Lib.hid hlg5
  have HB5 := Lib.hid (show Below w4.heap.size w4 w5 from below_trans (below_drew w4) hb5)
  clear hK K hs5 hlg5 hb5 hHeld HLG
  try simp only [Act.put, List.setIfInBounds_toArray, List.set_cons_zero, List.set_cons_succ]
  refine wpAnyH_take (i := 10) (oi := ⟨some 43, _, _, _, _, _⟩) (v := ?_) rfl (by kernel_rfl) (by kernel_rfl) (by kernel_rfl) (fun _ _ _ h => h) (Or.inl ⟨by kernel_rfl, ?_⟩) (by assumption) ?_
  rotate_left 1
  · intro w' hw'; clear hw'; go_simp; try with_reducible rfl
  try simp only [Act.put, List.setIfInBounds_toArray, List.set_cons_zero, List.set_cons_succ]
  refine wpAnyH_take (i := 11) (oi := ⟨some 54, _, _, _, _, _⟩) (v := ?_) rfl (by kernel_rfl) (by kernel_rfl) (by kernel_rfl) (fun _ _ _ h => h) (Or.inl ⟨by kernel_rfl, ?_⟩) (by assumption) ?_
  rotate_left 1
  · intro w' hw'; clear hw'; go_simp; try with_reducible rfl
  try simp only [Act.put, List.setIfInBounds_toArray, List.set_cons_zero, List.set_cons_succ]
  refine wpAnyH_take (i := 12) (oi := ⟨some 55, _, _, _, _, _⟩) (v := ?_) rfl (by kernel_rfl) (by kernel_rfl) (by kernel_rfl) (fun _ _ _ h => h) (Or.inl ⟨by kernel_rfl, ?_⟩) (by assumption) ?_
  rotate_left 1
  · intro w' hw'; clear hw'; go_simp; try with_reducible rfl
  try simp only [Act.put, List.setIfInBounds_toArray, List.set_cons_zero, List.set_cons_succ]
  refine wpAnyH_take (i := 13) (oi := ⟨some 56, _, _, _, _, _⟩) (v := ?_) rfl (by kernel_rfl) (by kernel_rfl) (by kernel_rfl) (fun _ _ _ h => h) (Or.inl ⟨by kernel_rfl, ?_⟩) (by assumption) ?_
  rotate_left 1
  · intro w' hw'; clear hw'; go_simp; try with_reducible rfl
  try simp only [Act.put, List.setIfInBounds_toArray, List.set_cons_zero, List.set_cons_succ]
  refine wpAnyH_take (i := 14) (oi := ⟨some 57, _, _, _, _, _⟩) (v := ?_) rfl (by kernel_rfl) (by kernel_rfl) (by kernel_rfl) (fun _ _ _ h => h) (Or.inl ⟨by kernel_rfl, ?_⟩) (by assumption) ?_
  rotate_left 1
  · intro w' hw'; clear hw'; go_simp; try with_reducible rfl
  try simp only [Act.put, List.setIfInBounds_toArray, List.set_cons_zero, List.set_cons_succ]
  refine wpAnyH_ready (rs := [15]) (by kernel_rfl) (by simp) (AllReadyH.cons (o := ⟨none, .store _ _ _, _, _, _, _⟩) rfl (fun K hK => ?_) AllReadyH.nil)
  go_simp
  refine hK.out _ _ ⟨_, HS5.out.set2 (.pointer (some ⟨w4.drew.heap.size, 0, none⟩))⟩ (fun _ => ?_)
  clear hK K c2 f2
  try simp only [Act.put, List.setIfInBounds_toArray, List.set_cons_zero, List.set_cons_succ]
  refine wpAnyH_take (i := 16) (oi := ⟨some 6, _, _, _, _, _⟩) (v := ?_) rfl (by kernel_rfl) (by kernel_rfl) (by kernel_rfl) (fun _ _ _ h => h) (Or.inl ⟨by kernel_rfl, ?_⟩) (by assumption) ?_
  rotate_left 1
  · intro w' hw'; clear hw'; go_simp; try with_reducible rfl
  try simp only [Act.put, List.setIfInBounds_toArray, List.set_cons_zero, List.set_cons_succ]
  refine wpAnyH_done (by kernel_rfl) ?_ _
  have HSZ := Lib.hid (show Below w4.heap.size w4 (w5.setCell ⟨ps, 2, none⟩ (.pointer (some ⟨w4.drew.heap.size, 0, none⟩))) ∨ True from .inr trivial)
  clear HSZ
  have hm6 := Mod.set (fun k => k = ps) w5 ⟨ps, 2, none⟩ (.pointer (some ⟨w4.drew.heap.size, 0, none⟩)) rfl
  have hsz : w4.drew.heap.size = w4.heap.size := rfl
  have hps4 : ps < w4.heap.size := HS4.out.bx.lt
  have hlt4 := HD4.out.lt
  have HLA := Lib.hid (show Laid w ps pd ep lv b F R (w5.setCell ⟨ps, 2, none⟩ (.pointer (some ⟨w4.drew.heap.size, 0, none⟩))) from
    ⟨⟨F', (HD4.out.grow HB5.out).mod hm6 (fun k hk e => HPF.out (by rw [← e]; exact hk)), HG3.out, fun _ => ⟨w4.drew.heap.size, Nat.le_trans HM4.out.size (Nat.le_of_eq hsz.symm), fun hf => by have := hlt4 _ hf; omega, by rw [← HE1.out]; exact HS5.out.set2 _, by rw [← HE1.out]; exact Box.mod HL5.out hm6 (by rw [hsz]; omega)⟩⟩,
     fun h => absurd H0.out h, HM4.out.trans ((Mod.of_below HB5.out).trans (hm6.mono (fun _ h => .inl h)))⟩)
  clear hm6 hsz hps4 hlt4 HS4 HD4 HM4 HS5 HL5 HB5 HG3 HPF HE1
  go_wp2_with fail
  go_ret
  exact ⟨by rw [show errV R.2 = .nilIface from if_pos H0.out]; rfl, HLA.out⟩
end Go.Proofs.YtgcnolapjppbpaaGreatDoor
