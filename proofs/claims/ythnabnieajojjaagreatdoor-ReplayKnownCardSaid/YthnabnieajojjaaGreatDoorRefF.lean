/-
  The document's Find, fits and born of chapter 24.
-/
import Derived.Test.YthnabnieajojjaaGreatDoorRepR
import Derived.Test.YthnabnieajojjaaGreatDoorRefWi
namespace Go.Proofs.YthnabnieajojjaaGreatDoor
open Go.RowKit
set_option maxRecDepth 100000

theorem findM_app2 (k : Int) : ∀ a b : List SesM, findM k (a ++ b) = (findM k a).or (findM k b)
  | [], b => rfl
  | y :: a, b => by
    show (if y.birth = k then some y else findM k (a ++ b)) = (if y.birth = k then some y else findM k a).or _
    split
    · rfl
    · exact findM_app2 k a b
theorem findM_at {l : List SesM} {i : Nat} {k : Int} (hi : i < l.length) (h : findM k (l.take i) = none) (hk : l[i].birth = k) : findM k l = some l[i] := by
  have e : l = l.take i ++ (l[i] :: l.drop (i + 1)) := by rw [List.getElem_cons_drop, List.take_append_drop]
  have e2 : findM k l = findM k (l.take i ++ (l[i] :: l.drop (i + 1))) := congrArg _ e
  rw [e2, findM_app2, h, Option.none_or]
  simp only [findM]
  rw [if_pos hk]
theorem findM_step {l : List SesM} {i : Nat} {k : Int} (hi : i < l.length) (h : findM k (l.take i) = none) (hk : l[i].birth ≠ k) : findM k (l.take (i + 1)) = none := by
  rw [List.take_succ_eq_append_getElem hi, findM_app2, h, Option.none_or]
  simp only [findM]
  rw [if_neg hk]
theorem findM_mem {k : Int} : ∀ {l : List SesM} {p : SesM}, findM k l = some p → p ∈ l ∧ p.birth = k
  | [], p, h => by cases h
  | x :: l, p, h => by
    unfold findM at h
    split at h
    · rename_i hx
      injection h with h; subst h; exact ⟨by simp, hx⟩
    · obtain ⟨h1, h2⟩ := findM_mem h; exact ⟨by simp [h1], h2⟩
theorem zSes_list : Hid (zSes.cells = zSes.cells.toList.toArray) := Lib.hid rfl
set_option maxHeartbeats 1600000 in
theorem refFind_calls (c b : Int) (v : Value) (l : List SesM) (kk : Int) (w : World) (hv : RdS w v l) :
    Calls Tryz.prog 52 #[.agg #[.int .i64 c, .int .i64 b, v], .int .i64 kk] w fun e w' => e = .returned (.tuple #[.agg ((findM kk l).getD zSes).cells, .bool (findM kk l).isSome]) ∧ Below w.heap.size w w' := by
  obtain ⟨a, cap, rfl, hc1, hc2⟩ := hv.slice
  have hln : l.length ≤ 9223372036854775807 := by omega
  obtain ⟨n, hN⟩ : ∃ n, n = l.length := ⟨_, rfl⟩
  have HB := Lib.hid (below_two w (.cells #[.int .i64 c, .int .i64 b, .slice a n cap] 25) (.cells #[.int .i64 0, .int .i64 0, .int .i64 0, .int .i64 0, .int .i64 0, .string ⟨#[]⟩, .string ⟨#[]⟩, .int .u64 0, .int .i64 0, .int .i64 0, .int .i64 0, .int .i64 0] 36))
  have HX0 := Lib.hid ((Box.new w #[.int .i64 c, .int .i64 b, .slice a n cap] 25).below (below_alloc _ (.cells #[.int .i64 0, .int .i64 0, .int .i64 0, .int .i64 0, .int .i64 0, .string ⟨#[]⟩, .string ⟨#[]⟩, .int .u64 0, .int .i64 0, .int .i64 0, .int .i64 0, .int .i64 0] 36)))
  have hz := Box.new (w.alloc (.cells #[.int .i64 c, .int .i64 b, .slice a n cap] 25)) zSes.cells 36
  rw [World.size_alloc, show zSes.cells = #[.int .i64 0, .int .i64 0, .int .i64 0, .int .i64 0, .int .i64 0, .string ⟨#[]⟩, .string ⟨#[]⟩, .int .u64 0, .int .i64 0, .int .i64 0, .int .i64 0, .int .i64 0] from rfl] at hz
  have HZ := Lib.hid hz
  rw [← hN] at hln hv hc1 ⊢
  have HN := Lib.hid hN
  have HV := Lib.hid (hv.below HB.out)
  clear hv hc1 hN hz
  go_enter Tryz.func52, Tryz.ntmps52
  go_wp2_with fail
  generalize hw1 : World.alloc _ _ = w1 at HB HX0 HZ HV ⊢
  clear hw1
  obtain ⟨p, hp⟩ : ∃ p, p = w.heap.size := ⟨_, rfl⟩
  rw [← hp] at HX0 HZ ⊢
  have HP := Lib.hid hp
  clear hp
  go_loopg [6] n (fun gk iv wr => ∃ k : Nat, gk + k = n ∧ iv = .int .i64 (k : Int) ∧ wr = w1 ∧ Hid (findM kk (l.take k) = none))
  case atStart => exact ⟨0, rfl, rfl, rfl, Lib.hid rfl⟩
  case round =>
    obtain ⟨k, hgk, rfl, rfl, HT⟩ := hrel
    have k0 : (0 : Int) ≤ (k : Int) := by omega
    have HGK := Lib.hid hgk
    have c2 : wr.cell? ⟨p, 2, none⟩ = some (.slice a n cap) := HX0.out.cell 2 _ rfl
    clear hgk
    by_cases hk : k < n
    · have k1 : (k : Int) < (n : Int) := by omega
      have hkl : k < l.length := by have := HN.out; omega
      obtain ⟨s, hs⟩ : ∃ s, s = l[k] := ⟨_, rfl⟩
      obtain ⟨rb, ro, hra, hrow⟩ := HV.out.row k hkl
      subst hra
      rw [← hs] at hrow
      have HROW := Lib.hid hrow
      have r1 : wr.cell? ⟨rb, ro + k * 12 + 1, none⟩ = some (.int .i64 s.birth) := hrow 1 _ rfl
      have HK := Lib.hid hk
      clear hrow hk
      cases e1 : (s.birth == kk)
      · have HT2 := Lib.hid (findM_step hkl HT.out (fun e => by rw [← hs] at e; rw [e] at e1; simp at e1))
        clear HT hs hkl
        go_wp2_with fail
        go_roundg (n - (k + 1))
        case measure => have := HGK.out; have := HK.out; omega
        case rel => exact ⟨k + 1, by have := HGK.out; have := HK.out; omega, by go_num, rfl, HT2⟩
      · have HF := Lib.hid (show findM kk l = some s by rw [hs]; exact findM_at hkl HT.out (by rw [← hs]; exact beq_iff_eq.1 e1))
        obtain ⟨hset, hth⟩ := (show Box wr (p + 1) zSes.cells 36 from HZ.out).setAllS rfl s
        have HSE := Lib.hid hset
        have HTH := Lib.hid hth
        clear HT hs hkl hset hth
        go_wp2_with ((with_reducible refine wpList_load_k ?L1a 36 (.tmp 25) ?L1b (rb) (ro + k * 12) ?L1c s.cells.toList _ HROW.out Tryz.underlying36 ?L1d ?L1e ?L1f); (case L1b => rfl); (case L1a => rfl); (case L1c => rfl); (case L1d => rfl); (case L1e => kernel_rfl))
        intro cv hcv
        go_wp2_with ((with_reducible refine wpList_store_k ?S2a 36 (.tmp 4) (.tmp 26) ?S2b (p + 1) 0 s.cells.toList ?S2c cv ?S2d hcv ?S2e ?S2f ?S2g ?S2h); (case S2b => rfl); (case S2a => rfl); (case S2c => rfl); (case S2d => rfl); (case S2e => exact HTH.out); (case S2f => kernel_rfl); (case S2g => exact SesM.oneS _))
        intro w2 hw2
        rw [← hw2.out] at HSE
        have HB2 := Lib.hid (show Below w.heap.size w w2 by
          rw [hw2.out]
          generalize s.cells.toList = L
          exact HB.out.trans ((Mod.setCells (fun q => q = p + 1) (p + 1) rfl L 0 wr).below HB.out.size (fun i hi => by have := HP.out; omega)))
        clear hw2 hcv HTH HB HX0 HZ HV HROW r1 c2 e1
        go_wp2_with fail
        exact ret_cell_tmp rfl rfl (p + 1) 0 rfl s.cells.toList _ (Box.rangeS HSE.out) Tryz.underlying36 rfl (by kernel_rfl) _ rfl ⟨by rw [HF.out]; rfl, HB2.out⟩
    · have k1 : ¬ (k : Int) < (n : Int) := by omega
      have HF := Lib.hid (show findM kk l = none by
        have h := HT.out
        rwa [List.take_of_length_le (by have := HN.out; omega)] at h)
      obtain ⟨hset, hth⟩ := (show Box wr (p + 1) zSes.cells 36 from HZ.out).setAllS rfl zSes
      have HSE := Lib.hid hset
      have HTH := Lib.hid hth
      clear HT hk hset hth
      go_wp2_with ((with_reducible refine wpList_store_k ?S3a 36 (.tmp 4) (.tmp 27) ?S3b (p + 1) 0 zSes.cells.toList ?S3c zSes.cells ?S3d zSes_list ?S3e ?S3f ?S3g ?S3h); (case S3b => rfl); (case S3a => rfl); (case S3c => rfl); (case S3d => rfl); (case S3e => exact HTH.out); (case S3f => kernel_rfl); (case S3g => exact SesM.oneS _))
      intro w2 hw2
      rw [← hw2.out] at HSE
      have HB2 := Lib.hid (show Below w.heap.size w w2 by
        rw [hw2.out]
        generalize zSes.cells.toList = L
        exact HB.out.trans ((Mod.setCells (fun q => q = p + 1) (p + 1) rfl L 0 wr).below HB.out.size (fun i hi => by have := HP.out; omega)))
      clear hw2 HTH HB HX0 HZ HV c2
      go_wp2_with fail
      exact ret_cell_tmp rfl rfl (p + 1) 0 rfl zSes.cells.toList _ (Box.rangeS HSE.out) Tryz.underlying36 rfl (by kernel_rfl) _ rfl ⟨by rw [HF.out]; rfl, HB2.out⟩
set_option maxHeartbeats 3200000 in
theorem refFits_calls (s p : SesM) (w : World) (hk : s.kind = 1 ∨ s.kind = 2) (hsc : s.scopes < 2 ^ 64) (hpc : p.scopes < 2 ^ 64) :
    Calls Tryz.prog 67 #[.agg s.cells, .agg p.cells] w fun e w' => e = .returned (.bool (fitsM s p)) ∧ Below w.heap.size w w' := by
  have HB := Lib.hid (fun o o2 => below_two w o o2)
  obtain ⟨D, hD⟩ : ∃ D, IntKind.i64.wrap (p.depth + 1) = D := ⟨_, rfl⟩
  obtain ⟨lv, hlv⟩ : ∃ lv, lv = (if s.kind = 2 then decide (p.level < s.level) else s.level == p.level) := ⟨_, rfl⟩
  have HFT := Lib.hid (show fitsM s p = ((s.depth == D) && ((s.user == p.user) && (scIn s.scopes p.scopes && (decide (s.deadline ≤ p.deadline) && lv)))) by unfold fitsM; rw [hD, hlv])
  have HWI := Lib.hid (fun w => refWithin_calls s.scopes p.scopes w hsc hpc)
  have HLV := Lib.hid hlv
  have HKK := Lib.hid hk
  clear hlv hk hsc hpc
  generalize fitsM s p = ft at HFT ⊢
  have HSC := Lib.hid s.cellsE
  have HPC := Lib.hid p.cellsE
  rw [HSC.out, HPC.out]
  clear HSC HPC
  go_enter Tryz.func67, Tryz.ntmps67
  cases h2 : (s.depth == D)
  · have h2' : (s.depth != D) = true := by rw [bne, h2]; rfl
    go_wp2_with fail
    go_ret
    exact ⟨by rw [HFT.out, h2]; rfl, HB.out _ _⟩
  have h2' : (s.depth != D) = false := by rw [bne, h2]; rfl
  cases h3 : (s.user == p.user)
  · have h3' : ((SB s.user).toList == (SB p.user).toList) = false := by rw [SB_toList, SB_toList]; exact h3
    have h3'' : ((SB s.user).toList != (SB p.user).toList) = true := by rw [bne, h3']; rfl
    go_wp2_with fail
    go_ret
    exact ⟨by rw [HFT.out, h2, h3]; rfl, HB.out _ _⟩
  have h3' : ((SB s.user).toList == (SB p.user).toList) = true := by rw [SB_toList, SB_toList]; exact h3
  have h3'' : ((SB s.user).toList != (SB p.user).toList) = false := by rw [bne, h3']; rfl
  go_wp2_with fail
  refine (HWI.out _).mono ?_
  rintro e w4 ⟨rfl, rfl⟩
  have H23 := Lib.hid (And.intro h2 h3)
  clear h2 h3 HWI
  generalize scIn s.scopes p.scopes = sc at HFT ⊢
  cases sc
  · go_wp2_with fail
    go_ret
    exact ⟨by rw [HFT.out, H23.out.1, H23.out.2]; rfl, HB.out _ _⟩
  by_cases h4 : s.deadline ≤ p.deadline
  rotate_left
  · have n4 : p.deadline < s.deadline := by omega
    have H4 := Lib.hid (decide_eq_false h4)
    clear h4
    go_wp2_with fail
    go_ret
    exact ⟨by rw [HFT.out, H23.out.1, H23.out.2, H4.out]; rfl, HB.out _ _⟩
  have n4 : ¬ p.deadline < s.deadline := by omega
  have H4 := Lib.hid (decide_eq_true h4)
  clear h4
  cases hk1 : (s.kind == 1)
  rotate_left
  · have hk2 : (s.kind == 2) = false := by rw [beq_iff_eq.1 hk1]; rfl
    cases hle : (s.level == p.level)
    · have HL := Lib.hid (show lv = false by rw [HLV.out, if_neg (by rw [beq_iff_eq.1 hk1]; decide)]; exact hle)
      go_wp2_with fail
      go_ret
      exact ⟨by rw [HFT.out, H23.out.1, H23.out.2, H4.out, HL.out]; rfl, HB.out _ _⟩
    · have HL := Lib.hid (show lv = true by rw [HLV.out, if_neg (by rw [beq_iff_eq.1 hk1]; decide)]; exact hle)
      go_wp2_with fail
      go_ret
      exact ⟨by rw [HFT.out, H23.out.1, H23.out.2, H4.out, HL.out]; rfl, HB.out _ _⟩
  have hk2 : (s.kind == 2) = true := by
    rcases HKK.out with e | e
    · rw [e] at hk1; cases hk1
    · rw [e]; rfl
  by_cases hlt : p.level < s.level
  · have HL := Lib.hid (show lv = true by rw [HLV.out, if_pos (beq_iff_eq.1 hk2)]; exact decide_eq_true hlt)
    have HDD := Lib.hid (decide_eq_true hlt)
    go_wp2_with fail
    go_ret
    exact ⟨by rw [HFT.out, H23.out.1, H23.out.2, H4.out, HL.out]; first | rfl | (show Ending.returned (Value.bool (decide (p.level < s.level))) = _; rw [HDD.out]; rfl), HB.out _ _⟩
  · have HL := Lib.hid (show lv = false by rw [HLV.out, if_pos (beq_iff_eq.1 hk2)]; exact decide_eq_false hlt)
    have HDD := Lib.hid (decide_eq_false hlt)
    go_wp2_with fail
    go_ret
    exact ⟨by rw [HFT.out, H23.out.1, H23.out.2, H4.out, HL.out]; first | rfl | (show Ending.returned (Value.bool (decide (p.level < s.level))) = _; rw [HDD.out]; rfl), HB.out _ _⟩
theorem mayS_kind {s : SesM} (h : mayS s = true) (hu : s.upB ≠ 0) : s.kind = 1 ∨ s.kind = 2 := by
  unfold mayS at h
  simp only [Bool.and_eq_true] at h
  obtain ⟨h1, h2, h3, h4, h5, h6, h7⟩ := h
  split at h7
  · unfold loginM at h7
    simp only [Bool.and_eq_true, beq_iff_eq] at h7
    exact absurd h7.2.1 hu
  split at h7
  · rename_i hk; left; simpa using hk
  split at h7
  · rename_i hk; right; simpa using hk
  · cases h7
set_option maxHeartbeats 6400000 in
theorem refBorn24_calls (st : StM) (s : SesM) (v : Value) (w : World) (hv : RdS w v st.l) (hs : mayS s = true) (hsc : s.scopes < 2 ^ 64) (ho : ∀ x ∈ st.l, x.scopes < 2 ^ 64) :
    Calls Tryz.prog 50 #[.agg #[.int .i64 st.clock, .int .i64 st.births, v], .agg s.cells] w fun e w' => e = .returned (.int .i64 (refM st s)) ∧ Below w.heap.size w w' := by
  obtain ⟨E, hE⟩ : ∃ E, E = refM st s := ⟨_, rfl⟩
  rw [← hE]
  unfold refM at hE
  obtain ⟨c, b, l⟩ := st
  simp only at hv hE ho ⊢
  have HKD := Lib.hid (fun hu => mayS_kind hs hu)
  have HSS := Lib.hid hsc
  have HOS := Lib.hid ho
  obtain ⟨a, cap, rfl, hc1, hc2⟩ := hv.slice
  have hln : l.length ≤ 9223372036854775807 := by omega
  have HFI := Lib.hid (fun w' hb => refFind_calls c b (.slice a l.length cap) l s.upB w' (hv.below hb))
  obtain ⟨n, hN⟩ : ∃ n, n = l.length := ⟨_, rfl⟩
  rw [← hN] at hln hv hc1 hE HFI ⊢
  have HN := Lib.hid hN
  obtain ⟨W, hW⟩ : ∃ W, IntKind.i64.wrap (b + 1) = W := ⟨_, rfl⟩
  rw [hW] at hE
  have HE := Lib.hid hE
  have HB := Lib.hid (below_two w (.cells #[.int .i64 c, .int .i64 b, .slice a n cap] 25) (.cells s.cells 36))
  have HX0 := Lib.hid ((Box.new w #[.int .i64 c, .int .i64 b, .slice a n cap] 25).below (below_alloc _ (.cells s.cells 36)))
  have hx1 := Box.new (w.alloc (.cells #[.int .i64 c, .int .i64 b, .slice a n cap] 25)) s.cells 36
  rw [World.size_alloc] at hx1
  have HX1 := Lib.hid hx1
  have HV := Lib.hid (hv.below HB.out)
  clear hv hc1 hN hE hx1 hs hsc ho
  rw [s.cellsE]
  rw [show ((w.alloc (.cells #[.int .i64 c, .int .i64 b, .slice a n cap] 25)).alloc (.cells s.cells 36)) = ((w.alloc (.cells #[.int .i64 c, .int .i64 b, .slice a n cap] 25)).alloc (.cells #[.int .i64 s.slot, .int .i64 s.birth, .int .i64 s.upS, .int .i64 s.upB, .int .i64 s.kind, .string (SB s.user), .string (SB s.label), .int .u64 (s.scopes : Int), .int .i64 s.level, .int .i64 s.born, .int .i64 s.deadline, .int .i64 s.depth] 36)) from rfl] at HB HX0 HX1 HV
  go_enter Tryz.func50, Tryz.ntmps50
  by_cases h1 : s.birth = W
  rotate_left
  · have H1 := Lib.hid h1
    have n1 : (s.birth != W) = true := by rw [bne_iff_ne]; exact h1
    clear h1
    go_wp2_with fail
    go_ret
    exact ⟨by rw [HE.out, if_neg H1.out]; rfl, HB.out⟩
  have n1 : (s.birth != W) = false := by rw [bne_eq_false_iff_eq]; exact h1
  have HE1 := Lib.hid (HE.out.trans (if_pos h1))
  clear h1 HE
  by_cases h2 : s.born = c
  rotate_left
  · have H2 := Lib.hid h2
    have n2 : (s.born != c) = true := by rw [bne_iff_ne]; exact h2
    clear h2
    go_wp2_with fail
    go_ret
    exact ⟨by rw [HE1.out, if_neg H2.out]; rfl, HB.out⟩
  have n2 : (s.born != c) = false := by rw [bne_eq_false_iff_eq]; exact h2
  have HE2 := Lib.hid (HE1.out.trans (if_pos h2))
  clear h2 HE1
  by_cases h3 : 32 ≤ n
  · have H3 := Lib.hid h3
    have n3 : (32 : Int) ≤ (n : Int) := by omega
    clear h3
    go_wp2_with fail
    go_ret
    exact ⟨by rw [HE2.out, if_pos H3.out]; rfl, HB.out⟩
  have n3 : ¬ (32 : Int) ≤ (n : Int) := by omega
  have HE3 := Lib.hid (HE2.out.trans (if_neg h3))
  clear h3 HE2
  go_wp2_with fail
  clear n1 n2 n3 hW
  generalize hw1 : World.alloc _ _ = w1 at HB HX0 HX1 HV ⊢
  clear hw1
  obtain ⟨p, hp⟩ : ∃ p, p = w.heap.size := ⟨_, rfl⟩
  rw [← hp] at HX0 HX1 ⊢
  have HP := Lib.hid hp
  clear hp
  go_loopg [5] n (fun gk iv wr => ∃ k : Nat, gk + k = n ∧ iv = .int .i64 (k : Int) ∧ Below w1.heap.size w1 wr ∧ Hid ((l.take k).any (fun y => y.slot == s.slot) = false))
  case atStart => exact ⟨0, rfl, rfl, Below.refl _ _, Lib.hid rfl⟩
  case round =>
    obtain ⟨k, hgk, rfl, hbl, HAN⟩ := hrel
    have k0 : (0 : Int) ≤ (k : Int) := by omega
    have HGK := Lib.hid hgk
    have HBL := Lib.hid hbl
    have c2 : wr.cell? ⟨p, 2, none⟩ = some (.slice a n cap) := (HX0.out.below hbl).cell 2 _ rfl
    clear hgk hbl
    by_cases hk : k < n
    · have k1 : (k : Int) < (n : Int) := by omega
      have hkl : k < l.length := by have := HN.out; omega
      obtain ⟨x, hx⟩ : ∃ x, x = l[k] := ⟨_, rfl⟩
      obtain ⟨rb, ro, hra, hrow⟩ := (HV.out.below HBL.out).row k hkl
      subst hra
      rw [← hx] at hrow
      have r0 : wr.cell? ⟨rb, ro + k * 12, none⟩ = some (.int .i64 x.slot) := hrow 0 _ rfl
      have s0 : wr.cell? ⟨p + 1, 0, none⟩ = some (.int .i64 s.slot) := (HX1.out.below HBL.out).cell 0 _ rfl
      have HST := Lib.hid (any_slot (s := s) hkl hx)
      have HSA := Lib.hid (show (x.slot == s.slot) = true → l.any (fun y => y.slot == s.slot) = true from fun h => by rw [List.any_eq_true]; exact ⟨x, by rw [hx]; exact List.getElem_mem _, h⟩)
      have HK := Lib.hid hk
      clear hrow hx hk hkl
      go_wp2_with fail
      go_quiet (fail)
      have HB2 := Lib.hid (HBL.out.trans ((below_drewN wr nq).mono HBL.out.size))
      cases hsl : (x.slot == s.slot)
      rotate_left
      · have HT := Lib.hid (HSA.out hsl)
        clear HST HSA r0 s0 c2
        go_wp2_with fail
        go_ret
        exact ⟨by rw [HE3.out, if_pos HT.out]; rfl, HB.out.trans (HB2.out.mono HB.out.size)⟩
      have HA2 := Lib.hid (show (l.take (k + 1)).any (fun y => y.slot == s.slot) = false by rw [HST.out, HAN.out, hsl]; rfl)
      clear HST HSA HAN r0 s0 c2
      go_wp2_with fail
      go_roundg (n - (k + 1))
      case measure => have := HGK.out; have := HK.out; omega
      case rel => exact ⟨k + 1, by have := HGK.out; have := HK.out; omega, by go_num, HB2.out, HA2⟩
    · have k1 : ¬ (k : Int) < (n : Int) := by omega
      have hlt : l.take k = l := List.take_of_length_le (by have := HN.out; omega)
      have HE4 := Lib.hid (show E = upM s l by
        have h := HAN.out
        rw [hlt] at h
        rw [HE3.out, if_neg (by rw [h]; decide)])
      have HX0 := Lib.hid (HX0.out.below HBL.out)
      have HX1 := Lib.hid (HX1.out.below HBL.out)
      have HBW := Lib.hid (HB.out.trans (HBL.out.mono HB.out.size))
      have s3 : wr.cell? ⟨p + 1, 3, none⟩ = some (.int .i64 s.upB) := HX1.out.cell 3 _ rfl
      have c0 : wr.cell? ⟨p, 0, none⟩ = some (.int .i64 c) := HX0.out.cell 0 _ rfl
      have c1 : wr.cell? ⟨p, 1, none⟩ = some (.int .i64 b) := HX0.out.cell 1 _ rfl
      clear hk hlt HAN HE3 HGK HB HBL
      cases h0 : (s.upB == 0)
      rotate_left
      · have H0 := Lib.hid (show s.upB = 0 from beq_iff_eq.1 h0)
        go_wp2_with fail
        go_ret
        exact ⟨by rw [HE4.out]; unfold upM; rw [if_pos H0.out]; rfl, HBW.out⟩
      have HE5 := Lib.hid (show E = (match findM s.upB l with | none => 16 | some p => if p.slot = s.upS then (if fitsM s p = true then 0 else 24) else 16) by
        rw [HE4.out]; unfold upM; rw [if_neg (fun e => by rw [e] at h0; cases h0)]; rfl)
      have HKK := Lib.hid (HKD.out (fun e => by rw [e] at h0; cases h0))
      clear HE4 HKD
      go_wp2_with fail
      refine (HFI.out _ HBW.out).mono ?_
      rintro ev w3 ⟨rfl, hb3⟩
      have HX3 := Lib.hid (HX1.out.below hb3)
      have HBW3 := Lib.hid (HBW.out.trans (hb3.mono HBW.out.size))
      clear hb3 HX0 HX1 HBW s3 c0 c1 c2 h0 HFI
      cases hf : findM s.upB l with
        | none =>
          rw [hf] at HE5
          have HE6 := HE5
          rw [show ((none : Option SesM).getD zSes) = zSes from rfl, show (none : Option SesM).isSome = false from rfl]
          clear hf HE5
          go_wp2_with ((with_reducible refine wpList_store_k ?S4a 36 (.tmp 6) (.tmp 49) ?S4b (w3.heap.size) 0 zSes.cells.toList ?S4c zSes.cells ?S4d (SesM.listS _) ?S4e ?S4f ?S4g ?S4h); (case S4b => rfl); (case S4a => rfl); (case S4c => rfl); (case S4d => rfl); (case S4e => exact thereZ _ _); (case S4f => kernel_rfl); (case S4g => exact SesM.oneS _))
          intro w4 hw4
          obtain ⟨_, hb4⟩ := putZ hw4
          have HBW4 := Lib.hid (HBW3.out.trans (hb4.mono HBW3.out.size))
          clear hw4 hb4 HBW3
          go_wp2_with fail
          go_ret
          exact ⟨by rw [HE6.out]; rfl, HBW4.out⟩
        | some y =>
          rw [hf] at HE5
          have HE6 := Lib.hid (show E = (if y.slot = s.upS then (if fitsM s y = true then 0 else 24) else 16) from HE5.out)
          have HYS := Lib.hid (HOS.out y (findM_mem hf).1)
          rw [show ((some y : Option SesM).getD zSes) = y from rfl, show (some y : Option SesM).isSome = true from rfl]
          clear hf HE5
          go_wp2_with ((with_reducible refine wpList_store_k ?S5a 36 (.tmp 6) (.tmp 49) ?S5b (w3.heap.size) 0 y.cells.toList ?S5c y.cells ?S5d (SesM.listS _) ?S5e ?S5f ?S5g ?S5h); (case S5b => rfl); (case S5a => rfl); (case S5c => rfl); (case S5d => rfl); (case S5e => exact thereZ _ _); (case S5f => kernel_rfl); (case S5g => exact SesM.oneS _))
          intro w4 hw4
          obtain ⟨hpy, hb4⟩ := putZ hw4
          have HX4 := Lib.hid (HX3.out.below hb4)
          have HBW4 := Lib.hid (HBW3.out.trans (hb4.mono HBW3.out.size))
          have y0 : w4.cell? ⟨w3.heap.size, 0, none⟩ = some (.int .i64 y.slot) := hpy.cell 0 _ rfl
          have s2 : w4.cell? ⟨p + 1, 2, none⟩ = some (.int .i64 s.upS) := HX4.out.cell 2 _ rfl
          have HRY := Lib.hid (Box.rangeS hpy)
          have HRS := Lib.hid (Box.rangeS HX4.out)
          clear hw4 hpy hb4 HX3 HBW3
          by_cases h1 : y.slot = s.upS
          rotate_left
          · have H1 := Lib.hid h1
            have n1 : (y.slot != s.upS) = true := by rw [bne_iff_ne]; exact h1
            clear h1
            go_wp2_with fail
            go_ret
            exact ⟨by rw [HE6.out, if_neg H1.out]; rfl, HBW4.out⟩
          have n1 : (y.slot != s.upS) = false := by rw [bne_eq_false_iff_eq]; exact h1
          have HE7 := Lib.hid (HE6.out.trans (if_pos h1))
          have HFT := Lib.hid (fun w => refFits_calls s y w HKK.out HSS.out HYS.out)
          clear h1 HE6
          go_wp2_with ((with_reducible refine wpList_load_k ?L6a 36 (.tmp 3) ?L6b (p + 1) (0) ?L6c s.cells.toList _ HRS.out Tryz.underlying36 ?L6d ?L6e ?L6f); (case L6b => rfl); (case L6a => rfl); (case L6c => rfl); (case L6d => rfl); (case L6e => kernel_rfl))
          intro cv hcv
          have ecv : cv = s.cells := by rw [hcv.out]
          subst ecv
          clear hcv
          go_wp2_with ((with_reducible refine wpList_load_k ?L7a 36 (.tmp 6) ?L7b (w3.heap.size) (0) ?L7c y.cells.toList _ HRY.out Tryz.underlying36 ?L7d ?L7e ?L7f); (case L7b => rfl); (case L7a => rfl); (case L7c => rfl); (case L7d => rfl); (case L7e => kernel_rfl))
          intro cv hcv
          have ecv : cv = y.cells := by rw [hcv.out]
          subst ecv
          clear hcv
          go_wp2_with fail
          refine (HFT.out _).mono ?_
          rintro ev w5 ⟨rfl, hb5⟩
          have HBW5 := Lib.hid (HBW4.out.trans (hb5.mono HBW4.out.size))
          generalize fitsM s y = ft at HE7 ⊢
          clear hb5 HFT HBW4 y0 s2 HRY HRS HX4
          cases ft
          · go_wp2_with fail
            go_ret
            exact ⟨by rw [HE7.out]; rfl, HBW5.out⟩
          · go_wp2_with fail
            go_ret
            exact ⟨by rw [HE7.out]; rfl, HBW5.out⟩
end Go.Proofs.YthnabnieajojjaaGreatDoor
