/-
  The walk of RecordFrames.
-/
import Derived.Test.YtefegebnohenaaaDoorApartT
import Derived.Test.YtefegebnohenaaaDoorRefRec
import Derived.Test.YtefegebnohenaaaDoorKitB
import Derived.Test.YtefegebnohenaaaDoorAs
namespace Go.Proofs.YtefegebnohenaaaDoor
open Go.RowKit
set_option maxRecDepth 100000

theorem refFrame_calls (v : Value) (e : UInt32) (p : List UInt8) (w : World) (hv : Rd w v p.length (p.map V8)) :
    Calls Tryd.prog 7 #[.int .u32 (e.toNat : Int), v] w fun r w' => (512 < p.length ∧ r = .returned (.tuple #[.slice none 0 0, .int .i64 3]) ∧ w' = w) ∨
      (p.length ≤ 512 ∧ ∃ lv, r = .returned (.tuple #[lv, .int .i64 0]) ∧ w'.ownsRow w.heap.size 9 1 lv (frameM e p).length ((frameM e p).map SV) ∧ Below w.heap.size w w') := by
  obtain ⟨va, vc, rfl⟩ : ∃ a c, v = .slice a p.length c := by obtain ⟨a, c, h, _⟩ := hv; exact ⟨a, c, h⟩
  by_cases h512 : 512 < p.length
  · have h : (512 : Int) < (p.length : Int) := by omega
    go_enter Tryd.func7, Tryd.ntmps7
    go_wp2_with fail
    go_ret2
    exact .inl ⟨h512, rfl, rfl⟩
  · have h : decide ((512 : Int) < (p.length : Int)) = false := by simp; omega
    have Hb := Lib.hid (refBlocks_calls (.slice va p.length vc) e p w hv (by omega))
    clear hv
    go_enter Tryd.func7, Tryd.ntmps7
    go_wp2_with fail
    refine Hb.out.mono ?_
    rintro r w1 ⟨lv, rfl, ho, hb⟩
    have HN := Lib.hid (And.intro ho hb)
    clear ho hb
    go_wp2_with fail
    go_ret2
    exact .inr ⟨by omega, lv, rfl, HN.out⟩
/-- Two lists that were handed out. -/
theorem turn_two {w : World} {B n : Nat} {av bv lsv : Value} {xs ys : List Value} (ha : w.ownsRow B 9 1 av n xs) (hb : w.ownsRow B 9 1 bv n ys) (hab : Apart av bv) (hl : Rd w lsv 2 [av, bv]) (h1 : Apart lsv av) (h2 : Apart lsv bv) :
    Turn1 ⟨2, fun j => if j = 0 then av else bv, fun _ => n, B, 9⟩ mkT lsv w 0 0 w := by
  refine ⟨⟨fun j => if j = 0 then xs else ys, fun j hj => ?_, fun j hj => by omega, fun _ => rfl⟩, fun j j' hj hj' hne => ?_, hl, fun j hj => ?_, Mod.refl _ _⟩
  · by_cases h0 : j = 0
    · subst h0; exact ha
    · simp only [if_neg h0]; exact hb
  · by_cases h0 : j = 0
    · subst h0
      simp only [if_true, if_neg (show ¬ j' = 0 by omega)]; exact hab
    · by_cases h0' : j' = 0
      · subst h0'
        simp only [if_true, if_neg h0]; exact hab.symm
      · have hj : j < 2 := hj
        have hj' : j' < 2 := hj'
        omega
  · by_cases h0 : j = 0
    · subst h0; exact h1
    · simp only [if_neg h0]; exact h2
theorem apart_two (w : World) (B n : Nat) (av bv lsv : Value) (xs ys : List Value) (ha : w.ownsRow B 9 1 av n xs) (hb : w.ownsRow B 9 1 bv n ys) (hab : Apart av bv) (hl : Rd w lsv 2 [av, bv]) (h1 : Apart lsv av) (h2 : Apart lsv bv) (hn : n ≤ 10) (hlt : ∀ b, lsv.ownBlock = some b → b < w.heap.size) (hB : B ≤ w.heap.size) :
    Calls Tryd.prog 10 #[lsv] w fun e w' => e = .returned (.bool true) ∧ Mod (fun b => B ≤ b) w w' :=
  apartT_calls ⟨2, fun j => if j = 0 then av else bv, fun _ => n, B, 9⟩ lsv w rfl (turn_two ha hb hab hl h1 h2) (show 2 ≤ _ by omega) (fun _ _ => show n ≤ _ by omega) hlt hB
theorem rd_two (w : World) (u v : Value) (t : TypeId) : Rd (w.alloc (.cells #[u, v] t)) (.slice (some ⟨w.heap.size, 0, none⟩) 2 2) 2 [u, v] := by
  refine ⟨_, 2, rfl, Nat.le_refl _, by omega, (fun h => by cases h), fun j hj => ⟨w.heap.size, 0, rfl, ?_⟩⟩
  have hj : j < 2 := hj
  rw [Nat.zero_add]
  refine (Box.new w #[u, v] t).cell j _ ?_
  match j, hj with
  | 0, _ => rfl
  | 1, _ => rfl
set_option maxHeartbeats 1600000 in
theorem recordFrames_calls (e : UInt32) (v : Value) (p : List UInt8) (W : World) (hv : Rd W v p.length (p.map V8)) (hn : p.length ≤ 140737488355000) (hg : ErrType W) :
    Calls Tryd.prog 3 #[.int .u32 (e.toNat : Int), v] W fun r w' => r = .returned (.bool true) ∧ Below W.heap.size W w' := by
  obtain ⟨va, vc, rfl⟩ : ∃ a c, v = .slice a p.length c := by obtain ⟨a, c, h, _⟩ := hv; exact ⟨a, c, h⟩
  have HV := Lib.hid hv
  have HG := Lib.hid hg
  have Hn := Lib.hid hn
  clear hv hg
  go_enter Tryd.func3, Tryd.ntmps3
  go_wp2_with fail
  refine (lentB_calls _ p _ HV.out Hn.out).mono ?_
  rintro r w1 ⟨xv, rfl, hx, hb1⟩
  obtain ⟨xa, xc, rfl⟩ : ∃ a c, xv = .slice a p.length c := by obtain ⟨a, c, h, _⟩ := hx.rd; exact ⟨a, c, h⟩
  have HX := Lib.hid hx
  have HB1 := Lib.hid hb1
  clear hx hb1
  go_wp2_with fail
  refine (frame_calls _ e p _ HX.out.rd).mono ?_
  rintro r w2 hr2
  rcases hr2 with ⟨h512, rfl, e2⟩ | ⟨h512, av, rfl, ha2, hb2⟩
  · have e2' := e2.symm
    subst e2'
    have hp3 := fun w' (hb : Below w1.heap.size w1 w') => plain_calls 3 w' (by omega) (by omega) ((HG.out.below HB1.out).below hb)
    unfold errN at hp3
    have Hp3 := Lib.hid hp3
    clear hp3
    go_wp2_with fail
    refine (frame_calls _ e p _ HX.out.rd).mono ?_
    rintro r w3 hr3
    rcases hr3 with ⟨_, rfl, e2⟩ | ⟨h, _⟩
    rotate_left
    · exact absurd h (by omega)
    have e2' := e2.symm
    subst e2'
    go_wp2_with fail
    refine (refFrame_calls _ e p _ (HV.out.below HB1.out)).mono ?_
    rintro r w4 hr4
    rcases hr4 with ⟨_, rfl, e2⟩ | ⟨h, _⟩
    rotate_left
    · exact absurd h (by omega)
    have e2' := e2.symm
    subst e2'
    go_wp2_with fail
    refine (sameTexts_calls _ _ [] _ (Rd.nil _) (Rd.nil _)).mono ?_
    rintro r w5 ⟨rfl, k5, rfl⟩
    go_wp2_with fail
    refine (sameTexts_calls _ _ [] _ (Rd.nil _) (Rd.nil _)).mono ?_
    rintro r w6 ⟨rfl, k6, rfl⟩
    have hb6 : Below w1.heap.size w1 ((w1.drewN k5).drewN k6) := below_trans (below_drewN _ _) (below_drewN _ _)
    obtain ⟨w6, hw6⟩ : ∃ w6, w6 = (w1.drewN k5).drewN k6 := ⟨_, rfl⟩
    rw [← hw6] at hb6 ⊢
    have HB6 := Lib.hid hb6
    clear hb6 hw6
    go_wp2_with fail
    refine (Hp3.out _ HB6.out).mono ?_
    rintro r w7 ⟨rfl, hb7⟩
    have HB7 := Lib.hid (below_trans HB6.out hb7)
    clear hb7
    go_wp2_with fail
    refine (Hp3.out _ HB7.out).mono ?_
    rintro r w8 ⟨rfl, hb8⟩
    have hb48 := below_trans HB7.out hb8
    have hba := below_alloc w8 (.cells #[.slice none 0 0, .slice none 0 0] 25)
    have h48a := below_trans hb48 hba
    have HAp := Lib.hid (apart_two (w8.alloc (.cells #[.slice none 0 0, .slice none 0 0] 25)) w1.heap.size 0 (.slice none 0 0) (.slice none 0 0) (.slice (some ⟨w8.heap.size, 0, none⟩) 2 2) [] []
      (World.ownsRow_nil _ _ _ _) (World.ownsRow_nil _ _ _ _) (nil_apart _) (rd_two _ _ _ _) (apart_nil _) (apart_nil _) (by omega)
      (fun k h1 => by simp [Value.ownBlock] at h1; simp; omega) h48a.size)
    have HBa := Lib.hid h48a
    clear hb48 hba h48a hb8
    go_wp2_with fail
    refine HAp.out.mono ?_
    rintro r w9 ⟨rfl, hm9⟩
    have hx9 : LentB w9 W.heap.size (.slice xa p.length xc) p := by
      have h1 := HX.out.below HBa.out
      obtain ⟨g, cap, e1, h2⟩ := h1
      obtain ⟨g0, cap0, e0, h0⟩ := HX.out
      rw [e1] at e0
      injection e0 with e0 _ e2
      injection e0 with e0
      injection e0 with e0
      subst e0; subst e2
      refine ⟨g, cap, e1, own_mod h2 hm9 (fun k hk h3 => ?_)⟩
      have := (h0.lt k hk).2
      omega
    have hs1 := HB1.out.size
    have hs2 := HBa.out.size
    have hbW9 : Below W.heap.size W w9 := (HB1.out.trans (HBa.out.mono hs1)).trans (hm9.below (by omega) (fun k hk => by omega))
    have hkp := keptB_calls _ _ _ p w9 hx9 (HV.out.below hbW9) Hn.out
    have Hkp := Lib.hid hkp
    have HBW := Lib.hid hbW9
    clear hm9 hx9 hbW9 hkp hs1 hs2
    go_wp2_with fail
    refine Hkp.out.mono ?_
    rintro r w10 ⟨rfl, rfl⟩
    go_wp2_with fail
    go_ret
    exact ⟨rfl, HBW.out⟩
  · obtain ⟨F, hF⟩ : ∃ F, F = frameM e p := ⟨_, rfl⟩
    have hF4 : F.length ≤ 4 := by
      rw [hF]; unfold frameM
      have : ∀ f q, (restM f q).length ≤ f := by
        intro f
        induction f with
        | zero => intro q; simp [restM]
        | succ f ih => intro q; rw [restM]; split
                       · simp
                       · have := ih (q.drop 255); simp only [List.length_cons]; omega
      have := this 3 (p.drop 245)
      simp only [List.length_cons]; omega
    rw [← hF] at ha2
    obtain ⟨aa, ac, rfl, _⟩ := own_slice ha2
    have HF := Lib.hid hF
    have HA2 := Lib.hid ha2
    have HB2 := Lib.hid hb2
    clear hF ha2 hb2
    go_wp2_with fail
    refine (frame_calls _ e p _ (HX.out.below HB2.out).rd).mono ?_
    rintro r w3 hr3
    rcases hr3 with ⟨h, _⟩ | ⟨_, bv, rfl, hb3o, hb3⟩
    · exact absurd h (by omega)
    rw [← HF.out] at hb3o
    obtain ⟨ba, bc, rfl, _⟩ := own_slice hb3o
    have HA3 := Lib.hid (own_below HA2.out hb3)
    have HBo3 := Lib.hid hb3o
    have Hap := Lib.hid (show Apart (.slice aa F.length ac) (.slice ba F.length bc) from fun k h1 h2 => by have := (HA2.out.lt k h1).2; have := (hb3o.lt k h2).1; omega)
    have HB13 := Lib.hid (below_trans HB2.out hb3)
    clear hb3o hb3 HA2
    go_wp2_with fail
    refine (refFrame_calls _ e p _ (HV.out.below (below_trans HB1.out HB13.out))).mono ?_
    rintro r w4 hr4
    rcases hr4 with ⟨h, _⟩ | ⟨_, wv, rfl, hw4, hb4⟩
    · exact absurd h (by omega)
    rw [← HF.out] at hw4
    obtain ⟨wa, wc, rfl, _⟩ := own_slice hw4
    have HA4 := Lib.hid (own_below HA3.out hb4)
    have HBo4 := Lib.hid (own_below HBo3.out hb4)
    have HW4 := Lib.hid (rd_of_own hw4)
    have HB14 := Lib.hid (below_trans HB13.out hb4)
    clear hw4 hb4 HA3 HBo3
    go_wp2_with fail
    refine (sameTexts_calls _ _ F _ (rd_of_own HA4.out) HW4.out).mono ?_
    rintro r w5 ⟨rfl, k5, rfl⟩
    go_wp2_with fail
    refine (sameTexts_calls _ _ F _ ((rd_of_own HBo4.out).below (below_drewN _ _)) (HW4.out.below (below_drewN _ _))).mono ?_
    rintro r w6 ⟨rfl, k6, rfl⟩
    have hb6 : Below w4.heap.size w4 ((w4.drewN k5).drewN k6) := below_trans (below_drewN _ _) (below_drewN _ _)
    obtain ⟨w6, hw6⟩ : ∃ w6, w6 = (w4.drewN k5).drewN k6 := ⟨_, rfl⟩
    rw [← hw6] at hb6 ⊢
    have HB6 := Lib.hid hb6
    clear hb6 hw6
    go_wp2_with fail
    refine (plain_nil _).mono ?_
    rintro r w7 ⟨rfl, hb7⟩
    have HB7 := Lib.hid (below_trans HB6.out hb7)
    clear hb7
    go_wp2_with fail
    refine (plain_nil _).mono ?_
    rintro r w8 ⟨rfl, hb8⟩
    have hb48 := below_trans HB7.out hb8
    have HB48 := Lib.hid hb48
    have hba := below_alloc w8 (.cells #[.slice aa F.length ac, .slice ba F.length bc] 25)
    have h48a := below_trans hb48 hba
    have hs48 := hb48.size
    have hB1s := HB14.out.size
    have HAp := Lib.hid (apart_two (w8.alloc (.cells #[.slice aa F.length ac, .slice ba F.length bc] 25)) w1.heap.size F.length (.slice aa F.length ac) (.slice ba F.length bc) (.slice (some ⟨w8.heap.size, 0, none⟩) 2 2) (F.map SV) (F.map SV)
      (own_below HA4.out h48a) (own_base (own_below HBo4.out h48a) HB2.out.size) Hap.out (rd_two _ _ _ _)
      (fun k h1 h2 => by have := (HA4.out.lt k h2).2; simp [Value.ownBlock] at h1; omega) (fun k h1 h2 => by have := (HBo4.out.lt k h2).2; simp [Value.ownBlock] at h1; omega) (by omega)
      (fun k h1 => by simp [Value.ownBlock] at h1; simp; omega) (by simp; omega))
    have HBa := Lib.hid h48a
    clear hb48 hba h48a hs48 hB1s hb8
    go_wp2_with fail
    refine HAp.out.mono ?_
    rintro r w9 ⟨rfl, hm9⟩
    have hx9 : LentB w9 W.heap.size (.slice xa p.length xc) p := by
      have h1 := (HX.out.below (below_trans HB14.out HBa.out))
      obtain ⟨g, cap, e1, h2⟩ := h1
      obtain ⟨g0, cap0, e0, h0⟩ := HX.out
      rw [e1] at e0
      injection e0 with e0 _ e2
      injection e0 with e0
      injection e0 with e0
      subst e0; subst e2
      refine ⟨g, cap, e1, own_mod h2 hm9 (fun k hk h3 => ?_)⟩
      have := (h0.lt k hk).2
      omega
    have hs1 := HB1.out.size
    have hs2 := (below_trans HB14.out HBa.out).size
    have hbW9 : Below W.heap.size W w9 := ((HB1.out.trans ((below_trans HB14.out HBa.out).mono hs1))).trans (hm9.below (by omega) (fun k hk => by omega))
    have hkp := keptB_calls _ _ _ p w9 hx9 (HV.out.below hbW9) Hn.out
    have Hkp := Lib.hid hkp
    have HBW := Lib.hid hbW9
    clear hm9 hx9 hbW9 hkp hs1 hs2
    go_wp2_with fail
    refine Hkp.out.mono ?_
    rintro r w10 ⟨rfl, rfl⟩
    go_wp2_with fail
    go_ret
    exact ⟨rfl, HBW.out⟩
end Go.Proofs.YtefegebnohenaaaDoor
