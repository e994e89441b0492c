/-
  The walk of RecordTorn.
-/
import Derived.Test.YtefegebnohenaaaDoorRWhole
namespace Go.Proofs.YtefegebnohenaaaDoor
open Go.RowKit

/-- A block of a record that isn't there whole. -/
def tornAt (bf more : List (List UInt8)) (t j : Nat) : List UInt8 := if more.length - t ≤ j then more.getD j [] else bf.getD j []
def tornM (bf more : List (List UInt8)) (t k : Nat) : List (List UInt8) := (List.range k).map (tornAt bf more t)
theorem tornM_length (bf more : List (List UInt8)) (t k : Nat) : (tornM bf more t k).length = k := by simp [tornM]
theorem tornM_succ (bf more : List (List UInt8)) (t k : Nat) : tornM bf more t (k + 1) = tornM bf more t k ++ [tornAt bf more t k] := by simp [tornM, List.range_succ]
theorem torn_none (e : UInt32) (bf more : List (List UInt8)) (t k : Nat) (hk : 0 < k) (ht : t < more.length) (h : ¬ (bf.getD 0 []).take 5 = 104 :: le e.toNat 4) : oneM e (tornM bf more t k) = none := by
  obtain ⟨k, rfl⟩ : ∃ j, k = j + 1 := ⟨k - 1, by omega⟩
  have e1 : tornM bf more t (k + 1) = tornAt bf more t 0 :: ((List.range k).map Nat.succ).map (tornAt bf more t) := by
    unfold tornM; rw [List.range_succ_eq_map]; rfl
  rw [e1]
  apply one_begins
  unfold tornAt
  rw [if_neg (by omega)]; exact h
/-- Between two rounds. -/
structure TornI (e : UInt32) (L bf more : List (List UInt8)) (t : Nat) (W0 : World) (xb : Nat) (k : Nat) (bv ov : Value) (n : Nat) (ys : List Value) (mv : Value) (xs : Array Value) (wr : World) : Prop where
  bl : wr.ownsRow W0.heap.size 9 1 bv (L.length + k) ((L ++ tornM bf more t k).map SV)
  ot : wr.ownsRow W0.heap.size 23 1 ov n ys
  mo : wr.ownsRow W0.heap.size 9 1 mv more.length (more.map SV)
  ap : Apart mv bv
  bx : Box wr xb xs 53
  no : 0 < k → ¬ (bf.getD 0 []).take 5 = 104 :: le e.toNat 4
  lt : xb < W0.heap.size
  below : Below W0.heap.size W0 wr
theorem one_src (w : World) (s : ByteArray) (l : List UInt8) (T : TypeId) (h : s = SB l) : Rd (w.alloc (.cells #[.string s] T)) (.slice (some ⟨w.heap.size, 0, none⟩) 1 1) [l].length ([l].map SV) := by
  rw [h]; exact rd_one_new w l T
theorem TornI.next {e : UInt32} {L bf more : List (List UInt8)} {t : Nat} {W : World} {xb : Nat} {k : Nat} {bv ov : Value} {n : Nat} {ys : List Value} {mv : Value} {xs : Array Value} {wr w9 w' : World} {o : Obj} {v' : Value} {x : List UInt8} (h : TornI e L bf more t W xb k bv ov n ys mv xs wr) (hb9 : Below wr.heap.size wr w9)
    (ho : w'.ownsRow W.heap.size 9 1 v' (L.length + k + 1) (List.map SV L ++ (List.map SV (tornM bf more t k) ++ [SV x]))) (hg : (w9.alloc o).grownBy w' bv.ownBlock) (hm : Moved (w9.alloc o) bv v') (hx : x = tornAt bf more t k) (hno : ¬ (bf.getD 0 []).take 5 = 104 :: le e.toNat 4) :
    TornI e L bf more t W xb (k + 1) v' ov n ys mv xs w' := by
  have hba := below_trans hb9 (below_alloc w9 o)
  have h1 := own_below h.bl hba
  have h2 := own_below h.ot hba
  have h3 := own_below h.mo hba
  have hs := h.below.size
  have hbx := h.bx.below hba
  refine ⟨?_, own_other h2 hg (apart_own h2 h1 (by decide)), own_other h3 hg h.ap, h.ap.moved hm (fun j hj => (h3.lt j hj).2), hbx.grown hg (fun e => ?_), fun _ => hno, h.lt, ?_⟩
  · rw [tornM_succ, List.map_append, List.map_append, ← hx]; exact ho
  · have := (h1.lt _ e).1; have := h.lt; omega
  · exact (h.below.trans (hba.mono h.below.size)).trans (below_grown hg (Nat.le_trans hs hba.size) (fun j hj => (h1.lt j hj).1))
set_option maxHeartbeats 800000 in
theorem torn_calls (e : UInt32) (v pv bv : Value) (vs : List Value) (ls bf : List (List UInt8)) (p : List UInt8) (there : Int) (W : World) (hv : Rd W v ls.length vs) (hvl : vs.length = ls.length) (hrow : ∀ i, i < ls.length → Rd W (vs.getD i undef) (ls.getD i []).length ((ls.getD i []).map V8)) (hn : ls.length ≤ 1048576)
    (hp : Rd W pv p.length (p.map V8)) (ht1 : -9223372036854775808 ≤ there) (ht2 : there ≤ 9223372036854775807) (hb : Rd W bv bf.length (bf.map SV)) (hbn : bf.length ≤ 1048576) (hbig : ∀ b ∈ bf, b.length ≤ 9223372036854775807) :
    Calls Tryd.prog 24 #[.int .u32 (e.toNat : Int), v, .agg #[pv, .int .i64 there, bv]] W fun r w' => r = .returned (.bool true) ∧ Below W.heap.size W w' := by
  obtain ⟨va, vc, rfl⟩ : ∃ a c, v = .slice a ls.length c := by obtain ⟨a, c, h, _⟩ := hv; exact ⟨a, c, h⟩
  obtain ⟨pa, pc, rfl, hpc⟩ : ∃ a c, pv = .slice a p.length c ∧ p.length ≤ c := by obtain ⟨a, c, h, h1, _⟩ := hp; exact ⟨a, c, h, h1⟩
  obtain ⟨ba, bc, rfl⟩ : ∃ a c, bv = .slice a bf.length c := by obtain ⟨a, c, h, _⟩ := hb; exact ⟨a, c, h⟩
  have hbx := below_alloc W (.cells #[.slice pa p.length pc, .int .i64 there, .slice ba bf.length bc] 53)
  have HBX := Lib.hid hbx
  have HL := Lib.hid (laid_calls e _ vs ls _ (hv.below hbx) hvl (fun i hi => (hrow i hi).below hbx) hn)
  have HBox := Lib.hid (Box.new W #[.slice pa p.length pc, .int .i64 there, .slice ba bf.length bc] 53)
  have HP := Lib.hid hp
  have HB := Lib.hid hb
  have Hbig := Lib.hid hbig
  have Hn := Lib.hid hn
  have Hbn := Lib.hid hbn
  clear hv hvl hrow hp hb hbig hbx
  go_enter Tryd.func24, Tryd.ntmps24
  go_wp2_with fail
  refine HL.out.mono ?_
  rintro r w1 ⟨lv, ov, ys, rfl, hI⟩
  obtain ⟨W0, hW0⟩ : ∃ W0, W0 = W.alloc (.cells #[.slice pa p.length pc, .int .i64 there, .slice ba bf.length bc] 53) := ⟨_, rfl⟩
  have hs0 : W0.heap.size = W.heap.size + 1 := by rw [hW0]; exact World.size_alloc _ _
  rw [← hW0] at hI HBox HBX
  have Hs0 := Lib.hid hs0
  clear hW0 hs0
  obtain ⟨ps, hps⟩ : ∃ ps, ps = ls.map (List.take 512) := ⟨_, rfl⟩
  obtain ⟨L, hL⟩ : ∃ L, L = laidM e ps := ⟨_, rfl⟩
  have hbl := hI.bl
  rw [List.take_length, ← hps, ← hL] at hbl
  obtain ⟨la, lc, rfl, _⟩ := own_slice hbl
  obtain ⟨oa, oc, rfl, _⟩ := own_slice hI.ot
  have hbx1 := HBox.out.below hI.below
  have hc0 := hbx1.cell 0 _ rfl
  have HBx1 := Lib.hid hbx1
  have HI := Lib.hid hI
  have Hbl := Lib.hid hbl
  have Hps := Lib.hid hps
  have HLL := Lib.hid hL
  have HBW1 := Lib.hid (below_trans HBX.out hI.below)
  have hcut := HP.out.cut (m := min p.length 512) (by omega) 512
  rw [← List.map_take] at hcut
  obtain ⟨q, hq⟩ : ∃ q, q = p.take 512 := ⟨_, rfl⟩
  rw [← hq, show min p.length 512 = q.length by rw [hq, List.length_take]; omega] at hcut
  have hql : q.length ≤ 512 := by rw [hq, List.length_take]; omega
  have hct := cut_calls pa p.length pc w1 hpc
  rw [show min p.length 512 = q.length by rw [hq, List.length_take]; omega] at hct
  have hfr := frame_calls _ e q w1 (hcut.below HBW1.out)
  have Hct := Lib.hid hct
  have Hfr := Lib.hid hfr
  have Hql := Lib.hid hql
  clear hI hbl hps hL hbx1 hcut hq hql hct hfr
  go_wp2_with fail
  refine Hct.out.mono ?_
  rintro r w2 ⟨rfl, rfl⟩
  go_wp2_with fail
  refine Hfr.out.mono ?_
  rintro r w2 hr
  rcases hr with ⟨h, _⟩ | ⟨_, mv, rfl, hm2, hb2⟩
  · exact absurd h (by have := Hql.out; omega)
  obtain ⟨more, hmo⟩ : ∃ m, m = frameM e q := ⟨_, rfl⟩
  rw [← hmo] at hm2
  have hm0 : 0 < more.length := by rw [hmo]; exact frameM_pos e q
  have hm4 : more.length ≤ 4 := by rw [hmo]; exact frameM_le e q
  obtain ⟨ma, mc, rfl, _⟩ := own_slice hm2
  have hm0' : ((more.length : Int) == 0) = false := by rw [beq_eq_false_iff_ne]; omega
  have hm0n : (more.length == 0) = false := by rw [beq_eq_false_iff_ne]; omega
  have HM2 := Lib.hid hm2
  have HB2 := Lib.hid hb2
  have Hmo := Lib.hid hmo
  have Hm0 := Lib.hid hm0
  have Hm4 := Lib.hid hm4
  clear hm2 hb2 hmo hc0 hm0 hm4
  go_wp2_with fail
  refine (works12_calls _).mono ?_
  rintro r w3 ⟨rfl, hb3⟩
  have hb23 := below_trans HB2.out hb3
  have hbx3 := HBx1.out.below hb23
  have hc1 := hbx3.cell 1 _ rfl
  have hpk := pickI_lt there more.length (by have := Hm0.out; omega)
  obtain ⟨t, ht⟩ : ∃ t : Nat, pickI there more.length = (t : Int) := ⟨(pickI there more.length).toNat, by omega⟩
  have hpc := pick_calls there more.length w3 ht1 ht2 (by omega) (by have := Hm4.out; omega)
  rw [ht] at hpc hpk
  have HPick := Lib.hid hpc
  have Htm := Lib.hid hpk.2
  obtain ⟨d, hd⟩ : ∃ d, d = more.length - t := ⟨_, rfl⟩
  have Hd := Lib.hid hd
  have hI3 : TornI e L bf more t W0 W.heap.size 0 (.slice la L.length lc) (.slice oa ls.length oc) ls.length ys (.slice ma more.length mc) #[.slice pa p.length pc, .int .i64 there, .slice ba bf.length bc] w3 := by
    have h1 := own_below Hbl.out hb23
    have h2 := own_below HI.out.ot hb23
    have h3 := own_below HM2.out hb3
    refine ⟨by rw [Nat.add_zero]; simpa [tornM] using h1, h2, own_base h3 HI.out.below.size, ?_, hbx3, fun h => by omega, by rw [Hs0.out]; omega, HI.out.below.trans (hb23.mono HI.out.below.size)⟩
    intro k hk hk'
    have := (Hbl.out.lt k hk').2
    have := (HM2.out.lt k hk).1
    omega
  have HI3 := Lib.hid hI3
  clear hb3 hb23 hbx3 hpk hpc hd hI3 ht
  go_wp2_with fail
  refine HPick.out.mono ?_
  rintro r w4 ⟨rfl, rfl⟩
  clear hc1 HPick hm0' hm0n
  go_wp2_with fail
  go_loopw [7, 14] (fun bv i wr => ∃ k : Nat, k ≤ more.length ∧ i = .int .i64 k ∧ TornI e L bf more t W0 W.heap.size k bv (.slice oa ls.length oc) ls.length ys (.slice ma more.length mc) #[.slice pa p.length pc, .int .i64 there, .slice ba bf.length bc] wr) (fun _ i _ => more.length - (intOf i).toNat)
  case atStart => exact ⟨0, by omega, rfl, HI3.out⟩
  case round =>
    obtain ⟨k, hk, rfl, hI⟩ := hrel
    obtain ⟨a7, c7, rfl, _⟩ := own_slice hI.bl
    have hc2 := hI.bx.cell 2 _ rfl
    have h1 : (0 : Int) ≤ (k : Int) := by omega
    have h4 : more.length ≤ 4 := Hm4.out
    by_cases hlt : k < more.length
    · have h2 : (k : Int) < (more.length : Int) := by omega
      obtain ⟨o, ho⟩ : ∃ o, o = bf.getD k [] := ⟨_, rfl⟩
      have hobig : o.length ≤ 9223372036854775807 := by
        rw [ho]
        by_cases hkb : k < bf.length
        · have e1 : bf.getD k [] = bf[k] := by simp [List.getD, hkb]
          rw [e1]; exact Hbig.out _ (List.getElem_mem hkb)
        · have e1 : bf.getD k [] = [] := by simp [List.getD, Nat.le_of_not_lt hkb]
          rw [e1]; decide
      have hroom : L.length + k + [o].length ≤ 8796093022208 := by
        have h1 := laidM_le e ps
        rw [← HLL.out, Hps.out, List.length_map] at h1
        have := Hn.out
        rw [List.length_singleton]; omega
      have HRoom := Lib.hid hroom
      have Hbg := Lib.hid (begins_calls o e wr hobig)
      have HI5 := Lib.hid hI
      have HBl := Lib.hid hI.bl
      have HsW := Lib.hid hI.below.size
      have Ho := Lib.hid ho
      obtain ⟨s, hs⟩ : ∃ s, s = SB o := ⟨_, rfl⟩
      rw [← hs] at Hbg
      have Hs := Lib.hid hs
      have hor : (k < bf.length ∧ ∃ b off, ba = some ⟨b, off, none⟩ ∧ wr.cell? ⟨b, off + k, none⟩ = some (.string s)) ∨ decide (k < bf.length) = false ∧ s = ⟨#[]⟩ := by
        by_cases hkb : k < bf.length
        · refine .inl ⟨hkb, ?_⟩
          obtain ⟨_, _, h, _, _, _, h3⟩ := HB.out.below (below_trans HBX.out hI.below)
          cases h
          obtain ⟨b, off, h4, h5⟩ := h3 k (by simpa using hkb)
          refine ⟨b, off, h4, ?_⟩
          rw [h5, hs, ho]; simp [List.getD, hkb, SV]
        · refine .inr ⟨by simpa using hkb, ?_⟩
          have e1 : bf.getD k [] = [] := by simp [List.getD, Nat.le_of_not_lt hkb]
          rw [hs, ho, e1]; rfl
      clear hI ho hs hobig hroom
      by_cases hk0 : k = 0
      · subst hk0
        by_cases hbeg : o.take 5 = 104 :: le e.toNat 4
        · rw [decide_eq_true hbeg] at Hbg
          clear hbeg
          rcases hor with ⟨hkb, b, off, rfl, hcell⟩ | ⟨hkb, hse⟩
          rw [Nat.add_zero] at hcell
          focus (go_wp2_with fail)
          rotate_left
          subst hse
          focus (go_wp2_with fail)
          all_goals
            refine Hbg.out.mono ?_
            rintro r w6 ⟨rfl, hb6⟩
            have HB6 := Lib.hid (below_trans (below_trans HBX.out HI5.out.below) hb6)
            clear hb6
            go_wp2_with fail
            go_ret
            exact ⟨rfl, HB6.out⟩
        · rw [decide_eq_false hbeg] at Hbg
          have Hbeg := Lib.hid hbeg
          clear hbeg
          rcases hor with ⟨hkb, b, off, rfl, hcell⟩ | ⟨hkb, hse⟩
          rw [Nat.add_zero] at hcell
          focus (go_wp2_with fail)
          rotate_left
          subst hse
          focus (go_wp2_with fail)
          all_goals
            refine Hbg.out.mono ?_
            rintro r w6 ⟨rfl, hb6⟩
            have HB6 := Lib.hid hb6
            have hba : ∀ ob, Below wr.heap.size wr (w6.alloc ob) := fun ob => below_trans hb6 (below_alloc w6 ob)
            have HBl6 := Lib.hid (fun ob => own_below HBl.out (hba ob))
            have HSrc := Lib.hid (one_src w6 _ o 9 Hs.out)
            have HsB := Lib.hid (fun ob => Nat.le_trans HsW.out (hba ob).size)
            have hwr : wrap64 ((more.length : Int) - (t : Int)) = (d : Int) := by have := Htm.out; have := Hd.out; unfold wrap64; omega
            have hq0 : decide ((d : Int) ≤ 0) = false := by have := Htm.out; have := Hd.out; rw [decide_eq_false_iff_not]; omega
            have hq1 : decide (d = 0) = false := by have := Htm.out; have := Hd.out; rw [decide_eq_false_iff_not]; omega
            clear hb6 hba
            go_wp2_with (at_builtin; refine appT rfl _ _ rfl W0.heap.size _ (L.length + 0) ((L ++ tornM bf more t 0).map SV) rfl (HBl6.out _) _ [o] rfl HSrc.out HRoom.out (HsB.out _) ?_)
            intro v8 w8 ho8 hg8 hm8
            have hnx := HI5.out.next (x := o) HB6.out ho8 hg8 hm8 (by unfold tornAt; rw [if_neg (by have := Htm.out; omega)]; exact Ho.out) (by rw [← Ho.out]; exact Hbeg.out)
            have HNX := Lib.hid hnx
            clear ho8 hg8 hm8 hnx HBl6 HSrc HsB HB6 HI5 HBl
            go_wp2_with fail
            go_roundw
            case rel => exact ⟨1, by omega, rfl, HNX.out⟩
            case measure => simp [intOf]; omega
      · have hk0' : ((k : Int) == 0) = false := by rw [beq_eq_false_iff_ne]; omega
        have hk0n : (k == 0) = false := by rw [beq_eq_false_iff_ne]; omega
        have hwr : wrap64 ((more.length : Int) - (t : Int)) = (d : Int) := by have := Htm.out; have := Hd.out; unfold wrap64; omega
        have hno := HI5.out.no (by omega)
        have Hno := Lib.hid hno
        clear hno
        by_cases hdk : d ≤ k
        · obtain ⟨x, hx⟩ : ∃ x, x = more.getD k [] := ⟨_, rfl⟩
          have hmc : ∃ b off, ma = some ⟨b, off, none⟩ ∧ wr.cell? ⟨b, off + k, none⟩ = some (.string (SB x)) := by
            obtain ⟨_, _, h, _, _, _, h3⟩ := rd_of_own HI5.out.mo
            cases h
            obtain ⟨b, off, h4, h5⟩ := h3 k (by simpa using hlt)
            refine ⟨b, off, h4, ?_⟩
            rw [h5, hx]; simp [List.getD, hlt, SV]
          obtain ⟨mb, moff, rfl, hmc⟩ := hmc
          have HBl6 := Lib.hid (fun ob => own_below HBl.out (below_alloc wr ob))
          have HSrc := Lib.hid (one_src wr (SB x) x 9 rfl)
          have HsB := Lib.hid (fun ob => Nat.le_trans HsW.out (below_alloc wr ob).size)
          have HRoom1 : Hid (L.length + k + [x].length ≤ 8796093022208) := Lib.hid HRoom.out
          have Hx := Lib.hid hx
          clear hx
          rcases hor with ⟨hkb, b, off, rfl, hcell⟩ | ⟨hkb, hse⟩
          focus (go_wp2_with (at_builtin; refine appT rfl _ _ rfl W0.heap.size _ (L.length + k) ((L ++ tornM bf more t k).map SV) rfl (HBl6.out _) _ [x] rfl HSrc.out HRoom1.out (HsB.out _) ?_))
          rotate_left
          focus (go_wp2_with (at_builtin; refine appT rfl _ _ rfl W0.heap.size _ (L.length + k) ((L ++ tornM bf more t k).map SV) rfl (HBl6.out _) _ [x] rfl HSrc.out HRoom1.out (HsB.out _) ?_))
          all_goals
            intro v8 w8 ho8 hg8 hm8
            have hnx := HI5.out.next (x := x) (Below.refl _ _) ho8 hg8 hm8 (by unfold tornAt; rw [if_pos (by have := Hd.out; omega)]; exact Hx.out) Hno.out
            have HNX := Lib.hid hnx
            clear ho8 hg8 hm8 hnx HBl6 HSrc HsB HI5 HBl
            go_wp2_with fail
            go_roundw
            case rel => exact ⟨k + 1, by omega, by go_num, HNX.out⟩
            case measure => simp [intOf]; omega
        · have hdk' : decide (d ≤ k) = false := by simpa using hdk
          have HBl6 := Lib.hid (fun ob => own_below HBl.out (below_alloc wr ob))
          have HSrc := Lib.hid (one_src wr s o 9 Hs.out)
          have HsB := Lib.hid (fun ob => Nat.le_trans HsW.out (below_alloc wr ob).size)
          rcases hor with ⟨hkb, b, off, rfl, hcell⟩ | ⟨hkb, hse⟩
          focus (go_wp2_with (at_builtin; refine appT rfl _ _ rfl W0.heap.size _ (L.length + k) ((L ++ tornM bf more t k).map SV) rfl (HBl6.out _) _ [o] rfl HSrc.out HRoom.out (HsB.out _) ?_))
          rotate_left
          subst hse
          focus (go_wp2_with (at_builtin; refine appT rfl _ _ rfl W0.heap.size _ (L.length + k) ((L ++ tornM bf more t k).map SV) rfl (HBl6.out _) _ [o] rfl HSrc.out HRoom.out (HsB.out _) ?_))
          all_goals
            intro v8 w8 ho8 hg8 hm8
            have hnx := HI5.out.next (x := o) (Below.refl _ _) ho8 hg8 hm8 (by unfold tornAt; rw [if_neg (by have := Hd.out; omega)]; exact Ho.out) Hno.out
            have HNX := Lib.hid hnx
            clear ho8 hg8 hm8 hnx HBl6 HSrc HsB HI5 HBl
            go_wp2_with fail
            go_roundw
            case rel => exact ⟨k + 1, by omega, by go_num, HNX.out⟩
            case measure => simp [intOf]; omega
    · obtain rfl : k = more.length := by omega
      have hps5 : ∀ p ∈ ps, p.length ≤ 512 := by
        rw [Hps.out]; intro p hp
        obtain ⟨q, _, rfl⟩ := List.mem_map.1 hp
        rw [List.length_take]; omega
      have hpl : ps.length = ls.length := by rw [Hps.out, List.length_map]
      have htn := torn_none e bf more t more.length Hm0.out (by have := Htm.out; omega) (hI.no Hm0.out)
      obtain ⟨T, hT⟩ : ∃ T, T = tornM bf more t more.length := ⟨_, rfl⟩
      have hTl : T.length = more.length := by rw [hT, tornM_length]
      have hbl := hI.bl
      rw [← hT] at hbl htn
      have hsc := scan_calls e _ (L ++ T) wr (by rw [List.length_append, hTl]; exact rd_of_own hbl) (by
        have := laidM_le e ps
        rw [← HLL.out, hpl] at this
        have := Hn.out
        rw [List.length_append, hTl]; omega) (fun b hb => by
        rcases List.mem_append.1 hb with hb | hb
        · rw [HLL.out] at hb; have := laidM_block hb; omega
        · rw [hT] at hb
          obtain ⟨j, _, rfl⟩ := List.mem_map.1 hb
          unfold tornAt
          split
          · by_cases hj : j < more.length
            · have e1 : more.getD j [] = more[j] := by simp [List.getD, hj]
              have h5 : ∀ b ∈ more, b.length ≤ 256 := fun b hb => frameM_block (by rw [← Hmo.out]; exact hb)
              rw [e1]
              have := h5 _ (List.getElem_mem hj); omega
            · have e1 : more.getD j [] = [] := by simp [List.getD, Nat.le_of_not_lt hj]
              rw [e1]; decide
          · by_cases hj : j < bf.length
            · have e1 : bf.getD j [] = bf[j] := by simp [List.getD, hj]
              rw [e1]; exact Hbig.out _ (List.getElem_mem hj)
            · have e1 : bf.getD j [] = [] := by simp [List.getD, Nat.le_of_not_lt hj]
              rw [e1]; decide)
      have Hsc := Lib.hid hsc
      have HI5 := Lib.hid hI
      have Htn := Lib.hid htn
      have Hps5 := Lib.hid hps5
      have Hpl := Lib.hid hpl
      clear hI hps5 hpl htn hbl hsc hT hTl h4
      go_wp2_with fail
      refine Hsc.out.mono ?_
      rintro r w6 ⟨gv, pre, hno, rfl, hfo, hov, hb6⟩
      rw [HLL.out] at hno hfo
      obtain ⟨f1, f2, f3⟩ := found_laid Hps5.out Htn.out hfo hno
      rw [HLL.out, f2, ← HLL.out]
      rw [f1] at hov
      obtain ⟨ga, gc, rfl, _⟩ := own_slice hov
      have hot6 := rd_of_own (own_below HI5.out.ot hb6)
      have hbw0 := HI5.out.below.trans (hb6.mono HI5.out.below.size)
      have hbw6 := below_trans HBX.out hbw0
      have hsm := same12_calls (.slice ga ps.length gc) (.slice oa ls.length oc) (pre.map (·.2)) ys ps w6 (rd_of_own hov) (by rw [Hpl.out]; exact hot6) (by rw [List.length_map, f1]) (by rw [HI.out.len, Hpl.out]) (fun i hi => (f3 i hi).rd) (fun i hi => by
        have h1 := (HI.out.rows i (by have := Hpl.out; omega)).below hbw0
        have e1 : ps.getD i [] = (ls.getD i []).take 512 := by
          rw [Hps.out]
          have := Hpl.out
          simp [List.getD, show i < ls.length by omega]
        rw [e1]; exact h1)
      have Hsm := Lib.hid hsm
      have HB6 := Lib.hid hbw6
      clear hno hfo hov hb6 f1 f2 f3 hot6 hbw6 hbw0 hsm
      go_wp2_with fail
      refine Hsm.out.mono ?_
      rintro r w7 ⟨rfl, k, rfl⟩
      go_wp2_with fail
      go_ret
      exact ⟨rfl, HB6.out.trans ((below_drewN w6 k).mono HB6.out.size)⟩
end Go.Proofs.YtefegebnohenaaaDoor
