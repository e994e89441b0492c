/-
  The walk of DiskAfter.
-/
import Derived.Test.YtmlckfdjiljjhaaDoorPlays
import Derived.Test.YtmlckfdjiljjhaaDoorRefA
namespace Go.Proofs.YtmlckfdjiljjhaaDoor
open Go.RowKit
set_option maxRecDepth 100000

theorem cell_lt {w : World} {a : Addr} {x : Value} (h : w.cell? a = some x) : a.block < w.heap.size := by
  rcases Nat.lt_or_ge a.block w.heap.size with h1 | h1
  · exact h1
  · simp [World.cell?, h1] at h
/-- What holds of an act that came in. -/
def ActIn (a : Int × Int × ByteArray) : Prop := -9223372036854775808 ≤ a.1 ∧ a.1 ≤ 9223372036854775807 ∧ -9223372036854775808 ≤ a.2.1 ∧ a.2.1 ≤ 9223372036854775807 ∧ a.2.2.size ≤ 140737488351232
set_option maxHeartbeats 6400000 in
theorem diskAfter_calls (n at_ : Int) (sv mv : Value) (acts more : List (Int × Int × ByteArray)) (W : World) (hv : Rd W sv acts.length (flatActs acts)) (hok : ∀ a ∈ acts, ActIn a) (hv2 : Rd W mv more.length (flatActs more)) (hok2 : ∀ a ∈ more, ActIn a)
    (hg : ErrType W) :
    Calls Tryd.prog 4 #[.int .i64 n, sv, .int .i64 at_, mv] W fun e W' => e = .returned (.bool true) ∧ Below W.heap.size W W' := by
  obtain ⟨sa, sc, rfl⟩ : ∃ a c, sv = .slice a acts.length c := by obtain ⟨a, c, h, _⟩ := hv; exact ⟨a, c, h⟩
  obtain ⟨ma, mc, rfl⟩ : ∃ a c, mv = .slice a more.length c := by obtain ⟨a, c, h, _⟩ := hv2; exact ⟨a, c, h⟩
  have HV := Lib.hid hv
  have Hok := Lib.hid hok
  have HV2 := Lib.hid hv2
  have Hok2 := Lib.hid hok2
  have HG := Lib.hid hg
  clear hv hok hv2 hok2 hg
  by_cases hno : n < 1 ∨ 4096 < n
  · have H1 := Lib.hid (refNew_no n W hno)
    have H2 := Lib.hid (new_no n W hno)
    rw [show errV 1 = errN 1 from rfl] at H2
    unfold errN at H2
    clear hno
    go_enter Tryd.func4, Tryd.ntmps4
    go_wp2_with fail
    refine H1.out.mono ?_
    rintro r w1 ⟨rfl, rfl⟩
    go_wp2_with fail
    refine H2.out.mono ?_
    rintro r w2 ⟨rfl, rfl⟩
    go_wp2_with fail
    go_ret
    exact ⟨rfl, Below.refl _ _⟩
  · obtain ⟨N, rfl⟩ := Int.eq_ofNat_of_zero_le (show 0 ≤ n by omega)
    have H1 := Lib.hid (refNew_yes N W (by omega) (by omega))
    have H2 := Lib.hid (fun w => new_yes N w (by omega) (by omega))
    clear hno
    go_enter Tryd.func4, Tryd.ntmps4
    go_wp2_with fail
    refine H1.out.mono ?_
    rintro r w1 ⟨rfl, G, hr, hb1, hG⟩
    obtain ⟨rp, hrp⟩ : ∃ rp, rp = W.heap.size := ⟨_, rfl⟩
    rw [← hrp] at hr ⊢
    have HR := Lib.hid hr
    have HB1 := Lib.hid hb1
    have HGe := Lib.hid hG
    clear hr hb1 hG H1 hrp
    go_wp2_with fail
    refine (H2.out _).mono ?_
    rintro r w2 ⟨p, F, rfl, hd, hb2, hF⟩
    rw [show errV 0 = .nilIface from rfl]
    have HD := Lib.hid hd
    have HR2 := Lib.hid (HR.out.below hb2)
    have HB2 := Lib.hid (below_trans HB1.out hb2)
    have HFe := Lib.hid (fun k hk => Nat.le_trans HB1.out.size (hF k hk))
    have HFG := Lib.hid (show ∀ k, F k → ¬ G k from fun k hf hg => by have := hF k hf; have := HR.out.lt k hg; omega)
    clear hd hb2 hF H2 HR HB1
    by_cases h2 : 2000 < acts.length
    · have h2' : (2000 : Int) < (acts.length : Int) := by omega
      go_wp2_with fail
      go_ret
      exact ⟨rfl, HB2.out⟩
    have h2' : decide ((2000 : Int) < (acts.length : Int)) = false := by simp; omega
    have h2n : decide (2000 < acts.length) = false := by simp; omega
    by_cases h3 : 2000 < more.length
    · have h3' : (2000 : Int) < (more.length : Int) := by omega
      go_wp2_with fail
      go_ret
      exact ⟨rfl, HB2.out⟩
    have h3' : decide ((2000 : Int) < (more.length : Int)) = false := by simp; omega
    have h3n : decide (2000 < more.length) = false := by simp; omega
    obtain ⟨d0, hd0⟩ : ∃ d0 : DiskM, d0 = { strs := List.replicate N ByteArray.empty, trail := [], left := none } := ⟨_, rfl⟩
    have hwf : d0.Wf := by rw [hd0]; exact DiskM.Wf.new N none
    have htr : d0.trail.length = 0 := by rw [hd0]; rfl
    rw [← hd0] at HD HR2
    have hbA := below_alloc w2 (.cells (bookC (.slice none 0 0)) 43)
    have hI0 : PlayI (fun _ => False) W p rp w2.heap.size 0 d0 F G (.slice none 0 0) [] (w2.alloc (.cells (bookC (.slice none 0 0)) 43)) :=
      ⟨HD.out.mod (Mod.of_below (F := fun _ => False) hbA) (fun _ _ h => h), HR2.out.below hbA, hwf, by omega, Box.new _ _ _, World.ownsRow_nil _ _ _ _, fun i hi => by simp at hi, fun i j _ hj => by simp at hj, Nat.le_refl _, by simp [Value.ownBlock], HFG.out,
        fun k hk => ⟨fun e => by
          rcases hk with hk | hk
          · have := HD.out.lt k hk; omega
          · have := HR2.out.lt k hk; omega, by simp [Value.ownBlock], fun i hi => by simp at hi⟩,
        fun i hi => by simp at hi, fun i hi => by simp at hi, fun k hk => by
          right
          rcases hk with hk | hk | hk | hk | ⟨i, hi, _⟩
          · exact HFe.out k hk
          · exact HGe.out k hk
          · rw [hk]; exact HB2.out.size
          · simp [Value.ownBlock] at hk
          · simp at hi, fun h => h, Mod.of_below (below_trans HB2.out hbA)⟩
    have HI0 := Lib.hid hI0
    clear hI0 hbA hwf htr hd0 HD HR2 HFG HFe HGe HB2
    go_wp2_with fail
    obtain ⟨bp, hbp⟩ : ∃ bp, bp = w2.heap.size := ⟨_, rfl⟩
    rw [← hbp] at HI0 ⊢
    have hlen : acts.length ≤ 2000 := by omega
    have hlen2 : more.length ≤ 2000 := by omega
    clear hbp
    go_loopg [14] acts.length (fun gk iv wr => ∃ (k : Nat) (d : DiskM) (F G : Nat → Prop) (bv : Value) (ys : List Value), gk + k = acts.length ∧ iv = .int .i64 (k : Int) ∧ PlayI (fun _ => False) W p rp bp k d F G bv ys wr)
    case atStart => exact ⟨0, _, _, _, _, _, rfl, rfl, HI0.out⟩
    case round =>
      clear HI0
      obtain ⟨k, d, F, G, bv, ys, hgk, rfl, hI⟩ := hrel
      by_cases hk : k < acts.length
      · have hk1 : (k : Int) < (acts.length : Int) := by omega
        have hk0 : (0 : Int) ≤ (k : Int) := by omega
        obtain ⟨b, off, rfl, x1, x2, x3⟩ := act_at (HV.out.below (hI.below.below (Nat.le_refl _) (fun _ h => h.elim))) k hk
        have ho := Hok.out acts[k] (List.getElem_mem hk)
        generalize acts[k] = act at x1 x2 x3 ho
        obtain ⟨kind, num, s⟩ := act
        have x1 : wr.cell? ⟨b, off + k * 3, none⟩ = some (.int .i64 kind) := x1
        have x2 : wr.cell? ⟨b, off + k * 3 + 1, none⟩ = some (.int .i64 num) := x2
        have x3 : wr.cell? ⟨b, off + k * 3 + 2, none⟩ = some (.string s) := x3
        have Hdo := Lib.hid (does_calls kind num s p rp bp k d F G bv ys (fun _ => False) W wr hI HG.out (by omega) ho.1 ho.2.1 ho.2.2.1 ho.2.2.2.1 (Nat.le_trans ho.2.2.2.2 (by omega)))
        have Hgk := Lib.hid hgk
        clear hI hgk ho
        go_wp2_with fail
        refine Hdo.out.mono ?_
        rintro r w4 ⟨rfl, d', F', G', bv', ys', hN⟩
        have HN := Lib.hid hN
        clear hN Hdo x1 x2 x3
        go_wp2_with fail
        go_roundg (acts.length - (k + 1))
        case measure => have := Hgk.out; omega
        case rel => exact ⟨k + 1, d', F', G', bv', ys', by have := Hgk.out; omega, by go_num, HN.out⟩
      · obtain rfl : k = acts.length := by omega
        have HI := Lib.hid hI
        have htl : d.trail.length ≤ 2000 := Nat.le_trans hI.trail hlen
        clear hgk
        by_cases ha : 0 ≤ at_ ∧ at_ ≤ (d.trail.length : Int)
        · obtain ⟨at0, rfl⟩ := Int.eq_ofNat_of_zero_le ha.1
          have hat : at0 ≤ d.trail.length := by omega
          have Hra := Lib.hid (refAfter_yes d rp G at0 wr hI.ref hat (by omega))
          have Hat := Lib.hid hat
          have Htl := Lib.hid htl
          clear hI ha hat htl
          go_wp2_with fail
          refine Hra.out.mono ?_
          rintro r w4 ⟨rp2, G2, rfl, hr2, hb4, hG2⟩
          have Hda := Lib.hid (after_yes d p F at0 w4 (HI.out.to hb4).disk Hat.out (by have := Htl.out; omega) HI.out.wf.inr)
          have HR2 := Lib.hid hr2
          have HB4 := Lib.hid hb4
          have HG2 := Lib.hid hG2
          clear hr2 hb4 hG2 Hra
          go_wp2_with fail
          refine Hda.out.mono ?_
          rintro r w5 ⟨p2, F2, rfl, hd2, hb5, hF2⟩
          rw [show errV 0 = .nilIface from rfl]
          have HD2 := Lib.hid (show IsDisk w5 (d.after at0) p2 F2 from hd2)
          have HB5 := Lib.hid hb5
          have HF2 := Lib.hid hF2
          clear hd2 hb5 hF2 Hda
          go_wp2_with fail
          refine (plain_nil _).mono ?_
          rintro r w6 ⟨rfl, hb6⟩
          have hT := HI.out.two HG.out.lt HR2.out HB4.out HG2.out HD2.out HB5.out HF2.out hb6 (HI.out.wf.after at0) (c' := acts.length) (by have := HI.out.trail; simp only [DiskM.after, List.length_take]; omega) (Nat.le_refl _)
          generalize hoe : d.after at0 = o at hT
          have HT := Lib.hid hT
          clear hT hb6 HI HR2 HB4 HG2 HD2 HB5 HF2 Hat Htl hoe
          go_wp2_with fail
          obtain ⟨wo, hwo⟩ : ∃ wo : World, wo = w6 := ⟨_, rfl⟩
          rw [← hwo] at HT ⊢
          clear hwo
          go_loopg [19] more.length (fun gk iv wr => ∃ (k : Nat) (d : DiskM) (F G : Nat → Prop) (bv : Value) (ys : List Value), gk + k = more.length ∧ iv = .int .i64 (k : Int) ∧ TwoI W.heap.size W p rp d F G p2 rp2 o F2 G2 bp (acts.length + k) bv ys wr)
          case atStart => exact ⟨0, _, _, _, _, _, rfl, rfl, HT.out⟩
          case round =>
            clear HT
            obtain ⟨k, d, F, G, bv, ys, hgk, rfl, hT⟩ := hrel
            by_cases hk : k < more.length
            · have hk1 : (k : Int) < (more.length : Int) := by omega
              have hk0 : (0 : Int) ≤ (k : Int) := by omega
              obtain ⟨b, off, rfl, x1, x2, x3⟩ := act_at (HV2.out.below hT.bel.1) k hk
              have ho := Hok2.out more[k] (List.getElem_mem hk)
              generalize more[k] = act at x1 x2 x3 ho
              obtain ⟨kind, num, s⟩ := act
              have x1 : wr.cell? ⟨b, off + k * 3, none⟩ = some (.int .i64 kind) := x1
              have x2 : wr.cell? ⟨b, off + k * 3 + 1, none⟩ = some (.int .i64 num) := x2
              have x3 : wr.cell? ⟨b, off + k * 3 + 2, none⟩ = some (.string s) := x3
              have Hdo := Lib.hid (does_calls kind num s p rp bp (acts.length + k) d F G bv ys _ _ wr hT.main (hT.err HG.out) (by omega) ho.1 ho.2.1 ho.2.2.1 ho.2.2.2.1 (Nat.le_trans ho.2.2.2.2 (by omega)))
              have Hgk := Lib.hid hgk
              have HT := Lib.hid hT
              clear hT hgk ho
              go_wp2_with fail
              refine Hdo.out.mono ?_
              rintro r w4 ⟨rfl, d', F', G', bv', ys', hN⟩
              have HN := Lib.hid (HT.out.next hN (Nat.le_succ _))
              clear hN Hdo x1 x2 x3 HT
              go_wp2_with fail
              go_roundg (more.length - (k + 1))
              case measure => have := Hgk.out; omega
              case rel => exact ⟨k + 1, d', F', G', bv', ys', by have := Hgk.out; omega, by go_num, HN.out⟩
            · obtain rfl : k = more.length := by omega
              have hS := hT.swap
              obtain ⟨c, hc⟩ : ∃ c, c = acts.length + more.length := ⟨_, rfl⟩
              have hc4 : c ≤ 4000 := by omega
              rw [← hc] at hS
              have HS := Lib.hid hS
              have Has := Lib.hid (asked_calls o p2 rp2 bp 0 ys.length F2 G2 bv ys wr hS.main.disk hS.main.ref hS.main.book hS.main.brow hS.main.bne (by have := hS.main.ycnt; omega) (Nat.zero_le _) (by have := hS.main.trail; omega))
              clear hT hgk hS hc
              go_wp2_with fail
              refine Has.out.mono ?_
              rintro r w4 ⟨rfl, bv4, tv4, a1, a2, a3, a4, a5, a6, a7⟩
              have hS4 := HS.out.next (HS.out.main.asked a1 a2 a3 a4 a5 a6 a7) (Nat.le_succ _)
              have Hrd := Lib.hid (reads_calls o p2 rp2 F2 G2 w4 hS4.main.disk hS4.main.ref hS4.main.wf (by have := hS4.main.trail; omega) (hS4.err HG.out))
              have HS4 := Lib.hid hS4
              clear a1 a2 a3 a4 a5 a6 a7 hS4 Has HS
              go_wp2_with fail
              refine Hrd.out.mono ?_
              rintro r w5 ⟨rfl, hb5⟩
              have HS5 := Lib.hid (HS4.out.to hb5)
              clear hb5 HS4 Hrd
              generalize ys ++ [tv4] = ys4 at HS5
              obtain ⟨wo, hwo⟩ : ∃ wo : World, wo = w5 := ⟨_, rfl⟩
              rw [← hwo] at HS5 ⊢
              clear hwo
              go_wp2_with fail
              go_loopg [20] more.length (fun gk iv wr => ∃ (k : Nat) (o : DiskM) (F2 G2 : Nat → Prop), gk + k = more.length ∧ iv = .int .i64 (k : Int) ∧ TwoI W.heap.size W p2 rp2 o F2 G2 p rp d F G bp (c + 1 + k) bv4 ys4 wr)
              case atStart => exact ⟨0, _, _, _, rfl, rfl, HS5.out⟩
              case round =>
                clear HS5
                obtain ⟨k, o, F2, G2, hgk, rfl, hT⟩ := hrel
                by_cases hk : k < more.length
                · have hk1 : (k : Int) < (more.length : Int) := by omega
                  have hk0 : (0 : Int) ≤ (k : Int) := by omega
                  obtain ⟨b, off, rfl, x1, x2, x3⟩ := act_at (HV2.out.below hT.bel.1) k hk
                  have ho := Hok2.out more[k] (List.getElem_mem hk)
                  generalize more[k] = act at x1 x2 x3 ho
                  obtain ⟨kind, num, s⟩ := act
                  have x2 : wr.cell? ⟨b, off + k * 3 + 1, none⟩ = some (.int .i64 num) := x2
                  have x3 : wr.cell? ⟨b, off + k * 3 + 2, none⟩ = some (.string s) := x3
                  have Hgk := Lib.hid hgk
                  have HT := Lib.hid hT
                  have hss : s.size ≤ 140737488351232 := ho.2.2.2.2
                  have hss1 : ¬ 9223372036854775807 < s.size + 1 := by omega
                  have hbl : b < wr.heap.size := cell_lt x3
                  clear hT hgk ho x1
                  go_wp2_with fail
                  go_region
                  obtain ⟨sx, hsx⟩ : ∃ sx, sx = s ++ ByteArray.mk #[33] := ⟨_, rfl⟩
                  have hsxs : sx.size ≤ 9223372036854775807 := by rw [hsx, ByteArray.size_append]; show s.size + 1 ≤ _; omega
                  rw [← hsx]
                  clear hsx x2 x3 hss hss1 hbl
                  have hbq := below_trans (below_alloc wr (.cells #[.int .i64 num, .string sx] 53)) (below_drew _)
                  have hX0 := (Box.new wr #[.int .i64 num, .string sx] 53).below (below_drew _)
                  generalize hwq : (wr.alloc (.cells #[.int .i64 num, .string sx] 53)).drew = wq at hbq hX0 ⊢
                  have Hab := Lib.hid (show ∀ k, F2 k ∨ G2 k → k ≠ wr.heap.size from fun k hk => by
                    have := HT.out.main.lt k (by rcases hk with hk | hk; exact .inl hk; exact .inr (.inl hk)); omega)
                  obtain ⟨ab, hab⟩ : ∃ ab, ab = wr.heap.size := ⟨_, rfl⟩
                  rw [← hab] at hX0 Hab ⊢
                  have HTq := Lib.hid (HT.out.main.to (below_trans hbq (below_drew wq)))
                  have hbig : o.trail.length ≤ 100000000000 := by have := HTq.out.trail; omega
                  have HX := Lib.hid (hX0.below (below_drew wq))
                  have c1 := hX0.cell 0 _ rfl
                  have c2 := hX0.cell 1 _ rfl
                  have Hw1 := Lib.hid (write_any o p2 F2 num sx wq.drew HTq.out.disk hbig hsxs)
                  have herr := write_errs o num sx
                  obtain ⟨o', ho'⟩ : ∃ o', o' = (o.write num sx).1 := ⟨_, rfl⟩
                  obtain ⟨er, her⟩ : ∃ er, er = (o.write num sx).2 := ⟨_, rfl⟩
                  have hwf' : o'.Wf := by rw [ho']; exact HTq.out.wf.write num sx
                  have htr' : o'.trail.length ≤ c + 1 + (k + 1) := by rw [ho']; have := (o.write_trail num sx).1; have := HTq.out.trail; omega
                  have Hd' := Lib.hid (And.intro ho' her)
                  rw [← ho', ← her] at Hw1
                  rw [← her] at herr
                  have Hgerr := Lib.hid (HT.out.err HG.out)
                  clear ho' her hX0 hbq hwq hab
                  go_wp2_with fail
                  go_region_held3 (fun w' => w'.cell? ⟨ab, 0, none⟩ = some (.int .i64 num) ∧ w'.cell? ⟨ab, 1, none⟩ = some (.string sx))
                    (first | exact ⟨c1, c2⟩ | exact ⟨e1, e2⟩ | exact ⟨e3, e4⟩ | exact ⟨e5, e6⟩)
                    (first | (go_at_call 14; refine Hw1.out.mono ?_; rintro e w3 ⟨rfl, F3, g1, g2, g3⟩; have hX3 := Box.mod HX.out g2 (fun hf => (Hab.out ab (.inl hf)) rfl); have e1 := hX3.cell 0 _ rfl; have e2 := hX3.cell 1 _ rfl; have hr3 := HTq.out.ref.mod g2 (fun k hk hf => HTq.out.fg k hf hk); have Hw2 := Lib.hid (refWrite_any o rp2 G2 num sx w3 hr3 hbig hsxs); rw [← Hd'.out.1, ← Hd'.out.2] at Hw2; have HGs := Lib.hid (And.intro g1 (And.intro g2 g3)); have HX3 := Lib.hid hX3; clear g1 g2 g3 hX3 hr3) | (go_at_call 15; refine Hw2.out.mono ?_; rintro e w4 ⟨rfl, G4, k1, k2, k3⟩; have hX4 := Box.mod HX3.out k2 (fun hf => (Hab.out ab (.inr hf)) rfl); have e3 := hX4.cell 0 _ rfl; have e4 := hX4.cell 1 _ rfl; have HN := Lib.hid (HTq.out.both HGs.out.1 HGs.out.2.1 HGs.out.2.2 k1 k2 k3 hwf' htr' (by omega)); have Hpl := Lib.hid (plain_any er w4 herr.1 herr.2 (HN.out.err Hgerr.out)); have HX4 := Lib.hid hX4; clear k1 k2 k3 hX4) | (go_at_call 7; refine Hpl.out.mono ?_; rintro e w5 ⟨rfl, hb5⟩; have hX5 := Box.below HX4.out hb5; have e5 := hX5.cell 0 _ rfl; have e6 := hX5.cell 1 _ rfl; have HN5 := Lib.hid (HT.out.next (HN.out.to hb5) (by omega)); clear hb5 hX5))
                  clear e1 e2 e3 e4 e5 e6
                  go_wp2_with fail
                  go_roundg (more.length - (k + 1))
                  case measure => have := Hgk.out; omega
                  case rel => exact ⟨k + 1, o', _, _, by have := Hgk.out; omega, by go_num, HN5.out⟩
                · obtain rfl : k = more.length := by omega
                  have hS := hT.swap
                  have hc6 : c + 1 + more.length ≤ 6001 := by omega
                  obtain ⟨c2, hc2⟩ : ∃ c2, c2 = c + 1 + more.length := ⟨_, rfl⟩
                  rw [← hc2] at hS hc6
                  have HS := Lib.hid hS
                  have Has := Lib.hid (asked_calls d p rp bp 0 ys4.length F G bv4 ys4 wr hS.main.disk hS.main.ref hS.main.book hS.main.brow hS.main.bne (by have := hS.main.ycnt; omega) (Nat.zero_le _) (by have := hS.main.trail; omega))
                  clear hT hgk hS hc2
                  go_wp2_with fail
                  refine Has.out.mono ?_
                  rintro r w4 ⟨rfl, bv6, tv6, a1, a2, a3, a4, a5, a6, a7⟩
                  have hS4 := (HS.out.next (HS.out.main.asked a1 a2 a3 a4 a5 a6 a7) (Nat.le_succ _)).swap
                  generalize ys4 ++ [tv6] = ys6 at hS4
                  have HS4 := Lib.hid hS4
                  have Has := Lib.hid (asked_calls o p2 rp2 bp 0 ys6.length F2 G2 bv6 ys6 w4 hS4.main.disk hS4.main.ref hS4.main.book hS4.main.brow hS4.main.bne (by have := hS4.main.ycnt; omega) (Nat.zero_le _) (by have := hS4.main.trail; omega))
                  clear a1 a2 a3 a4 a5 a6 a7 hS4 HS
                  go_wp2_with fail
                  refine Has.out.mono ?_
                  rintro r w5 ⟨rfl, bv7, tv7, a1, a2, a3, a4, a5, a6, a7⟩
                  have hS5 := HS4.out.next (HS4.out.main.asked a1 a2 a3 a4 a5 a6 a7) (Nat.le_succ _)
                  generalize ys6 ++ [tv7] = ys7 at hS5
                  have HS5 := Lib.hid hS5
                  have Hrd := Lib.hid (reads_calls d p rp F G w5 hS5.oth.disk hS5.oth.ref hS5.oth.wf (by have := hS5.otr; omega) (hS5.err HG.out))
                  clear a1 a2 a3 a4 a5 a6 a7 hS5 HS4 Has
                  go_wp2_with fail
                  refine Hrd.out.mono ?_
                  rintro r w6 ⟨rfl, hb6⟩
                  have hS6 := HS5.out.to hb6
                  have HS6 := Lib.hid hS6
                  have Hrd := Lib.hid (reads_calls o p2 rp2 F2 G2 w6 hS6.main.disk hS6.main.ref hS6.main.wf (by have := hS6.main.trail; omega) (hS6.err HG.out))
                  clear hb6 hS6 HS5
                  go_wp2_with fail
                  refine Hrd.out.mono ?_
                  rintro r w7 ⟨rfl, hb7⟩
                  have hS7 := HS6.out.to hb7
                  have HS7 := Lib.hid hS7
                  have Hap := Lib.hid (bookApart_calls 0 bp _ bv7 ys7 w7 (by omega) hS7.main.book hS7.main.brow hS7.main.rows hS7.main.rap hS7.main.ycnt hS7.main.bap hS7.main.yne (Nat.zero_le _))
                  clear hb7 hS7 HS6 Hrd
                  go_wp2_with fail
                  refine Hap.out.mono ?_
                  rintro r w8 ⟨rfl, hm8⟩
                  have HB8 := Lib.hid (HS7.out.bel.1.trans (hm8.below HS7.out.bel.2.2 (fun k ⟨i, h1, h2⟩ => HS7.out.lo.1 k (.inr (.inr (.inr (.inr ⟨i, h1, h2⟩)))))))
                  clear hm8 HS7 Hap
                  go_wp2_with fail
                  go_ret
                  exact ⟨rfl, HB8.out⟩
        · have Hra := Lib.hid (refAfter_no d rp G at_ wr hI.ref ha)
          have Hda := Lib.hid (after_no d p F at_ wr hI.disk ha)
          have Hpl := Lib.hid (plain_any 1 wr (by omega) (by omega) (hI.err HG.out))
          rw [show errV 1 = errN 1 from rfl] at Hda Hpl
          unfold errN at Hda Hpl
          clear hI ha
          go_wp2_with fail
          refine Hra.out.mono ?_
          rintro r w4 ⟨rfl, rfl⟩
          go_wp2_with fail
          refine Hda.out.mono ?_
          rintro r w4 ⟨rfl, rfl⟩
          go_wp2_with fail
          refine Hpl.out.mono ?_
          rintro r w5 ⟨rfl, hb5⟩
          have hI5 := HI.out.to hb5
          have Has := Lib.hid (asked_calls d p rp bp 0 ys.length F G bv ys w5 hI5.disk hI5.ref hI5.book hI5.brow hI5.bne (by have := hI5.ycnt; omega) (Nat.zero_le _) (by have := hI5.trail; omega))
          have HI5 := Lib.hid hI5
          clear hb5 hI5 HI
          go_wp2_with fail
          refine Has.out.mono ?_
          rintro r w7 ⟨rfl, bv7, tv7, a1, a2, a3, a4, a5, a6, a7⟩
          have HB7 := Lib.hid ((HI5.out.asked a1 a2 a3 a4 a5 a6 a7).below.below (Nat.le_refl _) (fun _ h => h.elim))
          clear a1 a2 a3 a4 a5 a6 a7
          go_wp2_with fail
          go_ret
          exact ⟨rfl, HB7.out⟩
end Go.Proofs.YtmlckfdjiljjhaaDoor
