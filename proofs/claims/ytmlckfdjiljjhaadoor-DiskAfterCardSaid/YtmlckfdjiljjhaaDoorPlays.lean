/-
  The walk of DiskPlays (over a contract of the book's Apart).
-/
import Derived.Test.YtmlckfdjiljjhaaDoorDoes
import Derived.Test.YtmlckfdjiljjhaaDoorBookA
namespace Go.Proofs.YtmlckfdjiljjhaaDoor
open Go.RowKit
set_option maxRecDepth 100000

/-- Behind the book's Apart: the disks and the book are as they were. -/
theorem PlayI.parted {A : Nat → Prop} {W0 : World} {p rp bp c : Nat} {d : DiskM} {F G : Nat → Prop} {bv : Value} {ys : List Value} {W W' : World} (h : PlayI A W0 p rp bp c d F G bv ys W) (hm : Mod (fun b => ∃ i, i < ys.length ∧ (ys.getD i undef).ownBlock = some b) W W') :
    IsDisk W' d p F ∧ IsRef W' d rp G ∧ Box W' bp (bookC bv) 43 ∧ W'.ownsRow 0 57 1 bv ys.length ys ∧ Mod A W0 W' :=
  ⟨h.disk.mod hm (fun k hk ⟨i, h1, h2⟩ => (h.fb k (.inl hk)).2.2 i h1 h2), h.ref.mod hm (fun k hk ⟨i, h1, h2⟩ => (h.fb k (.inr hk)).2.2 i h1 h2), Box.mod h.book hm (fun ⟨i, h1, h2⟩ => h.yne i h1 h2), own_mod h.brow hm (fun k hk ⟨i, h1, h2⟩ => h.bap i h1 k hk h2),
    h.below.then hm (fun k ⟨i, h1, h2⟩ => h.all k (.inr (.inr (.inr (.inr ⟨i, h1, h2⟩)))))⟩
def flatActs (l : List (Int × Int × ByteArray)) : List Value := l.flatMap fun r => [.int .i64 r.1, .int .i64 r.2.1, .string r.2.2]
theorem flatActs_length (l : List (Int × Int × ByteArray)) : (flatActs l).length = l.length * 3 := by
  induction l with
  | nil => rfl
  | cons a l ih => simp only [flatActs, List.flatMap_cons, List.length_append] at ih ⊢; simp [ih]; omega
theorem flatActs_get (l : List (Int × Int × ByteArray)) (k : Nat) (h : k < l.length) : (flatActs l)[k * 3]? = some (.int .i64 l[k].1) ∧ (flatActs l)[k * 3 + 1]? = some (.int .i64 l[k].2.1) ∧ (flatActs l)[k * 3 + 2]? = some (.string l[k].2.2) := by
  induction l generalizing k with
  | nil => simp at h
  | cons a l ih =>
    cases k with
    | zero => simp [flatActs]
    | succ k =>
      have := ih k (by simpa using h)
      have e : flatActs (a :: l) = .int .i64 a.1 :: .int .i64 a.2.1 :: .string a.2.2 :: flatActs l := by simp [flatActs]
      rw [e, show (k + 1) * 3 = k * 3 + 1 + 1 + 1 by omega, show k * 3 + 1 + 1 + 1 + 1 = (k * 3 + 1) + 1 + 1 + 1 by omega, show k * 3 + 1 + 1 + 1 + 2 = (k * 3 + 2) + 1 + 1 + 1 by omega]
      simpa using this
theorem act_at {W : World} {a : Option Addr} {c : Nat} {l : List (Int × Int × ByteArray)} (h : Rd W (.slice a l.length c) l.length (flatActs l)) (k : Nat) (hk : k < l.length) :
    ∃ b off, a = some ⟨b, off, none⟩ ∧ W.cell? ⟨b, off + k * 3, none⟩ = some (.int .i64 l[k].1) ∧ W.cell? ⟨b, off + k * 3 + 1, none⟩ = some (.int .i64 l[k].2.1) ∧ W.cell? ⟨b, off + k * 3 + 2, none⟩ = some (.string l[k].2.2) := by
  obtain ⟨a0, cap0, g1, _, _, _, g2⟩ := h
  injection g1 with g1 _ g3
  subst g1
  obtain ⟨e1, e2, e3⟩ := flatActs_get l k hk
  obtain ⟨b, off, f1, f2⟩ := g2 (k * 3) (by rw [flatActs_length]; omega)
  obtain ⟨b1, off1, f3, f4⟩ := g2 (k * 3 + 1) (by rw [flatActs_length]; omega)
  obtain ⟨b2, off2, f5, f6⟩ := g2 (k * 3 + 2) (by rw [flatActs_length]; omega)
  rw [f1] at f3 f5
  injection f3 with f3; injection f3 with f7 f8
  injection f5 with f5; injection f5 with f9 f10
  subst f7; subst f8; subst f9; subst f10
  rw [List.getD, e1] at f2
  rw [List.getD, e2, ← Nat.add_assoc] at f4
  rw [List.getD, e3, ← Nat.add_assoc] at f6
  exact ⟨b, off, f1, f2, f4, f6⟩
set_option maxHeartbeats 3200000 in
theorem diskPlays_calls (n : Int) (sv : Value) (acts : List (Int × Int × ByteArray)) (W : World) (hv : Rd W sv acts.length (flatActs acts)) (hok : ∀ a ∈ acts, -9223372036854775808 ≤ a.1 ∧ a.1 ≤ 9223372036854775807 ∧ -9223372036854775808 ≤ a.2.1 ∧ a.2.1 ≤ 9223372036854775807 ∧ a.2.2.size ≤ 9223372036854775807)
    (hg : ErrType W) (hn1 : -9223372036854775808 ≤ n) (hn2 : n ≤ 9223372036854775807) :
    Calls Tryd.prog 3 #[.int .i64 n, sv] W fun e W' => e = .returned (.bool true) ∧ Below W.heap.size W W' := by
  obtain ⟨sa, sc, rfl⟩ : ∃ a c, sv = .slice a acts.length c := by obtain ⟨a, c, h, _⟩ := hv; exact ⟨a, c, h⟩
  have HV := Lib.hid hv
  have Hok := Lib.hid hok
  have HG := Lib.hid hg
  clear hv hok hg
  by_cases hno : n < 1 ∨ 4096 < n
  · have H1 := Lib.hid (refNew_no n W hno)
    have H2 := Lib.hid (new_no n W hno)
    have H3 := Lib.hid (plain_any 1 W (by omega) (by omega) HG.out)
    rw [show errV 1 = errN 1 from rfl] at H2 H3
    unfold errN at H2 H3
    clear hno
    go_enter Tryd.func3, Tryd.ntmps3
    go_wp2_with fail
    refine H1.out.mono ?_
    rintro r w1 ⟨rfl, rfl⟩
    go_wp2_with fail
    refine H2.out.mono ?_
    rintro r w2 ⟨rfl, rfl⟩
    go_wp2_with fail
    refine H3.out.mono ?_
    rintro r w3 ⟨rfl, hb3⟩
    have HB3 := Lib.hid hb3
    clear hb3
    go_wp2_with fail
    go_ret
    exact ⟨rfl, HB3.out⟩
  · obtain ⟨N, rfl⟩ := Int.eq_ofNat_of_zero_le (show 0 ≤ n by omega)
    have H1 := Lib.hid (refNew_yes N W (by omega) (by omega))
    have H2 := Lib.hid (fun w => new_yes N w (by omega) (by omega))
    clear hno
    go_enter Tryd.func3, Tryd.ntmps3
    go_wp2_with fail
    refine H1.out.mono ?_
    rintro r w1 ⟨rfl, G, hr, hb1, hG⟩
    obtain ⟨rp, hrp⟩ : ∃ rp, rp = W.heap.size := ⟨_, rfl⟩
    rw [← hrp] at hr ⊢
    have HR := Lib.hid hr
    have HB1 := Lib.hid hb1
    have HGe := Lib.hid hG
    have Hrp := Lib.hid (show rp = W.heap.size from hrp)
    clear hr hb1 hG H1 hrp
    go_wp2_with fail
    refine (H2.out _).mono ?_
    rintro r w2 ⟨p, F, rfl, hd, hb2, hF⟩
    rw [show errV 0 = .nilIface from rfl]
    have HD := Lib.hid hd
    have HR2 := Lib.hid (HR.out.below hb2)
    have HB2 := Lib.hid (below_trans HB1.out hb2)
    have HFe := Lib.hid (fun k hk => Nat.le_trans HB1.out.size (hF k hk))
    have HFG := Lib.hid (show ∀ k, F k → ¬ G k from fun k hf hg => by have := hF k hf; have := HR.out.lt k hg; omega)
    clear hd hb2 hF H2 HR HB1
    go_wp2_with fail
    refine (plain_nil _).mono ?_
    rintro r w3 ⟨rfl, hb3⟩
    have HB3 := Lib.hid (below_trans HB2.out hb3)
    have HD3 := Lib.hid (HD.out.mod (Mod.of_below (F := fun _ => False) hb3) (fun _ _ h => h))
    have HR3 := Lib.hid (HR2.out.below hb3)
    clear hb3 HB2 HD HR2
    by_cases h2 : 2000 < acts.length
    · have h2' : (2000 : Int) < (acts.length : Int) := by omega
      go_wp2_with fail
      go_ret
      exact ⟨rfl, HB3.out⟩
    have h2' : decide ((2000 : Int) < (acts.length : Int)) = false := by simp; omega
    have h2n : decide (2000 < acts.length) = false := by simp; omega
    obtain ⟨d0, hd0⟩ : ∃ d0 : DiskM, d0 = { strs := List.replicate N ByteArray.empty, trail := [], left := none } := ⟨_, rfl⟩
    have hwf : d0.Wf := by rw [hd0]; exact DiskM.Wf.new N none
    have htr : d0.trail.length = 0 := by rw [hd0]; rfl
    rw [← hd0] at HD3 HR3
    have hbA := below_alloc w3 (.cells (bookC (.slice none 0 0)) 43)
    have hI0 : PlayI (fun _ => False) W p rp w3.heap.size 0 d0 F G (.slice none 0 0) [] (w3.alloc (.cells (bookC (.slice none 0 0)) 43)) :=
      ⟨HD3.out.mod (Mod.of_below (F := fun _ => False) hbA) (fun _ _ h => h), HR3.out.below hbA, hwf, by omega, Box.new _ _ _, World.ownsRow_nil _ _ _ _, fun i hi => by simp at hi, fun i j _ hj => by simp at hj, Nat.le_refl _, by simp [Value.ownBlock], HFG.out,
        fun k hk => ⟨fun e => by
          rcases hk with hk | hk
          · have := HD3.out.lt k hk; omega
          · have := HR3.out.lt k hk; omega, by simp [Value.ownBlock], fun i hi => by simp at hi⟩,
        fun i hi => by simp at hi, fun i hi => by simp at hi, fun k hk => by
          right
          rcases hk with hk | hk | hk | hk | ⟨i, hi, _⟩
          · exact HFe.out k hk
          · exact HGe.out k hk
          · rw [hk]; exact HB3.out.size
          · simp [Value.ownBlock] at hk
          · simp at hi, fun h => h, Mod.of_below (below_trans HB3.out hbA)⟩
    have HI0 := Lib.hid hI0
    clear hI0 hbA hwf htr hd0 HD3 HR3 HFG HFe HGe HB3 Hrp
    go_wp2_with fail
    obtain ⟨bp, hbp⟩ : ∃ bp, bp = w3.heap.size := ⟨_, rfl⟩
    rw [← hbp] at HI0 ⊢
    have hlen : acts.length ≤ 2000 := by omega
    clear hbp
    go_loopg [10] acts.length (fun gk iv wr => ∃ (k : Nat) (d : DiskM) (F G : Nat → Prop) (bv : Value) (ys : List Value), gk + k = acts.length ∧ iv = .int .i64 (k : Int) ∧ PlayI (fun _ => False) W p rp bp k d F G bv ys wr)
    case atStart => exact ⟨0, _, _, _, _, _, rfl, rfl, HI0.out⟩
    case round =>
      clear HI0
      obtain ⟨k, d, F, G, bv, ys, hgk, rfl, hI⟩ := hrel
      by_cases hk : k < acts.length
      · have hk1 : (k : Int) < (acts.length : Int) := by omega
        have hk0 : (0 : Int) ≤ (k : Int) := by omega
        obtain ⟨b, off, rfl, x1, x2, x3⟩ := act_at (HV.out.below (hI.below.below (Nat.le_refl _) (fun _ h => h.elim))) k hk
        have ho := Hok.out acts[k] (List.getElem_mem hk)
        generalize acts[k] = act at x1 x2 x3 ho
        obtain ⟨kind, num, s⟩ := act
        have x1 : wr.cell? ⟨b, off + k * 3, none⟩ = some (.int .i64 kind) := x1
        have x2 : wr.cell? ⟨b, off + k * 3 + 1, none⟩ = some (.int .i64 num) := x2
        have x3 : wr.cell? ⟨b, off + k * 3 + 2, none⟩ = some (.string s) := x3
        have Hdo := Lib.hid (does_calls kind num s p rp bp k d F G bv ys (fun _ => False) W wr hI HG.out (by omega) ho.1 ho.2.1 ho.2.2.1 ho.2.2.2.1 ho.2.2.2.2)
        have Hgk := Lib.hid hgk
        clear hI hgk ho
        go_wp2_with fail
        refine Hdo.out.mono ?_
        rintro r w4 ⟨rfl, d', F', G', bv', ys', hN⟩
        have HN := Lib.hid hN
        clear hN Hdo x1 x2 x3
        go_wp2_with fail
        go_roundg (acts.length - (k + 1))
        case measure => have := Hgk.out; omega
        case rel => exact ⟨k + 1, d', F', G', bv', ys', by have := Hgk.out; omega, by go_num, HN.out⟩
      · obtain rfl : k = acts.length := by omega
        have HI := Lib.hid hI
        have Has := Lib.hid (asked_calls d p rp bp 0 ys.length F G bv ys wr hI.disk hI.ref hI.book hI.brow hI.bne (by have := hI.ycnt; omega) (Nat.zero_le _) (by have := hI.trail; omega))
        clear hI hgk
        go_wp2_with fail
        refine Has.out.mono ?_
        rintro r w4 ⟨rfl, bv4, tv4, a1, a2, a3, a4, a5, a6, a7⟩
        have hI4 := HI.out.asked a1 a2 a3 a4 a5 a6 a7
        have Hrd := Lib.hid (reads_calls d p rp F G w4 hI4.disk hI4.ref hI4.wf (by have := hI4.trail; omega) (hI4.err HG.out))
        have HI4 := Lib.hid hI4
        clear a1 a2 a3 a4 a5 a6 a7 hI4 Has HI
        go_wp2_with fail
        refine Hrd.out.mono ?_
        rintro r w5 ⟨rfl, hb5⟩
        have HI5 := Lib.hid (HI4.out.to hb5)
        clear hb5 HI4 Hrd
        go_wp2_with fail
        refine (bookApart_calls 0 bp _ bv4 _ w5 (by omega) HI5.out.book HI5.out.brow HI5.out.rows HI5.out.rap HI5.out.ycnt HI5.out.bap HI5.out.yne (Nat.zero_le _)).mono ?_
        rintro r w6 ⟨rfl, hm6⟩
        have HQ := Lib.hid (HI5.out.parted hm6)
        have Has := Lib.hid (asked_calls d p rp bp 0 _ F G _ _ w6 HQ.out.1 HQ.out.2.1 HQ.out.2.2.1 HQ.out.2.2.2.1 HI5.out.bne (by have := HI5.out.ycnt; omega) (Nat.zero_le _) (by have := HI5.out.trail; omega))
        have HF := Lib.hid (show ∀ k, (k = bp ∨ bv4.ownBlock = some k) → False ∨ W.heap.size ≤ k from fun k hk => by
          rcases hk with rfl | hk
          · exact HI5.out.all _ (.inr (.inr (.inl rfl)))
          · exact HI5.out.all k (.inr (.inr (.inr (.inl hk)))))
        clear hm6 HI5
        go_wp2_with fail
        refine Has.out.mono ?_
        rintro r w7 ⟨rfl, bv7, tv7, a1, a2, a3, a4, a5, a6, a7⟩
        have HB7 := Lib.hid ((HQ.out.2.2.2.2.then a4 HF.out).below (Nat.le_refl _) (fun _ h => h.elim))
        clear a1 a2 a3 a4 a5 a6 a7
        go_wp2_with fail
        go_ret
        exact ⟨rfl, HB7.out⟩
end Go.Proofs.YtmlckfdjiljjhaaDoor
