/-
  Texts of one proof, one behind the other.
-/
import Derived.Test.YtgcnolapjppbpaaGreatDoorK27
namespace Go.Proofs.YtgcnolapjppbpaaGreatDoor
open Go.RowKit
set_option maxRecDepth 100000
theorem IsDisk.grow' {w w' : World} {d : DiskM} {p : Nat} {F : Nat → Prop} (h : IsDisk w d p F) (hb : Below w.heap.size w w') : IsDisk w' d p F := h.grow hb
theorem OwnM.form {w : World} {base : Nat} {e : TypeId} {v : Value} {n : Nat} {xs : List Value} (h : OwnM w base e v n xs) : ∃ a c, v = .slice a n c := by
  obtain ⟨a, c, e, _⟩ := h.slice
  exact ⟨a, c, e⟩
theorem readB_eq (d : DiskM) (b : Int) : (d.read b).1 = SB (readB d b) := (SB_LB _).symm
theorem num4_drop (l : List UInt8) (i : Nat) : num4 (l.drop i) 0 = num4 l i := by
  unfold num4
  simp only [List.getD, List.getElem?_drop, Nat.add_zero, Nat.zero_add]
theorem liesM_done (d : DiskM) (f : Nat) (b : Int) (z : Nat) (acc : List UInt8) (h : ¬ acc.length < z) : liesM d f b z acc = some acc := by
  cases f with
  | zero => rfl
  | succ f => rw [liesM, if_neg h]
theorem liesM_no (d : DiskM) (f : Nat) (b : Int) (z : Nat) (acc : List UInt8) (hf : 0 < f) (h : acc.length < z) (h2 : (readB d b).length < min (z - acc.length) 256) : liesM d f b z acc = none := by
  obtain ⟨f, rfl⟩ := Nat.exists_eq_succ_of_ne_zero (Nat.pos_iff_ne_zero.1 hf)
  rw [liesM, if_pos h, if_pos h2]
theorem liesM_step (d : DiskM) (f : Nat) (b : Int) (z : Nat) (acc : List UInt8) (h : acc.length < z) (h2 : ¬ (readB d b).length < min (z - acc.length) 256) : liesM d (f + 1) b z acc = liesM d f (b + 1) z (acc ++ (readB d b).take (min (z - acc.length) 256)) := by
  rw [liesM, if_pos h, if_neg h2]
theorem read_errs0 (d : DiskM) (i : Int) : (d.read i).2 = 0 ∨ (d.read i).2 = 1 := by
  unfold DiskM.read; split
  · exact .inl rfl
  · exact .inr rfl
theorem readB_err {d : DiskM} {i : Int} (h : (d.read i).2 = 1) : readB d i = [] := by
  unfold readB DiskM.read at *
  split at h
  · simp at h
  · rename_i h1; rw [if_neg h1]; rfl
def Told (W : World) (r : Nat × List UInt8 × Int) (e : Ending) (W' : World) : Prop :=
  ∃ v, e = .returned (.tuple #[.int .u32 (r.1 : Int), v, errV r.2.2]) ∧ OwnM W' W.heap.size 5 v r.2.1.length (r.2.1.map V8) ∧ Below W.heap.size W W'
set_option maxHeartbeats 3200000 in
theorem load_calls (d : DiskM) (p : Nat) (F : Nat → Prop) (at_ n : Int) (w : World) (h : IsDisk w d p F) (ha : I64 at_) (hn : I64 n) (hs : ∀ b, (readB d b).length ≤ 9223372036854775807) :
    Calls Tryz.prog 90 #[.pointer (some ⟨p, 0, none⟩), .int .i64 at_, .int .i64 n] w (Told w (loadM d at_ n)) := by
  have hN : d.strs.length ≤ 4096 := by obtain ⟨bb, tv, pv, q, h1, h2, h3, h4, h5, _⟩ := h; exact h5
  have HD := Lib.hid h
  have Hs := Lib.hid hs
  by_cases hm : mayA d.strs.length at_ n
  · have Hf := Lib.hid (firsts_yes d p F at_ n w h hm)
    have hm0 := hm
    unfold mayA at hm0
    obtain ⟨m1, m2, m3⟩ := hm0
    have hn1 : n ≤ 4096 := by omega
    have ha1 : at_ ≤ 4096 := by omega
    have hr0 : (d.read at_).2 = 0 := by unfold DiskM.read; rw [if_pos (by omega)]
    have hld : loadM d at_ n = (if readB d at_ = [] then (0, [], 10)
      else if (readB d at_).length = 16 then
        if n * 256 < ((num4 (readB d at_) 4 : Nat) : Int) then (0, [], 21)
        else match liesM d (num4 (readB d at_) 4 + 1) (firstA at_ n (num4 (readB d at_) 0)) (num4 (readB d at_) 4) [] with
          | none => (0, [], 21)
          | some p => if hdrM (num4 (readB d at_) 0) p = readB d at_ then (num4 (readB d at_) 0, p, 0) else (0, [], 21)
      else (0, [], 21) : Nat × List UInt8 × Int) := by unfold loadM; rw [if_pos hm]; rfl
    have hrd := fun w (h : IsDisk w d p F) => read_any d p F at_ w h
    rw [readB_eq, hr0, show errV 0 = .nilIface from rfl] at hrd
    obtain ⟨s, hse⟩ : ∃ s, s = readB d at_ := ⟨_, rfl⟩
    rw [← hse] at hld hrd
    have hsl : s.length ≤ 9223372036854775807 := by rw [hse]; exact hs at_
    have Hrd := Lib.hid hrd
    have Hld := Lib.hid hld
    clear h hs ha hn hN m3 hm hr0 hld hrd hse
    by_cases hs0 : s = []
    · have hl : loadM d at_ n = (0, [], 10) := by rw [Hld.out, if_pos hs0]
      rw [hl]
      obtain ⟨st, hst⟩ : ∃ st, st = SB s := ⟨_, rfl⟩
      have hem : st.toList.isEmpty = true := by rw [hst, SB_toList, hs0]; rfl
      rw [← hst] at Hrd
      clear hst hs0 hl Hld
      go_enter Tryz.func90, Tryz.ntmps90
      go_wp2_with fail
      refine Hf.out.mono ?_
      rintro r w1 ⟨rfl, hb1⟩
      have hb2 := below_trans hb1 (below_alloc w1 (.cells #[.int .i64 (at_ + 1), .int .i64 (at_ + 1 + n)] 205))
      have HB2 := Lib.hid hb2
      have Hr2 := Lib.hid (Hrd.out _ (HD.out.grow hb2))
      clear hb1 hb2
      go_wp2_with fail
      refine Hr2.out.mono ?_
      rintro r w2 ⟨rfl, rfl⟩
      go_wp2_with fail
      go_ret3
      exact ⟨_, rfl, OwnM.nil _ _ _, HB2.out⟩
    · obtain ⟨st, hst⟩ : ∃ st, st = SB s := ⟨_, rfl⟩
      have hem : st.toList.isEmpty = false := by
        rw [hst, SB_toList]
        cases s with
        | nil => exact absurd rfl hs0
        | cons _ _ => rfl
      have hsz : st.size = s.length := by rw [hst, SB_size]
      rw [← hst] at Hrd
      by_cases h16 : s.length = 16
      · have hld2 : loadM d at_ n = (if n * 256 < ((num4 s 4 : Nat) : Int) then (0, [], 21)
          else match liesM d (num4 s 4 + 1) (firstA at_ n (num4 s 0)) (num4 s 4) [] with
            | none => (0, [], 21)
            | some p => if hdrM (num4 s 0) p = s then (num4 s 0, p, 0) else (0, [], 21) : Nat × List UInt8 × Int) := by rw [Hld.out, if_neg hs0, if_pos h16]
        obtain ⟨st4, hst4⟩ : ∃ st4, st4 = SB (s.drop 4) := ⟨_, rfl⟩
        have hsl4 : ∀ w, (Instr.slice 9 (.string st) (some (.int .i64 4)) none none).run Tryz.prog w = .ok (.string st4) w := fun w => by rw [hst, hst4]; exact sliceS w s 4 (by omega)
        have hw1 := fun w => word_calls s w (by omega) (by omega)
        have hw2 := fun w => word_calls (s.drop 4) w (by rw [List.length_drop]; omega) (by rw [List.length_drop]; omega)
        rw [num4_drop] at hw2
        obtain ⟨eu, heu⟩ : ∃ eu, eu = UInt32.ofNat (num4 s 0) := ⟨_, rfl⟩
        have hen : num4 s 0 = eu.toNat := by
          rw [heu]; show num4 s 0 = num4 s 0 % 2 ^ 32
          have := num4_lt s 0; omega
        obtain ⟨z, hz⟩ : ∃ z, z = num4 s 4 := ⟨_, rfl⟩
        have hzlt : z < 4294967296 := by rw [hz]; exact num4_lt s 4
        rw [← hst, hen] at hw1
        rw [← hst4, ← hz] at hw2
        rw [hen, ← hz] at hld2
        replace hw1 : ∀ w, Calls Tryz.prog 120 #[.string st] w fun e w' => e = .returned (.int .u32 (I32 eu)) ∧ ∃ k, w' = w.drewN k := hw1
        have hwr : IntKind.i64.wrap (z : Int) = (z : Int) := by
          have := hzlt
          simp [IntKind.wrap, IntKind.bits, IntKind.signed]; omega
        have Hw1 := Lib.hid hw1
        have Hw2 := Lib.hid hw2
        have Hld2 := Lib.hid hld2
        have Hst := Lib.hid hst
        have Hzl := Lib.hid hzlt
        clear hst hs0 hw1 hw2 hst4 heu hen hz hld2 Hld hzlt
        go_enter Tryz.func90, Tryz.ntmps90
        go_wp2_with fail
        refine Hf.out.mono ?_
        rintro r w1 ⟨rfl, hb1⟩
        have hb2 := below_trans hb1 (below_alloc w1 (.cells #[.int .i64 (at_ + 1), .int .i64 (at_ + 1 + n)] 205))
        have HB2 := Lib.hid hb2
        have Hr2 := Lib.hid (Hrd.out _ (HD.out.grow hb2))
        clear hb1 hb2
        go_wp2_with fail
        refine Hr2.out.mono ?_
        rintro r w2 ⟨rfl, rfl⟩
        go_wp2_with fail
        go_quiet (first | (go_at_call 120; first | with_reducible exact Calls.quiet_of (Hw1.out _) | with_reducible exact Calls.quiet_of (Hw2.out _)))
        have hbq : Below w.heap.size w ((w1.alloc (.cells #[.int .i64 (at_ + 1), .int .i64 (at_ + 1 + n)] 205)).drewN nq) := below_trans HB2.out ⟨rfl, rfl, rfl, Nat.le_refl _, fun _ _ => rfl⟩
        have HBq := Lib.hid hbq
        clear hbq Hw1 Hw2 hsl4 hwr
        by_cases hz : n * 256 < (z : Int)
        · have hl : loadM d at_ n = (0, [], 21) := by rw [Hld2.out, if_pos hz]
          have Hl := Lib.hid hl
          clear hl Hld2
          go_wp2_with fail
          go_ret3
          rw [Hl.out]
          exact ⟨_, rfl, OwnM.nil _ _ _, HBq.out⟩
        · obtain ⟨fb, hfb⟩ : ∃ fb, fb = firstA at_ n eu.toNat := ⟨_, rfl⟩
          have hld3 : loadM d at_ n = (match liesM d (z + 1) fb z [] with
            | none => (0, [], 21)
            | some p => if hdrM eu.toNat p = s then (eu.toNat, p, 0) else (0, [], 21) : Nat × List UInt8 × Int) := by rw [Hld2.out, if_neg hz, hfb]
          have hz' : decide (n * 256 < (z : Int)) = false := by simp; omega
          have HZ := Lib.hid (show z ≤ 1048576 by omega)
          obtain ⟨r2, hr2⟩ : ∃ r2, r2 = eu.toNat % 2 := ⟨_, rfl⟩
          have hI : I32 eu = (eu.toNat : Int) := rfl
          have hrm : (I32 eu).tmod 2 = (r2 : Int) := by rw [hI, Int.tmod_eq_emod_of_nonneg (by omega)]; omega
          have hr0 : (0 : Int) ≤ (r2 : Int) := by omega
          have hr1 : (r2 : Int) < 2 := by omega
          have hcell : ((w1.alloc (.cells #[.int .i64 (at_ + 1), .int .i64 (at_ + 1 + n)] 205)).drewN nq).cell? ⟨w1.heap.size, r2, none⟩ = some (.int .i64 fb) := by
            show (w1.alloc (.cells #[.int .i64 (at_ + 1), .int .i64 (at_ + 1 + n)] 205)).cell? ⟨w1.heap.size, r2, none⟩ = some (.int .i64 fb)
            refine (Box.new w1 _ _).cell r2 _ ?_
            have : r2 = 0 ∨ r2 = 1 := by omega
            rw [hfb]; unfold firstA; rw [← hr2]
            rcases this with rfl | rfl
            · simp
            · simp
          have hfb01 : 0 ≤ fb ∧ fb ≤ 10000 := by
            rw [hfb]; unfold firstA; rw [← hr2]
            have : r2 = 0 ∨ r2 = 1 := by omega
            rcases this with rfl | rfl <;> simp <;> omega
          have hfb0 := hfb01.1
          have Hfb := Lib.hid hfb01.2
          have Hld3 := Lib.hid hld3
          generalize (w1.alloc (.cells #[.int .i64 (at_ + 1), .int .i64 (at_ + 1 + n)] 205)).drewN nq = w2 at HBq hcell ⊢
          clear hfb hr2 hI hfb01 hld3 Hld2 hz
          go_wp2_with fail
          obtain ⟨wo, hwo⟩ : ∃ wo : World, wo = w2 := ⟨_, rfl⟩
          rw [← hwo] at HBq ⊢
          clear hcell hwo
          go_loopg [15, 16] z (fun gk dv bv wr => ∃ (acc : List UInt8) (b : Int) (f : Nat), gk = z - acc.length ∧ bv = .int .i64 b ∧ OwnM wr w.heap.size 5 dv acc.length (acc.map V8) ∧ Below w.heap.size w wr ∧ liesM d (z + 1) fb z [] = liesM d f b z acc ∧ z - acc.length < f ∧ acc.length ≤ z ∧ 0 ≤ b ∧ b ≤ fb + acc.length)
          case atStart => exact ⟨[], fb, z + 1, rfl, rfl, OwnM.nil _ _ _, HBq.out, rfl, Nat.lt_succ_self _, Nat.zero_le _, hfb0, by simp⟩
          case round =>
            clear HBq
            obtain ⟨acc, b, f, hgk, rfl, hown, hbw, hlies, hf, hal, hb0, hb1⟩ := hrel
            obtain ⟨da, dc, rfl⟩ := hown.form
            have Hgk := Lib.hid hgk
            have HO := Lib.hid hown
            have HB := Lib.hid hbw
            have HLi := Lib.hid hlies
            have Hf' := Lib.hid hf
            have hb9 : b < 1000000000 := by have := HZ.out; have := Hfb.out; omega
            clear hgk hown hbw hlies hf
            by_cases hlt : acc.length < z
            · have hlt1 : (acc.length : Int) < (z : Int) := by omega
              have hrdb := read_any d p F b wr (HD.out.grow' HB.out)
              rw [readB_eq] at hrdb
              obtain ⟨k, hk⟩ : ∃ k, k = min (z - acc.length) 256 := ⟨_, rfl⟩
              have hmi : ∀ ts t w', (Builtin.min_ ts t #[.int .i64 ((z : Int) - (acc.length : Int)), .int .i64 256]).run Tryz.prog w' = .ok (.int .i64 (k : Int)) w' := fun ts t w' => by
                rw [run_min_int2]
                congr 2
                by_cases h : (256 : Int) < (z : Int) - (acc.length : Int)
                · rw [if_pos h]; omega
                · rw [if_neg h]; omega
              obtain ⟨t, ht⟩ : ∃ t, t = readB d b := ⟨_, rfl⟩
              have htl : t.length ≤ 9223372036854775807 := by rw [ht]; exact Hs.out b
              have hno : t.length < k → liesM d (z + 1) fb z [] = none := fun h => by
                rw [HLi.out]; exact liesM_no d f b z acc (by have := Hf'.out; omega) hlt (by rw [← ht, ← hk]; exact h)
              have hyes : ¬ t.length < k → liesM d (z + 1) fb z [] = liesM d (f - 1) (b + 1) z (acc ++ t.take k) := fun h => by
                rw [HLi.out]
                have hf := Hf'.out
                obtain ⟨g, rfl⟩ : ∃ g, f = g + 1 := ⟨f - 1, by omega⟩
                rw [liesM_step d g b z acc hlt (by rw [← ht, ← hk]; exact h), ← ht, ← hk]; rfl
              have her := read_errs0 d b
              have hemp : (d.read b).2 = 1 → t = [] := fun h => by rw [ht]; exact readB_err h
              rw [← ht] at hrdb
              obtain ⟨tx, htx⟩ : ∃ tx, tx = SB t := ⟨_, rfl⟩
              have htsz : tx.size = t.length := by rw [htx, SB_size]
              rw [← htx] at hrdb
              have hk0 : 0 < k := by omega
              have hsub : IntKind.i64.wrap ((z : Int) - (acc.length : Int)) = (z : Int) - (acc.length : Int) := by
                have := HZ.out
                simp [IntKind.wrap, IntKind.bits, IntKind.signed]; omega
              have hsub2 : wrap64 ((z : Int) - (acc.length : Int)) = (z : Int) - (acc.length : Int) := by
                have := HZ.out
                unfold wrap64; omega
              have hkz : acc.length + k ≤ z := by omega
              have Hrdb := Lib.hid hrdb
              have Hno := Lib.hid hno
              have Hyes := Lib.hid hyes
              have Htx := Lib.hid htx
              have Hsub := Lib.hid (And.intro hsub hsub2)
              have hz8 : (z : Int) ≤ 1048576 := by have := HZ.out; omega
              clear hrdb hno hyes ht htx hsub hsub2 hk
              by_cases hlk : t.length < k
              · have hl : loadM d at_ n = (0, [], 21) := by rw [Hld3.out, Hno.out hlk]
                have Hl := Lib.hid hl
                have hlk1 : (t.length : Int) < (k : Int) := by omega
                clear hl Hno Hyes
                rcases her with h0 | h0
                · rw [h0, show errV 0 = .nilIface from rfl] at Hrdb
                  clear hemp h0
                  go_wp2_with fail
                  refine Hrdb.out.mono ?_
                  rintro r w3 ⟨rfl, rfl⟩
                  go_wp2_with fail
                  go_ret3
                  rw [Hl.out]
                  exact ⟨_, rfl, OwnM.nil _ _ _, HB.out⟩
                · rw [h0, show errV 1 = .iface 91 (.int .i64 1) from rfl] at Hrdb
                  clear hemp h0
                  go_wp2_with fail
                  refine Hrdb.out.mono ?_
                  rintro r w3 ⟨rfl, rfl⟩
                  go_wp2_with fail
                  go_ret3
                  rw [Hl.out]
                  exact ⟨_, rfl, OwnM.nil _ _ _, HB.out⟩
              · rcases her with h0 | h0
                · rw [h0, show errV 0 = .nilIface from rfl] at Hrdb
                  have hlk1 : decide ((t.length : Int) < (k : Int)) = false := by simp; omega
                  have hst := fun w => sliceTo w t k (by omega)
                  rw [← Htx.out] at hst
                  obtain ⟨tk, htk⟩ : ∃ tk, tk = SB (t.take k) := ⟨_, rfl⟩
                  rw [← htk] at hst
                  have Htk := Lib.hid htk
                  have Hy := Lib.hid (Hyes.out hlk)
                  have htkl : (t.take k).length = k := by rw [List.length_take]; omega
                  have Htkl := Lib.hid htkl
                  have hsz := HB.out.size
                  clear hemp h0 htk htkl Hyes Hno
                  go_wp2_with fail
                  refine Hrdb.out.mono ?_
                  rintro r w3 ⟨rfl, rfl⟩
                  go_wp2_with (at_builtin; refine appMS rfl _ _ rfl w.heap.size _ _ _ rfl HO.out (t.take k) (by show Value.string tk = _; rw [Htk.out]) (by rw [Htkl.out]; have := HZ.out; omega) hsz ?_)
                  intro v' w4 hown' hg' _
                  have hb4 := HB.out.trans (below_grown hg' hsz (fun q hq => (HO.out.lt q hq).1))
                  rw [← List.map_take, ← List.map_append, Nat.min_eq_left (by omega)] at hown'
                  have HN := Lib.hid (And.intro hown' hb4)
                  clear hown' hg' hb4
                  go_wp2_with fail
                  go_roundg (z - (acc.length + k))
                  case measure => have := Hgk.out; omega
                  case rel => exact ⟨acc ++ t.take k, b + 1, f - 1, by rw [List.length_append, Htkl.out], by go_num, by rw [List.length_append, Htkl.out]; exact HN.out.1, HN.out.2, Hy.out, by rw [List.length_append, Htkl.out]; have := Hf'.out; omega, by rw [List.length_append, Htkl.out]; omega, by omega, by rw [List.length_append, Htkl.out]; omega⟩
                · exfalso
                  have := hemp h0
                  rw [this] at hlk
                  exact hlk hk0
            · have hlt1 : ¬ ((acc.length : Int) < (z : Int)) := by omega
              have hl : liesM d (z + 1) fb z [] = some acc := by rw [HLi.out, liesM_done _ _ _ _ _ hlt]
              have hld4 : loadM d at_ n = if hdrM eu.toNat acc = s then (eu.toNat, acc, 0) else (0, [], 21) := by rw [Hld3.out, hl]
              have Hh := Lib.hid (header_calls eu (.slice da acc.length dc) acc wr HO.out.rd)
              have hhl := hdrM_length eu.toNat acc
              by_cases he : hdrM eu.toNat acc = s
              · rw [if_pos he] at hld4
                rw [he, ← Hst.out] at Hh
                have Hl := Lib.hid hld4
                clear hl hld4 he hhl
                go_wp2_with fail
                refine Hh.out.mono ?_
                rintro r w3 ⟨rfl, hb3⟩
                have HN := Lib.hid (And.intro (HO.out.below hb3) (below_trans HB.out hb3))
                have hself : ((st.toList == st.toList) = true) := by simp
                clear hb3
                go_wp2_with fail
                go_ret3
                rw [Hl.out]
                exact ⟨_, rfl, HN.out.1, HN.out.2⟩
              · rw [if_neg he] at hld4
                have hne : ((SB (hdrM eu.toNat acc)).toList == st.toList) = false := by rw [Hst.out, SB_toList, SB_toList, beq_eq_false_iff_ne]; exact he
                obtain ⟨hx, hhx⟩ : ∃ hx, hx = SB (hdrM eu.toNat acc) := ⟨_, rfl⟩
                rw [← hhx] at Hh hne
                have Hl := Lib.hid hld4
                clear hl hld4 he hhl hhx
                go_wp2_with fail
                refine Hh.out.mono ?_
                rintro r w3 ⟨rfl, hb3⟩
                have HN := Lib.hid (below_trans HB.out hb3)
                clear hb3
                go_wp2_with fail
                go_ret3
                rw [Hl.out]
                exact ⟨_, rfl, OwnM.nil _ _ _, HN.out⟩
      · have hl : loadM d at_ n = (0, [], 21) := by rw [Hld.out, if_neg hs0, if_neg h16]
        rw [hl]
        have hl16 : ¬ ((s.length : Int) = 16) := by omega
        clear hst hs0 hl Hld
        go_enter Tryz.func90, Tryz.ntmps90
        go_wp2_with fail
        refine Hf.out.mono ?_
        rintro r w1 ⟨rfl, hb1⟩
        have hb2 := below_trans hb1 (below_alloc w1 (.cells #[.int .i64 (at_ + 1), .int .i64 (at_ + 1 + n)] 205))
        have HB2 := Lib.hid hb2
        have Hr2 := Lib.hid (Hrd.out _ (HD.out.grow hb2))
        clear hb1 hb2
        go_wp2_with fail
        refine Hr2.out.mono ?_
        rintro r w2 ⟨rfl, rfl⟩
        go_wp2_with fail
        go_ret3
        exact ⟨_, rfl, OwnM.nil _ _ _, HB2.out⟩
  · have e1 : loadM d at_ n = (0, [], 1) := by unfold loadM; rw [if_neg hm]
    rw [e1]
    have Hf := Lib.hid (firsts_no d p F at_ n w h hm ha hn)
    clear h hs ha hn hN hm e1
    go_enter Tryz.func90, Tryz.ntmps90
    go_wp2_with fail
    refine Hf.out.mono ?_
    rintro r w1 ⟨rfl, hb1⟩
    have HB1 := Lib.hid hb1
    clear hb1
    go_wp2_with fail
    go_ret3
    exact ⟨_, rfl, OwnM.nil _ _ _, below_trans HB1.out (below_alloc _ _)⟩
end Go.Proofs.YtgcnolapjppbpaaGreatDoor
