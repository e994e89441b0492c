/-
  Texts of one proof, one behind the other.
-/
import Derived.Test.YtgcnolapjppbpaaGreatDoorK26
import Derived.Test.YtgcnolapjppbpaaGreatDoorK02
import Derived.LaidEql
import Derived.Stop.Asserts
namespace Go.Proofs.YtgcnolapjppbpaaGreatDoor
open Go.RowKit
set_option maxRecDepth 100000
theorem word_calls (l : List UInt8) (w : World) (h : 4 ≤ l.length) (hl : l.length ≤ 9223372036854775807) :
    Calls Tryz.prog 120 #[.string (SB l)] w fun e w' => e = .returned (.int .u32 ((num4 l 0 : Nat) : Int)) ∧ ∃ k, w' = w.drewN k := by
  obtain ⟨c0, hc0⟩ : ∃ c, c = (l.getD 0 0).toNat := ⟨_, rfl⟩
  obtain ⟨c1, hc1⟩ : ∃ c, c = (l.getD 1 0).toNat := ⟨_, rfl⟩
  obtain ⟨c2, hc2⟩ : ∃ c, c = (l.getD 2 0).toNat := ⟨_, rfl⟩
  obtain ⟨c3, hc3⟩ : ∃ c, c = (l.getD 3 0).toNat := ⟨_, rfl⟩
  have hlt : ∀ i : Nat, (l.getD i 0).toNat < 256 := fun i => UInt8.toNat_lt _
  have h0 : c0 < 256 := by rw [hc0]; exact hlt 0
  have h1 : c1 < 256 := by rw [hc1]; exact hlt 1
  have h2 : c2 < 256 := by rw [hc2]; exact hlt 2
  have h3 : c3 < 256 := by rw [hc3]; exact hlt 3
  have i0 : ∀ w', (Instr.index 9 (.string (SB l)) (.int .i64 0)).run Tryz.prog w' = .ok (.int .u8 (c0 : Int)) w' := fun w' => by rw [hc0]; exact indexS w' l 0 (by omega)
  have i1 : ∀ w', (Instr.index 9 (.string (SB l)) (.int .i64 1)).run Tryz.prog w' = .ok (.int .u8 (c1 : Int)) w' := fun w' => by rw [hc1]; exact indexS w' l 1 (by omega)
  have i2 : ∀ w', (Instr.index 9 (.string (SB l)) (.int .i64 2)).run Tryz.prog w' = .ok (.int .u8 (c2 : Int)) w' := fun w' => by rw [hc2]; exact indexS w' l 2 (by omega)
  have i3 : ∀ w', (Instr.index 9 (.string (SB l)) (.int .i64 3)).run Tryz.prog w' = .ok (.int .u8 (c3 : Int)) w' := fun w' => by rw [hc3]; exact indexS w' l 3 (by omega)
  have hor := or32 c0 c1 c2 c3 h0 h1 h2 h3
  have hres : c0 + 256 * c1 + 65536 * c2 + 16777216 * c3 = num4 l 0 := by rw [hc0, hc1, hc2, hc3]; rfl
  obtain ⟨s, hs⟩ : ∃ s, s = num4 l 0 := ⟨_, rfl⟩
  rw [hres, ← hs] at hor
  rw [← hs]
  clear hs hres hc0 hc1 hc2 hc3 hlt
  go_enter Tryz.func120, Tryz.ntmps120
  go_wp2_with fail
  go_quiet (fail)
  go_wp2_with fail
  go_ret
  exact ⟨rfl, _, rfl⟩
theorem putAll_step (d : DiskM) (b : Int) (f : Nat) (p : List UInt8) (hp : p ≠ []) (h0 : (d.write b (SB (p.take 256))).2 = 0) : putAll d b (chunks (f + 1) p) = putAll (d.write b (SB (p.take 256))).1 (b + 1) (chunks f (p.drop 256)) := by
  rw [chunks, if_neg hp, putAll, if_pos h0]
theorem putAll_stop (d : DiskM) (b : Int) (f : Nat) (p : List UInt8) (hp : p ≠ []) (h0 : (d.write b (SB (p.take 256))).2 ≠ 0) : putAll d b (chunks (f + 1) p) = d.write b (SB (p.take 256)) := by
  rw [chunks, if_neg hp, putAll, if_neg h0]
theorem putAll_nil (d : DiskM) (b : Int) (f : Nat) : putAll d b (chunks f []) = (d, 0) := by
  cases f <;> simp [chunks, putAll]
theorem chunks_more : ∀ (f g : Nat) (p : List UInt8), p.length ≤ f → p.length ≤ g → chunks f p = chunks g p
  | 0, g, p, h, _ => by
    have : p = [] := List.eq_nil_of_length_eq_zero (by omega)
    subst this; cases g <;> simp [chunks]
  | f + 1, 0, p, _, h => by
    have : p = [] := List.eq_nil_of_length_eq_zero (by omega)
    subst this; simp [chunks]
  | f + 1, g + 1, p, h1, h2 => by
    rw [chunks, chunks]
    split
    · rfl
    · rename_i hp
      have : 0 < p.length := List.length_pos_iff.2 hp
      rw [chunks_more f g (p.drop 256) (by rw [List.length_drop]; omega) (by rw [List.length_drop]; omega)]
theorem tailV_block {a : Option Addr} {n cap k : Nat} : ∀ b, (tailV a n cap k).ownBlock = some b → (Value.slice a n cap).ownBlock = some b := by
  intro b h
  unfold tailV at h
  split at h
  · cases a with
    | none => simp [Value.ownBlock] at h
    | some a => simpa [Value.ownBlock] using h
  · cases a with
    | none => simp [Value.ownBlock] at h
    | some a =>
      cases a with
      | mk b' o s =>
        have : ((⟨b', o, s⟩ : Addr).add k).block = b' := by unfold Addr.add; split <;> first | rfl | (split <;> rfl)
        simp only [Option.map_some, Value.ownBlock, this] at h ⊢
        exact h
theorem Rd.blk {w : World} {v : Value} {n : Nat} {xs : List Value} (h : Rd w v n xs) (hx : 0 < xs.length) : ∀ k, v.ownBlock = some k → k < w.heap.size := by
  intro k hk
  obtain ⟨b, off, cap, rfl, hc⟩ := h.at 0 hx
  simp [Value.ownBlock] at hk
  subst hk
  exact cell_lt hc
theorem Rd.mod0 {w w' : World} {v : Value} {n : Nat} {xs : List Value} {F : Nat → Prop} (h : Rd w v n xs) (hm : Mod F w w') (hb : 0 < xs.length → ∀ k, v.ownBlock = some k → ¬ F k) : Rd w' v n xs := by
  rcases Nat.eq_zero_or_pos xs.length with h0 | h0
  · obtain ⟨a, cap, e, h1, h2, h3, _⟩ := h
    exact ⟨a, cap, e, h1, h2, h3, fun j hj => by omega⟩
  · exact h.mod hm (hb h0)
theorem IsDisk.grow {w w' : World} {d : DiskM} {p : Nat} {F : Nat → Prop} (h : IsDisk w d p F) (hb : Below w.heap.size w w') : IsDisk w' d p F := h.mod (Mod.of_below (F := fun _ => False) hb) (fun _ _ h => h)
set_option maxHeartbeats 3200000 in
theorem save_calls (d : DiskM) (p : Nat) (F : Nat → Prop) (at_ n : Int) (e : UInt32) (v : Value) (l : List UInt8) (w : World) (h : IsDisk w d p F) (hv : Rd w v l.length (l.map V8)) (hx : 0 < l.length → ∀ k, v.ownBlock = some k → ¬ F k) (ht : d.trail.length ≤ 90000000000) (ha : I64 at_) (hn : I64 n) (hl : l.length ≤ 140737488355000) :
    Calls Tryz.prog 76 #[.pointer (some ⟨p, 0, none⟩), .int .i64 at_, .int .i64 n, .int .u32 (I32 e), v] w fun r w' => r = .returned (errV (saveM d at_ n e.toNat l).2) ∧ ∃ F', IsDisk w' (saveM d at_ n e.toNat l).1 p F' ∧ Mod F w w' ∧ ∀ k, F' k → F k ∨ w.heap.size ≤ k := by
  obtain ⟨va, vc, rfl⟩ : ∃ a c, v = .slice a l.length c := by obtain ⟨a, c, h, _⟩ := hv; exact ⟨a, c, h⟩
  have hN : d.strs.length ≤ 4096 := by obtain ⟨bb, tv, pv, q, h1, h2, h3, h4, h5, _⟩ := h; exact h5
  have hpF : F p := h.cells.1
  by_cases hm : mayA d.strs.length at_ n
  · have Hf := Lib.hid (firsts_yes d p F at_ n w h hm)
    have HD := Lib.hid h
    have HV := Lib.hid hv
    have HX := Lib.hid hx
    have hm0 := hm
    unfold mayA at hm0
    obtain ⟨m1, m2, m3⟩ := hm0
    have hn1 : n ≤ 4096 := by omega
    have ha1 : at_ ≤ 4096 := by omega
    by_cases h3 : n * 256 < (l.length : Int)
    · have e1 : saveM d at_ n e.toNat l = (d, 3) := by unfold saveM; rw [if_pos hm, if_pos h3]
      rw [e1]
      clear h hv hx ha hn hN m3 hm e1
      go_enter Tryz.func76, Tryz.ntmps76
      go_wp2_with fail
      refine Hf.out.mono ?_
      rintro r w1 ⟨rfl, hb1⟩
      have HB1 := Lib.hid hb1
      clear hb1
      go_wp2_with fail
      go_ret
      refine ⟨rfl, F, HD.out.mod (Mod.of_below (F := fun _ => False) (below_trans HB1.out (below_alloc _ _))) (fun _ _ h => h), Mod.of_below (below_trans HB1.out (below_alloc _ _)), fun k hk => .inl hk⟩
    · have h3' : decide (n * 256 < (l.length : Int)) = false := by simp; omega
      obtain ⟨fb, hfb⟩ : ∃ fb, fb = firstA at_ n e.toNat := ⟨_, rfl⟩
      have hsv : saveM d at_ n e.toNat l = if (putAll d fb (chunks l.length l)).2 = 0 then (putAll d fb (chunks l.length l)).1.write at_ (SB (hdrM e.toNat l)) else putAll d fb (chunks l.length l) := by
        unfold saveM; rw [if_pos hm, if_neg h3, hfb]
      have Hsv := Lib.hid hsv
      obtain ⟨r2, hr2⟩ : ∃ r2, r2 = e.toNat % 2 := ⟨_, rfl⟩
      have HL := Lib.hid (show l.length ≤ 1048576 by omega)
      have hI : I32 e = (e.toNat : Int) := rfl
      have hrm : (I32 e).tmod 2 = (r2 : Int) := by rw [hI, Int.tmod_eq_emod_of_nonneg (by omega)]; omega
      have hr0 : (0 : Int) ≤ (r2 : Int) := by omega
      have hr1 : (r2 : Int) < 2 := by omega
      have hcell : ∀ w1 : World, (w1.alloc (.cells #[.int .i64 (at_ + 1), .int .i64 (at_ + 1 + n)] 205)).cell? ⟨w1.heap.size, r2, none⟩ = some (.int .i64 fb) := fun w1 => by
        refine (Box.new w1 _ _).cell r2 _ ?_
        have : r2 = 0 ∨ r2 = 1 := by omega
        rw [hfb]; unfold firstA; rw [← hr2]
        rcases this with rfl | rfl
        · simp
        · simp
      have hfb01 : 0 ≤ fb ∧ fb ≤ 10000 := by
        rw [hfb]; unfold firstA; rw [← hr2]
        have : r2 = 0 ∨ r2 = 1 := by omega
        rcases this with rfl | rfl <;> simp <;> omega
      have hfb0 := hfb01.1
      have Hfb := Lib.hid hfb01.2
      clear h hv hx ha hn hN m3 hm hfb hsv h3 hr2 hI hfb01
      go_enter Tryz.func76, Tryz.ntmps76
      go_wp2_with fail
      refine Hf.out.mono ?_
      rintro r w1 ⟨rfl, hb1⟩
      have hc1 := hcell w1
      have HB1 := Lib.hid hb1
      clear hb1 hcell
      go_wp2_with fail
      have hbA := below_trans HB1.out (below_alloc w1 (.cells #[.int .i64 (at_ + 1), .int .i64 (at_ + 1 + n)] 205))
      have hst : ∃ (q : List UInt8) (b : Int) (d' : DiskM) (F' : Nat → Prop), l.length = q.length ∧ Value.int .i64 fb = .int .i64 b ∧ (∃ a c, Value.slice va l.length vc = .slice a q.length c) ∧ Rd (w1.alloc (.cells #[.int .i64 (at_ + 1), .int .i64 (at_ + 1 + n)] 205)) (.slice va l.length vc) q.length (q.map V8) ∧
          (∀ k, (Value.slice va l.length vc).ownBlock = some k → (Value.slice va l.length vc).ownBlock = some k) ∧ IsDisk (w1.alloc (.cells #[.int .i64 (at_ + 1), .int .i64 (at_ + 1 + n)] 205)) d' p F' ∧ Mod F w (w1.alloc (.cells #[.int .i64 (at_ + 1), .int .i64 (at_ + 1 + n)] 205)) ∧ (∀ k, F' k → F k ∨ w.heap.size ≤ k) ∧
          putAll d fb (chunks l.length l) = putAll d' b (chunks q.length q) ∧ d'.trail.length + q.length ≤ d.trail.length + l.length ∧ b + q.length ≤ fb + l.length ∧ 0 ≤ b ∧ q.length ≤ l.length :=
        ⟨l, fb, d, F, rfl, rfl, ⟨_, _, rfl⟩, HV.out.below hbA, fun _ h => h, HD.out.mod (Mod.of_below (F := fun _ => False) hbA) (fun _ _ h => h), Mod.of_below hbA, fun k hk => .inl hk, rfl, Nat.le_refl _, Int.le_refl _, hfb0, Nat.le_refl _⟩
      have Hst := Lib.hid hst
      clear hst hbA hc1 Hf HB1
      generalize w1.alloc (.cells #[.int .i64 (at_ + 1), .int .i64 (at_ + 1 + n)] 205) = w2 at Hst ⊢
      go_loopg [13, 14] l.length (fun gk bv rv wr => ∃ (q : List UInt8) (b : Int) (d' : DiskM) (F' : Nat → Prop), gk = q.length ∧ bv = .int .i64 b ∧ (∃ a c, rv = .slice a q.length c) ∧ Rd wr rv q.length (q.map V8) ∧
          (∀ k, rv.ownBlock = some k → (Value.slice va l.length vc).ownBlock = some k) ∧ IsDisk wr d' p F' ∧ Mod F w wr ∧ (∀ k, F' k → F k ∨ w.heap.size ≤ k) ∧
          putAll d fb (chunks l.length l) = putAll d' b (chunks q.length q) ∧ d'.trail.length + q.length ≤ d.trail.length + l.length ∧ b + q.length ≤ fb + l.length ∧ 0 ≤ b ∧ q.length ≤ l.length)
      case atStart => exact Hst.out
      case round =>
        clear Hst
        obtain ⟨q, b, d', F', hgk, rfl, ⟨qa, qc, rfl⟩, hrd, hbl, hdd, hmod, hFF, hput, htl, hbb, hb0, hql⟩ := hrel
        have Hgk := Lib.hid hgk
        have HRd := Lib.hid hrd
        have HBl := Lib.hid hbl
        have HDd := Lib.hid hdd
        have HMo := Lib.hid hmod
        have HFF := Lib.hid hFF
        have HPut := Lib.hid hput
        have HnF := Lib.hid (show 0 < q.length → ∀ k, (Value.slice va l.length vc).ownBlock = some k → ¬ F' k from fun h0 k hk hf => by
          rcases hFF k hf with h1 | h1
          · exact HX.out (by omega) k hk h1
          · have := HV.out.blk (by rw [List.length_map]; omega) k hk; omega)
        clear hgk hrd hbl hdd hmod hFF hput
        by_cases hq : q.length = 0
        · obtain rfl : q = [] := List.eq_nil_of_length_eq_zero hq
          have hq0 : ([] : List UInt8).length = 0 := rfl
          rw [hq0]
          have hput : putAll d fb (chunks l.length l) = (d', 0) := by rw [HPut.out]; exact putAll_nil _ _ _
          have hsv2 : saveM d at_ n e.toNat l = d'.write at_ (SB (hdrM e.toNat l)) := by rw [Hsv.out, hput, if_pos rfl]
          have Hsv2 := Lib.hid hsv2
          have Hh := Lib.hid (header_calls e (.slice va l.length vc) l wr (HV.out.mod0 HMo.out (fun h0 k hk => HX.out (by rw [List.length_map] at h0; exact h0) k hk)))
          have hdt : d'.trail.length ≤ 100000000000 := by have := HL.out; omega
          have Hdt := Lib.hid hdt
          clear hput hsv2 hdt
          go_wp2_with fail
          refine Hh.out.mono ?_
          rintro r w3 ⟨rfl, hb3⟩
          have Hw := Lib.hid (write_any d' p F' at_ (SB (hdrM e.toNat l)) w3 (HDd.out.grow hb3) Hdt.out (by rw [SB_size, hdrM_length]; omega))
          rw [← Hsv2.out] at Hw
          have HM3 := Lib.hid (HMo.out.then (Mod.of_below (F := fun _ => False) hb3) (fun _ h => h.elim))
          have Hs3 := Lib.hid (Nat.le_trans HMo.out.size hb3.size)
          clear hb3 Hh
          go_wp2_with fail
          refine Hw.out.mono ?_
          rintro r w4 ⟨rfl, F4, g1, g2, g3⟩
          have HN := Lib.hid (show ∃ F', IsDisk w4 (saveM d at_ n e.toNat l).1 p F' ∧ Mod F w w4 ∧ ∀ k, F' k → F k ∨ w.heap.size ≤ k from ⟨F4, g1, HM3.out.then g2 (fun k hk => HFF.out k hk), fun k hk => by
            rcases g3 k hk with h1 | h1
            · exact HFF.out k h1
            · right; have := Hs3.out; omega⟩)
          clear g1 g2 g3
          go_wp2_with fail
          go_ret
          exact ⟨rfl, HN.out⟩
        · have hq1 : (0 : Int) < (q.length : Int) := by omega
          obtain ⟨k, hk⟩ : ∃ k, k = min q.length 256 := ⟨_, rfl⟩
          have hmi : ∀ ts t w', (Builtin.min_ ts t #[.int .i64 (q.length : Int), .int .i64 256]).run Tryz.prog w' = .ok (.int .i64 (k : Int)) w' := fun ts t w' => by
            rw [run_min_int2]
            congr 2
            by_cases h : (256 : Int) < (q.length : Int)
            · rw [if_pos h]; omega
            · rw [if_neg h]; omega
          have hkq : k ≤ q.length := by omega
          have hqc : q.length ≤ qc := by obtain ⟨_, _, g1, g2, _⟩ := HRd.out; injection g1 with _ _ g3; omega
          have hhd := headB qa q.length qc k (by omega)
          have htl2 := tailB qa q.length qc k hkq
          have htk : q.take 256 = q.take k := by
            rcases Nat.le_total q.length 256 with h1 | h1
            · rw [List.take_of_length_le h1, List.take_of_length_le (by omega)]
            · rw [show k = 256 by omega]
          have hdk : q.drop 256 = q.drop k := by
            rcases Nat.le_total q.length 256 with h1 | h1
            · rw [List.drop_eq_nil_of_le h1, List.drop_eq_nil_of_le (by omega)]
            · rw [show k = 256 by omega]
          have htl : (q.take k).length = k := by rw [List.length_take]; omega
          have kc := convS (q.take k) (v := .slice qa k qc) (n := k) (w := wr) (by
            have := HRd.out.cut (m := k) (by omega) k
            rw [← List.map_take] at this; exact this) htl.symm
          have hrdt := tailV_rd HRd.out hkq (by rw [List.length_map]; exact Nat.le_refl _)
          have hblt := tailV_block (a := qa) (n := q.length) (cap := qc) (k := k)
          rw [← List.map_drop] at hrdt
          obtain ⟨ta, hta⟩ := tailV_shape qa q.length qc k
          rw [hta] at hrdt htl2 hblt
          have hqk : q.length - k = (q.drop k).length := by rw [List.length_drop]
          have hpos : 0 < k := by omega
          have hsz : (SB (q.take k)).size ≤ 256 := by rw [SB_size]; omega
          have hst0 : (d'.write b (SB (q.take k))).2 = 0 → putAll d fb (chunks l.length l) = putAll (d'.write b (SB (q.take k))).1 (b + 1) (chunks (q.drop k).length (q.drop k)) := fun h0 => by
            rw [HPut.out, show chunks q.length q = chunks (q.length - 1 + 1) q by rw [Nat.sub_add_cancel (by omega)], putAll_step _ _ _ _ (fun e => by rw [e] at hq; exact hq rfl) (by rw [htk]; exact h0), htk, hdk]
            rw [chunks_more (q.length - 1) (q.drop k).length (q.drop k) (by rw [List.length_drop]; omega) (Nat.le_refl _)]
          have hst1 : (d'.write b (SB (q.take k))).2 ≠ 0 → saveM d at_ n e.toNat l = d'.write b (SB (q.take k)) := fun h0 => by
            have : putAll d fb (chunks l.length l) = d'.write b (SB (q.take k)) := by
              rw [HPut.out, show chunks q.length q = chunks (q.length - 1 + 1) q by rw [Nat.sub_add_cancel (by omega)], putAll_stop _ _ _ _ (fun e => by rw [e] at hq; exact hq rfl) (by rw [htk]; exact h0), htk]
            rw [Hsv.out, this, if_neg h0]
          have htr1 := (d'.write_trail b (SB (q.take k))).1
          have herr := write_err d' b (SB (q.take k))
          have Hw := Lib.hid (write_any d' p F' b (SB (q.take k)) wr HDd.out (by have := HL.out; omega) (by omega))
          obtain ⟨tx, htx⟩ : ∃ tx, tx = SB (q.take k) := ⟨_, rfl⟩
          obtain ⟨d2, hd2⟩ : ∃ d2, d2 = (d'.write b tx).1 := ⟨_, rfl⟩
          obtain ⟨er, her⟩ : ∃ er, er = (d'.write b tx).2 := ⟨_, rfl⟩
          rw [← htx] at kc htr1 herr Hw hst0 hst1
          rw [← hd2, ← her] at Hw hst0
          rw [← hd2] at htr1
          rw [← her] at herr hst1
          have Hst0 := Lib.hid hst0
          have Hst1 := Lib.hid hst1
          have HRt := Lib.hid hrdt
          have HBt := Lib.hid hblt
          have Hqk := Lib.hid hqk
          have Htr := Lib.hid (show d2.trail.length + (q.drop k).length ≤ d.trail.length + l.length ∧ b + 1 + ((q.drop k).length : Int) ≤ fb + (l.length : Int) from by rw [← hqk]; constructor <;> omega)
          have Hd2 := Lib.hid hd2
          have Her := Lib.hid her
          have hkq0 : (k : Int) ≤ (q.length : Int) := by omega
          have hk0 : (0 : Int) ≤ (k : Int) := by omega
          have hkc0 : (k : Int) ≤ (qc : Int) := by omega
          have Hlt := Lib.hid (show (q.drop k).length < q.length by rw [List.length_drop]; omega)
          have hb1 : b < 1000000000 := by have := HL.out; have := Hfb.out; omega
          clear hrdt hblt hqk htr1 hst0 hst1 hd2 her htk hdk htl hsz hta htx hq hk
          by_cases h0 : er = 0
          · rw [h0, show errV 0 = .nilIface from rfl] at Hw
            clear herr
            go_wp2_with fail
            refine Hw.out.mono ?_
            rintro r w3 ⟨rfl, F3, g1, g2, g3⟩
            have HN := Lib.hid (show ∃ F', IsDisk w3 d2 p F' ∧ Mod F w w3 ∧ (∀ k, F' k → F k ∨ w.heap.size ≤ k) from ⟨F3, g1, HMo.out.then g2 (fun k hk => HFF.out k hk), fun k hk => by
              rcases g3 k hk with h1 | h1
              · exact HFF.out k h1
              · right; have := HMo.out.size; omega⟩)
            have HRt3 := Lib.hid (HRt.out.mod g2 (fun k hk => HnF.out (by omega) k (HBl.out k (HBt.out k hk))))
            clear g1 g2 g3
            go_wp2_with fail
            go_roundg (q.drop k).length
            case measure => have := Hlt.out; have := Hgk.out; omega
            case rel =>
              obtain ⟨F4, g1, g2, g3⟩ := HN.out
              refine ⟨q.drop k, b + 1, d2, F4, rfl, by go_num, ⟨_, _, by rw [← Hqk.out]⟩, by rw [← Hqk.out] at *; exact HRt3.out, fun k' hk' => HBl.out k' (HBt.out k' hk'), g1, g2, g3, Hst0.out h0, Htr.out.1, Htr.out.2, by omega, by have := Hlt.out; omega⟩
          · have hev : errV er = .iface 91 (.int .i64 er) := by unfold errV; rw [if_neg h0]
            have Hsv3 := Lib.hid (Hst1.out h0)
            rw [hev] at Hw
            have Hev := Lib.hid hev
            clear herr hev
            go_wp2_with fail
            refine Hw.out.mono ?_
            rintro r w3 ⟨rfl, F3, g1, g2, g3⟩
            have HN := Lib.hid (show ∃ F', IsDisk w3 d2 p F' ∧ Mod F w w3 ∧ (∀ k, F' k → F k ∨ w.heap.size ≤ k) from ⟨F3, g1, HMo.out.then g2 (fun k hk => HFF.out k hk), fun k hk => by
              rcases g3 k hk with h1 | h1
              · exact HFF.out k h1
              · right; have := HMo.out.size; omega⟩)
            clear g1 g2 g3
            go_wp2_with fail
            go_ret
            rw [Hsv3.out, ← Her.out, ← Hd2.out, Hev.out]
            exact ⟨rfl, HN.out⟩
  · have e1 : saveM d at_ n e.toNat l = (d, 1) := by unfold saveM; rw [if_neg hm]
    rw [e1]
    have Hf := Lib.hid (firsts_no d p F at_ n w h hm ha hn)
    have HD := Lib.hid h
    clear h hv hx ha hn hN hm e1
    go_enter Tryz.func76, Tryz.ntmps76
    go_wp2_with fail
    refine Hf.out.mono ?_
    rintro r w1 ⟨rfl, hb1⟩
    have HB1 := Lib.hid hb1
    clear hb1
    go_wp2_with fail
    go_ret
    refine ⟨rfl, F, HD.out.grow (below_trans HB1.out (below_alloc _ _)), Mod.of_below (below_trans HB1.out (below_alloc _ _)), fun k hk => .inl hk⟩
end Go.Proofs.YtgcnolapjppbpaaGreatDoor
namespace Go.Proofs.YtgcnolapjppbpaaGreatDoor
open Go.RowKit Go.Extern.Stop Go.Stop Go.Extern
def errN (n : Int) : Value := .iface 91 (.int .i64 n)
theorem errno_comp : (Tryz.prog.info? 91).map (·.comparable) = some true := by kernel_rfl
theorem equalIn_err (w : World) (d : Nat) (a b : Int) : (Op.equalIn (d + 2) 49 (errN a) (errN b)).run Tryz.prog w = .ok (a == b) w := by
  obtain ⟨i, hi, hc⟩ := Option.map_eq_some_iff.1 errno_comp
  unfold errN
  simp [Op.equalIn, run_underlying Tryz.underlying49, run_underlying Tryz.underlying91, typeInfo, hi, hc]
theorem eql_err (w : World) (a b : Int) : (binOp .eql 49 (errN a) (errN b)).run Tryz.prog w = .ok (.bool (a == b)) w := by
  have h := equalIn_err w 9998 a b
  unfold errN at h ⊢
  simp only [binOp]
  simp [Op.equal, Op.maxDepth, h]
theorem err_typeOf (v : Value) (w : World) : (Extern.ReflectliteType.typeOf #[.iface 91 v]).run Tryz.prog w = .ok (.iface 193 (.agg #[.pointer (some ⟨2, 91, none⟩)])) w := by kernel_rfl
def cmpX : Array Value → Sem Value := Extern.ReflectliteType.method fun t => do Extern.Rtype.noPackHeld "Comparable" t; pure (.bool (← typeInfo t).comparable)
theorem err_comparable (w : World) : (cmpX #[.agg #[.pointer (some ⟨2, 91, none⟩)]]).run Tryz.prog w = .ok (.bool true) w := by kernel_rfl
theorem err_noIs (v : Value) (xT : TypeId) (w : World) : (Instr.typeAssert (.iface 91 v) xT 195 true).run Tryz.prog w = .ok (.tuple #[.nilIface, .bool false]) w := run_typeAssert_lacksB Tryz.underlying195 (by kernel_rfl) (by kernel_rfl) v xT w
theorem err_noUnwrap (v : Value) (xT : TypeId) (w : World) : (Instr.typeAssert (.iface 91 v) xT 198 true).run Tryz.prog w = .ok (.tuple #[.nilIface, .bool false]) w := run_typeAssert_lacksB Tryz.underlying198 (by kernel_rfl) (by kernel_rfl) v xT w
theorem err_noUnwraps (v : Value) (xT : TypeId) (w : World) : (Instr.typeAssert (.iface 91 v) xT 200 true).run Tryz.prog w = .ok (.tuple #[.nilIface, .bool false]) w := run_typeAssert_lacksB Tryz.underlying200 (by kernel_rfl) (by kernel_rfl) v xT w
theorem is0_calls (a b : Int) (w : World) : Calls Tryz.prog 74 #[errN a, errN b, .bool true] w fun e w' => e = .returned (.bool (a == b)) ∧ w' = w := by
  have nI := err_noIs
  have nU := err_noUnwrap
  have nV := err_noUnwraps
  have heq := eql_err w a b
  unfold errN at heq ⊢
  cases hab : (a == b) with
  | true =>
    rw [hab] at heq
    clear hab
    go_enter Tryz.func74, Tryz.ntmps74
    go_wp2
    refine wp_loop_rounds 1 ?_
    rw [rounds_succ]
    go_wp2
    go_ret
    exact ⟨rfl, rfl⟩
  | false =>
    rw [hab] at heq
    clear hab
    go_enter Tryz.func74, Tryz.ntmps74
    go_wp2
    refine wp_loop_rounds 1 ?_
    rw [rounds_succ]
    go_wp2
    go_ret
    exact ⟨rfl, rfl⟩
theorem is_calls (a b : Int) (w : World) : Calls Tryz.prog 40 #[errN a, errN b] w fun e w' => e = .returned (.bool (a == b)) ∧ w' = w := by
  have h8 := @run_callFunc_extern Tryz.prog 73 _ Extern.ReflectliteType.typeOf Tryz.func73 (by kernel_rfl) (by kernel_rfl) (by kernel_rfl) (by kernel_rfl)
  have h32 := @run_callFunc_extern Tryz.prog 231 _ cmpX Tryz.func231 (by kernel_rfl) (by kernel_rfl) (by kernel_rfl) (by kernel_rfl)
  have tT := err_typeOf
  have cT := err_comparable
  have his := is0_calls a b w
  unfold errN at his ⊢
  have His := Lib.hid his
  clear his
  go_enter Tryz.func40, Tryz.ntmps40
  go_wp2_with fail
  refine His.out.mono ?_
  rintro e w' ⟨rfl, rfl⟩
  go_wp2_with fail
  go_ret
  exact ⟨rfl, rfl⟩
theorem num_nil (w : World) : Calls Tryz.prog 42 #[.nilIface] w fun e w' => e = .returned (.int .i64 0) ∧ w' = w := by
  go_enter Tryz.func42, Tryz.ntmps42
  go_wp2_with fail
  go_ret
  exact ⟨rfl, rfl⟩
theorem num_calls (n : Nat) (w : World) (h1 : 1 ≤ n) (h2 : n ≤ 24) : Calls Tryz.prog 42 #[errN n] w fun e w' => e = .returned (.int .i64 (n : Int)) ∧ w' = w := by
  have hi := fun b => is_calls (n : Int) b w
  unfold errN at hi ⊢
  have Hi := Lib.hid hi
  clear hi
  go_enter Tryz.func42, Tryz.ntmps42
  go_wp2_with fail
  go_loop [3, 4] (fun f i => ∃ k : Nat, 1 ≤ k ∧ k ≤ 25 ∧ i = .int .i64 k ∧ ((n < k ∧ f = .int .i64 n) ∨ (k ≤ n ∧ f = .int .i64 0))) (fun _ i => 25 - (intOf i).toNat)
  case atStart => exact ⟨1, by omega, by omega, rfl, .inr ⟨h1, rfl⟩⟩
  case round =>
    obtain ⟨k, hk1, hk2, rfl, hf⟩ := hrel
    by_cases hk : k < 25
    · have hk24 : k ≤ 24 := by omega
      have hc : (n < k ∧ ((n : Int) == (k : Int)) = false) ∨ (n = k) ∨ (k < n ∧ ((n : Int) == (k : Int)) = false) := by
        rcases Nat.lt_trichotomy n k with h | h | h
        · exact .inl ⟨h, by rw [beq_eq_false_iff_ne]; omega⟩
        · exact .inr (.inl h)
        · exact .inr (.inr ⟨h, by rw [beq_eq_false_iff_ne]; omega⟩)
      rcases hc with ⟨hlt, hb⟩ | rfl | ⟨hgt, hb⟩
      · rcases hf with ⟨_, rfl⟩ | ⟨h, rfl⟩
        · go_wp2_with fail
          refine (Hi.out (k : Int)).mono ?_
          rintro e w' ⟨rfl, rfl⟩
          go_wp2_with fail
          go_round
          case rel => exact ⟨k + 1, by omega, by omega, by go_num, .inl ⟨by omega, rfl⟩⟩
          case measure => simp [intOf]; omega
        · omega
      · rcases hf with ⟨h, rfl⟩ | ⟨_, rfl⟩
        · omega
        · have hb : ((n : Int) == (n : Int)) = true := by rw [beq_iff_eq]
          go_wp2_with fail
          refine (Hi.out (n : Int)).mono ?_
          rintro e w' ⟨rfl, rfl⟩
          go_wp2_with fail
          go_round
          case rel => exact ⟨n + 1, by omega, by omega, by go_num, .inl ⟨by omega, rfl⟩⟩
          case measure => simp [intOf]; omega
      · rcases hf with ⟨h, rfl⟩ | ⟨_, rfl⟩
        · omega
        · go_wp2_with fail
          refine (Hi.out (k : Int)).mono ?_
          rintro e w' ⟨rfl, rfl⟩
          go_wp2_with fail
          go_round
          case rel => exact ⟨k + 1, by omega, by omega, by go_num, .inr ⟨by omega, rfl⟩⟩
          case measure => simp [intOf]; omega
    · obtain rfl : k = 25 := by omega
      rcases hf with ⟨_, rfl⟩ | ⟨h, rfl⟩
      · have hn0 : ((n : Int) == 0) = false := by rw [beq_eq_false_iff_ne]; omega
        have hn1 : (n == 0) = false := by rw [beq_eq_false_iff_ne]; omega
        go_wp2_with fail
        refine (Hi.out 0).mono ?_
        rintro e w' ⟨rfl, rfl⟩
        go_wp2_with fail
        go_ret
        exact ⟨rfl, rfl⟩
      · omega
end Go.Proofs.YtgcnolapjppbpaaGreatDoor
