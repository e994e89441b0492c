/-
  Texts of one proof, one behind the other.
-/
import Derived.Test.YtgcnolapjppbpaaGreatDoorK07
import Derived.Test.YtgcnolapjppbpaaGreatDoorK06
import Derived.BigQuiet
import Derived.WalkMore
import Derived.Lib.Strings
import Derived.Deep.LoopGhost
import Derived.Outline
import Derived.Deep.RegionHeld3
namespace Go.Proofs.YtgcnolapjppbpaaGreatDoor
open Go.RowKit
theorem or16 (c5 c6 : Nat) (h5 : c5 < 256) (h6 : c6 < 256) : bits .or .i64 (c5 : Int) ((c6 : Int) * 256) = ((c5 + 256 * c6 : Nat) : Int) := by
  have e : ((c6 : Int) * 256) = ((c6 * 256 : Nat) : Int) := by omega
  have hx : c5 ||| (c6 * 256) < 2 ^ 16 := Nat.or_lt_two_pow (by omega) (by omega)
  have ho : ∀ n : Nat, n < 65536 → (BitVec.ofInt 64 (n : Int)).toNat = n := fun n hn => by rw [BitVec.toNat_ofInt]; omega
  rw [e]
  show IntKind.i64.wrap ((BitVec.ofInt 64 (c5 : Int) ||| BitVec.ofInt 64 ((c6 * 256 : Nat) : Int)).toNat : Int) = _
  rw [BitVec.toNat_or, ho c5 (by omega), ho (c6 * 256) (by omega)]
  have hwr : IntKind.i64.wrap ((c5 ||| (c6 * 256) : Nat) : Int) = ((c5 ||| (c6 * 256) : Nat) : Int) := by rw [IntKind.wrap_i64]; omega
  rw [hwr]
  have : c5 ||| (c6 * 256) = c6 * 256 + c5 := by
    rw [show (256 : Nat) = 2 ^ 8 from rfl, Nat.or_comm, ← Nat.shiftLeft_eq, Nat.shiftLeft_add_eq_or_of_lt (by omega)]
  omega
theorem oneM_eq (e : UInt32) (b : List UInt8) (r : List (List UInt8)) (h11 : ¬ b.length < 11) (hno : ¬ (sizeOf0 b > 512 ∨ b.length ≠ 11 + min (sizeOf0 b) 245)) {p : List UInt8} {k : Nat} (hg : gather (sizeOf0 b) (b.drop 11) r 1 = (p, k)) :
    oneM e (b :: r) = if p.length ≠ sizeOf0 b ∨ headM e p ≠ b.take 11 then none else some (p, k) := by
  rw [oneM, if_neg h11, if_neg hno]
  simp only [hg]
theorem gather_end (size : Nat) (p : List UInt8) (l : List (List UInt8)) (n : Nat) (h : ¬ p.length < size) : gather size p l n = (p, n) := by
  cases l with
  | nil => rfl
  | cons s r => rw [gather, if_neg h]
theorem gather_bad (size : Nat) (p s : List UInt8) (r : List (List UInt8)) (n : Nat) (h : ¬ (s.length = 1 + min (size - p.length) 255 ∧ s.head? = some 99)) : gather size p (s :: r) n = (p, n) := by
  rw [gather]
  by_cases h1 : p.length < size
  · rw [if_pos h1, if_neg h]
  · rw [if_neg h1]
structure KR (w : World) (v : Value) (p b : List UInt8) (B off : Nat) (w' : World) : Prop where
  cell : w'.cell? ⟨B, off, none⟩ = some (.string (SB b))
  rd : Rd w' v p.length (p.map V8)
  below : Below w.heap.size w w'
theorem KR.keep {w : World} {v : Value} {p b : List UInt8} {B off : Nat} {w1 w2 : World} (h : KR w v p b B off w1) (hb : Below w1.heap.size w1 w2) : KR w v p b B off w2 := ⟨below_heap hb h.cell, h.rd.below hb, h.below.trans (hb.mono h.below.size)⟩
set_option maxHeartbeats 1600000 in
theorem one_calls (e : UInt32) (lv : Value) (bl : List (List UInt8)) (w : World) (hl : Rd w lv bl.length (bl.map SV)) (hbig : ∀ b ∈ bl, b.length ≤ 9223372036854775807) :
    Calls Tryz.prog 164 #[.int .u32 (e.toNat : Int), lv] w fun r w' => Below w.heap.size w w' ∧ ((oneM e bl = none ∧ r = .returned (.tuple #[.slice none 0 0, .int .i64 0])) ∨
      ∃ p k v, oneM e bl = some (p, k) ∧ r = .returned (.tuple #[v, .int .i64 (k : Int)]) ∧ OwnM w' w.heap.size 5 v p.length (p.map V8)) := by
  have hlen := hl.len
  obtain ⟨la, lc, rfl⟩ : ∃ a c, lv = .slice a bl.length c := by obtain ⟨a, c, h, _⟩ := hl; exact ⟨a, c, h⟩
  cases hbl : bl with
  | nil =>
    subst hbl
    clear hl hbig hlen
    simp only [List.length_nil]
    have hd0 : (((0 : Nat) : Int) == 0) = true := rfl
    go_enter Tryz.func164, Tryz.ntmps164
    go_wp2_with fail
    go_step3
    go_wp2_with fail
    try rw [Exit.noGoto_ret]
    go_ret2
    exact ⟨Below.refl _ _, .inl ⟨rfl, rfl⟩⟩
  | cons b r =>
    have hpos : 0 < bl.length := by rw [hbl]; simp
    have hcell : ∃ B off, la = some ⟨B, off, none⟩ ∧ w.cell? ⟨B, off, none⟩ = some (.string (SB b)) := by
      obtain ⟨B, off, cap, e1, e2⟩ := hl.at 0 (by simpa using hpos)
      injection e1 with e1
      refine ⟨B, off, e1, ?_⟩
      rw [Nat.add_zero] at e2
      rw [e2, hbl]; rfl
    obtain ⟨B, off, rfl, hcell⟩ := hcell
    have hbl0 : ((bl.length : Int) == 0) = false := by simp; exact List.ne_nil_of_length_pos hpos
    have hbl1 : (0 : Int) < bl.length := by omega
    have Hbig := Lib.hid hbig
    have HL := Lib.hid hl
    have Hbl := Lib.hid hbl
    have HBlt := Lib.hid (cell_lt hcell)
    have hbb : b.length ≤ 9223372036854775807 := hbig b (by rw [hbl]; simp)
    clear hl hbig
    rw [← hbl]
    clear hbl
    go_enter Tryz.func164, Tryz.ntmps164
    by_cases h11 : b.length < 11
    · have hd : (b.length : Int) < 11 := by omega
      go_wp2_with fail
      go_step3
      go_wp2_with fail
      try rw [Exit.noGoto_ret]
      go_ret2
      refine ⟨Below.refl _ _, .inl ⟨?_, rfl⟩⟩
      rw [Hbl.out, oneM, if_pos h11]
    · have hd : decide ((b.length : Int) < 11) = false := by simp; omega
      go_wp2_with fail
      go_step3
      go_wp2_with fail
      obtain ⟨c5, hc5⟩ : ∃ c5, c5 = (b.getD 5 0).toNat := ⟨_, rfl⟩
      obtain ⟨c6, hc6⟩ : ∃ c6, c6 = (b.getD 6 0).toNat := ⟨_, rfl⟩
      have hi5 : ∀ w', (Instr.index 9 (.string (SB b)) (.int .i64 5)).run Tryz.prog w' = .ok (.int .u8 (c5 : Int)) w' := fun w' => by rw [hc5]; exact indexS w' b 5 (by omega)
      have hi6 : ∀ w', (Instr.index 9 (.string (SB b)) (.int .i64 6)).run Tryz.prog w' = .ok (.int .u8 (c6 : Int)) w' := fun w' => by rw [hc6]; exact indexS w' b 6 (by omega)
      have hl5 : (5 : Int) < (b.length : Int) := by omega
      have hl6 : (6 : Int) < (b.length : Int) := by omega
      have h5 : c5 < 256 := by rw [hc5]; exact UInt8.toNat_lt _
      have h6 : c6 < 256 := by rw [hc6]; exact UInt8.toNat_lt _
      have hor := or16 c5 c6 h5 h6
      have hsz : sizeOf0 b = c5 + 256 * c6 := by rw [hc5, hc6]; rfl
      obtain ⟨sz, hsze⟩ : ∃ sz, sz = c5 + 256 * c6 := ⟨_, rfl⟩
      rw [← hsze] at hor hsz
      have Hsz := Lib.hid hsz
      have hsz1 : sz < 65536 := by omega
      clear hsz hc5 hc6 hsze
      have hw5 : wrap64 (c5 : Int) = c5 := (by unfold wrap64; omega)
      have hw6 : wrap64 (c6 : Int) = c6 := (by unfold wrap64; omega)
      have hw7 : wrap64 ((c6 : Int) * 256) = (c6 : Int) * 256 := (by unfold wrap64; omega)
      go_quiet (fail)
      obtain ⟨w1, hw1⟩ : ∃ w1, w1 = w.drewN nq := ⟨_, rfl⟩
      rw [← hw1]
      have hb1 : Below w.heap.size w w1 := by rw [hw1]; exact ⟨rfl, rfl, rfl, Nat.le_refl _, fun _ _ => rfl⟩
      have hcell1 := below_heap hb1 hcell
      have HL1 := Lib.hid (HL.out.below hb1)
      have HB1 := Lib.hid hb1
      have hs1 := hb1.size
      clear hw1 hb1 hcell HL hor hw5 hw6 hw7 hi5 hi6 hl5 hl6 h5 h6
      by_cases h512 : 512 < sz
      · have hg : (512 : Int) < (sz : Int) := by omega
        go_wp2_with fail
        try rw [Exit.noGoto_ret]
        go_ret2
        refine ⟨HB1.out, .inl ⟨?_, rfl⟩⟩
        rw [Hbl.out, oneM, if_neg h11, if_pos (.inl (by rw [Hsz.out]; exact h512))]
      · have hg : decide ((512 : Int) < (sz : Int)) = false := by simp; omega
        obtain ⟨mn, hmn⟩ : ∃ mn, mn = min sz 245 := ⟨_, rfl⟩
        have hmi : ∀ ts t w', (Builtin.min_ ts t #[.int .i64 (sz : Int), .int .i64 245]).run Tryz.prog w' = .ok (.int .i64 (mn : Int)) w' := fun ts t w' => by
          rw [run_min_int2]
          congr 2
          by_cases h : (245 : Int) < (sz : Int)
          · rw [if_pos h]; omega
          · rw [if_neg h]; omega
        have hmn1 : mn ≤ 245 := by omega
        have Hmn := Lib.hid hmn
        clear hmn
        by_cases hlb : b.length = 11 + mn
        · have hli : (b.length : Int) = 11 + (mn : Int) := by omega
          obtain ⟨p0, hp0⟩ : ∃ p0, p0 = b.drop 11 := ⟨_, rfl⟩
          have hp0l : p0.length = mn := by rw [hp0, List.length_drop]; omega
          have hsl : (Instr.slice 9 (.string (SB b)) (some (.int .i64 11)) none none).run Tryz.prog w1 = .ok (.string (SB p0)) w1 := by rw [hp0]; exact sliceS w1 b 11 (by omega)
          have hcv := bytesS w1 p0
          have hown := bytesS_own w1 p0 5 (by omega)
          have hbw := HB1.out.trans ((bytesW_below w1 5 (SB p0)).mono hs1)
          rw [hp0l] at hcv hown
          obtain ⟨w2, hw2⟩ : ∃ w2, w2 = Lib.bytesWorld w1 5 (SB p0) := ⟨_, rfl⟩
          obtain ⟨v0, hv0⟩ : ∃ v0, v0 = Value.slice (some ⟨w1.heap.size, 0, none⟩) mn (grownCap w1 mn 0 5) := ⟨_, rfl⟩
          rw [← hw2] at hown hcv hbw
          rw [← hv0] at hown hcv
          have HB2 := Lib.hid hbw
          have HL2 := Lib.hid (Rd.below (w' := w2) HL1.out (by rw [hw2]; exact bytesW_below _ _ _))
          have HO2 := Lib.hid (hown.lower hs1)
          have Hlb := Lib.hid hlb
          have Hp0 := Lib.hid hp0
          clear hw2 hv0 hown hbw HB1 HL1 hlb hp0
          go_wp2_with fail
          clear hmi hcv hsl hli
          go_step3
          go_wp2_with fail
          have hg0 : gather sz p0 (bl.drop 1) 1 = gather (sizeOf0 b) (b.drop 11) r 1 := by rw [Hsz.out, ← Hp0.out, Hbl.out]; rfl
          have hle0 : p0.length ≤ sz := by have := Hmn.out; omega
          have h512' : sz ≤ 512 := by omega
          have hno : ¬ (sizeOf0 b > 512 ∨ b.length ≠ 11 + min (sizeOf0 b) 245) := by
            rw [Hsz.out, ← Hmn.out]
            rintro (h | h)
            · omega
            · exact h Hlb.out
          have Hno := Lib.hid hno
          clear hno
          have Hg0 := Lib.hid hg0
          have HM := Lib.hid hp0l
          rw [← hp0l] at HO2
          have Hle := Lib.hid hle0
          clear hg0 hp0l h512 hle0 hg hd hmn1 Hmn Hp0 hs1 hsz1
          go_loopg [7, 8, 9] (bl.length - 1) (fun gk pv nv sv wr => ∃ (p : List UInt8) (k : Nat), gk + k = bl.length ∧ 1 ≤ k ∧ nv = .int .i64 (k : Int) ∧ OwnM wr w.heap.size 5 pv p.length (p.map V8) ∧ Below w.heap.size w wr ∧ gather sz p (bl.drop k) k = gather (sizeOf0 b) (b.drop 11) r 1 ∧ p.length ≤ sz ∧
            Rd wr (.slice (some ⟨B, off, none⟩) bl.length lc) bl.length (bl.map SV))
          case atStart => exact ⟨p0, 1, by omega, Nat.le_refl _, rfl, HO2.out, HB2.out, Hg0.out, Hle.out, HL2.out⟩
          case round =>
            clear HO2 HB2 Hg0 Hle HL2 HM
            obtain ⟨p, k, hgk, hk1, rfl, hown, hb, hga, hpl, hL⟩ := hrel
            obtain ⟨pa, pc, rfl, _⟩ := hown.slice
            have HO := Lib.hid hown
            have HB := Lib.hid hb
            have HG := Lib.hid hga
            have HLr := Lib.hid hL
            have Hgk := Lib.hid hgk
            clear hown hb hga hL hgk
            by_cases hps : p.length < sz
            · have hps1 : (p.length : Int) < (sz : Int) := by omega
              by_cases hk : k = bl.length
              · have hke : ((k : Int) == (bl.length : Int)) = true := by rw [beq_iff_eq]; omega
                have hgs : gather sz p (bl.drop k) k = (p, k) := by rw [List.drop_eq_nil_of_le (by omega)]; rfl
                have Hgs := Lib.hid hgs
                clear hgs hk
                have hlt : ((p.length : Int) == (sz : Int)) = false := by rw [beq_eq_false_iff_ne]; omega
                have hlt1 : ¬ p.length = sz := by omega
                have hlt2 : (p.length == sz) = false := by rw [beq_eq_false_iff_ne]; omega
                have hlt3 : ((p.length : Int) != (sz : Int)) = true := by rw [bne_iff_ne]; omega
                go_wp2_with fail
                go_quiet (fail)
                go_wp2_with fail
                try rw [Exit.noGoto_ret]
                go_ret2
                refine ⟨HB.out.trans (by first | exact Below.refl _ _ | exact ⟨rfl, rfl, rfl, Nat.le_refl _, fun _ _ => rfl⟩), .inl ⟨?_, rfl⟩⟩
                rw [Hbl.out, oneM_eq e b r h11 Hno.out (HG.out.symm.trans Hgs.out), if_pos (.inl (by rw [Hsz.out]; omega))]
              · have hke : ((k : Int) == (bl.length : Int)) = false := by rw [beq_eq_false_iff_ne]; omega
                have hkl : k < bl.length := by have := Hgk.out; omega
                have hkl1 : (k : Int) < (bl.length : Int) := by omega
                have hk0 : (0 : Int) ≤ (k : Int) := by omega
                obtain ⟨s, hs⟩ : ∃ s, s = bl[k] := ⟨_, rfl⟩
                have hdr : bl.drop k = s :: bl.drop (k + 1) := by rw [hs]; exact List.drop_eq_getElem_cons hkl
                have hck : wr.cell? ⟨B, off + k, none⟩ = some (.string (SB s)) := by
                  obtain ⟨B', off', cap, e1, e2⟩ := HLr.out.at k (by simpa using hkl)
                  injection e1 with e1; injection e1 with e1; injection e1 with e3 e4
                  subst e3; subst e4
                  rw [e2, hs, List.getD, List.getElem?_map, List.getElem?_eq_getElem hkl]; rfl
                have hsb : s.length ≤ 9223372036854775807 := Hbig.out s (by rw [hs]; exact List.getElem_mem hkl)
                have Hdr := Lib.hid hdr
                obtain ⟨mx, hmx⟩ : ∃ mx, mx = min (sz - p.length) 255 := ⟨_, rfl⟩
                have hmi2 : ∀ ts t w', (Builtin.min_ ts t #[.int .i64 ((sz : Int) - (p.length : Int)), .int .i64 255]).run Tryz.prog w' = .ok (.int .i64 (mx : Int)) w' := fun ts t w' => by
                  rw [run_min_int2]
                  congr 2
                  by_cases h : (255 : Int) < (sz : Int) - (p.length : Int)
                  · rw [if_pos h]; omega
                  · rw [if_neg h]; omega
                have hmx1 : mx ≤ 255 := by omega
                have hmx0 : 1 ≤ mx := by omega
                have Hmx := Lib.hid hmx
                clear hdr hs hmx
                by_cases hsl : s.length = 1 + mx
                · have hsli : ((s.length : Int) == 1 + (mx : Int)) = true := by rw [beq_iff_eq]; omega
                  obtain ⟨c0, hc0⟩ : ∃ c0, c0 = (s.getD 0 0).toNat := ⟨_, rfl⟩
                  have hi0 : ∀ w', (Instr.index 9 (.string (SB s)) (.int .i64 0)).run Tryz.prog w' = .ok (.int .u8 (c0 : Int)) w' := fun w' => by rw [hc0]; exact indexS w' s 0 (by omega)
                  have Hc0 := Lib.hid hc0
                  have hs0 : (0 : Int) < (s.length : Int) := by omega
                  clear hc0
                  by_cases h99 : c0 = 99
                  · have hce : ((c0 : Int) == 99) = true := by rw [beq_iff_eq]; omega
                    have hh : s.head? = some 99 := by
                      cases s with
                      | nil => simp at hsl; omega
                      | cons a s =>
                        have h1 := Hc0.out
                        rw [h99] at h1
                        simp only [List.getD_cons_zero] at h1
                        simp only [List.head?_cons, Option.some.injEq]
                        exact UInt8.toNat_inj.1 h1.symm
                    obtain ⟨t, ht⟩ : ∃ t, t = s.drop 1 := ⟨_, rfl⟩
                    have htl : t.length = mx := by rw [ht, List.length_drop]; omega
                    have hst : ∀ w', (Instr.slice 9 (.string (SB s)) (some (.int .i64 1)) none none).run Tryz.prog w' = .ok (.string (SB t)) w' := fun w' => by rw [ht]; exact sliceS w' s 1 (by omega)
                    have hgs : gather sz p (s :: bl.drop (k + 1)) k = gather sz (p ++ t) (bl.drop (k + 1)) (k + 1) := by
                      rw [gather, if_pos hps, if_pos ⟨by rw [hsl, Hmx.out], hh⟩, ht, List.drop_one]
                    have Hgs := Lib.hid hgs
                    have hpt : (p ++ t).length = p.length + t.length := List.length_append
                    have Hpt := Lib.hid hpt
                    have Htl := Lib.hid htl
                    have hroom : p.length + t.length ≤ 140737488355328 := by have := Hmx.out; omega
                    have Hroom := Lib.hid hroom
                    have HBs := Lib.hid HB.out.size
                    clear ht htl hgs hh hpt hroom h99
                    go_wp2_with (at_builtin; refine appMS rfl _ _ rfl w.heap.size _ _ _ rfl HO.out t rfl Hroom.out HBs.out ?_)
                    intro v' w1' hown' hg' _
                    have HO1 := Lib.hid hown'
                    have HB1' := Lib.hid (HB.out.trans (below_grown hg' HBs.out (fun q hq => (HO.out.lt q hq).1)))
                    have HL1' := Lib.hid (Rd.keep (w' := w1') HLr.out (fun q hq hl => (below_grown hg' HBs.out (fun q hq => (HO.out.lt q hq).1)).block q (by simp only [Value.ownBlock, Option.some.injEq] at hq; subst hq; exact HBlt.out)))
                    clear hown'
                    go_wp2_with fail
                    go_roundg (bl.length - (k + 1))
                    case measure => have := Hgk.out; omega
                    case rel => exact ⟨p ++ t, k + 1, by omega, by omega, by go_num, by rw [Hpt.out, List.map_append]; exact HO1.out, HB1'.out, by rw [← Hgs.out, ← Hdr.out, HG.out], by rw [Hpt.out, Htl.out, Hmx.out]; omega, HL1'.out⟩
                  · have hce : ((c0 : Int) == 99) = false := by rw [beq_eq_false_iff_ne]; omega
                    have hgs : gather sz p (bl.drop k) k = (p, k) := by
                      rw [Hdr.out]
                      refine gather_bad _ _ _ _ _ (fun h => h99 ?_)
                      rw [Hc0.out]
                      cases s with
                      | nil => simp at hsl; omega
                      | cons a s =>
                        have := h.2
                        simp only [List.head?_cons, Option.some.injEq] at this
                        rw [this]; rfl
                    have Hgs := Lib.hid hgs
                    clear hgs
                    have hlt : ((p.length : Int) == (sz : Int)) = false := by rw [beq_eq_false_iff_ne]; omega
                    have hlt1 : ¬ p.length = sz := by omega
                    have hlt2 : (p.length == sz) = false := by rw [beq_eq_false_iff_ne]; omega
                    have hlt3 : ((p.length : Int) != (sz : Int)) = true := by rw [bne_iff_ne]; omega
                    go_wp2_with fail
                    go_quiet (fail)
                    go_wp2_with fail
                    try rw [Exit.noGoto_ret]
                    go_ret2
                    refine ⟨HB.out.trans (by first | exact Below.refl _ _ | exact ⟨rfl, rfl, rfl, Nat.le_refl _, fun _ _ => rfl⟩), .inl ⟨?_, rfl⟩⟩
                    rw [Hbl.out, oneM_eq e b r h11 Hno.out (HG.out.symm.trans Hgs.out), if_pos (.inl (by rw [Hsz.out]; omega))]
                · have hsli : ((s.length : Int) == 1 + (mx : Int)) = false := by rw [beq_eq_false_iff_ne]; omega
                  have hgs : gather sz p (bl.drop k) k = (p, k) := by
                    rw [Hdr.out]
                    exact gather_bad _ _ _ _ _ (fun h => hsl (by rw [h.1, Hmx.out]))
                  have Hgs := Lib.hid hgs
                  clear hgs
                  have hlt : ((p.length : Int) == (sz : Int)) = false := by rw [beq_eq_false_iff_ne]; omega
                  have hlt1 : ¬ p.length = sz := by omega
                  have hlt2 : (p.length == sz) = false := by rw [beq_eq_false_iff_ne]; omega
                  have hlt3 : ((p.length : Int) != (sz : Int)) = true := by rw [bne_iff_ne]; omega
                  go_wp2_with fail
                  go_quiet (fail)
                  go_wp2_with fail
                  try rw [Exit.noGoto_ret]
                  go_ret2
                  refine ⟨HB.out.trans (by first | exact Below.refl _ _ | exact ⟨rfl, rfl, rfl, Nat.le_refl _, fun _ _ => rfl⟩), .inl ⟨?_, rfl⟩⟩
                  rw [Hbl.out, oneM_eq e b r h11 Hno.out (HG.out.symm.trans Hgs.out), if_pos (.inl (by rw [Hsz.out]; omega))]
            · have hps1 : decide ((p.length : Int) < (sz : Int)) = false := by simp; omega
              have hgs : gather sz p (bl.drop k) k = (p, k) := gather_end _ _ _ _ hps
              have heq : p.length = sz := by omega
              have hcl : wr.cell? ⟨B, off, none⟩ = some (.string (SB b)) := by
                obtain ⟨B', off', cap, e1, e2⟩ := HLr.out.at 0 (by simpa using hpos)
                injection e1 with e1; injection e1 with e1; injection e1 with e3 e4
                subst e3; subst e4
                rw [Nat.add_zero] at e2
                rw [e2, Hbl.out]; rfl
              subst heq
              have hhd : ∀ w', KR wr (.slice pa p.length pc) p b B off w' → Calls Tryz.prog 98 #[.int .u32 (e.toNat : Int), .slice pa p.length pc] w' fun r w'' => ∃ v', r = .returned v' ∧ (convert 92 9 v').run Tryz.prog w'' = .ok (.string (SB (headM e p))) w'' ∧ Below w'.heap.size w' w'' :=
                fun w' h => (head_calls (.slice pa p.length pc) e p w' h.rd (by omega)).mono (fun r w'' ⟨v', h1, h2, h3⟩ => ⟨v', h1, convS _ (rd_of_own h2) (headM_length e p).symm, h3⟩)
              have hKR : KR wr (.slice pa p.length pc) p b B off wr.drew := ⟨below_heap (below_drew _) hcl, HO.out.rd.below (below_drew _), below_drew _⟩
              have hk0 : ∀ w', KR wr (.slice pa p.length pc) p b B off w' → w'.cell? ⟨B, off, none⟩ = some (.string (SB b)) := fun w' h => h.cell
              have hst : ∀ w', (Instr.slice 9 (.string (SB b)) none (some (.int .i64 11)) none).run Tryz.prog w' = .ok (.string (SB (b.take 11))) w' := fun w' => sliceTo w' b 11 (by omega)
              have Hhd := Lib.hid hhd
              have HKR := Lib.hid hKR
              have Hgs := Lib.hid hgs
              clear hhd hKR hcl hgs
              obtain ⟨hm, hhm⟩ : ∃ hm, hm = headM e p := ⟨_, rfl⟩
              rw [← hhm] at Hhd
              obtain ⟨tk, htk⟩ : ∃ tk, tk = b.take 11 := ⟨_, rfl⟩
              rw [← htk] at hst
              have Hhm := Lib.hid hhm
              have Htk := Lib.hid htk
              clear hhm htk
              go_wp2_with fail
              refine wp_region_held_drew (S := KR wr (.slice pa p.length pc) p b B off) (by kernel_rfl) HKR.out (fun hHeld => ?_)
              refine wpAnyH_take (i := 0) (oi := ⟨some 81, _, _, _, _, _⟩) (v := ?_) rfl (by kernel_rfl) (by kernel_rfl) (by kernel_rfl) (fun _ _ _ h => h) (Or.inl ⟨by kernel_rfl, ?_⟩) (by assumption) ?_
              rotate_left 1
              · intro w' hw'; go_simp; try with_reducible rfl
              simp only [Act.put, List.setIfInBounds_toArray, List.set_cons_zero, List.set_cons_succ]
              refine wpAnyH_take (i := 1) (oi := ⟨some 82, _, _, _, _, _⟩) (v := ?_) rfl (by kernel_rfl) (by kernel_rfl) (by kernel_rfl) (fun _ _ _ h => h) (Or.inl ⟨by kernel_rfl, ?_⟩) (by assumption) ?_
              rotate_left 1
              · intro w' hw'; go_simp; try with_reducible rfl
              simp only [Act.put, List.setIfInBounds_toArray, List.set_cons_zero, List.set_cons_succ]
              refine wpAnyH_take (i := 2) (oi := ⟨some 83, _, _, _, _, _⟩) (v := ?_) rfl (by kernel_rfl) (by kernel_rfl) (by kernel_rfl) (fun _ _ _ h => h) (Or.inl ⟨by kernel_rfl, ?_⟩) (by assumption) ?_
              rotate_left 1
              · intro w' hw'; go_simp; try with_reducible rfl
              simp only [Act.put, List.setIfInBounds_toArray, List.set_cons_zero, List.set_cons_succ]
              refine wpAnyH_take (i := 3) (oi := ⟨some 84, _, _, _, _, _⟩) (v := ?_) rfl (by kernel_rfl) (by kernel_rfl) (by kernel_rfl) (fun _ _ _ h => h) (Or.inl ⟨by kernel_rfl, ?_⟩) (by assumption) ?_
              rotate_left 1
              · intro w' hw'; go_simp; try with_reducible rfl
              simp only [Act.put, List.setIfInBounds_toArray, List.set_cons_zero, List.set_cons_succ]
              refine wpAnyH_take (i := 4) (oi := ⟨some 85, _, _, _, _, _⟩) (v := ?_) rfl (by kernel_rfl) (by kernel_rfl) (by kernel_rfl) (fun _ _ _ h => h) (Or.inl ⟨by kernel_rfl, ?_⟩) (by assumption) ?_
              rotate_left 1
              · intro w' hw'; go_simp; try with_reducible rfl
              simp only [Act.put, List.setIfInBounds_toArray, List.set_cons_zero, List.set_cons_succ]
              refine wpAnyH_take (i := 5) (oi := ⟨some 86, _, _, _, _, _⟩) (v := ?_) rfl (by kernel_rfl) (by kernel_rfl) (by kernel_rfl) (fun _ _ _ h => h) (Or.inl ⟨by kernel_rfl, ?_⟩) (by assumption) ?_
              rotate_left 1
              · intro w' hw'; go_simp; try with_reducible rfl
              simp only [Act.put, List.setIfInBounds_toArray, List.set_cons_zero, List.set_cons_succ]
              refine wpAnyH_take (i := 6) (oi := ⟨some 87, _, _, _, _, _⟩) (v := ?_) rfl (by kernel_rfl) (by kernel_rfl) (by kernel_rfl) (fun _ _ _ h => h) (Or.inl ⟨by kernel_rfl, ?_⟩) (by assumption) ?_
              rotate_left 1
              · intro w' hw'; go_simp; try with_reducible rfl
              simp only [Act.put, List.setIfInBounds_toArray, List.set_cons_zero, List.set_cons_succ]
              refine wpAnyH_take (i := 9) (oi := ⟨some 90, _, _, _, _, _⟩) (v := ?_) rfl (by kernel_rfl) (by kernel_rfl) (by kernel_rfl) (fun _ _ _ h => h) (Or.inl ⟨by kernel_rfl, ?_⟩) (by assumption) ?_
              rotate_left 1
              · intro w' hw'; go_simp; try with_reducible rfl
              simp only [Act.put, List.setIfInBounds_toArray, List.set_cons_zero, List.set_cons_succ]
              refine wpAnyH_take (i := 10) (oi := ⟨some 91, _, _, _, _, _⟩) (v := ?_) rfl (by kernel_rfl) (by kernel_rfl) (by kernel_rfl) (fun _ _ _ h => h) (Or.inl ⟨by kernel_rfl, ?_⟩) (by assumption) ?_
              rotate_left 1
              · intro w' hw'; go_simp; try with_reducible rfl
              simp only [Act.put, List.setIfInBounds_toArray, List.set_cons_zero, List.set_cons_succ]
              refine wpAnyH_take (i := 11) (oi := ⟨some 92, _, _, _, _, _⟩) (v := ?_) rfl (by kernel_rfl) (by kernel_rfl) (by kernel_rfl) (fun _ _ _ h => h) (Or.inl ⟨by kernel_rfl, ?_⟩) (by assumption) ?_
              rotate_left 1
              · intro w' hw'; go_simp; try with_reducible rfl
              simp only [Act.put, List.setIfInBounds_toArray, List.set_cons_zero, List.set_cons_succ]
              refine wpAnyH_take (i := 12) (oi := ⟨some 93, _, _, _, _, _⟩) (v := ?_) rfl (by kernel_rfl) (by kernel_rfl) (by kernel_rfl) (fun _ _ _ h => h) (Or.inl ⟨by kernel_rfl, ?_⟩) (by assumption) ?_
              rotate_left 1
              · intro w' hw'; go_simp; try with_reducible rfl
              simp only [Act.put, List.setIfInBounds_toArray, List.set_cons_zero, List.set_cons_succ]
              refine wpAnyH_ready (rs := [7]) (by kernel_rfl) (by simp) (AllReadyH.cons (o := ⟨some 88, .call _, _, _, _, _⟩) rfl (fun K hK => ?_) AllReadyH.nil)
              rw [if_pos (by kernel_rfl)]
              go_simp
              refine (Hhd.out _ hHeld).mono ?_
              rintro rr w4 ⟨v4, rfl, hcv4, hb4⟩
              refine hK.out _ _ (hHeld.keep hb4) (fun hHeld4 => ?_)
              clear hK K
              try simp only [Act.put, List.setIfInBounds_toArray, List.set_cons_zero, List.set_cons_succ]
              refine wpAnyH_ready (rs := [8]) (by kernel_rfl) (by simp) (AllReadyH.cons (o := ⟨some 89, .convert _ _ _, _, _, _, _⟩) rfl (fun K hK => ?_) AllReadyH.nil)
              rw [if_pos (by kernel_rfl)]
              go_simp
              refine hK.out _ _ hHeld4 (fun hHeld5 => ?_)
              clear hK K
              try simp only [Act.put, List.setIfInBounds_toArray, List.set_cons_zero, List.set_cons_succ]
              by_cases hht : hm = tk
              · subst hht
                refine wpAnyH_take (i := 13) (oi := ⟨some 94, _, _, _, _, _⟩) (v := ?_) rfl (by kernel_rfl) (by kernel_rfl) (by kernel_rfl) (fun _ _ _ h => h) (Or.inl ⟨by kernel_rfl, ?_⟩) (by assumption) ?_
                rotate_left 1
                · intro w' hw'; go_simp; try with_reducible rfl
                simp only [Act.put, List.setIfInBounds_toArray, List.set_cons_zero, List.set_cons_succ]
                refine wpAnyH_take (i := 14) (oi := ⟨some 95, _, _, _, _, _⟩) (v := ?_) rfl (by kernel_rfl) (by kernel_rfl) (by kernel_rfl) (fun _ _ _ h => h) (Or.inl ⟨by kernel_rfl, ?_⟩) (by assumption) ?_
                rotate_left 1
                · intro w' hw'; go_simp; try with_reducible rfl
                simp only [Act.put, List.setIfInBounds_toArray, List.set_cons_zero, List.set_cons_succ]
                refine wpAnyH_done (by kernel_rfl) ?_ _
                have HX := Lib.hid hHeld5
                clear hHeld hHeld4 hHeld5 hk0 Hhd HKR hst hcv4
                go_wp2_with fail
                try rw [Exit.noGoto_ret]
                go_ret2
                refine ⟨HB.out.trans (HX.out.below.mono HB.out.size), .inr ⟨p, k, _, ?_, rfl, HO.out.below HX.out.below⟩⟩
                rw [Hbl.out, oneM_eq e b r h11 Hno.out (HG.out.symm.trans Hgs.out), if_neg]
                rintro (h | h)
                · exact h Hsz.out.symm
                · exact h (Hhm.out.symm.trans Htk.out)
              · have hq1 : ((SB hm).toList == (SB tk).toList) = false := by
                  rw [SB_toList, SB_toList, beq_eq_false_iff_ne]; exact hht
                refine wpAnyH_take (i := 13) (oi := ⟨some 94, _, _, _, _, _⟩) (v := ?_) rfl (by kernel_rfl) (by kernel_rfl) (by kernel_rfl) (fun _ _ _ h => h) (Or.inl ⟨by kernel_rfl, ?_⟩) (by assumption) ?_
                rotate_left 1
                · intro w' hw'; go_simp; try with_reducible rfl
                simp only [Act.put, List.setIfInBounds_toArray, List.set_cons_zero, List.set_cons_succ]
                refine wpAnyH_take (i := 14) (oi := ⟨some 95, _, _, _, _, _⟩) (v := ?_) rfl (by kernel_rfl) (by kernel_rfl) (by kernel_rfl) (fun _ _ _ h => h) (Or.inl ⟨by kernel_rfl, ?_⟩) (by assumption) ?_
                rotate_left 1
                · intro w' hw'; go_simp; try with_reducible rfl
                simp only [Act.put, List.setIfInBounds_toArray, List.set_cons_zero, List.set_cons_succ]
                refine wpAnyH_done (by kernel_rfl) ?_ _
                have HX := Lib.hid hHeld5
                clear hHeld hHeld4 hHeld5 hk0 Hhd HKR hst hcv4
                go_wp2_with fail
                try rw [Exit.noGoto_ret]
                go_ret2
                refine ⟨HB.out.trans (HX.out.below.mono HB.out.size), .inl ⟨?_, rfl⟩⟩
                rw [Hbl.out, oneM_eq e b r h11 Hno.out (HG.out.symm.trans Hgs.out), if_pos (.inr (fun h => hht (Hhm.out.trans (h.trans Htk.out.symm))))]
        · have hne : ((b.length : Int) == 11 + (mn : Int)) = false := by simp; omega
          go_wp2_with fail
          try rw [Exit.noGoto_ret]
          go_ret2
          refine ⟨HB1.out, .inl ⟨?_, rfl⟩⟩
          rw [Hbl.out, oneM, if_neg h11, if_pos (.inr (by rw [Hsz.out, ← Hmn.out]; exact hlb))]
end Go.Proofs.YtgcnolapjppbpaaGreatDoor
