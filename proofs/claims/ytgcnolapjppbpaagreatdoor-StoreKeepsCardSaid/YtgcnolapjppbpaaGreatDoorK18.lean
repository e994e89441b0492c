/-
  Texts of one proof, one behind the other.
-/
import Derived.Test.YtgcnolapjppbpaaGreatDoorK17
import Derived.Lib.OthersKept
import Derived.Lib.Bytealg
import Derived.Lib.Strings
import Derived.Laws.Runes
import Derived.BigQuiet
namespace Go.Proofs.YtgcnolapjppbpaaGreatDoor
open Go.RowKit
set_option maxRecDepth 100000
theorem indexByteS_calls (s : ByteArray) (c : Int) (w : World) :
    Calls Tryz.prog 222 #[.string s, .int .u8 c] w fun e w' => e = .returned (.int .i64 (Lib.indexByte s.data.toList c.toNat.toUInt8)) ∧ w' = w := by
  go_enter Tryz.func222, Tryz.ntmps222
  go_wp2
  rw [run_callFunc_extern Tryz.func223 (by kernel_rfl) (by kernel_rfl) (by kernel_rfl) (e := Extern.BytealgIndexByte.indexByte) (by kernel_rfl), Lib.run_indexByteString]
  simp only [Result.andThen]
  rw [Oper.upon_value]
  go_wp2
  go_ret
  exact ⟨rfl, rfl⟩
theorem indexByte_calls (s : ByteArray) (c : Int) (w : World) :
    Calls Tryz.prog 218 #[.string s, .int .u8 c] w fun e w' => e = .returned (.int .i64 (Lib.indexByte s.data.toList c.toNat.toUInt8)) ∧ w' = w := by
  go_enter Tryz.func218, Tryz.ntmps218
  go_wp2_with fail
  refine (indexByteS_calls s c w).mono ?_
  rintro r w1 ⟨rfl, rfl⟩
  go_wp2_with fail
  go_ret
  exact ⟨rfl, rfl⟩
def DG : ByteArray := ⟨#[48, 49, 50, 51, 52, 53, 54, 55, 56, 57, 45, 95]⟩
theorem DG_lo : ∀ c, c < 128 → decide (0 ≤ Lib.indexByte DG.data.toList (Nat.toUInt8 c)) = isDig c := by decide +kernel
theorem validRune_calls (r : Int) (w : World) :
    Calls Tryz.prog 219 #[.int .i32 r] w fun e w' => (e = .returned (.bool true) ∨ e = .returned (.bool false)) ∧ w' = w := by
  go_enter Tryz.func219, Tryz.ntmps219
  go_wp2_with fail
  all_goals (go_ret; first | exact ⟨.inl rfl, rfl⟩ | exact ⟨.inr rfl, rfl⟩)
theorem contains_lo (c : Nat) (w : World) (hc : c < 128) :
    Calls Tryz.prog 216 #[.string DG, .int .i32 (c : Int)] w fun e w' => e = .returned (.bool (isDig c)) ∧ w' = w := by
  have h0 : (0 : Int) ≤ (c : Int) := by omega
  have h1 : (c : Int) < 128 := by omega
  have h2 : IntKind.u8.wrap (c : Int) = (c : Int) := by simp [IntKind.wrap, IntKind.bits, IntKind.signed]; omega
  have h3 := DG_lo c hc
  go_enter Tryz.func216, Tryz.ntmps216
  go_wp2_with fail
  go_in
  go_wp2_with fail
  refine (indexByte_calls _ _ w).mono ?_
  rintro r w1 ⟨rfl, rfl⟩
  go_wp2_with fail
  go_ret
  rw [← h3]; exact ⟨rfl, rfl⟩
theorem enc_hi (r : Int) (h : 128 ≤ r) : ∃ bs : List UInt8, Utf8.encode r = SB bs ∧ 2 ≤ bs.length ∧ bs.length ≤ 4 ∧ ∀ b ∈ bs, 128 ≤ b.toNat := by
  unfold Utf8.encode
  obtain ⟨c, hc⟩ : ∃ c, c = (if Utf8.valid r then r.toNat else Utf8.runeError) := ⟨_, rfl⟩
  have h1 : 128 ≤ c ∧ c ≤ 1114111 := by
    rw [hc]
    unfold Utf8.valid Utf8.runeError
    split
    · rename_i hv; simp at hv; omega
    · omega
  simp only [← hc]
  have hb : ∀ n : Nat, 128 ≤ n → n < 256 → 128 ≤ (UInt8.ofNat n).toNat := fun n h1 h2 => by
    have : (UInt8.ofNat n).toNat = n % 256 := rfl
    omega
  rw [if_neg (by omega)]
  split
  · refine ⟨[_, _], rfl, by simp, by simp, fun b h => ?_⟩
    simp only [List.mem_cons, List.not_mem_nil, or_false] at h
    rcases h with rfl | rfl <;> exact hb _ (by omega) (by omega)
  split
  · refine ⟨[_, _, _], rfl, by simp, by simp, fun b h => ?_⟩
    simp only [List.mem_cons, List.not_mem_nil, or_false] at h
    rcases h with rfl | rfl | rfl <;> exact hb _ (by omega) (by omega)
  · refine ⟨[_, _, _, _], rfl, by simp, by simp, fun b h => ?_⟩
    simp only [List.mem_cons, List.not_mem_nil, or_false] at h
    rcases h with rfl | rfl | rfl | rfl <;> exact hb _ (by omega) (by omega)
theorem indexByte_none : ∀ (l : List UInt8) (c : UInt8), (∀ b ∈ l, b ≠ c) → Lib.indexByte l c = -1
  | [], _, _ => rfl
  | b :: l, c, h => by
    have ih := indexByte_none l c (fun x hx => h x (List.mem_cons_of_mem _ hx))
    unfold Lib.indexByte
    rw [ih]
    have := h b (List.mem_cons_self ..)
    simp [this]
set_option maxHeartbeats 1600000 in
theorem contains_hi (r : Int) (w : World) (h1 : 128 ≤ r) (h2 : r ≤ 2147483647) :
    Calls Tryz.prog 216 #[.string DG, .int .i32 r] w fun e w' => e = .returned (.bool false) ∧ Below w.heap.size w w' := by
  have a0 : (0 : Int) ≤ r := by omega
  have a1 : ¬ r < 128 := by omega
  by_cases h3 : r = 65533
  · subst h3
    go_enter Tryz.func216, Tryz.ntmps216
    go_wp2_with fail
    go_in
    go_wp2_with fail
    go_loopg [] 12 (fun gk wr => ∃ pos, gk + pos = 12 ∧ wr.heap[w.heap.size]? = some (.stringIter DG pos) ∧ Below w.heap.size w wr)
    case atStart => exact ⟨0, rfl, World.iter_heap w DG 0, (Below.refl _ w).alloc (Nat.le_refl _) _⟩
    case round =>
      obtain ⟨pos, hgk, hit, hbw⟩ := hrel
      by_cases hp : pos < 12
      · have hp' : pos < DG.size := hp
        have hlo : (DG[pos]'hp').toNat < 128 := by
          have : ∀ i (h : i < DG.size), (DG[i]'h).toNat < 128 := by decide +kernel
          exact this pos hp'
        have hnx : ∀ ty, (Instr.next (.pointer (some ⟨w.heap.size, 0, none⟩)) true ty).run Tryz.prog wr = _ := fun ty => Lib.run_next_ascii_at wr w.heap.size DG pos ty hit hp' hlo
        have hit2 := Lib.iterAt_heap wr w.heap.size DG pos (pos + 1) hit
        have hbw2 := Lib.below_iterAt hbw (k := w.heap.size) (by omega) DG (pos + 1)
        have hne : (((DG[pos]'hp').toNat : Int) == 65533) = false := by simp; omega
        go_wp2_with fail
        go_roundg (12 - (pos + 1))
        case measure => omega
        case rel => exact ⟨pos + 1, by omega, hit2, hbw2⟩
      · have hp' : ¬ pos < DG.size := hp
        have hnx : ∀ ty, (Instr.next (.pointer (some ⟨w.heap.size, 0, none⟩)) true ty).run Tryz.prog wr = _ := fun ty => Lib.run_next_end_at wr w.heap.size DG pos ty hit hp'
        go_wp2_with fail
        go_ret
        exact ⟨rfl, hbw⟩
  · have a2 : (r == 65533) = false := by simp; omega
    obtain ⟨bs, e1, e2, e3, e4⟩ := enc_hi r h1
    go_enter Tryz.func216, Tryz.ntmps216
    go_wp2_with fail
    go_in
    go_wp2_with fail
    refine (validRune_calls r w).mono ?_
    rintro e w1 ⟨rfl | rfl, rfl⟩
    rotate_left
    · go_wp2_with fail
      go_ret
      exact ⟨rfl, Below.refl _ _⟩
    · have hcv := fun w => run_convert_int_string (P := Tryz.prog) w 21 9 .i32 r (by kernel_rfl) Tryz.underlying9
      rw [e1] at hcv
      obtain ⟨k, hk⟩ : ∃ k, bs.length = k + 1 := ⟨bs.length - 1, by omega⟩
      obtain ⟨y, hy⟩ : ∃ y, y = (bs.getD k 0).toNat := ⟨_, rfl⟩
      have hy1 : 128 ≤ y := by
        rw [hy]; refine e4 _ ?_
        rw [List.getD, List.getElem?_eq_getElem (by omega)]; exact List.getElem_mem _
      have hy2 : y < 256 := by rw [hy]; exact (bs.getD k 0).toNat_lt
      have hix := fun w => indexS w bs k (by omega)
      have hid := fun w => indexS w [48, 49, 50, 51, 52, 53, 54, 55, 56, 57, 45, 95] k (by simp; omega)
      obtain ⟨z, hz⟩ : ∃ z, z = (([48, 49, 50, 51, 52, 53, 54, 55, 56, 57, 45, 95] : List UInt8).getD k 0).toNat := ⟨_, rfl⟩
      have hz1 : z < 128 := by
        have : ∀ i, i < 12 → (([48, 49, 50, 51, 52, 53, 54, 55, 56, 57, 45, 95] : List UInt8).getD i 0).toNat < 128 := by decide +kernel
        rw [hz]; exact this k (by omega)
      rw [← hy] at hix
      rw [← hz] at hid
      change ∀ w, (Instr.index 9 (.string DG) (.int .i64 (k : Int))).run Tryz.prog w = _ at hid
      have hsd := fun w => sliceS w [48, 49, 50, 51, 52, 53, 54, 55, 56, 57, 45, 95] (k + 1) (by simp; omega)
      change ∀ w, (Instr.slice 9 (.string DG) (some (.int .i64 ((k + 1 : Nat) : Int))) none none).run Tryz.prog w = _ at hsd
      rw [show ((k + 1 : Nat) : Int) = (k : Int) + 1 by omega] at hsd
      have hk12 : (k : Int) < 12 := by omega
      have hk0 : (0 : Int) ≤ (k : Int) := by omega
      have hne : ((z : Int) != (y : Int)) = true := by simp; omega
      have hsz : (SB bs).size = k + 1 := by rw [SB_size, hk]
      have hk1 : ((k + 1 : Nat) : Int) - 1 = (k : Int) := by omega
      have hsz2 : DG.size = 12 := rfl
      have hnone : Lib.indexByte ((SB (([48, 49, 50, 51, 52, 53, 54, 55, 56, 57, 45, 95] : List UInt8).drop (k + 1))).data.toList) ((y : Int)).toNat.toUInt8 = -1 := by
        rw [SB_data]
        refine indexByte_none _ _ (fun b hb e => ?_)
        have hb2 := List.mem_of_mem_drop hb
        have : ∀ x ∈ ([48, 49, 50, 51, 52, 53, 54, 55, 56, 57, 45, 95] : List UInt8), x.toNat < 128 := by decide +kernel
        have h5 := this b hb2
        rw [e] at h5
        have h6 : (((y : Int)).toNat.toUInt8).toNat = y % 256 := rfl
        omega
      change Lib.indexByte ((SB (([49, 50, 51, 52, 53, 54, 55, 56, 57, 45, 95] : List UInt8).drop k)).data.toList) ((y : Int)).toNat.toUInt8 = -1 at hnone
      have hcl := fun w => indexByte_calls (SB (([49, 50, 51, 52, 53, 54, 55, 56, 57, 45, 95] : List UInt8).drop k)) (y : Int) w
      rw [hnone] at hcl
      have Hcalls := Lib.hid hcl
      clear hnone hcl hk e2 e3 e4 e1 hy hz
      go_wp2_with fail
      go_step3
      go_wp2_with fail
      go_loopg [9, 10] 1 (fun gk iv fv wr => gk = 1 ∧ iv = .int .i64 (k : Int) ∧ fv = .int .i64 0 ∧ wr = w1)
      case atStart => exact ⟨rfl, rfl, rfl, rfl⟩
      case round =>
        obtain ⟨rfl, rfl, rfl, rfl⟩ := hrel
        go_wp2_with fail
        go_step3
        go_wp2_with fail
        go_quiet (fail)
        go_wp2_with fail
        have hcl2 := Hcalls.out
        have z1 : IntKind.i64.wrap ((k : Int) + 1) = (k : Int) + 1 := by simp [IntKind.wrap, IntKind.bits, IntKind.signed]; omega
        have hb2 : Below wr.heap.size wr (wr.drewN nq) := ⟨rfl, rfl, rfl, Nat.le_refl _, fun _ _ => rfl⟩
        generalize wr.drewN nq = w2 at hb2 ⊢
        go_quiet ((go_at_call 218; exact Calls.quiet_of_same (hcl2 _)))
        have hb3 : Below wr.heap.size wr (w2.drewN nq) := hb2.trans ⟨rfl, rfl, rfl, Nat.le_refl _, fun _ _ => rfl⟩
        go_wp2_with fail
        rw [Exit.noGoto_ret]
        go_simp
        go_wp2_with fail
        go_ret
        exact ⟨rfl, hb3⟩
theorem nameP_calls (l : List UInt8) (w : World) (hl : l.length ≤ 9223372036854775807) :
    Calls Tryz.prog 215 #[.string (SB l)] w fun e w' => e = .returned (.bool (nameM l)) ∧ Below w.heap.size w w' := by
  have hsz : (SB l).size = l.length := SB_size l
  have htl : (SB l).toList = l := SB_toList l
  by_cases h1 : l.length < 1
  · have e1 := nameM_len (l := l) (by omega)
    obtain rfl : l = [] := List.eq_nil_of_length_eq_zero (by omega)
    have E1 := Lib.hid e1
    clear e1
    go_enter Tryz.func215, Tryz.ntmps215
    go_wp2_with fail
    go_ret
    rw [E1.out]; exact ⟨rfl, Below.refl _ _⟩
  have h0 : l.isEmpty = false := by
    cases l with
    | nil => simp at h1
    | cons a l => rfl
  by_cases h2 : 32 < l.length
  · have e1 := nameM_len (l := l) (by omega)
    have h2' : (32 : Int) < ((l.length : Nat) : Int) := by omega
    have E1 := Lib.hid e1
    clear e1
    go_enter Tryz.func215, Tryz.ntmps215
    go_wp2_with fail
    go_ret
    rw [E1.out]; exact ⟨rfl, Below.refl _ _⟩
  have h2' : ¬ (32 : Int) < ((l.length : Nat) : Int) := by omega
  go_enter Tryz.func215, Tryz.ntmps215
  go_wp2_with fail
  go_loopg [] l.length (fun gk wr => ∃ pos, gk + pos = l.length ∧ wr.heap[w.heap.size]? = some (.stringIter (SB l) pos) ∧ Below w.heap.size w wr ∧ ∀ i, i < pos → nameAt l i = true)
  case atStart => exact ⟨0, rfl, World.iter_heap w (SB l) 0, (Below.refl _ w).alloc (Nat.le_refl _) _, fun i hi => by omega⟩
  case round =>
    obtain ⟨pos, hgk, hit, hbw, hI⟩ := hrel
    have Hgk := Lib.hid hgk
    have HI := Lib.hid hI
    by_cases hp : pos < l.length
    · have Hp := Lib.hid hp
      have hp' : pos < (SB l).size := by omega
      have hg : ((SB l)[pos]'hp').toNat = (l.getD pos 0).toNat := by rw [SB_get]
      obtain ⟨c, hc⟩ : ∃ c, c = (l.getD pos 0).toNat := ⟨_, rfl⟩
      rw [← hc] at hg
      by_cases hlo : c < 128
      · have hlo' : ((SB l)[pos]'hp').toNat < 128 := by rw [hg]; omega
        have hnx : ∀ ty, (Instr.next (.pointer (some ⟨w.heap.size, 0, none⟩)) true ty).run Tryz.prog wr = _ := fun ty => Lib.run_next_ascii_at wr w.heap.size (SB l) pos ty hit hp' hlo'
        rw [hg] at hnx
        have hit2 := Lib.iterAt_heap wr w.heap.size (SB l) pos (pos + 1) hit
        have Hbw2 := Lib.hid (Lib.below_iterAt hbw (k := w.heap.size) (by omega) (SB l) (pos + 1))
        have Hcr := Lib.hid (fun w => contains_lo c w hlo)
        clear hg hlo' hit hbw
        rcases (show (97 ≤ c ∧ c ≤ 122) ∨ (c < 97 ∧ pos = 0) ∨ (122 < c ∧ pos = 0) ∨ (c < 97 ∧ pos ≠ 0) ∨ (122 < c ∧ pos ≠ 0) by omega) with hcs | hcs | hcs | hcs | hcs
        · have f0 : (97 : Int) ≤ (c : Int) := by omega
          have f1 : (c : Int) ≤ 122 := by omega
          have HN := Lib.hid (nameAt_snoc (l := l) (k := pos) HI.out (nameAt_eq hc (by unfold isLet isDig; simp; omega)))
          clear hcs hI hgk hc hp hp' Hcr
          go_wp2_with fail
          go_roundg (l.length - (pos + 1))
          case measure => have := Hgk.out; have := Hp.out; omega
          case rel => exact ⟨pos + 1, by have := Hgk.out; have := Hp.out; omega, hit2, Hbw2.out, HN.out⟩
        · have f0 : ¬ (97 : Int) ≤ (c : Int) := by omega
          have f1 : ((pos : Int) == 0) = true := by simp; omega
          have HN := Lib.hid (nameM_no hp (nameAt_eq hc (by unfold isLet isDig; simp; omega)))
          clear hcs hI hgk hc hp hp' Hcr
          go_wp2_with fail
          go_ret
          rw [HN.out]; exact ⟨rfl, Hbw2.out⟩
        · have f0 : (97 : Int) ≤ (c : Int) := by omega
          have f1 : ¬ (c : Int) ≤ 122 := by omega
          have f2 : ((pos : Int) == 0) = true := by simp; omega
          have HN := Lib.hid (nameM_no hp (nameAt_eq hc (by unfold isLet isDig; simp; omega)))
          clear hcs hI hgk hc hp hp' Hcr
          go_wp2_with fail
          go_ret
          rw [HN.out]; exact ⟨rfl, Hbw2.out⟩
        · have f0 : ¬ (97 : Int) ≤ (c : Int) := by omega
          have f1 : ((pos : Int) == 0) = false := by simp; omega
          by_cases hd : isDig c = true
          · have HN := Lib.hid (nameAt_snoc (l := l) (k := pos) HI.out (nameAt_eq hc (by rw [hd]; simp; omega)))
            have Hc2 := Hcr.out
            rw [hd] at Hc2
            clear hcs hI hgk hc hp hp' Hcr
            go_wp2_with fail
            refine (Hc2 _).mono ?_
            rintro e w1 ⟨rfl, rfl⟩
            go_wp2_with fail
            go_roundg (l.length - (pos + 1))
            case measure => have := Hgk.out; have := Hp.out; omega
            case rel => exact ⟨pos + 1, by have := Hgk.out; have := Hp.out; omega, hit2, Hbw2.out, HN.out⟩
          · have hd' : isDig c = false := by simpa using hd
            have HN := Lib.hid (nameM_no hp (nameAt_eq hc (by rw [hd']; unfold isLet; simp; omega)))
            have Hc2 := Hcr.out
            rw [hd'] at Hc2
            clear hcs hI hgk hc hp hp' Hcr
            go_wp2_with fail
            refine (Hc2 _).mono ?_
            rintro e w1 ⟨rfl, rfl⟩
            go_wp2_with fail
            go_ret
            rw [HN.out]; exact ⟨rfl, Hbw2.out⟩
        · have f0 : (97 : Int) ≤ (c : Int) := by omega
          have f1 : ¬ (c : Int) ≤ 122 := by omega
          have f2 : ((pos : Int) == 0) = false := by simp; omega
          by_cases hd : isDig c = true
          · have HN := Lib.hid (nameAt_snoc (l := l) (k := pos) HI.out (nameAt_eq hc (by rw [hd]; simp; omega)))
            have Hc2 := Hcr.out
            rw [hd] at Hc2
            clear hcs hI hgk hc hp hp' Hcr
            go_wp2_with fail
            refine (Hc2 _).mono ?_
            rintro e w1 ⟨rfl, rfl⟩
            go_wp2_with fail
            go_roundg (l.length - (pos + 1))
            case measure => have := Hgk.out; have := Hp.out; omega
            case rel => exact ⟨pos + 1, by have := Hgk.out; have := Hp.out; omega, hit2, Hbw2.out, HN.out⟩
          · have hd' : isDig c = false := by simpa using hd
            have HN := Lib.hid (nameM_no hp (nameAt_eq hc (by rw [hd']; unfold isLet; simp; omega)))
            have Hc2 := Hcr.out
            rw [hd'] at Hc2
            clear hcs hI hgk hc hp hp' Hcr
            go_wp2_with fail
            refine (Hc2 _).mono ?_
            rintro e w1 ⟨rfl, rfl⟩
            go_wp2_with fail
            go_ret
            rw [HN.out]; exact ⟨rfl, Hbw2.out⟩
      · have hhi : 128 ≤ ((SB l)[pos]'hp').toNat := by rw [hg]; omega
        obtain ⟨d1, d2⟩ := decode_high (SB l) pos hp' hhi
        have d3 := decode_le (SB l) pos
        have hnx : ∀ ty, (Instr.next (.pointer (some ⟨w.heap.size, 0, none⟩)) true ty).run Tryz.prog wr = _ := fun ty => Lib.run_next_any_at wr w.heap.size (SB l) pos ty hit hp'
        obtain ⟨r, hr⟩ : ∃ r, r = (Utf8.decode (SB l) pos).1 := ⟨_, rfl⟩
        obtain ⟨q, hq⟩ : ∃ q, q = (Utf8.decode (SB l) pos).2 := ⟨_, rfl⟩
        rw [← hr] at hnx d1 d3
        rw [← hq] at hnx
        have Hbw2 := Lib.hid (Lib.below_iterAt hbw (k := w.heap.size) (by omega) (SB l) (pos + q))
        have HN := Lib.hid (nameM_no hp (nameAt_eq hc (b := false) (by unfold isLet isDig; simp; omega)))
        have Hcr := Lib.hid (contains_hi (r : Int) (wr.iterAt w.heap.size (SB l) (pos + q)) (by omega) (by omega))
        have f0 : (97 : Int) ≤ (r : Int) := by omega
        have f1 : ¬ (r : Int) ≤ 122 := by omega
        have hsw := hbw.size
        clear hg hhi hit hbw hr hq d1 d2 d3 hc hlo hI hgk
        by_cases hp0 : pos = 0
        · have f2 : ((pos : Int) == 0) = true := by simp; omega
          clear Hcr hp0
          go_wp2_with fail
          go_ret
          rw [HN.out]; exact ⟨rfl, Hbw2.out⟩
        · have f2 : ((pos : Int) == 0) = false := by simp; omega
          go_wp2_with fail
          refine Hcr.out.mono ?_
          rintro e w1 ⟨rfl, hb1⟩
          have HB1 := Lib.hid (Hbw2.out.trans (hb1.mono Hbw2.out.size))
          clear hb1 Hbw2
          go_wp2_with fail
          go_ret
          rw [HN.out]; exact ⟨rfl, HB1.out⟩
    · have hp' : ¬ pos < (SB l).size := by omega
      have hnx : ∀ ty, (Instr.next (.pointer (some ⟨w.heap.size, 0, none⟩)) true ty).run Tryz.prog wr = _ := fun ty => Lib.run_next_end_at wr w.heap.size (SB l) pos ty hit hp'
      have E1 := Lib.hid (nameM_yes (l := l) (by omega) (by omega) (fun i hi => hI i (by omega)))
      clear hI hgk
      go_wp2_with fail
      go_ret
      rw [E1.out]; exact ⟨rfl, hbw⟩
end Go.Proofs.YtgcnolapjppbpaaGreatDoor
