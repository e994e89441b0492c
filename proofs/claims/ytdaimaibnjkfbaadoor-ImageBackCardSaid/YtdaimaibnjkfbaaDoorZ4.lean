/-
  Package event: the taker's ints.
-/
import Derived.Test.YtdaimaibnjkfbaaDoorZ3
import Derived.Deep.LoopGhost
import Derived.Outline
import Derived.Lib.OthersKept
import Derived.Lib.Bytealg
import Derived.Lib.Strings
import Derived.Laws.Runes
import Derived.BigQuiet
import Derived.Deep.MidRow
import Derived.Laws.ResultCell
namespace Go.Proofs.YtdaimaibnjkfbaaDoor
open Go.RowKit
set_option maxRecDepth 100000

theorem numGo_lt : ∀ (l : List UInt8) (i u : Nat), i ≤ 9 → u < 2 ^ (7 * i) → (numGo i u l).2.1 < 2 ^ 64
  | [], i, u, _, _ => by unfold numGo; exact (show (0 : Nat) < 2 ^ 64 by decide)
  | c :: l, i, u, hi, hu => by
    unfold numGo
    split
    · exact (show (0 : Nat) < 2 ^ 64 by decide)
    · rename_i hf
      have hc := c.toNat_lt
      have h2 : (2 : Nat) ^ (7 * i) ≤ 2 ^ 63 := Nat.pow_le_pow_right (by omega) (by omega)
      split
      · have h1 := (sev_lt (m := c.toNat) (i := i) (by omega) hi (by omega)).1
        show u + c.toNat * 2 ^ (7 * i) < 2 ^ 64
        omega
      · refine numGo_lt l (i + 1) _ (by omega) ?_
        rw [show 7 * (i + 1) = 7 * i + 7 by omega, Nat.pow_add]
        have : (c.toNat - 128 + 1) * 2 ^ (7 * i) ≤ 128 * 2 ^ (7 * i) := Nat.mul_le_mul_right _ (by omega)
        rw [Nat.add_mul] at this
        rw [Nat.mul_comm (2 ^ (7 * i)) (2 ^ 7)]; omega
theorem numR_lt (l : List UInt8) : (numR l).2.1 < 2 ^ 64 := numGo_lt l 0 0 (by omega) (by omega)
theorem TkM.num_lt (s : TkM) : s.num.1 < 2 ^ 64 := by
  unfold TkM.num
  split
  · split
    · exact numR_lt _
    · exact (show (0 : Nat) < 2 ^ 64 by decide)
  · exact (show (0 : Nat) < 2 ^ 64 by decide)
theorem wrap_asInt (n : Nat) (h : n < 2 ^ 64) : IntKind.i64.wrap (n : Int) = asInt n := by
  unfold asInt
  by_cases h2 : n ≤ 9223372036854775807
  · rw [if_pos h2]; simp [IntKind.wrap, IntKind.bits, IntKind.signed]; omega
  · rw [if_neg h2]; simp [IntKind.wrap, IntKind.bits, IntKind.signed]; omega
def intsM (s : TkM) (cs : Array Value) (offs : List Nat) : TkM × Array Value := offs.foldl (fun p o => (p.1.int.2, p.2.setIfInBounds o (.int .i64 p.1.int.1))) (s, cs)
theorem intsM_snoc (s : TkM) (cs : Array Value) (offs : List Nat) (o : Nat) : intsM s cs (offs ++ [o]) = ((intsM s cs offs).1.int.2, (intsM s cs offs).2.setIfInBounds o (.int .i64 (intsM s cs offs).1.int.1)) := by simp [intsM]
theorem intsM_size (s : TkM) (cs : Array Value) : ∀ offs : List Nat, (intsM s cs offs).2.size = cs.size := by
  intro offs
  unfold intsM
  have : ∀ (offs : List Nat) (p : TkM × Array Value), (offs.foldl (fun p o => (p.1.int.2, p.2.setIfInBounds o (.int .i64 p.1.int.1))) p).2.size = p.2.size := by
    intro offs
    induction offs with
    | nil => intro p; rfl
    | cons o offs ih => intro p; rw [List.foldl_cons, ih]; simp
  exact this offs (s, cs)
end Go.Proofs.YtdaimaibnjkfbaaDoor
/-
  Names: what a name is; the document's Name.
-/
namespace Go.Proofs.YtdaimaibnjkfbaaDoor
open Go.RowKit
set_option maxRecDepth 100000

def isLet (c : Nat) : Bool := decide (97 ≤ c ∧ c ≤ 122)
def isDig (c : Nat) : Bool := decide (48 ≤ c ∧ c ≤ 57 ∨ c = 45 ∨ c = 95)
def nameAt (l : List UInt8) (i : Nat) : Bool := isLet (l.getD i 0).toNat || (decide (i ≠ 0) && isDig (l.getD i 0).toNat)
def nameM (l : List UInt8) : Bool := decide (1 ≤ l.length ∧ l.length ≤ 32 ∧ ∀ i, i < l.length → nameAt l i = true)
theorem nameM_no {l : List UInt8} {i : Nat} (h : i < l.length) (hn : nameAt l i = false) : nameM l = false := by
  unfold nameM
  rw [decide_eq_false_iff_not]
  intro ⟨_, _, h3⟩
  rw [h3 i h] at hn; cases hn
theorem nameM_yes {l : List UInt8} (h1 : 1 ≤ l.length) (h2 : l.length ≤ 32) (h : ∀ i, i < l.length → nameAt l i = true) : nameM l = true := by
  unfold nameM
  rw [decide_eq_true_iff]; exact ⟨h1, h2, h⟩
theorem nameM_len {l : List UInt8} (h : ¬ (1 ≤ l.length ∧ l.length ≤ 32)) : nameM l = false := by
  unfold nameM
  rw [decide_eq_false_iff_not]
  intro ⟨h1, h2, _⟩; exact h ⟨h1, h2⟩
theorem nameAt_eq {l : List UInt8} {k c : Nat} {b : Bool} (hc : c = (l.getD k 0).toNat) (h : (isLet c || (decide (k ≠ 0) && isDig c)) = b) : nameAt l k = b := by
  unfold nameAt; rw [← hc]; exact h
theorem nameAt_snoc {l : List UInt8} {k : Nat} (h : ∀ i, i < k → nameAt l i = true) (hk : nameAt l k = true) : ∀ i, i < k + 1 → nameAt l i = true := fun i hi => by
  rcases Nat.lt_or_ge i k with h1 | h1
  · exact h i h1
  · obtain rfl : i = k := by omega
    exact hk
theorem refName_calls (l : List UInt8) (w : World) (hl : l.length ≤ 9223372036854775807) :
    Calls Tryd.prog 68 #[.string (SB l)] w fun e w' => e = .returned (.bool (nameM l)) ∧ w' = w := by
  have hsz : (SB l).size = l.length := SB_size l
  by_cases h1 : l.length < 1
  · have e1 := nameM_len (l := l) (by omega)
    have h1' : ((l.length : Nat) : Int) < 1 := by omega
    have E1 := Lib.hid e1
    clear e1
    go_enter Tryd.func68, Tryd.ntmps68
    go_wp2_with fail
    go_ret
    rw [E1.out]; exact ⟨rfl, rfl⟩
  by_cases h2 : 32 < l.length
  · have e1 := nameM_len (l := l) (by omega)
    have h1' : ¬ ((l.length : Nat) : Int) < 1 := by omega
    have h2' : (32 : Int) < ((l.length : Nat) : Int) := by omega
    have E1 := Lib.hid e1
    clear e1
    go_enter Tryd.func68, Tryd.ntmps68
    go_wp2_with fail
    go_ret
    rw [E1.out]; exact ⟨rfl, rfl⟩
  have h1' : ¬ ((l.length : Nat) : Int) < 1 := by omega
  have h2' : ¬ (32 : Int) < ((l.length : Nat) : Int) := by omega
  go_enter Tryd.func68, Tryd.ntmps68
  go_wp2_with fail
  go_loopg [3] l.length (fun gk iv wr => ∃ k : Nat, gk + k = l.length ∧ iv = .int .i64 (k : Int) ∧ wr = w ∧ ∀ i, i < k → nameAt l i = true)
  case atStart => exact ⟨0, rfl, rfl, rfl, fun i hi => by omega⟩
  case round =>
    obtain ⟨k, hgk, rfl, rfl, hI⟩ := hrel
    have Hgk := Lib.hid hgk
    have HI := Lib.hid hI
    by_cases hk : k < l.length
    · have hk0 : (0 : Int) ≤ (k : Int) := by omega
      have hk1 : (k : Int) < (l.length : Int) := by omega
      have hix := indexS wr l k hk
      obtain ⟨c, hc⟩ : ∃ c, c = (l.getD k 0).toNat := ⟨_, rfl⟩
      rw [← hc] at hix
      -- ROUND
      rcases (show (97 ≤ c ∧ c ≤ 122) ∨ (c < 97 ∧ k = 0) ∨ (122 < c ∧ k = 0) ∨ (48 ≤ c ∧ c ≤ 57 ∧ k ≠ 0) ∨ (c = 45 ∧ k ≠ 0) ∨ (c = 95 ∧ k ≠ 0) ∨ (c < 48 ∧ c ≠ 45 ∧ k ≠ 0) ∨ (57 < c ∧ c < 97 ∧ c ≠ 95 ∧ k ≠ 0) ∨ (122 < c ∧ k ≠ 0) by omega) with hcs | hcs | hcs | hcs | hcs | hcs | hcs | hcs | hcs
      · have f0 : (97 : Int) ≤ (c : Int) := by omega
        have f1 : (c : Int) ≤ 122 := by omega
        have HN := Lib.hid (nameAt_snoc (l := l) (k := k) HI.out (nameAt_eq hc (by unfold isLet isDig; simp; omega)))
        clear hcs hI hgk hc hk
        go_wp2_with fail
        go_roundg (l.length - (k + 1))
        case measure => have := Hgk.out; omega
        case rel => exact ⟨k + 1, by have := Hgk.out; omega, by go_num, rfl, HN.out⟩
      · have f0 : ¬ (97 : Int) ≤ (c : Int) := by omega
        have f1 : ((k : Int) == 0) = true := by simp; omega
        have HN := Lib.hid (nameM_no hk (nameAt_eq hc (by unfold isLet isDig; simp; omega)))
        clear hcs hI hgk hc hk
        go_wp2_with fail
        go_ret
        rw [HN.out]; exact ⟨rfl, rfl⟩
      · have f0 : (97 : Int) ≤ (c : Int) := by omega
        have f1 : ¬ (c : Int) ≤ 122 := by omega
        have f2 : ((k : Int) == 0) = true := by simp; omega
        have HN := Lib.hid (nameM_no hk (nameAt_eq hc (by unfold isLet isDig; simp; omega)))
        clear hcs hI hgk hc hk
        go_wp2_with fail
        go_ret
        rw [HN.out]; exact ⟨rfl, rfl⟩
      · have f0 : ¬ (97 : Int) ≤ (c : Int) := by omega
        have f1 : ((k : Int) == 0) = false := by simp; omega
        have f2 : ¬ (c : Int) < 48 := by omega
        have f3 : ¬ (57 : Int) < (c : Int) := by omega
        have HN := Lib.hid (nameAt_snoc (l := l) (k := k) HI.out (nameAt_eq hc (by unfold isLet isDig; simp; omega)))
        clear hcs hI hgk hc hk
        go_wp2_with fail
        go_roundg (l.length - (k + 1))
        case measure => have := Hgk.out; omega
        case rel => exact ⟨k + 1, by have := Hgk.out; omega, by go_num, rfl, HN.out⟩
      · have f0 : ((k : Int) == 0) = false := by simp; omega
        have f1 : (c : Int) = 45 := by omega
        have HN := Lib.hid (nameAt_snoc (l := l) (k := k) HI.out (nameAt_eq hc (by unfold isLet isDig; simp; omega)))
        clear hcs hI hgk hc hk
        go_wp2_with fail
        go_roundg (l.length - (k + 1))
        case measure => have := Hgk.out; omega
        case rel => exact ⟨k + 1, by have := Hgk.out; omega, by go_num, rfl, HN.out⟩
      · have f0 : ((k : Int) == 0) = false := by simp; omega
        have f1 : (c : Int) = 95 := by omega
        have HN := Lib.hid (nameAt_snoc (l := l) (k := k) HI.out (nameAt_eq hc (by unfold isLet isDig; simp; omega)))
        clear hcs hI hgk hc hk
        go_wp2_with fail
        go_roundg (l.length - (k + 1))
        case measure => have := Hgk.out; omega
        case rel => exact ⟨k + 1, by have := Hgk.out; omega, by go_num, rfl, HN.out⟩
      · have f0 : ¬ (97 : Int) ≤ (c : Int) := by omega
        have f1 : ((k : Int) == 0) = false := by simp; omega
        have f2 : (c : Int) < 48 := by omega
        have f3 : ((c : Int) != 45) = true := by simp; omega
        have f4 : ((c : Int) != 95) = true := by simp; omega
        have HN := Lib.hid (nameM_no hk (nameAt_eq hc (by unfold isLet isDig; simp; omega)))
        clear hcs hI hgk hc hk
        go_wp2_with fail
        go_ret
        rw [HN.out]; exact ⟨rfl, rfl⟩
      · have f0 : ¬ (97 : Int) ≤ (c : Int) := by omega
        have f1 : ((k : Int) == 0) = false := by simp; omega
        have f2 : ¬ (c : Int) < 48 := by omega
        have f3 : (57 : Int) < (c : Int) := by omega
        have f4 : ((c : Int) != 45) = true := by simp; omega
        have f5 : ((c : Int) != 95) = true := by simp; omega
        have HN := Lib.hid (nameM_no hk (nameAt_eq hc (by unfold isLet isDig; simp; omega)))
        clear hcs hI hgk hc hk
        go_wp2_with fail
        go_ret
        rw [HN.out]; exact ⟨rfl, rfl⟩
      · have f0 : (97 : Int) ≤ (c : Int) := by omega
        have f1 : ¬ (c : Int) ≤ 122 := by omega
        have f2 : ((k : Int) == 0) = false := by simp; omega
        have f3 : ¬ (c : Int) < 48 := by omega
        have f4 : (57 : Int) < (c : Int) := by omega
        have f5 : ((c : Int) != 45) = true := by simp; omega
        have f6 : ((c : Int) != 95) = true := by simp; omega
        have HN := Lib.hid (nameM_no hk (nameAt_eq hc (by unfold isLet isDig; simp; omega)))
        clear hcs hI hgk hc hk
        go_wp2_with fail
        go_ret
        rw [HN.out]; exact ⟨rfl, rfl⟩
    · have e1 := nameM_yes (l := l) (by omega) (by omega) (fun i hi => hI i (by omega))
      have hk1 : ¬ (k : Int) < (l.length : Int) := by omega
      have E1 := Lib.hid e1
      clear hI hgk e1
      go_wp2_with fail
      go_ret
      rw [E1.out]; exact ⟨rfl, rfl⟩
end Go.Proofs.YtdaimaibnjkfbaaDoor
/-
  strings.ContainsRune of the text of digits; package names' Name.
-/
namespace Go.Proofs.YtdaimaibnjkfbaaDoor
open Go.RowKit
set_option maxRecDepth 100000

theorem indexByteS_calls (s : ByteArray) (c : Int) (w : World) :
    Calls Tryd.prog 127 #[.string s, .int .u8 c] w fun e w' => e = .returned (.int .i64 (Lib.indexByte s.data.toList c.toNat.toUInt8)) ∧ w' = w := by
  go_enter Tryd.func127, Tryd.ntmps127
  go_wp2
  rw [run_callFunc_extern Tryd.func128 (by kernel_rfl) (by kernel_rfl) (by kernel_rfl) (e := Extern.BytealgIndexByte.indexByte) (by kernel_rfl), Lib.run_indexByteString]
  simp only [Result.andThen]
  rw [Oper.upon_value]
  go_wp2
  go_ret
  exact ⟨rfl, rfl⟩
theorem indexByte_calls (s : ByteArray) (c : Int) (w : World) :
    Calls Tryd.prog 123 #[.string s, .int .u8 c] w fun e w' => e = .returned (.int .i64 (Lib.indexByte s.data.toList c.toNat.toUInt8)) ∧ w' = w := by
  go_enter Tryd.func123, Tryd.ntmps123
  go_wp2_with fail
  refine (indexByteS_calls s c w).mono ?_
  rintro r w1 ⟨rfl, rfl⟩
  go_wp2_with fail
  go_ret
  exact ⟨rfl, rfl⟩
def DG : ByteArray := ⟨#[48, 49, 50, 51, 52, 53, 54, 55, 56, 57, 45, 95]⟩
theorem DG_lo : ∀ c, c < 128 → decide (0 ≤ Lib.indexByte DG.data.toList (Nat.toUInt8 c)) = isDig c := by decide +kernel
theorem validRune_calls (r : Int) (w : World) :
    Calls Tryd.prog 124 #[.int .i32 r] w fun e w' => (e = .returned (.bool true) ∨ e = .returned (.bool false)) ∧ w' = w := by
  go_enter Tryd.func124, Tryd.ntmps124
  go_wp2_with fail
  all_goals (go_ret; first | exact ⟨.inl rfl, rfl⟩ | exact ⟨.inr rfl, rfl⟩)
theorem contains_lo (c : Nat) (w : World) (hc : c < 128) :
    Calls Tryd.prog 121 #[.string DG, .int .i32 (c : Int)] w fun e w' => e = .returned (.bool (isDig c)) ∧ w' = w := by
  have h0 : (0 : Int) ≤ (c : Int) := by omega
  have h1 : (c : Int) < 128 := by omega
  have h2 : IntKind.u8.wrap (c : Int) = (c : Int) := by simp [IntKind.wrap, IntKind.bits, IntKind.signed]; omega
  have h3 := DG_lo c hc
  go_enter Tryd.func121, Tryd.ntmps121
  go_wp2_with fail
  go_in
  go_wp2_with fail
  refine (indexByte_calls _ _ w).mono ?_
  rintro r w1 ⟨rfl, rfl⟩
  go_wp2_with fail
  go_ret
  rw [← h3]; exact ⟨rfl, rfl⟩
theorem enc_hi (r : Int) (h : 128 ≤ r) : ∃ bs : List UInt8, Utf8.encode r = SB bs ∧ 2 ≤ bs.length ∧ bs.length ≤ 4 ∧ ∀ b ∈ bs, 128 ≤ b.toNat := by
  unfold Utf8.encode
  obtain ⟨c, hc⟩ : ∃ c, c = (if Utf8.valid r then r.toNat else Utf8.runeError) := ⟨_, rfl⟩
  have h1 : 128 ≤ c ∧ c ≤ 1114111 := by
    rw [hc]
    unfold Utf8.valid Utf8.runeError
    split
    · rename_i hv; simp at hv; omega
    · omega
  simp only [← hc]
  have hb : ∀ n : Nat, 128 ≤ n → n < 256 → 128 ≤ (UInt8.ofNat n).toNat := fun n h1 h2 => by
    have : (UInt8.ofNat n).toNat = n % 256 := rfl
    omega
  rw [if_neg (by omega)]
  split
  · refine ⟨[_, _], rfl, by simp, by simp, fun b h => ?_⟩
    simp only [List.mem_cons, List.not_mem_nil, or_false] at h
    rcases h with rfl | rfl <;> exact hb _ (by omega) (by omega)
  split
  · refine ⟨[_, _, _], rfl, by simp, by simp, fun b h => ?_⟩
    simp only [List.mem_cons, List.not_mem_nil, or_false] at h
    rcases h with rfl | rfl | rfl <;> exact hb _ (by omega) (by omega)
  · refine ⟨[_, _, _, _], rfl, by simp, by simp, fun b h => ?_⟩
    simp only [List.mem_cons, List.not_mem_nil, or_false] at h
    rcases h with rfl | rfl | rfl | rfl <;> exact hb _ (by omega) (by omega)
theorem indexByte_none : ∀ (l : List UInt8) (c : UInt8), (∀ b ∈ l, b ≠ c) → Lib.indexByte l c = -1
  | [], _, _ => rfl
  | b :: l, c, h => by
    have ih := indexByte_none l c (fun x hx => h x (List.mem_cons_of_mem _ hx))
    unfold Lib.indexByte
    rw [ih]
    have := h b (List.mem_cons_self ..)
    simp [this]
set_option maxHeartbeats 1600000 in
theorem contains_hi (r : Int) (w : World) (h1 : 128 ≤ r) (h2 : r ≤ 2147483647) :
    Calls Tryd.prog 121 #[.string DG, .int .i32 r] w fun e w' => e = .returned (.bool false) ∧ Below w.heap.size w w' := by
  have a0 : (0 : Int) ≤ r := by omega
  have a1 : ¬ r < 128 := by omega
  by_cases h3 : r = 65533
  · subst h3
    go_enter Tryd.func121, Tryd.ntmps121
    go_wp2_with fail
    go_in
    go_wp2_with fail
    go_loopg [] 12 (fun gk wr => ∃ pos, gk + pos = 12 ∧ wr.heap[w.heap.size]? = some (.stringIter DG pos) ∧ Below w.heap.size w wr)
    case atStart => exact ⟨0, rfl, World.iter_heap w DG 0, (Below.refl _ w).alloc (Nat.le_refl _) _⟩
    case round =>
      obtain ⟨pos, hgk, hit, hbw⟩ := hrel
      by_cases hp : pos < 12
      · have hp' : pos < DG.size := hp
        have hlo : (DG[pos]'hp').toNat < 128 := by
          have : ∀ i (h : i < DG.size), (DG[i]'h).toNat < 128 := by decide +kernel
          exact this pos hp'
        have hnx : ∀ ty, (Instr.next (.pointer (some ⟨w.heap.size, 0, none⟩)) true ty).run Tryd.prog wr = _ := fun ty => Lib.run_next_ascii_at wr w.heap.size DG pos ty hit hp' hlo
        have hit2 := Lib.iterAt_heap wr w.heap.size DG pos (pos + 1) hit
        have hbw2 := Lib.below_iterAt hbw (k := w.heap.size) (by omega) DG (pos + 1)
        have hne : (((DG[pos]'hp').toNat : Int) == 65533) = false := by simp; omega
        go_wp2_with fail
        go_roundg (12 - (pos + 1))
        case measure => omega
        case rel => exact ⟨pos + 1, by omega, hit2, hbw2⟩
      · have hp' : ¬ pos < DG.size := hp
        have hnx : ∀ ty, (Instr.next (.pointer (some ⟨w.heap.size, 0, none⟩)) true ty).run Tryd.prog wr = _ := fun ty => Lib.run_next_end_at wr w.heap.size DG pos ty hit hp'
        go_wp2_with fail
        go_ret
        exact ⟨rfl, hbw⟩
  · have a2 : (r == 65533) = false := by simp; omega
    obtain ⟨bs, e1, e2, e3, e4⟩ := enc_hi r h1
    go_enter Tryd.func121, Tryd.ntmps121
    go_wp2_with fail
    go_in
    go_wp2_with fail
    refine (validRune_calls r w).mono ?_
    rintro e w1 ⟨rfl | rfl, rfl⟩
    rotate_left
    · go_wp2_with fail
      go_ret
      exact ⟨rfl, Below.refl _ _⟩
    · have hcv := fun w => run_convert_int_string (P := Tryd.prog) w 21 9 .i32 r (by kernel_rfl) Tryd.underlying9
      rw [e1] at hcv
      obtain ⟨k, hk⟩ : ∃ k, bs.length = k + 1 := ⟨bs.length - 1, by omega⟩
      obtain ⟨y, hy⟩ : ∃ y, y = (bs.getD k 0).toNat := ⟨_, rfl⟩
      have hy1 : 128 ≤ y := by
        rw [hy]; refine e4 _ ?_
        rw [List.getD, List.getElem?_eq_getElem (by omega)]; exact List.getElem_mem _
      have hy2 : y < 256 := by rw [hy]; exact (bs.getD k 0).toNat_lt
      have hix := fun w => indexS w bs k (by omega)
      have hid := fun w => indexS w [48, 49, 50, 51, 52, 53, 54, 55, 56, 57, 45, 95] k (by simp; omega)
      obtain ⟨z, hz⟩ : ∃ z, z = (([48, 49, 50, 51, 52, 53, 54, 55, 56, 57, 45, 95] : List UInt8).getD k 0).toNat := ⟨_, rfl⟩
      have hz1 : z < 128 := by
        have : ∀ i, i < 12 → (([48, 49, 50, 51, 52, 53, 54, 55, 56, 57, 45, 95] : List UInt8).getD i 0).toNat < 128 := by decide +kernel
        rw [hz]; exact this k (by omega)
      rw [← hy] at hix
      rw [← hz] at hid
      change ∀ w, (Instr.index 9 (.string DG) (.int .i64 (k : Int))).run Tryd.prog w = _ at hid
      have hsd := fun w => sliceS w [48, 49, 50, 51, 52, 53, 54, 55, 56, 57, 45, 95] (k + 1) (by simp; omega)
      change ∀ w, (Instr.slice 9 (.string DG) (some (.int .i64 ((k + 1 : Nat) : Int))) none none).run Tryd.prog w = _ at hsd
      rw [show ((k + 1 : Nat) : Int) = (k : Int) + 1 by omega] at hsd
      have hk12 : (k : Int) < 12 := by omega
      have hk0 : (0 : Int) ≤ (k : Int) := by omega
      have hne : ((z : Int) != (y : Int)) = true := by simp; omega
      have hsz : (SB bs).size = k + 1 := by rw [SB_size, hk]
      have hk1 : ((k + 1 : Nat) : Int) - 1 = (k : Int) := by omega
      have hsz2 : DG.size = 12 := rfl
      have hnone : Lib.indexByte ((SB (([48, 49, 50, 51, 52, 53, 54, 55, 56, 57, 45, 95] : List UInt8).drop (k + 1))).data.toList) ((y : Int)).toNat.toUInt8 = -1 := by
        rw [SB_data]
        refine indexByte_none _ _ (fun b hb e => ?_)
        have hb2 := List.mem_of_mem_drop hb
        have : ∀ x ∈ ([48, 49, 50, 51, 52, 53, 54, 55, 56, 57, 45, 95] : List UInt8), x.toNat < 128 := by decide +kernel
        have h5 := this b hb2
        rw [e] at h5
        have h6 : (((y : Int)).toNat.toUInt8).toNat = y % 256 := rfl
        omega
      change Lib.indexByte ((SB (([49, 50, 51, 52, 53, 54, 55, 56, 57, 45, 95] : List UInt8).drop k)).data.toList) ((y : Int)).toNat.toUInt8 = -1 at hnone
      have hcl := fun w => indexByte_calls (SB (([49, 50, 51, 52, 53, 54, 55, 56, 57, 45, 95] : List UInt8).drop k)) (y : Int) w
      rw [hnone] at hcl
      have Hcalls := Lib.hid hcl
      clear hnone hcl hk e2 e3 e4 e1 hy hz
      go_wp2_with fail
      go_step3
      go_wp2_with fail
      go_loopg [9, 10] 1 (fun gk iv fv wr => gk = 1 ∧ iv = .int .i64 (k : Int) ∧ fv = .int .i64 0 ∧ wr = w1)
      case atStart => exact ⟨rfl, rfl, rfl, rfl⟩
      case round =>
        obtain ⟨rfl, rfl, rfl, rfl⟩ := hrel
        go_wp2_with fail
        go_step3
        go_wp2_with fail
        go_quiet (fail)
        go_wp2_with fail
        have hcl2 := Hcalls.out
        have z1 : IntKind.i64.wrap ((k : Int) + 1) = (k : Int) + 1 := by simp [IntKind.wrap, IntKind.bits, IntKind.signed]; omega
        have hb2 : Below wr.heap.size wr (wr.drewN nq) := ⟨rfl, rfl, rfl, Nat.le_refl _, fun _ _ => rfl⟩
        generalize wr.drewN nq = w2 at hb2 ⊢
        go_quiet ((go_at_call 123; exact Calls.quiet_of_same (hcl2 _)))
        have hb3 : Below wr.heap.size wr (w2.drewN nq) := hb2.trans ⟨rfl, rfl, rfl, Nat.le_refl _, fun _ _ => rfl⟩
        go_wp2_with fail
        rw [Exit.noGoto_ret]
        go_simp
        go_wp2_with fail
        go_ret
        exact ⟨rfl, hb3⟩
theorem nameP_calls (l : List UInt8) (w : World) (hl : l.length ≤ 9223372036854775807) :
    Calls Tryd.prog 120 #[.string (SB l)] w fun e w' => e = .returned (.bool (nameM l)) ∧ Below w.heap.size w w' := by
  have hsz : (SB l).size = l.length := SB_size l
  have htl : (SB l).toList = l := SB_toList l
  by_cases h1 : l.length < 1
  · have e1 := nameM_len (l := l) (by omega)
    obtain rfl : l = [] := List.eq_nil_of_length_eq_zero (by omega)
    have E1 := Lib.hid e1
    clear e1
    go_enter Tryd.func120, Tryd.ntmps120
    go_wp2_with fail
    go_ret
    rw [E1.out]; exact ⟨rfl, Below.refl _ _⟩
  have h0 : l.isEmpty = false := by
    cases l with
    | nil => simp at h1
    | cons a l => rfl
  by_cases h2 : 32 < l.length
  · have e1 := nameM_len (l := l) (by omega)
    have h2' : (32 : Int) < ((l.length : Nat) : Int) := by omega
    have E1 := Lib.hid e1
    clear e1
    go_enter Tryd.func120, Tryd.ntmps120
    go_wp2_with fail
    go_ret
    rw [E1.out]; exact ⟨rfl, Below.refl _ _⟩
  have h2' : ¬ (32 : Int) < ((l.length : Nat) : Int) := by omega
  go_enter Tryd.func120, Tryd.ntmps120
  go_wp2_with fail
  go_loopg [] l.length (fun gk wr => ∃ pos, gk + pos = l.length ∧ wr.heap[w.heap.size]? = some (.stringIter (SB l) pos) ∧ Below w.heap.size w wr ∧ ∀ i, i < pos → nameAt l i = true)
  case atStart => exact ⟨0, rfl, World.iter_heap w (SB l) 0, (Below.refl _ w).alloc (Nat.le_refl _) _, fun i hi => by omega⟩
  case round =>
    obtain ⟨pos, hgk, hit, hbw, hI⟩ := hrel
    have Hgk := Lib.hid hgk
    have HI := Lib.hid hI
    by_cases hp : pos < l.length
    · have Hp := Lib.hid hp
      have hp' : pos < (SB l).size := by omega
      have hg : ((SB l)[pos]'hp').toNat = (l.getD pos 0).toNat := by rw [SB_get]
      obtain ⟨c, hc⟩ : ∃ c, c = (l.getD pos 0).toNat := ⟨_, rfl⟩
      rw [← hc] at hg
      by_cases hlo : c < 128
      · have hlo' : ((SB l)[pos]'hp').toNat < 128 := by rw [hg]; omega
        have hnx : ∀ ty, (Instr.next (.pointer (some ⟨w.heap.size, 0, none⟩)) true ty).run Tryd.prog wr = _ := fun ty => Lib.run_next_ascii_at wr w.heap.size (SB l) pos ty hit hp' hlo'
        rw [hg] at hnx
        have hit2 := Lib.iterAt_heap wr w.heap.size (SB l) pos (pos + 1) hit
        have Hbw2 := Lib.hid (Lib.below_iterAt hbw (k := w.heap.size) (by omega) (SB l) (pos + 1))
        have Hcr := Lib.hid (fun w => contains_lo c w hlo)
        clear hg hlo' hit hbw
        rcases (show (97 ≤ c ∧ c ≤ 122) ∨ (c < 97 ∧ pos = 0) ∨ (122 < c ∧ pos = 0) ∨ (c < 97 ∧ pos ≠ 0) ∨ (122 < c ∧ pos ≠ 0) by omega) with hcs | hcs | hcs | hcs | hcs
        · have f0 : (97 : Int) ≤ (c : Int) := by omega
          have f1 : (c : Int) ≤ 122 := by omega
          have HN := Lib.hid (nameAt_snoc (l := l) (k := pos) HI.out (nameAt_eq hc (by unfold isLet isDig; simp; omega)))
          clear hcs hI hgk hc hp hp' Hcr
          go_wp2_with fail
          go_roundg (l.length - (pos + 1))
          case measure => have := Hgk.out; have := Hp.out; omega
          case rel => exact ⟨pos + 1, by have := Hgk.out; have := Hp.out; omega, hit2, Hbw2.out, HN.out⟩
        · have f0 : ¬ (97 : Int) ≤ (c : Int) := by omega
          have f1 : ((pos : Int) == 0) = true := by simp; omega
          have HN := Lib.hid (nameM_no hp (nameAt_eq hc (by unfold isLet isDig; simp; omega)))
          clear hcs hI hgk hc hp hp' Hcr
          go_wp2_with fail
          go_ret
          rw [HN.out]; exact ⟨rfl, Hbw2.out⟩
        · have f0 : (97 : Int) ≤ (c : Int) := by omega
          have f1 : ¬ (c : Int) ≤ 122 := by omega
          have f2 : ((pos : Int) == 0) = true := by simp; omega
          have HN := Lib.hid (nameM_no hp (nameAt_eq hc (by unfold isLet isDig; simp; omega)))
          clear hcs hI hgk hc hp hp' Hcr
          go_wp2_with fail
          go_ret
          rw [HN.out]; exact ⟨rfl, Hbw2.out⟩
        · have f0 : ¬ (97 : Int) ≤ (c : Int) := by omega
          have f1 : ((pos : Int) == 0) = false := by simp; omega
          by_cases hd : isDig c = true
          · have HN := Lib.hid (nameAt_snoc (l := l) (k := pos) HI.out (nameAt_eq hc (by rw [hd]; simp; omega)))
            have Hc2 := Hcr.out
            rw [hd] at Hc2
            clear hcs hI hgk hc hp hp' Hcr
            go_wp2_with fail
            refine (Hc2 _).mono ?_
            rintro e w1 ⟨rfl, rfl⟩
            go_wp2_with fail
            go_roundg (l.length - (pos + 1))
            case measure => have := Hgk.out; have := Hp.out; omega
            case rel => exact ⟨pos + 1, by have := Hgk.out; have := Hp.out; omega, hit2, Hbw2.out, HN.out⟩
          · have hd' : isDig c = false := by simpa using hd
            have HN := Lib.hid (nameM_no hp (nameAt_eq hc (by rw [hd']; unfold isLet; simp; omega)))
            have Hc2 := Hcr.out
            rw [hd'] at Hc2
            clear hcs hI hgk hc hp hp' Hcr
            go_wp2_with fail
            refine (Hc2 _).mono ?_
            rintro e w1 ⟨rfl, rfl⟩
            go_wp2_with fail
            go_ret
            rw [HN.out]; exact ⟨rfl, Hbw2.out⟩
        · have f0 : (97 : Int) ≤ (c : Int) := by omega
          have f1 : ¬ (c : Int) ≤ 122 := by omega
          have f2 : ((pos : Int) == 0) = false := by simp; omega
          by_cases hd : isDig c = true
          · have HN := Lib.hid (nameAt_snoc (l := l) (k := pos) HI.out (nameAt_eq hc (by rw [hd]; simp; omega)))
            have Hc2 := Hcr.out
            rw [hd] at Hc2
            clear hcs hI hgk hc hp hp' Hcr
            go_wp2_with fail
            refine (Hc2 _).mono ?_
            rintro e w1 ⟨rfl, rfl⟩
            go_wp2_with fail
            go_roundg (l.length - (pos + 1))
            case measure => have := Hgk.out; have := Hp.out; omega
            case rel => exact ⟨pos + 1, by have := Hgk.out; have := Hp.out; omega, hit2, Hbw2.out, HN.out⟩
          · have hd' : isDig c = false := by simpa using hd
            have HN := Lib.hid (nameM_no hp (nameAt_eq hc (by rw [hd']; unfold isLet; simp; omega)))
            have Hc2 := Hcr.out
            rw [hd'] at Hc2
            clear hcs hI hgk hc hp hp' Hcr
            go_wp2_with fail
            refine (Hc2 _).mono ?_
            rintro e w1 ⟨rfl, rfl⟩
            go_wp2_with fail
            go_ret
            rw [HN.out]; exact ⟨rfl, Hbw2.out⟩
      · have hhi : 128 ≤ ((SB l)[pos]'hp').toNat := by rw [hg]; omega
        obtain ⟨d1, d2⟩ := decode_high (SB l) pos hp' hhi
        have d3 := decode_le (SB l) pos
        have hnx : ∀ ty, (Instr.next (.pointer (some ⟨w.heap.size, 0, none⟩)) true ty).run Tryd.prog wr = _ := fun ty => Lib.run_next_any_at wr w.heap.size (SB l) pos ty hit hp'
        obtain ⟨r, hr⟩ : ∃ r, r = (Utf8.decode (SB l) pos).1 := ⟨_, rfl⟩
        obtain ⟨q, hq⟩ : ∃ q, q = (Utf8.decode (SB l) pos).2 := ⟨_, rfl⟩
        rw [← hr] at hnx d1 d3
        rw [← hq] at hnx
        have Hbw2 := Lib.hid (Lib.below_iterAt hbw (k := w.heap.size) (by omega) (SB l) (pos + q))
        have HN := Lib.hid (nameM_no hp (nameAt_eq hc (b := false) (by unfold isLet isDig; simp; omega)))
        have Hcr := Lib.hid (contains_hi (r : Int) (wr.iterAt w.heap.size (SB l) (pos + q)) (by omega) (by omega))
        have f0 : (97 : Int) ≤ (r : Int) := by omega
        have f1 : ¬ (r : Int) ≤ 122 := by omega
        have hsw := hbw.size
        clear hg hhi hit hbw hr hq d1 d2 d3 hc hlo hI hgk
        by_cases hp0 : pos = 0
        · have f2 : ((pos : Int) == 0) = true := by simp; omega
          clear Hcr hp0
          go_wp2_with fail
          go_ret
          rw [HN.out]; exact ⟨rfl, Hbw2.out⟩
        · have f2 : ((pos : Int) == 0) = false := by simp; omega
          go_wp2_with fail
          refine Hcr.out.mono ?_
          rintro e w1 ⟨rfl, hb1⟩
          have HB1 := Lib.hid (Hbw2.out.trans (hb1.mono Hbw2.out.size))
          clear hb1 Hbw2
          go_wp2_with fail
          go_ret
          rw [HN.out]; exact ⟨rfl, HB1.out⟩
    · have hp' : ¬ pos < (SB l).size := by omega
      have hnx : ∀ ty, (Instr.next (.pointer (some ⟨w.heap.size, 0, none⟩)) true ty).run Tryd.prog wr = _ := fun ty => Lib.run_next_end_at wr w.heap.size (SB l) pos ty hit hp'
      have E1 := Lib.hid (nameM_yes (l := l) (by omega) (by omega) (fun i hi => hI i (by omega)))
      clear hI hgk
      go_wp2_with fail
      go_ret
      rw [E1.out]; exact ⟨rfl, hbw⟩
end Go.Proofs.YtdaimaibnjkfbaaDoor
/-
  Events and sessions: what they are; which may be; the document's May.
-/
namespace Go.Proofs.YtdaimaibnjkfbaaDoor
open Go.RowKit
set_option maxRecDepth 100000

structure SesM where
  slot : Int
  birth : Int
  upS : Int
  upB : Int
  kind : Int
  user : List UInt8
  label : List UInt8
  scopes : Nat
  level : Int
  born : Int
  deadline : Int
  depth : Int
def SesM.cells (s : SesM) : Array Value := #[.int .i64 s.slot, .int .i64 s.birth, .int .i64 s.upS, .int .i64 s.upB, .int .i64 s.kind, .string (SB s.user), .string (SB s.label), .int .u64 (s.scopes : Int), .int .i64 s.level, .int .i64 s.born, .int .i64 s.deadline, .int .i64 s.depth]
def fromM (n lo hi : Int) : Bool := decide (lo ≤ n) && decide (n ≤ hi)
theorem fromM_yes {n lo hi : Int} (h : fromM n lo hi = true) : lo ≤ n ∧ n ≤ hi := by simpa [fromM] using h
def loginM (s : SesM) : Bool := (s.upS == 0) && ((s.upB == 0) && (s.label.isEmpty && (s.depth == 0)))
def childM (s : SesM) : Bool := fromM s.upS 0 31 && (fromM s.upB 1 (s.birth - 1) && (nameM s.label && fromM s.depth 1 6))
def mayS (s : SesM) : Bool := fromM s.slot 0 31 && (fromM s.birth 1 1048576 && (nameM s.user && (fromM s.level 0 2 && (fromM s.born 0 1099511627776 && (fromM s.deadline (s.born + 1) 1099511627776 &&
  (if (s.kind == 0) = true then loginM s else if (s.kind == 1) = true then childM s else if (s.kind == 2) = true then (childM s && decide (s.deadline ≤ s.born + 300)) else false))))))
theorem label_no {l : List UInt8} (h : l.isEmpty = false) : ¬ (SB l).toList = [] := by
  rw [SB_toList]; cases l with
  | nil => simp at h
  | cons a l => simp
theorem label_yes {l : List UInt8} (h : l.isEmpty = true) : (SB l).toList = [] := by
  rw [SB_toList]; exact List.isEmpty_iff.1 h
theorem wrap_born {b : Int} (h : fromM b 0 1099511627776 = true) : IntKind.i64.wrap (b + 1) = b + 1 := by
  have := fromM_yes h; simp [IntKind.wrap, IntKind.bits, IntKind.signed]; omega
theorem wrap_step {b : Int} (h : fromM b 0 1099511627776 = true) : IntKind.i64.wrap (b + 300) = b + 300 := by
  have := fromM_yes h; simp [IntKind.wrap, IntKind.bits, IntKind.signed]; omega
theorem wrap_birth {b : Int} (h : fromM b 1 1048576 = true) : IntKind.i64.wrap (b - 1) = b - 1 := by
  have := fromM_yes h; simp [IntKind.wrap, IntKind.bits, IntKind.signed]; omega
theorem wrap_dead {b d : Int} (h : fromM b 0 1099511627776 = true) (h2 : fromM d (b + 1) 1099511627776 = true) : IntKind.i64.wrap (d - b) = d - b := by
  have := fromM_yes h; have := fromM_yes h2; simp [IntKind.wrap, IntKind.bits, IntKind.signed]; omega
theorem refFrom_calls {n lo hi : Int} {b : Bool} (h : fromM n lo hi = b) (w : World) :
    Calls Tryd.prog 67 #[.int .i64 n, .int .i64 lo, .int .i64 hi] w fun e w' => e = .returned (.bool b) ∧ w' = w := by
  subst h
  unfold fromM
  go_enter Tryd.func67, Tryd.ntmps67
  by_cases h1 : lo ≤ n
  · by_cases h2 : n ≤ hi
    · go_wp2_with fail
      go_ret
      simp [h1, h2]
    · go_wp2_with fail
      go_ret
      simp [h2]
  · go_wp2_with fail
    go_ret
    simp; intro h; omega
theorem refName_at {l : List UInt8} {b : Bool} (h : nameM l = b) (hl : l.length ≤ 9223372036854775807) (w : World) :
    Calls Tryd.prog 68 #[.string (SB l)] w fun e w' => e = .returned (.bool b) ∧ w' = w := h ▸ refName_calls l w hl
set_option maxHeartbeats 1600000 in
theorem refSession_calls (s : SesM) (w : World) (hu : s.user.length ≤ 9223372036854775807) (hl : s.label.length ≤ 9223372036854775807) :
    Calls Tryd.prog 49 #[.agg s.cells] w fun e w' => e = .returned (.bool (mayS s)) ∧ Below w.heap.size w w' := by
  unfold SesM.cells
  have hb0 := fun o => below_alloc w o
  have Hb := Lib.hid hb0
  have hmay : ∀ b, mayS s = b → (b = mayS s) := fun _ h => h.symm
  have Hm := Lib.hid hmay
  clear hb0 hmay
  go_enter Tryd.func49, Tryd.ntmps49
  go_wp2_with fail
  cases h1 : fromM s.slot 0 31
  · refine (refFrom_calls h1 _).mono ?_
    rintro e w1 ⟨rfl, rfl⟩
    go_wp2_with fail
    go_ret
    exact ⟨ret_eq (congrArg Value.bool (Hm.out _ (by unfold mayS loginM childM; rw [h1]; first | done | rfl))), Hb.out _⟩
  refine (refFrom_calls h1 _).mono ?_
  rintro e w1 ⟨rfl, rfl⟩
  go_wp2_with fail
  cases h2 : fromM s.birth 1 1048576
  · refine (refFrom_calls h2 _).mono ?_
    rintro e w1 ⟨rfl, rfl⟩
    go_wp2_with fail
    go_ret
    exact ⟨ret_eq (congrArg Value.bool (Hm.out _ (by unfold mayS loginM childM; rw [h1, h2]; first | done | rfl))), Hb.out _⟩
  refine (refFrom_calls h2 _).mono ?_
  rintro e w1 ⟨rfl, rfl⟩
  go_wp2_with fail
  cases h3 : nameM s.user
  · refine (refName_at h3 hu _).mono ?_
    rintro e w1 ⟨rfl, rfl⟩
    go_wp2_with fail
    go_ret
    exact ⟨ret_eq (congrArg Value.bool (Hm.out _ (by unfold mayS loginM childM; rw [h1, h2, h3]; first | done | rfl))), Hb.out _⟩
  refine (refName_at h3 hu _).mono ?_
  rintro e w1 ⟨rfl, rfl⟩
  go_wp2_with fail
  cases h4 : fromM s.level 0 2
  · refine (refFrom_calls h4 _).mono ?_
    rintro e w1 ⟨rfl, rfl⟩
    go_wp2_with fail
    go_ret
    exact ⟨ret_eq (congrArg Value.bool (Hm.out _ (by unfold mayS loginM childM; rw [h1, h2, h3, h4]; first | done | rfl))), Hb.out _⟩
  refine (refFrom_calls h4 _).mono ?_
  rintro e w1 ⟨rfl, rfl⟩
  go_wp2_with fail
  cases h5 : fromM s.born 0 1099511627776
  · refine (refFrom_calls h5 _).mono ?_
    rintro e w1 ⟨rfl, rfl⟩
    go_wp2_with fail
    go_ret
    exact ⟨ret_eq (congrArg Value.bool (Hm.out _ (by unfold mayS loginM childM; rw [h1, h2, h3, h4, h5]; first | done | rfl))), Hb.out _⟩
  refine (refFrom_calls h5 _).mono ?_
  rintro e w1 ⟨rfl, rfl⟩
  have z1 := wrap_born h5
  go_wp2_with fail
  cases h6 : fromM s.deadline (s.born + 1) 1099511627776
  · refine (refFrom_calls h6 _).mono ?_
    rintro e w1 ⟨rfl, rfl⟩
    go_wp2_with fail
    go_ret
    exact ⟨ret_eq (congrArg Value.bool (Hm.out _ (by unfold mayS loginM childM; rw [h1, h2, h3, h4, h5, h6]; first | done | rfl))), Hb.out _⟩
  refine (refFrom_calls h6 _).mono ?_
  rintro e w1 ⟨rfl, rfl⟩
  cases k0 : (s.kind == 0)
  rotate_left
  · cases u1 : (s.upS == 0)
    · go_wp2_with fail
      go_ret
      exact ⟨ret_eq (congrArg Value.bool (Hm.out _ (by unfold mayS loginM childM; rw [h1, h2, h3, h4, h5, h6, k0, u1]; first | done | rfl))), Hb.out _⟩
    cases u2 : (s.upB == 0)
    · go_wp2_with fail
      go_ret
      exact ⟨ret_eq (congrArg Value.bool (Hm.out _ (by unfold mayS loginM childM; rw [h1, h2, h3, h4, h5, h6, k0, u1, u2]; first | done | rfl))), Hb.out _⟩
    cases u3 : s.label.isEmpty
    · have u5 : ¬ (SB s.label).toList = [] := label_no u3
      go_wp2_with fail
      go_ret
      exact ⟨ret_eq (congrArg Value.bool (Hm.out _ (by unfold mayS loginM childM; rw [h1, h2, h3, h4, h5, h6, k0, u1, u2, u3]; first | done | rfl))), Hb.out _⟩
    have u5 : (SB s.label).toList = [] := label_yes u3
    cases u4 : (s.depth == 0)
    · go_wp2_with fail
      go_ret
      exact ⟨ret_eq (congrArg Value.bool (Hm.out _ (by unfold mayS loginM childM; rw [h1, h2, h3, h4, h5, h6, k0, u1, u2, u3, u4]; first | done | rfl))), Hb.out _⟩
    go_wp2_with fail
    go_ret
    exact ⟨ret_eq (congrArg Value.bool (Hm.out _ (by unfold mayS loginM childM; rw [h1, h2, h3, h4, h5, h6, k0, u1, u2, u3, u4]; first | done | rfl))), Hb.out _⟩
  cases k1 : (s.kind == 1)
  rotate_left
  · skip
    have z2 := wrap_birth h2
    go_wp2_with fail
    cases c1 : fromM s.upS 0 31
    · refine (refFrom_calls c1 _).mono ?_
      rintro e w1 ⟨rfl, rfl⟩
      go_wp2_with fail
      go_ret
      exact ⟨ret_eq (congrArg Value.bool (Hm.out _ (by unfold mayS loginM childM; rw [h1, h2, h3, h4, h5, h6, k0, k1, c1]; first | done | rfl))), Hb.out _⟩
    refine (refFrom_calls c1 _).mono ?_
    rintro e w1 ⟨rfl, rfl⟩
    go_wp2_with fail
    cases c2 : fromM s.upB 1 (s.birth - 1)
    · refine (refFrom_calls c2 _).mono ?_
      rintro e w1 ⟨rfl, rfl⟩
      go_wp2_with fail
      go_ret
      exact ⟨ret_eq (congrArg Value.bool (Hm.out _ (by unfold mayS loginM childM; rw [h1, h2, h3, h4, h5, h6, k0, k1, c1, c2]; first | done | rfl))), Hb.out _⟩
    refine (refFrom_calls c2 _).mono ?_
    rintro e w1 ⟨rfl, rfl⟩
    go_wp2_with fail
    cases c3 : nameM s.label
    · refine (refName_at c3 hl _).mono ?_
      rintro e w1 ⟨rfl, rfl⟩
      go_wp2_with fail
      go_ret
      exact ⟨ret_eq (congrArg Value.bool (Hm.out _ (by unfold mayS loginM childM; rw [h1, h2, h3, h4, h5, h6, k0, k1, c1, c2, c3]; first | done | rfl))), Hb.out _⟩
    refine (refName_at c3 hl _).mono ?_
    rintro e w1 ⟨rfl, rfl⟩
    go_wp2_with fail
    cases c4 : fromM s.depth 1 6
    · refine (refFrom_calls c4 _).mono ?_
      rintro e w1 ⟨rfl, rfl⟩
      go_wp2_with fail
      go_ret
      exact ⟨ret_eq (congrArg Value.bool (Hm.out _ (by unfold mayS loginM childM; rw [h1, h2, h3, h4, h5, h6, k0, k1, c1, c2, c3, c4]; first | done | rfl))), Hb.out _⟩
    refine (refFrom_calls c4 _).mono ?_
    rintro e w1 ⟨rfl, rfl⟩
    go_wp2_with fail
    go_ret
    exact ⟨ret_eq (congrArg Value.bool (Hm.out _ (by unfold mayS loginM childM; rw [h1, h2, h3, h4, h5, h6, k0, k1, c1, c2, c3, c4]; first | done | rfl))), Hb.out _⟩
  cases k2 : (s.kind == 2)
  rotate_left
  · skip
    have z2 := wrap_birth h2
    go_wp2_with fail
    cases c1 : fromM s.upS 0 31
    · refine (refFrom_calls c1 _).mono ?_
      rintro e w1 ⟨rfl, rfl⟩
      go_wp2_with fail
      go_ret
      exact ⟨ret_eq (congrArg Value.bool (Hm.out _ (by unfold mayS loginM childM; rw [h1, h2, h3, h4, h5, h6, k0, k1, k2, c1]; first | done | rfl))), Hb.out _⟩
    refine (refFrom_calls c1 _).mono ?_
    rintro e w1 ⟨rfl, rfl⟩
    go_wp2_with fail
    cases c2 : fromM s.upB 1 (s.birth - 1)
    · refine (refFrom_calls c2 _).mono ?_
      rintro e w1 ⟨rfl, rfl⟩
      go_wp2_with fail
      go_ret
      exact ⟨ret_eq (congrArg Value.bool (Hm.out _ (by unfold mayS loginM childM; rw [h1, h2, h3, h4, h5, h6, k0, k1, k2, c1, c2]; first | done | rfl))), Hb.out _⟩
    refine (refFrom_calls c2 _).mono ?_
    rintro e w1 ⟨rfl, rfl⟩
    go_wp2_with fail
    cases c3 : nameM s.label
    · refine (refName_at c3 hl _).mono ?_
      rintro e w1 ⟨rfl, rfl⟩
      go_wp2_with fail
      go_ret
      exact ⟨ret_eq (congrArg Value.bool (Hm.out _ (by unfold mayS loginM childM; rw [h1, h2, h3, h4, h5, h6, k0, k1, k2, c1, c2, c3]; first | done | rfl))), Hb.out _⟩
    refine (refName_at c3 hl _).mono ?_
    rintro e w1 ⟨rfl, rfl⟩
    go_wp2_with fail
    cases c4 : fromM s.depth 1 6
    · refine (refFrom_calls c4 _).mono ?_
      rintro e w1 ⟨rfl, rfl⟩
      go_wp2_with fail
      go_ret
      exact ⟨ret_eq (congrArg Value.bool (Hm.out _ (by unfold mayS loginM childM; rw [h1, h2, h3, h4, h5, h6, k0, k1, k2, c1, c2, c3, c4]; first | done | rfl))), Hb.out _⟩
    refine (refFrom_calls c4 _).mono ?_
    rintro e w1 ⟨rfl, rfl⟩
    have z3 := wrap_step h5
    by_cases c5 : s.deadline ≤ s.born + 300
    · have c6 : decide (s.deadline ≤ s.born + 300) = true := decide_eq_true c5
      go_wp2_with fail
      go_ret
      exact ⟨ret_eq (congrArg Value.bool (Hm.out _ (by unfold mayS loginM childM; rw [h1, h2, h3, h4, h5, h6, k0, k1, k2, c1, c2, c3, c4, c6]; first | done | rfl))), Hb.out _⟩
    · have c6 : decide (s.deadline ≤ s.born + 300) = false := decide_eq_false c5
      go_wp2_with fail
      go_ret
      exact ⟨ret_eq (congrArg Value.bool (Hm.out _ (by unfold mayS loginM childM; rw [h1, h2, h3, h4, h5, h6, k0, k1, k2, c1, c2, c3, c4, c6]; first | done | rfl))), Hb.out _⟩
  go_wp2_with fail
  go_ret
  exact ⟨ret_eq (congrArg Value.bool (Hm.out _ (by unfold mayS loginM childM; rw [h1, h2, h3, h4, h5, h6, k0, k1, k2]; first | done | rfl))), Hb.out _⟩
end Go.Proofs.YtdaimaibnjkfbaaDoor
/-
  Sessions and events, held against one another.
-/
namespace Go.Proofs.YtdaimaibnjkfbaaDoor
open Go.RowKit
set_option maxRecDepth 100000

structure EvtM where
  kind : Int
  s : SesM
  birth : Int
  ticks : Int
def EvtM.cells (e : EvtM) : Array Value := #[.int .i64 e.kind, .int .i64 e.s.slot, .int .i64 e.s.birth, .int .i64 e.s.upS, .int .i64 e.s.upB, .int .i64 e.s.kind, .string (SB e.s.user), .string (SB e.s.label), .int .u64 (e.s.scopes : Int), .int .i64 e.s.level, .int .i64 e.s.born, .int .i64 e.s.deadline, .int .i64 e.s.depth, .int .i64 e.birth, .int .i64 e.ticks]
def noSes : SesM := ⟨0, 0, 0, 0, 0, [], [], 0, 0, 0, 0, 0⟩
def sameS (s t : SesM) : Bool := (s.slot == t.slot) && ((s.birth == t.birth) && ((s.upS == t.upS) && ((s.upB == t.upB) && ((s.kind == t.kind) && ((s.user == t.user) && ((s.label == t.label) && (((s.scopes : Int) == (t.scopes : Int)) && ((s.level == t.level) && ((s.born == t.born) && ((s.deadline == t.deadline) && (s.depth == t.depth)))))))))))
def sameE (e f : EvtM) : Bool := (e.kind == f.kind) && (sameS e.s f.s && ((e.birth == f.birth) && (e.ticks == f.ticks)))
theorem sameS_iff {s t : SesM} : sameS s t = true ↔ s = t := by
  unfold sameS
  constructor
  · intro h
    simp only [Bool.and_eq_true, beq_iff_eq] at h
    obtain ⟨h1, h2, h3, h4, h5, h6, h7, h8, h9, h10, h11, h12⟩ := h
    have h8' : s.scopes = t.scopes := by omega
    cases s; cases t; simp_all
  · rintro rfl; simp
theorem sameE_iff {e f : EvtM} : sameE e f = true ↔ e = f := by
  unfold sameE
  constructor
  · intro h
    simp only [Bool.and_eq_true, beq_iff_eq, sameS_iff] at h
    obtain ⟨h1, h2, h3, h4⟩ := h
    cases e; cases f; simp_all
  · rintro rfl; simp [sameS_iff]
theorem bdec {α : Type} [DecidableEq α] [BEq α] [LawfulBEq α] {a b : α} : (a == b) = decide (a = b) := by rw [Bool.eq_iff_iff]; simp
theorem ite_step {α : Type} (g : Bool → α) {p : Prop} [Decidable p] {c b : Bool} {X : Result α} {w : World} {z : α} (h : c = decide p) (hz : z = g false) (hx : X = Result.ok (g b) w) :
    (if p then X else Result.ok z w) = Result.ok (g (c && b)) w := by
  subst h; subst hz; subst hx
  by_cases hp : p
  · rw [if_pos hp, decide_eq_true hp]; rfl
  · rw [if_neg hp, decide_eq_false hp]; rfl
theorem ite_last {α : Type} (g : Bool → α) {p : Prop} [Decidable p] {c : Bool} {w : World} {y z : α} (h : c = decide p) (hz : z = g false) (hy : y = g true) :
    (if p then Result.ok y w else Result.ok z w) = Result.ok (g c) w := by
  subst h; subst hz; subst hy
  by_cases hp : p
  · rw [if_pos hp, decide_eq_true hp]
  · rw [if_neg hp, decide_eq_false hp]
theorem run_eqlS (s t : SesM) (w : World) : (binOp .eql 56 (.agg s.cells) (.agg t.cells)).run Tryd.prog w = .ok (.bool (sameS s t)) w := by
  unfold SesM.cells sameS
  go_simp
  simp only [SB_toList]
  refine ite_step (Value.bool) bdec rfl ?_
  refine ite_step (Value.bool) bdec rfl ?_
  refine ite_step (Value.bool) bdec rfl ?_
  refine ite_step (Value.bool) bdec rfl ?_
  refine ite_step (Value.bool) bdec rfl ?_
  refine ite_step (Value.bool) bdec rfl ?_
  refine ite_step (Value.bool) bdec rfl ?_
  refine ite_step (Value.bool) bdec rfl ?_
  refine ite_step (Value.bool) bdec rfl ?_
  refine ite_step (Value.bool) bdec rfl ?_
  refine ite_step (Value.bool) bdec rfl ?_
  exact ite_last (Value.bool) bdec rfl rfl
theorem run_eqlE (e f : EvtM) (w : World) : (binOp .eql 126 (.agg e.cells) (.agg f.cells)).run Tryd.prog w = .ok (.bool (sameE e f)) w := by
  unfold EvtM.cells sameE sameS
  go_simp
  simp only [SB_toList, Bool.and_assoc]
  refine ite_step (Value.bool) bdec rfl ?_
  refine ite_step (Value.bool) bdec rfl ?_
  refine ite_step (Value.bool) bdec rfl ?_
  refine ite_step (Value.bool) bdec rfl ?_
  refine ite_step (Value.bool) bdec rfl ?_
  refine ite_step (Value.bool) bdec rfl ?_
  refine ite_step (Value.bool) bdec rfl ?_
  refine ite_step (Value.bool) bdec rfl ?_
  refine ite_step (Value.bool) bdec rfl ?_
  refine ite_step (Value.bool) bdec rfl ?_
  refine ite_step (Value.bool) bdec rfl ?_
  refine ite_step (Value.bool) bdec rfl ?_
  refine ite_step (Value.bool) bdec rfl ?_
  refine ite_step (Value.bool) bdec rfl ?_
  exact ite_last (Value.bool) bdec rfl rfl
theorem run_neqE (e f : EvtM) (w : World) : (binOp .neq 126 (.agg e.cells) (.agg f.cells)).run Tryd.prog w = .ok (.bool (!(sameE e f))) w := by
  obtain ⟨r, hr⟩ : ∃ r, r = sameE e f := ⟨_, rfl⟩
  rw [← hr]
  unfold EvtM.cells
  go_simp
  subst hr
  unfold sameE sameS
  simp only [SB_toList, Bool.and_assoc]
  refine ite_step (fun b => Value.bool (!b)) bdec rfl ?_
  refine ite_step (fun b => Value.bool (!b)) bdec rfl ?_
  refine ite_step (fun b => Value.bool (!b)) bdec rfl ?_
  refine ite_step (fun b => Value.bool (!b)) bdec rfl ?_
  refine ite_step (fun b => Value.bool (!b)) bdec rfl ?_
  refine ite_step (fun b => Value.bool (!b)) bdec rfl ?_
  refine ite_step (fun b => Value.bool (!b)) bdec rfl ?_
  refine ite_step (fun b => Value.bool (!b)) bdec rfl ?_
  refine ite_step (fun b => Value.bool (!b)) bdec rfl ?_
  refine ite_step (fun b => Value.bool (!b)) bdec rfl ?_
  refine ite_step (fun b => Value.bool (!b)) bdec rfl ?_
  refine ite_step (fun b => Value.bool (!b)) bdec rfl ?_
  refine ite_step (fun b => Value.bool (!b)) bdec rfl ?_
  refine ite_step (fun b => Value.bool (!b)) bdec rfl ?_
  refine ite_last (fun b => Value.bool (!b)) ?_ rfl rfl
  exact bdec
end Go.Proofs.YtdaimaibnjkfbaaDoor
/-
  Which events may be: the document's May.
-/
namespace Go.Proofs.YtdaimaibnjkfbaaDoor
open Go.RowKit
set_option maxRecDepth 100000

def mayE (e : EvtM) : Bool := if (e.kind == 0) = true then (e.birth == 0) && ((e.ticks == 0) && mayS e.s)
  else if (e.kind == 1) = true then sameS e.s noSes && ((e.ticks == 0) && fromM e.birth 1 1048576)
  else if (e.kind == 2) = true then sameS e.s noSes && ((e.birth == 0) && fromM e.ticks 1 1073741824) else false
theorem below_two (w : World) (o o' : Obj) : Below w.heap.size w ((w.alloc o).alloc o') := (below_alloc w o).trans ((below_alloc _ o').mono (by simp))
end Go.Proofs.YtdaimaibnjkfbaaDoor
/-
  Package event: which births, revocations and ticks may be.
-/
namespace Go.Proofs.YtdaimaibnjkfbaaDoor
open Go.RowKit
set_option maxRecDepth 100000

theorem nameP_at {l : List UInt8} {b : Bool} (h : nameM l = b) (hl : l.length ≤ 9223372036854775807) (w : World) :
    Calls Tryd.prog 120 #[.string (SB l)] w fun e w' => e = .returned (.bool b) ∧ Below w.heap.size w w' := h ▸ nameP_calls l w hl
theorem pFrom_calls {n lo hi : Int} {b : Bool} (h : fromM n lo hi = b) (w : World) :
    Calls Tryd.prog 119 #[.int .i64 n, .int .i64 lo, .int .i64 hi] w fun e w' => e = .returned (.bool b) ∧ w' = w := by
  subst h
  unfold fromM
  go_enter Tryd.func119, Tryd.ntmps119
  by_cases h1 : lo ≤ n
  · by_cases h2 : n ≤ hi
    · go_wp2_with fail
      go_ret
      simp [h1, h2]
    · go_wp2_with fail
      go_ret
      simp [h2]
  · go_wp2_with fail
    go_ret
    simp; intro h; omega
set_option maxHeartbeats 3200000 in
theorem birthMay_calls (s : SesM) (w : World) (hu : s.user.length ≤ 9223372036854775807) (hl : s.label.length ≤ 9223372036854775807) :
    Calls Tryd.prog 118 #[.agg s.cells] w fun e w' => e = .returned (.bool (mayS s)) ∧ Below w.heap.size w w' := by
  have hmay : ∀ b, mayS s = b → (b = mayS s) := fun _ h => h.symm
  have Hm := Lib.hid hmay
  have HBX := Lib.hid (fun o => Box.new (w.alloc o) s.cells 56)
  unfold SesM.cells at HBX ⊢
  have Hb := Lib.hid (fun o o2 => below_two w o o2)
  clear hmay
  go_enter Tryd.func118, Tryd.ntmps118
  go_wp2_with fail
  cases h1 : fromM s.slot 0 31
  · refine (pFrom_calls h1 _).mono ?_
    rintro e w1 ⟨rfl, rfl⟩
    go_wp2_with fail
    go_ret
    exact ⟨ret_eq (congrArg Value.bool (Hm.out _ (by unfold mayS loginM childM; rw [h1]; first | done | rfl))), Hb.out _ _⟩
  refine (pFrom_calls h1 _).mono ?_
  rintro e w1 ⟨rfl, rfl⟩
  go_wp2_with fail
  cases h2 : fromM s.birth 1 1048576
  · refine (pFrom_calls h2 _).mono ?_
    rintro e w1 ⟨rfl, rfl⟩
    go_wp2_with fail
    go_ret
    exact ⟨ret_eq (congrArg Value.bool (Hm.out _ (by unfold mayS loginM childM; rw [h1, h2]; first | done | rfl))), Hb.out _ _⟩
  refine (pFrom_calls h2 _).mono ?_
  rintro e w1 ⟨rfl, rfl⟩
  go_wp2_with fail
  cases h3 : nameM s.user
  · refine (nameP_at h3 hu _).mono ?_
    rintro e w1 ⟨rfl, hb1⟩
    have HB1 := Lib.hid ((Hb.out _ _).trans (hb1.mono (by simp; omega)))
    clear hb1
    go_wp2_with fail
    go_ret
    exact ⟨ret_eq (congrArg Value.bool (Hm.out _ (by unfold mayS loginM childM; rw [h1, h2, h3]; first | done | rfl))), HB1.out⟩
  refine (nameP_at h3 hu _).mono ?_
  rintro e w1 ⟨rfl, hb1⟩
  have HB1 := Lib.hid ((Hb.out _ _).trans (hb1.mono (by simp; omega)))
  have hbx := (HBX.out _).below hb1
  rw [World.size_alloc] at hbx
  have HBX1 := Lib.hid hbx
  clear hb1
  have x0 := hbx.cell 0 _ rfl
  have x1 := hbx.cell 1 _ rfl
  have x2 := hbx.cell 2 _ rfl
  have x3 := hbx.cell 3 _ rfl
  have x4 := hbx.cell 4 _ rfl
  have x6 := hbx.cell 6 _ rfl
  have x8 := hbx.cell 8 _ rfl
  have x9 := hbx.cell 9 _ rfl
  have x10 := hbx.cell 10 _ rfl
  have x11 := hbx.cell 11 _ rfl
  clear hbx
  go_wp2_with fail
  cases h4 : fromM s.level 0 2
  · refine (pFrom_calls h4 _).mono ?_
    rintro e w1 ⟨rfl, rfl⟩
    go_wp2_with fail
    go_ret
    exact ⟨ret_eq (congrArg Value.bool (Hm.out _ (by unfold mayS loginM childM; rw [h1, h2, h3, h4]; first | done | rfl))), HB1.out⟩
  refine (pFrom_calls h4 _).mono ?_
  rintro e w1 ⟨rfl, rfl⟩
  go_wp2_with fail
  cases h5 : fromM s.born 0 1099511627776
  · refine (pFrom_calls h5 _).mono ?_
    rintro e w1 ⟨rfl, rfl⟩
    go_wp2_with fail
    go_ret
    exact ⟨ret_eq (congrArg Value.bool (Hm.out _ (by unfold mayS loginM childM; rw [h1, h2, h3, h4, h5]; first | done | rfl))), HB1.out⟩
  refine (pFrom_calls h5 _).mono ?_
  rintro e w1 ⟨rfl, rfl⟩
  have z1 := wrap_born h5
  go_wp2_with fail
  cases h6 : fromM s.deadline (s.born + 1) 1099511627776
  · refine (pFrom_calls h6 _).mono ?_
    rintro e w1 ⟨rfl, rfl⟩
    go_wp2_with fail
    go_ret
    exact ⟨ret_eq (congrArg Value.bool (Hm.out _ (by unfold mayS loginM childM; rw [h1, h2, h3, h4, h5, h6]; first | done | rfl))), HB1.out⟩
  refine (pFrom_calls h6 _).mono ?_
  rintro e w1 ⟨rfl, rfl⟩
  have z2 := wrap_birth h2
  have z3 := wrap_dead h5 h6
  cases k0 : (s.kind == 0)
  rotate_left
  · cases u1 : (s.upS == 0)
    · go_wp2_with fail
      go_ret
      exact ⟨ret_eq (congrArg Value.bool (Hm.out _ (by unfold mayS loginM childM; rw [h1, h2, h3, h4, h5, h6, k0, u1]; first | done | rfl))), HB1.out⟩
    cases u2 : (s.upB == 0)
    · go_wp2_with fail
      go_ret
      exact ⟨ret_eq (congrArg Value.bool (Hm.out _ (by unfold mayS loginM childM; rw [h1, h2, h3, h4, h5, h6, k0, u1, u2]; first | done | rfl))), HB1.out⟩
    cases u3 : s.label.isEmpty
    · have u5 : ¬ (SB s.label).toList = [] := label_no u3
      go_wp2_with fail
      go_ret
      exact ⟨ret_eq (congrArg Value.bool (Hm.out _ (by unfold mayS loginM childM; rw [h1, h2, h3, h4, h5, h6, k0, u1, u2, u3]; first | done | rfl))), HB1.out⟩
    have u5 : (SB s.label).toList = [] := label_yes u3
    cases u4 : (s.depth == 0)
    · go_wp2_with fail
      go_ret
      exact ⟨ret_eq (congrArg Value.bool (Hm.out _ (by unfold mayS loginM childM; rw [h1, h2, h3, h4, h5, h6, k0, u1, u2, u3, u4]; first | done | rfl))), HB1.out⟩
    go_wp2_with fail
    go_ret
    exact ⟨ret_eq (congrArg Value.bool (Hm.out _ (by unfold mayS loginM childM; rw [h1, h2, h3, h4, h5, h6, k0, u1, u2, u3, u4]; first | done | rfl))), HB1.out⟩
  cases k1 : (s.kind == 1)
  rotate_left
  · have k2 : (s.kind == 2) = false := by simp at k1 ⊢; omega
    have k3 : (s.kind != 1) = false := by simp at k1 ⊢; omega
    go_wp2_with fail
    cases c1 : fromM s.upS 0 31
    · refine (pFrom_calls c1 _).mono ?_
      rintro e w1 ⟨rfl, rfl⟩
      go_wp2_with fail
      go_ret
      exact ⟨ret_eq (congrArg Value.bool (Hm.out _ (by unfold mayS loginM childM; rw [h1, h2, h3, h4, h5, h6, k0, k1, c1]; first | done | rfl))), HB1.out⟩
    refine (pFrom_calls c1 _).mono ?_
    rintro e w1 ⟨rfl, rfl⟩
    go_wp2_with fail
    cases c2 : fromM s.upB 1 (s.birth - 1)
    · refine (pFrom_calls c2 _).mono ?_
      rintro e w1 ⟨rfl, rfl⟩
      go_wp2_with fail
      go_ret
      exact ⟨ret_eq (congrArg Value.bool (Hm.out _ (by unfold mayS loginM childM; rw [h1, h2, h3, h4, h5, h6, k0, k1, c1, c2]; first | done | rfl))), HB1.out⟩
    refine (pFrom_calls c2 _).mono ?_
    rintro e w1 ⟨rfl, rfl⟩
    go_wp2_with fail
    cases c3 : nameM s.label
    · refine (nameP_at c3 hl _).mono ?_
      rintro e w2 ⟨rfl, hb2⟩
      have HB2 := Lib.hid (HB1.out.trans (hb2.mono HB1.out.size))
      clear hb2
      go_wp2_with fail
      go_ret
      exact ⟨ret_eq (congrArg Value.bool (Hm.out _ (by unfold mayS loginM childM; rw [h1, h2, h3, h4, h5, h6, k0, k1, c1, c2, c3]; first | done | rfl))), HB2.out⟩
    refine (nameP_at c3 hl _).mono ?_
    rintro e w2 ⟨rfl, hb2⟩
    have HB2 := Lib.hid (HB1.out.trans (hb2.mono HB1.out.size))
    have d11 := (HBX1.out.below hb2).cell 11 _ rfl
    clear hb2
    go_wp2_with fail
    cases d4 : fromM s.depth 1 6
    · refine (pFrom_calls d4 _).mono ?_
      rintro e w1 ⟨rfl, rfl⟩
      go_wp2_with fail
      go_ret
      exact ⟨ret_eq (congrArg Value.bool (Hm.out _ (by unfold mayS loginM childM; rw [h1, h2, h3, h4, h5, h6, k0, k1, c1, c2, c3, d4]; first | done | rfl))), HB2.out⟩
    refine (pFrom_calls d4 _).mono ?_
    rintro e w1 ⟨rfl, rfl⟩
    go_wp2_with fail
    go_ret
    exact ⟨ret_eq (congrArg Value.bool (Hm.out _ (by unfold mayS loginM childM; rw [h1, h2, h3, h4, h5, h6, k0, k1, c1, c2, c3, d4]; first | done | rfl))), HB2.out⟩
  have k3 : (s.kind != 1) = true := by simp at k1 ⊢; omega
  cases k2 : (s.kind == 2)
  · have k4 : (s.kind != 2) = true := by simp at k2 ⊢; omega
    go_wp2_with fail
    go_ret
    exact ⟨ret_eq (congrArg Value.bool (Hm.out _ (by unfold mayS loginM childM; rw [h1, h2, h3, h4, h5, h6, k0, k1, k2]; first | done | rfl))), HB1.out⟩
  have k4 : (s.kind != 2) = false := by simp at k2 ⊢; omega
  by_cases c5 : s.deadline ≤ s.born + 300
  · have c6 : decide (s.deadline ≤ s.born + 300) = true := decide_eq_true c5
    have c7 : ¬ (300 : Int) < s.deadline - s.born := by omega
    clear c5
    go_wp2_with fail
    cases c1 : fromM s.upS 0 31
    · refine (pFrom_calls c1 _).mono ?_
      rintro e w1 ⟨rfl, rfl⟩
      go_wp2_with fail
      go_ret
      exact ⟨ret_eq (congrArg Value.bool (Hm.out _ (by unfold mayS loginM childM; rw [h1, h2, h3, h4, h5, h6, k0, k1, k2, c6, c1]; first | done | rfl))), HB1.out⟩
    refine (pFrom_calls c1 _).mono ?_
    rintro e w1 ⟨rfl, rfl⟩
    go_wp2_with fail
    cases c2 : fromM s.upB 1 (s.birth - 1)
    · refine (pFrom_calls c2 _).mono ?_
      rintro e w1 ⟨rfl, rfl⟩
      go_wp2_with fail
      go_ret
      exact ⟨ret_eq (congrArg Value.bool (Hm.out _ (by unfold mayS loginM childM; rw [h1, h2, h3, h4, h5, h6, k0, k1, k2, c6, c1, c2]; first | done | rfl))), HB1.out⟩
    refine (pFrom_calls c2 _).mono ?_
    rintro e w1 ⟨rfl, rfl⟩
    go_wp2_with fail
    cases c3 : nameM s.label
    · refine (nameP_at c3 hl _).mono ?_
      rintro e w2 ⟨rfl, hb2⟩
      have HB2 := Lib.hid (HB1.out.trans (hb2.mono HB1.out.size))
      clear hb2
      go_wp2_with fail
      go_ret
      exact ⟨ret_eq (congrArg Value.bool (Hm.out _ (by unfold mayS loginM childM; rw [h1, h2, h3, h4, h5, h6, k0, k1, k2, c6, c1, c2, c3]; first | done | rfl))), HB2.out⟩
    refine (nameP_at c3 hl _).mono ?_
    rintro e w2 ⟨rfl, hb2⟩
    have HB2 := Lib.hid (HB1.out.trans (hb2.mono HB1.out.size))
    have d11 := (HBX1.out.below hb2).cell 11 _ rfl
    clear hb2
    go_wp2_with fail
    cases d4 : fromM s.depth 1 6
    · refine (pFrom_calls d4 _).mono ?_
      rintro e w1 ⟨rfl, rfl⟩
      go_wp2_with fail
      go_ret
      exact ⟨ret_eq (congrArg Value.bool (Hm.out _ (by unfold mayS loginM childM; rw [h1, h2, h3, h4, h5, h6, k0, k1, k2, c6, c1, c2, c3, d4]; first | done | rfl))), HB2.out⟩
    refine (pFrom_calls d4 _).mono ?_
    rintro e w1 ⟨rfl, rfl⟩
    go_wp2_with fail
    go_ret
    exact ⟨ret_eq (congrArg Value.bool (Hm.out _ (by unfold mayS loginM childM; rw [h1, h2, h3, h4, h5, h6, k0, k1, k2, c6, c1, c2, c3, d4]; first | done | rfl))), HB2.out⟩
  have c6 : decide (s.deadline ≤ s.born + 300) = false := decide_eq_false c5
  have c7 : (300 : Int) < s.deadline - s.born := by omega
  clear c5
  go_wp2_with fail
  go_ret
  exact ⟨ret_eq (congrArg Value.bool (Hm.out _ (by unfold mayS; rw [h1, h2, h3, h4, h5, h6, k0, k1, k2, c6]; first | done | simp))), HB1.out⟩
theorem revokeMay_calls (n : Int) (w : World) :
    Calls Tryd.prog 129 #[.agg #[.int .i64 n]] w fun e w' => e = .returned (.bool (fromM n 1 1048576)) ∧ Below w.heap.size w w' := by
  have Hb := Lib.hid (fun o => below_alloc w o)
  go_enter Tryd.func129, Tryd.ntmps129
  go_wp2_with fail
  refine (pFrom_calls rfl _).mono ?_
  rintro e w1 ⟨rfl, rfl⟩
  go_wp2_with fail
  go_ret
  exact ⟨rfl, Hb.out _⟩
theorem tickMay_calls (n : Int) (w : World) :
    Calls Tryd.prog 130 #[.agg #[.int .i64 n]] w fun e w' => e = .returned (.bool (fromM n 1 1073741824)) ∧ Below w.heap.size w w' := by
  have Hb := Lib.hid (fun o => below_alloc w o)
  go_enter Tryd.func130, Tryd.ntmps130
  go_wp2_with fail
  refine (pFrom_calls rfl _).mono ?_
  rintro e w1 ⟨rfl, rfl⟩
  go_wp2_with fail
  go_ret
  exact ⟨rfl, Hb.out _⟩
end Go.Proofs.YtdaimaibnjkfbaaDoor
/-
  Cells of a block that are written one behind the other; loads and stores of many cells.
-/
namespace Go.Proofs.YtdaimaibnjkfbaaDoor
open Go.RowKit

/-- A load of many cells: the value by its name. -/
theorem wpList_load_k {P : Program} {ops : Array Oper} {rest : List Oper} {op : Oper} {a : Act} {w : World} {Q : Exit → Act → World → Prop} (hgd : op.guard = none) (ty : TypeId) (x : Operand) (ho : op.op = .load ty x)
    (b o : Nat) (hx : a.eval x = .pointer (some ⟨b, o, none⟩)) (cs : List Value) (d : TypeDesc) (hc : w.rangeAt b o cs)
    (hu : P.underlying ty = some d) (hd : d.isRow = true) (hi : (P.info? ty).map (·.size) = some cs.length)
    (h : ∀ c, Hid (c = cs.toArray) → wpList P ops Q rest (a.put op.dst (.agg c)) w) : wpList P ops Q (op :: rest) a w :=
  wpList_load_mid hgd ty x ho b o hx cs d hc hu hd hi (h _ (Lib.hid rfl))
/-- The same in the still part of a region that draws its order. -/
theorem wpStill_load_k {P : Program} {ops : Array Oper} {rest : List Oper} {op : Oper} {a : Act} {w : World} {Q : Act → Prop} (hw : Region.wanted op (yielded ops a.tmps) = true) (ty : TypeId) (x : Operand) (ho : op.op = .load ty x)
    (b o : Nat) (hx : a.eval x = .pointer (some ⟨b, o, none⟩)) (cs : List Value) (d : TypeDesc) (hc : w.rangeAt b o cs)
    (hu : P.underlying ty = some d) (hd : d.isRow = true) (hi : (P.info? ty).map (·.size) = some cs.length)
    (h : ∀ c, Hid (c = cs.toArray) → wpStill P ops w Q rest (a.put op.dst (.agg c))) : wpStill P ops w Q (op :: rest) a := by
  unfold wpStill
  rw [if_pos hw]
  unfold Oper.still execOp
  simp only [ho, hx, Instr.loadAt, Instr.sureAddr, Sem.run_bind, Sem.run_pure, Result.andThen_ok, run_loadVar_mid w b o ty cs d hc hu hd hi]
  exact ⟨rfl, h _ (Lib.hid rfl)⟩
/-- A store of many cells: the world by its name. -/
theorem wpList_store_k {P : Program} {ops : Array Oper} {rest : List Oper} {op : Oper} {a : Act} {w : World} {Q : Exit → Act → World → Prop} (hgd : op.guard = none) (ty : TypeId) (x y : Operand) (ho : op.op = .store ty x y)
    (b o : Nat) (cs : List Value) (hx : a.eval x = .pointer (some ⟨b, o, none⟩)) (c : Array Value) (hy : a.eval y = .agg c) (hv : Hid (c = cs.toArray))
    (ht : w.there b o cs.length) (hi : (P.info? ty).map (·.size) = some cs.length) (h1 : ∀ v ∈ cs, v.oneCell' = true)
    (h : ∀ w', Hid (w' = w.setCells b o cs) → wpList P ops Q rest (a.put op.dst undef) w') : wpList P ops Q (op :: rest) a w :=
  wpList_store_mid hgd ty x y ho b o cs.toArray hx (hy.trans (congrArg Value.agg hv.out)) (by simpa using ht) (by simpa using hi) (all_oneCell_toArray h1) (h _ (Lib.hid (by simp)))

/-- Two results, of which the first is read out of a cell's block. -/
theorem ret_cell_tmp {P : Program} {fn : Func} {R : Ending → World → Prop} {a : Act} {w : World} {p u : Tmp} {ty : TypeId} (h : fn.results = #[.cell p ty, .tmp u]) (hdf : a.defers = [])
    (b o : Nat) (hp : a.tmps.getD p undef = .pointer (some ⟨b, o, none⟩)) (cs : List Value) (d : TypeDesc) (hc : w.rangeAt b o cs)
    (hu : P.underlying ty = some d) (hd : d.isRow = true) (hi : (P.info? ty).map (·.size) = some cs.length)
    (x : Value) (hx : a.tmps.getD u undef = x) (hR : R (.returned (.tuple #[.agg cs.toArray, x])) w) : bodyPost P fn R .ret a w := by
  refine bodyPost_ret (v := .tuple #[.agg cs.toArray, x]) ?_ hdf hR
  rw [results_cell_tmp h, hp, hx]
  simp [asAddr, Result.andThen, run_loadVar_mid w b o ty cs d hc hu hd hi]
/-- One result, read out of a cell's block. -/
theorem ret_cell {P : Program} {fn : Func} {R : Ending → World → Prop} {a : Act} {w : World} {p : Tmp} {ty : TypeId} (h : fn.results = #[.cell p ty]) (hdf : a.defers = [])
    (b o : Nat) (hp : a.tmps.getD p undef = .pointer (some ⟨b, o, none⟩)) (cs : List Value) (d : TypeDesc) (hc : w.rangeAt b o cs)
    (hu : P.underlying ty = some d) (hd : d.isRow = true) (hi : (P.info? ty).map (·.size) = some cs.length)
    (hR : R (.returned (.agg cs.toArray)) w) : bodyPost P fn R .ret a w := by
  refine bodyPost_ret (v := .agg cs.toArray) ?_ hdf hR
  simp only [results, h]
  have hp2 : a.tmps[p]?.getD undef = .pointer (some ⟨b, o, none⟩) := by simpa using hp
  simp [hp2, asAddr, run_loadVar_mid w b o ty cs d hc hu hd hi]
/-- A world in which many cells were stored. -/
theorem stored_range {w w' : World} {b o : Nat} {vs : List Value} (h : Hid (w' = w.setCells b o vs)) (ht : w.there b o vs.length) : w'.rangeAt b o vs := by
  rw [h.out]; exact World.rangeAt_setCells_same w b o vs ht
theorem Box.setCells {b : Nat} {t : TypeId} : ∀ (vs : List Value) (o : Nat) {w : World} {cs : Array Value}, Box w b cs t → o + vs.length ≤ cs.size →
    ∃ cs', Box (w.setCells b o vs) b cs' t ∧ cs'.size = cs.size ∧ (∀ j v, vs[j]? = some v → cs'[o + j]? = some v) ∧ ∀ j, j < o ∨ o + vs.length ≤ j → cs'[j]? = cs[j]?
  | [], o, _, cs, h, _ => ⟨cs, h, rfl, fun j v hv => by simp at hv, fun _ _ => rfl⟩
  | x :: r, o, w, cs, h, hl => by
    simp only [List.length_cons] at hl
    obtain ⟨cs', h1, h2, h3, h4⟩ := Box.setCells r (o + 1) (h.set o x) (by simp; omega)
    rw [World.setCells]
    refine ⟨cs', h1, by simpa using h2, fun j v hv => ?_, fun j hj => ?_⟩
    · cases j with
      | zero =>
        rw [Nat.add_zero, h4 o (by omega)]
        simp at hv
        subst hv
        simp [show o < cs.size by omega]
      | succ j =>
        have := h3 j v (by simpa using hv)
        rw [show o + (j + 1) = o + 1 + j by omega]; exact this
    · simp only [List.length_cons] at hj
      rw [h4 j (by omega)]
      simp [show o ≠ j by omega]
theorem Mod.setCells (F : Nat → Prop) (b : Nat) (hb : F b) : ∀ (vs : List Value) (o : Nat) (w : World), Mod F w (w.setCells b o vs)
  | [], _, _ => Mod.refl _ _
  | v :: r, o, w => (Mod.set F w ⟨b, o, none⟩ v hb).trans (Mod.setCells F b hb r (o + 1) _)
end Go.Proofs.YtdaimaibnjkfbaaDoor
