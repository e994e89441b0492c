/-
  Lists of numbers: SameInts, markInts, ApartInts, Pick.
-/
import Derived.Test.YtkabeejefkmdgaaApart
namespace Go.Proofs.Ytkabeejefkmdgaa
open Go.RowKit

def VI (n : Int) : Value := .int .i64 n
theorem info_i64 : (Try.prog.info? 3).map (fun i => (i.zero, i.size, i.bytes)) = some (some (.int .i64 0), 1, 8) := by kernel_rfl
theorem info_si64 : (Try.prog.info? 22).map (fun i => (i.zero, i.size, i.bytes)) = some (some (.slice none 0 0), 1, 24) := by kernel_rfl
/-- 'append(s, x)' onto numbers that the call owns. -/
theorem appI {w : World} {ops : Array Oper} {rest : List Oper} {o : Oper} {a : Act} {Q : Exit → Act → World → Prop} (hgd : o.guard = none) (s x : Operand)
    (ho : o.op = .call { callee := .builtin .append, args := #[s, x], argTypes := #[22, 22] })
    (base : Nat) (v : Value) (n : Nat) (xs : List Value) (hs : a.eval s = v) (hown : w.ownsRow base 3 1 v n xs)
    (ad : Addr) (c : Nat) (y : Value) (hx : a.eval x = .slice (some ad) 1 c) (hy : w.cell? ad = some y) (h1 : y.oneCell' = true)
    (hroom : n + 1 ≤ 17592186044416) (hbase : base ≤ w.heap.size)
    (h : ∀ v' w', w'.ownsRow base 3 1 v' (n + 1) (xs ++ [y]) → w.grownBy w' v.ownBlock → Moved w v v' → Grew w w' v v' n → wpList Try.prog ops Q rest (a.put o.dst v') w') : wpList Try.prog ops Q (o :: rest) a w := by
  obtain ⟨i0, hi, hz0, hz1, hz2⟩ := info_parts info_i64
  refine wpList_append_own3 hgd s x 22 ho base 3 i0 (.int .i64 0) 1 8 Try.underlying22 hi hz0 hz1 hz2 rfl (by decide) v n xs hs hown ad c [y] hx rfl (fun j u hj => ?_) (by simpa using h1) (by unfold maxLen; omega) (by omega) hbase h
  cases j with
  | zero => simp at hj; subst hj; rw [show ad.add 0 = ad from by cases ad with | mk b o s => cases s <;> rfl]; exact hy
  | succ j => simp at hj
theorem appSI {w : World} {ops : Array Oper} {rest : List Oper} {o : Oper} {a : Act} {Q : Exit → Act → World → Prop} (hgd : o.guard = none) (s x : Operand)
    (ho : o.op = .call { callee := .builtin .append, args := #[s, x], argTypes := #[56, 56] })
    (base : Nat) (v : Value) (n : Nat) (xs : List Value) (hs : a.eval s = v) (hown : w.ownsRow base 22 1 v n xs)
    (ad : Addr) (m c : Nat) (ys : List Value) (hx : a.eval x = .slice (some ad) m c) (hl : ys.length = m) (hy : ∀ j u, ys[j]? = some u → w.cell? (ad.add j) = some u) (h1 : ∀ u ∈ ys, u.oneCell' = true)
    (hroom : n + m ≤ 4398046511104) (hbase : base ≤ w.heap.size)
    (h : ∀ v' w', w'.ownsRow base 22 1 v' (n + m) (xs ++ ys) → w.grownBy w' v.ownBlock → Moved w v v' → wpList Try.prog ops Q rest (a.put o.dst v') w') : wpList Try.prog ops Q (o :: rest) a w := by
  obtain ⟨i0, hi, hz0, hz1, hz2⟩ := info_parts info_si64
  exact wpList_append_own2 hgd s x 56 ho base 22 i0 (.slice none 0 0) 1 24 Try.underlying56 hi hz0 hz1 hz2 rfl (by decide) v n xs hs hown ad m c ys hx (by omega) hy h1 (by unfold maxLen; omega) (by omega) hbase h
def mkI (k i : Nat) : Value := .int .i64 (-1000000 * ((k : Int) + 1) - (i : Int))
theorem markI_calls (k i : Nat) (w : World) (h1 : k ≤ 1000000000) (h2 : i ≤ 1000000000000000000) :
    Calls Try.prog 33 #[.int .i64 (k : Int), .int .i64 (i : Int)] w fun e w' => e = .returned (mkI k i) ∧ w = w' := by
  go_enter Try.func33, Try.ntmps33
  go_wp2
  go_ret
  exact ⟨rfl, rfl⟩
theorem sameInts_calls (v v' : Value) (l : List Int) (w : World) (hv : Rd w v l.length (l.map VI)) (hv' : Rd w v' l.length (l.map VI)) :
    Calls Try.prog 19 #[v, v'] w fun e w' => e = .returned (.bool true) ∧ ∃ k, w' = w.drewN k := by
  have hlen := hv.len
  obtain ⟨a, cap, rfl, hc1, hc2, _, hc⟩ := hv
  obtain ⟨a', cap', rfl, hd1, hd2, _, hd⟩ := hv'
  have Hc := Lib.hid hc
  have Hd := Lib.hid hd
  clear hc hd
  go_enter Try.func19, Try.ntmps19
  go_wp2
  go_loopw [5] (fun i wr => ∃ k : Nat, k ≤ l.length ∧ i = .int .i64 k ∧ ∃ m, wr = w.drewN m) (fun i _ => l.length - (intOf i).toNat)
  case atStart => exact ⟨0, by omega, rfl, 0, rfl⟩
  case round =>
    obtain ⟨k, hk, rfl, m, rfl⟩ := hrel
    by_cases hlt : k < l.length
    · obtain ⟨b, off, rfl, hcell'⟩ := Hc.out k (by simpa using hlt)
      obtain ⟨b', off', rfl, hdell'⟩ := Hd.out k (by simpa using hlt)
      have hcell : w.cell? ⟨b, off + k, none⟩ = some (.int .i64 l[k]) := by rw [hcell']; simp [hlt, VI]
      have hdell : w.cell? ⟨b', off' + k, none⟩ = some (.int .i64 l[k]) := by rw [hdell']; simp [hlt, VI]
      have h1 : (0 : Int) ≤ (k : Int) := by omega
      have h2 : (k : Int) < (l.length : Int) := by omega
      clear hcell' hdell' Hc Hd
      go_wp2
      go_quiet (fail)
      go_wp2
      go_roundw
      case rel => exact ⟨k + 1, by omega, by go_num, _, rfl⟩
      case measure => simp [intOf]; omega
    · obtain rfl : k = l.length := by omega
      clear Hc Hd
      go_wp2
      go_ret
      exact ⟨rfl, m, rfl⟩
end Go.Proofs.Ytkabeejefkmdgaa
