/-
  AreaKnown: row; what the known disks hold, plainly.
-/
import Derived.Test.YtbmijamailfaeaaDoorAreaW
namespace Go.Proofs.YtbmijamailfaeaaDoor
open Go.RowKit
set_option maxRecDepth 100000

def rowM (n : Nat) : List UInt8 := (List.range n).map (fun i => UInt8.ofNat (i * 5 + 1))
theorem rowM_length (n : Nat) : (rowM n).length = n := by simp [rowM]
theorem rowM_succ (n : Nat) : rowM (n + 1) = rowM n ++ [UInt8.ofNat (n * 5 + 1)] := by simp [rowM, List.range_succ]
theorem row_calls (n : Nat) (w : World) (hn : n ≤ 1000) : Calls Tryd.prog 44 #[.int .i64 (n : Int)] w fun e w' => ∃ a c, e = .returned (.slice a n c) ∧ w'.ownsRow w.heap.size 5 1 (.slice a n c) n ((rowM n).map V8) ∧ Below w.heap.size w w' := by
  go_enter Tryd.func44, Tryd.ntmps44
  go_wp2_with fail
  go_loopg [3, 4] n (fun gk o i wr => ∃ k : Nat, gk + k = n ∧ i = .int .i64 (k : Int) ∧ wr.ownsRow w.heap.size 5 1 o k ((rowM k).map V8) ∧ Below w.heap.size w wr)
  case atStart => exact ⟨0, rfl, rfl, World.ownsRow_nil _ _ _ _, Below.refl _ _⟩
  case round =>
    obtain ⟨k, hgk, rfl, hown, hb⟩ := hrel
    obtain ⟨oa, oc, rfl, _⟩ := own_slice hown
    have Hgk := Lib.hid hgk
    by_cases hk : k < n
    · have hk1 : (k : Int) < (n : Int) := by omega
      have hk0 : (0 : Int) ≤ (k : Int) := by omega
      obtain ⟨y, hy⟩ : ∃ y, y = UInt8.ofNat (k * 5 + 1) := ⟨_, rfl⟩
      have hv : (#[.int .u8 (((k : Int) * 5 + 1) % 256)] : Array Value).toList = ([y]).map V8 := by
        rw [hy]
        show [Value.int .u8 (((k : Int) * 5 + 1) % 256)] = [V8 (UInt8.ofNat (k * 5 + 1))]
        unfold V8
        have : (UInt8.ofNat (k * 5 + 1)).toNat = (k * 5 + 1) % 256 := by show _ % 2 ^ 8 = _; rfl
        rw [this]; congr 2
      have HOwn := Lib.hid (fun ob => own_below hown (below_alloc wr ob))
      have HsA := Lib.hid (fun ob => Nat.le_trans hb.size (below_alloc wr ob).size)
      have HB := Lib.hid hb
      have HV := Lib.hid hv
      have Hy := Lib.hid hy
      clear hgk hown hb hv hy
      go_wp2_with (at_builtin; refine appB rfl _ _ rfl w.heap.size _ _ _ rfl (HOwn.out _) ⟨wr.heap.size, 0, none⟩ 1 1 ([y].map V8) rfl rfl (cells_new _ _ _ _ HV.out) (V8_one _) (by omega) (HsA.out _) ?_)
      intro v' w1 hown' hg' _
      have hb1 := (HB.out.trans ((below_alloc wr _).mono HB.out.size)).trans (below_grown hg' (HsA.out _) (fun q hq => ((HOwn.out (.cells #[] 5)).lt q hq).1))
      replace hown' : w1.ownsRow w.heap.size 5 1 v' (k + 1) ((rowM (k + 1)).map V8) := by rw [rowM_succ, List.map_append, ← Hy.out]; exact hown'
      have HN := Lib.hid (And.intro hown' hb1)
      clear hown' hb1 hg' HOwn HB
      go_wp2_with fail
      go_roundg (n - (k + 1))
      case measure => have := Hgk.out; omega
      case rel => exact ⟨k + 1, by have := Hgk.out; omega, by go_num, HN.out⟩
    · obtain rfl : k = n := by omega
      have HN := Lib.hid (And.intro hown hb)
      clear hown hb hgk
      go_wp2_with fail
      go_ret
      exact ⟨_, _, rfl, HN.out.1, HN.out.2⟩
/-- The raw writes that blocks make. -/
def putList (b : Int) : List (List UInt8) → List (Int × ByteArray)
  | [] => []
  | c :: r => (b, SB c) :: putList (b + 1) r
theorem putAll_list : ∀ (l : List (List UInt8)) (d : DiskM) (b : Int), 0 ≤ b → b + l.length ≤ d.strs.length → (∀ c ∈ l, c.length ≤ 256) → d.left = none → (putAll d b l).1.trail = d.trail ++ putList b l
  | [], d, b, _, _, _, _ => by simp [putAll, putList]
  | c :: r, d, b, h0, hb, hc, hk => by
    rw [List.length_cons] at hb
    have hw := write_yes d b (SB c) ⟨h0, by omega⟩ (by rw [SB_size]; exact hc c (by simp)) (by rw [hk]; simp)
    have h1 : (d.write b (SB c)).2 = 0 := by rw [hw]
    rw [putAll, if_pos h1, putAll_list r _ (b + 1) (by omega) (by rw [d.write_len]; omega) (fun x hx => hc x (by simp [hx])) (by rw [hw]; simp [hk]), hw, putList]
    simp
theorem save_trail (d : DiskM) (at_ n : Int) (e : Nat) (p : List UInt8) (hm : mayA d.strs.length at_ n) (hp : (p.length : Int) ≤ n * 256) (hk : d.left = none) :
    (saveM d at_ n e p).1.trail = d.trail ++ putList (firstA at_ n e) (chunks p.length p) ++ [(at_, SB (hdrM e p))] := by
  have hm' := hm
  unfold mayA at hm'
  have hcl := chunks_count p.length p (Nat.le_refl _)
  have hb : (blocksA p.length : Int) ≤ n := by unfold blocksA; omega
  have hf : at_ + 1 ≤ firstA at_ n e ∧ firstA at_ n e + n ≤ at_ + 1 + 2 * n := by
    unfold firstA
    rcases Nat.mod_two_eq_zero_or_one e with h2 | h2 <;> rw [h2] <;> simp <;> omega
  obtain ⟨g1, g2, g3⟩ := putAll_yes (chunks p.length p) d (firstA at_ n e) (by omega) (by rw [hcl]; omega) (chunks_le _ _) (fun k h => by rw [hk] at h; cases h)
  have g4 := putAll_list (chunks p.length p) d (firstA at_ n e) (by omega) (by rw [hcl]; omega) (chunks_le _ _) hk
  have hl := putAll_len d (firstA at_ n e) (chunks p.length p)
  obtain ⟨d1, hd1⟩ : ∃ d1, d1 = (putAll d (firstA at_ n e) (chunks p.length p)).1 := ⟨_, rfl⟩
  have hsv : saveM d at_ n e p = d1.write at_ (SB (hdrM e p)) := by
    unfold saveM; rw [if_pos hm, if_neg (by omega), if_pos g1, hd1]
  rw [← hd1] at g3 g4 hl
  have hw := write_yes d1 at_ (SB (hdrM e p)) (by rw [hl]; omega) (by rw [SB_size, hdrM_length]; omega) (by rw [g3, hk]; simp)
  rw [hsv, hw]
  show d1.trail ++ _ = _
  rw [g4]
theorem chunks_two (p : List UInt8) (h : p.length = 300) : chunks p.length p = [p.take 256, p.drop 256] := by
  have h1 : p ≠ [] := fun e => by rw [e] at h; simp at h
  have h2 : p.drop 256 ≠ [] := fun e => by have := congrArg List.length e; rw [List.length_drop] at this; simp at this; omega
  rw [h]
  show chunks (299 + 1) p = _
  rw [chunks, if_neg h1]
  show p.take 256 :: chunks (298 + 1) (p.drop 256) = _
  rw [chunks, if_neg h2, List.take_of_length_le (l := p.drop 256) (by rw [List.length_drop]; omega), List.drop_drop, show p.drop (256 + 256) = [] from List.drop_eq_nil_of_le (by omega)]
  show p.take 256 :: p.drop 256 :: chunks (297 + 1) [] = _
  rw [chunks, if_pos rfl]
end Go.Proofs.YtbmijamailfaeaaDoor
