/-
  Texts of one proof, one behind the other.
-/
import Derived.Test.YtgcnolapjppbpaaGreatDoorK01
import Derived.Test.YtgcnolapjppbpaaGreatDoorK04
import Derived.Test.YtgcnolapjppbpaaGreatDoorK06
import Derived.Outline
import Derived.Deep.LoopGhost
namespace Go.Proofs.YtgcnolapjppbpaaGreatDoor
open Go.RowKit
set_option maxRecDepth 100000
def LB (s : ByteArray) : List UInt8 := s.data.toList
theorem LB_SB (l : List UInt8) : LB (SB l) = l := SB_data l
theorem SB_LB (s : ByteArray) : SB (LB s) = s := by apply SB_ext; simp [SB, LB]
theorem LB_len (s : ByteArray) : (LB s).length = s.size := by show s.data.toList.length = s.data.size; simp
def mayA (N at_ n : Int) : Prop := 0 ≤ at_ ∧ 1 ≤ n ∧ at_ + 1 + 2 * n ≤ N
instance (N at_ n : Int) : Decidable (mayA N at_ n) := by unfold mayA; exact inferInstance
def firstA (at_ n : Int) (e : Nat) : Int := at_ + 1 + ((e % 2 : Nat) : Int) * n
def hd12 (e : Nat) (p : List UInt8) : List UInt8 := le e 4 ++ le p.length 4 ++ le (crc p).toNat 4
def hdrM (e : Nat) (p : List UInt8) : List UInt8 := hd12 e p ++ le (crc (hd12 e p)).toNat 4
theorem hd12_length (e : Nat) (p : List UInt8) : (hd12 e p).length = 12 := by simp [hd12, le_length]
theorem hdrM_length (e : Nat) (p : List UInt8) : (hdrM e p).length = 16 := by simp [hdrM, hd12_length, le_length]
def chunks : Nat → List UInt8 → List (List UInt8)
  | 0, _ => []
  | f + 1, p => if p = [] then [] else p.take 256 :: chunks f (p.drop 256)
def putAll (d : DiskM) (b : Int) : List (List UInt8) → DiskM × Int
  | [] => (d, 0)
  | c :: r => if (d.write b (SB c)).2 = 0 then putAll (d.write b (SB c)).1 (b + 1) r else d.write b (SB c)
def saveM (d : DiskM) (at_ n : Int) (e : Nat) (p : List UInt8) : DiskM × Int :=
  if mayA d.strs.length at_ n then
    if n * 256 < (p.length : Int) then (d, 3)
    else if (putAll d (firstA at_ n e) (chunks p.length p)).2 = 0 then (putAll d (firstA at_ n e) (chunks p.length p)).1.write at_ (SB (hdrM e p)) else putAll d (firstA at_ n e) (chunks p.length p)
  else (d, 1)
def num4 (l : List UInt8) (i : Nat) : Nat := (l.getD i 0).toNat + 256 * (l.getD (i + 1) 0).toNat + 65536 * (l.getD (i + 2) 0).toNat + 16777216 * (l.getD (i + 3) 0).toNat
theorem num4_lt (l : List UInt8) (i : Nat) : num4 l i < 4294967296 := by
  have h1 := (l.getD i 0).toNat_lt
  have h2 := (l.getD (i + 1) 0).toNat_lt
  have h3 := (l.getD (i + 2) 0).toNat_lt
  have h4 := (l.getD (i + 3) 0).toNat_lt
  unfold num4; omega
def readB (d : DiskM) (b : Int) : List UInt8 := LB (d.read b).1
def liesM (d : DiskM) : Nat → Int → Nat → List UInt8 → Option (List UInt8)
  | 0, _, _, acc => some acc
  | f + 1, b, size, acc =>
    if acc.length < size then
      if (readB d b).length < min (size - acc.length) 256 then none else liesM d f (b + 1) size (acc ++ (readB d b).take (min (size - acc.length) 256))
    else some acc
def loadM (d : DiskM) (at_ n : Int) : Nat × List UInt8 × Int :=
  if mayA d.strs.length at_ n then
    if readB d at_ = [] then (0, [], 10)
    else if (readB d at_).length = 16 then
      if n * 256 < ((num4 (readB d at_) 4 : Nat) : Int) then (0, [], 21)
      else match liesM d (num4 (readB d at_) 4 + 1) (firstA at_ n (num4 (readB d at_) 0)) (num4 (readB d at_) 4) [] with
        | none => (0, [], 21)
        | some p => if hdrM (num4 (readB d at_) 0) p = readB d at_ then (num4 (readB d at_) 0, p, 0) else (0, [], 21)
    else (0, [], 21)
  else (0, [], 1)
theorem four_eq {a b c d a' b' c' d' : Int} (h1 : a = a') (h2 : b = b') (h3 : c = c') (h4 : d = d') : [Value.int .u8 a, .int .u8 b, .int .u8 c, .int .u8 d] = [Value.int .u8 a', .int .u8 b', .int .u8 c', .int .u8 d'] := by subst h1; subst h2; subst h3; subst h4; rfl
theorem le4_vals (m : Nat) : (le m 4).map V8 = [.int .u8 ((m : Int) % 256), .int .u8 ((m : Int) / 256 % 256), .int .u8 ((m : Int) / 65536 % 256), .int .u8 ((m : Int) / 16777216 % 256)] := by
  have h : ∀ k : Nat, ((UInt8.ofNat k).toNat : Int) = (k : Int) % 256 := fun k => by
    have : (UInt8.ofNat k).toNat = k % 256 := by show k % 2 ^ 8 = _; rfl
    rw [this]; omega
  have e1 : ((m / 256 : Nat) : Int) % 256 = (m : Int) / 256 % 256 := by omega
  have e2 : ((m / 256 / 256 : Nat) : Int) % 256 = (m : Int) / 65536 % 256 := by omega
  have e3 : ((m / 256 / 256 / 256 : Nat) : Int) % 256 = (m : Int) / 16777216 % 256 := by omega
  exact four_eq (h _) ((h _).trans e1) ((h _).trans e2) ((h _).trans e3)
theorem putAll_len (d : DiskM) (b : Int) (l : List (List UInt8)) : (putAll d b l).1.strs.length = d.strs.length := by
  induction l generalizing d b with
  | nil => rfl
  | cons c r ih =>
    rw [putAll]; split
    · rw [ih, DiskM.write_len]
    · rw [DiskM.write_len]
theorem putAll_wf {d : DiskM} (h : d.Wf) (b : Int) (l : List (List UInt8)) : (putAll d b l).1.Wf := by
  induction l generalizing d b with
  | nil => exact h
  | cons c r ih =>
    rw [putAll]; split
    · exact ih (h.write _ _) _
    · exact h.write _ _
theorem putAll_trail (d : DiskM) (b : Int) (l : List (List UInt8)) : (putAll d b l).1.trail.length ≤ d.trail.length + l.length := by
  induction l generalizing d b with
  | nil => exact Nat.le_refl _
  | cons c r ih =>
    have := (d.write_trail b (SB c)).1
    rw [putAll, List.length_cons]; split
    · have := ih (d.write b (SB c)).1 (b + 1); omega
    · omega
theorem chunks_length : ∀ (f : Nat) (p : List UInt8), p.length ≤ f → (chunks f p).length * 256 < p.length + 256
  | 0, p, h => by simp [chunks]
  | f + 1, p, h => by
    rw [chunks]
    split
    · simp
    · rename_i h1
      have hp : 0 < p.length := List.length_pos_iff.2 h1
      have := chunks_length f (p.drop 256) (by rw [List.length_drop]; omega)
      rw [List.length_cons]
      rw [List.length_drop] at this
      generalize (chunks f (p.drop 256)).length = c at this ⊢
      clear h1 h
      generalize p.length = m at this hp ⊢
      omega
theorem saveM_wf {d : DiskM} (h : d.Wf) (at_ n : Int) (e : Nat) (p : List UInt8) : (saveM d at_ n e p).1.Wf := by
  unfold saveM
  split
  · split
    · exact h
    split
    · exact (putAll_wf h _ _).write _ _
    · exact putAll_wf h _ _
  · exact h
theorem saveM_len (d : DiskM) (at_ n : Int) (e : Nat) (p : List UInt8) : (saveM d at_ n e p).1.strs.length = d.strs.length := by
  unfold saveM
  split
  · split
    · rfl
    split
    · rw [DiskM.write_len, putAll_len]
    · rw [putAll_len]
  · rfl
theorem saveM_trail (d : DiskM) (at_ n : Int) (e : Nat) (p : List UInt8) (hd : d.strs.length ≤ 4096) : (saveM d at_ n e p).1.trail.length ≤ d.trail.length + 2050 := by
  unfold saveM
  split
  · rename_i h1
    split
    · exact Nat.le_add_right _ _
    · rename_i h2
      have hc := chunks_length p.length p (Nat.le_refl _)
      have ht := putAll_trail d (firstA at_ n e) (chunks p.length p)
      unfold mayA at h1
      split
      · have := ((putAll d (firstA at_ n e) (chunks p.length p)).1.write_trail at_ (SB (hdrM e p))).1
        omega
      · omega
  · exact Nat.le_add_right _ _
theorem write_err (d : DiskM) (i : Int) (s : ByteArray) : (d.write i s).2 = 0 ∨ (d.write i s).2 = 1 ∨ (d.write i s).2 = 3 ∨ (d.write i s).2 = 22 := by
  unfold DiskM.write
  split
  · simp
  split
  · simp
  split
  · simp
  · simp
theorem loadM_err (d : DiskM) (at_ n : Int) : (loadM d at_ n).2.2 = 0 ∨ (loadM d at_ n).2.2 = 1 ∨ (loadM d at_ n).2.2 = 10 ∨ (loadM d at_ n).2.2 = 21 := by
  unfold loadM
  split
  · split
    · simp
    split
    · split
      · simp
      split
      · simp
      · split <;> simp
    · simp
  · simp
theorem loadM_lt (d : DiskM) (at_ n : Int) : (loadM d at_ n).1 < 4294967296 := by
  unfold loadM
  split
  · split
    · simp
    split
    · split
      · simp
      split
      · simp
      · split
        · exact num4_lt _ _
        · simp
    · simp
  · simp
end Go.Proofs.YtgcnolapjppbpaaGreatDoor
namespace Go.Proofs.YtgcnolapjppbpaaGreatDoor
open Go.RowKit
theorem I32_step (x : UInt32) : bits .xor .u32 (I32 x / 2) (bits .and .u32 3988292384 (-bits .and .u32 (I32 x) 1 % 4294967296)) = I32 (crcStep x) := by
  rw [show (1 : Int) = I32 1 from rfl, show (3988292384 : Int) = I32 0xedb88320 from rfl, I32_and, I32_neg, I32_and, I32_shr1, I32_xor]; rfl
set_option maxHeartbeats 400000 in
theorem add_calls (p : Addr) (r : UInt32) (v : Value) (l : List UInt8) (w : World) (hp : w.cell? p = some (.int .u32 (I32 r))) (hf : w.frozen? p = false)
    (hv : Rd w v l.length (l.map V8)) :
    Calls Tryz.prog 132 #[.pointer (some p), v] w fun e w' => e = .returned (.tuple #[]) ∧ w' = w.setCell p (.int .u32 (I32 (~~~(crcRun (~~~r) l)))) := by
  have hm := hv.len
  obtain ⟨a, cap, rfl, hc1, hc2, _, hc⟩ := hv
  have Hc := Lib.hid hc
  clear hc
  go_enter Tryz.func132, Tryz.ntmps132
  go_wp2
  go_loop [4, 14] (fun x i => ∃ k : Nat, k ≤ l.length ∧ i = .int .i64 k ∧ x = .int .u32 (I32 (crcRun (~~~r) (l.take k)))) (fun _ i => l.length - (intOf i).toNat)
  case atStart => exact ⟨0, by omega, rfl, rfl⟩
  case round =>
    obtain ⟨k, hk, rfl, rfl⟩ := hrel
    by_cases hlt : k < l.length
    · obtain ⟨b, off, rfl, hcell'⟩ := Hc.out k (by simpa using hlt)
      have hcell : w.cell? ⟨b, off + k, none⟩ = some (.int .u8 (l[k].toNat : Int)) := by rw [hcell']; simp [hlt, V8]
      clear Hc hcell'
      have hsn := Lib.hid (crcRun_snoc (~~~r) l k hlt)
      go_wp2
      go_loop [4, 22] (fun x i => ∃ j : Nat, j ≤ 8 ∧ i = .int .i64 j ∧ x = .int .u32 (I32 (crcSteps j ((crcRun (~~~r) (l.take k)) ^^^ l[k].toUInt32)))) (fun _ i => 8 - (intOf i).toNat)
      case atStart => exact ⟨0, by omega, rfl, rfl⟩
      case round =>
        obtain ⟨j, hj, rfl, rfl⟩ := hrel
        by_cases hlt : j < 8
        · go_wp2
          go_round
          case rel => exact ⟨j + 1, by omega, by go_num, by rw [I32_step]; rfl⟩
          case measure => simp [intOf]; omega
        · go_wp2
          go_round
          case rel => exact ⟨k + 1, by omega, by go_num, by rw [hsn.out]; obtain rfl : j = 8 := by omega
                                                            rfl⟩
          case measure => simp [intOf]; omega
    · obtain rfl : k = l.length := by omega
      go_wp2
      go_end0
      exact ⟨rfl, rfl⟩
theorem sumNew_calls (w : World) : Calls Tryz.prog 131 #[] w fun e w' => e = .returned (.pointer (some ⟨w.heap.size, 0, none⟩)) ∧ w' = w.alloc (.cells #[.int .u32 (I32 0)] 256) := by
  go_enter Tryz.func131, Tryz.ntmps131
  go_wp2
  go_ret
  exact ⟨rfl, rfl⟩
theorem value_calls (p : Addr) (x : Value) (w : World) (hp : w.cell? p = some x) : Calls Tryz.prog 133 #[.pointer (some p)] w fun e w' => e = .returned x ∧ w = w' := by
  go_enter Tryz.func133, Tryz.ntmps133
  go_wp2
  go_ret
  exact ⟨rfl, rfl⟩
end Go.Proofs.YtgcnolapjppbpaaGreatDoor
namespace Go.Proofs.YtgcnolapjppbpaaGreatDoor
open Go.RowKit
theorem le_snoc (m n : Nat) : le m (n + 1) = le m n ++ [UInt8.ofNat (m / 256 ^ n)] := by
  induction n generalizing m with
  | zero => simp [le]
  | succ n ih => rw [le, ih (m / 256), le, List.cons_append, Nat.div_div_eq_div_mul, Nat.pow_succ, Nat.mul_comm (256 ^ n)]
theorem V8_ofNat (m : Nat) : V8 (UInt8.ofNat m) = .int .u8 ((m : Int) % 256) := by
  unfold V8
  have : (UInt8.ofNat m).toNat = m % 256 := by show m % 2 ^ 8 = _; rfl
  rw [this]; congr 1
set_option maxHeartbeats 400000 in
theorem number_calls (B : Nat) (v : Value) (xs : List UInt8) (m n : Nat) (w : World) (hv : w.ownsRow B 5 1 v xs.length (xs.map V8)) (hB : B ≤ w.heap.size) (hm : m < 4294967296) (hn : n ≤ 4) (hx : xs.length ≤ 140737488355000) :
    Calls Tryz.prog 130 #[v, .int .u32 (m : Int), .int .i64 (n : Int)] w fun e w' => ∃ v', e = .returned v' ∧ w'.ownsRow B 5 1 v' (xs.length + n) ((xs ++ le m n).map V8) ∧ Below B w w' := by
  obtain ⟨va, vc, rfl, _⟩ : ∃ a c, v = .slice a xs.length c ∧ True := by
    rcases hv.2 with ⟨rfl, h0⟩ | ⟨g, cap, cur, rfl, _⟩
    · exact ⟨_, _, by rw [h0], trivial⟩
    · exact ⟨_, _, rfl, trivial⟩
  have HV := Lib.hid hv
  have HM := Lib.hid hm
  clear hv hm
  go_enter Tryz.func130, Tryz.ntmps130
  go_wp2_with fail
  go_loopg [0, 1, 8] n (fun gk v x i wr => ∃ (k : Nat), gk + k = n ∧ i = .int .i64 (k : Int) ∧ x = .int .u32 ((m / 256 ^ k : Nat) : Int) ∧ wr.ownsRow B 5 1 v (xs.length + k) ((xs ++ le m k).map V8) ∧ Below B w wr)
  case atStart => exact ⟨0, by omega, rfl, by simp, by simpa [le] using HV.out, Below.refl _ _⟩
  case round =>
    clear HV
    obtain ⟨k, hgk, rfl, rfl, hown, hb⟩ := hrel
    have hs := hb.size
    have hk0 : (0 : Int) ≤ (k : Int) := by omega
    have Hgk := Lib.hid hgk
    have HB := Lib.hid hb
    obtain ⟨q, hq⟩ : ∃ q, q = m / 256 ^ k := ⟨_, rfl⟩
    have hq32 : q < 4294967296 := by rw [hq]; exact Nat.lt_of_le_of_lt (Nat.div_le_self _ _) HM.out
    have hq1 : (q : Int) < 4294967296 := by omega
    have hq0 : (0 : Int) ≤ (q : Int) := by omega
    have hqn : q / 256 = m / 256 ^ (k + 1) := by rw [hq, Nat.div_div_eq_div_mul, Nat.pow_succ]
    rw [← hq]
    obtain ⟨ra, rc, hra⟩ : ∃ a c, u0 = .slice a (xs.length + k) c := by
      rcases hown.2 with ⟨h, h0⟩ | ⟨g, cap, cur, h, _⟩
      · exact ⟨_, _, by rw [h, h0]⟩
      · exact ⟨_, _, h⟩
    subst hra
    have hsn := le_snoc m k
    rw [← hq] at hsn
    have hown2 := hown.alloc (.cells #[.int .u8 ((q : Int) % 256)] 5)
    have hbA := hb.trans ((below_alloc wr (.cells #[.int .u8 ((q : Int) % 256)] 5)).mono (by omega))
    have HOA := Lib.hid hown2
    have HBA := Lib.hid hbA
    have HSN := Lib.hid hsn
    have HQN := Lib.hid hqn
    have HO := Lib.hid hown
    clear hb hown hown2 hbA hsn hqn hq hq32
    by_cases hk : k < n
    · have hk1 : (k : Int) < (n : Int) := by omega
      clear hgk
      go_wp2_with (at_builtin; refine appB rfl _ _ rfl B _ _ _ rfl HOA.out ⟨wr.heap.size, 0, none⟩ 1 1 [.int .u8 ((q : Int) % 256)] rfl rfl (cell_one_new _ _ _) (by simp [Value.oneCell']) (by omega) (Nat.le_trans hB HBA.out.size) ?_)
      intro v' w1 hown' hg' _
      have hb1 := HBA.out.trans (below_grown hg' (Nat.le_trans hB HBA.out.size) (fun q hq => (HO.out.lt q hq).1))
      have ho1 : w1.ownsRow B 5 1 v' (xs.length + (k + 1)) ((xs ++ le m (k + 1)).map V8) := by
        rw [HSN.out, List.map_append, List.map_append]
        rw [List.map_cons, List.map_nil, V8_ofNat]; exact hown'
      have HB1 := Lib.hid hb1
      have HO1 := Lib.hid ho1
      clear hown' hg' hb1 ho1
      go_wp2_with fail
      go_roundg (n - (k + 1))
      case measure => have := Hgk.out; omega
      case rel => exact ⟨k + 1, by have := Hgk.out; omega, by go_num, by rw [← HQN.out]; simp, HO1.out, HB1.out⟩
    · obtain rfl : k = n := by omega
      clear hgk
      go_wp2_with fail
      go_ret
      exact ⟨_, rfl, HO.out, HB.out⟩
theorem head_calls (v : Value) (e : UInt32) (p : List UInt8) (w : World) (hv : Rd w v p.length (p.map V8)) (hp : p.length ≤ 512) :
    Calls Tryz.prog 98 #[.int .u32 (e.toNat : Int), v] w fun r w' => ∃ v', r = .returned v' ∧ w'.ownsRow w.heap.size 5 1 v' 11 ((headM e p).map V8) ∧ Below w.heap.size w w' := by
  obtain ⟨va, vc, rfl⟩ : ∃ a c, v = .slice a p.length c := by obtain ⟨a, c, h, _⟩ := hv; exact ⟨a, c, h⟩
  have ho0 : (w.alloc (.cells #[.int .u8 104] 5)).ownsRow w.heap.size 5 1 (.slice (some ⟨w.heap.size, 0, none⟩) 1 1) ([(104 : UInt8)]).length (([(104 : UInt8)]).map V8) :=
    ⟨rfl, .inr ⟨w.heap.size, 1, _, rfl, Nat.le_refl _, heap_alloc_new w _, Nat.le_refl _, by unfold maxLen; omega, rfl, rfl⟩⟩
  have HV := Lib.hid hv
  have HB := Lib.hid (below_alloc w (.cells #[.int .u8 104] 5))
  have hn1 := number_calls w.heap.size _ [104] e.toNat 4 _ ho0 (by simp) e.toNat_lt (by omega) (by simp)
  have Hn1 := Lib.hid hn1
  clear hv ho0 hn1
  go_enter Tryz.func98, Tryz.ntmps98
  go_wp2_with fail
  refine Hn1.out.mono ?_
  rintro r w1 ⟨b1, rfl, ho1, hb1⟩
  have HB1 := Lib.hid (HB.out.trans hb1)
  have hn2 := number_calls w.heap.size b1 (104 :: le e.toNat 4) p.length 2 w1 (by simpa [le_length] using ho1) HB1.out.size (by omega) (by omega) (by simp [le_length])
  have Hn2 := Lib.hid hn2
  clear ho1 hb1 Hn1 HB hn2
  go_wp2_with fail
  refine Hn2.out.mono ?_
  rintro r w2 ⟨b2, rfl, ho2, hb2⟩
  have ho2 : w2.ownsRow w.heap.size 5 1 b2 (pre e p.length).length ((pre e p.length).map V8) := by
    have := ho2; simpa [pre, le_length] using this
  have HB2 := Lib.hid (HB1.out.trans hb2)
  have HO2 := Lib.hid ho2
  have hs2 := HB2.out.size
  clear ho2 hb2 Hn2 HB1
  go_wp2_with fail
  refine (sumNew_calls w2).mono ?_
  rintro r w3 ⟨rfl, rfl⟩
  obtain ⟨w3, hw3⟩ : ∃ w3, w3 = w2.alloc (.cells #[.int .u32 (I32 0)] 256) := ⟨_, rfl⟩
  rw [← hw3]
  obtain ⟨s, hs⟩ : ∃ s, s = w2.heap.size := ⟨_, rfl⟩
  rw [← hs]
  have hx3 : Box w3 s #[.int .u32 (I32 0)] 256 := by rw [hw3, hs]; exact Box.new _ _ _
  have ho3 := own_below HO2.out (below_alloc w2 (.cells #[.int .u32 (I32 0)] 256))
  have hb3 := HB2.out.trans ((below_alloc w2 (.cells #[.int .u32 (I32 0)] 256)).mono hs2)
  rw [← hw3] at ho3 hb3
  have hne : ∀ k, b2.ownBlock = some k → k ≠ s := fun k hk e => by have := (HO2.out.lt k hk).2; omega
  have HX3 := Lib.hid hx3
  have HO3 := Lib.hid ho3
  have HB3 := Lib.hid hb3
  have Hne := Lib.hid hne
  have hws : w.heap.size ≤ s := by omega
  have ha1 := add_calls ⟨s, 0, none⟩ 0 b2 (pre e p.length) w3 (hx3.cell 0 _ rfl) (hx3.free 0) (rd_of_own ho3)
  have Ha1 := Lib.hid ha1
  clear hx3 ho3 hb3 hne hw3 hs HO2 HB2 ha1
  go_wp2_with fail
  refine Ha1.out.mono ?_
  rintro r w4 ⟨rfl, hw4⟩
  obtain ⟨r1, hr1⟩ : ∃ r1 : UInt32, r1 = ~~~(crcRun (~~~0) (pre e p.length)) := ⟨_, rfl⟩
  rw [← hr1] at hw4
  have hm4 : Mod (fun q => q = s) w3 w4 := by rw [hw4]; exact Mod.set (fun q => q = s) w3 ⟨s, 0, none⟩ _ rfl
  have hx4 : Box w4 s #[.int .u32 (I32 r1)] 256 := by rw [hw4]; simpa using HX3.out.set 0 (.int .u32 (I32 r1))
  have HO4 := Lib.hid (own_mod HO3.out hm4 (fun k hk => Hne.out k hk))
  have HB4 := Lib.hid (HB3.out.trans (hm4.below HB3.out.size (fun q hq => by omega)))
  have HX4 := Lib.hid hx4
  have ha2 := add_calls ⟨s, 0, none⟩ r1 (.slice va p.length vc) p w4 (hx4.cell 0 _ rfl) (hx4.free 0) (HV.out.below HB4.out)
  have Ha2 := Lib.hid ha2
  have Hr1 := Lib.hid hr1
  clear hw4 hm4 hx4 HX3 HO3 HB3 Ha1 ha2 hr1
  go_wp2_with fail
  refine Ha2.out.mono ?_
  rintro r w5 ⟨rfl, hw5⟩
  have hcr : ~~~(crcRun (~~~r1) p) = crc (pre e p.length ++ p) := by
    rw [Hr1.out]; unfold crc; rw [crcRun_append]; simp; rfl
  rw [hcr] at hw5
  obtain ⟨cv, hcv⟩ : ∃ cv, cv = crc (pre e p.length ++ p) := ⟨_, rfl⟩
  rw [← hcv] at hw5
  have hm5 : Mod (fun q => q = s) w4 w5 := by rw [hw5]; exact Mod.set (fun q => q = s) w4 ⟨s, 0, none⟩ _ rfl
  have hx5 : Box w5 s #[.int .u32 (I32 cv)] 256 := by rw [hw5]; simpa using HX4.out.set 0 (.int .u32 (I32 cv))
  have HO5 := Lib.hid (own_mod HO4.out hm5 (fun k hk => Hne.out k hk))
  have HB5 := Lib.hid (HB4.out.trans (hm5.below HB4.out.size (fun q hq => by omega)))
  have hvc := value_calls ⟨s, 0, none⟩ (.int .u32 (I32 cv)) w5 (hx5.cell 0 _ rfl)
  have Hvc := Lib.hid hvc
  have Hcv := Lib.hid hcv
  clear hw5 hm5 hx5 HX4 HO4 HB4 Ha2 hcr hvc hcv Hr1
  go_wp2_with fail
  refine Hvc.out.mono ?_
  rintro r w6 ⟨rfl, rfl⟩
  have hn3 := number_calls w.heap.size b2 (pre e p.length) cv.toNat 4 w5 HO5.out HB5.out.size cv.toNat_lt (by omega) (by rw [pre_length]; omega)
  have Hn3 := Lib.hid hn3
  clear hn3 Hvc
  unfold I32
  go_wp2_with fail
  refine Hn3.out.mono ?_
  rintro r w7 ⟨b7, rfl, ho7, hb7⟩
  have HB7 := Lib.hid (HB5.out.trans hb7)
  have HO7 := Lib.hid ho7
  clear ho7 hb7 Hn3 HO5 HB5
  go_wp2_with fail
  go_ret
  refine ⟨_, rfl, ?_, HB7.out⟩
  have := HO7.out
  rw [pre_length] at this
  unfold headM
  rw [← Hcv.out]; exact this
end Go.Proofs.YtgcnolapjppbpaaGreatDoor
