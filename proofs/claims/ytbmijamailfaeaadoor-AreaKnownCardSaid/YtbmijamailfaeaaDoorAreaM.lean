/-
  Images in an area, plainly: headers, Save, Load over a plain disk.
-/
import Derived.Test.YtbmijamailfaeaaDoorRecMath
import Derived.Test.YtbmijamailfaeaaDoorRefDisk
import Derived.Test.YtbmijamailfaeaaDoorStrS
namespace Go.Proofs.YtbmijamailfaeaaDoor
open Go.RowKit
set_option maxRecDepth 100000

/-- A string's bytes. -/
def LB (s : ByteArray) : List UInt8 := s.data.toList
theorem LB_SB (l : List UInt8) : LB (SB l) = l := SB_data l
theorem SB_LB (s : ByteArray) : SB (LB s) = s := by apply SB_ext; simp [SB, LB]
theorem LB_len (s : ByteArray) : (LB s).length = s.size := by show s.data.toList.length = s.data.size; simp
/-- May an image lie there? -/
def mayA (N at_ n : Int) : Prop := 0 ≤ at_ ∧ 1 ≤ n ∧ at_ + 1 + 2 * n ≤ N
instance (N at_ n : Int) : Decidable (mayA N at_ n) := by unfold mayA; exact inferInstance
/-- An area's first block. -/
def firstA (at_ n : Int) (e : Nat) : Int := at_ + 1 + ((e % 2 : Nat) : Int) * n
def hd12 (e : Nat) (p : List UInt8) : List UInt8 := le e 4 ++ le p.length 4 ++ le (crc p).toNat 4
/-- An image's header. -/
def hdrM (e : Nat) (p : List UInt8) : List UInt8 := hd12 e p ++ le (crc (hd12 e p)).toNat 4
theorem hd12_length (e : Nat) (p : List UInt8) : (hd12 e p).length = 12 := by simp [hd12, le_length]
theorem hdrM_length (e : Nat) (p : List UInt8) : (hdrM e p).length = 16 := by simp [hdrM, hd12_length, le_length]
/-- An image's blocks. -/
def chunks : Nat → List UInt8 → List (List UInt8)
  | 0, _ => []
  | f + 1, p => if p = [] then [] else p.take 256 :: chunks f (p.drop 256)
/-- Blocks are written, one behind the other, up to the first that can't be. -/
def putAll (d : DiskM) (b : Int) : List (List UInt8) → DiskM × Int
  | [] => (d, 0)
  | c :: r => if (d.write b (SB c)).2 = 0 then putAll (d.write b (SB c)).1 (b + 1) r else d.write b (SB c)
def saveM (d : DiskM) (at_ n : Int) (e : Nat) (p : List UInt8) : DiskM × Int :=
  if mayA d.strs.length at_ n then
    if n * 256 < (p.length : Int) then (d, 3)
    else if (putAll d (firstA at_ n e) (chunks p.length p)).2 = 0 then (putAll d (firstA at_ n e) (chunks p.length p)).1.write at_ (SB (hdrM e p)) else putAll d (firstA at_ n e) (chunks p.length p)
  else (d, 1)
/-- The number of four bytes. -/
def num4 (l : List UInt8) (i : Nat) : Nat := (l.getD i 0).toNat + 256 * (l.getD (i + 1) 0).toNat + 65536 * (l.getD (i + 2) 0).toNat + 16777216 * (l.getD (i + 3) 0).toNat
theorem num4_lt (l : List UInt8) (i : Nat) : num4 l i < 4294967296 := by
  have h1 := (l.getD i 0).toNat_lt
  have h2 := (l.getD (i + 1) 0).toNat_lt
  have h3 := (l.getD (i + 2) 0).toNat_lt
  have h4 := (l.getD (i + 3) 0).toNat_lt
  unfold num4; omega
/-- What is read of a block. -/
def readB (d : DiskM) (b : Int) : List UInt8 := LB (d.read b).1
/-- The bytes that lie in an area. -/
def liesM (d : DiskM) : Nat → Int → Nat → List UInt8 → Option (List UInt8)
  | 0, _, _, acc => some acc
  | f + 1, b, size, acc =>
    if acc.length < size then
      if (readB d b).length < min (size - acc.length) 256 then none else liesM d f (b + 1) size (acc ++ (readB d b).take (min (size - acc.length) 256))
    else some acc
def loadM (d : DiskM) (at_ n : Int) : Nat × List UInt8 × Int :=
  if mayA d.strs.length at_ n then
    if readB d at_ = [] then (0, [], 10)
    else if (readB d at_).length = 16 then
      if n * 256 < ((num4 (readB d at_) 4 : Nat) : Int) then (0, [], 21)
      else match liesM d (num4 (readB d at_) 4 + 1) (firstA at_ n (num4 (readB d at_) 0)) (num4 (readB d at_) 4) [] with
        | none => (0, [], 21)
        | some p => if hdrM (num4 (readB d at_) 0) p = readB d at_ then (num4 (readB d at_) 0, p, 0) else (0, [], 21)
    else (0, [], 21)
  else (0, [], 1)
theorem four_eq {a b c d a' b' c' d' : Int} (h1 : a = a') (h2 : b = b') (h3 : c = c') (h4 : d = d') : [Value.int .u8 a, .int .u8 b, .int .u8 c, .int .u8 d] = [Value.int .u8 a', .int .u8 b', .int .u8 c', .int .u8 d'] := by subst h1; subst h2; subst h3; subst h4; rfl
theorem le4_vals (m : Nat) : (le m 4).map V8 = [.int .u8 ((m : Int) % 256), .int .u8 ((m : Int) / 256 % 256), .int .u8 ((m : Int) / 65536 % 256), .int .u8 ((m : Int) / 16777216 % 256)] := by
  have h : ∀ k : Nat, ((UInt8.ofNat k).toNat : Int) = (k : Int) % 256 := fun k => by
    have : (UInt8.ofNat k).toNat = k % 256 := by show k % 2 ^ 8 = _; rfl
    rw [this]; omega
  have e1 : ((m / 256 : Nat) : Int) % 256 = (m : Int) / 256 % 256 := by omega
  have e2 : ((m / 256 / 256 : Nat) : Int) % 256 = (m : Int) / 65536 % 256 := by omega
  have e3 : ((m / 256 / 256 / 256 : Nat) : Int) % 256 = (m : Int) / 16777216 % 256 := by omega
  exact four_eq (h _) ((h _).trans e1) ((h _).trans e2) ((h _).trans e3)
theorem putAll_len (d : DiskM) (b : Int) (l : List (List UInt8)) : (putAll d b l).1.strs.length = d.strs.length := by
  induction l generalizing d b with
  | nil => rfl
  | cons c r ih =>
    rw [putAll]; split
    · rw [ih, DiskM.write_len]
    · rw [DiskM.write_len]
theorem putAll_wf {d : DiskM} (h : d.Wf) (b : Int) (l : List (List UInt8)) : (putAll d b l).1.Wf := by
  induction l generalizing d b with
  | nil => exact h
  | cons c r ih =>
    rw [putAll]; split
    · exact ih (h.write _ _) _
    · exact h.write _ _
theorem putAll_trail (d : DiskM) (b : Int) (l : List (List UInt8)) : (putAll d b l).1.trail.length ≤ d.trail.length + l.length := by
  induction l generalizing d b with
  | nil => exact Nat.le_refl _
  | cons c r ih =>
    have := (d.write_trail b (SB c)).1
    rw [putAll, List.length_cons]; split
    · have := ih (d.write b (SB c)).1 (b + 1); omega
    · omega
theorem chunks_length : ∀ (f : Nat) (p : List UInt8), p.length ≤ f → (chunks f p).length * 256 < p.length + 256
  | 0, p, h => by simp [chunks]
  | f + 1, p, h => by
    rw [chunks]
    split
    · simp
    · rename_i h1
      have hp : 0 < p.length := List.length_pos_iff.2 h1
      have := chunks_length f (p.drop 256) (by rw [List.length_drop]; omega)
      rw [List.length_cons]
      rw [List.length_drop] at this
      generalize (chunks f (p.drop 256)).length = c at this ⊢
      clear h1 h
      generalize p.length = m at this hp ⊢
      omega
theorem saveM_wf {d : DiskM} (h : d.Wf) (at_ n : Int) (e : Nat) (p : List UInt8) : (saveM d at_ n e p).1.Wf := by
  unfold saveM
  split
  · split
    · exact h
    split
    · exact (putAll_wf h _ _).write _ _
    · exact putAll_wf h _ _
  · exact h
theorem saveM_len (d : DiskM) (at_ n : Int) (e : Nat) (p : List UInt8) : (saveM d at_ n e p).1.strs.length = d.strs.length := by
  unfold saveM
  split
  · split
    · rfl
    split
    · rw [DiskM.write_len, putAll_len]
    · rw [putAll_len]
  · rfl
theorem saveM_trail (d : DiskM) (at_ n : Int) (e : Nat) (p : List UInt8) (hd : d.strs.length ≤ 4096) : (saveM d at_ n e p).1.trail.length ≤ d.trail.length + 2050 := by
  unfold saveM
  split
  · rename_i h1
    split
    · exact Nat.le_add_right _ _
    · rename_i h2
      have hc := chunks_length p.length p (Nat.le_refl _)
      have ht := putAll_trail d (firstA at_ n e) (chunks p.length p)
      unfold mayA at h1
      split
      · have := ((putAll d (firstA at_ n e) (chunks p.length p)).1.write_trail at_ (SB (hdrM e p))).1
        omega
      · omega
  · exact Nat.le_add_right _ _
theorem write_err (d : DiskM) (i : Int) (s : ByteArray) : (d.write i s).2 = 0 ∨ (d.write i s).2 = 1 ∨ (d.write i s).2 = 3 ∨ (d.write i s).2 = 22 := by
  unfold DiskM.write
  split
  · simp
  split
  · simp
  split
  · simp
  · simp
theorem putAll_err (d : DiskM) (b : Int) (l : List (List UInt8)) : (putAll d b l).2 = 0 ∨ (putAll d b l).2 = 1 ∨ (putAll d b l).2 = 3 ∨ (putAll d b l).2 = 22 := by
  induction l generalizing d b with
  | nil => exact .inl rfl
  | cons c r ih =>
    rw [putAll]; split
    · exact ih _ _
    · exact write_err _ _ _
theorem saveM_err (d : DiskM) (at_ n : Int) (e : Nat) (p : List UInt8) : (saveM d at_ n e p).2 = 0 ∨ (saveM d at_ n e p).2 = 1 ∨ (saveM d at_ n e p).2 = 3 ∨ (saveM d at_ n e p).2 = 22 := by
  unfold saveM
  split
  · split
    · simp
    split
    · exact write_err _ _ _
    · exact putAll_err _ _ _
  · simp
theorem loadM_err (d : DiskM) (at_ n : Int) : (loadM d at_ n).2.2 = 0 ∨ (loadM d at_ n).2.2 = 1 ∨ (loadM d at_ n).2.2 = 10 ∨ (loadM d at_ n).2.2 = 21 := by
  unfold loadM
  split
  · split
    · simp
    split
    · split
      · simp
      split
      · simp
      · split <;> simp
    · simp
  · simp
theorem loadM_lt (d : DiskM) (at_ n : Int) : (loadM d at_ n).1 < 4294967296 := by
  unfold loadM
  split
  · split
    · simp
    split
    · split
      · simp
      split
      · simp
      · split
        · exact num4_lt _ _
        · simp
    · simp
  · simp
end Go.Proofs.YtbmijamailfaeaaDoor
