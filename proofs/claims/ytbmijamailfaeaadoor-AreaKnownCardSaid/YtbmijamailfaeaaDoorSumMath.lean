/-
  Plain laws on the sum of 32 bits: no program in sight.
-/
namespace Go.Proofs.YtbmijamailfaeaaDoor

def crcStep (r : UInt32) : UInt32 := (r >>> 1) ^^^ (0xedb88320 &&& -(r &&& 1))
def crcSteps : Nat → UInt32 → UInt32
  | 0, r => r
  | n + 1, r => crcStep (crcSteps n r)
def crcByte (r : UInt32) (c : UInt8) : UInt32 := crcSteps 8 (r ^^^ c.toUInt32)
def crcRun (r : UInt32) (l : List UInt8) : UInt32 := l.foldl crcByte r
/-- The sum of some bytes. -/
def crc (l : List UInt8) : UInt32 := ~~~(crcRun 0xffffffff l)
theorem crcRun_snoc (r : UInt32) (l : List UInt8) (k : Nat) (h : k < l.length) : crcRun r (l.take (k + 1)) = crcByte (crcRun r (l.take k)) l[k] := by
  rw [List.take_succ_eq_append_getElem h, crcRun, List.foldl_append]; rfl
theorem crcRun_append (r : UInt32) (a b : List UInt8) : crcRun r (a ++ b) = crcRun (crcRun r a) b := by rw [crcRun, List.foldl_append]; rfl
theorem low_cases (r : UInt32) : r &&& 1 = 0 ∨ r &&& 1 = 1 := by
  have h : (r &&& 1).toNat ≤ 1 := by
    rw [UInt32.toNat_and]; exact Nat.and_le_right
  have : (r &&& 1).toNat = 0 ∨ (r &&& 1).toNat = 1 := by omega
  rcases this with h | h
  · left; exact UInt32.toNat_inj.1 (by simpa using h)
  · right; exact UInt32.toNat_inj.1 (by simpa using h)
theorem crcStep_odd {r : UInt32} (h : r &&& 1 = 1) : crcStep r = (r >>> 1) ^^^ 0xedb88320 := by
  rw [crcStep, h]; rfl
theorem crcStep_even {r : UInt32} (h : r &&& 1 = 0) : crcStep r = r >>> 1 := by
  rw [crcStep, h, show (0xedb88320 &&& -(0 : UInt32)) = 0 from rfl, UInt32.xor_zero]
theorem xor_and (a b c : UInt32) : (a ^^^ b) &&& c = (a &&& c) ^^^ (b &&& c) := by
  apply UInt32.eq_of_toBitVec_eq
  simp only [UInt32.toBitVec_and, UInt32.toBitVec_xor]
  ext i hi
  simp only [BitVec.getElem_and, BitVec.getElem_xor]
  cases a.toBitVec[i] <;> cases b.toBitVec[i] <;> cases c.toBitVec[i] <;> rfl
theorem xor_shr (a b c : UInt32) : (a ^^^ b) >>> c = (a >>> c) ^^^ (b >>> c) := by
  apply UInt32.eq_of_toBitVec_eq
  simp only [UInt32.toBitVec_shiftRight, UInt32.toBitVec_xor]
  ext i hi
  simp
theorem crcStep_xor (a b : UInt32) : crcStep (a ^^^ b) = crcStep a ^^^ crcStep b := by
  have h : (a ^^^ b) &&& 1 = (a &&& 1) ^^^ (b &&& 1) := xor_and a b 1
  have hs : (a ^^^ b) >>> 1 = (a >>> 1) ^^^ (b >>> 1) := xor_shr a b 1
  rcases low_cases a with ha | ha <;> rcases low_cases b with hb | hb
  · rw [crcStep_even ha, crcStep_even hb, crcStep_even (by rw [h, ha, hb]; rfl), hs]
  · rw [crcStep_even ha, crcStep_odd hb, crcStep_odd (by rw [h, ha, hb]; rfl), hs, UInt32.xor_assoc]
  · rw [crcStep_odd ha, crcStep_even hb, crcStep_odd (by rw [h, ha, hb]; rfl), hs, UInt32.xor_assoc, UInt32.xor_assoc, UInt32.xor_comm (b >>> 1)]
  · rw [crcStep_odd ha, crcStep_odd hb, crcStep_even (by rw [h, ha, hb]; rfl), hs, UInt32.xor_assoc, ← UInt32.xor_assoc 0xedb88320, UInt32.xor_comm 0xedb88320, UInt32.xor_assoc, UInt32.xor_self, UInt32.xor_zero]
theorem crcStep_zero : crcStep 0 = 0 := rfl
theorem crcSteps_zero (n : Nat) : crcSteps n 0 = 0 := by induction n with | zero => rfl | succ n ih => rw [crcSteps, ih]; rfl
theorem crcSteps_xor (n : Nat) (a b : UInt32) : crcSteps n (a ^^^ b) = crcSteps n a ^^^ crcSteps n b := by
  induction n with
  | zero => rfl
  | succ n ih => rw [crcSteps, ih, crcStep_xor]; rfl
theorem crcSteps_add (m n : Nat) (r : UInt32) : crcSteps (m + n) r = crcSteps m (crcSteps n r) := by
  induction m with
  | zero => rw [Nat.zero_add]; rfl
  | succ m ih => rw [Nat.succ_add, crcSteps, ih]; rfl
theorem crcSteps_succ (n : Nat) (r : UInt32) : crcSteps (n + 1) r = crcSteps n (crcStep r) := crcSteps_add n 1 r
/-- The shift of what ends in zeros. -/
theorem crcSteps_shift (k m : Nat) : ∀ r : UInt32, r.toNat = m * 2 ^ k → (crcSteps k r).toNat = m := by
  induction k with
  | zero => intro r h; rw [crcSteps, h]; omega
  | succ k ih =>
    intro r h
    rw [crcSteps_succ]
    apply ih
    have hr : r.toNat = 2 * (m * 2 ^ k) := by rw [h, Nat.pow_succ]; rw [← Nat.mul_assoc, Nat.mul_comm]
    have he : r &&& 1 = 0 := by
      apply UInt32.toNat_inj.1
      rw [UInt32.toNat_and, show (1 : UInt32).toNat = 1 from rfl, Nat.and_one_is_mod, hr]
      simp
    rw [crcStep_even he, UInt32.toNat_shiftRight, hr]
    show (2 * (m * 2 ^ k)) >>> 1 = _
    rw [Nat.shiftRight_eq_div_pow]; omega
theorem crcSteps_shift1 (i : Nat) (hi : i < 32) : crcSteps i (UInt32.ofNat (2 ^ i)) = 1 := by
  apply UInt32.toNat_inj.1
  refine crcSteps_shift i 1 _ ?_
  have : 2 ^ i < 2 ^ 32 := Nat.pow_lt_pow_right (by omega) hi
  show 2 ^ i % 2 ^ 32 = _
  rw [Nat.mod_eq_of_lt this]; omega
/-- A step loses nothing. -/
theorem crcStep_eq_zero {r : UInt32} (h : crcStep r = 0) : r = 0 := by
  have hs : r.toNat = 2 * (r >>> 1).toNat + (r &&& 1).toNat := by
    rw [UInt32.toNat_shiftRight, UInt32.toNat_and, show (1 : UInt32).toNat = 1 from rfl, Nat.and_one_is_mod]
    show r.toNat = 2 * (r.toNat >>> 1) + _
    rw [Nat.shiftRight_eq_div_pow]; omega
  rcases low_cases r with hb | hb
  · rw [crcStep_even hb] at h
    rw [h, hb] at hs
    exact UInt32.toNat_inj.1 (by simpa using hs)
  · rw [crcStep_odd hb] at h
    have h2 : r >>> 1 = 0xedb88320 := by
      have := congrArg (fun x => x ^^^ (0xedb88320 : UInt32)) h
      simpa [UInt32.xor_assoc] using this
    have hl := r.toNat_lt
    rw [h2, hb, show (0xedb88320 : UInt32).toNat = 3988292384 from rfl] at hs
    omega
theorem crcSteps_eq_zero {n : Nat} {r : UInt32} (h : crcSteps n r = 0) : r = 0 := by
  induction n with
  | zero => exact h
  | succ n ih => exact ih (crcStep_eq_zero h)
theorem u8_xor32 (a b : UInt8) : (a ^^^ b).toUInt32 = a.toUInt32 ^^^ b.toUInt32 := by
  apply UInt32.toNat_inj.1; simp
theorem crcByte_xor (r s : UInt32) (a b : UInt8) : crcByte (r ^^^ s) (a ^^^ b) = crcByte r a ^^^ crcByte s b := by
  rw [crcByte, crcByte, crcByte, ← crcSteps_xor, u8_xor32]
  congr 1
  rw [UInt32.xor_assoc, UInt32.xor_assoc]; congr 1
  rw [← UInt32.xor_assoc, ← UInt32.xor_assoc, UInt32.xor_comm s]
theorem crcByte_xor0 (r s : UInt32) (a : UInt8) : crcByte (r ^^^ s) a = crcByte r a ^^^ crcSteps 8 s := by
  have h := crcByte_xor r s a 0
  rw [UInt8.xor_zero] at h
  have h0 : crcByte s 0 = crcSteps 8 s := by
    unfold crcByte
    rw [show (0 : UInt8).toUInt32 = 0 from rfl, UInt32.xor_zero]
  rw [h, h0]
theorem crcRun_xor (l : List UInt8) : ∀ r s : UInt32, crcRun (r ^^^ s) l = crcRun r l ^^^ crcSteps (8 * l.length) s := by
  induction l with
  | nil => intro r s; rfl
  | cons c l ih =>
    intro r s
    show crcRun (crcByte (r ^^^ s) c) l = crcRun (crcByte r c) l ^^^ _
    rw [crcByte_xor0, ih, ← crcSteps_add, List.length_cons, Nat.mul_add]
/-- Three rows laid over one another. -/
theorem crcRun_three (x y z all : List UInt8) (hy : y.length = x.length) (hz : z.length = x.length) (ha : all.length = x.length)
    (h : ∀ i, i < x.length → all.getD i 0 = x.getD i 0 ^^^ y.getD i 0 ^^^ z.getD i 0) : ∀ r s t : UInt32, crcRun (r ^^^ s ^^^ t) all = crcRun r x ^^^ crcRun s y ^^^ crcRun t z := by
  induction x generalizing y z all with
  | nil =>
    intro r s t
    rw [List.length_nil] at hy hz ha
    rw [List.eq_nil_of_length_eq_zero hy, List.eq_nil_of_length_eq_zero hz, List.eq_nil_of_length_eq_zero ha]; rfl
  | cons a x ih =>
    intro r s t
    cases y with
    | nil => simp at hy
    | cons b y => cases z with
      | nil => simp at hz
      | cons c z => cases all with
        | nil => simp at ha
        | cons d all =>
          have h0 := h 0 (by simp)
          simp only [List.getD_cons_zero] at h0
          subst h0
          show crcRun (crcByte _ _) all = crcRun (crcByte r a) x ^^^ crcRun (crcByte s b) y ^^^ crcRun (crcByte t c) z
          rw [crcByte_xor, crcByte_xor]
          exact ih y z all (by simpa using hy) (by simpa using hz) (by simpa using ha) (fun i hi => by simpa using h (i + 1) (by simpa using hi)) _ _ _
theorem crc_three (x y z all : List UInt8) (hy : y.length = x.length) (hz : z.length = x.length) (ha : all.length = x.length)
    (h : ∀ i, i < x.length → all.getD i 0 = x.getD i 0 ^^^ y.getD i 0 ^^^ z.getD i 0) : crc x ^^^ crc y ^^^ crc z = crc all := by
  have e := crcRun_three x y z all hy hz ha h 0xffffffff 0xffffffff 0xffffffff
  rw [show (0xffffffff : UInt32) ^^^ 0xffffffff ^^^ 0xffffffff = 0xffffffff from rfl] at e
  unfold crc
  rw [e]
  generalize crcRun 4294967295 x = p
  generalize crcRun 4294967295 y = q
  generalize crcRun 4294967295 z = r
  apply UInt32.eq_of_toBitVec_eq
  simp only [UInt32.toBitVec_xor, UInt32.toBitVec_not]
  ext i hi
  simp only [BitVec.getElem_xor, BitVec.getElem_not]
  cases p.toBitVec[i] <;> cases q.toBitVec[i] <;> cases r.toBitVec[i] <;> rfl
/-- The four bytes of a number. -/
def le32 (n : UInt32) : List UInt8 := [n.toUInt8, (n >>> 8).toUInt8, (n >>> 16).toUInt8, (n >>> 24).toUInt8]
theorem crcByte_le (r n : UInt32) : crcByte r n.toUInt8 ^^^ (n >>> 8) = crcSteps 8 (r ^^^ n) := by
  have hn : n = n.toUInt8.toUInt32 ^^^ ((n >>> 8) <<< 8) := by
    apply UInt32.toNat_inj.1
    have hl := n.toNat_lt
    apply Nat.eq_of_testBit_eq
    intro i
    simp only [UInt32.toNat_xor, UInt8.toNat_toUInt32, UInt32.toNat_toUInt8, UInt32.toNat_shiftLeft, UInt32.toNat_shiftRight, Nat.testBit_xor]
    show _ = ((n.toNat % 2 ^ 8).testBit i ^^ (n.toNat >>> 8 <<< 8 % 2 ^ 32).testBit i)
    rw [Nat.testBit_mod_two_pow, Nat.testBit_mod_two_pow, Nat.testBit_shiftLeft, Nat.testBit_shiftRight]
    by_cases h8 : i < 8
    · have h32 : i < 32 := by omega
      have h88 : ¬ 8 ≤ i := by omega
      simp [h8, h88]
    · by_cases h32 : i < 32
      · simp [h8, h32]; rw [show 8 + (i - 8) = i by omega]; simp; omega
      · have : n.toNat.testBit i = false := Nat.testBit_lt_two_pow (Nat.lt_of_lt_of_le hl (Nat.pow_le_pow_right (by omega) (by omega)))
        simp [h8, h32, this]
  have hs : crcSteps 8 ((n >>> 8) <<< 8) = n >>> 8 := by
    apply UInt32.toNat_inj.1
    refine crcSteps_shift 8 _ _ ?_
    have hl := n.toNat_lt
    simp [Nat.shiftRight_eq_div_pow, Nat.shiftLeft_eq]
    omega
  conv => rhs; rw [hn, ← UInt32.xor_assoc, crcSteps_xor, hs]
  rfl
theorem crcRun_le (r n : UInt32) : crcRun r (le32 n) = crcSteps 32 (r ^^^ n) := by
  have h1 := crcByte_le r n
  have e16 : (n >>> 8) >>> 8 = n >>> 16 := by
    apply UInt32.toNat_inj.1; simp [← Nat.shiftRight_add]
  have e24 : (n >>> 16) >>> 8 = n >>> 24 := by
    apply UInt32.toNat_inj.1; simp [← Nat.shiftRight_add]
  have e32 : (n >>> 24) >>> 8 = 0 := by
    apply UInt32.toNat_inj.1; have hl := n.toNat_lt; simp [Nat.shiftRight_eq_div_pow]; omega
  have h2 := crcByte_le (crcByte r n.toUInt8) (n >>> 8)
  have h3 := crcByte_le (crcByte (crcByte r n.toUInt8) (n >>> 8).toUInt8) (n >>> 16)
  have h4 := crcByte_le (crcByte (crcByte (crcByte r n.toUInt8) (n >>> 8).toUInt8) (n >>> 16).toUInt8) (n >>> 24)
  rw [e16] at h2; rw [e24] at h3; rw [e32, UInt32.xor_zero] at h4
  show crcByte (crcByte (crcByte (crcByte r n.toUInt8) (n >>> 8).toUInt8) (n >>> 16).toUInt8) (n >>> 24).toUInt8 = _
  rw [h4, h3, h2, h1, ← crcSteps_add, ← crcSteps_add, ← crcSteps_add]
/-- With its own sum behind. -/
theorem crc_own (n : UInt32) : ~~~(crcRun (~~~n) (le32 n)) = 0x2144df1c := by
  have h : ~~~n ^^^ n = 0xffffffff := by
    apply UInt32.eq_of_toBitVec_eq
    simp only [UInt32.toBitVec_xor, UInt32.toBitVec_not]
    rw [show (0xffffffff : UInt32).toBitVec = BitVec.allOnes 32 from rfl]
    ext i hi
    simp only [BitVec.getElem_xor, BitVec.getElem_not, BitVec.getElem_allOnes]
    cases n.toBitVec[i] <;> rfl
  rw [crcRun_le, h]; decide +kernel
/-- A bit turned. -/
theorem crc_flip' (r : UInt32) (pre post : List UInt8) (x : UInt8) (k : Nat) (hk : k < 8) :
    crcRun r (pre ++ (x ^^^ UInt8.ofNat (2 ^ k)) :: post) = crcRun r (pre ++ x :: post) ^^^ crcSteps (8 * post.length + (8 - k)) 1 := by
  rw [crcRun_append, crcRun_append]
  generalize crcRun r pre = t
  show crcRun (crcByte t _) post = crcRun (crcByte t x) post ^^^ _
  have e3 : (UInt8.ofNat (2 ^ k)).toUInt32 = UInt32.ofNat (2 ^ k) := by
    apply UInt32.toNat_inj.1
    have h1 : 2 ^ k < 2 ^ 8 := Nat.pow_lt_pow_right (by omega) hk
    have h2 : 2 ^ k < 2 ^ 32 := Nat.pow_lt_pow_right (by omega) (by omega)
    rw [UInt8.toNat_toUInt32]
    show 2 ^ k % 2 ^ 8 = 2 ^ k % 2 ^ 32
    rw [Nat.mod_eq_of_lt h1, Nat.mod_eq_of_lt h2]
  have e4 : crcByte 0 (UInt8.ofNat (2 ^ k)) = crcSteps (8 - k) 1 := by
    rw [crcByte, UInt32.zero_xor, e3, ← crcSteps_shift1 k (by omega), ← crcSteps_add, show 8 - k + k = 8 by omega]
  have h0 := crcByte_xor t 0 x (UInt8.ofNat (2 ^ k))
  rw [UInt32.xor_zero] at h0
  rw [h0, crcRun_xor, e4, ← crcSteps_add]
theorem crc_flip (r : UInt32) (l : List UInt8) (p : Nat) (hp : p < 8 * l.length) :
    crcRun r (l.set (p / 8) (l.getD (p / 8) 0 ^^^ UInt8.ofNat (2 ^ (p % 8)))) = crcRun r l ^^^ crcSteps (8 * l.length - p) 1 := by
  have hq : p / 8 < l.length := by omega
  have hg : l.getD (p / 8) 0 = l[p / 8] := by simp [hq]
  have e2 : l.set (p / 8) (l.getD (p / 8) 0 ^^^ UInt8.ofNat (2 ^ (p % 8))) = l.take (p / 8) ++ (l[p / 8] ^^^ UInt8.ofNat (2 ^ (p % 8))) :: l.drop (p / 8 + 1) := by
    rw [List.set_eq_take_append_cons_drop, if_pos hq, hg]
  have e1 : l.take (p / 8) ++ l[p / 8] :: l.drop (p / 8 + 1) = l := by simp
  have h := crc_flip' r (l.take (p / 8)) (l.drop (p / 8 + 1)) l[p / 8] (p % 8) (Nat.mod_lt _ (by omega))
  rw [e1] at h
  rw [e2, h, List.length_drop]
  congr 2
  omega
/-- The window: what was turned so far, as a number. -/
theorem window_step (r : UInt32) (l : List UInt8) (n k i : Nat) (acc : UInt32) (c : UInt32) (hn : l.length = n) (hi : i < 32) (hp : k + i < 8 * n) (hc : crcRun r l = c ^^^ crcSteps (8 * n - k) acc) :
    crcRun r (l.set ((k + i) / 8) (l.getD ((k + i) / 8) 0 ^^^ UInt8.ofNat (2 ^ ((k + i) % 8)))) = c ^^^ crcSteps (8 * n - k) (acc ^^^ UInt32.ofNat (2 ^ i)) := by
  subst hn
  rw [crc_flip r l (k + i) hp, hc, crcSteps_xor, UInt32.xor_assoc]
  congr 2
  rw [← crcSteps_shift1 i hi, ← crcSteps_add]
  congr 1; omega
theorem window_lt (acc : UInt32) (i : Nat) (hi : i < 32) (h : acc.toNat < 2 ^ i) : (acc ^^^ UInt32.ofNat (2 ^ i)).toNat < 2 ^ (i + 1) ∧ acc ^^^ UInt32.ofNat (2 ^ i) ≠ 0 := by
  have h1 : 2 ^ i < 2 ^ 32 := Nat.pow_lt_pow_right (by omega) hi
  have e : (UInt32.ofNat (2 ^ i)).toNat = 2 ^ i := by show 2 ^ i % 2 ^ 32 = _; rw [Nat.mod_eq_of_lt h1]
  have h2 : 2 ^ i < 2 ^ (i + 1) := Nat.pow_lt_pow_right (by omega) (by omega)
  refine ⟨?_, ?_⟩
  · rw [UInt32.toNat_xor, e]; exact Nat.xor_lt_two_pow (by omega) h2
  · intro h0
    have : acc = UInt32.ofNat (2 ^ i) := by
      have := congrArg (fun x => x ^^^ UInt32.ofNat (2 ^ i)) h0
      simpa [UInt32.xor_assoc] using this
    rw [this, e] at h; omega
theorem crc_ne {b c : List UInt8} {m : Nat} {acc : UInt32} (h : crcRun 0xffffffff c = crcRun 0xffffffff b ^^^ crcSteps m acc) : crc b = crc c ↔ acc = 0 := by
  unfold crc
  rw [h]
  constructor
  · intro e
    have e1 : ~~~(~~~(crcRun 4294967295 b)) = ~~~(~~~(crcRun 4294967295 b ^^^ crcSteps m acc)) := by rw [e]
    rw [UInt32.not_not, UInt32.not_not] at e1
    have e2 := congrArg (fun x => crcRun 4294967295 b ^^^ x) e1
    simp only [UInt32.xor_self, ← UInt32.xor_assoc, UInt32.zero_xor] at e2
    exact crcSteps_eq_zero e2.symm
  · rintro rfl; rw [crcSteps_zero, UInt32.xor_zero]
end Go.Proofs.YtbmijamailfaeaaDoor
