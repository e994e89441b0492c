/-
  The walks of package record: number, head.
-/
import Derived.Test.YtjoadcgegobjpaaDoorZ1
import Derived.Outline
import Derived.Deep.LoopGhost
import Derived.Lib.ConvBytes
import Derived.Lib.AppendStr
import Derived.Laws.IdiomStrings
import Derived.Laws.BytesArg
import Derived.Lib.Strings
namespace Go.Proofs.YtjoadcgegobjpaaDoor
open Go.RowKit

theorem le_snoc (m n : Nat) : le m (n + 1) = le m n ++ [UInt8.ofNat (m / 256 ^ n)] := by
  induction n generalizing m with
  | zero => simp [le]
  | succ n ih => rw [le, ih (m / 256), le, List.cons_append, Nat.div_div_eq_div_mul, Nat.pow_succ, Nat.mul_comm (256 ^ n)]
theorem V8_ofNat (m : Nat) : V8 (UInt8.ofNat m) = .int .u8 ((m : Int) % 256) := by
  unfold V8
  have : (UInt8.ofNat m).toNat = m % 256 := by show m % 2 ^ 8 = _; rfl
  rw [this]; congr 1
set_option maxHeartbeats 400000 in
theorem number_calls (B : Nat) (v : Value) (xs : List UInt8) (m n : Nat) (w : World) (hv : w.ownsRow B 5 1 v xs.length (xs.map V8)) (hB : B ≤ w.heap.size) (hm : m < 4294967296) (hn : n ≤ 4) (hx : xs.length ≤ 140737488355000) :
    Calls Tryd.prog 64 #[v, .int .u32 (m : Int), .int .i64 (n : Int)] w fun e w' => ∃ v', e = .returned v' ∧ w'.ownsRow B 5 1 v' (xs.length + n) ((xs ++ le m n).map V8) ∧ Below B w w' := by
  obtain ⟨va, vc, rfl, _⟩ : ∃ a c, v = .slice a xs.length c ∧ True := by
    rcases hv.2 with ⟨rfl, h0⟩ | ⟨g, cap, cur, rfl, _⟩
    · exact ⟨_, _, by rw [h0], trivial⟩
    · exact ⟨_, _, rfl, trivial⟩
  have HV := Lib.hid hv
  have HM := Lib.hid hm
  clear hv hm
  go_enter Tryd.func64, Tryd.ntmps64
  go_wp2_with fail
  go_loopg [0, 1, 8] n (fun gk v x i wr => ∃ (k : Nat), gk + k = n ∧ i = .int .i64 (k : Int) ∧ x = .int .u32 ((m / 256 ^ k : Nat) : Int) ∧ wr.ownsRow B 5 1 v (xs.length + k) ((xs ++ le m k).map V8) ∧ Below B w wr)
  case atStart => exact ⟨0, by omega, rfl, by simp, by simpa [le] using HV.out, Below.refl _ _⟩
  case round =>
    clear HV
    obtain ⟨k, hgk, rfl, rfl, hown, hb⟩ := hrel
    have hs := hb.size
    have hk0 : (0 : Int) ≤ (k : Int) := by omega
    have Hgk := Lib.hid hgk
    have HB := Lib.hid hb
    obtain ⟨q, hq⟩ : ∃ q, q = m / 256 ^ k := ⟨_, rfl⟩
    have hq32 : q < 4294967296 := by rw [hq]; exact Nat.lt_of_le_of_lt (Nat.div_le_self _ _) HM.out
    have hq1 : (q : Int) < 4294967296 := by omega
    have hq0 : (0 : Int) ≤ (q : Int) := by omega
    have hqn : q / 256 = m / 256 ^ (k + 1) := by rw [hq, Nat.div_div_eq_div_mul, Nat.pow_succ]
    rw [← hq]
    obtain ⟨ra, rc, hra⟩ : ∃ a c, u0 = .slice a (xs.length + k) c := by
      rcases hown.2 with ⟨h, h0⟩ | ⟨g, cap, cur, h, _⟩
      · exact ⟨_, _, by rw [h, h0]⟩
      · exact ⟨_, _, h⟩
    subst hra
    have hsn := le_snoc m k
    rw [← hq] at hsn
    have hown2 := hown.alloc (.cells #[.int .u8 ((q : Int) % 256)] 5)
    have hbA := hb.trans ((below_alloc wr (.cells #[.int .u8 ((q : Int) % 256)] 5)).mono (by omega))
    have HOA := Lib.hid hown2
    have HBA := Lib.hid hbA
    have HSN := Lib.hid hsn
    have HQN := Lib.hid hqn
    have HO := Lib.hid hown
    clear hb hown hown2 hbA hsn hqn hq hq32
    by_cases hk : k < n
    · have hk1 : (k : Int) < (n : Int) := by omega
      clear hgk
      go_wp2_with (at_builtin; refine appB rfl _ _ rfl B _ _ _ rfl HOA.out ⟨wr.heap.size, 0, none⟩ 1 1 [.int .u8 ((q : Int) % 256)] rfl rfl (cell_one_new _ _ _) (by simp [Value.oneCell']) (by omega) (Nat.le_trans hB HBA.out.size) ?_)
      intro v' w1 hown' hg' _
      have hb1 := HBA.out.trans (below_grown hg' (Nat.le_trans hB HBA.out.size) (fun q hq => (HO.out.lt q hq).1))
      have ho1 : w1.ownsRow B 5 1 v' (xs.length + (k + 1)) ((xs ++ le m (k + 1)).map V8) := by
        rw [HSN.out, List.map_append, List.map_append]
        rw [List.map_cons, List.map_nil, V8_ofNat]; exact hown'
      have HB1 := Lib.hid hb1
      have HO1 := Lib.hid ho1
      clear hown' hg' hb1 ho1
      go_wp2_with fail
      go_roundg (n - (k + 1))
      case measure => have := Hgk.out; omega
      case rel => exact ⟨k + 1, by have := Hgk.out; omega, by go_num, by rw [← HQN.out]; simp, HO1.out, HB1.out⟩
    · obtain rfl : k = n := by omega
      clear hgk
      go_wp2_with fail
      go_ret
      exact ⟨_, rfl, HO.out, HB.out⟩
/-- A first block's head. -/
theorem head_calls (v : Value) (e : UInt32) (p : List UInt8) (w : World) (hv : Rd w v p.length (p.map V8)) (hp : p.length ≤ 512) :
    Calls Tryd.prog 56 #[.int .u32 (e.toNat : Int), v] w fun r w' => ∃ v', r = .returned v' ∧ w'.ownsRow w.heap.size 5 1 v' 11 ((headM e p).map V8) ∧ Below w.heap.size w w' := by
  obtain ⟨va, vc, rfl⟩ : ∃ a c, v = .slice a p.length c := by obtain ⟨a, c, h, _⟩ := hv; exact ⟨a, c, h⟩
  have ho0 : (w.alloc (.cells #[.int .u8 104] 5)).ownsRow w.heap.size 5 1 (.slice (some ⟨w.heap.size, 0, none⟩) 1 1) ([(104 : UInt8)]).length (([(104 : UInt8)]).map V8) :=
    ⟨rfl, .inr ⟨w.heap.size, 1, _, rfl, Nat.le_refl _, heap_alloc_new w _, Nat.le_refl _, by unfold maxLen; omega, rfl, rfl⟩⟩
  have HV := Lib.hid hv
  have HB := Lib.hid (below_alloc w (.cells #[.int .u8 104] 5))
  have hn1 := number_calls w.heap.size _ [104] e.toNat 4 _ ho0 (by simp) e.toNat_lt (by omega) (by simp)
  have Hn1 := Lib.hid hn1
  clear hv ho0 hn1
  go_enter Tryd.func56, Tryd.ntmps56
  go_wp2_with fail
  refine Hn1.out.mono ?_
  rintro r w1 ⟨b1, rfl, ho1, hb1⟩
  have HB1 := Lib.hid (HB.out.trans hb1)
  have hn2 := number_calls w.heap.size b1 (104 :: le e.toNat 4) p.length 2 w1 (by simpa [le_length] using ho1) HB1.out.size (by omega) (by omega) (by simp [le_length])
  have Hn2 := Lib.hid hn2
  clear ho1 hb1 Hn1 HB hn2
  go_wp2_with fail
  refine Hn2.out.mono ?_
  rintro r w2 ⟨b2, rfl, ho2, hb2⟩
  have ho2 : w2.ownsRow w.heap.size 5 1 b2 (pre e p.length).length ((pre e p.length).map V8) := by
    have := ho2; simpa [pre, le_length] using this
  have HB2 := Lib.hid (HB1.out.trans hb2)
  have HO2 := Lib.hid ho2
  have hs2 := HB2.out.size
  clear ho2 hb2 Hn2 HB1
  go_wp2_with fail
  refine (new_calls w2).mono ?_
  rintro r w3 ⟨rfl, rfl⟩
  obtain ⟨w3, hw3⟩ : ∃ w3, w3 = w2.alloc (.cells #[.int .u32 (I32 0)] 148) := ⟨_, rfl⟩
  rw [← hw3]
  obtain ⟨s, hs⟩ : ∃ s, s = w2.heap.size := ⟨_, rfl⟩
  rw [← hs]
  have hx3 : Box w3 s #[.int .u32 (I32 0)] 148 := by rw [hw3, hs]; exact Box.new _ _ _
  have ho3 := own_below HO2.out (below_alloc w2 (.cells #[.int .u32 (I32 0)] 148))
  have hb3 := HB2.out.trans ((below_alloc w2 (.cells #[.int .u32 (I32 0)] 148)).mono hs2)
  rw [← hw3] at ho3 hb3
  have hne : ∀ k, b2.ownBlock = some k → k ≠ s := fun k hk e => by have := (HO2.out.lt k hk).2; omega
  have HX3 := Lib.hid hx3
  have HO3 := Lib.hid ho3
  have HB3 := Lib.hid hb3
  have Hne := Lib.hid hne
  have hws : w.heap.size ≤ s := by omega
  have ha1 := add_calls ⟨s, 0, none⟩ 0 b2 (pre e p.length) w3 (hx3.cell 0 _ rfl) (hx3.free 0) (rd_of_own ho3)
  have Ha1 := Lib.hid ha1
  clear hx3 ho3 hb3 hne hw3 hs HO2 HB2 ha1
  go_wp2_with fail
  refine Ha1.out.mono ?_
  rintro r w4 ⟨rfl, hw4⟩
  obtain ⟨r1, hr1⟩ : ∃ r1 : UInt32, r1 = ~~~(crcRun (~~~0) (pre e p.length)) := ⟨_, rfl⟩
  rw [← hr1] at hw4
  have hm4 : Mod (fun q => q = s) w3 w4 := by rw [hw4]; exact Mod.set (fun q => q = s) w3 ⟨s, 0, none⟩ _ rfl
  have hx4 : Box w4 s #[.int .u32 (I32 r1)] 148 := by rw [hw4]; simpa using HX3.out.set 0 (.int .u32 (I32 r1))
  have HO4 := Lib.hid (own_mod HO3.out hm4 (fun k hk => Hne.out k hk))
  have HB4 := Lib.hid (HB3.out.trans (hm4.below HB3.out.size (fun q hq => by omega)))
  have HX4 := Lib.hid hx4
  have ha2 := add_calls ⟨s, 0, none⟩ r1 (.slice va p.length vc) p w4 (hx4.cell 0 _ rfl) (hx4.free 0) (HV.out.below HB4.out)
  have Ha2 := Lib.hid ha2
  have Hr1 := Lib.hid hr1
  clear hw4 hm4 hx4 HX3 HO3 HB3 Ha1 ha2 hr1
  go_wp2_with fail
  refine Ha2.out.mono ?_
  rintro r w5 ⟨rfl, hw5⟩
  have hcr : ~~~(crcRun (~~~r1) p) = crc (pre e p.length ++ p) := by
    rw [Hr1.out]; unfold crc; rw [crcRun_append]; simp; rfl
  rw [hcr] at hw5
  obtain ⟨cv, hcv⟩ : ∃ cv, cv = crc (pre e p.length ++ p) := ⟨_, rfl⟩
  rw [← hcv] at hw5
  have hm5 : Mod (fun q => q = s) w4 w5 := by rw [hw5]; exact Mod.set (fun q => q = s) w4 ⟨s, 0, none⟩ _ rfl
  have hx5 : Box w5 s #[.int .u32 (I32 cv)] 148 := by rw [hw5]; simpa using HX4.out.set 0 (.int .u32 (I32 cv))
  have HO5 := Lib.hid (own_mod HO4.out hm5 (fun k hk => Hne.out k hk))
  have HB5 := Lib.hid (HB4.out.trans (hm5.below HB4.out.size (fun q hq => by omega)))
  have hvc := value_calls ⟨s, 0, none⟩ (.int .u32 (I32 cv)) w5 (hx5.cell 0 _ rfl)
  have Hvc := Lib.hid hvc
  have Hcv := Lib.hid hcv
  clear hw5 hm5 hx5 HX4 HO4 HB4 Ha2 hcr hvc hcv Hr1
  go_wp2_with fail
  refine Hvc.out.mono ?_
  rintro r w6 ⟨rfl, rfl⟩
  have hn3 := number_calls w.heap.size b2 (pre e p.length) cv.toNat 4 w5 HO5.out HB5.out.size cv.toNat_lt (by omega) (by rw [pre_length]; omega)
  have Hn3 := Lib.hid hn3
  clear hn3 Hvc
  unfold I32
  go_wp2_with fail
  refine Hn3.out.mono ?_
  rintro r w7 ⟨b7, rfl, ho7, hb7⟩
  have HB7 := Lib.hid (HB5.out.trans hb7)
  have HO7 := Lib.hid ho7
  clear ho7 hb7 Hn3 HO5 HB5
  go_wp2_with fail
  go_ret
  refine ⟨_, rfl, ?_, HB7.out⟩
  have := HO7.out
  rw [pre_length] at this
  unfold headM
  rw [← Hcv.out]; exact this
end Go.Proofs.YtjoadcgegobjpaaDoor
/-
  Lists that were handed out have memory of their own: what an append of one element does to a row and to a shorter slice of it.
-/
namespace Go.Proofs.YtjoadcgegobjpaaDoor
open Go.RowKit

/-- Behind an append of one: the same row, or a new one while all else stays. -/
def Grew (w w' : World) (v v' : Value) (n : Nat) : Prop :=
  (∃ b c, v = .slice (some ⟨b, 0, none⟩) n c ∧ v' = .slice (some ⟨b, 0, none⟩) (n + 1) c) ∨ (v'.ownBlock = some w.heap.size ∧ Below w.heap.size w w')
theorem run_append_own3 {P : Program} (w : World) (base : Nat) (t ty e : TypeId) (i : TypeInfo) (z : Value) (size bytes : Nat) (ht : P.underlying t = some (.slice e)) (hi : P.info? e = some i) (hz : i.zero = some z)
    (hsize : i.size = size) (hby : i.bytes = bytes) (hzs : z.cells.size = size) (hsz : 0 < size)
    (v : Value) (n : Nat) (xs : List Value) (hown : w.ownsRow base e size v n xs)
    (a : Addr) (c : Nat) (news : List Value) (hl : news.length = size) (hnews : ∀ j u, news[j]? = some u → w.cell? (a.add j) = some u) (h1 : ∀ u ∈ news, u.oneCell' = true)
    (h63 : n + 1 ≤ maxLen) (hbytes : (n + 1) * bytes ≤ 140737488355328) (hbase : base ≤ w.heap.size) :
    ∃ v' w', (Builtin.append_ #[t, t] ty #[v, .slice (some a) 1 c]).run P w = .ok v' w' ∧ w'.ownsRow base e size v' (n + 1) (xs ++ news) ∧ w.grownBy w' v.ownBlock ∧ Moved w v v' ∧ Grew w w' v v' n := by
  obtain ⟨v', w', hr, h2, h3, h4⟩ := run_append_own2 (P := P) w base t ty e i z size bytes ht hi hz hsize hby hzs hsz v n xs hown a 1 c news (by omega) hnews h1 h63 hbytes hbase
  refine ⟨v', w', hr, h2, h3, h4, ?_⟩
  have hsmall : n + 1 ≤ 9223372036854775807 := by simp only [maxLen] at h63; omega
  rcases hown.2 with ⟨rfl, rfl⟩ | ⟨g, cap, cur, rfl, hbg, hg, hnc, hcm, hcs, htake⟩
  · subst hsize; subst hby
    have hr2 := run_append_nil (P := P) w t ty e i z ht hi hz a 1 c news (by omega) hnews (by omega) (by omega) (by have hb := hbytes; simp only [Nat.zero_add] at hb; omega)
    rw [hr2] at hr
    injection hr with e1 e2
    subst e1; subst e2; exact .inr ⟨rfl, (below_drew w).trans ((Below.refl _ _).alloc (by simp) _)⟩
  · by_cases hroom : n + 1 ≤ cap
    · subst hsize
      have hr2 := run_append_room (P := P) w t ty e i ht hi g n cap cur hg a 1 c news (by omega) hnews h1 hroom (by rw [hl, hcs]; have := Nat.mul_le_mul_right i.size hroom; rw [Nat.add_mul] at this; omega)
      rw [hr2] at hr
      injection hr with e1 e2
      subst e1; exact .inl ⟨g, cap, rfl, rfl⟩
    · subst hsize; subst hby
      have hr2 := run_append_grow (P := P) w t ty e i z ht hi hz ⟨g, 0, none⟩ n cap xs hown.1 (hown.cells (g := g) rfl) a 1 c news (by omega) hnews (by omega) (by omega) (growslice_fits (by omega) hbytes)
      rw [hr2] at hr
      injection hr with e1 e2
      subst e1; subst e2; exact .inr ⟨rfl, (below_drew w).trans ((Below.refl _ _).alloc (by simp) _)⟩
theorem wpList_append_own3 {P : Program} {w : World} {ops : Array Oper} {rest : List Oper} {o : Oper} {a : Act} {Q : Exit → Act → World → Prop} (hgd : o.guard = none) (s x : Operand) (t : TypeId)
    (ho : o.op = .call { callee := .builtin .append, args := #[s, x], argTypes := #[t, t] })
    (base : Nat) (e : TypeId) (i : TypeInfo) (z : Value) (size bytes : Nat) (ht : P.underlying t = some (.slice e)) (hi : P.info? e = some i) (hz : i.zero = some z)
    (hsize : i.size = size) (hby : i.bytes = bytes) (hzs : z.cells.size = size) (hsz : 0 < size)
    (v : Value) (n : Nat) (xs : List Value) (hs : a.eval s = v) (hown : w.ownsRow base e size v n xs)
    (ad : Addr) (c : Nat) (news : List Value) (hx : a.eval x = .slice (some ad) 1 c) (hl : news.length = size) (hnews : ∀ j u, news[j]? = some u → w.cell? (ad.add j) = some u) (h1 : ∀ u ∈ news, u.oneCell' = true)
    (h63 : n + 1 ≤ maxLen) (hbytes : (n + 1) * bytes ≤ 140737488355328) (hbase : base ≤ w.heap.size)
    (h : ∀ v' w', w'.ownsRow base e size v' (n + 1) (xs ++ news) → w.grownBy w' v.ownBlock → Moved w v v' → Grew w w' v v' n → wpList P ops Q rest (a.put o.dst v') w') : wpList P ops Q (o :: rest) a w := by
  refine wpList_plain hgd fun _ hK => ?_
  obtain ⟨v', w', hr, h2, h3, h4, h5⟩ := run_append_own3 (P := P) w base t o.type e i z size bytes ht hi hz hsize hby hzs hsz v n xs hown ad c news hl hnews h1 h63 hbytes hbase
  unfold Oper.wp execOp
  simp only [ho, resolve, invoke, builtin, Sem.run_bind, Sem.run_pure, Result.andThen_ok, List.map_toArray, List.map_cons, List.map_nil, hs, hx, hr]
  exact hK _ _ (h v' w' h2 h3 h4 h5)
/-- A slice u of n elements beside a row g of m: apart, or its beginning. -/
def Twin (u g : Value) (n m : Nat) : Prop := Apart u g ∨ ∃ b c c', u = .slice (some ⟨b, 0, none⟩) n c ∧ g = .slice (some ⟨b, 0, none⟩) m c' ∧ n ≤ m
/-- A shorter slice reads as it did behind an append to the row. -/
theorem Twin.append {w w' : World} {base : Nat} {e : TypeId} {u v v' x : Value} {n m : Nat} {xs ys : List Value} (h : Twin u v n m) (hr : Rd w u n ys) (hy : ys.length = n) (hown : w.ownsRow base e 1 v m xs)
    (hown' : w'.ownsRow base e 1 v' (m + 1) (xs ++ [x])) (hg : w.grownBy w' v.ownBlock) (hgr : Grew w w' v v' m) (hu : ∀ k, u.ownBlock = some k → k < w.heap.size) : Twin u v' n (m + 1) ∧ Rd w' u n ys := by
  rcases hgr with ⟨b, c, rfl, rfl⟩ | ⟨hn, hb⟩
  · rcases h with h | ⟨b', c1, c2, rfl, e2, hnm⟩
    · refine ⟨.inl (fun k hk => by have := h k hk; simpa [Value.ownBlock] using this), hr.keep (fun k hk hl => hg.block k hl (fun e => h k hk e.symm))⟩
    · injection e2 with e3 e4 e5
      injection e3 with e3
      injection e3 with e3
      subst e3
      refine ⟨.inr ⟨_, c1, c, rfl, rfl, by omega⟩, ?_⟩
      obtain ⟨a0, cap0, h0, h1, h2, h3, h4⟩ := hr
      injection h0 with g1 g2 g3
      subst g1; subst g3
      refine ⟨_, _, rfl, h1, h2, h3, fun j hj => ?_⟩
      obtain ⟨b2, o2, g4, g5⟩ := h4 j hj
      injection g4 with g4
      injection g4 with g4 g6
      subst g4; subst g6
      refine ⟨_, 0, rfl, ?_⟩
      have hjm : j < m := by omega
      have hl : xs.length = m := by have := hown.1; omega
      have q1 := hown.cells (g := _) rfl j xs[j] (by simp [show j < xs.length by omega])
      have q2 := hown'.cells (g := _) rfl j xs[j] (by rw [List.getElem?_append_left (by omega)]; simp [show j < xs.length by omega])
      rw [Go.WideShapes.add_plain] at q1 q2
      rw [q2, ← q1, g5]
  · exact ⟨.inl (fun k hk e => by have := hu k hk; rw [hn] at e; injection e with e; omega), hr.below hb⟩
/-- A cell of an owned row is written. -/
theorem own_set {w : World} {base : Nat} {e : TypeId} {v : Value} {n : Nat} {xs : List Value} (h : w.ownsRow base e 1 v n xs) (i : Nat) (hi : i < n) (x : Value) :
    ∃ g cap, v = .slice (some ⟨g, 0, none⟩) n cap ∧ base ≤ g ∧ (∃ y, w.cell? ⟨g, i, none⟩ = some y) ∧ w.frozen? ⟨g, i, none⟩ = false ∧ (w.setCell ⟨g, i, none⟩ x).ownsRow base e 1 v n (xs.set i x) := by
  rcases h.2 with ⟨rfl, rfl⟩ | ⟨g, cap, cur, rfl, hbg, hg, hnc, hcm, hcs, htake⟩
  · omega
  · have hB : Box w g cur e := hg
    have hic : i < cur.size := by omega
    refine ⟨g, cap, rfl, hbg, ⟨cur[i], hB.cell i _ (by simp [hic])⟩, hB.free i, ?_, .inr ⟨g, cap, cur.setIfInBounds i x, rfl, hbg, hB.set i x, hnc, hcm, by simpa using hcs, ?_⟩⟩
    · simpa using h.1
    · rw [Array.toList_setIfInBounds, ← htake, List.take_set]
theorem own_len {w : World} {base : Nat} {e : TypeId} {v : Value} {n : Nat} {xs : List Value} (h : w.ownsRow base e 1 v n xs) : xs.length = n := by have := h.1; omega
theorem own_slice {w : World} {base : Nat} {e : TypeId} {size : Nat} {v : Value} {n : Nat} {xs : List Value} (h : w.ownsRow base e size v n xs) : ∃ a c, v = .slice a n c ∧ n ≤ 9223372036854775807 := by
  rcases h.2 with ⟨rfl, rfl⟩ | ⟨g, cap, cur, rfl, hbg, hg, hnc, hcm, hcs, htake⟩
  · exact ⟨_, _, rfl, by omega⟩
  · exact ⟨_, _, rfl, by unfold maxLen at hcm; omega⟩
/-- The marks of a list. -/
def marksOf (mk : Nat → Nat → Value) (k n : Nat) : List Value := (List.range n).map (mk k)
theorem marksOf_length (mk : Nat → Nat → Value) (k n : Nat) : (marksOf mk k n).length = n := by simp [marksOf]
theorem marksOf_succ (mk : Nat → Nat → Value) (k n : Nat) : marksOf mk k (n + 1) = marksOf mk k n ++ [mk k n] := by simp [marksOf, List.range_succ]
theorem marksOf_get (mk : Nat → Nat → Value) (k n i : Nat) (h : i < n) : (marksOf mk k n).getD i undef = mk k i := by simp [marksOf, List.getD, h]
/-- Rows that are handed in: their values, how many elements each has; where they begin; their elements' type. -/
structure Rows0 where
  N : Nat
  vs : Nat → Value
  ns : Nat → Nat
  B : Nat
  e : TypeId
/-- The first turn: the rows, of which the first k are written over, and i elements of the next one. -/
structure Turn1 (R : Rows0) (mk : Nat → Nat → Value) (lsv : Value) (w0 : World) (k i : Nat) (w : World) : Prop where
  own : ∃ xs : Nat → List Value, (∀ j, j < R.N → w.ownsRow R.B R.e 1 (R.vs j) (R.ns j) (xs j)) ∧ (∀ j, j < k → j < R.N → xs j = marksOf mk j (R.ns j)) ∧ (k < R.N → (xs k).take i = marksOf mk k i)
  apart : ∀ j j', j < R.N → j' < R.N → j ≠ j' → Apart (R.vs j) (R.vs j')
  ls : Rd w lsv R.N ((List.range R.N).map R.vs)
  lsa : ∀ j, j < R.N → Apart lsv (R.vs j)
  mod : Mod (fun b => R.B ≤ b) w0 w
theorem Turn1.drew {R : Rows0} {mk : Nat → Nat → Value} {lsv : Value} {w0 : World} {k i : Nat} {w : World} (h : Turn1 R mk lsv w0 k i w) : Turn1 R mk lsv w0 k i w.drew := by
  obtain ⟨⟨xs, h1, h2, h3⟩, h4, h5, h6, h7⟩ := h
  exact ⟨⟨xs, fun j hj => own_below (h1 j hj) (below_drew _), h2, h3⟩, h4, h5.drew, h6, h7.trans (Mod.drew _ _)⟩
theorem Turn1.row {R : Rows0} {mk : Nat → Nat → Value} {lsv : Value} {w0 : World} {k i : Nat} {w : World} (h : Turn1 R mk lsv w0 k i w) (hk : k < R.N) (hi : i < R.ns k) :
    ∃ g cap, R.vs k = .slice (some ⟨g, 0, none⟩) (R.ns k) cap ∧ (∃ y, w.cell? ⟨g, i, none⟩ = some y) ∧ w.frozen? ⟨g, i, none⟩ = false ∧ Turn1 R mk lsv w0 k (i + 1) (w.setCell ⟨g, i, none⟩ (mk k i)) := by
  obtain ⟨⟨xs, h1, h2, h3⟩, h4, h5, h6, h7⟩ := h
  obtain ⟨g, cap, e1, hb, hy, hf, hs⟩ := own_set (h1 k hk) i hi (mk k i)
  have hm : Mod (fun b => b = g) w (w.setCell ⟨g, i, none⟩ (mk k i)) := Mod.set (fun b => b = g) w ⟨g, i, none⟩ (mk k i) rfl
  have hl := own_len (h1 k hk)
  refine ⟨g, cap, e1, hy, hf, ⟨fun j => if j = k then (xs k).set i (mk k i) else xs j, fun j hj => ?_, fun j hj hj2 => ?_, fun _ => ?_⟩, h4, ?_, h6, h7.trans (hm.mono (fun _ hi => by subst hi; exact hb))⟩
  · dsimp only
    by_cases e : j = k
    · subst e; rw [if_pos rfl]; exact hs
    · rw [if_neg e]; exact own_mod (h1 j hj) hm (fun b hb e2 => h4 j k hj hk e b hb (by rw [e1, e2]; rfl))
  · dsimp only
    rw [if_neg (by omega)]; exact h2 j hj hj2
  · dsimp only
    rw [if_pos rfl, marksOf_succ, ← h3 hk, List.take_succ_eq_append_getElem (by simp; omega), List.take_set_of_le (Nat.le_refl _)]
    simp
  · exact h5.mod hm (fun b hb e2 => h6 k hk b hb (by rw [e1, e2]; rfl))
theorem Turn1.next {R : Rows0} {mk : Nat → Nat → Value} {lsv : Value} {w0 : World} {k : Nat} {w : World} (h : Turn1 R mk lsv w0 k (R.ns k) w) (hk : k < R.N) : Turn1 R mk lsv w0 (k + 1) 0 w := by
  obtain ⟨⟨xs, h1, h2, h3⟩, h4, h5, h6, h7⟩ := h
  refine ⟨⟨xs, h1, fun j hj hj2 => ?_, fun _ => rfl⟩, h4, h5, h6, h7⟩
  by_cases e : j = k
  · subst e
    have := h3 hk
    rw [List.take_of_length_le (by rw [own_len (h1 j hk)]; exact Nat.le_refl _)] at this
    exact this
  · exact h2 j (by omega) hj2
/-- The second turn: the first k rows have their marks behind; of the next one i. -/
structure Turn2 (R : Rows0) (mk : Nat → Nat → Value) (lsv : Value) (w0 : World) (E : TypeId) (k : Nat) (gsv : Value) (gl : List Value) (g : Value) (i : Nat) (w : World) : Prop where
  own : ∃ gv : Nat → Value, (∀ j, j < k → j < R.N → w.ownsRow R.B R.e 1 (gv j) (R.ns j + 64) (marksOf mk j (R.ns j + 64))) ∧ (∀ j, k < j → j < R.N → gv j = R.vs j ∧ w.ownsRow R.B R.e 1 (gv j) (R.ns j) (marksOf mk j (R.ns j))) ∧
    (k < R.N → gv k = g ∧ w.ownsRow R.B R.e 1 g (R.ns k + i) (marksOf mk k (R.ns k + i)) ∧ Twin (R.vs k) g (R.ns k) (R.ns k + i)) ∧ (∀ j j', j < R.N → j' < R.N → j ≠ j' → Apart (gv j) (gv j') ∧ Apart (R.vs j) (gv j')) ∧
    (∀ j, j < R.N → Apart lsv (gv j) ∧ Apart gsv (gv j)) ∧ gl = (List.range (min k R.N)).map gv
  rd : ∀ j, j < R.N → Rd w (R.vs j) (R.ns j) (marksOf mk j (R.ns j))
  lt : ∀ j, j < R.N → ∀ b, (R.vs j).ownBlock = some b → b < w.heap.size
  ls : Rd w lsv R.N ((List.range R.N).map R.vs)
  lsl : ∀ b, lsv.ownBlock = some b → b < w.heap.size
  gs : w.ownsRow R.B E 1 gsv (min k R.N) gl
  gsa : Apart lsv gsv ∧ ∀ j, j < R.N → Apart (R.vs j) gsv
  mod : Mod (fun b => R.B ≤ b) w0 w
  le : R.B ≤ w.heap.size
/-- When all rows are written. -/
theorem Turn1.two {R : Rows0} {mk : Nat → Nat → Value} {lsv : Value} {w0 : World} {w : World} {E : TypeId} (h : Turn1 R mk lsv w0 R.N 0 w) (hl : ∀ b, lsv.ownBlock = some b → b < w.heap.size) (hB : R.B ≤ w.heap.size) :
    Turn2 R mk lsv w0 E 0 (.slice none 0 0) [] (R.vs 0) 0 w := by
  obtain ⟨⟨xs, h1, h2, h3⟩, h4, h5, h6, h7⟩ := h
  have ho : ∀ j, j < R.N → w.ownsRow R.B R.e 1 (R.vs j) (R.ns j) (marksOf mk j (R.ns j)) := fun j hj => by
    have := h1 j hj
    rwa [h2 j hj hj] at this
  refine ⟨⟨R.vs, fun j hj _ => by omega, fun j _ hj => ⟨rfl, ho j hj⟩, fun h0 => ⟨rfl, ho 0 h0, ?_⟩, fun j j' hj hj' hne => ⟨h4 j j' hj hj' hne, h4 j j' hj hj' hne⟩, fun j hj => ⟨h6 j hj, nil_apart _⟩, by simp⟩,
    fun j hj => rd_of_own (ho j hj), fun j hj b hb => ((ho j hj).lt b hb).2, h5, hl, ?_, ⟨apart_nil _, fun j _ => apart_nil _⟩, h7, hB⟩
  · rcases (ho 0 h0).2 with ⟨e, _⟩ | ⟨g, cap, cur, e, _⟩
    · rw [e]; exact .inl (nil_apart _)
    · rw [e]; exact .inr ⟨g, cap, cap, rfl, rfl, by omega⟩
  · rw [Nat.zero_min]; exact World.ownsRow_nil _ _ _ _
/-- Something else is made. -/
theorem Turn2.below {R : Rows0} {mk : Nat → Nat → Value} {lsv : Value} {w0 : World} {E : TypeId} {k i : Nat} {gsv g : Value} {gl : List Value} {w w' : World} (h : Turn2 R mk lsv w0 E k gsv gl g i w) (hb : Below w.heap.size w w') : Turn2 R mk lsv w0 E k gsv gl g i w' := by
  obtain ⟨⟨gv, h1, h2, h3, h4, h5, h6⟩, k1, k2, k3, k4, k5, k6, k7, k8⟩ := h
  exact ⟨⟨gv, fun j a b => own_below (h1 j a b) hb, fun j a b => ⟨(h2 j a b).1, own_below (h2 j a b).2 hb⟩, fun a => ⟨(h3 a).1, own_below (h3 a).2.1 hb, (h3 a).2.2⟩, h4, h5, h6⟩, fun j hj => (k1 j hj).below hb,
    fun j hj b hb2 => Nat.lt_of_lt_of_le (k2 j hj b hb2) hb.size, k3.below hb, fun b hb2 => Nat.lt_of_lt_of_le (k4 b hb2) hb.size, own_below k5 hb, k6, k7.then (Mod.of_below (F := fun _ => False) hb) (fun _ h => h.elim), Nat.le_trans k8 hb.size⟩
/-- A mark more behind the row at hand. -/
theorem Turn2.step {R : Rows0} {mk : Nat → Nat → Value} {lsv : Value} {w0 : World} {E : TypeId} {k i : Nat} {gsv g g' : Value} {gl : List Value} {w w' : World} (h : Turn2 R mk lsv w0 E k gsv gl g i w) (hk : k < R.N)
    (hown' : w'.ownsRow R.B R.e 1 g' (R.ns k + i + 1) (marksOf mk k (R.ns k + i) ++ [mk k (R.ns k + i)])) (hg : w.grownBy w' g.ownBlock) (hm : Moved w g g') (hgr : Grew w w' g g' (R.ns k + i)) : Turn2 R mk lsv w0 E k gsv gl g' (i + 1) w' := by
  obtain ⟨⟨gv, h1, h2, h3, h4, h5, h6⟩, k1, k2, k3, k4, k5, k6, k7, k8⟩ := h
  obtain ⟨e0, ho, ht⟩ := h3 hk
  have hglt := fun j (hj : j < R.N) (hjk : j ≠ k) => (show ∀ b, (gv j).ownBlock = some b → b < w.heap.size from fun b hb => by
    rcases Nat.lt_or_gt_of_ne hjk with hlt | hlt
    · exact ((h1 j hlt hj).lt b hb).2
    · exact ((h2 j hlt hj).2.lt b hb).2)
  have hT := ht.append (k1 k hk) (marksOf_length _ _ _) ho hown' hg hgr (k2 k hk)
  rw [← marksOf_succ] at hown'
  refine ⟨⟨fun j => if j = k then g' else gv j, fun j a b => ?_, fun j a b => ?_, fun a => ⟨if_pos rfl, hown', hT.1⟩, fun j j' hj hj' hne => ?_, fun j hj => ?_, ?_⟩, fun j hj => ?_, fun j hj b hb => Nat.lt_of_lt_of_le (k2 j hj b hb) hg.size,
    k3.keep (fun b hb hl => hg.block b hl (fun e => (h5 k hk).1 b hb (by rw [e0]; exact e.symm))), fun b hb => Nat.lt_of_lt_of_le (k4 b hb) hg.size, own_other k5 hg (by rw [← e0]; exact (h5 k hk).2), k6,
    k7.then (Mod.of_grown hg (F := fun b => R.B ≤ b) (fun b hb => (ho.lt b hb).1)) (fun b hb => .inl hb), Nat.le_trans k8 hg.size⟩
  · show w'.ownsRow R.B R.e 1 (if j = k then g' else gv j) _ _
    rw [if_neg (by omega)]; exact own_other (h1 j a b) hg (by rw [← e0]; exact (h4 j k b hk (by omega)).1)
  · show (if j = k then g' else gv j) = _ ∧ w'.ownsRow R.B R.e 1 (if j = k then g' else gv j) _ _
    rw [if_neg (by omega)]; exact ⟨(h2 j a b).1, own_other (h2 j a b).2 hg (by rw [← e0]; exact (h4 j k b hk (by omega)).1)⟩
  · show Apart (if j = k then g' else gv j) (if j' = k then g' else gv j') ∧ Apart (R.vs j) (if j' = k then g' else gv j')
    by_cases ej : j = k
    · subst ej
      rw [if_pos rfl, if_neg (by omega)]
      have h := h4 j j' hj hj' hne
      refine ⟨?_, h.2⟩
      have h' := h.1.symm
      rw [e0] at h'
      exact (h'.moved hm (hglt j' hj' (by omega))).symm
    · rw [if_neg ej]
      by_cases ej' : j' = k
      · subst ej'
        rw [if_pos rfl]
        have h := h4 j j' hj hj' hne
        rw [e0] at h
        exact ⟨h.1.moved hm (hglt j hj ej), h.2.moved hm (k2 j hj)⟩
      · rw [if_neg ej']; exact h4 j j' hj hj' hne
  · show Apart lsv (if j = k then g' else gv j) ∧ Apart gsv (if j = k then g' else gv j)
    by_cases ej : j = k
    · subst ej
      rw [if_pos rfl]
      have h := h5 j hj
      rw [e0] at h
      exact ⟨h.1.moved hm k4, h.2.moved hm (fun b hb => (k5.lt b hb).2)⟩
    · rw [if_neg ej]; exact h5 j hj
  · rw [h6]
    refine List.map_congr_left fun j hj => ?_
    simp only [List.mem_range] at hj
    rw [if_neg (by omega)]
  · by_cases ej : j = k
    · subst ej; exact hT.2
    · exact (k1 j hj).keep (fun b hb hl => hg.block b hl (fun e => (h4 j k hj hk ej).2 b hb (by rw [e0]; exact e.symm)))
/-- The row goes among those that are held. -/
theorem Turn2.next {R : Rows0} {mk : Nat → Nat → Value} {lsv : Value} {w0 : World} {E : TypeId} {k : Nat} {gsv g gsv' : Value} {gl : List Value} {w w' : World} (h : Turn2 R mk lsv w0 E k gsv gl g 64 w) (hk : k < R.N)
    (hown' : w'.ownsRow R.B E 1 gsv' (k + 1) (gl ++ [g])) (hg : w.grownBy w' gsv.ownBlock) (hm : Moved w gsv gsv') : Turn2 R mk lsv w0 E (k + 1) gsv' (gl ++ [g]) (R.vs (k + 1)) 0 w' := by
  obtain ⟨⟨gv, h1, h2, h3, h4, h5, h6⟩, k1, k2, k3, k4, k5, k6, k7, k8⟩ := h
  obtain ⟨e0, ho, ht⟩ := h3 hk
  have hglt := fun j (hj : j < R.N) => (show ∀ b, (gv j).ownBlock = some b → b < w.heap.size from fun b hb => by
    rcases Nat.lt_trichotomy j k with hlt | rfl | hlt
    · exact ((h1 j hlt hj).lt b hb).2
    · rw [e0] at hb; exact (ho.lt b hb).2
    · exact ((h2 j hlt hj).2.lt b hb).2)
  refine ⟨⟨gv, fun j a b => ?_, fun j a b => ⟨(h2 j (by omega) b).1, own_other (h2 j (by omega) b).2 hg (h5 j b).2.symm⟩, fun a => ⟨(h2 _ (by omega) a).1, ?_, ?_⟩, h4, fun j hj => ⟨(h5 j hj).1, ((h5 j hj).2.symm.moved hm (hglt j hj)).symm⟩, ?_⟩,
    fun j hj => (k1 j hj).keep (fun b hb hl => hg.block b hl (fun e => k6.2 j hj b hb e.symm)), fun j hj b hb => Nat.lt_of_lt_of_le (k2 j hj b hb) hg.size,
    k3.keep (fun b hb hl => hg.block b hl (fun e => k6.1 b hb e.symm)), fun b hb => Nat.lt_of_lt_of_le (k4 b hb) hg.size, by rw [show min (k + 1) R.N = k + 1 by omega]; exact hown', ⟨k6.1.moved hm k4, fun j hj => (k6.2 j hj).moved hm (k2 j hj)⟩,
    k7.then (Mod.of_grown hg (F := fun b => R.B ≤ b) (fun b hb => (k5.lt b hb).1)) (fun b hb => .inl hb), Nat.le_trans k8 hg.size⟩
  · by_cases ej : j = k
    · subst ej; rw [e0]; exact own_other ho hg (by rw [← e0]; exact (h5 j b).2.symm)
    · exact own_other (h1 j (by omega) b) hg (h5 j b).2.symm
  · have h := h2 (k + 1) (by omega) a
    rw [h.1] at h
    exact own_other h.2 hg (by have := (h5 (k + 1) a).2.symm; rwa [(h2 (k + 1) (by omega) a).1] at this)
  · have h := h2 (k + 1) (by omega) a
    rw [h.1] at h
    rcases h.2.2 with ⟨e, _⟩ | ⟨g, cap, cur, e, _⟩
    · rw [e]; exact .inl (nil_apart _)
    · rw [e]; exact .inr ⟨g, cap, cap, rfl, rfl, by omega⟩
  · rw [h6, show min k R.N = k by omega, show min (k + 1) R.N = k + 1 by omega, List.range_succ, List.map_append]; simp [e0]
/-- What the third turn reads. -/
structure Turn3 (R : Rows0) (mk : Nat → Nat → Value) (lsv gsv : Value) (gl : List Value) (w : World) : Prop where
  ls : Rd w lsv R.N ((List.range R.N).map R.vs)
  gs : Rd w gsv R.N gl
  len : gl.length = R.N
  rd : ∀ j, j < R.N → Rd w (R.vs j) (R.ns j) (marksOf mk j (R.ns j))
  gd : ∀ j, j < R.N → Rd w (gl.getD j undef) (R.ns j + 64) (marksOf mk j (R.ns j + 64))
theorem Turn2.three {R : Rows0} {mk : Nat → Nat → Value} {lsv : Value} {w0 : World} {E : TypeId} {gsv g : Value} {gl : List Value} {w : World} {i : Nat} (h : Turn2 R mk lsv w0 E R.N gsv gl g i w) : Turn3 R mk lsv gsv gl w := by
  obtain ⟨⟨gv, h1, h2, h3, h4, h5, h6⟩, k1, k2, k3, k4, k5, k6, k7⟩ := h
  rw [Nat.min_self] at h6 k5
  refine ⟨k3, rd_of_own k5, by rw [h6]; simp, k1, fun j hj => ?_⟩
  have : gl.getD j undef = gv j := by rw [h6]; simp [List.getD, hj]
  rw [this]; exact rd_of_own (h1 j hj hj)
theorem Turn3.below {R : Rows0} {mk : Nat → Nat → Value} {lsv gsv : Value} {gl : List Value} {w w' : World} (h : Turn3 R mk lsv gsv gl w) (hb : Below w.heap.size w w') : Turn3 R mk lsv gsv gl w' :=
  ⟨h.ls.below hb, h.gs.below hb, h.len, fun j hj => (h.rd j hj).below hb, fun j hj => (h.gd j hj).below hb⟩
theorem Turn3.drew {R : Rows0} {mk : Nat → Nat → Value} {lsv gsv : Value} {gl : List Value} {w : World} (h : Turn3 R mk lsv gsv gl w) : Turn3 R mk lsv gsv gl w.drew := h.below (below_drew _)
/-- A read of a slice's element: the address and the cell. -/
theorem Rd.at {w : World} {v : Value} {n : Nat} {xs : List Value} (h : Rd w v n xs) (i : Nat) (hi : i < xs.length) : ∃ b off cap, v = .slice (some ⟨b, off, none⟩) n cap ∧ w.cell? ⟨b, off + i, none⟩ = some (xs.getD i undef) := by
  obtain ⟨a, cap, rfl, h1, h2, h3, h4⟩ := h
  obtain ⟨b, off, rfl, h5⟩ := h4 i hi
  exact ⟨b, off, cap, rfl, h5⟩
end Go.Proofs.YtjoadcgegobjpaaDoor
/-
  Rows of one-cell elements that are owned, of which a mark behind their cells may stand (what '[]byte(s)' makes).
-/
namespace Go.Proofs.YtjoadcgegobjpaaDoor
open Go.RowKit

def OwnM (w : World) (base : Nat) (e : TypeId) (v : Value) (n : Nat) (xs : List Value) : Prop :=
  xs.length = n ∧ ((v = .slice none 0 0 ∧ n = 0) ∨
   ∃ g cap cur fz, v = .slice (some ⟨g, 0, none⟩) n cap ∧ base ≤ g ∧ w.heap[g]? = some (.cells cur e fz) ∧ (fz = (0, 0) ∨ cur.size ≤ fz.1) ∧ n ≤ cap ∧ cap ≤ maxLen ∧ cap ≤ cur.size ∧ cur.toList.take n = xs)
section
variable {w : World} {base : Nat} {e : TypeId} {v : Value} {n : Nat} {xs : List Value}
theorem OwnM.of_own (h : w.ownsRow base e 1 v n xs) : OwnM w base e v n xs := by
  refine ⟨by have := h.1; omega, ?_⟩
  rcases h.2 with hn | ⟨g, cap, cur, hv, hb, hg, h1, h2, h3, h4⟩
  · exact .inl hn
  · exact .inr ⟨g, cap, cur, (0, 0), hv, hb, hg, .inl rfl, h1, h2, by omega, by rw [← h4, Nat.mul_one]⟩
theorem OwnM.nil (w : World) (base : Nat) (e : TypeId) : OwnM w base e (.slice none 0 0) 0 [] := ⟨rfl, .inl ⟨rfl, rfl⟩⟩
theorem OwnM.len (h : OwnM w base e v n xs) : xs.length = n := h.1
theorem OwnM.lt (h : OwnM w base e v n xs) : ∀ k, v.ownBlock = some k → base ≤ k ∧ k < w.heap.size := by
  intro k hk
  rcases h.2 with ⟨rfl, _⟩ | ⟨g, cap, cur, fz, rfl, hb, hg, _⟩
  · simp [Value.ownBlock] at hk
  · simp [Value.ownBlock] at hk
    subst hk
    exact ⟨hb, (Array.getElem?_eq_some_iff.1 hg).1⟩
theorem OwnM.keep {w' : World} (h : OwnM w base e v n xs) (hb : ∀ k, v.ownBlock = some k → k < w.heap.size → w'.heap[k]? = w.heap[k]?) : OwnM w' base e v n xs := by
  refine ⟨h.1, ?_⟩
  rcases h.2 with hn | ⟨g, cap, cur, fz, rfl, hbg, hg, rest⟩
  · exact .inl hn
  · exact .inr ⟨g, cap, cur, fz, rfl, hbg, by rw [hb g rfl (Array.getElem?_eq_some_iff.1 hg).1]; exact hg, rest⟩
theorem OwnM.below {w' : World} (h : OwnM w base e v n xs) (hb : Below w.heap.size w w') : OwnM w' base e v n xs := h.keep (fun k _ hl => hb.block k hl)
theorem OwnM.lower {base' : Nat} (h : OwnM w base e v n xs) (hb : base' ≤ base) : OwnM w base' e v n xs := by
  refine ⟨h.1, ?_⟩
  rcases h.2 with hn | ⟨g, cap, cur, fz, rfl, hbg, rest⟩
  · exact .inl hn
  · exact .inr ⟨g, cap, cur, fz, rfl, by omega, rest⟩
theorem OwnM.other {w' : World} {u : Value} (h : OwnM w base e v n xs) (hg : w.grownBy w' u.ownBlock) (ha : Apart v u) : OwnM w' base e v n xs :=
  h.keep (fun k hk hl => hg.block k hl (fun e => ha k hk e.symm))
theorem OwnM.mod {w' : World} {F : Nat → Prop} (h : OwnM w base e v n xs) (hm : Mod F w w') (hb : ∀ k, v.ownBlock = some k → ¬ F k) : OwnM w' base e v n xs :=
  h.keep (fun k hk hl => hm.block k hl (hb k hk))
theorem OwnM.rd (h : OwnM w base e v n xs) : Rd w v n xs := by
  obtain ⟨h0, h⟩ := h
  rcases h with ⟨rfl, rfl⟩ | ⟨g, cap, cur, fz, rfl, hb, hg, hf, hn, hc, hs, ht⟩
  · have : xs = [] := List.eq_nil_of_length_eq_zero h0
    subst this; exact Rd.nil w
  · refine ⟨_, cap, rfl, hn, by unfold maxLen at hc; omega, (fun h => by cases h), fun j hj => ⟨g, 0, rfl, ?_⟩⟩
    have hc2 : w.cell? ⟨g, 0 + j, none⟩ = cur[0 + j]? := cell_of_row w g (0 + j) cur e fz hg
    rw [hc2, Nat.zero_add, ← ht, List.getD, List.getElem?_take, if_pos (by omega)]
    have : j < cur.size := by omega
    simp [Array.getElem?_eq_getElem this]
theorem OwnM.slice (h : OwnM w base e v n xs) : ∃ a c, v = .slice a n c ∧ n ≤ 9223372036854775807 := by
  rcases h.2 with ⟨rfl, rfl⟩ | ⟨g, cap, cur, fz, rfl, hbg, hg, hf, hnc, hcm, hcs, htake⟩
  · exact ⟨_, _, rfl, by omega⟩
  · exact ⟨_, _, rfl, by unfold maxLen at hcm; omega⟩
theorem OwnM.cells (h : OwnM w base e v n xs) {g : Nat} (hg : v.ownBlock = some g) : ∀ j u, xs[j]? = some u → w.cell? ((⟨g, 0, none⟩ : Addr).add j) = some u := by
  intro j u hu
  rcases h.2 with ⟨rfl, _⟩ | ⟨g', cap, cur, fz, rfl, _, hgg, _, _, _, _, htake⟩
  · simp [Value.ownBlock] at hg
  · simp [Value.ownBlock] at hg
    subst hg
    have hadd : (⟨g', 0, none⟩ : Addr).add j = ⟨g', j, none⟩ := by unfold Addr.add; split <;> simp_all
    rw [hadd, cell_of_row w g' j cur e fz hgg]
    rw [← htake, List.getElem?_take] at hu
    split at hu
    · simpa using hu
    · cases hu
/-- What is not marked may be written. -/
theorem unfrozen {w : World} {g : Nat} {cur : Array Value} {e : TypeId} {fz : Nat × Nat} (hg : w.heap[g]? = some (.cells cur e fz)) (hf : fz = (0, 0) ∨ cur.size ≤ fz.1) (j : Nat) (hj : j < cur.size) : w.frozen? ⟨g, j, none⟩ = false := by
  obtain ⟨lo, hi⟩ := fz
  simp only [World.frozen?, hg, Bool.and_eq_false_iff, decide_eq_false_iff_not]
  rcases hf with hf | hf
  · simp only [Prod.mk.injEq] at hf; obtain ⟨rfl, rfl⟩ := hf; right; omega
  · left; simp only at hf; omega
theorem setM (w : World) (g i : Nat) (cur : Array Value) (e : TypeId) (fz : Nat × Nat) (x : Value) (hg : w.heap[g]? = some (.cells cur e fz)) : (w.setCell ⟨g, i, none⟩ x).heap[g]? = some (.cells (cur.setIfInBounds i x) e fz) := by
  simp only [World.setCell, Array.getElem?_modify, if_true, hg]; rfl
theorem setCellsM (g : Nat) (e : TypeId) (fz : Nat × Nat) : ∀ (vs : List Value) (o : Nat) (w : World) (cur : Array Value), w.heap[g]? = some (.cells cur e fz) → o + vs.length ≤ cur.size →
    ∃ cur', (w.setCells g o vs).heap[g]? = some (.cells cur' e fz) ∧ cur'.size = cur.size ∧ (∀ j v, vs[j]? = some v → cur'[o + j]? = some v) ∧ ∀ j, j < o ∨ o + vs.length ≤ j → cur'[j]? = cur[j]?
  | [], o, w, cur, h, hl => ⟨cur, h, rfl, fun j v hv => by simp at hv, fun _ _ => rfl⟩
  | x :: r, o, w, cur, h, hl => by
    simp only [List.length_cons] at hl
    obtain ⟨cur', h1, h2, h3, h4⟩ := setCellsM g e fz r (o + 1) (w.setCell ⟨g, o, none⟩ x) (cur.setIfInBounds o x) (setM w g o cur e fz x h) (by simp; omega)
    rw [World.setCells]
    refine ⟨cur', h1, by simpa using h2, fun j v hv => ?_, fun j hj => ?_⟩
    · cases j with
      | zero =>
        rw [Nat.add_zero, h4 o (by omega)]
        simp at hv
        subst hv
        simp [show o < cur.size by omega]
      | succ j =>
        have := h3 j v (by simpa using hv)
        rw [show o + (j + 1) = o + 1 + j by omega]; exact this
    · simp only [List.length_cons] at hj
      rw [h4 j (by omega)]
      simp [show o ≠ j by omega]
theorem modCells (F : Nat → Prop) (b : Nat) (hb : F b) : ∀ (vs : List Value) (o : Nat) (w : World), Mod F w (w.setCells b o vs)
  | [], _, _ => Mod.refl _ _
  | v :: r, o, w => (Mod.set F w ⟨b, o, none⟩ v hb).trans (modCells F b hb r (o + 1) _)
/-- A cell of an owned row is written. -/
theorem OwnM.set (h : OwnM w base e v n xs) (i : Nat) (hi : i < n) (x : Value) :
    ∃ g cap, v = .slice (some ⟨g, 0, none⟩) n cap ∧ base ≤ g ∧ (∃ y, w.cell? ⟨g, i, none⟩ = some y) ∧ w.frozen? ⟨g, i, none⟩ = false ∧ OwnM (w.setCell ⟨g, i, none⟩ x) base e v n (xs.set i x) := by
  rcases h.2 with ⟨rfl, rfl⟩ | ⟨g, cap, cur, fz, rfl, hbg, hg, hf, hnc, hcm, hcs, htake⟩
  · omega
  · have hic : i < cur.size := by omega
    refine ⟨g, cap, rfl, hbg, ⟨cur[i], ?_⟩, unfrozen hg hf i hic, by simpa using h.1, .inr ⟨g, cap, cur.setIfInBounds i x, fz, rfl, hbg, setM w g i cur e fz x hg, by simpa using hf, hnc, hcm, by simpa using hcs, ?_⟩⟩
    · rw [cell_of_row w g i cur e fz hg]; simp [hic]
    · rw [Array.toList_setIfInBounds, ← htake, List.take_set]
end
/-- Behind an append: the same row, or a new one while all else stays. -/
def GrewM (w w' : World) (v v' : Value) (n m : Nat) : Prop :=
  (∃ b c, v = .slice (some ⟨b, 0, none⟩) n c ∧ v' = .slice (some ⟨b, 0, none⟩) (n + m) c) ∨ (v'.ownBlock = some w.heap.size ∧ Below w.heap.size w w') ∨ (v' = v ∧ w' = w)
theorem run_append_M {P : Program} (w : World) (base : Nat) (t t2 ty e : TypeId) (d : TypeDesc) (i : TypeInfo) (z : Value) (bytes : Nat) (ht : P.underlying t = some (.slice e)) (ht2 : P.underlying t2 = some d) (hd : (∃ e2, d = .slice e2) ∨ d = .string)
    (hi : P.info? e = some i) (hz : i.zero = some z) (hsize : i.size = 1) (hby : i.bytes = bytes) (hzs : z.cells.size = 1)
    (v : Value) (n : Nat) (xs : List Value) (hown : OwnM w base e v n xs)
    (x : Value) (m : Nat) (news : List Value) (hl : news.length = m) (hlen : ∀ w : World, (Builtin.lenOf x).run P w = .ok m w) (hfc : ∀ wd : World, (∀ a, wd.cell? a = w.cell? a) → (Builtin.firstCells 1 m x).run P wd = .ok news.toArray wd) (h1 : ∀ u ∈ news, u.oneCell' = true)
    (h63 : n + m ≤ maxLen) (hbytes : (n + m) * bytes ≤ 140737488355328) (hbase : base ≤ w.heap.size) :
    ∃ v' w', (Builtin.append_ #[t, t2] ty #[v, x]).run P w = .ok v' w' ∧ OwnM w' base e v' (n + m) (xs ++ news) ∧ w.grownBy w' v.ownBlock ∧ Moved w v v' ∧ GrewM w w' v v' n m := by
  rcases hd with ⟨e2, rfl⟩ | rfl
  all_goals
    have hsmall : n + m ≤ 9223372036854775807 := by simp only [maxLen] at h63; omega
    have hf0 := hfc w (fun _ => rfl)
    have hf1 := hfc w.drew (fun _ => rfl)
    have hge := grownCap_ge w (n + m)
    rcases hown.2 with ⟨rfl, rfl⟩ | ⟨g, cap, cur, fz, rfl, hbg, hg, hf, hnc, hcm, hcs, htake⟩
    · have hx0 : xs = [] := List.eq_nil_of_length_eq_zero hown.1
      subst hx0
      by_cases hm : m = 0
      · subst hm
        have hn0 : news = [] := List.eq_nil_of_length_eq_zero hl
        subst hn0
        refine ⟨.slice none 0 0, w, ?_, OwnM.nil _ _ _, grown_refl _ _, .inl rfl, .inr (.inr ⟨rfl, rfl⟩)⟩
        simp [Builtin.append_, run_underlying ht, run_underlying ht2, sizeOf, typeInfo, hi, hsize, hlen, hf0]
      · have hn : ¬ (m = 0) := hm
        have h63' : ¬ (9223372036854775807 < (m : Int)) := by omega
        have h48' : ¬ (281474976710656 < Builtin.nextslicecap m 0 * bytes) := by rw [nextslicecap_zero (by omega)]; simp only [Nat.zero_add] at hbytes; omega
        have hr : (Builtin.append_ #[t, t2] ty #[.slice none 0 0, x]).run P w = .ok (.slice (some ⟨w.heap.size, 0, none⟩) m (grownCap w m 0 e)) (w.drew.alloc (.cells (news.toArray ++ Builtin.zeroCells z.cells (grownCap w m 0 e - m)) e)) := by
          simp [Builtin.append_, run_underlying ht, run_underlying ht2, sizeOf, typeInfo, zeroValue, hi, hz, hsize, hby, hlen, hn, h63', h48', Question.forced, run_firstCells_none, hf1, newRow, grownCap]
        have hc := grownCap_le_maxLen w m 0 e (by simpa using h63)
        have hg2 := grownCap_ge w m 0 e
        refine ⟨_, _, hr, ⟨by simpa using hl, .inr ⟨w.heap.size, _, _, (0, 0), by rw [Nat.zero_add], hbase, heap_alloc_new w.drew _, .inl rfl, by omega, hc, ?_, ?_⟩⟩, ⟨rfl, rfl, rfl, by simp, fun k hk _ => Below.heap_alloc w.drew _ k hk⟩, .inr rfl, .inr (.inl ⟨rfl, (below_drew w).trans ((Below.refl _ _).alloc (by simp) _)⟩)⟩
        · simp only [Array.size_append, List.size_toArray, size_zeroCells, hzs, hl]; omega
        · rw [Array.toList_append, Nat.zero_add, List.nil_append, ← hl]; exact List.take_left
    · by_cases hroom : n + m ≤ cap
      · have hst := run_storeCells_cells (P := P) g n news 0 w (fun j hj => by rw [Nat.add_zero, cell_of_row w g (n + j) cur e fz hg]; simp; omega) (fun j hj => by rw [Nat.add_zero]; exact unfrozen hg hf (n + j) (by omega)) h1
        simp only [Nat.add_zero] at hst
        have hr : (Builtin.append_ #[t, t2] ty #[.slice (some ⟨g, 0, none⟩) n cap, x]).run P w = .ok (.slice (some ⟨g, 0, none⟩) (n + m) cap) (w.setCells g n news) := by
          simp [Builtin.append_, run_underlying ht, run_underlying ht2, sizeOf, typeInfo, hi, hsize, hlen, hroom, hf0, Addr.add_lit, hst]
        obtain ⟨cur', k1, k2, k3, k4⟩ := setCellsM g e fz news n w cur hg (by omega)
        have hmod := modCells (fun q => q = g) g rfl news n w
        refine ⟨_, _, hr, ⟨by rw [List.length_append, hown.1, hl], .inr ⟨g, cap, cur', fz, rfl, hbg, k1, by rw [k2]; exact hf, hroom, hcm, by omega, ?_⟩⟩, ⟨hmod.os, hmod.tape, hmod.output, hmod.size, fun k hk hne => hmod.block k hk (fun e => hne (by rw [e]; rfl))⟩, .inl rfl, .inl ⟨g, cap, rfl, rfl⟩⟩
        apply List.ext_getElem?
        intro j
        rw [List.getElem?_take]
        by_cases hj : j < n + m
        · rw [if_pos hj, Array.getElem?_toList]
          by_cases hjn : j < n
          · rw [k4 j (.inl hjn), List.getElem?_append_left (by rw [hown.1]; exact hjn), ← htake, List.getElem?_take, if_pos hjn, Array.getElem?_toList]
          · have hjl : j - n < news.length := by omega
            have := k3 (j - n) news[j - n] (by simp [hjl])
            rw [show n + (j - n) = j by omega] at this
            rw [this, List.getElem?_append_right (by rw [hown.1]; omega), hown.1]; simp [hjl]
        · rw [if_neg hj, List.getElem?_eq_none (by rw [List.length_append, hown.1]; omega)]
      · have holds : ∀ j u, xs[j]? = some u → w.cell? ((⟨g, 0, none⟩ : Addr).add j) = some u := hown.cells (g := g) rfl
        have hfo := run_firstCells_some (P := P) w.drew 1 n ⟨g, 0, none⟩ n cap xs (by rw [hown.1]; omega) (by simpa using holds)
        have h63' : ¬ (9223372036854775807 < ((n : Int) + (m : Int))) := by omega
        have h48' : ¬ (281474976710656 < Builtin.nextslicecap (n + m) cap * bytes) := by have := growslice_fits (need := n + m) (old := cap) (bytes := bytes) (by omega) hbytes; omega
        have hr : (Builtin.append_ #[t, t2] ty #[.slice (some ⟨g, 0, none⟩) n cap, x]).run P w = .ok (.slice (some ⟨w.heap.size, 0, none⟩) (n + m) (grownCap w (n + m) cap e)) (w.drew.alloc (.cells (xs.toArray ++ news.toArray ++ Builtin.zeroCells z.cells (grownCap w (n + m) cap e - (n + m))) e)) := by
          simp [Builtin.append_, run_underlying ht, run_underlying ht2, sizeOf, typeInfo, zeroValue, hi, hz, hsize, hby, hlen, hroom, h63', h48', Question.forced, hf1, hfo, newRow, grownCap]
          congr 2
          apply Array.ext'
          simp [List.append_assoc]
        have hc := grownCap_le_maxLen w (n + m) cap e h63
        have hg2 := grownCap_ge w (n + m) cap e
        refine ⟨_, _, hr, ⟨by rw [List.length_append, hown.1, hl], .inr ⟨w.heap.size, _, _, (0, 0), rfl, hbase, heap_alloc_new w.drew _, .inl rfl, hg2, hc, ?_, ?_⟩⟩, ⟨rfl, rfl, rfl, by simp, fun k hk _ => Below.heap_alloc w.drew _ k hk⟩, .inr rfl, .inr (.inl ⟨rfl, (below_drew w).trans ((Below.refl _ _).alloc (by simp) _)⟩)⟩
        · simp only [Array.size_append, List.size_toArray, size_zeroCells, hzs, hl, hown.1]; omega
        · have hll : (xs ++ news).length = n + m := by rw [List.length_append, hown.1, hl]
          rw [Array.toList_append, Array.toList_append, ← hll]; exact List.take_left
end Go.Proofs.YtjoadcgegobjpaaDoor
/-
  Strings as lists of bytes: conversions and appends.
-/
namespace Go.Proofs.YtjoadcgegobjpaaDoor
open Go.RowKit

def SB (l : List UInt8) : ByteArray := ⟨l.toArray⟩
def SV (l : List UInt8) : Value := .string (SB l)
@[simp] theorem SB_size (l : List UInt8) : (SB l).size = l.length := by simp [SB, ByteArray.size]
theorem SB_data (l : List UInt8) : (SB l).data.toList = l := by simp [SB]
theorem SB_get (l : List UInt8) (i : Nat) (h : i < (SB l).size) : (SB l)[i]'h = l.getD i 0 := by
  have h' : i < l.length := by simpa using h
  show (SB l).data[i]'_ = _
  simp [SB, List.getD, h']
theorem SB_ext {a b : ByteArray} (h : a.data.toList = b.data.toList) : a = b := by
  cases a; cases b; simp only [ByteArray.mk.injEq] at *; exact Array.ext' h
theorem SB_inj {a b : List UInt8} (h : SB a = SB b) : a = b := by
  have := congrArg (fun x : ByteArray => x.data.toList) h; simpa [SB] using this
theorem SB_extract (l : List UInt8) (i j : Nat) : (SB l).extract i j = SB ((l.take j).drop i) := by
  apply SB_ext
  simp [SB, ByteArray.data_extract, List.drop_take]
theorem SB_add (a b : List UInt8) : SB a ++ SB b = SB (a ++ b) := by unfold SB; rw [ByteArray.mk_append_mk]
theorem SV_inj {a b : List UInt8} (h : SV a = SV b) : a = b := by unfold SV at h; injection h with h; exact SB_inj h
theorem SB_of (s : ByteArray) : ∃ l, s = SB l ∧ l.length = s.size := ⟨s.data.toList, by apply SB_ext; simp [SB], by show s.data.toList.length = s.data.size; simp⟩
/-- 'string(b)'. -/
theorem convS {w : World} {v : Value} {n : Nat} (l : List UInt8) (h : Rd w v n (l.map V8)) (hn : n = l.length) : (convert 46 9 v).run Tryd.prog w = .ok (.string (SB l)) w := by
  subst hn
  obtain ⟨a, cap, rfl, h1, h2, h3, h4⟩ := h
  cases l with
  | nil =>
    cases a with
    | none => exact run_convert_bytes_nil w 46 5 Tryd.underlying46 Tryd.underlying5 _ _ 9 Tryd.underlying9
    | some a => exact run_convert_bytes_back w 46 9 5 a cap [] Tryd.underlying46 Tryd.underlying5 Tryd.underlying9 (fun j hj => by simp at hj)
  | cons c l =>
    obtain ⟨b, off, rfl, _⟩ := h4 0 (by simp)
    refine run_convert_bytes_back w 46 9 5 _ cap (c :: l) Tryd.underlying46 Tryd.underlying5 Tryd.underlying9 (fun j hj => ?_)
    obtain ⟨b', off', e, h5⟩ := h4 j (by simpa using hj)
    injection e with e; injection e with e1 e2; subst e1; subst e2
    have hadd : (⟨b, off, none⟩ : Addr).add j = ⟨b, off + j, none⟩ := by unfold Addr.add; split <;> simp_all
    rw [hadd, h5, List.getD, List.getElem?_map, List.getElem?_eq_getElem hj]; rfl
/-- '[]byte(s)'. -/
theorem bytesS (w : World) (l : List UInt8) : (convert 9 46 (.string (SB l))).run Tryd.prog w = .ok (.slice (some ⟨w.heap.size, 0, none⟩) l.length (grownCap w l.length 0 5)) (Lib.bytesWorld w 5 (SB l)) := by
  have := Lib.run_convert_string_bytes (P := Tryd.prog) w 9 46 5 (SB l) Tryd.underlying9 Tryd.underlying46 Tryd.underlying5
  simpa using this
theorem bytesW_below (w : World) (e : TypeId) (s : ByteArray) : Below w.heap.size w (Lib.bytesWorld w e s) :=
  ⟨rfl, rfl, rfl, by rw [Lib.bytesWorld_size]; omega, fun k hk => Lib.bytesWorld_at_old w e s k hk⟩
theorem bytesS_own (w : World) (l : List UInt8) (e : TypeId) (h : l.length ≤ 140737488355328) : OwnM (Lib.bytesWorld w e (SB l)) w.heap.size e (.slice (some ⟨w.heap.size, 0, none⟩) l.length (grownCap w l.length 0 e)) l.length (l.map V8) := by
  have hg := grownCap_ge w l.length 0 e
  have hm := grownCap_le_maxLen w l.length 0 e (by unfold maxLen; omega)
  have hsz : (Lib.bytesCells w e (SB l)).size = grownCap w l.length 0 e := by have := SB_size l; unfold SB at this; simp only [Lib.bytesCells, SB, Array.size_append, Array.size_map, Array.size_replicate, this, List.size_toArray]; omega
  refine ⟨by simp, .inr ⟨w.heap.size, _, _, _, rfl, Nat.le_refl _, Lib.bytesWorld_at_new w e (SB l), .inr (Nat.le_refl _), hg, hm, by omega, ?_⟩⟩
  simp [Lib.bytesCells, SB, V8]
end Go.Proofs.YtjoadcgegobjpaaDoor
/-
  Strings: appended to bytes, cut, indexed; numbers of four bytes.
-/
namespace Go.Proofs.YtjoadcgegobjpaaDoor
open Go.RowKit

/-- 'append(p, s..)', s a string. -/
theorem appMS {w : World} {ops : Array Oper} {rest : List Oper} {o : Oper} {a : Act} {Q : Exit → Act → World → Prop} (hgd : o.guard = none) (s x : Operand)
    (ho : o.op = .call { callee := .builtin .append, args := #[s, x], argTypes := #[46, 9] })
    (base : Nat) (v : Value) (n : Nat) (xs : List Value) (hs : a.eval s = v) (hown : OwnM w base 5 v n xs)
    (l : List UInt8) (hx : a.eval x = .string (SB l)) (hroom : n + l.length ≤ 140737488355328) (hbase : base ≤ w.heap.size)
    (h : ∀ v' w', OwnM w' base 5 v' (n + l.length) (xs ++ l.map V8) → w.grownBy w' v.ownBlock → Moved w v v' → wpList Tryd.prog ops Q rest (a.put o.dst v') w') : wpList Tryd.prog ops Q (o :: rest) a w := by
  obtain ⟨i0, hi, hz0, hz1, hz2⟩ := info_parts info_u8
  refine wpList_plain hgd fun _ hK => ?_
  obtain ⟨v', w', hr, h2, h3, h4, _⟩ := run_append_M (P := Tryd.prog) w base 46 9 o.type 5 _ i0 (.int .u8 0) 1 Tryd.underlying46 Tryd.underlying9 (.inr rfl) hi hz0 hz1 hz2 rfl v n xs hown
    (.string (SB l)) l.length (l.map V8) (by simp) (fun w => by simp [Builtin.lenOf]) (fun wd _ => by
      have := Lib.run_firstCells_string (P := Tryd.prog) wd 1 (SB l)
      rw [SB_size] at this
      rw [this]; simp [Lib.strCells, SB, V8]) (by
      intro u hu
      obtain ⟨c, _, rfl⟩ := List.mem_map.1 hu
      simp [V8, Value.oneCell']) (by unfold maxLen; omega) (by omega) hbase
  unfold Oper.wp execOp
  simp only [ho, resolve, invoke, builtin, Sem.run_bind, Sem.run_pure, Result.andThen_ok, List.map_toArray, List.map_cons, List.map_nil, hs, hx, hr]
  exact hK _ _ (h v' w' h2 h3 h4)
theorem sliceS (w : World) (l : List UInt8) (i : Nat) (h : i ≤ l.length) : (Instr.slice 9 (.string (SB l)) (some (.int .i64 (i : Int))) none none).run Tryd.prog w = .ok (.string (SB (l.drop i))) w := by
  rw [run_slice_string_from_if w 9 (SB l) .i64 i Tryd.underlying9, if_pos (by simp; omega), SB_extract, SB_size, List.take_of_length_le (Nat.le_refl _)]; rfl
theorem sliceTo (w : World) (l : List UInt8) (i : Nat) (h : i ≤ l.length) : (Instr.slice 9 (.string (SB l)) none (some (.int .i64 (i : Int))) none).run Tryd.prog w = .ok (.string (SB (l.take i))) w := by
  rw [run_slice_string_to_if w 9 (SB l) .i64 i Tryd.underlying9, if_pos (by simp; omega), SB_extract]; rfl
theorem indexS (w : World) (l : List UInt8) (i : Nat) (h : i < l.length) : (Instr.index 9 (.string (SB l)) (.int .i64 (i : Int))).run Tryd.prog w = .ok (.int .u8 ((l.getD i 0).toNat : Int)) w := by
  rw [run_index_string w 9 (SB l) .i64 i Tryd.underlying9, dif_pos (by simp; omega)]
  simp only [Int.toNat_natCast]
  rw [SB_get]
theorem cell_lt {w : World} {a : Addr} {x : Value} (h : w.cell? a = some x) : a.block < w.heap.size := by
  rcases Nat.lt_or_ge a.block w.heap.size with h' | h'
  · exact h'
  · simp [World.cell?, Array.getElem?_eq_none h'] at h
theorem SB_toList (l : List UInt8) : (SB l).toList = l := by rw [Lib.toList_data, SB_data]
theorem or_mul (a b i m : Nat) (hm : m = 2 ^ i) (h : a < m) : a ||| (b * m) = b * m + a := by
  subst hm
  rw [Nat.or_comm, ← Nat.shiftLeft_eq, Nat.shiftLeft_add_eq_or_of_lt h]
theorem u32_or' (a b : Nat) (ha : a < 4294967296) (hb : b < 4294967296) : bits .or .u32 (a : Int) (b : Int) = ((a ||| b : Nat) : Int) := by
  have hx : a ||| b < 2 ^ 32 := Nat.or_lt_two_pow (by omega) (by omega)
  have ho : ∀ n : Nat, n < 4294967296 → (BitVec.ofInt 32 (n : Int)).toNat = n := fun n hn => by rw [BitVec.toNat_ofInt]; omega
  show IntKind.u32.wrap ((BitVec.ofInt 32 (a : Int) ||| BitVec.ofInt 32 (b : Int)).toNat : Int) = _
  rw [BitVec.toNat_or, ho a ha, ho b hb, wrap_u32n _ (by omega)]
theorem or32 (c1 c2 c3 c4 : Nat) (h1 : c1 < 256) (h2 : c2 < 256) (h3 : c3 < 256) (h4 : c4 < 256) :
    bits .or .u32 (bits .or .u32 (bits .or .u32 (c1 : Int) ((c2 : Int) * 256)) ((c3 : Int) * 65536)) ((c4 : Int) * 16777216) = ((c1 + 256 * c2 + 65536 * c3 + 16777216 * c4 : Nat) : Int) := by
  have e2 : ((c2 : Int) * 256) = ((c2 * 256 : Nat) : Int) := by omega
  have e3 : ((c3 : Int) * 65536) = ((c3 * 65536 : Nat) : Int) := by omega
  have e4 : ((c4 : Int) * 16777216) = ((c4 * 16777216 : Nat) : Int) := by omega
  rw [e2, e3, e4, u32_or' c1 (c2 * 256) (by omega) (by omega), or_mul c1 c2 8 256 (by decide) (by omega), u32_or' _ (c3 * 65536) (by omega) (by omega), or_mul _ c3 16 65536 (by decide) (by omega), u32_or' _ (c4 * 16777216) (by omega) (by omega), or_mul _ c4 24 16777216 (by decide) (by omega)]
  omega
end Go.Proofs.YtjoadcgegobjpaaDoor
