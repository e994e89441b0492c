/-
  Texts of one proof, one behind the other.
-/
import Derived.Test.YtgcnolapjppbpaaGreatDoorK37
import Derived.Test.YtgcnolapjppbpaaGreatDoorK25
import Derived.Test.YtgcnolapjppbpaaGreatDoorK46
import Derived.Test.YtgcnolapjppbpaaGreatDoorK42
import Derived.Test.YtgcnolapjppbpaaGreatDoorK10
namespace Go.Proofs.YtgcnolapjppbpaaGreatDoor
open Go.RowKit
set_option maxRecDepth 100000
theorem hangM_of {s : SesM} : ∀ {a : List SesM} {h : Bool}, (∀ p ∈ a, p.slot ≠ s.slot) → (∀ p ∈ a, s.upS = p.slot ∧ s.upB = p.birth → belowM s p = true) → (h = true ∨ ∃ p ∈ a, s.upS = p.slot ∧ s.upB = p.birth) → hangM s a h = some true
  | [], h, _, _, h3 => by
    rcases h3 with h3 | ⟨p, hp, _⟩
    · rw [h3]; rfl
    · cases hp
  | p :: ps, h, h1, h2, h3 => by
    unfold hangM
    rw [if_neg (h1 p (by simp))]
    refine hangM_of (fun q hq => h1 q (by simp [hq])) (fun q hq => h2 q (by simp [hq])) ?_
    by_cases hu : s.upS = p.slot ∧ s.upB = p.birth
    · rw [if_pos hu]; exact .inl (h2 p (by simp) hu)
    · rw [if_neg hu]
      rcases h3 with h3 | ⟨q, hq, h4⟩
      · exact .inl h3
      · rcases List.mem_cons.1 hq with rfl | hq
        · exact absurd h4 hu
        · exact .inr ⟨q, hq, h4⟩
theorem wrap_depth {n : Int} (h1 : 0 ≤ n) (h2 : n ≤ 6) : IntKind.i64.wrap (n + 1) = n + 1 := by
  have h : n = 0 ∨ n = 1 ∨ n = 2 ∨ n = 3 ∨ n = 4 ∨ n = 5 ∨ n = 6 := by omega
  rcases h with rfl | rfl | rfl | rfl | rfl | rfl | rfl <;> rfl
theorem below_of_fits {s p : SesM} (hu : s.upB ≠ 0) (hs : mayS s = true) (hp : mayS p = true) (h : fitsM s p = true) : belowM s p = true := by
  obtain ⟨d1, d2⟩ := depth_of hp
  obtain ⟨h1, h2, h3, h4, h5, h6⟩ := narrow_of hs hu h
  rw [wrap_depth d1 d2] at h3
  unfold belowM
  simp only [Bool.and_eq_true, beq_iff_eq, decide_eq_true_eq]
  refine ⟨h3, h4, h2, h1, ?_⟩
  by_cases hl : p.level < s.level
  · rw [(h6 hl).1]; simp [hl]
  · have := (h5 (by omega)).2
    rw [this]; simp [hl]
theorem root_up {s : SesM} (h : mayS s = true) (hu : s.upB = 0) : s.upS = 0 := by
  have hk := (root_parts h hu).1
  unfold mayS at h
  simp only [Bool.and_eq_true] at h
  have hc := h.2.2.2.2.2.2
  rw [if_pos (by simpa using hk)] at hc
  unfold loginM at hc
  simp only [Bool.and_eq_true, beq_iff_eq] at hc
  exact hc.1
theorem Snd.check {st : StM} (h : Snd st) : checkM st = none := by
  refine checkM_none.2 ⟨?_, fun i hi => mayI_iff.2 ?_⟩
  · unfold boundsM fromM
    have h1 := h.clock
    have h2 := h.births
    have h3 := h.len
    simp only [Bool.and_eq_true, decide_eq_true_eq]
    exact ⟨h1, h2, h3⟩
  · have hm := List.getElem_mem hi
    have hms := h.may _ hm
    have hinc := List.pairwise_iff_getElem.1 h.inc
    have hslo := List.pairwise_iff_getElem.1 h.slots
    have htk : ∀ p ∈ st.l.take i, ∃ j, ∃ hj : j < st.l.length, j < i ∧ p = st.l[j] := fun p hp => by
      obtain ⟨j, hj, rfl⟩ := List.getElem_of_mem hp
      rw [List.length_take] at hj
      exact ⟨j, by omega, by omega, List.getElem_take⟩
    refine ⟨hms, fun hne => ?_, (h.pos _ hm).2, h.born _ hm, h.dead _ hm, ?_⟩
    · cases i with
      | zero => exact absurd rfl hne
      | succ j =>
        rw [List.take_succ_eq_append_getElem (by omega), lastB_snoc]
        exact hinc j (j + 1) (by omega) hi (by omega)
    · refine hangM_of (fun p hp => ?_) (fun p hp hup => ?_) ?_
      · obtain ⟨j, hj, hji, rfl⟩ := htk p hp
        exact hslo j i hj hi hji
      · obtain ⟨j, hj, hji, rfl⟩ := htk p hp
        have hpm := List.getElem_mem hj
        have hp0 := (h.pos _ hpm).1
        have hne : st.l[i].upB ≠ 0 := by omega
        obtain ⟨q, hq, e1, e2, e3, e4⟩ := h.par _ hm hne
        have e : q = st.l[j] := h.uniq hq hpm (by omega)
        rw [← e]
        exact below_of_fits hne hms (h.may _ hq) e4
      · by_cases hu : st.l[i].upB = 0
        · left; unfold upNo; rw [hu, root_up hms hu]; rfl
        · obtain ⟨q, hq, e1, e2, e3, e4⟩ := h.par _ hm hu
          obtain ⟨j, hj, rfl⟩ := List.getElem_of_mem hq
          have hji : j < i := by
            rcases Nat.lt_or_ge j i with g | g
            · exact g
            · rcases Nat.lt_or_ge i j with g2 | g2
              · have := hinc i j hi hj g2; omega
              · obtain rfl : j = i := by omega
                omega
          exact .inr ⟨_, List.mem_take_iff_getElem.2 ⟨j, by omega, rfl⟩, e2.symm, e1.symm⟩
end Go.Proofs.YtgcnolapjppbpaaGreatDoor
namespace Go.Proofs.YtgcnolapjppbpaaGreatDoor
open Go.RowKit
set_option maxRecDepth 100000
theorem write_strs (d : DiskM) (i : Int) (s : ByteArray) (j : Nat) (h : i ≠ (j : Int)) : (d.write i s).1.strs[j]? = d.strs[j]? := by
  unfold DiskM.write
  split
  · rfl
  rename_i h1
  split
  · rfl
  split
  · rfl
  · show (d.strs.set i.toNat s)[j]? = _
    rw [List.getElem?_set_ne (by omega)]
theorem putAll_strs : ∀ (l : List (List UInt8)) (d : DiskM) (b : Int) (j : Nat), ((j : Int) < b ∨ b + l.length ≤ j) → (putAll d b l).1.strs[j]? = d.strs[j]?
  | [], d, b, j, _ => rfl
  | c :: r, d, b, j, h => by
    rw [List.length_cons] at h
    rw [putAll]
    split
    · rw [putAll_strs r _ (b + 1) j (by omega), write_strs _ _ _ _ (by omega)]
    · exact write_strs _ _ _ _ (by omega)
theorem firstA_at (e : Nat) : 1 ≤ firstA 0 24 e ∧ firstA 0 24 e ≤ 25 := by
  unfold firstA
  rcases Nat.mod_two_eq_zero_or_one e with h | h <;> rw [h] <;> decide
theorem save_strs (d : DiskM) (e : Nat) (p : List UInt8) (j : Nat) (hj : 49 ≤ j) : (saveM d 0 24 e p).1.strs[j]? = d.strs[j]? := by
  unfold saveM
  split
  · split
    · rfl
    rename_i h2
    have hf := firstA_at e
    have hc := chunks_count p.length p (Nat.le_refl _)
    have hb : (chunks p.length p).length ≤ 24 := by rw [hc]; unfold blocksA; omega
    have h3 := putAll_strs (chunks p.length p) d (firstA 0 24 e) j (by omega)
    split
    · rw [write_strs _ _ _ _ (by omega), h3]
    · exact h3
  · rfl
theorem LogI.strs {e : UInt32} {b n : Nat} {want : List (List UInt8)} {l : LogM} {d d' : DiskM} (h : LogI e b n want l d) (hl : d'.strs.length = d.strs.length) (hs : ∀ j, j < n → d'.strs[b + j]? = d.strs[b + j]?) : LogI e b n want l d' :=
  ⟨h.same, h.used, h.le, h.recs, h.short, by rw [hl]; exact h.len, fun j hj => by rw [hs j (by have := h.le; omega)]; exact h.stand j hj, fun j hj hj2 s he => h.no j hj hj2 s (by rw [← hs j hj2]; exact he)⟩
def Later (d : DiskM) (ep : UInt32) : Prop := ∀ e : UInt32, ep.toNat < e.toNat → ∀ j s, 49 ≤ j → j < 65 → d.strs[j]? = some s → NoB e s
theorem Later.strs {d d' : DiskM} {ep : UInt32} (h : Later d ep) (hs : ∀ j, 49 ≤ j → d'.strs[j]? = d.strs[j]?) : Later d' ep := fun e he j s h1 h2 h3 => h e he j s h1 h2 (by rw [← hs j h1]; exact h3)
theorem Later.mono {d : DiskM} {ep ep' : UInt32} (h : Later d ep) (hl : ep.toNat ≤ ep'.toNat) : Later d ep' := fun e he => h e (by omega)
theorem LogI.newL {e : UInt32} {d : DiskM} {ep : UInt32} (h : Later d ep) (he : ep.toNat < e.toNat) (hl : 65 ≤ d.strs.length) : LogI e 49 16 [] (logN e) d :=
  ⟨⟨rfl, rfl, rfl⟩, rfl, Nat.zero_le _, rfl, fun _ h => by simp at h, by omega, fun j hj => by simp [logN] at hj, fun j _ hj s hs => h e he (49 + j) s (by omega) (by omega) hs⟩
theorem Later.append {d : DiskM} {l : LogM} {ep : UInt32} (h : Later d ep) (hl : l.epoch.toNat ≤ ep.toNat) (p : List UInt8) : Later (l.append d p).2.1 ep := by
  intro e he j s h1 h2
  have hne : l.epoch ≠ e := fun x => by rw [x] at hl; omega
  have hb : (d.back (l.base + l.used) (frameM l.epoch p)).1.strs[j]? = some s → NoB e s := fun hs => by
    rcases back_get d (frameM l.epoch p) (l.base + l.used) j with ⟨h3, _⟩ | ⟨h3, h4, h5, _⟩
    · exact h e he j s h1 h2 (h3 ▸ hs)
    · rw [h5] at hs
      injection hs with hs
      rw [← hs]
      exact frame_noB hne (frame_getD_mem (by omega))
  unfold LogM.append
  split
  · exact h e he j s h1 h2
  split
  · exact h e he j s h1 h2
  split
  · exact h e he j s h1 h2
  split <;> exact hb
theorem back_holds {d : DiskM} {at_ n : Int} {e : Nat} {p : List UInt8} (h : Holds d at_ n e p) : ∀ (bs : List (List UInt8)) (a : Nat), at_ + 2 * n < a → Holds (d.back a bs).1 at_ n e p
  | [], _, _ => h
  | b :: r, a, ha => by
    rw [back_cons]
    have ih := back_holds h r (a + 1) (by omega)
    split
    · exact ih
    · exact ih.write _ _ (.inr ha)
theorem append_holds {d : DiskM} {e : Nat} {p : List UInt8} (h : Holds d 0 24 e p) (l : LogM) (hb : 49 ≤ l.base) (q : List UInt8) : Holds (l.append d q).2.1 0 24 e p := by
  have h1 := back_holds h (frameM l.epoch q) (l.base + l.used) (by omega)
  unfold LogM.append
  split
  · exact h
  split
  · exact h
  split
  · exact h
  split <;> exact h1
def ScOk (l : List SesM) : Prop := ∀ s ∈ l, s.scopes < 2 ^ 64
structure Img (d : DiskM) (l : LogM) (st : StM) (ep : UInt32) (st0 : StM) (evs : List EvtM) : Prop where
  hold : Holds d 0 24 ep.toNat (imgB st0)
  snd : Snd st0
  sc : ScOk st0.l
  all : allM st0 evs = (st, evs.length)
  may : ∀ e ∈ evs, mayE e = true ∧ e.s.scopes < 2 ^ 64
  log : LogI ep 49 16 (evs.map evB) l d
structure KeptD (d : DiskM) (st : StM) (ep : UInt32) : Prop where
  wf : d.Wf
  len : 65 ≤ d.strs.length ∧ d.strs.length ≤ 4096
  later : Later d ep
  alt : (readB d 0 = [] ∧ ep = 0 ∧ st = noSt) ∨ ∃ l st0 evs, Img d l st ep st0 evs
theorem Img.st {d : DiskM} {l : LogM} {st st0 : StM} {ep : UInt32} {evs : List EvtM} (h : Img d l st ep st0 evs) : Snd st := by
  have h1 := h.snd.all evs
  rw [h.all] at h1; exact h1
theorem apply_sc {st : StM} {e : EvtM} (h : ScOk st.l) (he : e.s.scopes < 2 ^ 64) : ScOk (applyM st e).2.l := by
  have hw : ∀ (goes : SesM → Bool), ScOk (withoutM goes st.l) := fun goes s hs => h s (List.mem_filter.1 hs).1
  unfold applyM
  split
  · split
    · split
      · intro s hs
        rcases List.mem_append.1 hs with hs | hs
        · exact h s hs
        · rw [List.mem_singleton.1 hs]; exact he
      · intro s hs; cases hs
    · split
      · split
        · exact hw _
        · intro s hs; cases hs
      · split
        · intro s hs; cases hs
        · exact hw _
  · intro s hs; cases hs
theorem all_sc : ∀ (l : List EvtM) {st : StM}, ScOk st.l → (∀ e ∈ l, e.s.scopes < 2 ^ 64) → ScOk (allM st l).1.l
  | [], _, h, _ => h
  | e :: l, st, h, he => by
    rw [allM]
    split
    · exact all_sc l (apply_sc h (he e (by simp))) (fun x hx => he x (by simp [hx]))
    · exact h
theorem Img.stSc {d : DiskM} {l : LogM} {st st0 : StM} {ep : UInt32} {evs : List EvtM} (h : Img d l st ep st0 evs) : ScOk st.l := by
  have h1 := all_sc evs h.sc (fun e he => (h.may e he).2)
  rw [h.all] at h1; exact h1
theorem KeptD.snd {d : DiskM} {st : StM} {ep : UInt32} (h : KeptD d st ep) : Snd st ∧ ScOk st.l := by
  rcases h.alt with ⟨_, _, rfl⟩ | ⟨l, st0, evs, hi⟩
  · exact ⟨Snd.zero, fun s hs => by cases hs⟩
  · exact ⟨hi.st, hi.stSc⟩
theorem sesW_of {st : StM} (h : Snd st) (hs : ScOk st.l) : SesW st.l := fun q hq => ⟨SesN.of (h.may q hq), hs q hq⟩
theorem evsM_back : ∀ (evs : List EvtM), (∀ e ∈ evs, mayE e = true ∧ e.s.scopes < 2 ^ 64) → evsM (evs.map evB) = evs
  | [], _ => rfl
  | e :: l, h => by
    have h1 := h e (by simp)
    have h2 := decM_evB h1.1 h1.2
    rw [List.map_cons, evsM, h2, if_pos rfl, evsM_back l (fun x hx => h x (by simp [hx]))]
theorem isPays_log {e : UInt32} {d : DiskM} {want : List (List UInt8)} {l : LogM} (h : LogI e 49 16 want l d) : IsPays e (blksM d 49 16) want := by
  have hl := h.len
  obtain ⟨t, h1, h2⟩ := h.blocks (blksM d 49 16) (by unfold blksM; rw [List.length_map, List.length_take, List.length_drop]; omega) (fun j hj => blks_get d (by omega) j hj)
  rw [h1]
  exact ⟨(laid_end e want t h.short h2).2, fun i hi => ⟨_, (laid_pos e want t h.short i (by omega)).2 hi⟩⟩
theorem KeptD.kept {d : DiskM} {st : StM} {ep : UInt32} (h : KeptD d st ep) : keptM d = (st, ep, 0) := by
  rcases h.alt with ⟨h1, h2, h3⟩ | ⟨l, st0, evs, hi⟩
  · have hl : loadM d 0 24 = (0, [], 10) := by
      unfold loadM
      rw [if_pos (by unfold mayA; have := h.len; omega), if_pos h1]
    unfold keptM
    rw [hl, if_pos rfl, h2, h3]
  · have hl := hi.hold.load ep.toNat_lt
    have hd := decI_imgB hi.snd.check (sesW_of hi.snd hi.sc)
    unfold keptM
    rw [hl]
    simp only
    rw [if_neg (by decide), if_pos trivial, hd, if_pos rfl, UInt32.ofNat_toNat, (isPays_log hi.log).eq, evsM_back evs hi.may, hi.all]
end Go.Proofs.YtgcnolapjppbpaaGreatDoor
namespace Go.Proofs.YtgcnolapjppbpaaGreatDoor
open Go.RowKit
set_option maxRecDepth 100000
structure StoI (d : DiskM) (s : StoM) (st : StM) : Prop where
  wf : d.Wf
  len : 65 ≤ d.strs.length ∧ d.strs.length ≤ 4096
  later : Later d s.epoch
  img : ∃ st0 evs, Img d s.log st s.epoch st0 evs
structure KeptI (d : DiskM) (st : StM) (ep : UInt32) : Prop where
  wf : d.Wf
  len : 65 ≤ d.strs.length ∧ d.strs.length ≤ 4096
  later : Later d ep
  img : ∃ l st0 evs, Img d l st ep st0 evs
theorem StoI.kept {d : DiskM} {s : StoM} {st : StM} (h : StoI d s st) : KeptI d st s.epoch := ⟨h.wf, h.len, h.later, by obtain ⟨a, b, c⟩ := h.img; exact ⟨_, a, b, c⟩⟩
theorem KeptI.d {d : DiskM} {st : StM} {ep : UInt32} (h : KeptI d st ep) : KeptD d st ep := ⟨h.wf, h.len, h.later, .inr h.img⟩
theorem KeptI.left {d : DiskM} {st : StM} {ep : UInt32} (h : KeptI d st ep) (o : Option Nat) : KeptI { d with left := o } st ep := by
  obtain ⟨l, st0, evs, hi⟩ := h.img
  exact ⟨⟨h.wf.inr, h.wf.short, h.wf.play⟩, h.len, h.later, l, st0, evs, ⟨⟨hi.hold.may, hi.hold.fits, hi.hold.small, hi.hold.head, hi.hold.body⟩, hi.snd, hi.sc, hi.all, hi.may, ⟨hi.log.same, hi.log.used, hi.log.le, hi.log.recs, hi.log.short, hi.log.len, hi.log.stand, hi.log.no⟩⟩⟩
theorem StoI.left {d : DiskM} {s : StoM} {st : StM} (h : StoI d s st) (o : Option Nat) : StoI { d with left := o } s st := by
  obtain ⟨st0, evs, hi⟩ := h.img
  exact ⟨⟨h.wf.inr, h.wf.short, h.wf.play⟩, h.len, h.later, st0, evs, ⟨⟨hi.hold.may, hi.hold.fits, hi.hold.small, hi.hold.head, hi.hold.body⟩, hi.snd, hi.sc, hi.all, hi.may, ⟨hi.log.same, hi.log.used, hi.log.le, hi.log.recs, hi.log.short, hi.log.len, hi.log.stand, hi.log.no⟩⟩⟩
theorem KeptD.left {d : DiskM} {st : StM} {ep : UInt32} (h : KeptD d st ep) (o : Option Nat) : KeptD { d with left := o } st ep := by
  rcases h.alt with h1 | h1
  · exact ⟨⟨h.wf.inr, h.wf.short, h.wf.play⟩, h.len, h.later, .inl h1⟩
  · exact (KeptI.left ⟨h.wf, h.len, h.later, h1⟩ o).d
theorem epoch_next {ep : UInt32} (h : ep.toNat < 4294967295) : (ep + 1).toNat = ep.toNat + 1 ∧ ep ≠ 4294967295 := by
  refine ⟨?_, fun e => ?_⟩
  · rw [UInt32.toNat_add]; show (ep.toNat + 1) % 4294967296 = _; omega
  · rw [e] at h; exact absurd h (by decide)
theorem imgN_ok {st : StM} (h : checkM st = none) : imgN st = 0 ∧ imgM st = imgB st := by
  unfold imgN imgM; rw [if_pos h, if_pos h]; exact ⟨rfl, rfl⟩
theorem blocks_img {st : StM} (h : checkM st = none) : 1 ≤ blocksA (imgB st).length ∧ blocksA (imgB st).length ≤ 24 := by
  have h1 := imgB_tight h
  have h2 := imgB_pos (st := st)
  unfold blocksA; omega
theorem write_made (d : DiskM) (i : Int) (s : ByteArray) (h : (d.write i s).2 = 0) : (d.write i s).1.trail.length = d.trail.length + 1 := by
  unfold DiskM.write at h ⊢
  split
  · rename_i h1; rw [if_pos h1] at h; cases h
  rename_i h1
  rw [if_neg h1] at h
  split
  · rename_i h2; rw [if_pos h2] at h; cases h
  rename_i h2
  rw [if_neg h2] at h
  split
  · rename_i h3; rw [if_pos h3] at h; cases h
  · simp
theorem putAll_made : ∀ (l : List (List UInt8)) (d : DiskM) (b : Int), (putAll d b l).2 = 0 → (putAll d b l).1.trail.length = d.trail.length + l.length
  | [], _, _, _ => rfl
  | c :: r, d, b, h => by
    rw [putAll] at h ⊢
    split at h
    · rename_i h1
      rw [if_pos h1, putAll_made r _ _ h, List.length_cons]
      have : (d.write b (SB c)).1.trail.length = d.trail.length + 1 := write_made _ _ _ h1
      omega
    · rename_i h1; exact absurd h h1
theorem save_made (d : DiskM) (e : Nat) (p : List UInt8) (h : (saveM d 0 24 e p).2 = 0) : (saveM d 0 24 e p).1.trail.length = d.trail.length + (blocksA p.length + 1) := by
  unfold saveM at h ⊢
  split
  · rename_i h1
    rw [if_pos h1] at h
    split
    · rename_i h2; rw [if_pos h2] at h; cases h
    rename_i h2
    rw [if_neg h2] at h
    split
    · rename_i h3
      rw [if_pos h3] at h
      rw [write_made _ _ _ h, putAll_made _ _ _ h3, chunks_count p.length p (Nat.le_refl _)]; omega
    · rename_i h3
      rw [if_neg h3] at h; exact absurd h h3
  · rename_i h1; rw [if_neg h1] at h; cases h
theorem save_none {d : DiskM} (h : d.left = none) (hm : mayA d.strs.length 0 24) (hs : d.strs.length ≤ 4096) (e : Nat) (p : List UInt8) (hp : (p.length : Int) ≤ 24 * 256) : (saveM d 0 24 e p).2 = 0 ∧ (saveM d 0 24 e p).1.left = none := by
  obtain ⟨h1, _, h3⟩ := save_yes d 0 24 e p hm hs hp (fun k hk => by rw [h] at hk; cases hk)
  exact ⟨h1, by rw [h3, h]; rfl⟩
theorem save_img {d : DiskM} {st : StM} (hs : Snd st) (hsc : ScOk st.l) (hw : d.Wf) (hl : 65 ≤ d.strs.length ∧ d.strs.length ≤ 4096) {ep : UInt32} (hlat : Later d ep) (hep : ep.toNat < 4294967295) (hk : ∀ k, d.left = some k → blocksA (imgB st).length < k) :
    (saveM d 0 24 (ep + 1).toNat (imgB st)).2 = 0 ∧ StoI (saveM d 0 24 (ep + 1).toNat (imgB st)).1 ⟨ep + 1, logN (ep + 1), false⟩ st := by
  have hm : mayA d.strs.length 0 24 := by unfold mayA; omega
  have ht := imgB_tight hs.check
  obtain ⟨h1, h2, _⟩ := save_yes d 0 24 (ep + 1).toNat (imgB st) hm hl.2 (by omega) hk
  have hlen := saveM_len d 0 24 (ep + 1).toNat (imgB st)
  have hst := fun j hj => save_strs d (ep + 1).toNat (imgB st) j hj
  have hnx := (epoch_next hep).1
  have hlat2 : Later (saveM d 0 24 (ep + 1).toNat (imgB st)).1 ep := hlat.strs hst
  refine ⟨h1, saveM_wf hw _ _ _ _, by rw [hlen]; exact hl, hlat2.mono (by show ep.toNat ≤ (ep + 1).toNat; omega), st, [], h2, hs, hsc, rfl, (fun e he => by cases he), LogI.newL hlat2 (by show ep.toNat < (ep + 1).toNat; omega) (by rw [hlen]; exact hl.1)⟩
theorem lay_cut {d : DiskM} {st : StM} {ep : UInt32} (h : KeptI d st ep) (hep : ep.toNat < 4294967295) :
    ((layM ep d st).2 = 0 ∧ StoI (layM ep d st).1 ⟨ep + 1, logN (ep + 1), false⟩ st ∧ (layM ep d st).1.trail.length = d.trail.length + (blocksA (imgB st).length + 1)) ∨ ((layM ep d st).2 = 22 ∧ d.left ≠ none ∧ KeptI (layM ep d st).1 st ep) := by
  obtain ⟨hs, hsc⟩ := h.d.snd
  obtain ⟨n1, n2⟩ := imgN_ok hs.check
  obtain ⟨e1, e2⟩ := epoch_next hep
  have hb := blocks_img hs.check
  have ht := imgB_tight hs.check
  unfold layM
  rw [if_pos n1, if_neg e2, n2]
  by_cases hk : ∃ k, d.left = some k ∧ k ≤ blocksA (imgB st).length
  · obtain ⟨k, hk1, hk2⟩ := hk
    obtain ⟨l, st0, evs, hi⟩ := h.img
    obtain ⟨h1, h2⟩ := save_cut d 0 24 ep.toNat (ep + 1).toNat (imgB st0) (imgB st) hi.hold (by omega) k hk1 hk2 (by rw [e1]; omega)
    have hst := fun j hj => save_strs d (ep + 1).toNat (imgB st) j hj
    have hlen := saveM_len d 0 24 (ep + 1).toNat (imgB st)
    exact .inr ⟨h1, by rw [hk1]; simp, ⟨saveM_wf h.wf _ _ _ _, by rw [hlen]; exact h.len, h.later.strs hst, l, st0, evs, h2, hi.snd, hi.sc, hi.all, hi.may, hi.log.strs hlen (fun j hj => hst _ (by omega))⟩⟩
  · have h2 := save_img hs hsc h.wf h.len h.later hep (fun k hk1 => by
      rcases Nat.lt_or_ge (blocksA (imgB st).length) k with h1 | h1
      · exact h1
      · exact absurd ⟨k, hk1, h1⟩ hk)
    exact .inl ⟨h2.1, h2.2, save_made _ _ _ h2.1⟩
theorem lay_on {d : DiskM} {st : StM} {ep : UInt32} (h : KeptD d st ep) (hep : ep.toNat < 4294967295) (hn : d.left = none) :
    (layM ep d st).2 = 0 ∧ StoI (layM ep d st).1 ⟨ep + 1, logN (ep + 1), false⟩ st ∧ (layM ep d st).1.left = none ∧ (layM ep d st).1.trail.length = d.trail.length + (blocksA (imgB st).length + 1) := by
  obtain ⟨hs, hsc⟩ := h.snd
  obtain ⟨n1, n2⟩ := imgN_ok hs.check
  obtain ⟨e1, e2⟩ := epoch_next hep
  have ht := imgB_tight hs.check
  unfold layM
  rw [if_pos n1, if_neg e2, n2]
  obtain ⟨h1, h2⟩ := save_img hs hsc h.wf h.len h.later hep (fun k hk => by rw [hn] at hk; cases hk)
  have h3 := save_none hn (by unfold mayA; have := h.len; omega) h.len.2 (ep + 1).toNat (imgB st) (by omega)
  exact ⟨h1, h2, h3.2, save_made _ _ _ h1⟩
theorem frame_one (e : UInt32) {x : EvtM} (h : mayE x = true) : (frameM e (evB x)).length = 1 := by
  have h1 := evB_small h
  rw [frame_count e _ (by omega), if_neg (by omega)]
theorem laid_count (e : UInt32) : ∀ (evs : List EvtM), (∀ x ∈ evs, mayE x = true ∧ x.s.scopes < 2 ^ 64) → (laidM e (evs.map evB)).length = evs.length
  | [], _ => rfl
  | x :: l, h => by
    have h1 := laid_count e l (fun y hy => h y (by simp [hy]))
    have h2 := frame_one e (h x (by simp)).1
    have h3 : laidM e ((x :: l).map evB) = frameM e (evB x) ++ laidM e (l.map evB) := by simp [laidM]
    rw [h3, List.length_append, h1, h2, List.length_cons]; omega
theorem Img.used {d : DiskM} {l : LogM} {st st0 : StM} {ep : UInt32} {evs : List EvtM} (h : Img d l st ep st0 evs) : l.used = l.records := by
  rw [h.log.used, h.log.recs, laid_count ep evs h.may, List.length_map]
theorem append_full {l : LogM} {d : DiskM} {p : List UInt8} (h : (l.append d p).2.2 = 19) : l.n - l.used < (frameM l.epoch p).length := by
  unfold LogM.append at h
  split at h
  · cases h
  split at h
  · cases h
  split at h
  · assumption
  split at h
  · cases h
  · cases h
theorem Img.event {d d' : DiskM} {l l' : LogM} {st st0 next : StM} {ep : UInt32} {evs : List EvtM} {e : EvtM} (h : Img d l st ep st0 evs) (ha : applyM st e = (0, next)) (hm : mayE e = true) (hsc : e.s.scopes < 2 ^ 64) (hh : Holds d' 0 24 ep.toNat (imgB st0)) (hl : LogI ep 49 16 (evs.map evB ++ [evB e]) l' d') : Img d' l' next ep st0 (evs ++ [e]) := by
  refine ⟨hh, h.snd, h.sc, ?_, fun x hx => ?_, by rw [List.map_append]; exact hl⟩
  · have h1 := allM_app evs [e] st0 (by rw [h.all])
    rw [h1, h.all, List.length_append]
    simp only [allM, ha, if_pos]
    rfl
  · rcases List.mem_append.1 hx with hx | hx
    · exact h.may x hx
    · rw [List.mem_singleton.1 hx]; exact ⟨hm, hsc⟩
theorem Img.other {d d' : DiskM} {l l' : LogM} {st st0 : StM} {ep : UInt32} {evs : List EvtM} (h : Img d l st ep st0 evs) (hh : Holds d' 0 24 ep.toNat (imgB st0)) (hl : LogI ep 49 16 (evs.map evB) l' d') : Img d' l' st ep st0 evs :=
  ⟨hh, h.snd, h.sc, h.all, h.may, hl⟩
theorem back_one {d : DiskM} {a : Nat} {bs : List (List UInt8)} (hb : bs.length = 1) (h : (d.back a bs).2 = 0) : (d.back a bs).1.trail.length = d.trail.length + 1 := by
  match bs, hb with
  | [b], _ =>
    rw [back_cons, if_neg (by simp [DiskM.back])] at h ⊢
    exact write_made _ _ _ h
theorem append_ev {d : DiskM} {l : LogM} {st st0 next : StM} {ep : UInt32} {evs : List EvtM} {e : EvtM} (h : Img d l st ep st0 evs) (hw : d.Wf) (hl : 65 ≤ d.strs.length ∧ d.strs.length ≤ 4096) (hlat : Later d ep) (hd : l.dead = false)
    (ha : applyM st e = (0, next)) (hm : mayE e = true) (hsc : e.s.scopes < 2 ^ 64) :
    ((l.append d (evB e)).2.2 = 0 ∧ (l.append d (evB e)).1.dead = false ∧ StoI (l.append d (evB e)).2.1 ⟨ep, (l.append d (evB e)).1, false⟩ next ∧ (l.append d (evB e)).1.records = l.records + 1 ∧ (l.append d (evB e)).2.1.trail.length = d.trail.length + 1) ∨
    ((l.append d (evB e)).2.2 = 22 ∧ d.left ≠ none ∧ KeptI (l.append d (evB e)).2.1 st ep) ∨
    ((l.append d (evB e)).2.2 = 19 ∧ l.records = 16) := by
  obtain ⟨e1, e2, e3⟩ := h.log.same
  have hsm := evB_small hm
  have hlen := (append_len l d (evB e)).1
  have hwf := append_wf l hw (evB e)
  have hlat2 := hlat.append (l := l) (by rw [e3]; exact Nat.le_refl _) (evB e)
  have hho := append_holds h.hold l (by rw [e1]; exact Nat.le_refl _) (evB e)
  have hfr := frame_one ep hm
  have hus := h.used
  rcases h.log.append (evB e) with ⟨h0, _, h1, _, _, h3⟩ | ⟨h0, h1, h3⟩ | ⟨h0, h1, _⟩ | ⟨h0, _, _, h4, h5⟩
  · refine .inl ⟨h0, h1, ⟨hwf, by rw [hlen]; exact hl, hlat2, st0, evs ++ [e], h.event ha hm hsc hho h3⟩, by rw [h3.recs, h.log.recs, List.length_append, List.length_map]; rfl, ?_⟩
    unfold LogM.append at h0 ⊢
    rw [if_neg (by rw [hd]; simp)] at h0 ⊢
    rw [if_neg (by omega)] at h0 ⊢
    split
    · rename_i g; rw [if_pos g] at h0; cases h0
    · rename_i g
      rw [if_neg g] at h0
      split
      · rename_i g2; rw [if_pos g2] at h0; cases h0
      · rename_i g2
        exact back_one (by rw [e3]; exact hfr) (by simpa using g2)
  · refine .inr (.inl ⟨h0, fun hn => ?_, hwf, by rw [hlen]; exact hl, hlat2, _, st0, evs, h.other hho h3⟩)
    by_cases hf : l.n - l.used < (frameM l.epoch (evB e)).length
    · unfold LogM.append at h0
      rw [if_neg (by rw [hd]; simp), if_neg (by omega), if_pos hf] at h0
      cases h0
    · have := append_ok (l := l) (p := evB e) hn hd (by omega) (by rw [e1, e2]; omega) (by have := h.log.le2; omega)
      rw [this] at h0; cases h0
  · omega
  · have h6 := append_full h0
    rw [e3, hfr, e2] at h6
    have := h.log.le
    exact .inr (.inr ⟨h0, by omega⟩)
end Go.Proofs.YtgcnolapjppbpaaGreatDoor
