/-
  Lives and Path of package walk.
-/
import Derived.Test.YtkabeejefkmdgaaUp
import Derived.Test.YtkabeejefkmdgaaKitI
namespace Go.Proofs.Ytkabeejefkmdgaa
open Go.RowKit

theorem livesAt_calls (s : Int) (w : World) :
    Calls Try.prog 28 #[.int .i64 s] w fun e w' => e = .returned (.tuple #[]) ∧ w = w' := by
  go_enter Try.func28, Try.ntmps28
  go_wp2
  go_end0
  exact ⟨rfl, rfl⟩
/-- What the idle function gathers. -/
def LivesI (W : World) (_ : List Int) (v : Value) (w : World) : Prop := v = .slice none 0 0 ∧ Below W.heap.size W w
theorem lives_ats (l : List SlotM) (n : Int) (b B0 : Nat) (W : World) (h : IsArena W l n b) (hB : W.heap.size ≤ B0) : Ats 28 [] l n b b B0 (LivesI W) where
  arena := fun p v w hI => h.below hI.2
  lt := fun p v w hI k hk => by rw [hI.1] at hk; simp [Value.ownBlock] at hk
  stab := fun p v w w' G hI hm hG => ⟨hI.1, hI.2.trans (hm.below hI.2.size (fun k hk => Nat.le_trans hB (hG k hk).1))⟩
  call := fun p v w s hI _ _ => (livesAt_calls s w).mono fun e w' ⟨he, hw⟩ => ⟨he, v, by rw [← hw]; exact hI, by rw [← hw]; exact Mod.refl _ _, .inl rfl⟩
theorem lives_calls (l : List SlotM) (n : Int) (b : Nat) (sl bi : Int) (w : World) (h : IsArena w l n b) :
    Calls Try.prog 14 #[.pointer (some ⟨b, 0, none⟩), .agg #[.int .i64 sl, .int .i64 bi]] w fun e w' => e = .returned (.tuple #[.bool (upM l 7 sl bi).2, .int .i64 (upN (upM l 7 sl bi))]) ∧ Below w.heap.size w w' := by
  have hb := h.lt
  have HA := Lib.hid (lives_ats l n b (w.heap.size + 1) w h (by omega))
  clear h
  go_enter Try.func14, Try.ntmps14
  have h1 : (w.alloc (.cells #[.int .i64 sl, .int .i64 bi] 31)).heap.size = w.heap.size + 1 := by simp
  have H1 := Lib.hid h1
  clear h1
  go_wp2_with fail
  refine (up_lives l n b b sl bi _ (LivesI w) (by rw [H1.out]; exact HA.out) (by rw [H1.out]; omega) ⟨rfl, below_alloc _ _⟩).mono ?_
  rintro e w' ⟨rfl, v', hI, _⟩
  have HI := Lib.hid hI.2
  clear hI
  obtain ⟨p, hp⟩ : ∃ p, p = upM l 7 sl bi := ⟨_, rfl⟩
  rw [← hp]
  have HP := Lib.hid hp
  clear hp
  go_wp2_with fail
  go_ret2
  exact ⟨by rw [← HP.out]; rfl, HI.out⟩
/-- What the gathering function has gathered: in the variable's block Bv stands a row of W's own. -/
def PathI (W : World) (Bv : Nat) (p : List Int) (v : Value) (w : World) : Prop :=
  Box w Bv #[v] 22 ∧ w.ownsRow W.heap.size 3 1 v p.length (p.map VI) ∧ v.ownBlock ≠ some Bv ∧ Below W.heap.size W w
theorem pathAt_calls (W : World) (Bv : Nat) (p : List Int) (v : Value) (w : World) (s : Int) (h : PathI W Bv p v w) (hp : p.length ≤ 100) (hB : W.heap.size ≤ Bv) :
    Calls Try.prog 31 #[.int .i64 s, .pointer (some ⟨Bv, 0, none⟩)] w fun e w' => e = .returned (.tuple #[]) ∧
    ∃ v', PathI W Bv (p ++ [s]) v' w' ∧ Mod (fun k => k = Bv ∨ v.ownBlock = some k) w w' ∧ (v'.ownBlock = v.ownBlock ∨ ∃ k, v'.ownBlock = some k ∧ w.heap.size ≤ k) := by
  obtain ⟨h1, h2, h3, h4⟩ := h
  have hc : w.cell? ⟨Bv, 0, none⟩ = some v := h1.cell 0 _ rfl
  have hlt := h1.lt
  have hsz := h4.size
  obtain ⟨va, vc, rfl, _⟩ := own_slice h2
  have hownA := h2.alloc (.cells #[.int .i64 s] 3)
  have H1 := Lib.hid h1
  have H2 := Lib.hid h2
  have H3 := Lib.hid h3
  have H4 := Lib.hid h4
  have HA := Lib.hid hownA
  clear h1 h2 h3 h4 hownA
  go_enter Try.func31, Try.ntmps31
  go_wp2_with (at_builtin; refine appI rfl _ _ rfl W.heap.size _ _ _ rfl HA.out ⟨w.heap.size, 0, none⟩ 1 (.int .i64 s) rfl (by simp) rfl (by omega) (by simp; omega) ?_)
  intro v' w1 hown' hg' hm' hgr'
  have hg0 : w.grownBy w1 (some Bv) ∨ True := .inr trivial
  have hb1 : Box w1 Bv #[.slice va p.length vc] 22 := (H1.out.below (below_alloc w (.cells #[.int .i64 s] 3))).grown hg' H3.out
  have hf1 := hb1.free 0
  have hc1 : w1.cell? ⟨Bv, 0, none⟩ = some (.slice va p.length vc) := hb1.cell 0 _ rfl
  obtain ⟨va', vc', rfl, _⟩ := own_slice hown'
  have HB := Lib.hid hb1
  have HO := Lib.hid hown'
  have HG := Lib.hid hg'
  have HM := Lib.hid hm'
  clear hb1 hown' hg' hm' hgr' hc hg0
  go_wp2_with fail
  go_end0
  obtain ⟨nv, hnv⟩ : ∃ nv, nv = Value.slice va' (p.length + 1) vc' := ⟨_, rfl⟩
  have hnB : nv.ownBlock ≠ some Bv := by
    rw [hnv]
    rcases HM.out with e | e
    · rw [e]; exact H3.out
    · rw [e]; intro e2; injection e2 with e2; simp at e2; omega
  rw [← hnv]
  have hset := HB.out.set 0 nv
  have hms : Mod (fun k => k = Bv) w1 (w1.setCell ⟨Bv, 0, none⟩ nv) := Mod.set (fun k => k = Bv) w1 ⟨Bv, 0, none⟩ nv rfl
  have hm1 : Mod (fun k => k = Bv ∨ (Value.slice va p.length vc).ownBlock = some k) w w1 := (Mod.alloc _ _ _).trans (Mod.of_grown HG.out (fun k hk => .inr hk))
  have hm2 : Mod (fun k => k = Bv ∨ (Value.slice va p.length vc).ownBlock = some k) w (w1.setCell ⟨Bv, 0, none⟩ nv) := hm1.trans (hms.mono (fun k hk => .inl hk))
  refine ⟨rfl, nv, ⟨by simpa using hset, ?_, hnB, H4.out.trans (hm2.below hsz (fun k hk => ?_))⟩, hm2, ?_⟩
  · have := own_mod HO.out hms (fun k hk e => by rw [← hnv, e] at hk; exact hnB hk)
    rw [List.length_append, List.map_append]
    rw [hnv] at this ⊢
    exact this
  · rcases hk with hk | hk
    · omega
    · exact (H2.out.lt k hk).1
  · rw [hnv]
    rcases HM.out with e | e
    · exact .inl e
    · exact .inr ⟨_, e, by simp⟩
theorem path_ats (l : List SlotM) (n : Int) (b Bv B0 : Nat) (W : World) (h : IsArena W l n b) (hB : W.heap.size ≤ Bv) (hB0 : Bv < B0) : Ats 31 [.pointer (some ⟨Bv, 0, none⟩)] l n b Bv B0 (PathI W Bv) where
  arena := fun p v w hI => h.below hI.2.2.2
  lt := fun p v w hI k hk => (hI.2.1.lt k hk).2
  stab := fun p v w w' G hI hm hG => ⟨hI.1.mod hm (fun hg => by have := (hG _ hg).1; omega), own_mod hI.2.1 hm (fun k hk hg => (hG k hg).2 hk), hI.2.2.1, hI.2.2.2.trans (hm.below hI.2.2.2.size (fun k hk => by have := (hG k hk).1; omega))⟩
  call := fun p v w s hI _ hp => pathAt_calls W Bv p v w s hI hp hB
/-- The path, if the session lives. -/
def pathOf (p : List Int × Bool) : List Int := if p.2 then p.1 else []
theorem path_calls (l : List SlotM) (n : Int) (b : Nat) (sl bi : Int) (w : World) (h : IsArena w l n b) :
    Calls Try.prog 16 #[.pointer (some ⟨b, 0, none⟩), .agg #[.int .i64 sl, .int .i64 bi]] w fun e w' => ∃ v, e = .returned v ∧ w'.ownsRow w.heap.size 3 1 v (pathOf (upM l 7 sl bi)).length ((pathOf (upM l 7 sl bi)).map VI) ∧ Below w.heap.size w w' := by
  have hb := h.lt
  have HA := Lib.hid (path_ats l n b (w.heap.size + 1) (w.heap.size + 2) w h (by omega) (by omega))
  clear h
  have hmf : ∀ (fn : Fn) (first cap : Array Value) (w : World), (Instr.makeFunc fn first cap).run Try.prog w = .ok (.func fn first cap) w := fun _ _ _ _ => rfl
  go_enter Try.func16, Try.ntmps16
  go_wp2_with fail
  generalize hw1 : World.alloc (World.alloc w _) _ = w1
  have hs1 : w1.heap.size = w.heap.size + 2 := by rw [← hw1]; simp
  have hb1 : Below w.heap.size w w1 := by rw [← hw1]; exact (below_alloc _ _).trans ((below_alloc _ _).mono (by simp))
  have hx1 : Box w1 (w.heap.size + 1) #[.slice none 0 0] 22 := by
    rw [← hw1]
    have := Box.new (w.alloc (.cells #[.int .i64 sl, .int .i64 bi] 31)) #[.slice none 0 0] 22
    rw [World.size_alloc] at this
    exact this
  have HS := Lib.hid hs1
  have HB := Lib.hid hb1
  have HX := Lib.hid hx1
  clear hw1 hs1 hb1 hx1 hmf
  refine (up_path (.pointer (some ⟨w.heap.size + 1, 0, none⟩)) l n b (w.heap.size + 1) sl bi _ (PathI w (w.heap.size + 1)) (by rw [HS.out]; exact HA.out) (by rw [HS.out]; omega) ⟨HX.out, World.ownsRow_nil _ _ _ _, by simp [Value.ownBlock], HB.out⟩).mono ?_
  rintro e w' ⟨rfl, v', hI, _, _⟩
  obtain ⟨p, hp⟩ : ∃ p, p = upM l 7 sl bi := ⟨_, rfl⟩
  rw [← hp] at hI ⊢
  have HP := Lib.hid hp
  clear hp
  have hc : w'.cell? ⟨w.heap.size + 1, 0, none⟩ = some v' := hI.1.cell 0 _ rfl
  have HI := Lib.hid hI.2
  obtain ⟨va, vc, rfl, _⟩ := own_slice hI.2.1
  clear hI
  obtain ⟨pl, pb⟩ := p
  cases pb with
  | true =>
    go_wp2_with fail
    go_ret
    exact ⟨_, rfl, by rw [← HP.out]; exact HI.out.1, HI.out.2.2⟩
  | false =>
    go_wp2_with fail
    go_ret
    exact ⟨_, rfl, by rw [← HP.out]; exact World.ownsRow_nil _ _ _ _, HI.out.2.2⟩
end Go.Proofs.Ytkabeejefkmdgaa
