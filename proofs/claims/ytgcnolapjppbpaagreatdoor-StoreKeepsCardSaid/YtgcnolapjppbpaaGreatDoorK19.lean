/-
  Texts of one proof, one behind the other.
-/
import Derived.Test.YtgcnolapjppbpaaGreatDoorK18
import Derived.Test.YtgcnolapjppbpaaGreatDoorK02
import Derived.Deep.MidRow
import Derived.Laws.ResultCell
namespace Go.Proofs.YtgcnolapjppbpaaGreatDoor
open Go.RowKit
set_option maxRecDepth 100000
structure SesM where
  slot : Int
  birth : Int
  upS : Int
  upB : Int
  kind : Int
  user : List UInt8
  label : List UInt8
  scopes : Nat
  level : Int
  born : Int
  deadline : Int
  depth : Int
def SesM.cells (s : SesM) : Array Value := #[.int .i64 s.slot, .int .i64 s.birth, .int .i64 s.upS, .int .i64 s.upB, .int .i64 s.kind, .string (SB s.user), .string (SB s.label), .int .u64 (s.scopes : Int), .int .i64 s.level, .int .i64 s.born, .int .i64 s.deadline, .int .i64 s.depth]
def fromM (n lo hi : Int) : Bool := decide (lo ≤ n) && decide (n ≤ hi)
theorem fromM_yes {n lo hi : Int} (h : fromM n lo hi = true) : lo ≤ n ∧ n ≤ hi := by simpa [fromM] using h
def loginM (s : SesM) : Bool := (s.upS == 0) && ((s.upB == 0) && (s.label.isEmpty && (s.depth == 0)))
def childM (s : SesM) : Bool := fromM s.upS 0 31 && (fromM s.upB 1 (s.birth - 1) && (nameM s.label && fromM s.depth 1 6))
def mayS (s : SesM) : Bool := fromM s.slot 0 31 && (fromM s.birth 1 1048576 && (nameM s.user && (fromM s.level 0 2 && (fromM s.born 0 1099511627776 && (fromM s.deadline (s.born + 1) 1099511627776 &&
  (if (s.kind == 0) = true then loginM s else if (s.kind == 1) = true then childM s else if (s.kind == 2) = true then (childM s && decide (s.deadline ≤ s.born + 300)) else false))))))
theorem label_no {l : List UInt8} (h : l.isEmpty = false) : ¬ (SB l).toList = [] := by
  rw [SB_toList]; cases l with
  | nil => simp at h
  | cons a l => simp
theorem label_yes {l : List UInt8} (h : l.isEmpty = true) : (SB l).toList = [] := by
  rw [SB_toList]; exact List.isEmpty_iff.1 h
theorem wrap_born {b : Int} (h : fromM b 0 1099511627776 = true) : IntKind.i64.wrap (b + 1) = b + 1 := by
  have := fromM_yes h; simp [IntKind.wrap, IntKind.bits, IntKind.signed]; omega
theorem wrap_birth {b : Int} (h : fromM b 1 1048576 = true) : IntKind.i64.wrap (b - 1) = b - 1 := by
  have := fromM_yes h; simp [IntKind.wrap, IntKind.bits, IntKind.signed]; omega
theorem wrap_dead {b d : Int} (h : fromM b 0 1099511627776 = true) (h2 : fromM d (b + 1) 1099511627776 = true) : IntKind.i64.wrap (d - b) = d - b := by
  have := fromM_yes h; have := fromM_yes h2; simp [IntKind.wrap, IntKind.bits, IntKind.signed]; omega
end Go.Proofs.YtgcnolapjppbpaaGreatDoor
namespace Go.Proofs.YtgcnolapjppbpaaGreatDoor
open Go.RowKit
set_option maxRecDepth 100000
structure EvtM where
  kind : Int
  s : SesM
  birth : Int
  ticks : Int
def EvtM.cells (e : EvtM) : Array Value := #[.int .i64 e.kind, .int .i64 e.s.slot, .int .i64 e.s.birth, .int .i64 e.s.upS, .int .i64 e.s.upB, .int .i64 e.s.kind, .string (SB e.s.user), .string (SB e.s.label), .int .u64 (e.s.scopes : Int), .int .i64 e.s.level, .int .i64 e.s.born, .int .i64 e.s.deadline, .int .i64 e.s.depth, .int .i64 e.birth, .int .i64 e.ticks]
def noSes : SesM := ⟨0, 0, 0, 0, 0, [], [], 0, 0, 0, 0, 0⟩
def sameS (s t : SesM) : Bool := (s.slot == t.slot) && ((s.birth == t.birth) && ((s.upS == t.upS) && ((s.upB == t.upB) && ((s.kind == t.kind) && ((s.user == t.user) && ((s.label == t.label) && (((s.scopes : Int) == (t.scopes : Int)) && ((s.level == t.level) && ((s.born == t.born) && ((s.deadline == t.deadline) && (s.depth == t.depth)))))))))))
def sameE (e f : EvtM) : Bool := (e.kind == f.kind) && (sameS e.s f.s && ((e.birth == f.birth) && (e.ticks == f.ticks)))
theorem sameS_iff {s t : SesM} : sameS s t = true ↔ s = t := by
  unfold sameS
  constructor
  · intro h
    simp only [Bool.and_eq_true, beq_iff_eq] at h
    obtain ⟨h1, h2, h3, h4, h5, h6, h7, h8, h9, h10, h11, h12⟩ := h
    have h8' : s.scopes = t.scopes := by omega
    cases s; cases t; simp_all
  · rintro rfl; simp
theorem sameE_iff {e f : EvtM} : sameE e f = true ↔ e = f := by
  unfold sameE
  constructor
  · intro h
    simp only [Bool.and_eq_true, beq_iff_eq, sameS_iff] at h
    obtain ⟨h1, h2, h3, h4⟩ := h
    cases e; cases f; simp_all
  · rintro rfl; simp [sameS_iff]
theorem bdec {α : Type} [DecidableEq α] [BEq α] [LawfulBEq α] {a b : α} : (a == b) = decide (a = b) := by rw [Bool.eq_iff_iff]; simp
theorem ite_step {α : Type} (g : Bool → α) {p : Prop} [Decidable p] {c b : Bool} {X : Result α} {w : World} {z : α} (h : c = decide p) (hz : z = g false) (hx : X = Result.ok (g b) w) :
    (if p then X else Result.ok z w) = Result.ok (g (c && b)) w := by
  subst h; subst hz; subst hx
  by_cases hp : p
  · rw [if_pos hp, decide_eq_true hp]; rfl
  · rw [if_neg hp, decide_eq_false hp]; rfl
theorem ite_last {α : Type} (g : Bool → α) {p : Prop} [Decidable p] {c : Bool} {w : World} {y z : α} (h : c = decide p) (hz : z = g false) (hy : y = g true) :
    (if p then Result.ok y w else Result.ok z w) = Result.ok (g c) w := by
  subst h; subst hz; subst hy
  by_cases hp : p
  · rw [if_pos hp, decide_eq_true hp]
  · rw [if_neg hp, decide_eq_false hp]
theorem run_neqE (e f : EvtM) (w : World) : (binOp .neq 47 (.agg e.cells) (.agg f.cells)).run Tryz.prog w = .ok (.bool (!(sameE e f))) w := by
  obtain ⟨r, hr⟩ : ∃ r, r = sameE e f := ⟨_, rfl⟩
  rw [← hr]
  unfold EvtM.cells
  go_simp
  subst hr
  unfold sameE sameS
  simp only [SB_toList, Bool.and_assoc]
  refine ite_step (fun b => Value.bool (!b)) bdec rfl ?_
  refine ite_step (fun b => Value.bool (!b)) bdec rfl ?_
  refine ite_step (fun b => Value.bool (!b)) bdec rfl ?_
  refine ite_step (fun b => Value.bool (!b)) bdec rfl ?_
  refine ite_step (fun b => Value.bool (!b)) bdec rfl ?_
  refine ite_step (fun b => Value.bool (!b)) bdec rfl ?_
  refine ite_step (fun b => Value.bool (!b)) bdec rfl ?_
  refine ite_step (fun b => Value.bool (!b)) bdec rfl ?_
  refine ite_step (fun b => Value.bool (!b)) bdec rfl ?_
  refine ite_step (fun b => Value.bool (!b)) bdec rfl ?_
  refine ite_step (fun b => Value.bool (!b)) bdec rfl ?_
  refine ite_step (fun b => Value.bool (!b)) bdec rfl ?_
  refine ite_step (fun b => Value.bool (!b)) bdec rfl ?_
  refine ite_step (fun b => Value.bool (!b)) bdec rfl ?_
  refine ite_last (fun b => Value.bool (!b)) ?_ rfl rfl
  exact bdec
end Go.Proofs.YtgcnolapjppbpaaGreatDoor
namespace Go.Proofs.YtgcnolapjppbpaaGreatDoor
open Go.RowKit
set_option maxRecDepth 100000
def mayE (e : EvtM) : Bool := if (e.kind == 0) = true then (e.birth == 0) && ((e.ticks == 0) && mayS e.s)
  else if (e.kind == 1) = true then sameS e.s noSes && ((e.ticks == 0) && fromM e.birth 1 1048576)
  else if (e.kind == 2) = true then sameS e.s noSes && ((e.birth == 0) && fromM e.ticks 1 1073741824) else false
theorem below_two (w : World) (o o' : Obj) : Below w.heap.size w ((w.alloc o).alloc o') := (below_alloc w o).trans ((below_alloc _ o').mono (by simp))
end Go.Proofs.YtgcnolapjppbpaaGreatDoor
namespace Go.Proofs.YtgcnolapjppbpaaGreatDoor
open Go.RowKit
set_option maxRecDepth 100000
theorem nameP_at {l : List UInt8} {b : Bool} (h : nameM l = b) (hl : l.length ≤ 9223372036854775807) (w : World) :
    Calls Tryz.prog 215 #[.string (SB l)] w fun e w' => e = .returned (.bool b) ∧ Below w.heap.size w w' := h ▸ nameP_calls l w hl
theorem pFrom_calls {n lo hi : Int} {b : Bool} (h : fromM n lo hi = b) (w : World) :
    Calls Tryz.prog 214 #[.int .i64 n, .int .i64 lo, .int .i64 hi] w fun e w' => e = .returned (.bool b) ∧ w' = w := by
  subst h
  unfold fromM
  go_enter Tryz.func214, Tryz.ntmps214
  by_cases h1 : lo ≤ n
  · by_cases h2 : n ≤ hi
    · go_wp2_with fail
      go_ret
      simp [h1, h2]
    · go_wp2_with fail
      go_ret
      simp [h2]
  · go_wp2_with fail
    go_ret
    simp; intro h; omega
set_option maxHeartbeats 3200000 in
theorem birthMay_calls (s : SesM) (w : World) (hu : s.user.length ≤ 9223372036854775807) (hl : s.label.length ≤ 9223372036854775807) :
    Calls Tryz.prog 213 #[.agg s.cells] w fun e w' => e = .returned (.bool (mayS s)) ∧ Below w.heap.size w w' := by
  have hmay : ∀ b, mayS s = b → (b = mayS s) := fun _ h => h.symm
  have Hm := Lib.hid hmay
  have HBX := Lib.hid (fun o => Box.new (w.alloc o) s.cells 45)
  unfold SesM.cells at HBX ⊢
  have Hb := Lib.hid (fun o o2 => below_two w o o2)
  clear hmay
  go_enter Tryz.func213, Tryz.ntmps213
  go_wp2_with fail
  cases h1 : fromM s.slot 0 31
  · refine (pFrom_calls h1 _).mono ?_
    rintro e w1 ⟨rfl, rfl⟩
    go_wp2_with fail
    go_ret
    exact ⟨ret_eq (congrArg Value.bool (Hm.out _ (by unfold mayS loginM childM; rw [h1]; first | done | rfl))), Hb.out _ _⟩
  refine (pFrom_calls h1 _).mono ?_
  rintro e w1 ⟨rfl, rfl⟩
  go_wp2_with fail
  cases h2 : fromM s.birth 1 1048576
  · refine (pFrom_calls h2 _).mono ?_
    rintro e w1 ⟨rfl, rfl⟩
    go_wp2_with fail
    go_ret
    exact ⟨ret_eq (congrArg Value.bool (Hm.out _ (by unfold mayS loginM childM; rw [h1, h2]; first | done | rfl))), Hb.out _ _⟩
  refine (pFrom_calls h2 _).mono ?_
  rintro e w1 ⟨rfl, rfl⟩
  go_wp2_with fail
  cases h3 : nameM s.user
  · refine (nameP_at h3 hu _).mono ?_
    rintro e w1 ⟨rfl, hb1⟩
    have HB1 := Lib.hid ((Hb.out _ _).trans (hb1.mono (by simp; omega)))
    clear hb1
    go_wp2_with fail
    go_ret
    exact ⟨ret_eq (congrArg Value.bool (Hm.out _ (by unfold mayS loginM childM; rw [h1, h2, h3]; first | done | rfl))), HB1.out⟩
  refine (nameP_at h3 hu _).mono ?_
  rintro e w1 ⟨rfl, hb1⟩
  have HB1 := Lib.hid ((Hb.out _ _).trans (hb1.mono (by simp; omega)))
  have hbx := (HBX.out _).below hb1
  rw [World.size_alloc] at hbx
  have HBX1 := Lib.hid hbx
  clear hb1
  have x0 := hbx.cell 0 _ rfl
  have x1 := hbx.cell 1 _ rfl
  have x2 := hbx.cell 2 _ rfl
  have x3 := hbx.cell 3 _ rfl
  have x4 := hbx.cell 4 _ rfl
  have x6 := hbx.cell 6 _ rfl
  have x8 := hbx.cell 8 _ rfl
  have x9 := hbx.cell 9 _ rfl
  have x10 := hbx.cell 10 _ rfl
  have x11 := hbx.cell 11 _ rfl
  clear hbx
  go_wp2_with fail
  cases h4 : fromM s.level 0 2
  · refine (pFrom_calls h4 _).mono ?_
    rintro e w1 ⟨rfl, rfl⟩
    go_wp2_with fail
    go_ret
    exact ⟨ret_eq (congrArg Value.bool (Hm.out _ (by unfold mayS loginM childM; rw [h1, h2, h3, h4]; first | done | rfl))), HB1.out⟩
  refine (pFrom_calls h4 _).mono ?_
  rintro e w1 ⟨rfl, rfl⟩
  go_wp2_with fail
  cases h5 : fromM s.born 0 1099511627776
  · refine (pFrom_calls h5 _).mono ?_
    rintro e w1 ⟨rfl, rfl⟩
    go_wp2_with fail
    go_ret
    exact ⟨ret_eq (congrArg Value.bool (Hm.out _ (by unfold mayS loginM childM; rw [h1, h2, h3, h4, h5]; first | done | rfl))), HB1.out⟩
  refine (pFrom_calls h5 _).mono ?_
  rintro e w1 ⟨rfl, rfl⟩
  have z1 := wrap_born h5
  go_wp2_with fail
  cases h6 : fromM s.deadline (s.born + 1) 1099511627776
  · refine (pFrom_calls h6 _).mono ?_
    rintro e w1 ⟨rfl, rfl⟩
    go_wp2_with fail
    go_ret
    exact ⟨ret_eq (congrArg Value.bool (Hm.out _ (by unfold mayS loginM childM; rw [h1, h2, h3, h4, h5, h6]; first | done | rfl))), HB1.out⟩
  refine (pFrom_calls h6 _).mono ?_
  rintro e w1 ⟨rfl, rfl⟩
  have z2 := wrap_birth h2
  have z3 := wrap_dead h5 h6
  cases k0 : (s.kind == 0)
  rotate_left
  · cases u1 : (s.upS == 0)
    · go_wp2_with fail
      go_ret
      exact ⟨ret_eq (congrArg Value.bool (Hm.out _ (by unfold mayS loginM childM; rw [h1, h2, h3, h4, h5, h6, k0, u1]; first | done | rfl))), HB1.out⟩
    cases u2 : (s.upB == 0)
    · go_wp2_with fail
      go_ret
      exact ⟨ret_eq (congrArg Value.bool (Hm.out _ (by unfold mayS loginM childM; rw [h1, h2, h3, h4, h5, h6, k0, u1, u2]; first | done | rfl))), HB1.out⟩
    cases u3 : s.label.isEmpty
    · have u5 : ¬ (SB s.label).toList = [] := label_no u3
      go_wp2_with fail
      go_ret
      exact ⟨ret_eq (congrArg Value.bool (Hm.out _ (by unfold mayS loginM childM; rw [h1, h2, h3, h4, h5, h6, k0, u1, u2, u3]; first | done | rfl))), HB1.out⟩
    have u5 : (SB s.label).toList = [] := label_yes u3
    cases u4 : (s.depth == 0)
    · go_wp2_with fail
      go_ret
      exact ⟨ret_eq (congrArg Value.bool (Hm.out _ (by unfold mayS loginM childM; rw [h1, h2, h3, h4, h5, h6, k0, u1, u2, u3, u4]; first | done | rfl))), HB1.out⟩
    go_wp2_with fail
    go_ret
    exact ⟨ret_eq (congrArg Value.bool (Hm.out _ (by unfold mayS loginM childM; rw [h1, h2, h3, h4, h5, h6, k0, u1, u2, u3, u4]; first | done | rfl))), HB1.out⟩
  cases k1 : (s.kind == 1)
  rotate_left
  · have k2 : (s.kind == 2) = false := by simp at k1 ⊢; omega
    have k3 : (s.kind != 1) = false := by simp at k1 ⊢; omega
    go_wp2_with fail
    cases c1 : fromM s.upS 0 31
    · refine (pFrom_calls c1 _).mono ?_
      rintro e w1 ⟨rfl, rfl⟩
      go_wp2_with fail
      go_ret
      exact ⟨ret_eq (congrArg Value.bool (Hm.out _ (by unfold mayS loginM childM; rw [h1, h2, h3, h4, h5, h6, k0, k1, c1]; first | done | rfl))), HB1.out⟩
    refine (pFrom_calls c1 _).mono ?_
    rintro e w1 ⟨rfl, rfl⟩
    go_wp2_with fail
    cases c2 : fromM s.upB 1 (s.birth - 1)
    · refine (pFrom_calls c2 _).mono ?_
      rintro e w1 ⟨rfl, rfl⟩
      go_wp2_with fail
      go_ret
      exact ⟨ret_eq (congrArg Value.bool (Hm.out _ (by unfold mayS loginM childM; rw [h1, h2, h3, h4, h5, h6, k0, k1, c1, c2]; first | done | rfl))), HB1.out⟩
    refine (pFrom_calls c2 _).mono ?_
    rintro e w1 ⟨rfl, rfl⟩
    go_wp2_with fail
    cases c3 : nameM s.label
    · refine (nameP_at c3 hl _).mono ?_
      rintro e w2 ⟨rfl, hb2⟩
      have HB2 := Lib.hid (HB1.out.trans (hb2.mono HB1.out.size))
      clear hb2
      go_wp2_with fail
      go_ret
      exact ⟨ret_eq (congrArg Value.bool (Hm.out _ (by unfold mayS loginM childM; rw [h1, h2, h3, h4, h5, h6, k0, k1, c1, c2, c3]; first | done | rfl))), HB2.out⟩
    refine (nameP_at c3 hl _).mono ?_
    rintro e w2 ⟨rfl, hb2⟩
    have HB2 := Lib.hid (HB1.out.trans (hb2.mono HB1.out.size))
    have d11 := (HBX1.out.below hb2).cell 11 _ rfl
    clear hb2
    go_wp2_with fail
    cases d4 : fromM s.depth 1 6
    · refine (pFrom_calls d4 _).mono ?_
      rintro e w1 ⟨rfl, rfl⟩
      go_wp2_with fail
      go_ret
      exact ⟨ret_eq (congrArg Value.bool (Hm.out _ (by unfold mayS loginM childM; rw [h1, h2, h3, h4, h5, h6, k0, k1, c1, c2, c3, d4]; first | done | rfl))), HB2.out⟩
    refine (pFrom_calls d4 _).mono ?_
    rintro e w1 ⟨rfl, rfl⟩
    go_wp2_with fail
    go_ret
    exact ⟨ret_eq (congrArg Value.bool (Hm.out _ (by unfold mayS loginM childM; rw [h1, h2, h3, h4, h5, h6, k0, k1, c1, c2, c3, d4]; first | done | rfl))), HB2.out⟩
  have k3 : (s.kind != 1) = true := by simp at k1 ⊢; omega
  cases k2 : (s.kind == 2)
  · have k4 : (s.kind != 2) = true := by simp at k2 ⊢; omega
    go_wp2_with fail
    go_ret
    exact ⟨ret_eq (congrArg Value.bool (Hm.out _ (by unfold mayS loginM childM; rw [h1, h2, h3, h4, h5, h6, k0, k1, k2]; first | done | rfl))), HB1.out⟩
  have k4 : (s.kind != 2) = false := by simp at k2 ⊢; omega
  by_cases c5 : s.deadline ≤ s.born + 300
  · have c6 : decide (s.deadline ≤ s.born + 300) = true := decide_eq_true c5
    have c7 : ¬ (300 : Int) < s.deadline - s.born := by omega
    clear c5
    go_wp2_with fail
    cases c1 : fromM s.upS 0 31
    · refine (pFrom_calls c1 _).mono ?_
      rintro e w1 ⟨rfl, rfl⟩
      go_wp2_with fail
      go_ret
      exact ⟨ret_eq (congrArg Value.bool (Hm.out _ (by unfold mayS loginM childM; rw [h1, h2, h3, h4, h5, h6, k0, k1, k2, c6, c1]; first | done | rfl))), HB1.out⟩
    refine (pFrom_calls c1 _).mono ?_
    rintro e w1 ⟨rfl, rfl⟩
    go_wp2_with fail
    cases c2 : fromM s.upB 1 (s.birth - 1)
    · refine (pFrom_calls c2 _).mono ?_
      rintro e w1 ⟨rfl, rfl⟩
      go_wp2_with fail
      go_ret
      exact ⟨ret_eq (congrArg Value.bool (Hm.out _ (by unfold mayS loginM childM; rw [h1, h2, h3, h4, h5, h6, k0, k1, k2, c6, c1, c2]; first | done | rfl))), HB1.out⟩
    refine (pFrom_calls c2 _).mono ?_
    rintro e w1 ⟨rfl, rfl⟩
    go_wp2_with fail
    cases c3 : nameM s.label
    · refine (nameP_at c3 hl _).mono ?_
      rintro e w2 ⟨rfl, hb2⟩
      have HB2 := Lib.hid (HB1.out.trans (hb2.mono HB1.out.size))
      clear hb2
      go_wp2_with fail
      go_ret
      exact ⟨ret_eq (congrArg Value.bool (Hm.out _ (by unfold mayS loginM childM; rw [h1, h2, h3, h4, h5, h6, k0, k1, k2, c6, c1, c2, c3]; first | done | rfl))), HB2.out⟩
    refine (nameP_at c3 hl _).mono ?_
    rintro e w2 ⟨rfl, hb2⟩
    have HB2 := Lib.hid (HB1.out.trans (hb2.mono HB1.out.size))
    have d11 := (HBX1.out.below hb2).cell 11 _ rfl
    clear hb2
    go_wp2_with fail
    cases d4 : fromM s.depth 1 6
    · refine (pFrom_calls d4 _).mono ?_
      rintro e w1 ⟨rfl, rfl⟩
      go_wp2_with fail
      go_ret
      exact ⟨ret_eq (congrArg Value.bool (Hm.out _ (by unfold mayS loginM childM; rw [h1, h2, h3, h4, h5, h6, k0, k1, k2, c6, c1, c2, c3, d4]; first | done | rfl))), HB2.out⟩
    refine (pFrom_calls d4 _).mono ?_
    rintro e w1 ⟨rfl, rfl⟩
    go_wp2_with fail
    go_ret
    exact ⟨ret_eq (congrArg Value.bool (Hm.out _ (by unfold mayS loginM childM; rw [h1, h2, h3, h4, h5, h6, k0, k1, k2, c6, c1, c2, c3, d4]; first | done | rfl))), HB2.out⟩
  have c6 : decide (s.deadline ≤ s.born + 300) = false := decide_eq_false c5
  have c7 : (300 : Int) < s.deadline - s.born := by omega
  clear c5
  go_wp2_with fail
  go_ret
  exact ⟨ret_eq (congrArg Value.bool (Hm.out _ (by unfold mayS; rw [h1, h2, h3, h4, h5, h6, k0, k1, k2, c6]; first | done | simp))), HB1.out⟩
theorem revokeMay_calls (n : Int) (w : World) :
    Calls Tryz.prog 224 #[.agg #[.int .i64 n]] w fun e w' => e = .returned (.bool (fromM n 1 1048576)) ∧ Below w.heap.size w w' := by
  have Hb := Lib.hid (fun o => below_alloc w o)
  go_enter Tryz.func224, Tryz.ntmps224
  go_wp2_with fail
  refine (pFrom_calls rfl _).mono ?_
  rintro e w1 ⟨rfl, rfl⟩
  go_wp2_with fail
  go_ret
  exact ⟨rfl, Hb.out _⟩
theorem tickMay_calls (n : Int) (w : World) :
    Calls Tryz.prog 225 #[.agg #[.int .i64 n]] w fun e w' => e = .returned (.bool (fromM n 1 1073741824)) ∧ Below w.heap.size w w' := by
  have Hb := Lib.hid (fun o => below_alloc w o)
  go_enter Tryz.func225, Tryz.ntmps225
  go_wp2_with fail
  refine (pFrom_calls rfl _).mono ?_
  rintro e w1 ⟨rfl, rfl⟩
  go_wp2_with fail
  go_ret
  exact ⟨rfl, Hb.out _⟩
end Go.Proofs.YtgcnolapjppbpaaGreatDoor
namespace Go.Proofs.YtgcnolapjppbpaaGreatDoor
open Go.RowKit
theorem wpList_load_k {P : Program} {ops : Array Oper} {rest : List Oper} {op : Oper} {a : Act} {w : World} {Q : Exit → Act → World → Prop} (hgd : op.guard = none) (ty : TypeId) (x : Operand) (ho : op.op = .load ty x)
    (b o : Nat) (hx : a.eval x = .pointer (some ⟨b, o, none⟩)) (cs : List Value) (d : TypeDesc) (hc : w.rangeAt b o cs)
    (hu : P.underlying ty = some d) (hd : d.isRow = true) (hi : (P.info? ty).map (·.size) = some cs.length)
    (h : ∀ c, Hid (c = cs.toArray) → wpList P ops Q rest (a.put op.dst (.agg c)) w) : wpList P ops Q (op :: rest) a w :=
  wpList_load_mid hgd ty x ho b o hx cs d hc hu hd hi (h _ (Lib.hid rfl))
theorem wpStill_load_k {P : Program} {ops : Array Oper} {rest : List Oper} {op : Oper} {a : Act} {w : World} {Q : Act → Prop} (hw : Region.wanted op (yielded ops a.tmps) = true) (ty : TypeId) (x : Operand) (ho : op.op = .load ty x)
    (b o : Nat) (hx : a.eval x = .pointer (some ⟨b, o, none⟩)) (cs : List Value) (d : TypeDesc) (hc : w.rangeAt b o cs)
    (hu : P.underlying ty = some d) (hd : d.isRow = true) (hi : (P.info? ty).map (·.size) = some cs.length)
    (h : ∀ c, Hid (c = cs.toArray) → wpStill P ops w Q rest (a.put op.dst (.agg c))) : wpStill P ops w Q (op :: rest) a := by
  unfold wpStill
  rw [if_pos hw]
  unfold Oper.still execOp
  simp only [ho, hx, Instr.loadAt, Instr.sureAddr, Sem.run_bind, Sem.run_pure, Result.andThen_ok, run_loadVar_mid w b o ty cs d hc hu hd hi]
  exact ⟨rfl, h _ (Lib.hid rfl)⟩
theorem wpList_store_k {P : Program} {ops : Array Oper} {rest : List Oper} {op : Oper} {a : Act} {w : World} {Q : Exit → Act → World → Prop} (hgd : op.guard = none) (ty : TypeId) (x y : Operand) (ho : op.op = .store ty x y)
    (b o : Nat) (cs : List Value) (hx : a.eval x = .pointer (some ⟨b, o, none⟩)) (c : Array Value) (hy : a.eval y = .agg c) (hv : Hid (c = cs.toArray))
    (ht : w.there b o cs.length) (hi : (P.info? ty).map (·.size) = some cs.length) (h1 : ∀ v ∈ cs, v.oneCell' = true)
    (h : ∀ w', Hid (w' = w.setCells b o cs) → wpList P ops Q rest (a.put op.dst undef) w') : wpList P ops Q (op :: rest) a w :=
  wpList_store_mid hgd ty x y ho b o cs.toArray hx (hy.trans (congrArg Value.agg hv.out)) (by simpa using ht) (by simpa using hi) (all_oneCell_toArray h1) (h _ (Lib.hid (by simp)))
theorem ret_cell_tmp {P : Program} {fn : Func} {R : Ending → World → Prop} {a : Act} {w : World} {p u : Tmp} {ty : TypeId} (h : fn.results = #[.cell p ty, .tmp u]) (hdf : a.defers = [])
    (b o : Nat) (hp : a.tmps.getD p undef = .pointer (some ⟨b, o, none⟩)) (cs : List Value) (d : TypeDesc) (hc : w.rangeAt b o cs)
    (hu : P.underlying ty = some d) (hd : d.isRow = true) (hi : (P.info? ty).map (·.size) = some cs.length)
    (x : Value) (hx : a.tmps.getD u undef = x) (hR : R (.returned (.tuple #[.agg cs.toArray, x])) w) : bodyPost P fn R .ret a w := by
  refine bodyPost_ret (v := .tuple #[.agg cs.toArray, x]) ?_ hdf hR
  rw [results_cell_tmp h, hp, hx]
  simp [asAddr, Result.andThen, run_loadVar_mid w b o ty cs d hc hu hd hi]
theorem ret_cell {P : Program} {fn : Func} {R : Ending → World → Prop} {a : Act} {w : World} {p : Tmp} {ty : TypeId} (h : fn.results = #[.cell p ty]) (hdf : a.defers = [])
    (b o : Nat) (hp : a.tmps.getD p undef = .pointer (some ⟨b, o, none⟩)) (cs : List Value) (d : TypeDesc) (hc : w.rangeAt b o cs)
    (hu : P.underlying ty = some d) (hd : d.isRow = true) (hi : (P.info? ty).map (·.size) = some cs.length)
    (hR : R (.returned (.agg cs.toArray)) w) : bodyPost P fn R .ret a w := by
  refine bodyPost_ret (v := .agg cs.toArray) ?_ hdf hR
  simp only [results, h]
  have hp2 : a.tmps[p]?.getD undef = .pointer (some ⟨b, o, none⟩) := by simpa using hp
  simp [hp2, asAddr, run_loadVar_mid w b o ty cs d hc hu hd hi]
theorem Box.setCells {b : Nat} {t : TypeId} : ∀ (vs : List Value) (o : Nat) {w : World} {cs : Array Value}, Box w b cs t → o + vs.length ≤ cs.size →
    ∃ cs', Box (w.setCells b o vs) b cs' t ∧ cs'.size = cs.size ∧ (∀ j v, vs[j]? = some v → cs'[o + j]? = some v) ∧ ∀ j, j < o ∨ o + vs.length ≤ j → cs'[j]? = cs[j]?
  | [], o, _, cs, h, _ => ⟨cs, h, rfl, fun j v hv => by simp at hv, fun _ _ => rfl⟩
  | x :: r, o, w, cs, h, hl => by
    simp only [List.length_cons] at hl
    obtain ⟨cs', h1, h2, h3, h4⟩ := Box.setCells r (o + 1) (h.set o x) (by simp; omega)
    rw [World.setCells]
    refine ⟨cs', h1, by simpa using h2, fun j v hv => ?_, fun j hj => ?_⟩
    · cases j with
      | zero =>
        rw [Nat.add_zero, h4 o (by omega)]
        simp at hv
        subst hv
        simp [show o < cs.size by omega]
      | succ j =>
        have := h3 j v (by simpa using hv)
        rw [show o + (j + 1) = o + 1 + j by omega]; exact this
    · simp only [List.length_cons] at hj
      rw [h4 j (by omega)]
      simp [show o ≠ j by omega]
theorem Mod.setCells (F : Nat → Prop) (b : Nat) (hb : F b) : ∀ (vs : List Value) (o : Nat) (w : World), Mod F w (w.setCells b o vs)
  | [], _, _ => Mod.refl _ _
  | v :: r, o, w => (Mod.set F w ⟨b, o, none⟩ v hb).trans (Mod.setCells F b hb r (o + 1) _)
end Go.Proofs.YtgcnolapjppbpaaGreatDoor
