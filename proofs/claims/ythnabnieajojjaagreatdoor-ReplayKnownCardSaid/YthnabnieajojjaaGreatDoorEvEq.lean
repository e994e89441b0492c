/-
  Sessions and events, held against one another.
-/
import Derived.Test.YthnabnieajojjaaGreatDoorEvM
namespace Go.Proofs.YthnabnieajojjaaGreatDoor
open Go.RowKit
set_option maxRecDepth 100000

structure EvtM where
  kind : Int
  s : SesM
  birth : Int
  ticks : Int
def EvtM.cells (e : EvtM) : Array Value := #[.int .i64 e.kind, .int .i64 e.s.slot, .int .i64 e.s.birth, .int .i64 e.s.upS, .int .i64 e.s.upB, .int .i64 e.s.kind, .string (SB e.s.user), .string (SB e.s.label), .int .u64 (e.s.scopes : Int), .int .i64 e.s.level, .int .i64 e.s.born, .int .i64 e.s.deadline, .int .i64 e.s.depth, .int .i64 e.birth, .int .i64 e.ticks]
def noSes : SesM := ⟨0, 0, 0, 0, 0, [], [], 0, 0, 0, 0, 0⟩
def sameS (s t : SesM) : Bool := (s.slot == t.slot) && ((s.birth == t.birth) && ((s.upS == t.upS) && ((s.upB == t.upB) && ((s.kind == t.kind) && ((s.user == t.user) && ((s.label == t.label) && (((s.scopes : Int) == (t.scopes : Int)) && ((s.level == t.level) && ((s.born == t.born) && ((s.deadline == t.deadline) && (s.depth == t.depth)))))))))))
def sameE (e f : EvtM) : Bool := (e.kind == f.kind) && (sameS e.s f.s && ((e.birth == f.birth) && (e.ticks == f.ticks)))
theorem sameS_iff {s t : SesM} : sameS s t = true ↔ s = t := by
  unfold sameS
  constructor
  · intro h
    simp only [Bool.and_eq_true, beq_iff_eq] at h
    obtain ⟨h1, h2, h3, h4, h5, h6, h7, h8, h9, h10, h11, h12⟩ := h
    have h8' : s.scopes = t.scopes := by omega
    cases s; cases t; simp_all
  · rintro rfl; simp
theorem sameE_iff {e f : EvtM} : sameE e f = true ↔ e = f := by
  unfold sameE
  constructor
  · intro h
    simp only [Bool.and_eq_true, beq_iff_eq, sameS_iff] at h
    obtain ⟨h1, h2, h3, h4⟩ := h
    cases e; cases f; simp_all
  · rintro rfl; simp [sameS_iff]
theorem bdec {α : Type} [DecidableEq α] [BEq α] [LawfulBEq α] {a b : α} : (a == b) = decide (a = b) := by rw [Bool.eq_iff_iff]; simp
theorem ite_step {α : Type} (g : Bool → α) {p : Prop} [Decidable p] {c b : Bool} {X : Result α} {w : World} {z : α} (h : c = decide p) (hz : z = g false) (hx : X = Result.ok (g b) w) :
    (if p then X else Result.ok z w) = Result.ok (g (c && b)) w := by
  subst h; subst hz; subst hx
  by_cases hp : p
  · rw [if_pos hp, decide_eq_true hp]; rfl
  · rw [if_neg hp, decide_eq_false hp]; rfl
theorem ite_last {α : Type} (g : Bool → α) {p : Prop} [Decidable p] {c : Bool} {w : World} {y z : α} (h : c = decide p) (hz : z = g false) (hy : y = g true) :
    (if p then Result.ok y w else Result.ok z w) = Result.ok (g c) w := by
  subst h; subst hz; subst hy
  by_cases hp : p
  · rw [if_pos hp, decide_eq_true hp]
  · rw [if_neg hp, decide_eq_false hp]
theorem run_eqlS (s t : SesM) (w : World) : (binOp .eql 36 (.agg s.cells) (.agg t.cells)).run Tryz.prog w = .ok (.bool (sameS s t)) w := by
  unfold SesM.cells sameS
  go_simp
  simp only [SB_toList]
  refine ite_step (Value.bool) bdec rfl ?_
  refine ite_step (Value.bool) bdec rfl ?_
  refine ite_step (Value.bool) bdec rfl ?_
  refine ite_step (Value.bool) bdec rfl ?_
  refine ite_step (Value.bool) bdec rfl ?_
  refine ite_step (Value.bool) bdec rfl ?_
  refine ite_step (Value.bool) bdec rfl ?_
  refine ite_step (Value.bool) bdec rfl ?_
  refine ite_step (Value.bool) bdec rfl ?_
  refine ite_step (Value.bool) bdec rfl ?_
  refine ite_step (Value.bool) bdec rfl ?_
  exact ite_last (Value.bool) bdec rfl rfl
theorem run_eqlE (e f : EvtM) (w : World) : (binOp .eql 38 (.agg e.cells) (.agg f.cells)).run Tryz.prog w = .ok (.bool (sameE e f)) w := by
  unfold EvtM.cells sameE sameS
  go_simp
  simp only [SB_toList, Bool.and_assoc]
  refine ite_step (Value.bool) bdec rfl ?_
  refine ite_step (Value.bool) bdec rfl ?_
  refine ite_step (Value.bool) bdec rfl ?_
  refine ite_step (Value.bool) bdec rfl ?_
  refine ite_step (Value.bool) bdec rfl ?_
  refine ite_step (Value.bool) bdec rfl ?_
  refine ite_step (Value.bool) bdec rfl ?_
  refine ite_step (Value.bool) bdec rfl ?_
  refine ite_step (Value.bool) bdec rfl ?_
  refine ite_step (Value.bool) bdec rfl ?_
  refine ite_step (Value.bool) bdec rfl ?_
  refine ite_step (Value.bool) bdec rfl ?_
  refine ite_step (Value.bool) bdec rfl ?_
  refine ite_step (Value.bool) bdec rfl ?_
  exact ite_last (Value.bool) bdec rfl rfl
theorem run_neqE (e f : EvtM) (w : World) : (binOp .neq 38 (.agg e.cells) (.agg f.cells)).run Tryz.prog w = .ok (.bool (!(sameE e f))) w := by
  obtain ⟨r, hr⟩ : ∃ r, r = sameE e f := ⟨_, rfl⟩
  rw [← hr]
  unfold EvtM.cells
  go_simp
  subst hr
  unfold sameE sameS
  simp only [SB_toList, Bool.and_assoc]
  refine ite_step (fun b => Value.bool (!b)) bdec rfl ?_
  refine ite_step (fun b => Value.bool (!b)) bdec rfl ?_
  refine ite_step (fun b => Value.bool (!b)) bdec rfl ?_
  refine ite_step (fun b => Value.bool (!b)) bdec rfl ?_
  refine ite_step (fun b => Value.bool (!b)) bdec rfl ?_
  refine ite_step (fun b => Value.bool (!b)) bdec rfl ?_
  refine ite_step (fun b => Value.bool (!b)) bdec rfl ?_
  refine ite_step (fun b => Value.bool (!b)) bdec rfl ?_
  refine ite_step (fun b => Value.bool (!b)) bdec rfl ?_
  refine ite_step (fun b => Value.bool (!b)) bdec rfl ?_
  refine ite_step (fun b => Value.bool (!b)) bdec rfl ?_
  refine ite_step (fun b => Value.bool (!b)) bdec rfl ?_
  refine ite_step (fun b => Value.bool (!b)) bdec rfl ?_
  refine ite_step (fun b => Value.bool (!b)) bdec rfl ?_
  refine ite_last (fun b => Value.bool (!b)) ?_ rfl rfl
  exact bdec
end Go.Proofs.YthnabnieajojjaaGreatDoor
