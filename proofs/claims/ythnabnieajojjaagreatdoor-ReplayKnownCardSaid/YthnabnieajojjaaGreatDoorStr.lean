/-
  Strings as lists of bytes: conversions and appends.
-/
import Derived.Test.YthnabnieajojjaaGreatDoorOwnM
import Derived.Laws.IdiomStrings
import Derived.Laws.BytesArg
import Derived.Test.YthnabnieajojjaaGreatDoorKitB0
namespace Go.Proofs.YthnabnieajojjaaGreatDoor
open Go.RowKit

def SB (l : List UInt8) : ByteArray := ⟨l.toArray⟩
def SV (l : List UInt8) : Value := .string (SB l)
@[simp] theorem SB_size (l : List UInt8) : (SB l).size = l.length := by simp [SB, ByteArray.size]
theorem SB_data (l : List UInt8) : (SB l).data.toList = l := by simp [SB]
theorem SB_get (l : List UInt8) (i : Nat) (h : i < (SB l).size) : (SB l)[i]'h = l.getD i 0 := by
  have h' : i < l.length := by simpa using h
  show (SB l).data[i]'_ = _
  simp [SB, List.getD, h']
theorem SB_ext {a b : ByteArray} (h : a.data.toList = b.data.toList) : a = b := by
  cases a; cases b; simp only [ByteArray.mk.injEq] at *; exact Array.ext' h
theorem SB_inj {a b : List UInt8} (h : SB a = SB b) : a = b := by
  have := congrArg (fun x : ByteArray => x.data.toList) h; simpa [SB] using this
theorem SB_extract (l : List UInt8) (i j : Nat) : (SB l).extract i j = SB ((l.take j).drop i) := by
  apply SB_ext
  simp [SB, ByteArray.data_extract, List.drop_take]
theorem SB_add (a b : List UInt8) : SB a ++ SB b = SB (a ++ b) := by unfold SB; rw [ByteArray.mk_append_mk]
theorem SV_inj {a b : List UInt8} (h : SV a = SV b) : a = b := by unfold SV at h; injection h with h; exact SB_inj h
theorem SB_of (s : ByteArray) : ∃ l, s = SB l ∧ l.length = s.size := ⟨s.data.toList, by apply SB_ext; simp [SB], by show s.data.toList.length = s.data.size; simp⟩
/-- 'string(b)'. -/
theorem convS {w : World} {v : Value} {n : Nat} (l : List UInt8) (h : Rd w v n (l.map V8)) (hn : n = l.length) : (convert 49 9 v).run Tryz.prog w = .ok (.string (SB l)) w := by
  subst hn
  obtain ⟨a, cap, rfl, h1, h2, h3, h4⟩ := h
  cases l with
  | nil =>
    cases a with
    | none => exact run_convert_bytes_nil w 49 5 Tryz.underlying49 Tryz.underlying5 _ _ 9 Tryz.underlying9
    | some a => exact run_convert_bytes_back w 49 9 5 a cap [] Tryz.underlying49 Tryz.underlying5 Tryz.underlying9 (fun j hj => by simp at hj)
  | cons c l =>
    obtain ⟨b, off, rfl, _⟩ := h4 0 (by simp)
    refine run_convert_bytes_back w 49 9 5 _ cap (c :: l) Tryz.underlying49 Tryz.underlying5 Tryz.underlying9 (fun j hj => ?_)
    obtain ⟨b', off', e, h5⟩ := h4 j (by simpa using hj)
    injection e with e; injection e with e1 e2; subst e1; subst e2
    have hadd : (⟨b, off, none⟩ : Addr).add j = ⟨b, off + j, none⟩ := by unfold Addr.add; split <;> simp_all
    rw [hadd, h5, List.getD, List.getElem?_map, List.getElem?_eq_getElem hj]; rfl
/-- '[]byte(s)'. -/
theorem bytesS (w : World) (l : List UInt8) : (convert 9 49 (.string (SB l))).run Tryz.prog w = .ok (.slice (some ⟨w.heap.size, 0, none⟩) l.length (grownCap w l.length 0 5)) (Lib.bytesWorld w 5 (SB l)) := by
  have := Lib.run_convert_string_bytes (P := Tryz.prog) w 9 49 5 (SB l) Tryz.underlying9 Tryz.underlying49 Tryz.underlying5
  simpa using this
theorem bytesW_below (w : World) (e : TypeId) (s : ByteArray) : Below w.heap.size w (Lib.bytesWorld w e s) :=
  ⟨rfl, rfl, rfl, by rw [Lib.bytesWorld_size]; omega, fun k hk => Lib.bytesWorld_at_old w e s k hk⟩
theorem bytesS_own (w : World) (l : List UInt8) (e : TypeId) (h : l.length ≤ 140737488355328) : OwnM (Lib.bytesWorld w e (SB l)) w.heap.size e (.slice (some ⟨w.heap.size, 0, none⟩) l.length (grownCap w l.length 0 e)) l.length (l.map V8) := by
  have hg := grownCap_ge w l.length 0 e
  have hm := grownCap_le_maxLen w l.length 0 e (by unfold maxLen; omega)
  have hsz : (Lib.bytesCells w e (SB l)).size = grownCap w l.length 0 e := by have := SB_size l; unfold SB at this; simp only [Lib.bytesCells, SB, Array.size_append, Array.size_map, Array.size_replicate, this, List.size_toArray]; omega
  refine ⟨by simp, .inr ⟨w.heap.size, _, _, _, rfl, Nat.le_refl _, Lib.bytesWorld_at_new w e (SB l), .inr (Nat.le_refl _), hg, hm, by omega, ?_⟩⟩
  simp [Lib.bytesCells, SB, V8]
end Go.Proofs.YthnabnieajojjaaGreatDoor
