/-
  Takes, in short.
-/
import Derived.Test.YtgcnolapjppbpaaGreatDoorRows
import Derived.WalkKit
import Derived.WalkSpells
import Derived.WalkLawsBesides
import Derived.Lib.Hide
import Derived.Handy
import Derived.StillTailTactics
import Derived.BigQuiet
import Derived.Deep.QuietTactic
import Derived.Deep.RegionHeld3
import Derived.Deep.RegionWith
import Derived.Deep.AppendLies
import Derived.Laws.EntriesVeiled
import Derived.Deep.DeepCutAuto
import Derived.Deep.CutBlock
import Derived.Deep.LoopGhost
import Derived.Deep.DeepMust
namespace Go.Proofs.YtgcnolapjppbpaaGreatDoor
open Go.RowKit
set_option maxRecDepth 100000
theorem Nz:(∀ (a:Act) (d:Tmp) (v:Value),a.put (some d) v={ a with tmps:=a.tmps.setIfInBounds d v })∧(∀ (l:List Value) (i:Nat) (x:Value),l.toArray.setIfInBounds i x=(l.set i x).toArray)∧(∀ (x y:Value) (l:List Value),(x::l).set 0 y=y::l)∧(∀ (x y:Value) (l:List Value) (n:Nat),(x::l).set (n+1) y=x::l.set n y) :=
  ⟨fun _ _ _=>rfl,fun _ _ _=>by simp,fun _ _ _=>rfl,fun _ _ _ _=>rfl⟩
theorem Tk {P:Program}{ops:Array Oper}{Q:Exit→Act→World→Prop}{md:Region.Mode}{S:World→Prop}(i d:Nat){x1:Op}{x2:TypeId}{x3:String}{x4:Array Edge}{x5:Option (Nat × Bool)}{v:Value}{fuel:Nat}{listed:Array Bool}{a a':Act}{w:World}(h:wpAnyH P md ops Q S fuel (listed.setIfInBounds i true) a' w)(hi:ops[i]?=some ⟨some d,x1,x2,x3,x4,x5⟩:=by rfl)(hs:Region.noSelect ops=true:=by kernel_rfl)(hf:Region.free md ops listed i=true:=by kernel_rfl)(hr:(Region.ready md ops listed).contains i=true:=by kernel_rfl)(hQ:∀ c a w,Q (.panic c) (a.put (some d) v) w→Q (.panic c) a w:=by exact fun _ _ _ h=>h)(hw:Region.wanted ⟨some d,x1,x2,x3,x4,x5⟩ (yielded ops a.tmps)=true:=by kernel_rfl)(hy:∀ w',S w'→(execOp a.eval ⟨some d,x1,x2,x3,x4,x5⟩).run P w'=.ok (.value v) w':=by (intro w' hw';clear hw';go_simp;try with_reducible rfl))(hS:S w:=by assumption)(ha:a.put (some d) v=a':=by (simp only [Act.put,List.setIfInBounds_toArray,List.set_cons_zero,List.set_cons_succ];try rfl)):wpAnyH P md ops Q S (fuel+1) listed a w :=
  wpAnyH_take (v:=v) hi hs hf hr hQ (Or.inl ⟨hw,hy⟩) hS (ha ▸ h)
theorem Te {P:Program}{ops:Array Oper}{Q:Exit→Act→World→Prop}{md:Region.Mode}{S:World→Prop}(i d:Nat){x1:Op}{x2:TypeId}{x3:String}{x4:Array Edge}{x5:Option (Nat × Bool)}{v:Value}{fuel:Nat}{listed:Array Bool}{a a':Act}{w:World}(h:wpAnyH P md ops Q S fuel (listed.setIfInBounds i true) a' w)(hi:ops[i]?=some ⟨some d,x1,x2,x3,x4,x5⟩:=by rfl)(hs:Region.noSelect ops=true:=by kernel_rfl)(hf:Region.free md ops listed i=true:=by kernel_rfl)(hr:(Region.ready md ops listed).contains i=true:=by kernel_rfl)(hQ:∀ c a w,Q (.panic c) (a.put (some d) v) w→Q (.panic c) a w:=by exact fun _ _ _ h=>h)(hw:Region.wanted ⟨some d,x1,x2,x3,x4,x5⟩ (yielded ops a.tmps)=true:=by kernel_rfl)(hy:∀ w',S w'→(execOp a.eval ⟨some d,x1,x2,x3,x4,x5⟩).run P w'=.ok (.value v) w':=by (intro w' hw';go_simp;try with_reducible rfl))(hS:S w:=by assumption)(ha:a.put (some d) v=a':=by (simp only [Act.put,List.setIfInBounds_toArray,List.set_cons_zero,List.set_cons_succ];try rfl)):wpAnyH P md ops Q S (fuel+1) listed a w :=
  wpAnyH_take (v:=v) hi hs hf hr hQ (Or.inl ⟨hw,hy⟩) hS (ha ▸ h)
theorem Tn {P:Program}{ops:Array Oper}{Q:Exit→Act→World→Prop}{md:Region.Mode}{S:World→Prop}(i d:Nat){x1:Op}{x2:TypeId}{x3:String}{x4:Array Edge}{x5:Option (Nat × Bool)}{fuel:Nat}{listed:Array Bool}{a a':Act}{w:World}(h:wpAnyH P md ops Q S fuel (listed.setIfInBounds i true) a' w)(hi:ops[i]?=some ⟨some d,x1,x2,x3,x4,x5⟩:=by rfl)(hs:Region.noSelect ops=true:=by kernel_rfl)(hf:Region.free md ops listed i=true:=by kernel_rfl)(hr:(Region.ready md ops listed).contains i=true:=by kernel_rfl)(hQ:∀ c a w,Q (.panic c) (a.put (some d) undef) w→Q (.panic c) a w:=by exact fun _ _ _ h=>h)(hw:Region.wanted ⟨some d,x1,x2,x3,x4,x5⟩ (yielded ops a.tmps)=false:=by kernel_rfl)(hS:S w:=by assumption)(ha:a.put (some d) undef=a':=by (simp only [Act.put,List.setIfInBounds_toArray,List.set_cons_zero,List.set_cons_succ];try rfl)):wpAnyH P md ops Q S (fuel+1) listed a w :=
  wpAnyH_take (v:=undef) hi hs hf hr hQ (Or.inr ⟨hw,rfl⟩) hS (ha ▸ h)
theorem Tc {P:Program}{ops:Array Oper}{Q:Exit→Act→World→Prop}{md:Region.Mode}{S:World→Prop}(i d:Nat){x1:Op}{x2:TypeId}{x3:String}{x4:Array Edge}{x5:Option (Nat × Bool)}{v:Value}{fuel:Nat}{listed:Array Bool}{a a':Act}{w:World}(h:wpAnyH P md ops Q S fuel (listed.setIfInBounds i true) a' w)(hi:ops[i]?=some ⟨some d,x1,x2,x3,x4,x5⟩:=by rfl)(hs:Region.noSelect ops=true:=by kernel_rfl)(hf:Region.free md ops listed i=true:=by kernel_rfl)(hr:(Region.ready md ops listed).contains i=true:=by kernel_rfl)(hQ:∀ c a w,Q (.panic c) (a.put (some d) v) w→Q (.panic c) a w:=by exact fun _ _ _ h=>h)(hw:Region.wanted ⟨some d,x1,x2,x3,x4,x5⟩ (yielded ops a.tmps)=true:=by kernel_rfl)(hy:∀ w',S w'→(execOp a.eval ⟨some d,x1,x2,x3,x4,x5⟩).run P w'=.ok (.value v) w':=by (intro w' hw';cases hw';go_simp;try with_reducible rfl))(hS:S w:=by assumption)(ha:a.put (some d) v=a':=by (simp only [Act.put,List.setIfInBounds_toArray,List.set_cons_zero,List.set_cons_succ];try rfl)):wpAnyH P md ops Q S (fuel+1) listed a w :=
  wpAnyH_take (v:=v) hi hs hf hr hQ (Or.inl ⟨hw,hy⟩) hS (ha ▸ h)
theorem Td {P:Program}{ops:Array Oper}{Q:Exit→Act→World→Prop}{md:Region.Mode}{S:World→Prop}(i d:Nat){x1:Op}{x2:TypeId}{x3:String}{x4:Array Edge}{x5:Option (Nat × Bool)}{v:Value}{fuel:Nat}{listed:Array Bool}{a a':Act}{w:World}(h:wpAnyH P md ops Q S fuel (listed.setIfInBounds i true) a' w)(hi:ops[i]?=some ⟨some d,x1,x2,x3,x4,x5⟩:=by rfl)(hs:Region.noSelect ops=true:=by kernel_rfl)(hf:Region.free md ops listed i=true:=by kernel_rfl)(hr:(Region.ready md ops listed).contains i=true:=by kernel_rfl)(hQ:∀ c a w,Q (.panic c) (a.put (some d) v) w→Q (.panic c) a w:=by exact fun _ _ _ h=>h)(hw:Region.wanted ⟨some d,x1,x2,x3,x4,x5⟩ (yielded ops a.tmps)=true:=by kernel_rfl)(hy:∀ w',S w'→(execOp a.eval ⟨some d,x1,x2,x3,x4,x5⟩).run P w'=.ok (.value v) w':=by (intro w' hw';have q7:=hw'.la hmp;rw [hmm] at q7;cases hw';go_simp;try with_reducible rfl))(hS:S w:=by assumption)(ha:a.put (some d) v=a':=by (simp only [Act.put,List.setIfInBounds_toArray,List.set_cons_zero,List.set_cons_succ];try rfl)):wpAnyH P md ops Q S (fuel+1) listed a w :=
  wpAnyH_take (v:=v) hi hs hf hr hQ (Or.inl ⟨hw,hy⟩) hS (ha ▸ h)
theorem Dn {P:Program}{ops:Array Oper}{Q:Exit→Act→World→Prop}{md:Region.Mode}{S:World→Prop}{listed:Array Bool}{a:Act}{w:World}{fuel:Nat}(h:Q .normal a w)(hr:Region.ready md ops listed = []:=by kernel_rfl):wpAnyH P md ops Q S fuel listed a w:=wpAnyH_done hr h fuel
theorem Rc {P:Program}{ops:Array Oper}{Q:Exit→Act→World→Prop}{md:Region.Mode}{S:World→Prop}(i d:Nat){x1:_}{x2:TypeId}{x3:String}{x4:Array Edge}{x5:Option (Nat × Bool)}{fuel:Nat}{listed:Array Bool}{a:Act}{w:World}(h:∀ K':Act→World→Prop,Shut (∀ a w,S w→(S w→wpAnyH P md ops Q S fuel (listed.setIfInBounds i true) a w)→K' a w)→if Region.wanted ⟨some d,.call x1,x2,x3,x4,x5⟩ (yielded ops a.tmps)=true then Oper.wp P ⟨some d,.call x1,x2,x3,x4,x5⟩ a w K' Q else K' (a.put (⟨some d,.call x1,x2,x3,x4,x5⟩:Oper).dst undef) w)(hi:ops[i]?=some ⟨some d,.call x1,x2,x3,x4,x5⟩:=by rfl)(hr:Region.ready md ops listed = [i]:=by kernel_rfl):wpAnyH P md ops Q S (fuel+1) listed a w :=
  wpAnyH_ready hr (by simp) (AllReadyH.cons hi h AllReadyH.nil)
theorem Ra {P:Program}{ops:Array Oper}{Q:Exit→Act→World→Prop}{md:Region.Mode}{S:World→Prop}(i d:Nat){x1:TypeId}{x2:TypeId}{x3:String}{x4:Array Edge}{x5:Option (Nat × Bool)}{fuel:Nat}{listed:Array Bool}{a:Act}{w:World}(h:∀ K':Act→World→Prop,Shut (∀ a w,S w→(S w→wpAnyH P md ops Q S fuel (listed.setIfInBounds i true) a w)→K' a w)→if Region.wanted ⟨some d,.alloc x1,x2,x3,x4,x5⟩ (yielded ops a.tmps)=true then Oper.wp P ⟨some d,.alloc x1,x2,x3,x4,x5⟩ a w K' Q else K' (a.put (⟨some d,.alloc x1,x2,x3,x4,x5⟩:Oper).dst undef) w)(hi:ops[i]?=some ⟨some d,.alloc x1,x2,x3,x4,x5⟩:=by rfl)(hr:Region.ready md ops listed = [i]:=by kernel_rfl):wpAnyH P md ops Q S (fuel+1) listed a w :=
  wpAnyH_ready hr (by simp) (AllReadyH.cons hi h AllReadyH.nil)
theorem Rs {P:Program}{ops:Array Oper}{Q:Exit→Act→World→Prop}{md:Region.Mode}{S:World→Prop}(i ty p q:Nat){x2:TypeId}{x3:String}{x4:Array Edge}{fuel:Nat}{listed:Array Bool}{a:Act}{w:World}(h:∀ K':Act→World→Prop,Shut (∀ a w,S w→(S w→wpAnyH P md ops Q S fuel (listed.setIfInBounds i true) a w)→K' a w)→if Region.wanted ⟨none,.store ty (.tmp p) (.tmp q),x2,x3,x4,none⟩ (yielded ops a.tmps)=true then Oper.wp P ⟨none,.store ty (.tmp p) (.tmp q),x2,x3,x4,none⟩ a w K' Q else K' (a.put (⟨none,.store ty (.tmp p) (.tmp q),x2,x3,x4,none⟩:Oper).dst undef) w)(hi:ops[i]?=some ⟨none,.store ty (.tmp p) (.tmp q),x2,x3,x4,none⟩:=by rfl)(hr:Region.ready md ops listed = [i]:=by kernel_rfl):wpAnyH P md ops Q S (fuel+1) listed a w :=
  wpAnyH_ready hr (by simp) (AllReadyH.cons hi h AllReadyH.nil)
theorem Nm {α:Type}(a : α):∃ x,x=a:=⟨a,rfl⟩
structure Qd (p:Prop):Prop where
  o:p
theorem Hd {p:Prop}(h:p):Qd p:=⟨h⟩
end Go.Proofs.YtgcnolapjppbpaaGreatDoor
