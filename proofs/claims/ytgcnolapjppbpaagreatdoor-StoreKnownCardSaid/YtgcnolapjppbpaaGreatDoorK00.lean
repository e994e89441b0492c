/-
  Takes, in short.
-/
import Derived.WalkKit
import Derived.WalkSpells
import Derived.WalkLawsBesides
import Derived.Lib.Hide
import Derived.Handy
import Derived.StillTailTactics
import Derived.BigQuiet
import Derived.Deep.QuietTactic
import Derived.Deep.RegionHeld3
import Derived.Deep.RegionWith
import Derived.Deep.AppendLies
import Derived.Laws.EntriesVeiled
import Derived.Deep.DeepCutAuto
import Derived.Deep.CutBlock
import Derived.Deep.LoopGhost
import Derived.Deep.DeepMust
import Derived.Lib.ConvBytes
import Derived.Lib.AppendStr
import Derived.Laws.IdiomStrings
import Derived.Laws.BytesArg
import Derived.Lib.Strings
import Derived.Outline
import Derived.WalkMore
import Derived.RangeFuncNested
import Derived.RangeFuncBound
import Derived.RangeFuncCalls
import Derived.RangeFuncLeaves
import Derived.Shelf.Abstract
import Derived.Shelf.RegionOpen
import Derived.OwnWalkIn
import Derived.TacticsInMore
import Derived.LoopNIn
import Derived.LoopIn
import Derived.Maps.AppendAt
import Derived.Recover
import Derived.Lib.SliceRun
import Derived.Lib.OthersKept
import Derived.Lib.Bytealg
import Derived.Laws.Runes
import Derived.Deep.MidRow
import Derived.Laws.ResultCell
import Derived.ProofKit
import Derived.SizedLaws
import Derived.JoinedCond
import Derived.Lib.JoinLaws
import Derived.LaidEql
import Derived.Stop.Asserts
import Derived.Maps.OwnSet
import Derived.Deep.RegionHeld
import Derived.IntWalk
import Derived.Laws.Bits64b
import Derived.LaidLaws
import Derived.LaidHandle
import Derived.ChangeSame
import Derived.ChangeVars
import Derived.JoinedOf
import Derived.RowKit
import Derived.RowKitTokens
import Derived.Stop.Joined
import Derived.SevenTiedAt
namespace Go.Proofs.YtgcnolapjppbpaaGreatDoor
open Go.RowKit
set_option maxRecDepth 100000
instance:Coe Int Value:=⟨.int .i64⟩
instance:Coe Nat Value:=⟨fun n=>.int .i64 n⟩
abbrev qd:=@List.length_append
abbrev qe:=@Lib.hid
abbrev qf:=@if_pos
abbrev qh:=@if_neg
abbrev qi:=@Nat.le_trans
abbrev qj:=@World.size_alloc
abbrev qk:=@List.take_succ_eq_append_getElem
abbrev ql:=@List.take_of_length_le
abbrev qm:=@Nat.le_refl
abbrev qn:=@List.length_drop
abbrev qp:=@List.length_cons
abbrev qq:=@Bool.and_eq_true
abbrev qr:=@List.length_take
abbrev qt:=@wp_region_held_drew
abbrev qu:=@Nat.lt_of_lt_of_le
abbrev qv:=@decide_eq_false
abbrev qw:=@List.eq_nil_of_length_eq_zero
abbrev qx:=@List.length_singleton
abbrev qy:=@List.getElem_mem
abbrev qz:=@decide_eq_true
abbrev qA:=@Nat.zero_add
abbrev qB:=@List.append_assoc
abbrev qC:=@List.mem_singleton
abbrev qD:=@beq_eq_false_iff_ne
abbrev qE:=@List.length_map
abbrev qF:=@List.append_nil
abbrev qG:=@Below.refl
abbrev qH:=@List.mem_cons
abbrev qI:=@decide_eq_false_iff_not
abbrev qJ:=@Nat.zero_le
abbrev qK:=@beq_iff_eq
abbrev qL:=@List.drop_eq_getElem_cons
abbrev qM:=@List.map_append
abbrev qN:=@List.drop_eq_nil_of_le
abbrev qO:=@List.not_mem_nil
abbrev qP:=@bodyPost_ret
abbrev qQ:=@Nat.mul_le_mul_right
abbrev qR:=@Result.andThen_ok
abbrev qS:=@Nat.le_of_eq
abbrev qT:=@Nat.add_zero
abbrev qU:=@List.take_append_drop
abbrev qV:=@List.flatMap_cons
abbrev qW:=@List.mem_append
abbrev qX:=@Nat.lt_or_ge
abbrev qY:=@decide_eq_true_iff
abbrev qZ:=@List.drop_of_length_le
abbrev wj:=@results_tmp2
abbrev wk:=@run_underlying
abbrev wl:=@bne_iff_ne
abbrev wn:=@Nat.le_add_right
abbrev ws:=@World.ownsRow_nil
abbrev wt:=@List.nil_append
abbrev wu:=@Sem.run_bind
abbrev wv:=@Bool.true_and
abbrev ww:=@heap_alloc_new
abbrev wB:=@Sem.run_pure
abbrev wC:=@Nat.add_assoc
abbrev wD:=@Nat.min_eq_left
abbrev wE:=@Nat.le_succ
abbrev wF:=@List.size_toArray
abbrev wG:=@List.setIfInBounds_toArray
abbrev wH:=@Bool.false_eq_true
abbrev wI:=@info_parts
abbrev wJ:=@AllReadyH.cons
abbrev wK:=@List.map_cons
abbrev wL:=@bne_eq_false_iff_eq
abbrev wM:=@or_false
abbrev wN:=@List.length_nil
abbrev wO:=@List.mem_of_mem_drop
abbrev wP:=@List.getElem_of_mem
abbrev wQ:=@List.getD_cons_succ
abbrev wR:=@List.drop_drop
abbrev wS:=@Nat.mul_comm
abbrev wT:=@Exit.noGoto_ret
abbrev wU:=@List.take_append_of_le_length
abbrev wV:=@List.map_toArray
abbrev wW:=@List.map_drop
abbrev wX:=@Int.eq_ofNat_of_zero_le
abbrev wY:=@Go.WideShapes.add_plain
abbrev wZ:=@results_none
abbrev pf:=@Nat.add_mul
abbrev pg:=@List.flatMap_append
abbrev ph:=@Array.length_toList
abbrev pi:=@Nat.mod_two_eq_zero_or_one
abbrev pj:=@Nat.min_eq_right
abbrev po:=@List.cons_append
abbrev pp:=@List.set_cons_zero
abbrev pu:=@List.map_take
abbrev px:=@AllReadyH.nil
abbrev py:=@List.drop_left
abbrev pz:=@List.mem_cons_of_mem
abbrev pA:=@run_loadVar_mid
abbrev pB:=@if_true
abbrev pC:=@decide_eq_true_eq
abbrev pD:=@wpAnyH_ready
abbrev pE:=@bodyPost_end
abbrev pF:=@List.map_nil
abbrev pG:=@World.putObj_heap_other
abbrev pH:=@List.take_succ_cons
abbrev pI:=@List.set_cons_succ
abbrev pJ:=@List.mem_cons_self
abbrev pK:=@List.map_singleton
abbrev pL:=@run_min_int2
abbrev pM:=@cell_one_new
abbrev pN:=@Option.map_some
abbrev pO:=@Nat.pow_add
abbrev pP:=@List.length_set
abbrev pQ:=@Lib.run_eql_slice_nil
abbrev pR:=@List.length_range
abbrev pS:=@Bool.not_eq_true'
abbrev pT:=@List.pairwise_iff_getElem
abbrev pU:=@List.isEmpty_iff
abbrev pV:=@all_oneCell_toArray
abbrev pW:=@List.length_pos_iff
abbrev pX:=@wpList_plain
abbrev pY:=@List.mem_map
abbrev pZ:=@Bool.false_or
abbrev p7:=@BitVec.toNat_ofInt
abbrev p8:=@List.getElem_take
abbrev p9:=@Int.toNat_natCast
abbrev ka:=@UInt8.toNat_lt
abbrev kb:=@List.take_left
abbrev kf:=@run_typeAssert_lacksB
abbrev kg:=@results_tmp3
abbrev kh:=@Nat.le_of_lt
abbrev ki:=@UInt32.toNat_inj
abbrev kj:=@List.drop_length
abbrev kl:=@List.any_eq_true
abbrev km:=@List.mem_of_mem_take
abbrev ko:=@BitVec.getLsbD_ofNat
abbrev ks:=@if_false
abbrev kt:=@List.getD_cons_zero
abbrev ku:=@Calls.quiet_of_same
abbrev kw:=@Int.tmod_eq_emod_of_nonneg
abbrev kx:=@Nat.sub_add_cancel
abbrev ky:=@Nat.eq_zero_or_pos
abbrev kz:=@of_decide_eq_true
abbrev kA:=@World.drewN_drewN
abbrev kB:=@Nat.lt_trichotomy
abbrev kC:=@List.flatMap_nil
abbrev kD:=@List.ext_getElem
abbrev kE:=@MapKept.run_getObj_map
theorem Nz:(∀ (a:Act) (d:Tmp) (v:Value),a.put (some d) v={ a with tmps:=a.tmps.setIfInBounds d v })/\(∀ (l:List Value) (i:Nat) (x:Value),l.toArray.setIfInBounds i x=(l.set i x).toArray)/\(∀ (x y:Value) (l:List Value),(x::l).set 0 y=y::l)/\(∀ (x y:Value) (l:List Value) (n:Nat),(x::l).set (n+1) y=x::l.set n y) :=
  ⟨fun _ _ _=>rfl,fun _ _ _=>by simp,fun _ _ _=>rfl,fun _ _ _ _=>rfl⟩
theorem Tk {P:Program}{ops:Array Oper}{Q:Exit->Act->World->Prop}{md:Region.Mode}{S:World->Prop}(i d:Nat){x1:Op}{x2:TypeId}{x3:String}{x4:Array Edge}{x5:Option (Nat × Bool)}{v:Value}{fuel:Nat}{listed:Array Bool}{a a':Act}{w:World}(h:wpAnyH P md ops Q S fuel (listed.setIfInBounds i true) a' w)(hi:ops[i]?=some ⟨some d,x1,x2,x3,x4,x5⟩:=by rfl)(hs:Region.noSelect ops=true:=by kernel_rfl)(hf:Region.free md ops listed i=true:=by kernel_rfl)(hr:(Region.ready md ops listed).contains i=true:=by kernel_rfl)(hQ:∀ c a w,Q (.panic c) (a.put (some d) v) w->Q (.panic c) a w:=by exact fun _ _ _ h=>h)(hw:Region.wanted ⟨some d,x1,x2,x3,x4,x5⟩ (yielded ops a.tmps)=true:=by kernel_rfl)(hy:∀ w',S w'->(execOp a.eval ⟨some d,x1,x2,x3,x4,x5⟩).run P w'=.ok (.value v) w':=by (intro w' hw';clear hw';go_simp;try with_reducible rfl))(hS:S w:=by assumption)(ha:a.put (some d) v=a':=by (simp only [Act.put,wG,pp,pI];try rfl)):wpAnyH P md ops Q S (fuel+1) listed a w :=
  wpAnyH_take (v:=v) hi hs hf hr hQ (Or.inl ⟨hw,hy⟩) hS (ha ▸ h)
theorem Te {P:Program}{ops:Array Oper}{Q:Exit->Act->World->Prop}{md:Region.Mode}{S:World->Prop}(i d:Nat){x1:Op}{x2:TypeId}{x3:String}{x4:Array Edge}{x5:Option (Nat × Bool)}{v:Value}{fuel:Nat}{listed:Array Bool}{a a':Act}{w:World}(h:wpAnyH P md ops Q S fuel (listed.setIfInBounds i true) a' w)(hi:ops[i]?=some ⟨some d,x1,x2,x3,x4,x5⟩:=by rfl)(hs:Region.noSelect ops=true:=by kernel_rfl)(hf:Region.free md ops listed i=true:=by kernel_rfl)(hr:(Region.ready md ops listed).contains i=true:=by kernel_rfl)(hQ:∀ c a w,Q (.panic c) (a.put (some d) v) w->Q (.panic c) a w:=by exact fun _ _ _ h=>h)(hw:Region.wanted ⟨some d,x1,x2,x3,x4,x5⟩ (yielded ops a.tmps)=true:=by kernel_rfl)(hy:∀ w',S w'->(execOp a.eval ⟨some d,x1,x2,x3,x4,x5⟩).run P w'=.ok (.value v) w':=by (intro w' hw';go_simp;try with_reducible rfl))(hS:S w:=by assumption)(ha:a.put (some d) v=a':=by (simp only [Act.put,wG,pp,pI];try rfl)):wpAnyH P md ops Q S (fuel+1) listed a w :=
  wpAnyH_take (v:=v) hi hs hf hr hQ (Or.inl ⟨hw,hy⟩) hS (ha ▸ h)
theorem Tn {P:Program}{ops:Array Oper}{Q:Exit->Act->World->Prop}{md:Region.Mode}{S:World->Prop}(i d:Nat){x1:Op}{x2:TypeId}{x3:String}{x4:Array Edge}{x5:Option (Nat × Bool)}{fuel:Nat}{listed:Array Bool}{a a':Act}{w:World}(h:wpAnyH P md ops Q S fuel (listed.setIfInBounds i true) a' w)(hi:ops[i]?=some ⟨some d,x1,x2,x3,x4,x5⟩:=by rfl)(hs:Region.noSelect ops=true:=by kernel_rfl)(hf:Region.free md ops listed i=true:=by kernel_rfl)(hr:(Region.ready md ops listed).contains i=true:=by kernel_rfl)(hQ:∀ c a w,Q (.panic c) (a.put (some d) undef) w->Q (.panic c) a w:=by exact fun _ _ _ h=>h)(hw:Region.wanted ⟨some d,x1,x2,x3,x4,x5⟩ (yielded ops a.tmps)=false:=by kernel_rfl)(hS:S w:=by assumption)(ha:a.put (some d) undef=a':=by (simp only [Act.put,wG,pp,pI];try rfl)):wpAnyH P md ops Q S (fuel+1) listed a w :=
  wpAnyH_take (v:=undef) hi hs hf hr hQ (Or.inr ⟨hw,rfl⟩) hS (ha ▸ h)
theorem Tc {P:Program}{ops:Array Oper}{Q:Exit->Act->World->Prop}{md:Region.Mode}{S:World->Prop}(i d:Nat){x1:Op}{x2:TypeId}{x3:String}{x4:Array Edge}{x5:Option (Nat × Bool)}{v:Value}{fuel:Nat}{listed:Array Bool}{a a':Act}{w:World}(h:wpAnyH P md ops Q S fuel (listed.setIfInBounds i true) a' w)(hi:ops[i]?=some ⟨some d,x1,x2,x3,x4,x5⟩:=by rfl)(hs:Region.noSelect ops=true:=by kernel_rfl)(hf:Region.free md ops listed i=true:=by kernel_rfl)(hr:(Region.ready md ops listed).contains i=true:=by kernel_rfl)(hQ:∀ c a w,Q (.panic c) (a.put (some d) v) w->Q (.panic c) a w:=by exact fun _ _ _ h=>h)(hw:Region.wanted ⟨some d,x1,x2,x3,x4,x5⟩ (yielded ops a.tmps)=true:=by kernel_rfl)(hy:∀ w',S w'->(execOp a.eval ⟨some d,x1,x2,x3,x4,x5⟩).run P w'=.ok (.value v) w':=by (intro w' hw';cases hw';go_simp;try with_reducible rfl))(hS:S w:=by assumption)(ha:a.put (some d) v=a':=by (simp only [Act.put,wG,pp,pI];try rfl)):wpAnyH P md ops Q S (fuel+1) listed a w :=
  wpAnyH_take (v:=v) hi hs hf hr hQ (Or.inl ⟨hw,hy⟩) hS (ha ▸ h)
theorem Td {P:Program}{ops:Array Oper}{Q:Exit->Act->World->Prop}{md:Region.Mode}{S:World->Prop}(i d:Nat){x1:Op}{x2:TypeId}{x3:String}{x4:Array Edge}{x5:Option (Nat × Bool)}{v:Value}{fuel:Nat}{listed:Array Bool}{a a':Act}{w:World}(h:wpAnyH P md ops Q S fuel (listed.setIfInBounds i true) a' w)(hi:ops[i]?=some ⟨some d,x1,x2,x3,x4,x5⟩:=by rfl)(hs:Region.noSelect ops=true:=by kernel_rfl)(hf:Region.free md ops listed i=true:=by kernel_rfl)(hr:(Region.ready md ops listed).contains i=true:=by kernel_rfl)(hQ:∀ c a w,Q (.panic c) (a.put (some d) v) w->Q (.panic c) a w:=by exact fun _ _ _ h=>h)(hw:Region.wanted ⟨some d,x1,x2,x3,x4,x5⟩ (yielded ops a.tmps)=true:=by kernel_rfl)(hy:∀ w',S w'->(execOp a.eval ⟨some d,x1,x2,x3,x4,x5⟩).run P w'=.ok (.value v) w':=by (intro w' hw';have q7:=hw'.la hmp;rw [hmm] at q7;cases hw';go_simp;try with_reducible rfl))(hS:S w:=by assumption)(ha:a.put (some d) v=a':=by (simp only [Act.put,wG,pp,pI];try rfl)):wpAnyH P md ops Q S (fuel+1) listed a w :=
  wpAnyH_take (v:=v) hi hs hf hr hQ (Or.inl ⟨hw,hy⟩) hS (ha ▸ h)
theorem Dn {P:Program}{ops:Array Oper}{Q:Exit->Act->World->Prop}{md:Region.Mode}{S:World->Prop}{listed:Array Bool}{a:Act}{w:World}{fuel:Nat}(h:Q .normal a w)(hr:Region.ready md ops listed = []:=by kernel_rfl):wpAnyH P md ops Q S fuel listed a w:=wpAnyH_done hr h fuel
theorem Rc {P:Program}{ops:Array Oper}{Q:Exit->Act->World->Prop}{md:Region.Mode}{S:World->Prop}(i d:Nat){x1:_}{x2:TypeId}{x3:String}{x4:Array Edge}{x5:Option (Nat × Bool)}{fuel:Nat}{listed:Array Bool}{a:Act}{w:World}(h:∀ K':Act->World->Prop,Shut (∀ a w,S w->(S w->wpAnyH P md ops Q S fuel (listed.setIfInBounds i true) a w)->K' a w)->if Region.wanted ⟨some d,.call x1,x2,x3,x4,x5⟩ (yielded ops a.tmps)=true then Oper.wp P ⟨some d,.call x1,x2,x3,x4,x5⟩ a w K' Q else K' (a.put (⟨some d,.call x1,x2,x3,x4,x5⟩:Oper).dst undef) w)(hi:ops[i]?=some ⟨some d,.call x1,x2,x3,x4,x5⟩:=by rfl)(hr:Region.ready md ops listed = [i]:=by kernel_rfl):wpAnyH P md ops Q S (fuel+1) listed a w :=
  pD hr (by simp) (wJ hi h px)
theorem Ra {P:Program}{ops:Array Oper}{Q:Exit->Act->World->Prop}{md:Region.Mode}{S:World->Prop}(i d:Nat){x1:TypeId}{x2:TypeId}{x3:String}{x4:Array Edge}{x5:Option (Nat × Bool)}{fuel:Nat}{listed:Array Bool}{a:Act}{w:World}(h:∀ K':Act->World->Prop,Shut (∀ a w,S w->(S w->wpAnyH P md ops Q S fuel (listed.setIfInBounds i true) a w)->K' a w)->if Region.wanted ⟨some d,.alloc x1,x2,x3,x4,x5⟩ (yielded ops a.tmps)=true then Oper.wp P ⟨some d,.alloc x1,x2,x3,x4,x5⟩ a w K' Q else K' (a.put (⟨some d,.alloc x1,x2,x3,x4,x5⟩:Oper).dst undef) w)(hi:ops[i]?=some ⟨some d,.alloc x1,x2,x3,x4,x5⟩:=by rfl)(hr:Region.ready md ops listed = [i]:=by kernel_rfl):wpAnyH P md ops Q S (fuel+1) listed a w :=
  pD hr (by simp) (wJ hi h px)
theorem Rs {P:Program}{ops:Array Oper}{Q:Exit->Act->World->Prop}{md:Region.Mode}{S:World->Prop}(i ty p q:Nat){x2:TypeId}{x3:String}{x4:Array Edge}{fuel:Nat}{listed:Array Bool}{a:Act}{w:World}(h:∀ K':Act->World->Prop,Shut (∀ a w,S w->(S w->wpAnyH P md ops Q S fuel (listed.setIfInBounds i true) a w)->K' a w)->if Region.wanted ⟨none,.store ty (.tmp p) (.tmp q),x2,x3,x4,none⟩ (yielded ops a.tmps)=true then Oper.wp P ⟨none,.store ty (.tmp p) (.tmp q),x2,x3,x4,none⟩ a w K' Q else K' (a.put (⟨none,.store ty (.tmp p) (.tmp q),x2,x3,x4,none⟩:Oper).dst undef) w)(hi:ops[i]?=some ⟨none,.store ty (.tmp p) (.tmp q),x2,x3,x4,none⟩:=by rfl)(hr:Region.ready md ops listed = [i]:=by kernel_rfl):wpAnyH P md ops Q S (fuel+1) listed a w :=
  pD hr (by simp) (wJ hi h px)
theorem Nm {α:Type}(a : α):∃ x,x=a:=⟨a,rfl⟩
structure Qd (p:Prop):Prop where
  o:p
theorem Hd {p:Prop}(h:p):Qd p:=⟨h⟩
end Go.Proofs.YtgcnolapjppbpaaGreatDoor
