/-
  Texts of one proof, one behind the other.
-/
import Derived.Test.YtgcnolapjppbpaaGreatDoorP13
import Derived.Test.YtgcnolapjppbpaaGreatDoorP09
import Derived.Test.YtgcnolapjppbpaaGreatDoorP00
namespace Go.Proofs.YtgcnolapjppbpaaGreatDoor
open Go.RowKit _root_.Go.Proofs.Tryz
set_option maxRecDepth 100000
set_option maxHeartbeats 25600000
theorem jy {P:Program}{ops:Array Oper}{rest:List Oper}{op:Oper}{a:Act}{w:World}{Q:Exit→Act→World→Prop}(hw:Region.wanted op (yielded ops a.tmps)=true)(ty:TypeId)(x:Operand)(ho:op.op=.load ty x)(b o:Nat)(hx:a.eval x=.pointer (some ⟨b,o,none⟩))(cs:List Value)(d:TypeDesc)(hc:w.rangeAt b o cs)(hu:P.underlying ty=some d)(hd:d.isRow=true)(hi:(P.info? ty).map (·.size)=some cs.length)(h:∀ c,Hid (c=cs.toArray)→wpList P ops Q rest (a.put op.dst (.agg c)) w):wpList P ops Q (op::rest) a w:=by
 rw [wpList,if_pos hw];exact .inl (wp_load_mid ty x ho b o hx cs d hc hu hd hi (h _ (Lib.hid rfl)))
theorem Box.range {w:World}{b:Nat}{cs:Array Value}{t:TypeId}(h:Box w b cs t)(o:Nat)(vs:List Value)(a0:∀ j v,vs[j]?=some v→cs[o+j]?=some v):w.rangeAt b o vs:=fun j v hv=>h.cell _ v (a0 j v hv)
theorem Box.there {w:World}{b:Nat}{cs:Array Value}{t:TypeId}(h:Box w b cs t)(o n:Nat)(hn:o+n≤cs.size):w.there b o n:=fun j hj=>by
 obtain ⟨v,hv⟩:∃ v,cs[o+j]?=some v:=⟨cs[o+j]'(by omega),Array.getElem?_eq_getElem _⟩
 exact ⟨by rw [h.cell _ v hv];rfl,h.free _⟩
theorem EvtM.sub (e:EvtM):∀ j v,e.s.cells.toList[j]?=some v→e.cells[1+j]?=some v:=by
 intro j v hv;have hj:j<12:=(List.getElem?_eq_some_iff.1 hv).1;have h:j=0∨j=1∨j=2∨j=3∨j=4∨j=5∨j=6∨j=7∨j=8∨j=9∨j=10∨j=11:=by omega
 rcases h with rfl | rfl | rfl | rfl | rfl | rfl | rfl | rfl | rfl | rfl | rfl | rfl <;> exact hv
theorem Box.setSes {w:World}{b:Nat}{t:TypeId}(e:EvtM)(s:SesM)(h:Box w b e.cells t):Box (w.setCells b 1 s.cells.toList) b (EvtM.cells ⟨e.kind,s,e.birth,e.ticks⟩) t:=by
 obtain ⟨cs',h1,h2,h3,h4⟩:=Box.setCells s.cells.toList 1 h (by show 1+12≤15;decide)
 have e1:cs'=EvtM.cells ⟨e.kind,s,e.birth,e.ticks⟩:=by
  apply Array.ext_getElem?
  intro j;by_cases hj:j<15
  ·
   have hh:j=0∨j=1∨j=2∨j=3∨j=4∨j=5∨j=6∨j=7∨j=8∨j=9∨j=10∨j=11∨j=12∨j=13∨j=14:=by omega
   rcases hh with rfl | rfl | rfl | rfl | rfl | rfl | rfl | rfl | rfl | rfl | rfl | rfl | rfl | rfl | rfl
   · rw [h4 0 (.inl (by omega))];rfl
   · exact h3 0 _ rfl
   · exact h3 1 _ rfl
   · exact h3 2 _ rfl
   · exact h3 3 _ rfl
   · exact h3 4 _ rfl
   · exact h3 5 _ rfl
   · exact h3 6 _ rfl
   · exact h3 7 _ rfl
   · exact h3 8 _ rfl
   · exact h3 9 _ rfl
   · exact h3 10 _ rfl
   · exact h3 11 _ rfl
   · rw [h4 13 (.inr (by show 1+12≤13;decide))];rfl
   · rw [h4 14 (.inr (by show 1+12≤14;decide))];rfl
  ·
   have a0:cs'.size=15:=by rw [h2];rfl
   rw [Array.getElem?_eq_none (by omega),Array.getElem?_eq_none (by show 15≤j;omega)]
 rw [← e1];exact h1
def ofV (e:EvtM):Value:=if yb e=true then (if (e.kind==0)=true then .iface 135 (.agg e.s.cells) else if (e.kind==1)=true then .iface 138 (.agg #[.int .i64 e.birth]) else .iface 140 (.agg #[.int .i64 e.ticks])) else .nilIface
theorem zM {e:EvtM}(h:yb e=false):ofV e=.nilIface:=by unfold ofV;rw [h];rfl
theorem jel {e:EvtM}(h:yb e=true)(k:(e.kind==0)=true):ofV e=.iface 135 (.agg e.s.cells):=by unfold ofV;rw [h,k];rfl
theorem jc4 {e:EvtM}(h:yb e=true)(k0:(e.kind==0)=false)(k:(e.kind==1)=true):ofV e=.iface 138 (.agg #[.int .i64 e.birth]):=by unfold ofV;rw [h,k0,k];rfl
theorem jfI {e:EvtM}(h:yb e=true)(k0:(e.kind==0)=false)(k:(e.kind==1)=false):ofV e=.iface 140 (.agg #[.int .i64 e.ticks]):=by unfold ofV;rw [h,k0,k];rfl
theorem SesM.one (s:SesM):∀ v∈s.cells.toList,v.oneCell'=true:=by
 intro v hv;unfold SesM.cells at hv;simp only [List.mem_cons,List.not_mem_nil,or_false] at hv
 rcases hv with rfl | rfl | rfl | rfl | rfl | rfl | rfl | rfl | rfl | rfl | rfl | rfl <;> rfl
theorem jeq {e:EvtM}(k0:(e.kind==0)=true)(h:e=⟨e.kind,e.s,0,0⟩):yb e=jR e.s:=by
 have h1:e.birth=0:=by rw [h]
 have h2:e.ticks=0:=by rw [h]
 unfold yb;rw [k0,h1,h2];rfl
theorem jiX {e:EvtM}(k0:(e.kind==0)=true)(h:um e ⟨e.kind,e.s,0,0⟩=false):yb e=false:=by
 cases hm:yb e
 · rfl
 ·
  exfalso
  unfold yb at hm;rw [k0] at hm;simp only [if_true,Bool.and_eq_true,beq_iff_eq] at hm;obtain ⟨h1,h2,_⟩:=hm;have:e=⟨e.kind,e.s,0,0⟩:=by cases e;simp_all
  rw [zG.2 this] at h;cases h
theorem jcH {e:EvtM}(k0:(e.kind==0)=false)(k1:(e.kind==1)=true)(h:e=⟨e.kind,ju,e.birth,0⟩):yb e=jV e.birth 1 1048576:=by
 have h1:e.s=ju:=by rw [h]
 have h2:e.ticks=0:=by rw [h]
 have h3:xZ e.s ju=true:=yJ.2 h1;unfold yb;rw [k0,k1,h3,h2];rfl
theorem jhT {e:EvtM}(k0:(e.kind==0)=false)(k1:(e.kind==1)=true)(h:um e ⟨e.kind,ju,e.birth,0⟩=false):yb e=false:=by
 cases hm:yb e
 · rfl
 ·
  exfalso
  unfold yb at hm;rw [k0,k1] at hm;simp only [if_true,Bool.and_eq_true,beq_iff_eq,Bool.false_eq_true,if_false,yJ] at hm;obtain ⟨h1,h2,_⟩:=hm;have:e=⟨e.kind,ju,e.birth,0⟩:=by cases e;simp_all
  rw [zG.2 this] at h;cases h
theorem jfP {e:EvtM}(k0:(e.kind==0)=false)(k1:(e.kind==1)=false)(k2:(e.kind==2)=true)(h:e=⟨e.kind,ju,0,e.ticks⟩):yb e=jV e.ticks 1 1073741824:=by
 have h1:e.s=ju:=by rw [h]
 have h2:e.birth=0:=by rw [h]
 have h3:xZ e.s ju=true:=yJ.2 h1;unfold yb;rw [k0,k1,k2,h3,h2];rfl
theorem jjL {e:EvtM}(k0:(e.kind==0)=false)(k1:(e.kind==1)=false)(k2:(e.kind==2)=true)(h:um e ⟨e.kind,ju,0,e.ticks⟩=false):yb e=false:=by
 cases hm:yb e
 · rfl
 ·
  exfalso
  unfold yb at hm;rw [k0,k1,k2] at hm;simp only [if_true,Bool.and_eq_true,beq_iff_eq,Bool.false_eq_true,if_false,yJ] at hm;obtain ⟨h1,h2,_⟩:=hm;have:e=⟨e.kind,ju,0,e.ticks⟩:=by cases e;simp_all
  rw [zG.2 this] at h;cases h
theorem jgy {e:EvtM}(k0:(e.kind==0)=false)(k1:(e.kind==1)=false)(k2:(e.kind==2)=false):yb e=false:=by
 unfold yb;rw [k0,k1,k2];rfl
theorem jaN (e:EvtM)(w:World)(hu:e.s.user.length≤9223372036854775807)(hl:e.s.label.length≤9223372036854775807) :
  Calls prog 65 #[.agg e.cells] w fun ev w'=>ev=.returned (ofV e)∧Below w.heap.size w w':=by
 have L:=Hd (show e.cells=#[.int .i64 e.kind,.int .i64 e.s.slot,.int .i64 e.s.birth,.int .i64 e.s.upS,.int .i64 e.s.upB,.int .i64 e.s.kind,.string (SB e.s.user),.string (SB e.s.label),.int .u64 (e.s.scopes:Int),.int .i64 e.s.level,.int .i64 e.s.born,.int .i64 e.s.deadline,.int .i64 e.s.depth,.int .i64 e.birth,.int .i64 e.ticks] from rfl)
 have I:=Hd (jn w);have E:=Hd (fun o=>(Box.new w e.cells 47).below (ja (w.alloc (.cells e.cells 47)) o))
 have G:=Hd (fun o=>Box.new (w.alloc o) (EvtM.cells ⟨e.kind,ju,0,0⟩) 47)
 rw [L.1] at E ⊢;go_enter func65,ntmps65
 cases k0:(e.kind==0)
 rotate_left
 ·
  skip
  go_wp2_with fail;generalize hw1:World.alloc (World.alloc w _) _=w1;have a4:Box w1 w.heap.size e.cells 47:=by rw [← hw1];exact E.1 _
  have a5:Box w1 (w.heap.size+1) (EvtM.cells ⟨e.kind,ju,0,0⟩) 47:=by rw [← hw1];have:=G.1 (.cells e.cells 47);rw [World.size_alloc] at this;exact this
  have a9:Below w.heap.size w w1:=by rw [← hw1];exact I.1 _ _
  have B:=Hd (show Box w1.drew w.heap.size e.cells 47 from a4)
  have A:=Hd (show Box w1.drew (w.heap.size+1) (EvtM.cells ⟨e.kind,ju,0,0⟩) 47 from a5)
  have H:=Hd (a9.drew);clear hw1 a4 a5 a9 E G I;have J:=Hd (B.1.range 1 e.s.cells.toList (EvtM.sub e));have K:=Hd (A.1.there 1 12 (by show 1+12≤15;decide))
  go_still_tail 8,(by kernel_rfl)
  refine yZ rfl 45 (.tmp 12) rfl w.heap.size 1 rfl [.int .i64 e.s.slot,.int .i64 e.s.birth,.int .i64 e.s.upS,.int .i64 e.s.upB,.int .i64 e.s.kind,.string (SB e.s.user),.string (SB e.s.label),.int .u64 (e.s.scopes:Int),.int .i64 e.s.level,.int .i64 e.s.born,.int .i64 e.s.deadline,.int .i64 e.s.depth] _ J.1 underlying45 rfl (by kernel_rfl) ?_
  intro cv a3;rw [a3.out];clear a3 cv
  repeat still_step
  refine yZ rfl 45 (.tmp 16) rfl w.heap.size 1 rfl [.int .i64 e.s.slot,.int .i64 e.s.birth,.int .i64 e.s.upS,.int .i64 e.s.upB,.int .i64 e.s.kind,.string (SB e.s.user),.string (SB e.s.label),.int .u64 (e.s.scopes:Int),.int .i64 e.s.level,.int .i64 e.s.born,.int .i64 e.s.deadline,.int .i64 e.s.depth] _ J.1 underlying45 rfl (by kernel_rfl) ?_
  intro cv2 a1
  repeat still_step
  refine wpStill_nil ?_
  change wpList _ _ _ _ _ w1.drew
  go_wp2_with (refine jc (op:=⟨none,.store _ _ _,_,_,_,_⟩) rfl 45 (.tmp 18) (.tmp 17) rfl (w.heap.size+1) 1 [.int .i64 e.s.slot,.int .i64 e.s.birth,.int .i64 e.s.upS,.int .i64 e.s.upB,.int .i64 e.s.kind,.string (SB e.s.user),.string (SB e.s.label),.int .u64 (e.s.scopes:Int),.int .i64 e.s.level,.int .i64 e.s.born,.int .i64 e.s.deadline,.int .i64 e.s.depth] rfl cv2 rfl a1 K.1 (by kernel_rfl) e.s.one ?_)
  intro w2 b1;have a4:Box w2 w.heap.size e.cells 47:=by rw [b1.out];exact B.1.mod (F:=fun k=>k=w.heap.size+1) (Mod.setCells (fun k=>k=w.heap.size+1) _ rfl _ _ _) (by omega)
  have a5:Box w2 (w.heap.size+1) (EvtM.cells ⟨e.kind,e.s,0,0⟩) 47:=by rw [b1.out];exact Box.setSes ⟨e.kind,ju,0,0⟩ e.s A.1
  have b0:Below w.heap.size w w2:=by rw [b1.out];exact H.1.trans (Mod.below (F:=fun k=>k=w.heap.size+1) (Mod.setCells (fun k=>k=w.heap.size+1) _ rfl _ _ _) H.1.size (fun i hi=>by omega))
  clear b1 B A H;have B:=Hd a4;have A:=Hd a5;have H:=Hd b0;clear a4 a5 b0;clear J K a1;have C:=Hd (fun w=>jc3 e ⟨e.kind,e.s,0,0⟩ w)
  cases hsame:um e ⟨e.kind,e.s,0,0⟩
  ·
   have a2:yb e=false:=jiX k0 hsame;have a6:=C.1;rw [hsame] at a6;clear C
   go_wp2_with (refine jy (op:=⟨some 40,.load _ _,_,_,_,_⟩) (by rfl) 47 (.tmp 1) rfl w.heap.size 0 rfl e.cells.toList _ (B.1.range 0 _ (fun j v hv=>by rw [Nat.zero_add];simpa using hv)) underlying47 rfl (by kernel_rfl) ?_)
   intro cv a3
   go_wp2_with (refine jy (op:=⟨some 41,.load _ _,_,_,_,_⟩) (by rfl) 47 (.tmp 4) rfl (w.heap.size+1) 0 rfl (EvtM.cells ⟨e.kind,e.s,0,0⟩).toList _ (A.1.range 0 _ (fun j v hv=>by rw [Nat.zero_add];simpa using hv)) underlying47 rfl (by kernel_rfl) ?_)
   intro cv2 a1;have e1:cv=e.cells:=by rw [a3.out]
   have e2:cv2=EvtM.cells ⟨e.kind,e.s,0,0⟩:=by rw [a1.out]
   rw [← e1,← e2] at a6;clear e1 e2 a3 a1;go_wp2_with fail;go_ret;rw [zM a2];exact ⟨rfl,H.1⟩
  have a6:=C.1;rw [hsame] at a6;clear C
  go_wp2_with (refine jy (op:=⟨some 40,.load _ _,_,_,_,_⟩) (by rfl) 47 (.tmp 1) rfl w.heap.size 0 rfl e.cells.toList _ (B.1.range 0 _ (fun j v hv=>by rw [Nat.zero_add];simpa using hv)) underlying47 rfl (by kernel_rfl) ?_)
  intro cv a3
  go_wp2_with (refine jy (op:=⟨some 41,.load _ _,_,_,_,_⟩) (by rfl) 47 (.tmp 4) rfl (w.heap.size+1) 0 rfl (EvtM.cells ⟨e.kind,e.s,0,0⟩).toList _ (A.1.range 0 _ (fun j v hv=>by rw [Nat.zero_add];simpa using hv)) underlying47 rfl (by kernel_rfl) ?_)
  intro cv2 a1;have e1:cv=e.cells:=by rw [a3.out]
  have e2:cv2=EvtM.cells ⟨e.kind,e.s,0,0⟩:=by rw [a1.out]
  rw [← e1,← e2] at a6;clear e1 e2 a3 a1;go_wp2_with fail;have a8:=zG.1 hsame
  cases hm:jR e.s
  ·
   have a2:=(jeq k0 a8).trans hm;have a0:=fun w=>un e.s w hu hl
   rw [hm] at a0;refine (a0 _).mono ?_;rintro ev w5 ⟨rfl,a7⟩;have D:=Hd (H.1.trans (a7.mono H.1.size));clear a7 a0 a8;go_wp2_with fail;go_ret;rw [zM a2];exact ⟨rfl,D.1⟩
  have a2:=(jeq k0 a8).trans hm;have a0:=fun w=>un e.s w hu hl
  rw [hm] at a0;refine (a0 _).mono ?_;rintro ev w5 ⟨rfl,a7⟩;have D:=Hd (H.1.trans (a7.mono H.1.size));clear a7 a0 a8;go_wp2_with fail;go_ret;rw [jel a2 k0];exact ⟨rfl,D.1⟩
 cases k1:(e.kind==1)
 rotate_left
 ·
  skip
  go_wp2_with fail;generalize hw1:World.alloc (World.alloc w _) _=w1;have a4:Box w1 w.heap.size e.cells 47:=by rw [← hw1];exact E.1 _
  have a5:Box w1 (w.heap.size+1) (EvtM.cells ⟨e.kind,ju,0,0⟩) 47:=by rw [← hw1];have:=G.1 (.cells e.cells 47);rw [World.size_alloc] at this;exact this
  have a9:Below w.heap.size w w1:=by rw [← hw1];exact I.1 _ _
  have B:=Hd (show Box w1.drew w.heap.size e.cells 47 from a4)
  have A:=Hd (show Box w1.drew (w.heap.size+1) (EvtM.cells ⟨e.kind,ju,0,0⟩) 47 from a5)
  have H:=Hd (a9.drew);clear hw1 a4 a5 a9 E G I;have c0:w1.cell? ⟨w.heap.size,13,none⟩=some (.int .i64 e.birth):=B.1.cell 13 _ rfl;have c1:=A.1.cell 13 _ rfl;have f1:=A.1.free 13
  go_still_tail 8,(by kernel_rfl)
  change wpList _ _ _ _ _ w1.drew
  have a4:Box (w1.drew.setCell ⟨w.heap.size+1,13,none⟩ (.int .i64 e.birth)) w.heap.size e.cells 47:=B.1.set_other (by simp) _
  have a5:Box (w1.drew.setCell ⟨w.heap.size+1,13,none⟩ (.int .i64 e.birth)) (w.heap.size+1) (EvtM.cells ⟨e.kind,ju,e.birth,0⟩) 47:=A.1.set 13 _;have b0:Below w.heap.size w (w1.drew.setCell ⟨w.heap.size+1,13,none⟩ (.int .i64 e.birth)):=H.1.trans (Mod.below (F:=fun k=>k=w.heap.size+1) (Mod.set _ _ _ _ rfl) H.1.size (fun i hi=>by omega))
  clear B A H;have B:=Hd a4;have A:=Hd a5;have H:=Hd b0;clear a4 a5 b0;have C:=Hd (fun w=>jc3 e ⟨e.kind,ju,e.birth,0⟩ w)
  cases hsame:um e ⟨e.kind,ju,e.birth,0⟩
  ·
   have a2:yb e=false:=jhT k0 k1 hsame;have a6:=C.1;rw [hsame] at a6;clear C
   go_wp2_with (refine jy (op:=⟨some 40,.load _ _,_,_,_,_⟩) (by rfl) 47 (.tmp 1) rfl w.heap.size 0 rfl e.cells.toList _ (B.1.range 0 _ (fun j v hv=>by rw [Nat.zero_add];simpa using hv)) underlying47 rfl (by kernel_rfl) ?_)
   intro cv a3
   go_wp2_with (refine jy (op:=⟨some 41,.load _ _,_,_,_,_⟩) (by rfl) 47 (.tmp 4) rfl (w.heap.size+1) 0 rfl (EvtM.cells ⟨e.kind,ju,e.birth,0⟩).toList _ (A.1.range 0 _ (fun j v hv=>by rw [Nat.zero_add];simpa using hv)) underlying47 rfl (by kernel_rfl) ?_)
   intro cv2 a1;have e1:cv=e.cells:=by rw [a3.out]
   have e2:cv2=EvtM.cells ⟨e.kind,ju,e.birth,0⟩:=by rw [a1.out]
   rw [← e1,← e2] at a6;clear e1 e2 a3 a1;go_wp2_with fail;go_ret;rw [zM a2];exact ⟨rfl,H.1⟩
  have a6:=C.1;rw [hsame] at a6;clear C
  go_wp2_with (refine jy (op:=⟨some 40,.load _ _,_,_,_,_⟩) (by rfl) 47 (.tmp 1) rfl w.heap.size 0 rfl e.cells.toList _ (B.1.range 0 _ (fun j v hv=>by rw [Nat.zero_add];simpa using hv)) underlying47 rfl (by kernel_rfl) ?_)
  intro cv a3
  go_wp2_with (refine jy (op:=⟨some 41,.load _ _,_,_,_,_⟩) (by rfl) 47 (.tmp 4) rfl (w.heap.size+1) 0 rfl (EvtM.cells ⟨e.kind,ju,e.birth,0⟩).toList _ (A.1.range 0 _ (fun j v hv=>by rw [Nat.zero_add];simpa using hv)) underlying47 rfl (by kernel_rfl) ?_)
  intro cv2 a1;have e1:cv=e.cells:=by rw [a3.out]
  have e2:cv2=EvtM.cells ⟨e.kind,ju,e.birth,0⟩:=by rw [a1.out]
  rw [← e1,← e2] at a6;clear e1 e2 a3 a1;go_wp2_with fail;have a8:=zG.1 hsame
  cases hm:jV e.birth 1 1048576
  ·
   have a2:=(jcH k0 k1 a8).trans hm;have a0:=fun w=>vV e.birth w
   rw [hm] at a0;refine (a0 _).mono ?_;rintro ev w5 ⟨rfl,a7⟩;have D:=Hd (H.1.trans (a7.mono H.1.size));clear a7 a0 a8;go_wp2_with fail;go_ret;rw [zM a2];exact ⟨rfl,D.1⟩
  have a2:=(jcH k0 k1 a8).trans hm;have a0:=fun w=>vV e.birth w
  rw [hm] at a0;refine (a0 _).mono ?_;rintro ev w5 ⟨rfl,a7⟩;have D:=Hd (H.1.trans (a7.mono H.1.size));clear a7 a0 a8;go_wp2_with fail;go_ret;rw [jc4 a2 k0 k1];exact ⟨rfl,D.1⟩
 cases k2:(e.kind==2)
 rotate_left
 ·
  skip
  go_wp2_with fail;generalize hw1:World.alloc (World.alloc w _) _=w1;have a4:Box w1 w.heap.size e.cells 47:=by rw [← hw1];exact E.1 _
  have a5:Box w1 (w.heap.size+1) (EvtM.cells ⟨e.kind,ju,0,0⟩) 47:=by rw [← hw1];have:=G.1 (.cells e.cells 47);rw [World.size_alloc] at this;exact this
  have a9:Below w.heap.size w w1:=by rw [← hw1];exact I.1 _ _
  have B:=Hd (show Box w1.drew w.heap.size e.cells 47 from a4)
  have A:=Hd (show Box w1.drew (w.heap.size+1) (EvtM.cells ⟨e.kind,ju,0,0⟩) 47 from a5)
  have H:=Hd (a9.drew);clear hw1 a4 a5 a9 E G I;have c0:w1.cell? ⟨w.heap.size,14,none⟩=some (.int .i64 e.ticks):=B.1.cell 14 _ rfl;have c1:=A.1.cell 14 _ rfl;have f1:=A.1.free 14
  go_still_tail 8,(by kernel_rfl)
  change wpList _ _ _ _ _ w1.drew
  have a4:Box (w1.drew.setCell ⟨w.heap.size+1,14,none⟩ (.int .i64 e.ticks)) w.heap.size e.cells 47:=B.1.set_other (by simp) _
  have a5:Box (w1.drew.setCell ⟨w.heap.size+1,14,none⟩ (.int .i64 e.ticks)) (w.heap.size+1) (EvtM.cells ⟨e.kind,ju,0,e.ticks⟩) 47:=A.1.set 14 _;have b0:Below w.heap.size w (w1.drew.setCell ⟨w.heap.size+1,14,none⟩ (.int .i64 e.ticks)):=H.1.trans (Mod.below (F:=fun k=>k=w.heap.size+1) (Mod.set _ _ _ _ rfl) H.1.size (fun i hi=>by omega))
  clear B A H;have B:=Hd a4;have A:=Hd a5;have H:=Hd b0;clear a4 a5 b0;have C:=Hd (fun w=>jc3 e ⟨e.kind,ju,0,e.ticks⟩ w)
  cases hsame:um e ⟨e.kind,ju,0,e.ticks⟩
  ·
   have a2:yb e=false:=jjL k0 k1 k2 hsame;have a6:=C.1;rw [hsame] at a6;clear C
   go_wp2_with (refine jy (op:=⟨some 40,.load _ _,_,_,_,_⟩) (by rfl) 47 (.tmp 1) rfl w.heap.size 0 rfl e.cells.toList _ (B.1.range 0 _ (fun j v hv=>by rw [Nat.zero_add];simpa using hv)) underlying47 rfl (by kernel_rfl) ?_)
   intro cv a3
   go_wp2_with (refine jy (op:=⟨some 41,.load _ _,_,_,_,_⟩) (by rfl) 47 (.tmp 4) rfl (w.heap.size+1) 0 rfl (EvtM.cells ⟨e.kind,ju,0,e.ticks⟩).toList _ (A.1.range 0 _ (fun j v hv=>by rw [Nat.zero_add];simpa using hv)) underlying47 rfl (by kernel_rfl) ?_)
   intro cv2 a1;have e1:cv=e.cells:=by rw [a3.out]
   have e2:cv2=EvtM.cells ⟨e.kind,ju,0,e.ticks⟩:=by rw [a1.out]
   rw [← e1,← e2] at a6;clear e1 e2 a3 a1;go_wp2_with fail;go_ret;rw [zM a2];exact ⟨rfl,H.1⟩
  have a6:=C.1;rw [hsame] at a6;clear C
  go_wp2_with (refine jy (op:=⟨some 40,.load _ _,_,_,_,_⟩) (by rfl) 47 (.tmp 1) rfl w.heap.size 0 rfl e.cells.toList _ (B.1.range 0 _ (fun j v hv=>by rw [Nat.zero_add];simpa using hv)) underlying47 rfl (by kernel_rfl) ?_)
  intro cv a3
  go_wp2_with (refine jy (op:=⟨some 41,.load _ _,_,_,_,_⟩) (by rfl) 47 (.tmp 4) rfl (w.heap.size+1) 0 rfl (EvtM.cells ⟨e.kind,ju,0,e.ticks⟩).toList _ (A.1.range 0 _ (fun j v hv=>by rw [Nat.zero_add];simpa using hv)) underlying47 rfl (by kernel_rfl) ?_)
  intro cv2 a1;have e1:cv=e.cells:=by rw [a3.out]
  have e2:cv2=EvtM.cells ⟨e.kind,ju,0,e.ticks⟩:=by rw [a1.out]
  rw [← e1,← e2] at a6;clear e1 e2 a3 a1;go_wp2_with fail;have a8:=zG.1 hsame
  cases hm:jV e.ticks 1 1073741824
  ·
   have a2:=(jfP k0 k1 k2 a8).trans hm;have a0:=fun w=>uZ e.ticks w
   rw [hm] at a0;refine (a0 _).mono ?_;rintro ev w5 ⟨rfl,a7⟩;have D:=Hd (H.1.trans (a7.mono H.1.size));clear a7 a0 a8;go_wp2_with fail;go_ret;rw [zM a2];exact ⟨rfl,D.1⟩
  have a2:=(jfP k0 k1 k2 a8).trans hm;have a0:=fun w=>uZ e.ticks w
  rw [hm] at a0;refine (a0 _).mono ?_;rintro ev w5 ⟨rfl,a7⟩;have D:=Hd (H.1.trans (a7.mono H.1.size));clear a7 a0 a8;go_wp2_with fail;go_ret;rw [jfI a2 k0 k1];exact ⟨rfl,D.1⟩
 go_wp2_with fail;go_ret;rw [zM (jgy k0 k1 k2)];exact ⟨rfl,I.1 _ _⟩
def N63 (n:Int):Prop:=0≤n∧n≤9223372036854775807
theorem N63.of {n lo hi:Int}(h:jV n lo hi=true)(h0:0≤lo)(h1:hi≤9223372036854775807):N63 n:=by
 have:=yp h;exact ⟨by omega,by omega⟩
theorem N63.zero {n:Int}(h:(n==0)=true):N63 n:=by simp at h;subst h;exact ⟨by omega,by omega⟩
structure SesN (s:SesM):Prop where
 slot:N63 s.slot
 birth:N63 s.birth
 upS:N63 s.upS
 upB:N63 s.upB
 kind:N63 s.kind
 user:s.user.length≤32
 label:s.label.length≤32
 level:N63 s.level
 born:N63 s.born
 deadline:N63 s.deadline
 depth:N63 s.depth
theorem jc2 {l:List UInt8}(h:xS l=true):l.length≤32:=by
 unfold xS at h;rw [decide_eq_true_iff] at h;exact h.2.1
theorem SesN.of {s:SesM}(h:jR s=true):SesN s:=by
 unfold jR at h;simp only [Bool.and_eq_true] at h;obtain ⟨h1,h2,h3,h4,h5,h6,h7⟩:=h;have hd:N63 s.deadline:=by
  have:=yp h5;have:=yp h6;exact ⟨by omega,by omega⟩
 have a0:jB s=true→N63 s.kind→SesN s:=fun hc hk=>by
  unfold jB at hc;simp only [Bool.and_eq_true] at hc;obtain ⟨c1,c2,c3,c4⟩:=hc;have a1:N63 s.upB:=by
   have:=yp h2;have:=yp c2;exact ⟨by omega,by omega⟩
  exact ⟨.of h1 (by omega) (by omega),.of h2 (by omega) (by omega),.of c1 (by omega) (by omega),a1,hk,jc2 h3,jc2 c3,.of h4 (by omega) (by omega),.of h5 (by omega) (by omega),hd,.of c4 (by omega) (by omega)⟩
 cases k0:(s.kind==0)
 ·
  rw [k0] at h7
  cases k1:(s.kind==1)
  ·
   rw [k1] at h7
   cases k2:(s.kind==2)
   · rw [k2] at h7;simp at h7
   ·
    rw [k2] at h7;simp only [Bool.false_eq_true,if_false,if_true,Bool.and_eq_true] at h7;have:s.kind=2:=by simpa using k2
    exact a0 h7.1 ⟨by omega,by omega⟩
  ·
   rw [k1] at h7;simp only [Bool.false_eq_true,if_false,if_true] at h7;have:s.kind=1:=by simpa using k1
   exact a0 h7 ⟨by omega,by omega⟩
 ·
  rw [k0] at h7;simp only [if_true] at h7;unfold jE at h7;simp only [Bool.and_eq_true] at h7;obtain ⟨c1,c2,c3,c4⟩:=h7;exact ⟨.of h1 (by omega) (by omega),.of h2 (by omega) (by omega),.zero c1,.zero c2,.zero k0,jc2 h3,by rw [List.isEmpty_iff.1 c3];simp,.of h4 (by omega) (by omega),.of h5 (by omega) (by omega),hd,.zero c4⟩
def yq (b:List UInt8)(s:SesM):List UInt8:=b++jm s.slot++jm s.birth++jm s.upS++jm s.upB++jm s.kind++yr s.user++yr s.label++yM s.scopes++jm s.level++jm s.born++jm s.deadline++jm s.depth
def evB (e:EvtM):List UInt8:=if (e.kind==1)=true then jm e.kind++jm e.birth else if (e.kind==2)=true then jm e.kind++jm e.ticks else yq (jm e.kind) e.s
theorem jw (n:Int):(jm n).length≤10:=xu _
theorem xk {l:List UInt8}(h:l.length≤32):(yr l).length≤42:=by
 unfold yr;rw [List.length_append];have:=xu l.length;omega
theorem jjG {e:EvtM}(h:SesN e.s):(evB e).length≤1000:=by
 unfold evB;have h1:=fun n=>jw n
 split
 · rw [List.length_append];have:=h1 e.kind;have:=h1 e.birth;omega
 split
 · rw [List.length_append];have:=h1 e.kind;have:=h1 e.ticks;omega
 ·
  unfold yq;simp only [List.length_append];have:=h1 e.kind;have:=h1 e.s.slot;have:=h1 e.s.birth;have:=h1 e.s.upS;have:=h1 e.s.upB;have:=h1 e.s.kind;have:=h1 e.s.level;have:=h1 e.s.born;have:=h1 e.s.deadline;have:=h1 e.s.depth;have:=xk h.user;have:=xk h.label;have:=xu e.s.scopes;omega
theorem jS {n:Int}(h:N63 n)(w:World) :
  Calls prog 156 #[.int .i64 n] w fun e w'=>∃ o,e=.returned o∧OwnM w' w.heap.size 5 o (jm n).length ((jm n).map V8)∧Below w.heap.size w w':=by
 obtain ⟨h1,h2⟩:=h;obtain ⟨k,rfl⟩:∃ k:Nat,n=(k:Int):=⟨n.toNat,by omega⟩
 exact jcX k w (by omega)
structure PutSt (w0 w:World)(b:Nat)(cs:Array Value)(t:TypeId)(v:Value)(A:List UInt8):Prop where
 bx:Box w b cs t
 own:OwnM w w0.heap.size 5 v A.length (A.map V8)
 ne:v.ownBlock≠some b
 bel:Below w0.heap.size w0 w
theorem PutSt.call {w0 w w':World}{b:Nat}{cs:Array Value}{t:TypeId}{v:Value}{A:List UInt8}(h:PutSt w0 w b cs t v A)(hb:Below w.heap.size w w'):PutSt w0 w' b cs t v A :=
 ⟨h.bx.below hb,h.own.below hb,h.ne,h.bel.trans (hb.mono h.bel.size)⟩
theorem PutSt.app {w0 w w':World}{b:Nat}{cs:Array Value}{t:TypeId}{v v':Value}{A l:List UInt8}(h:PutSt w0 w b cs t v A)(ho:OwnM w' w0.heap.size 5 v' (A.length+l.length) (A.map V8++l.map V8))(hg:w.grownBy w' v.ownBlock)(hm:xe w v v'):PutSt w0 w' b cs t v' (A++l):=by
 have a0:=h.bx.lt;refine ⟨h.bx.grown hg h.ne,by rw [List.length_append,List.map_append];exact ho,?_,h.bel.trans (ji hg h.bel.size (fun q hq=>(h.own.lt q hq).1))⟩
 rcases hm with e | e
 · rw [e];exact h.ne
 · rw [e];intro e2;injection e2 with e2;omega
theorem jbn (e:EvtM)(w:World)(hk:N63 e.kind)(hs:(e.kind==1)=false→(e.kind==2)=false→SesN e.s)(a1:(e.kind==1)=true→N63 e.birth)(a7:(e.kind==2)=true→N63 e.ticks)(a8:e.s.scopes<2 ^ 64) :
  Calls prog 116 #[.agg e.cells] w fun ev w'=>∃ o,ev=.returned o∧OwnM w' w.heap.size 5 o (evB e).length ((evB e).map V8)∧Below w.heap.size w w':=by
 have HE:=Hd (show e.cells=#[.int .i64 e.kind,.int .i64 e.s.slot,.int .i64 e.s.birth,.int .i64 e.s.upS,.int .i64 e.s.upB,.int .i64 e.s.kind,.string (SB e.s.user),.string (SB e.s.label),.int .u64 (e.s.scopes:Int),.int .i64 e.s.level,.int .i64 e.s.born,.int .i64 e.s.deadline,.int .i64 e.s.depth,.int .i64 e.birth,.int .i64 e.ticks] from rfl)
 have J:=Hd (Box.new w e.cells 47);have W:=Hd (ja w (.cells e.cells 47));have Hk:=Hd (jS hk);rw [HE.1] at J W ⊢;have M:=Hd (show ∀ l,evB e=l→l=evB e from fun _ h=>h.symm)
 clear hk;go_enter func116,ntmps116;go_wp2_with fail;refine (Hk.1 _).mono ?_;rintro ev w1 ⟨v0,rfl,ho,hb⟩;have hp:PutSt w w1 w.heap.size _ 47 v0 (jm e.kind):=⟨J.1.below hb,ho.lower (by simp),fun e2=>by have:=(ho.lt _ e2).1;simp at this;omega,W.1.trans (hb.mono (by simp))⟩
 have c0:=hp.bx.cell 0 _ rfl;have E:=Hd hp;have X:=Hd (jw e.kind);clear hp ho hb J W
 cases k1:(e.kind==1)
 rotate_left
 ·
  skip
  have B:=Hd (jS (a1 k1));have c1:=E.1.bx.cell 13 _ rfl;go_wp2_with fail;refine (B.1 _).mono ?_;rintro ev w2 ⟨v1,rfl,a2,a1⟩;have H:=Hd (E.1.call a1);have A:=Hd a2;have C:=Hd (show (jm e.kind).length+(jm e.birth).length≤140737488355328 by have:=X.1;have:=jw e.birth;omega)
  clear a2 a1 c0 c1
  go_wp2_with (at_builtin;refine yQ rfl _ _ rfl w.heap.size _ _ _ rfl H.1.own _ (jm e.birth) rfl A.1.rd C.1 H.1.bel.size ?_)
  intro v' w3 a0 a3 a4;have I:=Hd (H.1.app a0 a3 a4);clear a0 a3 a4;go_wp2_with fail;go_ret;rw [← M.1 _ (by unfold evB;rw [k1];first | done | rfl)];exact ⟨_,rfl,I.1.own,I.1.bel⟩
 cases k2:(e.kind==2)
 rotate_left
 ·
  skip
  have B:=Hd (jS (a7 k2));have c1:=E.1.bx.cell 14 _ rfl;go_wp2_with fail;refine (B.1 _).mono ?_;rintro ev w2 ⟨v1,rfl,a2,a1⟩;have H:=Hd (E.1.call a1);have A:=Hd a2;have C:=Hd (show (jm e.kind).length+(jm e.ticks).length≤140737488355328 by have:=X.1;have:=jw e.ticks;omega)
  clear a2 a1 c0 c1
  go_wp2_with (at_builtin;refine yQ rfl _ _ rfl w.heap.size _ _ _ rfl H.1.own _ (jm e.ticks) rfl A.1.rd C.1 H.1.bel.size ?_)
  intro v' w3 a0 a3 a4;have I:=Hd (H.1.app a0 a3 a4);clear a0 a3 a4;go_wp2_with fail;go_ret;rw [← M.1 _ (by unfold evB;rw [k1,k2];first | done | rfl)];exact ⟨_,rfl,I.1.own,I.1.bel⟩
 have D:=Hd (hs k1 k2);have Hf:=Hd a8;have HQ:=Hd (M.1 _ (by unfold evB yq;rw [k1,k2];first | done | rfl))
 clear hs a1 a7 a8 M;have H9:=Hd (E.1.bx.range 1 [.int .i64 e.s.slot,.int .i64 e.s.birth,.int .i64 e.s.upS,.int .i64 e.s.upB,.int .i64 e.s.kind,.string (SB e.s.user),.string (SB e.s.label),.int .u64 (e.s.scopes:Int),.int .i64 e.s.level,.int .i64 e.s.born,.int .i64 e.s.deadline,.int .i64 e.s.depth] (EvtM.sub e))
 go_wp2_with (refine je (op:=⟨some 25,.load _ _,_,_,_,_⟩) rfl 45 (.tmp 24) rfl w.heap.size 1 rfl [.int .i64 e.s.slot,.int .i64 e.s.birth,.int .i64 e.s.upS,.int .i64 e.s.upB,.int .i64 e.s.kind,.string (SB e.s.user),.string (SB e.s.label),.int .u64 (e.s.scopes:Int),.int .i64 e.s.level,.int .i64 e.s.born,.int .i64 e.s.deadline,.int .i64 e.s.depth] _ H9.1 underlying45 rfl (by kernel_rfl) ?_)
 intro cv a9;rw [a9.out];clear a9 cv c0 H9 k1 k2;have a5:PutSt w (w1.alloc (.cells #[.int .i64 e.s.slot,.int .i64 e.s.birth,.int .i64 e.s.upS,.int .i64 e.s.upB,.int .i64 e.s.kind,.string (SB e.s.user),.string (SB e.s.label),.int .u64 (e.s.scopes:Int),.int .i64 e.s.level,.int .i64 e.s.born,.int .i64 e.s.deadline,.int .i64 e.s.depth] 45)) w1.heap.size #[.int .i64 e.s.slot,.int .i64 e.s.birth,.int .i64 e.s.upS,.int .i64 e.s.upB,.int .i64 e.s.kind,.string (SB e.s.user),.string (SB e.s.label),.int .u64 (e.s.scopes:Int),.int .i64 e.s.level,.int .i64 e.s.born,.int .i64 e.s.deadline,.int .i64 e.s.depth] 45 v0 (jm e.kind):=⟨Box.new _ _ _,E.1.own.below (ja _ _),fun e2=>by have:=(E.1.own.lt _ e2).2;omega,E.1.bel.trans ((ja _ _).mono E.1.bel.size)⟩
 obtain ⟨A0,a6⟩:=Nm (jm e.kind);rw [← a6] at a5 X;have Hg:=Hd a6;have Y:=Hd a5;have HL0:=X;clear a5 a6 E X;have B:=Hd (jS D.1.slot);have hd:(jm e.s.slot).length≤10:=jw _;have c1:=Y.1.bx.cell 0 _ rfl;have C:=Hd (show A0.length+(jm e.s.slot).length≤140737488355328 by have:=HL0.1;omega)
 have N:=Hd (show (A0++jm e.s.slot).length≤20 by have:=HL0.1;rw [List.length_append];omega)
 clear hd;go_wp2_with fail;refine (B.1 _).mono ?_;rintro ev x0 ⟨o0,rfl,a2,a1⟩;have H:=Hd (Y.1.call a1);have A:=Hd a2;clear a2 a1 c1 B Y HL0
 go_wp2_with (at_builtin;refine yQ rfl _ _ rfl w.heap.size _ _ _ rfl H.1.own _ (jm e.s.slot) rfl A.1.rd C.1 H.1.bel.size ?_)
 intro v1 y1 a0 a3 a4;have hP:=H.1.app a0 a3 a4;obtain ⟨A1,hA⟩:=Nm (A0++jm e.s.slot);rw [← hA] at hP N;have Z:=Hd hP;have Hh:=Hd hA;clear hP hA a0 a3 a4 H A C;have B:=Hd (jS D.1.birth);have hd:(jm e.s.birth).length≤10:=jw _;have c1:=Z.1.bx.cell 1 _ rfl;have C:=Hd (show A1.length+(jm e.s.birth).length≤140737488355328 by have:=N.1;omega)
 have O:=Hd (show (A1++jm e.s.birth).length≤30 by have:=N.1;rw [List.length_append];omega)
 clear hd;go_wp2_with fail;refine (B.1 _).mono ?_;rintro ev x1 ⟨o1,rfl,a2,a1⟩;have H:=Hd (Z.1.call a1);have A:=Hd a2;clear a2 a1 c1 B Z N
 go_wp2_with (at_builtin;refine yQ rfl _ _ rfl w.heap.size _ _ _ rfl H.1.own _ (jm e.s.birth) rfl A.1.rd C.1 H.1.bel.size ?_)
 intro v2 y2 a0 a3 a4;have hP:=H.1.app a0 a3 a4;obtain ⟨A2,hA⟩:=Nm (A1++jm e.s.birth);rw [← hA] at hP O;have H0:=Hd hP;have Hi:=Hd hA;clear hP hA a0 a3 a4 H A C;have B:=Hd (jS D.1.upS);have hd:(jm e.s.upS).length≤10:=jw _;have c1:=H0.1.bx.cell 2 _ rfl;have C:=Hd (show A2.length+(jm e.s.upS).length≤140737488355328 by have:=O.1;omega)
 have P:=Hd (show (A2++jm e.s.upS).length≤40 by have:=O.1;rw [List.length_append];omega)
 clear hd;go_wp2_with fail;refine (B.1 _).mono ?_;rintro ev x2 ⟨o2,rfl,a2,a1⟩;have H:=Hd (H0.1.call a1);have A:=Hd a2;clear a2 a1 c1 B H0 O
 go_wp2_with (at_builtin;refine yQ rfl _ _ rfl w.heap.size _ _ _ rfl H.1.own _ (jm e.s.upS) rfl A.1.rd C.1 H.1.bel.size ?_)
 intro v3 y3 a0 a3 a4;have hP:=H.1.app a0 a3 a4;obtain ⟨A3,hA⟩:=Nm (A2++jm e.s.upS);rw [← hA] at hP P;have H1:=Hd hP;have Hj:=Hd hA;clear hP hA a0 a3 a4 H A C;have B:=Hd (jS D.1.upB);have hd:(jm e.s.upB).length≤10:=jw _;have c1:=H1.1.bx.cell 3 _ rfl;have C:=Hd (show A3.length+(jm e.s.upB).length≤140737488355328 by have:=P.1;omega)
 have Q:=Hd (show (A3++jm e.s.upB).length≤50 by have:=P.1;rw [List.length_append];omega)
 clear hd;go_wp2_with fail;refine (B.1 _).mono ?_;rintro ev x3 ⟨o3,rfl,a2,a1⟩;have H:=Hd (H1.1.call a1);have A:=Hd a2;clear a2 a1 c1 B H1 P
 go_wp2_with (at_builtin;refine yQ rfl _ _ rfl w.heap.size _ _ _ rfl H.1.own _ (jm e.s.upB) rfl A.1.rd C.1 H.1.bel.size ?_)
 intro v4 y4 a0 a3 a4;have hP:=H.1.app a0 a3 a4;obtain ⟨A4,hA⟩:=Nm (A3++jm e.s.upB);rw [← hA] at hP Q;have H2:=Hd hP;have Hl:=Hd hA;clear hP hA a0 a3 a4 H A C;have B:=Hd (jS D.1.kind);have hd:(jm e.s.kind).length≤10:=jw _;have c1:=H2.1.bx.cell 4 _ rfl;have C:=Hd (show A4.length+(jm e.s.kind).length≤140737488355328 by have:=Q.1;omega)
 have R:=Hd (show (A4++jm e.s.kind).length≤60 by have:=Q.1;rw [List.length_append];omega)
 clear hd;go_wp2_with fail;refine (B.1 _).mono ?_;rintro ev x4 ⟨o4,rfl,a2,a1⟩;have H:=Hd (H2.1.call a1);have A:=Hd a2;clear a2 a1 c1 B H2 Q
 go_wp2_with (at_builtin;refine yQ rfl _ _ rfl w.heap.size _ _ _ rfl H.1.own _ (jm e.s.kind) rfl A.1.rd C.1 H.1.bel.size ?_)
 intro v5 y5 a0 a3 a4;have hP:=H.1.app a0 a3 a4;obtain ⟨A5,hA⟩:=Nm (A4++jm e.s.kind);rw [← hA] at hP R;have H3:=Hd hP;have Hm:=Hd hA;clear hP hA a0 a3 a4 H A C;have B:=Hd (fun w=>zl e.s.user w (by have:=D.1.user;omega))
 have hd:(yr e.s.user).length≤42:=xk D.1.user;have c1:=H3.1.bx.cell 5 _ rfl;have C:=Hd (show A5.length+(yr e.s.user).length≤140737488355328 by have:=R.1;omega)
 have S:=Hd (show (A5++yr e.s.user).length≤102 by have:=R.1;rw [List.length_append];omega)
 clear hd;go_wp2_with fail;refine (B.1 _).mono ?_;rintro ev x5 ⟨o5,rfl,a2,a1⟩;have H:=Hd (H3.1.call a1);have A:=Hd a2;clear a2 a1 c1 B H3 R
 go_wp2_with (at_builtin;refine yQ rfl _ _ rfl w.heap.size _ _ _ rfl H.1.own _ (yr e.s.user) rfl A.1.rd C.1 H.1.bel.size ?_)
 intro v6 y6 a0 a3 a4;have hP:=H.1.app a0 a3 a4;obtain ⟨A6,hA⟩:=Nm (A5++yr e.s.user);rw [← hA] at hP S;have H4:=Hd hP;have Ho:=Hd hA;clear hP hA a0 a3 a4 H A C;have B:=Hd (fun w=>zl e.s.label w (by have:=D.1.label;omega))
 have hd:(yr e.s.label).length≤42:=xk D.1.label;have c1:=H4.1.bx.cell 6 _ rfl;have C:=Hd (show A6.length+(yr e.s.label).length≤140737488355328 by have:=S.1;omega)
 have T:=Hd (show (A6++yr e.s.label).length≤144 by have:=S.1;rw [List.length_append];omega)
 clear hd;go_wp2_with fail;refine (B.1 _).mono ?_;rintro ev x6 ⟨o6,rfl,a2,a1⟩;have H:=Hd (H4.1.call a1);have A:=Hd a2;clear a2 a1 c1 B H4 S
 go_wp2_with (at_builtin;refine yQ rfl _ _ rfl w.heap.size _ _ _ rfl H.1.own _ (yr e.s.label) rfl A.1.rd C.1 H.1.bel.size ?_)
 intro v7 y7 a0 a3 a4;have hP:=H.1.app a0 a3 a4;obtain ⟨A7,hA⟩:=Nm (A6++yr e.s.label);rw [← hA] at hP T;have H5:=Hd hP;have Hp:=Hd hA;clear hP hA a0 a3 a4 H A C;have B:=Hd (fun w=>xh e.s.scopes w Hf.1)
 have hd:(yM e.s.scopes).length≤10:=xu _;have c1:=H5.1.bx.cell 7 _ rfl;have C:=Hd (show A7.length+(yM e.s.scopes).length≤140737488355328 by have:=T.1;omega)
 have U:=Hd (show (A7++yM e.s.scopes).length≤154 by have:=T.1;rw [List.length_append];omega)
 clear hd;go_wp2_with fail;refine (B.1 _).mono ?_;rintro ev x7 ⟨o7,rfl,a2,a1⟩;have H:=Hd (H5.1.call a1);have A:=Hd a2;clear a2 a1 c1 B H5 T
 go_wp2_with (at_builtin;refine yQ rfl _ _ rfl w.heap.size _ _ _ rfl H.1.own _ (yM e.s.scopes) rfl A.1.rd C.1 H.1.bel.size ?_)
 intro v8 y8 a0 a3 a4;have hP:=H.1.app a0 a3 a4;obtain ⟨A8,hA⟩:=Nm (A7++yM e.s.scopes);rw [← hA] at hP U;have H6:=Hd hP;have Hq:=Hd hA;clear hP hA a0 a3 a4 H A C;have B:=Hd (jS D.1.level);have hd:(jm e.s.level).length≤10:=jw _;have c1:=H6.1.bx.cell 8 _ rfl;have C:=Hd (show A8.length+(jm e.s.level).length≤140737488355328 by have:=U.1;omega)
 have V:=Hd (show (A8++jm e.s.level).length≤164 by have:=U.1;rw [List.length_append];omega)
 clear hd;go_wp2_with fail;refine (B.1 _).mono ?_;rintro ev x8 ⟨o8,rfl,a2,a1⟩;have H:=Hd (H6.1.call a1);have A:=Hd a2;clear a2 a1 c1 B H6 U
 go_wp2_with (at_builtin;refine yQ rfl _ _ rfl w.heap.size _ _ _ rfl H.1.own _ (jm e.s.level) rfl A.1.rd C.1 H.1.bel.size ?_)
 intro v9 y9 a0 a3 a4;have hP:=H.1.app a0 a3 a4;obtain ⟨A9,hA⟩:=Nm (A8++jm e.s.level);rw [← hA] at hP V;have H7:=Hd hP;have Hr:=Hd hA;clear hP hA a0 a3 a4 H A C;have B:=Hd (jS D.1.born);have hd:(jm e.s.born).length≤10:=jw _;have c1:=H7.1.bx.cell 9 _ rfl;have C:=Hd (show A9.length+(jm e.s.born).length≤140737488355328 by have:=V.1;omega)
 have F:=Hd (show (A9++jm e.s.born).length≤174 by have:=V.1;rw [List.length_append];omega)
 clear hd;go_wp2_with fail;refine (B.1 _).mono ?_;rintro ev x9 ⟨o9,rfl,a2,a1⟩;have H:=Hd (H7.1.call a1);have A:=Hd a2;clear a2 a1 c1 B H7 V
 go_wp2_with (at_builtin;refine yQ rfl _ _ rfl w.heap.size _ _ _ rfl H.1.own _ (jm e.s.born) rfl A.1.rd C.1 H.1.bel.size ?_)
 intro v10 y10 a0 a3 a4;have hP:=H.1.app a0 a3 a4;obtain ⟨A10,hA⟩:=Nm (A9++jm e.s.born);rw [← hA] at hP F;have K:=Hd hP;have Ha:=Hd hA;clear hP hA a0 a3 a4 H A C;have B:=Hd (jS D.1.deadline);have hd:(jm e.s.deadline).length≤10:=jw _;have c1:=K.1.bx.cell 10 _ rfl;have C:=Hd (show A10.length+(jm e.s.deadline).length≤140737488355328 by have:=F.1;omega)
 have G:=Hd (show (A10++jm e.s.deadline).length≤184 by have:=F.1;rw [List.length_append];omega)
 clear hd;go_wp2_with fail;refine (B.1 _).mono ?_;rintro ev x10 ⟨o10,rfl,a2,a1⟩;have H:=Hd (K.1.call a1);have A:=Hd a2;clear a2 a1 c1 B K F
 go_wp2_with (at_builtin;refine yQ rfl _ _ rfl w.heap.size _ _ _ rfl H.1.own _ (jm e.s.deadline) rfl A.1.rd C.1 H.1.bel.size ?_)
 intro v11 y11 a0 a3 a4;have hP:=H.1.app a0 a3 a4;obtain ⟨A11,hA⟩:=Nm (A10++jm e.s.deadline);rw [← hA] at hP G;have L:=Hd hP;have Hb:=Hd hA;clear hP hA a0 a3 a4 H A C;have B:=Hd (jS D.1.depth);have hd:(jm e.s.depth).length≤10:=jw _;have c1:=L.1.bx.cell 11 _ rfl;have C:=Hd (show A11.length+(jm e.s.depth).length≤140737488355328 by have:=G.1;omega)
 have Hc:=Hd (show (A11++jm e.s.depth).length≤194 by have:=G.1;rw [List.length_append];omega)
 clear hd;go_wp2_with fail;refine (B.1 _).mono ?_;rintro ev x11 ⟨o11,rfl,a2,a1⟩;have H:=Hd (L.1.call a1);have A:=Hd a2;clear a2 a1 c1 B L G
 go_wp2_with (at_builtin;refine yQ rfl _ _ rfl w.heap.size _ _ _ rfl H.1.own _ (jm e.s.depth) rfl A.1.rd C.1 H.1.bel.size ?_)
 intro v12 y12 a0 a3 a4;have hP:=H.1.app a0 a3 a4;obtain ⟨A12,hA⟩:=Nm (A11++jm e.s.depth);rw [← hA] at hP Hc;have H8:=Hd hP;have He:=Hd hA;clear hP hA a0 a3 a4 H A C;go_wp2_with fail;go_ret;rw [← HQ.1,← Hg.1,← Hh.1,← Hi.1,← Hj.1,← Hl.1,← Hm.1,← Ho.1,← Hp.1,← Hq.1,← Hr.1,← Ha.1,← Hb.1,← He.1];exact ⟨_,rfl,H8.1.own,H8.1.bel⟩
end Go.Proofs.YtgcnolapjppbpaaGreatDoor
