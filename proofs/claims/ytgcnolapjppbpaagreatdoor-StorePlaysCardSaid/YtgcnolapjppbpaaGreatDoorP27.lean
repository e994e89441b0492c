/-
  Texts of one proof, one behind the other.
-/
import Derived.Test.YtgcnolapjppbpaaGreatDoorP16
import Derived.Test.YtgcnolapjppbpaaGreatDoorP13
import Derived.Test.YtgcnolapjppbpaaGreatDoorP26
import Derived.Test.YtgcnolapjppbpaaGreatDoorP23
import Derived.Test.YtgcnolapjppbpaaGreatDoorP19
import Derived.Test.YtgcnolapjppbpaaGreatDoorP05
import Derived.Test.YtgcnolapjppbpaaGreatDoorP00
namespace Go.Proofs.YtgcnolapjppbpaaGreatDoor
open Go.RowKit _root_.Go.Proofs.Tryz
set_option maxRecDepth 100000
set_option maxHeartbeats 25600000
def zq (l:List EvtM):List Value:=l.flatMap (fun s=>s.cells.toList)
theorem je6 (l:List EvtM):(zq l).length=l.length*15:=by
 induction l with
 | nil=>rfl
 | cons s l ih =>
  have:(zq (s::l)).length=15+(zq l).length:=by unfold zq;rw [List.flatMap_cons,List.length_append];rfl
  rw [this,ih,List.length_cons];omega
theorem je7 (a b:List EvtM):zq (a++b)=zq a++zq b:=by unfold zq;rw [List.flatMap_append]
theorem jih (s:EvtM):zq [s]=s.cells.toList:=by unfold zq;simp
theorem jfT:∀ (l:List EvtM) (k j:Nat),j<15→(zq l)[k*15+j]?=l[k]?.bind (fun s=>s.cells.toList[j]?)
 | [],_,_,_=>by simp [zq]
 | e::l,k,j,hj=>by
  have a0:e.cells.toList.length=15:=rfl;unfold zq;rw [List.flatMap_cons]
  cases k with
  | zero =>
   rw [List.getElem?_append_left (by omega)]
   simp
  | succ k =>
   rw [List.getElem?_append_right (by omega),a0,show (k+1)*15+j-15=k*15+j by omega]
   have:=jfT l k j hj;unfold zq at this;rw [this]
   simp
def RdE (w:World)(v:Value)(l:List EvtM):Prop:=Rd w v l.length (zq l)
theorem RdE.below {w w':World}{v:Value}{l:List EvtM}(h:RdE w v l)(hb:Below w.heap.size w w'):RdE w' v l:=Rd.below h hb
theorem RdE.slice {w:World}{v:Value}{l:List EvtM}(h:RdE w v l):∃ a cap,v=.slice a l.length cap∧l.length≤cap∧cap≤9223372036854775807:=by
 obtain ⟨a,cap,h1,h2,h3,_⟩:=h;exact ⟨a,cap,h1,h2,h3⟩
theorem RdE.row {w:World}{a:Option Addr}{n cap:Nat}{l:List EvtM}(h:RdE w (.slice a n cap) l)(k:Nat)(hk:k<l.length):∃ b off,a=some ⟨b,off,none⟩∧w.rangeAt b (off+k*15) (l[k]).cells.toList:=by
 obtain ⟨a',cap',e,h1,h2,_,h3⟩:=h;injection e with e1 e2 e3
 subst e1;have hl:=je6 l;obtain ⟨b,off,rfl,_⟩:=h3 (k*15) (by omega)
 refine ⟨b,off,rfl,fun j v hv=>?_⟩
 have hj:j<15:=(List.getElem?_eq_some_iff.1 hv).1;obtain ⟨b',off',e',h4⟩:=h3 (k*15+j) (by omega)
 injection e' with e';injection e' with e5 e6
 subst e5;subst e6;rw [Nat.add_assoc,h4];have h5:=jfT l k j hj;rw [List.getElem?_eq_getElem hk] at h5;rw [List.getD,h5];show some ((l[k].cells.toList[j]?).getD undef)=some v;rw [hv];rfl
theorem EvtM.oneE (e0:EvtM):∀ v∈e0.cells.toList,v.oneCell'=true:=by
 intro v hv;rw [e0.cellsE] at hv;simp only [List.mem_cons,List.not_mem_nil,or_false] at hv
 rcases hv with rfl | rfl | rfl | rfl | rfl | rfl | rfl | rfl | rfl | rfl | rfl | rfl | rfl | rfl | rfl <;> rfl
def OwnE (w:World)(base:Nat)(v:Value)(l:List EvtM):Prop:=w.ownsRow base 47 15 v l.length (zq l)
theorem OwnE.nil (w:World)(base:Nat):OwnE w base (.slice none 0 0) []:=⟨rfl,.inl ⟨rfl,rfl⟩⟩
theorem OwnE.rd {w:World}{base:Nat}{v:Value}{l:List EvtM}(h:OwnE w base v l):RdE w v l:=jq h
theorem OwnE.below {w w':World}{base:Nat}{v:Value}{l:List EvtM}(h:OwnE w base v l)(hb:Below w.heap.size w w'):OwnE w' base v l:=jr h hb
theorem LentS.slice {w:World}{base:Nat}{v:Value}{l:List SesM}(h:LentS w base v l):∃ a cap,v=.slice a l.length cap∧l.length≤cap:=by
 obtain ⟨a,cap,h1,h2⟩:=h;obtain ⟨a',cap',e,h3⟩:=h2.slice;injection e with e1 e2 e3
 exact ⟨a,cap,h1,by rw [zO] at h3;omega⟩
theorem LentS.lt {w:World}{base:Nat}{v:Value}{l:List SesM}(h:LentS w base v l):∀ k,v.ownBlock=some k→base≤k∧k<w.heap.size:=by
 obtain ⟨a,cap,rfl,h2⟩:=h;exact fun k hk=>h2.lt k (by cases a <;> exact hk)
theorem LentS.base {w:World}{base base':Nat}{v:Value}{l:List SesM}(h:LentS w base v l)(hb:base'≤base):LentS w base' v l:=by
 obtain ⟨a,cap,rfl,h2⟩:=h;exact ⟨a,cap,rfl,h2.base hb⟩
theorem jgm (v v':Value)(base:Nat)(l:List SesM)(w:World)(hv:LentS w base v l)(a0:RdS w v' l)(hn:l.length≤1256584717457) :
  Calls prog 89 #[v,v'] w fun e w'=>e=.returned (.bool true)∧Below w.heap.size w w':=by
 obtain ⟨a,cap,rfl,h2⟩:=hv;obtain ⟨a2,cap2,rfl,a1,a5⟩:=a0.slice;have a3:=h2.rd;have hc:l.length+16≤cap:=by
  obtain ⟨_,_,e,hc⟩:=h2.slice;injection e with _ e2 e3
  rw [zO] at hc;omega
 have H:=Hd (jb9 (.slice a (l.length+16) cap) (.slice a2 l.length cap2) l w a3 a0 hn);obtain ⟨n,hN⟩:=Nm (l.length);rw [← hN] at H hc hn a1 ⊢;have z1:(n:Int)+16=((n+16:Nat):Int):=by omega
 have a6:∀ w,(Instr.slice 28 (.slice a n cap) none (some (.int .i64 ((n:Int)+16))) none).run prog w=.ok (.slice a (n+16) cap) w:=fun w=>by rw [z1];exact jjl a n cap (n+16) (by omega) w
 have n1:(n:Int)+16≤9223372036854775807:=by omega
 obtain ⟨N,a4⟩:=Nm (n+16);rw [← a4] at H a6;clear a4 h2 a0 a3 hN hc a1 a5 hn z1;go_enter func89,ntmps89;go_wp2_with fail;refine H.1.mono ?_;rintro e w1 ⟨rfl,hb⟩;have A:=Hd hb;clear hb H;go_wp2_with fail;go_ret;exact ⟨rfl,A.1⟩
theorem jcn (c b:Int)(v:Value)(l:List SesM)(w:World)(hv:RdS w v l)(hn:l.length+16≤1256584717457) :
  Calls prog 50 #[.agg #[.int .i64 c,.int .i64 b,v]] w fun e w'=>∃ o,e=.returned (.agg #[.int .i64 c,.int .i64 b,o])∧LentS w' w.heap.size o l∧Below w.heap.size w w':=by
 have A:=Hd hv;have H:=Hd (fun o o2 o3=>((ja w o).trans ((ja (w.alloc o) o2).mono (ja w o).size)).trans ((ja ((w.alloc o).alloc o2) o3).mono (Nat.le_trans (ja w o).size (ja _ o2).size)))
 obtain ⟨a,cap,rfl,_,_⟩:=hv.slice;clear hv;go_enter func50,ntmps50;go_wp2_with fail;refine (jfL _ l _ (A.1.below (H.1 _ _ _)) hn).mono ?_;rintro ev w1 ⟨o,rfl,a3,hb⟩;have B:=Hd a3;have C:=Hd ((H.1 _ _ _).trans (hb.mono (H.1 (.cells #[.int .i64 c,.int .i64 b,.slice a l.length cap] 30) (.cells #[.int .i64 0,.int .i64 0,.slice none 0 0] 30) (.cells #[.int .i64 c,.int .i64 b,.slice a l.length cap] 30)).size));have a0:Box w1 (w.heap.size+1) #[.int .i64 0,.int .i64 0,.slice none 0 0] 30:=by
  have h:=(Box.new (w.alloc (.cells #[.int .i64 c,.int .i64 b,.slice a l.length cap] 30)) #[.int .i64 0,.int .i64 0,.slice none 0 0] 30).below (ja _ (.cells #[.int .i64 c,.int .i64 b,.slice a l.length cap] 30));rw [World.size_alloc] at h;exact h.below hb
 have a1:Box w1 (w.heap.size+1+1) #[.int .i64 c,.int .i64 b,.slice a l.length cap] 30:=by
  have h:=Box.new ((w.alloc (.cells #[.int .i64 c,.int .i64 b,.slice a l.length cap] 30)).alloc (.cells #[.int .i64 0,.int .i64 0,.slice none 0 0] 30)) #[.int .i64 c,.int .i64 b,.slice a l.length cap] 30;rw [World.size_alloc,World.size_alloc] at h;exact h.below hb
 have D:=Hd a0;have F:=Hd a1;have c0:w1.cell? ⟨w.heap.size+1+1,0,none⟩=some (.int .i64 c):=a1.cell 0 _ rfl;have c1:w1.cell? ⟨w.heap.size+1+1,1,none⟩=some (.int .i64 b):=a1.cell 1 _ rfl;have c2:w1.cell? ⟨w.heap.size+1+1,2,none⟩=some (.slice a l.length cap):=a1.cell 2 _ rfl;have f2:=a1.free 2;have d0:w1.cell? ⟨w.heap.size+1,0,none⟩=some (.int .i64 0):=a0.cell 0 _ rfl;have d1:w1.cell? ⟨w.heap.size+1,1,none⟩=some (.int .i64 0):=a0.cell 1 _ rfl;have d2:w1.cell? ⟨w.heap.size+1,2,none⟩=some (.slice none 0 0):=a0.cell 2 _ rfl;have g0:=a0.free 0;have g1:=a0.free 1;have g2:=a0.free 2;have E:=Hd (fun q hq=>(a3.lt q hq).1)
 clear a3 hb a0 a1 H A;obtain ⟨oa,oc,rfl,_⟩:=B.1.slice;go_wp2_with fail;have hm:∀ (W:World),Mod (fun q=>q=w.heap.size+1∨q=w.heap.size+1+1) w1 W→LentS W w.heap.size (.slice oa l.length oc) l∧Below w.heap.size w W:=fun W hm=>by
  refine ⟨(B.1.base (by simp;omega)).mod hm (fun q hq e=>?_),C.1.trans (hm.below C.1.size (fun i hi=>by omega))⟩
  have:=E.1 q hq
  simp at this
  omega
 have a2:∀ (W:World) (q o:Nat) (v:Value),Mod (fun q=>q=w.heap.size+1∨q=w.heap.size+1+1) w1 W→(q=w.heap.size+1∨q=w.heap.size+1+1)→Mod (fun q=>q=w.heap.size+1∨q=w.heap.size+1+1) w1 (W.setCell ⟨q,o,none⟩ v):=fun W q o v h hq=>h.trans (Mod.set _ _ _ _ hq)
 refine vq rfl rfl (w.heap.size+1) 0 rfl [.int .i64 c,.int .i64 b,.slice oa l.length oc] _ ?_ underlying30 rfl (by kernel_rfl) ⟨_,rfl,hm _ (by
  refine a2 _ _ _ _ (a2 _ _ _ _ (a2 _ _ _ _ (a2 _ _ _ _ (Mod.refl _ _) ?_) ?_) ?_) ?_ <;> simp)⟩
 have a4:Box ((((w1.setCell ⟨w.heap.size+1+1,2,none⟩ (.slice oa l.length oc)).setCell ⟨w.heap.size+1,0,none⟩ (.int .i64 c)).setCell ⟨w.heap.size+1,1,none⟩ (.int .i64 b)).setCell ⟨w.heap.size+1,2,none⟩ (.slice oa l.length oc)) (w.heap.size+1) #[.int .i64 c,.int .i64 b,.slice oa l.length oc] 30:=by
  have h:=(((D.1.set_other (p:=⟨w.heap.size+1+1,2,none⟩) (by simp) (.slice oa l.length oc)).set 0 (.int .i64 c)).set 1 (.int .i64 b)).set 2 (.slice oa l.length oc)
  exact h
 intro j v hv;rw [Nat.zero_add];exact a4.cell j v (by simpa using hv)
theorem jcj (c b:Int)(v v':Value)(base:Nat)(l:List SesM)(w:World)(hv:LentS w base v l)(a0:RdS w v' l)(hn:l.length≤1256584717457) :
  Calls prog 52 #[.agg #[.int .i64 c,.int .i64 b,v],.agg #[.int .i64 c,.int .i64 b,v']] w fun e w'=>e=.returned (.bool true)∧Below w.heap.size w w':=by
 have H:=Hd (fun o o2=>jn w o o2)
 have A:=Hd (fun w' hb=>jgm v v' base l w' (hv.below hb) (a0.below hb) hn)
 obtain ⟨a,cap,rfl,_⟩:=hv.slice;obtain ⟨a2,cap2,rfl,_⟩:=a0.slice;have e1:(c==c)=true:=by rw [beq_iff_eq]
 have e2:(b==b)=true:=by rw [beq_iff_eq]
 clear hv a0 hn;go_enter func52,ntmps52;go_wp2_with fail;refine (A.1 _ (H.1 _ _)).mono ?_;rintro e w1 ⟨rfl,hb⟩;have B:=Hd ((H.1 _ _).trans (hb.mono (H.1 (.cells #[.int .i64 c,.int .i64 b,.slice a l.length cap] 30) (.cells #[.int .i64 c,.int .i64 b,.slice a2 l.length cap2] 30)).size));clear hb A H;go_wp2_with fail;go_ret;exact ⟨rfl,B.1⟩
theorem jit:(prog.info? 47).map (fun i=>(i.zero,i.size,i.bytes))=some (some (.agg #[.int .i64 0,.int .i64 0,.int .i64 0,.int .i64 0,.int .i64 0,.int .i64 0,.string ⟨#[]⟩,.string ⟨#[]⟩,.int .u64 0,.int .i64 0,.int .i64 0,.int .i64 0,.int .i64 0,.int .i64 0,.int .i64 0]),15,136):=by kernel_rfl
theorem EvtM.listE (s:EvtM):Hid (s.cells=s.cells.toList.toArray):=Lib.hid rfl
theorem OwnE.slice {w:World}{base:Nat}{v:Value}{l:List EvtM}(h:OwnE w base v l):∃ a cap,v=.slice a l.length cap∧l.length≤cap:=by
 obtain ⟨a,cap,h1,h2,_⟩:=h.rd.slice;exact ⟨a,cap,h1,h2⟩
theorem OwnE.lt {w:World}{base:Nat}{v:Value}{l:List EvtM}(h:OwnE w base v l):∀ k,v.ownBlock=some k→base≤k∧k<w.heap.size:=jfd h
theorem je9 (w:World)(s:EvtM):(w.alloc (.cells #[.int .i64 0,.int .i64 0,.int .i64 0,.int .i64 0,.int .i64 0,.int .i64 0,.string ⟨#[]⟩,.string ⟨#[]⟩,.int .u64 0,.int .i64 0,.int .i64 0,.int .i64 0,.int .i64 0,.int .i64 0,.int .i64 0] 47)).there w.heap.size 0 s.cells.toList.length:=by
 intro j hj;have hj:j<15:=hj;have hb:=Box.new w #[.int .i64 0,.int .i64 0,.int .i64 0,.int .i64 0,.int .i64 0,.int .i64 0,.string ⟨#[]⟩,.string ⟨#[]⟩,.int .u64 0,.int .i64 0,.int .i64 0,.int .i64 0,.int .i64 0,.int .i64 0,.int .i64 0] 47;obtain ⟨v,hv⟩:∃ v,(#[.int .i64 0,.int .i64 0,.int .i64 0,.int .i64 0,.int .i64 0,.int .i64 0,.string ⟨#[]⟩,.string ⟨#[]⟩,.int .u64 0,.int .i64 0,.int .i64 0,.int .i64 0,.int .i64 0,.int .i64 0,.int .i64 0]:Array Value)[j]?=some v:=⟨_,Array.getElem?_eq_getElem (show j<15 from hj)⟩
 rw [Nat.zero_add];exact ⟨by rw [hb.cell _ v hv];rfl,hb.free _⟩
theorem jje {w w':World}{s:EvtM}(h:Hid (w'=(w.alloc (.cells #[.int .i64 0,.int .i64 0,.int .i64 0,.int .i64 0,.int .i64 0,.int .i64 0,.string ⟨#[]⟩,.string ⟨#[]⟩,.int .u64 0,.int .i64 0,.int .i64 0,.int .i64 0,.int .i64 0,.int .i64 0,.int .i64 0] 47)).setCells w.heap.size 0 s.cells.toList)):Box w' w.heap.size s.cells 47∧Below w.heap.size w w':=by
 rw [h.out];have hb:=Box.new w #[.int .i64 0,.int .i64 0,.int .i64 0,.int .i64 0,.int .i64 0,.int .i64 0,.string ⟨#[]⟩,.string ⟨#[]⟩,.int .u64 0,.int .i64 0,.int .i64 0,.int .i64 0,.int .i64 0,.int .i64 0,.int .i64 0] 47;obtain ⟨cs',h1,h2,h3,_⟩:=Box.setCells s.cells.toList 0 hb (by show 0+15≤15;decide)
 have e1:cs'=s.cells:=by
  apply Array.ext_getElem?
  intro j;by_cases hj:j<15
  ·
   have:=h3 j _ (List.getElem?_eq_getElem (show j<s.cells.toList.length from hj))
   rw [Nat.zero_add] at this;rw [this,← Array.getElem?_toList,List.getElem?_eq_getElem (show j<s.cells.toList.length from hj)]
  · rw [Array.getElem?_eq_none (by rw [h2];show 15≤j;omega),Array.getElem?_eq_none (by show 15≤j;omega)]
 rw [e1] at h1;exact ⟨h1,jd2 w _ _⟩
theorem jke (s:EvtM)(w:World):(Instr.buildSlice 22 1 #[(0,.agg s.cells)]).run prog w=.ok (.slice (some ⟨w.heap.size,0,none⟩) 1 1) (w.alloc (.cells s.cells 47)):=by kernel_rfl
theorem jkz {w:World}{ops:Array Oper}{rest:List Oper}{o:Oper}{a:Act}{Q:Exit→Act→World→Prop}(a2:o.guard=none)(s x:Operand)(ho:o.op=.call { callee:=.builtin .append,args:=#[s,x],argTypes:=#[22,22] })(base:Nat)(v:Value)(l:List EvtM)(hs:a.eval s=v)(a1:OwnE w base v l)(ad:Addr)(c:Nat)(y:EvtM)(hx:a.eval x=.slice (some ad) 1 c)(hy:∀ j u,y.cells.toList[j]?=some u→w.cell? (ad.add j)=some u)(a6:l.length+1≤1034834473200)(a0:base≤w.heap.size)(h:∀ v' w',OwnE w' base v' (l ++ [y])→w.grownBy w' v.ownBlock→xe w v v'→wpList prog ops Q rest (a.put o.dst v') w'):wpList prog ops Q (o::rest) a w:=by
 obtain ⟨i0,hi,a3,a4,a5⟩:=info_parts jit;refine ye a2 s x 22 ho base 47 i0 _ 15 136 underlying22 hi a3 a4 a5 rfl (by decide) v l.length (zq l) hs a1 ad 1 c y.cells.toList hx rfl hy y.oneE (by unfold maxLen;omega) (by omega) a0 (fun v' w' h1 h2 h3=>h v' w' ?_ h2 h3)
 unfold OwnE;rw [je7,jih,List.length_append];exact h1
theorem jhY (w:World)(s:EvtM)(t:TypeId):∀ j u,s.cells.toList[j]?=some u→(w.alloc (.cells s.cells t)).cell? ((⟨w.heap.size,0,none⟩:Addr).add j)=some u:=fun j u hj=>World.news_of_block (heap_alloc_new w (.cells s.cells t)) j u hj
structure EvOk (e:EvtM):Prop where
 user:e.s.user.length≤140737488351232
 label:e.s.label.length≤140737488351232
 scopes:e.s.scopes<2 ^ 64
 kind:I64 e.kind
 birth:I64 e.birth
 ticks:I64 e.ticks
 sSlot:I64 e.s.slot
 sBirth:I64 e.s.birth
 sUpS:I64 e.s.upS
 sUpB:I64 e.s.upB
 sKind:I64 e.s.kind
 sLevel:I64 e.s.level
 sBorn:I64 e.s.born
 sDeadline:I64 e.s.deadline
 sDepth:I64 e.s.depth
theorem jhQ {n:Int}(h:(Lit.int .u64 n).wf=true):∃ k:Nat,n=(k:Int)∧k<2 ^ 64:=by
 have h1:0≤n∧n≤18446744073709551615:=by simpa [Lit.wf,IntKind.min,IntKind.max,IntKind.bits,IntKind.signed] using h
 exact ⟨n.toNat,by omega,by omega⟩
set_option maxRecDepth 100000 in
theorem ArgC.event {N:Nat}{W:World}{cs:List Value}(hl:cs.length=15)(h:ArgC false N 47 W cs):∃ e:EvtM,cs=e.cells.toList∧EvOk e:=by
 match cs,hl with
 | [c0,c1,c2,c3,c4,c5,c6,c7,c8,c9,c10,c11,c12,c13,c14],_ =>
  have ci:prog.cellsOf 3=1:=by kernel_rfl
  have cs':prog.cellsOf 9=1:=by kernel_rfl
  have cu:prog.cellsOf 43=1:=by kernel_rfl
  have cl:prog.cellsOf 41=2:=by kernel_rfl
  have cx:prog.cellsOf 45=12:=by kernel_rfl
  have hs:=underlying47;obtain ⟨n0,rfl,b0⟩:=h.fint hs 0 _ rfl ci c0 rfl .i64 underlying3;obtain ⟨M,_,g⟩:=h.fstruct hs 1 _ rfl 45 1 12 rfl rfl cx;have g':ArgC false M 45 W [c1,c2,c3,c4,c5,c6,c7,c8,c9,c10,c11,c12]:=g;have hx:=underlying45;obtain ⟨n1,rfl,b1⟩:=g'.fint hx 0 _ rfl ci c1 rfl .i64 underlying3;obtain ⟨n2,rfl,b2⟩:=g'.fint hx 1 _ rfl ci c2 rfl .i64 underlying3;obtain ⟨M2,_,k⟩:=g'.fstruct hx 2 _ rfl 41 2 2 rfl rfl cl;have k':ArgC false M2 41 W [c3,c4]:=k;have hk:=underlying41;obtain ⟨n3,rfl,b3⟩:=k'.fint hk 0 _ rfl ci c3 rfl .i64 underlying3;obtain ⟨n4,rfl,b4⟩:=k'.fint hk 1 _ rfl ci c4 rfl .i64 underlying3;obtain ⟨n5,rfl,b5⟩:=g'.fint hx 3 _ rfl ci c5 rfl .i64 underlying3;obtain ⟨s6,rfl,_,_,b6⟩:=g'.fstring hx 4 _ rfl cs' c6 rfl underlying9;obtain ⟨s7,rfl,_,_,b7⟩:=g'.fstring hx 5 _ rfl cs' c7 rfl underlying9;obtain ⟨n8,rfl,b8⟩:=g'.fint hx 6 _ rfl cu c8 rfl .u64 underlying43;obtain ⟨n9,rfl,b9⟩:=g'.fint hx 7 _ rfl ci c9 rfl .i64 underlying3;obtain ⟨n10,rfl,b10⟩:=g'.fint hx 8 _ rfl ci c10 rfl .i64 underlying3;obtain ⟨n11,rfl,b11⟩:=g'.fint hx 9 _ rfl ci c11 rfl .i64 underlying3;obtain ⟨n12,rfl,b12⟩:=g'.fint hx 10 _ rfl ci c12 rfl .i64 underlying3;obtain ⟨n13,rfl,b13⟩:=h.fint hs 2 _ rfl ci c13 rfl .i64 underlying3;obtain ⟨n14,rfl,b14⟩:=h.fint hs 3 _ rfl ci c14 rfl .i64 underlying3;obtain ⟨u,rfl,hu⟩:=jhv s6;obtain ⟨l,rfl,hl⟩:=jhv s7;obtain ⟨sc,rfl,a0⟩:=jhQ b8;exact ⟨⟨n0,⟨n1,n2,n3,n4,n5,u,l,sc,n9,n10,n11,n12⟩,n13,n14⟩,rfl,by rw [hu];exact b6 rfl,by rw [hl];exact b7 rfl,a0,jQ b0,jQ b13,jQ b14,jQ b1,jQ b2,jQ b3,jQ b4,jQ b5,jQ b9,jQ b10,jQ b11,jQ b12⟩
theorem jdj:∀ (l m:List EvtM) (st:StM),(yE st l).2=l.length→yE st (l++m)=((yE (yE st l).1 m).1,l.length+(yE (yE st l).1 m).2)
 | [],m,st,_=>by simp [yE]
 | e::l,m,st,h=>by
  unfold yE at h;by_cases h0:(jH st e).1=0
  ·
   rw [if_pos h0] at h;have h1:(yE (jH st e).2 l).2=l.length:=by simp only [List.length_cons] at h;omega
   have ih:=jdj l m (jH st e).2 h1;have e1:yE st (e::l)=((yE (jH st e).2 l).1,(yE (jH st e).2 l).2+1):=by rw [yE,if_pos h0]
   rw [List.cons_append,yE,if_pos h0,ih,e1];simp only [List.length_cons]
   congr 1;omega
  · rw [if_neg h0] at h;simp at h
theorem jaB (f:SesM→Bool)(l:List SesM):(jx f l).length≤l.length:=List.length_filter_le _ _
theorem vy (st:StM)(e:EvtM):(jH st e).2.l.length≤st.l.length+1:=by
 have h1:=jaB (fun s=>s.birth==e.birth) st.l
 have h2:=jaB (fun s=>decide (s.deadline≤st.clock+e.ticks)) st.l
 unfold jH
 repeat' split
 all_goals simp [yh] <;> omega
theorem jja (S:StM)(e:EvtM)(r:List EvtM)(h0:(jH S e).1=0):yE S (e::r)=((yE (jH S e).2 r).1,(yE (jH S e).2 r).2+1):=by rw [yE,if_pos h0]
theorem jj3 (S:StM)(e:EvtM)(r:List EvtM)(h0:(jH S e).1≠0):yE S (e::r)=(S,0):=by rw [yE,if_neg h0]
theorem jhB {st S:StM}{l:List EvtM}{k:Nat}(hk:k<l.length)(h:yE st (l.take k)=(S,k))(h0:(jH S l[k]).1=0):yE st (l.take (k+1))=((jH S l[k]).2,k+1):=by
 have h1:(l.take k).length=k:=by rw [List.length_take];omega
 rw [List.take_succ_eq_append_getElem hk,jdj _ _ _ (by rw [h,h1]),h,h1]
 simp only;rw [jja _ _ _ h0];rfl
theorem jiq {st S:StM}{l:List EvtM}{k:Nat}(hk:k<l.length)(h:yE st (l.take k)=(S,k))(h0:(jH S l[k]).1≠0):yE st l=(S,k):=by
 have h1:(l.take k).length=k:=by rw [List.length_take];omega
 have e:l=l.take k++l[k]::l.drop (k+1):=by rw [List.getElem_cons_drop,List.take_append_drop]
 rw [e,jdj _ _ _ (by rw [h,h1]),h,h1]
 simp only;rw [jj3 _ _ _ h0];rfl
theorem jjo {st S:StM}{l:List EvtM}(h:yE st (l.take l.length)=(S,l.length)):yE st l=(S,l.length):=by rwa [List.take_length] at h
structure AllI (w w':World)(st:StM)(l:List EvtM)(k:Nat)(C B:Int)(sv:Value)(L:List SesM):Prop where
 bx:Box w' w.heap.size #[.int .i64 C,.int .i64 B,sv] 30
 bz:Box w' (w.heap.size+1) #[.int .i64 0,.int .i64 0,.slice none 0 0] 30
 ow:OwnS w' (w.heap.size+2) sv L
 al:yE st (l.take k)=(⟨C,B,L⟩,k)
 ln:L.length≤st.l.length+k
 bel:Below w.heap.size w w'
theorem AllI.below {w w' w2:World}{st:StM}{l:List EvtM}{k:Nat}{C B:Int}{sv:Value}{L:List SesM}(h:AllI w w' st l k C B sv L)(hb:Below w'.heap.size w' w2):AllI w w2 st l k C B sv L :=
 ⟨h.bx.below hb,h.bz.below hb,h.ow.below hb,h.al,h.ln,h.bel.trans (hb.mono h.bel.size)⟩
theorem AllI.put {w w':World}{st:StM}{l:List EvtM}{k:Nat}{C B:Int}{sv:Value}{L:List SesM}(h:AllI w w' st l k C B sv L)(k2:Nat)(C2 B2:Int)(o:Value)(L2:List SesM)(ho:OwnS w' (w.heap.size+2) o L2)(a0:yE st (l.take k2)=(⟨C2,B2,L2⟩,k2))(a1:L2.length≤st.l.length+k2) :
  AllI w (((w'.setCell ⟨w.heap.size,0,none⟩ (.int .i64 C2)).setCell ⟨w.heap.size,1,none⟩ (.int .i64 B2)).setCell ⟨w.heap.size,2,none⟩ o) st l k2 C2 B2 o L2:=by
 have hm:=Mod.set3 w.heap.size w' (.int .i64 C2) (.int .i64 B2) o;exact ⟨((h.bx.set 0 (.int .i64 C2)).set 1 (.int .i64 B2)).set 2 o,h.bz.mod hm (by omega),ho.mod hm (fun k hk e=>by have:=(ho.lt k hk).1;omega),a0,a1,h.bel.trans (hm.below h.bel.size (fun i hi=>by omega))⟩
theorem AllI.fill {w w':World}{st:StM}{l:List EvtM}{k:Nat}{C B:Int}{sv:Value}{L:List SesM}(h:AllI w w' st l k C B sv L) :
  Box (((w'.setCell ⟨w.heap.size+1,0,none⟩ (.int .i64 C)).setCell ⟨w.heap.size+1,1,none⟩ (.int .i64 B)).setCell ⟨w.heap.size+1,2,none⟩ sv) (w.heap.size+1) #[.int .i64 C,.int .i64 B,sv] 30∧OwnS (((w'.setCell ⟨w.heap.size+1,0,none⟩ (.int .i64 C)).setCell ⟨w.heap.size+1,1,none⟩ (.int .i64 B)).setCell ⟨w.heap.size+1,2,none⟩ sv) w.heap.size sv L∧Below w.heap.size w (((w'.setCell ⟨w.heap.size+1,0,none⟩ (.int .i64 C)).setCell ⟨w.heap.size+1,1,none⟩ (.int .i64 B)).setCell ⟨w.heap.size+1,2,none⟩ sv):=by
 have hm:=Mod.set3 (w.heap.size+1) w' (.int .i64 C) (.int .i64 B) sv;exact ⟨((h.bz.set 0 (.int .i64 C)).set 1 (.int .i64 B)).set 2 sv,(h.ow.mod hm (fun k hk e=>by have:=(h.ow.lt k hk).1;omega)).base (by omega),h.bel.trans (hm.below h.bel.size (fun i hi=>by omega))⟩
theorem jcG (st:StM)(l:List EvtM)(v ev:Value)(w:World)(hv:RdS w v st.l)(b5:RdE w ev l)(hn:st.l.length+l.length≤1000000000)(b3:∀ e∈l,EvOk e) :
  Calls prog 94 #[.agg #[.int .i64 st.clock,.int .i64 st.births,v],ev] w fun e w'=>∃ o,e=.returned (.tuple #[.agg #[.int .i64 (yE st l).1.clock,.int .i64 (yE st l).1.births,o],.int .i64 ((yE st l).2:Int)])∧OwnS w' w.heap.size o (yE st l).1.l∧Below w.heap.size w w':=by
 have H3:=Hd (fun (S:StM) (e:EvtM) (he:e∈l) v' w' h c9=>jbS S e v' w' h c9 (Nat.le_trans (b3 e he).user (by decide)) (Nat.le_trans (b3 e he).label (by decide)) (b3 e he).scopes)
 have W:=Hd b5;have H4:=Hd hn;have P:=Hd (show yE st (l.take 0)=(st,0) from rfl)
 obtain ⟨D,hD⟩:=Nm (yE st l);have HD:=Hd hD;rw [← hD];obtain ⟨ea,ec,rfl,_,d3⟩:=b5.slice;obtain ⟨va,vc,rfl,d4,d5⟩:=hv.slice;have Q:=Hd (fun w' hb=>vO (.slice va st.l.length vc) st.l w' (hv.below hb) (by omega))
 have d6:l.length≤9223372036854775807:=by omega
 clear b5 hv hD b3 d3 d5 d4 hn;obtain ⟨n,hN⟩:=Nm (l.length);rw [← hN] at d6 W ⊢;have HN:=Hd hN;clear hN;obtain ⟨vn,b8⟩:=Nm (st.l.length);rw [← b8] at Q ⊢;clear b8;obtain ⟨c,hc⟩:=Nm (st.clock);obtain ⟨b,hb⟩:=Nm (st.births);rw [← hc,← hb];have R:=Hd (And.intro hc hb);clear hc hb;have J:=Hd (jn w (.cells #[.int .i64 c,.int .i64 b,.slice va vn vc] 30) (.cells #[.int .i64 0,.int .i64 0,.slice none 0 0] 30));have X:=Hd ((Box.new w #[.int .i64 c,.int .i64 b,.slice va vn vc] 30).below (ja _ (.cells #[.int .i64 0,.int .i64 0,.slice none 0 0] 30)));have Y:=Hd (show Box ((w.alloc (.cells #[.int .i64 c,.int .i64 b,.slice va vn vc] 30)).alloc (.cells #[.int .i64 0,.int .i64 0,.slice none 0 0] 30)) (w.heap.size+1) #[.int .i64 0,.int .i64 0,.slice none 0 0] 30 by have h:=Box.new (w.alloc (.cells #[.int .i64 c,.int .i64 b,.slice va vn vc] 30)) #[.int .i64 0,.int .i64 0,.slice none 0 0] 30;rw [World.size_alloc] at h;exact h)
 go_enter func94,ntmps94;go_wp2_with fail;refine (Q.1 _ J.1).mono ?_;rintro e1 w1 ⟨o,rfl,ho,a4⟩;obtain ⟨sa,sc,rfl,_⟩:=ho.slice;obtain ⟨sn,a9⟩:=Nm (st.l.length);rw [← a9] at ho ⊢;clear a9;have b4:=X.1.below a4;have b9:=Y.1.below a4;have hs:=J.1.size;have f2:=b4.free 2;have c2:w1.cell? ⟨w.heap.size,2,none⟩=some (.slice va vn vc):=b4.cell 2 _ rfl;have hm:=Mod.set (fun i=>i=w.heap.size) w1 ⟨w.heap.size,2,none⟩ (.slice sa sn sc) rfl
 have b6:=ho.base (base':=w.heap.size+2) (by simp)
 have Z:=Hd (show AllI w (w1.setCell ⟨w.heap.size,2,none⟩ (.slice sa sn sc)) st l 0 c b (.slice sa sn sc) st.l from
  ⟨b4.set 2 (.slice sa sn sc),b9.mod hm (by omega),b6.mod hm (fun k hk e=>by have:=(b6.lt k hk).1;omega),by rw [P.1,R.1.1,R.1.2],by omega,(J.1.trans (a4.mono hs)).trans (hm.below (J.1.trans (a4.mono hs)).size (fun i hi=>by omega))⟩)
 clear ho b6 a4 b4 b9 hs hm X Y J Q;go_wp2_with fail
 go_loopg [16] n (fun gk iv wr=>∃ (k:Nat) (C B:Int) (sv:Value) (L:List SesM),gk+k=n∧iv=.int .i64 (k:Int)∧AllI w wr st l k C B sv L)
 case atStart=>exact ⟨0,_,_,_,_,Nat.add_zero _,rfl,Z.1⟩
 case round =>
  clear c2 f2 Z P R;obtain ⟨k,C,B,sv,L,c3,rfl,hI⟩:=hrel;have k0:(0:Int)≤(k:Int):=by omega
  have T:=Hd c3;have E:=Hd hI;obtain ⟨sa,sc,rfl,_⟩:=hI.ow.slice;obtain ⟨sn,a9⟩:=Nm (L.length);rw [← a9] at E;clear c3 hI a9;by_cases hk:k<n;rotate_left
  ·
   have k1:¬ (k:Int)<(n:Int):=by omega
   obtain rfl:k=n:=by have:=T.1;omega
   have K:=Hd (show D=(⟨C,B,L⟩,k) by
    have h:=E.1.al;rw [HN.1] at h ⊢;rw [HD.1];exact jjo h)
   have c0:(wr).cell? ⟨w.heap.size,0,none⟩=some (.int .i64 C):=E.1.bx.cell 0 _ rfl;have c1:(wr).cell? ⟨w.heap.size,1,none⟩=some (.int .i64 B):=E.1.bx.cell 1 _ rfl;have c2:(wr).cell? ⟨w.heap.size,2,none⟩=some (.slice sa sn sc):=E.1.bx.cell 2 _ rfl;have z0:(wr).cell? ⟨w.heap.size+1,0,none⟩=some (.int .i64 0):=E.1.bz.cell 0 _ rfl;have y0:=E.1.bz.free 0;have z1:(wr).cell? ⟨w.heap.size+1,1,none⟩=some (.int .i64 0):=E.1.bz.cell 1 _ rfl;have y1:=E.1.bz.free 1;have z2:(wr).cell? ⟨w.heap.size+1,2,none⟩=some (.slice none 0 0):=E.1.bz.cell 2 _ rfl;have y2:=E.1.bz.free 2;have O:=Hd E.1.fill;clear hk E;go_wp2_with fail;exact jb rfl rfl (w.heap.size+1) 0 rfl [.int .i64 C,.int .i64 B,.slice sa sn sc] _ (js O.1.1) underlying30 rfl (by kernel_rfl) _ rfl ⟨_,by rw [K.1];rfl,by rw [K.1];exact O.1.2.1,O.1.2.2⟩
  have k1:(k:Int)<(n:Int):=by omega
  have b0:k<l.length:=by have:=HN.1;omega
  obtain ⟨e,he⟩:=Nm (l[k]);obtain ⟨rb,ro,d7,b2⟩:=(W.1.below E.1.bel).row k b0;subst d7;rw [← he] at b2;have U:=Hd b2;have HK:=Hd hk;have H2:=Hd (show e∈l by rw [he];exact List.getElem_mem b0)
  have H5:=Hd (show L.length≤1000000000 by have h:=E.1.ln;have:=H4.1;omega)
  have G:=Hd (fun h0=>@jhB st ⟨C,B,L⟩ l k b0 E.1.al h0)
  have I:=Hd (fun h0=>@jiq st ⟨C,B,L⟩ l k b0 E.1.al h0)
  have M:=Hd (Nat.le_trans (vy ⟨C,B,L⟩ e) (Nat.add_le_add_right E.1.ln 1));rw [← he] at G I;clear hk b0 he b2
  go_wp2_with ((with_reducible refine je ?b01 47 (.tmp 19) ?b11 rb (ro+k*15) ?b21 e.cells.toList _ U.1 underlying47 ?b31 ?b41 ?b81);(case b11=>rfl);(case b01=>rfl);(case b21=>rfl);(case b31=>rfl);(case b41=>kernel_rfl))
  intro cv b1
  go_wp2_with ((with_reducible refine jc ?a0 47 (.tmp 7) (.tmp 20) ?a1 wr.heap.size 0 e.cells.toList ?a2 cv ?a3 b1 ?a5 ?a6 ?a7 ?a8);(case a1=>rfl);(case a0=>rfl);(case a2=>rfl);(case a3=>rfl);(case a5=>exact je9 _ _);(case a6=>kernel_rfl);(case a7=>exact EvtM.oneE _))
  intro w2 c4;obtain ⟨c5,c6⟩:=jje c4;have H0:=Hd c5.rangeV;have F:=Hd (E.1.below c6);clear c4 b1 c5 c6 U E;have c0:(w2).cell? ⟨w.heap.size,0,none⟩=some (.int .i64 C):=F.1.bx.cell 0 _ rfl;have f0:=F.1.bx.free 0;have c1:(w2).cell? ⟨w.heap.size,1,none⟩=some (.int .i64 B):=F.1.bx.cell 1 _ rfl;have f1:=F.1.bx.free 1;have c2:(w2).cell? ⟨w.heap.size,2,none⟩=some (.slice sa sn sc):=F.1.bx.cell 2 _ rfl;have f2:=F.1.bx.free 2
  go_wp2_with ((with_reducible refine je ?b02 47 (.tmp 7) ?b12 wr.heap.size 0 ?b22 e.cells.toList _ H0.1 underlying47 ?b32 ?b42 ?b82);(case b12=>rfl);(case b02=>rfl);(case b22=>rfl);(case b32=>rfl);(case b42=>kernel_rfl))
  intro cv b1;have ecv:cv=e.cells:=by rw [b1.out]
  subst ecv;clear b1 H0;go_wp2_with fail;refine (H3.1 ⟨C,B,L⟩ e H2.1 _ w2 F.1.ow.rd H5.1).mono ?_;rintro e3 w3 ⟨o,rfl,ho,c7⟩;obtain ⟨A,hA⟩:=Nm (jH ⟨C,B,L⟩ e);rw [← hA] at ho G I M ⊢;clear hA c0 c1 c2 f0 f1 f2;obtain ⟨er,C2,B2,L2⟩:=A;simp only at ho G I M ⊢;have c8:w.heap.size+2≤w2.heap.size:=by have:=F.1.bz.lt;omega
  have H1:=Hd (F.1.below c7);obtain ⟨oa,oc,rfl,_⟩:=ho.slice;obtain ⟨m,hM⟩:=Nm (L2.length);rw [← hM] at ho ⊢;clear hM;have b7:=ja w3 (.cells #[.int .i64 C2,.int .i64 B2,.slice oa m oc] 30);have H:=Hd (H1.1.below b7);have V:=Hd ((ho.base c8).below b7);have N:=Hd (Box.new w3 #[.int .i64 C2,.int .i64 B2,.slice oa m oc] 30);clear ho c7 b7 c8 H1 F;by_cases h0:er=0
  ·
   subst h0;rw [show jo 0=.nilIface from rfl]
   have H6:=Hd (H.1.put (k+1) C2 B2 (.slice oa m oc) L2 V.1 (G.1 rfl) M.1);have c0:(w3.alloc (.cells #[.int .i64 C2,.int .i64 B2,.slice oa m oc] 30)).cell? ⟨w.heap.size,0,none⟩=some (.int .i64 C):=H.1.bx.cell 0 _ rfl;have f0:=H.1.bx.free 0;have c1:(w3.alloc (.cells #[.int .i64 C2,.int .i64 B2,.slice oa m oc] 30)).cell? ⟨w.heap.size,1,none⟩=some (.int .i64 B):=H.1.bx.cell 1 _ rfl;have f1:=H.1.bx.free 1;have c2:(w3.alloc (.cells #[.int .i64 C2,.int .i64 B2,.slice oa m oc] 30)).cell? ⟨w.heap.size,2,none⟩=some (.slice sa sn sc):=H.1.bx.cell 2 _ rfl;have f2:=H.1.bx.free 2;have d0:(w3.alloc (.cells #[.int .i64 C2,.int .i64 B2,.slice oa m oc] 30)).cell? ⟨w3.heap.size,0,none⟩=some (.int .i64 C2):=N.1.cell 0 _ rfl;have d1:(w3.alloc (.cells #[.int .i64 C2,.int .i64 B2,.slice oa m oc] 30)).cell? ⟨w3.heap.size,1,none⟩=some (.int .i64 B2):=N.1.cell 1 _ rfl;have d2:(w3.alloc (.cells #[.int .i64 C2,.int .i64 B2,.slice oa m oc] 30)).cell? ⟨w3.heap.size,2,none⟩=some (.slice oa m oc):=N.1.cell 2 _ rfl;clear H V N G I M;go_wp2_with fail
   go_roundg (n-(k+1))
   case measure=>have:=T.1;have:=HK.1;omega
   case rel=>exact ⟨k+1,_,_,_,_,by have:=T.1;have:=HK.1;omega,by go_num,H6.1⟩
  rw [jfe h0];have K:=Hd (show D=(⟨C,B,L⟩,k) by rw [HD.1];exact I.1 h0)
  have c0:(w3.alloc (.cells #[.int .i64 C2,.int .i64 B2,.slice oa m oc] 30)).cell? ⟨w.heap.size,0,none⟩=some (.int .i64 C):=H.1.bx.cell 0 _ rfl;have c1:(w3.alloc (.cells #[.int .i64 C2,.int .i64 B2,.slice oa m oc] 30)).cell? ⟨w.heap.size,1,none⟩=some (.int .i64 B):=H.1.bx.cell 1 _ rfl;have c2:(w3.alloc (.cells #[.int .i64 C2,.int .i64 B2,.slice oa m oc] 30)).cell? ⟨w.heap.size,2,none⟩=some (.slice sa sn sc):=H.1.bx.cell 2 _ rfl;have z0:(w3.alloc (.cells #[.int .i64 C2,.int .i64 B2,.slice oa m oc] 30)).cell? ⟨w.heap.size+1,0,none⟩=some (.int .i64 0):=H.1.bz.cell 0 _ rfl;have y0:=H.1.bz.free 0;have z1:(w3.alloc (.cells #[.int .i64 C2,.int .i64 B2,.slice oa m oc] 30)).cell? ⟨w.heap.size+1,1,none⟩=some (.int .i64 0):=H.1.bz.cell 1 _ rfl;have y1:=H.1.bz.free 1;have z2:(w3.alloc (.cells #[.int .i64 C2,.int .i64 B2,.slice oa m oc] 30)).cell? ⟨w.heap.size+1,2,none⟩=some (.slice none 0 0):=H.1.bz.cell 2 _ rfl;have y2:=H.1.bz.free 2;have O:=Hd H.1.fill;clear h0 H V N G I M;go_wp2_with fail;exact jb rfl rfl (w.heap.size+1) 0 rfl [.int .i64 C,.int .i64 B,.slice sa sn sc] _ (js O.1.1) underlying30 rfl (by kernel_rfl) _ rfl ⟨_,by rw [K.1];rfl,by rw [K.1];exact O.1.2.1,O.1.2.2⟩
end Go.Proofs.YtgcnolapjppbpaaGreatDoor
