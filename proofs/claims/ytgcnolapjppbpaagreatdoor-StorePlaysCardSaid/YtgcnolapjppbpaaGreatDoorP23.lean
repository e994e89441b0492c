/-
  Texts of one proof, one behind the other.
-/
import Derived.Test.YtgcnolapjppbpaaGreatDoorP16
import Derived.Test.YtgcnolapjppbpaaGreatDoorP05
import Derived.Deep.LoopGhost
import Derived.Outline
import Derived.Test.YtgcnolapjppbpaaGreatDoorP17
import Derived.BigQuiet
import Derived.Test.YtgcnolapjppbpaaGreatDoorP00
namespace Go.Proofs.YtgcnolapjppbpaaGreatDoor
open Go.RowKit _root_.Go.Proofs.Tryz
set_option maxRecDepth 100000
set_option maxHeartbeats 25600000
theorem jaW:(prog.info? 45).map (fun i=>(i.zero,i.size,i.bytes))=some (some (.agg #[.int .i64 0,.int .i64 0,.int .i64 0,.int .i64 0,.int .i64 0,.string ⟨#[]⟩,.string ⟨#[]⟩,.int .u64 0,.int .i64 0,.int .i64 0,.int .i64 0,.int .i64 0]),12,112):=by kernel_rfl
def OwnS (w:World)(base:Nat)(v:Value)(l:List SesM):Prop:=w.ownsRow base 45 12 v l.length (yN l)
theorem OwnS.nil (w:World)(base:Nat):OwnS w base (.slice none 0 0) []:=⟨rfl,.inl ⟨rfl,rfl⟩⟩
theorem OwnS.rd {w:World}{base:Nat}{v:Value}{l:List SesM}(h:OwnS w base v l):RdS w v l:=jq h
theorem OwnS.below {w w':World}{base:Nat}{v:Value}{l:List SesM}(h:OwnS w base v l)(hb:Below w.heap.size w w'):OwnS w' base v l:=jr h hb
theorem OwnS.slice {w:World}{base:Nat}{v:Value}{l:List SesM}(h:OwnS w base v l):∃ a cap,v=.slice a l.length cap∧l.length≤cap:=by
 obtain ⟨a,cap,h1,h2,_⟩:=h.rd.slice;exact ⟨a,cap,h1,h2⟩
theorem OwnS.lt {w:World}{base:Nat}{v:Value}{l:List SesM}(h:OwnS w base v l):∀ k,v.ownBlock=some k→base≤k∧k<w.heap.size:=jfd h
theorem OwnS.mod {w w':World}{base:Nat}{v:Value}{l:List SesM}{F:Nat→Prop}(h:OwnS w base v l)(hm:Mod F w w')(hb:∀ k,v.ownBlock=some k→¬ F k):OwnS w' base v l:=yB h hm hb
theorem OwnS.base {w:World}{base base':Nat}{v:Value}{l:List SesM}(h:OwnS w base v l)(hb:base'≤base):OwnS w base' v l:=jcw h hb
theorem jD {P:Program}{ops:Array Oper}{rest:List Oper}{op:Oper}{a:Act}{w:World}{Q:Exit→Act→World→Prop}(hw:Region.wanted op (yielded ops a.tmps)=true)(t:TypeId)(n:Nat)(parts:Array (Nat × Operand))(ho:op.op=.buildSlice t n parts)(vals:Array (Nat × Value))(hv:(parts.map fun (i,x)=>(i,a.eval x))=vals)(cs:Array Value)(e:TypeId)(hr:(Instr.buildSlice t n vals).run P w=.ok (.slice (some ⟨w.heap.size,0,none⟩) n n) (w.alloc (.cells cs e)))(h:∀ w',Hid (w'=w.alloc (.cells cs e))→wpList P ops Q rest (a.put op.dst (.slice (some ⟨w.heap.size,0,none⟩) n n)) w'):wpList P ops Q (op::rest) a w:=by
 rw [wpList,if_pos hw];refine .inl ?_;unfold Oper.wp execOp;simp only [ho,Sem.run_bind,hv,hr,Result.andThen_ok,Sem.run_pure];exact h _ (Lib.hid rfl)
theorem zJ (s:SesM)(w:World):(Instr.buildSlice 28 1 #[(0,.agg s.cells)]).run prog w=.ok (.slice (some ⟨w.heap.size,0,none⟩) 1 1) (w.alloc (.cells s.cells 45)):=by kernel_rfl
theorem vP {w:World}{ops:Array Oper}{rest:List Oper}{o:Oper}{a:Act}{Q:Exit→Act→World→Prop}(a2:o.guard=none)(s x:Operand)(ho:o.op=.call { callee:=.builtin .append,args:=#[s,x],argTypes:=#[28,28] })(base:Nat)(v:Value)(l:List SesM)(hs:a.eval s=v)(a1:OwnS w base v l)(ad:Addr)(c:Nat)(y:SesM)(hx:a.eval x=.slice (some ad) 1 c)(hy:∀ j u,y.cells.toList[j]?=some u→w.cell? (ad.add j)=some u)(a6:l.length+1≤1256584717458)(a0:base≤w.heap.size)(h:∀ v' w',OwnS w' base v' (l ++ [y])→w.grownBy w' v.ownBlock→xe w v v'→wpList prog ops Q rest (a.put o.dst v') w'):wpList prog ops Q (o::rest) a w:=by
 obtain ⟨i0,hi,a3,a4,a5⟩:=info_parts jaW;refine ye a2 s x 28 ho base 45 i0 _ 12 112 underlying28 hi a3 a4 a5 rfl (by decide) v l.length (yN l) hs a1 ad 1 c y.cells.toList hx rfl hy y.oneS (by unfold maxLen;omega) (by omega) a0 (fun v' w' h1 h2 h3=>h v' w' ?_ h2 h3)
 unfold OwnS;rw [vA,jek,List.length_append];exact h1
theorem yY (w:World)(s:SesM)(t:TypeId):∀ j u,s.cells.toList[j]?=some u→(w.alloc (.cells s.cells t)).cell? ((⟨w.heap.size,0,none⟩:Addr).add j)=some u:=fun j u hj=>World.news_of_block (heap_alloc_new w (.cells s.cells t)) j u hj
theorem jdY (v:Value)(l:List SesM)(w:World)(hv:RdS w v l)(hn:l.length≤1256584717457) :
  Calls prog 84 #[v] w fun e w'=>∃ o,e=.returned o∧OwnS w' w.heap.size o l∧Below w.heap.size w w':=by
 obtain ⟨a,cap,rfl,a6,b7⟩:=hv.slice;have G:=Hd hv;have b5:l.length≤9223372036854775807:=by omega
 obtain ⟨n,hN⟩:=Nm (l.length);rw [← hN] at b5 hn G a6 ⊢;have I:=Hd hN;have J:=Hd hn;clear hv a6 hN hn;go_enter func84,ntmps84;go_wp2_with fail
 go_loopg [3,4] n (fun gk o iv wr=>∃ k:Nat,gk+k=n∧iv=.int .i64 (k:Int)∧OwnS wr w.heap.size o (l.take k)∧Below w.heap.size w wr)
 case atStart=>exact ⟨0,rfl,rfl,OwnS.nil _ _,Below.refl _ _⟩
 case round =>
  obtain ⟨k,a7,rfl,a0,hb⟩:=hrel;have k0:(0:Int)≤(k:Int):=by omega
  have D:=Hd a7;have C:=Hd a0;have F:=Hd hb;clear a7;by_cases hk:k<n
  ·
   have k1:(k:Int)<(n:Int):=by omega
   have a3:k<l.length:=by have:=I.1;omega
   obtain ⟨s,hs⟩:=Nm (l[k]);have hV:=(G.1.below hb);obtain ⟨rb,ro,b6,a1⟩:=hV.row k a3;subst b6;rw [← hs] at a1;have O:=Hd (show l.take (k+1)=l.take k ++ [s] by rw [List.take_succ_eq_append_getElem a3,hs])
   have A:=Hd a1;have K:=Hd hk;have L:=Hd (show (l.take k).length+1≤1256584717458 by rw [List.length_take];have:=J.1;omega)
   have P:=Hd hb.size;clear a3 hs a1 hV hb a0 hk
   go_wp2_with ((with_reducible refine je ?b0 45 (.tmp 14) ?b1 rb (ro+k*12) ?b2 s.cells.toList _ A.1 underlying45 ?b3 ?b4 ?b8);(case b1=>rfl);(case b0=>rfl);(case b2=>rfl);(case b3=>rfl);(case b4=>kernel_rfl))
   intro cv a8;have ecv:cv=s.cells:=by rw [a8.out]
   subst ecv;clear a8
   go_wp2_with (refine jD (op:=⟨some 16,_,_,_,_,_⟩) (by rfl) 28 1 #[(0,.tmp 15)] rfl #[(0,.agg s.cells)] (by kernel_rfl) _ _ (zJ s wr) ?_)
   intro w2 a4;have a5:Below wr.heap.size wr w2:=by rw [a4.out];exact ja _ _
   have E:=Hd (show ∀ j u,s.cells.toList[j]?=some u→w2.cell? ((⟨wr.heap.size,0,none⟩:Addr).add j)=some u by rw [a4.out];exact yY wr s _)
   have B:=Hd (C.1.below a5);have H:=Hd (F.1.trans (a5.mono F.1.size));clear a4 a5 C A
   go_wp2_with (at_builtin;refine vP rfl _ _ rfl w.heap.size _ (l.take k) rfl B.1 ⟨wr.heap.size,0,none⟩ 1 s rfl E.1 L.1 (by have:=H.1.size;omega) ?_)
   intro v' w3 a2 a9 _;have M:=Hd (H.1.trans (ji a9 H.1.size (fun q hq=>(B.1.lt q hq).1)))
   have N:=Hd a2;clear a9 a2 B H E;go_wp2_with fail
   go_roundg (n-(k+1))
   case measure=>have:=D.1;have:=K.1;omega
   case rel=>exact ⟨k+1,by have:=D.1;have:=K.1;omega,by go_num,by rw [O.1];exact N.1,M.1⟩
  ·
   have k1:¬ (k:Int)<(n:Int):=by omega
   rw [List.take_of_length_le (by have:=I.1;omega)] at C
   clear hk a0 hb;go_wp2_with fail;go_ret;exact ⟨_,rfl,C.1,F.1⟩
theorem ua (c b:Int)(v:Value)(l:List SesM)(w:World)(hv:RdS w v l)(hn:l.length≤1256584717457) :
  Calls prog 47 #[.agg #[.int .i64 c,.int .i64 b,v]] w fun e w'=>∃ o,e=.returned (.agg #[.int .i64 c,.int .i64 b,o])∧OwnS w' w.heap.size o l∧Below w.heap.size w w':=by
 have A:=Hd hv;have H:=Hd (fun o o2 o3=>((ja w o).trans ((ja (w.alloc o) o2).mono (ja w o).size)).trans ((ja ((w.alloc o).alloc o2) o3).mono (Nat.le_trans (ja w o).size (ja _ o2).size)))
 obtain ⟨a,cap,rfl,_,_⟩:=hv.slice;clear hv;go_enter func47,ntmps47;go_wp2_with fail;refine (jdY _ l _ (A.1.below (H.1 _ _ _)) hn).mono ?_;rintro ev w1 ⟨o,rfl,a3,hb⟩;have B:=Hd a3;have C:=Hd ((H.1 _ _ _).trans (hb.mono (H.1 (.cells #[.int .i64 c,.int .i64 b,.slice a l.length cap] 30) (.cells #[.int .i64 0,.int .i64 0,.slice none 0 0] 30) (.cells #[.int .i64 c,.int .i64 b,.slice a l.length cap] 30)).size));have a0:Box w1 (w.heap.size+1) #[.int .i64 0,.int .i64 0,.slice none 0 0] 30:=by
  have h:=(Box.new (w.alloc (.cells #[.int .i64 c,.int .i64 b,.slice a l.length cap] 30)) #[.int .i64 0,.int .i64 0,.slice none 0 0] 30).below (ja _ (.cells #[.int .i64 c,.int .i64 b,.slice a l.length cap] 30));rw [World.size_alloc] at h;exact h.below hb
 have a1:Box w1 (w.heap.size+1+1) #[.int .i64 c,.int .i64 b,.slice a l.length cap] 30:=by
  have h:=Box.new ((w.alloc (.cells #[.int .i64 c,.int .i64 b,.slice a l.length cap] 30)).alloc (.cells #[.int .i64 0,.int .i64 0,.slice none 0 0] 30)) #[.int .i64 c,.int .i64 b,.slice a l.length cap] 30;rw [World.size_alloc,World.size_alloc] at h;exact h.below hb
 have D:=Hd a0;have F:=Hd a1;have c0:w1.cell? ⟨w.heap.size+1+1,0,none⟩=some (.int .i64 c):=a1.cell 0 _ rfl;have c1:w1.cell? ⟨w.heap.size+1+1,1,none⟩=some (.int .i64 b):=a1.cell 1 _ rfl;have c2:w1.cell? ⟨w.heap.size+1+1,2,none⟩=some (.slice a l.length cap):=a1.cell 2 _ rfl;have f2:=a1.free 2;have d0:w1.cell? ⟨w.heap.size+1,0,none⟩=some (.int .i64 0):=a0.cell 0 _ rfl;have d1:w1.cell? ⟨w.heap.size+1,1,none⟩=some (.int .i64 0):=a0.cell 1 _ rfl;have d2:w1.cell? ⟨w.heap.size+1,2,none⟩=some (.slice none 0 0):=a0.cell 2 _ rfl;have g0:=a0.free 0;have g1:=a0.free 1;have g2:=a0.free 2;have E:=Hd (fun q hq=>(a3.lt q hq).1)
 clear a3 hb a0 a1 H A;obtain ⟨oa,oc,rfl,_⟩:=B.1.slice;go_wp2_with fail;have hm:∀ (W:World),Mod (fun q=>q=w.heap.size+1∨q=w.heap.size+1+1) w1 W→OwnS W w.heap.size (.slice oa l.length oc) l∧Below w.heap.size w W:=fun W hm=>by
  refine ⟨(B.1.base (by simp;omega)).mod hm (fun q hq e=>?_),C.1.trans (hm.below C.1.size (fun i hi=>by omega))⟩
  have:=E.1 q hq
  simp at this
  omega
 have a2:∀ (W:World) (q o:Nat) (v:Value),Mod (fun q=>q=w.heap.size+1∨q=w.heap.size+1+1) w1 W→(q=w.heap.size+1∨q=w.heap.size+1+1)→Mod (fun q=>q=w.heap.size+1∨q=w.heap.size+1+1) w1 (W.setCell ⟨q,o,none⟩ v):=fun W q o v h hq=>h.trans (Mod.set _ _ _ _ hq)
 refine vq rfl rfl (w.heap.size+1) 0 rfl [.int .i64 c,.int .i64 b,.slice oa l.length oc] _ ?_ underlying30 rfl (by kernel_rfl) ⟨_,rfl,hm _ (by
  refine a2 _ _ _ _ (a2 _ _ _ _ (a2 _ _ _ _ (a2 _ _ _ _ (Mod.refl _ _) ?_) ?_) ?_) ?_ <;> simp)⟩
 have a4:Box ((((w1.setCell ⟨w.heap.size+1+1,2,none⟩ (.slice oa l.length oc)).setCell ⟨w.heap.size+1,0,none⟩ (.int .i64 c)).setCell ⟨w.heap.size+1,1,none⟩ (.int .i64 b)).setCell ⟨w.heap.size+1,2,none⟩ (.slice oa l.length oc)) (w.heap.size+1) #[.int .i64 c,.int .i64 b,.slice oa l.length oc] 30:=by
  have h:=(((D.1.set_other (p:=⟨w.heap.size+1+1,2,none⟩) (by simp) (.slice oa l.length oc)).set 0 (.int .i64 c)).set 1 (.int .i64 b)).set 2 (.slice oa l.length oc)
  exact h
 intro j v hv;rw [Nat.zero_add];exact a4.cell j v (by simpa using hv)
def jei (k i:Int):List UInt8 := [35,B8 k,B8 (k / 256),B8 i,B8 (i / 256)]
theorem jcJ (k i:Int)(w:World) :
  Calls prog 113 #[.int .i64 k,.int .i64 i] w fun e w'=>e=.returned (.string (SB (jei k i)))∧Below w.heap.size w w':=by
 have a0:=jgJ w #[.int .u8 35,.int .u8 (k % 256),.int .u8 (k / 256 % 256),.int .u8 (i % 256),.int .u8 (i / 256 % 256)] 5 (jei k i) (by
  show _ = [V8 35,V8 (B8 k),V8 (B8 (k / 256)),V8 (B8 i),V8 (B8 (i / 256))];rw [jhA,jhA,jhA,jhA];rfl) (by show 5≤_;decide)
 have kc:=vU (jei k i) a0 rfl;have hb:=ja w (.cells #[.int .u8 35,.int .u8 (k % 256),.int .u8 (k / 256 % 256),.int .u8 (i % 256),.int .u8 (i / 256 % 256)] 5);have H:=Hd hb;obtain ⟨s,hs⟩:=Nm (SB (jei k i));rw [← hs] at kc ⊢;have kc:(convert 92 9 (.slice (some ⟨w.heap.size,0,none⟩) 5 5)).run prog (w.alloc (.cells #[.int .u8 35,.int .u8 (k % 256),.int .u8 (k / 256 % 256),.int .u8 (i % 256),.int .u8 (i / 256 % 256)] 5))=.ok (.string s) (w.alloc (.cells #[.int .u8 35,.int .u8 (k % 256),.int .u8 (k / 256 % 256),.int .u8 (i % 256),.int .u8 (i / 256 % 256)] 5)):=kc;clear a0 hb hs;go_enter func113,ntmps113;go_wp2_with fail;go_ret;exact ⟨rfl,H.1⟩
theorem jaV (s t:SesM)(w:World):(binOp .neq 45 (.agg s.cells) (.agg t.cells)).run prog w=.ok (.bool (!(xZ s t))) w:=by
 obtain ⟨r,hr⟩:=Nm (xZ s t);rw [← hr];unfold SesM.cells
 go_simp
 subst hr;unfold xZ;simp only [jk];refine jt (fun b=>Value.bool (!b)) xb rfl ?_
 refine jt (fun b=>Value.bool (!b)) xb rfl ?_
 refine jt (fun b=>Value.bool (!b)) xb rfl ?_
 refine jt (fun b=>Value.bool (!b)) xb rfl ?_
 refine jt (fun b=>Value.bool (!b)) xb rfl ?_
 refine jt (fun b=>Value.bool (!b)) xb rfl ?_
 refine jt (fun b=>Value.bool (!b)) xb rfl ?_
 refine jt (fun b=>Value.bool (!b)) xb rfl ?_
 refine jt (fun b=>Value.bool (!b)) xb rfl ?_
 refine jt (fun b=>Value.bool (!b)) xb rfl ?_
 refine jt (fun b=>Value.bool (!b)) xb rfl ?_
 exact jaF (fun b=>Value.bool (!b)) xb rfl rfl
theorem Box.setAllS {w:World}{b:Nat}{cs:Array Value}{t:TypeId}(h:Box w b cs t)(hs:cs.size=12)(s:SesM):Box (w.setCells b 0 s.cells.toList) b s.cells t∧w.there b 0 s.cells.toList.length:=by
 constructor
 ·
  obtain ⟨cs',h1,h2,h3,_⟩:=Box.setCells s.cells.toList 0 h (by show 0+12≤cs.size;omega)
  have e1:cs'=s.cells:=by
   apply Array.ext_getElem?
   intro j;by_cases hj:j<12
   ·
    have:=h3 j _ (List.getElem?_eq_getElem (show j<s.cells.toList.length from hj))
    rw [Nat.zero_add] at this;rw [this,← Array.getElem?_toList,List.getElem?_eq_getElem (show j<s.cells.toList.length from hj)]
   · rw [Array.getElem?_eq_none (by omega),Array.getElem?_eq_none (by show 12≤j;omega)]
  rw [e1] at h1;exact h1
 ·
  intro j hj;have hj:j<12:=hj;obtain ⟨v,hv⟩:∃ v,cs[j]?=some v:=⟨_,Array.getElem?_eq_getElem (by omega)⟩
  rw [Nat.zero_add];exact ⟨by rw [h.cell _ v hv];rfl,h.free _⟩
def ze (k i:Int):SesM:=⟨0,-7-k,0,0,0,[],jei k i,0,0,0,0,0⟩
theorem jfM (k i:Int):(ze k i).cells=#[.int .i64 0,.int .i64 (-7-k),.int .i64 0,.int .i64 0,.int .i64 0,.string ⟨#[]⟩,.string (SB (jei k i)),.int .u64 0,.int .i64 0,.int .i64 0,.int .i64 0,.int .i64 0]:=rfl
theorem zp (k i:Int)(w:World)(h0:0≤k)(h1:k≤1000000000) :
  Calls prog 85 #[.int .i64 k,.int .i64 i] w fun e w'=>e=.returned (.agg (ze k i).cells)∧Below w.heap.size w w':=by
 have A:=Hd (fun w=>jcJ k i w)
 have E:=Hd (Box.new w #[.int .i64 0,.int .i64 0,.int .i64 0,.int .i64 0,.int .i64 0,.string ⟨#[]⟩,.string ⟨#[]⟩,.int .u64 0,.int .i64 0,.int .i64 0,.int .i64 0,.int .i64 0] 45);have D:=Hd (ja w (.cells #[.int .i64 0,.int .i64 0,.int .i64 0,.int .i64 0,.int .i64 0,.string ⟨#[]⟩,.string ⟨#[]⟩,.int .u64 0,.int .i64 0,.int .i64 0,.int .i64 0,.int .i64 0] 45));have hz:IntKind.i64.wrap (-7-k) = -7-k:=by simp [IntKind.wrap,IntKind.bits,IntKind.signed];omega
 have G:=Hd (jfM k i);go_enter func85,ntmps85;go_wp2_with fail;refine (A.1 _).mono ?_;rintro e w1 ⟨rfl,a4⟩;have b0:=E.1.below a4;have H:=Hd (D.1.trans (a4.mono D.1.size));obtain ⟨a5,b1⟩:=b0.setAllS rfl (ze k i);have B:=Hd b1;have C:=Hd a5;have I:=Hd (show w.heap.size≤w.heap.size from Nat.le_refl _)
 clear a4 b0 E D A a5 b1
 go_wp2_with ((with_reducible refine jc ?a0 45 (.tmp 4) (.tmp 10) ?a1 w.heap.size 0 (ze k i).cells.toList ?a2 (ze k i).cells ?a3 (SesM.listS _) B.1 ?a6 ?a7 ?a8);(case a1=>rfl);(case a0=>rfl);(case a2=>rfl);(case a3=>rfl);(case a6=>kernel_rfl);(case a7=>exact SesM.oneS _))
 intro w2 a9;rw [← a9.out] at C;have F:=Hd (show Below w.heap.size w w2 by
  rw [a9.out];generalize (ze k i).cells.toList=L;exact H.1.trans ((Mod.setCells (fun q=>q=w.heap.size) w.heap.size rfl L 0 w1).below H.1.size (fun i hi=>Nat.le_of_eq hi.symm)))
 clear a9 B H;go_wp2_with fail;exact vq rfl rfl w.heap.size 0 rfl (ze k i).cells.toList _ (Box.rangeS C.1) underlying45 rfl (by kernel_rfl) ⟨rfl,F.1⟩
def vx (n:Nat):List SesM:=(List.range n).map (fun i:Nat=>ze 90 (i:Int))
theorem jb6 (n:Nat):(vx n).length=n:=by simp [vx]
theorem jh8 (n:Nat):vx (n+1)=vx n ++ [ze 90 n]:=by simp [vx,List.range_succ]
theorem jiJ (n j:Nat)(h:j<(vx n).length):(vx n)[j]=ze 90 j:=by simp [vx]
theorem jf5 (v:Value)(l:List SesM)(w:World)(hv:RdS w v l)(hn:l.length+16≤1256584717457) :
  Calls prog 114 #[v] w fun e w'=>∃ o,e=.returned o∧OwnS w' w.heap.size o (l++vx 16)∧Below w.heap.size w w':=by
 obtain ⟨a,cap,rfl,a8,b4⟩:=hv.slice;have Q:=Hd hv;have b2:l.length≤9223372036854775807:=by omega
 obtain ⟨n,hN⟩:=Nm (l.length);rw [← hN] at b2 hn Q a8 ⊢;have P:=Hd hN;have M:=Hd hn;clear hv a8 hN hn;go_enter func114,ntmps114;go_wp2_with fail
 go_loopg [3,4] n (fun gk o iv wr=>∃ k:Nat,gk+k=n∧iv=.int .i64 (k:Int)∧OwnS wr w.heap.size o (l.take k)∧Below w.heap.size w wr)
 case atStart=>exact ⟨0,rfl,rfl,OwnS.nil _ _,Below.refl _ _⟩
 case round =>
  obtain ⟨k,a9,rfl,a1,hb⟩:=hrel;have k0:(0:Int)≤(k:Int):=by omega
  have N:=Hd a9;have B:=Hd a1;have C:=Hd hb;clear a9;by_cases hk:k<n
  ·
   have k1:(k:Int)<(n:Int):=by omega
   have a6:k<l.length:=by have:=P.1;omega
   obtain ⟨s,hs⟩:=Nm (l[k]);have hV:=(Q.1.below hb);obtain ⟨rb,ro,b3,a5⟩:=hV.row k a6;subst b3;rw [← hs] at a5;have L:=Hd (show l.take (k+1)=l.take k ++ [s] by rw [List.take_succ_eq_append_getElem a6,hs])
   have F:=Hd a5;have R:=Hd hk;have G:=Hd (show (l.take k).length+1≤1256584717458 by rw [List.length_take];have:=M.1;omega)
   clear a6 hs a5 hV hb a1 hk
   go_wp2_with ((with_reducible refine je ?b01 45 (.tmp 15) ?b11 rb (ro+k*12) ?b21 s.cells.toList _ F.1 underlying45 ?b31 ?b41 ?b81);(case b11=>rfl);(case b01=>rfl);(case b21=>rfl);(case b31=>rfl);(case b41=>kernel_rfl))
   intro cv b0;have ecv:cv=s.cells:=by rw [b0.out]
   subst ecv;clear b0
   go_wp2_with (refine jD (op:=⟨some 17,_,_,_,_,_⟩) (by rfl) 28 1 #[(0,.tmp 16)] rfl #[(0,.agg s.cells)] (by kernel_rfl) _ _ (zJ s wr) ?_)
   intro w2 a2;have a3:Below wr.heap.size wr w2:=by rw [a2.out];exact ja _ _
   have D:=Hd (show ∀ j u,s.cells.toList[j]?=some u→w2.cell? ((⟨wr.heap.size,0,none⟩:Addr).add j)=some u by rw [a2.out];exact yY wr s _)
   have A:=Hd (B.1.below a3);have H:=Hd (C.1.trans (a3.mono C.1.size));clear a2 a3 B F
   go_wp2_with (at_builtin;refine vP rfl _ _ rfl w.heap.size _ (l.take k) rfl A.1 ⟨wr.heap.size,0,none⟩ 1 s rfl D.1 G.1 (by have:=H.1.size;omega) ?_)
   intro v' w3 a0 a4 _;have I:=Hd (H.1.trans (ji a4 H.1.size (fun q hq=>(A.1.lt q hq).1)))
   have E:=Hd a0;clear a4 a0 A H D;go_wp2_with fail
   go_roundg (n-(k+1))
   case measure=>have:=N.1;have:=R.1;omega
   case rel=>exact ⟨k+1,by have:=N.1;have:=R.1;omega,by go_num,by rw [L.1];exact E.1,I.1⟩
  have k1:¬ (k:Int)<(n:Int):=by omega
  rw [List.take_of_length_le (by have:=P.1;omega)] at B
  clear hk a1 hb;go_wp2_with fail
  go_loopg [3,5] 16 (fun gk o iv wr=>∃ j:Nat,gk+j=16∧iv=.int .i64 (j:Int)∧OwnS wr w.heap.size o (l++vx j)∧Below w.heap.size w wr)
  case atStart=>exact ⟨0,rfl,rfl,by rw [show vx 0 = [] from rfl,List.append_nil];exact B.1,C.1⟩
  case round =>
   clear B C;obtain ⟨j,b1,rfl,a1,hb⟩:=hrel;have j0:(0:Int)≤(j:Int):=by omega
   have J:=Hd b1;have B:=Hd a1;have C:=Hd hb;clear b1 a1 hb;by_cases hj:j<16
   ·
    have j1:(j:Int)<16:=by omega
    have S:=Hd hj;have G:=Hd (show (l++vx j).length+1≤1256584717458 by rw [List.length_append,jb6];have:=M.1;have:=P.1;omega)
    have L:=Hd (show l++vx (j+1)=(l++vx j) ++ [ze 90 j] by rw [jh8,List.append_assoc])
    clear hj;go_wp2_with fail;refine (zp 90 (j:Int) _ (by omega) (by omega)).mono ?_
    rintro e w1 ⟨rfl,a7⟩;have O:=Hd (B.1.below a7);have K:=Hd (C.1.trans (a7.mono C.1.size));clear a7 B C;generalize ze 90 (j:Int)=s at L ⊢
    go_wp2_with (refine jD (op:=⟨some 26,_,_,_,_,_⟩) (by rfl) 28 1 #[(0,.tmp 25)] rfl #[(0,.agg s.cells)] (by kernel_rfl) _ _ (zJ s w1) ?_)
    intro w2 a2;have a3:Below w1.heap.size w1 w2:=by rw [a2.out];exact ja _ _
    have D:=Hd (show ∀ j u,s.cells.toList[j]?=some u→w2.cell? ((⟨w1.heap.size,0,none⟩:Addr).add j)=some u by rw [a2.out];exact yY w1 s _)
    have A:=Hd (O.1.below a3);have H:=Hd (K.1.trans (a3.mono K.1.size));clear a2 a3 O K
    go_wp2_with (at_builtin;refine vP rfl _ _ rfl w.heap.size _ (l++vx j) rfl A.1 ⟨w1.heap.size,0,none⟩ 1 s rfl D.1 G.1 (by have:=H.1.size;omega) ?_)
    intro v' w3 a0 a4 _;have I:=Hd (H.1.trans (ji a4 H.1.size (fun q hq=>(A.1.lt q hq).1)))
    have E:=Hd a0;clear a4 a0 A H D;go_wp2_with fail
    go_roundg (16-(j+1))
    case measure=>have:=J.1;have:=S.1;omega
    case rel=>exact ⟨j+1,by have:=J.1;have:=S.1;omega,by go_num,by rw [L.1];first | exact E.1 | (rw [List.append_assoc];exact E.1),I.1⟩
   have j1:¬ (j:Int)<16:=by omega
   obtain rfl:j=16:=by have:=J.1;omega
   clear hj;go_wp2_with fail;go_ret;exact ⟨_,rfl,B.1,C.1⟩
def LentS (w:World)(base:Nat)(v:Value)(l:List SesM):Prop:=∃ a cap,v=.slice a l.length cap∧OwnS w base (.slice a (l.length+16) cap) (l++vx 16)
theorem LentS.below {w w':World}{base:Nat}{v:Value}{l:List SesM}(h:LentS w base v l)(hb:Below w.heap.size w w'):LentS w' base v l:=by
 obtain ⟨a,cap,h1,h2⟩:=h;exact ⟨a,cap,h1,h2.below hb⟩
theorem zO (l:List SesM):(l++vx 16).length=l.length+16:=by rw [List.length_append,jb6]
theorem LentS.rd {w:World}{base:Nat}{v:Value}{l:List SesM}(h:LentS w base v l):RdS w v l:=by
 obtain ⟨a,cap,rfl,h2⟩:=h;have h3:=h2.rd;rw [← zO] at h3;have:=h3.cut l.length (by rw [zO];omega)
 rw [List.take_left] at this;exact this
theorem LentS.mod {w w':World}{base:Nat}{v:Value}{l:List SesM}{F:Nat→Prop}(h:LentS w base v l)(hm:Mod F w w')(hb:∀ k,v.ownBlock=some k→¬ F k):LentS w' base v l:=by
 obtain ⟨a,cap,rfl,h2⟩:=h;exact ⟨a,cap,rfl,h2.mod hm (fun k hk=>hb k (by cases a <;> exact hk))⟩
theorem jfL (v:Value)(l:List SesM)(w:World)(hv:RdS w v l)(hn:l.length+16≤1256584717457) :
  Calls prog 86 #[v] w fun e w'=>∃ o,e=.returned o∧LentS w' w.heap.size o l∧Below w.heap.size w w':=by
 have H:=Hd (jf5 v l w hv hn);obtain ⟨a,cap,rfl,a1,a2⟩:=hv.slice;have a3:l.length≤9223372036854775807:=by omega
 clear hv a1 hn;go_enter func86,ntmps86;go_wp2_with fail;refine H.1.mono ?_;rintro e w1 ⟨o,rfl,ho,hb⟩;have A:=Hd hb;obtain ⟨oa,oc,rfl,a0⟩:=ho.slice;rw [zO] at ho a0 ⊢;have a4:=fun w=>jjl oa (l.length+16) oc l.length (by omega) w
 have B:=Hd (show LentS w1 w.heap.size (.slice oa l.length oc) l from ⟨oa,oc,rfl,ho⟩)
 clear ho hb a0 H;go_wp2_with fail;go_ret;exact ⟨_,rfl,B.1,A.1⟩
theorem yW {P:Program}{ops:Array Oper}{rest:List Oper}{op:Oper}{a:Act}{C:World→Prop}{Q:Act→Prop}(hw:Region.wanted op (yielded ops a.tmps)=true)(ty:TypeId)(x:Operand)(ho:op.op=.load ty x)(b o:Nat)(hx:a.eval x=.pointer (some ⟨b,o,none⟩))(cs:List Value)(d:TypeDesc)(hc:∀ w,C w→w.rangeAt b o cs)(hu:P.underlying ty=some d)(hd:d.isRow=true)(hi:(P.info? ty).map (·.size)=some cs.length)(h:∀ c,Hid (c=cs.toArray)→wpQuiet P ops C Q rest (a.put op.dst (.agg c))):wpQuiet P ops C Q (op::rest) a:=by
 unfold wpQuiet;rw [if_pos hw];refine ⟨.agg cs.toArray,fun w hC=>?_,h _ (Lib.hid rfl)⟩
 unfold Oper.quietAt execOp;simp only [ho,hx,Instr.loadAt,Instr.sureAddr,Sem.run_bind,Sem.run_pure,Result.andThen_ok,run_loadVar_mid w b o ty cs d (hc w hC) hu hd hi];exact ⟨rfl,rfl⟩
theorem jb9 (v v':Value)(l:List SesM)(w:World)(hv:RdS w v (l++vx 16))(b4:RdS w v' l)(hn:l.length≤1256584717457) :
  Calls prog 118 #[v,v'] w fun e w'=>e=.returned (.bool true)∧Below w.heap.size w w':=by
 obtain ⟨a,cap,rfl,a4,a9⟩:=hv.slice;obtain ⟨a2,cap2,rfl,c3,d9⟩:=b4.slice;have Q:=Hd hv;have S:=Hd b4;rw [zO] at Q a4 ⊢;obtain ⟨n,hN⟩:=Nm (l.length);rw [← hN] at Q S a4 c3 hn ⊢;have e0:n+16≤9223372036854775807:=by omega
 have Z:=Hd hN;have b1:((n+16:Nat):Int)=(n:Int)+16:=by omega
 clear hv b4 a4 c3 a9 d9 hN hn;rw [show ((n+16:Nat))=n+16 from rfl]
 obtain ⟨N,b5⟩:=Nm (n+16);rw [← b5] at Q b1 e0 ⊢;have H0:=Hd b5;have n0:(0:Int)≤(n:Int):=by omega
 have n1:(n:Int)+16≤9223372036854775807:=by omega
 have e1:((N:Int) != (n:Int)+16)=false:=by rw [bne,b1];simp
 clear b5 b1;go_enter func118,ntmps118;go_wp2_with fail;clear e1
 go_loopg [5] N (fun gk iv wr=>∃ k:Nat,gk+k=N∧iv=.int .i64 (k:Int)∧Below w.heap.size w wr)
 case atStart=>exact ⟨0,rfl,rfl,Below.refl _ _⟩
 case round =>
  obtain ⟨k,c4,rfl,hb⟩:=hrel;have k0:(0:Int)≤(k:Int):=by omega
  have G:=Hd c4;have K:=Hd hb;clear c4 hb;by_cases hk:k<N;rotate_left
  ·
   have k1:¬ (k:Int)<(N:Int):=by omega
   clear hk;go_wp2_with fail;go_ret;exact ⟨rfl,K.1⟩
  have k1:(k:Int)<(N:Int):=by omega
  have R:=Hd hk;have c5:k<(l++vx 16).length:=by rw [zO];have:=H0.1;have:=Z.1;omega
  obtain ⟨s,hs⟩:=Nm ((l++vx 16)[k]);obtain ⟨rb,ro,e2,b2⟩:=(Q.1.below K.1).row k c5;subst e2;rw [← hs] at b2;have M:=Hd b2;have I:=Hd (show ¬ k<n→s=ze 90 ((k:Int)-(n:Int)) from fun h=>by
   have e:=Z.1;rw [hs,List.getElem_append_right (by omega),jiJ]
   congr 1
   omega)
  have O:=Hd (show ∀ h:k<n,∃ hl:k<l.length,s=l[k] from fun h=>by
   have e:=Z.1;refine ⟨by omega,?_⟩
   rw [hs,List.getElem_append_left (by omega)])
  have hz:IntKind.i64.wrap ((k:Int)-(n:Int))=(k:Int)-(n:Int):=by simp [IntKind.wrap,IntKind.bits,IntKind.signed];omega
  clear hk c5 hs b2;go_wp2_with fail;refine (zp 90 ((k:Int)-(n:Int)) _ (by omega) (by omega)).mono ?_
  rintro e w1 ⟨rfl,b6⟩;obtain ⟨mk,c6⟩:∃ mk,mk=ze 90 ((k:Int)-(n:Int)):=⟨_,rfl⟩;rw [← c6] at I ⊢;have J:=Hd (K.1.trans (b6.mono K.1.size));have D:=Hd (show w1.rangeAt rb (ro+k*12) s.cells.toList from fun j v hv=>jf b6 (M.1 j v hv))
  clear b6 c6 K M hz
  go_wp2_with ((with_reducible refine jc ?a0 45 (.tmp 6) (.tmp 23) ?a1 w1.heap.size 0 mk.cells.toList ?a2 mk.cells ?a3 (SesM.listS _) ?a5 ?a6 ?a7 ?a8);(case a1=>rfl);(case a0=>rfl);(case a2=>rfl);(case a3=>rfl);(case a5=>exact xf _ _);(case a6=>kernel_rfl);(case a7=>exact SesM.oneS _))
  intro w2 c7;obtain ⟨c8,b7⟩:=vE c7;have E:=Hd c8;have C:=Hd (J.1.trans (b7.mono J.1.size));have H:=Hd (show w2.rangeAt rb (ro+k*12) s.cells.toList from fun j v hv=>jf b7 (D.1 j v hv))
  have T:=Hd (show rb<w1.heap.size from World.block_lt_of_cell? w1 _ (D.1 0 _ rfl))
  have U:=Hd (show w.heap.size≤w1.heap.size from J.1.size)
  clear c7 c8 b7 J D;generalize w1.heap.size=pb at E T U ⊢;by_cases hkn:k<n
  ·
   have kn:(k:Int)<(n:Int):=by omega
   obtain ⟨hl,c9⟩:=O.1 hkn;obtain ⟨sb,so,e3,b0⟩:=(S.1.below C.1).row k hl;subst e3;rw [← c9] at b0;have V:=Hd b0;obtain ⟨b8,d4⟩:=E.1.setAllS rfl s;have W:=Hd b8;have X:=Hd d4;clear hkn c9 b0 b8 d4 I O hl
   go_wp2_with ((with_reducible refine je ?b02 45 (.tmp 30) ?b12 sb (so+k*12) ?b22 s.cells.toList _ V.1 underlying45 ?b32 ?b42 ?b82);(case b12=>rfl);(case b02=>rfl);(case b22=>rfl);(case b32=>rfl);(case b42=>kernel_rfl))
   intro cv d5
   go_wp2_with ((with_reducible refine jc ?d0 45 (.tmp 6) (.tmp 31) ?d1 pb 0 s.cells.toList ?d2 cv ?d3 d5 X.1 ?d6 ?d7 ?d8);(case d1=>rfl);(case d0=>rfl);(case d2=>rfl);(case d3=>rfl);(case d6=>kernel_rfl);(case d7=>exact SesM.oneS _))
   intro w3 b9;have Y:=Hd (show Box w3 pb s.cells 45 by rw [b9.out];exact W.1)
   have hm:Mod (fun q=>q=pb) w2 w3:=by
    rw [b9.out];generalize s.cells.toList=L;exact Mod.setCells (fun q=>q=pb) pb rfl L 0 w2
   have F:=Hd (C.1.trans (hm.below C.1.size (fun i hi=>by have:=U.1;omega)))
   have A:=Hd (show ∀ wq,(∃ n,wq=w3.drewN n)→wq.rangeAt rb (ro+k*12) s.cells.toList from fun wq hq j v hv=>by
    obtain ⟨q,rfl⟩:=hq;have h1:=H.1 j v hv;show w3.cell? _=_;rw [World.cell?_of_block (w:=w2) (hm.block rb (World.block_lt_of_cell? w2 _ (H.1 0 _ rfl)) (by have:=T.1;omega))]
    exact h1)
   have B:=Hd (show ∀ wq,(∃ n,wq=w3.drewN n)→wq.rangeAt pb 0 s.cells.toList from fun wq hq=>by
    obtain ⟨q,rfl⟩:=hq;exact Box.rangeS (show Box (w3.drewN q) pb s.cells 45 from Y.1))
   clear d5 b9 hm X W E C H V Y;go_wp2_with fail;refine wp_region_quiet_lit (by kernel_rfl) (by kernel_rfl) ?_
   repeat (go_big_quiet_step (fail))
   refine yW rfl 45 (.tmp 34) rfl rb (ro+k*12) rfl s.cells.toList _ A.1 underlying45 rfl (by kernel_rfl) ?_
   intro c1 a4;have ec1:c1=s.cells:=by rw [a4.out]
   subst ec1;simp only [Act.put,List.setIfInBounds_toArray,List.set_cons_zero,List.set_cons_succ];refine yW rfl 45 (.tmp 6) rfl pb 0 rfl s.cells.toList _ B.1 underlying45 rfl (by kernel_rfl) ?_
   intro c2 a9;have ec2:c2=s.cells:=by rw [a9.out]
   subst ec2;simp only [Act.put,List.setIfInBounds_toArray,List.set_cons_zero,List.set_cons_succ];have b3:∀ w,(binOp .neq 45 (.agg s.cells) (.agg s.cells)).run prog w=.ok (.bool false) w:=fun w=>by rw [jaV,yJ.2 rfl];rfl
   repeat (go_big_quiet_step (fail))
   refine wpQuiet_nil ?_;intro wq c0;obtain ⟨nq,rfl⟩:=c0;have P:=Hd (F.1.trans ((jC _ nq).mono F.1.size));clear b3 a4 a9 A B;go_wp2_with fail
   go_roundg (N-(k+1))
   case measure=>have:=G.1;have:=R.1;omega
   case rel=>exact ⟨k+1,by have:=G.1;have:=R.1;omega,by go_num,P.1⟩
  have kn:¬ (k:Int)<(n:Int):=by omega
  obtain rfl:=I.1 hkn;have F:=C;have A:=Hd (show ∀ wq,(∃ n,wq=w2.drewN n)→wq.rangeAt rb (ro+k*12) s.cells.toList from fun wq hq=>by
   obtain ⟨q,rfl⟩:=hq;exact H.1)
  have B:=Hd (show ∀ wq,(∃ n,wq=w2.drewN n)→wq.rangeAt pb 0 s.cells.toList from fun wq hq=>by
   obtain ⟨q,rfl⟩:=hq;exact Box.rangeS (show Box (w2.drewN q) pb s.cells 45 from E.1))
  clear hkn E C H I O;go_wp2_with fail;refine wp_region_quiet_lit (by kernel_rfl) (by kernel_rfl) ?_
  repeat (go_big_quiet_step (fail))
  refine yW rfl 45 (.tmp 34) rfl rb (ro+k*12) rfl s.cells.toList _ A.1 underlying45 rfl (by kernel_rfl) ?_
  intro c1 a4;have ec1:c1=s.cells:=by rw [a4.out]
  subst ec1;simp only [Act.put,List.setIfInBounds_toArray,List.set_cons_zero,List.set_cons_succ];refine yW rfl 45 (.tmp 6) rfl pb 0 rfl s.cells.toList _ B.1 underlying45 rfl (by kernel_rfl) ?_
  intro c2 a9;have ec2:c2=s.cells:=by rw [a9.out]
  subst ec2;simp only [Act.put,List.setIfInBounds_toArray,List.set_cons_zero,List.set_cons_succ];have b3:∀ w,(binOp .neq 45 (.agg s.cells) (.agg s.cells)).run prog w=.ok (.bool false) w:=fun w=>by rw [jaV,yJ.2 rfl];rfl
  repeat (go_big_quiet_step (fail))
  refine wpQuiet_nil ?_;intro wq c0;obtain ⟨nq,rfl⟩:=c0;have P:=Hd (F.1.trans ((jC _ nq).mono F.1.size));clear b3 a4 a9 A B;go_wp2_with fail
  go_roundg (N-(k+1))
  case measure=>have:=G.1;have:=R.1;omega
  case rel=>exact ⟨k+1,by have:=G.1;have:=R.1;omega,by go_num,P.1⟩
end Go.Proofs.YtgcnolapjppbpaaGreatDoor
