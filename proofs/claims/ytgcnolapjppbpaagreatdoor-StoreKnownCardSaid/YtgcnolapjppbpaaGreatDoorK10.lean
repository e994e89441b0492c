/- Texts of one proof. -/
import Derived.Test.YtgcnolapjppbpaaGreatDoorK08
import Derived.Test.YtgcnolapjppbpaaGreatDoorK09
namespace Go.Proofs.YtgcnolapjppbpaaGreatDoor
open Go.RowKit _root_.Go.Proofs.Tryz
set_option maxRecDepth 100000
set_option maxHeartbeats 25600000
variable {w w':World}{v:Value}{l:List SesM}
theorem jby (s t:SesM)(w:World):(binOp .neq 45 (.agg s.cells) (.agg t.cells)).run prog w=.ok (.bool (!(zk s t))) w:=by
 obtain ⟨r,hr⟩:=Nm (zk s t);rw [<- hr];unfold SesM.cells
 go_simp
 subst hr;unfold zk;simp only [jh];refine jz (fun b=>Value.bool (!b)) xl rfl ?_
 refine jz (fun b=>Value.bool (!b)) xl rfl ?_
 refine jz (fun b=>Value.bool (!b)) xl rfl ?_
 refine jz (fun b=>Value.bool (!b)) xl rfl ?_
 refine jz (fun b=>Value.bool (!b)) xl rfl ?_
 refine jz (fun b=>Value.bool (!b)) xl rfl ?_
 refine jz (fun b=>Value.bool (!b)) xl rfl ?_
 refine jz (fun b=>Value.bool (!b)) xl rfl ?_
 refine jz (fun b=>Value.bool (!b)) xl rfl ?_
 refine jz (fun b=>Value.bool (!b)) xl rfl ?_
 refine jz (fun b=>Value.bool (!b)) xl rfl ?_
 exact jbT (fun b=>Value.bool (!b)) xl rfl rfl
theorem Box.setAllS {b:Nat}{cs:Array Value}{t:TypeId}(h:Box w b cs t)(hs:cs.size=12)(s:SesM):Box (w.setCells b 0 s.cells.toList) b s.cells t/\w.there b 0 s.cells.toList.length:=by
 constructor
 .
  obtain ⟨cs',h1,h2,h3,_⟩:=Box.setCells s.cells.toList 0 h (by show 0+12<=cs.size;omega)
  have e1:cs'=s.cells:=by
   apply Array.ext_getElem?
   intro j;by_cases hj:j<12
   .
    have:=h3 j _ (List.getElem?_eq_getElem (show j<s.cells.toList.length from hj))
    rw [qA] at this;rw [this,<- Array.getElem?_toList,List.getElem?_eq_getElem (show j<s.cells.toList.length from hj)]
   . rw [Array.getElem?_eq_none (by omega),Array.getElem?_eq_none (by show 12<=j;omega)]
  rw [e1] at h1;exact h1
 .
  intro j hj;have hj:j<12:=hj;obtain ⟨v,hv⟩:∃ v,cs[j]?=some v:=⟨_,Array.getElem?_eq_getElem (by omega)⟩
  rw [qA];exact ⟨by rw [h.cell _ v hv];rfl,h.free _⟩
def zR (k i:Int):SesM:=⟨0,-7-k,0,0,0,[],jfS k i,0,0,0,0,0⟩
theorem jhb (k i:Int):(zR k i).cells=#[.int .i64 0,.int .i64 (-7-k),.int .i64 0,.int .i64 0,.int .i64 0,.string ⟨#[]⟩,.string (SB (jfS k i)),.int .u64 0,.int .i64 0,.int .i64 0,.int .i64 0,.int .i64 0]:=rfl
theorem zG (k i:Int)(w:World)(h0:0<=k)(h1:k<=1000000000) :
  Calls prog 85 #[k,i] w fun e w'=>e=.returned (.agg (zR k i).cells)/\Below w.heap.size w w':=by
 have A:=Hd (fun w=>jdT k i w)
 have E:=Hd (Box.new w #[(0:Int),(0:Int),(0:Int),(0:Int),(0:Int),.string ⟨#[]⟩,.string ⟨#[]⟩,.int .u64 0,(0:Int),(0:Int),(0:Int),(0:Int)] 45);have D:=Hd (ja w (.cells #[(0:Int),(0:Int),(0:Int),(0:Int),(0:Int),.string ⟨#[]⟩,.string ⟨#[]⟩,.int .u64 0,(0:Int),(0:Int),(0:Int),(0:Int)] 45));have hz:IntKind.i64.wrap (-7-k) = -7-k:=by simp [IntKind.wrap,IntKind.bits,IntKind.signed];omega
 have G:=Hd (jhb k i);go_enter func85,ntmps85;go_wp2_with fail;refine (A.1 _).mono ?_;rintro e w1 ⟨rfl,a0⟩;have a3:=E.1.below a0;have H:=Hd (D.1.trans (a0.mono D.1.size));obtain ⟨a1,a4⟩:=a3.setAllS rfl (zR k i);have B:=Hd a4;have C:=Hd a1;have I:=Hd (show w.heap.size<=w.heap.size from qm _)
 clear a0 a3 E D A a1 a4
 go_wp2_with (with_reducible refine Sk (zR k i).cells.toList (SesM.listS _) B.1 (SesM.oneS _) ?_)
 intro w2 a2;rw [<- a2.out] at C;have F:=Hd (show Below w.heap.size w w2 by
  rw [a2.out];generalize (zR k i).cells.toList=L;exact H.1.trans ((Mod.setCells (fun q=>q=w.heap.size) w.heap.size rfl L 0 w1).below H.1.size (fun i hi=>qS hi.symm)))
 clear a2 B H;go_wp2;exact Jc (Box.rangeS C.1) underlying45 ⟨rfl,F.1⟩
def vO (n:Nat):List SesM:=(List.range n).map (fun i:Nat=>zR 90 (i:Int))
theorem jcY (n:Nat):(vO n).length=n:=by simp [vO]
theorem jjX (n:Nat):vO (n+1)=vO n ++ [zR 90 n]:=by simp [vO,List.range_succ]
theorem jkG (n j:Nat)(h:j<(vO n).length):(vO n)[j]=zR 90 j:=by simp [vO]
theorem jhg (v:Value)(l:List SesM)(w:World)(hv:RdS w v l)(hn:l.length+16<=1256584717457) :
  Calls prog 114 #[v] w fun e w'=>∃ o,e=.returned o/\OwnS w' w.heap.size o (l++vO 16)/\Below w.heap.size w w':=by
 obtain ⟨a,cap,rfl,a8,b4⟩:=hv.slice;have Q:=Hd hv;have b2:l.length<=9223372036854775807:=by omega
 obtain ⟨n,hN⟩:=Nm (l.length);rw [<- hN] at b2 hn Q a8 |-;have P:=Hd hN;have M:=Hd hn;clear hv a8 hN hn;go_enter func114,ntmps114;go_wp2
 go_loopg [3,4] n (fun gk o iv wr=>∃ k:Nat,gk+k=n/\iv=.int .i64 (k:Int)/\OwnS wr w.heap.size o (l.take k)/\Below w.heap.size w wr)
 case atStart=>exact ⟨0,rfl,rfl,OwnS.nil _ _,qG _ _⟩
 case round =>
  obtain ⟨k,a9,rfl,a1,hb⟩:=hrel;have k0:(0:Int)<=(k:Int):=by omega
  have N:=Hd a9;have B:=Hd a1;have C:=Hd hb;clear a9;by_cases hk:k<n
  .
   have k1:(k:Int)<(n:Int):=by omega
   have a6:k<l.length:=by have:=P.1;omega
   obtain ⟨s,hs⟩:=Nm (l[k]);have hV:=(Q.1.below hb);obtain ⟨rb,ro,b3,a5⟩:=hV.row k a6;subst b3;rw [<- hs] at a5;have L:=Hd (show l.take (k+1)=l.take k ++ [s] by rw [qk a6,hs])
   have F:=Hd a5;have R:=Hd hk;have G:=Hd (show (l.take k).length+1<=1256584717458 by rw [qr];have:=M.1;omega)
   clear a6 hs a5 hV hb a1 hk
   go_wp2_with (with_reducible refine Lk F.1 underlying45 ?_)
   intro cv b0;have ecv:cv=s.cells:=by rw [b0.out]
   subst ecv;clear b0
   go_wp2_with (refine Bs (vL s wr) ?_)
   intro w2 a2;have a3:Below wr.heap.size wr w2:=by rw [a2.out];exact ja _ _
   have D:=Hd (show ∀ j u,s.cells.toList[j]?=some u->w2.cell? ((⟨wr.heap.size,0,none⟩:Addr).add j)=some u by rw [a2.out];exact xu wr s _)
   have A:=Hd (B.1.below a3);have H:=Hd (C.1.trans (a3.mono C.1.size));clear a2 a3 B F
   go_wp2_with (at_builtin;refine jag rfl _ _ rfl w.heap.size _ (l.take k) rfl A.1 ⟨wr.heap.size,0,none⟩ 1 s rfl D.1 G.1 (by have:=H.1.size;omega) ?_)
   intro v' w3 a0 a4 _;have I:=Hd (H.1.trans (je a4 H.1.size (fun q hq=>(A.1.lt q hq).1)))
   have E:=Hd a0;clear a4 a0 A H D;go_wp2
   go_roundg (n-(k+1))
   case measure=>have:=N.1;have:=R.1;omega
   case rel=>exact ⟨k+1,by have:=N.1;have:=R.1;omega,by go_num,by rw [L.1];exact E.1,I.1⟩
  have k1:¬ (k:Int)<(n:Int):=by omega
  rw [ql (by have:=P.1;omega)] at B
  clear hk a1 hb;go_wp2
  go_loopg [3,5] 16 (fun gk o iv wr=>∃ j:Nat,gk+j=16/\iv=.int .i64 (j:Int)/\OwnS wr w.heap.size o (l++vO j)/\Below w.heap.size w wr)
  case atStart=>exact ⟨0,rfl,rfl,by rw [show vO 0 = [] from rfl,qF];exact B.1,C.1⟩
  case round =>
   clear B C;obtain ⟨j,b1,rfl,a1,hb⟩:=hrel;have j0:(0:Int)<=(j:Int):=by omega
   have J:=Hd b1;have B:=Hd a1;have C:=Hd hb;clear b1 a1 hb;by_cases hj:j<16
   .
    have j1:(j:Int)<16:=by omega
    have S:=Hd hj;have G:=Hd (show (l++vO j).length+1<=1256584717458 by rw [qd,jcY];have:=M.1;have:=P.1;omega)
    have L:=Hd (show l++vO (j+1)=(l++vO j) ++ [zR 90 j] by rw [jjX,qB])
    clear hj;go_wp2_with fail;refine (zG 90 (j:Int) _ (by omega) (by omega)).mono ?_
    rintro e w1 ⟨rfl,a7⟩;have O:=Hd (B.1.below a7);have K:=Hd (C.1.trans (a7.mono C.1.size));clear a7 B C;generalize zR 90 (j:Int)=s at L |-
    go_wp2_with (refine Bs (vL s w1) ?_)
    intro w2 a2;have a3:Below w1.heap.size w1 w2:=by rw [a2.out];exact ja _ _
    have D:=Hd (show ∀ j u,s.cells.toList[j]?=some u->w2.cell? ((⟨w1.heap.size,0,none⟩:Addr).add j)=some u by rw [a2.out];exact xu w1 s _)
    have A:=Hd (O.1.below a3);have H:=Hd (K.1.trans (a3.mono K.1.size));clear a2 a3 O K
    go_wp2_with (at_builtin;refine jag rfl _ _ rfl w.heap.size _ (l++vO j) rfl A.1 ⟨w1.heap.size,0,none⟩ 1 s rfl D.1 G.1 (by have:=H.1.size;omega) ?_)
    intro v' w3 a0 a4 _;have I:=Hd (H.1.trans (je a4 H.1.size (fun q hq=>(A.1.lt q hq).1)))
    have E:=Hd a0;clear a4 a0 A H D;go_wp2
    go_roundg (16-(j+1))
    case measure=>have:=J.1;have:=S.1;omega
    case rel=>exact ⟨j+1,by have:=J.1;have:=S.1;omega,by go_num,by rw [L.1];first | exact E.1 | (rw [qB];exact E.1),I.1⟩
   have j1:¬ (j:Int)<16:=by omega
   obtain rfl:j=16:=by have:=J.1;omega
   clear hj;go_wp2;go_ret;exact ⟨_,rfl,B.1,C.1⟩
def LentS (w:World)(base:Nat)(v:Value)(l:List SesM):Prop:=∃ a cap,v=.slice a l.length cap/\OwnS w base (.slice a (l.length+16) cap) (l++vO 16)
theorem LentS.below {base:Nat}(h:LentS w base v l)(hb:Below w.heap.size w w'):LentS w' base v l:=by
 obtain ⟨a,cap,h1,h2⟩:=h;exact ⟨a,cap,h1,h2.below hb⟩
theorem vf (l:List SesM):(l++vO 16).length=l.length+16:=by rw [qd,jcY]
theorem LentS.rd {base:Nat}(h:LentS w base v l):RdS w v l:=by
 obtain ⟨a,cap,rfl,h2⟩:=h;have h3:=h2.rd;rw [<- vf] at h3;have:=h3.cut l.length (by rw [vf];omega)
 rw [kb] at this;exact this
theorem LentS.mod {base:Nat}{F:Nat->Prop}(h:LentS w base v l)(hm:Mod F w w')(hb:∀ k,v.ownBlock=some k->¬ F k):LentS w' base v l:=by
 obtain ⟨a,cap,rfl,h2⟩:=h;exact ⟨a,cap,rfl,h2.mod hm (fun k hk=>hb k (by cases a <;> exact hk))⟩
theorem jhH (v:Value)(l:List SesM)(w:World)(hv:RdS w v l)(hn:l.length+16<=1256584717457) :
  Calls prog 86 #[v] w fun e w'=>∃ o,e=.returned o/\LentS w' w.heap.size o l/\Below w.heap.size w w':=by
 have H:=Hd (jhg v l w hv hn);obtain ⟨a,cap,rfl,a1,a2⟩:=hv.slice;have a3:l.length<=9223372036854775807:=by omega
 clear hv a1 hn;go_enter func86,ntmps86;go_wp2_with fail;refine H.1.mono ?_;rintro e w1 ⟨o,rfl,ho,hb⟩;have A:=Hd hb;obtain ⟨oa,oc,rfl,a0⟩:=ho.slice;rw [vf] at ho a0 |-;have a4:=fun w=>jky oa (l.length+16) oc l.length (by omega) w
 have B:=Hd (show LentS w1 w.heap.size (.slice oa l.length oc) l from ⟨oa,oc,rfl,ho⟩)
 clear ho hb a0 H;go_wp2;go_ret;exact ⟨_,rfl,B.1,A.1⟩
theorem xo {P:Program}{ops:Array Oper}{rest:List Oper}{op:Oper}{a:Act}{C:World->Prop}{Q:Act->Prop}(hw:Region.wanted op (yielded ops a.tmps)=true)(ty:TypeId)(x:Operand)(ho:op.op=.load ty x)(b o:Nat)(hx:a.eval x=.pointer (some ⟨b,o,none⟩))(cs:List Value)(d:TypeDesc)(hc:∀ w,C w->w.rangeAt b o cs)(hu:P.underlying ty=some d)(hd:d.isRow=true)(hi:(P.info? ty).map (·.size)=some cs.length)(h:∀ c,Hid (c=cs.toArray)->wpQuiet P ops C Q rest (a.put op.dst (.agg c))):wpQuiet P ops C Q (op::rest) a:=by
 unfold wpQuiet;rw [qf hw];refine ⟨.agg cs.toArray,fun w hC=>?_,h _ (qe rfl)⟩
 unfold Oper.quietAt execOp;simp only [ho,hx,Instr.loadAt,Instr.sureAddr,wu,wB,qR,pA w b o ty cs d (hc w hC) hu hd hi];exact ⟨rfl,rfl⟩
theorem jc6 (v v':Value)(l:List SesM)(w:World)(hv:RdS w v (l++vO 16))(a7:RdS w v' l)(hn:l.length<=1256584717457) :
  Calls prog 118 #[v,v'] w fun e w'=>e=.returned (.bool true)/\Below w.heap.size w w':=by
 obtain ⟨a,cap,rfl,a0,a1⟩:=hv.slice;obtain ⟨a2,cap2,rfl,b4,c5⟩:=a7.slice;have Q:=Hd hv;have S:=Hd a7;rw [vf] at Q a0 |-;obtain ⟨n,hN⟩:=Nm (l.length);rw [<- hN] at Q S a0 b4 hn |-;have c6:n+16<=9223372036854775807:=by omega
 have Z:=Hd hN;have a4:((n+16:Nat):Int)=(n:Int)+16:=by omega
 clear hv a7 a0 b4 a1 c5 hN hn;rw [show ((n+16:Nat))=n+16 from rfl]
 obtain ⟨N,a8⟩:=Nm (n+16);rw [<- a8] at Q a4 c6 |-;have H0:=Hd a8;have n0:(0:Int)<=(n:Int):=by omega
 have n1:(n:Int)+16<=9223372036854775807:=by omega
 have c7:((N:Int) != (n:Int)+16)=false:=by rw [bne,a4];simp
 clear a8 a4;go_enter func118,ntmps118;go_wp2_with fail;clear c7
 go_loopg [5] N (fun gk iv wr=>∃ k:Nat,gk+k=N/\iv=.int .i64 (k:Int)/\Below w.heap.size w wr)
 case atStart=>exact ⟨0,rfl,rfl,qG _ _⟩
 case round =>
  obtain ⟨k,b5,rfl,hb⟩:=hrel;have k0:(0:Int)<=(k:Int):=by omega
  have G:=Hd b5;have K:=Hd hb;clear b5 hb;by_cases hk:k<N;rotate_left
  .
   have k1:¬ (k:Int)<(N:Int):=by omega
   clear hk;go_wp2;go_ret;exact ⟨rfl,K.1⟩
  have k1:(k:Int)<(N:Int):=by omega
  have R:=Hd hk;have b6:k<(l++vO 16).length:=by rw [vf];have:=H0.1;have:=Z.1;omega
  obtain ⟨s,hs⟩:=Nm ((l++vO 16)[k]);obtain ⟨rb,ro,c8,a5⟩:=(Q.1.below K.1).row k b6;subst c8;rw [<- hs] at a5;have M:=Hd a5;have I:=Hd (show ¬ k<n->s=zR 90 ((k:Int)-(n:Int)) from fun h=>by
   have e:=Z.1;rw [hs,List.getElem_append_right (by omega),jkG]
   congr 1
   omega)
  have O:=Hd (show ∀ h:k<n,∃ hl:k<l.length,s=l[k] from fun h=>by
   have e:=Z.1;refine ⟨by omega,?_⟩
   rw [hs,List.getElem_append_left (by omega)])
  have hz:IntKind.i64.wrap ((k:Int)-(n:Int))=(k:Int)-(n:Int):=by simp [IntKind.wrap,IntKind.bits,IntKind.signed];omega
  clear hk b6 hs a5;go_wp2_with fail;refine (zG 90 ((k:Int)-(n:Int)) _ (by omega) (by omega)).mono ?_
  rintro e w1 ⟨rfl,a9⟩;obtain ⟨mk,b7⟩:∃ mk,mk=zR 90 ((k:Int)-(n:Int)):=⟨_,rfl⟩;rw [<- b7] at I |-;have J:=Hd (K.1.trans (a9.mono K.1.size));have D:=Hd (show w1.rangeAt rb (ro+k*12) s.cells.toList from fun j v hv=>jc a9 (M.1 j v hv))
  clear a9 b7 K M hz
  go_wp2_with (with_reducible refine Sz mk.cells.toList (SesM.listS _) (SesM.oneS _) ?_)
  intro w2 b8;obtain ⟨b9,b0⟩:=uQ b8;have E:=Hd b9;have C:=Hd (J.1.trans (b0.mono J.1.size));have H:=Hd (show w2.rangeAt rb (ro+k*12) s.cells.toList from fun j v hv=>jc b0 (D.1 j v hv))
  have T:=Hd (show rb<w1.heap.size from World.block_lt_of_cell? w1 _ (D.1 0 _ rfl))
  have U:=Hd (show w.heap.size<=w1.heap.size from J.1.size)
  clear b8 b9 b0 J D;generalize w1.heap.size=pb at E T U |-;by_cases hkn:k<n
  .
   have kn:(k:Int)<(n:Int):=by omega
   obtain ⟨hl,c0⟩:=O.1 hkn;obtain ⟨sb,so,c9,a3⟩:=(S.1.below C.1).row k hl;subst c9;rw [<- c0] at a3;have V:=Hd a3;obtain ⟨b1,c3⟩:=E.1.setAllS rfl s;have W:=Hd b1;have X:=Hd c3;clear hkn c0 a3 b1 c3 I O hl
   go_wp2_with (with_reducible refine Lk V.1 underlying45 ?_)
   intro cv c4
   go_wp2_with (with_reducible refine Sk s.cells.toList c4 X.1 (SesM.oneS _) ?_)
   intro w3 b2;have Y:=Hd (show Box w3 pb s.cells 45 by rw [b2.out];exact W.1)
   have hm:Mod (fun q=>q=pb) w2 w3:=by
    rw [b2.out];generalize s.cells.toList=L;exact Mod.setCells (fun q=>q=pb) pb rfl L 0 w2
   have F:=Hd (C.1.trans (hm.below C.1.size (fun i hi=>by have:=U.1;omega)))
   have A:=Hd (show ∀ wq,(∃ n,wq=w3.drewN n)->wq.rangeAt rb (ro+k*12) s.cells.toList from fun wq hq j v hv=>by
    obtain ⟨q,rfl⟩:=hq;have h1:=H.1 j v hv;show w3.cell? _=_;rw [World.cell?_of_block (w:=w2) (hm.block rb (World.block_lt_of_cell? w2 _ (H.1 0 _ rfl)) (by have:=T.1;omega))]
    exact h1)
   have B:=Hd (show ∀ wq,(∃ n,wq=w3.drewN n)->wq.rangeAt pb 0 s.cells.toList from fun wq hq=>by
    obtain ⟨q,rfl⟩:=hq;exact Box.rangeS (show Box (w3.drewN q) pb s.cells 45 from Y.1))
   clear c4 b2 hm X W E C H V Y;go_wp2_with fail;refine wp_region_quiet_lit (by kernel_rfl) (by kernel_rfl) ?_
   repeat (go_big_quiet_step (fail))
   refine xo rfl 45 (.tmp 34) rfl rb (ro+k*12) rfl s.cells.toList _ A.1 underlying45 rfl (by kernel_rfl) ?_
   intro c1 a0;have ec1:c1=s.cells:=by rw [a0.out]
   subst ec1;simp only [Act.put,wG,pp,pI];refine xo rfl 45 (.tmp 6) rfl pb 0 rfl s.cells.toList _ B.1 underlying45 rfl (by kernel_rfl) ?_
   intro c2 a1;have ec2:c2=s.cells:=by rw [a1.out]
   subst ec2;simp only [Act.put,wG,pp,pI];have a6:∀ w,(binOp .neq 45 (.agg s.cells) (.agg s.cells)).run prog w=.ok (.bool false) w:=fun w=>by rw [jby,yB.2 rfl];rfl
   repeat (go_big_quiet_step (fail))
   refine wpQuiet_nil ?_;intro wq b3;obtain ⟨nq,rfl⟩:=b3;have P:=Hd (F.1.trans ((jD _ nq).mono F.1.size));clear a6 a0 a1 A B;go_wp2
   go_roundg (N-(k+1))
   case measure=>have:=G.1;have:=R.1;omega
   case rel=>exact ⟨k+1,by have:=G.1;have:=R.1;omega,by go_num,P.1⟩
  have kn:¬ (k:Int)<(n:Int):=by omega
  obtain rfl:=I.1 hkn;have F:=C;have A:=Hd (show ∀ wq,(∃ n,wq=w2.drewN n)->wq.rangeAt rb (ro+k*12) s.cells.toList from fun wq hq=>by
   obtain ⟨q,rfl⟩:=hq;exact H.1)
  have B:=Hd (show ∀ wq,(∃ n,wq=w2.drewN n)->wq.rangeAt pb 0 s.cells.toList from fun wq hq=>by
   obtain ⟨q,rfl⟩:=hq;exact Box.rangeS (show Box (w2.drewN q) pb s.cells 45 from E.1))
  clear hkn E C H I O;go_wp2_with fail;refine wp_region_quiet_lit (by kernel_rfl) (by kernel_rfl) ?_
  repeat (go_big_quiet_step (fail))
  refine xo rfl 45 (.tmp 34) rfl rb (ro+k*12) rfl s.cells.toList _ A.1 underlying45 rfl (by kernel_rfl) ?_
  intro c1 a0;have ec1:c1=s.cells:=by rw [a0.out]
  subst ec1;simp only [Act.put,wG,pp,pI];refine xo rfl 45 (.tmp 6) rfl pb 0 rfl s.cells.toList _ B.1 underlying45 rfl (by kernel_rfl) ?_
  intro c2 a1;have ec2:c2=s.cells:=by rw [a1.out]
  subst ec2;simp only [Act.put,wG,pp,pI];have a6:∀ w,(binOp .neq 45 (.agg s.cells) (.agg s.cells)).run prog w=.ok (.bool false) w:=fun w=>by rw [jby,yB.2 rfl];rfl
  repeat (go_big_quiet_step (fail))
  refine wpQuiet_nil ?_;intro wq b3;obtain ⟨nq,rfl⟩:=b3;have P:=Hd (F.1.trans ((jD _ nq).mono F.1.size));clear a6 a0 a1 A B;go_wp2
  go_roundg (N-(k+1))
  case measure=>have:=G.1;have:=R.1;omega
  case rel=>exact ⟨k+1,by have:=G.1;have:=R.1;omega,by go_num,P.1⟩
theorem LentS.slice {base:Nat}(h:LentS w base v l):∃ a cap,v=.slice a l.length cap/\l.length<=cap:=by
 obtain ⟨a,cap,h1,h2⟩:=h;obtain ⟨a',cap',e,h3⟩:=h2.slice;injection e with e1 e2 e3
 exact ⟨a,cap,h1,by rw [vf] at h3;omega⟩
theorem LentS.lt {base:Nat}(h:LentS w base v l):∀ k,v.ownBlock=some k->base<=k/\k<w.heap.size:=by
 obtain ⟨a,cap,rfl,h2⟩:=h;exact fun k hk=>h2.lt k (by cases a <;> exact hk)
theorem LentS.base {base base':Nat}(h:LentS w base v l)(hb:base'<=base):LentS w base' v l:=by
 obtain ⟨a,cap,rfl,h2⟩:=h;exact ⟨a,cap,rfl,h2.base hb⟩
theorem jhk (v v':Value)(base:Nat)(l:List SesM)(w:World)(hv:LentS w base v l)(a0:RdS w v' l)(hn:l.length<=1256584717457) :
  Calls prog 89 #[v,v'] w fun e w'=>e=.returned (.bool true)/\Below w.heap.size w w':=by
 obtain ⟨a,cap,rfl,h2⟩:=hv;obtain ⟨a2,cap2,rfl,a1,a5⟩:=a0.slice;have a3:=h2.rd;have hc:l.length+16<=cap:=by
  obtain ⟨_,_,e,hc⟩:=h2.slice;injection e with _ e2 e3
  rw [vf] at hc;omega
 have H:=Hd (jc6 (.slice a (l.length+16) cap) (.slice a2 l.length cap2) l w a3 a0 hn);obtain ⟨n,hN⟩:=Nm (l.length);rw [<- hN] at H hc hn a1 |-;have z1:(n:Int)+16=((n+16:Nat):Int):=by omega
 have a6:∀ w,(Instr.slice 28 (.slice a n cap) none (some (.int .i64 ((n:Int)+16))) none).run prog w=.ok (.slice a (n+16) cap) w:=fun w=>by rw [z1];exact jky a n cap (n+16) (by omega) w
 have n1:(n:Int)+16<=9223372036854775807:=by omega
 obtain ⟨N,a4⟩:=Nm (n+16);rw [<- a4] at H a6;clear a4 h2 a0 a3 hN hc a1 a5 hn z1;go_enter func89,ntmps89;go_wp2_with fail;refine H.1.mono ?_;rintro e w1 ⟨rfl,hb⟩;have A:=Hd hb;clear hb H;go_wp2;go_ret;exact ⟨rfl,A.1⟩
theorem jde (c b:Int)(v:Value)(l:List SesM)(w:World)(hv:RdS w v l)(hn:l.length+16<=1256584717457) :
  Calls prog 50 #[.agg #[c,b,v]] w fun e w'=>∃ o,e=.returned (.agg #[c,b,o])/\LentS w' w.heap.size o l/\Below w.heap.size w w':=by
 have A:=Hd hv;have H:=Hd (fun o o2 o3=>((ja w o).trans ((ja (w.alloc o) o2).mono (ja w o).size)).trans ((ja ((w.alloc o).alloc o2) o3).mono (qi (ja w o).size (ja _ o2).size)))
 obtain ⟨a,cap,rfl,_,_⟩:=hv.slice;clear hv;go_enter func50,ntmps50;go_wp2_with fail;refine (jhH _ l _ (A.1.below (H.1 _ _ _)) hn).mono ?_;rintro ev w1 ⟨o,rfl,a3,hb⟩;have B:=Hd a3;have C:=Hd ((H.1 _ _ _).trans (hb.mono (H.1 (.cells #[c,b,.slice a l.length cap] 30) (.cells #[(0:Int),(0:Int),.slice none 0 0] 30) (.cells #[c,b,.slice a l.length cap] 30)).size));have a0:Box w1 (w.heap.size+1) #[(0:Int),(0:Int),.slice none 0 0] 30:=by
  have h:=(Box.new (w.alloc (.cells #[c,b,.slice a l.length cap] 30)) #[(0:Int),(0:Int),.slice none 0 0] 30).below (ja _ (.cells #[c,b,.slice a l.length cap] 30));rw [qj] at h;exact h.below hb
 have a1:Box w1 (w.heap.size+1+1) #[c,b,.slice a l.length cap] 30:=by
  have h:=Box.new ((w.alloc (.cells #[c,b,.slice a l.length cap] 30)).alloc (.cells #[(0:Int),(0:Int),.slice none 0 0] 30)) #[c,b,.slice a l.length cap] 30;rw [qj,qj] at h;exact h.below hb
 have D:=Hd a0;have F:=Hd a1;obtain ⟨c0,c1,c2⟩:=C3 a1;have f2:=a1.free 2;obtain ⟨d0,g0,d1,g1,d2,g2⟩:=B3 a0;have E:=Hd (fun q hq=>(a3.lt q hq).1)
 clear a3 hb a0 a1 H A;obtain ⟨oa,oc,rfl,_⟩:=B.1.slice;go_wp2_with fail;have hm:∀ (W:World),Mod (fun q=>q=w.heap.size+1\/q=w.heap.size+1+1) w1 W->LentS W w.heap.size (.slice oa l.length oc) l/\Below w.heap.size w W:=fun W hm=>by
  refine ⟨(B.1.base (by simp;omega)).mod hm (fun q hq e=>?_),C.1.trans (hm.below C.1.size (fun i hi=>by omega))⟩
  have:=E.1 q hq
  simp at this
  omega
 have a2:∀ (W:World) (q o:Nat) (v:Value),Mod (fun q=>q=w.heap.size+1\/q=w.heap.size+1+1) w1 W->(q=w.heap.size+1\/q=w.heap.size+1+1)->Mod (fun q=>q=w.heap.size+1\/q=w.heap.size+1+1) w1 (W.setCell ⟨q,o,none⟩ v):=fun W q o v h hq=>h.trans (Mod.set _ _ _ _ hq)
 refine Jc ?_ underlying30 ⟨_,rfl,hm _ (by
  refine a2 _ _ _ _ (a2 _ _ _ _ (a2 _ _ _ _ (a2 _ _ _ _ (Mod.refl _ _) ?_) ?_) ?_) ?_ <;> simp)⟩ (cs := [.int .i64 c,.int .i64 b,.slice oa l.length oc])
 have a4:Box ((((w1.setCell ⟨w.heap.size+1+1,2,none⟩ (.slice oa l.length oc)).setCell ⟨w.heap.size+1,0,none⟩ c).setCell ⟨w.heap.size+1,1,none⟩ b).setCell ⟨w.heap.size+1,2,none⟩ (.slice oa l.length oc)) (w.heap.size+1) #[c,b,.slice oa l.length oc] 30:=by
  have h:=(((D.1.set_other (p:=⟨w.heap.size+1+1,2,none⟩) (by simp) (.slice oa l.length oc)).set 0 c).set 1 b).set 2 (.slice oa l.length oc)
  exact h
 intro j v hv;rw [qA];exact a4.cell j v (by simpa using hv)
theorem jdb (c b:Int)(v v':Value)(base:Nat)(l:List SesM)(w:World)(hv:LentS w base v l)(a0:RdS w v' l)(hn:l.length<=1256584717457) :
  Calls prog 52 #[.agg #[c,b,v],.agg #[c,b,v']] w fun e w'=>e=.returned (.bool true)/\Below w.heap.size w w':=by
 have H:=Hd (fun o o2=>jl w o o2)
 have A:=Hd (fun w' hb=>jhk v v' base l w' (hv.below hb) (a0.below hb) hn)
 obtain ⟨a,cap,rfl,_⟩:=hv.slice;obtain ⟨a2,cap2,rfl,_⟩:=a0.slice;have e1:(c==c)=true:=by rw [qK]
 have e2:(b==b)=true:=by rw [qK]
 clear hv a0 hn;go_enter func52,ntmps52;go_wp2_with fail;refine (A.1 _ (H.1 _ _)).mono ?_;rintro e w1 ⟨rfl,hb⟩;have B:=Hd ((H.1 _ _).trans (hb.mono (H.1 (.cells #[c,b,.slice a l.length cap] 30) (.cells #[c,b,.slice a2 l.length cap2] 30)).size));clear hb A H;go_wp2;go_ret;exact ⟨rfl,B.1⟩
theorem jdF:∀ (l:List UInt8) (i u:Nat),(yT i u l).1=0->(yT i u l).2.2<=i+l.length/\i<(yT i u l).2.2
 | [],i,u=>by intro h;unfold yT at h;exact absurd h (by decide)
 | c::l,i,u=>by
  intro h;unfold yT at h |-
  split at h
  . exact absurd h (by decide)
  .
   rename_i hf
   rw [qh hf]
   split at h
   .
    rename_i h8
    rw [qf h8];simp only [qp];omega
   .
    rename_i h8
    rw [qh h8];have:=jdF l (i+1) _ h;simp only [qp];omega
theorem jb8 (l:List UInt8)(h:(jX l).1=0):(jX l).2.2<=l.length:=by
 have:=(jdF l 0 0 h).1;unfold jX;omega
theorem uD (v:Value)(l:List UInt8)(w:World)(h:Rd w v l.length (l.map V8))(a9:l.length<=1000000000000) :
  Calls prog 169 #[v] w fun e w'=>e=.returned (.tuple #[.int .u64 ((jX l).2.1:Int),((jX l).2.2:Int),.int .i64 (jX l).1])/\w'=w:=by
 obtain ⟨N,hN⟩:=Nm (jX l);rw [<- hN];have E:=Hd hN;obtain ⟨a,cap,rfl,h1,h2,h3,h4⟩:=h;have F:=Hd h4;clear hN h4 h3;go_enter func169,ntmps169;go_wp2
 go_loopg [5,6] 10 (fun gk vv iv wr=>∃ (i u:Nat),gk+i=10/\i<=9/\vv=.int .u64 (u:Int)/\iv=.int .i64 (i:Int)/\u<2 ^ (7*i)/\i<=l.length/\yT i u (l.drop i)=N/\wr=w)
 case atStart=>exact ⟨0,0,rfl,by omega,rfl,rfl,by omega,by omega,E.1.symm,rfl⟩
 case round =>
  obtain ⟨i,u,a2,hi,rfl,rfl,hu,a7,hG,rfl⟩:=hrel;have i0:(0:Int)<=(i:Int):=by omega
  have i10:(i:Int)<10:=by omega
  by_cases hk:i<l.length
  .
   obtain ⟨c,hc⟩:=Nm (l.getD i 0);have hd:l.drop i=c::l.drop (i+1):=by
    rw [qL hk,hc];simp [List.getD,hk]
   rw [hd] at hG;obtain ⟨b,off,rfl,a6⟩:=F.1 i (by simpa using hk)
   obtain ⟨y,hy⟩:=Nm (c.toNat);have b0:wr.cell? ⟨b,off+i,none⟩=some (.int .u8 (y:Int)):=by rw [a6,hy,hc];simp [hk,V8]
   unfold yT at hG;rw [<- hy] at hG;have a3:y<256:=by rw [hy];exact c.toNat_lt
   obtain ⟨m,hm⟩:=Nm (y % 128);have a0:m<128:=by omega
   have a8:bits .and .u8 (y:Int) 127=(m:Int):=jkz y m a3 hm;have b1:IntKind.u64.wrap (m:Int)=(m:Int):=by simp [IntKind.wrap,IntKind.bits,IntKind.signed];omega
   have z7:IntKind.i64.wrap (7*(i:Int))=7*(i:Int):=by simp [IntKind.wrap,IntKind.bits,IntKind.signed];omega
   have i9:(i:Int)<=9:=by omega
   have k1:(i:Int)<(l.length:Int):=by omega
   have B:=Hd a2;have C:=Hd hk;clear hd hc a7 a6
   rcases (show (i=9/\1<y)\/(i=9/\y=0)\/(i≠9/\0<i/\y=0)\/(i=0)\/(i≠9/\0<i/\y≠0)\/(i=9/\y=1) by omega) with hcs | hcs | hcs | hcs | hcs | hcs
   .
    have f9:((i:Int)==9)=true:=by simp;omega
    have fg:(1:Int)<(y:Int):=by omega
    have H:=Hd (show N=(4,0,0) from by rw [<- hG];exact qf (by omega))
    clear hu hG hm hy a3 a0 a2 hi hk hcs;go_wp2;refine qP (kg rfl _ _ _) rfl ?_;rw [H.1];exact ⟨rfl,rfl⟩
   .
    have f9:((i:Int)==9)=true:=by simp;omega
    have fg:¬ (1:Int)<(y:Int):=by omega
    have f0:(0:Int)<(i:Int):=by omega
    have fy:((y:Int)==0)=true:=by simp;omega
    have H:=Hd (show N=(4,0,0) from by rw [<- hG];exact qf (by omega))
    clear hu hG hm hy a3 a0 a2 hi hk hcs;go_wp2;refine qP (kg rfl _ _ _) rfl ?_;rw [H.1];exact ⟨rfl,rfl⟩
   .
    have f9:((i:Int)==9)=false:=by simp;omega
    have f0:(0:Int)<(i:Int):=by omega
    have fy:((y:Int)==0)=true:=by simp;omega
    have H:=Hd (show N=(4,0,0) from by rw [<- hG];exact qf (by omega))
    clear hu hG hm hy a3 a0 a2 hi hk hcs;go_wp2;refine qP (kg rfl _ _ _) rfl ?_;rw [H.1];exact ⟨rfl,rfl⟩
   .
    have f9:((i:Int)==9)=false:=by simp;omega
    have f0:¬ (0:Int)<(i:Int):=by omega
    rw [qh (by omega)] at hG
    have a4:=jb2 u m i hu a0 hi (by omega)
    obtain ⟨q,hq⟩:=Nm (u+m*2 ^ (7*i));rw [<- hq] at a4;by_cases a1:y<128
    .
     have H:=Hd (show N=(0,q,i+1) from by rw [<- hG,qf a1,hq,show m=y by omega])
     have g1:(y:Int)<128:=by omega
     clear hu hG hm hy a3 a0 a2 hi hk hq a1 hcs;go_wp2;refine qP (kg rfl _ _ _) rfl ?_;rw [H.1];exact ⟨rfl,rfl⟩
    .
     have a5:i<9:=by omega
     have H:=Hd (show yT (i+1) q (l.drop (i+1))=N from by rw [<- hG,qh a1,hq,show m=y-128 by omega])
     have D:=Hd (show q<2 ^ (7*(i+1)) from by
      rw [show 7*(i+1)=7*i+7 by omega,pO,hq]
      have:(m+1)*2 ^ (7*i)<=128*2 ^ (7*i):=qQ _ (by omega)
      rw [pf] at this;rw [wS (2 ^ (7*i)) (2 ^ 7)];omega)
     have A:=Hd a5;have g1:¬ (y:Int)<128:=by omega
     clear hu hG hm hy a3 a0 a2 hi hk hq a1 a5 hcs;go_wp2
     go_roundg (10-(i+1))
     case measure=>have:=B.1;have:=A.1;omega
     case rel=>exact ⟨i+1,q,by have:=A.1;omega,by have:=A.1;omega,rfl,by go_num,D.1,by have:=C.1;omega,H.1,rfl⟩
   .
    have f9:((i:Int)==9)=false:=by simp;omega
    have f0:(0:Int)<(i:Int):=by omega
    have fy:((y:Int)==0)=false:=by simp;omega
    rw [qh (by omega)] at hG
    have a4:=jb2 u m i hu a0 hi (by omega)
    obtain ⟨q,hq⟩:=Nm (u+m*2 ^ (7*i));rw [<- hq] at a4;by_cases a1:y<128
    .
     have H:=Hd (show N=(0,q,i+1) from by rw [<- hG,qf a1,hq,show m=y by omega])
     have g1:(y:Int)<128:=by omega
     clear hu hG hm hy a3 a0 a2 hi hk hq a1 hcs;go_wp2;refine qP (kg rfl _ _ _) rfl ?_;rw [H.1];exact ⟨rfl,rfl⟩
    .
     have a5:i<9:=by omega
     have H:=Hd (show yT (i+1) q (l.drop (i+1))=N from by rw [<- hG,qh a1,hq,show m=y-128 by omega])
     have D:=Hd (show q<2 ^ (7*(i+1)) from by
      rw [show 7*(i+1)=7*i+7 by omega,pO,hq]
      have:(m+1)*2 ^ (7*i)<=128*2 ^ (7*i):=qQ _ (by omega)
      rw [pf] at this;rw [wS (2 ^ (7*i)) (2 ^ 7)];omega)
     have A:=Hd a5;have g1:¬ (y:Int)<128:=by omega
     clear hu hG hm hy a3 a0 a2 hi hk hq a1 a5 hcs;go_wp2
     go_roundg (10-(i+1))
     case measure=>have:=B.1;have:=A.1;omega
     case rel=>exact ⟨i+1,q,by have:=A.1;omega,by have:=A.1;omega,rfl,by go_num,D.1,by have:=C.1;omega,H.1,rfl⟩
   .
    have f9:((i:Int)==9)=true:=by simp;omega
    have fg:¬ (1:Int)<(y:Int):=by omega
    have f0:(0:Int)<(i:Int):=by omega
    have fy:((y:Int)==0)=false:=by simp;omega
    rw [qh (by omega)] at hG
    have a4:=jb2 u m i hu a0 hi (by omega)
    obtain ⟨q,hq⟩:=Nm (u+m*2 ^ (7*i));rw [<- hq] at a4;have a1:y<128:=by omega
    have H:=Hd (show N=(0,q,i+1) from by rw [<- hG,qf a1,hq,show m=y by omega])
    have g1:(y:Int)<128:=by omega
    clear hu hG hm hy a3 a0 a2 hi hk hq a1 hcs;go_wp2;refine qP (kg rfl _ _ _) rfl ?_;rw [H.1];exact ⟨rfl,rfl⟩
  .
   have H:=Hd (show N=(2,0,0) from by
    rw [qZ (by omega)] at hG
    rw [<- hG];rfl)
   have k1:¬ (i:Int)<(l.length:Int):=by omega
   clear hu hG hk a7 a2 hi;go_wp2;refine qP (kg rfl _ _ _) rfl ?_;rw [H.1];exact ⟨rfl,rfl⟩
theorem jd2 (v:Value)(l:List UInt8)(w:World)(h:Rd w v l.length (l.map V8))(a2:l.length<=1000000000000) :
  Calls prog 184 #[v,(32:Int)] w fun e w'=>e=.returned (.tuple #[.string (SB (jL l).2.1),((jL l).2.2:Int),.int .i64 (jL l).1])/\w'=w:=by
 have A:=Hd (uD v l w h a2);obtain ⟨R,hR⟩:=Nm (jL l);rw [<- hR];unfold jL at hR;have a0:=jb8 l;generalize jX l=N at A hR a0;obtain ⟨er,n,u⟩:=N;simp only at A hR a0;have a3:=h;obtain ⟨a,cap,rfl,h1,h2,h3,_⟩:=a3;have B:=Hd h;clear h h3;go_enter func184,ntmps184;go_wp2_with fail;refine A.1.mono ?_;rintro e w1 ⟨rfl,rfl⟩;by_cases he:er=0;rotate_left
 .
  have H:=Hd (show R=(er,[],0) by rw [hR,qh he])
  have g1:(er != 0)=true:=by simp [he]
  clear hR a0 he;go_wp2
  go_ret3
  rw [H.1];exact ⟨rfl,rfl⟩
 .
  have hu:=a0 he;rw [qf he] at hR;subst he;by_cases hb:32<n
  .
   have H:=Hd (show R=(3,[],0) by rw [hR,qf hb])
   have g1:(32:Int)<(n:Int):=by omega
   clear hR a0 hb hu;go_wp2
   go_ret3
   rw [H.1];exact ⟨rfl,rfl⟩
  .
   rw [qh hb] at hR;obtain ⟨d,hd⟩:=Nm (l.length-u);have g1:¬ (32:Int)<(n:Int):=by omega
   have zd:IntKind.i64.wrap ((l.length:Int)-(u:Int))=(d:Int):=by simp [IntKind.wrap,IntKind.bits,IntKind.signed];omega
   have zd2:IntKind.u64.wrap (d:Int)=(d:Int):=jfg d (by omega)
   have zd3:(l.length:Int)-(u:Int)=(d:Int):=by omega
   rw [<- hd] at hR;by_cases hs:d<n
   .
    have H:=Hd (show R=(2,[],0) by rw [hR,qf hs])
    have g2:(d:Int)<(n:Int):=by omega
    clear hR a0 hb hs hu hd;go_wp2
    go_ret3
    rw [H.1];exact ⟨rfl,rfl⟩
   .
    obtain ⟨q,hq⟩:=Nm (u+n);obtain ⟨T,hT⟩:=Nm ((l.drop u).take n);have H:=Hd (show R=(0,T,q) by rw [hR,qh hs,hT,hq])
    have g2:¬ (d:Int)<(n:Int):=by omega
    have zn:IntKind.i64.wrap (n:Int)=(n:Int):=by simp [IntKind.wrap,IntKind.bits,IntKind.signed];omega
    have zs:IntKind.i64.wrap ((u:Int)+(n:Int))=(q:Int):=by simp [IntKind.wrap,IntKind.bits,IntKind.signed];omega
    have zs2:(u:Int)+(n:Int)=(q:Int):=by omega
    obtain ⟨tv,a1⟩:=Nm (xP a q cap u);have a4:∀ w,(Instr.slice 92 (.slice a l.length cap) (some (.int .i64 (u:Int))) (some (.int .i64 (q:Int))) none).run prog w=.ok tv w:=fun w=>by rw [a1];exact jh6 a _ cap u q (by omega) (by omega) w
    have a5:(convert 92 9 tv).run prog w1=.ok (.string (SB T)) w1:=by
     have h5:=jmt B.1 (show u<=q by omega) (by omega)
     rw [show q-u=n by omega,<- a1,<- hT] at h5
     exact uP T h5 (by rw [hT,qr,qn];omega)
    clear hR a0 hb hs hu hd hq hT a1;go_wp2
    go_ret3
    rw [H.1];exact ⟨rfl,rfl⟩
structure IsRK (w:World)(t:Nat)(v:Value)(s:TkM):Prop where
 box:Box w t #[v,s.er,.bool s.big] 271
 rd:Rd w v s.rest.length (s.rest.map V8)
 ne:v.ownBlock≠some t
 sm:s.rest.length<=1000000000000
theorem IsRK.mod {t:Nat}{s:TkM}{F:Nat->Prop}(h:IsRK w t v s)(hm:Mod F w w')(h1:¬ F t)(h2:∀ b,v.ownBlock=some b->¬ F b):IsRK w' t v s :=
 ⟨h.box.mod hm h1,h.rd.keep (fun b hb hl=>hm.block b hl (h2 b hb)),h.ne,h.sm⟩
theorem IsRK.below {t:Nat}{s:TkM}(h:IsRK w t v s)(hb:Below w.heap.size w w'):IsRK w' t v s:=h.mod (Mod.of_below (F:=fun _=>False) hb) (fun h=>h) (fun _ _ h=>h)
theorem jfn (a:Option Addr)(n cap k:Nat):(xP a n cap k).ownBlock=(Value.slice a n cap).ownBlock:=by
 unfold xP;by_cases hc:cap=k
 . rw [qf hc];cases a <;> rfl
 .
  rw [qh hc];cases a with
  | none=>rfl
  | some a=>simp only [Value.ownBlock,Option.map];unfold Addr.add;split <;> rfl
theorem jhs (l:List UInt8)(h:(jL l).1=0):(jL l).2.2<=l.length:=by
 unfold jL at h |-;by_cases h0:(jX l).1=0
 .
  have hu:=jb8 l h0;rw [qf h0] at h |-
  split at h
  . exact absurd h (by decide)
  .
   rename_i h32
   rw [qh h32]
   split at h
   . exact absurd h (by decide)
   .
    rename_i hs
    rw [qh hs];show (jX l).2.2+(jX l).2.1<=l.length;omega
 . rw [qh h0] at h;exact absurd h h0
theorem xB (t:Nat)(v:Value)(s:TkM)(w:World)(h:IsRK w t v s) :
  Calls prog 145 #[.pointer (some ⟨t,0,none⟩)] w fun e w'=>e=.returned (.int .u64 (s.num.1:Int))/\(∃ v',IsRK w' t v' s.num.2/\v'.ownBlock=v.ownBlock)/\Mod (fun i=>i=t) w w':=by
 have a6:=h.rd;obtain ⟨a,cap,rfl,h1,h2,h3,_⟩:=a6;have H:=Hd h;have a8:=h.sm;have c0:=h.box.cell 0 _ rfl;have c1:w.cell? ⟨t,1,none⟩=some (.int .i64 s.er):=h.box.cell 1 _ rfl;have f0:=h.box.free 0;have f1:=h.box.free 1;by_cases he:s.er=0;rotate_left
 .
  have A:=Hd (show s.num=(0,s) by unfold TkM.num;rw [qh he])
  have g1:(s.er != 0)=true:=by simp [he]
  clear h he;go_enter func145,ntmps145;go_wp2;go_ret;rw [A.1];exact ⟨rfl,⟨_,H.1,rfl⟩,Mod.refl _ _⟩
 .
  have B:=Hd (uD _ s.rest w h.rd h.sm);have a1:=jb8 s.rest;have A:=Hd (show s.num=(if (jX s.rest).1=0 then ((jX s.rest).2.1,⟨s.l,s.k+(jX s.rest).2.2,0,s.big⟩) else (0,⟨s.l,s.k,(jX s.rest).1,s.big⟩)) by unfold TkM.num;rw [qf he])
  have E:=Hd (show ∀ u,({ l:=s.l,k:=s.k+u,er:=0,big:=s.big }:TkM).rest=s.rest.drop u from fun u=>by unfold TkM.rest;rw [wR])
  have G:=Hd (show ∀ e,({ l:=s.l,k:=s.k,er:=e,big:=s.big }:TkM).rest=s.rest from fun e=>rfl)
  rw [he] at c1;generalize jX s.rest=N at B a1 A;obtain ⟨er,n,u⟩:=N;simp only at B a1 A;clear h;go_enter func145,ntmps145;go_wp2_with fail;refine B.1.mono ?_;rintro e w1 ⟨rfl,rfl⟩;by_cases hn:er=0
  .
   have hu:=a1 hn;have HS':=Hd (show s.num=(n,⟨s.l,s.k+u,0,s.big⟩) by rw [A.1,qf hn])
   subst hn;have a7:=jhT a s.rest.length cap u hu;have a3:=xR (k:=u) H.1.rd hu (by simp)
   rw [<- wW] at a3;obtain ⟨tv,a4⟩:=Nm (xP a s.rest.length cap u);have a5:tv.ownBlock=(Value.slice a s.rest.length cap).ownBlock:=by rw [a4];exact jfn _ _ _ _
   rw [<- a4] at a7 a3;have a0:=Mod.set (fun i=>i=t) w1 ⟨t,0,none⟩ tv rfl
   have a2:IsRK (w1.setCell ⟨t,0,none⟩ tv) t tv ⟨s.l,s.k+u,0,s.big⟩:=by
    refine ⟨?_,?_,by rw [a5];exact H.1.ne,by rw [E.1,qn];omega⟩
    .
     have:=H.1.box.set 0 tv;rw [he] at this;exact this
    .
     rw [E.1,qn];exact a3.keep (fun b hb hl=>a0.block b hl (fun e=>H.1.ne (by rw [<- a5,hb,e])))
   obtain ⟨ta,tn,tc,rfl⟩:∃ ta tn tc,tv=.slice ta tn tc:=⟨_,_,_,a4⟩;have C:=Hd a2;have D:=Hd a0;have F:=Hd a5;clear a2 a0 a5 a3 a4 hu a1 A he;go_wp2;go_ret;rw [HS'.1];exact ⟨rfl,⟨_,C.1,F.1⟩,D.1⟩
  .
   have HS':=Hd (show s.num=(0,⟨s.l,s.k,er,s.big⟩) by rw [A.1,qh hn])
   have g1:(er != 0)=true:=by simp [hn]
   have a0:=Mod.set (fun i=>i=t) w1 ⟨t,1,none⟩ er rfl
   have a2:IsRK (w1.setCell ⟨t,1,none⟩ er) t (.slice a s.rest.length cap) ⟨s.l,s.k,er,s.big⟩ :=
    ⟨H.1.box.set 1 _,H.1.rd.keep (fun b hb hl=>a0.block b hl (fun e=>H.1.ne (by rw [hb,e]))),H.1.ne,H.1.sm⟩
   have C:=Hd a2;have D:=Hd a0;clear a2 a0 a1 A he hn;go_wp2;go_ret;rw [HS'.1];exact ⟨rfl,⟨_,C.1,rfl⟩,D.1⟩
theorem uO (t:Nat)(v:Value)(s:TkM)(w:World)(h:IsRK w t v s) :
  Calls prog 170 #[.pointer (some ⟨t,0,none⟩)] w fun e w'=>e=.returned (.string (SB s.txt.1))/\(∃ v',IsRK w' t v' s.txt.2/\v'.ownBlock=v.ownBlock)/\Mod (fun i=>i=t) w w':=by
 have a6:=h.rd;obtain ⟨a,cap,rfl,h1,h2,h3,_⟩:=a6;have H:=Hd h;have a8:=h.sm;have c0:=h.box.cell 0 _ rfl;have c1:w.cell? ⟨t,1,none⟩=some (.int .i64 s.er):=h.box.cell 1 _ rfl;have f0:=h.box.free 0;have f1:=h.box.free 1;by_cases he:s.er=0;rotate_left
 .
  have A:=Hd (show s.txt=([],s) by unfold TkM.txt;rw [qh he])
  have g1:(s.er != 0)=true:=by simp [he]
  clear h he;go_enter func170,ntmps170;go_wp2;go_ret;rw [A.1];exact ⟨rfl,⟨_,H.1,rfl⟩,Mod.refl _ _⟩
 .
  have B:=Hd (jd2 _ s.rest w h.rd h.sm);have a1:=jhs s.rest;have A:=Hd (show s.txt=(if (jL s.rest).1=0 then ((jL s.rest).2.1,⟨s.l,s.k+(jL s.rest).2.2,0,s.big⟩) else ([],⟨s.l,s.k,(jL s.rest).1,s.big⟩)) by unfold TkM.txt;rw [qf he])
  have E:=Hd (show ∀ u,({ l:=s.l,k:=s.k+u,er:=0,big:=s.big }:TkM).rest=s.rest.drop u from fun u=>by unfold TkM.rest;rw [wR])
  have G:=Hd (show ∀ e,({ l:=s.l,k:=s.k,er:=e,big:=s.big }:TkM).rest=s.rest from fun e=>rfl)
  rw [he] at c1;generalize jL s.rest=N at B a1 A;obtain ⟨er,n,u⟩:=N;simp only at B a1 A;clear h;go_enter func170,ntmps170;go_wp2_with fail;refine B.1.mono ?_;rintro e w1 ⟨rfl,rfl⟩;by_cases hn:er=0
  .
   have hu:=a1 hn;have HS':=Hd (show s.txt=(n,⟨s.l,s.k+u,0,s.big⟩) by rw [A.1,qf hn])
   subst hn;have a7:=jhT a s.rest.length cap u hu;have a3:=xR (k:=u) H.1.rd hu (by simp)
   rw [<- wW] at a3;obtain ⟨tv,a4⟩:=Nm (xP a s.rest.length cap u);have a5:tv.ownBlock=(Value.slice a s.rest.length cap).ownBlock:=by rw [a4];exact jfn _ _ _ _
   rw [<- a4] at a7 a3;have a0:=Mod.set (fun i=>i=t) w1 ⟨t,0,none⟩ tv rfl
   have a2:IsRK (w1.setCell ⟨t,0,none⟩ tv) t tv ⟨s.l,s.k+u,0,s.big⟩:=by
    refine ⟨?_,?_,by rw [a5];exact H.1.ne,by rw [E.1,qn];omega⟩
    .
     have:=H.1.box.set 0 tv;rw [he] at this;exact this
    .
     rw [E.1,qn];exact a3.keep (fun b hb hl=>a0.block b hl (fun e=>H.1.ne (by rw [<- a5,hb,e])))
   obtain ⟨ta,tn,tc,rfl⟩:∃ ta tn tc,tv=.slice ta tn tc:=⟨_,_,_,a4⟩;have C:=Hd a2;have D:=Hd a0;have F:=Hd a5;clear a2 a0 a5 a3 a4 hu a1 A he;go_wp2;go_ret;rw [HS'.1];exact ⟨rfl,⟨_,C.1,F.1⟩,D.1⟩
  .
   have HS':=Hd (show s.txt=([],⟨s.l,s.k,er,s.big⟩) by rw [A.1,qh hn])
   have g1:(er != 0)=true:=by simp [hn]
   have a0:=Mod.set (fun i=>i=t) w1 ⟨t,1,none⟩ er rfl
   have a2:IsRK (w1.setCell ⟨t,1,none⟩ er) t (.slice a s.rest.length cap) ⟨s.l,s.k,er,s.big⟩ :=
    ⟨H.1.box.set 1 _,H.1.rd.keep (fun b hb hl=>a0.block b hl (fun e=>H.1.ne (by rw [hb,e]))),H.1.ne,H.1.sm⟩
   have C:=Hd a2;have D:=Hd a0;clear a2 a0 a1 A he hn;go_wp2;go_ret;rw [HS'.1];exact ⟨rfl,⟨_,C.1,rfl⟩,D.1⟩
def rAs (n:Nat):Int:=if n<=9223372036854775807 then (n:Int) else 0
def TkM.rint (s:TkM):Int × TkM:=(rAs s.num.1,s.int.2)
theorem jU (t:Nat)(v:Value)(s:TkM)(w:World)(h:IsRK w t v s) :
  Calls prog 144 #[.pointer (some ⟨t,0,none⟩)] w fun e w'=>e=.returned (s.rint.1:Int)/\(∃ v',IsRK w' t v' s.rint.2/\v'.ownBlock=v.ownBlock)/\Mod (fun i=>i=t) w w':=by
 have B:=Hd (xB t v s w h);have a0:=s.num_lt;have H:=Hd (show s.rint=(rAs s.num.1,⟨s.num.2.l,s.num.2.k,s.num.2.er,s.num.2.big || !(decide (s.num.1<=9223372036854775807))⟩) from rfl)
 generalize s.num=q at B a0 H;obtain ⟨x,s2⟩:=q;simp only at B a0 H;clear h;go_enter func144,ntmps144;go_wp2_with fail;refine B.1.mono ?_;rintro e w1 ⟨rfl,⟨v',hK,hv⟩,hm⟩;by_cases hx:(9223372036854775807:Int)<(x:Int)
 .
  have hd:decide (x<=9223372036854775807)=false:=qv (by omega)
  have A:=Hd (show s.rint=(0,⟨s2.l,s2.k,s2.er,true⟩) by rw [H.1,hd];unfold rAs;rw [qh (by omega)];simp)
  have c2:=hK.box.cell 2 _ rfl;have f2:=hK.box.free 2;have a1:=Mod.set (fun i=>i=t) w1 ⟨t,2,none⟩ (.bool true) rfl
  have C:=Hd (show IsRK (w1.setCell ⟨t,2,none⟩ (.bool true)) t v' ⟨s2.l,s2.k,s2.er,true⟩ from ⟨hK.box.set 2 _,hK.rd.keep (fun b hb hl=>a1.block b hl (fun e=>hK.ne (by rw [hb,e]))),hK.ne,hK.sm⟩)
  have D:=Hd (hm.trans a1);have E:=Hd hv;clear a1 hm hv hK hd H a0;go_wp2;go_ret;rw [A.1];exact ⟨rfl,⟨_,C.1,E.1⟩,D.1⟩
 .
  have hd:decide (x<=9223372036854775807)=true:=qz (by omega)
  have a3:decide ((9223372036854775807:Int)<(x:Int))=false:=qv hx;have A:=Hd (show s.rint=((x:Int),⟨s2.l,s2.k,s2.er,s2.big⟩) by rw [H.1,hd];unfold rAs;rw [qf (by omega)];simp)
  have zx:IntKind.i64.wrap (x:Int)=(x:Int):=by rw [ja6 x a0];unfold yC;rw [qf (by omega)]
  have C:=Hd hK;have D:=Hd hm;have E:=Hd hv;clear hm hv hK hd H a0 hx;go_wp2;go_ret;rw [A.1];exact ⟨rfl,⟨_,C.1,E.1⟩,D.1⟩
end Go.Proofs.YtgcnolapjppbpaaGreatDoor
