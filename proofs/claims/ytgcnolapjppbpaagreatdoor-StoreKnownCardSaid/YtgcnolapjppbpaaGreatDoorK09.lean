/- Texts of one proof. -/
import Derived.Test.YtgcnolapjppbpaaGreatDoorK04
import Derived.Test.YtgcnolapjppbpaaGreatDoorK07
import Derived.Test.YtgcnolapjppbpaaGreatDoorK06
namespace Go.Proofs.YtgcnolapjppbpaaGreatDoor
open Go.RowKit _root_.Go.Proofs.Tryz
set_option maxRecDepth 100000
set_option maxHeartbeats 25600000
theorem jiA (s:SesM):jM ⟨0,s,0,0⟩=jG s:=by simp [jM]
theorem jhy (s:SesM)(w:World)(ho:SesOk s) :
  Calls prog 165 #[.agg s.cells] w fun ev w'=>ev=.returned (.bool (jG s))/\Below w.heap.size w w':=by
 have H:=Hd (fun w=>jck ⟨0,s,0,0⟩ w ho.user ho.label ho.scopes)
 have a0:EvtM.cells ⟨0,s,0,0⟩=#[.int .i64 0,.int .i64 s.slot,.int .i64 s.birth,.int .i64 s.upS,.int .i64 s.upB,.int .i64 s.kind,.string (SB s.user),.string (SB s.label),.int .u64 (s.scopes:Int),.int .i64 s.level,.int .i64 s.born,.int .i64 s.deadline,.int .i64 s.depth,.int .i64 0,.int .i64 0]:=rfl;have A:=Hd (ja w (.cells s.cells 45));have hn:uS ⟨0,s,0,0⟩=if jG s=true then 0 else 1:=by unfold uS;rw [jiA]
 rw [a0,hn] at H;generalize jG s=m at H |-;rw [show s.cells=#[.int .i64 s.slot,.int .i64 s.birth,.int .i64 s.upS,.int .i64 s.upB,.int .i64 s.kind,.string (SB s.user),.string (SB s.label),.int .u64 (s.scopes:Int),.int .i64 s.level,.int .i64 s.born,.int .i64 s.deadline,.int .i64 s.depth] from rfl] at A |-
 clear a0 hn ho;go_enter func165,ntmps165;go_wp2_with fail;refine (H.1 _).mono ?_;rintro ev w1 ⟨o,rfl,ho,a1⟩;have B:=Hd (A.1.trans (a1.mono (by simp)))
 obtain ⟨oa,oc,rfl,_⟩:=ho.slice;clear ho a1 H
 cases m
 .
  rw [show jm (if false=true then 0 else 1)=.iface 91 (1:Int) from rfl]
  go_wp2;go_ret;exact ⟨rfl,B.1⟩
 .
  rw [show jm (if true=true then 0 else 1)=.nilIface from rfl]
  go_wp2;go_ret;exact ⟨rfl,B.1⟩
theorem jba {s:SesM}(h:jG s=true):0<=s.depth/\s.depth<=6:=by
 unfold jG at h;simp only [qq] at h;obtain ⟨h1,h2,h3,h4,h5,h6,h7⟩:=h;have hc:jx s=true->0<=s.depth/\s.depth<=6:=fun hc=>by
  unfold jx at hc;simp only [qq] at hc;have:=jV hc.2.2.2;omega
 split at h7
 .
  unfold jE at h7;simp only [qq,qK] at h7;omega
 split at h7
 . exact hc h7
 split at h7
 . rw [qq] at h7;exact hc h7.1
 . cases h7
theorem jcB (s p:SesM)(w:World)(hd:0<=p.depth/\p.depth<=6) :
  Calls prog 166 #[.agg s.cells,.agg p.cells] w fun ev w'=>ev=.returned (.bool (yz s p))/\Below w.heap.size w w':=by
 have a2:∀ o o2,Below w.heap.size w ((w.alloc o).alloc o2):=fun o o2=>jl w o o2
 have H:=Hd a2;have A:=Hd (show ∀ b,yz s p=b->b=yz s p from fun _ h=>h.symm)
 obtain ⟨d0,d6⟩:=hd;have hz:=(show IntKind.i64.wrap (p.depth+1)=p.depth+1 by simp [IntKind.wrap,IntKind.bits,IntKind.signed];omega)
 unfold SesM.cells;clear a2;go_enter func166,ntmps166
 cases h1:(s.depth==p.depth+1)
 .
  have a5:(s.depth != p.depth+1)=true:=by rw [bne,h1];rfl
  go_wp2;go_ret;exact ⟨jg (congrArg Value.bool (A.1 _ (by unfold yz;rw [h1];rfl))),H.1 _ _⟩
 have a5:(s.depth != p.depth+1)=false:=by rw [bne,h1];rfl
 cases h2:(s.user==p.user)
 .
  have a1:((SB s.user).toList==(SB p.user).toList)=false:=by rw [jh,jh];exact h2
  have a3:((SB s.user).toList != (SB p.user).toList)=true:=by rw [bne,a1];rfl
  go_wp2;go_ret;exact ⟨jg (congrArg Value.bool (A.1 _ (by unfold yz;rw [h1,h2];rfl))),H.1 _ _⟩
 have a1:((SB s.user).toList==(SB p.user).toList)=true:=by rw [jh,jh];exact h2
 have a3:((SB s.user).toList != (SB p.user).toList)=false:=by rw [bne,a1];rfl
 by_cases h3:s.deadline<=p.deadline
 rotate_left
 .
  have a6:p.deadline<s.deadline:=by omega
  have B:=Hd h3;clear h3;go_wp2;go_ret;exact ⟨jg (congrArg Value.bool (A.1 _ (by unfold yz;rw [h1,h2,qv (show ¬ s.deadline<=p.deadline from by have:=B.1;omega)];rfl))),H.1 _ _⟩
 have a6:¬ p.deadline<s.deadline:=by omega
 have B:=Hd h3;clear h3
 cases h4:vh s.scopes p.scopes
 .
  have a0:=h4;unfold vh at a0;have a4:(bits .andNot .u64 (s.scopes:Int) (p.scopes:Int) != 0)=true:=by rw [bne,a0];rfl
  go_wp2;go_ret;exact ⟨jg (congrArg Value.bool (A.1 _ (by unfold yz;rw [h1,h2,qz (show s.deadline<=p.deadline from by have:=B.1;omega),h4];rfl))),H.1 _ _⟩
 have a0:=h4;unfold vh at a0;have a4:(bits .andNot .u64 (s.scopes:Int) (p.scopes:Int) != 0)=false:=by rw [bne,a0];rfl
 go_wp2;go_ret;exact ⟨jg (congrArg Value.bool (A.1 _ (by unfold yz;rw [h1,h2,qz (show s.deadline<=p.deadline from by have:=B.1;omega),h4];rfl))),H.1 _ _⟩
theorem zh (n:Int)(w:World):Calls prog 134 #[n] w fun ev w'=>ev=.returned (.iface 99 (.agg #[(24:Int),n]))/\w'=w:=by
 go_enter func134,ntmps134
 go_wp2
 go_ret;exact ⟨rfl,rfl⟩
theorem jah (a b c d:Int)(w:World):(binOp .eql 41 (.agg #[a,b]) (.agg #[c,d])).run prog w=.ok (.bool ((a==c)&&(b==d))) w:=by
 go_simp
 refine jz (Value.bool) xl rfl ?_;exact jbT (Value.bool) xl rfl rfl
theorem jjx (c b:Int)(v:Value)(s:SesM)(a:Option Addr)(n cap:Nat)(l:List SesM)(w:World)(hs:SesOk s)(hn:n=l.length)(hr:RdS w (.slice a n cap) l)(hp:∀ p∈l,jG p=true) :
  Calls prog 135 #[.agg #[c,b,v],.agg s.cells,.slice a n cap] w fun ev w'=>ev=.returned (.bool (zM c b s l))/\Below w.heap.size w w':=by
 obtain ⟨M,hM⟩:=Nm (zM c b s l);rw [<- hM];unfold zM at hM;have B:=Hd hM;have W:=Hd (fun w=>jhy s w hs)
 have HR:=Hd hr;have HP:=Hd hp;have Q:=Hd (Box.new w #[c,b,v] 30);have N:=Hd (Box.new (w.alloc (.cells #[c,b,v] 30)) s.cells 45);have HB:=Hd (jl w (.cells #[c,b,v] 30) (.cells s.cells 45));have c2:n<=9223372036854775807:=by obtain ⟨_,_,e,h5,h6,_⟩:=hr;omega
 have U:=Hd hn;have H2:=Hd (show s.cells=#[.int .i64 s.slot,.int .i64 s.birth,.int .i64 s.upS,.int .i64 s.upB,.int .i64 s.kind,.string (SB s.user),.string (SB s.label),.int .u64 (s.scopes:Int),.int .i64 s.level,.int .i64 s.born,.int .i64 s.deadline,.int .i64 s.depth] from rfl)
 rw [H2.1] at N HB W |-;clear hs hr hp hM hn;go_enter func135,ntmps135;go_wp2_with fail;refine (W.1 _).mono ?_;rintro ev w1 ⟨rfl,b5⟩;have b6:=(Q.1.below (ja _ (.cells #[s.slot,s.birth,s.upS,s.upB,s.kind,.string (SB s.user),.string (SB s.label),.int .u64 (s.scopes:Int),s.level,s.born,s.deadline,s.depth] 45))).below b5;have a1:=N.1.below b5;rw [qj] at a1;have O:=Hd (HB.1.trans (b5.mono HB.1.size));have Q:=Hd b6;have N:=Hd a1;clear b5 HB W;have c0:=b6.cell 0 _ rfl;have c1:=b6.cell 1 _ rfl;have x0:=a1.cell 0 _ rfl;have x1:=a1.cell 1 _ rfl;have x2:=a1.cell 2 _ rfl;have x3:=a1.cell 3 _ rfl;have x8:=a1.cell 9 _ rfl;have x9:=a1.cell 10 _ rfl;clear b6 a1
 cases hm:jG s
 .
  have C:=Hd (show false=M by rw [B.1,hm];rfl)
  clear hm;go_wp2;go_ret;exact ⟨jg (congrArg Value.bool C.1),O.1⟩
 rw [hm,wv] at B;clear hm;go_wp2_with fail;have F:=Hd (fun n=>show Box (w1.drewN n) w.heap.size _ _ from Q.1)
 have A:=Hd (fun n=>show Box (w1.drewN n) (w.heap.size+1) _ _ from N.1)
 have H:=Hd (fun n=>O.1.trans ((jD w1 n).mono O.1.size))
 by_cases hl0:n=0
 .
  have d0:decide ((0:Int)<(n:Int))=false:=by rw [qI];omega
  have d0n:decide (0<n)=false:=by rw [qI];omega
  rw [show l.isEmpty=true by rw [pU];exact qw (by have:=U.1;omega)] at B
  rw [show (!(!true&&decide (s.birth<=jcG l)))=true from rfl,wv] at B
  clear hl0
  go_quiet (fail)
  have F:=Hd (F.1 nq);have A:=Hd (A.1 nq);have H:=Hd (H.1 nq);clear Q N c0 c1 x0 x1 x2 x3 x8 x9;generalize hw2:World.drewN w1 _=w2 at F A H |-;clear hw2;have c0:=F.1.cell 0 _ rfl;have c1:=F.1.cell 1 _ rfl;have x0:=A.1.cell 0 _ rfl;have x1:=A.1.cell 1 _ rfl;have x2:=A.1.cell 2 _ rfl;have x3:=A.1.cell 3 _ rfl;have x8:=A.1.cell 9 _ rfl;have x9:=A.1.cell 10 _ rfl;by_cases g2:b<s.birth
  .
   have C:=Hd (show false=M by rw [B.1,qv (show ¬ s.birth<=b by omega)];rfl)
   go_wp2;go_ret;exact ⟨jg (congrArg Value.bool C.1),H.1⟩
  rw [qz (show s.birth<=b by omega),wv] at B
  by_cases g3:c<s.born
  .
   have C:=Hd (show false=M by rw [B.1,qv (show ¬ s.born<=c by omega)];rfl)
   go_wp2;go_ret;exact ⟨jg (congrArg Value.bool C.1),H.1⟩
  rw [qz (show s.born<=c by omega),wv] at B
  by_cases g4:s.deadline<=c
  .
   have C:=Hd (show false=M by rw [B.1,qv (show ¬ c<s.deadline by omega)];rfl)
   go_wp2;go_ret;exact ⟨jg (congrArg Value.bool C.1),H.1⟩
  rw [qz (show c<s.deadline by omega),wv] at B
  have e8:∀ w,(binOp .eql 41 (.agg #[s.upS,s.upB]) (.agg #[(0:Int),(0:Int)])).run prog w=.ok (.bool (jcl s)) w:=fun w=>jah _ _ _ _ w
  obtain ⟨h0,a7⟩:=Nm (jcl s);rw [<- a7] at e8 B;clear a7;go_wp2_with fail;clear c0 c1 x0 x1 x2 x3 x8 x9 g2 g3 g4 e8;obtain ⟨R,hR⟩:=Nm (xO s l h0);rw [<- hR] at B;have X:=Hd hR;clear hR
  go_loopg [8,51] n (fun gk hv iv wr=>∃ (k:Nat) (h:Bool),gk+k=n/\iv=.int .i64 (k:Int)/\hv=.bool h/\xO s (l.drop k) h=R/\Below w2.heap.size w2 wr)
  case atStart=>exact ⟨0,h0,rfl,rfl,rfl,X.1.symm,qG _ _⟩
  case round =>
   obtain ⟨k,h,a8,rfl,rfl,hH,hb⟩:=hrel;have E:=Hd hb;have V:=Hd hH;have G:=Hd a8;have S:=Hd (A.1.below hb);have k0:(0:Int)<=(k:Int):=by omega
   clear hb hH a8;by_cases hk:k<n;rotate_left
   .
    have k1:¬ (k:Int)<(n:Int):=by omega
    have C:=Hd (show h=M by
     have e:=V.1;rw [qZ (by have:=U.1;omega)] at e
     unfold xO at e;rw [B.1,<- e];cases h <;> rfl)
    have I:=Hd (H.1.trans (E.1.mono H.1.size));clear hk;go_wp2;go_ret;exact ⟨jg (congrArg Value.bool C.1),I.1⟩
   have k1:(k:Int)<(n:Int):=by omega
   have T:=Hd ((HR.1.below H.1).below E.1);have a2:k<l.length:=by have:=U.1;omega
   obtain ⟨p,hp⟩:=Nm (l[k]);obtain ⟨rb,ro,a5,a0⟩:=T.1.row k a2;subst a5;rw [<- hp] at a0;have a9:=jba (HP.1 p (by rw [hp];exact qy a2))
   have D:=Hd (show xO s (p::l.drop (k+1)) h=R by rw [<- V.1,qL a2,hp])
   have P:=Hd hk;have Y:=Hd (fun w=>jcB s p w a9)
   have L:=Hd a0;clear hk a2 hp a0 a9 V;unfold xO at D
   go_wp2_with (with_reducible refine Lk L.1 underlying45 ?_)
   intro cv b0
   go_wp2_with (with_reducible refine Sz p.cells.toList b0 (SesM.oneS _) ?_)
   intro w3 b1;obtain ⟨a3,a6⟩:=uQ b1;have Z:=Hd a3;have J:=Hd (S.1.below a6);have K:=Hd (E.1.trans (a6.mono E.1.size));have p0:w3.cell? ⟨wr.heap.size,0,none⟩=some (.int .i64 p.slot):=a3.cell 0 _ rfl;have p1:w3.cell? ⟨wr.heap.size,1,none⟩=some (.int .i64 p.birth):=a3.cell 1 _ rfl;have x0:=J.1.cell 0 _ rfl;have x2:=J.1.cell 2 _ rfl;have x3:=J.1.cell 3 _ rfl;clear b0 b1 a3 a6 E S L T
   cases q1:(p.slot==s.slot)
   rotate_left
   .
    rw [qf (by simpa using q1)] at D
    have C:=Hd (show false=M by rw [B.1,<- D.1];rfl)
    have I:=Hd (H.1.trans (K.1.mono H.1.size));go_wp2;go_ret;exact ⟨jg (congrArg Value.bool C.1),I.1⟩
   rw [qh (by simpa using q1)] at D
   have e8:∀ w,(binOp .eql 41 (.agg #[s.upS,s.upB]) (.agg #[p.slot,p.birth])).run prog w=.ok (.bool ((s.upS==p.slot)&&(s.upB==p.birth))) w:=fun w=>jah _ _ _ _ w
   by_cases q2:s.upS=p.slot/\s.upB=p.birth
   rotate_left
   .
    rw [qh q2] at D;rw [show ((s.upS==p.slot)&&(s.upB==p.birth))=false by rw [Bool.eq_false_iff];simpa using q2] at e8
    clear q2;go_wp2
    go_roundg (n-(k+1))
    case measure=>have:=G.1;have:=P.1;omega
    case rel=>exact ⟨k+1,h,by have:=G.1;have:=P.1;omega,by go_num,rfl,D.1,K.1⟩
   rw [qf q2] at D;rw [show ((s.upS==p.slot)&&(s.upB==p.birth))=true by simpa using q2] at e8
   clear q2;have H0:=Hd (show Box w3 (w.heap.size+1) s.cells 45 from J.1)
   go_wp2_with (with_reducible refine Lk (Box.rangeS H0.1) underlying45 ?_)
   intro cs b2;have ecs:cs=s.cells:=by rw [b2.out]
   subst ecs
   go_wp2_with (with_reducible refine Lk (Box.rangeS Z.1) underlying45 ?_)
   intro cp b3;have ecp:cp=p.cells:=by rw [b3.out]
   subst ecp;clear b2 b3 e8 p0 p1 x0 x2 x3;go_wp2_with fail;refine (Y.1 _).mono ?_;rintro ev w4 ⟨rfl,b4⟩;have H1:=Hd (K.1.trans (b4.mono K.1.size));generalize yz s p=hn at D |-;clear b4;go_wp2
   go_roundg (n-(k+1))
   case measure=>have:=G.1;have:=P.1;omega
   case rel=>exact ⟨k+1,hn,by have:=G.1;have:=P.1;omega,by go_num,rfl,D.1,H1.1⟩
 obtain ⟨m,hm⟩:∃ m,n=m+1:=⟨n-1,by omega⟩
 have a4:m<l.length:=by have:=U.1;omega
 have b9:IntKind.i64.wrap ((n:Int)-1)=(m:Int):=by
  rw [show (n:Int)-1=(m:Int) by omega]
  simp [IntKind.wrap,IntKind.bits,IntKind.signed];omega
 obtain ⟨rb,ro,a5,a0⟩:=(HR.1.below O.1).row m a4;subst a5;have b8:=a0 1 _ rfl;have b7:jcG l=(l[m]'a4).birth:=by
  have e:l=l.take m ++ [l[m]'a4]:=by
   rw [<- qk a4,ql (by have:=U.1;omega)]
  conv=>lhs;rw [e]
  exact uk _ _
 rw [show l.isEmpty=false by rw [<- Bool.not_eq_true,pU];intro h;rw [h] at a4;simp at a4,b7] at B
 generalize hbl:(l[m]'a4).birth=bl at b8 B;have d0:decide ((0:Int)<(n:Int))=true:=by rw [qY];omega
 have d0n:decide (0<n)=true:=by rw [qY];omega
 have m0:(0:Int)<=(m:Int):=by omega
 have m1:(m:Int)<(n:Int):=by omega
 clear b7 a0 hbl hm hl0 a4;by_cases hlt:s.birth<=bl
 .
  have d1:decide (s.birth<=bl)=true:=qz hlt;have C:=Hd (show false=M by rw [B.1,d1];rfl)
  have H3:=Hd (fun n=>O.1.trans ((jD w1 n).mono O.1.size))
  clear hlt
  go_quiet (fail)
  have I:=Hd (H.1 nq);go_wp2;go_ret;exact ⟨jg (congrArg Value.bool C.1),I.1⟩
 have d1:decide (s.birth<=bl)=false:=qv hlt;rw [d1,show (!(!false&&false))=true from rfl,wv] at B
 clear hlt
 go_quiet (fail)
 have F:=Hd (F.1 nq);have A:=Hd (A.1 nq);have H:=Hd (H.1 nq);clear d0 d0n d1 b8 b9 m0 m1;clear Q N c0 c1 x0 x1 x2 x3 x8 x9;generalize hw2:World.drewN w1 _=w2 at F A H |-;clear hw2;have c0:=F.1.cell 0 _ rfl;have c1:=F.1.cell 1 _ rfl;have x0:=A.1.cell 0 _ rfl;have x1:=A.1.cell 1 _ rfl;have x2:=A.1.cell 2 _ rfl;have x3:=A.1.cell 3 _ rfl;have x8:=A.1.cell 9 _ rfl;have x9:=A.1.cell 10 _ rfl;by_cases g2:b<s.birth
 .
  have C:=Hd (show false=M by rw [B.1,qv (show ¬ s.birth<=b by omega)];rfl)
  go_wp2;go_ret;exact ⟨jg (congrArg Value.bool C.1),H.1⟩
 rw [qz (show s.birth<=b by omega),wv] at B
 by_cases g3:c<s.born
 .
  have C:=Hd (show false=M by rw [B.1,qv (show ¬ s.born<=c by omega)];rfl)
  go_wp2;go_ret;exact ⟨jg (congrArg Value.bool C.1),H.1⟩
 rw [qz (show s.born<=c by omega),wv] at B
 by_cases g4:s.deadline<=c
 .
  have C:=Hd (show false=M by rw [B.1,qv (show ¬ c<s.deadline by omega)];rfl)
  go_wp2;go_ret;exact ⟨jg (congrArg Value.bool C.1),H.1⟩
 rw [qz (show c<s.deadline by omega),wv] at B
 have e8:∀ w,(binOp .eql 41 (.agg #[s.upS,s.upB]) (.agg #[(0:Int),(0:Int)])).run prog w=.ok (.bool (jcl s)) w:=fun w=>jah _ _ _ _ w
 obtain ⟨h0,a7⟩:=Nm (jcl s);rw [<- a7] at e8 B;clear a7;go_wp2_with fail;clear c0 c1 x0 x1 x2 x3 x8 x9 g2 g3 g4 e8;obtain ⟨R,hR⟩:=Nm (xO s l h0);rw [<- hR] at B;have X:=Hd hR;clear hR
 go_loopg [8,51] n (fun gk hv iv wr=>∃ (k:Nat) (h:Bool),gk+k=n/\iv=.int .i64 (k:Int)/\hv=.bool h/\xO s (l.drop k) h=R/\Below w2.heap.size w2 wr)
 case atStart=>exact ⟨0,h0,rfl,rfl,rfl,X.1.symm,qG _ _⟩
 case round =>
  obtain ⟨k,h,a8,rfl,rfl,hH,hb⟩:=hrel;have E:=Hd hb;have V:=Hd hH;have G:=Hd a8;have S:=Hd (A.1.below hb);have k0:(0:Int)<=(k:Int):=by omega
  clear hb hH a8;by_cases hk:k<n;rotate_left
  .
   have k1:¬ (k:Int)<(n:Int):=by omega
   have C:=Hd (show h=M by
    have e:=V.1;rw [qZ (by have:=U.1;omega)] at e
    unfold xO at e;rw [B.1,<- e];cases h <;> rfl)
   have I:=Hd (H.1.trans (E.1.mono H.1.size));clear hk;go_wp2;go_ret;exact ⟨jg (congrArg Value.bool C.1),I.1⟩
  have k1:(k:Int)<(n:Int):=by omega
  have T:=Hd ((HR.1.below H.1).below E.1);have a2:k<l.length:=by have:=U.1;omega
  obtain ⟨p,hp⟩:=Nm (l[k]);obtain ⟨rb',ro',a5,a0⟩:=T.1.row k a2;injection a5 with a5
  injection a5 with e5 e6
  subst e5;subst e6;rw [<- hp] at a0;have a9:=jba (HP.1 p (by rw [hp];exact qy a2))
  have D:=Hd (show xO s (p::l.drop (k+1)) h=R by rw [<- V.1,qL a2,hp])
  have P:=Hd hk;have Y:=Hd (fun w=>jcB s p w a9)
  have L:=Hd a0;clear hk a2 hp a0 a9 V;unfold xO at D
  go_wp2_with (with_reducible refine Lk L.1 underlying45 ?_)
  intro cv b0
  go_wp2_with (with_reducible refine Sz p.cells.toList b0 (SesM.oneS _) ?_)
  intro w3 b1;obtain ⟨a3,a6⟩:=uQ b1;have Z:=Hd a3;have J:=Hd (S.1.below a6);have K:=Hd (E.1.trans (a6.mono E.1.size));have p0:w3.cell? ⟨wr.heap.size,0,none⟩=some (.int .i64 p.slot):=a3.cell 0 _ rfl;have p1:w3.cell? ⟨wr.heap.size,1,none⟩=some (.int .i64 p.birth):=a3.cell 1 _ rfl;have x0:=J.1.cell 0 _ rfl;have x2:=J.1.cell 2 _ rfl;have x3:=J.1.cell 3 _ rfl;clear b0 b1 a3 a6 E S L T
  cases q1:(p.slot==s.slot)
  rotate_left
  .
   rw [qf (by simpa using q1)] at D
   have C:=Hd (show false=M by rw [B.1,<- D.1];rfl)
   have I:=Hd (H.1.trans (K.1.mono H.1.size));go_wp2;go_ret;exact ⟨jg (congrArg Value.bool C.1),I.1⟩
  rw [qh (by simpa using q1)] at D
  have e8:∀ w,(binOp .eql 41 (.agg #[s.upS,s.upB]) (.agg #[p.slot,p.birth])).run prog w=.ok (.bool ((s.upS==p.slot)&&(s.upB==p.birth))) w:=fun w=>jah _ _ _ _ w
  by_cases q2:s.upS=p.slot/\s.upB=p.birth
  rotate_left
  .
   rw [qh q2] at D;rw [show ((s.upS==p.slot)&&(s.upB==p.birth))=false by rw [Bool.eq_false_iff];simpa using q2] at e8
   clear q2;go_wp2
   go_roundg (n-(k+1))
   case measure=>have:=G.1;have:=P.1;omega
   case rel=>exact ⟨k+1,h,by have:=G.1;have:=P.1;omega,by go_num,rfl,D.1,K.1⟩
  rw [qf q2] at D;rw [show ((s.upS==p.slot)&&(s.upB==p.birth))=true by simpa using q2] at e8
  clear q2;have H0:=Hd (show Box w3 (w.heap.size+1) s.cells 45 from J.1)
  go_wp2_with (with_reducible refine Lk (Box.rangeS H0.1) underlying45 ?_)
  intro cs b2;have ecs:cs=s.cells:=by rw [b2.out]
  subst ecs
  go_wp2_with (with_reducible refine Lk (Box.rangeS Z.1) underlying45 ?_)
  intro cp b3;have ecp:cp=p.cells:=by rw [b3.out]
  subst ecp;clear b2 b3 e8 p0 p1 x0 x2 x3;go_wp2_with fail;refine (Y.1 _).mono ?_;rintro ev w4 ⟨rfl,b4⟩;have H1:=Hd (K.1.trans (b4.mono K.1.size));generalize yz s p=hn at D |-;clear b4;go_wp2
  go_roundg (n-(k+1))
  case measure=>have:=G.1;have:=P.1;omega
  case rel=>exact ⟨k+1,hn,by have:=G.1;have:=P.1;omega,by go_num,rfl,D.1,H1.1⟩
def jkQ:Option Int->Value
 | none=>.nilIface
 | some n=>.iface 99 (.agg #[(24:Int),n])
theorem jky (a:Option Addr)(n cap k:Nat)(hk:k<=cap)(w:World):(Instr.slice 28 (.slice a n cap) none (some (.int .i64 (k:Int))) none).run prog w=.ok (.slice a k cap) w :=
 jhQ underlying28 ⟨12,by kernel_rfl⟩ a n cap k hk w
theorem jeW {P:Program}{ops:Array Oper}{rest:List Oper}{op:Oper}{a:Act}{w:World}{Q:Act->Prop}(hw:Region.wanted op (yielded ops a.tmps)=true)(t:TypeId)(x y:Operand)(ho:op.op=.slice t x none (some y) none){e:TypeId}(ht:P.underlying t=some (.slice e))(v u r:Value)(hx:a.eval x=v)(hy:a.eval y=u)(hr:(Instr.slice t v none (some u) none).run P w=.ok r w)(h:wpStill P ops w Q rest (a.put op.dst r)):wpStill P ops w Q (op::rest) a:=by
 unfold wpStill;rw [qf hw];unfold Oper.still execOp;simp only [ho,hx,hy,pN,Option.map_none,wu,wB,qR,Instr.sliceAt,wk ht,hr];exact ⟨rfl,h⟩
theorem jcL (st:StM)(v:Value)(w:World)(hr:RdS w v st.l)(ho:∀ s∈st.l,SesOk s) :
  Calls prog 99 #[.agg #[st.clock,st.births,v]] w fun ev w'=>ev=.returned (jkQ (yr st))/\Below w.heap.size w w':=by
 obtain ⟨a,cap,rfl,a4,a5⟩:=hr.slice;obtain ⟨R,hR⟩:=Nm (yr st);rw [<- hR];have X:=Hd hr;have Y:=Hd ho;have E:=Hd (Box.new w #[st.clock,st.births,.slice a st.l.length cap] 30);have A:=Hd (ja w (.cells #[st.clock,st.births,.slice a st.l.length cap] 30));have a6:zA st=decide (0<=st.clock/\st.clock<=1099511627776/\0<=st.births/\st.births<=1048576/\st.l.length<=32):=by
  unfold zA jT;rw [Bool.eq_iff_iff];simp [and_assoc]
 unfold yr at hR;rw [a6] at hR;have H:=Hd hR;have G:=Hd (fun s a n cap l w hs hn hr hp=>jjx st.clock st.births (.slice a st.l.length cap) s a n cap l w hs hn hr hp)
 clear a6 hR hr ho;obtain ⟨c,b,l⟩:=st;simp only at X Y E A H G a4 a5 |-;obtain ⟨n,hn⟩:=Nm (l.length);rw [<- hn] at E A H G a4 |-;have Z:=Hd hn;have U:=Hd a4;have b4:n<=9223372036854775807:=by omega
 clear hn a4 a5;go_enter func99,ntmps99;by_cases g1:c<0
 .
  have B:=Hd (show R=some (-1) by rw [H.1,qv (by omega)];rfl)
  go_wp2_with fail;refine (zh _ _).mono ?_;rintro ev w1 ⟨rfl,rfl⟩;go_wp2;go_ret;rw [B.1];exact ⟨rfl,A.1⟩
 by_cases g2:1099511627776<c
 .
  have B:=Hd (show R=some (-1) by rw [H.1,qv (by omega)];rfl)
  go_wp2_with fail;refine (zh _ _).mono ?_;rintro ev w1 ⟨rfl,rfl⟩;go_wp2;go_ret;rw [B.1];exact ⟨rfl,A.1⟩
 by_cases g3:b<0
 .
  have B:=Hd (show R=some (-1) by rw [H.1,qv (by omega)];rfl)
  go_wp2_with fail;refine (zh _ _).mono ?_;rintro ev w1 ⟨rfl,rfl⟩;go_wp2;go_ret;rw [B.1];exact ⟨rfl,A.1⟩
 by_cases g4:1048576<b
 .
  have B:=Hd (show R=some (-1) by rw [H.1,qv (by omega)];rfl)
  go_wp2_with fail;refine (zh _ _).mono ?_;rintro ev w1 ⟨rfl,rfl⟩;go_wp2;go_ret;rw [B.1];exact ⟨rfl,A.1⟩
 by_cases g5:(32:Int)<(n:Int)
 .
  have B:=Hd (show R=some (-1) by rw [H.1,qv (by omega)];rfl)
  go_wp2_with fail;refine (zh _ _).mono ?_;rintro ev w1 ⟨rfl,rfl⟩;go_wp2;go_ret;rw [B.1];exact ⟨rfl,A.1⟩
 have B:=Hd (show xJ c b [] 0 l=R by rw [H.1,qz (by omega),qf rfl])
 clear H;go_wp2_with fail;clear g1 g2 g3 g4 g5;generalize hw1:World.alloc w _=w1 at E A |-;clear hw1
 go_loopg [33] n (fun gk iv wr=>∃ (k:Nat),gk+k=n/\iv=.int .i64 (k:Int)/\xJ c b (l.take k) (k:Int) (l.drop k)=R/\(∀ p∈l.take k,jG p=true)/\Below w1.heap.size w1 wr)
 case atStart=>exact ⟨0,rfl,rfl,B.1,by simp,qG _ _⟩
 case round =>
  obtain ⟨k,a7,rfl,hC,hP,hb⟩:=hrel;have D:=Hd hb;have V:=Hd hC;have HP:=Hd hP;have S:=Hd a7;have I:=Hd (E.1.below hb);have k0:(0:Int)<=(k:Int):=by omega
  clear hb hC hP a7;by_cases hk:k<n;rotate_left
  .
   have k1:¬ (k:Int)<(n:Int):=by omega
   have H0:=Hd (show R=none by
    have e:=V.1;rw [qZ (by have:=Z.1;omega)] at e
    exact e.symm)
   have J:=Hd (A.1.trans (D.1.mono A.1.size));clear hk;go_wp2;go_ret;rw [H0.1];exact ⟨rfl,J.1⟩
  have k1:(k:Int)<(n:Int):=by omega
  have a0:k<l.length:=by have:=Z.1;omega
  have K:=Hd ((X.1.below A.1).below D.1);obtain ⟨s,hs⟩:=Nm (l[k]);obtain ⟨rb,ro,b3,a3⟩:=K.1.row k a0;subst b3;rw [<- hs] at a3;have T:=Hd (Y.1 s (by rw [hs];exact qy a0))
  have Q:=Hd (show (if zM c b s (l.take k)=true then xJ c b (l.take (k+1)) ((k:Int)+1) (l.drop (k+1)) else some (k:Int))=R by
   rw [<- V.1,qL a0,<- hs]
   conv=>rhs;unfold xJ
   rw [qk a0,<- hs])
  have HT:=Hd (show zM c b s (l.take k)=true->∀ p∈l.take (k+1),jG p=true from fun hm p hp=>by
   rw [qk a0,<- hs] at hp
   rcases qW.1 hp with h | h
   . exact HP.1 p h
   . rw [qC.1 h];exact (jbw.1 hm).may)
  have H1:=Hd (show k=(l.take k).length by rw [qr];omega)
  have L:=Hd a3;have W:=Hd hk;have M:=Hd (show ∀ w',Below wr.heap.size wr w'->RdS w' (.slice (some ⟨rb,ro,none⟩) k cap) (l.take k) from fun w' hb=>by
   exact (K.1.below hb).cut k (by omega))
  clear hk a0 hs a3 V
  go_wp2_with (with_reducible refine Lk L.1 underlying45 ?_)
  intro cv a8
  go_wp2_with (with_reducible refine Sz s.cells.toList a8 (SesM.oneS _) ?_)
  intro w3 a9;obtain ⟨b0,a1⟩:=uQ a9;have N:=Hd b0.drew;have O:=Hd (I.1.below a1).drew;have F:=Hd (show Below w1.heap.size w1 w3.drew from (D.1.trans (a1.mono D.1.size)).drew)
  have C:=Hd (G.1 s (some ⟨rb,ro,none⟩) k cap (l.take k) w3.drew T.1 H1.1 (M.1 _ a1.drew) HP.1);have c2:w3.cell? ⟨w.heap.size,2,none⟩=some (.slice (some ⟨rb,ro,none⟩) n cap):=(I.1.below a1).cell 2 _ rfl;have P:=Hd (show w3.drew.rangeAt w.heap.size 0 [c,b,.slice (some ⟨rb,ro,none⟩) n cap] from fun j v hv=>by rw [qA];exact O.1.cell j v (by simpa using hv))
  have H2:=Hd (show k<=cap by have:=U.1;have:=W.1;omega)
  clear a8 a9 b0 a1 D I L K T M;go_wp2
  go_still_tail 6,(by kernel_rfl)
  refine xk rfl 30 (.tmp 1) rfl w.heap.size 0 rfl _ _ P.1 underlying30 rfl (by kernel_rfl) ?_
  intro cs b1;have ecs:cs=#[.int .i64 c,.int .i64 b,.slice (some ⟨rb,ro,none⟩) n cap]:=by rw [b1.out]
  subst ecs;clear b1
  repeat still_step
  refine xk rfl 45 (.tmp 4) rfl wr.heap.size 0 rfl _ _ (Box.rangeS N.1) underlying45 rfl (by kernel_rfl) ?_
  intro cp b2;have ecp:cp=s.cells:=by rw [b2.out]
  subst ecp;clear b2
  repeat still_step
  refine jeW rfl 28 (.tmp 41) (.tmp 42) rfl underlying28 _ _ _ rfl rfl (jky _ n cap k H2.1 _) ?_
  repeat still_step
  refine wpStill_nil ?_
  change wpList _ _ _ _ _ w3.drew
  cases hm:zM c b s (l.take k)
  .
   rw [hm,qh (by decide)] at Q
   rw [hm] at C;clear hm
   go_wp2_with (go_at_call 135;refine C.1.mono ?_;rintro ev w4 ⟨rfl,a2⟩)
   have J:=Hd (A.1.trans ((F.1.trans (a2.mono F.1.size)).mono A.1.size));clear a2 C P O N c2;go_wp2_with fail;refine (zh _ _).mono ?_;rintro ev w5 ⟨rfl,rfl⟩;go_wp2;go_ret;rw [<- Q.1];exact ⟨rfl,J.1⟩
  .
   rw [hm,qf rfl] at Q;have H3:=Hd (HT.1 hm);rw [hm] at C;clear hm
   go_wp2_with (go_at_call 135;refine C.1.mono ?_;rintro ev w4 ⟨rfl,a2⟩)
   have H4:=Hd (F.1.trans (a2.mono F.1.size));clear a2 C P O N c2;go_wp2
   go_roundg (n-(k+1))
   case measure=>have:=S.1;have:=W.1;omega
   case rel=>exact ⟨k+1,by have:=S.1;have:=W.1;omega,by go_num,Q.1,H3.1,H4.1⟩
end Go.Proofs.YtgcnolapjppbpaaGreatDoor
