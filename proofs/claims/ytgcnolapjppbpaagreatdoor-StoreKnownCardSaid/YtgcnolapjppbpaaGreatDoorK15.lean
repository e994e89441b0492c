/- Texts of one proof. -/
import Derived.Test.YtgcnolapjppbpaaGreatDoorK08
import Derived.Test.YtgcnolapjppbpaaGreatDoorK09
namespace Go.Proofs.YtgcnolapjppbpaaGreatDoor
open Go.RowKit _root_.Go.Proofs.Tryz
set_option maxRecDepth 100000
set_option maxHeartbeats 25600000
variable {a:Act}{w:World}{op:Oper}{s:SesM}
theorem jms {P:Program}(ty:TypeId)(x:Operand)(ho:op.op=.load ty x)(b o:Nat)(hx:a.eval x=.pointer (some ⟨b,o,none⟩))(cs:List Value)(d:TypeDesc)(hc:w.rangeAt b o cs)(hu:P.underlying ty=some d)(hd:d.isRow=true)(hi:(P.info? ty).map (·.size)=some cs.length):(execOp a.eval op).run P w=.ok (.value (.agg cs.toArray)) w:=by
 unfold execOp;simp only [ho,hx,Instr.loadAt,Instr.sureAddr,wu,wB,qR,pA w b o ty cs d hc hu hd hi]
theorem jae {K:Act->World->Prop}{Q:Exit->Act->World->Prop}(x:Operand)(ho:op.op=.buildSlice 28 1 #[(0,x)])(s:SesM)(hx:a.eval x=.agg s.cells)(h:K (a.put op.dst (.slice (some ⟨w.heap.size,0,none⟩) 1 1)) (w.alloc (.cells s.cells 45))):op.wp prog a w K Q:=by
 have hr:=vL s w;unfold Oper.wp execOp;simp only [ho,wu,wV,wK,pF,hx,hr,qR,wB];exact h
theorem jcs {K:Act->World->Prop}{Q:Exit->Act->World->Prop}(s x:Operand)(ho:op.op=.call { callee:=.builtin .append,args:=#[s,x],argTypes:=#[28,28] })(base:Nat)(v:Value)(l:List SesM)(hs:a.eval s=v)(a1:OwnS w base v l)(ad:Addr)(c:Nat)(y:SesM)(hx:a.eval x=.slice (some ad) 1 c)(hy:∀ j u,y.cells.toList[j]?=some u->w.cell? (ad.add j)=some u)(a5:l.length+1<=1256584717458)(a0:base<=w.heap.size)(h:∀ v' w',OwnS w' base v' (l ++ [y])->w.grownBy w' v.ownBlock->xj w v v'->K (a.put op.dst v') w'):op.wp prog a w K Q:=by
 obtain ⟨i0,hi,a2,a3,a4⟩:=wI jbH;obtain ⟨v',w',hr,h2,h3,h4⟩:=xX (P:=prog) w base 28 op.type 45 i0 _ 12 112 underlying28 hi a2 a3 a4 rfl (by decide) v l.length (yS l) a1 ad 1 c y.cells.toList rfl hy y.oneS (by unfold maxLen;omega) (by omega) a0
 unfold Oper.wp execOp;simp only [ho,resolve,invoke,builtin,wu,wB,qR,wV,wK,pF,hs,hx,hr];refine h v' w' ?_ h3 h4;unfold OwnS;rw [uf,jfw,qd];exact h2
theorem jiz (l:List SesM):∀ u∈yS l,u.oneCell'=true:=by
 intro u hu;unfold yS at hu;obtain ⟨s,_,hs⟩:=List.mem_flatMap.1 hu;exact s.oneS u hs
theorem RdS.news {a:Addr}{n cap:Nat}{l:List SesM}(h:RdS w (.slice (some a) n cap) l):∀ j u,(yS l)[j]?=some u->w.cell? (a.add j)=some u:=by
 obtain ⟨a',cap',e,_,_,_,h4⟩:=h;injection e with e1 e2 e3
 intro j u hu;obtain ⟨hj,a0⟩:=List.getElem?_eq_some_iff.1 hu;obtain ⟨b,off,e4,h5⟩:=h4 j hj;rw [<- e1] at e4;injection e4 with e4
 subst e4;rw [wY,h5,List.getD,hu];rfl
theorem ug (v:Value)(l:List SesM)(w:World)(hv:RdS w v l)(hl:l.length<=1256584717457) :
  Calls prog 59 #[v] w fun e w'=>∃ o,e=.returned o/\OwnS w' w.heap.size o l/\Below w.heap.size w w':=by
 have a1:=hv;obtain ⟨a,cap,rfl,h1,h2,h3,h4⟩:=hv
 cases a with
 | none =>
  have h0:l = []:=qw (by have:=h3 rfl;omega)
  subst h0;have a7:cap=0:=h3 rfl;subst a7;clear h4 h3 a1;have a2:=fun w=>pQ (P:=prog) w 28 45 none 0 0 0 0 underlying28
  change ∀ w,Sem.run _ _ w=Result.ok (Value.bool true) w at a2
  go_enter func59,ntmps59;go_wp2;go_ret;exact ⟨_,rfl,OwnS.nil _ _,qG _ _⟩
 | some a =>
  have D:=Hd (a1.below (ja w (.cells #[] 45)));clear h4 h3 a1;have a2:=fun w=>pQ (P:=prog) w 28 45 (some a) l.length cap 0 0 underlying28
  change ∀ w,Sem.run _ _ w=Result.ok (Value.bool false) w at a2
  have B:=Hd (show OwnS (w.alloc (.cells #[] 45)) w.heap.size (.slice (some ⟨w.heap.size,0,none⟩) 0 0) [] from ⟨rfl,.inr ⟨w.heap.size,0,#[],rfl,qm _,ww w _,qm _,by unfold maxLen;omega,by simp,rfl⟩⟩)
  have A:=Hd hl;obtain ⟨i0,hi,a3,a4,a5⟩:=wI jbH;have H:=Hd (And.intro hi (And.intro a3 (And.intro a4 a5)));clear hi a3 a4 a5 hl;go_enter func59,ntmps59
  go_wp2_with (at_builtin;refine yb rfl _ _ 28 rfl w.heap.size 45 i0 _ 12 112 underlying28 H.1.1 H.1.2.1 H.1.2.2.1 H.1.2.2.2 rfl (by decide) _ 0 (yS []) rfl B.1 a l.length cap (yS l) rfl (zq l) (D.1.news) (jiz l) (by have:=A.1;unfold maxLen;omega) (by have:=A.1;omega) (by simp) ?_)
  intro v' w2 a0 a6 a8;have E:=Hd ((ja w (.cells #[] 45)).trans (je a6 (by simp) (fun q hq=>(B.1.lt q hq).1)))
  have C:=Hd (show OwnS w2 w.heap.size v' l by
   unfold OwnS;rw [jj5,wt] at a0;exact a0)
  clear a0 a6 a8;go_wp2;go_ret;exact ⟨_,rfl,C.1,E.1⟩
theorem jdR (s p:SesM)(w:World)(hd:0<=p.depth/\p.depth<=6) :
  Calls prog 186 #[.agg s.cells,.agg p.cells] w fun ev w'=>ev=.returned (.bool (yz s p))/\Below w.heap.size w w':=by
 have a2:∀ o o2,Below w.heap.size w ((w.alloc o).alloc o2):=fun o o2=>jl w o o2
 have A:=Hd a2;have B:=Hd (show ∀ b,yz s p=b->b=yz s p from fun _ h=>h.symm)
 obtain ⟨d0,d6⟩:=hd;have hz:=(show IntKind.i64.wrap (p.depth+1)=p.depth+1 by simp [IntKind.wrap,IntKind.bits,IntKind.signed];omega)
 unfold SesM.cells;clear a2;go_enter func186,ntmps186
 cases h1:(s.depth==p.depth+1)
 .
  have a5:(s.depth != p.depth+1)=true:=by rw [bne,h1];rfl
  go_wp2;go_ret;exact ⟨jg (congrArg Value.bool (B.1 _ (by unfold yz;rw [h1];rfl))),A.1 _ _⟩
 have a5:(s.depth != p.depth+1)=false:=by rw [bne,h1];rfl
 cases h2:(s.user==p.user)
 .
  have a1:((SB s.user).toList==(SB p.user).toList)=false:=by rw [jh,jh];exact h2
  have a3:((SB s.user).toList != (SB p.user).toList)=true:=by rw [bne,a1];rfl
  go_wp2;go_ret;exact ⟨jg (congrArg Value.bool (B.1 _ (by unfold yz;rw [h1,h2];rfl))),A.1 _ _⟩
 have a1:((SB s.user).toList==(SB p.user).toList)=true:=by rw [jh,jh];exact h2
 have a3:((SB s.user).toList != (SB p.user).toList)=false:=by rw [bne,a1];rfl
 by_cases h3:s.deadline<=p.deadline
 rotate_left
 .
  have a6:p.deadline<s.deadline:=by omega
  have C:=Hd h3;clear h3;go_wp2;go_ret;exact ⟨jg (congrArg Value.bool (B.1 _ (by unfold yz;rw [h1,h2,qv (show ¬ s.deadline<=p.deadline from by have:=C.1;omega)];rfl))),A.1 _ _⟩
 have a6:¬ p.deadline<s.deadline:=by omega
 have C:=Hd h3;clear h3
 cases h4:vh s.scopes p.scopes
 .
  have a0:=h4;unfold vh at a0;have a4:(bits .andNot .u64 (s.scopes:Int) (p.scopes:Int) != 0)=true:=by rw [bne,a0];rfl
  go_wp2;go_ret;exact ⟨jg (congrArg Value.bool (B.1 _ (by unfold yz;rw [h1,h2,qz (show s.deadline<=p.deadline from by have:=C.1;omega),h4];rfl))),A.1 _ _⟩
 have a0:=h4;unfold vh at a0;have a4:(bits .andNot .u64 (s.scopes:Int) (p.scopes:Int) != 0)=false:=by rw [bne,a0];rfl
 have H:=Hd (show yz s p=(decide (p.level<s.level)==(s.kind==2)) by unfold yz;rw [h1,h2,qz (show s.deadline<=p.deadline from by have:=C.1;omega),h4];rfl)
 cases h5:(s.kind==2)
 .
  rw [h5] at H;go_wp2;go_ret;refine ⟨jg (congrArg Value.bool ?_),A.1 _ _⟩;rw [H.1];by_cases h:p.level<s.level
  . rw [qz h,qv (by omega)];rfl
  . rw [qv h,qz (by omega)];rfl
 .
  rw [h5] at H;go_wp2;go_ret;refine ⟨jg (congrArg Value.bool ?_),A.1 _ _⟩;rw [H.1];by_cases h:p.level<s.level
  . rw [qz h];rfl
  . rw [qv h];rfl
def jcT (s:SesM):List SesM->Int->Int
 | [],_ => -1
 | p::ps,i=>if p.birth=s.upB/\p.slot=s.upS then i else jcT s ps (i+1)
theorem jda (a:Option Addr)(n cap k:Nat)(l:List SesM)(w:World)(hn:n=l.length)(hr:RdS w (.slice a n cap) l)(hk:k<l.length) :
  Calls prog 185 #[.slice a n cap,(k:Int)] w fun ev w'=>ev=.returned (jcT l[k] (l.take k) 0)/\∃ m,w'=w.drewN m:=by
 obtain ⟨R,hR⟩:=Nm (jcT l[k] (l.take k) 0);rw [<- hR];have C:=Hd hR;have E:=Hd hr;have G:=Hd hn;have a4:n<=9223372036854775807:=by obtain ⟨_,_,e,h5,h6,_⟩:=hr;omega
 obtain ⟨s,hs⟩:=Nm (l[k]);obtain ⟨rb,ro,a1,a0⟩:=hr.row k hk;subst a1;rw [<- hs] at a0 C;have s2:w.cell? ⟨rb,ro+k*12+2,none⟩=some (.int .i64 s.upS):=a0 2 _ rfl;have s3:w.cell? ⟨rb,ro+k*12+3,none⟩=some (.int .i64 s.upB):=a0 3 _ rfl;have s3':w.cell? ⟨rb,ro+k*12+2+1,none⟩=some (.int .i64 s.upB):=s3;have k0:(0:Int)<=(k:Int):=by omega
 have kn:(k:Int)<(n:Int):=by omega
 have F:=Hd hk;clear hs a0 hR hn hr hk;go_enter func185,ntmps185;go_wp2
 go_loopg [5] k (fun gk iv wr=>∃ j:Nat,gk+j=k/\iv=.int .i64 (j:Int)/\jcT s ((l.take k).drop j) (j:Int)=R/\∃ m,wr=w.drewN m)
 case atStart=>exact ⟨0,rfl,rfl,C.1.symm,0,rfl⟩
 case round =>
  obtain ⟨j,a2,rfl,hP,m,rfl⟩:=hrel;have j0:(0:Int)<=(j:Int):=by omega
  have A:=Hd a2;have D:=Hd hP;clear a2 hP;by_cases hj:j<k
  .
   have j1:(j:Int)<(k:Int):=by omega
   have j2:(j:Int)<(n:Int):=by omega
   have a3:j<l.length:=by have:=F.1;omega
   obtain ⟨p,hp⟩:=Nm (l[j]);obtain ⟨rb',ro',a1,a0⟩:=E.1.row j a3;injection a1 with a1
   injection a1 with e5 e6
   subst e5;subst e6;rw [<- hp] at a0;have r0:w.cell? ⟨rb,ro+j*12,none⟩=some (.int .i64 p.slot):=a0 0 _ rfl;have r1:w.cell? ⟨rb,ro+j*12+1,none⟩=some (.int .i64 p.birth):=a0 1 _ rfl;have H:=Hd (show (if p.birth=s.upB/\p.slot=s.upS then (j:Int) else jcT s ((l.take k).drop (j+1)) ((j:Int)+1))=R from by
    rw [<- D.1];have e:(l.take k).drop j=p::(l.take k).drop (j+1):=by
     rw [qL (by rw [qr];omega),p8,hp]
    rw [e];rfl)
   have B:=Hd hj;clear hj a3 hp a0 D
   cases t1:(p.birth==s.upB)
   .
    rw [qh (by rintro ⟨h,_⟩;rw [h] at t1;simp at t1)] at H
    go_wp2
    go_quiet (fail)
    go_wp2
    go_roundg (k-(j+1))
    case measure=>have:=A.1;have:=B.1;omega
    case rel=>exact ⟨j+1,by have:=A.1;have:=B.1;omega,by go_num,H.1,_,rfl⟩
   cases t2:(p.slot==s.upS)
   .
    rw [qh (by rintro ⟨_,h⟩;rw [h] at t2;simp at t2)] at H
    go_wp2
    go_quiet (fail)
    go_wp2
    go_roundg (k-(j+1))
    case measure=>have:=A.1;have:=B.1;omega
    case rel=>exact ⟨j+1,by have:=A.1;have:=B.1;omega,by go_num,H.1,_,rfl⟩
   rw [qf ⟨by simpa using t1,by simpa using t2⟩] at H
   go_wp2
   go_quiet (fail)
   go_wp2;go_ret;rw [<- H.1];exact ⟨rfl,_,by first | rfl | exact kA _ _ _⟩
  .
   have j1:¬ (j:Int)<(k:Int):=by omega
   have H:=Hd (show R = -1 by
    have e:=D.1;rw [qZ (by rw [qr];omega)] at e
    exact e.symm)
   clear hj;go_wp2;go_ret;rw [H.1];exact ⟨rfl,_,by first | rfl | exact kA _ _ _⟩
def zN (s p:SesM):Bool:=(p.birth==s.upB)&&(p.slot==s.upS)
def jgh (s:SesM)(a:List SesM):Bool:=a.any (fun p=>p.slot==s.slot)
theorem zc {p:SesM}:zN s p=true↔(s.upS=p.slot/\s.upB=p.birth):=by
 unfold zN;rw [qq,qK,qK];exact ⟨fun h=>⟨h.2.symm,h.1.symm⟩,fun h=>⟨h.2.symm,h.1.symm⟩⟩
theorem jb5 :∀ (a:List SesM) (h:Bool),jgh s a=false->(a.Pairwise (fun p q=>p.birth<q.birth))->xO s a h=some (match a.find? (zN s) with | none=>h | some p=>yz s p)
 | [],h,_,_=>rfl
 | p::ps,h,hd,hp=>by
  unfold jgh at hd;rw [List.any_cons,Bool.or_eq_false_iff] at hd;have a0:=List.pairwise_cons.1 hp;unfold xO;rw [qh (by intro e;rw [e] at hd;simp at hd),jb5 ps _ hd.2 a0.2,List.find?_cons]
  cases hm:zN s p
  . rw [qh (fun hh=>by rw [zc.2 hh] at hm;cases hm)]
  .
   rw [qf (zc.1 hm)];have hn:ps.find? (zN s)=none:=by
    rw [List.find?_eq_none];intro q hq a1;have h1:=a0.1 q hq;have h2:=(zc.1 hm).2;have h3:=(zc.1 a1).2;omega
   rw [hn]
theorem jhP :∀ (a:List SesM) (h:Bool),jgh s a=true->xO s a h=none
 | [],h,hd=>by simp [jgh] at hd
 | p::ps,h,hd=>by
  unfold jgh at hd;rw [List.any_cons,Bool.or_eq_true] at hd;unfold xO
  split
  . rfl
  .
   rename_i hne
   refine jhP ps _ (hd.resolve_left (fun e=>hne (by simpa using e)))
theorem jg2 (s:SesM):∀ (a:List SesM) (i:Int),(jcT s a i = -1/\a.find? (zN s)=none)\/∃ (j:Nat) (hj:j<a.length),jcT s a i=i+(j:Int)/\a.find? (zN s)=some a[j]
 | [],i=>.inl ⟨rfl,rfl⟩
 | p::ps,i=>by
  unfold jcT;rw [List.find?_cons]
  cases hm:zN s p
  .
   rw [qh (fun hh=>by have:zN s p=true:=zc.2 ⟨hh.2.symm,hh.1.symm⟩;rw [this] at hm;cases hm)]
   rcases jg2 s ps (i+1) with h | ⟨j,hj,h1,h2⟩
   . exact .inl h
   . exact .inr ⟨j+1,by simpa using hj,by rw [h1];push_cast;omega,by simpa using h2⟩
  .
   have h:=zc.1 hm;rw [qf ⟨h.2.symm,h.1.symm⟩];exact .inr ⟨0,by simp,by simp,rfl⟩
def jhz (c b:Int)(s:SesM)(a:List SesM):Bool:=jG s&&(!(!a.isEmpty&&decide (s.birth<=jcG a))&&(decide (s.birth<=b)&&(decide (s.born<=c)&&decide (c<s.deadline))))
theorem jfc (c b:Int)(s:SesM)(a:List SesM):zM c b s a=(jhz c b s a&&(xO s a (jcl s)==some true)):=by
 unfold zM jhz;simp only [Bool.and_assoc]
theorem jmd {a:List SesM}(hu:jcl s=true)(ha:∀ p∈a,jG p=true):a.find? (zN s)=none:=by
 rw [List.find?_eq_none];intro p hp hm;have h1:=(zc.1 hm).2;unfold jcl at hu;rw [qq,qK,qK] at hu;have h2:=ha p hp;unfold jG at h2;simp only [qq] at h2;have h3:=jV h2.2.1;omega
theorem jmu {P:Program}(ty:TypeId)(x:Operand)(ho:op.op=.load ty x)(b o:Nat)(hx:a.eval x=.pointer (some ⟨b,o,none⟩))(cs:List Value)(d:TypeDesc)(hc:w.rangeAt b o cs)(hu:P.underlying ty=some d)(hd:d.isRow=true)(hi:(P.info? ty).map (·.size)=some cs.length):(execOp a.eval op).run P w=.ok (.value (.agg cs.toArray)) w:=by
 unfold execOp;simp only [ho,hx,Instr.loadAt,Instr.sureAddr,wu,wB,qR,pA w b o ty cs d hc hu hd hi]
theorem xV {a b:Bool}(h:a=b):Value.bool a=.bool b:=by rw [h]
structure OneW (w0:World)(rb ro m n sb:Nat)(c b bl:Int)(a:Option Addr)(cap:Nat)(s:SesM)(W:World):Prop where
 rg:W.rangeAt sb 0 s.cells.toList
 b1:W.cell? ⟨sb,1,none⟩=some (.int .i64 s.birth)
 b9:W.cell? ⟨sb,9,none⟩=some (.int .i64 s.born)
 b10:W.cell? ⟨sb,10,none⟩=some (.int .i64 s.deadline)
 x0:W.cell? ⟨w0.heap.size,0,none⟩=some (.int .i64 c)
 x1:W.cell? ⟨w0.heap.size,1,none⟩=some (.int .i64 b)
 x2:W.cell? ⟨w0.heap.size,2,none⟩=some (.slice (some ⟨rb,ro,none⟩) n cap)
 la:0<m->W.cell? ⟨rb,ro+(m-1)*12+1,none⟩=some (.int .i64 bl)
 bs:Box W sb s.cells 45
 bx:Box W w0.heap.size #[c,b,.slice (some ⟨rb,ro,none⟩) n cap] 30
 bel:Below w0.heap.size w0 W
theorem OneW.below {w0:World}{rb ro m n sb:Nat}{c b bl:Int}{a:Option Addr}{cap:Nat}{W W':World}(h:OneW w0 rb ro m n sb c b bl a cap s W)(hb:Below W.heap.size W W'):OneW w0 rb ro m n sb c b bl a cap s W' :=
 ⟨fun j v hv=>jc hb (h.rg j v hv),jc hb h.b1,jc hb h.b9,jc hb h.b10,jc hb h.x0,jc hb h.x1,jc hb h.x2,fun hm=>jc hb (h.la hm),h.bs.below hb,h.bx.below hb,h.bel.trans (hb.mono h.bel.size)⟩
theorem jgc (c b:Int)(n cap m:Nat)(a:Option Addr)(l:List SesM)(w:World)(hn:n=l.length)(hr:RdS w (.slice a n cap) l)(hm:m<l.length)(b0:SesOk l[m])(hp:∀ p∈l.take m,jG p=true)(b3:(l.take m).Pairwise (fun p q=>p.birth<q.birth)) :
  Calls prog 171 #[.agg #[c,b,.slice a n cap],(m:Int)] w fun ev w'=>ev=.returned (.bool (zM c b l[m] (l.take m)))/\Below w.heap.size w w':=by
 obtain ⟨s,hs⟩:=Nm (l[m]);rw [<- hs] at b0 |-;obtain ⟨al,b4⟩:=Nm (l.take m);rw [<- b4] at hp b3 |-;have d2:n<=9223372036854775807:=by obtain ⟨_,_,e,h5,h6,_⟩:=hr;omega
 obtain ⟨rb,ro,a5,a4⟩:=hr.row m hm;subst a5;rw [<- hs] at a4;have m0:(0:Int)<=(m:Int):=by omega
 have m1:(m:Int)<(n:Int):=by omega
 have HR:=Hd hr;have HN:=Hd hn;have T:=Hd hm;have HP:=Hd hp;have H0:=Hd b3;have L:=Hd b4;have H6:=Hd (show ∀ h:m<l.length,s=l[m]'h from fun _=>hs)
 have I:=Hd a4;have B:=Hd (fun w=>vX s w b0.user b0.label)
 have M:=Hd (Box.new w #[c,b,.slice (some ⟨rb,ro,none⟩) n cap] 30);have N:=Hd (ja w (.cells #[c,b,.slice (some ⟨rb,ro,none⟩) n cap] 30));clear hs b4 hp b3 a4 hr hn b0 hm;go_enter func171,ntmps171
 go_upto_region 1 with (fail)
 generalize hw1:World.alloc w _=w1 at M N |-;clear hw1;have c2:w1.cell? ⟨w.heap.size,2,none⟩=some (.slice (some ⟨rb,ro,none⟩) n cap):=M.1.cell 2 _ rfl;have Q:=Hd (show w1.rangeAt rb (ro+m*12) s.cells.toList from fun j v hv=>jc N.1 (I.1 j v hv))
 clear I
 go_wp2_with (with_reducible refine Lk Q.1 underlying45 ?_)
 intro cv c3
 go_wp2_with (with_reducible refine Sz s.cells.toList c3 (SesM.oneS _) ?_)
 intro w3 c4;obtain ⟨a7,b5⟩:=uQ c4;have c5:w.heap.size<w1.heap.size:=M.1.lt;obtain ⟨bl,b6⟩:=Nm (jcG al);have D:=Hd (show OneW w rb ro m n w1.heap.size c b bl none cap s w3.drew from by
  have b1:=M.1.below b5;have b7:=N.1.trans (b5.mono N.1.size);refine ⟨fun j v hv=>by rw [qA];exact a7.cell j v (by simpa using hv),a7.cell 1 _ rfl,a7.cell 9 _ rfl,a7.cell 10 _ rfl,b1.cell 0 _ rfl,b1.cell 1 _ rfl,b1.cell 2 _ rfl,fun a8=>?_,a7.drew,b1.drew,b7.drew⟩
  have c6:m-1<l.length:=by have:=T.1;omega
  obtain ⟨rb',ro',a5,a4⟩:=(HR.1.below b7).row (m-1) c6;injection a5 with a5
  injection a5 with e5 e6
  subst e5;subst e6;have h:=a4 1 _ rfl;rw [b6,L.1,show l.take m=l.take (m-1) ++ [l[m-1]] from by rw [<- qk c6];congr 1;omega,uk]
  exact h)
 have H7:=Hd (show w.heap.size<w1.heap.size from c5)
 clear c2 c3 c4 a7 b5 M N Q c5;generalize w1.heap.size=sb at D H7 |-;have H1:=Hd (show al.isEmpty=decide (m=0) from by
  have e:al.length=m:=by rw [L.1,qr];have:=T.1;omega
  rw [Bool.eq_iff_iff,pU,qY];exact ⟨fun h=>by rw [h] at e;exact e.symm,fun h=>qw (by omega)⟩)
 have H:=Hd (show jhz c b s al=(jG s&&(!(!decide (m=0)&&decide (s.birth<=bl))&&(decide (s.birth<=b)&&(decide (s.born<=c)&&decide (c<s.deadline))))) from by unfold jhz;rw [H1.1,<- b6])
 clear b6 H1;obtain ⟨CB,b8⟩:=Nm (jhz c b s al);rw [<- b8] at H;have U:=Hd b8;clear b8
 go_upto_region 2 with (fail)
 go_cut [52] (fun s52 wx=>s52=.bool (!CB)/\OneW w rb ro m n sb c b bl none cap s wx)
 case first =>
  cases hms:jG s
  .
   have A:=Hd (show true = !CB by rw [H.1,hms];rfl)
   rw [hms] at B;clear hms;refine qt (S:=OneW w rb ro m n sb c b bl none cap s) (by kernel_rfl) D.1 (fun a1=>?_)
   refine Tk 0 13 ?_ (v:=.agg s.cells) (hy:=fun w' a3=>Ek a3.rg underlying45)
   refine Rc 1 14 fun K hK=>?_
   go_simp
   refine (B.1 _).mono ?_;rintro ev w4 ⟨rfl,a2⟩;refine hK.out _ _ (a1.below a2) (fun a0=>?_)
   clear hK K a2 a1
   try simp only [Nz]
   refine Tc 2 15 ?_;refine Tc 3 16 ?_;refine Tn 4 17 ?_;refine Tn 5 18 ?_;refine Tn 6 19 ?_;refine Tn 7 20 ?_;refine Tn 8 21 ?_;refine Tn 9 22 ?_;refine Tn 10 23 ?_;refine Tn 11 24 ?_;refine Tn 12 25 ?_;refine Tn 13 26 ?_;refine Tn 14 27 ?_;refine Tn 15 28 ?_;refine Tn 16 29 ?_;refine Tn 17 30 ?_;refine Tc 18 31 ?_;refine Tc 19 32 ?_;refine Tn 20 33 ?_;refine Tn 21 34 ?_;refine Tn 22 35 ?_;refine Tn 23 36 ?_;refine Tn 24 37 ?_;refine Tc 25 38 ?_;refine Tc 26 39 ?_;refine Tn 27 40 ?_;refine Tn 28 41 ?_;refine Tn 29 42 ?_;refine Tn 30 43 ?_;refine Tn 31 44 ?_;refine Tc 32 45 ?_;refine Tc 33 46 ?_;refine Tn 34 47 ?_;refine Tn 35 48 ?_;refine Tn 36 49 ?_;refine Tn 37 50 ?_;refine Tn 38 51 ?_;refine Tc 39 52 ?_;refine Dn ?_;have C:=Hd a0;clear a0;go_wp2;go_meet;exact ⟨xV A.1,C.1⟩
  rw [hms,wv] at H;rw [hms] at B;clear hms;by_cases a8:m=0
  .
   have d0:decide ((0:Int)<(m:Int))=false:=by rw [qI];omega
   have d0n:decide (0<m)=false:=by rw [qI];omega
   rw [qz a8,show (!(!true&&decide (s.birth<=bl)))=true from rfl,wv] at H
   clear a8;by_cases n1:s.birth<=b;rotate_left
   .
    have e1:decide (b<s.birth)=true:=by rw [qY];omega
    have A:=Hd (show true = !CB by rw [H.1,qv n1];rfl)
    clear n1;refine qt (S:=OneW w rb ro m n sb c b bl none cap s) (by kernel_rfl) D.1 (fun a1=>?_)
    refine Tk 0 13 ?_ (v:=.agg s.cells) (hy:=fun w' a3=>Ek a3.rg underlying45)
    refine Rc 1 14 fun K hK=>?_
    go_simp
    refine (B.1 _).mono ?_;rintro ev w4 ⟨rfl,a2⟩;refine hK.out _ _ (a1.below a2) (fun a0=>?_)
    clear hK K a2 a1
    try simp only [Nz]
    refine Tc 2 15 ?_;refine Tc 3 16 ?_;refine Tc 4 17 ?_;refine Tc 5 18 ?_;refine Tc 6 19 ?_;refine Tn 7 20 ?_;refine Tn 8 21 ?_;refine Tn 9 22 ?_;refine Tn 10 23 ?_;refine Tn 11 24 ?_;refine Tn 12 25 ?_;refine Tn 13 26 ?_;refine Tn 14 27 ?_;refine Tn 15 28 ?_;refine Tn 16 29 ?_;refine Tc 17 30 ?_;refine Tc 18 31 ?_;refine Tc 19 32 ?_;refine Tc 20 33 ?_;refine Tc 21 34 ?_;refine Tc 22 35 ?_;refine Tc 23 36 ?_;refine Tc 24 37 ?_;refine Tc 25 38 ?_;refine Tc 26 39 ?_;refine Tn 27 40 ?_;refine Tn 28 41 ?_;refine Tn 29 42 ?_;refine Tn 30 43 ?_;refine Tn 31 44 ?_;refine Tc 32 45 ?_;refine Tc 33 46 ?_;refine Tn 34 47 ?_;refine Tn 35 48 ?_;refine Tn 36 49 ?_;refine Tn 37 50 ?_;refine Tn 38 51 ?_;refine Tc 39 52 ?_;refine Dn ?_;have C:=Hd a0;clear a0;go_wp2;go_meet;exact ⟨xV A.1,C.1⟩
   have e1:decide (b<s.birth)=false:=by rw [qI];omega
   rw [qz n1,wv] at H;clear n1;by_cases n2:s.born<=c;rotate_left
   .
    have e2:decide (c<s.born)=true:=by rw [qY];omega
    have A:=Hd (show true = !CB by rw [H.1,qv n2];rfl)
    clear n2;refine qt (S:=OneW w rb ro m n sb c b bl none cap s) (by kernel_rfl) D.1 (fun a1=>?_)
    refine Tk 0 13 ?_ (v:=.agg s.cells) (hy:=fun w' a3=>Ek a3.rg underlying45)
    refine Rc 1 14 fun K hK=>?_
    go_simp
    refine (B.1 _).mono ?_;rintro ev w4 ⟨rfl,a2⟩;refine hK.out _ _ (a1.below a2) (fun a0=>?_)
    clear hK K a2 a1
    try simp only [Nz]
    refine Tc 2 15 ?_;refine Tc 3 16 ?_;refine Tc 4 17 ?_;refine Tc 5 18 ?_;refine Tc 6 19 ?_;refine Tn 7 20 ?_;refine Tn 8 21 ?_;refine Tn 9 22 ?_;refine Tn 10 23 ?_;refine Tn 11 24 ?_;refine Tn 12 25 ?_;refine Tn 13 26 ?_;refine Tn 14 27 ?_;refine Tn 15 28 ?_;refine Tn 16 29 ?_;refine Tc 17 30 ?_;refine Tc 18 31 ?_;refine Tc 19 32 ?_;refine Tc 20 33 ?_;refine Tc 21 34 ?_;refine Tc 22 35 ?_;refine Tc 23 36 ?_;refine Tc 24 37 ?_;refine Tc 25 38 ?_;refine Tc 26 39 ?_;refine Tc 27 40 ?_;refine Tc 28 41 ?_;refine Tc 29 42 ?_;refine Tc 30 43 ?_;refine Tc 31 44 ?_;refine Tc 32 45 ?_;refine Tc 33 46 ?_;refine Tn 34 47 ?_;refine Tn 35 48 ?_;refine Tn 36 49 ?_;refine Tn 37 50 ?_;refine Tn 38 51 ?_;refine Tc 39 52 ?_;refine Dn ?_;have C:=Hd a0;clear a0;go_wp2;go_meet;exact ⟨xV A.1,C.1⟩
   have e2:decide (c<s.born)=false:=by rw [qI];omega
   rw [qz n2,wv] at H;clear n2;by_cases n3:c<s.deadline;rotate_left
   .
    have e3:decide (s.deadline<=c)=true:=by rw [qY];omega
    have A:=Hd (show true = !CB by rw [H.1,qv n3];rfl)
    clear n3;refine qt (S:=OneW w rb ro m n sb c b bl none cap s) (by kernel_rfl) D.1 (fun a1=>?_)
    refine Tk 0 13 ?_ (v:=.agg s.cells) (hy:=fun w' a3=>Ek a3.rg underlying45)
    refine Rc 1 14 fun K hK=>?_
    go_simp
    refine (B.1 _).mono ?_;rintro ev w4 ⟨rfl,a2⟩;refine hK.out _ _ (a1.below a2) (fun a0=>?_)
    clear hK K a2 a1
    try simp only [Nz]
    refine Tc 2 15 ?_;refine Tc 3 16 ?_;refine Tc 4 17 ?_;refine Tc 5 18 ?_;refine Tc 6 19 ?_;refine Tn 7 20 ?_;refine Tn 8 21 ?_;refine Tn 9 22 ?_;refine Tn 10 23 ?_;refine Tn 11 24 ?_;refine Tn 12 25 ?_;refine Tn 13 26 ?_;refine Tn 14 27 ?_;refine Tn 15 28 ?_;refine Tn 16 29 ?_;refine Tc 17 30 ?_;refine Tc 18 31 ?_;refine Tc 19 32 ?_;refine Tc 20 33 ?_;refine Tc 21 34 ?_;refine Tc 22 35 ?_;refine Tc 23 36 ?_;refine Tc 24 37 ?_;refine Tc 25 38 ?_;refine Tc 26 39 ?_;refine Tc 27 40 ?_;refine Tc 28 41 ?_;refine Tc 29 42 ?_;refine Tc 30 43 ?_;refine Tc 31 44 ?_;refine Tc 32 45 ?_;refine Tc 33 46 ?_;refine Tc 34 47 ?_;refine Tc 35 48 ?_;refine Tc 36 49 ?_;refine Tc 37 50 ?_;refine Tc 38 51 ?_;refine Tc 39 52 ?_;refine Dn ?_;have C:=Hd a0;clear a0;go_wp2;go_meet;exact ⟨xV A.1,C.1⟩
   have e3:decide (s.deadline<=c)=false:=by rw [qI];omega
   have A:=Hd (show false = !CB by rw [H.1,qz n3];rfl)
   clear n3;refine qt (S:=OneW w rb ro m n sb c b bl none cap s) (by kernel_rfl) D.1 (fun a1=>?_)
   refine Tk 0 13 ?_ (v:=.agg s.cells) (hy:=fun w' a3=>Ek a3.rg underlying45)
   refine Rc 1 14 fun K hK=>?_
   go_simp
   refine (B.1 _).mono ?_;rintro ev w4 ⟨rfl,a2⟩;refine hK.out _ _ (a1.below a2) (fun a0=>?_)
   clear hK K a2 a1
   try simp only [Nz]
   refine Tc 2 15 ?_;refine Tc 3 16 ?_;refine Tc 4 17 ?_;refine Tc 5 18 ?_;refine Tc 6 19 ?_;refine Tn 7 20 ?_;refine Tn 8 21 ?_;refine Tn 9 22 ?_;refine Tn 10 23 ?_;refine Tn 11 24 ?_;refine Tn 12 25 ?_;refine Tn 13 26 ?_;refine Tn 14 27 ?_;refine Tn 15 28 ?_;refine Tn 16 29 ?_;refine Tc 17 30 ?_;refine Tc 18 31 ?_;refine Tc 19 32 ?_;refine Tc 20 33 ?_;refine Tc 21 34 ?_;refine Tc 22 35 ?_;refine Tc 23 36 ?_;refine Tc 24 37 ?_;refine Tc 25 38 ?_;refine Tc 26 39 ?_;refine Tc 27 40 ?_;refine Tc 28 41 ?_;refine Tc 29 42 ?_;refine Tc 30 43 ?_;refine Tc 31 44 ?_;refine Tc 32 45 ?_;refine Tc 33 46 ?_;refine Tc 34 47 ?_;refine Tc 35 48 ?_;refine Tc 36 49 ?_;refine Tc 37 50 ?_;refine Tc 38 51 ?_;refine Tc 39 52 ?_;refine Dn ?_;have C:=Hd a0;clear a0;go_wp2;go_meet;exact ⟨xV A.1,C.1⟩
  have hmp:0<m:=by omega
  obtain ⟨m',hmm⟩:∃ m',m-1=m':=⟨_,rfl⟩;have d0:decide ((0:Int)<(m:Int))=true:=by rw [qY];omega
  have d0n:decide (0<m)=true:=by rw [qY];omega
  have zm:IntKind.i64.wrap ((m:Int)-1)=(m':Int):=by
   rw [show (m:Int)-1=(m':Int) by omega];simp [IntKind.wrap,IntKind.bits,IntKind.signed];omega
  have p0:(0:Int)<=(m':Int):=by omega
  have p1:(m':Int)<(n:Int):=by omega
  rw [qv a8] at H;clear a8;by_cases hlt:s.birth<=bl
  .
   have e0:decide (s.birth<=bl)=true:=qz hlt;have A:=Hd (show true = !CB by rw [H.1,e0];rfl)
   clear hlt;refine qt (S:=OneW w rb ro m n sb c b bl none cap s) (by kernel_rfl) D.1 (fun a1=>?_)
   refine Tk 0 13 ?_ (v:=.agg s.cells) (hy:=fun w' a3=>Ek a3.rg underlying45)
   refine Rc 1 14 fun K hK=>?_
   go_simp
   refine (B.1 _).mono ?_;rintro ev w4 ⟨rfl,a2⟩;refine hK.out _ _ (a1.below a2) (fun a0=>?_)
   clear hK K a2 a1
   try simp only [Nz]
   refine Td 2 15 ?_;refine Td 3 16 ?_;refine Td 4 17 ?_;refine Td 5 18 ?_;refine Td 6 19 ?_;refine Td 7 20 ?_;refine Td 8 21 ?_;refine Td 9 22 ?_;refine Td 10 23 ?_;refine Td 11 24 ?_;refine Td 12 25 ?_;refine Td 13 26 ?_;refine Td 14 27 ?_;refine Td 15 28 ?_;refine Td 16 29 ?_;refine Td 17 30 ?_;refine Td 18 31 ?_;refine Td 19 32 ?_;refine Tn 20 33 ?_;refine Tn 21 34 ?_;refine Tn 22 35 ?_;refine Tn 23 36 ?_;refine Tn 24 37 ?_;refine Td 25 38 ?_;refine Td 26 39 ?_;refine Tn 27 40 ?_;refine Tn 28 41 ?_;refine Tn 29 42 ?_;refine Tn 30 43 ?_;refine Tn 31 44 ?_;refine Td 32 45 ?_;refine Td 33 46 ?_;refine Tn 34 47 ?_;refine Tn 35 48 ?_;refine Tn 36 49 ?_;refine Tn 37 50 ?_;refine Tn 38 51 ?_;refine Td 39 52 ?_;refine Dn ?_;have C:=Hd a0;clear a0;go_wp2;go_meet;exact ⟨xV A.1,C.1⟩
  have e0:decide (s.birth<=bl)=false:=qv hlt;rw [e0,show (!(!false&&false))=true from rfl,wv] at H
  clear hlt;by_cases n1:s.birth<=b;rotate_left
  .
   have e1:decide (b<s.birth)=true:=by rw [qY];omega
   have A:=Hd (show true = !CB by rw [H.1,qv n1];rfl)
   clear n1;refine qt (S:=OneW w rb ro m n sb c b bl none cap s) (by kernel_rfl) D.1 (fun a1=>?_)
   refine Tk 0 13 ?_ (v:=.agg s.cells) (hy:=fun w' a3=>Ek a3.rg underlying45)
   refine Rc 1 14 fun K hK=>?_
   go_simp
   refine (B.1 _).mono ?_;rintro ev w4 ⟨rfl,a2⟩;refine hK.out _ _ (a1.below a2) (fun a0=>?_)
   clear hK K a2 a1
   try simp only [Nz]
   refine Td 2 15 ?_;refine Td 3 16 ?_;refine Td 4 17 ?_;refine Td 5 18 ?_;refine Td 6 19 ?_;refine Td 7 20 ?_;refine Td 8 21 ?_;refine Td 9 22 ?_;refine Td 10 23 ?_;refine Td 11 24 ?_;refine Td 12 25 ?_;refine Td 13 26 ?_;refine Td 14 27 ?_;refine Td 15 28 ?_;refine Td 16 29 ?_;refine Td 17 30 ?_;refine Td 18 31 ?_;refine Td 19 32 ?_;refine Td 20 33 ?_;refine Td 21 34 ?_;refine Td 22 35 ?_;refine Td 23 36 ?_;refine Td 24 37 ?_;refine Td 25 38 ?_;refine Td 26 39 ?_;refine Tn 27 40 ?_;refine Tn 28 41 ?_;refine Tn 29 42 ?_;refine Tn 30 43 ?_;refine Tn 31 44 ?_;refine Td 32 45 ?_;refine Td 33 46 ?_;refine Tn 34 47 ?_;refine Tn 35 48 ?_;refine Tn 36 49 ?_;refine Tn 37 50 ?_;refine Tn 38 51 ?_;refine Td 39 52 ?_;refine Dn ?_;have C:=Hd a0;clear a0;go_wp2;go_meet;exact ⟨xV A.1,C.1⟩
  have e1:decide (b<s.birth)=false:=by rw [qI];omega
  rw [qz n1,wv] at H;clear n1;by_cases n2:s.born<=c;rotate_left
  .
   have e2:decide (c<s.born)=true:=by rw [qY];omega
   have A:=Hd (show true = !CB by rw [H.1,qv n2];rfl)
   clear n2;refine qt (S:=OneW w rb ro m n sb c b bl none cap s) (by kernel_rfl) D.1 (fun a1=>?_)
   refine Tk 0 13 ?_ (v:=.agg s.cells) (hy:=fun w' a3=>Ek a3.rg underlying45)
   refine Rc 1 14 fun K hK=>?_
   go_simp
   refine (B.1 _).mono ?_;rintro ev w4 ⟨rfl,a2⟩;refine hK.out _ _ (a1.below a2) (fun a0=>?_)
   clear hK K a2 a1
   try simp only [Nz]
   refine Td 2 15 ?_;refine Td 3 16 ?_;refine Td 4 17 ?_;refine Td 5 18 ?_;refine Td 6 19 ?_;refine Td 7 20 ?_;refine Td 8 21 ?_;refine Td 9 22 ?_;refine Td 10 23 ?_;refine Td 11 24 ?_;refine Td 12 25 ?_;refine Td 13 26 ?_;refine Td 14 27 ?_;refine Td 15 28 ?_;refine Td 16 29 ?_;refine Td 17 30 ?_;refine Td 18 31 ?_;refine Td 19 32 ?_;refine Td 20 33 ?_;refine Td 21 34 ?_;refine Td 22 35 ?_;refine Td 23 36 ?_;refine Td 24 37 ?_;refine Td 25 38 ?_;refine Td 26 39 ?_;refine Td 27 40 ?_;refine Td 28 41 ?_;refine Td 29 42 ?_;refine Td 30 43 ?_;refine Td 31 44 ?_;refine Td 32 45 ?_;refine Td 33 46 ?_;refine Tn 34 47 ?_;refine Tn 35 48 ?_;refine Tn 36 49 ?_;refine Tn 37 50 ?_;refine Tn 38 51 ?_;refine Td 39 52 ?_;refine Dn ?_;have C:=Hd a0;clear a0;go_wp2;go_meet;exact ⟨xV A.1,C.1⟩
  have e2:decide (c<s.born)=false:=by rw [qI];omega
  rw [qz n2,wv] at H;clear n2;by_cases n3:c<s.deadline;rotate_left
  .
   have e3:decide (s.deadline<=c)=true:=by rw [qY];omega
   have A:=Hd (show true = !CB by rw [H.1,qv n3];rfl)
   clear n3;refine qt (S:=OneW w rb ro m n sb c b bl none cap s) (by kernel_rfl) D.1 (fun a1=>?_)
   refine Tk 0 13 ?_ (v:=.agg s.cells) (hy:=fun w' a3=>Ek a3.rg underlying45)
   refine Rc 1 14 fun K hK=>?_
   go_simp
   refine (B.1 _).mono ?_;rintro ev w4 ⟨rfl,a2⟩;refine hK.out _ _ (a1.below a2) (fun a0=>?_)
   clear hK K a2 a1
   try simp only [Nz]
   refine Td 2 15 ?_;refine Td 3 16 ?_;refine Td 4 17 ?_;refine Td 5 18 ?_;refine Td 6 19 ?_;refine Td 7 20 ?_;refine Td 8 21 ?_;refine Td 9 22 ?_;refine Td 10 23 ?_;refine Td 11 24 ?_;refine Td 12 25 ?_;refine Td 13 26 ?_;refine Td 14 27 ?_;refine Td 15 28 ?_;refine Td 16 29 ?_;refine Td 17 30 ?_;refine Td 18 31 ?_;refine Td 19 32 ?_;refine Td 20 33 ?_;refine Td 21 34 ?_;refine Td 22 35 ?_;refine Td 23 36 ?_;refine Td 24 37 ?_;refine Td 25 38 ?_;refine Td 26 39 ?_;refine Td 27 40 ?_;refine Td 28 41 ?_;refine Td 29 42 ?_;refine Td 30 43 ?_;refine Td 31 44 ?_;refine Td 32 45 ?_;refine Td 33 46 ?_;refine Td 34 47 ?_;refine Td 35 48 ?_;refine Td 36 49 ?_;refine Td 37 50 ?_;refine Td 38 51 ?_;refine Td 39 52 ?_;refine Dn ?_;have C:=Hd a0;clear a0;go_wp2;go_meet;exact ⟨xV A.1,C.1⟩
  have e3:decide (s.deadline<=c)=false:=by rw [qI];omega
  have A:=Hd (show false = !CB by rw [H.1,qz n3];rfl)
  clear n3;refine qt (S:=OneW w rb ro m n sb c b bl none cap s) (by kernel_rfl) D.1 (fun a1=>?_)
  refine Tk 0 13 ?_ (v:=.agg s.cells) (hy:=fun w' a3=>Ek a3.rg underlying45)
  refine Rc 1 14 fun K hK=>?_
  go_simp
  refine (B.1 _).mono ?_;rintro ev w4 ⟨rfl,a2⟩;refine hK.out _ _ (a1.below a2) (fun a0=>?_)
  clear hK K a2 a1
  try simp only [Nz]
  refine Td 2 15 ?_;refine Td 3 16 ?_;refine Td 4 17 ?_;refine Td 5 18 ?_;refine Td 6 19 ?_;refine Td 7 20 ?_;refine Td 8 21 ?_;refine Td 9 22 ?_;refine Td 10 23 ?_;refine Td 11 24 ?_;refine Td 12 25 ?_;refine Td 13 26 ?_;refine Td 14 27 ?_;refine Td 15 28 ?_;refine Td 16 29 ?_;refine Td 17 30 ?_;refine Td 18 31 ?_;refine Td 19 32 ?_;refine Td 20 33 ?_;refine Td 21 34 ?_;refine Td 22 35 ?_;refine Td 23 36 ?_;refine Td 24 37 ?_;refine Td 25 38 ?_;refine Td 26 39 ?_;refine Td 27 40 ?_;refine Td 28 41 ?_;refine Td 29 42 ?_;refine Td 30 43 ?_;refine Td 31 44 ?_;refine Td 32 45 ?_;refine Td 33 46 ?_;refine Td 34 47 ?_;refine Td 35 48 ?_;refine Td 36 49 ?_;refine Td 37 50 ?_;refine Td 38 51 ?_;refine Td 39 52 ?_;refine Dn ?_;have C:=Hd a0;clear a0;go_wp2;go_meet;exact ⟨xV A.1,C.1⟩
 case rest =>
  obtain ⟨rfl,b9⟩:=hcut;have O:=Hd b9;have V:=Hd (HR.1.below b9.bel);have P:=Hd (show al.length=m by rw [L.1,qr];have:=T.1;omega)
  have W:=Hd (show ∀ j (hj:j<al.length),∃ hl:j<l.length,al[j]=l[j] from fun j hj=>by
   have e:=P.1;have e2:=T.1;refine ⟨by omega,?_⟩
   have e3:=L.1;subst e3;rw [p8])
  clear b9 D H B
  cases CB
  .
   have J:=Hd (show false=zM c b s al by rw [jfc,<- U.1];rfl)
   go_wp2;go_ret;exact ⟨jg (congrArg Value.bool J.1),O.1.bel⟩
  have HI:=Hd (show zM c b s al=(xO s al (jcl s)==some true) by rw [jfc,<- U.1,wv])
  clear U;go_wp2
  go_loopg [6] m (fun gk iv wr=>∃ (j k:Nat),gk+j=m/\iv=.int .i64 (j:Int)/\jgh s (al.take j)=false/\wr=wc.drewN k)
  case atStart=>exact ⟨0,0,rfl,rfl,rfl,rfl⟩
  case round =>
   obtain ⟨j,k,c7,rfl,hd,rfl⟩:=hrel;have j0:(0:Int)<=(j:Int):=by omega
   have H2:=Hd c7;have HD:=Hd hd;clear c7 hd;by_cases hj:j<m
   .
    have j1:(j:Int)<(m:Int):=by omega
    have j2:(j:Int)<(n:Int):=by omega
    have b2:j<al.length:=by have:=P.1;omega
    obtain ⟨a9,a6⟩:=W.1 j b2;obtain ⟨p,hp⟩:=Nm (l[j]);obtain ⟨rb',ro',a5,a4⟩:=V.1.row j a9;injection a5 with a5
    injection a5 with e5 e6
    subst e5;subst e6;rw [<- hp] at a4 a6;have r0:wc.cell? ⟨rb,ro+j*12,none⟩=some (.int .i64 p.slot):=a4 0 _ rfl;have s0:wc.cell? ⟨sb,0,none⟩=some (.int .i64 s.slot):=O.1.bs.cell 0 _ rfl;have x2:wc.cell? ⟨w.heap.size,2,none⟩=some (.slice (some ⟨rb,ro,none⟩) n cap):=O.1.x2;have HT:=Hd (show al.take (j+1)=al.take j ++ [p] by rw [qk b2,a6])
    have H8:=Hd (show p∈al from a6 ▸ qy b2)
    have HJ:=Hd hj;clear hj b2 a9 a6 hp a4
    cases t1:(p.slot==s.slot)
    .
     have H9:=Hd (show jgh s (al.take (j+1))=false by
      have h:=HD.1;rw [HT.1];unfold jgh at h |-;rw [List.any_append,h];simp only [List.any_cons,List.any_nil,Bool.or_false,pZ];exact t1)
     go_wp2
     go_quiet (fail)
     go_wp2
     go_roundg (m-(j+1))
     case measure=>have:=H2.1;have:=HJ.1;omega
     case rel=>exact ⟨j+1,_,by have:=H2.1;have:=HJ.1;omega,by go_num,H9.1,rfl⟩
    .
     have J:=Hd (show false=zM c b s al by
      rw [HI.1,jhP al _ (by unfold jgh;rw [kl];exact ⟨p,H8.1,t1⟩)];rfl)
     go_wp2
     go_quiet (fail)
     have E:=Hd (fun q=>O.1.bel.trans ((jD wc q).mono O.1.bel.size))
     go_wp2;go_ret;exact ⟨jg (congrArg Value.bool J.1),by first | exact E.1 _ | (rw [kA];exact E.1 _)⟩
   have j1:¬ (j:Int)<(m:Int):=by omega
   have c0:=HD.1;rw [ql (by have:=P.1;omega)] at c0
   have H3:=Hd c0;have F:=Hd (O.1.below (jD wc k));have R:=Hd (V.1.below (jD wc k));clear c0 hj HD;generalize hwd:World.drewN wc k=wd at F R |-;clear hwd O V;have s2:wd.cell? ⟨sb,2,none⟩=some (.int .i64 s.upS):=F.1.bs.cell 2 _ rfl;have s3:wd.cell? ⟨sb,3,none⟩=some (.int .i64 s.upB):=F.1.bs.cell 3 _ rfl;have x2:wd.cell? ⟨w.heap.size,2,none⟩=some (.slice (some ⟨rb,ro,none⟩) n cap):=F.1.x2;have e8:∀ w,(binOp .eql 41 (.agg #[s.upS,s.upB]) (.agg #[(0:Int),(0:Int)])).run prog w=.ok (.bool (jcl s)) w:=fun w=>jah _ _ _ _ w
   cases hu:jcl s
   rotate_left
   .
    have J:=Hd (show true=zM c b s al by rw [HI.1,jb5 al _ H3.1 H0.1,jmd hu HP.1,hu];rfl)
    rw [hu] at e8;clear hu;go_wp2;go_ret;exact ⟨jg (congrArg Value.bool J.1),F.1.bel⟩
   have X:=Hd (show zM c b s al=(match al.find? (zN s) with | none=>false | some p=>yz s p) by
    rw [HI.1,jb5 al _ H3.1 H0.1,hu]
    cases al.find? (zN s) with
    | none=>rfl
    | some p=>simp only;cases yz s p <;> rfl)
   rw [hu] at e8;have Y:=Hd (jda (some ⟨rb,ro,none⟩) n cap m l wd HN.1 R.1 T.1);rw [<- H6.1 T.1,<- L.1] at Y;clear hu HI;go_wp2_with fail;refine Y.1.mono ?_;rintro ev wp ⟨rfl,kp,rfl⟩;have G:=Hd (F.1.below (jD wd kp));have Z:=Hd (R.1.below (jD wd kp));clear s2 s3 x2 e8 Y;generalize hwp:World.drewN wd kp=wp at G Z |-;clear hwp F R
   rcases jg2 s al 0 with ⟨h1,h2⟩ | ⟨jp,a6,h1,h2⟩
   .
    have J:=Hd (show false=zM c b s al by rw [X.1,h2])
    have E:=Hd (fun q=>G.1.bel.trans ((jD wp q).mono G.1.bel.size))
    rw [h1];clear h1 h2;go_wp2
    go_quiet (fail)
    go_wp2;go_ret;exact ⟨jg (congrArg Value.bool J.1),E.1 _⟩
   obtain ⟨a9,c1⟩:=W.1 jp a6;obtain ⟨p,hp⟩:=Nm (al[jp]);rw [<- hp] at c1 h2;have J:=Hd (show yz s p=zM c b s al by rw [X.1,h2])
   have H4:=Hd (jba (HP.1 p (by rw [hp];exact qy a6)))
   obtain ⟨rb',ro',a5,a4⟩:=Z.1.row jp a9;injection a5 with a5
   injection a5 with e5 e6
   subst e5;subst e6;rw [<- c1] at a4;have I:=Hd (show wp.drew.rangeAt rb (ro+jp*12) p.cells.toList from a4)
   have Ha:=Hd (show wp.drew.rangeAt sb 0 s.cells.toList from G.1.rg)
   have x2:wp.cell? ⟨w.heap.size,2,none⟩=some (.slice (some ⟨rb,ro,none⟩) n cap):=G.1.x2;have q0:(0:Int)<=(jp:Int):=by omega
   have q1:decide ((0:Int)<=(jp:Int))=true:=by rw [qY];omega
   have q2:(jp:Int)<(n:Int):=by have:=HN.1;omega
   have Hb:=Hd (jdR s p wp.drew H4.1);have E:=Hd (show Below w.heap.size w wp.drew from G.1.bel.drew)
   rw [h1,Int.zero_add];clear a9 c1 hp h1 h2 a4 a6 Z G H4 X;go_wp2
   go_still_tail 9,(by kernel_rfl)
   refine xk rfl 45 (.tmp 5) rfl sb 0 rfl _ _ Ha.1 underlying45 rfl (by kernel_rfl) ?_
   intro cs c8;have ecs:cs=s.cells:=by rw [c8.out]
   subst ecs;clear c8
   repeat still_step
   refine xk rfl 45 (.tmp 82) rfl rb (ro+jp*12) rfl _ _ I.1 underlying45 rfl (by kernel_rfl) ?_
   intro cp c9;have ecp:cp=p.cells:=by rw [c9.out]
   subst ecp;clear c9
   repeat still_step
   refine wpStill_nil ?_
   change wpList _ _ _ _ _ wp.drew
   go_wp2_with (go_at_call 186;refine Hb.1.mono ?_;rintro ev w9 ⟨rfl,d1⟩)
   have H5:=Hd (E.1.trans (d1.mono E.1.size));clear d1;go_wp2;go_ret;exact ⟨jg (congrArg Value.bool J.1),H5.1⟩
theorem jgM {a b:Nat}:vh a b=true↔∀ j,j<64->a.testBit j=true->b.testBit j=true:=by
 unfold vh;have h0:bits .andNot .u64 (a:Int) (b:Int)=((BitVec.ofNat 64 a &&& ~~~ BitVec.ofNat 64 b).toNat:Int):=by
  show IntKind.u64.wrap ((BitVec.ofInt 64 (a:Int) &&& ~~~ BitVec.ofInt 64 (b:Int)).toNat:Int)=_;rw [BitVec.ofInt_natCast,BitVec.ofInt_natCast];have:=(BitVec.ofNat 64 a &&& ~~~ BitVec.ofNat 64 b).isLt;generalize (BitVec.ofNat 64 a &&& ~~~ BitVec.ofNat 64 b).toNat=x at this |-
  simp [IntKind.wrap,IntKind.bits,IntKind.signed];omega
 rw [h0,qK]
 constructor
 .
  intro h j hj ha;have h1:BitVec.ofNat 64 a &&& ~~~ BitVec.ofNat 64 b=0#64:=by
   apply BitVec.eq_of_toNat_eq
   rw [BitVec.toNat_ofNat];omega
  have h2:(BitVec.ofNat 64 a &&& ~~~ BitVec.ofNat 64 b).getLsbD j=false:=by rw [h1];simp
  rw [BitVec.getLsbD_and,BitVec.getLsbD_not,ko,ko,qz hj,ha] at h2
  cases hb:b.testBit j
  . rw [hb] at h2;cases h2
  . rfl
 .
  intro h;have h1:BitVec.ofNat 64 a &&& ~~~ BitVec.ofNat 64 b=0#64:=by
   apply BitVec.eq_of_getLsbD_eq
   intro j hj;rw [BitVec.getLsbD_and,BitVec.getLsbD_not,ko,ko,qz hj,BitVec.getLsbD_zero]
   cases ha:a.testBit j
   . rfl
   . rw [h j hj ha];rfl
  rw [h1];rfl
theorem jmA {a j:Nat}(ha:a<2 ^ 64):(bits .and .u64 ((a:Int) / 2 ^ j) 1==1)=a.testBit j:=by
 have h1:(a:Int) / 2 ^ j=((a / 2 ^ j:Nat):Int):=by rw [Int.natCast_ediv,Int.natCast_pow];rfl
 have h2:a / 2 ^ j<18446744073709551616:=Nat.lt_of_le_of_lt (Nat.div_le_self _ _) ha;have h3:=bits_and_u64_nat (a / 2 ^ j) 1 h2 (by omega)
 rw [h1,show (1:Int)=((1:Nat):Int) from rfl,h3,Nat.and_one_is_mod,Nat.testBit_eq_decide_div_mod_eq]
 by_cases h:a / 2 ^ j % 2=1
 . rw [h];rfl
 .
  have h4:a / 2 ^ j % 2=0:=by omega
  rw [h4];rfl
theorem jbR (a j:Nat)(w:World)(ha:a<2 ^ 64)(hj:j<64) :
  Calls prog 191 #[.int .u64 (a:Int),(j:Int)] w fun e w'=>e=.returned (.bool (a.testBit j))/\w=w':=by
 have j0:(0:Int)<=(j:Int):=by omega
 have j1:(j:Int)<64:=by omega
 have A:=Hd hj;have H:=Hd ha;clear hj ha;go_enter func191,ntmps191;go_wp2;go_ret;exact ⟨by rw [jmA H.1];rfl,rfl⟩
theorem jdd (a b:Nat)(w:World)(ha:a<2 ^ 64)(hb:b<2 ^ 64) :
  Calls prog 188 #[.int .u64 (a:Int),.int .u64 (b:Int)] w fun e w'=>e=.returned (.bool (vh a b))/\w=w':=by
 have HA:=qe (fun j w hj=>jbR a j w ha hj)
 have HB:=qe (fun j w hj=>jbR b j w hb hj)
 clear ha hb;go_enter func188,ntmps188;go_wp2
 go_loopg [5] 64 (fun gk iv wr=>∃ k:Nat,gk+k=64/\iv=.int .i64 (k:Int)/\w=wr/\Hid (∀ j,j<k->a.testBit j=true->b.testBit j=true))
 case atStart=>exact ⟨0,rfl,rfl,rfl,qe (fun j hj=>by omega)⟩
 case round =>
  obtain ⟨k,a0,rfl,rfl,HT⟩:=hrel;have k0:(0:Int)<=(k:Int):=by omega
  have HGK:=qe a0;clear a0;by_cases hk:k<64
  .
   have k1:(k:Int)<64:=by omega
   have HK:=qe hk;clear hk;go_wp2_with fail;refine (HA.out k _ HK.out).mono ?_;rintro e w1 ⟨rfl,rfl⟩;obtain ⟨r,hr⟩:=Nm (a.testBit k);have HR:=qe hr;rw [<- hr];clear hr
   cases r
   .
    have HT2:=qe (show ∀ j,j<k+1->a.testBit j=true->b.testBit j=true from fun j hj h=>by
     by_cases e:j=k
     . subst e;rw [<- HR.out] at h;cases h
     . exact HT.out j (by omega) h)
    clear HT HR;go_wp2
    go_roundg (64-(k+1))
    case measure=>have:=HGK.out;have:=HK.out;omega
    case rel=>exact ⟨k+1,by have:=HGK.out;have:=HK.out;omega,by go_num,rfl,HT2⟩
   .
    go_wp2_with fail;refine (HB.out k _ HK.out).mono ?_;rintro e w1 ⟨rfl,rfl⟩;obtain ⟨q,hq⟩:=Nm (b.testBit k);have HQ:=qe hq;rw [<- hq];clear hq
    cases q
    .
     have HF:=qe (show vh a b=false by
      cases e:vh a b
      . rfl
      .
       have:=jgM.1 e k HK.out HR.out.symm;rw [<- HQ.out] at this;cases this)
     clear HT HR HQ;go_wp2;go_ret;rw [HF.out];exact ⟨rfl,rfl⟩
    .
     have HT2:=qe (show ∀ j,j<k+1->a.testBit j=true->b.testBit j=true from fun j hj h=>by
      by_cases e:j=k
      . subst e;exact HQ.out.symm
      . exact HT.out j (by omega) h)
     clear HT HR HQ;go_wp2
     go_roundg (64-(k+1))
     case measure=>have:=HGK.out;have:=HK.out;omega
     case rel=>exact ⟨k+1,by have:=HGK.out;have:=HK.out;omega,by go_num,rfl,HT2⟩
  .
   have k1:¬ (k:Int)<64:=by omega
   have HF:=qe (show vh a b=true from jgM.2 (fun j hj h=>HT.out j (by omega) h))
   clear HT hk;go_wp2;go_ret;rw [HF.out];exact ⟨rfl,rfl⟩
end Go.Proofs.YtgcnolapjppbpaaGreatDoor
