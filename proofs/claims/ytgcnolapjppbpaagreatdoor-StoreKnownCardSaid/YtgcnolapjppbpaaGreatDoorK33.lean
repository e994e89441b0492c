/- Texts of one proof. -/
import Derived.Test.YtgcnolapjppbpaaGreatDoorK32
import Derived.Test.YtgcnolapjppbpaaGreatDoorK31
namespace Go.Proofs.YtgcnolapjppbpaaGreatDoor
open Go.RowKit _root_.Go.Proofs.Tryz
set_option maxRecDepth 100000
set_option maxHeartbeats 25600000
def DiskM.blks (d:DiskM)(base n:Nat):List (List UInt8):=((d.strs.drop base).take n).map (fun s=>s.data.toList)
theorem jf9 (d:DiskM)(rp:Nat)(G:Nat->Prop)(base n:Nat)(e:UInt32)(w:World)(h:IsRef w d rp G)(b7:d.strs.length<=4096)(b8:d.Wf)(b9:d.trail.length<=100000000000)(h1:1<=n)(h2:base+n<=d.strs.length)(hs:∀ s∈d.strs,s.size<=256) :
  Calls prog 107 #[.pointer (some ⟨rp,0,none⟩),(base:Int),(n:Int),.int .u32 (e.toNat:Int)] w fun r w'=>∃ (k:Nat) (ov:Value) (ys:List Value),
   yN e (d.blks base n) k=none/\r=.returned (.tuple #[.pointer (some ⟨w.heap.size,0,none⟩),ov,(0:Int)])/\Rd w' ov k ys/\(∀ b,ov.ownBlock=some b->w.heap.size<=b)/\ys.length=k/\(∀ i,i<k->∃ p c,yN e (d.blks base n) i=some (p,c)/\Rd w' (ys.getD i undef) p.length (p.map V8)/\∀ b,(ys.getD i undef).ownBlock=some b->w.heap.size<=b)/\Below w.heap.size w w' /\
   xm w' ⟨base,n,e,yQ e (d.blks base n) k,k,false⟩ w.heap.size rp:=by

 obtain ⟨bl,a0⟩:=Nm (d.blks base n);rw [<- a0];unfold DiskM.blks at a0;have c0:bl.length=n:=by rw [a0,qE,qr,qn];omega
 have S:=Hd (show ∀ j,j<n->d.strs[base+j]?=some (SB (bl.getD j [])) from fun j hj=>by rw [a0];exact jcR d.strs base n h2 j hj)
 have a5:∀ b∈bl,b.length<=256:=by
  rw [a0];intro b hb;obtain ⟨s,c1,rfl⟩:=pY.1 hb;have:=hs s (wO (km c1));show s.data.toList.length<=256;rw [ph];exact this
 have K:=Hd a5;have M:=Hd h;clear h a5 a0 hs;go_enter func107,ntmps107;go_wp2_with fail;refine (jcF d rp G base n e w M.1 b7 h1 h2).mono ?_;rintro r w1 ⟨rfl,hl,a6⟩;have L:=Hd hl;have N:=Hd a6;have O:=Hd (M.1.mod (Mod.of_below (F:=fun _=>False) a6) (fun _ _ h=>h))
 clear hl a6;go_wp2
 go_loopg [13,14] n (fun gk bv iv wr=>∃ k:Nat,gk+k=n/\iv=.int .i64 (k:Int)/\wr.ownsRow w1.heap.size 9 1 bv k ((bl.take k).map SV)/\Below w1.heap.size w1 wr)
 case atStart=>exact ⟨0,rfl,rfl,ws _ _ _ _,qG _ _⟩
 case round =>
  obtain ⟨k,a9,rfl,ho,hB⟩:=hrel;by_cases hk:k<n
  .
   have c7:(k:Int)<(n:Int):=by omega
   obtain ⟨ba,bc,rfl,_⟩:=jP ho;have a7:=uU d rp G ((base+k:Nat):Int) wr (O.1.mod (Mod.of_below (F:=fun _=>False) hB) (fun _ _ h=>h)) b8 b9
   obtain ⟨x,hx⟩:=Nm (bl.getD k []);have b0:d.strs.getD (base+k) ByteArray.empty=SB x:=by rw [List.getD,S.1 k hk,<- hx];rfl
   have b1:d.read ((base+k:Nat):Int)=(SB x,0):=by
    unfold DiskM.read;rw [qf ⟨by omega,by omega⟩,p9,b0]
   rw [b1,show ((base+k:Nat):Int)=(base:Int)+(k:Int) from by omega] at a7
   have E:=Hd a7;have B:=Hd ho;have H:=Hd hB;have T:=Hd hx;have I:=Hd a9;clear a7 ho hB hx a9 b0 b1;go_wp2_with fail;refine E.1.mono ?_;rintro r w2 ⟨rfl,e2⟩;obtain rfl:=e2.symm;clear E;have A:=Hd (fun ob=>jq B.1 (ja wr ob))
   have C:=Hd (um wr x 9);have D:=Hd (fun ob=>qi H.1.size (ja wr ob).size)
   go_wp2_with (at_builtin;refine jla rfl _ _ rfl w1.heap.size _ k ((bl.take k).map SV) rfl (A.1 _) _ [x] rfl C.1 (by rw [qx];omega) (D.1 _) ?_)
   intro v' w3 a2 b2 _;have b3:=(H.1.trans ((ja wr _).mono H.1.size)).trans (je b2 (D.1 _) (fun q hq=>((A.1 (.cells #[] 9)).lt q hq).1))
   have a3:w3.ownsRow w1.heap.size 9 1 v' (k+1) ((bl.take (k+1)).map SV):=by
    rw [qk (by omega),qM]
    have e1:bl[k]=x:=by rw [T.1];simp [List.getD,show k<bl.length by omega]
    rw [e1];simpa using a2
   have U:=Hd (And.intro a3 b3);clear b3 a3 a2 b2 A C D B H;go_wp2
   go_roundg (n-(k+1))
   case measure=>have:=I.1;omega
   case rel=>exact ⟨k+1,by have:=I.1;omega,by go_num,U.1⟩
  .
   obtain rfl:k=n:=by omega
   rw [ql (by omega)] at ho
   obtain ⟨ba,bc,rfl,_⟩:=jP ho;have J:=Hd (jeI e (.slice ba k bc) bl wr (by rw [c0];exact js ho) (by omega) (fun b hb=>by have:=K.1 b hb;omega))
   have H:=Hd hB;clear ho hB;go_wp2_with fail;refine J.1.mono ?_;rintro r w3 ⟨kk,ov,pv,ys,b5,rfl,c2⟩;obtain ⟨q1,q2,q3,_,q5⟩:=c2;obtain ⟨va,vc,rfl,_⟩:=jP q2;have c6:w1.heap.size<=wr.heap.size:=H.1.size;have c8:w.heap.size<w1.heap.size:=L.1.lt;have a8:Below w1.heap.size w1 w3:=jd H.1 q5;have a1:xm w3 ⟨base,k,e,0,0,false⟩ w.heap.size rp:=Box.below L.1 a8;have s1:=Box.set a1 4 ((yQ e bl kk:Nat):Int);have f4:=Box.free a1 4;have f5:=Box.free s1 5;have c4:=Box.cell a1 4 _ rfl;have c5:=Box.cell s1 5 _ rfl;have S1:=Hd s1;have W:=Hd a1;have V:=Hd q1;have B:=Hd q2;have P:=Hd q3;have Q:=Hd a8;have R:=Hd b5;clear b5 q1 q2 q3 q5 a8 a1 s1 H L J;go_wp2
   go_ret3
   have hm:=(Mod.set (fun b=>b=w.heap.size) w3 ⟨w.heap.size,4,none⟩ ((yQ e bl kk:Nat):Int) rfl).trans (Mod.set (fun b=>b=w.heap.size) _ ⟨w.heap.size,5,none⟩ (kk:Int) rfl)
   have b6:=jd N.1 Q.1;refine ⟨kk,_,ys,R.1,rfl,js (yG B.1 hm (fun q hq c3=>?_)),(fun q hq=>by have:=(B.1.lt q hq).1;omega),P.1,fun i hi=>?_,b6.trans (hm.below b6.size (fun b hb=>by omega)),S1.1.set 5 (kk:Int)⟩
   .
    have:=(B.1.lt q hq).1;omega
   .
    obtain ⟨p,c,g1,g2⟩:=V.1 i hi;refine ⟨p,c,g1,(g2.keep (fun q hq hl=>hm.block q hl (fun c3=>?_))).rd,fun q hq=>by have:=(g2.lt q hq).1;omega⟩
    have:=(g2.lt q hq).1;omega
def uM:List SesM->List SesM->Bool
 | [],[]=>true
 | a::l,b::m=>zk a b&&uM l m
 | _,_=>false
theorem vS:∀ {l m:List SesM},uM l m=true↔l=m
 | [],[]=>by simp [uM]
 | [],b::m=>by simp [uM]
 | a::l,[]=>by simp [uM]
 | a::l,b::m=>by
  unfold uM;rw [qq,yB,vS]
  simp
theorem jg1 {l m:List SesM}(h:l≠m):uM l m=false:=by
 cases e:uM l m
 . rfl
 . exact absurd (vS.1 e) h
def jcq (a b:StM):Bool:=(a.clock==b.clock)&&((a.births==b.births)&&uM a.l b.l)
theorem jeJ (v v':Value)(l m:List SesM)(w:World)(hv:RdS w v l)(a4:RdS w v' m) :
  Calls prog 44 #[v,v'] w fun e w'=>e=.returned (.bool (uM l m))/\Below w.heap.size w w':=by
 obtain ⟨a,cap,rfl,a0,a6⟩:=hv.slice;obtain ⟨a2,cap2,rfl,a5,b7⟩:=a4.slice;have HV:=qe hv;have HV2:=qe a4;have b2:l.length<=9223372036854775807:=by omega
 have b0:m.length<=9223372036854775807:=by omega
 by_cases hlm:l.length=m.length
 rotate_left
 .
  have HR:=qe (jg1 (l:=l) (m:=m) (fun e=>hlm (by rw [e])))
  have b3:((l.length:Int) != (m.length:Int))=true:=by rw [wl];omega
  clear hlm hv a4 a0 a5 HV HV2;go_enter func44,ntmps44;go_wp2;go_ret;rw [HR.out];exact ⟨rfl,qG _ _⟩
 obtain ⟨n,hN⟩:=Nm (l.length);rw [<- hlm] at HV2 a5 |-;rw [<- hN] at HV HV2 a0 a5 b2 |-;have HN:=qe hN;have HLM:=qe hlm;have b3:((n:Int) != (n:Int))=false:=by rw [wL]
 clear hlm hv a4 a0 a5 hN b0;go_enter func44,ntmps44;go_wp2
 go_loopg [5] n (fun gk iv wr=>∃ k:Nat,gk+k=n/\iv=.int .i64 (k:Int)/\Below w.heap.size w wr/\Hid (l.take k=m.take k))
 case atStart=>exact ⟨0,rfl,rfl,qG _ _,qe rfl⟩
 case round =>
  obtain ⟨k,a7,rfl,hb,HT⟩:=hrel;have k0:(0:Int)<=(k:Int):=by omega
  have HGK:=qe a7;have HB:=qe hb;clear a7;by_cases hk:k<n
  .
   have k1:(k:Int)<(n:Int):=by omega
   have a8:k<l.length:=by have:=HN.out;omega
   have a9:k<m.length:=by have:=HLM.out;omega
   obtain ⟨s,hs⟩:=Nm (l[k]);obtain ⟨u,hu⟩:=Nm (m[k]);obtain ⟨rb,ro,b4,a1⟩:=(HV.out.below hb).row k a8;subst b4;rw [<- hs] at a1;obtain ⟨qb,qo,b5,a3⟩:=(HV2.out.below hb).row k a9;subst b5;rw [<- hu] at a3;have HROW:=qe (show ∀ wq,(∃ n,wq=wr.drewN n)->wq.rangeAt rb (ro+k*12) s.cells.toList from fun wq hq=>by
    obtain ⟨q,rfl⟩:=hq;exact a1)
   have HQOW:=qe (show ∀ wq,(∃ n,wq=wr.drewN n)->wq.rangeAt qb (qo+k*12) u.cells.toList from fun wq hq=>by
    obtain ⟨q,rfl⟩:=hq;exact a3)
   have HLK:=qe (show s=l[k]/\u=m[k] from ⟨hs,hu⟩)
   have HK:=qe hk;clear a1 a3 hs hu hk hb;obtain ⟨r,hr⟩:=Nm (zk s u);have HR:=qe hr;have b1:∀ w,(binOp .neq 45 (.agg s.cells) (.agg u.cells)).run prog w=.ok (.bool (!r)) w:=fun w=>by rw [jby,HR.out]
   clear hr;go_wp2_with fail;refine wp_region_quiet_lit (by kernel_rfl) (by kernel_rfl) ?_
   repeat (go_big_quiet_step (fail))
   refine xo rfl 45 (.tmp 19) rfl rb (ro+k*12) rfl s.cells.toList _ HROW.out underlying45 rfl (by kernel_rfl) ?_
   intro c1 a0;have ec1:c1=s.cells:=by rw [a0.out]
   subst ec1;simp only [Act.put,wG,pp,pI]
   repeat (go_big_quiet_step (fail))
   refine xo rfl 45 (.tmp 23) rfl qb (qo+k*12) rfl u.cells.toList _ HQOW.out underlying45 rfl (by kernel_rfl) ?_
   intro c2 a6;have ec2:c2=u.cells:=by rw [a6.out]
   subst ec2;simp only [Act.put,wG,pp,pI]
   repeat (go_big_quiet_step (fail))
   refine wpQuiet_nil ?_;intro wq b6;obtain ⟨nq,rfl⟩:=b6;have HB4:=qe (HB.out.trans ((jD _ nq).mono HB.out.size));clear b1 a0 a6 HROW HQOW
   cases r
   .
    have HF:=qe (jg1 (l:=l) (m:=m) (fun e=>by
     obtain ⟨h1,h2⟩:=HLK.out;have h3:=HR.out;rw [h1,h2] at h3;subst e;rw [yB.2 rfl] at h3
     cases h3))
    clear HB HR HLK;go_wp2;go_ret;rw [HF.out];exact ⟨rfl,HB4.out⟩
   .
    have HT2:=qe (show l.take (k+1)=m.take (k+1) by
     rw [qk a8,qk a9,HT.out,<- HLK.out.1,<- HLK.out.2,yB.1 HR.out.symm])
    clear HB HR HLK HT;go_wp2
    go_roundg (n-(k+1))
    case measure=>have:=HGK.out;have:=HK.out;omega
    case rel=>exact ⟨k+1,by have:=HGK.out;have:=HK.out;omega,by go_num,HB4.out,HT2⟩
  .
   have k1:¬ (k:Int)<(n:Int):=by omega
   have HE:=qe (show uM l m=true from vS.2 (by
    have h:=HT.out;rw [ql (by have:=HN.out;omega),ql (by have:=HN.out;have:=HLM.out;omega)] at h
    exact h))
   clear hk hb HT;go_wp2;go_ret;rw [HE.out];exact ⟨rfl,HB.out⟩
theorem zQ (a b:StM)(v v':Value)(w:World)(hv:RdS w v a.l)(a0:RdS w v' b.l) :
  Calls prog 16 #[.agg #[a.clock,a.births,v],.agg #[b.clock,b.births,v']] w fun e w'=>e=.returned (.bool (jcq a b))/\Below w.heap.size w w':=by
 have H:=Hd (fun o o2=>jl w o o2)
 have A:=Hd (fun w' hb=>jeJ v v' a.l b.l w' (hv.below hb) (a0.below hb))
 obtain ⟨xa,xc,rfl,_⟩:=hv.slice;obtain ⟨ya,yc,rfl,_⟩:=a0.slice;unfold jcq;generalize uM a.l b.l=r at A |-;clear hv a0;obtain ⟨c1,b1,l1⟩:=a;obtain ⟨c2,b2,l2⟩:=b;simp only at A |-;go_enter func16,ntmps16
 cases e1:(c1==c2)
 .
  go_wp2;go_ret;exact ⟨rfl,H.1 _ _⟩
 cases e2:(b1==b2)
 .
  go_wp2;go_ret;exact ⟨rfl,H.1 _ _⟩
 go_wp2_with fail;refine (A.1 _ (H.1 _ _)).mono ?_;rintro e w1 ⟨rfl,hb⟩;have B:=Hd ((H.1 _ _).trans (hb.mono (H.1 (.cells #[c1,b1,.slice xa l1.length xc] 30) (.cells #[c2,b2,.slice ya l2.length yc] 30)).size));clear hb A H;go_wp2;go_ret;exact ⟨rfl,B.1⟩
end Go.Proofs.YtgcnolapjppbpaaGreatDoor
