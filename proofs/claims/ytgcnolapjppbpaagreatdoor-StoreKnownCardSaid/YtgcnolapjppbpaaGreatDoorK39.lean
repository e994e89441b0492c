/- Texts of one proof. -/
import Derived.Test.YtgcnolapjppbpaaGreatDoorK34
namespace Go.Proofs.YtgcnolapjppbpaaGreatDoor
open Go.RowKit _root_.Go.Proofs.Tryz
set_option maxRecDepth 100000
set_option maxHeartbeats 25600000
variable {w wr w2:World}{pd ps pl q:Nat}{F:Nat->Prop}{d:DiskM}{s:StoM}{st:StM}{sv:Value}{T:TypeId}
def vr:EvtM:=⟨2,ju,0,1⟩
def jaH:EvtM:=⟨1,ju,2,0⟩
theorem jd9:EvOk vr:=by constructor <;> first | decide | exact ⟨by decide,by decide⟩
theorem jiH:EvOk jaH:=by constructor <;> first | decide | exact ⟨by decide,by decide⟩
theorem jjB (k:Nat)(h:k<5):EvOk (jN ((k:Int)+1) (3*(k:Int))):=by
 match k,h with
 | 0,_ | 1,_ | 2,_ | 3,_ | 4,_=>all_goals (constructor <;> first | decide | exact ⟨by decide,by decide⟩)
theorem jhO (w:World):Calls prog 54 #[(36:Int)] w fun r w'=>∃ (sv:Value) (l:List EvtM),r=.returned sv/\OwnE w' w.heap.size sv l/\l.length=36/\(∀ e∈l,EvOk e)/\Below w.heap.size w w':=by
 go_enter func54,ntmps54;go_wp2
 go_loopg [3,4] 36 (fun gk o iv wr=>∃ (k:Nat) (l:List EvtM),gk+k=36/\iv=.int .i64 (k:Int)/\OwnE wr w.heap.size o l/\l.length=k/\(∀ e∈l,EvOk e)/\Below w.heap.size w wr)
 case atStart=>exact ⟨0,[],rfl,rfl,⟨rfl,.inl ⟨rfl,rfl⟩⟩,rfl,fun e he=>(by cases he),qG _ _⟩
 case round =>
  obtain ⟨k,l,a7,rfl,a3,a5,a8,hb⟩:=hrel;have k0:(0:Int)<=(k:Int):=by omega
  have I:=Hd a7;have N:=Hd a3;have O:=Hd hb;have E:=Hd a5;have P:=Hd a8;obtain ⟨oa,oc,rfl,_⟩:=a3.slice;rw [a5] at N |-;by_cases hk:k<36;rotate_left
  .
   have k1:¬ (k:Int)<36:=by omega
   clear a7 a5 a8 hb a3;go_wp2;go_ret;exact ⟨_,rfl,l,N.1,by have:=E.1;have:=I.1;omega,P.1,O.1⟩
  have k1:(k:Int)<36:=by omega
  have V:=Hd hk;clear a7 a5 a8 hb a3;have b7:IntKind.i64.wrap ((k:Int)+1)=(k:Int)+1:=by simp [IntKind.wrap,IntKind.bits,IntKind.signed];omega
  have b8:IntKind.i64.wrap (3*(k:Int))=3*(k:Int):=by simp [IntKind.wrap,IntKind.bits,IntKind.signed];omega
  have W:=Hd (Box.new wr vr.cells 47);have F:=Hd (ja wr (.cells vr.cells 47));clear hk
  go_upto_if 13 with (fail)
  go_cut [] (fun wx=>∃ e:EvtM,EvOk e/\Box wx wr.heap.size e.cells 47/\Below wr.heap.size wr wx)
  case first =>
   by_cases h5:k<5
   .
    have b9:(k:Int)<5:=by omega
    have J:=Hd (yL ((k:Int)+1) (3*(k:Int)) (wr.alloc (.cells vr.cells 47)));have Q:=Hd (jjB k h5);obtain ⟨e,he⟩:∃ e,e=jN ((k:Int)+1) (3*(k:Int)):=⟨_,rfl⟩;rw [<- he] at J Q;clear h5 he;go_wp2_with fail;refine (show Calls _ _ #[((k:Int)+1:Int),(3*(k:Int):Int)] _ _ from J.1).mono ?_
    rintro r w2 ⟨rfl,a1⟩;have b2:=W.1.below a1;obtain ⟨a2,a4⟩:=b2.setAllE rfl e;have A:=Hd a4;have B:=Hd a2;have H:=Hd (F.1.trans (a1.mono F.1.size));clear a2 a4 b2 a1 J
    go_wp2_with (with_reducible refine Sk e.cells.toList (EvtM.listE _) A.1 (EvtM.oneE _) ?_)
    intro w3 a0;have K:=Hd (show Box w3 wr.heap.size e.cells 47 from by rw [a0.out];exact B.1)
    have C:=Hd (show Below wr.heap.size wr w3 from by rw [a0.out];exact H.1.trans ((Mod.setCells (fun q=>q=wr.heap.size) wr.heap.size rfl e.cells.toList 0 _).below H.1.size (fun i hi=>qS hi.symm)))
    clear a0 B A H;go_wp2;go_meet;exact ⟨e,Q.1,K.1,C.1⟩
   have b9:¬ (k:Int)<5:=by omega
   clear h5;go_wp2;go_meet;exact ⟨vr,jd9,W.1,F.1⟩
  case rest =>
   obtain ⟨e0,b3,b4,a9⟩:=hcut;have R:=Hd b3;have G:=Hd b4;have D:=Hd a9;clear b3 b4 a9 W F;generalize hwc:wc=w0 at G D |-;clear hwc
   go_upto_if 20 with (fail)
   go_cut [] (fun wx=>∃ e:EvtM,EvOk e/\Box wx wr.heap.size e.cells 47/\Below wr.heap.size wr wx)
   case first =>
    generalize ((k:Int)==20)=b20
    cases b20
    rotate_left
    .
     obtain ⟨a2,a4⟩:=G.1.setAllE rfl jaH;have A:=Hd a4;have B:=Hd a2;clear a2 a4
     go_wp2_with (with_reducible refine Sk jaH.cells.toList (EvtM.listE _) A.1 (EvtM.oneE _) ?_)
     intro w3 a0;have K:=Hd (show Box w3 wr.heap.size jaH.cells 47 from by rw [a0.out];exact B.1)
     have C:=Hd (show Below wr.heap.size wr w3 from by rw [a0.out];exact D.1.trans ((Mod.setCells (fun q=>q=wr.heap.size) wr.heap.size rfl jaH.cells.toList 0 _).below D.1.size (fun i hi=>qS hi.symm)))
     clear a0 B A;go_wp2;go_meet;exact ⟨jaH,jiH,K.1,C.1⟩
    go_wp2;go_meet;exact ⟨e0,R.1,G.1,D.1⟩
   obtain ⟨s,hs,hx,b0⟩:=hcut;have Y:=Hd hs;have S:=Hd (show wc.rangeAt wr.heap.size 0 s.cells.toList from Box.rangeE hx)
   have L:=Hd (O.1.trans (b0.mono O.1.size));have T:=Hd (N.1.below b0);clear hs hx b0 G D R N O b7 b8
   go_wp2_with (with_reducible refine Lk S.1 underlying47 ?_)
   intro cv b5;have ecv:cv=s.cells:=by rw [b5.out]
   subst ecv;clear b5
   go_wp2_with (refine Bs (jls s wc) ?_)
   intro w2 b1;have a1:Below wc.heap.size wc w2:=by rw [b1.out];exact ja _ _
   have U:=Hd (show ∀ j u,s.cells.toList[j]?=some u->w2.cell? ((⟨wc.heap.size,0,none⟩:Addr).add j)=some u by rw [b1.out];exact jfO wc s _)
   have M:=Hd (T.1.below a1);have H:=Hd (L.1.trans (a1.mono L.1.size));clear b1 a1 T L S
   go_wp2_with (at_builtin;refine jli rfl _ _ rfl w.heap.size _ l (by rw [<- E.1];rfl) M.1 ⟨wc.heap.size,0,none⟩ 1 s rfl U.1 (by have:=E.1;have:=V.1;omega) (by have:=H.1.size;omega) ?_)
   intro v' w3 a6 b6 _;have C:=Hd (H.1.trans (je b6 H.1.size (fun q hq=>(M.1.lt q hq).1)))
   have X:=Hd a6;clear b6 a6 M H U;go_wp2
   go_roundg (36-(k+1))
   case measure=>have:=I.1;have:=V.1;omega
   case rel=>exact ⟨k+1,l ++ [s],by have:=I.1;have:=V.1;omega,by go_num,X.1,by rw [qd,E.1];rfl,fun e he=>by
    rcases qW.1 he with h | h
    . exact P.1 e h
    . rw [qC.1 h];exact Y.1,C.1⟩
theorem jaI (s:StoM)(d:DiskM)(e:EvtM)(st:StM)(h:d.strs.length<=4096):(s.append d e st).2.1.trail.length<=d.trail.length+2060:=by
 have h1:=zw s.epoch d st h;have h2:=(vw s.log d (evB e)).2;have h3:=(vw (yt (s.epoch+1)) (yu s.epoch d st).1 (evB e)).2;unfold StoM.append
 split
 . exact wn _ _
 split
 .
  split
  .
   split
   . simp only;omega
   . simp only;omega
  . simp only;omega
 . exact wn _ _
def jco:StM:=⟨0,1,[(jN 1 0).s]⟩
theorem jjp:jt jI (jN 1 0)=(0,jco):=by kernel_rfl
theorem jjj:jM (jN 1 0)=true:=by kernel_rfl
theorem zV (bi sl:Int):(jN bi sl).s.user.length<=9223372036854775807/\(jN bi sl).s.label.length<=9223372036854775807/\(jN bi sl).s.scopes<2 ^ 64:=⟨show (3:Nat)<=9223372036854775807 by decide,show (0:Nat)<=9223372036854775807 by decide,show (7:Nat)<2 ^ 64 by decide⟩
theorem xN (w:World):Calls prog 8 #[] w fun e w'=>e=.returned (.bool true)/\Below w.heap.size w w':=by
 go_enter func8,ntmps8;go_wp2_with fail;refine (zD w).mono ?_;rintro ev w1 ⟨pd,F,rfl,hd,hb,hF⟩;obtain ⟨d0,a7⟩:∃ d:DiskM,d={ strs:=List.replicate 65 ByteArray.empty,trail := [],left:=none }:=⟨_,rfl⟩;have c5:KeptD d0 jI 0:=by rw [a7];exact ur
 have d4:d0.left=none:=by rw [a7]
 have d9:d0.trail.length=0:=by rw [a7];rfl
 have e0:d0.strs.length=65:=by rw [a7];simp
 rw [<- a7] at hd;have a1:=jay c5 pd F w1 hd (by omega)
 obtain ⟨z0,z1,z2,z3,z4,z5⟩:=jgf c5 (show (0:UInt32).toNat<4294967295 by decide) d4
 have c6:=vE d0 (by omega)
 obtain ⟨R,hR⟩:=Nm (jw d0);rw [<- hR] at a1 z0 z1 z2 z3 z4 z5 c6;obtain ⟨dN,eN,sN,er⟩:=R;simp only at a1 z0 z1 z2 z3 z4 z5 c6;subst z0;subst z1;subst z2;rw [show jm 0=.nilIface from rfl,show jI.clock=0 from rfl,show jI.births=0 from rfl] at a1
 obtain ⟨e1,c7⟩:∃ e:UInt32,e=0+1:=⟨_,rfl⟩;have e2:e1.toNat=1:=by rw [c7];rfl
 rw [<- c7] at a1 z3
 -- the first Append,plainly
 have a8:=ul z3 rfl rfl (show e1.toNat<4294967295 by omega) jjp jjj (zV 1 0).2.2
 have b8:=jd5 (jN 1 0) z3 (show e1.toNat<4294967295 by omega) z4
 obtain ⟨A,hA⟩:=Nm (StoM.append ⟨e1,yt e1,false⟩ dN (jN 1 0) jI);rw [<- hA] at a8 b8;have b5:=fun (v:Value) ps pl (F2:Nat->Prop) W h a4 hd e4 e5 e6 hr e7=>xx ⟨e1,yt e1,false⟩ dN (jN 1 0) jI v ps pl pd F2 W h a4 hd e4 e5 e6 hr e7 (fun s hs=>by cases hs) (zV 1 0).1 (zV 1 0).2.1 (zV 1 0).2.2 (by omega) z3.len.1 z3.len.1 (show 0<=16 by omega) (show 0<=1000000000 by omega)
 rw [<- hA] at b5;obtain ⟨s1,d1,er1⟩:=A;simp only at a8 b8 b5;have a8:=a8.resolve_right (fun h=>h.2.1 z4)
 obtain ⟨y0,y1,y2,y3,y4,_⟩:=a8;subst y0;have c8:=y3.kept;have c9:s1.epoch.toNat<4294967295:=by have:s1.epoch.toNat<=e1.toNat+1:=y4;omega
 have b6:=jaI ⟨e1,yt e1,false⟩ dN (jN 1 0) jI z3.len.2;rw [<- hA] at b6;simp only at b6;have a6:=fun F2 W hd=>jay c8.d pd F2 W hd (by omega)
 obtain ⟨x0,x1,x2,x3,x4,x5⟩:=jgf c8.d c9 b8;obtain ⟨R1,d5⟩:=Nm (jw d1);rw [<- d5] at a6 x0 x1;obtain ⟨dM,eM,sM,erM⟩:=R1;simp only at a6 x0 x1;subst x0;subst x1;rw [show jm 0=.nilIface from rfl,show jco.clock=0 from rfl,show jco.births=1 from rfl] at a6
 have X:=Hd a1;have Y:=Hd b5;have G:=Hd a6;have C:=Hd hb;have V:=Hd hF;have HD:=Hd hd;clear a1 b5 a6 hb hF hd c5 d4 d9 e0 a7 z3 z4 z5 c6 hR a8 b8 hA y1 y2 y3 y4 c8 c9 b6 x2 x3 x4 x5 d5 e2 c7;go_wp2_with fail;refine X.1.mono ?_;rintro ev w2 ⟨pv,o,rfl,a1⟩;obtain ⟨F2,q1,q2,q3,q4⟩:=a1.ex;obtain ⟨ps,pl,rfl,b1,b2,n1,n2,nne,a9,a4,b0⟩:=q4 rfl;have a2:=a1.ow;have d6:=a1.md;obtain ⟨oa,oc,rfl,_⟩:=a2.slice;rw [show jI.l.length=0 from rfl] at q3 b0 a2 |-
 simp only at q1 a9 a4 a2;have b3:=ja w2 (.cells #[.int .i64 0,.int .i64 0,.slice oa 0 oc] 30);have D:=Hd (Box.new w2 #[.int .i64 0,.int .i64 0,.slice oa 0 oc] 30);have I:=Hd (show ¬ F2 w2.heap.size/\w2.heap.size≠ps/\w2.heap.size≠pl from ⟨fun h=>by have:=q1.lt _ h;omega,by have:=a9.bx.lt;omega,by have:=a4.lt;omega⟩)
 have J:=Hd (q1.grow b3);have L:=Hd (a9.below b3);have M:=Hd (show yI _ (yt e1) pl pd from Box.below a4 b3)
 have N:=Hd (a2.rd.below b3);have O:=Hd (show ∀ k,(Value.slice oa 0 oc).ownBlock=some k->¬ F2 k/\k≠ps/\k≠pl/\k<w2.heap.size from fun k hk=>⟨(q3 k hk).2,(b0 k hk).1,(b0 k hk).2,(a2.lt k hk).2⟩)
 have B:=Hd (show ¬ F2 ps/\¬ F2 pl/\ps≠pl/\w1.heap.size<=ps/\w1.heap.size<=pl from ⟨n1,n2,nne,b1,b2⟩)
 have b9:Mod F w1 w2:=d6;have P:=Hd (show Below w.heap.size w (w2.alloc (.cells #[.int .i64 0,.int .i64 0,.slice oa 0 oc] 30)) from (C.1.trans (b9.below C.1.size (fun k hk=>V.1 k hk))).trans (b3.mono (C.1.trans (b9.below C.1.size (fun k hk=>V.1 k hk))).size))
 have Z:=Hd (show ∀ k,F2 k->w.heap.size<=k from fun k hk=>by
  rcases q2 k hk with g | g
  . exact V.1 k g
  . have:=C.1.size;omega)
 have H0:=Hd C.1.size;have Q:=Hd (show w.heap.size<=w2.heap.size from qi C.1.size b9.size)
 clear q1 q2 q3 q4 a1 b1 b2 n1 n2 nne a9 a4 b0 a2 d6 b9 b3 X C HD V;go_wp2_with fail;obtain ⟨q,hq⟩:=Nm (w2.heap.size);obtain ⟨wr,d7⟩:=Nm (w2.alloc (.cells #[.int .i64 0,.int .i64 0,.slice oa 0 oc] 30));rw [<- d7] at D J L M N P |-;rw [<- hq] at D I O Q |-;have H1:=Hd (show q<wr.heap.size from D.1.lt)
 clear hq d7;refine qt (S:=fun W=>Box W q #[.int .i64 0,.int .i64 0,.slice oa 0 oc] 30) (by kernel_rfl) (D.1.below (jb wr)) (fun a3=>?_)
 refine Tk 0 14 ?_;refine Tk 1 15 ?_;refine Tk 2 16 ?_;refine Tk 3 17 ?_;refine Tk 4 18 ?_;refine Tk 5 19 ?_;refine Tk 6 20 ?_;refine Tk 7 21 ?_;refine Tk 8 22 ?_ (hy:=by intro w' a0;have u1:=Box.cell a0 2 _ rfl;clear a0;go_simp;try with_reducible rfl)
 refine Tk 9 23 ?_;refine Tk 10 24 ?_;refine Tk 11 25 ?_;refine Tk 12 26 ?_;refine Tk 13 27 ?_;refine Tk 15 29 ?_ (v:=.agg #[.int .i64 0,.int .i64 0,.slice oa 0 oc]) (hy:=fun w' a0=>Ek (jj a0) underlying30)
 refine Rc 14 28 fun K hK=>?_
 go_simp
 refine (yL 1 0 _).mono ?_;rintro e3 w4 ⟨rfl,b4⟩;refine hK.out _ _ (a3.below b4) (fun h4=>?_)
 have H:=Hd (show Below wr.heap.size wr w4 from jd (jb wr) b4)
 clear hK K b4 a3
 try simp only [Nz]
 refine Rc 16 30 fun K hK=>?_
 go_simp
 refine (show Calls _ _ #[.pointer (some ⟨ps,0,none⟩),.agg (jN 1 0).cells,.agg #[.int .i64 0,.int .i64 0,.slice oa 0 oc]] _ _ from Y.1 (.slice oa 0 oc) ps pl F2 w4 (L.1.below H.1) (Box.below M.1 H.1) (J.1.grow H.1) B.1.1 B.1.2.1 B.1.2.2.1 (N.1.below H.1) (fun k hk=>by have h1:=O.1 k hk;have:=H1.1;have:=H.1.size;exact ⟨h1.1,h1.2.1,h1.2.2.1,by omega⟩)).mono ?_
 rintro e3 w5 ⟨rfl,c3⟩;have d2:=h4.mod c3.md (fun h=>by
  rcases h with h | h | h
  . exact I.1.2.1 h
  . exact I.1.2.2 h
  . exact I.1.1 h)
 refine hK.out _ _ d2 (fun e8=>?_)
 obtain ⟨F5,pl5,q1,q2,q3,_⟩:=c3.ex;have H2:=Hd d2;have H3:=Hd (show IsDisk w5 d1 pd F5 from q1)
 have H9:=Hd (show ¬ F5 q from fun h=>by
  rcases q2 q h with g | g
  . exact I.1.1 g
  . have:=H1.1;have:=H.1.size;omega)
 have c4:=P.1.trans (H.1.mono P.1.size);have H4:=Hd (c4.trans (c3.md.below c4.size (fun k hk=>by
  rcases hk with hk | hk | hk
  . have:=B.1;have:=H0.1;omega
  . have:=B.1;have:=H0.1;omega
  . exact Z.1 k hk)))
 have Ha:=Hd (show ∀ k,F5 k->w.heap.size<=k from fun k hk=>by
  rcases q2 k hk with g | g
  . exact Z.1 k g
  . have:=c4.size;omega)
 have Hb:=Hd (show w.heap.size<=q by have:=Q.1;omega)
 rw [show jm 0=.nilIface from rfl]
 clear hK K c3 d2 q1 q2 q3 c4 H Y L M J N O B h4
 try simp only [Nz]
 refine Tk 17 31 ?_;refine Tk 18 32 ?_;refine Dn ?_;clear e8;go_wp2_with fail;refine (G.1 F5 w5 H3.1).mono ?_;rintro ev w6 ⟨pv,o,rfl,a1⟩;obtain ⟨F6,q1,q2,q3,q4⟩:=a1.ex;obtain ⟨ps6,pl6,rfl,b1,b2,n1,n2,nne,a9,a4,b0⟩:=q4 rfl;have a2:=a1.ow;obtain ⟨pa,pc,rfl,_⟩:=a2.slice;rw [show jco.l.length=1 from rfl] at a2 |-
 have a5:=H2.1.mod a1.md H9.1;have T:=Hd (H4.1.trans (a1.md.below H4.1.size (fun k hk=>Ha.1 k hk)))
 have H5:=Hd (show OwnS w6 w5.heap.size (.slice pa 1 pc) jco.l from a2)
 have H7:=Hd (show ∀ k,(Value.slice pa 1 pc).ownBlock=some k->w5.heap.size<=k from fun k hk=>(a2.lt k hk).1)
 have c0:w6.cell? ⟨q,0,none⟩=some (.int .i64 0):=a5.cell 0 _ rfl;have c1:w6.cell? ⟨q,1,none⟩=some (.int .i64 0):=a5.cell 1 _ rfl;have c2:w6.cell? ⟨q,2,none⟩=some (.slice oa 0 oc):=a5.cell 2 _ rfl;have f0:=a5.free 0;have f1:=a5.free 1;have f2:=a5.free 2;have d3:=Mod.set3 q w6 (.int .i64 0) (.int .i64 1) (.slice pa 1 pc);have E:=Hd (show Box (((w6.setCell ⟨q,0,none⟩ (.int .i64 0)).setCell ⟨q,1,none⟩ (.int .i64 1)).setCell ⟨q,2,none⟩ (.slice pa 1 pc)) q #[.int .i64 0,.int .i64 1,.slice pa 1 pc] 30 from ((a5.set 0 (.int .i64 0)).set 1 (.int .i64 1)).set 2 (.slice pa 1 pc))
 have H6:=Hd (H5.1.mod d3 (fun k hk e=>by have:=H7.1 k hk;have:=H2.1.lt;omega))
 have U:=Hd (T.1.trans (d3.below T.1.size (fun k hk=>by have:=Hb.1;omega)))
 clear a1 q1 q2 q3 q4 b1 b2 n1 n2 nne a9 a4 b0 a2 a5 d3 H5 T G H3;go_wp2_with fail;clear c0 c1 c2 f0 f1 f2;generalize (((w6.setCell ⟨q,0,none⟩ (.int .i64 0)).setCell ⟨q,1,none⟩ (.int .i64 1)).setCell ⟨q,2,none⟩ (.slice pa 1 pc))=w7 at E H6 U |-;obtain ⟨rb,ro,e9,b7⟩:=H6.1.rd.row 0 (show 0<jco.l.length from by decide)
 subst e9;have H8:=Hd (show w7.rangeAt rb ro (jN 1 0).s.cells.toList by rw [Nat.zero_mul,qT] at b7;exact b7)
 clear b7;refine qt (S:=fun W=>Below w7.heap.size w7 W) (by kernel_rfl) (jb w7) (fun a3=>?_)
 refine Tk 0 39 ?_;refine Tk 1 40 ?_;refine Tk 2 41 ?_;refine Tk 3 42 ?_;refine Tk 4 43 ?_ (hy:=by intro w' a0;have u1:=Box.cell (E.1.below a0) 2 _ rfl;clear a0;go_simp;try with_reducible rfl)
 refine Tk 5 44 ?_;refine Tk 6 45 ?_;refine Tk 7 46 ?_;refine Tk 8 47 ?_;refine Tk 9 48 ?_;refine Tk 10 49 ?_ (hy:=by intro w' a0;have u1:=Box.cell (E.1.below a0) 2 _ rfl;clear a0;go_simp;try with_reducible rfl)
 refine Tk 11 50 ?_;refine Tk 12 51 ?_ (v:=.agg #[.int .i64 0,.int .i64 1,.int .i64 0,.int .i64 0,.int .i64 0,.string ⟨#[97,110,110]⟩,.string ⟨#[]⟩,.int .u64 7,.int .i64 1,.int .i64 0,.int .i64 1000,.int .i64 0]) (hy:=fun w' a0=>Ek (fun j v hv=>jc a0 (H8.1 j v (by exact hv))) underlying45 (cs:=(#[.int .i64 0,.int .i64 1,.int .i64 0,.int .i64 0,.int .i64 0,.string ⟨#[97,110,110]⟩,.string ⟨#[]⟩,.int .u64 7,.int .i64 1,.int .i64 0,.int .i64 1000,.int .i64 0]).toList))
 refine Rc 13 52 fun K hK=>?_
 go_simp
 refine (yL 1 0 _).mono ?_;rintro e3 w9 ⟨rfl,b4⟩;have d8:=jd a3 b4;refine hK.out _ _ d8 (fun h9=>?_)
 rw [show (jN 1 0).cells=#[.int .i64 0,.int .i64 0,.int .i64 1,.int .i64 0,.int .i64 0,.int .i64 0,.string ⟨#[97,110,110]⟩,.string ⟨#[]⟩,.int .u64 7,.int .i64 1,.int .i64 0,.int .i64 1000,.int .i64 0,.int .i64 0,.int .i64 0] from rfl]
 clear hK K b4 d8 a3
 try simp only [Nz]
 refine wpAnyH_take (i:=14) (oi:=⟨some 53,_,_,_,_,_⟩) (v:=.agg #[.int .i64 0,.int .i64 1,.int .i64 0,.int .i64 0,.int .i64 0,.string ⟨#[97,110,110]⟩,.string ⟨#[]⟩,.int .u64 7,.int .i64 1,.int .i64 0,.int .i64 1000,.int .i64 0]) rfl (by kernel_rfl) (by kernel_rfl) (by kernel_rfl) (fun _ _ _ h=>h) (Or.inl ⟨by kernel_rfl,fun w' a0=>?_⟩) (by assumption) ?_
 . clear a0;kernel_rfl
 try simp only [Nz]
 refine wpAnyH_take (i:=15) (oi:=⟨some 54,_,_,_,_,_⟩) (v:=.bool true) rfl (by kernel_rfl) (by kernel_rfl) (by kernel_rfl) (fun _ _ _ h=>h) (Or.inl ⟨by kernel_rfl,fun w' a0=>?_⟩) (by assumption) ?_
 . clear a0;kernel_rfl
 try simp only [Nz]
 refine Tk 16 55 ?_;refine Tk 17 56 ?_;refine Tk 18 57 ?_;refine Tk 19 58 ?_ (hy:=by intro w' a0;have u1:=Box.cell (E.1.below a0) 1 _ rfl;clear a0;go_simp;try with_reducible rfl)
 refine Tk 20 59 ?_;refine Tk 21 60 ?_;refine Tk 22 0 ?_
 try simp only [Act.put,wG,pp]
 refine Dn ?_;have Hc:=Hd (U.1.trans (h9.mono U.1.size));clear h9;go_wp2;go_ret;exact ⟨rfl,Hc.1⟩
structure LivI (w wr:World)(pd ps pl q:Nat)(F:Nat->Prop)(d:DiskM)(s:StoM)(st:StM)(sv:Value):Prop where
 dk:IsDisk wr d pd F
 sb:StoB wr ps pd s.epoch (.pointer (some ⟨pl,0,none⟩)) s.dead
 lg:yI wr s.log pl pd
 np:¬ F ps/\¬ F pl/\ps≠pl
 nq:¬ F q/\q≠ps/\q≠pl
 lo:(∀ k,F k->w.heap.size<=k)/\w.heap.size<=ps/\w.heap.size<=pl/\w.heap.size<=q
 si:StoI d s st
 al:s.dead=false/\s.log.dead=false
 bx:Box wr q #[st.clock,st.births,sv] 30
 rs:RdS wr sv st.l
 nv:∀ k,sv.ownBlock=some k->¬ F k/\k≠ps/\k≠pl/\k≠q/\k<wr.heap.size
 bel:Below w.heap.size w wr
theorem LivI.below (h:LivI w wr pd ps pl q F d s st sv)(hb:Below wr.heap.size wr w2):LivI w w2 pd ps pl q F d s st sv :=
 ⟨h.dk.grow hb,h.sb.below hb,Box.below h.lg hb,h.np,h.nq,h.lo,h.si,h.al,h.bx.below hb,h.rs.below hb,fun k hk=>by have:=h.nv k hk;exact ⟨this.1,this.2.1,this.2.2.1,this.2.2.2.1,qu this.2.2.2.2 hb.size⟩,h.bel.trans (hb.mono h.bel.size)⟩
theorem LivI.apd {R:StoM × DiskM × Int}(h:LivI w wr pd ps pl q F d s st sv)(ha:Appd wr ps pl pd F R w2):Below w.heap.size w w2/\Box w2 q #[st.clock,st.births,sv] 30 :=
 ⟨h.bel.trans (ha.md.below h.bel.size (fun k hk=>by
  rcases hk with hk | hk | hk
  . have:=h.lo.2.1;omega
  . have:=h.lo.2.2.1;omega
  . exact h.lo.1 k hk)),h.bx.mod ha.md (fun hk=>by
  rcases hk with hk | hk | hk
  . exact h.nq.2.1 hk
  . exact h.nq.2.2 hk
  . exact h.nq.1 hk)⟩
structure NxtI (wr:World)(q q8:Nat)(ps pl:Nat)(F:Nat->Prop)(C B:Int)(o:Value)(L:List SesM):Prop where
 bx:Box wr q8 #[C,B,o] 30
 rs:RdS wr o L
 nq:q8≠q/\¬ F q8/\q8≠ps/\q8≠pl
 nv:∀ k,o.ownBlock=some k->¬ F k/\k≠ps/\k≠pl/\k≠q/\k≠q8/\k<wr.heap.size
theorem jdt {e:EvtM}(h:(jt st e).1=0):jM e=true:=by
 unfold jt at h
 split at h
 . assumption
 . cases h
theorem jk5:yd (yW jI).length=1:=by decide +kernel
theorem jci (l:List EvtM)(ev:Value)(w:World)(f4:RdE w ev l)(g5:∀ e∈l,EvOk e)(hg:ErrType w) :
  Calls prog 4 #[ev] w fun e w'=>e=.returned (.bool true)/\Below w.heap.size w w':=by
 have Hv:=Hd g5;have Hq:=Hd f4;have HG:=Hd hg;have Hw:=Hd hg.lt;obtain ⟨ea,ec,rfl,_,i4⟩:=f4.slice;have i5:l.length<=9223372036854775807:=by omega
 clear f4 g5 i4 hg;obtain ⟨n,hN⟩:=Nm (l.length);rw [<- hN] at i5 Hq |-;have HN:=Hd hN;clear hN;go_enter func4,ntmps4;go_wp2_with fail;refine (zD w).mono ?_;rintro e1 w1 ⟨pd,F,rfl,hd,hb,hF⟩;have Hg:=Hd hb;have HF:=Hd hF;have HD:=Hd hd;clear hb hF hd;go_wp2_with fail;refine (xN w1).mono ?_;rintro e1 w2 ⟨rfl,hb⟩;have L:=Hd (Hg.1.trans (hb.mono Hg.1.size));have Hr:=Hd (HD.1.grow hb);clear hb HD Hg;by_cases hlen:(100:Int)<(n:Int)
 .
  go_wp2_with fail;refine (xN w2).mono ?_;rintro e1 w3 ⟨rfl,hb⟩;have Hx:=Hd (L.1.trans (hb.mono L.1.size));clear hb L;go_wp2;go_ret;exact ⟨rfl,Hx.1⟩
 have Hb:=Hd (show n<=100 by omega)
 have Hs:=Hd (zf _ pd F (.slice none 0 0) [] jI 0 w2 Hr.1 ur (.inl rfl) (by decide) (by decide) (Rd.nil w2) (fun x hx=>by cases hx) (fun h=>absurd h (by decide)) (HG.1.below L.1) (fun h=>by have:=HF.1 0 h;have:=Hw.1;omega))
 go_wp2_with fail;refine (show Calls _ _ #[.pointer (some ⟨pd,0,none⟩),.slice none 0 0] w2 _ from Hs.1).mono ?_
 rintro e1 w3 ⟨ps,o,rfl,hr⟩;obtain ⟨F3,pl,d3,r1,r2,r3,r4,r5,r6,r7,r8,r9,r10,r11,r12,r13,r14⟩:=hr.ex;have c8:=hr.ow;obtain ⟨oa,oc,rfl,_⟩:=c8.slice;rw [show jI.clock=0 from rfl,show jI.births=0 from rfl,show jI.l.length=0 from rfl] at *
 have b0:=ja w3 (.cells #[(0:Int),(0:Int),.slice oa 0 oc] 30);have e2:Below w.heap.size w w3:=L.1.trans (hr.md.below L.1.size (fun k hk=>HF.1 k hk))
 have r14:d3.trail.length=2:=by rw [r14 rfl,jk5];rfl
 obtain ⟨e1,e4⟩:∃ e:UInt32,e=0+1:=⟨_,rfl⟩;have g7:I32 e1=1:=by rw [e4];rfl
 rw [<- e4] at r8 r9 r10;have O:=Hd (show LivI w (w3.alloc (.cells #[(0:Int),(0:Int),.slice oa 0 oc] 30)) pd ps pl w3.heap.size F3 d3 ⟨e1,yt e1,false⟩ jI (.slice oa 0 oc) from
  ⟨r1.grow b0,r8.below b0,Box.below r9 b0,⟨r5,r6,r7⟩,⟨fun h=>by have:=r1.lt _ h;omega,fun h=>by have:=r8.bx.lt;omega,fun h=>by have:=r9.lt;omega⟩,⟨fun k hk=>by
   rcases r2 k hk with g | g
   . exact HF.1 k g
   . have:=L.1.size;omega,by have:=L.1.size;omega,by have:=L.1.size;omega,e2.size⟩,r10,⟨rfl,rfl⟩,Box.new _ _ _,c8.rd.below b0,fun k hk=>⟨(r12 k hk).2.1,(r12 k hk).2.2.1,(r12 k hk).2.2.2,by have:=(c8.lt k hk).2;omega,by have:=(c8.lt k hk).2;rw [qj];omega⟩,e2.trans (b0.mono e2.size)⟩)
 have H0:=Hd r11;have T:=Hd r14;have H1:=Hd (show e1.toNat=1 by rw [e4];rfl)
 have U:=Hd (fun W (h:StoB W ps pd e1 (.pointer (some ⟨pl,0,none⟩)) false)=>xe ps pd e1 _ false W h)
 rw [g7] at U;have Ht:=Hd (fun W h h2=>yP ps pd pl e1 false (yt e1) W h h2)
 have V:=Hd (fun W (h:IsDisk W d3 pd F3)=>zW d3 pd F3 W h)
 rw [r14] at V;clear r1 r2 r3 r4 r5 r6 r7 r8 r9 r10 r11 r12 r13 r14 c8 hr b0 e2 e4 g7 Hs Hr L HF hlen;go_wp2_with fail;generalize (w3.alloc (.cells #[(0:Int),(0:Int),.slice oa 0 oc] 30))=w4 at O |-;generalize w3.heap.size=q at O |-;refine (U.1 w4 O.1.sb).mono ?_;rintro ev w5 ⟨rfl,rfl⟩;go_wp2_with fail;refine (Ht.1 _ O.1.sb O.1.lg).mono ?_;rintro ev w6 ⟨rfl,rfl⟩;rw [show ((yt e1).records:Int)=0 from rfl]
 go_wp2_with fail;refine (V.1 _ O.1.dk).mono ?_;rintro ev w7 ⟨rfl,rfl⟩;clear U Ht V;go_wp2
 go_loopg [7] n (fun gk iv wr=>∃ (k:Nat) (F:Nat->Prop) (pl:Nat) (d:DiskM) (s:StoM) (st:StM) (sv:Value),gk+k=n/\iv=.int .i64 (k:Int)/\LivI w wr pd ps pl q F d s st sv/\d.left=none/\d.trail.length<=2+2060*k/\s.epoch.toNat<=1+k)
 case atStart=>exact ⟨0,F3,pl,d3,_,jI,_,qT _,rfl,O.1,H0.1,by have:=T.1;omega,by have:=H1.1;show e1.toNat<=1+0;omega⟩
 case round =>
  clear O H0 T H1;obtain ⟨k,F,pl,d,s,st,sv,g8,rfl,hI,g9,h7,h8⟩:=hrel;have k0:(0:Int)<=(k:Int):=by omega
  have H2:=Hd g8;have H:=Hd hI;have H0:=Hd g9;have T:=Hd h7;have U:=Hd h8;clear g8 hI g9 h7 h8;by_cases hk:k<n;rotate_left
  .
   have k1:¬ (k:Int)<(n:Int):=by omega
   clear hk;go_wp2;go_ret;exact ⟨rfl,H.1.bel⟩
  have k1:(k:Int)<(n:Int):=by omega
  have f5:k<l.length:=by have:=HN.1;omega
  obtain ⟨e,he⟩:=Nm (l[k]);obtain ⟨rb,ro,i6,b8⟩:=Hq.1.row k f5;subst i6;rw [<- he] at b8;have f6:wr.rangeAt rb (ro+k*15) e.cells.toList:=fun j v hv=>jc H.1.bel (b8 j v hv)
  have Hh:=Hd f6;have Hp:=Hd b8;have HK:=Hd hk;have c9:EvOk e:=by rw [he];exact Hv.1 _ (qy f5)
  have Hc:=Hd c9;obtain ⟨sa,sc,rfl,_⟩:=H.1.rs.slice;obtain ⟨sn,d4⟩:=Nm (st.l.length);obtain ⟨c,e5⟩:=Nm (st.clock);obtain ⟨b,e6⟩:=Nm (st.births);have Hi:=Hd (H.1.si.kept.d.snd);have a8:=fun v' w' h=>vN st e v' w' h (by have:=Hi.1.1.len;omega) (qi c9.user (by decide)) (qi c9.label (by decide)) c9.scopes
  have a7:=H.1.bx;rw [<- d4,<- e5,<- e6] at a7;rw [<- e5,<- e6] at a8;have H6:=Hd a7;have He:=Hd H.1.rs;rw [<- d4] at He;obtain ⟨A,hA⟩:=Nm (jt st e);rw [<- hA] at a8;obtain ⟨er,C2,B2,L2⟩:=A;simp only at a8;have HA:=Hd hA.symm;have Hj:=Hd a8;obtain ⟨m,hM⟩:=Nm (L2.length);have HM:=Hd hM;have N:=Hd (And.intro d4 (And.intro e5 e6));have HI':=Hd (show LivI w wr pd ps pl q F d s st (.slice sa sn sc) by rw [d4];exact H.1)
  clear hk f5 he f6 b8 c9 d4 e5 e6 a8 a7 hA hM H
  go_upto_region 10 with (fail)
  go_cut [8,9] (fun s8 s9 wx=>∃ (q8:Nat) (o:Value),s8=.pointer (some ⟨q8,0,none⟩)/\s9=.bool (er==0)/\LivI w wx pd ps pl q F d s st (.slice sa sn sc)/\NxtI wx q q8 ps pl F C2 B2 o L2)
  case first =>
   refine qt (S:=fun W=>Below wr.heap.size wr W) (by kernel_rfl) (jb wr) (fun a9=>?_)
   refine Tk 0 57 ?_ (v:=.agg #[c,b,.slice sa sn sc]) (hy:=fun w' b9=>Ek (jj (H6.1.below b9)) underlying30)
   refine Tk 1 58 ?_;refine Tk 2 59 ?_;refine Tk 3 60 ?_;refine Tk 4 61 ?_ (v:=.agg e.cells) (hy:=fun w' b9=>Ek (fun j v hv=>jc b9 (Hh.1 j v hv)) underlying47 (cs:=(e.cells).toList))
   refine pD (rs := [5,9]) (by kernel_rfl) (by simp) (wJ (o:=⟨some 62,.call _,_,_,_,_⟩) rfl (fun K hK=>?_) (wJ (o:=⟨some 8,.alloc _,_,_,_,_⟩) rfl (fun K hK=>?_) px))
   .
    skip
    go_simp
    refine (Hj.1 _ _ (He.1.below a9)).mono ?_;rintro e3 w5 ⟨o,rfl,ho,c5⟩;have d5:=jd a9 c5;refine hK.out _ _ d5 (fun h5=>?_)
    obtain ⟨oa,oc,rfl,_⟩:=ho.slice;rw [<- HM.1] at ho |-;have X:=Hd ho;clear ho;clear hK K c5 d5
    try simp only [Nz]
    refine Tk 6 56 ?_;refine Tk 7 63 ?_;refine Tk 8 64 ?_;refine Ra 9 8 fun K hK=>?_
    go_simp
    have b0:=ja w5 (.cells #[(0:Int),(0:Int),.slice none 0 0] 30);have d6:=jd h5 b0;refine hK.out _ _ d6 (fun h6=>?_)
    have C:=Hd (Box.new w5 #[(0:Int),(0:Int),.slice none 0 0] 30);have E:=Hd (show wr.heap.size<=(w5).heap.size from (h5).size)
    have Hu:=Hd (X.1.below b0);have P:=Hd (show ∀ k,(Value.slice oa m oc).ownBlock=some k->k≠w5.heap.size from fun k hk=>by have:=(X.1.lt k hk).2;omega)
    have H7:=Hd (show wr.heap.size<=wr.drew.heap.size from qm _)
    clear X;have X:=Hu;clear Hu;clear hK K d6 b0
    try simp only [Nz]
    refine Rs 10 30 8 63 fun K hK=>?_
    rw [qf (by kernel_rfl)]
    refine yw 30 (.tmp 8) (.tmp 63) rfl (w5.heap.size) 0 [C2,B2,.slice oa m oc] rfl rfl C.1.there3 (by kernel_rfl) (jc5 _ _ _ _ _) ?_
    obtain ⟨d7,a0⟩:=C.1.set3 C2 B2 (.slice oa m oc);have c3:=(h6).trans (a0.below (B:=wr.heap.size) (h6).size (fun i hi=>by have:=E.1;omega))
    refine hK.out _ _ c3 (fun d8=>?_)
    have b7:=HI'.1.below c3;have Y:=Hd (And.intro b7 (show NxtI _ q (w5.heap.size) ps pl F C2 B2 (.slice oa m oc) L2 from
     ⟨d7,((X.1).mod a0 (fun k hk e=>P.1 k hk e)).rd,⟨by have h1:=HI'.1.bx.lt;have h2:wr.heap.size<=w5.heap.size:=E.1;omega,fun h=>by have h1:=HI'.1.dk.lt _ h;have h2:wr.heap.size<=w5.heap.size:=E.1;omega,by have h1:=HI'.1.sb.bx.lt;have h2:wr.heap.size<=w5.heap.size:=E.1;omega,by have h1:=HI'.1.lg.lt;have h2:wr.heap.size<=w5.heap.size:=E.1;omega⟩,
     fun k hk=>by
      have h3:=X.1.lt k hk;have h4:wr.heap.size<=k:=qi H7.1 h3.1;refine ⟨fun h=>by have:=HI'.1.dk.lt _ h;omega,by have:=HI'.1.sb.bx.lt;omega,by have:=HI'.1.lg.lt;omega,by have:=HI'.1.bx.lt;omega,P.1 k hk,?_⟩
      exact qu h3.2 a0.size⟩))
    clear hK K d7 a0 c3 b7 C E X P H7;generalize (World.setCells _ _ _ _)=w9 at Y d8 |-
    try simp only [Act.put]
    refine Tk 11 9 ?_;refine Dn ?_;clear a9 d8;go_wp2;go_meet;exact ⟨_,_,rfl,rfl,Y.1.1,Y.1.2⟩
   .
    skip
    go_simp
    have b0:=ja wr.drew (.cells #[(0:Int),(0:Int),.slice none 0 0] 30);have d5:=jd a9 b0;refine hK.out _ _ d5 (fun h5=>?_)
    have C:=Hd (Box.new wr.drew #[(0:Int),(0:Int),.slice none 0 0] 30);have E:=Hd (show wr.heap.size<=(wr.drew).heap.size from (a9).size)
    clear hK K d5 b0
    try simp only [Nz]
    refine Rc 5 62 fun K hK=>?_
    have HX9:=C;clear C
    go_simp
    refine (Hj.1 _ _ (He.1.below h5)).mono ?_;rintro e3 w6 ⟨o,rfl,ho,c5⟩;have d6:=jd h5 c5;refine hK.out _ _ d6 (fun h6=>?_)
    have C:=Hd (HX9.1.below c5);have H7:=Hd (show wr.heap.size<=(wr.drew.alloc (.cells #[(0:Int),(0:Int),.slice none 0 0] 30)).heap.size from h5.size)
    have P:=Hd (show ∀ k,o.ownBlock=some k->k≠wr.drew.heap.size from fun k hk=>by have h1:(wr.drew.alloc (.cells #[(0:Int),(0:Int),.slice none 0 0] 30)).heap.size<=k:=(ho.lt k hk).1;have h2:=HX9.1.lt;omega)
    clear HX9;obtain ⟨oa,oc,rfl,_⟩:=ho.slice;rw [<- HM.1] at ho P |-;have X:=Hd ho;clear ho;clear hK K c5 d6
    try simp only [Nz]
    refine Tk 6 56 ?_;refine Tk 7 63 ?_;refine Tk 8 64 ?_;refine Rs 10 30 8 63 fun K hK=>?_
    rw [qf (by kernel_rfl)]
    refine yw 30 (.tmp 8) (.tmp 63) rfl (wr.drew.heap.size) 0 [C2,B2,.slice oa m oc] rfl rfl C.1.there3 (by kernel_rfl) (jc5 _ _ _ _ _) ?_
    obtain ⟨d7,a0⟩:=C.1.set3 C2 B2 (.slice oa m oc);have c3:=(h6).trans (a0.below (B:=wr.heap.size) (h6).size (fun i hi=>by have:=E.1;omega))
    refine hK.out _ _ c3 (fun d8=>?_)
    have b7:=HI'.1.below c3;have Y:=Hd (And.intro b7 (show NxtI _ q (wr.drew.heap.size) ps pl F C2 B2 (.slice oa m oc) L2 from
     ⟨d7,((X.1).mod a0 (fun k hk e=>P.1 k hk e)).rd,⟨by have h1:=HI'.1.bx.lt;have h2:wr.heap.size<=wr.drew.heap.size:=E.1;omega,fun h=>by have h1:=HI'.1.dk.lt _ h;have h2:wr.heap.size<=wr.drew.heap.size:=E.1;omega,by have h1:=HI'.1.sb.bx.lt;have h2:wr.heap.size<=wr.drew.heap.size:=E.1;omega,by have h1:=HI'.1.lg.lt;have h2:wr.heap.size<=wr.drew.heap.size:=E.1;omega⟩,
     fun k hk=>by
      have h3:=X.1.lt k hk;have h4:wr.heap.size<=k:=qi H7.1 h3.1;refine ⟨fun h=>by have:=HI'.1.dk.lt _ h;omega,by have:=HI'.1.sb.bx.lt;omega,by have:=HI'.1.lg.lt;omega,by have:=HI'.1.bx.lt;omega,P.1 k hk,?_⟩
      exact qu h3.2 a0.size⟩))
    clear hK K d7 a0 c3 b7 C E X P H7;generalize (World.setCells _ _ _ _)=w9 at Y d8 |-
    try simp only [Act.put]
    refine Tk 11 9 ?_;refine Dn ?_;clear a9 d8;go_wp2;go_meet;exact ⟨_,_,rfl,rfl,Y.1.1,Y.1.2⟩
  case rest =>
   obtain ⟨q8,o,rfl,rfl,b7,h9⟩:=hcut;have H:=Hd b7;have C:=Hd h9;clear HI' H6 He Hj b7 h9 Hh;by_cases h0:er=0;rotate_left
   .
    rw [show (er==0)=false by simpa using h0]
    clear h0 C;have Hy:=Hd (show LivI w wc pd ps pl q F d s st (.slice sa sn sc) from H.1)
    go_wp2
    go_roundg (n-(k+1))
    case measure=>have:=H2.1;have:=HK.1;omega
    case rel=>exact ⟨k+1,F,pl,d,s,st,_,by have:=H2.1;have:=HK.1;omega,by go_num,Hy.1,H0.1,by have:=T.1;omega,by have:=U.1;omega⟩
   subst h0;rw [show ((0:Int)==0)=true from rfl]
   have f7:=jdt (show (jt st e).1=0 by rw [HA.1])
   have d9:s.epoch.toNat<4294967295:=by have:=U.1;have:=Hb.1;have:=HK.1;omega
   have f8:=(ul H.1.si H.1.al.1 H.1.al.2 d9 HA.1 f7 Hc.1.scopes).resolve_right (fun h=>h.2.1 H0.1)
   have c6:=jd5 e H.1.si d9 H0.1;have e0:=jaI s d e st H.1.si.len.2;obtain ⟨st0,evs,c4⟩:=H.1.si.img;obtain ⟨g1,g2,g3⟩:=c4.log.same;have i3:s.log.records<=16:=by rw [<- c4.used];exact c4.log.le
   have a8:=fun W h=>xx s d e st (.slice sa sn sc) ps pl pd F W (LivI.sb h) (LivI.lg h) (LivI.dk (w:=w) (q:=q) (s:=s) (st:=st) (sv:=.slice sa sn sc) h) H.1.np.1 H.1.np.2.1 H.1.np.2.2 (LivI.rs h) (fun k hk=>by have:=LivI.nv h k hk;exact ⟨this.1,this.2.1,this.2.2.1,this.2.2.2.2⟩) (jdw Hi.1.1 Hi.1.2) (qi Hc.1.user (by decide)) (qi Hc.1.label (by decide)) Hc.1.scopes (by have:=T.1;have:=Hb.1;have:=HK.1;omega) H.1.si.len.1 (by rw [g1,g2];exact H.1.si.len.1) c4.log.le2 (by omega)
   obtain ⟨R,hR⟩:=Nm (s.append d e st);rw [<- hR] at f8 c6 e0 a8;obtain ⟨s2,d2,er2⟩:=R;simp only at f8 c6 e0 a8;obtain ⟨y0,y1,y2,y3,y4,y5⟩:=f8;subst y0;rw [show jm 0=.nilIface from rfl,<- N.1.2.1,<- N.1.2.2] at a8
   -- the numbers
   obtain ⟨x,hx⟩:=Nm (I32 s.epoch);obtain ⟨x2,e7⟩:=Nm (I32 s2.epoch);obtain ⟨tn,e8⟩:=Nm (d.trail.length);obtain ⟨tn2,c7⟩:=Nm (d2.trail.length);obtain ⟨r,hr⟩:=Nm (s.log.records);obtain ⟨r2,e9⟩:=Nm (s2.log.records);have f9:=jir s.epoch;have V:=Hd (fun W (h:IsDisk W d pd F)=>zW d pd F W h)
   have H1:=Hd (fun W h=>xe ps pd s.epoch (.pointer (some ⟨pl,0,none⟩)) s.dead W h)
   have Hk:=Hd (fun W h h2=>yP ps pd pl s.epoch s.dead s.log W h h2)
   have Z:=Hd (fun W (F:Nat->Prop) (h:IsDisk W d2 pd F)=>zW d2 pd F W h)
   have Q:=Hd (fun pl W h=>xe ps pd s2.epoch (.pointer (some ⟨pl,0,none⟩)) s2.dead W h)
   have H8:=Hd (fun pl W h h2=>yP ps pd pl s2.epoch s2.dead s2.log W h h2)
   rw [<- e8] at V;rw [<- hx] at H1 f9;rw [<- hr] at Hk;rw [<- c7] at Z;rw [<- e7] at Q;rw [<- e9] at H8;have f3:(x2=x/\r2=r+1/\tn2=tn+1)\/(x2=x+1/\r=16/\r2=1/\∃ m,1<=m/\m<=24/\tn2=tn+(m+2)):=by
    rcases y5 with ⟨a1,a2,a3⟩ | ⟨a1,a2,a3,m,a4,a5,a6⟩
    .
     left
     exact ⟨by rw [e7,hx];exact congrArg I32 a1,by rw [e9,hr];exact a2,by rw [c7,e8];exact a3⟩
    .
     right
     refine ⟨?_,by rw [hr];exact a2,by rw [e9];exact a3,m,a4,a5,by rw [c7,e8];exact a6⟩
     rw [e7,hx];unfold I32;have a1:s2.epoch.toNat=s.epoch.toNat+1:=a1;omega
   have G:=Hd (show StoI d2 s2 ⟨C2,B2,L2⟩/\s2.dead=false/\s2.log.dead=false/\d2.left=none/\d2.trail.length<=2+2060*(k+1)/\s2.epoch.toNat<=1+(k+1) from ⟨y3,y1,y2,c6,by have:=T.1;omega,by have:=U.1;omega⟩)
   have Hl:=Hd a8;have Hm:=Hd f3;have tb:(tn:Int)<=1000000:=by have:=T.1;have:=Hb.1;have:=HK.1;omega
   have tb2:(tn2:Int)<=1000000:=by have:=G.1.2.2.2.2.1;have:=Hb.1;have:=HK.1;omega
   have rb1:(r:Int)<=16:=by omega
   clear f7 d9 c6 e0 c4 g1 g2 g3 i3 a8 hR y1 y2 y3 y4 y5 hx e7 e8 c7 hr e9 f3;obtain ⟨f9,j0⟩:=f9;go_wp2_with fail;refine (V.1 _ H.1.dk).mono ?_;rintro ev wa ⟨rfl,rfl⟩;go_wp2_with fail;refine (H1.1 _ H.1.sb).mono ?_;rintro ev wb ⟨rfl,rfl⟩;go_wp2_with fail;refine (Hk.1 _ H.1.sb H.1.lg).mono ?_;rintro ev wd ⟨rfl,rfl⟩;have H6:=Hd (show Box wd q #[c,b,.slice sa sn sc] 30 by rw [N.1.2.1,N.1.2.2];exact H.1.bx)
   clear V H1 Hk;go_wp2;refine qt (S:=fun W=>Box W q #[c,b,.slice sa sn sc] 30/\Below w.heap.size w W) (by kernel_rfl) ⟨H6.1.below (jb wd),H.1.bel.trans ((jb wd).mono H.1.bel.size)⟩ (fun a9=>?_)
   refine Tk 0 73 ?_;refine Tk 1 74 ?_;refine Tk 2 75 ?_;refine Tk 3 76 ?_;refine Tk 4 77 ?_ (v:=.agg e.cells) (hy:=fun w' b9=>Ek (fun j v hv=>jc b9.2 (Hp.1 j v hv)) underlying47 (cs:=(e.cells).toList))
   refine Tk 5 78 ?_ (v:=.agg #[c,b,.slice sa sn sc]) (hy:=fun w' b9=>Ek (jj b9.1) underlying30)
   refine Rc 6 79 fun K hK=>?_
   go_simp
   have g0:=H.1.below (jb wd);refine (show Calls _ _ #[.pointer (some ⟨ps,0,none⟩),.agg e.cells,.agg #[c,b,.slice sa sn sc]] wd.drew _ from Hl.1 wd.drew g0).mono ?_
   rintro e3 w5 ⟨rfl,g4⟩;obtain ⟨p1,p2⟩:=g0.apd g4;have p3:Box w5 q #[c,b,.slice sa sn sc] 30:=by rw [N.1.2.1,N.1.2.2];exact p2
   refine hK.out _ _ ⟨p3,p1⟩ (fun i0=>?_)
   have H9:=Hd g4;clear hK K g0 g4 p1 p2 p3 a9
   try simp only [Nz]
   refine Tk 7 80 ?_;refine Dn ?_;obtain ⟨F5,pl5,q1,q2,q3,q4,q5,q6,q7,q8n⟩:=H9.1.ex;have i1:=H.1.bx.lt;have Hz:=Hd (show q<wd.heap.size from i1)
   have H3:=Hd (show IsDisk w5 d2 pd F5 from q1)
   have J:=Hd (show StoB w5 ps pd s2.epoch (.pointer (some ⟨pl5,0,none⟩)) s2.dead from q4)
   have H4:=Hd (show yI w5 s2.log pl5 pd from q5)
   have M:=Hd ((C.1.bx.below (jb wd)).mod H9.1.md (fun h=>by
    rcases h with h | h | h
    . exact C.1.nq.2.2.1 h
    . exact C.1.nq.2.2.2 h
    . exact C.1.nq.2.1 h))
   have Ha:=Hd ((C.1.rs.below (jb wd)).mod H9.1.md (fun k hk h=>by
    have h1:=C.1.nv k hk
    rcases h with h | h | h
    . exact h1.2.1 h
    . exact h1.2.2.1 h
    . exact h1.1 h))
   obtain ⟨oa,oc,rfl,_⟩:=C.1.rs.slice;rw [<- HM.1] at M Ha;have HX9:=C;have D:=Hd (show ¬ F5 q/\q≠ps/\q≠pl5/\¬ F5 ps/\¬ F5 pl5/\ps≠pl5/\(∀ k,F5 k->w.heap.size<=k)/\w.heap.size<=ps/\w.heap.size<=pl5/\w.heap.size<=q from
    ⟨fun h=>by
     rcases q2 q h with g | g
     . exact H.1.nq.1 g
     .
      have g:wd.heap.size<=q:=g
      omega,H.1.nq.2.1,fun h=>by
     rcases q3 with g | g
     . exact H.1.nq.2.2 (h.trans g)
     .
      have g:wd.heap.size<=pl5:=g
      omega,q6,q7,q8n,fun k hk=>by
     rcases q2 k hk with g | g
     . exact H.1.lo.1 k g
     . exact qi H.1.bel.size g,H.1.lo.2.1,by
     rcases q3 with g | g
     . rw [g];exact H.1.lo.2.2.1
     . exact qi H.1.bel.size g,H.1.lo.2.2.2⟩)
   have I:=Hd (show ∀ k,(Value.slice oa m oc).ownBlock=some k->¬ F5 k/\k≠ps/\k≠pl5/\k≠q/\k<wd.heap.size from fun k hk=>by
    rw [HM.1] at hk;have h1:=HX9.1.nv k hk;refine ⟨fun h=>?_,h1.2.1,fun h=>?_,h1.2.2.2.1,h1.2.2.2.2.2⟩
    .
     rcases q2 k h with g | g
     . exact h1.1 g
     .
      have g:wd.heap.size<=k:=g;omega
    .
     rcases q3 with g | g
     . exact h1.2.2.1 (h.trans g)
     .
      have g:wd.heap.size<=pl5:=g
      omega)
   have Hf:=Hd (show q8≠q from HX9.1.nq.1)
   have H5:=Hd i0;have Hn:=Hd (show wd.heap.size<=w5.heap.size from H9.1.md.size)
   clear q1 q2 q3 q4 q5 q6 q7 q8n i1 C HX9 H9 H i0 Hl H6
   rcases Hm.1 with ⟨a1,a2,a3⟩ | ⟨a1,a2,a3,mm,a4,a5,a6⟩
   .
    clear Hm;subst a1;subst a2;have hs:(tn2:Int)-(tn:Int)=1:=by omega
    clear a3;go_wp2_with fail;refine (Z.1 w5 F5 H3.1).mono ?_;rintro ev we ⟨rfl,rfl⟩;go_wp2_with fail;refine (Q.1 pl5 w5 J.1).mono ?_;rintro ev wf ⟨rfl,rfl⟩;go_wp2_with fail;refine (H8.1 pl5 wf J.1 H4.1).mono ?_;rintro ev wg ⟨rfl,rfl⟩;go_wp2_with fail;refine (Q.1 pl5 wg J.1).mono ?_;rintro ev wh ⟨rfl,rfl⟩;have a7:=H5.1.1;obtain ⟨c0,f0,c1,f1,c2,f2⟩:=B3 a7;obtain ⟨d0,d1,d2'⟩:=C3 M.1;have a0:=Mod.set3 q wh C2 B2 (.slice oa m oc);have b6:=H5.1.2;have Ho:=Hd (show LivI w (((wh.setCell ⟨q,0,none⟩ C2).setCell ⟨q,1,none⟩ B2).setCell ⟨q,2,none⟩ (.slice oa m oc)) pd ps pl5 q F5 d2 s2 ⟨C2,B2,L2⟩ (.slice oa m oc) from
     ⟨H3.1.mod a0 (fun k hk e=>D.1.1 (by rw [<- e];exact hk)),J.1.mod a0 (fun e=>D.1.2.1 e.symm),Box.mod H4.1 a0 (fun e=>D.1.2.2.1 e.symm),⟨D.1.2.2.2.1,D.1.2.2.2.2.1,D.1.2.2.2.2.2.1⟩,⟨D.1.1,D.1.2.1,D.1.2.2.1⟩,D.1.2.2.2.2.2.2,G.1.1,⟨G.1.2.1,G.1.2.2.1⟩,((a7.set 0 C2).set 1 B2).set 2 (.slice oa m oc),Ha.1.mod a0 (fun k hk e=>(I.1 k hk).2.2.2.1 e),fun k hk=>⟨(I.1 k hk).1,(I.1 k hk).2.1,(I.1 k hk).2.2.1,(I.1 k hk).2.2.2.1,qu (I.1 k hk).2.2.2.2 (qi Hn.1 a0.size)⟩,b6.trans (a0.below b6.size (fun k hk=>by have:=D.1.2.2.2.2.2.2.2.2.2;omega))⟩)
    have i7:¬ q8=q:=Hf.1;have i8:¬ q=q8:=fun e=>Hf.1 e.symm
    clear a7 a0 b6 H3 J H4 Ha M H5 Z Q H8;go_wp2
    go_roundg (n-(k+1))
    case measure=>have:=H2.1;have:=HK.1;omega
    case rel=>exact ⟨k+1,F5,pl5,d2,s2,⟨C2,B2,L2⟩,_,by have:=H2.1;have:=HK.1;omega,by go_num,Ho.1,G.1.2.2.2.1,G.1.2.2.2.2.1,G.1.2.2.2.2.2⟩
   clear Hm;subst a1;subst a3;have hs:(tn2:Int)-(tn:Int)=((mm+2:Nat):Int):=by omega
   obtain ⟨m2,i2⟩:=Nm (mm+2);rw [<- i2] at hs;have b1:decide ((m2:Int)<3)=false:=by simp;omega
   have b2:¬ (m2:Int)<3:=by omega
   have b3:decide ((26:Int)<(m2:Int))=false:=by simp;omega
   have b4:¬ (26:Int)<(m2:Int):=by omega
   have b5:(x+1==x)=false:=by simp;omega
   have i9:(r:Int)=16:=by omega
   clear a2 a4 a5 a6 i2;go_wp2_with fail;refine (Z.1 w5 F5 H3.1).mono ?_;rintro ev we ⟨rfl,rfl⟩;go_wp2_with fail;refine (Q.1 pl5 w5 J.1).mono ?_;rintro ev wf ⟨rfl,rfl⟩;go_wp2_with fail;refine (Q.1 pl5 wf J.1).mono ?_;rintro ev wg ⟨rfl,rfl⟩;go_wp2_with fail;refine (Q.1 pl5 wg J.1).mono ?_;rintro ev wg2 ⟨rfl,rfl⟩;go_wp2_with fail;refine (H8.1 pl5 wg2 J.1 H4.1).mono ?_;rintro ev wh ⟨rfl,rfl⟩;have a7:=H5.1.1;obtain ⟨c0,f0,c1,f1,c2,f2⟩:=B3 a7;obtain ⟨d0,d1,d2'⟩:=C3 M.1;have a0:=Mod.set3 q wh C2 B2 (.slice oa m oc);have b6:=H5.1.2;have Ho:=Hd (show LivI w (((wh.setCell ⟨q,0,none⟩ C2).setCell ⟨q,1,none⟩ B2).setCell ⟨q,2,none⟩ (.slice oa m oc)) pd ps pl5 q F5 d2 s2 ⟨C2,B2,L2⟩ (.slice oa m oc) from
    ⟨H3.1.mod a0 (fun k hk e=>D.1.1 (by rw [<- e];exact hk)),J.1.mod a0 (fun e=>D.1.2.1 e.symm),Box.mod H4.1 a0 (fun e=>D.1.2.2.1 e.symm),⟨D.1.2.2.2.1,D.1.2.2.2.2.1,D.1.2.2.2.2.2.1⟩,⟨D.1.1,D.1.2.1,D.1.2.2.1⟩,D.1.2.2.2.2.2.2,G.1.1,⟨G.1.2.1,G.1.2.2.1⟩,((a7.set 0 C2).set 1 B2).set 2 (.slice oa m oc),Ha.1.mod a0 (fun k hk e=>(I.1 k hk).2.2.2.1 e),fun k hk=>⟨(I.1 k hk).1,(I.1 k hk).2.1,(I.1 k hk).2.2.1,(I.1 k hk).2.2.2.1,qu (I.1 k hk).2.2.2.2 (qi Hn.1 a0.size)⟩,b6.trans (a0.below b6.size (fun k hk=>by have:=D.1.2.2.2.2.2.2.2.2.2;omega))⟩)
   have i7:¬ q8=q:=Hf.1;have i8:¬ q=q8:=fun e=>Hf.1 e.symm
   clear a7 a0 b6 H3 J H4 Ha M H5 Z Q H8;go_wp2
   go_roundg (n-(k+1))
   case measure=>have:=H2.1;have:=HK.1;omega
   case rel=>exact ⟨k+1,F5,pl5,d2,s2,⟨C2,B2,L2⟩,_,by have:=H2.1;have:=HK.1;omega,by go_num,Ho.1,G.1.2.2.2.1,G.1.2.2.2.2.1,G.1.2.2.2.2.2⟩
structure FailM where
 at_:Int
 writes:Int
 v:Value
 cuts:List Int
def FailM.cells (x:FailM):List Value := [.int .i64 x.at_,.int .i64 x.writes,x.v]
structure FailM.Ok (W:World)(x:FailM):Prop where
 at_ : -9223372036854775808<=x.at_/\x.at_<=9223372036854775807
 writes : -9223372036854775808<=x.writes/\x.writes<=9223372036854775807
 rd:Rd W x.v x.cuts.length (x.cuts.map (Value.int .i64))
 ok:∀ y∈x.cuts,I64 y
def FailM.zero:FailM:=⟨0,0,.slice none 0 0,[]⟩
theorem jgv (l:List FailM)(k j:Nat)(hk:k<l.length)(hj:j<3):(l.flatMap FailM.cells).getD (k*3+j) undef=(l[k]).cells.getD j undef:=by
 have:=uV FailM.cells 3 (fun _=>rfl) (by omega) FailM.zero l k j hk hj
 rw [this];simp [List.getD,hk]
theorem jje {W:World}{a:Option Addr}{n c:Nat}{l:List FailM}(h:Rd W (.slice a n c) n (l.flatMap FailM.cells))(k:Nat)(hk:k<l.length) :
  ∃ b off,a=some ⟨b,off,none⟩/\W.cell? ⟨b,off+k*3,none⟩=some (.int .i64 l[k].at_)/\W.cell? ⟨b,off+k*3+1,none⟩=some (.int .i64 l[k].writes)/\W.cell? ⟨b,off+k*3+2,none⟩=some l[k].v:=by
 have a1:(l.flatMap FailM.cells).length=l.length*3:=vC FailM.cells 3 (fun _=>rfl) l
 obtain ⟨a0,cap0,g1,_,_,_,g2⟩:=h;injection g1 with g1 _ g3
 subst g1;obtain ⟨b,off,f1,f2⟩:=g2 (k*3+0) (by rw [a1];omega)
 have hc:∀ j,j<3->W.cell? ⟨b,off+k*3+j,none⟩=some ((l[k]).cells.getD j undef):=fun j hj=>by
  obtain ⟨b1,off1,f3,f4⟩:=g2 (k*3+j) (by rw [a1];omega)
  rw [f1] at f3;injection f3 with f3;injection f3 with f7 f8
  subst f7;subst f8;rw [wC,f4,jgv l k j hk hj]
 exact ⟨b,off,f1,hc 0 (by omega),hc 1 (by omega),hc 2 (by omega)⟩
def jiK (fs:List FailM)(v:Value)(l:List Int):Prop:=(v=.slice none 0 0/\l = [])\/∃ f∈fs,v=f.v/\l=f.cuts
theorem jiC (fs:List FailM)(fv:Value)(i n:Int)(w:World)(hr:Rd w fv fs.length (fs.flatMap FailM.cells))(a5:∀ f∈fs,(-9223372036854775808<=f.at_/\f.at_<=9223372036854775807)/\∃ a c,f.v=.slice a f.cuts.length c)(a6 : -9223372036854775808<=n)(a7:n<=9223372036854775807) :
  Calls prog 15 #[fv,i,n] w fun e w'=>∃ v,e=.returned v/\(∃ l,jiK fs v l)/\∃ k,w'=w.drewN k:=by
 obtain ⟨fa,fc,rfl⟩:∃ a c,fv=.slice a fs.length c:=by obtain ⟨a,c,h,_⟩:=hr;exact ⟨a,c,h⟩
 obtain ⟨fn,a1⟩:=Nm (fs.length);have b3:fs.length<=9223372036854775807:=by obtain ⟨_,_,e,h1,h2,_⟩:=hr;injection e with _ e2 e3;omega
 rw [<- a1] at hr b3 |-;have J:=Hd hr;have F:=Hd a5;have G:=Hd a1;have I:=Hd (And.intro a6 a7);clear hr a5 a1 a6 a7;go_enter func15,ntmps15;go_wp2
 go_loopg [7,8] fn (fun gk cv iv wr=>∃ (k:Nat) (l:List Int),gk+k=fn/\iv=.int .i64 (k:Int)/\k<=5/\jiK fs cv l/\wr=w)
 case atStart=>exact ⟨0,[],qT _,rfl,by omega,.inl ⟨rfl,rfl⟩,rfl⟩
 case round =>
  obtain ⟨k,l,a8,rfl,a9,b0,rfl⟩:=hrel;have k0:(0:Int)<=(k:Int):=by omega
  have H:=Hd a8;have K:=Hd a9;have A:=Hd b0;clear a8 a9 b0;by_cases hk:k<fn;rotate_left
  .
   have k1:¬ (k:Int)<(fn:Int):=by omega
   have k2:decide ((k:Int)<(fn:Int))=false:=by simpa using k1
   clear hk;go_wp2;go_ret;exact ⟨_,rfl,⟨l,A.1⟩,0,rfl⟩
  have k1:(k:Int)<(fn:Int):=by omega
  have k2:decide ((k:Int)<(fn:Int))=true:=by simpa using k1
  have B:=Hd hk;by_cases h5:k<5;rotate_left
  .
   have k3:¬ (k:Int)<5:=by omega
   have k4:decide ((k:Int)<5)=false:=by simpa using k3
   clear hk h5;go_wp2;go_ret;exact ⟨_,rfl,⟨l,A.1⟩,0,rfl⟩
  have k3:(k:Int)<5:=by omega
  have k4:decide ((k:Int)<5)=true:=by simpa using k3
  have C:=Hd h5;have a2:k<fs.length:=by have:=G.1;omega
  obtain ⟨fb,fo,b4,b5,b1,a3⟩:=jje J.1 k a2;subst b4;obtain ⟨f,hf⟩:=Nm (fs[k]);rw [<- hf] at b5 b1 a3;have a0:f∈fs:=by rw [hf];exact qy a2
  obtain ⟨a4,a,c,hv⟩:=F.1 f a0;have D:=Hd (fun W=>vu f.at_ n W a4.1 a4.2 I.1.1 I.1.2)
  obtain ⟨y,hy⟩:=Nm (uN f.at_ n);rw [<- hy] at D;have E:=Hd (show jiK fs (.slice a f.cuts.length c) f.cuts from .inr ⟨f,a0,hv.symm,rfl⟩)
  rw [hv] at a3;obtain ⟨fl,b2⟩:=Nm (f.cuts.length);rw [<- b2] at a3 E;clear hk h5 a2 hf a0 a4 hv hy b2 b1;go_wp2_with fail;refine (D.1 _).mono ?_;rintro ev w2 ⟨rfl,rfl⟩
  cases hq:(y==i)
  .
   go_wp2
   go_roundg (fn-(k+1))
   case measure=>have:=H.1;have:=B.1;omega
   case rel=>exact ⟨k+1,l,by have:=H.1;have:=B.1;omega,by go_num,by have:=C.1;omega,A.1,rfl⟩
  .
   go_wp2
   go_roundg (fn-(k+1))
   case measure=>have:=H.1;have:=B.1;omega
   case rel=>exact ⟨k+1,f.cuts,by have:=H.1;have:=B.1;omega,by go_num,by have:=C.1;omega,E.1,rfl⟩
theorem je4 (e:EvtM)(c b:Int)(va:Option Addr)(n vc ps pd:Nat)(ep:UInt32)(lv:Value)(w:World)(h:StoB w ps pd ep lv true) :
  Calls prog 13 #[.pointer (some ⟨ps,0,none⟩),.agg e.cells,.agg #[c,b,.slice va n vc]] w fun r w'=>r=.returned (.iface 91 (22:Int))/\Below w.heap.size w w':=by
 have a0:=jl w (.cells e.cells 47) (.cells #[c,b,.slice va n vc] 30);have c3:((w.alloc (.cells e.cells 47)).alloc (.cells #[c,b,.slice va n vc] 30)).cell? ⟨ps,3,none⟩=some (.bool true):=(h.bx.below a0).cell 3 _ rfl;have H:=Hd a0;clear a0 h;go_enter func13,ntmps13;go_wp2;go_ret;exact ⟨rfl,H.1⟩
theorem jcQ (st:StM):jcq st st=true:=by simp [jcq,vS]
theorem LivI.cut {F2:Nat->Prop}(h:LivI w wr pd ps pl q F d s st sv)(m:Nat)(hd:IsDisk w2 { d with left:=some m } pd F2)(hm:Mod F wr w2)(hF:∀ k,F2 k->F k\/wr.heap.size<=k):LivI w w2 pd ps pl q F2 { d with left:=some m } s st sv:=by
 have hn:∀ k,k<wr.heap.size->¬ F k->¬ F2 k:=fun k hk hf h=>(hF k h).elim hf (fun g=>by omega)
 exact ⟨hd,h.sb.mod hm h.np.1,Box.mod h.lg hm h.np.2.1,⟨hn _ h.sb.bx.lt h.np.1,hn _ h.lg.lt h.np.2.1,h.np.2.2⟩,⟨hn _ h.bx.lt h.nq.1,h.nq.2⟩,⟨fun k hk=>(hF k hk).elim (h.lo.1 k) (fun g=>qi h.bel.size g),h.lo.2⟩,h.si.left _,h.al,h.bx.mod hm h.nq.1,h.rs.mod hm (fun k hk=>(h.nv k hk).1),fun k hk=>by
  have h1:=h.nv k hk;exact ⟨hn _ h1.2.2.2.2 h1.1,h1.2.1,h1.2.2.1,h1.2.2.2.1,qu h1.2.2.2.2 hm.size⟩,h.bel.trans (hm.below h.bel.size (fun k hk=>h.lo.1 k hk))⟩
theorem vW (l:List EvtM)(ev:Value)(fs:List FailM)(fv:Value)(w:World)(e8:RdE w ev l)(g8:∀ e∈l,EvOk e)(c5:Rd w fv fs.length (fs.flatMap FailM.cells))(g9:∀ f∈fs,f.Ok w)(hg:ErrType w) :
  Calls prog 3 #[ev,fv] w fun e w'=>e=.returned (.bool true)/\Below w.heap.size w w':=by
 have Af:=Hd g8;have A2:=Hd e8;have HG:=Hd hg;have Hq:=Hd hg.lt;have Hh:=Hd g9;obtain ⟨ea,ec,rfl,_,k6⟩:=e8.slice;have k7:l.length<=9223372036854775807:=by omega
 obtain ⟨fa,fc,rfl⟩:∃ a c,fv=.slice a fs.length c:=by obtain ⟨a,c,h,_⟩:=c5;exact ⟨a,c,h⟩
 have k8:fs.length<=9223372036854775807:=by obtain ⟨_,_,e,h1,h2,_⟩:=c5;injection e with _ e2 e3;omega
 clear e8 g8 k6 hg g9;obtain ⟨n,hN⟩:=Nm (l.length);obtain ⟨fn,e9⟩:=Nm (fs.length);rw [<- hN] at k7 A2 |-;rw [<- e9] at k8 c5 |-;have HN:=Hd hN;have A3:=Hd e9;have A4:=Hd c5;clear hN e9 c5;go_enter func3,ntmps3;go_wp2_with fail;refine (zD w).mono ?_;rintro e1 w1 ⟨pd,F,rfl,hd,hb,hF⟩;have Hr:=Hd hb;have HF:=Hd hF;have HD:=Hd hd;clear hb hF hd;go_wp2_with fail;refine (xN w1).mono ?_;rintro e1 w2 ⟨rfl,hb⟩;have L:=Hd (Hr.1.trans (hb.mono Hr.1.size));have A5:=Hd (HD.1.grow hb);clear hb HD Hr;by_cases hlen:(150:Int)<(n:Int)
 .
  go_wp2_with fail;refine (xN w2).mono ?_;rintro e1 w3 ⟨rfl,hb⟩;have Ag:=Hd (L.1.trans (hb.mono L.1.size));clear hb L;go_wp2;go_ret;exact ⟨rfl,Ag.1⟩
 have Y:=Hd (show n<=150 by omega)
 have O:=Hd (zf _ pd F (.slice none 0 0) [] jI 0 w2 A5.1 ur (.inl rfl) (by decide) (by decide) (Rd.nil w2) (fun x hx=>by cases hx) (fun h=>absurd h (by decide)) (HG.1.below L.1) (fun h=>by have:=HF.1 0 h;have:=Hq.1;omega))
 go_wp2_with fail;refine (show Calls _ _ #[.pointer (some ⟨pd,0,none⟩),.slice none 0 0] w2 _ from O.1).mono ?_
 rintro e1 w3 ⟨ps,o,rfl,hr⟩;obtain ⟨F3,pl,d3,r1,r2,r3,r4,r5,r6,r7,r8,r9,r10,r11,r12,r13,r14⟩:=hr.ex;have a5:=hr.ow;obtain ⟨oa,oc,rfl,_⟩:=a5.slice;rw [show jI.clock=0 from rfl,show jI.births=0 from rfl,show jI.l.length=0 from rfl] at *
 have a0:=ja w3 (.cells #[(0:Int),(0:Int),.slice oa 0 oc] 30);have d9:Below w.heap.size w w3:=L.1.trans (hr.md.below L.1.size (fun k hk=>HF.1 k hk))
 obtain ⟨e1,f3⟩:∃ e:UInt32,e=0+1:=⟨_,rfl⟩;rw [<- f3] at r8 r9 r10;have Hi:=Hd (show LivI w (w3.alloc (.cells #[(0:Int),(0:Int),.slice oa 0 oc] 30)) pd ps pl w3.heap.size F3 d3 ⟨e1,yt e1,false⟩ jI (.slice oa 0 oc) from
  ⟨r1.grow a0,r8.below a0,Box.below r9 a0,⟨r5,r6,r7⟩,⟨fun h=>by have:=r1.lt _ h;omega,fun h=>by have:=r8.bx.lt;omega,fun h=>by have:=r9.lt;omega⟩,⟨fun k hk=>by
   rcases r2 k hk with g | g
   . exact HF.1 k g
   . have:=L.1.size;omega,by have:=L.1.size;omega,by have:=L.1.size;omega,d9.size⟩,r10,⟨rfl,rfl⟩,Box.new _ _ _,a5.rd.below a0,fun k hk=>⟨(r12 k hk).2.1,(r12 k hk).2.2.1,(r12 k hk).2.2.2,by have:=(a5.lt k hk).2;omega,by have:=(a5.lt k hk).2;rw [qj];omega⟩,d9.trans (a0.mono d9.size)⟩)
 have I:=Hd (show d3.trail.length<=20000 by simpa using r13)
 have A6:=Hd (show e1.toNat=1 by rw [f3];rfl)
 clear r1 r2 r3 r4 r5 r6 r7 r8 r9 r10 r11 r12 r13 r14 a5 hr a0 d9 f3 O A5 L HF hlen;go_wp2_with fail;generalize (w3.alloc (.cells #[(0:Int),(0:Int),.slice oa 0 oc] 30))=w4 at Hi |-;generalize w3.heap.size=q at Hi |-
 go_loopg [6,9] n (fun gk pv iv wr=>∃ (k:Nat) (F:Nat->Prop) (ps pl:Nat) (d:DiskM) (s:StoM) (st:StM) (sv:Value),gk+k=n/\pv=.pointer (some ⟨ps,0,none⟩)/\iv=.int .i64 (k:Int)/\LivI w wr pd ps pl q F d s st sv/\d.trail.length<=20000+30000*k/\s.epoch.toNat<=1+2*k)
 case atStart=>exact ⟨0,F3,ps,pl,d3,_,jI,_,qT _,rfl,rfl,Hi.1,by have:=I.1;omega,by have:=A6.1;show e1.toNat<=1+2*0;omega⟩
 case round =>
  clear Hi I A6;obtain ⟨k,F,ps,pl,d,s,st,sv,h9,rfl,rfl,hI,c6,i0⟩:=hrel;have k0:(0:Int)<=(k:Int):=by omega
  have P:=Hd h9;have H:=Hd hI;have I:=Hd c6;have H3:=Hd i0;clear h9 hI c6 i0;by_cases hk:k<n;rotate_left
  .
   have k1:¬ (k:Int)<(n:Int):=by omega
   have k2:decide ((k:Int)<(n:Int))=false:=by simpa using k1
   clear hk;have b0:=zf d pd F (.slice none 0 0) [] st s.epoch wr H.1.dk H.1.si.kept.d (.inl rfl) (by have:=H3.1;have:=Y.1;have:=P.1;omega) (by have:=I.1;have:=Y.1;have:=P.1;omega) (Rd.nil wr) (fun x hx=>by cases hx) (fun h=>absurd h (by decide)) (HG.1.below H.1.bel) (fun h=>by have:=H.1.lo.1 0 h;have:=Hq.1;omega)
   obtain ⟨c,b6⟩:=Nm (st.clock);obtain ⟨b,b7⟩:=Nm (st.births);obtain ⟨sn,b1⟩:=Nm (st.l.length);have b2:=fun v v' W h h'=>zQ st st v v' W h h'
   rw [jcQ] at b2;have a4:=H.1.bx;obtain ⟨sa,sc,rfl,_⟩:=H.1.rs.slice;have f4:=H.1.rs;rw [<- b6,<- b7] at b0 b2 a4;rw [<- b1] at a4 f4;have f5:=H.1.nv;rw [<- b1] at f5;have O:=Hd b0;have H6:=Hd b2;have Q:=Hd a4;have Z:=Hd f4;have M:=Hd f5;have H7:=Hd b1;clear b0 b2 a4 f4 f5 b6 b7 b1;go_wp2_with fail;refine (show Calls _ _ #[.pointer (some ⟨pd,0,none⟩),.slice none 0 0] wr _ from O.1).mono ?_
   rintro ev w5 ⟨ps5,o,rfl,hr⟩;obtain ⟨oa,oc,rfl,_⟩:=hr.ow.slice;have a5:=hr.ow.rd;rw [<- H7.1] at a5 |-;have a0:=ja w5 (.cells #[c,b,.slice oa sn oc] 30);have hx:=(Q.1.mod hr.md H.1.nq.1).below a0;obtain ⟨c0,c1,c2⟩:=C3 hx;have A7:=Hd (H6.1 (.slice oa sn oc) (.slice sa sn sc) _ (a5.below a0) ((Z.1.mod hr.md (fun k hk=>(M.1 k hk).1)).below a0))
   have f6:=H.1.bel.trans (hr.md.below H.1.bel.size (fun k hk=>H.1.lo.1 k hk))
   have T:=Hd (f6.trans (a0.mono f6.size));clear a5 a0 hx f6 hr Q Z M O H6 H;go_wp2_with fail;refine (show Calls _ _ #[.agg #[c,b,.slice oa sn oc],.agg #[c,b,.slice sa sn sc]] _ _ from A7.1).mono ?_
   rintro ev w7 ⟨rfl,hb⟩;have H8:=Hd (T.1.trans (hb.mono T.1.size));clear hb T A7;go_wp2;go_ret;exact ⟨rfl,H8.1⟩
  have k1:(k:Int)<(n:Int):=by omega
  have k2:decide ((k:Int)<(n:Int))=true:=by simpa using k1
  have X:=Hd hk;clear hk;go_wp2
  go_loopg [10] fn (fun gj jv wr=>∃ (j:Nat) (F:Nat->Prop) (d:DiskM),gj+j=fn/\jv=.int .i64 (j:Int)/\LivI w wr pd ps pl q F d s st sv/\d.trail.length<=20000+30000*k)
  case atStart=>exact ⟨0,F,d,qT _,rfl,H.1,I.1⟩
  case round =>
   clear H I;obtain ⟨j,F,d,i1,rfl,hI,c6⟩:=hrel;have j0:(0:Int)<=(j:Int):=by omega
   have Hj:=Hd i1;have H:=Hd hI;have I:=Hd c6;clear i1 hI c6;by_cases hj5:j<fn/\j<5;rotate_left
   .
    go_upto_region 9 with (fail)
    go_cut [55] (fun s wx=>s=.bool false/\wr=wx)
    case first =>
     by_cases hj:j<fn
     .
      have j1:(j:Int)<(fn:Int):=by omega
      have j3:¬ (j:Int)<5:=by omega
      clear hj hj5;go_wp2;go_meet;exact ⟨rfl,rfl⟩
     .
      have j1:¬ (j:Int)<(fn:Int):=by omega
      clear hj hj5;go_wp2;go_meet;exact ⟨rfl,rfl⟩
    case rest =>
     obtain ⟨rfl,rfl⟩:=hcut;clear hj5;have f7:k<l.length:=by have:=HN.1;have:=X.1;omega
     obtain ⟨e,he⟩:=Nm (l[k]);obtain ⟨rb,ro,k9,b5⟩:=A2.1.row k f7;subst k9;rw [<- he] at b5;have f8:wr.rangeAt rb (ro+k*15) e.cells.toList:=fun j v hv=>jc H.1.bel (b5 j v hv)
     have Hs:=Hd f8;have Hk:=Hd b5;have c7:EvOk e:=by rw [he];exact Af.1 _ (qy f7)
     have Hl:=Hd c7;obtain ⟨sa,sc,rfl,_⟩:=H.1.rs.slice;obtain ⟨sn,b1⟩:=Nm (st.l.length);obtain ⟨c,b6⟩:=Nm (st.clock);obtain ⟨b,b7⟩:=Nm (st.births);have H7:=Hd (H.1.si.kept.d.snd);have a6:=fun v' w' h=>vN st e v' w' h (by have:=H7.1.1.len;omega) (qi c7.user (by decide)) (qi c7.label (by decide)) c7.scopes
     have a4:=H.1.bx;rw [<- b1,<- b6,<- b7] at a4;rw [<- b6,<- b7] at a6;have Q:=Hd a4;have Z:=Hd H.1.rs;rw [<- b1] at Z;obtain ⟨A,hA⟩:=Nm (jt st e);rw [<- hA] at a6;obtain ⟨er,C2,B2,L2⟩:=A;simp only at a6;have HA:=Hd hA.symm;have Ht:=Hd a6;obtain ⟨m,hM⟩:=Nm (L2.length);have HM:=Hd hM;have E:=Hd (And.intro b1 (And.intro b6 b7));have HI':=Hd (show LivI w wr pd ps pl q F d s st (.slice sa sn sc) by rw [b1];exact H.1)
     clear f7 he f8 b5 c7 b1 b6 b7 a6 a4 hA hM H
     go_upto_region 13 with (fail)
     go_cut [11,12] (fun s11 s12 wx=>∃ (q8:Nat) (o:Value),s11=.pointer (some ⟨q8,0,none⟩)/\s12=.bool (er==0)/\LivI w wx pd ps pl q F d s st (.slice sa sn sc)/\NxtI wx q q8 ps pl F C2 B2 o L2)
     case first =>
      refine qt (S:=fun W=>Below wr.heap.size wr W) (by kernel_rfl) (jb wr) (fun a2=>?_)
      refine Tk 0 77 ?_ (v:=.agg #[c,b,.slice sa sn sc]) (hy:=fun w' a9=>Ek (jj (Q.1.below a9)) underlying30)
      refine Tk 1 78 ?_;refine Tk 2 79 ?_;refine Tk 3 80 ?_;refine Tk 4 81 ?_ (v:=.agg e.cells) (hy:=fun w' a9=>Ek (fun j v hv=>jc a9 (Hs.1 j v hv)) underlying47 (cs:=(e.cells).toList))
      refine pD (rs := [5,9]) (by kernel_rfl) (by simp) (wJ (o:=⟨some 82,.call _,_,_,_,_⟩) rfl (fun K hK=>?_) (wJ (o:=⟨some 11,.alloc _,_,_,_,_⟩) rfl (fun K hK=>?_) px))
      .
       skip
       go_simp
       refine (Ht.1 _ _ (Z.1.below a2)).mono ?_;rintro e3 w5 ⟨o,rfl,ho,a3⟩;have c8:=jd a2 a3;refine hK.out _ _ c8 (fun h5=>?_)
       obtain ⟨oa,oc,rfl,_⟩:=ho.slice;rw [<- HM.1] at ho |-;have HO:=Hd ho;clear ho;clear hK K a3 c8
       try simp only [Nz]
       refine Tk 6 76 ?_;refine Tk 7 83 ?_;refine Tk 8 84 ?_;refine Ra 9 11 fun K hK=>?_
       go_simp
       have a0:=ja w5 (.cells #[(0:Int),(0:Int),.slice none 0 0] 30);have b3:=jd h5 a0;refine hK.out _ _ b3 (fun h6=>?_)
       have C:=Hd (Box.new w5 #[(0:Int),(0:Int),.slice none 0 0] 30);have D:=Hd (show wr.heap.size<=(w5).heap.size from (h5).size)
       have A8:=Hd (HO.1.below a0);have U:=Hd (show ∀ k,(Value.slice oa m oc).ownBlock=some k->k≠w5.heap.size from fun k hk=>by have:=(HO.1.lt k hk).2;omega)
       have H9:=Hd (show wr.heap.size<=wr.drew.heap.size from qm _)
       clear HO;have HO:=A8;clear A8;clear hK K b3 a0
       try simp only [Nz]
       refine Rs 10 30 11 83 fun K hK=>?_
       rw [qf (by kernel_rfl)]
       refine yw 30 (.tmp 11) (.tmp 83) rfl (w5.heap.size) 0 [C2,B2,.slice oa m oc] rfl rfl C.1.there3 (by kernel_rfl) (jc5 _ _ _ _ _) ?_
       obtain ⟨c9,a1⟩:=C.1.set3 C2 B2 (.slice oa m oc);have b8:=(h6).trans (a1.below (B:=wr.heap.size) (h6).size (fun i hi=>by have:=D.1;omega))
       refine hK.out _ _ b8 (fun d4=>?_)
       have b4:=HI'.1.below b8;have H0:=Hd (And.intro b4 (show NxtI _ q (w5.heap.size) ps pl F C2 B2 (.slice oa m oc) L2 from
        ⟨c9,((HO.1).mod a1 (fun k hk e=>U.1 k hk e)).rd,⟨by have h1:=HI'.1.bx.lt;have h2:wr.heap.size<=w5.heap.size:=D.1;omega,fun h=>by have h1:=HI'.1.dk.lt _ h;have h2:wr.heap.size<=w5.heap.size:=D.1;omega,by have h1:=HI'.1.sb.bx.lt;have h2:wr.heap.size<=w5.heap.size:=D.1;omega,by have h1:=HI'.1.lg.lt;have h2:wr.heap.size<=w5.heap.size:=D.1;omega⟩,
        fun k hk=>by
         have h3:=HO.1.lt k hk;have h4:wr.heap.size<=k:=qi H9.1 h3.1;refine ⟨fun h=>by have:=HI'.1.dk.lt _ h;omega,by have:=HI'.1.sb.bx.lt;omega,by have:=HI'.1.lg.lt;omega,by have:=HI'.1.bx.lt;omega,U.1 k hk,?_⟩
         exact qu h3.2 a1.size⟩))
       clear hK K c9 a1 b8 b4 C D HO U H9;generalize (World.setCells _ _ _ _)=w9 at H0 d4 |-
       try simp only [Act.put]
       refine Tk 11 12 ?_;refine Dn ?_;clear a2 d4;go_wp2;go_meet;exact ⟨_,_,rfl,rfl,H0.1.1,H0.1.2⟩
      .
       skip
       go_simp
       have a0:=ja wr.drew (.cells #[(0:Int),(0:Int),.slice none 0 0] 30);have c8:=jd a2 a0;refine hK.out _ _ c8 (fun h5=>?_)
       have C:=Hd (Box.new wr.drew #[(0:Int),(0:Int),.slice none 0 0] 30);have D:=Hd (show wr.heap.size<=(wr.drew).heap.size from (a2).size)
       clear hK K c8 a0
       try simp only [Nz]
       refine Rc 5 82 fun K hK=>?_
       have HX9:=C;clear C
       go_simp
       refine (Ht.1 _ _ (Z.1.below h5)).mono ?_;rintro e3 w6 ⟨o,rfl,ho,a3⟩;have b3:=jd h5 a3;refine hK.out _ _ b3 (fun h6=>?_)
       have C:=Hd (HX9.1.below a3);have H9:=Hd (show wr.heap.size<=(wr.drew.alloc (.cells #[(0:Int),(0:Int),.slice none 0 0] 30)).heap.size from h5.size)
       have U:=Hd (show ∀ k,o.ownBlock=some k->k≠wr.drew.heap.size from fun k hk=>by have h1:(wr.drew.alloc (.cells #[(0:Int),(0:Int),.slice none 0 0] 30)).heap.size<=k:=(ho.lt k hk).1;have h2:=HX9.1.lt;omega)
       clear HX9;obtain ⟨oa,oc,rfl,_⟩:=ho.slice;rw [<- HM.1] at ho U |-;have HO:=Hd ho;clear ho;clear hK K a3 b3
       try simp only [Nz]
       refine Tk 6 76 ?_;refine Tk 7 83 ?_;refine Tk 8 84 ?_;refine Rs 10 30 11 83 fun K hK=>?_
       rw [qf (by kernel_rfl)]
       refine yw 30 (.tmp 11) (.tmp 83) rfl (wr.drew.heap.size) 0 [C2,B2,.slice oa m oc] rfl rfl C.1.there3 (by kernel_rfl) (jc5 _ _ _ _ _) ?_
       obtain ⟨c9,a1⟩:=C.1.set3 C2 B2 (.slice oa m oc);have b8:=(h6).trans (a1.below (B:=wr.heap.size) (h6).size (fun i hi=>by have:=D.1;omega))
       refine hK.out _ _ b8 (fun d4=>?_)
       have b4:=HI'.1.below b8;have H0:=Hd (And.intro b4 (show NxtI _ q (wr.drew.heap.size) ps pl F C2 B2 (.slice oa m oc) L2 from
        ⟨c9,((HO.1).mod a1 (fun k hk e=>U.1 k hk e)).rd,⟨by have h1:=HI'.1.bx.lt;have h2:wr.heap.size<=wr.drew.heap.size:=D.1;omega,fun h=>by have h1:=HI'.1.dk.lt _ h;have h2:wr.heap.size<=wr.drew.heap.size:=D.1;omega,by have h1:=HI'.1.sb.bx.lt;have h2:wr.heap.size<=wr.drew.heap.size:=D.1;omega,by have h1:=HI'.1.lg.lt;have h2:wr.heap.size<=wr.drew.heap.size:=D.1;omega⟩,
        fun k hk=>by
         have h3:=HO.1.lt k hk;have h4:wr.heap.size<=k:=qi H9.1 h3.1;refine ⟨fun h=>by have:=HI'.1.dk.lt _ h;omega,by have:=HI'.1.sb.bx.lt;omega,by have:=HI'.1.lg.lt;omega,by have:=HI'.1.bx.lt;omega,U.1 k hk,?_⟩
         exact qu h3.2 a1.size⟩))
       clear hK K c9 a1 b8 b4 C D HO U H9;generalize (World.setCells _ _ _ _)=w9 at H0 d4 |-
       try simp only [Act.put]
       refine Tk 11 12 ?_;refine Dn ?_;clear a2 d4;go_wp2;go_meet;exact ⟨_,_,rfl,rfl,H0.1.1,H0.1.2⟩
     case rest =>
      obtain ⟨q8,o,rfl,rfl,b4,i2⟩:=hcut;have H:=Hd b4;have C:=Hd i2;clear HI' Q Z Ht b4 i2 Hs;by_cases h0:er=0;rotate_left
      .
       rw [show (er==0)=false by simpa using h0]
       clear h0 C;go_wp2
       go_roundg (n-(k+1))
       case measure=>have:=P.1;have:=X.1;omega
       case rel=>exact ⟨k+1,F,ps,pl,d,s,st,_,by have:=P.1;have:=X.1;omega,rfl,by go_num,H.1,by have:=I.1;omega,by have:=H3.1;omega⟩
      subst h0;rw [show ((0:Int)==0)=true from rfl]
      have f9:=jdt (show (jt st e).1=0 by rw [HA.1])
      have k4:s.epoch.toNat<4294967290:=by have:=H3.1;have:=Y.1;have:=X.1;omega
      have e0:=ul H.1.si H.1.al.1 H.1.al.2 (by omega) HA.1 f9 Hl.1.scopes
      have d7:=jaI s d e st H.1.si.len.2;obtain ⟨st0,evs,b9⟩:=H.1.si.img;obtain ⟨g1,g2,g3⟩:=b9.log.same;have k5:s.log.records<=16:=by rw [<- b9.used];exact b9.log.le
      have a6:=fun W h=>xx s d e st (.slice sa sn sc) ps pl pd F W (LivI.sb h) (LivI.lg h) (LivI.dk (w:=w) (q:=q) (s:=s) (st:=st) (sv:=.slice sa sn sc) h) H.1.np.1 H.1.np.2.1 H.1.np.2.2 (LivI.rs h) (fun k hk=>by have:=LivI.nv h k hk;exact ⟨this.1,this.2.1,this.2.2.1,this.2.2.2.2⟩) (jdw H7.1.1 H7.1.2) (qi Hl.1.user (by decide)) (qi Hl.1.label (by decide)) Hl.1.scopes (by have:=I.1;have:=Y.1;have:=X.1;omega) H.1.si.len.1 (by rw [g1,g2];exact H.1.si.len.1) b9.log.le2 (by omega)
      obtain ⟨R,hR⟩:=Nm (s.append d e st);rw [<- hR] at e0 d7 a6;obtain ⟨s2,d2,er2⟩:=R;simp only at e0 d7 a6;rw [<- E.1.2.1,<- E.1.2.2] at a6;have Hu:=Hd a6;have A9:=Hd e0;have Hv:=Hd (show d2.trail.length<=20000+30000*k+2060 by have:=I.1;omega)
      clear f9 k4 e0 d7 b9 g1 g2 g3 k5 a6 hR;obtain ⟨wd,i3⟩:=Nm (wc);rw [<- i3] at H C |-;clear i3;have Q:=Hd (show Box wd q #[c,b,.slice sa sn sc] 30 by rw [E.1.2.1,E.1.2.2];exact H.1.bx)
      go_wp2;refine qt (S:=fun W=>Box W q #[c,b,.slice sa sn sc] 30/\Below w.heap.size w W) (by kernel_rfl) ⟨Q.1.below (jb wd),H.1.bel.trans ((jb wd).mono H.1.bel.size)⟩ (fun a2=>?_)
      refine Tk 0 87 ?_;refine Tk 1 88 ?_;refine Tk 2 89 ?_;refine Tk 3 90 ?_;refine Tk 4 91 ?_ (v:=.agg e.cells) (hy:=fun w' a9=>Ek (fun j v hv=>jc a9.2 (Hk.1 j v hv)) underlying47 (cs:=(e.cells).toList))
      refine Tk 5 92 ?_ (v:=.agg #[c,b,.slice sa sn sc]) (hy:=fun w' a9=>Ek (jj a9.1) underlying30)
      refine Rc 6 93 fun K hK=>?_
      go_simp
      have g0:=H.1.below (jb wd);refine (show Calls _ _ #[.pointer (some ⟨ps,0,none⟩),.agg e.cells,.agg #[c,b,.slice sa sn sc]] wd.drew _ from Hu.1 wd.drew g0).mono ?_
      rintro e3 w5 ⟨rfl,g4⟩;obtain ⟨p1,p2⟩:=g0.apd g4;have p3:Box w5 q #[c,b,.slice sa sn sc] 30:=by rw [E.1.2.1,E.1.2.2];exact p2
      refine hK.out _ _ ⟨p3,p1⟩ (fun i4=>?_)
      have H4:=Hd g4;clear hK K g0 g4 p1 p2 p3 a2
      try simp only [Nz]
      refine Tk 7 13 ?_;refine Dn ?_;obtain ⟨F5,pl5,q1,q2,q3,q4,q5,q6,q7,q8n⟩:=H4.1.ex;have i5:=H.1.bx.lt;have Hm:=Hd (show IsDisk w5 d2 pd F5 from q1)
      have Ha:=Hd (show StoB w5 ps pd s2.epoch (.pointer (some ⟨pl5,0,none⟩)) s2.dead from q4)
      have Hw:=Hd (show yI w5 s2.log pl5 pd from q5)
      have N:=Hd ((C.1.bx.below (jb wd)).mod H4.1.md (fun h=>by
       rcases h with h | h | h
       . exact C.1.nq.2.2.1 h
       . exact C.1.nq.2.2.2 h
       . exact C.1.nq.2.1 h))
      have Hn:=Hd ((C.1.rs.below (jb wd)).mod H4.1.md (fun k hk h=>by
       have h1:=C.1.nv k hk
       rcases h with h | h | h
       . exact h1.2.1 h
       . exact h1.2.2.1 h
       . exact h1.1 h))
      have Hb:=Hd ((H.1.rs.below (jb wd)).mod H4.1.md (fun k hk h=>by
       have h1:=H.1.nv k hk
       rcases h with h | h | h
       . exact h1.2.1 h
       . exact h1.2.2.1 h
       . exact h1.1 h))
      obtain ⟨oa,oc,rfl,_⟩:=C.1.rs.slice;rw [<- HM.1] at N Hn;have J:=Hd (show ¬ F5 q/\q≠ps/\q≠pl5/\¬ F5 ps/\¬ F5 pl5/\ps≠pl5/\(∀ k,F5 k->w.heap.size<=k)/\w.heap.size<=ps/\w.heap.size<=pl5/\w.heap.size<=q from
       ⟨fun h=>by
        rcases q2 q h with g | g
        . exact H.1.nq.1 g
        .
         have g:wd.heap.size<=q:=g
         omega,H.1.nq.2.1,fun h=>by
        rcases q3 with g | g
        . exact H.1.nq.2.2 (h.trans g)
        .
         have g:wd.heap.size<=pl5:=g
         omega,q6,q7,q8n,fun k hk=>by
        rcases q2 k hk with g | g
        . exact H.1.lo.1 k g
        . exact qi H.1.bel.size g,H.1.lo.2.1,by
        rcases q3 with g | g
        . rw [g];exact H.1.lo.2.2.1
        . exact qi H.1.bel.size g,H.1.lo.2.2.2⟩)
      have d8:∀ k,k<wd.heap.size->¬ F k->k≠pl->¬ F5 k/\k≠pl5:=fun k h1 h2 h3=>⟨fun h=>by
        rcases q2 k h with g | g
        . exact h2 g
        .
         have g:wd.heap.size<=k:=g
         omega,fun h=>by
        rcases q3 with g | g
        . exact h3 (h.trans g)
        .
         have g:wd.heap.size<=pl5:=g
         omega⟩
      have M:=Hd (show ∀ k,(Value.slice oa m oc).ownBlock=some k->¬ F5 k/\k≠ps/\k≠pl5/\k≠q/\k<wd.heap.size from fun k hk=>by
       rw [HM.1] at hk;have h1:=C.1.nv k hk;have h2:=d8 k h1.2.2.2.2.2 h1.1 h1.2.2.1;exact ⟨h2.1,h1.2.1,h2.2,h1.2.2.2.1,h1.2.2.2.2.2⟩)
      have Ae:=Hd (show ∀ k,(Value.slice sa sn sc).ownBlock=some k->¬ F5 k/\k<wd.heap.size from fun k hk=>by
       have h1:=H.1.nv k hk;exact ⟨(d8 k h1.2.2.2.2 h1.1 h1.2.2.1).1,h1.2.2.2.2⟩)
      have Hx:=Hd (show q8≠q from C.1.nq.1)
      have H1:=Hd i4;have Hc:=Hd (show wd.heap.size<=w5.heap.size/\q<wd.heap.size from ⟨H4.1.md.size,i5⟩)
      clear q1 q2 q3 q4 q5 q6 q7 q8n i5 d8 C H4 H i4 Hu Q
      rcases A9.1 with ⟨y0,y1,y2,y3,y4,_⟩ | ⟨y0,_,y1,ep',y2,y3⟩
      .
       subst y0;rw [show jm 0=.nilIface from rfl]
       have Ho:=Hd (show StoI d2 s2 ⟨C2,B2,L2⟩/\s2.dead=false/\s2.log.dead=false/\s2.epoch.toNat<=1+2*(k+1) from ⟨y3,y1,y2,by have:=H3.1;omega⟩)
       have a4:=H1.1.1;obtain ⟨c0,f0,c1,f1,c2,f2⟩:=B3 a4;obtain ⟨d0,d1,d2'⟩:=C3 N.1;have a1:=Mod.set3 q w5 C2 B2 (.slice oa m oc);have a7:=H1.1.2;have Hy:=Hd (show LivI w (((w5.setCell ⟨q,0,none⟩ C2).setCell ⟨q,1,none⟩ B2).setCell ⟨q,2,none⟩ (.slice oa m oc)) pd ps pl5 q F5 d2 s2 ⟨C2,B2,L2⟩ (.slice oa m oc) from
        ⟨Hm.1.mod a1 (fun k hk e=>J.1.1 (by rw [<- e];exact hk)),Ha.1.mod a1 (fun e=>J.1.2.1 e.symm),Box.mod Hw.1 a1 (fun e=>J.1.2.2.1 e.symm),⟨J.1.2.2.2.1,J.1.2.2.2.2.1,J.1.2.2.2.2.2.1⟩,⟨J.1.1,J.1.2.1,J.1.2.2.1⟩,J.1.2.2.2.2.2.2,Ho.1.1,⟨Ho.1.2.1,Ho.1.2.2.1⟩,((a4.set 0 C2).set 1 B2).set 2 (.slice oa m oc),Hn.1.mod a1 (fun k hk e=>(M.1 k hk).2.2.2.1 e),fun k hk=>⟨(M.1 k hk).1,(M.1 k hk).2.1,(M.1 k hk).2.2.1,(M.1 k hk).2.2.2.1,qu (M.1 k hk).2.2.2.2 (qi Hc.1.1 a1.size)⟩,a7.trans (a1.below a7.size (fun k hk=>by have:=J.1.2.2.2.2.2.2.2.2.2;omega))⟩)
       have l0:¬ q8=q:=Hx.1;have l1:¬ q=q8:=fun e=>Hx.1 e.symm
       clear a4 a1 a7 Hm Ha Hw Hn N H1 y1 y2 y3 y4 Hb;go_wp2
       go_roundg (n-(k+1))
       case measure=>have:=P.1;have:=X.1;omega
       case rel=>exact ⟨k+1,F5,ps,pl5,d2,s2,⟨C2,B2,L2⟩,_,by have:=P.1;have:=X.1;omega,rfl,by go_num,Hy.1,by have:=Hv.1;omega,Ho.1.2.2.2⟩
      subst y0;rw [y1] at Ha;rw [show jm 22=.iface 91 (22:Int) from rfl]
      have Aa:=Hd y3;have Hz:=Hd y2;clear y1 y2 y3 N Hn M Hx Hw A9;go_wp2;refine qt (S:=fun W=>Box W q #[c,b,.slice sa sn sc] 30/\Below w.heap.size w W) (by kernel_rfl) ⟨H1.1.1.below (jb w5),H1.1.2.trans ((jb w5).mono H1.1.2.size)⟩ (fun a2=>?_)
      refine Tk 0 97 ?_;refine Rc 1 98 fun K hK=>?_
      go_simp
      refine (show Calls _ _ #[.iface 91 (22:Int),(22:Int)] _ _ from xI 22 _ (by decide) (by decide) (HG.1.below a2.2)).mono ?_
      rintro e3 w6 ⟨rfl,a3⟩;have b3:Box w6 q #[c,b,.slice sa sn sc] 30/\Below w.heap.size w w6:=⟨a2.1.below a3,a2.2.trans (a3.mono a2.2.size)⟩;refine hK.out _ _ b3 (fun h6=>?_)
      have T:=Hd (jd (jb w5) a3);clear a3;clear hK K b3
      try simp only [Nz]
      refine Tk 2 99 ?_;refine Tk 3 100 ?_;refine Tk 4 101 ?_;refine Tk 5 102 ?_;refine Tk 6 103 ?_;refine Tk 7 104 ?_;refine Tk 8 105 ?_ (v:=.agg e.cells) (hy:=fun w' a9=>Ek (fun j v hv=>jc a9.2 (Hk.1 j v hv)) underlying47 (cs:=(e.cells).toList))
      refine Tk 9 106 ?_ (v:=.agg #[c,b,.slice sa sn sc]) (hy:=fun w' a9=>Ek (jj a9.1) underlying30)
      refine Rc 10 107 fun K hK=>?_
      go_simp
      refine (show Calls _ _ #[.pointer (some ⟨ps,0,none⟩),.agg e.cells,.agg #[c,b,.slice sa sn sc]] w6 _ from je4 e c b sa sn sc ps pd s2.epoch _ w6 ((show StoB w5 ps pd s2.epoch _ true from Ha.1).below T.1)).mono ?_
      rintro e3 w7 ⟨rfl,a3⟩;have i6:Box w7 q #[c,b,.slice sa sn sc] 30/\Below w.heap.size w w7:=⟨h6.1.below a3,h6.2.trans (a3.mono h6.2.size)⟩;refine hK.out _ _ i6 (fun h7=>?_)
      have H8:=Hd (T.1.trans (a3.mono T.1.size));clear a3;clear hK K i6
      try simp only [Nz]
      refine Rc 11 108 fun K hK=>?_
      go_simp
      refine (show Calls _ _ #[.iface 91 (22:Int),(22:Int)] w7 _ from xI 22 w7 (by decide) (by decide) (HG.1.below h7.2)).mono ?_
      rintro e3 w8 ⟨rfl,a3⟩;have i7:Box w8 q #[c,b,.slice sa sn sc] 30/\Below w.heap.size w w8:=⟨h7.1.below a3,h7.2.trans (a3.mono h7.2.size)⟩;refine hK.out _ _ i7 (fun h8=>?_)
      have N:=Hd (H8.1.trans (a3.mono H8.1.size));clear a3;clear hK K i7
      try simp only [Nz]
      refine Tk 12 109 ?_;refine Tk 13 110 ?_;refine Dn ?_;have D:=Hd h8;clear h6 h7 h8 a2 T H8 H1 Ha;have V:=Hd (jiC fs (.slice fa fn fc) (k:Int) (n:Int) w8 (by rw [<- A3.1];exact A4.1.below D.1.2) (fun f hf=>⟨(Hh.1 f hf).at_,by obtain ⟨a,c,h,_⟩:=(Hh.1 f hf).rd;exact ⟨a,c,h⟩⟩) (by omega) (by omega))
      go_wp2_with fail;refine V.1.mono ?_;rintro ev w9 ⟨cv,rfl,⟨cl,i9⟩,kd,rfl⟩;have e4:=jD w8 kd;have e5:=D.1.2.trans (e4.mono D.1.2.size);have c4:=N.1.trans (e4.mono N.1.size);have e6:Rd (w8.drewN kd) cv cl.length (cl.map (Value.int .i64))/\(∀ x∈cl,I64 x)/\(0<cl.length->∀ k,cv.ownBlock=some k->¬ F5 k):=by
       rcases i9 with ⟨h1,h2⟩ | ⟨f,hf,h1,h2⟩
       . rw [h1,h2];exact ⟨Rd.nil _,(fun x hx=>by cases hx),fun h=>absurd h (by decide)⟩
       .
        have h3:=Hh.1 f hf;rw [h1,h2];exact ⟨h3.rd.below e5,h3.ok,fun h4 k hk h5=>by
         have h6:=Rd.blk h3.rd (by rw [qE];exact h4) k hk
         have:=J.1.2.2.2.2.2.2.1 k h5
         omega⟩
      have b0:=zf d2 pd F5 cv cl st ep' _ (Hm.1.grow c4) Aa.1.d (.inr Aa.1) (by have:=Hz.1;have:=H3.1;have:=Y.1;have:=X.1;omega) (by have:=Hv.1;have:=Y.1;have:=X.1;omega) e6.1 e6.2.1 e6.2.2 (HG.1.below e5) (fun h=>by have:=J.1.2.2.2.2.2.2.1 0 h;have:=Hq.1;omega)
      rw [<- E.1.2.1,<- E.1.2.2] at b0;have O:=Hd b0;have He:=Hd (D.1.1.below e4);have H5:=Hd e5;have Hf:=Hd (Hb.1.below c4);have Hg:=Hd (show w5.heap.size<=(w8.drewN kd).heap.size from c4.size)
      clear e4 e5 c4 e6 b0 i9 V D N Hm Hb;generalize w8.drewN kd=w9 at O He H5 Hf Hg |-;go_wp2_with fail;refine O.1.mono ?_;rintro ev wa ⟨ps6,o,rfl,hr⟩;obtain ⟨F6,pl6,d6,r1,r2,r3,r4,r5,r6,r7,r8,r9,r10,r11,r12,r13,_⟩:=hr.ex;have a5:=hr.ow;obtain ⟨ga,gc,rfl,_⟩:=a5.slice;rw [<- E.1.1] at a5 r12 |-;have a0:=ja wa (.cells #[c,b,.slice ga sn gc] 30);have a8:=(He.1.mod hr.md J.1.1).below a0;have a7:=H5.1.trans (hr.md.below H5.1.size (fun k hk=>J.1.2.2.2.2.2.2.1 k hk))
      have e7:=a7.trans (a0.mono a7.size);have b2:=zQ st st (.slice ga sn gc) (.slice sa sn sc) _ (a5.rd.below a0) ((Hf.1.mod hr.md (fun k hk=>(Ae.1 k hk).1)).below a0)
      rw [jcQ,<- E.1.2.1,<- E.1.2.2] at b2;have H6:=Hd b2;have Ab:=Hd (show q<wa.heap.size by have:=Hg.1;have:=Hc.1;have:=hr.md.size;omega)
      have A0:=Hd (Box.new wa #[c,b,.slice ga sn gc] 30);have Ac:=Hd a8;have l2:q<w9.heap.size:=by have:=Hg.1;have:=Hc.1;omega
      have H2:=Hd (show IsDisk (wa.alloc (.cells #[c,b,.slice ga sn gc] 30)) d6 pd F6/\StoB (wa.alloc (.cells #[c,b,.slice ga sn gc] 30)) ps6 pd (ep'+1) (.pointer (some ⟨pl6,0,none⟩)) false/\yI (wa.alloc (.cells #[c,b,.slice ga sn gc] 30)) (yt (ep'+1)) pl6 pd/\RdS (wa.alloc (.cells #[c,b,.slice ga sn gc] 30)) (.slice ga sn gc) st.l/\Below w.heap.size w (wa.alloc (.cells #[c,b,.slice ga sn gc] 30)) from
       ⟨r1.grow a0,r8.below a0,Box.below r9 a0,a5.rd.below a0,e7⟩)
      have G:=Hd (show (¬ F6 ps6/\¬ F6 pl6/\ps6≠pl6)/\(¬ F6 q/\q≠ps6/\q≠pl6)/\((∀ k,F6 k->w.heap.size<=k)/\w.heap.size<=ps6/\w.heap.size<=pl6/\w.heap.size<=q)/\(∀ k,(Value.slice ga sn gc).ownBlock=some k->¬ F6 k/\k≠ps6/\k≠pl6/\k≠q/\k<wa.heap.size) from
       ⟨⟨r5,r6,r7⟩,⟨fun h=>by
        rcases r2 q h with g | g
        . exact J.1.1 g
        . omega,by omega,by omega⟩,⟨fun k hk=>by
        rcases r2 k hk with g | g
        . exact J.1.2.2.2.2.2.2.1 k g
        . have:=H5.1.size;omega,by have:=H5.1.size;omega,by have:=H5.1.size;omega,J.1.2.2.2.2.2.2.2.2.2⟩,fun k hk=>⟨(r12 k hk).2.1,(r12 k hk).2.2.1,(r12 k hk).2.2.2,by have:=(r12 k hk).1;omega,(a5.lt k hk).2⟩⟩)
      have Ad:=Hd r10;have Ah:=Hd (show d6.trail.length<=20000+30000*(k+1) by have:=Hv.1;omega)
      have Ai:=Hd (show (ep'+1).toNat<=1+2*(k+1) by
       have h1:=Hz.1;have h2:=H3.1;have h3:=Y.1;have h4:=X.1;have h5:=(zy (ep:=ep') (by omega)).1
       omega)
      obtain ⟨c0,c1,c2⟩:=C3 a8;clear r1 r2 r3 r4 r5 r6 r7 r8 r9 r10 r11 r12 r13 a5 hr a0 a8 a7 e7 b2 l2 O He Hf;go_wp2_with fail;refine (show Calls _ _ #[.agg #[c,b,.slice ga sn gc],.agg #[c,b,.slice sa sn sc]] _ _ from H6.1).mono ?_
      rintro ev wb ⟨rfl,hb⟩;clear c0 c1 c2;have c3:=A0.1.below hb;have a8:=Ac.1.below hb;obtain ⟨d0,d1,d2'⟩:=C3 c3;obtain ⟨c0,f0,c1,f1,c2,f2⟩:=B3 a8;have l0:¬ wa.heap.size=q:=by have:=Ab.1;omega
      have l1:¬ q=wa.heap.size:=by have:=Ab.1;omega
      have a1:=Mod.set3 q wb c b (.slice ga sn gc);have a7:=H2.1.2.2.2.2.trans (hb.mono H2.1.2.2.2.2.size);have Hy:=Hd (show LivI w (((wb.setCell ⟨q,0,none⟩ c).setCell ⟨q,1,none⟩ b).setCell ⟨q,2,none⟩ (.slice ga sn gc)) pd ps6 pl6 q F6 d6 ⟨ep'+1,yt (ep'+1),false⟩ st (.slice ga sn gc) from
       ⟨(H2.1.1.grow hb).mod a1 (fun k hk e=>G.1.2.1.1 (by rw [<- e];exact hk)),(H2.1.2.1.below hb).mod a1 (fun e=>G.1.2.1.2.1 e.symm),Box.mod (Box.below H2.1.2.2.1 hb) a1 (fun e=>G.1.2.1.2.2 e.symm),G.1.1,G.1.2.1,G.1.2.2.1,Ad.1,⟨rfl,rfl⟩,by rw [<- E.1.2.1,<- E.1.2.2];exact ((a8.set 0 c).set 1 b).set 2 (.slice ga sn gc),(H2.1.2.2.2.1.below hb).mod a1 (fun k hk e=>(G.1.2.2.2 k hk).2.2.2.1 e),fun k hk=>⟨(G.1.2.2.2 k hk).1,(G.1.2.2.2 k hk).2.1,(G.1.2.2.2 k hk).2.2.1,(G.1.2.2.2 k hk).2.2.2.1,by have h1:=(G.1.2.2.2 k hk).2.2.2.2;have h2:=c3.lt;have h3:=a1.size;omega⟩,a7.trans (a1.below a7.size (fun k hk=>by have:=G.1.2.2.1.2.2.2;omega))⟩)
      clear c3 a8 hb a1 a7 A0 Ac H2 G Ad H6;go_wp2
      go_roundg (n-(k+1))
      case measure=>have:=P.1;have:=X.1;omega
      case rel=>exact ⟨k+1,F6,ps6,pl6,d6,⟨ep'+1,yt (ep'+1),false⟩,st,_,by have:=P.1;have:=X.1;omega,rfl,by go_num,Hy.1,Ah.1,Ai.1⟩
   obtain ⟨hj,h5⟩:=hj5;have j1:(j:Int)<(fn:Int):=by omega
   have j2:decide ((j:Int)<(fn:Int))=true:=by simpa using j1
   have HJ:=Hd hj;have j3:(j:Int)<5:=by omega
   have j4:decide ((j:Int)<5)=true:=by simpa using j3
   have g5:j<fs.length:=by have:=A3.1;omega
   obtain ⟨fb,fo,l3,g6,g7,j5⟩:=jje (A4.1.below H.1.bel) j g5;subst l3;obtain ⟨f,hf⟩:=Nm (fs[j]);rw [<- hf] at g6 g7 j5;have d5:f.Ok w:=by rw [hf];exact Hh.1 _ (qy g5)
   have A1:=Hd (fun W=>vu f.at_ (n:Int) W d5.at_.1 d5.at_.2 (by omega) (by omega))
   have Hp:=Hd (fun W=>vu f.writes 6 W d5.writes.1 d5.writes.2 (by decide) (by decide))
   have j6:=jet f.writes 6 (by decide)
   obtain ⟨y,hy⟩:∃ y,y=uN f.at_ (n:Int):=⟨_,rfl⟩;obtain ⟨y2,j7⟩:=Nm (uN f.writes 6);rw [<- hy] at A1;rw [<- j7] at Hp j6;have V:=Hd (fun W (hW:IsDisk W d pd F)=>jca d pd F y2 W hW (by omega))
   rw [qh (by omega)] at V
   obtain ⟨m,hm⟩:=Nm (y2.toNat);rw [<- hm] at V;clear hj h5 g5 hf d5 j6 hy j7 hm j5;go_wp2_with fail;refine (A1.1 _).mono ?_;rintro ev w2' ⟨rfl,rfl⟩
   cases hq:(y==(k:Int))
   .
    clear Hp V g6 g7;go_wp2
    go_roundg (fn-(j+1))
    case measure=>have:=Hj.1;have:=HJ.1;omega
    case rel=>exact ⟨j+1,F,d,by have:=Hj.1;have:=HJ.1;omega,by go_num,H.1,I.1⟩
   .
    go_wp2_with fail;refine (Hp.1 _).mono ?_;rintro ev w3' ⟨rfl,rfl⟩;go_wp2_with fail;refine (V.1 _ H.1.dk).mono ?_;rintro ev w5 ⟨rfl,F2,j8,j9,k3⟩;have Aj:=Hd (H.1.cut m j8 j9 k3);clear j8 j9 k3 H A1 Hp V g6 g7;go_wp2
    go_roundg (fn-(j+1))
    case measure=>have:=Hj.1;have:=HJ.1;omega
    case rel=>exact ⟨j+1,F2,_,by have:=Hj.1;have:=HJ.1;omega,by go_num,Aj.1,I.1⟩
theorem Rd.lit {b:Nat}{cs:Array Value}(h:Box w b cs T)(n:Nat)(hl:n<=9223372036854775807):Rd w (.slice (some ⟨b,0,none⟩) n n) n cs.toList :=
 ⟨_,_,rfl,qm _,hl,(fun h=>by cases h),fun j hj=>⟨b,0,rfl,by
  rw [qA];refine h.cell j _ ?_;rw [<- Array.getElem?_toList,List.getD,List.getElem?_eq_getElem hj];rfl⟩⟩
theorem jmF (l:List EvtM)(ev:Value)(i n:Int)(W:World)(q:Nat){T2:TypeId}(a0:RdE W ev l)(a1:∀ e∈l,EvOk e)(hi:I64 i)(hn:I64 n)(hc:Box W q #[(0:Int),n,(1:Int)] T)(hf:Box W (q+1) #[i,n,.slice (some ⟨q,0,none⟩) 3 3] T2)(hg:ErrType W) :
  Calls prog 3 #[ev,.slice (some ⟨q+1,0,none⟩) 1 1] W fun e w'=>e=.returned (.bool true)/\Below W.heap.size W w' :=
 vW l ev [⟨i,n,.slice (some ⟨q,0,none⟩) 3 3,[0,n,1]⟩] _ W a0 a1 (Rd.lit hf 1 (by decide)) (fun f h=>by
  obtain rfl:=qC.1 h;exact ⟨hi,hn,Rd.lit hc 3 (by decide),fun y hy=>by
   simp only [qH,qO,wM] at hy
   rcases hy with rfl | rfl | rfl
   . exact ⟨by decide,by decide⟩
   . exact hn
   . exact ⟨by decide,by decide⟩⟩) hg
theorem jmD (l:List EvtM)(ev:Value)(W:World)(q:Nat){T1 T2:TypeId}(a0:RdE W ev l)(a1:∀ e∈l,EvOk e)(hc:Box W q #[(1:Int),(1:Int),(1:Int),(1:Int)] T)(hd:Box W (q+1) #[(0:Int)] T1)(hf:Box W (q+1+1) #[(3:Int),(0:Int),.slice (some ⟨q,0,none⟩) 4 4,(17:Int),(2:Int),.slice (some ⟨q+1,0,none⟩) 1 1,(33:Int),(1:Int),.slice none 0 0] T2)(hg:ErrType W) :
  Calls prog 3 #[ev,.slice (some ⟨q+1+1,0,none⟩) 3 3] W fun e w'=>e=.returned (.bool true)/\Below W.heap.size W w' :=
 vW l ev [⟨3,0,.slice (some ⟨q,0,none⟩) 4 4,[1,1,1,1]⟩,⟨17,2,.slice (some ⟨q+1,0,none⟩) 1 1,[0]⟩,⟨33,1,.slice none 0 0,[]⟩] _ W a0 a1 (Rd.lit hf 3 (by decide)) (fun f h=>by
  simp only [qH,qO,wM] at h
  rcases h with rfl | rfl | rfl
  .
   exact ⟨⟨(by decide:(-9223372036854775808:Int)<=3),(by decide:(3:Int)<=_)⟩,⟨(by decide:(-9223372036854775808:Int)<=0),(by decide:(0:Int)<=_)⟩,Rd.lit hc 4 (by decide),fun y hy=>by
    simp only [qH,qO,wM,or_self] at hy;subst hy;exact ⟨by decide,by decide⟩⟩
  .
   exact ⟨⟨(by decide:(-9223372036854775808:Int)<=17),(by decide:(17:Int)<=_)⟩,⟨(by decide:(-9223372036854775808:Int)<=2),(by decide:(2:Int)<=_)⟩,Rd.lit hd 1 (by decide),fun y hy=>by
    obtain rfl:=qC.1 hy;exact ⟨by decide,by decide⟩⟩
  . exact ⟨⟨by decide,by decide⟩,⟨by decide,by decide⟩,Rd.nil W,fun y hy=>by cases hy⟩) hg
theorem jc4 (w:World)(hg:ErrType w) :
  Calls prog 31 #[] w fun e w'=>e=.returned (.bool true)/\Below w.heap.size w w':=by
 have O:=Hd hg;clear hg;go_enter func31,ntmps31;go_wp2_with fail;refine (jhO w).mono ?_;rintro r w1 ⟨sv,l,rfl,a3,hl,a8,a9⟩;obtain ⟨oa,oc,rfl,_⟩:=a3.slice;rw [hl] at a3 |-;have C:=Hd a9;have F:=Hd (fun (W:World) (hb:Below w1.heap.size w1 W)=>(a3.rd.below hb:RdE W (.slice oa 36 oc) l))
 have G:=Hd (fun (W:World) (hb:Below w1.heap.size w1 W)=>O.1.below (C.1.trans (hb.mono C.1.size)))
 have I:=Hd a8;clear a3 hl a8 a9 O;go_wp2
 go_loopg [2] 36 (fun gk iv wr=>∃ k:Nat,gk+k=36/\iv=.int .i64 (k:Int)/\Below w1.heap.size w1 wr)
 case atStart=>exact ⟨0,rfl,rfl,qG _ _⟩
 case round =>
  obtain ⟨k,b0,rfl,hb⟩:=hrel;have k0:(0:Int)<=(k:Int):=by omega
  have M:=Hd b0;have H:=Hd hb;clear b0 hb;by_cases hk:k<36;rotate_left
  .
   have k1:¬ (k:Int)<36:=by omega
   have N:=Hd (jci l _ wr (F.1 wr H.1) I.1 (G.1 wr H.1));clear hk;go_wp2_with fail;refine N.1.mono ?_;rintro r w2 ⟨rfl,b1⟩;have J:=Hd (H.1.trans (b1.mono H.1.size));clear b1 H N;obtain ⟨wa,a0⟩:=Nm (w2.alloc (.cells #[(1:Int),(1:Int),(1:Int),(1:Int)] 3));obtain ⟨wb,a1⟩:=Nm (wa.alloc (.cells #[(0:Int)] 3));obtain ⟨wd,a4⟩:=Nm (wb.alloc (.cells #[(3:Int),(0:Int),.slice (some ⟨w2.heap.size,0,none⟩) 4 4,(17:Int),(2:Int),.slice (some ⟨w2.heap.size+1,0,none⟩) 1 1,(33:Int),(1:Int),.slice none 0 0] 36));have sa:wa.heap.size=w2.heap.size+1:=by rw [a0];exact qj _ _
   have sb:wb.heap.size=w2.heap.size+1+1:=by rw [a1,<- sa];exact qj _ _
   have a5:Below w2.heap.size w2 wa:=by rw [a0];exact ja _ _
   have a2:Below wa.heap.size wa wb:=by rw [a1];exact ja _ _
   have a7:Below wb.heap.size wb wd:=by rw [a4];exact ja _ _
   have xa:Box wa w2.heap.size #[(1:Int),(1:Int),(1:Int),(1:Int)] 3:=by rw [a0];exact Box.new _ _ _
   have xb:Box wb (w2.heap.size+1) #[(0:Int)] 3:=by rw [a1,<- sa];exact Box.new _ _ _
   have xd:Box wd (w2.heap.size+1+1) #[(3:Int),(0:Int),.slice (some ⟨w2.heap.size,0,none⟩) 4 4,(17:Int),(2:Int),.slice (some ⟨w2.heap.size+1,0,none⟩) 1 1,(33:Int),(1:Int),.slice none 0 0] 36:=by rw [a4,<- sb];exact Box.new _ _ _
   have s2:=J.1.size;have hd:Below w1.heap.size w1 wd:=((J.1.trans (a5.mono s2)).trans (a2.mono (by omega))).trans (a7.mono (by omega))
   have A:=Hd (jmD l _ wd w2.heap.size (F.1 wd hd) I.1 ((xa.below a2).below a7) (xb.below a7) xd (G.1 wd hd));rw [a4,a1,a0] at A;have B:=Hd hd;rw [a4,a1,a0] at B;clear sa sb a5 a2 a7 xa xb xd s2 hd a4 a1 a0 J;go_wp2_with fail;refine A.1.mono ?_;rintro r w3 ⟨rfl,a6⟩;have K:=Hd (C.1.trans ((B.1.trans (a6.mono B.1.size)).mono C.1.size));clear a6 B A;go_wp2;go_ret;exact ⟨rfl,K.1⟩
  have k1:(k:Int)<36:=by omega
  have L:=Hd hk;clear hk;go_wp2
  go_loopg [3] 4 (fun gj jv wr=>∃ j:Nat,gj+j=4/\jv=.int .i64 (j:Int)/\Below w1.heap.size w1 wr)
  case atStart=>exact ⟨0,rfl,rfl,H.1⟩
  case round =>
   clear H;obtain ⟨j,b2,rfl,hb⟩:=hrel;have j0:(0:Int)<=(j:Int):=by omega
   have D:=Hd b2;have H:=Hd hb;clear b2 hb;by_cases hj:j<4;rotate_left
   .
    have j1:¬ (j:Int)<4:=by omega
    clear hj;go_wp2
    go_roundg (36-(k+1))
    case measure=>have:=M.1;have:=L.1;omega
    case rel=>exact ⟨k+1,by have:=M.1;have:=L.1;omega,by go_num,H.1⟩
   have j1:(j:Int)<4:=by omega
   have E:=Hd hj;clear hj;obtain ⟨wa,a0⟩:∃ W,W=wr.alloc (.cells #[(0:Int),(j:Int),(1:Int)] 3):=⟨_,rfl⟩;obtain ⟨wb,a1⟩:∃ W,W=wa.alloc (.cells #[(k:Int),(j:Int),.slice (some ⟨wr.heap.size,0,none⟩) 3 3] 36):=⟨_,rfl⟩;have sa:wa.heap.size=wr.heap.size+1:=by rw [a0];exact qj _ _
   have a5:Below wr.heap.size wr wa:=by rw [a0];exact ja _ _
   have a2:Below wa.heap.size wa wb:=by rw [a1];exact ja _ _
   have xa:Box wa wr.heap.size #[(0:Int),(j:Int),(1:Int)] 3:=by rw [a0];exact Box.new _ _ _
   have xb:Box wb (wr.heap.size+1) #[(k:Int),(j:Int),.slice (some ⟨wr.heap.size,0,none⟩) 3 3] 36:=by rw [a1,<- sa];exact Box.new _ _ _
   have sr:=H.1.size;have hd:Below w1.heap.size w1 wb:=(H.1.trans (a5.mono sr)).trans (a2.mono (by omega))
   have A:=Hd (jmF l _ (k:Int) (j:Int) wb wr.heap.size (F.1 wb hd) I.1 ⟨by have:=L.1;omega,by have:=L.1;omega⟩ ⟨by have:=E.1;omega,by have:=E.1;omega⟩ (xa.below a2) xb (G.1 wb hd))
   rw [a1,a0] at A;have B:=Hd hd;rw [a1,a0] at B;clear sa a5 a2 xa xb sr hd a1 a0;go_wp2_with fail
   all_goals first
    | (refine A.1.mono ?_;rintro r w3 ⟨rfl,a6⟩;have K:=Hd (B.1.trans (a6.mono B.1.size));clear a6 B A H;go_wp2;go_roundg (4-(j+1));(case measure=>have:=D.1;have:=E.1;omega);(case rel=>exact ⟨j+1,by have:=D.1;have:=E.1;omega,by go_num,K.1⟩))
    | (clear B A;go_roundg (4-(j+1));(case measure=>have:=D.1;have:=E.1;omega);(case rel=>exact ⟨j+1,by have:=D.1;have:=E.1;omega,by go_num,H.1⟩))
end Go.Proofs.YtgcnolapjppbpaaGreatDoor
