/- Texts of one proof. -/
import Derived.Test.YtgcnolapjppbpaaGreatDoorK12
import Derived.Test.YtgcnolapjppbpaaGreatDoorK18
import Derived.Test.YtgcnolapjppbpaaGreatDoorK16
namespace Go.Proofs.YtgcnolapjppbpaaGreatDoor
open Go.RowKit _root_.Go.Proofs.Tryz
set_option maxRecDepth 100000
set_option maxHeartbeats 25600000
variable {v x:Value}{b c:Int}{s:TkM}{w0 w w':World}{t b8:Nat}{l:List SesM}{a:Act}
def yI (w:World)(l:LogM)(pl pd:Nat):Prop :=
 Box w pl #[.pointer (some ⟨pd,0,none⟩),(l.base:Int),(l.n:Int),.int .u32 (l.epoch.toNat:Int),(l.used:Int),(l.records:Int),.bool l.dead] 143
theorem jcW (d:DiskM)(pd:Nat)(F:Nat->Prop)(base n:Nat)(e:UInt32)(w:World)(h:IsDisk w d pd F)(h1:1<=n)(h2:base+n<=d.strs.length) :
  Calls prog 77 #[.pointer (some ⟨pd,0,none⟩),(base:Int),(n:Int),.int .u32 (e.toNat:Int)] w fun r w'=>r=.returned (.tuple #[.pointer (some ⟨w.heap.size,0,none⟩),.nilIface]) /\
   yI w' ⟨base,n,e,0,0,false⟩ w.heap.size pd/\Below w.heap.size w w':=by
 have hl:d.strs.length<=4096:=by obtain ⟨_,_,_,_,_,_,_,_,h5,_⟩:=h;exact h5
 have H:=Hd h;have a0:¬ (n:Int)<1:=by omega
 have a1:¬ (base:Int)<0:=by omega
 have a2:¬ (d.strs.length:Int)<(base:Int):=by omega
 have a3:¬ ((d.strs.length:Int)-(base:Int))<(n:Int):=by omega
 clear h;go_enter func77,ntmps77;go_wp2_with fail;refine (zp d pd F w H.1).mono ?_;rintro r w1 ⟨rfl,rfl⟩;go_wp2_with fail;refine (zp d pd F _ H.1).mono ?_;rintro r w1 ⟨rfl,rfl⟩;go_wp2
 go_ret2
 exact ⟨rfl,Box.new _ _ _,ja _ _⟩
theorem jie (l:LogM)(pl pd:Nat)(w:World)(h:yI w l pl pd)(h1:l.used<=l.n)(h2:l.n<=9223372036854775807) :
  Calls prog 72 #[.pointer (some ⟨pl,0,none⟩)] w fun r w'=>r=.returned ((l.n-l.used:Nat):Int)/\∃ k,w'=w.drewN k:=by
 have c2:=Box.cell h 2 _ rfl;have c4:=Box.cell h 4 _ rfl;have hs:((l.n-l.used:Nat):Int)=(l.n:Int)-(l.used:Int):=by omega
 rw [hs];clear h hs;go_enter func72,ntmps72;go_wp2
 go_quiet (fail)
 go_wp2;go_ret;exact ⟨rfl,_,rfl⟩
theorem je2 (l:LogM)(pl pd:Nat)(w:World)(h:yI w l pl pd) :
  Calls prog 45 #[.pointer (some ⟨pl,0,none⟩)] w fun r w'=>r=.returned (l.records:Int)/\w'=w:=by
 have c5:=Box.cell h 5 _ rfl;clear h;go_enter func45,ntmps45;go_wp2;go_ret;exact ⟨rfl,rfl⟩
structure BackI (l:LogM)(d:DiskM)(pl pd:Nat)(bs:List (List UInt8))(F:Nat->Prop)(bv:Value)(w:World)(s0 m:Nat)(W:World):Prop where
 err:(d.back (l.base+l.used+m) (bs.drop m)).2=0
 disk:∃ F',IsDisk W (d.back (l.base+l.used+m) (bs.drop m)).1 pd F'/\(∀ k,F' k->F k\/w.heap.size<=k)/\∀ k,F' k->bv.ownBlock≠some k
 log:yI W l pl pd
 row:Rd W bv bs.length (bs.map SV)
 mod:Mod F w W
 size:s0<=W.heap.size
theorem jlp {W:World}{bs:List (List UInt8)}(h:Rd W v bs.length (bs.map SV))(i:Nat)(hi:i<bs.length) :
  ∃ b off c,v=.slice (some ⟨b,off,none⟩) bs.length c/\W.cell? ⟨b,off+i,none⟩=some (.string (SB (bs.getD i []))):=by
 obtain ⟨b,off,c,e1,e2⟩:=h.at i (by rw [qE];exact hi)
 refine ⟨b,off,c,e1,?_⟩;rw [e2]
 simp [List.getD,hi,SV]
theorem jfM (d:DiskM)(a:Nat)(bs:List (List UInt8))(k:Nat)(hk:k<bs.length)(h:(d.back (a+(k+1)) (bs.drop (k+1))).2=0) :
  d.back (a+k) (bs.drop k)=(d.back (a+(k+1)) (bs.drop (k+1))).1.write ((a+k:Nat):Int) (SB (bs.getD k [])):=by
 rw [qL hk,xH,wC a k 1,qh (by rw [h];simp)]
 simp [List.getD,hk]
theorem jbZ (d:DiskM)(bs:List (List UInt8)):∀ (k a:Nat),k<=bs.length->(d.back (a+k) (bs.drop k)).2≠0->d.back a bs=d.back (a+k) (bs.drop k)
 | 0,a,_,_=>by simp
 | k+1,a,hk,h=>by
  have ih:=jbZ d bs k a (by omega)
  have e:d.back (a+k) (bs.drop k)=d.back (a+(k+1)) (bs.drop (k+1)):=by
   rw [qL (show k<bs.length by omega),xH,wC a k 1,qf h]
  rw [e] at ih;exact ih h
theorem jbL (l:LogM)(d:DiskM)(p:List UInt8)(pl pd:Nat)(F:Nat->Prop)(v:Value)(w:World)(hl:yI w l pl pd)(hd:IsDisk w d pd F)(b4:¬ F pl)(hv:Rd w v p.length (p.map V8))(ht:d.trail.length<=10000000000)(e4:l.base+l.n<=d.strs.length)(hu:l.used<=l.n)(hr:l.records<=1000000000) :
  Calls prog 39 #[.pointer (some ⟨pl,0,none⟩),v] w fun r w'=>r=.returned (jm (l.append d p).2.2)/\yI w' (l.append d p).1 pl pd/\Mod (fun b=>b=pl\/F b) w w' /\
   ∃ F',IsDisk w' (l.append d p).2.1 pd F'/\∀ k,F' k->F k\/w.heap.size<=k:=by
 have e8:d.strs.length<=4096:=by obtain ⟨_,_,_,_,_,_,_,_,h5,_⟩:=hd;exact h5
 obtain ⟨va,vc,rfl⟩:∃ a c,v=.slice a p.length c:=by obtain ⟨a,c,h,_⟩:=hv;exact ⟨a,c,h⟩
 have c3:=Box.cell hl 3 _ rfl;have c6:=Box.cell hl 6 _ rfl;have S:=Hd hl;have T:=Hd hd;have HV:=Hd hv;clear hl hd hv;by_cases a1:l.dead=true
 .
  have Ea:=Hd (by unfold LogM.append;rw [qf a1]:l.append d p=(l,d,22))
  rw [a1] at c6;go_enter func39,ntmps39;go_wp2;go_ret;rw [Ea.1];exact ⟨rfl,S.1,Mod.refl _ _,F,T.1,fun k hk=>.inl hk⟩
 have a1:l.dead=false:=by simpa using a1
 rw [a1] at c6;have G:=Hd (jhe _ l.epoch p w HV.1);by_cases h512:512<p.length
 .
  have Ea:=Hd (by unfold LogM.append;rw [qh (by rw [a1];simp),qf h512]:l.append d p=(l,d,3))
  go_enter func39,ntmps39;go_wp2_with fail;refine G.1.mono ?_;rintro r w1 hr;obtain ⟨_,rfl,rfl⟩:=hr.resolve_right (fun h=>by omega)
  go_wp2;go_ret;rw [Ea.1];exact ⟨rfl,S.1,Mod.refl _ _,F,T.1,fun k hk=>.inl hk⟩
 go_enter func39,ntmps39;go_wp2_with fail;refine G.1.mono ?_;rintro r w1 d7;obtain ⟨_,bv,rfl,ho,b1⟩:=d7.resolve_left (fun h=>by omega)
 obtain ⟨bs,a5⟩:=Nm (jf l.epoch p);have e9:bs.length<=4:=by rw [a5];exact ja9 _ _
 have f0:0<bs.length:=by rw [a5];exact us _ _
 have b2:∀ b∈bs,b.length<=256:=fun b hb=>zZ (e:=l.epoch) (p:=p) (by rw [<- a5];exact hb)
 rw [<- a5] at ho;have I:=Hd a5;obtain ⟨ba,bc,rfl,_⟩:=jP ho;have J:=Hd (show yI w1 l pl pd from S.1.below b1)
 have V:=Hd (T.1.mod (Mod.of_below (F:=fun _=>False) b1) (fun _ _ h=>h))
 have W:=Hd (js ho);have X:=Hd (fun k hk=>ho.lt k hk)
 have Y:=Hd b1;clear ho b1 a5 G c3 c6;go_wp2_with fail;refine (jie l pl pd w1 J.1 hu (by omega)).mono ?_
 rintro r w2 ⟨rfl,kd,rfl⟩;obtain ⟨rm,b5⟩:=Nm (l.n-l.used);rw [<- b5];have e5:rm<=4096:=by omega
 have K:=Hd b5;clear b5;have a3:=jD w1 kd;obtain ⟨w2,c9⟩:=Nm (w1.drewN kd);rw [<- c9] at a3 |-;have L:=Hd (show yI w2 l pl pd from J.1.below a3)
 have M:=Hd (V.1.mod (Mod.of_below (F:=fun _=>False) a3) (fun _ _ h=>h))
 have Z:=Hd (W.1.below a3);have A:=Hd (jd Y.1 a3);have N:=Hd a3.size;clear c9 a3 J V W Y;by_cases hfull:rm<bs.length
 .
  have Ea:=Hd (show l.append d p=(l,d,19) by unfold LogM.append;rw [qh (by rw [a1];simp),qh h512,qf (by rw [<- I.1,<- K.1];exact hfull)])
  have b6:(rm:Int)<(bs.length:Int):=by omega
  go_wp2;go_ret;rw [Ea.1];exact ⟨rfl,L.1,Mod.of_below A.1,F,M.1,fun k hk=>.inl hk⟩
 have b6:decide ((rm:Int)<(bs.length:Int))=false:=by simp;omega
 have d8:decide (rm<bs.length)=false:=by simp;omega
 have e2:l.n-l.used >= bs.length:=by rw [<- K.1];omega
 have d0:l.append d p=if (d.back (l.base+l.used) bs).2≠0 then ({ l with dead:=true },(d.back (l.base+l.used) bs).1,22) else ({ l with used:=l.used+bs.length,records:=l.records+1 },(d.back (l.base+l.used) bs).1,0):=by
  unfold LogM.append;rw [qh (by rw [a1];simp),qh h512,qh (by rw [<- I.1,<- K.1];exact hfull),<- I.1]
 have E:=Hd d0;clear d0;have b7:∀ k,(Value.slice ba bs.length bc).ownBlock=some k->w.heap.size<=k/\k<w2.heap.size:=fun k hk=>by
  have h1:=X.1 k hk;have h2:=A.1.size;exact ⟨h1.1,qu h1.2 N.1⟩
 have d1:BackI l d pl pd bs F (.slice ba bs.length bc) w w2.heap.size bs.length w2:=by
  refine ⟨by rw [kj];rfl,⟨F,by rw [kj];exact M.1,fun k hk=>.inl hk,fun k hk e=>?_⟩,L.1,Z.1,Mod.of_below A.1,qm _⟩
  have:=(b7 k e).1;have:=T.1.lt k hk;omega
 have H0:=Hd d1;have Hc:=Hd b7;have e6:pl<w.heap.size:=S.1.lt;have He:=Hd A.1.size;clear d1 b7 L M Z A X N;go_wp2
 go_loopg [7] bs.length (fun gk iv wr=>∃ gm:Nat,gk=gm/\iv=.int .i64 ((gm:Int)-1)/\gm<=bs.length/\BackI l d pl pd bs F (.slice ba bs.length bc) w w2.heap.size gm wr)
 case atStart=>exact ⟨_,rfl,rfl,qm _,H0.1⟩
 case round =>
  clear H0;obtain ⟨gm,d9,rfl,f1,hI⟩:=hrel;by_cases hm:gm=0
  .
   subst hm;have e7:¬ (0:Int)<=((0:Nat):Int)-1:=by omega
   obtain ⟨h1,⟨F',h2,h3,h4⟩,h5,h6,h7,h8⟩:=hI;rw [qT,List.drop_zero] at h1 h2;have D:=Hd (by rw [E.1,qh (by rw [h1];simp)]:l.append d p=({ l with used:=l.used+bs.length,records:=l.records+1 },(d.back (l.base+l.used) bs).1,0))
   have c4:=Box.cell h5 4 _ rfl;have f4:=Box.free h5 4;have s1:=Box.set h5 4 ((l.used:Int)+(bs.length:Int):Int);have c5:=Box.cell s1 5 _ rfl;have f5:=Box.free s1 5;have S2:=Hd (Box.set s1 5 ((l.records:Int)+1:Int));have O:=Hd h2;have B:=Hd h3;have P:=Hd h7;clear h1 h2 h3 h4 h5 h6 h7 h8 s1 E;go_wp2;go_ret;rw [D.1];have a7:=(Mod.set (fun b=>b=pl) wr ⟨pl,4,none⟩ ((l.used:Int)+(bs.length:Int):Int) rfl).trans (Mod.set (fun b=>b=pl) _ ⟨pl,5,none⟩ ((l.records:Int)+1:Int) rfl)
   refine ⟨rfl,?_,(P.1.mono (fun b hb=>.inr hb)).trans (a7.mono (fun b hb=>.inl hb)),F',O.1.mod a7 (fun k hk e=>?_),B.1⟩
   .
    unfold yI;simp only [Int.natCast_add];exact S2.1
   .
    rcases B.1 k hk with h | h
    . exact b4 (e ▸ h)
    . omega
  .
   obtain ⟨k,rfl⟩:∃ k,gm=k+1:=⟨gm-1,by omega⟩
   have ek:(((k+1:Nat):Int)-1)=(k:Int):=by omega
   rw [ek];have f2:(0:Int)<=(k:Int):=by omega
   have f3:(k:Int)<(bs.length:Int):=by omega
   obtain ⟨h1,⟨F',h2,h3,h4⟩,h5,h6,h7,h8⟩:=hI;obtain ⟨bb,boff,bc',e1,d3⟩:=jlp h6 k (by omega)
   injection e1 with e1 _ e3
   subst e1;subst e3;have c0:=Box.cell h5 0 _ rfl;have c1:=Box.cell h5 1 _ rfl;have c4:=Box.cell h5 4 _ rfl;have H1:=Hd h1;have O:=Hd h2;have B:=Hd h3;have U:=Hd h4;have H5:=Hd h5;have H6:=Hd h6;have P:=Hd h7;have Q:=Hd h8;clear h1 h2 h3 h4 h5 h6 h7 h8;go_wp2
   go_still_tail 19,(by kernel_rfl)
   change wpList _ _ _ _ _ wr.drew
   obtain ⟨dd,b8⟩:=Nm ((d.back (l.base+l.used+(k+1)) (bs.drop (k+1))).1);have b9:=jfM d (l.base+l.used) bs k (by omega) H1.1
   have c2:=vp d (bs.drop (k+1)) (l.base+l.used+(k+1));rw [<- b8] at b9 c2;have H2':=O.1;rw [<- b8] at H2';have c7:(l.base:Int)+(l.used:Int)+(k:Int)=((l.base+l.used+k:Nat):Int):=by omega
   have d4:bs.getD k []∈bs:=by rw [List.getD,List.getElem?_eq_getElem (by omega)];exact qy (by omega)
   have c8:=jaw dd pd F' ((l.base+l.used+k:Nat):Int) (SB (bs.getD k [])) wr.drew (H2'.mod (Mod.drew (fun _=>False) _) (fun _ _ h=>h)) (by have:=c2.2;rw [qn] at this;omega) (by have:=b2 _ d4;rw [SB_size];omega)
   rw [<- b9,<- c7] at c8;have R:=Hd c8;have H9:=Hd c7;have d5:=jei d (bs.drop k) (l.base+l.used+k) (fun b hb=>b2 b (wO hb)) (by rw [qn];omega)
   obtain ⟨d2,d6⟩:=Nm ((d.back (l.base+l.used+k) (bs.drop k)).1);obtain ⟨er,a8⟩:=Nm ((d.back (l.base+l.used+k) (bs.drop k)).2);rw [<- a8] at d5;have C:=Hd d6;have H:=Hd a8;clear b9 c2 H2' c7 d4 c8 b8 d6 a8 dd;go_wp2_with fail;refine R.1.mono ?_;rw [<- C.1,<- H.1];rintro r w3 ⟨rfl,F2,g1,g2,g3⟩;have e0:wr.heap.size<=w3.heap.size:=g2.size;have b3:∀ k,F2 k->F k\/w.heap.size<=k:=fun q hq=>by
    rcases g3 q hq with h | h
    . exact B.1 q h
    . exact .inr (by have:=Q.1;have:=He.1;have h:wr.heap.size<=q:=h;omega)
   have a9:∀ q,F' q->q≠pl:=fun q hq e=>by
    rcases B.1 q hq with h | h
    . exact b4 (e ▸ h)
    . omega
   have a0:yI w3 l pl pd:=(H5.1.drew).mod g2 (fun h=>a9 pl h rfl)
   have a6:Rd w3 (.slice (some ⟨bb,boff,none⟩) bs.length bc) bs.length (bs.map SV):=(H6.1.drew).mod g2 (fun q hq h=>U.1 q h hq)
   have a2:Mod F w w3:=(P.1.trans (Mod.drew F wr)).then g2 (fun q hq=>B.1 q hq)
   have b0:∀ q,F2 q->(Value.slice (some ⟨bb,boff,none⟩) bs.length bc).ownBlock≠some q:=fun q hq e=>by
    rcases g3 q hq with h | h
    . exact U.1 q h e
    .
     have:=(Hc.1 q e).2;have:=Q.1;have h:wr.heap.size<=q:=h;omega
   rcases d5 with rfl | rfl
   .
    have HN:=Hd (show BackI l d pl pd bs F (.slice (some ⟨bb,boff,none⟩) bs.length bc) w w2.heap.size k w3 from ⟨H.1.symm,⟨F2,C.1 ▸ g1,b3,b0⟩,a0,a6,a2,qi Q.1 e0⟩)
    rw [show jm 0=.nilIface from rfl]
    clear g1 g2 g3 b3 a9 a0 a6 a2 b0 H1 O B U H5 H6 P Q R H9 C H c0 c1 c4 d3;go_wp2
    go_roundg k
    case measure=>have:=d9;omega
    case rel=>exact ⟨k,rfl,rfl,by omega,HN.1⟩
   .
    have a4:l.append d p=({ l with dead:=true },d2,22):=by
     have h1:=jbZ d bs k (l.base+l.used) (by omega) (by rw [<- H.1];decide)
     rw [E.1,h1,qf (by rw [<- H.1];decide),<- C.1]
    have D:=Hd a4;rw [show jm 22=zL 22 from rfl]
    have c6:=Box.cell a0 6 _ rfl;have f6:=Box.free a0 6;have Hf:=Hd g1;have Ha:=Hd b3;have Hg:=Hd a0;have Hh:=Hd a2;have Hb:=Hd (fun w=>jdJ 22 22 w)
    clear a4 g1 g2 g3 b3 a9 a0 a6 a2 b0 H1 O B U H5 H6 P Q R H9 C H c0 c1 c4 d3 E;unfold zL at Hb |-;go_wp2_with fail;refine (Hb.1 _).mono ?_;rintro r w4 ⟨rfl,rfl⟩;go_wp2;go_ret;rw [D.1];have a7:=Mod.set (fun b=>b=pl) w4 ⟨pl,6,none⟩ (.bool true) rfl
    refine ⟨rfl,?_,(Hh.1.mono (fun b hb=>.inr hb)).trans (a7.mono (fun b hb=>.inl hb)),F2,Hf.1.mod a7 (fun k hk e=>?_),Ha.1⟩
    . exact Box.set Hg.1 6 (.bool true)
    .
     rcases Ha.1 k hk with h | h
     . exact b4 (e ▸ h)
     . omega
theorem jjM {e:UInt32}{bl:List (List UInt8)}{B b:Nat}{pre:List (Nat × Value)}{W W':World}(h:Found e bl B pre W)(hm:Mod (fun k=>k=b) W W')(hB:b<B):Found e bl B pre W' :=
 h.keep (fun x hx k hk hl=>hm.block k hl (fun ek=>by
  obtain ⟨i,hi,rfl⟩:=wP hx;obtain ⟨_,p,c,_,ho⟩:=h.row i pre[i] (List.getElem?_eq_getElem hi);have:=(ho.lt k hk).1
  omega))
theorem jcR (strs:List ByteArray)(base n:Nat)(h:base+n<=strs.length)(j:Nat)(hj:j<n):strs[base+j]?=some (SB ((((strs.drop base).take n).map (fun s=>s.data.toList)).getD j [])):=by
 have h3:base+j<strs.length:=by omega
 have e:(((strs.drop base).take n).map (fun s:ByteArray=>s.data.toList)).getD j []=strs[base+j].data.toList:=by
  simp [List.getD,hj,h3]
 rw [e,List.getElem?_eq_getElem h3]
 congr 1
theorem jge (d:DiskM)(pd:Nat)(F:Nat->Prop)(base n:Nat)(e:UInt32)(w:World)(h:IsDisk w d pd F)(h1:1<=n)(h2:base+n<=d.strs.length)(hs:∀ s∈d.strs,s.size<=256) :
  Calls prog 92 #[.pointer (some ⟨pd,0,none⟩),(base:Int),(n:Int),.int .u32 (e.toNat:Int)] w fun r w'=>∃ (pl:Nat) (ov:Value) (pre:List (Nat × Value)) (bl:List (List UInt8)),bl.length=n /\
   (∀ j,j<n->d.strs[base+j]?=some (SB (bl.getD j [])))/\yN e bl pre.length=none/\r=.returned (.tuple #[.pointer (some ⟨pl,0,none⟩),ov,.nilIface])/\Found e bl w.heap.size pre w'/\w'.ownsRow w.heap.size 92 1 ov pre.length (pre.map (·.2))/\Below w.heap.size w w':=by
 have c1:d.strs.length<=4096:=by obtain ⟨_,_,_,_,_,_,_,_,h5,_⟩:=h;exact h5
 obtain ⟨bl,a2⟩:=Nm (((d.strs.drop base).take n).map (fun s=>s.data.toList))
 have b1:bl.length=n:=by rw [a2,qE,qr,qn];omega
 have L:=Hd (show ∀ j,j<n->d.strs[base+j]?=some (SB (bl.getD j [])) from fun j hj=>by rw [a2];exact jcR d.strs base n h2 j hj)
 have a6:∀ b∈bl,b.length<=256:=by
  rw [a2];intro b hb;obtain ⟨s,b9,rfl⟩:=pY.1 hb;have:=hs s (wO (km b9));show s.data.toList.length<=256;rw [ph];exact this
 have J:=Hd a6;have M:=Hd h;clear h a6 a2 hs;go_enter func92,ntmps92;go_wp2_with fail;refine (jcW d pd F base n e w M.1 h1 h2).mono ?_;rintro r w1 ⟨rfl,hl,a7⟩;have K:=Hd hl;have N:=Hd a7;have O:=Hd (M.1.mod (Mod.of_below (F:=fun _=>False) a7) (fun _ _ h=>h))
 clear hl a7;go_wp2
 go_loopg [13,31] n (fun gk bv iv wr=>∃ k:Nat,gk+k=n/\iv=.int .i64 (k:Int)/\wr.ownsRow w1.heap.size 9 1 bv k ((bl.take k).map SV)/\Below w1.heap.size w1 wr)
 case atStart=>exact ⟨0,rfl,rfl,ws _ _ _ _,qG _ _⟩
 case round =>
  obtain ⟨k,b2,rfl,ho,hB⟩:=hrel;by_cases hk:k<n
  .
   have c2:(k:Int)<(n:Int):=by omega
   obtain ⟨ba,bc,rfl,_⟩:=jP ho;have a8:=jhU d pd F (base+k) wr (O.1.mod (Mod.of_below (F:=fun _=>False) hB) (fun _ _ h=>h)) (by omega)
   obtain ⟨x,hx⟩:=Nm (bl.getD k []);have b3:d.strs.getD (base+k) ByteArray.empty=SB x:=by rw [List.getD,L.1 k hk,<- hx];rfl
   rw [b3,show ((base+k:Nat):Int)=(base:Int)+(k:Int) from by omega,show jm 0=.nilIface from rfl] at a8
   have E:=Hd a8;have B:=Hd ho;have H:=Hd hB;have R:=Hd hx;have G:=Hd b2;clear a8 ho hB hx b2 b3;go_wp2_with fail;refine E.1.mono ?_;rintro r w2 ⟨rfl,rfl⟩;clear E;have A:=Hd (fun ob=>jq B.1 (ja wr ob))
   have C:=Hd (um wr x 9);have D:=Hd (fun ob=>qi H.1.size (ja wr ob).size)
   go_wp2_with (at_builtin;refine jla rfl _ _ rfl w1.heap.size _ k ((bl.take k).map SV) rfl (A.1 _) _ [x] rfl C.1 (by rw [qx];omega) (D.1 _) ?_)
   intro v' w3 a3 b4 _;have a0:=(H.1.trans ((ja wr _).mono H.1.size)).trans (je b4 (D.1 _) (fun q hq=>((A.1 (.cells #[] 9)).lt q hq).1))
   have a4:w3.ownsRow w1.heap.size 9 1 v' (k+1) ((bl.take (k+1)).map SV):=by
    rw [qk (by omega),qM]
    have e1:bl[k]=x:=by rw [R.1];simp [List.getD,show k<bl.length by omega]
    rw [e1];simpa using a3
   have S:=Hd (And.intro a4 a0);clear a0 a4 a3 b4 A C D B H;go_wp2
   go_roundg (n-(k+1))
   case measure=>have:=G.1;omega
   case rel=>exact ⟨k+1,by have:=G.1;omega,by go_num,S.1⟩
  .
   obtain rfl:k=n:=by omega
   rw [ql (by omega)] at ho
   obtain ⟨ba,bc,rfl,_⟩:=jP ho;have I:=Hd (jiP e (.slice ba k bc) bl wr (by rw [b1];exact js ho) (by omega) (fun b hb=>by have:=J.1 b hb;omega))
   have H:=Hd hB;clear ho hB;go_wp2_with fail;refine I.1.mono ?_;rintro r w3 ⟨ov,pre,b6,rfl,b7,a9,a0⟩;obtain ⟨va,vc,rfl,_⟩:=jP a9;have c0:w1.heap.size<=wr.heap.size:=H.1.size;have c3:w.heap.size<w1.heap.size:=K.1.lt;have b0:Below w1.heap.size w1 w3:=jd H.1 a0;have a1:yI w3 ⟨base,k,e,0,0,false⟩ w.heap.size pd:=Box.below K.1 b0;have s1:=Box.set a1 4 ((yQ e bl pre.length:Nat):Int);have f4:=Box.free a1 4;have f5:=Box.free s1 5;have c4:=Box.cell a1 4 _ rfl;have c5:=Box.cell s1 5 _ rfl;have S1:=Hd s1;have U:=Hd a1;have T:=Hd b7;have B:=Hd a9;have P:=Hd b0;have Q:=Hd b6;clear b6 b7 a9 a0 b0 a1 s1 H K I;go_wp2
   go_ret3
   have hm:=(Mod.set (fun b=>b=w.heap.size) w3 ⟨w.heap.size,4,none⟩ ((yQ e bl pre.length:Nat):Int) rfl).trans (Mod.set (fun b=>b=w.heap.size) _ ⟨w.heap.size,5,none⟩ (pre.length:Int) rfl)
   have b8:=jd N.1 P.1;refine ⟨w.heap.size,_,pre,bl,b1,L.1,Q.1,rfl,(jjM T.1 hm (by omega)).lower (by omega),jdy (yG B.1 hm (fun q hq c6=>?_)) (by omega),b8.trans (hm.below b8.size (fun b hb=>by omega))⟩
   have:=(B.1.lt q hq).1;omega
def xg:Nat->TkM->List SesM × TkM
 | 0,s=>([],s)
 | n+1,s=>if s.er=0 then ((yO s).1::(xg n (yO s).2).1,(xg n (yO s).2).2) else ([],s)
def je5 (s:TkM)(st:StM):Int × StM:=if s.er=0 then (if 0<s.rest.length then (3,jI) else if s.big=true then (24,jI) else if yr st=none then (0,st) else (24,jI)) else (s.er,jI)
def vG (l:List UInt8):Int × StM :=
 let c:=(⟨l,0,0,false⟩:TkM).rint
 let b:=c.2.rint
 let p:=b.2.num
 if p.2.er=0/\32<p.1 then (24,jI) else je5 (xg p.1 p.2).2 ⟨c.1,b.1,(xg p.1 p.2).1⟩
theorem jbD (h:s.er≠0):∀ n,xg n s=([],s)
 | 0=>rfl
 | n+1=>by unfold xg;rw [qh h]
theorem jfi:∀ (n:Nat) (s:TkM),(xg n s).2.er=0->xg (n+1) s=((xg n s).1 ++ [(yO (xg n s).2).1],(yO (xg n s).2).2)
 | 0,s,h=>by
  have h:s.er=0:=h;unfold xg;rw [qf h];rfl
 | n+1,s,h=>by
  by_cases h0:s.er=0
  .
   have e1:xg (n+1) s=((yO s).1::(xg n (yO s).2).1,(xg n (yO s).2).2):=by rw [xg,qf h0]
   rw [e1] at h |-;have ih:=jfi n (yO s).2 h;rw [xg,qf h0,ih];rfl
  . rw [jbD h0] at h;exact absurd h h0
theorem jjQ {n m:Nat}{s:TkM}(a0:n<=m)(h:(xg n s).2.er≠0):xg m s=xg n s:=by
 induction n generalizing m s with
 | zero=>exact jbD h m
 | succ n ih =>
  by_cases h0:s.er=0
  .
   obtain ⟨m',rfl⟩:∃ m',m=m'+1:=⟨m-1,by omega⟩
   have e1:xg (n+1) s=((yO s).1::(xg n (yO s).2).1,(xg n (yO s).2).2):=by rw [xg,qf h0]
   rw [e1] at h |-;rw [xg,qf h0,ih (by omega) h]
  . rw [jbD h0,jbD h0]
theorem jg9:∀ (n:Nat) (s:TkM),(xg n s).1.length<=n
 | 0,_=>qm _
 | n+1,s=>by
  unfold xg
  split
  . have:=jg9 n (yO s).2;simp only [qp];omega
  . simp
theorem jmP {s:TkM}(h:¬ (s.num.2.er=0/\32<s.num.1)):s.num.1<=32:=by
 by_cases he:s.num.2.er=0
 .
  rcases qX 32 s.num.1 with h1 | h1
  . exact absurd ⟨he,h1⟩ h
  . exact h1
 .
  unfold TkM.num at he |-
  split
  .
   rename_i h0
   rw [qf h0] at he
   split
   . rename_i h1;rw [qf h1] at he;exact absurd rfl he
   . exact qJ _
  . exact qJ _
structure RkSt (w0 w:World)(t b8:Nat)(v:Value)(s:TkM)(c b:Int)(x:Value)(l:List SesM):Prop where
 it:IsRK w t v s
 bz:Box w w0.heap.size #[(0:Int),(0:Int),.slice none 0 0] 30
 bs:Box w b8 #[c,b,x] 30
 own:OwnS w (b8+1) x l
 bel:Below w0.heap.size w0 w
 o1:w0.heap.size<t
 o2:t<b8
 ov:∀ k,v.ownBlock=some k->k<w0.heap.size
theorem RkSt.below (h:RkSt w0 w t b8 v s c b x l)(hb:Below w.heap.size w w'):RkSt w0 w' t b8 v s c b x l :=
 ⟨h.it.below hb,h.bz.below hb,h.bs.below hb,h.own.below hb,h.bel.trans (hb.mono h.bel.size),h.o1,h.o2,h.ov⟩
theorem RkSt.step {v':Value}{s':TkM}(h:RkSt w0 w t b8 v s c b x l)(hi:IsRK w' t v' s')(hv:v'.ownBlock=v.ownBlock)(hm:Mod (fun i=>i=t) w w'):RkSt w0 w' t b8 v' s' c b x l:=by
 have:=h.o1;have:=h.o2;exact ⟨hi,h.bz.mod hm (by omega),h.bs.mod hm (by omega),h.own.mod hm (fun k hk=>by have:=(h.own.lt k hk).1;omega),h.bel.trans (hm.below h.bel.size (fun i hi=>by omega)),h.o1,h.o2,fun k hk=>h.ov k (hv ▸ hk)⟩
theorem RkSt.clock (h:RkSt w0 w t b8 v s c b x l)(c':Int):RkSt w0 (w.setCell ⟨b8,0,none⟩ c') t b8 v s c' b x l:=by
 have:=h.o1;have:=h.o2;have hm:=Mod.set (fun i=>i=b8) w ⟨b8,0,none⟩ c' rfl
 exact ⟨h.it.mod hm (by omega) (fun k hk e=>by have:=h.ov k hk;omega),h.bz.mod hm (by omega),h.bs.set 0 _,h.own.mod hm (fun k hk e=>by have:=(h.own.lt k hk).1;omega),h.bel.trans (hm.below h.bel.size (fun i hi=>by omega)),h.o1,h.o2,h.ov⟩
theorem RkSt.birth (h:RkSt w0 w t b8 v s c b x l)(b':Int):RkSt w0 (w.setCell ⟨b8,1,none⟩ b') t b8 v s c b' x l:=by
 have:=h.o1;have:=h.o2;have hm:=Mod.set (fun i=>i=b8) w ⟨b8,1,none⟩ b' rfl
 exact ⟨h.it.mod hm (by omega) (fun k hk e=>by have:=h.ov k hk;omega),h.bz.mod hm (by omega),h.bs.set 1 _,h.own.mod hm (fun k hk e=>by have:=(h.own.lt k hk).1;omega),h.bel.trans (hm.below h.bel.size (fun i hi=>by omega)),h.o1,h.o2,h.ov⟩
theorem RkSt.put {x':Value}{l':List SesM}(h:RkSt w0 w t b8 v s c b x l)(hg:w.grownBy w' x.ownBlock)(ho:OwnS w' (b8+1) x' l'):RkSt w0 (w'.setCell ⟨b8,2,none⟩ x') t b8 v s c b x' l':=by
 have:=h.o1;have:=h.o2;have hm:Mod (fun i=>b8+1<=i) w w':=Mod.of_grown hg (fun k hk=>(h.own.lt k hk).1)
 have a0:=Mod.set (fun i=>i=b8) w' ⟨b8,2,none⟩ x' rfl
 exact ⟨(h.it.mod hm (by omega) (fun k hk e=>by have:=h.ov k hk;omega)).mod a0 (by omega) (fun k hk e=>by have:=h.ov k hk;omega),(h.bz.mod hm (by omega)).mod a0 (by omega),(h.bs.mod hm (by omega)).set 2 x',ho.mod a0 (fun k hk e=>by have:=(ho.lt k hk).1;omega),(h.bel.trans (hm.below h.bel.size (fun i hi=>by omega))).trans (a0.below (qi h.bel.size hm.size) (fun i hi=>by omega)),h.o1,h.o2,h.ov⟩
theorem RkSt.fill (h:RkSt w0 w t b8 v s c b x l)(c' b':Int)(y:Value) :
  Box (((w.setCell ⟨w0.heap.size,0,none⟩ c').setCell ⟨w0.heap.size,1,none⟩ b').setCell ⟨w0.heap.size,2,none⟩ y) w0.heap.size #[c',b',y] 30/\OwnS (((w.setCell ⟨w0.heap.size,0,none⟩ c').setCell ⟨w0.heap.size,1,none⟩ b').setCell ⟨w0.heap.size,2,none⟩ y) w0.heap.size x l/\Below w0.heap.size w0 (((w.setCell ⟨w0.heap.size,0,none⟩ c').setCell ⟨w0.heap.size,1,none⟩ b').setCell ⟨w0.heap.size,2,none⟩ y):=by
 have:=h.o1;have:=h.o2;have hm:=(Mod.set (fun i=>i=w0.heap.size) w ⟨w0.heap.size,0,none⟩ c' rfl).trans ((Mod.set (fun i=>i=w0.heap.size) _ ⟨w0.heap.size,1,none⟩ b' rfl).trans (Mod.set (fun i=>i=w0.heap.size) _ ⟨w0.heap.size,2,none⟩ y rfl))
 exact ⟨((h.bz.set 0 _).set 1 _).set 2 y,(h.own.mod hm (fun k hk e=>by have:=(h.own.lt k hk).1;omega)).base (by omega),h.bel.trans (hm.below h.bel.size (fun i hi=>by omega))⟩
theorem uy {b:Nat}{d:Int}{t:TypeId}(h:Box w b #[c,d,x] t):w.rangeAt b 0 [c,d,x]:=h.range 0 _ (fun j v hv=>by rw [qA];simpa using hv)
theorem jkT (s:TkM):SesOk (yO s).1:=⟨qi (TkM.txt_len _) (by decide),qi (TkM.txt_len _) (by decide),TkM.num_lt _⟩
theorem jjf:∀ (n:Nat) (s:TkM),∀ x∈(xg n s).1,SesOk x
 | 0,_,_,h=>by cases h
 | n+1,s,x,h=>by
  unfold xg at h
  split at h
  .
   rcases qH.1 h with rfl | h
   . exact jkT s
   . exact jjf n _ x h
  . cases h
theorem jeH (l:List UInt8)(v:Value)(w:World)(h:Rd w v l.length (l.map V8))(b7:l.length<=1000000000000)(b0:∀ b,v.ownBlock=some b->b<w.heap.size) :
  Calls prog 106 #[v] w fun e w'=>∃ o,e=.returned (.tuple #[.agg #[.int .i64 (vG l).2.clock,.int .i64 (vG l).2.births,o],.int .i64 (vG l).1])/\OwnS w' w.heap.size o (vG l).2.l/\Below w.heap.size w w':=by
 have e3:=h;obtain ⟨va,vcap,rfl,_⟩:=e3;generalize hvn:(Value.slice va l.length vcap)=v at h b0;have e1:=hvn;obtain ⟨vn,b9⟩:=Nm (l.length);rw [<- b9] at hvn;subst hvn;clear e1 b9;have b1:Below w.heap.size w (((w.alloc (.cells #[(0:Int),(0:Int),.slice none 0 0] 30)).alloc (.cells #[.slice va vn vcap,(0:Int),.bool false] 271)).alloc (.cells #[(0:Int),(0:Int),.slice none 0 0] 30)):=(jl w (.cells #[(0:Int),(0:Int),.slice none 0 0] 30) (.cells #[.slice va vn vcap,(0:Int),.bool false] 271)).trans ((ja ((w.alloc (.cells #[(0:Int),(0:Int),.slice none 0 0] 30)).alloc (.cells #[.slice va vn vcap,(0:Int),.bool false] 271)) (.cells #[(0:Int),(0:Int),.slice none 0 0] 30)).mono (jl w _ _).size);have b2:RkSt w (((w.alloc (.cells #[(0:Int),(0:Int),.slice none 0 0] 30)).alloc (.cells #[.slice va vn vcap,(0:Int),.bool false] 271)).alloc (.cells #[(0:Int),(0:Int),.slice none 0 0] 30)) (w.heap.size+1) (w.heap.size+1+1) (.slice va vn vcap) ⟨l,0,0,false⟩ 0 0 (.slice none 0 0) []:=by
  have h1:=Box.new w #[(0:Int),(0:Int),.slice none 0 0] 30;have h2:=Box.new (w.alloc (.cells #[(0:Int),(0:Int),.slice none 0 0] 30)) #[.slice va vn vcap,(0:Int),.bool false] 271;have h3:=Box.new ((w.alloc (.cells #[(0:Int),(0:Int),.slice none 0 0] 30)).alloc (.cells #[.slice va vn vcap,(0:Int),.bool false] 271)) #[(0:Int),(0:Int),.slice none 0 0] 30;rw [qj] at h2;rw [qj,qj] at h3;exact ⟨⟨h2.below (ja _ _),h.below b1,fun e=>by have:=b0 _ e;omega,b7⟩,(h1.below (ja _ _)).below (ja _ _),h3,OwnS.nil _ _,b1,by omega,by omega,b0⟩
 obtain ⟨D,hD⟩:=Nm (vG l);rw [<- hD];unfold vG at hD;simp only at hD;obtain ⟨s0,c3⟩:∃ s0:TkM,s0=⟨l,0,0,false⟩:=⟨_,rfl⟩;rw [<- c3] at b2 hD;have Y:=Hd hD;have H:=Hd b2;clear b2 hD h b7 b0 b1 c3;go_enter func106,ntmps106;go_wp2_with fail;generalize hw1:World.alloc _ _=w1 at H |-;clear hw1;obtain ⟨p,hp⟩:=Nm (w.heap.size);generalize ht:w.heap.size+1=t at H |-;generalize hb8:t+1=b8 at H |-;clear ht hb8;refine (jU t (.slice va vn vcap) s0 w1 H.1.it).mono ?_;rintro e w2 ⟨rfl,⟨v2,hk,c4⟩,hm⟩;have Q:=Hd (H.1.step hk c4 hm);obtain ⟨cc,c5⟩:=Nm (s0.rint);rw [<- c5] at Q Y |-;have c0:w2.cell? ⟨b8,0,none⟩=some (.int .i64 0):=Q.1.bs.cell 0 _ rfl;have f0:=Q.1.bs.free 0;have H1:=Hd (Q.1.clock cc.1);clear hk c4 hm H Q c5;go_wp2_with fail;generalize (w2.setCell ⟨b8,0,none⟩ cc.1)=w3 at H1 |-;clear c0 f0;refine (jU t v2 cc.2 w3 H1.1.it).mono ?_;rintro e w4 ⟨rfl,⟨v4,hk,c6⟩,hm⟩;have T:=Hd (H1.1.step hk c6 hm);obtain ⟨bb,c7⟩:=Nm (cc.2.rint);rw [<- c7] at T Y |-;have c1:w4.cell? ⟨b8,1,none⟩=some (.int .i64 0):=T.1.bs.cell 1 _ rfl;have f1:=T.1.bs.free 1;have H2:=Hd (T.1.birth bb.1);clear hk c6 hm H1 T c7;go_wp2_with fail;generalize (w4.setCell ⟨b8,1,none⟩ bb.1)=w5 at H2 |-;clear c1 f1;refine (xB t v4 bb.2 w5 H2.1.it).mono ?_;rintro e w6 ⟨rfl,⟨v6,hk,c8⟩,hm⟩;have E:=Hd (H2.1.step hk c8 hm);have a9:=@jmP bb.2;obtain ⟨q,hq⟩:=Nm (bb.2.num);rw [<- hq] at E Y a9 |-;have H4:=Hd a9;clear hk c8 hm H2 hq a9;obtain ⟨n,s⟩:=q;simp only at E Y H4 |-;have k1:w6.cell? ⟨t,1,none⟩=some (.int .i64 s.er):=E.1.it.box.cell 1 _ rfl;by_cases hbig:s.er=0/\32<n
 .
  have F:=Hd (show D=(24,jI) by rw [Y.1,qf hbig])
  have t1:(s.er==0)=true:=by rw [hbig.1];rfl
  have t2:decide ((32:Int)<(n:Int))=true:=by simp;omega
  have t2':decide (32<n)=true:=by simp;omega
  obtain ⟨z0,y0,z1,y1,z2,y2⟩:=B3 E.1.bz;have C:=Hd (E.1.fill 0 0 (.slice none 0 0));clear E H4 hbig Y;go_wp2;exact Jt (uy C.1.1) underlying30 ⟨_,by rw [F.1] <;> rfl,by rw [F.1];exact OwnS.nil _ _,C.1.2.2⟩
 have hn:=H4.1 hbig;have G:=Hd (show D=je5 (xg n s).2 ⟨cc.1,bb.1,(xg n s).1⟩ by rw [Y.1,qh hbig])
 have hz:IntKind.i64.wrap (n:Int)=(n:Int):=by simp [IntKind.wrap,IntKind.bits,IntKind.signed];omega
 have H9:=Hd hn;have t4:decide ((32:Int)<(n:Int))=false:=by simp;omega
 have t4':decide (32<n)=false:=by simp;omega
 cases t3:(s.er==0)
 all_goals
  go_wp2_with fail;clear t3 t4 t4'
  go_loopg [7] n (fun gk iv wr=>∃ (i:Nat) (v' x:Value),gk+i=n/\iv=.int .i64 (i:Int)/\RkSt w wr t b8 v' (xg i s).2 cc.1 bb.1 x (xg i s).1)
  case atStart=>exact ⟨0,_,_,qT _,rfl,E.1⟩
  case round =>
   clear E k1;obtain ⟨i,v',x,c9,rfl,hS⟩:=hrel;have i0:(0:Int)<=(i:Int):=by omega
   have H5:=Hd c9;have Z:=Hd (jg9 i s);have H6:=Hd (jjf i s);have M:=Hd (jfi i s);have N:=Hd (fun h1 h2=>@jjQ i n s h1 h2)
   obtain ⟨R,hR⟩:=Nm (xg i s);have H3:=Hd hR;rw [<- hR] at hS Z H6 M N;clear hR c9;obtain ⟨L,S⟩:=R;simp only at hS Z H6 M N;have H:=Hd hS;clear hS;have k1:wr.cell? ⟨t,1,none⟩=some (.int .i64 S.er):=H.1.it.box.cell 1 _ rfl;by_cases hi:i<n
   .
    have i1:(i:Int)<(n:Int):=by omega
    by_cases he:S.er=0
    rotate_left
    .
     have J:=Hd (show D=je5 S ⟨cc.1,bb.1,L⟩ by rw [G.1,N.1 (by omega) he])
     have t0:(S.er==0)=false:=by rw [qD];exact he
     clear hi M N H3;have A:=Hd (show D=(S.er,jI) by rw [J.1];unfold je5;rw [qh he])
     have t1:(S.er != 0)=true:=by rw [wl];exact he
     have t1':(S.er==0)=false:=by rw [qD];exact he
     clear he J;go_wp2_with fail;clear k1 t1 t1';have U:=Hd (H.1.it.box.cell 1 _ rfl);have V:=Hd (And.intro H.1.o1 H.1.bel.size);refine qt (S:=fun W=>Mod (fun i=>i=w.heap.size) wr W) (by kernel_rfl) (Mod.drew _ wr) (fun a0=>?_)
     refine Tk 0 59 ?_;refine Tk 1 60 ?_;refine Tk 2 61 ?_;refine Tk 3 62 ?_;refine Tk 4 63 ?_ (hy:=by intro w' a6;have u1:=jgF a6 U.1 (fun e=>by have h1:t=w.heap.size:=e;have:=V.1.1;omega);clear a6;go_simp;try with_reducible rfl)
     refine Rs 5 30 2 59 fun K hK=>?_
     rw [qf (by kernel_rfl)]
     refine jfR 30 (.tmp 2) (.tmp 59) rfl w.heap.size 0 [(0:Int),(0:Int),.slice none 0 0] rfl rfl (show Box wr.drew w.heap.size #[(0:Int),(0:Int),.slice none 0 0] 30 from H.1.bz).thereG3 (by kernel_rfl) (jmp _ _ _ _ _) ?_
     obtain ⟨a7,a3⟩:=(show Box wr.drew w.heap.size #[(0:Int),(0:Int),.slice none 0 0] 30 from H.1.bz).setG3 (0:Int) (0:Int) (.slice none 0 0)
     have a1:=(H.1.bel.drew).trans (a3.below (B:=w.heap.size) V.1.2 (fun i hi=>qS hi.symm))
     refine hK.out _ _ (a0.trans a3) (fun a4=>?_)
     have C:=Hd (And.intro a7 a1);clear hK K a7 a3 a1
     try simp only [Act.put]
     refine Tk 6 3 ?_;refine Dn ?_;clear a0 a4 H U G;generalize (World.setCells _ _ _ _)=w9 at C |-;go_wp2;exact Jt (uy C.1.1) underlying30 ⟨_,by rw [A.1] <;> rfl,by rw [A.1];exact OwnS.nil _ _,C.1.2⟩
    have t0:(S.er==0)=true:=by rw [he];rfl
    have H0:=Hd (M.1 he);have HI:=Hd hi;clear hi he M N H3;go_wp2_with fail;refine (jaQ t v' S wr H.1.it (fun k hk=>by have:=H.1.ov k hk;have:=H.1.bel.size;omega)).mono ?_
    rintro e w7 ⟨rfl,⟨v7,hk,d0⟩,hm⟩;have I:=Hd (H.1.step hk d0 hm);obtain ⟨BR,d1⟩:=Nm (yO S);rw [<- d1] at I H0 |-;clear hk d0 hm H d1 k1 t0;obtain ⟨bs,S'⟩:=BR;simp only at I H0 |-
    go_wp2_with (with_reducible refine Sz bs.cells.toList (SesM.listS _) (SesM.oneS _) ?_)
    intro w8 d3;obtain ⟨d4,b3⟩:=uQ d3;have H7:=Hd d4.rangeS;have X:=Hd (I.1.below b3);obtain ⟨xa,xc,rfl,_⟩:=X.1.own.slice;obtain ⟨xn,a8⟩:=Nm (L.length);rw [<- a8] at X;have c2:w8.cell? ⟨b8,2,none⟩=some (.slice xa xn xc):=X.1.bs.cell 2 _ rfl;clear d3 d4 b3 I a8
    go_wp2_with (with_reducible refine Lk (H7.1) underlying45 ?_)
    intro cv d5;have ecv:cv=bs.cells:=by rw [d5.out]
    subst ecv;clear d5 H7
    go_wp2_with (refine Bs (vL bs w8) ?_)
    intro w9 b4;have a1:Below w8.heap.size w8 w9:=by rw [b4.out];exact ja _ _
    have H8:=Hd (show ∀ j u,bs.cells.toList[j]?=some u->w9.cell? ((⟨w8.heap.size,0,none⟩:Addr).add j)=some u by rw [b4.out];exact xu w8 bs _)
    have O:=Hd (X.1.below a1);have Ha:=Hd (show L.length+1<=1256584717458 by have:=Z.1;have:=H9.1;have:=HI.1;omega)
    clear b4 a1 X c2
    go_wp2_with (at_builtin;refine jag rfl _ _ rfl (b8+1) _ L rfl O.1.own ⟨w8.heap.size,0,none⟩ 1 bs rfl H8.1 Ha.1 (by have:=O.1.bs.lt;omega) ?_)
    intro y wa a2 b5 _;obtain ⟨ya,yc,rfl,_⟩:=a2.slice;obtain ⟨yn,d6⟩:=Nm ((L ++ [bs]).length);rw [<- d6] at a2 |-;clear d6;have Hb:=Hd (O.1.put b5 a2);have b6:Box wa b8 #[cc.1,bb.1,.slice xa xn xc] 30:=O.1.bs.grown b5 (fun e=>by have:=(O.1.own.lt _ e).1;omega)
    have d2:wa.cell? ⟨b8,2,none⟩=some (.slice xa xn xc):=b6.cell 2 _ rfl;have e2:=b6.free 2;clear b5 a2 O H8 b6;go_wp2
    go_roundg (n-(i+1))
    case measure=>have:=H5.1;have:=HI.1;omega
    case rel=>exact ⟨i+1,_,_,by have:=H5.1;have:=HI.1;omega,by go_num,by rw [H0.1];exact Hb.1⟩
   have i1:¬ (i:Int)<(n:Int):=by omega
   have J:=Hd (show D=je5 S ⟨cc.1,bb.1,L⟩ by
    have:i=n:=by have:=H5.1;omega
    rw [G.1,<- this,<- H3.1])
   clear hi M N H3;by_cases he:S.er=0;rotate_left
   .
    have A:=Hd (show D=(S.er,jI) by rw [J.1];unfold je5;rw [qh he])
    have t1:(S.er != 0)=true:=by rw [wl];exact he
    have t1':(S.er==0)=false:=by rw [qD];exact he
    clear he J;go_wp2_with fail;clear k1 t1 t1';have U:=Hd (H.1.it.box.cell 1 _ rfl);have V:=Hd (And.intro H.1.o1 H.1.bel.size);refine qt (S:=fun W=>Mod (fun i=>i=w.heap.size) wr W) (by kernel_rfl) (Mod.drew _ wr) (fun a0=>?_)
    refine Tk 0 59 ?_;refine Tk 1 60 ?_;refine Tk 2 61 ?_;refine Tk 3 62 ?_;refine Tk 4 63 ?_ (hy:=by intro w' a6;have u1:=jgF a6 U.1 (fun e=>by have h1:t=w.heap.size:=e;have:=V.1.1;omega);clear a6;go_simp;try with_reducible rfl)
    refine Rs 5 30 2 59 fun K hK=>?_
    rw [qf (by kernel_rfl)]
    refine jfR 30 (.tmp 2) (.tmp 59) rfl w.heap.size 0 [(0:Int),(0:Int),.slice none 0 0] rfl rfl (show Box wr.drew w.heap.size #[(0:Int),(0:Int),.slice none 0 0] 30 from H.1.bz).thereG3 (by kernel_rfl) (jmp _ _ _ _ _) ?_
    obtain ⟨a7,a3⟩:=(show Box wr.drew w.heap.size #[(0:Int),(0:Int),.slice none 0 0] 30 from H.1.bz).setG3 (0:Int) (0:Int) (.slice none 0 0)
    have a1:=(H.1.bel.drew).trans (a3.below (B:=w.heap.size) V.1.2 (fun i hi=>qS hi.symm))
    refine hK.out _ _ (a0.trans a3) (fun a4=>?_)
    have C:=Hd (And.intro a7 a1);clear hK K a7 a3 a1
    try simp only [Act.put]
    refine Tk 6 3 ?_;refine Dn ?_;clear a0 a4 H U G;generalize (World.setCells _ _ _ _)=w9 at C |-;go_wp2;exact Jt (uy C.1.1) underlying30 ⟨_,by rw [A.1] <;> rfl,by rw [A.1];exact OwnS.nil _ _,C.1.2⟩
   have t1:(S.er != 0)=false:=by rw [he];rfl
   have F:=Hd (show D=(if 0<S.rest.length then (3,jI) else if S.big=true then (24,jI) else if yr ⟨cc.1,bb.1,L⟩=none then (0,⟨cc.1,bb.1,L⟩) else (24,jI)) by rw [J.1];unfold je5;rw [qf he])
   obtain ⟨ra,rc,d7,_⟩:=H.1.it.rd;obtain ⟨rn,d8⟩:=Nm (S.rest.length);rw [<- d8] at d7 F;subst d7;have g0:wr.cell? ⟨t,0,none⟩=some (.slice ra rn rc):=H.1.it.box.cell 0 _ rfl;clear he J d8;by_cases hr:0<rn
   .
    have A:=Hd (show D=(3,jI) by rw [F.1,qf hr])
    have t2:decide ((0:Int)<(rn:Int))=true:=by simp;omega
    have t2':decide (0<rn)=true:=by simp;omega
    clear hr F;obtain ⟨z0,y0,z1,y1,z2,y2⟩:=B3 H.1.bz;have C:=Hd (H.1.fill 0 0 (.slice none 0 0));clear H G;go_wp2;exact Jt (uy C.1.1) underlying30 ⟨_,by rw [A.1] <;> rfl,by rw [A.1];exact OwnS.nil _ _,C.1.2.2⟩
   have P:=Hd (F.1.trans (qh hr));have t2:decide ((0:Int)<(rn:Int))=false:=by simp;omega
   have t2':decide (0<rn)=false:=by simp;omega
   obtain ⟨xa,xc,rfl,_⟩:=H.1.own.slice;obtain ⟨xn,a8⟩:=Nm (L.length);rw [<- a8] at H;clear hr F a8;obtain ⟨c0,c1,c2⟩:=C3 H.1.bs;go_wp2_with fail;refine (uW ⟨cc.1,bb.1,L⟩ _ wr H.1.own.rd H6.1).mono ?_;rintro e7 w7 ⟨rfl,d9⟩;have I:=Hd (H.1.below d9);clear d9 H k1 g0 c0 c1 c2 t1 t2 t2';obtain ⟨wr,e0⟩:=Nm (w7);rw [<- e0] at I |-;clear e0;have H:=I;clear I;have g2:wr.cell? ⟨t,2,none⟩=some (.bool S.big):=H.1.it.box.cell 2 _ rfl
   cases hbg:S.big
   rotate_left
   .
    have A:=Hd (show D=(24,jI) by rw [P.1,qf hbg])
    rw [hbg] at g2;clear hbg P;generalize (jdA (yr ⟨cc.1,bb.1,L⟩))=ck;obtain ⟨z0,y0,z1,y1,z2,y2⟩:=B3 H.1.bz;have C:=Hd (H.1.fill 0 0 (.slice none 0 0));clear H G;go_wp2;exact Jt (uy C.1.1) underlying30 ⟨_,by rw [A.1] <;> rfl,by rw [A.1];exact OwnS.nil _ _,C.1.2.2⟩
   rw [hbg] at g2
   cases hck:yr ⟨cc.1,bb.1,L⟩ with
   | some m =>
    have A:=Hd (show D=(24,jI) by rw [P.1,qh (by rw [hbg];decide),qh (by rw [hck];intro h;cases h)])
    rw [show (jdA (some m)).1=24 from rfl,show (jdA (some m)).2=m from rfl]
    clear hbg P hck;obtain ⟨z0,y0,z1,y1,z2,y2⟩:=B3 H.1.bz;have C:=Hd (H.1.fill 0 0 (.slice none 0 0));clear H G;go_wp2;exact Jt (uy C.1.1) underlying30 ⟨_,by rw [A.1] <;> rfl,by rw [A.1];exact OwnS.nil _ _,C.1.2.2⟩
   | none =>
   have A:=Hd (show D=(0,⟨cc.1,bb.1,L⟩) by rw [P.1,qh (by rw [hbg];decide),qf hck])
   rw [show (jdA none).1=0 from rfl,show (jdA none).2=0 from rfl]
   clear hbg P hck;obtain ⟨c0,c1,c2⟩:=C3 H.1.bs;obtain ⟨z0,y0,z1,y1,z2,y2⟩:=B3 H.1.bz;have C:=Hd (H.1.fill cc.1 bb.1 (.slice xa xn xc));clear H G;go_wp2;exact Jt (uy C.1.1) underlying30 ⟨_,by rw [A.1] <;> rfl,by rw [A.1];exact C.1.2.1,C.1.2.2⟩
def jmr (k i:Nat):List Value:=(zR k i).cells.toList
theorem jik (s:SesM):zk s s=true:=by unfold zk;simp
theorem jhw {b o:Nat}{cs:List Value}{sz:Nat}(h:∀ j,j<sz->w.cell? ⟨b,o+j,none⟩=some (cs.getD j undef))(hl:cs.length=sz:=by rfl):w.rangeAt b o cs:=fun j v hv=>by
 have hj:j<cs.length:=(List.getElem?_eq_some_iff.1 hv).1;rw [h j (by omega),List.getD,hv];rfl
theorem yD {b o:Nat}{cs:List Value}(hb:Below w.heap.size w w')(h:w.rangeAt b o cs):w'.rangeAt b o cs:=fun j v hv=>jc hb (h j v hv)
theorem jmW {ops:Array Oper}{rest:List Oper}{o:Oper}{Q:Exit->Act->World->Prop}(a2:o.guard=none)(s x:Operand)(ho:o.op=.call { callee:=.builtin .append,args:=#[s,x],argTypes:=#[28,28] })(base:Nat)(v:Value)(n:Nat)(xs:List Value)(hs:a.eval s=v)(a1:w.ownsRow base 45 12 v n xs)(ad:Addr)(c:Nat)(y:SesM)(hx:a.eval x=.slice (some ad) 1 c)(hy:∀ j u,y.cells.toList[j]?=some u->w.cell? (ad.add j)=some u)(a6:n+1<=1256584717458)(a0:base<=w.heap.size)(h:∀ v' w',w'.ownsRow base 45 12 v' (n+1) (xs++y.cells.toList)->w.grownBy w' v.ownBlock->xj w v v'->jiL w w' v v' n->wpList prog ops Q rest (a.put o.dst v') w'):wpList prog ops Q (o::rest) a w:=by
 obtain ⟨i0,hi,a3,a4,a5⟩:=wI jbH;exact ja4 a2 s x 28 ho base 45 i0 _ 12 112 underlying28 hi a3 a4 a5 rfl (by decide) v n xs hs a1 ad c y.cells.toList hx rfl hy y.oneS (by unfold maxLen;omega) (by omega) a0 h
theorem jcg {op:Oper}(s:SesM)(x y:Operand)(ho:op.op=.binOp .neq 45 x y 45)(hx:a.eval x=.agg s.cells)(hy:a.eval y=.agg s.cells) :
  (execOp a.eval op).run prog w=.ok (.value (.bool false)) w:=by
 have h:=jby s s w;rw [jik] at h;unfold execOp;simp only [ho,hx,hy,wu,wB,qR,run_eqGuard_agg (op:=.neq) (t:=45) (x:=x) (y:=y) (xs:=s.cells) (ys:=s.cells) (hm:=show prog.eqGuardType prog.depth 45=false by kernel_rfl),h,Bool.not_true]
theorem jj9:(prog.info? 28).map (fun i=>(i.zero,i.size,i.bytes))=some (some (.slice none 0 0),1,24):=by kernel_rfl
theorem jm1 {ops:Array Oper}{rest:List Oper}{o:Oper}{Q:Exit->Act->World->Prop}(a2:o.guard=none)(s x:Operand)(ho:o.op=.call { callee:=.builtin .append,args:=#[s,x],argTypes:=#[108,108] })(base:Nat)(v:Value)(n:Nat)(xs:List Value)(hs:a.eval s=v)(a1:w.ownsRow base 28 1 v n xs)(ad:Addr)(m c:Nat)(ys:List Value)(hx:a.eval x=.slice (some ad) m c)(hl:ys.length=m)(hy:∀ j u,ys[j]?=some u->w.cell? (ad.add j)=some u)(h1:∀ u∈ys,u.oneCell'=true)(a6:n+m<=4398046511104)(a0:base<=w.heap.size)(h:∀ v' w',w'.ownsRow base 28 1 v' (n+m) (xs++ys)->w.grownBy w' v.ownBlock->xj w v v'->wpList prog ops Q rest (a.put o.dst v') w'):wpList prog ops Q (o::rest) a w:=by
 obtain ⟨i0,hi,a3,a4,a5⟩:=wI jj9;exact yb a2 s x 108 ho base 28 i0 (.slice none 0 0) 1 24 underlying108 hi a3 a4 a5 rfl (by decide) v n xs hs a1 ad m c ys hx (by omega) hy h1 (by unfold maxLen;omega) (by omega) a0 h
theorem jeo (R:RowsS)(lsv:Value)(w:World)(he:R.e=45)(d8:R.sz=12)(c9:R.mark=jmr)(h:Turn1S R lsv w 0 0 w)(hN:R.N<=1000000)(b2:∀ j,j<R.N->R.ns j<=1000000000000)(hl:∀ b,lsv.ownBlock=some b->b<w.heap.size)(hB:R.B<=w.heap.size) :
  Calls prog 48 #[lsv] w fun e w'=>e=.returned (.bool true)/\Mod R.blk w w':=by
 obtain ⟨la,lc,e1⟩:∃ a c,lsv=.slice a R.N c:=by obtain ⟨a,c,e,_⟩:=h.ls;exact ⟨a,c,e⟩
 have Hl:=Hd hl;have H:=Hd h;have HB:=Hd hB;have He:=Hd he;have J:=Hd d8;have Q:=Hd c9;have T:=Hd b2;clear hl h hB he b2 d8 c9;subst e1;go_enter func48,ntmps48;go_wp2
 go_loopg [3] R.N (fun gk kv wr=>∃ k:Nat,gk+k=R.N/\kv=.int .i64 (k:Int)/\Turn1S R (.slice la R.N lc) w k 0 wr)
 case atStart=>exact ⟨0,rfl,rfl,H.1⟩
 case round =>
  clear H;obtain ⟨k,a4,rfl,hT⟩:=hrel;by_cases hk:k<R.N
  .
   have b2:=T.1 k hk;obtain ⟨b,off,cap,e1,hc⟩:=hT.lsAt hk;obtain ⟨a,c,e2⟩:=hT.slice hk;rw [e2] at hc;injection e1 with e3 _ e4
   subst e3;subst e4;have d9:(0:Int)<=(k:Int):=by omega
   have e0:(k:Int)<(R.N:Int):=by omega
   have C:=Hd hT;have D:=Hd a4;have E2:=Hd e2;clear hT a4 e2 T;go_wp2_with fail;obtain ⟨n,hn⟩:=Nm (R.ns k);rw [<- hn] at hc b2;have I:=Hd hn;clear hn;obtain ⟨wo,rfl⟩:∃ wo:World,wo=wr:=⟨_,rfl⟩
   go_loopg [4] n (fun gi iv wr=>∃ i:Nat,gi+i=n/\iv=.int .i64 (i:Int)/\Turn1S R (.slice (some ⟨b,off,none⟩) R.N lc) w k i wr)
   case atStart=>exact ⟨0,rfl,rfl,C.1⟩
   case round =>
    clear C hc;obtain ⟨i,a9,rfl,hT⟩:=hrel;have hc:wr.cell? ⟨b,off+k,none⟩=some (.slice a n c):=by
     obtain ⟨b',off',cap',e1,hc⟩:=hT.lsAt hk;injection e1 with e1;injection e1 with e1;injection e1 with e5 e6
     subst e5;subst e6;rw [hc,E2.1,I.1]
    have A:=Hd a9;by_cases hi:i<n
    .
     obtain ⟨g,cap',e5,_,b6⟩:=hT.row hk (by rw [<- I.1];exact hi)
     rw [E2.1,<- I.1] at e5;injection e5 with e5 _ e6
     subst e5;subst e6;have f5:(0:Int)<=(i:Int):=by omega
     have f6:(i:Int)<(n:Int):=by omega
     obtain ⟨ms,a5⟩:=Nm (zR k i);have b0:R.mark k i=ms.cells.toList:=by rw [Q.1,a5];rfl
     have d0:∀ w5,Below wr.heap.size wr w5->w5.there g (i*12) 12/\Turn1S R (.slice (some ⟨b,off,none⟩) R.N lc) w k (i+1) (w5.setCells g (i*12) ms.cells.toList):=fun w5 a2=>by
      have f7:=hT.below a2;obtain ⟨g',cap',e5,b8,e8⟩:=f7.row hk (by rw [<- I.1];exact hi)
      rw [E2.1,<- I.1] at e5;injection e5 with e5 _ e6
      injection e5 with e5
      injection e5 with e5
      subst e5;rw [b0,J.1] at e8;rw [J.1] at b8;exact ⟨b8,e8⟩
     have a6:=fun w4=>zG (k:Int) (i:Int) w4 (by omega) (by omega)
     rw [<- a5] at a6;have G:=Hd a6;have U:=Hd d0;have HC:=Hd hc;clear hT a9 b6 a6 a5 d0 b0;go_wp2_with fail;clear hc;refine yF 9 (F:=fun W=>Below wr.heap.size wr W) (by kernel_rfl) (jb wr) (fun a1=>?_)
     refine Tl 0 27 ?_;refine Tl 1 28 ?_;refine Tl 2 29 ?_;refine Tl 3 30 ?_ (hy:=by intro w' a0;have u1:=jc a0 HC.1;clear a0;go_simp;try with_reducible rfl)
     refine Tl 4 31 ?_;refine Tl 5 32 ?_;refine Tl 6 33 ?_;refine jQ (rs := [7]) (by kernel_rfl) (by simp) (AllReadyL.cons (o:=⟨some 34,.call _,_,_,_,_⟩) rfl (fun K hK=>?_) AllReadyL.nil)
     go_simp
     refine (G.1 _).mono ?_;rintro e w5 ⟨rfl,a2⟩;have d1:=jd a1 a2;refine hK.out _ _ d1 (fun b9=>?_)
     obtain ⟨b8,e9⟩:=U.1 w5 b9;have H3:=Hd b8;have H4:=Hd e9;clear hK K a2 d1 a1 b8 e9 G U
     try simp only [Nz]
     refine Tl 8 35 ?_;refine jQ (rs := [9]) (by kernel_rfl) (by simp) (AllReadyL.last rfl (o:=⟨none,.store _ _ _,_,_,_,_⟩) rfl (fun K hK=>?_))
     rw [qf (by kernel_rfl)]
     refine wp_store_mid 45 (.tmp 35) (.tmp 34) rfl g (i*12) ms.cells rfl rfl H3.1 (by kernel_rfl) (by have:=pV (SesM.oneS ms);simpa using this) ?_
     refine hK.out _ _ ?_;clear hK K H3 b9
     try simp only [Act.put]
     refine yZ (by kernel_rfl) ?_ _
     generalize World.setCells w5 _ _ _=w6 at H4 |-;go_wp2
     go_roundg (n-(i+1))
     case measure=>have:=A.1;omega
     case rel=>exact ⟨i+1,by have:=A.1;omega,by go_num,H4.1⟩
    .
     obtain rfl:i=n:=by omega
     rw [I.1] at hT;have C:=Hd (hT.next hk);clear hT a9;go_wp2
     go_roundg (R.N-(k+1))
     case measure=>have:=D.1;omega
     case rel=>exact ⟨k+1,by have:=D.1;omega,by go_num,C.1⟩
  .
   obtain rfl:k=R.N:=by omega
   have d2:=hT.mod.size;have C:=Hd (hT.two (E:=28) (fun b hb=>qu (Hl.1 b hb) d2) (qi HB.1 d2))
   clear hT a4 Hl HB d2;go_wp2_with fail;obtain ⟨wo,rfl⟩:∃ wo:World,wo=wr:=⟨_,rfl⟩
   go_loopg [5,6] R.N (fun gk gsv kv wr=>∃ (k:Nat) (gl:List Value),gk+k=R.N/\kv=.int .i64 (k:Int)/\Turn2S R (.slice la R.N lc) w 28 k gsv gl (R.vs k) 0 wr)
   case atStart=>exact ⟨0,[],rfl,rfl,C.1⟩
   case round =>
    clear C;obtain ⟨k,gl,a4,rfl,hT⟩:=hrel;by_cases hk:k<R.N
    .
     have b2:=T.1 k hk;obtain ⟨⟨b,off,cap,e1,hc⟩,_,a,c,e2⟩:=hT.at hk;rw [e2] at hc hT;injection e1 with e3 _ e4
     subst e3;subst e4;have d9:(0:Int)<=(k:Int):=by omega
     have e0:(k:Int)<(R.N:Int):=by omega
     obtain ⟨n,hn⟩:=Nm (R.ns k);rw [<- hn] at hc b2 e2 hT;have C:=Hd hT;have D:=Hd a4;have I:=Hd hn;have E2:=Hd e2;clear hT a4 e2 hn;go_wp2_with fail;obtain ⟨wo,rfl⟩:∃ wo:World,wo=wr:=⟨_,rfl⟩
     go_loopg [7,8] 64 (fun gi gv iv wr=>∃ i:Nat,gi+i=64/\iv=.int .i64 (i:Int)/\Turn2S R (.slice (some ⟨b,off,none⟩) R.N lc) w 28 k u5 gl gv i wr)
     case atStart=>exact ⟨0,rfl,rfl,C.1⟩
     case round =>
      clear C hc;obtain ⟨i,a9,rfl,hT⟩:=hrel;have b7:=(hT.at hk).2.1;have hc:wr.cell? ⟨b,off+k,none⟩=some (.slice a n c):=by
       obtain ⟨⟨b',off',cap',e1,hc⟩,_⟩:=hT.at hk;injection e1 with e1;injection e1 with e1;injection e1 with e5 e6
       subst e5;subst e6;rw [hc,E2.1]
      have A:=Hd a9;by_cases hi:i<64
      .
       obtain ⟨ms,a5⟩:∃ ms,ms=zR k (n+i:Nat):=⟨_,rfl⟩;have b0:R.mark k (n+i)=ms.cells.toList:=by rw [Q.1,a5];rfl
       have a6:=fun w=>zG (k:Int) ((n+i:Nat):Int) w (by omega) (by omega)
       rw [<- a5,Int.natCast_add] at a6;have f1:=hT.le;have f6:(i:Int)<64:=by omega
       have H6:=Hd hT;have H7:=Hd b7;have G:=Hd a6;have H8:=Hd b0;clear hT a9 a6 a5 b7 b0;go_wp2_with fail;refine (G.1 _).mono ?_;rintro e w5 ⟨rfl,a2⟩;have c8:=jd a2 (ja w5 (.cells ms.cells 45));have a7:=jq H7.1 c8;rw [He.1,J.1,<- I.1] at a7;have L:=Hd a7;have V:=Hd (H6.1.below c8);have H9:=Hd (qi f1 c8.size);clear a2 c8 a7;have Ha:=Hd (xu w5 ms 45);have Hb:=Hd (show n+1+i<=1256584717458 by omega)
       go_wp2_with (first | refine xh (op:=⟨some 60,_,_,_,_,_⟩) (by rfl) 28 1 #[(0,.tmp 59)] rfl #[(0,.agg ms.cells)] (by kernel_rfl) _ _ (vL ms w5) ?_)
       intro w6 f2;have ew6:=f2.out;subst ew6;clear f2
       go_wp2_with (at_builtin;refine jmW rfl _ _ rfl R.B _ _ _ rfl L.1 ⟨w5.heap.size,0,none⟩ 1 ms rfl Ha.1 (by have:=Hb.1;omega) H9.1 ?_)
       intro v' w1 a8 c0 c1 c7;rw [<- He.1,<- J.1,<- H8.1,I.1] at a8;rw [I.1] at c7;have b6:=V.1.step hk a8 c0 c1 c7;have HT':=Hd b6;clear a8 c0 c1 c7 b6;go_wp2
       go_roundg (64-(i+1))
       case measure=>have:=A.1;omega
       case rel=>exact ⟨i+1,by have:=A.1;omega,by go_num,HT'.1⟩
      .
       obtain rfl:i=64:=by omega
       obtain ⟨ga,gc,e7,_⟩:=jP b7;subst e7;have f1:=hT.le;have d3:=hT.gs;rw [show min k R.N=k by omega] at d3
       obtain ⟨m,hm⟩:=Nm (R.ns k+64);rw [<- hm] at hT;have L:=Hd (d3.alloc (.cells #[.slice ga m gc] 28));have V:=Hd (hT.below (ja wr (.cells #[.slice ga m gc] 28)));rw [<- hm];clear hT a9 b7 d3 hm
       go_wp2_with (at_builtin;refine jm1 rfl _ _ rfl R.B _ _ _ rfl L.1 ⟨wr.heap.size,0,none⟩ 1 1 [.slice ga m gc] rfl rfl (pM _ _ _) (by simp [Value.oneCell']) (by omega) (by simp;omega) ?_)
       intro v' w1 a8 c0 c1;have b6:=V.1.next hk a8 c0 c1;have HT':=Hd b6;clear a8 c0 c1 b6;go_wp2
       go_roundg (R.N-(k+1))
       case measure=>have:=D.1;omega
       case rel=>exact ⟨k+1,_,by have:=D.1;omega,by go_num,HT'.1⟩
    .
     obtain rfl:k=R.N:=by omega
     have d4:=hT.three;have H5:=Hd hT.mod;have C:=Hd d4;obtain ⟨ga,gc,rfl⟩:∃ a c,u5=.slice a R.N c:=by obtain ⟨a,c,e,_⟩:=d4.gs;exact ⟨a,c,e⟩
     clear hT d4 a4;go_wp2_with fail;obtain ⟨wo,rfl⟩:∃ wo:World,wo=wr:=⟨_,rfl⟩
     go_loopg [9] R.N (fun gk kv wr'=>∃ k:Nat,gk+k=R.N/\kv=.int .i64 (k:Int)/\Below wo.heap.size wo wr')
     case atStart=>exact ⟨0,rfl,rfl,qG _ _⟩
     case round =>
      obtain ⟨k,a4,rfl,c2⟩:=hrel;by_cases hk:k<R.N
      .
       have b2:=T.1 k hk;obtain ⟨⟨b,off,cap,e1,hc⟩,⟨a,c,e2,hv⟩,g,⟨b3,off3,cap3,e3,hd⟩,b4,off4,c4,rfl,hw⟩:=(C.1.below c2).at k hk;rw [e2] at hc;injection e1 with e4 _ e5
       injection e3 with e6 _ e7
       subst e4;subst e5;subst e6;subst e7;obtain ⟨n,hn⟩:=Nm (R.ns k);rw [<- hn] at hc b2 hv hw hd;have X:=Hd hv;have Y:=Hd hw;have D:=Hd a4;have d9:(0:Int)<=(k:Int):=by omega
       have e0:(k:Int)<(R.N:Int):=by omega
       have Z:=Hd c2;clear hv hw a4 e2 hn C c2;go_wp2_with fail;obtain ⟨wq,f4⟩:∃ wq:World,wq=wr:=⟨_,rfl⟩;rw [<- f4] at hc hd X Y Z |-;clear f4
       go_loopg [10] (n+64) (fun gi iv wr'=>∃ i:Nat,gi+i=n+64/\iv=.int .i64 (i:Int)/\Below wq.heap.size wq wr')
       case atStart=>exact ⟨0,rfl,rfl,qG _ _⟩
       case round =>
        obtain ⟨i,a9,rfl,b1⟩:=hrel;have A:=Hd a9;clear a9;have f5:(0:Int)<=(i:Int):=by omega
        by_cases hi:i<n+64
        .
         have d6:=Y.1 i hi;obtain ⟨ms,a5⟩:=Nm (zR k i);have b0:R.mark k i=ms.cells.toList:=by rw [Q.1,a5];rfl
         have a6:=fun w=>zG (k:Int) (i:Int) w (by omega) (by omega)
         rw [<- a5] at a6;rw [b0,J.1] at d6;have G:=Hd a6;have p3:wr.rangeAt b4 (off4+i*12) ms.cells.toList:=yD b1 (jhw d6);have p1:=jc b1 hc;have p2:=jc b1 hd;have H0:=Hd b1;have f9:(i:Int)<(n:Int)+64:=by omega
         clear a6 a5 hc hd d6 b1;by_cases hin:i<n
         .
          obtain ⟨b5,off5,rfl,d7⟩:=X.1 i hin;rw [b0,J.1] at d7;have p4:wr.rangeAt b5 (off5+i*12) ms.cells.toList:=yD H0.1 (jhw d7);have f8:(i:Int)<(n:Int):=by omega
          clear d7;have P:=Hd (And.intro p1 (And.intro p2 p3));have P4:=Hd p4;clear p4;clear X Y b0 p3;go_wp2_with fail;clear p1 p2;refine (G.1 _).mono ?_;rintro e w5 ⟨rfl,a2⟩;have M:=Hd a2;clear a2
          go_wp2_with (with_reducible refine Sz ms.cells.toList (SesM.listS _) (SesM.oneS _) ?_)
          intro wz c3;obtain ⟨c5,c6⟩:=uQ c3;have a3:=jd M.1 c6;have Q5:=Hd (c5.range 0 _ (fun j v hv=>by rw [qA];rw [<- Array.getElem?_toList];exact hv))
          have Q1:=Hd (jc a3 P.1.1);have Q2:=Hd (jc a3 P.1.2.1);have Q3:=Hd (yD a3 P.1.2.2);have Q4:=Hd (yD a3 P4.1);clear P4;have O:=Hd (jd H0.1 a3);clear a3 P c5 c6 c3 M;go_wp2;refine qt (S:=fun W=>Below wz.heap.size wz W) (by kernel_rfl) (jb wz) (fun a1=>?_)
          refine Tk 0 84 ?_;refine Tk 1 85 ?_;refine Tk 2 86 ?_;refine Tk 3 87 ?_ (hy:=by intro w' a0;have u1:=jc a0 Q2.1;clear a0;go_simp;try with_reducible rfl)
          refine Tk 4 88 ?_;refine Tk 5 89 ?_;refine Tk 6 90 ?_ (v:=.agg ms.cells) (hy:=fun w' a0=>Ek (yD a0 Q3.1) underlying45)
          refine Tk 7 91 ?_ (v:=.agg ms.cells) (hy:=fun w' a0=>Ek (yD a0 Q5.1) underlying45)
          refine wpAnyH_take (i:=8) (oi:=⟨some 92,.binOp _ _ _ _ _,_,_,_,_⟩) (v:=.bool false) rfl (by kernel_rfl) (by kernel_rfl) (by kernel_rfl) (fun _ _ _ h=>h) (Or.inl ⟨by kernel_rfl,fun w' a0=>jcg ms (.tmp 90) (.tmp 91) rfl rfl rfl⟩) (by assumption) ?_
          try simp only [Nz]
          refine Tk 9 93 ?_;refine Tk 10 94 ?_;refine Tk 11 95 ?_;refine Tk 12 96 ?_;refine Tk 13 97 ?_;refine Tk 14 98 ?_ (hy:=by intro w' a0;have u1:=jc a0 Q1.1;clear a0;go_simp;try with_reducible rfl)
          refine Tk 15 99 ?_;refine Tk 16 100 ?_;refine Tk 17 101 ?_;refine Tk 18 102 ?_;refine Tk 19 103 ?_;refine Tk 20 104 ?_;refine Tk 21 105 ?_ (hy:=by intro w' a0;have u1:=jc a0 Q1.1;clear a0;go_simp;try with_reducible rfl)
          refine Tk 22 106 ?_;refine Tk 23 107 ?_;refine Tk 24 108 ?_ (v:=.agg ms.cells) (hy:=fun w' a0=>Ek (yD a0 Q4.1) underlying45)
          refine Tk 25 109 ?_ (v:=.agg ms.cells) (hy:=fun w' a0=>Ek (yD a0 Q5.1) underlying45)
          refine wpAnyH_take (i:=26) (oi:=⟨some 110,.binOp _ _ _ _ _,_,_,_,_⟩) (v:=.bool false) rfl (by kernel_rfl) (by kernel_rfl) (by kernel_rfl) (fun _ _ _ h=>h) (Or.inl ⟨by kernel_rfl,fun w' a0=>jcg ms (.tmp 108) (.tmp 109) rfl rfl rfl⟩) (by assumption) ?_
          try simp only [Nz]
          refine Tk 27 111 ?_;refine Tk 28 112 ?_;refine Dn ?_;have H1:=Hd (jd O.1 a1);clear a1 O Q1 Q2 Q3 Q5 Q4;go_wp2
          go_roundg (n+64-(i+1))
          case measure=>have:=A.1;omega
          case rel=>exact ⟨i+1,by have:=A.1;omega,by go_num,H1.1⟩
         .
          have f8:decide ((i:Int)<(n:Int))=false:=by simp;omega
          have P:=Hd (And.intro p1 (And.intro p2 p3));clear X Y b0 p3;go_wp2_with fail;clear p1 p2;refine (G.1 _).mono ?_;rintro e w5 ⟨rfl,a2⟩;have M:=Hd a2;clear a2
          go_wp2_with (with_reducible refine Sz ms.cells.toList (SesM.listS _) (SesM.oneS _) ?_)
          intro wz c3;obtain ⟨c5,c6⟩:=uQ c3;have a3:=jd M.1 c6;have Q5:=Hd (c5.range 0 _ (fun j v hv=>by rw [qA];rw [<- Array.getElem?_toList];exact hv))
          have Q1:=Hd (jc a3 P.1.1);have Q2:=Hd (jc a3 P.1.2.1);have Q3:=Hd (yD a3 P.1.2.2);have O:=Hd (jd H0.1 a3);clear a3 P c5 c6 c3 M;go_wp2;refine qt (S:=fun W=>Below wz.heap.size wz W) (by kernel_rfl) (jb wz) (fun a1=>?_)
          refine Tk 0 84 ?_;refine Tk 1 85 ?_;refine Tk 2 86 ?_;refine Tk 3 87 ?_ (hy:=by intro w' a0;have u1:=jc a0 Q2.1;clear a0;go_simp;try with_reducible rfl)
          refine Tk 4 88 ?_;refine Tk 5 89 ?_;refine Tk 6 90 ?_ (v:=.agg ms.cells) (hy:=fun w' a0=>Ek (yD a0 Q3.1) underlying45)
          refine Tk 7 91 ?_ (v:=.agg ms.cells) (hy:=fun w' a0=>Ek (yD a0 Q5.1) underlying45)
          refine wpAnyH_take (i:=8) (oi:=⟨some 92,.binOp _ _ _ _ _,_,_,_,_⟩) (v:=.bool false) rfl (by kernel_rfl) (by kernel_rfl) (by kernel_rfl) (fun _ _ _ h=>h) (Or.inl ⟨by kernel_rfl,fun w' a0=>jcg ms (.tmp 90) (.tmp 91) rfl rfl rfl⟩) (by assumption) ?_
          try simp only [Nz]
          refine Tk 9 93 ?_;refine Tk 10 94 ?_;refine Tk 11 95 ?_;refine Tk 12 96 ?_;refine Tk 13 97 ?_;refine Tk 14 98 ?_ (hy:=by intro w' a0;have u1:=jc a0 Q1.1;clear a0;go_simp;try with_reducible rfl)
          refine Tk 15 99 ?_;refine Tk 16 100 ?_;refine Tk 17 101 ?_;refine Tn 18 102 ?_;refine Tn 19 103 ?_;refine Tn 20 104 ?_;refine Tn 21 105 ?_;refine Tn 22 106 ?_;refine Tn 23 107 ?_;refine Tn 24 108 ?_;refine Tn 25 109 ?_;refine Tn 26 110 ?_;refine Tk 27 111 ?_;refine Tk 28 112 ?_;refine Dn ?_;have H1:=Hd (jd O.1 a1);clear a1 O Q1 Q2 Q3 Q5;go_wp2
          go_roundg (n+64-(i+1))
          case measure=>have:=A.1;omega
          case rel=>exact ⟨i+1,by have:=A.1;omega,by go_num,H1.1⟩
        .
         obtain rfl:i=n+64:=by have:=A.1;omega
         have H2:=Hd (Z.1.trans (b1.mono Z.1.size));have p1:=jc b1 hc;have p2:=jc b1 hd;clear X Y b1 hc hd;go_wp2
         go_roundg (R.N-(k+1))
         case measure=>have:=D.1;omega
         case rel=>exact ⟨k+1,by have:=D.1;omega,by go_num,H2.1⟩
      .
       obtain rfl:k=R.N:=by omega
       have H2:=Hd c2;clear C a4 c2;go_wp2;go_ret;exact ⟨rfl,H5.1.then (Mod.of_below (F:=fun _=>False) H2.1) (fun _ h=>h.elim)⟩
end Go.Proofs.YtgcnolapjppbpaaGreatDoor
