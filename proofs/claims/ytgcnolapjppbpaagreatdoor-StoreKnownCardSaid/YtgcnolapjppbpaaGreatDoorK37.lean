/- Texts of one proof. -/
import Derived.Test.YtgcnolapjppbpaaGreatDoorK32
import Derived.Test.YtgcnolapjppbpaaGreatDoorK35
import Derived.Test.YtgcnolapjppbpaaGreatDoorK31
namespace Go.Proofs.YtgcnolapjppbpaaGreatDoor
open Go.RowKit _root_.Go.Proofs.Tryz
set_option maxRecDepth 100000
set_option maxHeartbeats 25600000
variable {w w':World}{ps rp:Nat}{ep:UInt32}{lv:Value}{b:Bool}
structure RBackI (l:LogM)(d:DiskM)(pl pd:Nat)(bs:List (List UInt8))(F:Nat->Prop)(bv:Value)(w:World)(s0 m:Nat)(W:World):Prop where
 err:(d.back (l.base+l.used+m) (bs.drop m)).2=0
 disk:∃ F',IsRef W (d.back (l.base+l.used+m) (bs.drop m)).1 pd F'/\(∀ k,F' k->F k\/w.heap.size<=k)/\∀ k,F' k->bv.ownBlock≠some k
 log:xm W l pl pd
 row:Rd W bv bs.length (bs.map SV)
 mod:Mod F w W
 size:s0<=W.heap.size
theorem uJ (l:LogM)(d:DiskM)(p:List UInt8)(pl pd:Nat)(F:Nat->Prop)(v:Value)(w:World)(hl:xm w l pl pd)(hd:IsRef w d pd F)(b5:¬ F pl)(hv:Rd w v p.length (p.map V8))(ht:d.trail.length<=10000000000)(e5:l.base+l.n<=d.strs.length)(hu:l.used<=l.n)(hr:l.records<=1000000000)(e9:d.strs.length<=4096) :
  Calls prog 88 #[.pointer (some ⟨pl,0,none⟩),v] w fun r w'=>r=.returned (.int .i64 (l.append d p).2.2)/\xm w' (l.append d p).1 pl pd/\Mod (fun b=>b=pl\/F b) w w' /\
   ∃ F',IsRef w' (l.append d p).2.1 pd F'/\∀ k,F' k->F k\/w.heap.size<=k:=by
 obtain ⟨va,vc,rfl⟩:∃ a c,v=.slice a p.length c:=by obtain ⟨a,c,h,_⟩:=hv;exact ⟨a,c,h⟩
 have c3:=Box.cell hl 3 _ rfl;have c6:=Box.cell hl 6 _ rfl;have S:=Hd hl;have T:=Hd hd;have HV:=Hd hv;clear hl hd hv;by_cases a2:l.dead=true
 .
  have Ea:=Hd (by unfold LogM.append;rw [qf a2]:l.append d p=(l,d,22))
  rw [a2] at c6;go_enter func88,ntmps88;go_wp2;go_ret;rw [Ea.1];exact ⟨rfl,S.1,Mod.refl _ _,F,T.1,fun k hk=>.inl hk⟩
 have a2:l.dead=false:=by simpa using a2
 rw [a2] at c6;have I:=Hd (jev _ l.epoch p w HV.1);by_cases h512:512<p.length
 .
  have Ea:=Hd (by unfold LogM.append;rw [qh (by rw [a2];simp),qf h512]:l.append d p=(l,d,3))
  go_enter func88,ntmps88;go_wp2_with fail;refine I.1.mono ?_;rintro r w1 hr;obtain ⟨_,rfl,rfl⟩:=hr.resolve_right (fun h=>by omega)
  go_wp2;go_ret;rw [Ea.1];exact ⟨rfl,S.1,Mod.refl _ _,F,T.1,fun k hk=>.inl hk⟩
 go_enter func88,ntmps88;go_wp2_with fail;refine I.1.mono ?_;rintro r w1 d8;obtain ⟨_,bv,rfl,ho,b2⟩:=d8.resolve_left (fun h=>by omega)
 obtain ⟨bs,a6⟩:=Nm (jf l.epoch p);have f0:bs.length<=4:=by rw [a6];exact ja9 _ _
 have f1:0<bs.length:=by rw [a6];exact us _ _
 have b3:∀ b∈bs,b.length<=256:=fun b hb=>zZ (e:=l.epoch) (p:=p) (by rw [<- a6];exact hb)
 rw [<- a6] at ho;have J:=Hd a6;obtain ⟨ba,bc,rfl,_⟩:=jP ho;have A:=Hd (show xm w1 l pl pd from S.1.below b2)
 have K:=Hd (T.1.mod (Mod.of_below (F:=fun _=>False) b2) (fun _ _ h=>h))
 have V:=Hd (js ho);have W:=Hd (fun k hk=>ho.lt k hk)
 have L:=Hd b2;have c2:=Box.cell A.1 2 _ rfl;have c4:=Box.cell A.1 4 _ rfl;obtain ⟨rm,d0⟩:=Nm (l.n-l.used);have z1:IntKind.i64.wrap ((l.n:Int)-(l.used:Int))=(rm:Int):=by rw [jfC _ (by omega) (by omega)];omega
 have e6:rm<=4096:=by omega
 have M:=Hd d0;clear d0 ho b2 a6 I c3 c6;by_cases hfull:rm<bs.length
 .
  have Ea:=Hd (show l.append d p=(l,d,19) by unfold LogM.append;rw [qh (by rw [a2];simp),qh h512,qf (by rw [<- J.1,<- M.1];exact hfull)])
  have b6:decide ((rm:Int)<(bs.length:Int))=true:=by simp;omega
  go_wp2
  go_quiet (fail)
  go_wp2;go_ret;rw [Ea.1];have a1:=jD w1 nq;exact ⟨rfl,A.1.below a1,Mod.of_below (jd L.1 a1),F,K.1.mod (Mod.of_below (F:=fun _=>False) a1) (fun _ _ h=>h),fun k hk=>.inl hk⟩
 have b6:decide ((rm:Int)<(bs.length:Int))=false:=by simp;omega
 have d9:decide (rm<bs.length)=false:=by simp;omega
 have e4:l.n-l.used >= bs.length:=by rw [<- M.1];omega
 go_wp2
 go_quiet (fail)
 have a1:=jD w1 nq;obtain ⟨w2,a4⟩:=Nm (w1.drewN nq);rw [<- a4];have X:=Hd (show xm w2 l pl pd from by rw [a4];exact A.1.below a1)
 have Y:=Hd (show IsRef w2 d pd F from by rw [a4];exact K.1.mod (Mod.of_below (F:=fun _=>False) a1) (fun _ _ h=>h))
 have Z:=Hd (show Rd w2 (.slice ba bs.length bc) bs.length (bs.map SV) from by rw [a4];exact V.1.below a1)
 have E:=Hd (show Below w.heap.size w w2 from by rw [a4];exact jd L.1 a1)
 have N:=Hd (show w1.heap.size<=w2.heap.size from by rw [a4];exact a1.size)
 clear a1 A K V L c2 c4 z1 a4;have d1:l.append d p=if (d.back (l.base+l.used) bs).2≠0 then ({ l with dead:=true },(d.back (l.base+l.used) bs).1,22) else ({ l with used:=l.used+bs.length,records:=l.records+1 },(d.back (l.base+l.used) bs).1,0):=by
  unfold LogM.append;rw [qh (by rw [a2];simp),qh h512,qh (by rw [<- J.1,<- M.1];exact hfull),<- J.1]
 have G:=Hd d1;clear d1;have b7:∀ k,(Value.slice ba bs.length bc).ownBlock=some k->w.heap.size<=k/\k<w2.heap.size:=fun k hk=>by
  have h1:=W.1 k hk;have h2:=E.1.size;exact ⟨h1.1,qu h1.2 N.1⟩
 have d3:RBackI l d pl pd bs F (.slice ba bs.length bc) w w2.heap.size bs.length w2:=by
  refine ⟨by rw [kj];rfl,⟨F,by rw [kj];exact Y.1,fun k hk=>.inl hk,fun k hk e=>?_⟩,X.1,Z.1,Mod.of_below E.1,qm _⟩
  have:=(b7 k e).1;have:=T.1.lt k hk;omega
 have H0:=Hd d3;have Hb:=Hd b7;have e7:pl<w.heap.size:=S.1.lt;have Hc:=Hd E.1.size;clear d3 b7 X Y Z E W N;go_wp2
 go_loopg [7] bs.length (fun gk iv wr=>∃ gm:Nat,gk=gm/\iv=.int .i64 ((gm:Int)-1)/\gm<=bs.length/\RBackI l d pl pd bs F (.slice ba bs.length bc) w w2.heap.size gm wr)
 case atStart=>exact ⟨_,rfl,rfl,qm _,H0.1⟩
 case round =>
  clear H0;obtain ⟨gm,e0,rfl,f2,hI⟩:=hrel;by_cases hm:gm=0
  .
   subst hm;have e8:¬ (0:Int)<=((0:Nat):Int)-1:=by omega
   obtain ⟨h1,⟨F',h2,h3,h4⟩,h5,h6,h7,h8⟩:=hI;rw [qT,List.drop_zero] at h1 h2;have D:=Hd (by rw [G.1,qh (by rw [h1];simp)]:l.append d p=({ l with used:=l.used+bs.length,records:=l.records+1 },(d.back (l.base+l.used) bs).1,0))
   have c4:=Box.cell h5 4 _ rfl;have f4:=Box.free h5 4;have s1:=Box.set h5 4 ((l.used:Int)+(bs.length:Int):Int);have c5:=Box.cell s1 5 _ rfl;have f5:=Box.free s1 5;have S2:=Hd (Box.set s1 5 ((l.records:Int)+1:Int));have O:=Hd h2;have B:=Hd h3;have P:=Hd h7;clear h1 h2 h3 h4 h5 h6 h7 h8 s1 G;go_wp2;go_ret;rw [D.1];have a8:=(Mod.set (fun b=>b=pl) wr ⟨pl,4,none⟩ ((l.used:Int)+(bs.length:Int):Int) rfl).trans (Mod.set (fun b=>b=pl) _ ⟨pl,5,none⟩ ((l.records:Int)+1:Int) rfl)
   refine ⟨rfl,?_,(P.1.mono (fun b hb=>.inr hb)).trans (a8.mono (fun b hb=>.inl hb)),F',O.1.mod a8 (fun k hk e=>?_),B.1⟩
   .
    unfold xm;simp only [Int.natCast_add];exact S2.1
   .
    rcases B.1 k hk with h | h
    . exact b5 (e ▸ h)
    . omega
  .
   obtain ⟨k,rfl⟩:∃ k,gm=k+1:=⟨gm-1,by omega⟩
   have ek:(((k+1:Nat):Int)-1)=(k:Int):=by omega
   rw [ek];have f3:(0:Int)<=(k:Int):=by omega
   have f7:(k:Int)<(bs.length:Int):=by omega
   obtain ⟨h1,⟨F',h2,h3,h4⟩,h5,h6,h7,h8⟩:=hI;obtain ⟨bb,boff,bc',e1,d4⟩:=jlp h6 k (by omega)
   injection e1 with e1 _ e3
   subst e1;subst e3;have c0:=Box.cell h5 0 _ rfl;have c1:=Box.cell h5 1 _ rfl;have c4:=Box.cell h5 4 _ rfl;have H1:=Hd h1;have O:=Hd h2;have B:=Hd h3;have U:=Hd h4;have H5:=Hd h5;have H6:=Hd h6;have P:=Hd h7;have Q:=Hd h8;clear h1 h2 h3 h4 h5 h6 h7 h8;go_wp2
   go_still_tail 19,(by kernel_rfl)
   change wpList _ _ _ _ _ wr.drew
   obtain ⟨dd,b8⟩:=Nm ((d.back (l.base+l.used+(k+1)) (bs.drop (k+1))).1);have b9:=jfM d (l.base+l.used) bs k (by omega) H1.1
   have c7:=vp d (bs.drop (k+1)) (l.base+l.used+(k+1));rw [<- b8] at b9 c7;have H2':=O.1;rw [<- b8] at H2';have c8:(l.base:Int)+(l.used:Int)+(k:Int)=((l.base+l.used+k:Nat):Int):=by omega
   have d5:bs.getD k []∈bs:=by rw [List.getD,List.getElem?_eq_getElem (by omega)];exact qy (by omega)
   have c9:=vb dd pd F' ((l.base+l.used+k:Nat):Int) (SB (bs.getD k [])) wr.drew (H2'.mod (Mod.drew (fun _=>False) _) (fun _ _ h=>h)) (by have:=c7.2;rw [qn] at this;omega) (by have:=b3 _ d5;rw [SB_size];omega)
   rw [<- b9,<- c8] at c9;have R:=Hd c9;have H9:=Hd c8;have d6:=jei d (bs.drop k) (l.base+l.used+k) (fun b hb=>b3 b (wO hb)) (by rw [qn];omega)
   obtain ⟨d2,d7⟩:=Nm ((d.back (l.base+l.used+k) (bs.drop k)).1);obtain ⟨er,a9⟩:=Nm ((d.back (l.base+l.used+k) (bs.drop k)).2);rw [<- a9] at d6;have C:=Hd d7;have H:=Hd a9;clear b9 c7 H2' c8 d5 c9 b8 d7 a9 dd;go_wp2_with fail;refine R.1.mono ?_;rw [<- C.1,<- H.1];rintro r w3 ⟨rfl,F2,g1,g2,g3⟩;have e2:wr.heap.size<=w3.heap.size:=g2.size;have b4:∀ k,F2 k->F k\/w.heap.size<=k:=fun q hq=>by
    rcases g3 q hq with h | h
    . exact B.1 q h
    . exact .inr (by have:=Q.1;have:=Hc.1;have h:wr.heap.size<=q:=h;omega)
   have b0:∀ q,F' q->q≠pl:=fun q hq e=>by
    rcases B.1 q hq with h | h
    . exact b5 (e ▸ h)
    . omega
   have a0:xm w3 l pl pd:=(H5.1.drew).mod g2 (fun h=>b0 pl h rfl)
   have a7:Rd w3 (.slice (some ⟨bb,boff,none⟩) bs.length bc) bs.length (bs.map SV):=(H6.1.drew).mod g2 (fun q hq h=>U.1 q h hq)
   have a3:Mod F w w3:=(P.1.trans (Mod.drew F wr)).then g2 (fun q hq=>B.1 q hq)
   have b1:∀ q,F2 q->(Value.slice (some ⟨bb,boff,none⟩) bs.length bc).ownBlock≠some q:=fun q hq e=>by
    rcases g3 q hq with h | h
    . exact U.1 q h e
    .
     have:=(Hb.1 q e).2;have:=Q.1;have h:wr.heap.size<=q:=h;omega
   rcases d6 with rfl | rfl
   .
    have HN:=Hd (show RBackI l d pl pd bs F (.slice (some ⟨bb,boff,none⟩) bs.length bc) w w2.heap.size k w3 from ⟨H.1.symm,⟨F2,C.1 ▸ g1,b4,b1⟩,a0,a7,a3,qi Q.1 e2⟩)
    clear g1 g2 g3 b4 b0 a0 a7 a3 b1 H1 O B U H5 H6 P Q R H9 C H c0 c1 c4 d4;go_wp2
    go_roundg k
    case measure=>have:=e0;omega
    case rel=>exact ⟨k,rfl,rfl,by omega,HN.1⟩
   .
    have a5:l.append d p=({ l with dead:=true },d2,22):=by
     have h1:=jbZ d bs k (l.base+l.used) (by omega) (by rw [<- H.1];decide)
     rw [G.1,h1,qf (by rw [<- H.1];decide),<- C.1]
    have D:=Hd a5;have c6:=Box.cell a0 6 _ rfl;have f6:=Box.free a0 6;have He:=Hd g1;have Ha:=Hd b4;have Hf:=Hd a0;have Hg:=Hd a3;clear a5 g1 g2 g3 b4 b0 a0 a7 a3 b1 H1 O B U H5 H6 P Q R H9 C H c0 c1 c4 d4 G;go_wp2;go_ret;rw [D.1];have a8:=Mod.set (fun b=>b=pl) w3 ⟨pl,6,none⟩ (.bool true) rfl
    refine ⟨rfl,?_,(Hg.1.mono (fun b hb=>.inr hb)).trans (a8.mono (fun b hb=>.inl hb)),F2,He.1.mod a8 (fun k hk e=>?_),Ha.1⟩
    . exact Box.set Hf.1 6 (.bool true)
    .
     rcases Ha.1 k hk with h | h
     . exact b5 (e ▸ h)
     . omega
structure RStoB (w:World)(ps rp:Nat)(ep:UInt32)(lv:Value)(b:Bool):Prop where
 bx:Box w ps #[.pointer (some ⟨rp,0,none⟩),.int .u32 (I32 ep),lv,.bool b] 115
theorem RStoB.mod {F:Nat->Prop}(h:RStoB w ps rp ep lv b)(hm:Mod F w w')(hn:¬ F ps):RStoB w' ps rp ep lv b:=⟨h.bx.mod hm hn⟩
theorem RStoB.below (h:RStoB w ps rp ep lv b)(hb:Below w.heap.size w w'):RStoB w' ps rp ep lv b:=⟨h.bx.below hb⟩
theorem RStoB.set1 (h:RStoB w ps rp ep lv b)(e:UInt32):RStoB (w.setCell ⟨ps,1,none⟩ (.int .u32 (I32 e))) ps rp e lv b:=⟨h.bx.set 1 _⟩
theorem RStoB.set2 (h:RStoB w ps rp ep lv b)(v:Value):RStoB (w.setCell ⟨ps,2,none⟩ v) ps rp ep v b:=⟨h.bx.set 2 _⟩
theorem RStoB.set3 (h:RStoB w ps rp ep lv b)(c:Bool):RStoB (w.setCell ⟨ps,3,none⟩ (.bool c)) ps rp ep lv c:=⟨h.bx.set 3 _⟩
structure RLaid (w:World)(ps rp:Nat)(ep:UInt32)(lv:Value)(b:Bool)(G:Nat->Prop)(R:DiskM × Int)(w':World):Prop where
 dk:∃ G',IsRef w' R.1 rp G'/\(∀ k,G' k->G k\/w.heap.size<=k)/\(R.2=0->∃ pl',w.heap.size<=pl'/\¬ G' pl'/\RStoB w' ps rp (ep+1) (.pointer (some ⟨pl',0,none⟩)) b/\xm w' (yt (ep+1)) pl' rp)
 no:R.2≠0->RStoB w' ps rp ep lv b
 md:Mod (fun k=>k=ps\/G k) w w'
theorem jas (st:StM)(v:Value)(d:DiskM)(ps rp:Nat)(ep e1:UInt32)(lv:Value)(b:Bool)(G:Nat->Prop)(w:World)(a5:e1=ep+1)(h:RStoB w ps rp ep lv b)(hd:IsRef w d rp G)(b5:¬ G ps)(hr:RdS w v st.l)(ho:∀ s∈st.l,SesOk s)(ht:d.trail.length<=90000000000)(hl:65<=d.strs.length)(b6:d.strs.length<=4096)(a6:(vz st).length<=140737488355000) :
  Calls prog 83 #[.pointer (some ⟨ps,0,none⟩),.agg #[st.clock,st.births,v],.int .u32 (I32 e1)] w fun e w'=>e=.returned (.int .i64 (yu ep d st).2)/\RLaid w ps rp ep lv b G (yu ep d st) w':=by
 obtain ⟨va,vc,rfl,_⟩:=hr.slice;obtain ⟨n,hn⟩:=Nm (st.l.length);rw [<- hn] at hr |-;obtain ⟨c,hc⟩:=Nm (st.clock);obtain ⟨bi,hb⟩:=Nm (st.births);have a2:=fun w' h=>jer st (.slice va n vc) w' h ho
 rw [<- hc,<- hb] at a2 |-;obtain ⟨I,hI⟩:=Nm (vz st);obtain ⟨N,hN⟩:=Nm (ja3 st);have a1:yu ep d st=if N=0 then (if ep=4294967295 then (d,5) else jR d 0 24 e1.toNat I) else (d,24):=by rw [hI,hN,a5];rfl
 obtain ⟨RL,b7⟩:=Nm (yu ep d st);rw [<- b7] at a1 |-;have H:=Hd a1;rw [<- hI,<- hN] at a2;rw [<- hI] at a6;have U:=Hd a2;have a0:=ja w (.cells #[c,bi,.slice va n vc] 30);have HR:=Hd (hr.below a0);have HS:=Hd (h.below a0);have HD:=Hd (hd.below a0);have T:=Hd a0;have HT:=Hd ht;have H4:=Hd hl;have V:=Hd b6;have H5:=Hd a6;have HP:=Hd b5;have M:=Hd a5;have H6:=Hd (show ps<w.heap.size from h.bx.lt)
 have H7:=Hd hd.lt;have HX:=Hd (Box.new w #[c,bi,.slice va n vc] 30);clear h hd b5 hr ho ht hl b6 a6 hn hc hb hI hN a2 a0 a1 b7 a5;go_enter func83,ntmps83;go_wp2_with fail;generalize (w.alloc (.cells #[c,bi,.slice va n vc] 30))=w1 at HR HS HD T HX |-;refine (U.1 w1 HR.1).mono ?_;rintro e w2 ⟨iv,rfl,ho,hb⟩;have A:=Hd (HS.1.below hb);have F:=Hd (HD.1.below hb);have C:=Hd (T.1.trans (hb.mono T.1.size));have O:=Hd ho.rd;have X:=Hd (show ∀ k,iv.ownBlock=some k->w1.heap.size<=k from fun k hk=>(ho.lt k hk).1)
 obtain ⟨ia,ic,rfl,_⟩:=ho.rd;obtain ⟨m,hm⟩:=Nm (I.length);rw [<- hm] at O X |-;have HM:=Hd hm;have c0:w2.cell? ⟨ps,0,none⟩=some (.pointer (some ⟨rp,0,none⟩)):=A.1.bx.cell 0 _ rfl;have c1:w2.cell? ⟨ps,1,none⟩=some (.int .u32 (I32 ep)):=A.1.bx.cell 1 _ rfl;clear ho hb U HR HS HD HX hm;by_cases hn:N=0;rotate_left
 .
  obtain rfl:RL=(d,24):=by rw [H.1,qh hn]
  have c6:(N != 0)=true:=by rw [wl];exact hn
  clear c0 c1 H hn;go_wp2;go_ret;exact ⟨rfl,⟨⟨G,F.1,fun k hk=>.inl hk,fun h=>by cases h⟩,fun _=>A.1,Mod.of_below C.1⟩⟩
 rw [qf hn] at H;subst hn;by_cases hep:ep=4294967295
 .
  obtain rfl:RL=(d,5):=by rw [H.1,qf hep]
  have hI:I32 ep=4294967295:=by rw [hep];rfl
  have c1':w2.cell? ⟨ps,1,none⟩=some (.int .u32 4294967295):=by rw [c1,hI]
  clear hep hI c1 H;go_wp2;go_ret;exact ⟨rfl,⟨⟨G,F.1,fun k hk=>.inl hk,fun h=>by cases h⟩,fun _=>A.1,Mod.of_below C.1⟩⟩
 rw [qh hep] at H;have hI:(I32 ep==4294967295)=false:=by
  rw [qD];intro e;exact hep (jiY (e.trans rfl))
 obtain ⟨R,rfl⟩:=Nm (RL);have hR:=H.1;clear H;have a7:=fun W (hW:IsRef W d rp G) (c4:Rd W (.slice ia m ic) I.length (I.map V8))=>jeG d rp G 0 24 e1 (.slice ia m ic) I W hW V.1 c4 (fun _ k hk hf=>by have:=X.1 k hk;have:=H7.1 k hf;have:=T.1.size;omega) HT.1 ⟨by decide,by decide⟩ ⟨by decide,by decide⟩ H5.1
 rw [<- hR] at a7;have Y:=Hd a7;have P:=Hd (show R.1.strs.length=d.strs.length by rw [hR,vU])
 clear hep hR a7;go_wp2_with fail;refine (Y.1 w2 F.1 (by rw [<- HM.1];exact O.1)).mono ?_
 rintro ev w3 ⟨rfl,G',b8,a8,b9⟩;have B:=Hd (A.1.mod a8 HP.1);have J:=Hd b8;have Q:=Hd (show Mod G w w3 from (Mod.of_below C.1).trans a8)
 have K:=Hd (show ∀ k,G' k->G k\/w.heap.size<=k from fun k hk=>by
  rcases b9 k hk with g | g
  . exact .inl g
  . right;exact qi C.1.size g)
 clear b8 a8 b9 Y F O C A c0 c1 hI;obtain ⟨R1,R2⟩:=R;simp only at J P |-;by_cases h0:R2=0;rotate_left
 .
  have H0:=Hd h0;have c7:(R2 != 0)=true:=by rw [wl];exact h0
  clear h0;go_wp2;go_ret;exact ⟨rfl,⟨⟨G',J.1,K.1,fun h=>absurd h H0.1⟩,fun _=>B.1,Q.1.mono (fun _ h=>.inr h)⟩⟩
 subst h0;have c0:w3.cell? ⟨ps,0,none⟩=some (.pointer (some ⟨rp,0,none⟩)):=B.1.bx.cell 0 _ rfl;have c1:w3.cell? ⟨ps,1,none⟩=some (.int .u32 (I32 ep)):=B.1.bx.cell 1 _ rfl;have f1:=B.1.bx.free 1;have D:=Hd (show RStoB (w3.setCell ⟨ps,1,none⟩ (.int .u32 (I32 e1))) ps rp e1 lv b from B.1.set1 e1)
 have a9:=Mod.set (fun k=>k=ps) w3 ⟨ps,1,none⟩ (.int .u32 (I32 e1)) rfl
 have b0:¬ G' ps:=fun hf=>by
  rcases K.1 ps hf with g | g
  . exact HP.1 g
  . have:=H6.1;omega
 have E:=Hd (J.1.mod a9 (fun k hk e=>b0 (by rw [<- e];exact hk)))
 have L:=Hd (show Mod (fun k=>k=ps\/G k) w (w3.setCell ⟨ps,1,none⟩ (.int .u32 (I32 e1))) from (Q.1.mono (fun _ h=>.inr h)).trans (a9.mono (fun _ h=>.inl h)))
 have Z:=Hd b0;clear a9 b0 J B Q;have H1:=Hd (fun W (hW:IsRef W R1 rp G')=>jcF R1 rp G' 49 16 e1 W hW (by rw [P.1];exact V.1) (by decide) (by rw [P.1];exact H4.1))
 obtain ⟨w4,b1⟩:=Nm (w3.setCell ⟨ps,1,none⟩ (.int .u32 (I32 e1)));rw [<- b1] at D E L;have c5:=D.1.bx;go_wp2_with fail;rw [<- b1];clear c0 c1 f1 c5 b1;refine (show Calls _ _ #[.pointer (some ⟨rp,0,none⟩),(49:Int),(16:Int),.int .u32 (I32 e1)] _ _ from H1.1 _ E.1).mono ?_
 rintro ev w5 ⟨rfl,b2,b3⟩;have a3:=D.1.below b3;have c2:w5.cell? ⟨ps,2,none⟩=some lv:=a3.bx.cell 2 _ rfl;have f2:=a3.bx.free 2;have H2:=Hd a3;have H3:=Hd b2;have S:=Hd b3;clear a3 b2 b3 H1;have a4:=Mod.set (fun k=>k=ps) w5 ⟨ps,2,none⟩ (.pointer (some ⟨w4.heap.size,0,none⟩)) rfl
 have c3:ps<w4.heap.size:=D.1.bx.lt;have b4:=E.1.lt;have H8:=Hd (show RLaid w ps rp ep lv b G (R1,0) (w5.setCell ⟨ps,2,none⟩ (.pointer (some ⟨w4.heap.size,0,none⟩))) from
  ⟨⟨G',(E.1.below S.1).mod a4 (fun k hk e=>Z.1 (by rw [<- e];exact hk)),K.1,fun _=>⟨w4.heap.size,L.1.size,fun hf=>by have:=b4 _ hf;omega,by rw [<- M.1];exact H2.1.set2 _,by rw [<- M.1];exact Box.mod H3.1 a4 (by omega)⟩⟩,
  fun h=>absurd rfl h,L.1.trans ((Mod.of_below S.1).trans (a4.mono (fun _ h=>.inl h)))⟩)
 clear a4 c3 b4 D E L H2 H3 S K Z M;go_wp2;go_ret;exact ⟨rfl,H8.1⟩
theorem jkq (ep:UInt32):IntKind.u32.wrap (I32 ep+1)=I32 (ep+1):=by
 have h1:=ep.toNat_lt;have h3:(ep+1).toNat=(ep.toNat+1) % 4294967296:=by rw [UInt32.toNat_add];rfl
 unfold I32;rw [h3]
 simp [IntKind.wrap,IntKind.signed,IntKind.bits]
theorem RdS.mod1 {v:Value}{l:List SesM}{G:Nat->Prop}(h:RdS w v l)(hm:Mod G w w')(hn:0<l.length->∀ k,v.ownBlock=some k->¬ G k):RdS w' v l:=Rd.mod0 h hm (fun hx=>hn (by rw [zq] at hx;omega))
structure RAppd (w:World)(ps pl pd:Nat)(F:Nat->Prop)(R:StoM × DiskM × Int)(w':World):Prop where
 ex:∃ (F':Nat->Prop) (pl':Nat),IsRef w' R.2.1 pd F'/\(∀ k,F' k->F k\/w.heap.size<=k)/\(pl'=pl\/w.heap.size<=pl')/\RStoB w' ps pd R.1.epoch (.pointer (some ⟨pl',0,none⟩)) R.1.dead/\xm w' R.1.log pl' pd/\¬ F' ps/\¬ F' pl'/\ps≠pl'
 md:Mod (fun k=>k=ps\/k=pl\/F k) w w'
theorem jbF (s:StoM)(d:DiskM)(e:EvtM)(st:StM)(v:Value)(ps pl pd:Nat)(F:Nat->Prop)(w:World)(h:RStoB w ps pd s.epoch (.pointer (some ⟨pl,0,none⟩)) s.dead)(c8:xm w s.log pl pd)(hd:IsRef w d pd F)(b0:¬ F ps)(c9:¬ F pl)(e1:ps≠pl)(hr:RdS w v st.l)(d0:0<st.l.length->∀ k,v.ownBlock=some k->¬ F k/\k≠ps/\k≠pl/\k<w.heap.size)(ho:∀ s∈st.l,SesOk s)(hu:e.s.user.length<=9223372036854775807)(e2:e.s.label.length<=9223372036854775807)(e3:e.s.scopes<2 ^ 64)(ht:d.trail.length<=9000000000)(hl:65<=d.strs.length)(h1:s.log.base+s.log.n<=d.strs.length)(h2:s.log.used<=s.log.n)(h3:s.log.records<=1000000000)(a7:d.strs.length<=4096) :
  Calls prog 51 #[.pointer (some ⟨ps,0,none⟩),.agg e.cells,.agg #[st.clock,st.births,v]] w fun r w'=>r=.returned (.int .i64 (s.append d e st).2.2)/\RAppd w ps pl pd F (s.append d e st) w':=by
 obtain ⟨va,vc,rfl,_⟩:=hr.slice;obtain ⟨n,hn⟩:=Nm (st.l.length);rw [<- hn] at hr d0 |-;obtain ⟨c,hc⟩:=Nm (st.clock);obtain ⟨bi,hb⟩:=Nm (st.births);have d1:=fun (d:DiskM) lv b F w h hd b0 hr ht hl a7=>jas st (.slice va n vc) d ps pd s.epoch (s.epoch+1) lv b F w rfl h hd b0 hr ho ht hl a7 (qi (jdm st) (by decide))
 have c5:=fun w' h4 h5 p0 h7=>uJ s.log d (evB e) pl pd F p0 w' h4 h5 c9 h7 (qi ht (by decide)) h1 h2 h3 a7
 have a8:=fun (pl2:Nat) (F2:Nat->Prop) w' h4 h5 h6 p0 h7=>uJ (yt (s.epoch+1)) (yu s.epoch d st).1 (evB e) pl2 pd F2 p0 w' h4 h5 h6 h7 (qi (zw _ _ _ a7) (by omega)) (by rw [uY];exact hl) (show 0<=16 by omega) (show 0<=1000000000 by omega) (by rw [uY];exact a7)
 have a4:=fun w'=>jf2 e w' hu e2 e3
 have c6:=fun h=>jcK (l:=s.log) (d:=d) (p:=evB e) h
 rw [<- hc,<- hb] at d1 |-;obtain ⟨RL,d2⟩:=Nm (s.append d e st);have a9:=d2;rw [<- d2];unfold StoM.append at a9;clear d2;obtain ⟨bs,e4⟩:=Nm (evB e);unfold jbO uS at a4;rw [<- e4] at a4 a9 c5 a8 c6;obtain ⟨A1,e5⟩:=Nm (s.log.append d bs);rw [<- e5] at a9 c5 c6;have c1:=fun lv b F w h hd b0 hr=>d1 d lv b F w h hd b0 hr (qi ht (by decide)) hl a7
 obtain ⟨A2,e6⟩:=Nm (yu s.epoch d st);rw [<- e6] at a9 c1 a8;obtain ⟨A3,e7⟩:=Nm ((yt (s.epoch+1)).append A2.1 bs);rw [<- e7] at a9 a8;have b1:=jl w (.cells e.cells 47) (.cells #[c,bi,.slice va n vc] 30);have O:=Hd b1;have B:=Hd (h.below b1);have J:=Hd (show xm _ s.log pl pd from Box.below c8 b1)
 have Z:=Hd (hd.below b1);have HR:=Hd (hr.below b1);have H1:=Hd ((Box.new w e.cells 47).below (ja _ (.cells #[c,bi,.slice va n vc] 30)));have d3:=Box.new (w.alloc (.cells e.cells 47)) #[c,bi,.slice va n vc] 30;rw [qj] at d3;have H2:=Hd d3;have H3:=Hd c1;have H4:=Hd c5;have R:=Hd a8;have U:=Hd c6;have H:=Hd a9;have E:=Hd b0;have V:=Hd c9;have G:=Hd e1;have Hp:=Hd d0;have Hq:=Hd hn;have L:=Hd (show pl<w.heap.size from c8.lt)
 have C:=Hd (show ps<w.heap.size from h.bx.lt)
 have H5:=Hd hd.lt;clear h c8 hd b0 c9 e1 hr d0 ho hu e2 e3 ht hl h1 h2 h3 a7 d1 c1 c5 a8 c6 a9 b1 d3 hn hc hb e5 e6 e7 e4
 cases hdd:s.dead
 rotate_left
 .
  rw [hdd] at H B;rw [qf rfl] at H;have c3:((w.alloc (.cells e.cells 47)).alloc (.cells #[c,bi,.slice va n vc] 30)).cell? ⟨ps,3,none⟩=some (.bool true):=B.1.bx.cell 3 _ rfl;obtain rfl:RL=(s,d,22):=H.1;clear H H4 R H3 a4 U;have M:=Hd (show RStoB ((w.alloc (.cells e.cells 47)).alloc (.cells #[c,bi,.slice va n vc] 30)) ps pd s.epoch (.pointer (some ⟨pl,0,none⟩)) s.dead by rw [hdd];exact B.1)
  clear hdd;go_enter func51,ntmps51;go_wp2;go_ret;exact ⟨rfl,⟨F,pl,Z.1,fun k hk=>.inl hk,.inl rfl,M.1,J.1,E.1,V.1,G.1⟩,Mod.of_below O.1⟩
 rw [hdd] at H B;rw [qh (by simp)] at H
 have c3:((w.alloc (.cells e.cells 47)).alloc (.cells #[c,bi,.slice va n vc] 30)).cell? ⟨ps,3,none⟩=some (.bool false):=B.1.bx.cell 3 _ rfl;have c2:((w.alloc (.cells e.cells 47)).alloc (.cells #[c,bi,.slice va n vc] 30)).cell? ⟨ps,2,none⟩=some (.pointer (some ⟨pl,0,none⟩)):=B.1.bx.cell 2 _ rfl;have Hr:=Hd hdd;clear hdd;by_cases hM:jM e=true;rotate_left
 .
  rw [qh hM] at H;obtain rfl:RL=(s,d,1):=H.1;simp only [qh hM] at a4;have X:=Hd a4;clear H H4 R H3 a4 U hM;go_enter func51,ntmps51
  go_wp2_with (with_reducible refine Lk (yV H1.1) underlying47 ?_)
  intro cv b5;have ecv:cv=e.cells:=by rw [b5.out]
  subst ecv;clear b5;go_wp2_with fail;refine (X.1 _).mono ?_;rintro ev w2 ⟨bv,rfl,_,a1⟩;obtain ⟨w1,b6⟩:=Nm (((w.alloc (.cells e.cells 47)).alloc (.cells #[c,bi,.slice va n vc] 30)));rw [<- b6] at B J Z O a1;have M:=Hd (show RStoB w2 ps pd s.epoch (.pointer (some ⟨pl,0,none⟩)) s.dead by rw [Hr.1];exact B.1.below a1)
  have H6:=Hd (Z.1.below a1);have T:=Hd (show xm w2 s.log pl pd from Box.below J.1 a1)
  have Hc:=Hd (O.1.trans (a1.mono O.1.size));clear a1 b6 B Z J O c3 c2 X H1 H2 HR;go_wp2;go_ret;exact ⟨rfl,⟨F,pl,H6.1,fun k hk=>.inl hk,.inl rfl,M.1,T.1,E.1,V.1,G.1⟩,Mod.of_below Hc.1⟩
 rw [qf hM] at H;simp only [qf hM] at a4;have X:=Hd a4;clear a4 hM;go_enter func51,ntmps51
 go_wp2_with (with_reducible refine Lk (yV H1.1) underlying47 ?_)
 intro cv b5;have ecv:cv=e.cells:=by rw [b5.out]
 subst ecv;clear b5;go_wp2_with fail;refine (X.1 _).mono ?_;rintro ev w2 ⟨bv,rfl,b2,a1⟩;obtain ⟨w1,b6⟩:=Nm (((w.alloc (.cells e.cells 47)).alloc (.cells #[c,bi,.slice va n vc] 30)));rw [<- b6] at B J Z O a1 HR H2 b2;have M:=Hd (B.1.below a1);have H6:=Hd (Z.1.below a1);have T:=Hd (show xm w2 s.log pl pd from Box.below J.1 a1)
 have Hc:=Hd (O.1.trans (a1.mono O.1.size));have Hf:=Hd (HR.1.below a1);have H0:=Hd (H2.1.below a1);have H7:=Hd b2.rd;have He:=Hd (show ∀ k,bv.ownBlock=some k->w.heap.size<=k/\k<w2.heap.size from fun k hk=>⟨qi O.1.size (b2.lt k hk).1,(b2.lt k hk).2⟩)
 obtain ⟨ba,bc,rfl,_⟩:=b2.rd;obtain ⟨m,hm⟩:=Nm (bs.length);have HOB2:=H7;rw [<- hm] at H7 He |-;have HM:=Hd hm;have A:=Hd (show w.heap.size+1<w2.heap.size from H0.1.lt)
 clear a1 b2 b6 B Z J O X H1 H2 HR c3 c2 hm;have c2:w2.cell? ⟨ps,2,none⟩=some (.pointer (some ⟨pl,0,none⟩)):=M.1.bx.cell 2 _ rfl;go_wp2_with fail;refine (H4.1 w2 T.1 H6.1 (.slice ba m bc) (by rw [HM.1];exact HOB2.1)).mono ?_
 rintro ev w3 ⟨rfl,e8,a0,F3,e9,f0⟩;have P:=Hd (M.1.mod a0 (fun h=>h.elim G.1 E.1))
 have H8:=Hd e9;have H9:=Hd e8;have D:=Hd (show ∀ k,F3 k->F k\/w2.heap.size<=k from f0)
 have Hg:=Hd (RdS.mod1 Hf.1 a0 (fun h0 k hk h=>by have:=Hp.1 (by rw [Hq.1];exact h0) k hk;exact h.elim this.2.2.1 this.1))
 have N:=Hd (H0.1.mod a0 (fun h=>by
  rcases h with h | h
  . have:=L.1;omega
  . have:=H5.1 _ h;omega))
 have Hh:=Hd (Rd.mod0 H7.1 a0 (fun _ k hk h=>by
  have:=He.1 k hk
  rcases h with h | h
  . have:=L.1;omega
  . have:=H5.1 _ h;omega))
 have Ha:=Hd ((Mod.of_below Hc.1).trans a0);have Hb:=Hd (show w2.heap.size<=w3.heap.size from a0.size)
 clear e8 a0 e9 f0 M H6 T Hf H0 H7 HOB2 H4 c2;obtain ⟨X1,d4⟩:=Nm (A1.2.2);rw [<- d4] at H U |-;have Hu:=Hd d4;clear d4;by_cases h19:X1=19;rotate_left
 .
  rw [qh h19] at H;have g0:(X1==19)=false:=by simpa using h19
  clear h19;obtain rfl:RL=(⟨s.epoch,A1.1,isP X1⟩,A1.2.1,X1):=H.1;have a2:¬ F3 ps:=fun hf=>by
   rcases D.1 ps hf with g | g
   . exact E.1 g
   . have:=C.1;have:=A.1;omega
  have a3:¬ F3 pl:=fun hf=>by
   rcases D.1 pl hf with g | g
   . exact V.1 g
   . have:=L.1;have:=A.1;omega
  have hg:∀ k,F3 k->F k\/w.heap.size<=k:=fun k hk=>by
   rcases D.1 k hk with g | g
   . exact .inl g
   . right;have:=A.1;omega
  have c3:w3.cell? ⟨ps,3,none⟩=some (.bool false):=P.1.bx.cell 3 _ rfl;have f3:=P.1.bx.free 3;have a0:=Mod.set (fun k=>k=ps) w3 ⟨ps,3,none⟩ (.bool (X1==22)) rfl
  have Y:=Hd (show RAppd w ps pl pd F (⟨s.epoch,A1.1,isP X1⟩,A1.2.1,X1) (w3.setCell ⟨ps,3,none⟩ (.bool (X1==22))) from
   ⟨⟨F3,pl,H8.1.mod a0 (fun k hk e=>a2 (by rw [<- e];exact hk)),hg,.inl rfl,P.1.set3 (X1==22),Box.mod H9.1 a0 (fun e=>G.1 e.symm),a2,a3,G.1⟩,(Ha.1.mono (fun _ h=>.inr h)).old a0 (fun _ _ h=>.inl h)⟩)
  clear a0 hg a2 a3;go_wp2;go_ret;exact ⟨rfl,Y.1⟩
 rw [qf h19] at H;obtain ⟨y1,y2⟩:=U.1 h19;rw [y1] at H9;rw [y2] at H8;have d5:¬ F3 ps:=fun hf=>by
  rcases D.1 ps hf with g | g
  . exact E.1 g
  . have:=C.1;have:=A.1;omega
 have Hs:=Hd d5;have f7:=h19;clear h19 y1 y2 U d5;obtain rfl:X1=19:=f7;obtain ⟨x0,x1,x2⟩:=C3 N.1;go_wp2;refine qt (S:=fun W=>Box W (w.heap.size+1) #[c,bi,.slice va n vc] 30) (by kernel_rfl) (N.1.below (jb w3)) (fun b4=>?_)
 refine Tk 0 29 ?_;refine Tk 1 30 ?_ (v:=.agg #[c,bi,.slice va n vc]) (hy:=fun w' d6=>Ek (jj d6) underlying30)
 refine Tk 2 31 ?_;refine Tk 3 32 ?_;refine Tk 4 33 ?_;refine pD (rs := [5]) (by kernel_rfl) (by simp) (wJ (o:=⟨some 34,.load _ _,_,_,_,_⟩) rfl (fun K hK=>?_) px)
 have u1:(w3.drew).cell? ⟨ps,1,none⟩=some (.int .u32 (I32 s.epoch)):=(P.1.below (jb w3)).bx.cell 1 _ rfl
 go_simp
 refine hK.out _ _ b4 (fun _=>?_)
 clear hK K u1
 try simp only [Nz]
 refine Tk 6 35 ?_ (hy:=by intro w' d6;have u2:=jkq s.epoch;clear d6;go_simp;try with_reducible rfl)
 refine Rc 7 36 fun K hK=>?_
 go_simp
 refine (H3.1 _ _ F3 w3.drew (P.1.below (jb w3)) (H8.1.below (jb w3)) Hs.1 (Hg.1.below (jb w3))).mono ?_;rintro ev w5 ⟨rfl,b7⟩;refine hK.out _ _ (b4.mod b7.md (fun h=>by
  rcases h with h | h
  . have:=C.1;omega
  .
   rcases D.1 _ h with g | g
   . have:=H5.1 _ g;omega
   . have:=A.1;omega)) (fun _=>?_)
 clear hK K b4
 try simp only [Nz]
 refine Tk 8 8 ?_;refine Dn ?_;have I:=Hd (show RLaid w3 ps pd s.epoch (.pointer (some ⟨pl,0,none⟩)) false F3 A2 w5 from ⟨b7.dk,b7.no,(Mod.of_below (jb w3)).trans b7.md⟩)
 clear b7 N x0 x1 x2 P Hg H3;by_cases h0:A2.2=0;rotate_left
 .
  rw [qh h0] at H;obtain rfl:RL=(⟨s.epoch,s.log,isP A2.2⟩,A2.1,A2.2):=H.1;have f8:(A2.2==0)=false:=by simpa using h0
  have Hv:=Hd h0;have a5:=I.1.no h0;obtain ⟨F5,b8,b9,_⟩:=I.1.dk;have b3:=Box.mod H9.1 I.1.md (fun h=>h.elim (fun e=>G.1 e.symm) (fun hf=>by
   rcases D.1 pl hf with g | g
   . exact V.1 g
   . have:=L.1;have:=A.1;omega))
  have a6:∀ k,F5 k->F k\/w2.heap.size<=k:=fun k hk=>by
   rcases b9 k hk with g | g
   . exact D.1 k g
   . right;have:=Hb.1;omega
  have a2:¬ F5 ps:=fun hf=>by
   rcases a6 ps hf with g | g
   . exact E.1 g
   . have:=C.1;have:=A.1;omega
  have a3:¬ F5 pl:=fun hf=>by
   rcases a6 pl hf with g | g
   . exact V.1 g
   . have:=L.1;have:=A.1;omega
  have hg:∀ k,F5 k->F k\/w.heap.size<=k:=fun k hk=>by
   rcases a6 k hk with g | g
   . exact .inl g
   . right;have:=A.1;omega
  have c0:=(show Mod (fun k=>k=ps\/k=pl\/F k) w w3 from Ha.1.mono (fun _ h=>.inr h)).old I.1.md (fun i hi g=>g.elim .inl (fun g=>(D.1 i g).elim (fun g=>.inr (.inr g)) (fun g=>by have:=A.1;omega)))
  clear h0;have c3:w5.cell? ⟨ps,3,none⟩=some (.bool false):=a5.bx.cell 3 _ rfl;have f3:=a5.bx.free 3;have a0:=Mod.set (fun k=>k=ps) w5 ⟨ps,3,none⟩ (.bool (A2.2==22)) rfl
  have Y:=Hd (show RAppd w ps pl pd F (⟨s.epoch,s.log,isP A2.2⟩,A2.1,A2.2) (w5.setCell ⟨ps,3,none⟩ (.bool (A2.2==22))) from
   ⟨⟨F5,pl,b8.mod a0 (fun k hk e=>a2 (by rw [<- e];exact hk)),hg,.inl rfl,a5.set3 (A2.2==22),Box.mod b3 a0 (fun e=>G.1 e.symm),a2,a3,G.1⟩,(c0).old a0 (fun _ _ h=>.inl h)⟩)
  clear a0 hg a2 a3 a5 b8 b9 b3 a6 c0;go_wp2;go_ret;exact ⟨rfl,Y.1⟩
 rw [qf h0] at H;obtain rfl:RL=(⟨s.epoch+1,A3.1,isP A3.2.2⟩,A3.2.1,A3.2.2):=H.1;have f8:(A2.2==0)=true:=by simpa using h0
 obtain ⟨F5,b8,b9,f1⟩:=I.1.dk;obtain ⟨pl5,f9,f2,a5,b3⟩:=f1 h0;have c2:w5.cell? ⟨ps,2,none⟩=some (.pointer (some ⟨pl5,0,none⟩)):=a5.bx.cell 2 _ rfl;have a6:∀ k,F5 k->F k\/w2.heap.size<=k:=fun k hk=>by
  rcases b9 k hk with g | g
  . exact D.1 k g
  . right;have:=Hb.1;omega
 have f4:¬ F5 ps:=fun hf=>by
  rcases a6 ps hf with g | g
  . exact E.1 g
  . have:=C.1;have:=A.1;omega
 have Hi:=Hd (Rd.mod0 Hh.1 I.1.md (fun _ k hk h=>by
  have h1:=He.1 k hk
  rcases h with h | h
  . have:=C.1;omega
  .
   rcases D.1 k h with g | g
   . have:=H5.1 _ g;omega
   . omega))
 have d7:=(show Mod (fun k=>k=ps\/k=pl\/F k) w w3 from Ha.1.mono (fun _ h=>.inr h)).old I.1.md (fun i hi g=>g.elim .inl (fun g=>(D.1 i g).elim (fun g=>.inr (.inr g)) (fun g=>by have:=A.1;omega)))
 have Hj:=Hd a5;have Hk:=Hd b3;have Hl:=Hd b8;have Hm:=Hd f2;have Q:=Hd (show w2.heap.size<=pl5/\ps≠pl5/\pl5<w5.heap.size from ⟨by have:=Hb.1;omega,by have:=C.1;have:=Hb.1;have:=A.1;omega,b3.lt⟩)
 have Ht:=Hd f4;have Hn:=Hd a6;have Ho:=Hd d7;clear h0 b8 b9 f1 f9 f2 a5 b3 a6 f4 d7 I H8 H9 Hh Ha;go_wp2_with fail;refine (R.1 pl5 F5 w5 Hk.1 Hl.1 Hm.1 (.slice ba m bc) (by rw [HM.1];exact (show Rd w5 (.slice ba m bc) m (bs.map V8) from Hi.1) |> fun h=>by rw [HM.1] at h;exact h)).mono ?_
 rintro ev w6 ⟨rfl,f5,d8,F6,f6,d9⟩;have c7:=Hj.1.mod d8 (fun h=>h.elim Q.1.2.1 Ht.1)
 have c4:∀ k,F6 k->F k\/w2.heap.size<=k:=fun k hk=>by
  rcases d9 k hk with g | g
  . exact Hn.1 k g
  . right;have:=Q.1;omega
 have a2:¬ F6 ps:=fun hf=>by
  rcases c4 ps hf with g | g
  . exact E.1 g
  . have:=C.1;have:=A.1;omega
 have a3:¬ F6 pl5:=fun hf=>by
  rcases d9 pl5 hf with g | g
  . exact Hm.1 g
  . have:=Q.1;omega
 have hg:∀ k,F6 k->F k\/w.heap.size<=k:=fun k hk=>by
  rcases c4 k hk with g | g
  . exact .inl g
  . right;have:=A.1;omega
 have c0:=Ho.1.old d8 (fun i hi g=>by
  rcases g with g | g
  . have:=Q.1;have:=A.1;omega
  .
   rcases Hn.1 i g with g | g
   . exact .inr (.inr g)
   . have:=A.1;omega)
 have e0:ps≠pl5:=Q.1.2.1;have g1:w.heap.size<=pl5:=by have:=Q.1;have:=A.1;omega
 clear d8 c4 c2 R Hi Hj Hk Hl;have c3:w6.cell? ⟨ps,3,none⟩=some (.bool false):=c7.bx.cell 3 _ rfl;have f3:=c7.bx.free 3;have a0:=Mod.set (fun k=>k=ps) w6 ⟨ps,3,none⟩ (.bool (A3.2.2==22)) rfl
 have Y:=Hd (show RAppd w ps pl pd F (⟨(s.epoch+1),A3.1,isP A3.2.2⟩,A3.2.1,A3.2.2) (w6.setCell ⟨ps,3,none⟩ (.bool (A3.2.2==22))) from
  ⟨⟨F6,pl5,f6.mod a0 (fun k hk e=>a2 (by rw [<- e];exact hk)),hg,(.inr (by omega)),c7.set3 (A3.2.2==22),Box.mod f5 a0 (fun e=>e0 e.symm),a2,a3,e0⟩,(c0).old a0 (fun _ _ h=>.inl h)⟩)
 clear a0 hg a2 a3 c7 f6 d9 f5 c0;go_wp2;go_ret;exact ⟨rfl,Y.1⟩
end Go.Proofs.YtgcnolapjppbpaaGreatDoor
