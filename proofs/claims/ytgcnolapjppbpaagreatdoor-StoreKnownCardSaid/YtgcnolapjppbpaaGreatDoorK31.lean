/- Texts of one proof. -/
import Derived.Test.YtgcnolapjppbpaaGreatDoorK26
import Derived.Test.YtgcnolapjppbpaaGreatDoorK30
namespace Go.Proofs.YtgcnolapjppbpaaGreatDoor
open Go.RowKit _root_.Go.Proofs.Tryz
set_option maxRecDepth 100000
set_option maxHeartbeats 25600000
variable {w:World}
theorem jdm (st:StM):(vz st).length<=6144:=by
 unfold vz
 split
 . rename_i h;exact vq h
 . exact qJ _
theorem uY (ep:UInt32)(d:DiskM)(st:StM):(yu ep d st).1.strs.length=d.strs.length:=by
 unfold yu
 split
 .
  split
  . rfl
  . exact vU _ _ _ _ _
 . rfl
theorem zw (ep:UInt32)(d:DiskM)(st:StM)(h:d.strs.length<=4096):(yu ep d st).1.trail.length<=d.trail.length+2050:=by
 unfold yu
 split
 .
  split
  . exact wn _ _
  . exact jhK _ _ _ _ _ h
 . exact wn _ _
theorem jiT (ep:UInt32){d:DiskM}(st:StM)(h:d.Wf):(yu ep d st).1.Wf:=by
 unfold yu
 split
 .
  split
  . exact h
  . exact jek h _ _ _ _
 . exact h
theorem jcK {l:LogM}{d:DiskM}{p:List UInt8}(h:(l.append d p).2.2=19):(l.append d p).1=l/\(l.append d p).2.1=d:=by
 unfold LogM.append at h |-
 split
 . exact ⟨rfl,rfl⟩
 rename_i h1
 rw [qh h1] at h
 split
 . exact ⟨rfl,rfl⟩
 rename_i h2
 rw [qh h2] at h
 split
 . exact ⟨rfl,rfl⟩
 rename_i h3
 rw [qh h3] at h
 split at h
 . cases h
 . cases h
theorem Mod.old {F G:Nat->Prop}{a b c:World}(h:Mod F a b)(k:Mod G b c)(hg:∀ i,i<a.heap.size->G i->F i):Mod F a c :=
 ⟨k.os.trans h.os,k.tape.trans h.tape,k.output.trans h.output,qi h.size k.size,fun i hi hn=>(k.block i (qu hi h.size) (fun g=>hn (hg i hi g))).trans (h.block i hi hn)⟩
theorem RdS.mod {w':World}{v:Value}{l:List SesM}{G:Nat->Prop}(h:RdS w v l)(hm:Mod G w w')(hn:∀ k,v.ownBlock=some k->¬ G k):RdS w' v l:=Rd.mod0 h hm (fun _=>hn)
structure Appd (w:World)(ps pl pd:Nat)(F:Nat->Prop)(R:StoM × DiskM × Int)(w':World):Prop where
 ex:∃ (F':Nat->Prop) (pl':Nat),IsDisk w' R.2.1 pd F'/\(∀ k,F' k->F k\/w.heap.size<=k)/\(pl'=pl\/w.heap.size<=pl')/\StoB w' ps pd R.1.epoch (.pointer (some ⟨pl',0,none⟩)) R.1.dead/\yI w' R.1.log pl' pd/\¬ F' ps/\¬ F' pl'/\ps≠pl'
 md:Mod (fun k=>k=ps\/k=pl\/F k) w w'
theorem xx (s:StoM)(d:DiskM)(e:EvtM)(st:StM)(v:Value)(ps pl pd:Nat)(F:Nat->Prop)(w:World)(h:StoB w ps pd s.epoch (.pointer (some ⟨pl,0,none⟩)) s.dead)(c5:yI w s.log pl pd)(hd:IsDisk w d pd F)(a9:¬ F ps)(c6:¬ F pl)(d6:ps≠pl)(hr:RdS w v st.l)(c7:∀ k,v.ownBlock=some k->¬ F k/\k≠ps/\k≠pl/\k<w.heap.size)(ho:∀ s∈st.l,SesOk s)(hu:e.s.user.length<=9223372036854775807)(d7:e.s.label.length<=9223372036854775807)(d8:e.s.scopes<2 ^ 64)(ht:d.trail.length<=9000000000)(hl:65<=d.strs.length)(h1:s.log.base+s.log.n<=d.strs.length)(h2:s.log.used<=s.log.n)(h3:s.log.records<=1000000000) :
  Calls prog 13 #[.pointer (some ⟨ps,0,none⟩),.agg e.cells,.agg #[st.clock,st.births,v]] w fun r w'=>r=.returned (jm (s.append d e st).2.2)/\Appd w ps pl pd F (s.append d e st) w':=by
 obtain ⟨va,vc,rfl,_⟩:=hr.slice;obtain ⟨n,hn⟩:=Nm (st.l.length);rw [<- hn] at hr c7 |-;obtain ⟨c,hc⟩:=Nm (st.clock);obtain ⟨bi,hb⟩:=Nm (st.births);have d9:d.strs.length<=4096:=by obtain ⟨_,_,_,_,_,_,_,_,h5,_⟩:=hd;exact h5
 have c8:=fun (d:DiskM) lv b F w h hd a9 hr ht hl=>jfB st (.slice va n vc) d ps pd s.epoch lv b F w h hd a9 hr ho ht hl (qi (jdm st) (by decide))
 have c0:=fun w' h4 h5 p0 h7=>jbL s.log d (evB e) pl pd F p0 w' h4 h5 c6 h7 (qi ht (by decide)) h1 h2 h3
 have a7:=fun (pl2:Nat) (F2:Nat->Prop) w' h4 h5 h6 p0 h7=>jbL (yt (s.epoch+1)) (yu s.epoch d st).1 (evB e) pl2 pd F2 p0 w' h4 h5 h6 h7 (qi (zw _ _ _ d9) (by omega)) (by rw [uY];exact hl) (show 0<=16 by omega) (show 0<=1000000000 by omega)
 have a4:=fun w'=>jck e w' hu d7 d8
 have c1:=fun h=>jcK (l:=s.log) (d:=d) (p:=evB e) h
 rw [<- hc,<- hb] at c8 |-;obtain ⟨RL,c9⟩:=Nm (s.append d e st);have a8:=c9;rw [<- c9];unfold StoM.append at a8;clear c9;obtain ⟨bs,e0⟩:=Nm (evB e);unfold jbO uS at a4;rw [<- e0] at a4 a8 c0 a7 c1;obtain ⟨A1,e1⟩:=Nm (s.log.append d bs);rw [<- e1] at a8 c0 c1;have b8:=fun lv b F w h hd a9 hr=>c8 d lv b F w h hd a9 hr (qi ht (by decide)) hl
 obtain ⟨A2,e2⟩:=Nm (yu s.epoch d st);rw [<- e2] at a8 b8 a7;obtain ⟨A3,e3⟩:=Nm ((yt (s.epoch+1)).append A2.1 bs);rw [<- e3] at a8 a7;have b0:=jl w (.cells e.cells 47) (.cells #[c,bi,.slice va n vc] 30);have M:=Hd b0;have B:=Hd (h.below b0);have J:=Hd (show yI _ s.log pl pd from Box.below c5 b0)
 have V:=Hd (hd.grow b0);have HR:=Hd (hr.below b0);have X:=Hd ((Box.new w e.cells 47).below (ja _ (.cells #[c,bi,.slice va n vc] 30)));have d0:=Box.new (w.alloc (.cells e.cells 47)) #[c,bi,.slice va n vc] 30;rw [qj] at d0;have Y:=Hd d0;have Z:=Hd b8;have H0:=Hd c0;have O:=Hd a7;have H1:=Hd c1;have A:=Hd a8;have E:=Hd a9;have R:=Hd c6;have G:=Hd d6;have Hb:=Hd c7;have K:=Hd (show pl<w.heap.size from c5.lt)
 have D:=Hd (show ps<w.heap.size from h.bx.lt)
 have H8:=Hd hd.lt;clear h c5 hd a9 c6 d6 hr c7 ho hu d7 d8 ht hl h1 h2 h3 d9 c8 b8 c0 a7 c1 a8 b0 d0 hn hc hb e1 e2 e3 e0
 cases hdd:s.dead
 rotate_left
 .
  rw [hdd] at A B;rw [qf rfl] at A;have c3:((w.alloc (.cells e.cells 47)).alloc (.cells #[c,bi,.slice va n vc] 30)).cell? ⟨ps,3,none⟩=some (.bool true):=B.1.bx.cell 3 _ rfl;obtain rfl:RL=(s,d,22):=A.1;clear A H0 O Z a4 H1;have L:=Hd (show StoB ((w.alloc (.cells e.cells 47)).alloc (.cells #[c,bi,.slice va n vc] 30)) ps pd s.epoch (.pointer (some ⟨pl,0,none⟩)) s.dead by rw [hdd];exact B.1)
  clear hdd;go_enter func13,ntmps13;go_wp2;go_ret;exact ⟨rfl,⟨F,pl,V.1,fun k hk=>.inl hk,.inl rfl,L.1,J.1,E.1,R.1,G.1⟩,Mod.of_below M.1⟩
 rw [hdd] at A B;rw [qh (by simp)] at A
 have c3:((w.alloc (.cells e.cells 47)).alloc (.cells #[c,bi,.slice va n vc] 30)).cell? ⟨ps,3,none⟩=some (.bool false):=B.1.bx.cell 3 _ rfl;have c2:((w.alloc (.cells e.cells 47)).alloc (.cells #[c,bi,.slice va n vc] 30)).cell? ⟨ps,2,none⟩=some (.pointer (some ⟨pl,0,none⟩)):=B.1.bx.cell 2 _ rfl;have Ho:=Hd hdd;clear hdd;by_cases hM:jM e=true;rotate_left
 .
  rw [qh hM] at A;obtain rfl:RL=(s,d,1):=A.1;simp only [qh hM] at a4;have S:=Hd a4;clear A H0 O Z a4 H1 hM;go_enter func13,ntmps13
  go_wp2_with (with_reducible refine Lk (yV X.1) underlying47 ?_)
  intro cv b3;have ecv:cv=e.cells:=by rw [b3.out]
  subst ecv;clear b3;go_wp2_with fail;refine (S.1 _).mono ?_;rintro ev w2 ⟨bv,rfl,_,a1⟩;obtain ⟨w1,b4⟩:=Nm (((w.alloc (.cells e.cells 47)).alloc (.cells #[c,bi,.slice va n vc] 30)));rw [<- b4] at B J V M a1;rw [show jm 1=.iface 91 (1:Int) from rfl]
  have L:=Hd (show StoB w2 ps pd s.epoch (.pointer (some ⟨pl,0,none⟩)) s.dead by rw [Ho.1];exact B.1.below a1)
  have H2:=Hd (V.1.grow a1);have P:=Hd (show yI w2 s.log pl pd from Box.below J.1 a1)
  have H9:=Hd (M.1.trans (a1.mono M.1.size));clear a1 b4 B V J M c3 c2 S X Y HR;go_wp2;go_ret;exact ⟨rfl,⟨F,pl,H2.1,fun k hk=>.inl hk,.inl rfl,L.1,P.1,E.1,R.1,G.1⟩,Mod.of_below H9.1⟩
 rw [qf hM] at A;simp only [qf hM] at a4;have S:=Hd a4;clear a4 hM;go_enter func13,ntmps13
 go_wp2_with (with_reducible refine Lk (yV X.1) underlying47 ?_)
 intro cv b3;have ecv:cv=e.cells:=by rw [b3.out]
 subst ecv;clear b3;go_wp2_with fail;refine (S.1 _).mono ?_;rintro ev w2 ⟨bv,rfl,b1,a1⟩;obtain ⟨w1,b4⟩:=Nm (((w.alloc (.cells e.cells 47)).alloc (.cells #[c,bi,.slice va n vc] 30)));rw [<- b4] at B J V M a1 HR Y b1;rw [show jm 0=.nilIface from rfl]
 have L:=Hd (B.1.below a1);have H2:=Hd (V.1.grow a1);have P:=Hd (show yI w2 s.log pl pd from Box.below J.1 a1)
 have H9:=Hd (M.1.trans (a1.mono M.1.size));have Hc:=Hd (HR.1.below a1);have W:=Hd (Y.1.below a1);have H3:=Hd b1.rd;have Ha:=Hd (show ∀ k,bv.ownBlock=some k->w.heap.size<=k/\k<w2.heap.size from fun k hk=>⟨qi M.1.size (b1.lt k hk).1,(b1.lt k hk).2⟩)
 obtain ⟨ba,bc,rfl,_⟩:=b1.rd;obtain ⟨m,hm⟩:=Nm (bs.length);have HOB2:=H3;rw [<- hm] at H3 Ha |-;have HM:=Hd hm;have H:=Hd (show w.heap.size+1<w2.heap.size from W.1.lt)
 clear a1 b1 b4 B V J M S X Y HR c3 c2 hm;have c2:w2.cell? ⟨ps,2,none⟩=some (.pointer (some ⟨pl,0,none⟩)):=L.1.bx.cell 2 _ rfl;go_wp2_with fail;refine (H0.1 w2 P.1 H2.1 (.slice ba m bc) (by rw [HM.1];exact HOB2.1)).mono ?_
 rintro ev w3 ⟨rfl,e4,a0,F3,e5,e6⟩;have T:=Hd (L.1.mod a0 (fun h=>h.elim G.1 E.1))
 have H4:=Hd e5;have H5:=Hd e4;have C:=Hd (show ∀ k,F3 k->F k\/w2.heap.size<=k from e6)
 have He:=Hd (Hc.1.mod a0 (fun k hk h=>by have:=Hb.1 k hk;exact h.elim this.2.2.1 this.1))
 have Q:=Hd (W.1.mod a0 (fun h=>by
  rcases h with h | h
  . have:=K.1;omega
  . have:=H8.1 _ h;omega))
 have Hf:=Hd (Rd.mod0 H3.1 a0 (fun _ k hk h=>by
  have:=Ha.1 k hk
  rcases h with h | h
  . have:=K.1;omega
  . have:=H8.1 _ h;omega))
 have H6:=Hd ((Mod.of_below H9.1).trans a0);have H7:=Hd (show w2.heap.size<=w3.heap.size from a0.size)
 clear e4 a0 e5 e6 L H2 P Hc W H3 HOB2 H0 c2;go_wp2_with fail;refine (show Calls _ _ #[jm A1.2.2,.iface 91 (19:Int)] w3 _ from jeg A1.2.2 19 (by decide) w3).mono ?_
 rintro ev w4 ⟨rfl,rfl⟩;by_cases h19:A1.2.2=19;rotate_left
 .
  rw [qh h19] at A;rw [show (A1.2.2==19)=false by simpa using h19]
  clear h19;obtain rfl:RL=(⟨s.epoch,A1.1,isP A1.2.2⟩,A1.2.1,A1.2.2):=A.1;have a2:¬ F3 ps:=fun hf=>by
   rcases C.1 ps hf with g | g
   . exact E.1 g
   . have:=D.1;have:=H.1;omega
  have a3:¬ F3 pl:=fun hf=>by
   rcases C.1 pl hf with g | g
   . exact R.1 g
   . have:=K.1;have:=H.1;omega
  have hg:∀ k,F3 k->F k\/w.heap.size<=k:=fun k hk=>by
   rcases C.1 k hk with g | g
   . exact .inl g
   . right;have:=H.1;omega
  have c3:w4.cell? ⟨ps,3,none⟩=some (.bool false):=T.1.bx.cell 3 _ rfl;have f3:=T.1.bx.free 3;have a0:=Mod.set (fun k=>k=ps) w4 ⟨ps,3,none⟩ (.bool (A1.2.2==22)) rfl
  have U:=Hd (show Appd w ps pl pd F (⟨s.epoch,A1.1,isP A1.2.2⟩,A1.2.1,A1.2.2) (w4.setCell ⟨ps,3,none⟩ (.bool (A1.2.2==22))) from
   ⟨⟨F3,pl,H4.1.mod a0 (fun k hk e=>a2 (by rw [<- e];exact hk)),hg,.inl rfl,T.1.set3 (A1.2.2==22),Box.mod H5.1 a0 (fun e=>G.1 e.symm),a2,a3,G.1⟩,(H6.1.mono (fun _ h=>.inr h)).old a0 (fun _ _ h=>.inl h)⟩)
  clear a0 hg a2 a3;go_wp2_with fail;refine (show Calls _ _ #[jm A1.2.2,.iface 91 (22:Int)] w4 _ from jeg A1.2.2 22 (by decide) w4).mono ?_
  rintro ev w9 ⟨rfl,rfl⟩;go_wp2;go_ret;exact ⟨rfl,U.1⟩
 rw [qf h19] at A;obtain ⟨y1,y2⟩:=H1.1 h19;rw [y1] at H5;rw [y2] at H4;rw [show (A1.2.2==19)=true by simpa using h19]
 have d1:¬ F3 ps:=fun hf=>by
  rcases C.1 ps hf with g | g
  . exact E.1 g
  . have:=D.1;have:=H.1;omega
 have Hp:=Hd d1;have Hq:=Hd (show ∀ k,(Value.slice va n vc).ownBlock=some k->¬ F3 k from fun k hk hf=>by
  have:=Hb.1 k hk
  rcases C.1 k hf with g | g
  . exact this.1 g
  . have:=H.1;omega)
 clear h19 y1 y2 H1 d1;obtain ⟨x0,x1,x2⟩:=C3 Q.1;go_wp2_with fail;refine (Z.1 _ _ F3 w4 T.1 H4.1 Hp.1 He.1).mono ?_;rintro ev w5 ⟨rfl,e7⟩;have I:=Hd e7;clear e7 Q x0 x1 x2 T He Z Hq;by_cases h0:A2.2=0;rotate_left
 .
  rw [qh h0] at A;obtain rfl:RL=(⟨s.epoch,s.log,isP A2.2⟩,A2.1,A2.2):=A.1;rw [show jm A2.2=.iface 91 A2.2 from qh h0]
  have Hg:=Hd h0;have a5:=I.1.no h0;obtain ⟨F5,b5,b6,_⟩:=I.1.dk;have b2:=Box.mod H5.1 I.1.md (fun h=>h.elim (fun e=>G.1 e.symm) (fun hf=>by
   rcases C.1 pl hf with g | g
   . exact R.1 g
   . have:=K.1;have:=H.1;omega))
  have a6:∀ k,F5 k->F k\/w2.heap.size<=k:=fun k hk=>by
   rcases b6 k hk with g | g
   . exact C.1 k g
   . right;have:=H7.1;omega
  have a2:¬ F5 ps:=fun hf=>by
   rcases a6 ps hf with g | g
   . exact E.1 g
   . have:=D.1;have:=H.1;omega
  have a3:¬ F5 pl:=fun hf=>by
   rcases a6 pl hf with g | g
   . exact R.1 g
   . have:=K.1;have:=H.1;omega
  have hg:∀ k,F5 k->F k\/w.heap.size<=k:=fun k hk=>by
   rcases a6 k hk with g | g
   . exact .inl g
   . right;have:=H.1;omega
  have b7:=(show Mod (fun k=>k=ps\/k=pl\/F k) w w4 from H6.1.mono (fun _ h=>.inr h)).old I.1.md (fun i hi g=>g.elim .inl (fun g=>(C.1 i g).elim (fun g=>.inr (.inr g)) (fun g=>by have:=H.1;omega)))
  clear h0;have c3:w5.cell? ⟨ps,3,none⟩=some (.bool false):=a5.bx.cell 3 _ rfl;have f3:=a5.bx.free 3;have a0:=Mod.set (fun k=>k=ps) w5 ⟨ps,3,none⟩ (.bool (A2.2==22)) rfl
  have U:=Hd (show Appd w ps pl pd F (⟨s.epoch,s.log,isP A2.2⟩,A2.1,A2.2) (w5.setCell ⟨ps,3,none⟩ (.bool (A2.2==22))) from
   ⟨⟨F5,pl,b5.mod a0 (fun k hk e=>a2 (by rw [<- e];exact hk)),hg,.inl rfl,a5.set3 (A2.2==22),Box.mod b2 a0 (fun e=>G.1 e.symm),a2,a3,G.1⟩,(b7).old a0 (fun _ _ h=>.inl h)⟩)
  clear a0 hg a2 a3 a5 b5 b6 b2 a6 b7;go_wp2_with fail;refine (show Calls _ _ #[.iface 91 A2.2,.iface 91 (22:Int)] w5 _ from by have h:=jeg A2.2 22 (by decide) w5;rw [show jm A2.2=.iface 91 A2.2 from qh Hg.1] at h;exact h).mono ?_
  rintro ev w9 ⟨rfl,rfl⟩;go_wp2;go_ret;exact ⟨by show Ending.returned _=Ending.returned (jm A2.2);rw [show jm A2.2=.iface 91 A2.2 from qh Hg.1];rfl,U.1⟩
 rw [qf h0] at A;obtain rfl:RL=(⟨s.epoch+1,A3.1,isP A3.2.2⟩,A3.2.1,A3.2.2):=A.1;rw [show jm A2.2=.nilIface from qf h0]
 obtain ⟨F5,b5,b6,e8⟩:=I.1.dk;obtain ⟨pl5,f4,e9,a5,b2⟩:=e8 h0;have c2:w5.cell? ⟨ps,2,none⟩=some (.pointer (some ⟨pl5,0,none⟩)):=a5.bx.cell 2 _ rfl;have a6:∀ k,F5 k->F k\/w2.heap.size<=k:=fun k hk=>by
  rcases b6 k hk with g | g
  . exact C.1 k g
  . right;have:=H7.1;omega
 have f0:¬ F5 ps:=fun hf=>by
  rcases a6 ps hf with g | g
  . exact E.1 g
  . have:=D.1;have:=H.1;omega
 have Hh:=Hd (Rd.mod0 Hf.1 I.1.md (fun _ k hk h=>by
  have h1:=Ha.1 k hk
  rcases h with h | h
  . have:=D.1;omega
  .
   rcases C.1 k h with g | g
   . have:=H8.1 _ g;omega
   . omega))
 have d2:=(show Mod (fun k=>k=ps\/k=pl\/F k) w w4 from H6.1.mono (fun _ h=>.inr h)).old I.1.md (fun i hi g=>g.elim .inl (fun g=>(C.1 i g).elim (fun g=>.inr (.inr g)) (fun g=>by have:=H.1;omega)))
 have Hi:=Hd a5;have Hj:=Hd b2;have Hk:=Hd b5;have Hl:=Hd e9;have N:=Hd (show w2.heap.size<=pl5/\ps≠pl5/\pl5<w5.heap.size from ⟨by have:=H7.1;omega,by have:=D.1;have:=H7.1;have:=H.1;omega,b2.lt⟩)
 have Hr:=Hd f0;have Hm:=Hd a6;have Hn:=Hd d2;clear h0 b5 b6 e8 f4 e9 a5 b2 a6 f0 d2 I H4 H5 Hf H6;go_wp2_with fail;refine (O.1 pl5 F5 w5 Hj.1 Hk.1 Hl.1 (.slice ba m bc) (by rw [HM.1];exact (show Rd w5 (.slice ba m bc) m (bs.map V8) from Hh.1) |> fun h=>by rw [HM.1] at h;exact h)).mono ?_
 rintro ev w6 ⟨rfl,f1,d3,F6,f2,d4⟩;have c4:=Hi.1.mod d3 (fun h=>h.elim N.1.2.1 Hr.1)
 have b9:∀ k,F6 k->F k\/w2.heap.size<=k:=fun k hk=>by
  rcases d4 k hk with g | g
  . exact Hm.1 k g
  . right;have:=N.1;omega
 have a2:¬ F6 ps:=fun hf=>by
  rcases b9 ps hf with g | g
  . exact E.1 g
  . have:=D.1;have:=H.1;omega
 have a3:¬ F6 pl5:=fun hf=>by
  rcases d4 pl5 hf with g | g
  . exact Hl.1 g
  . have:=N.1;omega
 have hg:∀ k,F6 k->F k\/w.heap.size<=k:=fun k hk=>by
  rcases b9 k hk with g | g
  . exact .inl g
  . right;have:=H.1;omega
 have b7:=Hn.1.old d3 (fun i hi g=>by
  rcases g with g | g
  . have:=N.1;have:=H.1;omega
  .
   rcases Hm.1 i g with g | g
   . exact .inr (.inr g)
   . have:=H.1;omega)
 have d5:ps≠pl5:=N.1.2.1;have f5:w.heap.size<=pl5:=by have:=N.1;have:=H.1;omega
 clear d3 b9 c2 O Hh Hi Hj Hk;have c3:w6.cell? ⟨ps,3,none⟩=some (.bool false):=c4.bx.cell 3 _ rfl;have f3:=c4.bx.free 3;have a0:=Mod.set (fun k=>k=ps) w6 ⟨ps,3,none⟩ (.bool (A3.2.2==22)) rfl
 have U:=Hd (show Appd w ps pl pd F (⟨(s.epoch+1),A3.1,isP A3.2.2⟩,A3.2.1,A3.2.2) (w6.setCell ⟨ps,3,none⟩ (.bool (A3.2.2==22))) from
  ⟨⟨F6,pl5,f2.mod a0 (fun k hk e=>a2 (by rw [<- e];exact hk)),hg,(.inr (by omega)),c4.set3 (A3.2.2==22),Box.mod f1 a0 (fun e=>d5 e.symm),a2,a3,d5⟩,(b7).old a0 (fun _ _ h=>.inl h)⟩)
 clear a0 hg a2 a3 c4 f2 d4 f1 b7;go_wp2_with fail;refine (show Calls _ _ #[jm A3.2.2,.iface 91 (22:Int)] w6 _ from jeg A3.2.2 22 (by decide) w6).mono ?_
 rintro ev w9 ⟨rfl,rfl⟩;go_wp2;go_ret;exact ⟨rfl,U.1⟩
theorem jlg:(prog.info? 3).map (fun i=>(i.zero,i.size,i.bytes))=some (some (.int .i64 0),1,8):=by kernel_rfl
theorem jnx {ops:Array Oper}{rest:List Oper}{o:Oper}{a:Act}{Q:Exit->Act->World->Prop}(a2:o.guard=none)(s x:Operand)(ho:o.op=.call { callee:=.builtin .append,args:=#[s,x],argTypes:=#[34,34] })(base:Nat)(v:Value)(n:Nat)(xs:List Value)(hs:a.eval s=v)(a1:w.ownsRow base 3 1 v n xs)(ad:Addr)(c:Nat)(y:Value)(hx:a.eval x=.slice (some ad) 1 c)(hy:w.cell? ad=some y)(h1:y.oneCell'=true)(a6:n+1<=17592186044416)(a0:base<=w.heap.size)(h:∀ v' w',w'.ownsRow base 3 1 v' (n+1) (xs ++ [y])->w.grownBy w' v.ownBlock->xj w v v'->wpList prog ops Q rest (a.put o.dst v') w'):wpList prog ops Q (o::rest) a w:=by
 obtain ⟨i0,hi,a3,a4,a5⟩:=wI jlg;refine yb a2 s x 34 ho base 3 i0 (0:Int) 1 8 underlying34 hi a3 a4 a5 rfl (by decide) v n xs hs a1 ad 1 c [y] hx rfl (fun j u hj=>?_) (by simpa using h1) (by unfold maxLen;omega) (by omega) a0 h
 cases j with
 | zero=>simp at hj;subst hj;rw [show ad.add 0=ad from by cases ad with | mk b o s=>cases s <;> rfl];exact hy
 | succ j=>simp at hj
theorem jlP {e:UInt32}{bl:List (List UInt8)}:∀ n,(∀ i,i<n->yN e bl i≠none)->n<=yQ e bl n:=by
 intro n
 induction n with
 | zero=>intro _;exact qJ _
 | succ n ih =>
  intro h;have h1:=ih (fun i hi=>h i (by omega))
  cases hp:yN e bl n with
  | none=>exact absurd hp (h n (by omega))
  | some x =>
   obtain ⟨p,k⟩:=x;rw [ze hp];have:=(vY hp).1;omega
def jaC (e:UInt32)(bl:List (List UInt8))(k:Nat):List Value:=(List.range k).map (fun i=>.int .i64 ((yQ e bl i:Nat):Int))
structure RScanI (e:UInt32)(bl:List (List UInt8))(w:World)(k:Nat)(ov pv:Value)(ys:List Value)(W:World):Prop where
 found:∀ i,i<k->∃ p c,yN e bl i=some (p,c)/\OwnM W w.heap.size 5 (ys.getD i undef) p.length (p.map V8)
 out:W.ownsRow w.heap.size 92 1 ov k ys
 len:ys.length=k
 pl:W.ownsRow w.heap.size 3 1 pv k (jaC e bl k)
 below:Below w.heap.size w W
theorem OwnM.apart_row {W:World}{b b':Nat}{e e':TypeId}{s n n':Nat}{v v':Value}{xs xs':List Value}(h:OwnM W b e v n xs)(h':W.ownsRow b' e' s v' n' xs')(a0:e'≠e):Apart v v':=(jcJ h' h a0).symm
theorem RScanI.next {e:UInt32}{bl:List (List UInt8)}{k:Nat}{ov pv ov' pv' xv:Value}{ys:List Value}{wr w1 w2 w3:World}{o1 o2:Obj}{p:List UInt8}{c q:Nat}(h:RScanI e bl w k ov pv ys wr)(a1:Below wr.heap.size wr w1)(hp:yN e bl k=some (p,c))(a2:OwnM w1 wr.heap.size 5 xv p.length (p.map V8))(h2:w2.ownsRow w.heap.size 92 1 ov' (k+1) (ys ++ [xv]))(g2:(w1.alloc o1).grownBy w2 ov.ownBlock)(hq:q=yQ e bl k)(h3:w3.ownsRow w.heap.size 3 1 pv' (k+1) (jaC e bl k ++ [.int .i64 (q:Int)]))(g3:(w2.alloc o2).grownBy w3 pv.ownBlock):RScanI e bl w (k+1) ov' pv' (ys ++ [xv]) w3:=by
 have hs:=h.below.size;have b2:=jd a1 (ja w1 o1);have b3:=ja w2 o2;have o1a:=jq h.out b2;have p1a:=jq h.pl b2;have p2:=xi p1a g2 (jcr p1a o1a (by decide))
 have o2a:=jq h2 b3;have p2a:=jq p2 b3;have a0:∀ v (p:List UInt8),OwnM w1 w.heap.size 5 v p.length (p.map V8)->OwnM w3 w.heap.size 5 v p.length (p.map V8):=fun v p hv=>by
  have v1:=hv.below (ja w1 o1);have v2:=(v1.other g2 (v1.apart_row o1a (by decide))).below b3
  exact v2.other g3 (v2.apart_row p2a (by decide))
 refine ⟨fun i hi=>?_,xi o2a g3 (jcr o2a p2a (by decide)),by rw [qd,h.len];rfl,?_,?_⟩
 .
  rcases qX i k with hik | hik
  .
   obtain ⟨p',c',e1,e2⟩:=h.found i hik;refine ⟨p',c',e1,?_⟩;rw [List.getD,List.getElem?_append_left (by rw [h.len];exact hik)]
   exact a0 _ _ (e2.below a1)
  .
   obtain rfl:i=k:=by omega
   refine ⟨p,c,hp,?_⟩;rw [List.getD,List.getElem?_append_right (by rw [h.len];omega),h.len,Nat.sub_self]
   exact a0 _ _ (a2.lower hs)
 .
  have:jaC e bl (k+1)=jaC e bl k ++ [.int .i64 (q:Int)]:=by unfold jaC;rw [List.range_succ,qM,hq];rfl
  rw [this];exact h3
 .
  have c1:=(h.below.trans (b2.mono hs)).trans (je g2 (qi hs b2.size) (fun j hj=>(o1a.lt j hj).1))
  exact (c1.trans (b3.mono c1.size)).trans (je g3 (qi c1.size b3.size) (fun j hj=>(p2a.lt j hj).1))
theorem jeI (e:UInt32)(lv:Value)(bl:List (List UInt8))(w:World)(hl:Rd w lv bl.length (bl.map SV))(hn:bl.length<=1048576)(a2:∀ b∈bl,b.length<=1048576) :
  Calls prog 148 #[.int .u32 (e.toNat:Int),lv] w fun r w'=>∃ n ov pv ys,yN e bl n=none/\r=.returned (.tuple #[ov,pv,((yQ e bl n:Nat):Int)])/\RScanI e bl w n ov pv ys w':=by
 obtain ⟨la,lc,rfl⟩:∃ a c,lv=.slice a bl.length c:=by obtain ⟨a,c,h,_⟩:=hl;exact ⟨a,c,h⟩
 have W:=Hd hl;have R:=Hd a2;clear hl a2;go_enter func148,ntmps148;go_wp2
 go_loopw [7,8,9,10] (fun ov pv av iv wr=>∃ (k:Nat) (ys:List Value),k<=bl.length/\iv=.int .i64 k/\av=.int .i64 ((yQ e bl k:Nat):Int)/\RScanI e bl w k ov pv ys wr) (fun _ _ _ iv _=>bl.length-(intOf iv).toNat)
 case atStart=>exact ⟨0,[],by omega,rfl,rfl,⟨fun i hi=>by omega,ws _ _ _ _,rfl,ws _ _ _ _,qG _ _⟩⟩
 case round =>
  obtain ⟨k,ys,hk,rfl,rfl,hI⟩:=hrel;obtain ⟨oa,oc,rfl,_⟩:=jP hI.out;obtain ⟨pa,pc,rfl,_⟩:=jP hI.pl;obtain ⟨q,hq⟩:=Nm (yQ e bl k);have b3:q<=bl.length:=by rw [hq];exact jax _ _ _
  rw [<- hq];have H:=Hd hI;have B:=Hd hq;by_cases hlt:k<bl.length
  .
   have A:=Hd (jeD e (.slice la bl.length lc) bl q wr (W.1.below hI.below) hn (by omega) R.1)
   clear hI hq;go_wp2_with fail;refine A.1.mono ?_;rintro r w1 ⟨a0,hr⟩
   rcases hr with ⟨a6,x,y,rfl⟩ | ⟨p,c,pv,hp,rfl,a4⟩
   .
    have C:=Hd (show ∃ n ov pv ys,yN e bl n=none/\Ending.returned (Value.tuple #[.slice oa k oc,.slice pa k pc,(q:Int)])=.returned (.tuple #[ov,pv,((yQ e bl n:Nat):Int)])/\RScanI e bl w n ov pv ys w1 from
     ⟨k,_,_,ys,by unfold yN;rw [<- B.1];exact a6,by rw [<- B.1],⟨fun i hi=>by
      obtain ⟨p,c,h1,h2⟩:=H.1.found i hi;exact ⟨p,c,h1,h2.below a0⟩,jq H.1.out a0,H.1.len,jq H.1.pl a0,H.1.below.trans (a0.mono H.1.below.size)⟩⟩)
    clear a6 a0 A;go_wp2
    go_ret3
    exact C.1
   .
    obtain ⟨xa,xc,rfl,_⟩:=a4.slice;have a7:yN e bl k=some (p,c):=by unfold yN;rw [<- B.1];exact hp
    have a8:=(vY hp);have b4:q+c<=bl.length:=by have:=a8.2;rw [qn] at this;omega
    have b2:=jd a0 (ja w1 (.cells #[.slice xa p.length xc] 92));have D:=Hd (jq H.1.out b2);have G:=Hd ((Box.new w1 #[.slice xa p.length xc] 92).cell 0 _ rfl);have E:=Hd (qi H.1.below.size b2.size);have I:=Hd (show (Value.slice xa p.length xc).oneCell'=true by simp [Value.oneCell'])
    have S:=Hd (show k+1<=4398046511104 by omega)
    have F:=Hd (jq H.1.pl b2);have J:=Hd a0;have K:=Hd a4;have T:=Hd a7;have U:=Hd (jcc _ (by omega) (by omega):wrap64 ((q:Int)+(c:Int))=(q:Int)+(c:Int))
    clear hp a7 a0 a4 b2 A a8
    go_wp2_with (at_builtin;refine jmC rfl _ _ rfl w.heap.size _ k ys rfl D.1 ⟨w1.heap.size,0,none⟩ 1 (.slice xa p.length xc) rfl G.1 I.1 S.1 E.1 ?_)
    intro v2 w2 a5 a1 _;obtain ⟨o2,c2,rfl,_⟩:=jP a5;have L:=Hd (jq (xi F.1 a1 (jcr F.1 D.1 (by decide))) (ja w2 (.cells #[(q:Int)] 3)))
    have M:=Hd (qi (qi E.1 a1.size) (ja w2 (.cells #[(q:Int)] 3)).size);have N:=Hd ((Box.new w2 #[(q:Int)] 3).cell 0 _ rfl);have V:=Hd (show k+1<=17592186044416 by omega)
    have O:=Hd (show (Value.int .i64 (q:Int)).oneCell'=true by simp [Value.oneCell'])
    have P:=Hd a5;have Q:=Hd a1;clear a5 a1
    go_wp2_with (at_builtin;refine jnx rfl _ _ rfl w.heap.size _ k (jaC e bl k) rfl L.1 ⟨w2.heap.size,0,none⟩ 1 (q:Int) rfl N.1 O.1 V.1 M.1 ?_)
    intro v3 w3 a9 b0 _;have C:=Hd (show ∃ (k':Nat) (ys':List Value),k'<=bl.length/\Value.int .i64 ((k:Int)+1)=.int .i64 k'/\Value.int .i64 ((q:Int)+(c:Int))=.int .i64 ((yQ e bl k':Nat):Int)/\RScanI e bl w k' (.slice o2 (k+1) c2) v3 ys' w3 from
     ⟨k+1,_,by omega,by go_num,by rw [ze T.1,<- B.1];go_num,H.1.next J.1 T.1 K.1 P.1 Q.1 B.1 a9 b0⟩)
    have b5:(0:Int)<=(q:Int):=by omega
    have b6:(0:Int)<=(c:Int):=by omega
    have b1:(q:Int)+(c:Int)<=1048576:=by omega
    clear a9 b0 L M N O P Q D G E I F J K H;have hw:=U.1;clear U;go_wp2
    go_roundw
    case rel=>exact C.1
    case measure=>simp [intOf];omega
  .
   obtain rfl:k=bl.length:=by omega
   have C:=Hd (show ∃ n ov pv ys,yN e bl n=none/\Ending.returned (Value.tuple #[.slice oa bl.length oc,.slice pa bl.length pc,(q:Int)])=.returned (.tuple #[ov,pv,((yQ e bl n:Nat):Int)])/\RScanI e bl w n ov pv ys wr from by
    refine ⟨_,_,_,ys,?_,by rw [<- hq],hI⟩
    have:=jlP (e:=e) (bl:=bl) bl.length (fun i hi h=>by
     obtain ⟨p,c,h1,_⟩:=hI.found i hi;rw [h1] at h;cases h)
    unfold yN;rw [qN this];rfl)
   clear hI hq;go_wp2
   go_ret3
   exact C.1
end Go.Proofs.YtgcnolapjppbpaaGreatDoor
