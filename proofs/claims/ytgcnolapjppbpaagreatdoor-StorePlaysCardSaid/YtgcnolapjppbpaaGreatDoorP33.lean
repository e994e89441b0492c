/-
  Texts of one proof, one behind the other.
-/
import Derived.Test.YtgcnolapjppbpaaGreatDoorP22
import Derived.Test.YtgcnolapjppbpaaGreatDoorP31
import Derived.Test.YtgcnolapjppbpaaGreatDoorP26
import Derived.Test.YtgcnolapjppbpaaGreatDoorP32
import Derived.Test.YtgcnolapjppbpaaGreatDoorP00
namespace Go.Proofs.YtgcnolapjppbpaaGreatDoor
open Go.RowKit _root_.Go.Proofs.Tryz
set_option maxRecDepth 100000
set_option maxHeartbeats 25600000
theorem jcu (st:StM):(vj st).length≤6144:=by
 unfold vj
 split
 · rename_i h;exact jg3 h
 · exact Nat.zero_le _
theorem uh (ep:UInt32)(d:DiskM)(st:StM):(yS ep d st).1.strs.length=d.strs.length:=by
 unfold yS
 split
 ·
  split
  · rfl
  · exact jbw _ _ _ _ _
 · rfl
theorem zR (ep:UInt32)(d:DiskM)(st:StM)(h:d.strs.length≤4096):(yS ep d st).1.trail.length≤d.trail.length+2050:=by
 unfold yS
 split
 ·
  split
  · exact Nat.le_add_right _ _
  · exact jgt _ _ _ _ _ h
 · exact Nat.le_add_right _ _
theorem jhn (ep:UInt32){d:DiskM}(st:StM)(h:d.Wf):(yS ep d st).1.Wf:=by
 unfold yS
 split
 ·
  split
  · exact h
  · exact jiS h _ _ _ _
 · exact h
theorem jbQ {l:LogM}{d:DiskM}{p:List UInt8}(h:(l.append d p).2.2=19):(l.append d p).1=l∧(l.append d p).2.1=d:=by
 unfold LogM.append at h ⊢
 split
 · exact ⟨rfl,rfl⟩
 rename_i h1
 rw [if_neg h1] at h
 split
 · exact ⟨rfl,rfl⟩
 rename_i h2
 rw [if_neg h2] at h
 split
 · exact ⟨rfl,rfl⟩
 rename_i h3
 rw [if_neg h3] at h
 split at h
 · cases h
 · cases h
theorem Mod.old {F G:Nat→Prop}{a b c:World}(h:Mod F a b)(k:Mod G b c)(hg:∀ i,i<a.heap.size→G i→F i):Mod F a c :=
 ⟨k.os.trans h.os,k.tape.trans h.tape,k.output.trans h.output,Nat.le_trans h.size k.size,fun i hi hn=>(k.block i (Nat.lt_of_lt_of_le hi h.size) (fun g=>hn (hg i hi g))).trans (h.block i hi hn)⟩
theorem RdS.mod {w w':World}{v:Value}{l:List SesM}{G:Nat→Prop}(h:RdS w v l)(hm:Mod G w w')(hn:∀ k,v.ownBlock=some k→¬ G k):RdS w' v l:=Rd.mod0 h hm (fun _=>hn)
structure Appd (w:World)(ps pl pd:Nat)(F:Nat→Prop)(R:StoM × DiskM × Int)(w':World):Prop where
 ex:∃ (F':Nat→Prop) (pl':Nat),IsDisk w' R.2.1 pd F'∧(∀ k,F' k→F k∨w.heap.size≤k)∧(pl'=pl∨w.heap.size≤pl')∧StoB w' ps pd R.1.epoch (.pointer (some ⟨pl',0,none⟩)) R.1.dead∧xB w' R.1.log pl' pd∧¬ F' ps∧¬ F' pl'∧ps≠pl'
 md:Mod (fun k=>k=ps∨k=pl∨F k) w w'
theorem jcp (s:StoM)(d:DiskM)(e:EvtM)(st:StM)(v:Value)(ps pl pd:Nat)(F:Nat→Prop)(w:World)(h:StoB w ps pd s.epoch (.pointer (some ⟨pl,0,none⟩)) s.dead)(c5:xB w s.log pl pd)(hd:IsDisk w d pd F)(a9:¬ F ps)(c6:¬ F pl)(d6:ps≠pl)(hr:RdS w v st.l)(c7:∀ k,v.ownBlock=some k→¬ F k∧k≠ps∧k≠pl∧k<w.heap.size)(ho:∀ s∈st.l,SesOk s)(hu:e.s.user.length≤9223372036854775807)(d7:e.s.label.length≤9223372036854775807)(d8:e.s.scopes<2 ^ 64)(ht:d.trail.length≤9000000000)(hl:65≤d.strs.length)(h1:s.log.base+s.log.n≤d.strs.length)(h2:s.log.used≤s.log.n)(h3:s.log.records≤1000000000) :
  Calls prog 13 #[.pointer (some ⟨ps,0,none⟩),.agg e.cells,.agg #[.int .i64 st.clock,.int .i64 st.births,v]] w fun r w'=>r=.returned (jo (s.append d e st).2.2)∧Appd w ps pl pd F (s.append d e st) w':=by
 obtain ⟨va,vc,rfl,_⟩:=hr.slice;obtain ⟨n,hn⟩:=Nm (st.l.length);rw [← hn] at hr c7 ⊢;obtain ⟨c,hc⟩:=Nm (st.clock);obtain ⟨bi,hb⟩:=Nm (st.births);have d9:d.strs.length≤4096:=by obtain ⟨_,_,_,_,_,_,_,_,h5,_⟩:=hd;exact h5
 have c8:=fun (d:DiskM) lv b F w h hd a9 hr ht hl=>jd1 st (.slice va n vc) d ps pd s.epoch lv b F w h hd a9 hr ho ht hl (Nat.le_trans (jcu st) (by decide))
 have c0:=fun w' h4 h5 p0 h7=>jaP s.log d (evB e) pl pd F p0 w' h4 h5 c6 h7 (Nat.le_trans ht (by decide)) h1 h2 h3
 have a7:=fun (pl2:Nat) (F2:Nat→Prop) w' h4 h5 h6 p0 h7=>jaP (xV (s.epoch+1)) (yS s.epoch d st).1 (evB e) pl2 pd F2 p0 w' h4 h5 h6 h7 (Nat.le_trans (zR _ _ _ d9) (by omega)) (by rw [uh];exact hl) (show 0≤16 by omega) (show 0≤1000000000 by omega)
 have a4:=fun w'=>jbq e w' hu d7 d8
 have c1:=fun h=>jbQ (l:=s.log) (d:=d) (p:=evB e) h
 rw [← hc,← hb] at c8 ⊢;obtain ⟨RL,c9⟩:=Nm (s.append d e st);have a8:=c9;rw [← c9];unfold StoM.append at a8;clear c9;obtain ⟨bs,e0⟩:=Nm (evB e);unfold jaD ue at a4;rw [← e0] at a4 a8 c0 a7 c1;obtain ⟨A1,e1⟩:=Nm (s.log.append d bs);rw [← e1] at a8 c0 c1;have b8:=fun lv b F w h hd a9 hr=>c8 d lv b F w h hd a9 hr (Nat.le_trans ht (by decide)) hl
 obtain ⟨A2,e2⟩:=Nm (yS s.epoch d st);rw [← e2] at a8 b8 a7;obtain ⟨A3,e3⟩:=Nm ((xV (s.epoch+1)).append A2.1 bs);rw [← e3] at a8 a7;have b0:=jn w (.cells e.cells 47) (.cells #[.int .i64 c,.int .i64 bi,.slice va n vc] 30);have M:=Hd b0;have B:=Hd (h.below b0);have J:=Hd (show xB _ s.log pl pd from Box.below c5 b0)
 have V:=Hd (hd.grow b0);have HR:=Hd (hr.below b0);have X:=Hd ((Box.new w e.cells 47).below (ja _ (.cells #[.int .i64 c,.int .i64 bi,.slice va n vc] 30)));have d0:=Box.new (w.alloc (.cells e.cells 47)) #[.int .i64 c,.int .i64 bi,.slice va n vc] 30;rw [World.size_alloc] at d0;have Y:=Hd d0;have Z:=Hd b8;have H0:=Hd c0;have O:=Hd a7;have H1:=Hd c1;have A:=Hd a8;have E:=Hd a9;have R:=Hd c6;have G:=Hd d6;have Hb:=Hd c7;have K:=Hd (show pl<w.heap.size from c5.lt)
 have D:=Hd (show ps<w.heap.size from h.bx.lt)
 have H8:=Hd hd.lt;clear h c5 hd a9 c6 d6 hr c7 ho hu d7 d8 ht hl h1 h2 h3 d9 c8 b8 c0 a7 c1 a8 b0 d0 hn hc hb e1 e2 e3 e0
 cases hdd:s.dead
 rotate_left
 ·
  rw [hdd] at A B;rw [if_pos rfl] at A;have c3:((w.alloc (.cells e.cells 47)).alloc (.cells #[.int .i64 c,.int .i64 bi,.slice va n vc] 30)).cell? ⟨ps,3,none⟩=some (.bool true):=B.1.bx.cell 3 _ rfl;obtain rfl:RL=(s,d,22):=A.1;clear A H0 O Z a4 H1;have L:=Hd (show StoB ((w.alloc (.cells e.cells 47)).alloc (.cells #[.int .i64 c,.int .i64 bi,.slice va n vc] 30)) ps pd s.epoch (.pointer (some ⟨pl,0,none⟩)) s.dead by rw [hdd];exact B.1)
  clear hdd;go_enter func13,ntmps13;go_wp2_with fail;go_ret;exact ⟨rfl,⟨F,pl,V.1,fun k hk=>.inl hk,.inl rfl,L.1,J.1,E.1,R.1,G.1⟩,Mod.of_below M.1⟩
 rw [hdd] at A B;rw [if_neg (by simp)] at A
 have c3:((w.alloc (.cells e.cells 47)).alloc (.cells #[.int .i64 c,.int .i64 bi,.slice va n vc] 30)).cell? ⟨ps,3,none⟩=some (.bool false):=B.1.bx.cell 3 _ rfl;have c2:((w.alloc (.cells e.cells 47)).alloc (.cells #[.int .i64 c,.int .i64 bi,.slice va n vc] 30)).cell? ⟨ps,2,none⟩=some (.pointer (some ⟨pl,0,none⟩)):=B.1.bx.cell 2 _ rfl;have Ho:=Hd hdd;clear hdd;by_cases hM:yb e=true;rotate_left
 ·
  rw [if_neg hM] at A;obtain rfl:RL=(s,d,1):=A.1;simp only [if_neg hM] at a4;have S:=Hd a4;clear A H0 O Z a4 H1 hM;go_enter func13,ntmps13
  go_wp2_with ((with_reducible refine je ?b01 47 (.tmp 4) ?b11 w.heap.size 0 ?b21 e.cells.toList _ (yP X.1) underlying47 ?b31 ?b41 ?b81);(case b11=>rfl);(case b01=>rfl);(case b21=>rfl);(case b31=>rfl);(case b41=>kernel_rfl))
  intro cv b3;have ecv:cv=e.cells:=by rw [b3.out]
  subst ecv;clear b3;go_wp2_with fail;refine (S.1 _).mono ?_;rintro ev w2 ⟨bv,rfl,_,a1⟩;obtain ⟨w1,b4⟩:=Nm (((w.alloc (.cells e.cells 47)).alloc (.cells #[.int .i64 c,.int .i64 bi,.slice va n vc] 30)));rw [← b4] at B J V M a1;rw [show jo 1=.iface 91 (.int .i64 1) from rfl]
  have L:=Hd (show StoB w2 ps pd s.epoch (.pointer (some ⟨pl,0,none⟩)) s.dead by rw [Ho.1];exact B.1.below a1)
  have H2:=Hd (V.1.grow a1);have P:=Hd (show xB w2 s.log pl pd from Box.below J.1 a1)
  have H9:=Hd (M.1.trans (a1.mono M.1.size));clear a1 b4 B V J M c3 c2 S X Y HR;go_wp2_with fail;go_ret;exact ⟨rfl,⟨F,pl,H2.1,fun k hk=>.inl hk,.inl rfl,L.1,P.1,E.1,R.1,G.1⟩,Mod.of_below H9.1⟩
 rw [if_pos hM] at A;simp only [if_pos hM] at a4;have S:=Hd a4;clear a4 hM;go_enter func13,ntmps13
 go_wp2_with ((with_reducible refine je ?d01 47 (.tmp 4) ?d11 w.heap.size 0 ?d21 e.cells.toList _ (yP X.1) underlying47 ?d31 ?d41 ?d81);(case d11=>rfl);(case d01=>rfl);(case d21=>rfl);(case d31=>rfl);(case d41=>kernel_rfl))
 intro cv b3;have ecv:cv=e.cells:=by rw [b3.out]
 subst ecv;clear b3;go_wp2_with fail;refine (S.1 _).mono ?_;rintro ev w2 ⟨bv,rfl,b1,a1⟩;obtain ⟨w1,b4⟩:=Nm (((w.alloc (.cells e.cells 47)).alloc (.cells #[.int .i64 c,.int .i64 bi,.slice va n vc] 30)));rw [← b4] at B J V M a1 HR Y b1;rw [show jo 0=.nilIface from rfl]
 have L:=Hd (B.1.below a1);have H2:=Hd (V.1.grow a1);have P:=Hd (show xB w2 s.log pl pd from Box.below J.1 a1)
 have H9:=Hd (M.1.trans (a1.mono M.1.size));have Hc:=Hd (HR.1.below a1);have W:=Hd (Y.1.below a1);have H3:=Hd b1.rd;have Ha:=Hd (show ∀ k,bv.ownBlock=some k→w.heap.size≤k∧k<w2.heap.size from fun k hk=>⟨Nat.le_trans M.1.size (b1.lt k hk).1,(b1.lt k hk).2⟩)
 obtain ⟨ba,bc,rfl,_⟩:=b1.rd;obtain ⟨m,hm⟩:=Nm (bs.length);have HOB2:=H3;rw [← hm] at H3 Ha ⊢;have HM:=Hd hm;have H:=Hd (show w.heap.size+1<w2.heap.size from W.1.lt)
 clear a1 b1 b4 B V J M S X Y HR c3 c2 hm;have c2:w2.cell? ⟨ps,2,none⟩=some (.pointer (some ⟨pl,0,none⟩)):=L.1.bx.cell 2 _ rfl;go_wp2_with fail;refine (H0.1 w2 P.1 H2.1 (.slice ba m bc) (by rw [HM.1];exact HOB2.1)).mono ?_
 rintro ev w3 ⟨rfl,e4,a0,F3,e5,e6⟩;have T:=Hd (L.1.mod a0 (fun h=>h.elim G.1 E.1))
 have H4:=Hd e5;have H5:=Hd e4;have C:=Hd (show ∀ k,F3 k→F k∨w2.heap.size≤k from e6)
 have He:=Hd (Hc.1.mod a0 (fun k hk h=>by have:=Hb.1 k hk;exact h.elim this.2.2.1 this.1))
 have Q:=Hd (W.1.mod a0 (fun h=>by
  rcases h with h | h
  · have:=K.1;omega
  · have:=H8.1 _ h;omega))
 have Hf:=Hd (Rd.mod0 H3.1 a0 (fun _ k hk h=>by
  have:=Ha.1 k hk
  rcases h with h | h
  · have:=K.1;omega
  · have:=H8.1 _ h;omega))
 have H6:=Hd ((Mod.of_below H9.1).trans a0);have H7:=Hd (show w2.heap.size≤w3.heap.size from a0.size)
 clear e4 a0 e5 e6 L H2 P Hc W H3 HOB2 H0 c2;go_wp2_with fail;refine (show Calls _ _ #[jo A1.2.2,.iface 91 (.int .i64 19)] w3 _ from jcY A1.2.2 19 (by decide) w3).mono ?_
 rintro ev w4 ⟨rfl,rfl⟩;by_cases h19:A1.2.2=19;rotate_left
 ·
  rw [if_neg h19] at A;rw [show (A1.2.2==19)=false by simpa using h19]
  clear h19;obtain rfl:RL=(⟨s.epoch,A1.1,isP A1.2.2⟩,A1.2.1,A1.2.2):=A.1;have a2:¬ F3 ps:=fun hf=>by
   rcases C.1 ps hf with g | g
   · exact E.1 g
   · have:=D.1;have:=H.1;omega
  have a3:¬ F3 pl:=fun hf=>by
   rcases C.1 pl hf with g | g
   · exact R.1 g
   · have:=K.1;have:=H.1;omega
  have hg:∀ k,F3 k→F k∨w.heap.size≤k:=fun k hk=>by
   rcases C.1 k hk with g | g
   · exact .inl g
   · right;have:=H.1;omega
  have c3:w4.cell? ⟨ps,3,none⟩=some (.bool false):=T.1.bx.cell 3 _ rfl;have f3:=T.1.bx.free 3;have a0:=Mod.set (fun k=>k=ps) w4 ⟨ps,3,none⟩ (.bool (A1.2.2==22)) rfl
  have U:=Hd (show Appd w ps pl pd F (⟨s.epoch,A1.1,isP A1.2.2⟩,A1.2.1,A1.2.2) (w4.setCell ⟨ps,3,none⟩ (.bool (A1.2.2==22))) from
   ⟨⟨F3,pl,H4.1.mod a0 (fun k hk e=>a2 (by rw [← e];exact hk)),hg,.inl rfl,T.1.set3 (A1.2.2==22),Box.mod H5.1 a0 (fun e=>G.1 e.symm),a2,a3,G.1⟩,(H6.1.mono (fun _ h=>.inr h)).old a0 (fun _ _ h=>.inl h)⟩)
  clear a0 hg a2 a3;go_wp2_with fail;refine (show Calls _ _ #[jo A1.2.2,.iface 91 (.int .i64 22)] w4 _ from jcY A1.2.2 22 (by decide) w4).mono ?_
  rintro ev w9 ⟨rfl,rfl⟩;go_wp2_with fail;go_ret;exact ⟨rfl,U.1⟩
 rw [if_pos h19] at A;obtain ⟨y1,y2⟩:=H1.1 h19;rw [y1] at H5;rw [y2] at H4;rw [show (A1.2.2==19)=true by simpa using h19]
 have d1:¬ F3 ps:=fun hf=>by
  rcases C.1 ps hf with g | g
  · exact E.1 g
  · have:=D.1;have:=H.1;omega
 have Hp:=Hd d1;have Hq:=Hd (show ∀ k,(Value.slice va n vc).ownBlock=some k→¬ F3 k from fun k hk hf=>by
  have:=Hb.1 k hk
  rcases C.1 k hf with g | g
  · exact this.1 g
  · have:=H.1;omega)
 clear h19 y1 y2 H1 d1;have x0:w4.cell? ⟨w.heap.size+1,0,none⟩=some (.int .i64 c):=Q.1.cell 0 _ rfl;have x1:w4.cell? ⟨w.heap.size+1,1,none⟩=some (.int .i64 bi):=Q.1.cell 1 _ rfl;have x2:w4.cell? ⟨w.heap.size+1,2,none⟩=some (.slice va n vc):=Q.1.cell 2 _ rfl;go_wp2_with fail;refine (Z.1 _ _ F3 w4 T.1 H4.1 Hp.1 He.1).mono ?_;rintro ev w5 ⟨rfl,e7⟩;have I:=Hd e7;clear e7 Q x0 x1 x2 T He Z Hq;by_cases h0:A2.2=0;rotate_left
 ·
  rw [if_neg h0] at A;obtain rfl:RL=(⟨s.epoch,s.log,isP A2.2⟩,A2.1,A2.2):=A.1;rw [show jo A2.2=.iface 91 (.int .i64 A2.2) from if_neg h0]
  have Hg:=Hd h0;have a5:=I.1.no h0;obtain ⟨F5,b5,b6,_⟩:=I.1.dk;have b2:=Box.mod H5.1 I.1.md (fun h=>h.elim (fun e=>G.1 e.symm) (fun hf=>by
   rcases C.1 pl hf with g | g
   · exact R.1 g
   · have:=K.1;have:=H.1;omega))
  have a6:∀ k,F5 k→F k∨w2.heap.size≤k:=fun k hk=>by
   rcases b6 k hk with g | g
   · exact C.1 k g
   · right;have:=H7.1;omega
  have a2:¬ F5 ps:=fun hf=>by
   rcases a6 ps hf with g | g
   · exact E.1 g
   · have:=D.1;have:=H.1;omega
  have a3:¬ F5 pl:=fun hf=>by
   rcases a6 pl hf with g | g
   · exact R.1 g
   · have:=K.1;have:=H.1;omega
  have hg:∀ k,F5 k→F k∨w.heap.size≤k:=fun k hk=>by
   rcases a6 k hk with g | g
   · exact .inl g
   · right;have:=H.1;omega
  have b7:=(show Mod (fun k=>k=ps∨k=pl∨F k) w w4 from H6.1.mono (fun _ h=>.inr h)).old I.1.md (fun i hi g=>g.elim .inl (fun g=>(C.1 i g).elim (fun g=>.inr (.inr g)) (fun g=>by have:=H.1;omega)))
  clear h0;have c3:w5.cell? ⟨ps,3,none⟩=some (.bool false):=a5.bx.cell 3 _ rfl;have f3:=a5.bx.free 3;have a0:=Mod.set (fun k=>k=ps) w5 ⟨ps,3,none⟩ (.bool (A2.2==22)) rfl
  have U:=Hd (show Appd w ps pl pd F (⟨s.epoch,s.log,isP A2.2⟩,A2.1,A2.2) (w5.setCell ⟨ps,3,none⟩ (.bool (A2.2==22))) from
   ⟨⟨F5,pl,b5.mod a0 (fun k hk e=>a2 (by rw [← e];exact hk)),hg,.inl rfl,a5.set3 (A2.2==22),Box.mod b2 a0 (fun e=>G.1 e.symm),a2,a3,G.1⟩,(b7).old a0 (fun _ _ h=>.inl h)⟩)
  clear a0 hg a2 a3 a5 b5 b6 b2 a6 b7;go_wp2_with fail;refine (show Calls _ _ #[.iface 91 (.int .i64 A2.2),.iface 91 (.int .i64 22)] w5 _ from by have h:=jcY A2.2 22 (by decide) w5;rw [show jo A2.2=.iface 91 (.int .i64 A2.2) from if_neg Hg.1] at h;exact h).mono ?_
  rintro ev w9 ⟨rfl,rfl⟩;go_wp2_with fail;go_ret;exact ⟨by show Ending.returned _=Ending.returned (jo A2.2);rw [show jo A2.2=.iface 91 (.int .i64 A2.2) from if_neg Hg.1];rfl,U.1⟩
 rw [if_pos h0] at A;obtain rfl:RL=(⟨s.epoch+1,A3.1,isP A3.2.2⟩,A3.2.1,A3.2.2):=A.1;rw [show jo A2.2=.nilIface from if_pos h0]
 obtain ⟨F5,b5,b6,e8⟩:=I.1.dk;obtain ⟨pl5,f4,e9,a5,b2⟩:=e8 h0;have c2:w5.cell? ⟨ps,2,none⟩=some (.pointer (some ⟨pl5,0,none⟩)):=a5.bx.cell 2 _ rfl;have a6:∀ k,F5 k→F k∨w2.heap.size≤k:=fun k hk=>by
  rcases b6 k hk with g | g
  · exact C.1 k g
  · right;have:=H7.1;omega
 have f0:¬ F5 ps:=fun hf=>by
  rcases a6 ps hf with g | g
  · exact E.1 g
  · have:=D.1;have:=H.1;omega
 have Hh:=Hd (Rd.mod0 Hf.1 I.1.md (fun _ k hk h=>by
  have h1:=Ha.1 k hk
  rcases h with h | h
  · have:=D.1;omega
  ·
   rcases C.1 k h with g | g
   · have:=H8.1 _ g;omega
   · omega))
 have d2:=(show Mod (fun k=>k=ps∨k=pl∨F k) w w4 from H6.1.mono (fun _ h=>.inr h)).old I.1.md (fun i hi g=>g.elim .inl (fun g=>(C.1 i g).elim (fun g=>.inr (.inr g)) (fun g=>by have:=H.1;omega)))
 have Hi:=Hd a5;have Hj:=Hd b2;have Hk:=Hd b5;have Hl:=Hd e9;have N:=Hd (show w2.heap.size≤pl5∧ps≠pl5∧pl5<w5.heap.size from ⟨by have:=H7.1;omega,by have:=D.1;have:=H7.1;have:=H.1;omega,b2.lt⟩)
 have Hr:=Hd f0;have Hm:=Hd a6;have Hn:=Hd d2;clear h0 b5 b6 e8 f4 e9 a5 b2 a6 f0 d2 I H4 H5 Hf H6;go_wp2_with fail;refine (O.1 pl5 F5 w5 Hj.1 Hk.1 Hl.1 (.slice ba m bc) (by rw [HM.1];exact (show Rd w5 (.slice ba m bc) m (bs.map V8) from Hh.1) |> fun h=>by rw [HM.1] at h;exact h)).mono ?_
 rintro ev w6 ⟨rfl,f1,d3,F6,f2,d4⟩;have c4:=Hi.1.mod d3 (fun h=>h.elim N.1.2.1 Hr.1)
 have b9:∀ k,F6 k→F k∨w2.heap.size≤k:=fun k hk=>by
  rcases d4 k hk with g | g
  · exact Hm.1 k g
  · right;have:=N.1;omega
 have a2:¬ F6 ps:=fun hf=>by
  rcases b9 ps hf with g | g
  · exact E.1 g
  · have:=D.1;have:=H.1;omega
 have a3:¬ F6 pl5:=fun hf=>by
  rcases d4 pl5 hf with g | g
  · exact Hl.1 g
  · have:=N.1;omega
 have hg:∀ k,F6 k→F k∨w.heap.size≤k:=fun k hk=>by
  rcases b9 k hk with g | g
  · exact .inl g
  · right;have:=H.1;omega
 have b7:=Hn.1.old d3 (fun i hi g=>by
  rcases g with g | g
  · have:=N.1;have:=H.1;omega
  ·
   rcases Hm.1 i g with g | g
   · exact .inr (.inr g)
   · have:=H.1;omega)
 have d5:ps≠pl5:=N.1.2.1;have f5:w.heap.size≤pl5:=by have:=N.1;have:=H.1;omega
 clear d3 b9 c2 O Hh Hi Hj Hk;have c3:w6.cell? ⟨ps,3,none⟩=some (.bool false):=c4.bx.cell 3 _ rfl;have f3:=c4.bx.free 3;have a0:=Mod.set (fun k=>k=ps) w6 ⟨ps,3,none⟩ (.bool (A3.2.2==22)) rfl
 have U:=Hd (show Appd w ps pl pd F (⟨(s.epoch+1),A3.1,isP A3.2.2⟩,A3.2.1,A3.2.2) (w6.setCell ⟨ps,3,none⟩ (.bool (A3.2.2==22))) from
  ⟨⟨F6,pl5,f2.mod a0 (fun k hk e=>a2 (by rw [← e];exact hk)),hg,(.inr (by omega)),c4.set3 (A3.2.2==22),Box.mod f1 a0 (fun e=>d5 e.symm),a2,a3,d5⟩,(b7).old a0 (fun _ _ h=>.inl h)⟩)
 clear a0 hg a2 a3 c4 f2 d4 f1 b7;go_wp2_with fail;refine (show Calls _ _ #[jo A3.2.2,.iface 91 (.int .i64 22)] w6 _ from jcY A3.2.2 22 (by decide) w6).mono ?_
 rintro ev w9 ⟨rfl,rfl⟩;go_wp2_with fail;go_ret;exact ⟨rfl,U.1⟩
theorem xR {P:Program}{op:Oper}{a:Act}{w:World}{K:Act→World→Prop}{Q:Exit→Act→World→Prop}(ty:TypeId)(x y:Operand)(ho:op.op=.store ty x y)(b o:Nat)(cs:List Value)(hx:a.eval x=.pointer (some ⟨b,o,none⟩))(hy:a.eval y=.agg cs.toArray)(ht:w.there b o cs.length)(hi:(P.info? ty).map (·.size)=some cs.length)(h1:∀ v∈cs,v.oneCell'=true)(h:K (a.put op.dst undef) (w.setCells b o cs)):op.wp P a w K Q:=by
 refine wp_store_mid ty x y ho b o cs.toArray hx hy ?_ ?_ (all_oneCell_toArray h1) ?_
 · rw [List.size_toArray];exact ht
 · rw [List.size_toArray];exact hi
 · exact h
theorem Box.there3 {w:World}{b:Nat}{x y z:Value}{t:TypeId}(h:Box w b #[x,y,z] t):w.there b 0 3:=by
 intro j hj;rw [Nat.zero_add]
 match j,hj with
 | 0,_=>exact ⟨by rw [h.cell 0 _ rfl];rfl,h.free _⟩
 | 1,_=>exact ⟨by rw [h.cell 1 _ rfl];rfl,h.free _⟩
 | 2,_=>exact ⟨by rw [h.cell 2 _ rfl];rfl,h.free _⟩
theorem Box.set3 {w:World}{b:Nat}{x y z:Value}{t:TypeId}(h:Box w b #[x,y,z] t)(x' y' z':Value):Box (w.setCells b 0 [x',y',z']) b #[x',y',z'] t∧Mod (fun i=>i=b) w (w.setCells b 0 [x',y',z']) :=
 ⟨((h.set 0 x').set 1 y').set 2 z',Mod.set3 b w x' y' z'⟩
theorem jh3 (x y:Int)(a:Option Addr)(n c:Nat):∀ v ∈ [Value.int .i64 x,Value.int .i64 y,Value.slice a n c],v.oneCell'=true:=by
 intro v hv;simp only [List.mem_cons,List.not_mem_nil,or_false] at hv
 rcases hv with rfl | rfl | rfl <;> rfl
theorem yl {P:Program}{fn:Func}{R:Ending→World→Prop}{a:Act}{w:World}{p u v:Tmp}{ty:TypeId}(h:fn.results=#[.tmp u,.cell p ty,.tmp v])(a0:a.defers = [])(b o:Nat)(hp:a.tmps.getD p undef=.pointer (some ⟨b,o,none⟩))(cs:List Value)(d:TypeDesc)(hc:w.rangeAt b o cs)(hu:P.underlying ty=some d)(hd:d.isRow=true)(hi:(P.info? ty).map (·.size)=some cs.length)(x y:Value)(hx:a.tmps.getD u undef=x)(hy:a.tmps.getD v undef=y)(hR:R (.returned (.tuple #[x,.agg cs.toArray,y])) w):bodyPost P fn R .ret a w:=by
 refine bodyPost_ret (v:=.tuple #[x,.agg cs.toArray,y]) ?_ a0 hR;have a1:a.tmps[p]?.getD undef=.pointer (some ⟨b,o,none⟩):=by simpa using hp
 have a2:a.tmps[u]?.getD undef=x:=by simpa using hx
 have a3:a.tmps[v]?.getD undef=y:=by simpa using hy
 simp only [results,h]
 simp [a1,a2,a3,asAddr,Result.andThen,run_loadVar_mid w b o ty cs d hc hu hd hi]
structure Opnd (w:World)(pd:Nat)(F:Nat→Prop)(R:DiskM × UInt32 × StM × Int)(pv o:Value)(w':World):Prop where
 ex:∃ F',IsDisk w' R.1 pd F'∧(∀ k,F' k→F k∨w.heap.size≤k)∧(∀ k,o.ownBlock=some k→w.heap.size≤k∧¬ F' k)∧(R.2.2.2=0→∃ ps pl,pv=.pointer (some ⟨ps,0,none⟩)∧w.heap.size≤ps∧w.heap.size≤pl∧¬ F' ps∧¬ F' pl∧ps≠pl∧StoB w' ps pd R.2.1 (.pointer (some ⟨pl,0,none⟩)) false∧xB w' (xV R.2.1) pl pd∧(∀ k,o.ownBlock=some k→k≠ps∧k≠pl))
 no:R.2.2.2≠0→pv=.pointer none
 ow:OwnS w' w.heap.size o R.2.2.1.l
 md:Mod F w w'
theorem jdF (d:DiskM)(pd:Nat)(F:Nat→Prop)(w:World)(hd:IsDisk w d pd F)(b4:∀ s∈d.strs,s.size≤256)(ht:d.trail.length≤9000000000)(hs:∀ b,(jX d b).length≤9223372036854775807)(a9:∀ s∈(yf d).1.l,SesOk s) :
  Calls prog 33 #[.pointer (some ⟨pd,0,none⟩)] w fun e w'=>∃ pv o,e=.returned (.tuple #[pv,.agg #[.int .i64 (jP d).2.2.1.clock,.int .i64 (jP d).2.2.1.births,o],jo (jP d).2.2.2])∧Opnd w pd F (jP d) pv o w':=by
 have b0:d.strs.length≤4096:=by obtain ⟨_,_,_,_,_,_,_,_,h5,_⟩:=hd;exact h5
 obtain ⟨R,hR⟩:=Nm (jP d);rw [← hR];unfold jP at hR;have a4:=fun W (hW:IsDisk W d pd F) (hl:65≤d.strs.length)=>jg1 d pd F W hW b4 hl hs
 obtain ⟨K,hK⟩:=Nm (yf d);rw [← hK] at a4 a9 hR;have b1:=fun (v:Value) ps lv w' (h4:StoB w' ps pd K.2.1 lv false) (h5:IsDisk w' d pd F) h6 h7 hl=>jd1 K.1 v d ps pd K.2.1 lv false F w' h4 h5 h6 h7 a9 (Nat.le_trans ht (by decide)) hl (Nat.le_trans (jcu K.1) (by decide))
 have Z:=Hd (fun W (hW:IsDisk W d pd F)=>zc d pd F W hW)
 have a0:=ja w (.cells #[.int .i64 0,.int .i64 0,.slice none 0 0] 30);have M:=Hd (Box.new w #[.int .i64 0,.int .i64 0,.slice none 0 0] 30);have O:=Hd a0;have Y:=Hd (hd.grow a0);have D:=Hd hd.lt;obtain ⟨N,hN⟩:=Nm (d.strs.length);rw [← hN] at Z b0 hR a4;have HN:=Hd hN;clear hd b4 ht hs a0 hN a9 hK;by_cases h65:N<65
 ·
  rw [if_pos h65] at hR;obtain rfl:R=(d,0,yh,1):=hR;have hn:(N:Int)<65:=by omega
  clear a4 b1 b0;go_enter func33,ntmps33;go_wp2_with fail;refine (Z.1 _ Y.1).mono ?_;rintro ev w2 ⟨rfl,rfl⟩;have z0:=M.1.cell 0 _ rfl;have z1:=M.1.cell 1 _ rfl;have z2:=M.1.cell 2 _ rfl;go_wp2_with fail;exact yl rfl rfl w.heap.size 0 rfl [.int .i64 0,.int .i64 0,.slice none 0 0] _ (js M.1) underlying30 rfl (by kernel_rfl) _ _ rfl rfl ⟨_,_,rfl,⟨F,Y.1,fun k hk=>.inl hk,(fun k hk=>by cases hk),fun h=>by cases h⟩,fun _=>rfl,OwnS.nil _ _,Mod.of_below O.1⟩
 rw [if_neg h65] at hR;have hn:¬ (N:Int)<65:=by omega
 have H3:=Hd (fun W hW=>a4 W hW (by omega))
 have P:=Hd (fun v ps lv w' h4 h5 h6 h7=>b1 v ps lv w' h4 h5 h6 h7 (by rw [← HN.1];omega))
 obtain ⟨⟨KC,KB,KL⟩,ke,kr⟩:=K;simp only at H3 P hR;have G:=Hd hR;clear a4 b1 hR h65 b0;go_enter func33,ntmps33;go_wp2_with fail;obtain ⟨w1,b5⟩:=Nm ((w.alloc (.cells #[.int .i64 0,.int .i64 0,.slice none 0 0] 30)));rw [← b5] at M O Y ⊢;clear b5;refine (Z.1 _ Y.1).mono ?_;rintro ev w1' ⟨rfl,rfl⟩;go_wp2_with fail;refine (H3.1 w1 Y.1).mono ?_;rintro ev w2 ⟨o,rfl,ho,hb⟩;obtain ⟨oa,oc,rfl,_⟩:=ho.slice;obtain ⟨on,b6⟩:=Nm (KL.length);rw [← b6] at ho ⊢;have a0:=ja w2 (.cells #[.int .i64 KC,.int .i64 KB,.slice oa on oc] 30);have H4:=Hd (Box.new w2 #[.int .i64 KC,.int .i64 KB,.slice oa on oc] 30);have H5:=Hd ((Y.1.grow hb).grow a0);have H:=Hd ((M.1.below hb).below a0);have Q:=Hd ((O.1.trans (hb.mono O.1.size)).trans (a0.mono (O.1.trans (hb.mono O.1.size)).size));have H6:=Hd ((ho.below a0).base (base':=w.heap.size) O.1.size);have J:=Hd (show ∀ k,(Value.slice oa on oc).ownBlock=some k→w.heap.size+1≤k∧k<w2.heap.size from fun k hk=>⟨by have:=(ho.lt k hk).1;have:=M.1.lt;omega,(ho.lt k hk).2⟩)
 have I:=Hd (show w.heap.size<w2.heap.size from Nat.lt_of_lt_of_le M.1.lt hb.size)
 clear ho hb a0 b6 Y M O H3 Z;by_cases h0:kr=0;rotate_left
 ·
  rw [if_neg h0] at G;rw [show jo kr=.iface 91 (.int .i64 kr) from if_neg h0]
  obtain rfl:R=(d,0,yh,kr):=G.1;have T:=Hd h0;have z0:(w2.alloc (.cells #[.int .i64 KC,.int .i64 KB,.slice oa on oc] 30)).cell? ⟨w.heap.size,0,none⟩=some (.int .i64 0):=H.1.cell 0 _ rfl;have y0:=H.1.free 0;have z1:(w2.alloc (.cells #[.int .i64 KC,.int .i64 KB,.slice oa on oc] 30)).cell? ⟨w.heap.size,1,none⟩=some (.int .i64 0):=H.1.cell 1 _ rfl;have y1:=H.1.free 1;have z2:(w2.alloc (.cells #[.int .i64 KC,.int .i64 KB,.slice oa on oc] 30)).cell? ⟨w.heap.size,2,none⟩=some (.slice none 0 0):=H.1.cell 2 _ rfl;have y2:=H.1.free 2;have a1:=Mod.set3 w.heap.size (w2.alloc (.cells #[.int .i64 KC,.int .i64 KB,.slice oa on oc] 30)) (.int .i64 0) (.int .i64 0) (.slice none 0 0);have L:=Hd (show Box ((((w2.alloc (.cells #[.int .i64 KC,.int .i64 KB,.slice oa on oc] 30)).setCell ⟨w.heap.size,0,none⟩ (.int .i64 0)).setCell ⟨w.heap.size,1,none⟩ (.int .i64 0)).setCell ⟨w.heap.size,2,none⟩ (.slice none 0 0)) w.heap.size #[.int .i64 0,.int .i64 0,.slice none 0 0] 30∧Mod (fun i=>i=w.heap.size) (w2.alloc (.cells #[.int .i64 KC,.int .i64 KB,.slice oa on oc] 30)) ((((w2.alloc (.cells #[.int .i64 KC,.int .i64 KB,.slice oa on oc] 30)).setCell ⟨w.heap.size,0,none⟩ (.int .i64 0)).setCell ⟨w.heap.size,1,none⟩ (.int .i64 0)).setCell ⟨w.heap.size,2,none⟩ (.slice none 0 0))∧Below w.heap.size w ((((w2.alloc (.cells #[.int .i64 KC,.int .i64 KB,.slice oa on oc] 30)).setCell ⟨w.heap.size,0,none⟩ (.int .i64 0)).setCell ⟨w.heap.size,1,none⟩ (.int .i64 0)).setCell ⟨w.heap.size,2,none⟩ (.slice none 0 0)) from ⟨((H.1.set 0 (.int .i64 0)).set 1 (.int .i64 0)).set 2 (.slice none 0 0),a1,Q.1.trans (a1.below Q.1.size (fun i hi=>Nat.le_of_eq hi.symm))⟩)
  clear a1;clear G H4 H6 J P h0;go_wp2_with fail;exact yl rfl rfl w.heap.size 0 rfl [.int .i64 0,.int .i64 0,.slice none 0 0] _ (js (L.1.1)) underlying30 rfl (by kernel_rfl) _ _ rfl rfl ⟨_,_,by show Ending.returned _=Ending.returned (.tuple #[_,_,jo kr]);rw [show jo kr=.iface 91 (.int .i64 kr) from if_neg T.1];rfl,⟨F,H5.1.mod L.1.2.1 (fun k hk e=>by have:=D.1 k hk;omega),fun k hk=>.inl hk,(fun k hk=>by cases hk),fun h=>absurd h T.1⟩,fun _=>rfl,OwnS.nil _ _,Mod.of_below L.1.2.2⟩
 rw [if_pos h0] at G;rw [show jo kr=.nilIface from if_pos h0]
 clear h0;have a0:=ja (w2.alloc (.cells #[.int .i64 KC,.int .i64 KB,.slice oa on oc] 30)) (.cells #[.pointer (some ⟨pd,0,none⟩),.int .u32 (I32 ke),.pointer none,.bool false] 90);have b2:=Box.new (w2.alloc (.cells #[.int .i64 KC,.int .i64 KB,.slice oa on oc] 30)) #[.pointer (some ⟨pd,0,none⟩),.int .u32 (I32 ke),.pointer none,.bool false] 90;rw [World.size_alloc] at b2;have U:=Hd (show StoB ((w2.alloc (.cells #[.int .i64 KC,.int .i64 KB,.slice oa on oc] 30)).alloc (.cells #[.pointer (some ⟨pd,0,none⟩),.int .u32 (I32 ke),.pointer none,.bool false] 90)) (w2.heap.size+1) pd ke (.pointer none) false from ⟨b2⟩)
 have E:=Hd (H4.1.below a0);have H7:=Hd (H5.1.grow a0);have H8:=Hd (H.1.below a0);have V:=Hd (Q.1.trans (a0.mono Q.1.size));have H0:=Hd (H6.1.below a0);obtain ⟨q,hq⟩:=Nm (w2.heap.size);obtain ⟨A,hA⟩:=Nm (yS ke d ⟨KC,KB,KL⟩);rw [← hA] at P G;obtain ⟨w4,a7⟩:=Nm (((w2.alloc (.cells #[.int .i64 KC,.int .i64 KB,.slice oa on oc] 30)).alloc (.cells #[.pointer (some ⟨pd,0,none⟩),.int .u32 (I32 ke),.pointer none,.bool false] 90)));rw [← a7] at U E H7 H8 V H0;rw [← hq] at U E I J;have H9:=Hd (show q+1<w4.heap.size from U.1.bx.lt)
 have H1:=Hd (show w.heap.size<w4.heap.size by have:=E.1.lt;have:=I.1;omega)
 have He:=Hd (show ¬ F (q+1) from fun h=>by have:=D.1 _ h;have:=I.1;omega)
 have x0:w4.cell? ⟨q,0,none⟩=some (.int .i64 KC):=E.1.cell 0 _ rfl;have x1:w4.cell? ⟨q,1,none⟩=some (.int .i64 KB):=E.1.cell 1 _ rfl;have x2:w4.cell? ⟨q,2,none⟩=some (.slice oa on oc):=E.1.cell 2 _ rfl;rw [a7] at x0 x1 x2;rw [hq] at x0 x1 x2;clear a0 b2 hA H4 H5 H Q H6;go_wp2_with fail;rw [← a7,← hq];refine (P.1 _ _ _ w4 U.1 H7.1 He.1 H0.1.rd).mono ?_;rintro ev w5 ⟨rfl,b3⟩;clear x0 x1 x2 a7 hq;have a1:=b3.md;have Hf:=Hd (E.1.mod a1 (fun h=>h.elim (fun h=>by omega) (fun h=>by have:=D.1 _ h;have:=I.1;omega)))
 have B:=Hd (H8.1.mod a1 (fun h=>h.elim (fun h=>by have:=I.1;omega) (fun h=>by have:=D.1 _ h;omega)))
 have Ha:=Hd (H0.1.mod a1 (fun k hk h=>by
  have h1:=J.1 k hk
  rcases h with h | h
  · omega
  · have:=D.1 _ h;omega))
 have Hb:=Hd (show Mod F w w5 from (show Mod F w w4 from Mod.of_below V.1).old a1 (fun i hi h=>h.elim (fun h=>by have:=I.1;omega) id))
 have H2:=Hd b3;clear b3 a1 E H8 H0 U H7 P;by_cases h0:A.2=0;rotate_left
 ·
  rw [if_neg h0] at G;rw [show jo A.2=.iface 91 (.int .i64 A.2) from if_neg h0]
  obtain rfl:R=(A.1,0,yh,A.2):=G.1;have T:=Hd h0;have z0:w5.cell? ⟨w.heap.size,0,none⟩=some (.int .i64 0):=B.1.cell 0 _ rfl;have y0:=B.1.free 0;have z1:w5.cell? ⟨w.heap.size,1,none⟩=some (.int .i64 0):=B.1.cell 1 _ rfl;have y1:=B.1.free 1;have z2:w5.cell? ⟨w.heap.size,2,none⟩=some (.slice none 0 0):=B.1.cell 2 _ rfl;have y2:=B.1.free 2;have hmm:=Mod.set3 w.heap.size w5 (.int .i64 0) (.int .i64 0) (.slice none 0 0);obtain ⟨F5,a5,a2,_⟩:=H2.1.dk;have a6:¬ F5 w.heap.size:=fun h=>by
   rcases a2 _ h with g | g
   · have:=D.1 _ g;omega
   · have:=H1.1;omega
  have L:=Hd (show Box (((w5.setCell ⟨w.heap.size,0,none⟩ (.int .i64 0)).setCell ⟨w.heap.size,1,none⟩ (.int .i64 0)).setCell ⟨w.heap.size,2,none⟩ (.slice none 0 0)) w.heap.size #[.int .i64 0,.int .i64 0,.slice none 0 0] 30∧Opnd w pd F (A.1,0,yh,A.2) (.pointer none) (.slice none 0 0) (((w5.setCell ⟨w.heap.size,0,none⟩ (.int .i64 0)).setCell ⟨w.heap.size,1,none⟩ (.int .i64 0)).setCell ⟨w.heap.size,2,none⟩ (.slice none 0 0)) from
   ⟨((B.1.set 0 (.int .i64 0)).set 1 (.int .i64 0)).set 2 (.slice none 0 0),⟨F5,a5.mod hmm (fun k hk e=>a6 (by rw [← e];exact hk)),fun k hk=>(a2 k hk).imp id (fun g=>Nat.le_trans V.1.size g),(fun k hk=>by cases hk),fun h=>absurd h T.1⟩,fun _=>rfl,OwnS.nil _ _,Hb.1.old hmm (fun i hi h=>by omega)⟩)
  clear hmm a5 a2 a6 G Hf Ha J h0 H2;go_wp2_with fail;exact yl rfl rfl w.heap.size 0 rfl [.int .i64 0,.int .i64 0,.slice none 0 0] _ (js (L.1.1)) underlying30 rfl (by kernel_rfl) _ _ rfl rfl ⟨_,_,by show Ending.returned _=Ending.returned (.tuple #[_,_,jo A.2]);rw [show jo A.2=.iface 91 (.int .i64 A.2) from if_neg T.1];rfl,L.1.2⟩
 rw [if_pos h0] at G;rw [show jo A.2=.nilIface from if_pos h0]
 obtain rfl:R=(A.1,ke+1,⟨KC,KB,KL⟩,0):=G.1;obtain ⟨F5,a5,a2,b7⟩:=H2.1.dk;obtain ⟨pl5,c3,b8,b9,c0⟩:=b7 h0;have a6:¬ F5 w.heap.size:=fun h=>by
  rcases a2 _ h with g | g
  · have:=D.1 _ g;omega
  · have:=I.1;have:=V.1.size;have:=H1.1;omega
 have Hg:=Hd (a5.grow (jd w5));have Hh:=Hd (b9.below (jd w5));have Hi:=Hd (show xB w5.drew (xV (ke+1)) pl5 pd from Box.below c0 (jd w5))
 have Hj:=Hd (Ha.1.below (jd w5));have Hc:=Hd (B.1.below (jd w5));have Hk:=Hd (Hb.1.trans (Mod.of_below (jd w5)));have X:=Hd (show (∀ k,F5 k→F k∨w.heap.size≤k)∧¬ F5 w.heap.size∧w.heap.size≤pl5∧pl5≠w.heap.size∧q+1≠pl5∧¬ F5 pl5∧¬ F5 (q+1) from
  ⟨fun k hk=>(a2 k hk).imp id (fun g=>Nat.le_trans V.1.size g),a6,by have:=H1.1;omega,by have:=H1.1;omega,by have:=H9.1;omega,b8,fun h=>by
   rcases a2 _ h with g | g
   · exact He.1 g
   · have:=H9.1;omega⟩)
 have C:=Hd (show ∀ k,(Value.slice oa on oc).ownBlock=some k→¬ F5 k∧k≠q+1∧k≠pl5∧k≠w.heap.size∧w.heap.size≤k from fun k hk=>by
  have h1:=J.1 k hk;have h2:=H9.1;refine ⟨fun h=>?_,by omega,by omega,by omega,by omega⟩
  rcases a2 k h with g | g
  · have:=D.1 _ g;omega
  · omega)
 clear h0 G H2 b7 a5 a2 c3 b8 b9 c0 a6 Ha B Hb J;go_wp2_with fail;refine wp_region_held_drew (S:=fun W=>Box W q #[.int .i64 KC,.int .i64 KB,.slice oa on oc] 30) (by kernel_rfl) (Hf.1.below (jd w5)) (fun a8=>?_)
 refine Tk 0 36 ?_;refine Tk 1 37 ?_ (v:=.agg #[.int .i64 KC,.int .i64 KB,.slice oa on oc]) (hy:=fun w' c4=>jO 30 (.tmp 5) rfl (q) (0) rfl (#[.int .i64 KC,.int .i64 KB,.slice oa on oc]).toList _ (js c4) underlying30 rfl (by kernel_rfl))
 refine Tk 2 2 ?_;refine Rs 3 30 3 37 fun K hK=>?_
 rw [if_pos (by kernel_rfl)]
 refine xR 30 (.tmp 3) (.tmp 37) rfl w.heap.size 0 [.int .i64 KC,.int .i64 KB,.slice oa on oc] rfl rfl Hc.1.there3 (by kernel_rfl) (jh3 _ _ _ _ _) ?_
 obtain ⟨c1,a3⟩:=Hc.1.set3 (.int .i64 KC) (.int .i64 KB) (.slice oa on oc);refine hK.out _ _ (a8.mod a3 (by have:=I.1;omega)) (fun c2=>?_)
 have HF:=Hd (And.intro c1 (show Opnd w pd F (A.1,ke+1,⟨KC,KB,KL⟩,0) (.pointer (some ⟨q+1,0,none⟩)) (.slice oa on oc) _ from
  ⟨⟨F5,Hg.1.mod a3 (fun k hk e=>X.1.2.1 (by rw [← e];exact hk)),X.1.1,fun k hk=>⟨(C.1 k hk).2.2.2.2,(C.1 k hk).1⟩,fun _=>⟨q+1,pl5,rfl,by have:=I.1;omega,X.1.2.2.1,X.1.2.2.2.2.2.2,X.1.2.2.2.2.2.1,X.1.2.2.2.2.1,Hh.1.mod a3 (by have:=I.1;omega),Box.mod Hi.1 a3 X.1.2.2.2.1,fun k hk=>⟨(C.1 k hk).2.1,(C.1 k hk).2.2.1⟩⟩⟩,fun h=>absurd rfl h,Hj.1.mod a3 (fun k hk=>(C.1 k hk).2.2.2.1),Hk.1.old a3 (fun i hi h=>by omega)⟩))
 clear hK K c1 a3 Hg Hh Hi Hj Hc Hk X C;generalize (World.setCells _ _ _ _)=w9 at HF c2 ⊢
 try simp only [Act.put]
 refine Tk 4 4 ?_;refine Dn ?_;clear a8 c2;go_wp2_with fail;exact yl rfl rfl w.heap.size 0 rfl [.int .i64 KC,.int .i64 KB,.slice oa on oc] _ (js HF.1.1) underlying30 rfl (by kernel_rfl) _ _ rfl rfl ⟨_,_,rfl,HF.1.2⟩
end Go.Proofs.YtgcnolapjppbpaaGreatDoor
