/- Texts of one proof. -/
import Derived.Test.YtgcnolapjppbpaaGreatDoorK36
import Derived.Test.YtgcnolapjppbpaaGreatDoorK37
import Derived.Test.YtgcnolapjppbpaaGreatDoorK34
namespace Go.Proofs.YtgcnolapjppbpaaGreatDoor
open Go.RowKit _root_.Go.Proofs.Tryz
set_option maxRecDepth 100000
set_option maxHeartbeats 25600000
variable {w w' W wr w2:World}{A G B:Nat->Prop}{p c c' pw rp:Nat}{d d':DiskM}{s:Option StoM}{t:StoM}{st:StM}{rv ov:Value}
structure ROpnd (w:World)(pd:Nat)(F:Nat->Prop)(R:DiskM × UInt32 × StM × Int)(pv o:Value)(w':World):Prop where
 ex:∃ F',IsRef w' R.1 pd F'/\(∀ k,F' k->F k\/w.heap.size<=k)/\(∀ k,o.ownBlock=some k->w.heap.size<=k/\¬ F' k)/\(R.2.2.2=0->∃ ps pl,pv=.pointer (some ⟨ps,0,none⟩)/\w.heap.size<=ps/\w.heap.size<=pl/\¬ F' ps/\¬ F' pl/\ps≠pl/\RStoB w' ps pd R.2.1 (.pointer (some ⟨pl,0,none⟩)) false/\xm w' (yt R.2.1) pl pd/\(∀ k,o.ownBlock=some k->k≠ps/\k≠pl))
 no:R.2.2.2≠0->pv=.pointer none
 ow:OwnS w' w.heap.size o R.2.2.1.l
 md:Mod F w w'
theorem jc1 (d:DiskM)(pd:Nat)(F:Nat->Prop)(w:World)(hd:IsRef w d pd F)(b4:d.Wf)(a4:d.strs.length<=4096)(b5:∀ s∈d.strs,s.size<=256)(ht:d.trail.length<=9000000000)(hs:∀ b,(jH d b).length<=9223372036854775807)(b1:∀ s∈(yi d).1.l,SesOk s) :
  Calls prog 46 #[.pointer (some ⟨pd,0,none⟩)] w fun e w'=>∃ pv o,e=.returned (.tuple #[pv,.agg #[.int .i64 (jw d).2.2.1.clock,.int .i64 (jw d).2.2.1.births,o],.int .i64 (jw d).2.2.2])/\ROpnd w pd F (jw d) pv o w':=by
 obtain ⟨R,hR⟩:=Nm (jw d);rw [<- hR];unfold jw at hR;have a5:=fun W (hW:IsRef W d pd F) (hl:65<=d.strs.length)=>jeN d pd F W hW b4 b5 hl a4 (qi ht (by decide)) hs
 obtain ⟨K,hK⟩:=Nm (yi d);rw [<- hK] at a5 b1 hR;have a8:=fun (v:Value) ps lv w' (h4:RStoB w' ps pd K.2.1 lv false) (h5:IsRef w' d pd F) h6 h7 hl=>jas K.1 v d ps pd K.2.1 (K.2.1+1) lv false F w' rfl h4 h5 h6 h7 b1 (qi ht (by decide)) hl a4 (qi (jdm K.1) (by decide))
 have a0:=ja w (.cells #[(0:Int),(0:Int),.slice none 0 0] 30);have M:=Hd (Box.new w #[(0:Int),(0:Int),.slice none 0 0] 30);have O:=Hd a0;have HD:=Hd (hd.below a0);have D:=Hd hd.lt;obtain ⟨N,hN⟩:=Nm (d.strs.length);rw [<- hN] at a4 hR a5 a8;have HN:=Hd hN;have c7:(w.alloc (.cells #[(0:Int),(0:Int),.slice none 0 0] 30)).cell? ⟨pd,0,none⟩=some (.int .i64 (N:Int)):=by
  obtain ⟨tv,b,_⟩:=HD.1;rw [hN];exact b.cell 0 _ rfl
 clear hd b4 b5 ht hs a0 hN b1 hK;by_cases h65:N<65
 .
  rw [qf h65] at hR;obtain rfl:R=(d,0,jI,1):=hR;have hn:(N:Int)<65:=by omega
  clear a5 a8 a4;obtain ⟨z0,z1,z2⟩:=C3 M.1;go_enter func46,ntmps46;go_wp2_with fail;exact ye rfl rfl w.heap.size 0 rfl [(0:Int),(0:Int),.slice none 0 0] _ (jj M.1) underlying30 rfl (by kernel_rfl) _ _ rfl rfl ⟨_,_,rfl,⟨F,HD.1,fun k hk=>.inl hk,(fun k hk=>by cases hk),fun h=>by cases h⟩,fun _=>rfl,OwnS.nil _ _,Mod.of_below O.1⟩
 rw [qh h65] at hR;have hn:¬ (N:Int)<65:=by omega
 have H0:=Hd (fun W hW=>a5 W hW (by omega))
 have P:=Hd (fun v ps lv w' h4 h5 h6 h7=>a8 v ps lv w' h4 h5 h6 h7 (by omega))
 obtain ⟨⟨KC,KB,KL⟩,ke,kr⟩:=K;simp only at H0 P hR;have G:=Hd hR;clear a5 a8 hR h65 a4;go_enter func46,ntmps46;go_wp2_with fail;obtain ⟨w1,b6⟩:=Nm ((w.alloc (.cells #[(0:Int),(0:Int),.slice none 0 0] 30)));rw [<- b6] at M O HD |-;clear b6;refine (H0.1 w1 HD.1).mono ?_;rintro ev w2 ⟨o,rfl,ho,hb⟩;obtain ⟨oa,oc,rfl,_⟩:=ho.slice;obtain ⟨on,b7⟩:=Nm (KL.length);rw [<- b7] at ho |-;have a0:=ja w2 (.cells #[KC,KB,.slice oa on oc] 30);have H1:=Hd (Box.new w2 #[KC,KB,.slice oa on oc] 30);have H2:=Hd ((HD.1.below hb).below a0);have H:=Hd ((M.1.below hb).below a0);have Q:=Hd ((O.1.trans (hb.mono O.1.size)).trans (a0.mono (O.1.trans (hb.mono O.1.size)).size));have H3:=Hd ((ho.below a0).base (base':=w.heap.size) O.1.size);have J:=Hd (show ∀ k,(Value.slice oa on oc).ownBlock=some k->w.heap.size+1<=k/\k<w2.heap.size from fun k hk=>⟨by have:=(ho.lt k hk).1;have:=M.1.lt;omega,(ho.lt k hk).2⟩)
 have I:=Hd (show w.heap.size<w2.heap.size from qu M.1.lt hb.size)
 clear ho hb a0 b7 HD M O H0;by_cases h0:kr=0;rotate_left
 .
  rw [qh h0] at G;have b8:(kr != 0)=true:=by rw [wl];exact h0
  obtain rfl:R=(d,0,jI,kr):=G.1;have H4:=Hd h0;obtain ⟨z0,y0,z1,y1,z2,y2⟩:=B3 H.1;have a1:=Mod.set3 w.heap.size (w2.alloc (.cells #[KC,KB,.slice oa on oc] 30)) (0:Int) (0:Int) (.slice none 0 0);have L:=Hd (show Box ((((w2.alloc (.cells #[KC,KB,.slice oa on oc] 30)).setCell ⟨w.heap.size,0,none⟩ (0:Int)).setCell ⟨w.heap.size,1,none⟩ (0:Int)).setCell ⟨w.heap.size,2,none⟩ (.slice none 0 0)) w.heap.size #[(0:Int),(0:Int),.slice none 0 0] 30/\Mod (fun i=>i=w.heap.size) (w2.alloc (.cells #[KC,KB,.slice oa on oc] 30)) ((((w2.alloc (.cells #[KC,KB,.slice oa on oc] 30)).setCell ⟨w.heap.size,0,none⟩ (0:Int)).setCell ⟨w.heap.size,1,none⟩ (0:Int)).setCell ⟨w.heap.size,2,none⟩ (.slice none 0 0))/\Below w.heap.size w ((((w2.alloc (.cells #[KC,KB,.slice oa on oc] 30)).setCell ⟨w.heap.size,0,none⟩ (0:Int)).setCell ⟨w.heap.size,1,none⟩ (0:Int)).setCell ⟨w.heap.size,2,none⟩ (.slice none 0 0)) from ⟨((H.1.set 0 (0:Int)).set 1 (0:Int)).set 2 (.slice none 0 0),a1,Q.1.trans (a1.below Q.1.size (fun i hi=>qS hi.symm))⟩)
  clear a1;clear G H1 H3 J P h0;go_wp2_with fail;exact ye rfl rfl w.heap.size 0 rfl [(0:Int),(0:Int),.slice none 0 0] _ (jj (L.1.1)) underlying30 rfl (by kernel_rfl) _ _ rfl rfl ⟨_,_,rfl,⟨F,H2.1.mod L.1.2.1 (fun k hk e=>by have:=D.1 k hk;omega),fun k hk=>.inl hk,(fun k hk=>by cases hk),fun h=>absurd h H4.1⟩,fun _=>rfl,OwnS.nil _ _,Mod.of_below L.1.2.2⟩
 rw [qf h0] at G;subst h0;have a0:=ja (w2.alloc (.cells #[KC,KB,.slice oa on oc] 30)) (.cells #[.pointer (some ⟨pd,0,none⟩),.int .u32 (I32 ke),.pointer none,.bool false] 115);have b2:=Box.new (w2.alloc (.cells #[KC,KB,.slice oa on oc] 30)) #[.pointer (some ⟨pd,0,none⟩),.int .u32 (I32 ke),.pointer none,.bool false] 115;rw [qj] at b2;have T:=Hd (show RStoB ((w2.alloc (.cells #[KC,KB,.slice oa on oc] 30)).alloc (.cells #[.pointer (some ⟨pd,0,none⟩),.int .u32 (I32 ke),.pointer none,.bool false] 115)) (w2.heap.size+1) pd ke (.pointer none) false from ⟨b2⟩)
 have E:=Hd (H1.1.below a0);have H5:=Hd (H2.1.below a0);have H6:=Hd (H.1.below a0);have U:=Hd (Q.1.trans (a0.mono Q.1.size));have X:=Hd (H3.1.below a0);obtain ⟨q,hq⟩:=Nm (w2.heap.size);obtain ⟨A,hA⟩:=Nm (yu ke d ⟨KC,KB,KL⟩);rw [<- hA] at P G;obtain ⟨w4,a9⟩:=Nm (((w2.alloc (.cells #[KC,KB,.slice oa on oc] 30)).alloc (.cells #[.pointer (some ⟨pd,0,none⟩),.int .u32 (I32 ke),.pointer none,.bool false] 115)));rw [<- a9] at T E H5 H6 U X;rw [<- hq] at T E I J;have H7:=Hd (show q+1<w4.heap.size from T.1.bx.lt)
 have Y:=Hd (show w.heap.size<w4.heap.size by have:=E.1.lt;have:=I.1;omega)
 have Hb:=Hd (show ¬ F (q+1) from fun h=>by have:=D.1 _ h;have:=I.1;omega)
 obtain ⟨x0,x1,x2⟩:=C3 E.1;rw [a9] at x0 x1 x2;rw [hq] at x0 x1 x2;clear a0 b2 hA H1 H2 H Q H3;go_wp2_with fail;rw [<- a9,<- hq];refine (P.1 _ _ _ w4 T.1 H5.1 Hb.1 X.1.rd).mono ?_;rintro ev w5 ⟨rfl,b3⟩;clear x0 x1 x2 a9 hq;have a1:=b3.md;have Hc:=Hd (E.1.mod a1 (fun h=>h.elim (fun h=>by omega) (fun h=>by have:=D.1 _ h;have:=I.1;omega)))
 have B:=Hd (H6.1.mod a1 (fun h=>h.elim (fun h=>by have:=I.1;omega) (fun h=>by have:=D.1 _ h;omega)))
 have H8:=Hd (X.1.mod a1 (fun k hk h=>by
  have h1:=J.1 k hk
  rcases h with h | h
  . omega
  . have:=D.1 _ h;omega))
 have H9:=Hd (show Mod F w w5 from (show Mod F w w4 from Mod.of_below U.1).old a1 (fun i hi h=>h.elim (fun h=>by have:=I.1;omega) id))
 have Z:=Hd b3;clear b3 a1 E H6 X T H5 P;by_cases h0:A.2=0;rotate_left
 .
  rw [qh h0] at G;have b8:(A.2 != 0)=true:=by rw [wl];exact h0
  obtain rfl:R=(A.1,0,jI,A.2):=G.1;have H4:=Hd h0;obtain ⟨z0,y0,z1,y1,z2,y2⟩:=B3 B.1;have hmm:=Mod.set3 w.heap.size w5 (0:Int) (0:Int) (.slice none 0 0);obtain ⟨F5,a6,a2,_⟩:=Z.1.dk;have a7:¬ F5 w.heap.size:=fun h=>by
   rcases a2 _ h with g | g
   . have:=D.1 _ g;omega
   . have:=Y.1;omega
  have L:=Hd (show Box (((w5.setCell ⟨w.heap.size,0,none⟩ (0:Int)).setCell ⟨w.heap.size,1,none⟩ (0:Int)).setCell ⟨w.heap.size,2,none⟩ (.slice none 0 0)) w.heap.size #[(0:Int),(0:Int),.slice none 0 0] 30/\ROpnd w pd F (A.1,0,jI,A.2) (.pointer none) (.slice none 0 0) (((w5.setCell ⟨w.heap.size,0,none⟩ (0:Int)).setCell ⟨w.heap.size,1,none⟩ (0:Int)).setCell ⟨w.heap.size,2,none⟩ (.slice none 0 0)) from
   ⟨((B.1.set 0 (0:Int)).set 1 (0:Int)).set 2 (.slice none 0 0),⟨F5,a6.mod hmm (fun k hk e=>a7 (by rw [<- e];exact hk)),fun k hk=>(a2 k hk).imp id (fun g=>qi U.1.size g),(fun k hk=>by cases hk),fun h=>absurd h H4.1⟩,fun _=>rfl,OwnS.nil _ _,H9.1.old hmm (fun i hi h=>by omega)⟩)
  clear hmm a6 a2 a7 G Hc H8 J h0 Z;go_wp2_with fail;exact ye rfl rfl w.heap.size 0 rfl [(0:Int),(0:Int),.slice none 0 0] _ (jj (L.1.1)) underlying30 rfl (by kernel_rfl) _ _ rfl rfl ⟨_,_,rfl,L.1.2⟩
 rw [qf h0] at G;have b8:(A.2 != 0)=false:=by rw [h0];rfl
 obtain rfl:R=(A.1,ke+1,⟨KC,KB,KL⟩,0):=G.1;obtain ⟨F5,a6,a2,b9⟩:=Z.1.dk;obtain ⟨pl5,c5,c0,c1,c2⟩:=b9 h0;have a7:¬ F5 w.heap.size:=fun h=>by
  rcases a2 _ h with g | g
  . have:=D.1 _ g;omega
  . have:=I.1;have:=U.1.size;have:=Y.1;omega
 have He:=Hd (a6.below (jb w5));have Hf:=Hd (c1.below (jb w5));have Hg:=Hd (show xm w5.drew (yt (ke+1)) pl5 pd from Box.below c2 (jb w5))
 have Hh:=Hd (H8.1.below (jb w5));have Ha:=Hd (B.1.below (jb w5));have Hi:=Hd (H9.1.trans (Mod.of_below (jb w5)));have V:=Hd (show (∀ k,F5 k->F k\/w.heap.size<=k)/\¬ F5 w.heap.size/\w.heap.size<=pl5/\pl5≠w.heap.size/\q+1≠pl5/\¬ F5 pl5/\¬ F5 (q+1) from
  ⟨fun k hk=>(a2 k hk).imp id (fun g=>qi U.1.size g),a7,by have:=Y.1;omega,by have:=Y.1;omega,by have:=H7.1;omega,c0,fun h=>by
   rcases a2 _ h with g | g
   . exact Hb.1 g
   . have:=H7.1;omega⟩)
 have C:=Hd (show ∀ k,(Value.slice oa on oc).ownBlock=some k->¬ F5 k/\k≠q+1/\k≠pl5/\k≠w.heap.size/\w.heap.size<=k from fun k hk=>by
  have h1:=J.1 k hk;have h2:=H7.1;refine ⟨fun h=>?_,by omega,by omega,by omega,by omega⟩
  rcases a2 k h with g | g
  . have:=D.1 _ g;omega
  . omega)
 clear h0 G Z b9 a6 a2 c5 c0 c1 c2 a7 H8 B H9 J;go_wp2;refine qt (S:=fun W=>Box W q #[KC,KB,.slice oa on oc] 30) (by kernel_rfl) (Hc.1.below (jb w5)) (fun b0=>?_)
 refine Tk 0 38 ?_;refine Tk 1 39 ?_ (v:=.agg #[KC,KB,.slice oa on oc]) (hy:=fun w' c6=>Ek (jj c6) underlying30)
 refine Tk 2 2 ?_;refine Rs 3 30 3 39 fun K hK=>?_
 rw [qf (by kernel_rfl)]
 refine yw 30 (.tmp 3) (.tmp 39) rfl w.heap.size 0 [KC,KB,.slice oa on oc] rfl rfl Ha.1.there3 (by kernel_rfl) (jc5 _ _ _ _ _) ?_
 obtain ⟨c3,a3⟩:=Ha.1.set3 KC KB (.slice oa on oc);refine hK.out _ _ (b0.mod a3 (by have:=I.1;omega)) (fun c4=>?_)
 have HF:=Hd (And.intro c3 (show ROpnd w pd F (A.1,ke+1,⟨KC,KB,KL⟩,0) (.pointer (some ⟨q+1,0,none⟩)) (.slice oa on oc) _ from
  ⟨⟨F5,He.1.mod a3 (fun k hk e=>V.1.2.1 (by rw [<- e];exact hk)),V.1.1,fun k hk=>⟨(C.1 k hk).2.2.2.2,(C.1 k hk).1⟩,fun _=>⟨q+1,pl5,rfl,by have:=I.1;omega,V.1.2.2.1,V.1.2.2.2.2.2.2,V.1.2.2.2.2.2.1,V.1.2.2.2.2.1,Hf.1.mod a3 (by have:=I.1;omega),Box.mod Hg.1 a3 V.1.2.2.2.1,fun k hk=>⟨(C.1 k hk).2.1,(C.1 k hk).2.2.1⟩⟩⟩,fun h=>absurd rfl h,Hh.1.mod a3 (fun k hk=>(C.1 k hk).2.2.2.1),Hi.1.old a3 (fun i hi h=>by omega)⟩))
 clear hK K c3 a3 He Hf Hg Hh Ha Hi V C;generalize (World.setCells _ _ _ _)=w9 at HF c4 |-
 try simp only [Act.put]
 refine Tk 4 4 ?_;refine Dn ?_;clear b0 c4;go_wp2_with fail;exact ye rfl rfl w.heap.size 0 rfl [KC,KB,.slice oa on oc] _ (jj HF.1.1) underlying30 rfl (by kernel_rfl) _ _ rfl rfl ⟨_,_,rfl,HF.1.2⟩
def jaZ (R:DiskM × UInt32 × StM × Int):Option StoM:=if R.2.2.2=0 then some ⟨R.2.1,yt R.2.1,false⟩ else none
structure SideA (w:World)(A:Nat->Prop)(p:Nat)(d:DiskM)(s:Option StoM)(sv:Value):Prop where
 ex:∃ F,IsDisk w d p F/\(∀ k,F k->A k)/\((s=none/\sv=.pointer none)\/∃ (ps pl:Nat) (t:StoM),s=some t/\sv=.pointer (some ⟨ps,0,none⟩)/\A ps/\A pl/\¬ F ps/\¬ F pl/\ps≠pl/\StoB w ps p t.epoch (.pointer (some ⟨pl,0,none⟩)) t.dead/\yI w t.log pl p)
 lt:∀ k,A k->k<w.heap.size
theorem SideA.mod {sv:Value}(h:SideA w A p d s sv)(hm:Mod G w w')(hn:∀ k,A k->¬ G k):SideA w' A p d s sv:=by
 obtain ⟨F,h1,h2,h3⟩:=h.ex;refine ⟨⟨F,h1.mod hm (fun k hk=>hn k (h2 k hk)),h2,?_⟩,fun k hk=>qu (h.lt k hk) hm.size⟩
 rcases h3 with h3 | ⟨ps,pl,t,e1,e2,a1,a2,f1,f2,ne,b,l⟩
 . exact .inl h3
 . exact .inr ⟨ps,pl,t,e1,e2,a1,a2,f1,f2,ne,b.mod hm (hn _ a1),Box.mod l hm (hn _ a2)⟩
theorem SideA.below {sv:Value}(h:SideA w A p d s sv)(hb:Below w.heap.size w w'):SideA w' A p d s sv :=
 h.mod (Mod.of_below (F:=fun _=>False) hb) (fun _ _ h=>h)
theorem SideA.turn {F F':Nat->Prop}{sv:Value}(h:SideA w A p d s sv)(hF:IsDisk w d p F/\(∀ k,F k->A k)/\((s=none/\sv=.pointer none)\/∃ (ps pl:Nat) (t:StoM),s=some t/\sv=.pointer (some ⟨ps,0,none⟩)/\A ps/\A pl/\¬ F ps/\¬ F pl/\ps≠pl/\StoB w ps p t.epoch (.pointer (some ⟨pl,0,none⟩)) t.dead/\yI w t.log pl p))(g1:IsDisk w' d' p F')(g2:Mod F w w')(g3:∀ k,F' k->F k\/w.heap.size<=k) :
  ∃ A',SideA w' A' p d' s sv/\Mod A w w'/\∀ k,A' k->A k\/w.heap.size<=k:=by
 obtain ⟨h1,h2,h3⟩:=hF;have hn:∀ k,A k->¬ F k->¬ F' k:=fun k ha hf h'=>(g3 k h').elim hf (fun g=>by have:=h.lt k ha;omega)
 refine ⟨fun k=>A k\/F' k,⟨⟨F',g1,fun k hk=>.inr hk,?_⟩,fun k hk=>?_⟩,g2.mono h2,fun k hk=>?_⟩
 .
  rcases h3 with h3 | ⟨ps,pl,t,e1,e2,a1,a2,f1,f2,ne,b,l⟩
  . exact .inl h3
  . exact .inr ⟨ps,pl,t,e1,e2,.inl a1,.inl a2,hn _ a1 f1,hn _ a2 f2,ne,b.mod g2 f1,Box.mod l g2 f2⟩
 .
  rcases hk with hk | hk
  . exact qu (h.lt k hk) g2.size
  . exact g1.lt k hk
 .
  rcases hk with hk | hk
  . exact .inl hk
  . exact (g3 k hk).imp (h2 k) id
theorem SideA.cut {sv:Value}(h:SideA w A p d s sv)(n:Int)(hn:n<=9223372036854775807) :
  Calls prog 11 #[.pointer (some ⟨p,0,none⟩),n] w fun e w'=>e=.returned (.tuple #[])/\∃ A',SideA w' A' p { d with left:=if n<0 then none else some n.toNat } s sv/\Mod A w w'/\∀ k,A' k->A k\/w.heap.size<=k:=by
 obtain ⟨F,hF⟩:=h.ex;refine (jca d p F n w hF.1 hn).mono ?_;rintro e w' ⟨rfl,F',g1,g2,g3⟩;exact ⟨rfl,h.turn hF g1 g2 g3⟩
theorem SideA.restore {sv:Value}(h:SideA w A p d s sv) :
  Calls prog 24 #[.pointer (some ⟨p,0,none⟩)] w fun e w'=>e=.returned (.tuple #[])/\∃ A',SideA w' A' p { d with left:=none } s sv/\Mod A w w'/\∀ k,A' k->A k\/w.heap.size<=k:=by
 obtain ⟨F,hF⟩:=h.ex;refine (vH d p F w hF.1).mono ?_;rintro e w' ⟨rfl,F',g1,g2,g3⟩;exact ⟨rfl,h.turn hF g1 g2 (fun k hk=>.inl (g3 k hk))⟩
theorem SideA.write {sv:Value}(h:SideA w A p d s sv)(i:Int)(x:ByteArray)(ht:d.trail.length<=100000000000)(hs:x.size<=9223372036854775807) :
  Calls prog 25 #[.pointer (some ⟨p,0,none⟩),i,.string x] w fun e w'=>e=.returned (jm (d.write i x).2)/\∃ A',SideA w' A' p (d.write i x).1 s sv/\Mod A w w'/\∀ k,A' k->A k\/w.heap.size<=k:=by
 obtain ⟨F,hF⟩:=h.ex;refine (jaw d p F i x w hF.1 ht hs).mono ?_;rintro e w' ⟨rfl,F',g1,g2,g3⟩;exact ⟨rfl,h.turn hF g1 g2 g3⟩
theorem SideA.append {sv:Value}(h:SideA w A p d (some t) sv)(e:EvtM)(st:StM)(v:Value)(hr:RdS w v st.l)(a0:∀ k,v.ownBlock=some k->¬ A k/\k<w.heap.size)(ho:∀ s∈st.l,SesOk s)(hu:e.s.user.length<=9223372036854775807)(a3:e.s.label.length<=9223372036854775807)(a4:e.s.scopes<2 ^ 64)(ht:d.trail.length<=9000000000)(hl:65<=d.strs.length)(h1:t.log.base+t.log.n<=d.strs.length)(h2:t.log.used<=t.log.n)(h3:t.log.records<=1000000000) :
  Calls prog 13 #[sv,.agg e.cells,.agg #[st.clock,st.births,v]] w fun r w'=>r=.returned (jm (t.append d e st).2.2)/\∃ A',SideA w' A' p (t.append d e st).2.1 (some (t.append d e st).1) sv/\Mod A w w'/\∀ k,A' k->A k\/w.heap.size<=k:=by
 obtain ⟨F,i1,i2,i3⟩:=h.ex
 rcases i3 with ⟨i3,_⟩ | ⟨ps,pl,t',e1,e2,a1,a2,f1,f2,ne,b,l⟩
 . cases i3
 injection e1 with e1
 subst e1;subst e2;refine (xx t d e st v ps pl p F w b l i1 f1 f2 ne hr (fun k hk=>⟨fun hf=>(a0 k hk).1 (i2 k hf),fun e=>(a0 k hk).1 (by rw [e];exact a1),fun e=>(a0 k hk).1 (by rw [e];exact a2),(a0 k hk).2⟩) ho hu a3 a4 ht hl h1 h2 h3).mono ?_
 rintro r w' ⟨rfl,hx⟩;obtain ⟨F',pl',x1,x2,x3,x4,x5,x6,x7,x8⟩:=hx.ex;refine ⟨rfl,fun k=>F' k\/k=ps\/k=pl',⟨⟨F',x1,fun k hk=>.inl hk,.inr ⟨ps,pl',_,rfl,rfl,.inr (.inl rfl),.inr (.inr rfl),x6,x7,x8,x4,x5⟩⟩,fun k hk=>?_⟩,hx.md.mono (fun k hk=>?_),fun k hk=>?_⟩
 .
  rcases hk with hk | rfl | rfl
  . exact x1.lt k hk
  . exact x4.bx.lt
  . exact Box.lt x5
 .
  rcases hk with rfl | rfl | hk
  . exact a1
  . exact a2
  . exact i2 k hk
 .
  rcases hk with hk | rfl | rfl
  . exact (x2 k hk).imp (i2 k) id
  . exact .inl a1
  .
   rcases x3 with rfl | x3
   . exact .inl a2
   . exact .inr x3
theorem SideA.opens {sv:Value}(h:SideA w A p d s sv)(a0:∀ s∈d.strs,s.size<=256)(ht:d.trail.length<=9000000000)(hs:∀ b,(jH d b).length<=9223372036854775807)(a1:∀ s∈(yi d).1.l,SesOk s) :
  Calls prog 33 #[.pointer (some ⟨p,0,none⟩)] w fun e w'=>∃ pv o,e=.returned (.tuple #[pv,.agg #[.int .i64 (jw d).2.2.1.clock,.int .i64 (jw d).2.2.1.births,o],jm (jw d).2.2.2])/\((jw d).2.2.2=0->∃ a,pv=.pointer (some a))/\((jw d).2.2.2≠0->pv=.pointer none)/\OwnS w' w.heap.size o (jw d).2.2.1.l/\∃ A',SideA w' A' p (jw d).1 (jaZ (jw d)) pv/\Mod A w w'/\(∀ k,A' k->A k\/w.heap.size<=k)/\∀ k,o.ownBlock=some k->¬ A' k:=by
 obtain ⟨F,i1,i2,_⟩:=h.ex;refine (vM d p F w i1 a0 ht hs a1).mono ?_;rintro e w' ⟨pv,o,rfl,hx⟩;obtain ⟨F',x1,x2,x3,x4⟩:=hx.ex;by_cases h0:(jw d).2.2.2=0
 .
  obtain ⟨ps,pl,e1,g1,g2,g3,g4,g5,g6,g7,g8⟩:=x4 h0;subst e1;refine ⟨_,o,rfl,fun _=>⟨_,rfl⟩,fun h=>absurd h0 h,hx.ow,fun k=>F' k\/k=ps\/k=pl,⟨⟨F',x1,fun k hk=>.inl hk,.inr ⟨ps,pl,⟨(jw d).2.1,yt (jw d).2.1,false⟩,by unfold jaZ;rw [qf h0],rfl,.inr (.inl rfl),.inr (.inr rfl),g3,g4,g5,g6,g7⟩⟩,fun k hk=>?_⟩,hx.md.mono i2,fun k hk=>?_,fun k hk ha=>?_⟩
  .
   rcases hk with hk | rfl | rfl
   . exact x1.lt k hk
   . exact g6.bx.lt
   . exact Box.lt g7
  .
   rcases hk with hk | rfl | rfl
   . exact (x2 k hk).imp (i2 k) id
   . exact .inr g1
   . exact .inr g2
  .
   rcases ha with ha | ha | ha
   . exact (x3 k hk).2 ha
   . exact (g8 k hk).1 ha
   . exact (g8 k hk).2 ha
 . refine ⟨pv,o,rfl,fun h=>absurd h h0,hx.no,hx.ow,F',⟨⟨F',x1,fun k hk=>hk,.inl ⟨by unfold jaZ;rw [qh h0],hx.no h0⟩⟩,fun k hk=>x1.lt k hk⟩,hx.md.mono i2,fun k hk=>(x2 k hk).imp (i2 k) id,fun k hk=>(x3 k hk).2⟩
structure SideB (w:World)(A:Nat->Prop)(p:Nat)(d:DiskM)(s:Option StoM)(sv:Value):Prop where
 ex:∃ F,IsRef w d p F/\(∀ k,F k->A k)/\((s=none/\sv=.pointer none)\/∃ (ps pl:Nat) (t:StoM),s=some t/\sv=.pointer (some ⟨ps,0,none⟩)/\A ps/\A pl/\¬ F ps/\¬ F pl/\ps≠pl/\RStoB w ps p t.epoch (.pointer (some ⟨pl,0,none⟩)) t.dead/\xm w t.log pl p)
 lt:∀ k,A k->k<w.heap.size
theorem SideB.mod {sv:Value}(h:SideB w A p d s sv)(hm:Mod G w w')(hn:∀ k,A k->¬ G k):SideB w' A p d s sv:=by
 obtain ⟨F,h1,h2,h3⟩:=h.ex;refine ⟨⟨F,h1.mod hm (fun k hk=>hn k (h2 k hk)),h2,?_⟩,fun k hk=>qu (h.lt k hk) hm.size⟩
 rcases h3 with h3 | ⟨ps,pl,t,e1,e2,a1,a2,f1,f2,ne,b,l⟩
 . exact .inl h3
 . exact .inr ⟨ps,pl,t,e1,e2,a1,a2,f1,f2,ne,b.mod hm (hn _ a1),Box.mod l hm (hn _ a2)⟩
theorem SideB.below {sv:Value}(h:SideB w A p d s sv)(hb:Below w.heap.size w w'):SideB w' A p d s sv :=
 h.mod (Mod.of_below (F:=fun _=>False) hb) (fun _ _ h=>h)
theorem SideB.turn {F F':Nat->Prop}{sv:Value}(h:SideB w A p d s sv)(hF:IsRef w d p F/\(∀ k,F k->A k)/\((s=none/\sv=.pointer none)\/∃ (ps pl:Nat) (t:StoM),s=some t/\sv=.pointer (some ⟨ps,0,none⟩)/\A ps/\A pl/\¬ F ps/\¬ F pl/\ps≠pl/\RStoB w ps p t.epoch (.pointer (some ⟨pl,0,none⟩)) t.dead/\xm w t.log pl p))(g1:IsRef w' d' p F')(g2:Mod F w w')(g3:∀ k,F' k->F k\/w.heap.size<=k) :
  ∃ A',SideB w' A' p d' s sv/\Mod A w w'/\∀ k,A' k->A k\/w.heap.size<=k:=by
 obtain ⟨h1,h2,h3⟩:=hF;have hn:∀ k,A k->¬ F k->¬ F' k:=fun k ha hf h'=>(g3 k h').elim hf (fun g=>by have:=h.lt k ha;omega)
 refine ⟨fun k=>A k\/F' k,⟨⟨F',g1,fun k hk=>.inr hk,?_⟩,fun k hk=>?_⟩,g2.mono h2,fun k hk=>?_⟩
 .
  rcases h3 with h3 | ⟨ps,pl,t,e1,e2,a1,a2,f1,f2,ne,b,l⟩
  . exact .inl h3
  . exact .inr ⟨ps,pl,t,e1,e2,.inl a1,.inl a2,hn _ a1 f1,hn _ a2 f2,ne,b.mod g2 f1,Box.mod l g2 f2⟩
 .
  rcases hk with hk | hk
  . exact qu (h.lt k hk) g2.size
  . exact g1.lt k hk
 .
  rcases hk with hk | hk
  . exact .inl hk
  . exact (g3 k hk).imp (h2 k) id
theorem SideB.cut {sv:Value}(h:SideB w A p d s sv)(n:Int)(hn:n<=9223372036854775807) :
  Calls prog 23 #[.pointer (some ⟨p,0,none⟩),n] w fun e w'=>e=.returned (.tuple #[])/\∃ A',SideB w' A' p { d with left:=if n<0 then none else some n.toNat } s sv/\Mod A w w'/\∀ k,A' k->A k\/w.heap.size<=k:=by
 obtain ⟨F,hF⟩:=h.ex;refine (jf8 d p F n w hF.1 hn).mono ?_;rintro e w' ⟨rfl,g1,g2⟩;exact ⟨rfl,h.turn hF g1 g2 (fun k hk=>.inl hk)⟩
theorem SideB.write {sv:Value}(h:SideB w A p d s sv)(i:Int)(x:ByteArray)(ht:d.trail.length<=100000000000)(hs:x.size<=9223372036854775807) :
  Calls prog 26 #[.pointer (some ⟨p,0,none⟩),i,.string x] w fun e w'=>e=.returned (.int .i64 (d.write i x).2)/\∃ A',SideB w' A' p (d.write i x).1 s sv/\Mod A w w'/\∀ k,A' k->A k\/w.heap.size<=k:=by
 obtain ⟨F,hF⟩:=h.ex;refine (vb d p F i x w hF.1 ht hs).mono ?_;rintro e w' ⟨rfl,F',g1,g2,g3⟩;exact ⟨rfl,h.turn hF g1 g2 g3⟩
theorem SideB.append {sv:Value}(h:SideB w A p d (some t) sv)(e:EvtM)(st:StM)(v:Value)(hr:RdS w v st.l)(a0:0<st.l.length->∀ k,v.ownBlock=some k->¬ A k/\k<w.heap.size)(ho:∀ s∈st.l,SesOk s)(hu:e.s.user.length<=9223372036854775807)(a3:e.s.label.length<=9223372036854775807)(a4:e.s.scopes<2 ^ 64)(ht:d.trail.length<=9000000000)(hl:65<=d.strs.length)(h1:t.log.base+t.log.n<=d.strs.length)(h2:t.log.used<=t.log.n)(h3:t.log.records<=1000000000)(a5:d.strs.length<=4096) :
  Calls prog 51 #[sv,.agg e.cells,.agg #[st.clock,st.births,v]] w fun r w'=>r=.returned (.int .i64 (t.append d e st).2.2)/\∃ A',SideB w' A' p (t.append d e st).2.1 (some (t.append d e st).1) sv/\Mod A w w'/\∀ k,A' k->A k\/w.heap.size<=k:=by
 obtain ⟨F,i1,i2,i3⟩:=h.ex
 rcases i3 with ⟨i3,_⟩ | ⟨ps,pl,t',e1,e2,a1,a2,f1,f2,ne,b,l⟩
 . cases i3
 injection e1 with e1
 subst e1;subst e2;refine (jbF t d e st v ps pl p F w b l i1 f1 f2 ne hr (fun h0 k hk=>⟨fun hf=>(a0 h0 k hk).1 (i2 k hf),fun e=>(a0 h0 k hk).1 (by rw [e];exact a1),fun e=>(a0 h0 k hk).1 (by rw [e];exact a2),(a0 h0 k hk).2⟩) ho hu a3 a4 ht hl h1 h2 h3 a5).mono ?_
 rintro r w' ⟨rfl,hx⟩;obtain ⟨F',pl',x1,x2,x3,x4,x5,x6,x7,x8⟩:=hx.ex;refine ⟨rfl,fun k=>F' k\/k=ps\/k=pl',⟨⟨F',x1,fun k hk=>.inl hk,.inr ⟨ps,pl',_,rfl,rfl,.inr (.inl rfl),.inr (.inr rfl),x6,x7,x8,x4,x5⟩⟩,fun k hk=>?_⟩,hx.md.mono (fun k hk=>?_),fun k hk=>?_⟩
 .
  rcases hk with hk | rfl | rfl
  . exact x1.lt k hk
  . exact x4.bx.lt
  . exact Box.lt x5
 .
  rcases hk with rfl | rfl | hk
  . exact a1
  . exact a2
  . exact i2 k hk
 .
  rcases hk with hk | rfl | rfl
  . exact (x2 k hk).imp (i2 k) id
  . exact .inl a1
  .
   rcases x3 with rfl | x3
   . exact .inl a2
   . exact .inr x3
theorem SideB.opens {sv:Value}(h:SideB w A p d s sv)(a0:d.Wf)(a1:d.strs.length<=4096)(a2:∀ s∈d.strs,s.size<=256)(ht:d.trail.length<=9000000000)(hs:∀ b,(jH d b).length<=9223372036854775807)(a3:∀ s∈(yi d).1.l,SesOk s) :
  Calls prog 46 #[.pointer (some ⟨p,0,none⟩)] w fun e w'=>∃ pv o,e=.returned (.tuple #[pv,.agg #[.int .i64 (jw d).2.2.1.clock,.int .i64 (jw d).2.2.1.births,o],.int .i64 (jw d).2.2.2])/\((jw d).2.2.2=0->∃ a,pv=.pointer (some a))/\((jw d).2.2.2≠0->pv=.pointer none)/\OwnS w' w.heap.size o (jw d).2.2.1.l/\∃ A',SideB w' A' p (jw d).1 (jaZ (jw d)) pv/\Mod A w w'/\(∀ k,A' k->A k\/w.heap.size<=k)/\∀ k,o.ownBlock=some k->¬ A' k:=by
 obtain ⟨F,i1,i2,_⟩:=h.ex;refine (jc1 d p F w i1 a0 a1 a2 ht hs a3).mono ?_;rintro e w' ⟨pv,o,rfl,hx⟩;obtain ⟨F',x1,x2,x3,x4⟩:=hx.ex;by_cases h0:(jw d).2.2.2=0
 .
  obtain ⟨ps,pl,e1,g1,g2,g3,g4,g5,g6,g7,g8⟩:=x4 h0;subst e1;refine ⟨_,o,rfl,fun _=>⟨_,rfl⟩,fun h=>absurd h0 h,hx.ow,fun k=>F' k\/k=ps\/k=pl,⟨⟨F',x1,fun k hk=>.inl hk,.inr ⟨ps,pl,⟨(jw d).2.1,yt (jw d).2.1,false⟩,by unfold jaZ;rw [qf h0],rfl,.inr (.inl rfl),.inr (.inr rfl),g3,g4,g5,g6,g7⟩⟩,fun k hk=>?_⟩,hx.md.mono i2,fun k hk=>?_,fun k hk ha=>?_⟩
  .
   rcases hk with hk | rfl | rfl
   . exact x1.lt k hk
   . exact g6.bx.lt
   . exact Box.lt g7
  .
   rcases hk with hk | rfl | rfl
   . exact (x2 k hk).imp (i2 k) id
   . exact .inr g1
   . exact .inr g2
  .
   rcases ha with ha | ha | ha
   . exact (x3 k hk).2 ha
   . exact (g8 k hk).1 ha
   . exact (g8 k hk).2 ha
 . refine ⟨pv,o,rfl,fun h=>absurd h h0,hx.no,hx.ow,F',⟨⟨F',x1,fun k hk=>hk,.inl ⟨by unfold jaZ;rw [qh h0],hx.no h0⟩⟩,fun k hk=>x1.lt k hk⟩,hx.md.mono i2,fun k hk=>(x2 k hk).imp (i2 k) id,fun k hk=>(x3 k hk).2⟩
theorem jh2 (ep:UInt32)(d:DiskM)(st:StM):0<=(yu ep d st).2/\(yu ep d st).2<=24:=by
 unfold yu
 split
 .
  split
  . simp
  . have:=jjh d 0 24 (ep+1).toNat (vz st);omega
 . simp
theorem jjo (d:DiskM):0<=(yi d).2.2/\(yi d).2.2<=24:=by
 unfold yi;have:=jct d 0 24
 repeat' split
 all_goals first | (simp;done) | (show 0<=(jZ d 0 24).2.2/\(jZ d 0 24).2.2<=24;omega)
theorem jkf (d:DiskM):0<=(jw d).2.2.2/\(jw d).2.2.2<=24:=by
 unfold jw;have h1:=jjo d;have h2:=jh2 (yi d).2.1 d (yi d).1
 repeat' split
 all_goals first | (simp;done) | exact h2 | exact h1
theorem jho (l:LogM)(d:DiskM)(q:List UInt8):0<=(l.append d q).2.2/\(l.append d q).2.2<=24:=by
 unfold LogM.append
 repeat' split
 all_goals simp
theorem jgL (t:StoM)(d:DiskM)(e:EvtM)(st:StM):0<=(t.append d e st).2.2/\(t.append d e st).2.2<=24:=by
 unfold StoM.append;have h1:=jh2 t.epoch d st;have h2:=fun l d=>jho l d (evB e)
 repeat' split
 all_goals first | (simp;done) | exact h1 | exact h2 _ _
theorem jkt (h:d.Wf):(jw d).1.Wf:=by
 unfold jw;have:=jiT (yi d).2.1 (yi d).1 h
 repeat' split
 all_goals first | exact h | exact this
theorem jjG (d:DiskM):(jw d).1.strs.length=d.strs.length:=by
 unfold jw;have:=uY (yi d).2.1 d (yi d).1
 repeat' split
 all_goals first | rfl | exact this
theorem jhq:∀ (l:List EvtM) (st:StM) {x:SesM},x∈(yy st l).1.l->x∈st.l\/∃ e∈l,x=e.s
 | [],st,x,h=>.inl h
 | e::l,st,x,h=>by
  unfold yy at h
  split at h
  .
   rcases jhq l (jt st e).2 h with h1 | ⟨e',h1,h2⟩
   .
    rcases jbf h1 with h3 | h3
    . exact .inl h3
    . exact .inr ⟨e,pJ,h3⟩
   . exact .inr ⟨e',pz _ h1,h2⟩
  . exact .inl h
theorem jiZ:∀ (ps:List (List UInt8)),∀ e∈vm ps,EvOk e
 | [],e,h=>by cases h
 | p::l,e,h=>by
  unfold vm at h
  split at h
  .
   rename_i h0
   rcases qH.1 h with rfl | h
   . exact jgA h0
   . exact jiZ l e h
  . cases h
theorem jja:∀ (ps:List (List UInt8)),(vm ps).length<=ps.length
 | []=>qm _
 | p::l=>by
  unfold vm
  split
  . have:=jja l;simp only [qp];omega
  . exact qJ _
theorem jgY {e:EvtM}(h:EvOk e):SesOk e.s:=⟨qi h.user (by decide),qi h.label (by decide),h.scopes⟩
theorem jkV (ep:UInt32)(d:DiskM):(vD ep (xW d 49 16)).length<=16:=by
 unfold vD
 split
 .
  rename_i h
  have h1:=(Exists.choose_spec h).len;have h2:(xW d 49 16).length<=16:=by unfold xW;rw [qE,qr];omega
  exact qi h1 h2
 . exact qJ _
theorem jfT:∀ (l:List EvtM) (st:StM),(yy st l).1.l.length<=st.l.length+l.length
 | [],st=>qm _
 | e::l,st=>by
  unfold yy
  split
  .
   have h1:=jfT l (jt st e).2;have h2:=uq st e;simp only [qp];omega
  . simp only [qp];omega
theorem jaA (d:DiskM):∀ x∈(yi d).1.l,SesOk x:=by
 unfold yi
 repeat' split
 all_goals first | (intro x hx;cases hx;done) | skip
 intro x hx
 rcases jhq _ _ hx with h | ⟨e,h,rfl⟩
 . exact jh0 _ x h
 . exact jgY (jiZ _ e h)
theorem jjZ (d:DiskM):(yi d).1.l.length<=48:=by
 unfold yi
 split
 . exact qJ _
 split
 .
  split
  .
   rename_i h0
   have h1:=jfT (vm (vD (UInt32.ofNat (jZ d 0 24).1) (xW d 49 16))) (vy (jZ d 0 24).2.1).2;have h2:=jja (vD (UInt32.ofNat (jZ d 0 24).1) (xW d 49 16));have h3:=jkV (UInt32.ofNat (jZ d 0 24).1) d;have h4:(vy (jZ d 0 24).2.1).2.l.length<=32:=by
    obtain ⟨D,hD⟩:=Nm (vy (jZ d 0 24).2.1);rw [<- hD] at h0 |-;obtain ⟨er,C,B,L⟩:=D;simp only at h0;subst h0;exact ja5 (C:=C) (B:=B) hD.symm
   simp only;omega
  . exact qJ _
 . exact qJ _
theorem jkx (d:DiskM):(jw d).2.2.1=(yi d).1\/(jw d).2.2.1=jI:=by
 unfold jw
 repeat' split
 all_goals first | exact .inl rfl | exact .inr rfl
theorem jj7 (d:DiskM):(∀ x∈(jw d).2.2.1.l,SesOk x)/\(jw d).2.2.1.l.length<=48:=by
 rcases jkx d with h | h <;> rw [h]
 . exact ⟨jaA d,jjZ d⟩
 . exact ⟨fun x hx=>(by cases hx),qJ _⟩
theorem jkF (h:(jw d).2.2.2=0):65<=d.strs.length:=by
 unfold jw at h
 split at h
 . cases h
 . omega
structure PlainS (c:Nat)(d:DiskM)(s:Option StoM)(st:StM):Prop where
 wf:d.Wf
 small:d.strs.length<=4096
 trail:d.trail.length<=c*5000
 fit:∀ t,s=some t->65<=d.strs.length/\t.log.base+t.log.n<=d.strs.length/\t.log.used<=t.log.n/\t.log.records<=c
 ok:∀ x∈st.l,SesOk x
 len:st.l.length<=50+c
theorem PlainS.more (h:PlainS c d s st)(hc:c<=c'):PlainS c' d s st :=
 ⟨h.wf,h.small,qi h.trail (qQ _ hc),fun t ht=>by obtain ⟨a,b,e,f⟩:=h.fit t ht;exact ⟨a,b,e,by omega⟩,h.ok,by have:=h.len;omega⟩
theorem PlainS.left (h:PlainS c d s st)(o:Option Nat):PlainS c { d with left:=o } s st :=
 ⟨⟨h.wf.inr,h.wf.short,h.wf.play⟩,h.small,h.trail,h.fit,h.ok,h.len⟩
theorem PlainS.write (h:PlainS c d s st)(i:Int)(x:ByteArray):PlainS (c+1) (d.write i x).1 s st:=by
 have h1:=d.write_len i x;have h2:=(d.write_trail i x).1;have h3:=h.trail;exact ⟨h.wf.write i x,by rw [h1];exact h.small,by omega,fun t ht=>by obtain ⟨a,b,e,f⟩:=h.fit t ht;rw [h1];exact ⟨a,b,e,by omega⟩,h.ok,by have:=h.len;omega⟩
theorem PlainS.opens (h:PlainS c d s st):PlainS (c+1) (jw d).1 (jaZ (jw d)) (jw d).2.2.1:=by
 have h1:=jjG d;have h2:=vE d h.small;have h3:=h.trail;obtain ⟨h4,h5⟩:=jj7 d;refine ⟨jkt h.wf,by rw [h1];exact h.small,by omega,fun t ht=>?_,h4,by omega⟩
 unfold jaZ at ht
 split at ht
 .
  rename_i h0
  injection ht with ht
  subst ht;have:=jkF h0;rw [h1];exact ⟨this,by show 49+16<=_;omega,qJ _,qJ _⟩
 . cases ht
theorem PlainS.append (h:PlainS c d (some t) st)(e:EvtM)(st':StM):PlainS (c+1) (t.append d e st').2.1 (some (t.append d e st').1) st:=by
 obtain ⟨f1,f2,f3,f4⟩:=h.fit t rfl;have h3:=h.trail;have key:(t.append d e st').2.1.Wf/\(t.append d e st').2.1.strs.length=d.strs.length/\(t.append d e st').2.1.trail.length<=d.trail.length+2054/\(t.append d e st').1.log.base+(t.append d e st').1.log.n<=d.strs.length/\(t.append d e st').1.log.used<=(t.append d e st').1.log.n/\(t.append d e st').1.log.records<=c+1:=by
  unfold StoM.append;have a1:=vw t.log d (evB e);have a2:=jcw t.log d (evB e);have a3:=jcj t.log h.wf (evB e);have b1:=uY t.epoch d st';have b2:=zw t.epoch d st' h.small;have b3:=jiT t.epoch st' h.wf;have c1:=vw (yt (t.epoch+1)) (yu t.epoch d st').1 (evB e);have c2:=jcw (yt (t.epoch+1)) (yu t.epoch d st').1 (evB e);have c3:=jcj (yt (t.epoch+1)) b3 (evB e);obtain ⟨p1,p2,p3,p4,p5,p6⟩:=a2;obtain ⟨q1,q2,q3,q4,q5,q6⟩:=c2;have n1:(yt (t.epoch+1)).base=49:=rfl;have n2:(yt (t.epoch+1)).n=16:=rfl;have n3:(yt (t.epoch+1)).used=0:=rfl;have n4:(yt (t.epoch+1)).records=0:=rfl
  split
  . exact ⟨h.wf,rfl,by show d.trail.length<=_;omega,f2,f3,by show t.log.records<=_;omega⟩
  split
  .
   split
   .
    split
    . exact ⟨c3,c1.1.trans b1,by have:=c1.2;show ((yt (t.epoch+1)).append (yu t.epoch d st').1 (evB e)).2.1.trail.length<=_;omega,by show ((yt (t.epoch+1)).append (yu t.epoch d st').1 (evB e)).1.base+((yt (t.epoch+1)).append (yu t.epoch d st').1 (evB e)).1.n<=_;omega,by have:=q5 (by omega);show ((yt (t.epoch+1)).append (yu t.epoch d st').1 (evB e)).1.used<=((yt (t.epoch+1)).append (yu t.epoch d st').1 (evB e)).1.n;omega,by show ((yt (t.epoch+1)).append (yu t.epoch d st').1 (evB e)).1.records<=_;omega⟩
    . exact ⟨b3,b1,by show (yu t.epoch d st').1.trail.length<=_;omega,f2,f3,by show t.log.records<=_;omega⟩
   . exact ⟨a3,a1.1,by have:=a1.2;show (t.log.append d (evB e)).2.1.trail.length<=_;omega,by show (t.log.append d (evB e)).1.base+(t.log.append d (evB e)).1.n<=_;omega,by have:=p5 f3;show (t.log.append d (evB e)).1.used<=(t.log.append d (evB e)).1.n;omega,by show (t.log.append d (evB e)).1.records<=_;omega⟩
  . exact ⟨h.wf,rfl,by show d.trail.length<=_;omega,f2,f3,by show t.log.records<=_;omega⟩
 obtain ⟨k1,k2,k3,k4,k5,k6⟩:=key;refine ⟨k1,by rw [k2];exact h.small,by omega,fun u hu=>?_,h.ok,by have:=h.len;omega⟩
 injection hu with hu
 subst hu;exact ⟨by omega,by omega,k5,k6⟩
theorem PlainS.put {st2:StM}(h:PlainS c d s st)(h1:∀ x∈st2.l,SesOk x)(h2:st2.l.length<=50+c):PlainS c d s st2:=⟨h.wf,h.small,h.trail,h.fit,h1,h2⟩
structure PlayS (W:World)(pw p rp c:Nat)(A B:Nat->Prop)(d:DiskM)(s:Option StoM)(st:StM)(sv rv ov:Value)(wr:World):Prop where
 a:SideA wr A p d s sv
 b:SideB wr B rp d s rv
 bx:Box wr pw #[.pointer (some ⟨p,0,none⟩),sv,.pointer (some ⟨rp,0,none⟩),rv,st.clock,st.births,ov] 66
 rs:RdS wr ov st.l
 ab:∀ k,A k->¬ B k
 np:¬ A pw/\¬ B pw/\W.heap.size<=pw
 nv:∀ k,ov.ownBlock=some k->¬ A k/\¬ B k/\k≠pw/\k<wr.heap.size
 lo:∀ k,A k\/B k->W.heap.size<=k
 pl:PlainS c d s st
 bel:Below W.heap.size W wr
theorem PlayS.aside {sv:Value}(h:PlayS W pw p rp c A B d s st sv rv ov wr)(hm:Mod G wr w2)(hx:∀ k,A k\/B k\/k=pw\/ov.ownBlock=some k->¬ G k)(hg:∀ k,G k->W.heap.size<=k):PlayS W pw p rp c A B d s st sv rv ov w2 :=
 ⟨h.a.mod hm (fun k hk=>hx k (.inl hk)),h.b.mod hm (fun k hk=>hx k (.inr (.inl hk))),h.bx.mod hm (hx _ (.inr (.inr (.inl rfl)))),h.rs.mod hm (fun k hk=>hx k (.inr (.inr (.inr hk)))),h.ab,h.np,fun k hk=>by obtain ⟨a,b,e,f⟩:=h.nv k hk;exact ⟨a,b,e,qu f hm.size⟩,h.lo,h.pl,h.bel.trans (hm.below h.bel.size hg)⟩
theorem PlayS.to {sv:Value}(h:PlayS W pw p rp c A B d s st sv rv ov wr)(hb:Below wr.heap.size wr w2):PlayS W pw p rp c A B d s st sv rv ov w2 :=
 h.aside (Mod.of_below (F:=fun _=>False) hb) (fun _ _ h=>h) (fun _ h=>h.elim)
theorem PlayS.both {A' B':Nat->Prop}{s':Option StoM}{sv:Value}{w1 w1':World}(h:PlayS W pw p rp c A B d s st sv rv ov wr)(ha:SideA w1 A' p d' s' sv)(a2:Mod A wr w1)(hA:∀ k,A' k->A k\/wr.heap.size<=k)(a0:Below w1.heap.size w1 w1')(hb:SideB w2 B' rp d' s' rv)(a1:Mod B w1' w2)(hB:∀ k,B' k->B k\/w1'.heap.size<=k)(hp:PlainS c' d' s' st):PlayS W pw p rp c' A' B' d' s' st sv rv ov w2:=by
 have a4:=h.bel.size;have a6:=a2.size;have a7:=a0.size;have a8:=a1.size;have a3:∀ k,A' k->¬ B k:=fun k hk hb=>by
  rcases hA k hk with g | g
  . exact h.ab k g hb
  . have:=h.b.lt k hb;omega
 have a5:∀ k,A' k->¬ B' k:=fun k hk hb=>by
  rcases hB k hb with g | g
  . exact a3 k hk g
  . have:=ha.lt k hk;omega
 have hn:∀ k,k<wr.heap.size->¬ A k->¬ B k->¬ A' k/\¬ B' k:=fun k hk h1 h2=>⟨fun g=>(hA k g).elim h1 (fun g=>by omega),fun g=>(hB k g).elim h2 (fun g=>by omega)⟩
 have hm:Mod (fun k=>A k\/B k) wr w2:=((a2.mono (fun k hk=>.inl hk)).trans (Mod.of_below a0)).trans (a1.mono (fun k hk=>.inr hk))
 obtain ⟨n1,n2⟩:=hn pw h.bx.lt h.np.1 h.np.2.1;refine ⟨(ha.below a0).mod a1 a3,hb,h.bx.mod hm (fun g=>g.elim h.np.1 h.np.2.1),h.rs.mod hm (fun k hk g=>g.elim (h.nv k hk).1 (h.nv k hk).2.1),a5,⟨n1,n2,h.np.2.2⟩,fun k hk=>?_,fun k hk=>?_,hp,h.bel.trans (hm.below a4 h.lo)⟩
 .
  obtain ⟨q1,q2,q3,q4⟩:=h.nv k hk;obtain ⟨q5,q6⟩:=hn k q4 q1 q2;exact ⟨q5,q6,q3,qu q4 hm.size⟩
 .
  rcases hk with hk | hk
  .
   rcases hA k hk with g | g
   . exact h.lo k (.inl g)
   . omega
  .
   rcases hB k hk with g | g
   . exact h.lo k (.inr g)
   . omega
theorem jgC (st:StM):jcq st st=true:=by simp [jcq,vS]
def jm9 (v:Value)(n B:Nat):RowsS:=⟨1,fun _=>v,fun _=>n,B,45,12,by decide,jmr,fun _ _=>rfl,fun _ _=>SesM.oneS _⟩
theorem jjU {B g:Nat}{v:Value}{l:List SesM}(h:OwnS w B v l)(hx:Box w g #[v] 28)(hg:∀ k,v.ownBlock=some k->k≠g)(hl:l.length<=1000000000000)(hB:B<=w.heap.size) :
  Calls prog 48 #[.slice (some ⟨g,0,none⟩) 1 1] w fun e w'=>e=.returned (.bool true)/\Mod (fun k=>v.ownBlock=some k) w w' :=
 (jeo (jm9 v l.length B) _ w rfl rfl rfl ⟨⟨fun _=>yS l,fun j hj=>h,fun j hj _=>by omega,fun _=>by simp [xr]⟩,fun j j' hj a0 a2=>by
   have hj:j<1:=hj;have a0:j'<1:=a0
   omega,⟨some ⟨g,0,none⟩,1,rfl,by show 1<=1;omega,by omega,fun h=>(by cases h),fun j hj=>⟨g,0,rfl,by
    have hj:j<1:=hj;rw [qA]
    match j,hj with
    | 0,_=>exact hx.cell 0 _ rfl⟩⟩,fun j hj k hk a1=>by
   have hk:some g=some k:=hk;injection hk with hk
   exact hg k a1 hk.symm,Mod.refl _ _⟩ (by show 1<=1000000;decide) (fun j _=>hl) (fun b hb=>by
   have hb:some g=some b:=hb;injection hb with hb
   subst hb;exact hx.lt) hB).mono (fun e w' ⟨e1,hm⟩=>⟨e1,hm.mono (fun k ⟨j,_,hk⟩=>hk)⟩)
theorem jcX (W:World)(pw p rp c:Nat)(A B:Nat->Prop)(d:DiskM)(s:Option StoM)(st:StM)(sv rv ov:Value)(wr:World)(h:PlayS W pw p rp c A B d s st sv rv ov wr)(hc:c<=1000)(hg:ErrType W) :
  Calls prog 22 #[.pointer (some ⟨pw,0,none⟩)] wr fun r w'=>r=.returned (.bool true)/\∃ (A' B':Nat->Prop) (sv' rv' ov':Value),PlayS W pw p rp (c+1) A' B' (jw d).1 (jaZ (jw d)) (jw d).2.2.1 sv' rv' ov' w':=by
 have a6:=h.pl.opens;have b1:=jkf d;have b5:d.trail.length<=9000000000:=by have:=h.pl.trail;omega
 have a7:=fun (w:World) (hw:SideA w A p d s sv)=>hw.opens (jbG h.pl.wf) b5 (vA h.pl.wf) (jaA d)
 have a8:=fun (w:World) (hw:SideB w B rp d s rv)=>hw.opens h.pl.wf h.pl.small (jbG h.pl.wf) b5 (vA h.pl.wf) (jaA d)
 obtain ⟨s',d9⟩:=Nm (jaZ (jw d));rw [<- d9] at a6 a7 a8 |-;clear d9;obtain ⟨R,hR⟩:=Nm (jw d);rw [<- hR] at a6 b1 a7 a8 |-;clear hR b5;obtain ⟨d',ep,⟨C,Bi,L⟩,er⟩:=R;simp only at a6 b1 a7 a8 |-;have T:=Hd (fun v v' w'=>zQ ⟨C,Bi,L⟩ ⟨C,Bi,L⟩ v v' w')
 have Hm:=Hd (show L.length<=1051 by have:L.length<=50+(c+1):=a6.len;omega)
 have Hn:=Hd (fun v w' (hv:RdS w' v L)=>uH C Bi v L w' hv (by have:=Hm.1;omega))
 simp only at T;obtain ⟨n,hn⟩:=Nm (L.length);have H4:=Hd hn;have c0:=h.bx.cell 0 _ rfl;have A3:=Hd a6;have Ho:=Hd b1;have Hp:=Hd a7;have Hq:=Hd a8;have H:=Hd h;have HG:=Hd hg;clear h a6 b1 a7 a8 hg hn;go_enter func22,ntmps22;go_wp2_with fail;refine (Hp.1 wr H.1.a).mono ?_;rintro r w1 ⟨pv,o,rfl,b6,b7,a2,A',hA,a9,e0,b8⟩;obtain ⟨oa,oc,rfl,_⟩:=a2.slice;rw [<- H4.1] at a2 b8 |-;have a0:=ja w1 (.cells #[C,Bi,.slice oa n oc] 30);have N:=Hd (hA.below a0);have H5:=Hd ((H.1.b.mod a9 (fun k hk e6=>H.1.ab k e6 hk)).below a0)
 have U:=Hd ((H.1.bx.mod a9 H.1.np.1).below a0);have O:=Hd (Box.new w1 #[C,Bi,.slice oa n oc] 30);have H6:=Hd (a2.below a0);have b9:=H.1.bel.trans (a9.below H.1.bel.size (fun k hk=>H.1.lo k (.inl hk)))
 have V:=Hd (b9.trans (a0.mono b9.size));have D:=Hd (show (∀ k,A' k->A k\/wr.heap.size<=k)/\(∀ k,A' k->k<w1.heap.size)/\(∀ k,(Value.slice oa n oc).ownBlock=some k->¬ A' k/\wr.heap.size<=k/\k<w1.heap.size)/\wr.heap.size<=w1.heap.size from ⟨e0,hA.lt,fun k hk=>⟨b8 k hk,(a2.lt k hk).1,(a2.lt k hk).2⟩,a9.size⟩)
 obtain ⟨q1,c7⟩:=Nm (w1.heap.size);rw [<- c7] at O D;have K:=Hd (show q1<(w1.alloc (.cells #[C,Bi,.slice oa n oc] 30)).heap.size from O.1.lt)
 have c2:(w1.alloc (.cells #[C,Bi,.slice oa n oc] 30)).cell? ⟨pw,2,none⟩=some (.pointer (some ⟨rp,0,none⟩)):=U.1.cell 2 _ rfl;clear a2 a0 hA a9 e0 b8 b9 c0 Hp;go_wp2_with fail;rw [<- c7];clear c7;obtain ⟨w1',c8⟩:=Nm ((w1.alloc (.cells #[C,Bi,.slice oa n oc] 30)));rw [<- c8] at N H5 U O H6 V K c2 |-;clear c8;refine (Hq.1 w1' H5.1).mono ?_;rintro r w2 ⟨rpv,o2,rfl,c9,d0,a2,B',hB,a4,b2,e1⟩;obtain ⟨ob,od,rfl,_⟩:=a2.slice;rw [<- H4.1] at a2 e1 |-;have a0:=ja w2 (.cells #[C,Bi,.slice ob n od] 30);have d1:∀ k,A' k->¬ B k:=fun k hk hb=>by
  rcases D.1.1 k hk with g | g
  . exact H.1.ab k g hb
  . have:=H.1.b.lt k hb;omega
 have d2:¬ B q1:=fun hb=>by have:=H.1.b.lt _ hb;have:=D.1.2.2.2;omega
 have H7:=Hd ((N.1.mod a4 d1).below a0);have H8:=Hd (hB.below a0);have H9:=Hd ((U.1.mod a4 H.1.np.2.1).below a0);have G:=Hd ((O.1.mod a4 d2).below a0);have E:=Hd (Box.new w2 #[C,Bi,.slice ob n od] 30);have X:=Hd ((H6.1.mod a4 (fun k hk hb=>by have:=H.1.b.lt k hb;have:=(D.1.2.2.1 k hk).2.1;omega)).below a0)
 have Y:=Hd (a2.below a0);have d3:=V.1.trans (a4.below V.1.size (fun k hk=>H.1.lo k (.inr hk)))
 have P:=Hd (d3.trans (a0.mono d3.size));have e7:=H.1.bx.lt;have HN:=Hd (show q1≠pw/\w2.heap.size≠pw/\q1≠w2.heap.size/\(∀ k,(Value.slice ob n od).ownBlock=some k->k≠pw) from
  ⟨by have:=D.1.2.2.2;omega,by have:=K.1;have:=a4.size;have:=D.1.2.2.2;omega,by have:=K.1;have:=a4.size;omega,fun k hk e=>by have:=(a2.lt k hk).1;have:=K.1;have:=D.1.2.2.2;omega⟩)
 have Z:=Hd (show w2.heap.size+1<=(w2.alloc (.cells #[C,Bi,.slice ob n od] 30)).heap.size from E.1.lt)
 have F:=Hd (show (∀ k,B' k->B k\/q1<k)/\(∀ k,A' k->¬ B' k)/\(∀ k,B' k->k<w2.heap.size)/\(∀ k,A' k->k<w2.heap.size)/\¬ A' pw/\¬ B' pw from
  ⟨fun k hk=>(b2 k hk).imp id (fun g=>qu K.1 g),fun k hk hb=>by
   rcases b2 k hb with g | g
   . exact d1 k hk g
   . have:=N.1.lt k hk;omega,hB.lt,fun k hk=>qu (N.1.lt k hk) a4.size,fun hk=>by
   rcases D.1.1 _ hk with g | g
   . exact H.1.np.1 g
   . omega,fun hk=>by
   rcases b2 _ hk with g | g
   . exact H.1.np.2.1 g
   . have:=K.1;have:=D.1.2.2.2;omega⟩)
 have Q:=Hd (xI er _ Ho.1.1 Ho.1.2 (HG.1.below P.1));obtain ⟨q2,d4⟩:=Nm (w2.heap.size);rw [<- d4] at E HN Z F;obtain ⟨w2',b0⟩:=Nm ((w2.alloc (.cells #[C,Bi,.slice ob n od] 30)));rw [<- b0] at H7 H8 H9 G E X Y P Z Q;obtain ⟨pq,rfl⟩:∃ a,pv=.pointer a:=by
  by_cases h0:er=0
  . obtain ⟨a,h⟩:=b6 h0;exact ⟨_,h⟩
  . exact ⟨_,b7 h0⟩
 obtain ⟨rq,rfl⟩:∃ a,rpv=.pointer a:=by
  by_cases h0:er=0
  . obtain ⟨a,h⟩:=c9 h0;exact ⟨_,h⟩
  . exact ⟨_,d0 h0⟩
 have Ha:=Hd (And.intro b6 b7);clear a2 a0 hB a4 b2 e1 d3 e7 d1 d2 c2 Hq N H5 U O H6 V K b6 b7 c9 d0
 go_upto_region 3 with (fail)
 rw [<- d4,<- b0];clear d4 b0
 go_cut [43] (fun s43 wx=>s43=.bool false/\Below w2'.heap.size w2' wx)
 case first =>
  have main:∀ (w3:World),Below w2'.heap.size w2' w3->Calls prog 16 #[.agg #[C,Bi,.slice oa n oc],.agg #[C,Bi,.slice ob n od]] w3 fun e w'=>e=.returned (.bool true)/\Below w3.heap.size w3 w':=fun w3 a1=>by
   have e2:=T.1 (.slice oa n oc) (.slice ob n od) w3 (X.1.below a1).rd (Y.1.below a1).rd;rw [jgC] at e2;exact e2
  have Hr:=Hd main;clear main T;by_cases h0:er=0
  .
   obtain ⟨pa,ha⟩:=Ha.1.1 h0;injection ha with ha
   subst ha;subst h0;rw [show jm 0=.nilIface from rfl] at Q |-
   go_wp2_with fail;refine Q.1.mono ?_;rintro r w3 ⟨rfl,a1⟩;have z0:=(G.1.below a1).cell 0 _ rfl;have z1:=(G.1.below a1).cell 1 _ rfl;have z2:=(G.1.below a1).cell 2 _ rfl;have y0:=(E.1.below a1).cell 0 _ rfl;have y1:=(E.1.below a1).cell 1 _ rfl;have y2:=(E.1.below a1).cell 2 _ rfl;have HM:=Hd (Hr.1 w3 a1);have HB:=Hd a1;clear a1;go_wp2_with fail;refine HM.1.mono ?_;rintro r w4 ⟨rfl,a3⟩;have M:=Hd (HB.1.trans (a3.mono HB.1.size));clear a3;go_wp2;go_meet;exact ⟨rfl,M.1⟩
  .
   have ha:=Ha.1.2 h0;injection ha with ha
   subst ha;have e8:(er != 0)=true:=by rw [wl];exact h0
   clear h0;go_wp2_with fail;refine Q.1.mono ?_;rintro r w3 ⟨rfl,a1⟩;have z0:=(G.1.below a1).cell 0 _ rfl;have z1:=(G.1.below a1).cell 1 _ rfl;have z2:=(G.1.below a1).cell 2 _ rfl;have y0:=(E.1.below a1).cell 0 _ rfl;have y1:=(E.1.below a1).cell 1 _ rfl;have y2:=(E.1.below a1).cell 2 _ rfl;have HM:=Hd (Hr.1 w3 a1);have HB:=Hd a1;clear a1;go_wp2_with fail;refine HM.1.mono ?_;rintro r w4 ⟨rfl,a3⟩;have M:=Hd (HB.1.trans (a3.mono HB.1.size));clear a3;go_wp2;go_meet;exact ⟨rfl,M.1⟩
 case rest =>
  obtain ⟨rfl,a3⟩:=hcut;have Hs:=Hd (H7.1.below a3);have M:=Hd (H8.1.below a3);have I:=Hd (H9.1.below a3);have Hb:=Hd (G.1.below a3);have Ht:=Hd (E.1.below a3);have H0:=Hd (X.1.below a3);have Hu:=Hd (Y.1.below a3);have Hc:=Hd (P.1.trans (a3.mono P.1.size));have He:=Hd (qi Z.1 a3.size);clear a3 H7 H8 H9 G E X Y P Z Q Ha T;have c1:=I.1.cell 1 _ rfl;have c3:=I.1.cell 3 _ rfl;have f1:=I.1.free 1;have f3:=I.1.free 3;have b3:Mod (fun k=>k=pw) wc ((wc.setCell ⟨pw,1,none⟩ (.pointer pq)).setCell ⟨pw,3,none⟩ (.pointer rq)):=(Mod.set (fun k=>k=pw) wc ⟨pw,1,none⟩ (.pointer pq) rfl).trans (Mod.set _ _ ⟨pw,3,none⟩ (.pointer rq) rfl)
  have Hf:=Hd ((I.1.set 1 (.pointer pq)).set 3 (.pointer rq));have H1:=Hd b3;have S:=Hd (Ht.1.mod b3 (fun e=>HN.1.2.1 e))
  have Hg:=Hd (Hu.1.mod b3 (fun k hk e=>(HN.1.2.2.2 k hk) e))
  obtain ⟨y0,y1,y2⟩:=C3 S.1;clear b3;go_wp2_with fail;obtain ⟨w5,e3⟩:=Nm (((wc.setCell ⟨pw,1,none⟩ (.pointer pq)).setCell ⟨pw,3,none⟩ (.pointer rq)));rw [<- e3] at Hf H1 S Hg y0 y1 y2 |-;clear e3 c1 c3 f1 f3 y0 y1 y2;refine (Hn.1 (.slice ob n od) w5 Hg.1.rd).mono ?_;rintro r w6 ⟨o3,rfl,a2,d5⟩;obtain ⟨ga,gc,rfl,_⟩:=a2.slice;rw [<- H4.1] at a2 |-;have J:=Hd (Hf.1.below d5);have Hv:=Hd (H1.1.trans (Mod.of_below d5));have Hw:=Hd a2;have Hh:=Hd (show ∀ k,(Value.slice ga n gc).ownBlock=some k->wc.heap.size<=k/\k<w6.heap.size from fun k hk=>⟨qi H1.1.size (a2.lt k hk).1,(a2.lt k hk).2⟩)
  clear a2 d5 Hf H1 S Hg Hn;have c4:=J.1.cell 4 _ rfl;have c5:=J.1.cell 5 _ rfl;have c6:=J.1.cell 6 _ rfl;have f4:=J.1.free 4;have f5:=J.1.free 5;have f6:=J.1.free 6;have b4:Mod (fun k=>k=pw) w6 (((w6.setCell ⟨pw,4,none⟩ C).setCell ⟨pw,5,none⟩ Bi).setCell ⟨pw,6,none⟩ (.slice ga n gc)):=((Mod.set (fun k=>k=pw) w6 ⟨pw,4,none⟩ C rfl).trans (Mod.set _ _ ⟨pw,5,none⟩ Bi rfl)).trans (Mod.set _ _ ⟨pw,6,none⟩ (.slice ga n gc) rfl)
  have Hi:=Hd (((J.1.set 4 C).set 5 Bi).set 6 (.slice ga n gc));have H2:=Hd (Hv.1.trans b4);have Hj:=Hd (Hw.1.mod b4 (fun k hk e=>by have:=(Hh.1 k hk).1;have:=I.1.lt;omega))
  have Hk:=Hd (Hb.1.mod H2.1 (fun e=>HN.1.1 e))
  have Hl:=Hd b4.size;have z2:(((w6.setCell ⟨pw,4,none⟩ C).setCell ⟨pw,5,none⟩ Bi).setCell ⟨pw,6,none⟩ (.slice ga n gc)).cell? ⟨q1,2,none⟩=some (.slice oa n oc):=Hk.1.cell 2 _ rfl;clear b4 Hv Hw;go_wp2_with fail;obtain ⟨w7,d6⟩:=Nm ((((w6.setCell ⟨pw,4,none⟩ C).setCell ⟨pw,5,none⟩ Bi).setCell ⟨pw,6,none⟩ (.slice ga n gc)));rw [<- d6] at Hi H2 Hj Hk Hl z2 |-;have e4:w7.heap.size=w6.heap.size:=by rw [d6];simp
  clear d6 c4 c5 c6 f4 f5 f6;have d7:∀ k,(Value.slice oa n oc).ownBlock=some k->wr.heap.size<=k/\k<q1/\¬ A' k/\¬ B' k/\k≠pw:=fun k hk=>by
   have h1:=D.1.2.2.1 k hk;have h2:=H.1.bx.lt;refine ⟨h1.2.1,h1.2.2,h1.1,fun hb=>?_,by omega⟩
   rcases F.1.1 k hb with g | g
   . have:=H.1.b.lt k g;omega
   . omega
  have H3:=Hd d7;have a0:=ja w7 (.cells #[.slice oa n oc] 28);have hw:=H2.1;have e5:=(H0.1.mod hw (fun k hk=>(d7 k hk).2.2.2.2)).below a0
  have hX:=Box.new w7 #[.slice oa n oc] 28;have h1:wc.heap.size<=w7.heap.size:=hw.size;have d8:=jjU (l:=L) e5 hX (fun k hk e=>by have:=(H0.1.lt k hk).2;omega) (by have:=Hm.1;omega) (by have:=I.1.lt;have:=H.1.bx.lt;have:=D.1.2.2.2;have:=He.1;rw [qj];have:=HN.1;have:=Hb.1.lt;omega)
  rw [e4] at d8;have Hx:=Hd d8;have Hy:=Hd ((Hs.1.mod hw (fun k hk e=>F.1.2.2.2.2.1 (by rw [<- e];exact hk))).below a0)
  have Hz:=Hd ((M.1.mod hw (fun k hk e=>F.1.2.2.2.2.2 (by rw [<- e];exact hk))).below a0)
  have A0:=Hd (Hi.1.below a0);have A1:=Hd (Hj.1.rd.below a0);have A4:=Hd (show ∀ k,(Value.slice oa n oc).ownBlock=some k->k<wc.heap.size from fun k hk=>(H0.1.lt k hk).2)
  have hW:=Hc.1.trans (hw.below Hc.1.size (fun k hk=>by have:=H.1.np.2.2;omega))
  have A2:=Hd (hW.trans (a0.mono hW.size));have A5:=Hd (show w6.heap.size<=(w7.alloc (.cells #[.slice oa n oc] 28)).heap.size from qi Hl.1 a0.size)
  have A6:=Hd (show q2<wc.heap.size/\pw<wc.heap.size from ⟨He.1,I.1.lt⟩)
  clear e4 d7 a0 hw e5 hX h1 d8 hW Hs M Hi Hj H0 Hc Hb Ht Hu J H2 Hk Hl He I;go_wp2_with fail;refine (show Calls _ _ #[.slice (some ⟨w6.heap.size,0,none⟩) 1 1] _ _ from Hx.1).mono ?_
  rintro r w9 ⟨rfl,a5⟩;have HF:=Hd (show PlayS W pw p rp (c+1) A' B' d' s' ⟨C,Bi,L⟩ (.pointer pq) (.pointer rq) (.slice ga n gc) w9 from
   ⟨Hy.1.mod a5 (fun k hk ho=>(H3.1 k ho).2.2.1 hk),Hz.1.mod a5 (fun k hk ho=>(H3.1 k ho).2.2.2.1 hk),A0.1.mod a5 (fun ho=>(H3.1 pw ho).2.2.2.2 rfl),A1.1.mod a5 (fun k hk ho=>by have:=(Hh.1 k hk).1;have:=A4.1 k ho;omega),F.1.2.1,⟨F.1.2.2.2.2.1,F.1.2.2.2.2.2,H.1.np.2.2⟩,fun k hk=>by
    have h1:=Hh.1 k hk;have h2:=A6.1;have h3:=H.1.bx.lt;have h4:=D.1.2.2.2;refine ⟨fun g=>by have:=F.1.2.2.2.1 k g;omega,fun g=>by have:=F.1.2.2.1 k g;omega,fun e=>?_,by have:=A5.1;have:=a5.size;omega⟩
    omega,fun k hk=>by
    have h5:=H.1.bel.size
    rcases hk with hk | hk
    .
     rcases D.1.1 k hk with g | g
     . exact H.1.lo k (.inl g)
     . omega
    .
     rcases F.1.1 k hk with g | g
     . exact H.1.lo k (.inr g)
     . have:=D.1.2.2.2;omega,A3.1,A2.1.trans (a5.below A2.1.size (fun k hk=>by have:=(H3.1 k hk).1;have:=H.1.bel.size;omega))⟩)
  clear a5 Hx Hy Hz A0 A1;go_wp2;go_ret;exact ⟨rfl,_,_,_,_,_,HF.1⟩
structure ActS where
 kind:Int
 n:Int
 e:EvtM
 odd:Bool
 st:StM
 sv:Value
 tx:ByteArray
def ActS.list (x:ActS):List Value:=.int .i64 x.kind::.int .i64 x.n::(x.e.cells.toList ++ [.bool x.odd,.int .i64 x.st.clock,.int .i64 x.st.births,x.sv,.string x.tx])
def ActS.cells (x:ActS):Array Value:=x.list.toArray
theorem ActS.length (x:ActS):x.list.length=22:=rfl
structure ActS.Ok (W:World)(x:ActS):Prop where
 kind:I64 x.kind
 n:I64 x.n
 ev:EvOk x.e
 rd:RdS W x.sv x.st.l
 ok:∀ s∈x.st.l,SesOk s
 len:x.st.l.length+16<=1256584717457
 tx:x.tx.size<=9223372036854775807
theorem ActS.ev {b:Nat}{x:ActS}{t:TypeId}(h:Box w b x.cells t):w.rangeAt b 2 x.e.cells.toList:=h.range 2 _ (fun j v hv=>by
 have hj:j<15:=(List.getElem?_eq_some_iff.1 hv).1;show x.list.toArray[2+j]?=some v;rw [List.getElem?_toArray,Nat.add_comm];show (x.e.cells.toList++_)[j]?=some v;rw [List.getElem?_append_left hj];exact hv)
theorem jmO {b:Nat}{a0 a1 a2 a3 x y z:Value}{t:TypeId}(h:Box w b #[a0,a1,a2,a3,x,y,z] t):w.rangeAt b 4 #[x,y,z].toList:=h.range 4 _ (fun j v hv=>by
 match j,hv with
 | 0,hv=>exact hv
 | 1,hv=>exact hv
 | 2,hv=>exact hv)
theorem jlB (a:Option Addr)(n m c k:Nat)(h:(Value.slice a n c).ownBlock=some k):(Value.slice a m c).ownBlock=some k:=by
 cases a with
 | none=>cases h
 | some a=>exact h
theorem SideA.sv {sv:Value}(h:SideA w A p d s sv):(s=none/\sv=.pointer none)\/∃ t ps,s=some t/\sv=.pointer (some ⟨ps,0,none⟩):=by
 obtain ⟨_,_,_,h3⟩:=h.ex
 rcases h3 with h3 | ⟨ps,pl,t,e1,e2,_⟩
 . exact .inl h3
 . exact .inr ⟨t,ps,e1,e2⟩
theorem SideB.sv {sv:Value}(h:SideB w A p d s sv):(s=none/\sv=.pointer none)\/∃ t ps,s=some t/\sv=.pointer (some ⟨ps,0,none⟩):=by
 obtain ⟨_,_,_,h3⟩:=h.ex
 rcases h3 with h3 | ⟨ps,pl,t,e1,e2,_⟩
 . exact .inl h3
 . exact .inr ⟨t,ps,e1,e2⟩
theorem SideA.told {sv:Value}(h:SideA w A p d (some t) sv):(Calls prog 17 #[sv] w fun e w'=>e=.returned (I32 t.epoch)/\w'=w)/\(Calls prog 18 #[sv] w fun e w'=>e=.returned (t.log.records:Int)/\w'=w):=by
 obtain ⟨_,_,_,h3⟩:=h.ex
 rcases h3 with ⟨h3,_⟩ | ⟨ps,pl,t',e1,rfl,a1,a2,f1,f2,ne,b,l⟩
 . cases h3
 injection e1 with e1
 subst e1;exact ⟨xe ps p _ _ _ w b,yP ps p pl _ _ _ w b l⟩
theorem SideB.told {ps:Nat}(h:SideB w A p d (some t) (.pointer (some ⟨ps,0,none⟩))):∃ pl,w.cell? ⟨ps,1,none⟩=some (.int .u32 (I32 t.epoch))/\w.cell? ⟨ps,2,none⟩=some (.pointer (some ⟨pl,0,none⟩))/\w.cell? ⟨pl,5,none⟩=some (.int .i64 (t.log.records:Int)):=by
 obtain ⟨_,_,_,h3⟩:=h.ex
 rcases h3 with ⟨h3,_⟩ | ⟨ps',pl,t',e1,e2,a1,a2,f1,f2,ne,b,l⟩
 . cases h3
 injection e1 with e1
 subst e1;injection e2 with e2
 injection e2 with e2
 injection e2 with e2
 subst e2;exact ⟨pl,b.bx.cell 1 _ rfl,b.bx.cell 2 _ rfl,Box.cell l 5 _ rfl⟩
structure Given (W wr:World)(pw:Nat)(A B:Nat->Prop)(S:StM)(v:Value):Prop where
 rd:RdS wr v S.l
 ok:∀ s∈S.l,SesOk s
 len:S.l.length+16<=1256584717457
 nv:0<S.l.length->∀ k,v.ownBlock=some k->¬ A k/\¬ B k/\k<wr.heap.size
structure NxtS (w wx:World)(q:Nat)(C B:Int)(o:Value)(L:List SesM):Prop where
 bel:Below w.heap.size w wx
 bx:Box wx q #[C,B,o] 30
 rs:RdS wx o L
 nv:∀ k,o.ownBlock=some k->w.heap.size<=k/\k<wx.heap.size
 ge:w.heap.size<=q
theorem PlayS.more {sv:Value}(h:PlayS W pw p rp c A B d s st sv rv ov wr)(hc:c<=c'):PlayS W pw p rp c' A B d s st sv rv ov wr :=
 ⟨h.a,h.b,h.bx,h.rs,h.ab,h.np,h.nv,h.lo,h.pl.more hc,h.bel⟩
theorem PlayS.put {sv:Value}(h:PlayS W pw p rp c A B d s st sv rv ov wr)(C2 B2:Int)(L2:List SesM)(o:Value)(hr:RdS wr o L2)(hv:∀ k,o.ownBlock=some k->¬ A k/\¬ B k/\k≠pw/\k<wr.heap.size)(h1:∀ x∈L2,SesOk x)(h2:L2.length<=50+c) :
  PlayS W pw p rp c A B d s ⟨C2,B2,L2⟩ sv rv o (((wr.setCell ⟨pw,4,none⟩ C2).setCell ⟨pw,5,none⟩ B2).setCell ⟨pw,6,none⟩ o):=by
 have hm:Mod (fun k=>k=pw) wr (((wr.setCell ⟨pw,4,none⟩ C2).setCell ⟨pw,5,none⟩ B2).setCell ⟨pw,6,none⟩ o):=((Mod.set (fun k=>k=pw) wr ⟨pw,4,none⟩ C2 rfl).trans (Mod.set _ _ ⟨pw,5,none⟩ B2 rfl)).trans (Mod.set _ _ ⟨pw,6,none⟩ o rfl)
 exact ⟨h.a.mod hm (fun k hk e=>h.np.1 (by rw [<- e];exact hk)),h.b.mod hm (fun k hk e=>h.np.2.1 (by rw [<- e];exact hk)),((h.bx.set 4 C2).set 5 B2).set 6 o,hr.mod hm (fun k hk=>(hv k hk).2.2.1),h.ab,h.np,fun k hk=>by obtain ⟨a,b,e,f⟩:=hv k hk;exact ⟨a,b,e,qu f hm.size⟩,h.lo,h.pl.put h1 h2,h.bel.trans (hm.below h.bel.size (fun k hk=>by have:=h.np.2.2;omega))⟩
theorem jeF (W:World)(pw p rp c:Nat)(A B:Nat->Prop)(d:DiskM)(s:Option StoM)(st:StM)(sv rv ov:Value)(wr:World)(x:ActS)(h:PlayS W pw p rp c A B d s st sv rv ov wr)(hx:x.Ok W)(hc:c<=1000)(hg:ErrType W) :
  Calls prog 27 #[.pointer (some ⟨pw,0,none⟩),.agg x.cells] wr fun r w'=>r=.returned (.bool true)/\∃ (A' B':Nat->Prop) (d':DiskM) (s':Option StoM) (st':StM) (ov':Value),PlayS W pw p rp (c+2) A' B' d' s' st' sv rv ov' w':=by
 have a1:=ja wr (.cells x.cells 68);have H:=Hd (h.to a1);have F:=Hd (Box.new wr x.cells 68);obtain ⟨oa,oc,rfl,_⟩:=h.rs.slice;obtain ⟨m,hm⟩:=Nm (st.l.length);have i0:=h.rs;rw [<- hm] at H;have HM:=Hd hm;have T:=Hd (show (∀ k,A k\/B k\/k=pw->k<wr.heap.size) from fun k hk=>by
  rcases hk with hk | hk | rfl
  . exact h.a.lt k hk
  . exact h.b.lt k hk
  . exact h.bx.lt)
 have A7:=Hd h.bel.size;have J:=Hd hx;have HC:=Hd hc;have HG:=Hd hg;have i3:=h.a.sv;have i4:=h.b.sv;clear a1 h hx hc hg i0 hm;obtain ⟨q0,b9⟩:=Nm (wr.heap.size);rw [<- b9] at F T A7;obtain ⟨w1,a3⟩:=Nm ((wr.alloc (.cells x.cells 68)));rw [<- a3] at H F;have A8:=Hd (show q0<w1.heap.size from F.1.lt)
 rcases i3 with ⟨rfl,rfl⟩ | ⟨t,ps,rfl,rfl⟩
 .
  have b1:(wr.alloc (.cells x.cells 68)).cell? ⟨pw,1,none⟩=some (.pointer none):=by rw [<- a3];exact H.1.bx.cell 1 _ rfl
  go_enter func27,ntmps27;go_wp2_with fail;rw [<- a3];go_ret;exact ⟨rfl,A,B,d,none,st,.slice oa m oc,⟨H.1.a,H.1.b,H.1.bx,H.1.rs,H.1.ab,H.1.np,H.1.nv,H.1.lo,H.1.pl.more (wn _ _),H.1.bel⟩⟩
 rcases i4 with ⟨h0,_⟩ | ⟨t',rs,h0,rfl⟩
 . cases h0
 injection h0 with h0
 subst h0;have b1:(wr.alloc (.cells x.cells 68)).cell? ⟨pw,1,none⟩=some (.pointer (some ⟨ps,0,none⟩)):=by rw [<- a3];exact H.1.bx.cell 1 _ rfl
 have b3:(wr.alloc (.cells x.cells 68)).cell? ⟨pw,3,none⟩=some (.pointer (some ⟨rs,0,none⟩)):=by rw [<- a3];exact H.1.bx.cell 3 _ rfl
 have b4:(wr.alloc (.cells x.cells 68)).cell? ⟨pw,4,none⟩=some (.int .i64 st.clock):=by rw [<- a3];exact H.1.bx.cell 4 _ rfl
 have b5:(wr.alloc (.cells x.cells 68)).cell? ⟨pw,5,none⟩=some (.int .i64 st.births):=by rw [<- a3];exact H.1.bx.cell 5 _ rfl
 have b6:(wr.alloc (.cells x.cells 68)).cell? ⟨pw,6,none⟩=some (.slice oa m oc):=by rw [<- a3];exact H.1.bx.cell 6 _ rfl
 have c0:Box ((wr.alloc (.cells x.cells 68)).alloc (.cells #[st.clock,st.births,.slice oa m oc] 30)) q0 x.cells 68:=by rw [<- a3];exact F.1.below (ja _ _)
 have x17:((wr.alloc (.cells x.cells 68)).alloc (.cells #[st.clock,st.births,.slice oa m oc] 30)).cell? ⟨q0,17,none⟩=some (.bool x.odd):=c0.cell 17 _ rfl;have x18:((wr.alloc (.cells x.cells 68)).alloc (.cells #[st.clock,st.births,.slice oa m oc] 30)).cell? ⟨q0,18,none⟩=some (.int .i64 x.st.clock):=c0.cell 18 _ rfl;have x19:((wr.alloc (.cells x.cells 68)).alloc (.cells #[st.clock,st.births,.slice oa m oc] 30)).cell? ⟨q0,19,none⟩=some (.int .i64 x.st.births):=c0.cell 19 _ rfl;have x20:((wr.alloc (.cells x.cells 68)).alloc (.cells #[st.clock,st.births,.slice oa m oc] 30)).cell? ⟨q0,20,none⟩=some x.sv:=c0.cell 20 _ rfl;rw [b9] at x17 x18 x19 x20;obtain ⟨xa,xc,d6,_⟩:=J.1.rd.slice;obtain ⟨xn,e5⟩:=Nm (x.st.l.length);rw [<- e5] at d6;rw [d6] at x20;have A9:=Hd d6;have Ab:=Hd e5;obtain ⟨od,g3⟩:=Nm (x.odd);rw [<- g3] at x17;clear c0 d6 e5 g3;go_enter func27,ntmps27
 go_upto_if 28 with (fail)
 go_cut [] (fun wx=>∃ (S:StM) (v:Value),wx=w1.alloc (.cells #[S.clock,S.births,v] 30)/\Given W w1 pw A B S v)
 case first =>
  cases od
  rotate_left
  .
   go_wp2;go_meet;refine ⟨x.st,x.sv,by rw [A9.1,a3],⟨J.1.rd.below H.1.bel,J.1.ok,J.1.len,fun h0 k hk=>?_⟩⟩
   have i8:k<W.heap.size:=Rd.blk J.1.rd (by rw [zq];omega) k hk
   exact ⟨fun g=>by have:=H.1.lo k (.inl g);omega,fun g=>by have:=H.1.lo k (.inr g);omega,by have:=H.1.bel.size;omega⟩
  .
   skip
   go_wp2;go_meet;exact ⟨st,.slice oa m oc,by rw [a3],⟨H.1.rs,H.1.pl.ok,by have:=H.1.pl.len;have:=HC.1;omega,fun _ k hk=>⟨(H.1.nv k hk).1,(H.1.nv k hk).2.1,(H.1.nv k hk).2.2.2⟩⟩⟩
 case rest =>
  obtain ⟨⟨C,Bi,L⟩,v,rfl,b7⟩:=hcut;have g4:w1.heap.size=q0+1:=by rw [a3,qj,b9]
  rw [<- b9];clear a3 b9;obtain ⟨va,vc,rfl,_⟩:=b7.rd.slice;obtain ⟨n,hn⟩:=Nm (L.length);have e6:RdS w1 (.slice va L.length vc) L:=b7.rd;have U:=Hd (show 0<L.length->∀ k,(Value.slice va n vc).ownBlock=some k->¬ A k/\¬ B k/\k<w1.heap.size from by rw [hn];exact b7.nv)
  have Hh:=Hd (show ∀ s∈L,SesOk s from b7.ok)
  have Hu:=Hd (b7.len:L.length+16<=1256584717457);clear b7;rw [show (StM.mk C Bi L).l.length=n from hn.symm]
  rw [<- hn] at e6;have Hi:=Hd hn;have a1:=ja w1 (.cells #[C,Bi,.slice va n vc] 30);have H2:=Hd (H.1.to a1);have Hj:=Hd (F.1.below a1);have H9:=Hd (e6.below a1);have h5:=Box.new w1 #[C,Bi,.slice va n vc] 30;rw [g4] at h5;have O:=Hd h5;clear a1 e6 h5 hn g4;obtain ⟨e0,e1,e2⟩:=C3 O.1;have Ha:=Hd (jde C Bi (.slice va L.length vc) L _ (by have:=H9.1;rw [Hi.1] at this;exact this) Hu.1)
  rw [<- Hi.1] at Ha;obtain ⟨w2,e7⟩:=Nm ((w1.alloc (.cells #[C,Bi,.slice va n vc] 30)));go_wp2_with fail;rw [<- e7] at H2 Hj H9 O e0 e1 e2 Ha |-;have Hv:=Hd (show w1.heap.size<w2.heap.size by rw [e7,qj];exact Nat.lt_succ_self _)
  clear e7 e0 e1 e2 b1 b3 b4 b5 b6 x17 x18 x19 x20 H F;refine (show Calls _ _ #[.agg #[C,Bi,.slice va n vc]] w2 _ from Ha.1).mono ?_
  rintro r w3 ⟨o,rfl,g5,a4⟩;have b8:=g5;obtain ⟨ga,gc,rfl,_⟩:=g5;rw [<- Hi.1] at b8 |-;have a1:=ja w3 (.cells #[C,Bi,.slice ga n gc] 30);have I:=Hd ((H2.1.to a4).to a1);have Hk:=Hd ((Hj.1.below a4).below a1);have Hl:=Hd ((O.1.below a4).below a1);have Hm:=Hd ((H9.1.below a4).below a1);have Hb:=Hd (b8.below a1);have V:=Hd (Box.new w3 #[C,Bi,.slice ga n gc] 30);have X:=Hd (show ∀ k,(Value.slice ga n gc).ownBlock=some k->w2.heap.size<=k/\k<w3.heap.size from fun k hk=>by
   obtain ⟨a',c',e,h⟩:=b8;injection e with e1 _ e3
   subst e1;subst e3;exact h.lt k (jlB _ _ _ _ _ hk))
  have Hc:=Hd a4.size;obtain ⟨q6,e8⟩:=Nm (w3.heap.size);rw [<- e8] at V X Hc;obtain ⟨w4,e9⟩:=Nm ((w3.alloc (.cells #[C,Bi,.slice ga n gc] 30)));rw [<- e9] at I Hk Hl Hm Hb V;clear b8 a4 a1 H2 Hj O H9 Ha;have Hw:=Hd (show q6<w4.heap.size from V.1.lt)
  go_wp2_with fail;rw [<- e8,<- e9];clear e8 e9;obtain ⟨f1,f2,f3,f4⟩:=I.1.pl.fit t rfl;have f0:d.trail.length<=9000000000:=by have:=I.1.pl.trail;have:=HC.1;omega
  have a5:=J.1.ev;have f7:t.log.records<=1000000000:=by have:=HC.1;omega
  have M:=Hd (fun w (hw:SideA w A p d (some t) (.pointer (some ⟨ps,0,none⟩))) (hr:RdS w (.slice ga n gc) L) hv=>hw.append x.e ⟨C,Bi,L⟩ (.slice ga n gc) hr hv Hh.1 (qi a5.user (by decide)) (qi a5.label (by decide)) a5.scopes f0 f1 f2 f3 f7)
  have He:=Hd (fun w (hw:SideB w B rp d (some t) (.pointer (some ⟨rs,0,none⟩))) (hr:RdS w (.slice va n vc) L) hv=>hw.append x.e ⟨C,Bi,L⟩ (.slice va n vc) hr hv Hh.1 (qi a5.user (by decide)) (qi a5.label (by decide)) a5.scopes f0 f1 f2 f3 f7 I.1.pl.small)
  have Hf:=Hd (jgL t d x.e ⟨C,Bi,L⟩);have Hg:=Hd (I.1.pl.append x.e ⟨C,Bi,L⟩);clear f1 f2 f3 f4 f0 a5 f7;obtain ⟨R,hR⟩:=Nm (t.append d x.e ⟨C,Bi,L⟩);rw [<- hR] at M He Hf Hg;clear hR;obtain ⟨t1,d1,er⟩:=R;simp only at M He Hf Hg;have c7:w4.drew.cell? ⟨pw,1,none⟩=some (.pointer (some ⟨ps,0,none⟩))/\Box w4.drew q0 x.cells 68/\Box w4.drew q6 #[C,Bi,.slice ga n gc] 30:=⟨I.1.bx.cell 1 _ rfl,Hk.1.below (jb w4),V.1.below (jb w4)⟩;refine qt (S:=fun W=>W.cell? ⟨pw,1,none⟩=some (.pointer (some ⟨ps,0,none⟩))/\Box W q0 x.cells 68/\Box W q6 #[C,Bi,.slice ga n gc] 30) (by kernel_rfl) c7 (fun a0=>?_)
  refine Tk 0 33 ?_;refine Tk 1 34 ?_;refine Tk 2 35 ?_;refine Tk 3 36 ?_ (hy:=by intro w' a2;have c1:=a2.1;clear a2;go_simp;try with_reducible rfl)
  refine Tk 4 37 ?_;refine Tk 5 38 ?_ (v:=.agg x.e.cells) (hy:=fun w' a2=>Ek (ActS.ev a2.2.1) underlying47)
  refine Tk 6 39 ?_ (v:=.agg #[C,Bi,.slice ga n gc]) (hy:=fun w' a2=>Ek (jj a2.2.2) underlying30)
  refine Rc 7 40 fun K hK=>?_
  go_simp
  have P:=Hd (I.1.to (jb w4));have Q:=Hd (show ∀ k,A k\/B k\/k=pw\/k=q0\/k=q0+1->k<w2.heap.size from fun k hk=>by
   have h1:=Hv.1;have h2:=A8.1
   rcases hk with hk | hk | hk | hk | hk
   . have:=T.1 k (.inl hk);omega
   . have:=T.1 k (.inr (.inl hk));omega
   . have:=T.1 k (.inr (.inr hk));omega
   . omega
   . omega)
  have Y:=Hd (show ∀ k,A k\/B k->k≠q0/\k≠q0+1/\k<q0 from fun k hk=>by
   have h1:=T.1 k (hk.elim .inl (fun h=>.inr (.inl h)))
   omega)
  refine (show Calls _ _ #[.pointer (some ⟨ps,0,none⟩),.agg x.e.cells,.agg #[C,Bi,.slice ga n gc]] w4.drew _ from M.1 w4.drew P.1.a (Hb.1.below (jb w4)).rd (fun k hk=>⟨fun g=>by have:=Q.1 k (.inl g);have:=(X.1 k hk).1;omega,by have:=(X.1 k hk).2;have:=Hw.1;show k<w4.heap.size;omega⟩)).mono ?_
  rintro e3 w5 ⟨rfl,A',g6,a6,g7⟩;have Hn:=Hd (a0.2.1.mod a6 (fun g=>(Y.1 q0 (.inl g)).1 rfl))
  have Ho:=Hd (a0.2.2.mod a6 (fun g=>by have:=Q.1 q6 (.inl g);have:=Hc.1;omega))
  refine hK.out _ _ ⟨(P.1.bx.mod a6 I.1.np.1).cell 1 _ rfl,Hn.1,Ho.1⟩ (fun i5=>?_)
  have Hp:=Hd (P.1.bx.mod a6 I.1.np.1);have Z:=Hd (And.intro g6 (And.intro a6 g7));have Hx:=Hd (P.1.b.mod a6 (fun k hk g=>I.1.ab k g hk))
  have Hy:=Hd ((Hl.1.below (jb w4)).mod a6 (fun g=>(Y.1 _ (.inl g)).2.1 rfl))
  have Hq:=Hd (RdS.mod1 (Hm.1.below (jb w4)) a6 (fun h0 k hk=>(U.1 h0 k hk).1))
  have Hz:=Hd ((Hb.1.below (jb w4)).mod a6 (fun k hk g=>by have:=Q.1 k (.inl g);have:=(X.1 k hk).1;omega))
  clear hK K a0 g6 a6 g7 M c7 Hk Hl Hm Hb V
  try simp only [Nz]
  refine Tk 8 7 ?_;refine Dn ?_;clear i5;go_wp2_with fail;have c7:w5.drew.cell? ⟨pw,3,none⟩=some (.pointer (some ⟨rs,0,none⟩))/\Box w5.drew q0 x.cells 68/\Box w5.drew (q0+1) #[C,Bi,.slice va n vc] 30:=⟨(Hp.1.below (jb w5)).cell 3 _ rfl,Hn.1.below (jb w5),Hy.1.below (jb w5)⟩;refine qt (S:=fun W=>W.cell? ⟨pw,3,none⟩=some (.pointer (some ⟨rs,0,none⟩))/\Box W q0 x.cells 68/\Box W (q0+1) #[C,Bi,.slice va n vc] 30) (by kernel_rfl) c7 (fun a0=>?_)
  refine Tk 0 41 ?_;refine Tk 1 42 ?_;refine Tk 2 43 ?_;refine Tk 3 44 ?_ (hy:=by intro w' a2;have c1:=a2.1;clear a2;go_simp;try with_reducible rfl)
  refine Tk 4 45 ?_;refine Tk 5 46 ?_ (v:=.agg x.e.cells) (hy:=fun w' a2=>Ek (ActS.ev a2.2.1) underlying47)
  refine Tk 6 47 ?_ (v:=.agg #[C,Bi,.slice va n vc]) (hy:=fun w' a2=>Ek (jj a2.2.2) underlying30)
  refine Rc 7 48 fun K hK=>?_
  go_simp
  refine (show Calls _ _ #[.pointer (some ⟨rs,0,none⟩),.agg x.e.cells,.agg #[C,Bi,.slice va n vc]] w5.drew _ from He.1 w5.drew (Hx.1.below (jb w5)) (Hq.1.below (jb w5)) (fun h0 k hk=>⟨(U.1 h0 k hk).2.1,by have h1:=(U.1 h0 k hk).2.2;have h2:=Z.1.2.1.size;have h3:=Hv.1;have h4:=Hc.1;have h5:=Hw.1;show k<w5.heap.size;rw [show w4.drew.heap.size=w4.heap.size from rfl] at h2;omega⟩)).mono ?_
  rintro e3 w6 ⟨rfl,B',g8,a9,g9⟩;have Hr:=Hd (a0.2.1.mod a9 (fun g=>(Y.1 q0 (.inr g)).1 rfl))
  have Hs:=Hd (a0.2.2.mod a9 (fun g=>(Y.1 _ (.inr g)).2.1 rfl))
  refine hK.out _ _ ⟨((Hp.1.below (jb w5)).mod a9 I.1.np.2.1).cell 3 _ rfl,Hr.1,Hs.1⟩ (fun i6=>?_)
  have A0:=Hd ((Ho.1.below (jb w5)).mod a9 (fun g=>by have:=Q.1 q6 (.inr (.inl g));have:=Hc.1;omega))
  have A1:=Hd (RdS.mod1 (Hq.1.below (jb w5)) a9 (fun h0 k hk=>(U.1 h0 k hk).2.1))
  have A2:=Hd ((Hz.1.below (jb w5)).mod a9 (fun k hk g=>by have:=Q.1 k (.inr (.inl g));have:=(X.1 k hk).1;omega))
  have H6:=Hd (P.1.both Z.1.1 Z.1.2.1 Z.1.2.2 (jb w5) g8 a9 g9 Hg.1);clear hK K a0 g8 a9 g9 He c7 Hn Hy Hq Hz Ho Z Hx Hp P I Hg U Hh Q Y
  try simp only [Nz]
  refine Tk 8 8 ?_;refine Dn ?_;clear i6;go_wp2_with fail;refine (xI er w6 Hf.1.1 Hf.1.2 (HG.1.below H6.1.bel)).mono ?_;rintro r w7 ⟨rfl,b0⟩;have H7:=Hd (H6.1.to b0);have A3:=Hd (Hr.1.below b0);have d7:=Hs.1.below b0;have d8:=A0.1.below b0;obtain ⟨e0,e1,e2⟩:=C3 d7;obtain ⟨g0,g1,g2⟩:=C3 d8;have A4:=Hd (jdb C Bi (.slice ga n gc) (.slice va n vc) w2.heap.size L w7 (A2.1.below b0) (A1.1.below b0) (by have:=Hu.1;omega))
  clear b0 d7 d8 H6 Hr Hs A0 A2 A1;go_wp2_with fail;refine (show Calls _ _ #[.agg #[C,Bi,.slice ga n gc],.agg #[C,Bi,.slice va n vc]] w7 _ from A4.1).mono ?_
  rintro r w8 ⟨rfl,f8⟩;have D:=Hd (H7.1.to f8);have Aa:=Hd (A3.1.below f8);clear f8 H7 A3 A4 e0 e1 e2 g0 g1 g2
  go_upto_if 60 with (fail)
  go_cut [] (fun wx=>∃ (st':StM) (ov':Value),PlayS W pw p rp (c+2) A' B' d1 (some t1) st' (.pointer (some ⟨ps,0,none⟩)) (.pointer (some ⟨rs,0,none⟩)) ov' wx)
  case first =>
   by_cases h0:er=0
   rotate_left
   .
    have i9:(er==0)=false:=by simpa using h0
    go_wp2;go_meet;exact ⟨st,.slice oa m oc,D.1.a,D.1.b,D.1.bx,D.1.rs,D.1.ab,D.1.np,D.1.nv,D.1.lo,D.1.pl.more (wE _),D.1.bel⟩
   subst h0;have c2:st.l.length<=1000000000:=by have:=D.1.pl.len;have:=HC.1;omega
   have a5:=J.1.ev;have d9:=fun v' w' h=>vN st x.e v' w' h c2 (qi a5.user (by decide)) (qi a5.label (by decide)) a5.scopes
   have f9:=uq st x.e;have e4:∀ y∈(jt st x.e).2.l,SesOk y:=fun y hy=>(jbf hy).elim (D.1.pl.ok y) (fun e=>by rw [e];exact jgY a5)
   have i7:=D.1.pl.len;obtain ⟨S,hS⟩:=Nm (jt st x.e);rw [<- hS] at d9 f9 e4;clear hS a5 c2;obtain ⟨er2,C2,B2,L2⟩:=S;simp only at d9 f9 e4;have M:=Hd d9;have A5:=Hd (show (∀ y∈L2,SesOk y)/\L2.length<=50+(c+2) from ⟨e4,by omega⟩)
   obtain ⟨m2,h7⟩:=Nm (L2.length);have Ht:=Hd h7;clear d9 f9 e4 i7 h7
   go_upto_region 12 with (fail)
   go_cut [9,10] (fun s9 s10 wx=>∃ (q9:Nat) (o:Value),s9=.pointer (some ⟨q9,0,none⟩)/\s10=.bool (er2==0)/\NxtS w8 wx q9 C2 B2 o L2)
   case first =>
    refine qt (S:=fun W=>Below w8.heap.size w8 W) (by kernel_rfl) (jb w8) (fun a0=>?_)
    refine Tk 0 62 ?_;refine Tk 1 63 ?_;refine Tk 2 64 ?_;refine Tk 3 65 ?_ (v:=.agg #[st.clock,st.births,.slice oa m oc]) (hy:=fun w' a2=>Ek (jmO (D.1.bx.below a2)) underlying30)
    refine Tk 4 66 ?_;refine Tk 5 67 ?_ (v:=.agg x.e.cells) (hy:=fun w' a2=>Ek (ActS.ev (Aa.1.below a2)) underlying47)
    refine pD (rs := [6,10]) (by kernel_rfl) (by simp) (wJ (o:=⟨some 68,.call _,_,_,_,_⟩) rfl (fun K hK=>?_) (wJ (o:=⟨some 9,.alloc _,_,_,_,_⟩) rfl (fun K hK=>?_) px))
    .
     skip
     go_simp
     refine (show Calls _ _ #[.agg #[st.clock,st.births,.slice oa m oc],.agg x.e.cells] w8.drew _ from M.1 (.slice oa m oc) _ (D.1.rs.below a0)).mono ?_
     rintro e3 w5 ⟨o,rfl,ho,a4⟩;have c8:=jd a0 a4;refine hK.out _ _ c8 (fun h5=>?_)
     obtain ⟨na,nc,rfl,_⟩:=ho.slice;rw [<- Ht.1] at ho |-;have G:=Hd ho;have H0:=Hd (show w8.heap.size<=w8.drew.heap.size from qm _)
     clear hK K a4 ho c8
     try simp only [Nz]
     refine Tk 7 61 ?_;refine Tk 8 69 ?_;refine Tk 9 70 ?_;refine Ra 10 9 fun K hK=>?_
     go_simp
     have a1:=ja w5 (.cells #[(0:Int),(0:Int),.slice none 0 0] 30);have c9:=jd h5 a1;refine hK.out _ _ c9 (fun h6=>?_)
     have E:=Hd (Box.new w5 #[(0:Int),(0:Int),.slice none 0 0] 30);have N:=Hd (show w8.heap.size<=(w5).heap.size from (h5).size)
     have A6:=Hd (G.1.below a1);have H3:=Hd (show ∀ k,(Value.slice na m2 nc).ownBlock=some k->k≠w5.heap.size from fun k hk=>by have:=(G.1.lt k hk).2;omega)
     clear G;have G:=A6;clear A6;clear hK K c9 a1
     try simp only [Nz]
     refine Rs 11 30 9 69 fun K hK=>?_
     rw [qf (by kernel_rfl)]
     refine yw 30 (.tmp 9) (.tmp 69) rfl (w5.heap.size) 0 [C2,B2,.slice na m2 nc] rfl rfl E.1.there3 (by kernel_rfl) (jc5 _ _ _ _ _) ?_
     obtain ⟨d3,a8⟩:=E.1.set3 C2 B2 (.slice na m2 nc);have b2:=(h6).trans (a8.below (B:=w8.heap.size) (h6).size (fun i hi=>by have:=N.1;omega))
     refine hK.out _ _ b2 (fun d4=>?_)
     have H5:=Hd (show NxtS w8 _ (w5.heap.size) C2 B2 (.slice na m2 nc) L2 from
      ⟨b2,d3,(G.1.mod a8 (fun k hk e=>H3.1 k hk e)).rd,fun k hk=>⟨qi H0.1 (G.1.lt k hk).1,qu (G.1.lt k hk).2 a8.size⟩,N.1⟩)
     clear hK K d3 a8 b2 E N G H3 H0;generalize (World.setCells _ _ _ _)=w9 at H5 d4 |-
     try simp only [Act.put]
     refine Tk 12 10 ?_;refine Dn ?_;clear a0 d4;go_wp2;go_meet;exact ⟨_,_,rfl,rfl,H5.1⟩
    .
     skip
     go_simp
     have a1:=ja w8.drew (.cells #[(0:Int),(0:Int),.slice none 0 0] 30);have c8:=jd a0 a1;refine hK.out _ _ c8 (fun h5=>?_)
     have E:=Hd (Box.new w8.drew #[(0:Int),(0:Int),.slice none 0 0] 30);have N:=Hd (show w8.heap.size<=(w8.drew).heap.size from (a0).size)

     clear hK K c8 a1
     try simp only [Nz]
     refine Rc 6 68 fun K hK=>?_
     go_simp
     refine (show Calls _ _ #[.agg #[st.clock,st.births,.slice oa m oc],.agg x.e.cells] (w8.drew.alloc (.cells #[(0:Int),(0:Int),.slice none 0 0] 30)) _ from M.1 (.slice oa m oc) _ (D.1.rs.below h5)).mono ?_
     rintro e3 w6 ⟨o,rfl,ho,a4⟩;have c9:=jd h5 a4;refine hK.out _ _ c9 (fun h6=>?_)
     obtain ⟨na,nc,rfl,_⟩:=ho.slice;rw [<- Ht.1] at ho |-;have G:=Hd ho;have F:=Hd (E.1.below a4);have H0:=Hd (show w8.heap.size<=(w8.drew.alloc (.cells #[(0:Int),(0:Int),.slice none 0 0] 30)).heap.size from h5.size)
     have H3:=Hd (show ∀ k,(Value.slice na m2 nc).ownBlock=some k->k≠w8.drew.heap.size from fun k hk=>by have h1:(w8.drew.alloc (.cells #[(0:Int),(0:Int),.slice none 0 0] 30)).heap.size<=k:=(G.1.lt k hk).1;have h2:=E.1.lt;omega)
     clear E;have E:=F;clear F;clear hK K a4 ho c9
     try simp only [Nz]
     refine Tk 7 61 ?_;refine Tk 8 69 ?_;refine Tk 9 70 ?_;refine Rs 11 30 9 69 fun K hK=>?_
     rw [qf (by kernel_rfl)]
     refine yw 30 (.tmp 9) (.tmp 69) rfl (w8.drew.heap.size) 0 [C2,B2,.slice na m2 nc] rfl rfl E.1.there3 (by kernel_rfl) (jc5 _ _ _ _ _) ?_
     obtain ⟨d3,a8⟩:=E.1.set3 C2 B2 (.slice na m2 nc);have b2:=(h6).trans (a8.below (B:=w8.heap.size) (h6).size (fun i hi=>by have:=N.1;omega))
     refine hK.out _ _ b2 (fun d4=>?_)
     have H5:=Hd (show NxtS w8 _ (w8.drew.heap.size) C2 B2 (.slice na m2 nc) L2 from
      ⟨b2,d3,(G.1.mod a8 (fun k hk e=>H3.1 k hk e)).rd,fun k hk=>⟨qi H0.1 (G.1.lt k hk).1,qu (G.1.lt k hk).2 a8.size⟩,N.1⟩)
     clear hK K d3 a8 b2 E N G H3 H0;generalize (World.setCells _ _ _ _)=w9 at H5 d4 |-
     try simp only [Act.put]
     refine Tk 12 10 ?_;refine Dn ?_;clear a0 d4;go_wp2;go_meet;exact ⟨_,_,rfl,rfl,H5.1⟩
   case rest =>
    obtain ⟨q9,o,rfl,rfl,a7⟩:=hcut;have hP:=(D.1.to a7.bel).more (wE (c+1));by_cases h2:er2=0;rotate_left
    .
     have d5:(er2==0)=false:=by simpa using h2
     rw [d5];have HP:=Hd hP;clear hP a7 h2 d5;go_wp2;go_meet;exact ⟨st,_,HP.1⟩
    have d5:(er2==0)=true:=by simpa using h2
    rw [d5];obtain ⟨na,nc,rfl,_⟩:=a7.rs.slice;rw [<- Ht.1] at a7;have hQ:=hP.put C2 B2 L2 (.slice na m2 nc) a7.rs (fun k hk=>by
     have h1:=a7.nv k hk;exact ⟨fun g=>by have:=D.1.a.lt k g;omega,fun g=>by have:=D.1.b.lt k g;omega,fun e=>by have:=D.1.bx.lt;omega,h1.2⟩) A5.1.1 A5.1.2
    obtain ⟨d0,d1',d2⟩:=C3 a7.bx;have c4:=hP.bx.cell 4 _ rfl;have c5:=hP.bx.cell 5 _ rfl;have c6:=hP.bx.cell 6 _ rfl;have f4:=hP.bx.free 4;have f5:=hP.bx.free 5;have f6:=hP.bx.free 6;have HQ:=Hd hQ;clear hP hQ a7 h2 d5;go_wp2;go_meet;exact ⟨⟨C2,B2,L2⟩,_,HQ.1⟩
  case rest =>
   obtain ⟨st',ov',hP⟩:=hcut;have HE:=Hd (fun j=>(hP.a.below (jD wc j)).told.1)
   have HR:=Hd (fun j=>(hP.a.below (jD wc j)).told.2)
   obtain ⟨pl,k1,k2,k5⟩:=hP.b.told;obtain ⟨i1,i2⟩:=jir t1.epoch;have c1:=hP.bx.cell 1 _ rfl;have c3:=hP.bx.cell 3 _ rfl;obtain ⟨ep,h8⟩:=Nm (I32 t1.epoch);rw [<- h8] at HE k1 i1 i2;have j0:IntKind.i64.wrap ep=ep:=jfC ep (by omega) (by omega)
   obtain ⟨rn,h9⟩:∃ n:Int,n=(t1.log.records:Int):=⟨_,rfl⟩;rw [<- h9] at HR k5;have HP:=Hd hP;clear hP h8 h9;go_wp2
   go_quiet (first | (go_at_call 17;exact ku (HE.1 _)) | (go_at_call 18;exact ku (HR.1 _)))
   have HZ:=Hd (HP.1.to (jD wc nq));clear HP HE HR;go_wp2;go_ret;exact ⟨rfl,_,_,_,_,_,_,HZ.1⟩
def ActS.z:ActS:=⟨0,0,⟨0,ju,0,0⟩,false,jI,.slice none 0 0,ByteArray.empty⟩
theorem jlx {a:Option Addr}{n cap:Nat}{l:List ActS}(h:Rd w (.slice a n cap) l.length (l.flatMap ActS.list))(k:Nat)(hk:k<l.length):∃ b off,a=some ⟨b,off,none⟩/\w.rangeAt b (off+k*22) (l[k]).list:=by
 obtain ⟨a',cap',e,h1,h2,_,h3⟩:=h;injection e with e1 e2 e3
 subst e1;have hl:=vC ActS.list 22 ActS.length l;obtain ⟨b,off,rfl,_⟩:=h3 (k*22) (by omega)
 refine ⟨b,off,rfl,fun j v hv=>?_⟩
 have hj:j<22:=(List.getElem?_eq_some_iff.1 hv).1;obtain ⟨b',off',e',h4⟩:=h3 (k*22+j) (by omega)
 injection e' with e';injection e' with e5 e6
 subst e5;subst e6;rw [wC,h4,uV ActS.list 22 ActS.length (by omega) ActS.z l k j hk hj]
 rw [List.getD,show l.getD k ActS.z=l[k] by simp [List.getD,hk],hv];rfl
theorem ActS.listA (x:ActS):Hid (x.cells=x.list.toArray):=qe rfl
theorem ActS.oneA (x:ActS)(h:x.sv.oneCell'=true):∀ v∈x.list,v.oneCell'=true:=by
 intro v hv;unfold ActS.list at hv;simp only [qH,qW,qO,wM] at hv
 rcases hv with rfl | rfl | hv | rfl | rfl | rfl | rfl | rfl
 . rfl
 . rfl
 . exact x.e.oneE v hv
 . rfl
 . rfl
 . rfl
 . exact h
 . rfl
theorem jlU (w:World)(x:ActS):(w.alloc (.cells #[(0:Int),(0:Int),(0:Int),(0:Int),(0:Int),(0:Int),(0:Int),(0:Int),.string ⟨#[]⟩,.string ⟨#[]⟩,.int .u64 0,(0:Int),(0:Int),(0:Int),(0:Int),(0:Int),(0:Int),.bool false,(0:Int),(0:Int),.slice none 0 0,.string ⟨#[]⟩] 68)).there w.heap.size 0 x.list.length :=
 (Box.new w #[(0:Int),(0:Int),(0:Int),(0:Int),(0:Int),(0:Int),(0:Int),(0:Int),.string ⟨#[]⟩,.string ⟨#[]⟩,.int .u64 0,(0:Int),(0:Int),(0:Int),(0:Int),(0:Int),(0:Int),.bool false,(0:Int),(0:Int),.slice none 0 0,.string ⟨#[]⟩] 68).there 0 22 (by show 0+22<=22;decide)
theorem jnp {x:ActS}(h:Hid (w'=(w.alloc (.cells #[(0:Int),(0:Int),(0:Int),(0:Int),(0:Int),(0:Int),(0:Int),(0:Int),.string ⟨#[]⟩,.string ⟨#[]⟩,.int .u64 0,(0:Int),(0:Int),(0:Int),(0:Int),(0:Int),(0:Int),.bool false,(0:Int),(0:Int),.slice none 0 0,.string ⟨#[]⟩] 68)).setCells w.heap.size 0 x.list)):Box w' w.heap.size x.cells 68/\Below w.heap.size w w':=by
 rw [h.out];have hb:=Box.new w #[(0:Int),(0:Int),(0:Int),(0:Int),(0:Int),(0:Int),(0:Int),(0:Int),.string ⟨#[]⟩,.string ⟨#[]⟩,.int .u64 0,(0:Int),(0:Int),(0:Int),(0:Int),(0:Int),(0:Int),.bool false,(0:Int),(0:Int),.slice none 0 0,.string ⟨#[]⟩] 68;obtain ⟨cs',h1,h2,h3,_⟩:=Box.setCells x.list 0 hb (by show 0+22<=22;decide)
 have e1:cs'=x.cells:=by
  apply Array.ext_getElem?
  intro j;by_cases hj:j<22
  .
   have:=h3 j _ (List.getElem?_eq_getElem (show j<x.list.length from hj))
   rw [qA] at this;rw [this,<- Array.getElem?_toList,List.getElem?_eq_getElem (show j<x.cells.toList.length from hj)];rfl
  . rw [Array.getElem?_eq_none (by rw [h2];show 22<=j;omega),Array.getElem?_eq_none (by show 22<=j;omega)]
 rw [e1] at h1;have a0:=ja w (.cells #[(0:Int),(0:Int),(0:Int),(0:Int),(0:Int),(0:Int),(0:Int),(0:Int),.string ⟨#[]⟩,.string ⟨#[]⟩,.int .u64 0,(0:Int),(0:Int),(0:Int),(0:Int),(0:Int),(0:Int),.bool false,(0:Int),(0:Int),.slice none 0 0,.string ⟨#[]⟩] 68);exact ⟨h1,a0.trans ((Mod.setCells (fun b=>b=w.heap.size) w.heap.size rfl x.list 0 _).below a0.size (fun i hi=>qS hi.symm))⟩
theorem SideB.trail {sv:Value}(h:SideB w A p d s sv):∃ ta tc,w.cell? ⟨p,1,none⟩=some (.slice ta d.trail.length tc)/\Rd w (.slice ta d.trail.length tc) d.trail.length (jJ d.trail):=by
 obtain ⟨F,h1,_⟩:=h.ex;obtain ⟨tv,g1,g2,_⟩:=h1;have a0:=js g2;obtain ⟨ta,tc,rfl,_,_⟩:=xQ g2;exact ⟨ta,tc,g1.cell 1 _ rfl,a0⟩
theorem SideA.writes {sv:Value}(h:SideA w A p d s sv):Calls prog 19 #[.pointer (some ⟨p,0,none⟩)] w fun e w'=>e=.returned (d.trail.length:Int)/\w'=w:=by
 obtain ⟨F,h1,_⟩:=h.ex;exact (zW d p F w h1).mono (fun _ _ h=>⟨h.1,h.2.symm⟩)
theorem SideA.trail {sv:Value}(h:SideA w A p d s sv)(hn:d.trail.length<=1000000000000):Calls prog 29 #[.pointer (some ⟨p,0,none⟩)] w fun e w'=>∃ a c,e=.returned (.slice a d.trail.length c)/\w'.ownsRow w.heap.size 111 2 (.slice a d.trail.length c) d.trail.length (jJ d.trail)/\Below w.heap.size w w':=by
 obtain ⟨F,h1,_⟩:=h.ex;exact jhY d p F w h1 hn
theorem jju (N:Nat)(h:N<=4096):PlainS 0 { strs:=List.replicate N ByteArray.empty,trail := [],left:=none } none jI :=
 ⟨DiskM.Wf.new N none,by simp;exact h,qm _,fun t ht=>(by cases ht),fun x hx=>(by cases hx),qJ _⟩
theorem ua (n:Int)(sv:Value)(acts:List ActS)(W:World)(b6:Rd W sv acts.length (acts.flatMap ActS.list))(c7:∀ a∈acts,a.Ok W)(hg:ErrType W)(hn:I64 n) :
  Calls prog 5 #[n,sv] W fun r W'=>r=.returned (.bool true)/\Below W.heap.size W W':=by
 obtain ⟨sa,sc,rfl⟩:∃ a c,sv=.slice a acts.length c:=by obtain ⟨a,c,h,_⟩:=b6;exact ⟨a,c,h⟩
 have Hb:=Hd b6;have Hc:=Hd c7;have T:=Hd hg;obtain ⟨e2,e4⟩:=hn;clear b6 c7 hg;by_cases hno:n<1\/4096<n
 .
  have H:=Hd (jjR n W hno);have O:=Hd (jmN n W hno);have D:=Hd (fun w hw=>xI 1 w (by omega) (by omega) (T.1.below (show Below W.heap.size W w from hw)))
  rw [show jm 1=zL 1 from rfl] at O D
  unfold zL at O D;clear hno;go_enter func5,ntmps5;go_wp2_with fail;refine O.1.mono ?_;rintro r w1 ⟨rfl,rfl⟩;go_wp2_with fail;refine H.1.mono ?_;rintro r w2 ⟨rfl,rfl⟩;go_wp2_with fail;refine (D.1 _ (qG _ _)).mono ?_;rintro r w3 ⟨rfl,a6⟩;have U:=Hd a6;clear a6;go_wp2_with fail;refine (D.1 _ U.1).mono ?_;rintro r w4 ⟨rfl,a7⟩;have V:=Hd (U.1.trans (a7.mono U.1.size));clear a7;go_wp2;go_ret;exact ⟨rfl,V.1⟩
 obtain ⟨N,rfl⟩:=wX (show 0<=n by omega)
 have H:=Hd (fun w=>jij N w (by omega) (by omega))
 have O:=Hd (jgn N W (by omega) (by omega))
 have H6:=Hd (show N<=4096 by omega)
 clear hno;go_enter func5,ntmps5;go_wp2_with fail;refine O.1.mono ?_;rintro r w1 ⟨p,F,rfl,hd,a8,hF⟩;rw [show jm 0=.nilIface from rfl]
 have L:=Hd (And.intro hd (And.intro a8 hF));clear hd a8 hF O;go_wp2_with fail;refine (H.1 _).mono ?_;rintro r w2 ⟨rfl,G,hr,b7,hG⟩;obtain ⟨rp,c8⟩:=Nm (w1.heap.size);rw [<- c8] at hr |-;have h0:DR W p rp 0 { strs:=List.replicate N ByteArray.empty,trail := [],left:=none } F G w2 :=
  ⟨L.1.1.mod (Mod.of_below (F:=fun _=>False) b7) (fun _ _ h=>h),hr,DiskM.Wf.new N none,by simp;exact H6.1,qm _,fun k hf hg=>by have:=L.1.1.lt k hf;have:=hG k hg;omega,fun k hk=>by
   rcases hk with hk | hk
   . exact L.1.2.2 k hk
   . have:=hG k hk;have:=L.1.2.1.size;omega,L.1.2.1.trans (b7.mono L.1.2.1.size)⟩
 have H0:=Hd h0;clear hr b7 hG h0 H L c8;go_wp2_with fail;refine (jcu _).mono ?_;rintro r w3 ⟨rfl,a6⟩;have D:=Hd (H0.1.to a6);clear a6 H0;by_cases h2:300<acts.length
 .
  have d9:(300:Int)<(acts.length:Int):=by omega
  go_wp2_with fail;refine (jcu _).mono ?_;rintro r w4 ⟨rfl,a7⟩;have V:=Hd (D.1.to a7).below;clear a7;go_wp2;go_ret;exact ⟨rfl,V.1⟩
 have d9:¬ (300:Int)<(acts.length:Int):=by omega
 have b8:=Hd (show acts.length<=300 by omega)
 have b1:=ja w3 (.cells #[.pointer (some ⟨p,0,none⟩),.pointer none,.pointer (some ⟨rp,0,none⟩),.pointer none,(0:Int),(0:Int),.slice none 0 0] 66);have hP:PlayS W w3.heap.size p rp 0 F G { strs:=List.replicate N ByteArray.empty,trail := [],left:=none } none jI (.pointer none) (.pointer none) (.slice none 0 0) (w3.alloc (.cells #[.pointer (some ⟨p,0,none⟩),.pointer none,.pointer (some ⟨rp,0,none⟩),.pointer none,(0:Int),(0:Int),.slice none 0 0] 66)) :=
  ⟨SideA.below ⟨⟨F,D.1.disk,fun _ h=>h,.inl ⟨rfl,rfl⟩⟩,D.1.disk.lt⟩ b1,SideB.below ⟨⟨G,D.1.ref,fun _ h=>h,.inl ⟨rfl,rfl⟩⟩,D.1.ref.lt⟩ b1,Box.new _ _ _,Rd.nil _,D.1.fg,⟨fun h=>by have:=D.1.disk.lt _ h;omega,fun h=>by have:=D.1.ref.lt _ h;omega,D.1.below.size⟩,(fun k hk=>by cases hk),D.1.lo,jju N H6.1,D.1.below.trans (b1.mono D.1.below.size)⟩
 obtain ⟨pw,b9⟩:=Nm (w3.heap.size);rw [<- b9] at hP;have I:=Hd (jcX _ _ _ _ _ _ _ _ _ _ _ _ _ _ hP (by decide) T.1)
 clear hP b1 h2 D;go_wp2_with fail;rw [<- b9];clear b9;refine I.1.mono ?_;rintro r w4 ⟨rfl,A,B,sv,rv,ov,hP⟩;have E:=Hd hP;clear hP I;go_wp2
 go_loopg [10] acts.length (fun gk iv wr=>∃ (k:Nat) (A B:Nat->Prop) (d:DiskM) (s:Option StoM) (st:StM) (sv rv ov:Value),gk+k=acts.length/\iv=.int .i64 (k:Int)/\PlayS W pw p rp (1+k*2) A B d s st sv rv ov wr)
 case atStart=>exact ⟨0,_,_,_,_,_,_,_,_,qT _,rfl,E.1⟩
 case round =>
  clear E;obtain ⟨k,A,B,d,s,st,sv,rv,ov,c2,rfl,hI⟩:=hrel;have k0:(0:Int)<=(k:Int):=by omega
  have H7:=Hd c2;have P:=Hd hI;by_cases hk:k<acts.length;rotate_left
  .
   have k1:¬ (k:Int)<(acts.length:Int):=by omega
   have c9:d.trail.length<=1000000000000:=by have:=hI.pl.trail;have:=b8.1;omega
   have X:=Hd (hI.to (jb wr));obtain ⟨ta,tc,g1,g2⟩:=X.1.b.trail;have f0:wr.drew.cell? ⟨rp,1,none⟩=some (.slice ta d.trail.length tc):=g1;have He:=Hd g2;have Hf:=Hd (X.1.a.trail c9);clear hI c2 hk g1 g2 c9 P;go_wp2_with fail
   go_region_held3 (fun w'=>w'.cell? ⟨rp,1,none⟩=some (.slice ta d.trail.length tc))
    (first | with_reducible exact f0 | exact g1 | exact g2)
    (first | (go_at_call 29;refine Hf.1.mono ?_;rintro e w6 ⟨oa,oc,rfl,d0,b2⟩;have g1:=jc b2 f0;have Hg:=Hd (jd0 _ _ d.trail w6 (js d0) (He.1.below b2));have Hh:=Hd (X.1.to b2);clear b2 d0) | (go_at_call 28;refine Hg.1.mono ?_;rintro e w7 ⟨rfl,j7,rfl⟩;have g2:(w6.drewN j7).cell? ⟨rp,1,none⟩=some (.slice ta d.trail.length tc):=g1;have HN:=Hd (Hh.1.to (show Below w6.heap.size w6 (w6.drewN j7) from ⟨rfl,rfl,rfl,qm _,fun _ _=>rfl⟩)).bel))
   go_wp2;go_ret;exact ⟨rfl,HN.1⟩
  have k1:(k:Int)<(acts.length:Int):=by omega
  obtain ⟨rb,ro,e0,b0⟩:=jlx (Hb.1.below hI.bel) k hk;subst e0;have ho:=Hc.1 acts[k] (qy hk);obtain ⟨x,hx⟩:=Nm (acts[k]);rw [<- hx] at b0 ho;have Y:=Hd b0;have Q:=Hd ho;have HK:=Hd hk;have hc:1+k*2<=700:=by have:=b8.1;omega
  have HC:=Hd hc;have a4:=jet x.kind 5 (by omega)
  have c3:=fun w=>vu x.kind 5 w ho.kind.1 ho.kind.2 (by omega) (by omega)
  obtain ⟨pk,d1⟩:=Nm (uN x.kind 5);rw [<- d1] at c3 a4;have H8:=Hd c3;have b3:pk=2\/pk=3\/pk=4\/(pk=0\/pk=1):=by omega
  have d3:x.sv.oneCell'=true:=by
   obtain ⟨a,c,h,_⟩:=ho.rd.slice;rw [h];rfl
  have Hi:=Hd d3;clear c2 hI hk b0 ho hx hc a4 c3 d1 d3
  go_wp2_with (with_reducible refine Lk Y.1 underlying68 ?_)
  intro cv a9;have ecv:cv=x.cells:=by rw [a9.out];rfl
  subst ecv;clear a9
  go_wp2_with (with_reducible refine Sk x.list (ActS.listA _) (jlU _ _) (ActS.oneA _ Hi.1) ?_)
  intro w1 d4;obtain ⟨hX,a8⟩:=jnp d4;have H:=Hd (P.1.to a8);have J:=Hd hX;have K:=Hd (show ∀ k,A k\/B k\/k=pw->k≠wr.heap.size from fun k hk e=>by
   rcases hk with hk | hk | hk
   . have:=P.1.a.lt k hk;omega
   . have:=P.1.b.lt k hk;omega
   . have:=P.1.bx.lt;omega)
  obtain ⟨ab,d6⟩:=Nm (wr.heap.size);rw [<- d6] at J K |-;clear d6;have c0:=J.1.cell 0 _ rfl;clear d4 hX a8 P Y;go_wp2_with fail;refine (H8.1 _).mono ?_;rintro r w2 ⟨rfl,rfl⟩;clear H8 c0
  go_upto_block 2 with (fail)
  go_cut [12] (fun s12 wx=>s12=.bool true/\∃ (A2 B2:Nat->Prop) (d2:DiskM) (s2:Option StoM) (st2:StM) (sv2 rv2 ov2:Value),PlayS W pw p rp (1+k*2+2) A2 B2 d2 s2 st2 sv2 rv2 ov2 wx)
  case first =>
   have c1:=J.1.cell 1 _ rfl;have c21:=J.1.cell 21 _ rfl;have HT:=Hd (show d.trail.length<=100000000000 by have:=H.1.pl.trail;have:=HC.1;omega)
   rcases b3 with rfl | rfl | rfl | b3
   .
    have Z:=Hd (H.1.a.cut x.n Q.1.n.2);clear c21;go_wp2_with fail;refine Z.1.mono ?_;rintro r w3 ⟨rfl,A3,ha,a0,a2⟩;have a5:=J.1.mod a0 (fun g=>K.1 ab (.inl g) rfl)
    have e1:=a5.cell 1 _ rfl;have HB:=Hd ((H.1.b.mod a0 (fun k hk g=>H.1.ab k g hk)).cut x.n Q.1.n.2)
    have C:=Hd (And.intro ha (And.intro a0 a2));clear ha a0 a2 a5 c1 Z;go_wp2_with fail;refine HB.1.mono ?_;rintro r w4 ⟨rfl,B4,hb,a1,a3⟩;have S:=Hd (H.1.both C.1.1 C.1.2.1 C.1.2.2 (qG _ _) hb a1 a3 ((H.1.pl.left _).more (wn _ 2)));clear hb a1 a3 HB C e1;go_wp2;go_meet;exact ⟨rfl,_,_,_,_,_,_,_,_,S.1⟩
   .
    have Z:=Hd H.1.a.restore;clear c1 c21;go_wp2_with fail;refine Z.1.mono ?_;rintro r w3 ⟨rfl,A3,ha,a0,a2⟩;have c4:=(H.1.b.mod a0 (fun k hk g=>H.1.ab k g hk)).cut (-1) (by decide)
    rw [qf (show (-1:Int)<0 by decide)] at c4
    have HB:=Hd c4;have C:=Hd (And.intro ha (And.intro a0 a2));clear ha a0 a2 c4 Z;go_wp2_with fail;refine HB.1.mono ?_;rintro r w4 ⟨rfl,B4,hb,a1,a3⟩;have S:=Hd (H.1.both C.1.1 C.1.2.1 C.1.2.2 (qG _ _) hb a1 a3 (H.1.pl.left none));have I:=Hd (jcX _ _ _ _ _ _ _ _ _ _ _ _ _ _ S.1 (by have:=HC.1;omega) T.1)
    clear hb a1 a3 HB C;go_wp2_with fail;refine I.1.mono ?_;rintro r w5 ⟨rfl,A5,B5,sv5,rv5,ov5,hP⟩;have E:=Hd (hP.more (wE _));clear hP I S;go_wp2;go_meet;exact ⟨rfl,_,_,_,_,_,_,_,_,E.1⟩
   .
    have M:=Hd (H.1.to (jb w1));have Hj:=Hd (J.1.below (jb w1));have H4:=Hd (M.1.a.write x.n x.tx HT.1 Q.1.tx);have H5:=Hd (fun w (hw:SideB w B rp d s rv)=>hw.write x.n x.tx HT.1 Q.1.tx)
    have b4:0<=(d.write x.n x.tx).2/\(d.write x.n x.tx).2<=24:=by have:=vQ d x.n x.tx;omega
    have a4:=(H.1.pl.write x.n x.tx).more (wE _);obtain ⟨R,hR⟩:=Nm (d.write x.n x.tx);rw [<- hR] at H4 H5 b4 a4;clear hR;obtain ⟨d2,er⟩:=R;simp only at H4 H5 b4 a4;have H9:=Hd b4;have Hk:=Hd a4;have f0:w1.drew.cell? ⟨ab,1,none⟩=some (.int .i64 x.n)/\w1.drew.cell? ⟨ab,21,none⟩=some (.string x.tx):=⟨c1,c21⟩;clear c1 c21 b4 a4;go_wp2_with fail
    go_region_held3 (fun w'=>w'.cell? ⟨ab,1,none⟩=some (.int .i64 x.n)/\w'.cell? ⟨ab,21,none⟩=some (.string x.tx))
     (first | with_reducible exact f0 | exact e1 | exact e3 | exact e5)
     (first | (go_at_call 25;refine H4.1.mono ?_;rintro e w3 ⟨rfl,A3,ha,a0,a2⟩;have a5:=Box.mod Hj.1 a0 (fun hf=>(K.1 ab (.inl hf)) rfl);have e1:w3.cell? ⟨ab,1,none⟩=some (.int .i64 x.n)/\w3.cell? ⟨ab,21,none⟩=some (.string x.tx):=⟨a5.cell 1 _ rfl,a5.cell 21 _ rfl⟩;have Hl:=Hd (H5.1 w3 (M.1.b.mod a0 (fun k hk hf=>M.1.ab k hf hk)));have C:=Hd (And.intro ha (And.intro a0 a2));have Hm:=Hd a5;clear ha a0 a2 a5) | (go_at_call 26;refine Hl.1.mono ?_;rintro e w4 ⟨rfl,B4,hb,a1,a3⟩;have b5:=Box.mod Hm.1 a1 (fun hf=>(K.1 ab (.inr (.inl hf))) rfl);have e3:w4.cell? ⟨ab,1,none⟩=some (.int .i64 x.n)/\w4.cell? ⟨ab,21,none⟩=some (.string x.tx):=⟨b5.cell 1 _ rfl,b5.cell 21 _ rfl⟩;have HN:=Hd (M.1.both C.1.1 C.1.2.1 C.1.2.2 (qG _ _) hb a1 a3 Hk.1);have Hn:=Hd (xI er w4 H9.1.1 H9.1.2 (T.1.below HN.1.bel));have Hp:=Hd b5;clear hb a1 a3 b5) | (go_at_call 14;refine Hn.1.mono ?_;rintro e w5 ⟨rfl,c5⟩;have c6:=Box.below Hp.1 c5;have e5:w5.cell? ⟨ab,1,none⟩=some (.int .i64 x.n)/\w5.cell? ⟨ab,21,none⟩=some (.string x.tx):=⟨c6.cell 1 _ rfl,c6.cell 21 _ rfl⟩;have Hq:=Hd (HN.1.to c5);clear c5 c6))
    go_wp2;go_meet;exact ⟨rfl,_,_,_,_,_,_,_,_,Hq.1⟩
   .
    have e6:¬ pk=2:=by omega
    have e7:¬ pk=3:=by omega
    have e8:¬ pk=4:=by omega
    have Ha:=Hd (jeF _ _ _ _ _ _ _ _ _ _ _ _ _ _ x H.1 Q.1 (by have:=HC.1;omega) T.1)
    have Hr:=Hd (show w1.rangeAt ab 0 x.list from yV J.1)
    clear c1 c21 b3
    go_wp2_with (with_reducible refine Lk Hr.1 underlying68 ?_)
    intro cv a9;have ecv:cv=x.cells:=by rw [a9.out];rfl
    subst ecv;clear a9;go_wp2_with fail;refine Ha.1.mono ?_;rintro r w5 ⟨rfl,A5,B5,d5,s5,st5,ov5,hP⟩;have E:=Hd hP;clear hP Ha;go_wp2;go_meet;exact ⟨rfl,_,_,_,_,_,_,_,_,E.1⟩
  case rest =>
   obtain ⟨rfl,A2,B2,d2,s2,st2,sv2,rv2,ov2,hP⟩:=hcut;have HW:=Hd (fun j=>(hP.a.below (jD wc j)).writes)
   obtain ⟨ta,tc,g1,_⟩:=hP.b.trail;obtain ⟨tn,d8⟩:=Nm (d2.trail.length);rw [<- d8] at HW g1;have E:=Hd hP;clear hP d8 HC Q J K H b3;go_wp2
   go_quiet ((go_at_call 19;exact ku (HW.1 _)))
   have S:=Hd (E.1.to (jD wc nq));clear E HW;go_wp2
   go_roundg (acts.length-(k+1))
   case measure=>have:=H7.1;have:=HK.1;omega
   case rel=>exact ⟨k+1,_,_,_,_,_,_,_,_,by have:=H7.1;have:=HK.1;omega,by go_num,by rw [show 1+(k+1)*2=1+k*2+2 by omega];exact S.1⟩
end Go.Proofs.YtgcnolapjppbpaaGreatDoor
