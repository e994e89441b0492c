/- Texts of one proof. -/
import Derived.Test.YtgcnolapjppbpaaGreatDoorK29
import Derived.Test.YtgcnolapjppbpaaGreatDoorK33
import Derived.Test.YtgcnolapjppbpaaGreatDoorK35
namespace Go.Proofs.YtgcnolapjppbpaaGreatDoor
open Go.RowKit _root_.Go.Proofs.Tryz
set_option maxRecDepth 100000
set_option maxHeartbeats 25600000
variable {k q:Nat}{w w6 wr:World}{S0:StM}{ps:List (List UInt8)}{C B:Int}{sv:Value}
theorem jmg {e:UInt32}{bl:List (List UInt8)}(a0:yN e bl k=none)(hy:∀ i,i<k->∃ p c,yN e bl i=some (p,c)):(vD e bl).length=k/\∀ i,i<k->∃ p c,yN e bl i=some (p,c)/\(vD e bl)[i]?=some p:=by
 have h:IsPays e bl ((List.range k).map (fun i=>((yN e bl i).getD ([],0)).1)):=by
  refine ⟨by rw [qE,pR];exact a0,fun i hi=>?_⟩
  rw [qE,pR] at hi;obtain ⟨p,c,hp⟩:=hy i hi;refine ⟨c,?_⟩;rw [List.getElem_map,List.getElem_range,hp];rfl
 rw [h.eq];refine ⟨by rw [qE,pR],fun i hi=>?_⟩
 obtain ⟨p,c,hp⟩:=hy i hi;refine ⟨p,c,hp,?_⟩;rw [List.getElem?_map,List.getElem?_range hi];simp only [pN,hp];rfl
theorem jil {e:UInt32}{bl:List (List UInt8)}{i:Nat}{p:List UInt8}{c:Nat}(h:yN e bl i=some (p,c)):p.length<=512:=((zv e _ p c).1 h).1
theorem jle {s:TkM}{st:StM}(h:∀ x∈st.l,SesOk x):∀ x∈(jdf s st).2.l,SesOk x:=by
 unfold jdf
 repeat' split
 all_goals first | exact h | (intro x hx;cases hx)
theorem jh0 (b:List UInt8):∀ x∈(vy b).2.l,SesOk x:=by
 unfold vy;simp only
 split
 . intro x hx;cases hx
 . exact jle (jdX _ _)
structure KepJ (w w6 wr:World)(q:Nat)(S0:StM)(ps:List (List UInt8))(k:Nat)(C B:Int)(sv:Value)(L:List SesM):Prop where
 bx:Box wr q #[C,B,sv] 30
 bz:Box wr w.heap.size #[(0:Int),(0:Int),.slice none 0 0] 30
 ow:OwnS wr (w.heap.size+1) sv L
 ne:∀ k,sv.ownBlock=some k->k≠q
 al:(yy S0 (vm ps)).1=(yy ⟨C,B,L⟩ (vm (ps.drop k))).1
 ln:L.length<=32+k
 sc:∀ x∈L,x.scopes<2 ^ 64
 md:Mod (fun i=>i=q) w6 wr
 qg:w.heap.size+1<=q
 bel:Below w.heap.size w wr
theorem KepJ.fill {L:List SesM}(h:KepJ w w6 wr q S0 ps k C B sv L) :
  Box (((wr.setCell ⟨w.heap.size,0,none⟩ C).setCell ⟨w.heap.size,1,none⟩ B).setCell ⟨w.heap.size,2,none⟩ sv) w.heap.size #[C,B,sv] 30/\OwnS (((wr.setCell ⟨w.heap.size,0,none⟩ C).setCell ⟨w.heap.size,1,none⟩ B).setCell ⟨w.heap.size,2,none⟩ sv) w.heap.size sv L/\Below w.heap.size w (((wr.setCell ⟨w.heap.size,0,none⟩ C).setCell ⟨w.heap.size,1,none⟩ B).setCell ⟨w.heap.size,2,none⟩ sv):=by
 have hm:=Mod.set3 w.heap.size wr C B sv;exact ⟨((h.bz.set 0 C).set 1 B).set 2 sv,(h.ow.mod hm (fun k hk e=>by have:=(h.ow.lt k hk).1;omega)).base (by omega),h.bel.trans (hm.below h.bel.size (fun i hi=>by omega))⟩
theorem KepJ.below {w2:World}{L:List SesM}(h:KepJ w w6 wr q S0 ps k C B sv L)(hb:Below wr.heap.size wr w2):KepJ w w6 w2 q S0 ps k C B sv L :=
 ⟨h.bx.below hb,h.bz.below hb,h.ow.below hb,h.ne,h.al,h.ln,h.sc,h.md.trans (Mod.of_below hb),h.qg,h.bel.trans (hb.mono h.bel.size)⟩
theorem KepJ.put {L:List SesM}(h:KepJ w w6 wr q S0 ps k C B sv L)(C2 B2:Int)(o:Value)(L2:List SesM)(ho:OwnS wr (w.heap.size+1) o L2)(a0:∀ k,o.ownBlock=some k->k≠q)(a1:(yy ⟨C,B,L⟩ (vm (ps.drop k))).1=(yy ⟨C2,B2,L2⟩ (vm (ps.drop (k+1)))).1)(a2:L2.length<=32+(k+1))(a3:∀ x∈L2,x.scopes<2 ^ 64) :
  KepJ w w6 (((wr.setCell ⟨q,0,none⟩ C2).setCell ⟨q,1,none⟩ B2).setCell ⟨q,2,none⟩ o) q S0 ps (k+1) C2 B2 o L2:=by
 have hm:=Mod.set3 q wr C2 B2 o;have hq:=h.qg;exact ⟨((h.bx.set 0 C2).set 1 B2).set 2 o,h.bz.mod hm (by omega),ho.mod hm (fun k hk e=>a0 k hk e),a0,h.al.trans a1,a2,a3,h.md.trans hm,hq,h.bel.trans (hm.below h.bel.size (fun i hi=>by omega))⟩
theorem jeN (d:DiskM)(rp:Nat)(G:Nat->Prop)(w:World)(hd:IsRef w d rp G)(b8:d.Wf)(d6:∀ s∈d.strs,s.size<=256)(hl:65<=d.strs.length)(b9:d.strs.length<=4096)(ht:d.trail.length<=90000000000)(hs:∀ b,(jH d b).length<=9223372036854775807) :
  Calls prog 82 #[.pointer (some ⟨rp,0,none⟩)] w fun e w'=>∃ o,e=.returned (.tuple #[.agg #[.int .i64 (yi d).1.clock,.int .i64 (yi d).1.births,o],.int .u32 (I32 (yi d).2.1),.int .i64 (yi d).2.2])/\OwnS w' w.heap.size o (yi d).1.l/\Below w.heap.size w w':=by
 have Hb:=Hd (fun W (hW:IsRef W d rp G)=>jeR d rp G 0 24 W hW b8 b9 (qi ht (by decide)) ⟨by decide,by decide⟩ ⟨by decide,by decide⟩ hs)
 have Ho:=Hd (jct d 0 24);have H5:=Hd (jhv d 0 24);have U:=Hd (jfx d);have Z:=Hd (fun e W (hW:IsRef W d rp G)=>jf9 d rp G 49 16 e W hW b9 b8 (qi ht (by decide)) (by decide) hl d6)
 have T:=Hd (show (d.blks 49 16).length<=16/\d.blks 49 16=xW d 49 16 from ⟨by unfold DiskM.blks;rw [qE,qr];omega,rfl⟩)
 obtain ⟨K,hK⟩:=Nm (yi d);rw [<- hK];unfold yi at hK;obtain ⟨LD,d7⟩:=Nm (jZ d 0 24);rw [<- d7] at Hb Ho H5 U hK;obtain ⟨ep,bs,er⟩:=LD;simp only at Ho H5 U hK;obtain ⟨eu,c3⟩:=Nm (UInt32.ofNat ep);have d8:(ep:Int)=I32 eu:=by
  rw [c3];unfold I32;rw [UInt32.toNat_ofNat'];have:=H5.1;omega
 rw [<- c3] at hK;have F:=Hd hK;have HD:=Hd hd;have a1:=ja w (.cells #[(0:Int),(0:Int),.slice none 0 0] 30);have HZ:=Hd (Box.new w #[(0:Int),(0:Int),.slice none 0 0] 30);have HB:=Hd a1;have H6:=Hd (hd.below a1);have Hp:=Hd d8;clear hd b8 d6 hl b9 ht hs hK d7 c3 a1 d8 H5;go_enter func82,ntmps82;go_wp2_with fail;generalize (w.alloc (.cells #[(0:Int),(0:Int),.slice none 0 0] 30))=w1 at HZ HB H6 |-;refine (Hb.1 w1 H6.1).mono ?_;rintro ev w3 ⟨bv,rfl,ho,hb⟩;simp only at ho |-;rw [Hp.1];have M:=Hd (HB.1.trans (hb.mono HB.1.size));have H7:=Hd (H6.1.below hb);have E:=Hd (HZ.1.below hb);have H0:=Hd ho.rd;have H4:=Hd (show ∀ b,bv.ownBlock=some b->b<w3.heap.size from fun b hb=>(ho.lt b hb).2)
 obtain ⟨ba,bc,rfl,_⟩:=ho.rd;obtain ⟨bn,c4⟩:=Nm (bs.length);rw [<- c4] at H0 H4 |-;have H8:=Hd c4;clear ho hb c4 HB H6 HZ Hb Hp HD;by_cases h10:er=10
 .
  rw [qf h10] at F;subst h10;obtain ⟨z0,y0,z1,y1,z2,y2⟩:=B3 E.1;have Q:=Hd (show Box (((w3.setCell ⟨w.heap.size,0,none⟩ (0:Int)).setCell ⟨w.heap.size,1,none⟩ (0:Int)).setCell ⟨w.heap.size,2,none⟩ (.slice none 0 0)) w.heap.size #[(0:Int),(0:Int),.slice none 0 0] 30/\Below w.heap.size w (((w3.setCell ⟨w.heap.size,0,none⟩ (0:Int)).setCell ⟨w.heap.size,1,none⟩ (0:Int)).setCell ⟨w.heap.size,2,none⟩ (.slice none 0 0)) from
   ⟨((E.1.set 0 (0:Int)).set 1 (0:Int)).set 2 (.slice none 0 0),M.1.trans ((Mod.set3 w.heap.size w3 (0:Int) (0:Int) (.slice none 0 0)).below M.1.size (fun i hi=>qS hi.symm))⟩)
  obtain rfl:K=(jI,0,0):=F.1;clear M H7 E H0 F H8 Z T U;go_wp2_with fail;exact ym rfl rfl w.heap.size 0 rfl [(0:Int),(0:Int),.slice none 0 0] _ (jj (Q.1.1)) underlying30 rfl (by kernel_rfl) _ _ rfl rfl ⟨_,rfl,OwnS.nil _ _,Q.1.2⟩
 rw [qh h10] at F;have f6:(er==10)=false:=by simpa using h10
 clear h10;by_cases h0:er=0;rotate_left
 .
  rw [qh h0] at F;have c5:(er != 0)=true:=by rw [wl];exact h0
  obtain ⟨z0,y0,z1,y1,z2,y2⟩:=B3 E.1;have Q:=Hd (show Box (((w3.setCell ⟨w.heap.size,0,none⟩ (0:Int)).setCell ⟨w.heap.size,1,none⟩ (0:Int)).setCell ⟨w.heap.size,2,none⟩ (.slice none 0 0)) w.heap.size #[(0:Int),(0:Int),.slice none 0 0] 30/\Below w.heap.size w (((w3.setCell ⟨w.heap.size,0,none⟩ (0:Int)).setCell ⟨w.heap.size,1,none⟩ (0:Int)).setCell ⟨w.heap.size,2,none⟩ (.slice none 0 0)) from
   ⟨((E.1.set 0 (0:Int)).set 1 (0:Int)).set 2 (.slice none 0 0),M.1.trans ((Mod.set3 w.heap.size w3 (0:Int) (0:Int) (.slice none 0 0)).below M.1.size (fun i hi=>qS hi.symm))⟩)
  obtain rfl:K=(jI,0,er):=F.1;clear M H7 E H0 F H8 Z T U h0;go_wp2_with fail;exact ym rfl rfl w.heap.size 0 rfl [(0:Int),(0:Int),.slice none 0 0] _ (jj (Q.1.1)) underlying30 rfl (by kernel_rfl) _ _ rfl rfl ⟨_,rfl,OwnS.nil _ _,Q.1.2⟩
 rw [qf h0] at F;subst h0;clear f6;have a2:=jeH bs (.slice ba bn bc) w3 (by rw [<- H8.1];exact H0.1) (qi U.1 (by decide)) H4.1
 rw [jiG] at a2;have b1:=jh0 bs;obtain ⟨I,hI⟩:=Nm (vy bs);rw [<- hI] at F a2 b1;obtain ⟨ei,C,B,L⟩:=I;simp only at F a2 b1;have H1:=Hd a2;have Hq:=Hd b1;have d9:ei=0->L.length<=32:=fun h=>ja5 (b:=bs) (C:=C) (B:=B) (by rw [<- hI,h])
 clear hI a2 b1;go_wp2_with fail;refine H1.1.mono ?_;rintro ev w4 ⟨sv,rfl,ho,hb⟩;obtain ⟨sa,sc,rfl,_⟩:=ho.slice;obtain ⟨sn,a3⟩:=Nm (L.length);rw [<- a3] at ho |-;have a1:=ja w4 (.cells #[C,B,.slice sa sn sc] 30);have V:=Hd ((M.1.trans (hb.mono M.1.size)).trans (a1.mono (M.1.trans (hb.mono M.1.size)).size));have Hc:=Hd ((H7.1.below hb).below a1);have O:=Hd ((E.1.below hb).below a1);have He:=Hd ((ho.below a1).base (base':=w.heap.size+1) E.1.lt);have Hf:=Hd (show ∀ k,(Value.slice sa sn sc).ownBlock=some k->k≠w4.heap.size from fun k hk e=>by have:=(ho.lt k hk).2;omega)
 have H9:=Hd (show w.heap.size<w4.heap.size from (E.1.below hb).lt)
 have Hr:=Hd d9;have Ha:=Hd (Box.new w4 #[C,B,.slice sa sn sc] 30);clear ho hb a1 a3 d9 M H7 E H0 H1 H8 U H4;by_cases h0:ei=0;rotate_left
 .
  rw [qh h0] at F;have c5:(ei != 0)=true:=by rw [wl];exact h0
  obtain ⟨z0,y0,z1,y1,z2,y2⟩:=B3 O.1;have Q:=Hd (show Box ((((w4.alloc (.cells #[C,B,.slice sa sn sc] 30)).setCell ⟨w.heap.size,0,none⟩ (0:Int)).setCell ⟨w.heap.size,1,none⟩ (0:Int)).setCell ⟨w.heap.size,2,none⟩ (.slice none 0 0)) w.heap.size #[(0:Int),(0:Int),.slice none 0 0] 30/\Below w.heap.size w ((((w4.alloc (.cells #[C,B,.slice sa sn sc] 30)).setCell ⟨w.heap.size,0,none⟩ (0:Int)).setCell ⟨w.heap.size,1,none⟩ (0:Int)).setCell ⟨w.heap.size,2,none⟩ (.slice none 0 0)) from
   ⟨((O.1.set 0 (0:Int)).set 1 (0:Int)).set 2 (.slice none 0 0),V.1.trans ((Mod.set3 w.heap.size (w4.alloc (.cells #[C,B,.slice sa sn sc] 30)) (0:Int) (0:Int) (.slice none 0 0)).below V.1.size (fun i hi=>qS hi.symm))⟩)
  obtain rfl:K=(jI,0,24):=F.1;clear V Hc O He Ha F Z T h0;go_wp2_with fail;exact ym rfl rfl w.heap.size 0 rfl [(0:Int),(0:Int),.slice none 0 0] _ (jj (Q.1.1)) underlying30 rfl (by kernel_rfl) _ _ rfl rfl ⟨_,rfl,OwnS.nil _ _,Q.1.2⟩
 rw [qf h0] at F;have Hs:=Hd (Hr.1 h0);subst h0;go_wp2_with fail;refine (show Calls _ _ #[.pointer (some ⟨rp,0,none⟩),(49:Int),(16:Int),.int .u32 (I32 eu)] (w4.alloc (.cells #[C,B,.slice sa sn sc] 30)) _ from Z.1 eu (w4.alloc (.cells #[C,B,.slice sa sn sc] 30)) Hc.1).mono ?_
 rintro ev w6 ⟨np,ov,ys,b2,rfl,c6,e0,e1,a8,a9,_⟩;rw [T.1.2] at b2 a8;obtain ⟨c7,e2⟩:=jmg b2 (fun i hi=>by obtain ⟨p,c,h,_⟩:=a8 i hi;exact ⟨p,c,h⟩)
 have c8:np<=16:=by
  have h1:(IsPays eu (xW d 49 16) ((List.range np).map (fun i=>((yN eu (xW d 49 16) i).getD ([],0)).1))):=by
   refine ⟨by rw [qE,pR];exact b2,fun i hi=>?_⟩
   rw [qE,pR] at hi;obtain ⟨p,c,hp,_⟩:=a8 i hi;refine ⟨c,?_⟩;rw [List.getElem_map,List.getElem_range,hp];rfl
  have h2:=h1.len;rw [qE,pR,<- T.1.2] at h2;exact qi h2 T.1.1
 have Hg:=Hd (show ∀ i,i<np->∃ p,(vD eu (xW d 49 16))[i]?=some p/\p.length<=1000000000000/\Rd w6 (ys.getD i undef) p.length (p.map V8)/\∀ b,(ys.getD i undef).ownBlock=some b->b≠w4.heap.size from fun i hi=>by
  obtain ⟨p,c,h1,h2⟩:=e2 i hi;obtain ⟨p',c',h3,h4,h5⟩:=a8 i hi;rw [h1] at h3;injection h3 with h3
  injection h3 with h3
  subst h3;refine ⟨p,h2,?_,h4,fun b hb e=>?_⟩
  .
   have:=jil h1;omega
  .
   have h6:=h5 b hb;rw [qj] at h6;omega)
 obtain ⟨ps,e3⟩:=Nm (vD eu (xW d 49 16));rw [<- e3] at c7 F Hg;obtain ⟨oa,oc,rfl⟩:∃ a c,ov=.slice a np c:=by obtain ⟨a,c,h,_⟩:=c6;exact ⟨a,c,h⟩
 have Hz:=Hd c8;have np0:(np:Int)<=16:=by omega
 have A0:=Hd c6;have A1:=Hd c7;have A2:=Hd e1;obtain ⟨q,hq⟩:=Nm (w4.heap.size);have A3:=Hd (show ∀ b,(Value.slice oa np oc).ownBlock=some b->b≠q from fun b hb e=>by have h6:=e0 b hb;rw [qj] at h6;omega)
 rw [<- hq] at Ha H9 Hf Hg |-;have Ht:=Hd (show KepJ w w6 w6 q ⟨C,B,L⟩ ps 0 C B (.slice sa sn sc) L from
  ⟨Ha.1.below a9,O.1.below a9,He.1.below a9,Hf.1,rfl,by have:=Hs.1;omega,(fun x hx=>(Hq.1 x hx).scopes),Mod.refl _ _,H9.1,V.1.trans (a9.mono V.1.size)⟩)
 obtain ⟨S0,c9⟩:∃ S:StM,S=⟨C,B,L⟩:=⟨_,rfl⟩;rw [<- c9] at F;have Hu:=Hd (show KepJ w w6 w6 q S0 ps 0 C B (.slice sa sn sc) L by rw [c9];exact Ht.1)
 have X:=Hd (show w.heap.size<q from H9.1)
 clear b2 c6 e0 e1 a8 a9 c7 e2 c8 e3 hq Ht c9 Ha O He V Hc Z T H9 Hr Hf Hs Hq;go_wp2
 go_loopg [11] np (fun gk iv wr=>∃ (k:Nat) (C B:Int) (sv:Value) (L:List SesM),gk+k=np/\iv=.int .i64 (k:Int)/\KepJ w w6 wr q S0 ps k C B sv L)
 case atStart=>exact ⟨0,_,_,_,_,qT _,rfl,Hu.1⟩
 case round =>
  clear Hu;obtain ⟨k,C,B,sv,L,e4,rfl,hJ⟩:=hrel;have k0:(0:Int)<=(k:Int):=by omega
  have Hv:=Hd e4;obtain ⟨sa,sc,rfl,_⟩:=hJ.ow.slice;obtain ⟨sn,a3⟩:=Nm (L.length);rw [<- a3] at hJ;have A5:=Hd a3;have N:=Hd hJ;clear e4 hJ a3;by_cases hk:k<np;rotate_left
  .
   have k1:¬ (k:Int)<(np:Int):=by omega
   have H2:=Hd (show K=(⟨C,B,L⟩,eu,0) by
    rw [F.1,N.1.al,qZ (show ps.length<=k by have:=A1.1;omega)];rfl)
   clear hk F;obtain ⟨c0,c1,c2⟩:=C3 N.1.bx;obtain ⟨z0,y0,z1,y1,z2,y2⟩:=B3 N.1.bz;have P:=Hd N.1.fill;obtain rfl:K=(⟨C,B,L⟩,eu,0):=H2.1;have a4:¬ q=w.heap.size:=by have:=X.1;omega
   have a5:¬ w.heap.size=q:=by have:=X.1;omega
   clear N;go_wp2_with fail;clear c0 c1 c2 z0 z1 z2 y0 y1 y2 a4 a5;generalize (((wr.setCell ⟨w.heap.size,0,none⟩ C).setCell ⟨w.heap.size,1,none⟩ B).setCell ⟨w.heap.size,2,none⟩ (.slice sa sn sc))=wz at P |-;refine ym rfl rfl w.heap.size 0 rfl [C,B,.slice sa sn sc] _ (jj P.1.1) underlying30 rfl (by kernel_rfl) _ _ rfl rfl ?_
   exact ⟨.slice sa sn sc,rfl,P.1.2.1,P.1.2.2⟩
  have k1:(k:Int)<(np:Int):=by omega
  have Hh:=Hd hk;obtain ⟨p,e5,e6,b3,d3⟩:=Hg.1 k hk;obtain ⟨x,hx⟩:=Nm (ys.getD k undef);rw [<- hx] at b3 d3;obtain ⟨cb,co,f7,f8⟩:∃ b off,oa=some ⟨b,off,none⟩/\wr.cell? ⟨b,off+k,none⟩=some x:=by
   obtain ⟨a0,c0,g1,_,_,_,g2⟩:=Rd.mod0 A0.1 N.1.md (fun _ b hb=>A3.1 b hb)
   injection g1 with g1 _ _
   subst g1;obtain ⟨b,off,f1,f2⟩:=g2 k (by rw [A2.1];exact hk)
   exact ⟨b,off,f1,by rw [f2,hx]⟩
  subst f7;obtain ⟨pn,e7⟩:=Nm (p.length);obtain ⟨pa,pc,rfl⟩:∃ a c,x=.slice a pn c:=by obtain ⟨a,c,h,_⟩:=b3;exact ⟨a,c,by rw [e7];exact h⟩
  have a2:=jga (.slice pa pn pc) p wr (Rd.mod0 b3 N.1.md (fun _ b hb=>d3 b hb)) e6
  rw [jjn] at a2;have b4:=jfP e5;have b5:=fun h=>jgA (b:=p) h
  obtain ⟨D,hD⟩:=Nm (vT p);rw [<- hD] at a2 b4 b5;obtain ⟨de,dx⟩:=D;simp only at a2 b4 b5;have H1:=Hd a2;have R:=Hd b4;have Hi:=Hd b5;clear hk e5 e6 b3 d3 hx e7 a2 b4 b5 hD;go_wp2_with fail;refine H1.1.mono ?_;rintro ev w8 ⟨rfl,e8⟩;have Hw:=Hd (N.1.below e8);clear e8 N f8 H1
  go_wp2_with (with_reducible refine Sk dx.cells.toList (EvtM.listE _) (jgD _ _) (EvtM.oneE _) ?_)
  intro w9 e9;obtain ⟨f3,f4⟩:=jkn e9;have H:=Hd (Hw.1.below f4);have Hj:=Hd f3.rangeV;clear e9 f3 f4 Hw;by_cases h0:de=0;rotate_left
  .
   have c5:(de != 0)=true:=by rw [wl];exact h0
   rw [qh h0] at R;have H2:=Hd (show K=(⟨C,B,L⟩,eu,0) by rw [F.1,H.1.al,R.1];rfl)
   clear h0 Hj R Hi F;obtain ⟨c0,c1,c2⟩:=C3 H.1.bx;obtain ⟨z0,y0,z1,y1,z2,y2⟩:=B3 H.1.bz;have P:=Hd H.1.fill;obtain rfl:K=(⟨C,B,L⟩,eu,0):=H2.1;have a4:¬ q=w.heap.size:=by have:=X.1;omega
   have a5:¬ w.heap.size=q:=by have:=X.1;omega
   clear H;go_wp2_with fail;clear c0 c1 c2 z0 z1 z2 y0 y1 y2 a4 a5;generalize (((w9.setCell ⟨w.heap.size,0,none⟩ C).setCell ⟨w.heap.size,1,none⟩ B).setCell ⟨w.heap.size,2,none⟩ (.slice sa sn sc))=wz at P |-;refine ym rfl rfl w.heap.size 0 rfl [C,B,.slice sa sn sc] _ (jj P.1.1) underlying30 rfl (by kernel_rfl) _ _ rfl rfl ?_
   exact ⟨.slice sa sn sc,rfl,P.1.2.1,P.1.2.2⟩
  rw [qf h0] at R;have b0:=Hi.1 h0;subst h0;have b6:=fun W (hW:RdS W (.slice sa sn sc) L)=>jd7 ⟨C,B,L⟩ dx (.slice sa sn sc) W hW (by have:=H.1.ln;have:=Hz.1;have:=Hh.1;show L.length<=_;omega) (qi b0.user (by decide)) (qi b0.label (by decide)) b0.scopes H.1.sc
  have b7:=uq ⟨C,B,L⟩ dx;have d4:∀ x,x∈(jt ⟨C,B,L⟩ dx).2.l->x∈L\/x=dx.s:=fun x hx=>jbf hx
  have a6:yy ⟨C,B,L⟩ (dx::vm (ps.drop (k+1)))=if (jt ⟨C,B,L⟩ dx).1=0 then ((yy (jt ⟨C,B,L⟩ dx).2 (vm (ps.drop (k+1)))).1,(yy (jt ⟨C,B,L⟩ dx).2 (vm (ps.drop (k+1)))).2+1) else (⟨C,B,L⟩,0):=rfl
  obtain ⟨A,hA⟩:=Nm (jt ⟨C,B,L⟩ dx);rw [<- hA] at b6 b7 a6;have a7:∀ x∈A.2.l,x∈L\/x=dx.s:=fun x hx=>d4 x (by rw [<- hA];exact hx)
  obtain ⟨er,C2,B2,L2⟩:=A;simp only at b6 b7 a6 a7;have Hx:=Hd b6;have Hk:=Hd b7;have Y:=Hd a6;have Hl:=Hd (show ∀ x∈L2,x.scopes<2 ^ 64 from fun x hx=>(a7 x hx).elim (H.1.sc x) (fun e=>by rw [e];exact b0.scopes))
  obtain ⟨m,hM⟩:=Nm (L2.length);have HM:=Hd hM;clear b6 b7 a6 d4 a7 hA hM b0 Hi;obtain ⟨c0,c1,c2⟩:=C3 H.1.bx
  go_wp2_with (with_reducible refine Lk Hj.1 underlying47 ?_)
  intro cv f5;have ecv:cv=dx.cells:=by rw [f5.out]
  subst ecv;clear f5;go_wp2_with fail;refine (Hx.1 w9 H.1.ow.rd).mono ?_;rintro ev wa ⟨o,rfl,ho,a1⟩;obtain ⟨na,nc,rfl,_⟩:=ho.slice;rw [<- HM.1] at ho |-;have d5:=ja wa (.cells #[C2,B2,.slice na m nc] 30);have J:=Hd ((H.1.below a1).below d5);have Hm:=Hd ((ho.below d5).base (base':=w.heap.size+1) (by have:=H.1.bz.lt;omega))
  have Hn:=Hd (show ∀ k,(Value.slice na m nc).ownBlock=some k->k≠q from fun k hk e=>by have h1:w9.heap.size<=k:=(ho.lt k hk).1;have:=H.1.bx.lt;omega)
  have H3:=Hd (Box.new wa #[C2,B2,.slice na m nc] 30);have Hy:=Hd (show q<wa.heap.size from (H.1.below a1).bx.lt)
  clear ho a1 d5 Hx Hj H c0 c1 c2;by_cases h0:er=0
  .
   subst h0;rw [qf rfl] at Y;have A4:=Hd (J.1.put C2 B2 (.slice na m nc) L2 Hm.1 Hn.1 (by rw [R.1,Y.1]) (by have:=Hk.1;have:=J.1.ln;omega) Hl.1)
   obtain ⟨c0,f0,c1,f1,c2,f2⟩:=B3 J.1.bx;obtain ⟨d0,d1,d2⟩:=C3 H3.1;have a4:¬ q=wa.heap.size:=by have:=Hy.1;omega
   have a5:¬ wa.heap.size=q:=by have:=Hy.1;omega
   clear J Hm Hn H3 Y Hk Hl R;go_wp2
   go_roundg (np-(k+1))
   case measure=>have:=Hv.1;have:=Hh.1;omega
   case rel=>exact ⟨k+1,_,_,_,_,by have:=Hv.1;have:=Hh.1;omega,by go_num,A4.1⟩
  have c5:(er != 0)=true:=by rw [wl];exact h0
  rw [qh h0] at Y;have H2:=Hd (show K=(⟨C,B,L⟩,eu,0) by rw [F.1,J.1.al,R.1,Y.1])
  obtain ⟨wb,f9⟩:=Nm ((wa.alloc (.cells #[C2,B2,.slice na m nc] 30)));have HJB:=J;clear h0 Y Hk Hl R F Hm Hn H3 f9;obtain ⟨c0,c1,c2⟩:=C3 HJB.1.bx;obtain ⟨z0,y0,z1,y1,z2,y2⟩:=B3 HJB.1.bz;have P:=Hd HJB.1.fill;obtain rfl:K=(⟨C,B,L⟩,eu,0):=H2.1;have a4:¬ q=w.heap.size:=by have:=X.1;omega
  have a5:¬ w.heap.size=q:=by have:=X.1;omega
  clear J HJB;go_wp2_with fail;clear c0 c1 c2 z0 z1 z2 y0 y1 y2 a4 a5;generalize ((((wa.alloc (.cells #[C2,B2,.slice na m nc] 30)).setCell ⟨w.heap.size,0,none⟩ C).setCell ⟨w.heap.size,1,none⟩ B).setCell ⟨w.heap.size,2,none⟩ (.slice sa sn sc))=wz at P |-;refine ym rfl rfl w.heap.size 0 rfl [C,B,.slice sa sn sc] _ (jj P.1.1) underlying30 rfl (by kernel_rfl) _ _ rfl rfl ?_
  exact ⟨.slice sa sn sc,rfl,P.1.2.1,P.1.2.2⟩
end Go.Proofs.YtgcnolapjppbpaaGreatDoor
