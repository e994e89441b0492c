/-
  Texts of one proof, one behind the other.
-/
import Derived.Test.YtgcnolapjppbpaaGreatDoorP27
import Derived.Test.YtgcnolapjppbpaaGreatDoorP44
import Derived.Test.YtgcnolapjppbpaaGreatDoorP25
import Derived.Test.YtgcnolapjppbpaaGreatDoorP33
import Derived.Test.YtgcnolapjppbpaaGreatDoorP32
import Derived.Test.YtgcnolapjppbpaaGreatDoorP36
import Derived.Test.YtgcnolapjppbpaaGreatDoorP37
import Derived.Test.YtgcnolapjppbpaaGreatDoorP42
import Derived.Test.YtgcnolapjppbpaaGreatDoorP00
namespace Go.Proofs.YtgcnolapjppbpaaGreatDoor
open Go.RowKit _root_.Go.Proofs.Tryz
set_option maxRecDepth 100000
set_option maxHeartbeats 25600000
theorem jak {st:StM}{e:EvtM}{x:SesM}(h:x∈(jH st e).2.l):x∈st.l∨x=e.s:=by
 have hw:∀ (f:SesM→Bool) (l:List SesM),x∈jx f l→x∈l:=fun f l hx=>(jfH.1 hx).1
 unfold jH at h
 split at h
 ·
  split at h
  ·
   split at h
   ·
    rcases List.mem_append.1 h with h | h
    · exact .inl h
    · exact .inr (List.mem_singleton.1 h)
   · cases h
  ·
   split at h
   ·
    split at h
    · exact .inl (hw _ _ h)
    · cases h
   ·
    split at h
    · cases h
    · exact .inl (hw _ _ h)
 · cases h
theorem jj4 {e:UInt32}{bl:List (List UInt8)}{k:Nat}(a0:yU e bl k=none)(hy:∀ i,i<k→∃ p c,yU e bl i=some (p,c)):(zU e bl).length=k∧∀ i,i<k→∃ p c,yU e bl i=some (p,c)∧(zU e bl)[i]?=some p:=by
 have h:IsPays e bl ((List.range k).map (fun i=>((yU e bl i).getD ([],0)).1)):=by
  refine ⟨by rw [List.length_map,List.length_range];exact a0,fun i hi=>?_⟩
  rw [List.length_map,List.length_range] at hi;obtain ⟨p,c,hp⟩:=hy i hi;refine ⟨c,?_⟩;rw [List.getElem_map,List.getElem_range,hp];rfl
 rw [h.eq];refine ⟨by rw [List.length_map,List.length_range],fun i hi=>?_⟩
 obtain ⟨p,c,hp⟩:=hy i hi;refine ⟨p,c,hp,?_⟩;rw [List.getElem?_map,List.getElem?_range hi];simp only [Option.map_some,hp];rfl
theorem jg9 {e:UInt32}{bl:List (List UInt8)}{i:Nat}{p:List UInt8}{c:Nat}(h:yU e bl i=some (p,c)):p.length≤512:=((zi e _ p c).1 h).1
theorem jiY {s:TkM}{st:StM}(h:∀ x∈st.l,SesOk x):∀ x∈(jfb s st).2.l,SesOk x:=by
 unfold jfb
 repeat' split
 all_goals first | exact h | (intro x hx;cases hx)
theorem jf0 (b:List UInt8):∀ x∈(vk b).2.l,SesOk x:=by
 unfold vk;simp only
 split
 · intro x hx;cases hx
 · exact jiY (jcU _ _)
structure KepJ (w w6 wr:World)(q:Nat)(S0:StM)(ps:List (List UInt8))(k:Nat)(C B:Int)(sv:Value)(L:List SesM):Prop where
 bx:Box wr q #[.int .i64 C,.int .i64 B,sv] 30
 bz:Box wr w.heap.size #[.int .i64 0,.int .i64 0,.slice none 0 0] 30
 ow:OwnS wr (w.heap.size+1) sv L
 ne:∀ k,sv.ownBlock=some k→k≠q
 al:(yE S0 (vd ps)).1=(yE ⟨C,B,L⟩ (vd (ps.drop k))).1
 ln:L.length≤32+k
 sc:∀ x∈L,x.scopes<2 ^ 64
 md:Mod (fun i=>i=q) w6 wr
 qg:w.heap.size+1≤q
 bel:Below w.heap.size w wr
theorem KepJ.fill {w w6 wr:World}{q:Nat}{S0:StM}{ps:List (List UInt8)}{k:Nat}{C B:Int}{sv:Value}{L:List SesM}(h:KepJ w w6 wr q S0 ps k C B sv L) :
  Box (((wr.setCell ⟨w.heap.size,0,none⟩ (.int .i64 C)).setCell ⟨w.heap.size,1,none⟩ (.int .i64 B)).setCell ⟨w.heap.size,2,none⟩ sv) w.heap.size #[.int .i64 C,.int .i64 B,sv] 30∧OwnS (((wr.setCell ⟨w.heap.size,0,none⟩ (.int .i64 C)).setCell ⟨w.heap.size,1,none⟩ (.int .i64 B)).setCell ⟨w.heap.size,2,none⟩ sv) w.heap.size sv L∧Below w.heap.size w (((wr.setCell ⟨w.heap.size,0,none⟩ (.int .i64 C)).setCell ⟨w.heap.size,1,none⟩ (.int .i64 B)).setCell ⟨w.heap.size,2,none⟩ sv):=by
 have hm:=Mod.set3 w.heap.size wr (.int .i64 C) (.int .i64 B) sv;exact ⟨((h.bz.set 0 (.int .i64 C)).set 1 (.int .i64 B)).set 2 sv,(h.ow.mod hm (fun k hk e=>by have:=(h.ow.lt k hk).1;omega)).base (by omega),h.bel.trans (hm.below h.bel.size (fun i hi=>by omega))⟩
theorem KepJ.below {w w6 wr w2:World}{q:Nat}{S0:StM}{ps:List (List UInt8)}{k:Nat}{C B:Int}{sv:Value}{L:List SesM}(h:KepJ w w6 wr q S0 ps k C B sv L)(hb:Below wr.heap.size wr w2):KepJ w w6 w2 q S0 ps k C B sv L :=
 ⟨h.bx.below hb,h.bz.below hb,h.ow.below hb,h.ne,h.al,h.ln,h.sc,h.md.trans (Mod.of_below hb),h.qg,h.bel.trans (hb.mono h.bel.size)⟩
theorem KepJ.put {w w6 wr:World}{q:Nat}{S0:StM}{ps:List (List UInt8)}{k:Nat}{C B:Int}{sv:Value}{L:List SesM}(h:KepJ w w6 wr q S0 ps k C B sv L)(C2 B2:Int)(o:Value)(L2:List SesM)(ho:OwnS wr (w.heap.size+1) o L2)(a0:∀ k,o.ownBlock=some k→k≠q)(a1:(yE ⟨C,B,L⟩ (vd (ps.drop k))).1=(yE ⟨C2,B2,L2⟩ (vd (ps.drop (k+1)))).1)(a2:L2.length≤32+(k+1))(a3:∀ x∈L2,x.scopes<2 ^ 64) :
  KepJ w w6 (((wr.setCell ⟨q,0,none⟩ (.int .i64 C2)).setCell ⟨q,1,none⟩ (.int .i64 B2)).setCell ⟨q,2,none⟩ o) q S0 ps (k+1) C2 B2 o L2:=by
 have hm:=Mod.set3 q wr (.int .i64 C2) (.int .i64 B2) o;have hq:=h.qg;exact ⟨((h.bx.set 0 (.int .i64 C2)).set 1 (.int .i64 B2)).set 2 o,h.bz.mod hm (by omega),ho.mod hm (fun k hk e=>a0 k hk e),a0,h.al.trans a1,a2,a3,h.md.trans hm,hq,h.bel.trans (hm.below h.bel.size (fun i hi=>by omega))⟩
theorem jdO (d:DiskM)(rp:Nat)(G:Nat→Prop)(w:World)(hd:IsRef w d rp G)(c8:d.Wf)(e3:∀ s∈d.strs,s.size≤256)(hl:65≤d.strs.length)(c9:d.strs.length≤4096)(ht:d.trail.length≤90000000000)(hs:∀ b,(jX d b).length≤9223372036854775807) :
  Calls prog 82 #[.pointer (some ⟨rp,0,none⟩)] w fun e w'=>∃ o,e=.returned (.tuple #[.agg #[.int .i64 (yf d).1.clock,.int .i64 (yf d).1.births,o],.int .u32 (I32 (yf d).2.1),.int .i64 (yf d).2.2])∧OwnS w' w.heap.size o (yf d).1.l∧Below w.heap.size w w':=by
 have Hb:=Hd (fun W (hW:IsRef W d rp G)=>jdN d rp G 0 24 W hW c8 c9 (Nat.le_trans ht (by decide)) ⟨by decide,by decide⟩ ⟨by decide,by decide⟩ hs)
 have Ho:=Hd (jbt d 0 24);have H5:=Hd (jgB d 0 24);have U:=Hd (jeh d);have Z:=Hd (fun e W (hW:IsRef W d rp G)=>jeZ d rp G 49 16 e W hW c9 c8 (Nat.le_trans ht (by decide)) (by decide) hl e3)
 have T:=Hd (show (d.blks 49 16).length≤16∧d.blks 49 16=zf d 49 16 from ⟨by unfold DiskM.blks;rw [List.length_map,List.length_take];omega,rfl⟩)
 obtain ⟨K,hK⟩:=Nm (yf d);rw [← hK];unfold yf at hK;obtain ⟨LD,e4⟩:=Nm (jY d 0 24);rw [← e4] at Hb Ho H5 U hK;obtain ⟨ep,bs,er⟩:=LD;simp only at Ho H5 U hK;obtain ⟨eu,d3⟩:=Nm (UInt32.ofNat ep);have e5:(ep:Int)=I32 eu:=by
  rw [d3];unfold I32;rw [UInt32.toNat_ofNat'];have:=H5.1;omega
 rw [← d3] at hK;have F:=Hd hK;have HD:=Hd hd;have a4:=ja w (.cells #[.int .i64 0,.int .i64 0,.slice none 0 0] 30);have HZ:=Hd (Box.new w #[.int .i64 0,.int .i64 0,.slice none 0 0] 30);have HB:=Hd a4;have H6:=Hd (hd.below a4);have Hp:=Hd e5;clear hd c8 e3 hl c9 ht hs hK e4 d3 a4 e5 H5;go_enter func82,ntmps82;go_wp2_with fail;generalize (w.alloc (.cells #[.int .i64 0,.int .i64 0,.slice none 0 0] 30))=w1 at HZ HB H6 ⊢;refine (Hb.1 w1 H6.1).mono ?_;rintro ev w3 ⟨bv,rfl,ho,hb⟩;simp only at ho ⊢;rw [Hp.1];have M:=Hd (HB.1.trans (hb.mono HB.1.size));have H7:=Hd (H6.1.below hb);have E:=Hd (HZ.1.below hb);have H0:=Hd ho.rd;have H4:=Hd (show ∀ b,bv.ownBlock=some b→b<w3.heap.size from fun b hb=>(ho.lt b hb).2)
 obtain ⟨ba,bc,rfl,_⟩:=ho.rd;obtain ⟨bn,d4⟩:=Nm (bs.length);rw [← d4] at H0 H4 ⊢;have H8:=Hd d4;clear ho hb d4 HB H6 HZ Hb Hp HD;by_cases h10:er=10
 ·
  rw [if_pos h10] at F;subst h10;have z0:w3.cell? ⟨w.heap.size,0,none⟩=some (.int .i64 0):=E.1.cell 0 _ rfl;have y0:=E.1.free 0;have z1:w3.cell? ⟨w.heap.size,1,none⟩=some (.int .i64 0):=E.1.cell 1 _ rfl;have y1:=E.1.free 1;have z2:w3.cell? ⟨w.heap.size,2,none⟩=some (.slice none 0 0):=E.1.cell 2 _ rfl;have y2:=E.1.free 2;have Q:=Hd (show Box (((w3.setCell ⟨w.heap.size,0,none⟩ (.int .i64 0)).setCell ⟨w.heap.size,1,none⟩ (.int .i64 0)).setCell ⟨w.heap.size,2,none⟩ (.slice none 0 0)) w.heap.size #[.int .i64 0,.int .i64 0,.slice none 0 0] 30∧Below w.heap.size w (((w3.setCell ⟨w.heap.size,0,none⟩ (.int .i64 0)).setCell ⟨w.heap.size,1,none⟩ (.int .i64 0)).setCell ⟨w.heap.size,2,none⟩ (.slice none 0 0)) from
   ⟨((E.1.set 0 (.int .i64 0)).set 1 (.int .i64 0)).set 2 (.slice none 0 0),M.1.trans ((Mod.set3 w.heap.size w3 (.int .i64 0) (.int .i64 0) (.slice none 0 0)).below M.1.size (fun i hi=>Nat.le_of_eq hi.symm))⟩)
  obtain rfl:K=(yh,0,0):=F.1;clear M H7 E H0 F H8 Z T U;go_wp2_with fail;exact yi rfl rfl w.heap.size 0 rfl [.int .i64 0,.int .i64 0,.slice none 0 0] _ (js (Q.1.1)) underlying30 rfl (by kernel_rfl) _ _ rfl rfl ⟨_,rfl,OwnS.nil _ _,Q.1.2⟩
 rw [if_neg h10] at F;have g5:(er==10)=false:=by simpa using h10
 clear h10;by_cases h0:er=0;rotate_left
 ·
  rw [if_neg h0] at F;have d5:(er != 0)=true:=by rw [bne_iff_ne];exact h0
  have z0:w3.cell? ⟨w.heap.size,0,none⟩=some (.int .i64 0):=E.1.cell 0 _ rfl;have y0:=E.1.free 0;have z1:w3.cell? ⟨w.heap.size,1,none⟩=some (.int .i64 0):=E.1.cell 1 _ rfl;have y1:=E.1.free 1;have z2:w3.cell? ⟨w.heap.size,2,none⟩=some (.slice none 0 0):=E.1.cell 2 _ rfl;have y2:=E.1.free 2;have Q:=Hd (show Box (((w3.setCell ⟨w.heap.size,0,none⟩ (.int .i64 0)).setCell ⟨w.heap.size,1,none⟩ (.int .i64 0)).setCell ⟨w.heap.size,2,none⟩ (.slice none 0 0)) w.heap.size #[.int .i64 0,.int .i64 0,.slice none 0 0] 30∧Below w.heap.size w (((w3.setCell ⟨w.heap.size,0,none⟩ (.int .i64 0)).setCell ⟨w.heap.size,1,none⟩ (.int .i64 0)).setCell ⟨w.heap.size,2,none⟩ (.slice none 0 0)) from
   ⟨((E.1.set 0 (.int .i64 0)).set 1 (.int .i64 0)).set 2 (.slice none 0 0),M.1.trans ((Mod.set3 w.heap.size w3 (.int .i64 0) (.int .i64 0) (.slice none 0 0)).below M.1.size (fun i hi=>Nat.le_of_eq hi.symm))⟩)
  obtain rfl:K=(yh,0,er):=F.1;clear M H7 E H0 F H8 Z T U h0;go_wp2_with fail;exact yi rfl rfl w.heap.size 0 rfl [.int .i64 0,.int .i64 0,.slice none 0 0] _ (js (Q.1.1)) underlying30 rfl (by kernel_rfl) _ _ rfl rfl ⟨_,rfl,OwnS.nil _ _,Q.1.2⟩
 rw [if_pos h0] at F;subst h0;clear g5;have a9:=jdT bs (.slice ba bn bc) w3 (by rw [← H8.1];exact H0.1) (Nat.le_trans U.1 (by decide)) H4.1
 rw [jgM] at a9;have b8:=jf0 bs;obtain ⟨I,hI⟩:=Nm (vk bs);rw [← hI] at F a9 b8;obtain ⟨ei,C,B,L⟩:=I;simp only at F a9 b8;have H1:=Hd a9;have Hq:=Hd b8;have e6:ei=0→L.length≤32:=fun h=>jaq (b:=bs) (C:=C) (B:=B) (by rw [← hI,h])
 clear hI a9 b8;go_wp2_with fail;refine H1.1.mono ?_;rintro ev w4 ⟨sv,rfl,ho,hb⟩;obtain ⟨sa,sc,rfl,_⟩:=ho.slice;obtain ⟨sn,b0⟩:=Nm (L.length);rw [← b0] at ho ⊢;have a4:=ja w4 (.cells #[.int .i64 C,.int .i64 B,.slice sa sn sc] 30);have V:=Hd ((M.1.trans (hb.mono M.1.size)).trans (a4.mono (M.1.trans (hb.mono M.1.size)).size));have Hc:=Hd ((H7.1.below hb).below a4);have O:=Hd ((E.1.below hb).below a4);have He:=Hd ((ho.below a4).base (base':=w.heap.size+1) E.1.lt);have Hf:=Hd (show ∀ k,(Value.slice sa sn sc).ownBlock=some k→k≠w4.heap.size from fun k hk e=>by have:=(ho.lt k hk).2;omega)
 have H9:=Hd (show w.heap.size<w4.heap.size from (E.1.below hb).lt)
 have Hr:=Hd e6;have Ha:=Hd (Box.new w4 #[.int .i64 C,.int .i64 B,.slice sa sn sc] 30);clear ho hb a4 b0 e6 M H7 E H0 H1 H8 U H4;by_cases h0:ei=0;rotate_left
 ·
  rw [if_neg h0] at F;have d5:(ei != 0)=true:=by rw [bne_iff_ne];exact h0
  have z0:(w4.alloc (.cells #[.int .i64 C,.int .i64 B,.slice sa sn sc] 30)).cell? ⟨w.heap.size,0,none⟩=some (.int .i64 0):=O.1.cell 0 _ rfl;have y0:=O.1.free 0;have z1:(w4.alloc (.cells #[.int .i64 C,.int .i64 B,.slice sa sn sc] 30)).cell? ⟨w.heap.size,1,none⟩=some (.int .i64 0):=O.1.cell 1 _ rfl;have y1:=O.1.free 1;have z2:(w4.alloc (.cells #[.int .i64 C,.int .i64 B,.slice sa sn sc] 30)).cell? ⟨w.heap.size,2,none⟩=some (.slice none 0 0):=O.1.cell 2 _ rfl;have y2:=O.1.free 2;have Q:=Hd (show Box ((((w4.alloc (.cells #[.int .i64 C,.int .i64 B,.slice sa sn sc] 30)).setCell ⟨w.heap.size,0,none⟩ (.int .i64 0)).setCell ⟨w.heap.size,1,none⟩ (.int .i64 0)).setCell ⟨w.heap.size,2,none⟩ (.slice none 0 0)) w.heap.size #[.int .i64 0,.int .i64 0,.slice none 0 0] 30∧Below w.heap.size w ((((w4.alloc (.cells #[.int .i64 C,.int .i64 B,.slice sa sn sc] 30)).setCell ⟨w.heap.size,0,none⟩ (.int .i64 0)).setCell ⟨w.heap.size,1,none⟩ (.int .i64 0)).setCell ⟨w.heap.size,2,none⟩ (.slice none 0 0)) from
   ⟨((O.1.set 0 (.int .i64 0)).set 1 (.int .i64 0)).set 2 (.slice none 0 0),V.1.trans ((Mod.set3 w.heap.size (w4.alloc (.cells #[.int .i64 C,.int .i64 B,.slice sa sn sc] 30)) (.int .i64 0) (.int .i64 0) (.slice none 0 0)).below V.1.size (fun i hi=>Nat.le_of_eq hi.symm))⟩)
  obtain rfl:K=(yh,0,24):=F.1;clear V Hc O He Ha F Z T h0;go_wp2_with fail;exact yi rfl rfl w.heap.size 0 rfl [.int .i64 0,.int .i64 0,.slice none 0 0] _ (js (Q.1.1)) underlying30 rfl (by kernel_rfl) _ _ rfl rfl ⟨_,rfl,OwnS.nil _ _,Q.1.2⟩
 rw [if_pos h0] at F;have Hs:=Hd (Hr.1 h0);subst h0;go_wp2_with fail;refine (show Calls _ _ #[.pointer (some ⟨rp,0,none⟩),.int .i64 49,.int .i64 16,.int .u32 (I32 eu)] (w4.alloc (.cells #[.int .i64 C,.int .i64 B,.slice sa sn sc] 30)) _ from Z.1 eu (w4.alloc (.cells #[.int .i64 C,.int .i64 B,.slice sa sn sc] 30)) Hc.1).mono ?_
 rintro ev w6 ⟨np,ov,ys,b9,rfl,d6,e7,e8,b5,b6,_⟩;rw [T.1.2] at b9 b5;obtain ⟨d7,e9⟩:=jj4 b9 (fun i hi=>by obtain ⟨p,c,h,_⟩:=b5 i hi;exact ⟨p,c,h⟩)
 have d8:np≤16:=by
  have h1:(IsPays eu (zf d 49 16) ((List.range np).map (fun i=>((yU eu (zf d 49 16) i).getD ([],0)).1))):=by
   refine ⟨by rw [List.length_map,List.length_range];exact b9,fun i hi=>?_⟩
   rw [List.length_map,List.length_range] at hi;obtain ⟨p,c,hp,_⟩:=b5 i hi;refine ⟨c,?_⟩;rw [List.getElem_map,List.getElem_range,hp];rfl
  have h2:=h1.len;rw [List.length_map,List.length_range,← T.1.2] at h2;exact Nat.le_trans h2 T.1.1
 have Hg:=Hd (show ∀ i,i<np→∃ p,(zU eu (zf d 49 16))[i]?=some p∧p.length≤1000000000000∧Rd w6 (ys.getD i undef) p.length (p.map V8)∧∀ b,(ys.getD i undef).ownBlock=some b→b≠w4.heap.size from fun i hi=>by
  obtain ⟨p,c,h1,h2⟩:=e9 i hi;obtain ⟨p',c',h3,h4,h5⟩:=b5 i hi;rw [h1] at h3;injection h3 with h3
  injection h3 with h3
  subst h3;refine ⟨p,h2,?_,h4,fun b hb e=>?_⟩
  ·
   have:=jg9 h1;omega
  ·
   have h6:=h5 b hb;rw [World.size_alloc] at h6;omega)
 obtain ⟨ps,f3⟩:=Nm (zU eu (zf d 49 16));rw [← f3] at d7 F Hg;obtain ⟨oa,oc,rfl⟩:∃ a c,ov=.slice a np c:=by obtain ⟨a,c,h,_⟩:=d6;exact ⟨a,c,h⟩
 have Hz:=Hd d8;have np0:(np:Int)≤16:=by omega
 have A0:=Hd d6;have A1:=Hd d7;have A2:=Hd e8;obtain ⟨q,hq⟩:=Nm (w4.heap.size);have A3:=Hd (show ∀ b,(Value.slice oa np oc).ownBlock=some b→b≠q from fun b hb e=>by have h6:=e7 b hb;rw [World.size_alloc] at h6;omega)
 rw [← hq] at Ha H9 Hf Hg ⊢;have Ht:=Hd (show KepJ w w6 w6 q ⟨C,B,L⟩ ps 0 C B (.slice sa sn sc) L from
  ⟨Ha.1.below b6,O.1.below b6,He.1.below b6,Hf.1,rfl,by have:=Hs.1;omega,(fun x hx=>(Hq.1 x hx).scopes),Mod.refl _ _,H9.1,V.1.trans (b6.mono V.1.size)⟩)
 obtain ⟨S0,d9⟩:∃ S:StM,S=⟨C,B,L⟩:=⟨_,rfl⟩;rw [← d9] at F;have Hu:=Hd (show KepJ w w6 w6 q S0 ps 0 C B (.slice sa sn sc) L by rw [d9];exact Ht.1)
 have X:=Hd (show w.heap.size<q from H9.1)
 clear b9 d6 e7 e8 b5 b6 d7 e9 d8 f3 hq Ht d9 Ha O He V Hc Z T H9 Hr Hf Hs Hq;go_wp2_with fail
 go_loopg [11] np (fun gk iv wr=>∃ (k:Nat) (C B:Int) (sv:Value) (L:List SesM),gk+k=np∧iv=.int .i64 (k:Int)∧KepJ w w6 wr q S0 ps k C B sv L)
 case atStart=>exact ⟨0,_,_,_,_,Nat.add_zero _,rfl,Hu.1⟩
 case round =>
  clear Hu;obtain ⟨k,C,B,sv,L,f4,rfl,hJ⟩:=hrel;have k0:(0:Int)≤(k:Int):=by omega
  have Hv:=Hd f4;obtain ⟨sa,sc,rfl,_⟩:=hJ.ow.slice;obtain ⟨sn,b0⟩:=Nm (L.length);rw [← b0] at hJ;have A5:=Hd b0;have N:=Hd hJ;clear f4 hJ b0;by_cases hk:k<np;rotate_left
  ·
   have k1:¬ (k:Int)<(np:Int):=by omega
   have H2:=Hd (show K=(⟨C,B,L⟩,eu,0) by
    rw [F.1,N.1.al,List.drop_of_length_le (show ps.length≤k by have:=A1.1;omega)];rfl)
   clear hk F;have c0:(wr).cell? ⟨q,0,none⟩=some (.int .i64 C):=N.1.bx.cell 0 _ rfl;have c1:(wr).cell? ⟨q,1,none⟩=some (.int .i64 B):=N.1.bx.cell 1 _ rfl;have c2:(wr).cell? ⟨q,2,none⟩=some (.slice sa sn sc):=N.1.bx.cell 2 _ rfl;have z0:(wr).cell? ⟨w.heap.size,0,none⟩=some (.int .i64 0):=N.1.bz.cell 0 _ rfl;have y0:=N.1.bz.free 0;have z1:(wr).cell? ⟨w.heap.size,1,none⟩=some (.int .i64 0):=N.1.bz.cell 1 _ rfl;have y1:=N.1.bz.free 1;have z2:(wr).cell? ⟨w.heap.size,2,none⟩=some (.slice none 0 0):=N.1.bz.cell 2 _ rfl;have y2:=N.1.bz.free 2;have P:=Hd N.1.fill;obtain rfl:K=(⟨C,B,L⟩,eu,0):=H2.1;have b1:¬ q=w.heap.size:=by have:=X.1;omega
   have b2:¬ w.heap.size=q:=by have:=X.1;omega
   clear N;go_wp2_with fail;clear c0 c1 c2 z0 z1 z2 y0 y1 y2 b1 b2;generalize (((wr.setCell ⟨w.heap.size,0,none⟩ (.int .i64 C)).setCell ⟨w.heap.size,1,none⟩ (.int .i64 B)).setCell ⟨w.heap.size,2,none⟩ (.slice sa sn sc))=wz at P ⊢;refine yi rfl rfl w.heap.size 0 rfl [.int .i64 C,.int .i64 B,.slice sa sn sc] _ (js P.1.1) underlying30 rfl (by kernel_rfl) _ _ rfl rfl ?_
   exact ⟨.slice sa sn sc,rfl,P.1.2.1,P.1.2.2⟩
  have k1:(k:Int)<(np:Int):=by omega
  have Hh:=Hd hk;obtain ⟨p,f5,f6,c3,e0⟩:=Hg.1 k hk;obtain ⟨x,hx⟩:=Nm (ys.getD k undef);rw [← hx] at c3 e0;obtain ⟨cb,co,g6,g7⟩:∃ b off,oa=some ⟨b,off,none⟩∧wr.cell? ⟨b,off+k,none⟩=some x:=by
   obtain ⟨a0,c0,g1,_,_,_,g2⟩:=Rd.mod0 A0.1 N.1.md (fun _ b hb=>A3.1 b hb)
   injection g1 with g1 _ _
   subst g1;obtain ⟨b,off,f1,f2⟩:=g2 k (by rw [A2.1];exact hk)
   exact ⟨b,off,f1,by rw [f2,hx]⟩
  subst g6;obtain ⟨pn,f7⟩:=Nm (p.length);obtain ⟨pa,pc,rfl⟩:∃ a c,x=.slice a pn c:=by obtain ⟨a,c,h,_⟩:=c3;exact ⟨a,c,by rw [f7];exact h⟩
  have a9:=jeR (.slice pa pn pc) p wr (Rd.mod0 c3 N.1.md (fun _ b hb=>e0 b hb)) f6
  rw [jif] at a9;have c4:=jea f5;have c5:=fun h=>jeO (b:=p) h
  obtain ⟨D,hD⟩:=Nm (ud p);rw [← hD] at a9 c4 c5;obtain ⟨de,dx⟩:=D;simp only at a9 c4 c5;have H1:=Hd a9;have R:=Hd c4;have Hi:=Hd c5;clear hk f5 f6 c3 e0 hx f7 a9 c4 c5 hD;go_wp2_with fail;refine H1.1.mono ?_;rintro ev w8 ⟨rfl,f8⟩;have Hw:=Hd (N.1.below f8);clear f8 N g7 H1
  go_wp2_with ((with_reducible refine jc ?a0 47 (.tmp 12) (.tmp 59) ?a1 w8.heap.size 0 dx.cells.toList ?a2 dx.cells ?a3 (EvtM.listE _) ?a5 ?a6 ?a7 ?a8);(case a1=>rfl);(case a0=>rfl);(case a2=>rfl);(case a3=>rfl);(case a5=>exact je9 _ _);(case a6=>kernel_rfl);(case a7=>exact EvtM.oneE _))
  intro w9 f9;obtain ⟨g0,g3⟩:=jje f9;have H:=Hd (Hw.1.below g3);have Hj:=Hd g0.rangeV;clear f9 g0 g3 Hw;by_cases h0:de=0;rotate_left
  ·
   have d5:(de != 0)=true:=by rw [bne_iff_ne];exact h0
   rw [if_neg h0] at R;have H2:=Hd (show K=(⟨C,B,L⟩,eu,0) by rw [F.1,H.1.al,R.1];rfl)
   clear h0 Hj R Hi F;have c0:(w9).cell? ⟨q,0,none⟩=some (.int .i64 C):=H.1.bx.cell 0 _ rfl;have c1:(w9).cell? ⟨q,1,none⟩=some (.int .i64 B):=H.1.bx.cell 1 _ rfl;have c2:(w9).cell? ⟨q,2,none⟩=some (.slice sa sn sc):=H.1.bx.cell 2 _ rfl;have z0:(w9).cell? ⟨w.heap.size,0,none⟩=some (.int .i64 0):=H.1.bz.cell 0 _ rfl;have y0:=H.1.bz.free 0;have z1:(w9).cell? ⟨w.heap.size,1,none⟩=some (.int .i64 0):=H.1.bz.cell 1 _ rfl;have y1:=H.1.bz.free 1;have z2:(w9).cell? ⟨w.heap.size,2,none⟩=some (.slice none 0 0):=H.1.bz.cell 2 _ rfl;have y2:=H.1.bz.free 2;have P:=Hd H.1.fill;obtain rfl:K=(⟨C,B,L⟩,eu,0):=H2.1;have b1:¬ q=w.heap.size:=by have:=X.1;omega
   have b2:¬ w.heap.size=q:=by have:=X.1;omega
   clear H;go_wp2_with fail;clear c0 c1 c2 z0 z1 z2 y0 y1 y2 b1 b2;generalize (((w9.setCell ⟨w.heap.size,0,none⟩ (.int .i64 C)).setCell ⟨w.heap.size,1,none⟩ (.int .i64 B)).setCell ⟨w.heap.size,2,none⟩ (.slice sa sn sc))=wz at P ⊢;refine yi rfl rfl w.heap.size 0 rfl [.int .i64 C,.int .i64 B,.slice sa sn sc] _ (js P.1.1) underlying30 rfl (by kernel_rfl) _ _ rfl rfl ?_
   exact ⟨.slice sa sn sc,rfl,P.1.2.1,P.1.2.2⟩
  rw [if_pos h0] at R;have b7:=Hi.1 h0;subst h0;have c6:=fun W (hW:RdS W (.slice sa sn sc) L)=>jc7 ⟨C,B,L⟩ dx (.slice sa sn sc) W hW (by have:=H.1.ln;have:=Hz.1;have:=Hh.1;show L.length≤_;omega) (Nat.le_trans b7.user (by decide)) (Nat.le_trans b7.label (by decide)) b7.scopes H.1.sc
  have c7:=vy ⟨C,B,L⟩ dx;have e1:∀ x,x∈(jH ⟨C,B,L⟩ dx).2.l→x∈L∨x=dx.s:=fun x hx=>jak hx
  have b3:yE ⟨C,B,L⟩ (dx::vd (ps.drop (k+1)))=if (jH ⟨C,B,L⟩ dx).1=0 then ((yE (jH ⟨C,B,L⟩ dx).2 (vd (ps.drop (k+1)))).1,(yE (jH ⟨C,B,L⟩ dx).2 (vd (ps.drop (k+1)))).2+1) else (⟨C,B,L⟩,0):=rfl
  obtain ⟨A,hA⟩:=Nm (jH ⟨C,B,L⟩ dx);rw [← hA] at c6 c7 b3;have b4:∀ x∈A.2.l,x∈L∨x=dx.s:=fun x hx=>e1 x (by rw [← hA];exact hx)
  obtain ⟨er,C2,B2,L2⟩:=A;simp only at c6 c7 b3 b4;have Hx:=Hd c6;have Hk:=Hd c7;have Y:=Hd b3;have Hl:=Hd (show ∀ x∈L2,x.scopes<2 ^ 64 from fun x hx=>(b4 x hx).elim (H.1.sc x) (fun e=>by rw [e];exact b7.scopes))
  obtain ⟨m,hM⟩:=Nm (L2.length);have HM:=Hd hM;clear c6 c7 b3 e1 b4 hA hM b7 Hi;have c0:(w9).cell? ⟨q,0,none⟩=some (.int .i64 C):=H.1.bx.cell 0 _ rfl;have c1:(w9).cell? ⟨q,1,none⟩=some (.int .i64 B):=H.1.bx.cell 1 _ rfl;have c2:(w9).cell? ⟨q,2,none⟩=some (.slice sa sn sc):=H.1.bx.cell 2 _ rfl
  go_wp2_with ((with_reducible refine je ?b02 47 (.tmp 12) ?b12 w8.heap.size 0 ?b22 dx.cells.toList _ Hj.1 underlying47 ?b32 ?b42 ?b82);(case b12=>rfl);(case b02=>rfl);(case b22=>rfl);(case b32=>rfl);(case b42=>kernel_rfl))
  intro cv g4;have ecv:cv=dx.cells:=by rw [g4.out]
  subst ecv;clear g4;go_wp2_with fail;refine (Hx.1 w9 H.1.ow.rd).mono ?_;rintro ev wa ⟨o,rfl,ho,a4⟩;obtain ⟨na,nc,rfl,_⟩:=ho.slice;rw [← HM.1] at ho ⊢;have e2:=ja wa (.cells #[.int .i64 C2,.int .i64 B2,.slice na m nc] 30);have J:=Hd ((H.1.below a4).below e2);have Hm:=Hd ((ho.below e2).base (base':=w.heap.size+1) (by have:=H.1.bz.lt;omega))
  have Hn:=Hd (show ∀ k,(Value.slice na m nc).ownBlock=some k→k≠q from fun k hk e=>by have h1:w9.heap.size≤k:=(ho.lt k hk).1;have:=H.1.bx.lt;omega)
  have H3:=Hd (Box.new wa #[.int .i64 C2,.int .i64 B2,.slice na m nc] 30);have Hy:=Hd (show q<wa.heap.size from (H.1.below a4).bx.lt)
  clear ho a4 e2 Hx Hj H c0 c1 c2;by_cases h0:er=0
  ·
   subst h0;rw [if_pos rfl] at Y;have A4:=Hd (J.1.put C2 B2 (.slice na m nc) L2 Hm.1 Hn.1 (by rw [R.1,Y.1]) (by have:=Hk.1;have:=J.1.ln;omega) Hl.1)
   have c0:((wa.alloc (.cells #[.int .i64 C2,.int .i64 B2,.slice na m nc] 30))).cell? ⟨q,0,none⟩=some (.int .i64 C):=J.1.bx.cell 0 _ rfl;have f0:=J.1.bx.free 0;have c1:((wa.alloc (.cells #[.int .i64 C2,.int .i64 B2,.slice na m nc] 30))).cell? ⟨q,1,none⟩=some (.int .i64 B):=J.1.bx.cell 1 _ rfl;have f1:=J.1.bx.free 1;have c2:((wa.alloc (.cells #[.int .i64 C2,.int .i64 B2,.slice na m nc] 30))).cell? ⟨q,2,none⟩=some (.slice sa sn sc):=J.1.bx.cell 2 _ rfl;have f2:=J.1.bx.free 2;have d0:((wa.alloc (.cells #[.int .i64 C2,.int .i64 B2,.slice na m nc] 30))).cell? ⟨wa.heap.size,0,none⟩=some (.int .i64 C2):=H3.1.cell 0 _ rfl;have d1:((wa.alloc (.cells #[.int .i64 C2,.int .i64 B2,.slice na m nc] 30))).cell? ⟨wa.heap.size,1,none⟩=some (.int .i64 B2):=H3.1.cell 1 _ rfl;have d2:((wa.alloc (.cells #[.int .i64 C2,.int .i64 B2,.slice na m nc] 30))).cell? ⟨wa.heap.size,2,none⟩=some (.slice na m nc):=H3.1.cell 2 _ rfl;have b1:¬ q=wa.heap.size:=by have:=Hy.1;omega
   have b2:¬ wa.heap.size=q:=by have:=Hy.1;omega
   clear J Hm Hn H3 Y Hk Hl R;go_wp2_with fail
   go_roundg (np-(k+1))
   case measure=>have:=Hv.1;have:=Hh.1;omega
   case rel=>exact ⟨k+1,_,_,_,_,by have:=Hv.1;have:=Hh.1;omega,by go_num,A4.1⟩
  have d5:(er != 0)=true:=by rw [bne_iff_ne];exact h0
  rw [if_neg h0] at Y;have H2:=Hd (show K=(⟨C,B,L⟩,eu,0) by rw [F.1,J.1.al,R.1,Y.1])
  obtain ⟨wb,g8⟩:=Nm ((wa.alloc (.cells #[.int .i64 C2,.int .i64 B2,.slice na m nc] 30)));have HJB:=J;clear h0 Y Hk Hl R F Hm Hn H3 g8;have c0:((wa.alloc (.cells #[.int .i64 C2,.int .i64 B2,.slice na m nc] 30))).cell? ⟨q,0,none⟩=some (.int .i64 C):=HJB.1.bx.cell 0 _ rfl;have c1:((wa.alloc (.cells #[.int .i64 C2,.int .i64 B2,.slice na m nc] 30))).cell? ⟨q,1,none⟩=some (.int .i64 B):=HJB.1.bx.cell 1 _ rfl;have c2:((wa.alloc (.cells #[.int .i64 C2,.int .i64 B2,.slice na m nc] 30))).cell? ⟨q,2,none⟩=some (.slice sa sn sc):=HJB.1.bx.cell 2 _ rfl;have z0:((wa.alloc (.cells #[.int .i64 C2,.int .i64 B2,.slice na m nc] 30))).cell? ⟨w.heap.size,0,none⟩=some (.int .i64 0):=HJB.1.bz.cell 0 _ rfl;have y0:=HJB.1.bz.free 0;have z1:((wa.alloc (.cells #[.int .i64 C2,.int .i64 B2,.slice na m nc] 30))).cell? ⟨w.heap.size,1,none⟩=some (.int .i64 0):=HJB.1.bz.cell 1 _ rfl;have y1:=HJB.1.bz.free 1;have z2:((wa.alloc (.cells #[.int .i64 C2,.int .i64 B2,.slice na m nc] 30))).cell? ⟨w.heap.size,2,none⟩=some (.slice none 0 0):=HJB.1.bz.cell 2 _ rfl;have y2:=HJB.1.bz.free 2;have P:=Hd HJB.1.fill;obtain rfl:K=(⟨C,B,L⟩,eu,0):=H2.1;have b1:¬ q=w.heap.size:=by have:=X.1;omega
  have b2:¬ w.heap.size=q:=by have:=X.1;omega
  clear J HJB;go_wp2_with fail;clear c0 c1 c2 z0 z1 z2 y0 y1 y2 b1 b2;generalize ((((wa.alloc (.cells #[.int .i64 C2,.int .i64 B2,.slice na m nc] 30)).setCell ⟨w.heap.size,0,none⟩ (.int .i64 C)).setCell ⟨w.heap.size,1,none⟩ (.int .i64 B)).setCell ⟨w.heap.size,2,none⟩ (.slice sa sn sc))=wz at P ⊢;refine yi rfl rfl w.heap.size 0 rfl [.int .i64 C,.int .i64 B,.slice sa sn sc] _ (js P.1.1) underlying30 rfl (by kernel_rfl) _ _ rfl rfl ?_
  exact ⟨.slice sa sn sc,rfl,P.1.2.1,P.1.2.2⟩
end Go.Proofs.YtgcnolapjppbpaaGreatDoor
