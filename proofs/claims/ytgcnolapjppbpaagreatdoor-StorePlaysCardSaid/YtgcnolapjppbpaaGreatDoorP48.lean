/-
  Texts of one proof, one behind the other.
-/
import Derived.Test.YtgcnolapjppbpaaGreatDoorP45
import Derived.Test.YtgcnolapjppbpaaGreatDoorP47
import Derived.Test.YtgcnolapjppbpaaGreatDoorP33
import Derived.Test.YtgcnolapjppbpaaGreatDoorP03
import Derived.Test.YtgcnolapjppbpaaGreatDoorP00
namespace Go.Proofs.YtgcnolapjppbpaaGreatDoor
open Go.RowKit _root_.Go.Proofs.Tryz
set_option maxRecDepth 100000
set_option maxHeartbeats 25600000
structure ROpnd (w:World)(pd:Nat)(F:Nat→Prop)(R:DiskM × UInt32 × StM × Int)(pv o:Value)(w':World):Prop where
 ex:∃ F',IsRef w' R.1 pd F'∧(∀ k,F' k→F k∨w.heap.size≤k)∧(∀ k,o.ownBlock=some k→w.heap.size≤k∧¬ F' k)∧(R.2.2.2=0→∃ ps pl,pv=.pointer (some ⟨ps,0,none⟩)∧w.heap.size≤ps∧w.heap.size≤pl∧¬ F' ps∧¬ F' pl∧ps≠pl∧RStoB w' ps pd R.2.1 (.pointer (some ⟨pl,0,none⟩)) false∧yX w' (xV R.2.1) pl pd∧(∀ k,o.ownBlock=some k→k≠ps∧k≠pl))
 no:R.2.2.2≠0→pv=.pointer none
 ow:OwnS w' w.heap.size o R.2.2.1.l
 md:Mod F w w'
theorem jcm (d:DiskM)(pd:Nat)(F:Nat→Prop)(w:World)(hd:IsRef w d pd F)(b4:d.Wf)(a4:d.strs.length≤4096)(b5:∀ s∈d.strs,s.size≤256)(ht:d.trail.length≤9000000000)(hs:∀ b,(jX d b).length≤9223372036854775807)(b1:∀ s∈(yf d).1.l,SesOk s) :
  Calls prog 46 #[.pointer (some ⟨pd,0,none⟩)] w fun e w'=>∃ pv o,e=.returned (.tuple #[pv,.agg #[.int .i64 (jP d).2.2.1.clock,.int .i64 (jP d).2.2.1.births,o],.int .i64 (jP d).2.2.2])∧ROpnd w pd F (jP d) pv o w':=by
 obtain ⟨R,hR⟩:=Nm (jP d);rw [← hR];unfold jP at hR;have a5:=fun W (hW:IsRef W d pd F) (hl:65≤d.strs.length)=>jdO d pd F W hW b4 b5 hl a4 (Nat.le_trans ht (by decide)) hs
 obtain ⟨K,hK⟩:=Nm (yf d);rw [← hK] at a5 b1 hR;have a8:=fun (v:Value) ps lv w' (h4:RStoB w' ps pd K.2.1 lv false) (h5:IsRef w' d pd F) h6 h7 hl=>uv K.1 v d ps pd K.2.1 (K.2.1+1) lv false F w' rfl h4 h5 h6 h7 b1 (Nat.le_trans ht (by decide)) hl a4 (Nat.le_trans (jcu K.1) (by decide))
 have a0:=ja w (.cells #[.int .i64 0,.int .i64 0,.slice none 0 0] 30);have M:=Hd (Box.new w #[.int .i64 0,.int .i64 0,.slice none 0 0] 30);have O:=Hd a0;have HD:=Hd (hd.below a0);have D:=Hd hd.lt;obtain ⟨N,hN⟩:=Nm (d.strs.length);rw [← hN] at a4 hR a5 a8;have HN:=Hd hN;have c7:(w.alloc (.cells #[.int .i64 0,.int .i64 0,.slice none 0 0] 30)).cell? ⟨pd,0,none⟩=some (.int .i64 (N:Int)):=by
  obtain ⟨tv,b,_⟩:=HD.1;rw [hN];exact b.cell 0 _ rfl
 clear hd b4 b5 ht hs a0 hN b1 hK;by_cases h65:N<65
 ·
  rw [if_pos h65] at hR;obtain rfl:R=(d,0,yh,1):=hR;have hn:(N:Int)<65:=by omega
  clear a5 a8 a4;have z0:=M.1.cell 0 _ rfl;have z1:=M.1.cell 1 _ rfl;have z2:=M.1.cell 2 _ rfl;go_enter func46,ntmps46;go_wp2_with fail;exact yl rfl rfl w.heap.size 0 rfl [.int .i64 0,.int .i64 0,.slice none 0 0] _ (js M.1) underlying30 rfl (by kernel_rfl) _ _ rfl rfl ⟨_,_,rfl,⟨F,HD.1,fun k hk=>.inl hk,(fun k hk=>by cases hk),fun h=>by cases h⟩,fun _=>rfl,OwnS.nil _ _,Mod.of_below O.1⟩
 rw [if_neg h65] at hR;have hn:¬ (N:Int)<65:=by omega
 have H0:=Hd (fun W hW=>a5 W hW (by omega))
 have P:=Hd (fun v ps lv w' h4 h5 h6 h7=>a8 v ps lv w' h4 h5 h6 h7 (by omega))
 obtain ⟨⟨KC,KB,KL⟩,ke,kr⟩:=K;simp only at H0 P hR;have G:=Hd hR;clear a5 a8 hR h65 a4;go_enter func46,ntmps46;go_wp2_with fail;obtain ⟨w1,b6⟩:=Nm ((w.alloc (.cells #[.int .i64 0,.int .i64 0,.slice none 0 0] 30)));rw [← b6] at M O HD ⊢;clear b6;refine (H0.1 w1 HD.1).mono ?_;rintro ev w2 ⟨o,rfl,ho,hb⟩;obtain ⟨oa,oc,rfl,_⟩:=ho.slice;obtain ⟨on,b7⟩:=Nm (KL.length);rw [← b7] at ho ⊢;have a0:=ja w2 (.cells #[.int .i64 KC,.int .i64 KB,.slice oa on oc] 30);have H1:=Hd (Box.new w2 #[.int .i64 KC,.int .i64 KB,.slice oa on oc] 30);have H2:=Hd ((HD.1.below hb).below a0);have H:=Hd ((M.1.below hb).below a0);have Q:=Hd ((O.1.trans (hb.mono O.1.size)).trans (a0.mono (O.1.trans (hb.mono O.1.size)).size));have H3:=Hd ((ho.below a0).base (base':=w.heap.size) O.1.size);have J:=Hd (show ∀ k,(Value.slice oa on oc).ownBlock=some k→w.heap.size+1≤k∧k<w2.heap.size from fun k hk=>⟨by have:=(ho.lt k hk).1;have:=M.1.lt;omega,(ho.lt k hk).2⟩)
 have I:=Hd (show w.heap.size<w2.heap.size from Nat.lt_of_lt_of_le M.1.lt hb.size)
 clear ho hb a0 b7 HD M O H0;by_cases h0:kr=0;rotate_left
 ·
  rw [if_neg h0] at G;have b8:(kr != 0)=true:=by rw [bne_iff_ne];exact h0
  obtain rfl:R=(d,0,yh,kr):=G.1;have H4:=Hd h0;have z0:(w2.alloc (.cells #[.int .i64 KC,.int .i64 KB,.slice oa on oc] 30)).cell? ⟨w.heap.size,0,none⟩=some (.int .i64 0):=H.1.cell 0 _ rfl;have y0:=H.1.free 0;have z1:(w2.alloc (.cells #[.int .i64 KC,.int .i64 KB,.slice oa on oc] 30)).cell? ⟨w.heap.size,1,none⟩=some (.int .i64 0):=H.1.cell 1 _ rfl;have y1:=H.1.free 1;have z2:(w2.alloc (.cells #[.int .i64 KC,.int .i64 KB,.slice oa on oc] 30)).cell? ⟨w.heap.size,2,none⟩=some (.slice none 0 0):=H.1.cell 2 _ rfl;have y2:=H.1.free 2;have a1:=Mod.set3 w.heap.size (w2.alloc (.cells #[.int .i64 KC,.int .i64 KB,.slice oa on oc] 30)) (.int .i64 0) (.int .i64 0) (.slice none 0 0);have L:=Hd (show Box ((((w2.alloc (.cells #[.int .i64 KC,.int .i64 KB,.slice oa on oc] 30)).setCell ⟨w.heap.size,0,none⟩ (.int .i64 0)).setCell ⟨w.heap.size,1,none⟩ (.int .i64 0)).setCell ⟨w.heap.size,2,none⟩ (.slice none 0 0)) w.heap.size #[.int .i64 0,.int .i64 0,.slice none 0 0] 30∧Mod (fun i=>i=w.heap.size) (w2.alloc (.cells #[.int .i64 KC,.int .i64 KB,.slice oa on oc] 30)) ((((w2.alloc (.cells #[.int .i64 KC,.int .i64 KB,.slice oa on oc] 30)).setCell ⟨w.heap.size,0,none⟩ (.int .i64 0)).setCell ⟨w.heap.size,1,none⟩ (.int .i64 0)).setCell ⟨w.heap.size,2,none⟩ (.slice none 0 0))∧Below w.heap.size w ((((w2.alloc (.cells #[.int .i64 KC,.int .i64 KB,.slice oa on oc] 30)).setCell ⟨w.heap.size,0,none⟩ (.int .i64 0)).setCell ⟨w.heap.size,1,none⟩ (.int .i64 0)).setCell ⟨w.heap.size,2,none⟩ (.slice none 0 0)) from ⟨((H.1.set 0 (.int .i64 0)).set 1 (.int .i64 0)).set 2 (.slice none 0 0),a1,Q.1.trans (a1.below Q.1.size (fun i hi=>Nat.le_of_eq hi.symm))⟩)
  clear a1;clear G H1 H3 J P h0;go_wp2_with fail;exact yl rfl rfl w.heap.size 0 rfl [.int .i64 0,.int .i64 0,.slice none 0 0] _ (js (L.1.1)) underlying30 rfl (by kernel_rfl) _ _ rfl rfl ⟨_,_,rfl,⟨F,H2.1.mod L.1.2.1 (fun k hk e=>by have:=D.1 k hk;omega),fun k hk=>.inl hk,(fun k hk=>by cases hk),fun h=>absurd h H4.1⟩,fun _=>rfl,OwnS.nil _ _,Mod.of_below L.1.2.2⟩
 rw [if_pos h0] at G;subst h0;have a0:=ja (w2.alloc (.cells #[.int .i64 KC,.int .i64 KB,.slice oa on oc] 30)) (.cells #[.pointer (some ⟨pd,0,none⟩),.int .u32 (I32 ke),.pointer none,.bool false] 115);have b2:=Box.new (w2.alloc (.cells #[.int .i64 KC,.int .i64 KB,.slice oa on oc] 30)) #[.pointer (some ⟨pd,0,none⟩),.int .u32 (I32 ke),.pointer none,.bool false] 115;rw [World.size_alloc] at b2;have T:=Hd (show RStoB ((w2.alloc (.cells #[.int .i64 KC,.int .i64 KB,.slice oa on oc] 30)).alloc (.cells #[.pointer (some ⟨pd,0,none⟩),.int .u32 (I32 ke),.pointer none,.bool false] 115)) (w2.heap.size+1) pd ke (.pointer none) false from ⟨b2⟩)
 have E:=Hd (H1.1.below a0);have H5:=Hd (H2.1.below a0);have H6:=Hd (H.1.below a0);have U:=Hd (Q.1.trans (a0.mono Q.1.size));have X:=Hd (H3.1.below a0);obtain ⟨q,hq⟩:=Nm (w2.heap.size);obtain ⟨A,hA⟩:=Nm (yS ke d ⟨KC,KB,KL⟩);rw [← hA] at P G;obtain ⟨w4,a9⟩:=Nm (((w2.alloc (.cells #[.int .i64 KC,.int .i64 KB,.slice oa on oc] 30)).alloc (.cells #[.pointer (some ⟨pd,0,none⟩),.int .u32 (I32 ke),.pointer none,.bool false] 115)));rw [← a9] at T E H5 H6 U X;rw [← hq] at T E I J;have H7:=Hd (show q+1<w4.heap.size from T.1.bx.lt)
 have Y:=Hd (show w.heap.size<w4.heap.size by have:=E.1.lt;have:=I.1;omega)
 have Hb:=Hd (show ¬ F (q+1) from fun h=>by have:=D.1 _ h;have:=I.1;omega)
 have x0:w4.cell? ⟨q,0,none⟩=some (.int .i64 KC):=E.1.cell 0 _ rfl;have x1:w4.cell? ⟨q,1,none⟩=some (.int .i64 KB):=E.1.cell 1 _ rfl;have x2:w4.cell? ⟨q,2,none⟩=some (.slice oa on oc):=E.1.cell 2 _ rfl;rw [a9] at x0 x1 x2;rw [hq] at x0 x1 x2;clear a0 b2 hA H1 H2 H Q H3;go_wp2_with fail;rw [← a9,← hq];refine (P.1 _ _ _ w4 T.1 H5.1 Hb.1 X.1.rd).mono ?_;rintro ev w5 ⟨rfl,b3⟩;clear x0 x1 x2 a9 hq;have a1:=b3.md;have Hc:=Hd (E.1.mod a1 (fun h=>h.elim (fun h=>by omega) (fun h=>by have:=D.1 _ h;have:=I.1;omega)))
 have B:=Hd (H6.1.mod a1 (fun h=>h.elim (fun h=>by have:=I.1;omega) (fun h=>by have:=D.1 _ h;omega)))
 have H8:=Hd (X.1.mod a1 (fun k hk h=>by
  have h1:=J.1 k hk
  rcases h with h | h
  · omega
  · have:=D.1 _ h;omega))
 have H9:=Hd (show Mod F w w5 from (show Mod F w w4 from Mod.of_below U.1).old a1 (fun i hi h=>h.elim (fun h=>by have:=I.1;omega) id))
 have Z:=Hd b3;clear b3 a1 E H6 X T H5 P;by_cases h0:A.2=0;rotate_left
 ·
  rw [if_neg h0] at G;have b8:(A.2 != 0)=true:=by rw [bne_iff_ne];exact h0
  obtain rfl:R=(A.1,0,yh,A.2):=G.1;have H4:=Hd h0;have z0:w5.cell? ⟨w.heap.size,0,none⟩=some (.int .i64 0):=B.1.cell 0 _ rfl;have y0:=B.1.free 0;have z1:w5.cell? ⟨w.heap.size,1,none⟩=some (.int .i64 0):=B.1.cell 1 _ rfl;have y1:=B.1.free 1;have z2:w5.cell? ⟨w.heap.size,2,none⟩=some (.slice none 0 0):=B.1.cell 2 _ rfl;have y2:=B.1.free 2;have hmm:=Mod.set3 w.heap.size w5 (.int .i64 0) (.int .i64 0) (.slice none 0 0);obtain ⟨F5,a6,a2,_⟩:=Z.1.dk;have a7:¬ F5 w.heap.size:=fun h=>by
   rcases a2 _ h with g | g
   · have:=D.1 _ g;omega
   · have:=Y.1;omega
  have L:=Hd (show Box (((w5.setCell ⟨w.heap.size,0,none⟩ (.int .i64 0)).setCell ⟨w.heap.size,1,none⟩ (.int .i64 0)).setCell ⟨w.heap.size,2,none⟩ (.slice none 0 0)) w.heap.size #[.int .i64 0,.int .i64 0,.slice none 0 0] 30∧ROpnd w pd F (A.1,0,yh,A.2) (.pointer none) (.slice none 0 0) (((w5.setCell ⟨w.heap.size,0,none⟩ (.int .i64 0)).setCell ⟨w.heap.size,1,none⟩ (.int .i64 0)).setCell ⟨w.heap.size,2,none⟩ (.slice none 0 0)) from
   ⟨((B.1.set 0 (.int .i64 0)).set 1 (.int .i64 0)).set 2 (.slice none 0 0),⟨F5,a6.mod hmm (fun k hk e=>a7 (by rw [← e];exact hk)),fun k hk=>(a2 k hk).imp id (fun g=>Nat.le_trans U.1.size g),(fun k hk=>by cases hk),fun h=>absurd h H4.1⟩,fun _=>rfl,OwnS.nil _ _,H9.1.old hmm (fun i hi h=>by omega)⟩)
  clear hmm a6 a2 a7 G Hc H8 J h0 Z;go_wp2_with fail;exact yl rfl rfl w.heap.size 0 rfl [.int .i64 0,.int .i64 0,.slice none 0 0] _ (js (L.1.1)) underlying30 rfl (by kernel_rfl) _ _ rfl rfl ⟨_,_,rfl,L.1.2⟩
 rw [if_pos h0] at G;have b8:(A.2 != 0)=false:=by rw [h0];rfl
 obtain rfl:R=(A.1,ke+1,⟨KC,KB,KL⟩,0):=G.1;obtain ⟨F5,a6,a2,b9⟩:=Z.1.dk;obtain ⟨pl5,c5,c0,c1,c2⟩:=b9 h0;have a7:¬ F5 w.heap.size:=fun h=>by
  rcases a2 _ h with g | g
  · have:=D.1 _ g;omega
  · have:=I.1;have:=U.1.size;have:=Y.1;omega
 have He:=Hd (a6.below (jd w5));have Hf:=Hd (c1.below (jd w5));have Hg:=Hd (show yX w5.drew (xV (ke+1)) pl5 pd from Box.below c2 (jd w5))
 have Hh:=Hd (H8.1.below (jd w5));have Ha:=Hd (B.1.below (jd w5));have Hi:=Hd (H9.1.trans (Mod.of_below (jd w5)));have V:=Hd (show (∀ k,F5 k→F k∨w.heap.size≤k)∧¬ F5 w.heap.size∧w.heap.size≤pl5∧pl5≠w.heap.size∧q+1≠pl5∧¬ F5 pl5∧¬ F5 (q+1) from
  ⟨fun k hk=>(a2 k hk).imp id (fun g=>Nat.le_trans U.1.size g),a7,by have:=Y.1;omega,by have:=Y.1;omega,by have:=H7.1;omega,c0,fun h=>by
   rcases a2 _ h with g | g
   · exact Hb.1 g
   · have:=H7.1;omega⟩)
 have C:=Hd (show ∀ k,(Value.slice oa on oc).ownBlock=some k→¬ F5 k∧k≠q+1∧k≠pl5∧k≠w.heap.size∧w.heap.size≤k from fun k hk=>by
  have h1:=J.1 k hk;have h2:=H7.1;refine ⟨fun h=>?_,by omega,by omega,by omega,by omega⟩
  rcases a2 k h with g | g
  · have:=D.1 _ g;omega
  · omega)
 clear h0 G Z b9 a6 a2 c5 c0 c1 c2 a7 H8 B H9 J;go_wp2_with fail;refine wp_region_held_drew (S:=fun W=>Box W q #[.int .i64 KC,.int .i64 KB,.slice oa on oc] 30) (by kernel_rfl) (Hc.1.below (jd w5)) (fun b0=>?_)
 refine Tk 0 38 ?_;refine Tk 1 39 ?_ (v:=.agg #[.int .i64 KC,.int .i64 KB,.slice oa on oc]) (hy:=fun w' c6=>jO 30 (.tmp 5) rfl (q) (0) rfl (#[.int .i64 KC,.int .i64 KB,.slice oa on oc]).toList _ (js c6) underlying30 rfl (by kernel_rfl))
 refine Tk 2 2 ?_;refine Rs 3 30 3 39 fun K hK=>?_
 rw [if_pos (by kernel_rfl)]
 refine xR 30 (.tmp 3) (.tmp 39) rfl w.heap.size 0 [.int .i64 KC,.int .i64 KB,.slice oa on oc] rfl rfl Ha.1.there3 (by kernel_rfl) (jh3 _ _ _ _ _) ?_
 obtain ⟨c3,a3⟩:=Ha.1.set3 (.int .i64 KC) (.int .i64 KB) (.slice oa on oc);refine hK.out _ _ (b0.mod a3 (by have:=I.1;omega)) (fun c4=>?_)
 have HF:=Hd (And.intro c3 (show ROpnd w pd F (A.1,ke+1,⟨KC,KB,KL⟩,0) (.pointer (some ⟨q+1,0,none⟩)) (.slice oa on oc) _ from
  ⟨⟨F5,He.1.mod a3 (fun k hk e=>V.1.2.1 (by rw [← e];exact hk)),V.1.1,fun k hk=>⟨(C.1 k hk).2.2.2.2,(C.1 k hk).1⟩,fun _=>⟨q+1,pl5,rfl,by have:=I.1;omega,V.1.2.2.1,V.1.2.2.2.2.2.2,V.1.2.2.2.2.2.1,V.1.2.2.2.2.1,Hf.1.mod a3 (by have:=I.1;omega),Box.mod Hg.1 a3 V.1.2.2.2.1,fun k hk=>⟨(C.1 k hk).2.1,(C.1 k hk).2.2.1⟩⟩⟩,fun h=>absurd rfl h,Hh.1.mod a3 (fun k hk=>(C.1 k hk).2.2.2.1),Hi.1.old a3 (fun i hi h=>by omega)⟩))
 clear hK K c3 a3 He Hf Hg Hh Ha Hi V C;generalize (World.setCells _ _ _ _)=w9 at HF c4 ⊢
 try simp only [Act.put]
 refine Tk 4 4 ?_;refine Dn ?_;clear b0 c4;go_wp2_with fail;exact yl rfl rfl w.heap.size 0 rfl [.int .i64 KC,.int .i64 KB,.slice oa on oc] _ (js HF.1.1) underlying30 rfl (by kernel_rfl) _ _ rfl rfl ⟨_,_,rfl,HF.1.2⟩
theorem jd0 (d:DiskM)(p:Nat)(F:Nat→Prop)(w:World)(h:IsDisk w d p F) :
  Calls prog 24 #[.pointer (some ⟨p,0,none⟩)] w fun e w'=>e=.returned (.tuple #[])∧∃ F',IsDisk w' { d with left:=none } p F'∧Mod F w w'∧∀ k,F' k→F k:=by
 obtain ⟨F',g1,g2,g3⟩:=h.power (.func (.func 35) #[] #[]) none none ⟨rfl,rfl⟩ (fun k hk=>by cases hk)
 obtain ⟨_,c0,c1,c2,hb⟩:=h.cells;have hc:=hb.cell 2 _ rfl;have hf:=hb.free 2;clear h hb;go_enter func24,ntmps24
 go_wp2
 go_end0
 refine ⟨rfl,F',g1,g2,fun k hk=>?_⟩
 rcases g3 k hk with h | h
 · exact h
 · cases h
def uU (R:DiskM × UInt32 × StM × Int):Option StoM:=if R.2.2.2=0 then some ⟨R.2.1,xV R.2.1,false⟩ else none
structure SideA (w:World)(A:Nat→Prop)(p:Nat)(d:DiskM)(s:Option StoM)(sv:Value):Prop where
 ex:∃ F,IsDisk w d p F∧(∀ k,F k→A k)∧((s=none∧sv=.pointer none)∨∃ (ps pl:Nat) (t:StoM),s=some t∧sv=.pointer (some ⟨ps,0,none⟩)∧A ps∧A pl∧¬ F ps∧¬ F pl∧ps≠pl∧StoB w ps p t.epoch (.pointer (some ⟨pl,0,none⟩)) t.dead∧xB w t.log pl p)
 lt:∀ k,A k→k<w.heap.size
theorem SideA.mod {w w':World}{A G:Nat→Prop}{p:Nat}{d:DiskM}{s:Option StoM}{sv:Value}(h:SideA w A p d s sv)(hm:Mod G w w')(hn:∀ k,A k→¬ G k):SideA w' A p d s sv:=by
 obtain ⟨F,h1,h2,h3⟩:=h.ex;refine ⟨⟨F,h1.mod hm (fun k hk=>hn k (h2 k hk)),h2,?_⟩,fun k hk=>Nat.lt_of_lt_of_le (h.lt k hk) hm.size⟩
 rcases h3 with h3 | ⟨ps,pl,t,e1,e2,a1,a2,f1,f2,ne,b,l⟩
 · exact .inl h3
 · exact .inr ⟨ps,pl,t,e1,e2,a1,a2,f1,f2,ne,b.mod hm (hn _ a1),Box.mod l hm (hn _ a2)⟩
theorem SideA.below {w w':World}{A:Nat→Prop}{p:Nat}{d:DiskM}{s:Option StoM}{sv:Value}(h:SideA w A p d s sv)(hb:Below w.heap.size w w'):SideA w' A p d s sv :=
 h.mod (Mod.of_below (F:=fun _=>False) hb) (fun _ _ h=>h)
theorem SideA.turn {w w':World}{A F F':Nat→Prop}{p:Nat}{d d':DiskM}{s:Option StoM}{sv:Value}(h:SideA w A p d s sv)(hF:IsDisk w d p F∧(∀ k,F k→A k)∧((s=none∧sv=.pointer none)∨∃ (ps pl:Nat) (t:StoM),s=some t∧sv=.pointer (some ⟨ps,0,none⟩)∧A ps∧A pl∧¬ F ps∧¬ F pl∧ps≠pl∧StoB w ps p t.epoch (.pointer (some ⟨pl,0,none⟩)) t.dead∧xB w t.log pl p))(g1:IsDisk w' d' p F')(g2:Mod F w w')(g3:∀ k,F' k→F k∨w.heap.size≤k) :
  ∃ A',SideA w' A' p d' s sv∧Mod A w w'∧∀ k,A' k→A k∨w.heap.size≤k:=by
 obtain ⟨h1,h2,h3⟩:=hF;have hn:∀ k,A k→¬ F k→¬ F' k:=fun k ha hf h'=>(g3 k h').elim hf (fun g=>by have:=h.lt k ha;omega)
 refine ⟨fun k=>A k∨F' k,⟨⟨F',g1,fun k hk=>.inr hk,?_⟩,fun k hk=>?_⟩,g2.mono h2,fun k hk=>?_⟩
 ·
  rcases h3 with h3 | ⟨ps,pl,t,e1,e2,a1,a2,f1,f2,ne,b,l⟩
  · exact .inl h3
  · exact .inr ⟨ps,pl,t,e1,e2,.inl a1,.inl a2,hn _ a1 f1,hn _ a2 f2,ne,b.mod g2 f1,Box.mod l g2 f2⟩
 ·
  rcases hk with hk | hk
  · exact Nat.lt_of_lt_of_le (h.lt k hk) g2.size
  · exact g1.lt k hk
 ·
  rcases hk with hk | hk
  · exact .inl hk
  · exact (g3 k hk).imp (h2 k) id
theorem SideA.cut {w:World}{A:Nat→Prop}{p:Nat}{d:DiskM}{s:Option StoM}{sv:Value}(h:SideA w A p d s sv)(n:Int)(hn:n≤9223372036854775807) :
  Calls prog 11 #[.pointer (some ⟨p,0,none⟩),.int .i64 n] w fun e w'=>e=.returned (.tuple #[])∧∃ A',SideA w' A' p { d with left:=if n<0 then none else some n.toNat } s sv∧Mod A w w'∧∀ k,A' k→A k∨w.heap.size≤k:=by
 obtain ⟨F,hF⟩:=h.ex;refine (jhM d p F n w hF.1 hn).mono ?_;rintro e w' ⟨rfl,F',g1,g2,g3⟩;exact ⟨rfl,h.turn hF g1 g2 g3⟩
theorem SideA.restore {w:World}{A:Nat→Prop}{p:Nat}{d:DiskM}{s:Option StoM}{sv:Value}(h:SideA w A p d s sv) :
  Calls prog 24 #[.pointer (some ⟨p,0,none⟩)] w fun e w'=>e=.returned (.tuple #[])∧∃ A',SideA w' A' p { d with left:=none } s sv∧Mod A w w'∧∀ k,A' k→A k∨w.heap.size≤k:=by
 obtain ⟨F,hF⟩:=h.ex;refine (jd0 d p F w hF.1).mono ?_;rintro e w' ⟨rfl,F',g1,g2,g3⟩;exact ⟨rfl,h.turn hF g1 g2 (fun k hk=>.inl (g3 k hk))⟩
theorem SideA.write {w:World}{A:Nat→Prop}{p:Nat}{d:DiskM}{s:Option StoM}{sv:Value}(h:SideA w A p d s sv)(i:Int)(x:ByteArray)(ht:d.trail.length≤100000000000)(hs:x.size≤9223372036854775807) :
  Calls prog 25 #[.pointer (some ⟨p,0,none⟩),.int .i64 i,.string x] w fun e w'=>e=.returned (jo (d.write i x).2)∧∃ A',SideA w' A' p (d.write i x).1 s sv∧Mod A w w'∧∀ k,A' k→A k∨w.heap.size≤k:=by
 obtain ⟨F,hF⟩:=h.ex;refine (uK d p F i x w hF.1 ht hs).mono ?_;rintro e w' ⟨rfl,F',g1,g2,g3⟩;exact ⟨rfl,h.turn hF g1 g2 g3⟩
theorem SideA.append {w:World}{A:Nat→Prop}{p:Nat}{d:DiskM}{t:StoM}{sv:Value}(h:SideA w A p d (some t) sv)(e:EvtM)(st:StM)(v:Value)(hr:RdS w v st.l)(a0:∀ k,v.ownBlock=some k→¬ A k∧k<w.heap.size)(ho:∀ s∈st.l,SesOk s)(hu:e.s.user.length≤9223372036854775807)(a3:e.s.label.length≤9223372036854775807)(a4:e.s.scopes<2 ^ 64)(ht:d.trail.length≤9000000000)(hl:65≤d.strs.length)(h1:t.log.base+t.log.n≤d.strs.length)(h2:t.log.used≤t.log.n)(h3:t.log.records≤1000000000) :
  Calls prog 13 #[sv,.agg e.cells,.agg #[.int .i64 st.clock,.int .i64 st.births,v]] w fun r w'=>r=.returned (jo (t.append d e st).2.2)∧∃ A',SideA w' A' p (t.append d e st).2.1 (some (t.append d e st).1) sv∧Mod A w w'∧∀ k,A' k→A k∨w.heap.size≤k:=by
 obtain ⟨F,i1,i2,i3⟩:=h.ex
 rcases i3 with ⟨i3,_⟩ | ⟨ps,pl,t',e1,e2,a1,a2,f1,f2,ne,b,l⟩
 · cases i3
 injection e1 with e1
 subst e1;subst e2;refine (jcp t d e st v ps pl p F w b l i1 f1 f2 ne hr (fun k hk=>⟨fun hf=>(a0 k hk).1 (i2 k hf),fun e=>(a0 k hk).1 (by rw [e];exact a1),fun e=>(a0 k hk).1 (by rw [e];exact a2),(a0 k hk).2⟩) ho hu a3 a4 ht hl h1 h2 h3).mono ?_
 rintro r w' ⟨rfl,hx⟩;obtain ⟨F',pl',x1,x2,x3,x4,x5,x6,x7,x8⟩:=hx.ex;refine ⟨rfl,fun k=>F' k∨k=ps∨k=pl',⟨⟨F',x1,fun k hk=>.inl hk,.inr ⟨ps,pl',_,rfl,rfl,.inr (.inl rfl),.inr (.inr rfl),x6,x7,x8,x4,x5⟩⟩,fun k hk=>?_⟩,hx.md.mono (fun k hk=>?_),fun k hk=>?_⟩
 ·
  rcases hk with hk | rfl | rfl
  · exact x1.lt k hk
  · exact x4.bx.lt
  · exact Box.lt x5
 ·
  rcases hk with rfl | rfl | hk
  · exact a1
  · exact a2
  · exact i2 k hk
 ·
  rcases hk with hk | rfl | rfl
  · exact (x2 k hk).imp (i2 k) id
  · exact .inl a1
  ·
   rcases x3 with rfl | x3
   · exact .inl a2
   · exact .inr x3
theorem SideA.opens {w:World}{A:Nat→Prop}{p:Nat}{d:DiskM}{s:Option StoM}{sv:Value}(h:SideA w A p d s sv)(a0:∀ s∈d.strs,s.size≤256)(ht:d.trail.length≤9000000000)(hs:∀ b,(jX d b).length≤9223372036854775807)(a1:∀ s∈(yf d).1.l,SesOk s) :
  Calls prog 33 #[.pointer (some ⟨p,0,none⟩)] w fun e w'=>∃ pv o,e=.returned (.tuple #[pv,.agg #[.int .i64 (jP d).2.2.1.clock,.int .i64 (jP d).2.2.1.births,o],jo (jP d).2.2.2])∧((jP d).2.2.2=0→∃ a,pv=.pointer (some a))∧((jP d).2.2.2≠0→pv=.pointer none)∧OwnS w' w.heap.size o (jP d).2.2.1.l∧∃ A',SideA w' A' p (jP d).1 (uU (jP d)) pv∧Mod A w w'∧(∀ k,A' k→A k∨w.heap.size≤k)∧∀ k,o.ownBlock=some k→¬ A' k:=by
 obtain ⟨F,i1,i2,_⟩:=h.ex;refine (jdF d p F w i1 a0 ht hs a1).mono ?_;rintro e w' ⟨pv,o,rfl,hx⟩;obtain ⟨F',x1,x2,x3,x4⟩:=hx.ex;by_cases h0:(jP d).2.2.2=0
 ·
  obtain ⟨ps,pl,e1,g1,g2,g3,g4,g5,g6,g7,g8⟩:=x4 h0;subst e1;refine ⟨_,o,rfl,fun _=>⟨_,rfl⟩,fun h=>absurd h0 h,hx.ow,fun k=>F' k∨k=ps∨k=pl,⟨⟨F',x1,fun k hk=>.inl hk,.inr ⟨ps,pl,⟨(jP d).2.1,xV (jP d).2.1,false⟩,by unfold uU;rw [if_pos h0],rfl,.inr (.inl rfl),.inr (.inr rfl),g3,g4,g5,g6,g7⟩⟩,fun k hk=>?_⟩,hx.md.mono i2,fun k hk=>?_,fun k hk ha=>?_⟩
  ·
   rcases hk with hk | rfl | rfl
   · exact x1.lt k hk
   · exact g6.bx.lt
   · exact Box.lt g7
  ·
   rcases hk with hk | rfl | rfl
   · exact (x2 k hk).imp (i2 k) id
   · exact .inr g1
   · exact .inr g2
  ·
   rcases ha with ha | ha | ha
   · exact (x3 k hk).2 ha
   · exact (g8 k hk).1 ha
   · exact (g8 k hk).2 ha
 · refine ⟨pv,o,rfl,fun h=>absurd h h0,hx.no,hx.ow,F',⟨⟨F',x1,fun k hk=>hk,.inl ⟨by unfold uU;rw [if_neg h0],hx.no h0⟩⟩,fun k hk=>x1.lt k hk⟩,hx.md.mono i2,fun k hk=>(x2 k hk).imp (i2 k) id,fun k hk=>(x3 k hk).2⟩
structure SideB (w:World)(A:Nat→Prop)(p:Nat)(d:DiskM)(s:Option StoM)(sv:Value):Prop where
 ex:∃ F,IsRef w d p F∧(∀ k,F k→A k)∧((s=none∧sv=.pointer none)∨∃ (ps pl:Nat) (t:StoM),s=some t∧sv=.pointer (some ⟨ps,0,none⟩)∧A ps∧A pl∧¬ F ps∧¬ F pl∧ps≠pl∧RStoB w ps p t.epoch (.pointer (some ⟨pl,0,none⟩)) t.dead∧yX w t.log pl p)
 lt:∀ k,A k→k<w.heap.size
theorem SideB.mod {w w':World}{A G:Nat→Prop}{p:Nat}{d:DiskM}{s:Option StoM}{sv:Value}(h:SideB w A p d s sv)(hm:Mod G w w')(hn:∀ k,A k→¬ G k):SideB w' A p d s sv:=by
 obtain ⟨F,h1,h2,h3⟩:=h.ex;refine ⟨⟨F,h1.mod hm (fun k hk=>hn k (h2 k hk)),h2,?_⟩,fun k hk=>Nat.lt_of_lt_of_le (h.lt k hk) hm.size⟩
 rcases h3 with h3 | ⟨ps,pl,t,e1,e2,a1,a2,f1,f2,ne,b,l⟩
 · exact .inl h3
 · exact .inr ⟨ps,pl,t,e1,e2,a1,a2,f1,f2,ne,b.mod hm (hn _ a1),Box.mod l hm (hn _ a2)⟩
theorem SideB.below {w w':World}{A:Nat→Prop}{p:Nat}{d:DiskM}{s:Option StoM}{sv:Value}(h:SideB w A p d s sv)(hb:Below w.heap.size w w'):SideB w' A p d s sv :=
 h.mod (Mod.of_below (F:=fun _=>False) hb) (fun _ _ h=>h)
theorem SideB.turn {w w':World}{A F F':Nat→Prop}{p:Nat}{d d':DiskM}{s:Option StoM}{sv:Value}(h:SideB w A p d s sv)(hF:IsRef w d p F∧(∀ k,F k→A k)∧((s=none∧sv=.pointer none)∨∃ (ps pl:Nat) (t:StoM),s=some t∧sv=.pointer (some ⟨ps,0,none⟩)∧A ps∧A pl∧¬ F ps∧¬ F pl∧ps≠pl∧RStoB w ps p t.epoch (.pointer (some ⟨pl,0,none⟩)) t.dead∧yX w t.log pl p))(g1:IsRef w' d' p F')(g2:Mod F w w')(g3:∀ k,F' k→F k∨w.heap.size≤k) :
  ∃ A',SideB w' A' p d' s sv∧Mod A w w'∧∀ k,A' k→A k∨w.heap.size≤k:=by
 obtain ⟨h1,h2,h3⟩:=hF;have hn:∀ k,A k→¬ F k→¬ F' k:=fun k ha hf h'=>(g3 k h').elim hf (fun g=>by have:=h.lt k ha;omega)
 refine ⟨fun k=>A k∨F' k,⟨⟨F',g1,fun k hk=>.inr hk,?_⟩,fun k hk=>?_⟩,g2.mono h2,fun k hk=>?_⟩
 ·
  rcases h3 with h3 | ⟨ps,pl,t,e1,e2,a1,a2,f1,f2,ne,b,l⟩
  · exact .inl h3
  · exact .inr ⟨ps,pl,t,e1,e2,.inl a1,.inl a2,hn _ a1 f1,hn _ a2 f2,ne,b.mod g2 f1,Box.mod l g2 f2⟩
 ·
  rcases hk with hk | hk
  · exact Nat.lt_of_lt_of_le (h.lt k hk) g2.size
  · exact g1.lt k hk
 ·
  rcases hk with hk | hk
  · exact .inl hk
  · exact (g3 k hk).imp (h2 k) id
theorem SideB.cut {w:World}{A:Nat→Prop}{p:Nat}{d:DiskM}{s:Option StoM}{sv:Value}(h:SideB w A p d s sv)(n:Int)(hn:n≤9223372036854775807) :
  Calls prog 23 #[.pointer (some ⟨p,0,none⟩),.int .i64 n] w fun e w'=>e=.returned (.tuple #[])∧∃ A',SideB w' A' p { d with left:=if n<0 then none else some n.toNat } s sv∧Mod A w w'∧∀ k,A' k→A k∨w.heap.size≤k:=by
 obtain ⟨F,hF⟩:=h.ex;refine (jeQ d p F n w hF.1 hn).mono ?_;rintro e w' ⟨rfl,g1,g2⟩;exact ⟨rfl,h.turn hF g1 g2 (fun k hk=>.inl hk)⟩
theorem SideB.write {w:World}{A:Nat→Prop}{p:Nat}{d:DiskM}{s:Option StoM}{sv:Value}(h:SideB w A p d s sv)(i:Int)(x:ByteArray)(ht:d.trail.length≤100000000000)(hs:x.size≤9223372036854775807) :
  Calls prog 26 #[.pointer (some ⟨p,0,none⟩),.int .i64 i,.string x] w fun e w'=>e=.returned (.int .i64 (d.write i x).2)∧∃ A',SideB w' A' p (d.write i x).1 s sv∧Mod A w w'∧∀ k,A' k→A k∨w.heap.size≤k:=by
 obtain ⟨F,hF⟩:=h.ex;refine (zD d p F i x w hF.1 ht hs).mono ?_;rintro e w' ⟨rfl,F',g1,g2,g3⟩;exact ⟨rfl,h.turn hF g1 g2 g3⟩
theorem SideB.append {w:World}{A:Nat→Prop}{p:Nat}{d:DiskM}{t:StoM}{sv:Value}(h:SideB w A p d (some t) sv)(e:EvtM)(st:StM)(v:Value)(hr:RdS w v st.l)(a0:0<st.l.length→∀ k,v.ownBlock=some k→¬ A k∧k<w.heap.size)(ho:∀ s∈st.l,SesOk s)(hu:e.s.user.length≤9223372036854775807)(a3:e.s.label.length≤9223372036854775807)(a4:e.s.scopes<2 ^ 64)(ht:d.trail.length≤9000000000)(hl:65≤d.strs.length)(h1:t.log.base+t.log.n≤d.strs.length)(h2:t.log.used≤t.log.n)(h3:t.log.records≤1000000000)(a5:d.strs.length≤4096) :
  Calls prog 51 #[sv,.agg e.cells,.agg #[.int .i64 st.clock,.int .i64 st.births,v]] w fun r w'=>r=.returned (.int .i64 (t.append d e st).2.2)∧∃ A',SideB w' A' p (t.append d e st).2.1 (some (t.append d e st).1) sv∧Mod A w w'∧∀ k,A' k→A k∨w.heap.size≤k:=by
 obtain ⟨F,i1,i2,i3⟩:=h.ex
 rcases i3 with ⟨i3,_⟩ | ⟨ps,pl,t',e1,e2,a1,a2,f1,f2,ne,b,l⟩
 · cases i3
 injection e1 with e1
 subst e1;subst e2;refine (jaS t d e st v ps pl p F w b l i1 f1 f2 ne hr (fun h0 k hk=>⟨fun hf=>(a0 h0 k hk).1 (i2 k hf),fun e=>(a0 h0 k hk).1 (by rw [e];exact a1),fun e=>(a0 h0 k hk).1 (by rw [e];exact a2),(a0 h0 k hk).2⟩) ho hu a3 a4 ht hl h1 h2 h3 a5).mono ?_
 rintro r w' ⟨rfl,hx⟩;obtain ⟨F',pl',x1,x2,x3,x4,x5,x6,x7,x8⟩:=hx.ex;refine ⟨rfl,fun k=>F' k∨k=ps∨k=pl',⟨⟨F',x1,fun k hk=>.inl hk,.inr ⟨ps,pl',_,rfl,rfl,.inr (.inl rfl),.inr (.inr rfl),x6,x7,x8,x4,x5⟩⟩,fun k hk=>?_⟩,hx.md.mono (fun k hk=>?_),fun k hk=>?_⟩
 ·
  rcases hk with hk | rfl | rfl
  · exact x1.lt k hk
  · exact x4.bx.lt
  · exact Box.lt x5
 ·
  rcases hk with rfl | rfl | hk
  · exact a1
  · exact a2
  · exact i2 k hk
 ·
  rcases hk with hk | rfl | rfl
  · exact (x2 k hk).imp (i2 k) id
  · exact .inl a1
  ·
   rcases x3 with rfl | x3
   · exact .inl a2
   · exact .inr x3
theorem SideB.opens {w:World}{A:Nat→Prop}{p:Nat}{d:DiskM}{s:Option StoM}{sv:Value}(h:SideB w A p d s sv)(a0:d.Wf)(a1:d.strs.length≤4096)(a2:∀ s∈d.strs,s.size≤256)(ht:d.trail.length≤9000000000)(hs:∀ b,(jX d b).length≤9223372036854775807)(a3:∀ s∈(yf d).1.l,SesOk s) :
  Calls prog 46 #[.pointer (some ⟨p,0,none⟩)] w fun e w'=>∃ pv o,e=.returned (.tuple #[pv,.agg #[.int .i64 (jP d).2.2.1.clock,.int .i64 (jP d).2.2.1.births,o],.int .i64 (jP d).2.2.2])∧((jP d).2.2.2=0→∃ a,pv=.pointer (some a))∧((jP d).2.2.2≠0→pv=.pointer none)∧OwnS w' w.heap.size o (jP d).2.2.1.l∧∃ A',SideB w' A' p (jP d).1 (uU (jP d)) pv∧Mod A w w'∧(∀ k,A' k→A k∨w.heap.size≤k)∧∀ k,o.ownBlock=some k→¬ A' k:=by
 obtain ⟨F,i1,i2,_⟩:=h.ex;refine (jcm d p F w i1 a0 a1 a2 ht hs a3).mono ?_;rintro e w' ⟨pv,o,rfl,hx⟩;obtain ⟨F',x1,x2,x3,x4⟩:=hx.ex;by_cases h0:(jP d).2.2.2=0
 ·
  obtain ⟨ps,pl,e1,g1,g2,g3,g4,g5,g6,g7,g8⟩:=x4 h0;subst e1;refine ⟨_,o,rfl,fun _=>⟨_,rfl⟩,fun h=>absurd h0 h,hx.ow,fun k=>F' k∨k=ps∨k=pl,⟨⟨F',x1,fun k hk=>.inl hk,.inr ⟨ps,pl,⟨(jP d).2.1,xV (jP d).2.1,false⟩,by unfold uU;rw [if_pos h0],rfl,.inr (.inl rfl),.inr (.inr rfl),g3,g4,g5,g6,g7⟩⟩,fun k hk=>?_⟩,hx.md.mono i2,fun k hk=>?_,fun k hk ha=>?_⟩
  ·
   rcases hk with hk | rfl | rfl
   · exact x1.lt k hk
   · exact g6.bx.lt
   · exact Box.lt g7
  ·
   rcases hk with hk | rfl | rfl
   · exact (x2 k hk).imp (i2 k) id
   · exact .inr g1
   · exact .inr g2
  ·
   rcases ha with ha | ha | ha
   · exact (x3 k hk).2 ha
   · exact (g8 k hk).1 ha
   · exact (g8 k hk).2 ha
 · refine ⟨pv,o,rfl,fun h=>absurd h h0,hx.no,hx.ow,F',⟨⟨F',x1,fun k hk=>hk,.inl ⟨by unfold uU;rw [if_neg h0],hx.no h0⟩⟩,fun k hk=>x1.lt k hk⟩,hx.md.mono i2,fun k hk=>(x2 k hk).imp (i2 k) id,fun k hk=>(x3 k hk).2⟩
end Go.Proofs.YtgcnolapjppbpaaGreatDoor
