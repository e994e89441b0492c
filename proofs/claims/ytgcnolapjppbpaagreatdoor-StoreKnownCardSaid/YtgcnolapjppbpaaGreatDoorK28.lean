/- Texts of one proof. -/
import Derived.Test.YtgcnolapjppbpaaGreatDoorK08
namespace Go.Proofs.YtgcnolapjppbpaaGreatDoor
open Go.RowKit _root_.Go.Proofs.Tryz
set_option maxRecDepth 100000
set_option maxHeartbeats 25600000
theorem jjv (x:Value)(l:List UInt8)(w:World)(hx:Rd w x l.length (l.map V8))(hl:l.length<=1000000000000) :
  Calls prog 93 #[x] w fun ev w'=>ev=.returned (.tuple #[.agg (vT l).2.cells,jm (vT l).1])/\Below w.heap.size w w':=by
 have H0:=Hd (fun o=>jdV x l (w.alloc o) (hx.below (ja w o)) hl)
 have H1:=Hd (fun o=>ja w o)
 have d0:∀ t,Box (w.alloc (.cells #[(0:Int),(0:Int),(0:Int),(0:Int),(0:Int),(0:Int),.string ⟨#[]⟩,.string ⟨#[]⟩,.int .u64 0,(0:Int),(0:Int),(0:Int),(0:Int),(0:Int),(0:Int)] t)) w.heap.size jW.cells t:=fun t=>Box.new w jW.cells t
 have H2:=Hd d0;obtain ⟨D,hD⟩:=Nm (vT l);rw [<- hD];unfold vT at hD;simp only at hD;obtain ⟨xa,xc,rfl,_⟩:=hx;clear hl d0;go_enter func93,ntmps93;go_wp2_with fail;refine (H0.1 _).mono ?_;rintro ev w1 ⟨r,v,rfl,hi,hb,hr,hv⟩;rw [qj] at hr hv;have d1:w.heap.size+1<=w1.heap.size:=by have:=hb.size;rw [qj] at this;exact this
 have d2:=hi.box.lt;have c5:DecSt w (w1.alloc (.cells #[.pointer (some ⟨r,0,none⟩),.nilIface,.bool false] 247)) w1.heap.size r w.heap.size v ⟨l,0,0,false⟩ :=
  ⟨⟨Box.new _ _ _,hi.below (ja _ _),by omega,fun e=>by have:=(hv _ e).2;omega,fun b d8=>by have:=(hv b d8).2;simp;omega⟩,
   ((H2.1 _).below hb).below (ja _ _),((H1.1 _).trans (hb.mono (by simp))).trans ((ja _ _).mono (by omega)),by omega,by omega,fun e=>by have:=(hv _ e).1;omega,by omega,by omega,qm _⟩
 have U:=Hd c5;have H8:=Hd hv;have H9:=Hd (And.intro d1 (And.intro hr d2));clear c5 hv d1 d2 hr hb hi H0 H1 H2;go_wp2_with fail;refine (vi w1.heap.size r v _ _ U.1.it).mono ?_;rintro ev w2 ⟨rfl,c4,d3⟩;have A:=Hd (U.1.step c4 d3);generalize (TkM.num ⟨l,0,0,false⟩)=p at hD A c4 |-;obtain ⟨x,s1⟩:=p;simp only at hD A c4 |-;clear c4 d3 U;have c1:w2.cell? ⟨w1.heap.size,1,none⟩=some (jm s1.er):=A.1.it.box.cell 1 _ rfl;by_cases he:s1.er=0;rotate_left
 .
  rw [yJ he] at c1;rw [qh he] at hD;have V:=Hd (⟨c1,A.1.bz,A.1.bel,A.1.n1,A.1.g3⟩:ExS w w1.heap.size w.heap.size (.iface 91 s1.er) w2);have I:=Hd hD;have c6:∀ w',ExS w w1.heap.size w.heap.size (.iface 91 s1.er) w'->w'.cell? ⟨w1.heap.size,1,none⟩=some (.iface 91 s1.er):=fun w' h=>h.ce
  clear hD A;go_wp2_with fail;clear c1;refine qt (S:=ExS w w1.heap.size w.heap.size (.iface 91 s1.er)) (by kernel_rfl) V.1.drew (fun a3=>?_)
  refine Te 0 20 ?_;refine Te 1 21 ?_;refine Te 2 22 ?_;refine Te 3 23 ?_;refine Te 4 24 ?_;refine Rs 5 47 2 20 fun K hK=>?_
  rw [qf (by kernel_rfl)]
  refine zb 47 (.tmp 2) (.tmp 20) rfl w.heap.size 0 jW.cells.toList rfl rfl a3.bz.thereE (by kernel_rfl) jW.one ?_
  refine hK.out _ _ a3.store (fun a4=>?_)
  clear hK K
  try simp only [Act.put]
  refine Te 6 3 ?_;refine Dn ?_;have B:=Hd a4;clear a3 a4 c6 V;generalize World.setCells _ _ _ _=wz at B |-;go_wp2;exact Jt B.1.bz.rangeE underlying47 ⟨by rw [I.1,yJ he] <;> rfl,B.1.bel⟩
 rw [show jm s1.er=.nilIface by unfold jm;rw [qf he]] at c1
 rw [qf he] at hD;clear he;by_cases h2:2<x
 .
  have g2:(2:Int)<(x:Int):=by omega
  rw [qf h2] at hD;have I:=Hd hD;clear hD h2
  go_wp2_with (with_reducible refine Sk jW.cells.toList xF A.1.bz.thereE jW.one ?_)
  intro wz a2;have a5:=A.1.out jW;rw [<- a2.out] at a5;have B:=Hd a5;clear a2 a5;go_wp2;exact Jt B.1.1.rangeE underlying47 ⟨by rw [I.1] <;> rfl,B.1.2⟩
 rw [qh h2] at hD;obtain rfl | rfl | rfl:x=0\/x=1\/x=2:=by omega
 focus
  rw [qf rfl] at hD;clear h2;have b2:DecSt w (w2.alloc (.cells #[(0:Int),(0:Int),(0:Int),(0:Int),(0:Int),(0:Int),.string ⟨#[]⟩,.string ⟨#[]⟩,.int .u64 0,(0:Int),(0:Int),(0:Int),(0:Int),(0:Int),(0:Int)] 47)) w1.heap.size r w.heap.size v s1:=A.1.below (ja _ _);have b3:Box (w2.alloc (.cells #[(0:Int),(0:Int),(0:Int),(0:Int),(0:Int),(0:Int),.string ⟨#[]⟩,.string ⟨#[]⟩,.int .u64 0,(0:Int),(0:Int),(0:Int),(0:Int),(0:Int),(0:Int)] 47)) w2.heap.size (EvtM.cells ⟨0,ju,0,0⟩) 47:=Box.new _ _ _;have a2:w.heap.size<w2.heap.size:=A.1.bz.lt;have b4:w1.heap.size<w2.heap.size:=A.1.it.box.lt;have b5:r<w2.heap.size:=A.1.it.rd.box.lt;have b6:v.ownBlock≠some w2.heap.size:=fun e=>by have:=A.1.it.vl _ e;omega
  have F:=Hd b2;have J:=Hd b3;have H:=Hd (And.intro a2 (And.intro b4 (And.intro b5 b6)));clear b2 b3 a2 b4 b5 b6 A;unfold jY at hD;simp only at hD;go_wp2_with fail;clear c1;have HSd:DecSt w ((w2.alloc (.cells #[(0:Int),(0:Int),(0:Int),(0:Int),(0:Int),(0:Int),.string ⟨#[]⟩,.string ⟨#[]⟩,.int .u64 0,(0:Int),(0:Int),(0:Int),(0:Int),(0:Int),(0:Int)] 47))).drew w1.heap.size r w.heap.size v s1:=F.1.below (jb _);have HEd:Box ((w2.alloc (.cells #[(0:Int),(0:Int),(0:Int),(0:Int),(0:Int),(0:Int),.string ⟨#[]⟩,.string ⟨#[]⟩,.int .u64 0,(0:Int),(0:Int),(0:Int),(0:Int),(0:Int),(0:Int)] 47))).drew w2.heap.size (EvtM.cells ⟨0,ju,0,0⟩) 47:=J.1;have L:=Hd (zX w1.heap.size r w2.heap.size (w2.heap.size+1) v s1 [1,2,3,4,5] (EvtM.cells ⟨0,ju,0,0⟩) 47 242 (World.alloc ((w2.alloc (.cells #[(0:Int),(0:Int),(0:Int),(0:Int),(0:Int),(0:Int),.string ⟨#[]⟩,.string ⟨#[]⟩,.int .u64 0,(0:Int),(0:Int),(0:Int),(0:Int),(0:Int),(0:Int)] 47)).drew) (.cells #[.pointer (some ⟨w2.heap.size,1,none⟩),.pointer (some ⟨w2.heap.size,2,none⟩),.pointer (some ⟨w2.heap.size,3,none⟩),.pointer (some ⟨w2.heap.size,4,none⟩),.pointer (some ⟨w2.heap.size,5,none⟩)] 242)) (HSd.below (ja _ _)).it (HEd.below (ja _ _)) (by have:=Box.new ((w2.alloc (.cells #[(0:Int),(0:Int),(0:Int),(0:Int),(0:Int),(0:Int),.string ⟨#[]⟩,.string ⟨#[]⟩,.int .u64 0,(0:Int),(0:Int),(0:Int),(0:Int),(0:Int),(0:Int)] 47))).drew #[.pointer (some ⟨w2.heap.size,1,none⟩),.pointer (some ⟨w2.heap.size,2,none⟩),.pointer (some ⟨w2.heap.size,3,none⟩),.pointer (some ⟨w2.heap.size,4,none⟩),.pointer (some ⟨w2.heap.size,5,none⟩)] 242;rw [show ((w2.alloc (.cells #[(0:Int),(0:Int),(0:Int),(0:Int),(0:Int),(0:Int),.string ⟨#[]⟩,.string ⟨#[]⟩,.int .u64 0,(0:Int),(0:Int),(0:Int),(0:Int),(0:Int),(0:Int)] 47))).drew.heap.size=w2.heap.size+1 from by show ((w2.alloc (.cells #[(0:Int),(0:Int),(0:Int),(0:Int),(0:Int),(0:Int),.string ⟨#[]⟩,.string ⟨#[]⟩,.int .u64 0,(0:Int),(0:Int),(0:Int),(0:Int),(0:Int),(0:Int)] 47))).heap.size=_;rw [qj]] at this;exact this) (by intro o ho;simp only [qH,qO,wM] at ho;rcases ho with rfl | rfl | rfl | rfl | rfl <;>(change _<15;decide)) (by have:=H.1;omega) (by have:=H.1;omega) (by have:=H.1;omega) (by have:=H.1;omega) (by omega) H.1.2.2.2 (by decide))
  have M:=Hd HSd;clear HSd HEd F J;have c7:True:=trivial;refine qt (S:=fun _=>True) (by kernel_rfl) trivial (fun a3=>?_)
  refine Te 0 37 ?_;refine Te 1 38 ?_;refine Te 2 39 ?_;refine Te 3 40 ?_;refine Te 4 41 ?_;refine Te 5 42 ?_;refine Te 6 43 ?_;refine Te 7 44 ?_;refine Te 8 45 ?_;refine Te 9 46 ?_;refine Te 10 47 ?_;refine Te 11 48 ?_;refine Te 12 49 ?_;refine Te 13 50 ?_;refine Te 14 51 ?_;refine Te 15 52 ?_;refine Te 16 53 ?_;refine Te 17 54 ?_;refine pD (rs := [18]) (by kernel_rfl) (by simp) (wJ (o:=⟨some 55,.buildSlice _ 5 _,_,_,_,none⟩) rfl (fun K hK=>?_) px)
  go_simp
  refine hK.out _ _ trivial (fun a4=>?_)
  clear hK K a4
  try simp only [Nz]
  refine Rc 19 56 fun K hK=>?_
  go_simp
  refine L.1.mono ?_;rintro ev w4 ⟨rfl,a8,a0,a9⟩;refine hK.out _ _ trivial (fun _=>?_)
  clear hK K
  try simp only [Nz]
  refine Dn ?_;have a1:=(M.1.below (ja _ (.cells #[.pointer (some ⟨w2.heap.size,1,none⟩),.pointer (some ⟨w2.heap.size,2,none⟩),.pointer (some ⟨w2.heap.size,3,none⟩),.pointer (some ⟨w2.heap.size,4,none⟩),.pointer (some ⟨w2.heap.size,5,none⟩)] 242))).ints a8 a9 (by have:=H.1;omega) (by have:=H.1;omega)
  change DecSt w w4 w1.heap.size r w.heap.size v s1.int.2.int.2.int.2.int.2.int.2 at a1
  change Box w4 w2.heap.size (EvtM.cells ⟨0,⟨s1.int.1,s1.int.2.int.1,s1.int.2.int.2.int.1,s1.int.2.int.2.int.2.int.1,s1.int.2.int.2.int.2.int.2.int.1,[],[],0,0,0,0,0⟩,0,0⟩) 47 at a0
  clear a8 a9 L M c7 a3;generalize s1.int=p at a1 a0 hD;obtain ⟨n1,s2⟩:=p;simp only at a1 a0 hD;generalize s2.int=p at a1 a0 hD;obtain ⟨n2,s3⟩:=p;simp only at a1 a0 hD;generalize s3.int=p at a1 a0 hD;obtain ⟨n3,s4⟩:=p;simp only at a1 a0 hD;generalize s4.int=p at a1 a0 hD;obtain ⟨n4,s5⟩:=p;simp only at a1 a0 hD;generalize s5.int=p at a1 a0 hD;obtain ⟨n5,s6⟩:=p;simp only at a1 a0 hD;have W:=Hd a1;have H3:=Hd a0;clear a1 a0;go_wp2_with fail;refine (jbB w1.heap.size r v s6 _ W.1.it).mono ?_;rintro ev w5 ⟨rfl,hi,hm⟩;have a7:=W.1.step hi hm;have hE:=H3.1.mod hm (by rintro (e | e) <;>(have:=H.1;omega))
  have b7:=s6.txt_len;clear hi hm;generalize s6.txt=p at a7 hD b7 |-;obtain ⟨u,s7⟩:=p;simp only at a7 hD b7 |-;have X:=Hd a7;have H4:=Hd hE;have P:=Hd b7;clear a7 hE b7 W H3;go_wp2_with fail;refine (jbB w1.heap.size r v s7 _ X.1.it).mono ?_;rintro ev w6 ⟨rfl,hi,hm⟩;have a7:=X.1.step hi hm;have hE:=H4.1.mod hm (by rintro (e | e) <;>(have:=H.1;omega))
  have b1:=s7.txt_len;clear hi hm;generalize s7.txt=p at a7 hD b1 |-;obtain ⟨lb,s8⟩:=p;simp only at a7 hD b1 |-;have H5:=Hd a7;have Q:=Hd hE;have N:=Hd b1;clear a7 hE b1 X H4;have k6:=Q.1.cell 6 _ rfl;have f6:=Q.1.free 6;have b8:Box (w6.setCell ⟨w2.heap.size,6,none⟩ (.string (SB u))) w2.heap.size (EvtM.cells ⟨0,⟨n1,n2,n3,n4,n5,u,[],0,0,0,0,0⟩,0,0⟩) 47:=Q.1.set 6 _;have b9:=H5.1.mod (Mod.set (fun i=>i=w2.heap.size) w6 ⟨w2.heap.size,6,none⟩ (.string (SB u)) rfl) (by have:=H.1;omega) (by have:=H.1;omega) (by have:=H.1;omega) H.1.2.2.2 (by have:=H.1;omega)
  have k7:=b8.cell 7 _ rfl;have f7:=b8.free 7;have d4:Box ((w6.setCell ⟨w2.heap.size,6,none⟩ (.string (SB u))).setCell ⟨w2.heap.size,7,none⟩ (.string (SB lb))) w2.heap.size (EvtM.cells ⟨0,⟨n1,n2,n3,n4,n5,u,lb,0,0,0,0,0⟩,0,0⟩) 47:=b8.set 7 _;have Y:=Hd (b9.mod (Mod.set (fun i=>i=w2.heap.size) (w6.setCell ⟨w2.heap.size,6,none⟩ (.string (SB u))) ⟨w2.heap.size,7,none⟩ (.string (SB lb)) rfl) (by have:=H.1;omega) (by have:=H.1;omega) (by have:=H.1;omega) H.1.2.2.2 (by have:=H.1;omega))
  have H6:=Hd d4;clear b8 d4 b9 Q H5;go_wp2_with fail;refine (vi w1.heap.size r v s8 _ Y.1.it).mono ?_;rintro ev w7 ⟨rfl,hi,hm⟩;have a7:=Y.1.step hi hm;have hE:=H6.1.mod hm (by rintro (e | e) <;>(have:=H.1;omega))
  clear hi hm k6 f6 k7 f7 Y H6;generalize s8.num=p at a7 hD |-;obtain ⟨sc,s9⟩:=p;simp only at a7 hD |-;have k8:=hE.cell 8 _ rfl;have f8:=hE.free 8;have b8:Box (w7.setCell ⟨w2.heap.size,8,none⟩ (.int .u64 (sc:Int))) w2.heap.size (EvtM.cells ⟨0,⟨n1,n2,n3,n4,n5,u,lb,sc,0,0,0,0⟩,0,0⟩) 47:=hE.set 8 _;have C:=Hd (a7.mod (Mod.set (fun i=>i=w2.heap.size) w7 ⟨w2.heap.size,8,none⟩ (.int .u64 (sc:Int)) rfl) (by have:=H.1;omega) (by have:=H.1;omega) (by have:=H.1;omega) H.1.2.2.2 (by have:=H.1;omega))
  have G:=Hd b8;clear hE a7 b8;go_wp2_with fail;clear k8 f8;obtain ⟨wa,d6⟩:∃ wa,wa=(w7.setCell ⟨w2.heap.size,8,none⟩ (.int .u64 (sc:Int))):=⟨_,rfl⟩;rw [<- d6] at G C |-;clear d6;have HSd:DecSt w wa.drew w1.heap.size r w.heap.size v s9:=C.1.below (jb _);have HEd:Box wa.drew w2.heap.size (EvtM.cells ⟨0,⟨n1,n2,n3,n4,n5,u,lb,sc,0,0,0,0⟩,0,0⟩) 47:=G.1;have d9:w2.heap.size<wa.heap.size:=G.1.lt;have e0:w1.heap.size<wa.heap.size:=C.1.it.box.lt;have e1:r<wa.heap.size:=C.1.it.rd.box.lt;have L:=Hd (zX w1.heap.size r w2.heap.size (wa.heap.size) v s9 [9,10,11,12] (EvtM.cells ⟨0,⟨n1,n2,n3,n4,n5,u,lb,sc,0,0,0,0⟩,0,0⟩) 47 242 (World.alloc (wa.drew) (.cells #[.pointer (some ⟨w2.heap.size,9,none⟩),.pointer (some ⟨w2.heap.size,10,none⟩),.pointer (some ⟨w2.heap.size,11,none⟩),.pointer (some ⟨w2.heap.size,12,none⟩)] 242)) (HSd.below (ja _ _)).it (HEd.below (ja _ _)) (Box.new wa.drew #[.pointer (some ⟨w2.heap.size,9,none⟩),.pointer (some ⟨w2.heap.size,10,none⟩),.pointer (some ⟨w2.heap.size,11,none⟩),.pointer (some ⟨w2.heap.size,12,none⟩)] 242) (by intro o ho;simp only [qH,qO,wM] at ho;rcases ho with rfl | rfl | rfl | rfl <;>(change _<15;decide)) (by have:=H.1;omega) (by have:=H.1;omega) (by have:=H.1;omega) (by have:=H.1;omega) (by omega) H.1.2.2.2 (by decide))
  have M:=Hd HSd;clear HSd HEd C G;have c7:True:=trivial;refine qt (S:=fun _=>True) (by kernel_rfl) trivial (fun a3=>?_)
  refine Te 0 72 ?_;refine Te 1 73 ?_;refine Te 2 74 ?_;refine Te 3 75 ?_;refine Te 4 76 ?_;refine Te 5 77 ?_;refine Te 6 78 ?_;refine Te 7 79 ?_;refine Te 8 80 ?_;refine Te 9 81 ?_;refine Te 10 82 ?_;refine Te 11 83 ?_;refine Te 12 84 ?_;refine pD (rs := [13]) (by kernel_rfl) (by simp) (wJ (o:=⟨some 85,.buildSlice _ 4 _,_,_,_,none⟩) rfl (fun K hK=>?_) px)
  go_simp
  refine hK.out _ _ trivial (fun a4=>?_)
  clear hK K a4
  try simp only [Nz]
  refine Rc 14 86 fun K hK=>?_
  go_simp
  refine L.1.mono ?_;rintro ev w4 ⟨rfl,a8,a0,a9⟩;refine hK.out _ _ trivial (fun _=>?_)
  clear hK K
  try simp only [Nz]
  refine Dn ?_;have a1:=(M.1.below (ja _ (.cells #[.pointer (some ⟨w2.heap.size,9,none⟩),.pointer (some ⟨w2.heap.size,10,none⟩),.pointer (some ⟨w2.heap.size,11,none⟩),.pointer (some ⟨w2.heap.size,12,none⟩)] 242))).ints a8 a9 (by have:=H.1;omega) (by have:=H.1;omega)
  change DecSt w w4 w1.heap.size r w.heap.size v s9.int.2.int.2.int.2.int.2 at a1
  change Box w4 w2.heap.size (EvtM.cells ⟨0,⟨n1,n2,n3,n4,n5,u,lb,sc,s9.int.1,s9.int.2.int.1,s9.int.2.int.2.int.1,s9.int.2.int.2.int.2.int.1⟩,0,0⟩) 47 at a0
  clear a8 a9 L M c7 a3 d9 e0 e1;generalize s9.int=p at a1 a0 hD;obtain ⟨n6,s10⟩:=p;simp only at a1 a0 hD;generalize s10.int=p at a1 a0 hD;obtain ⟨n7,s11⟩:=p;simp only at a1 a0 hD;generalize s11.int=p at a1 a0 hD;obtain ⟨n8,s12⟩:=p;simp only at a1 a0 hD;generalize s12.int=p at a1 a0 hD;obtain ⟨n9,s9⟩:=p;simp only at a1 a0 hD;obtain ⟨e9,b0⟩:∃ e:EvtM,e=⟨0,⟨n1,n2,n3,n4,n5,u,lb,sc,n6,n7,n8,n9⟩,0,0⟩:=⟨_,rfl⟩;have Z:=Hd (show e9.s.user.length<=9223372036854775807/\e9.s.label.length<=9223372036854775807 by rw [b0];exact ⟨qi P.1 (by decide),qi N.1 (by decide)⟩)
  rw [<- b0] at a0 hD;clear b0 P N;have E:=Hd a1;have R:=Hd a0;clear a1 a0
 rotate_left
 focus
  rw [qh (by decide),qf rfl] at hD
  clear h2;have b2:DecSt w (w2.alloc (.cells #[(1:Int),(0:Int),(0:Int),(0:Int),(0:Int),(0:Int),.string ⟨#[]⟩,.string ⟨#[]⟩,.int .u64 0,(0:Int),(0:Int),(0:Int),(0:Int),(0:Int),(0:Int)] 47)) w1.heap.size r w.heap.size v s1:=A.1.below (ja _ _);have b3:Box (w2.alloc (.cells #[(1:Int),(0:Int),(0:Int),(0:Int),(0:Int),(0:Int),.string ⟨#[]⟩,.string ⟨#[]⟩,.int .u64 0,(0:Int),(0:Int),(0:Int),(0:Int),(0:Int),(0:Int)] 47)) w2.heap.size (EvtM.cells ⟨1,ju,0,0⟩) 47:=Box.new _ _ _;have a2:w.heap.size<w2.heap.size:=A.1.bz.lt;have b4:w1.heap.size<w2.heap.size:=A.1.it.box.lt;have b5:r<w2.heap.size:=A.1.it.rd.box.lt;have b6:v.ownBlock≠some w2.heap.size:=fun e=>by have:=A.1.it.vl _ e;omega
  have F:=Hd b2;have J:=Hd b3;have H:=Hd (And.intro a2 (And.intro b4 (And.intro b5 b6)));clear b2 b3 a2 b4 b5 b6 A;have L:=Hd (zX w1.heap.size r w2.heap.size (w2.heap.size+1) v s1 [13] (EvtM.cells ⟨1,ju,0,0⟩) 47 242 ((w2.alloc (.cells #[(1:Int),(0:Int),(0:Int),(0:Int),(0:Int),(0:Int),.string ⟨#[]⟩,.string ⟨#[]⟩,.int .u64 0,(0:Int),(0:Int),(0:Int),(0:Int),(0:Int),(0:Int)] 47)).alloc (.cells #[.pointer (some ⟨w2.heap.size,13,none⟩)] 242)) (F.1.below (ja _ _)).it (J.1.below (ja _ _)) (by have:=Box.new (w2.alloc (.cells #[(1:Int),(0:Int),(0:Int),(0:Int),(0:Int),(0:Int),.string ⟨#[]⟩,.string ⟨#[]⟩,.int .u64 0,(0:Int),(0:Int),(0:Int),(0:Int),(0:Int),(0:Int)] 47)) #[.pointer (some ⟨w2.heap.size,13,none⟩)] 242;rw [qj] at this;exact this) (by intro o ho;rw [qC.1 ho];decide) (by have:=H.1;omega) (by have:=H.1;omega) (by have:=H.1;omega) (by have:=H.1;omega) (by omega) H.1.2.2.2 (by decide))
  go_wp2_with fail;clear c1;refine L.1.mono ?_;rintro ev w4 ⟨rfl,a8,a0,a9⟩;have a1:=(F.1.below (ja _ (.cells #[.pointer (some ⟨w2.heap.size,13,none⟩)] 242))).ints a8 a9 (by have:=H.1;omega) (by have:=H.1;omega)
  change DecSt w w4 w1.heap.size r w.heap.size v s1.int.2 at a1
  change Box w4 w2.heap.size (EvtM.cells ⟨1,ju,s1.int.1,0⟩) 47 at a0
  obtain ⟨e9,b0⟩:∃ e:EvtM,e=⟨1,ju,s1.int.1,0⟩:=⟨_,rfl⟩;have Z:=Hd (show e9.s.user.length<=9223372036854775807/\e9.s.label.length<=9223372036854775807 by rw [b0];exact ⟨by show (0:Nat)<=_;omega,by show (0:Nat)<=_;omega⟩)
  rw [<- b0] at a0 hD;clear b0;generalize s1.int.2=s9 at a1 hD;have E:=Hd a1;have R:=Hd a0;clear a8 a0 a9 a1 F J L
 rotate_left
 focus
  rw [qh (by decide),qh (by decide)] at hD
  clear h2;have b2:DecSt w (w2.alloc (.cells #[(2:Int),(0:Int),(0:Int),(0:Int),(0:Int),(0:Int),.string ⟨#[]⟩,.string ⟨#[]⟩,.int .u64 0,(0:Int),(0:Int),(0:Int),(0:Int),(0:Int),(0:Int)] 47)) w1.heap.size r w.heap.size v s1:=A.1.below (ja _ _);have b3:Box (w2.alloc (.cells #[(2:Int),(0:Int),(0:Int),(0:Int),(0:Int),(0:Int),.string ⟨#[]⟩,.string ⟨#[]⟩,.int .u64 0,(0:Int),(0:Int),(0:Int),(0:Int),(0:Int),(0:Int)] 47)) w2.heap.size (EvtM.cells ⟨2,ju,0,0⟩) 47:=Box.new _ _ _;have a2:w.heap.size<w2.heap.size:=A.1.bz.lt;have b4:w1.heap.size<w2.heap.size:=A.1.it.box.lt;have b5:r<w2.heap.size:=A.1.it.rd.box.lt;have b6:v.ownBlock≠some w2.heap.size:=fun e=>by have:=A.1.it.vl _ e;omega
  have F:=Hd b2;have J:=Hd b3;have H:=Hd (And.intro a2 (And.intro b4 (And.intro b5 b6)));clear b2 b3 a2 b4 b5 b6 A;have L:=Hd (zX w1.heap.size r w2.heap.size (w2.heap.size+1) v s1 [14] (EvtM.cells ⟨2,ju,0,0⟩) 47 242 ((w2.alloc (.cells #[(2:Int),(0:Int),(0:Int),(0:Int),(0:Int),(0:Int),.string ⟨#[]⟩,.string ⟨#[]⟩,.int .u64 0,(0:Int),(0:Int),(0:Int),(0:Int),(0:Int),(0:Int)] 47)).alloc (.cells #[.pointer (some ⟨w2.heap.size,14,none⟩)] 242)) (F.1.below (ja _ _)).it (J.1.below (ja _ _)) (by have:=Box.new (w2.alloc (.cells #[(2:Int),(0:Int),(0:Int),(0:Int),(0:Int),(0:Int),.string ⟨#[]⟩,.string ⟨#[]⟩,.int .u64 0,(0:Int),(0:Int),(0:Int),(0:Int),(0:Int),(0:Int)] 47)) #[.pointer (some ⟨w2.heap.size,14,none⟩)] 242;rw [qj] at this;exact this) (by intro o ho;rw [qC.1 ho];decide) (by have:=H.1;omega) (by have:=H.1;omega) (by have:=H.1;omega) (by have:=H.1;omega) (by omega) H.1.2.2.2 (by decide))
  go_wp2_with fail;clear c1;refine L.1.mono ?_;rintro ev w4 ⟨rfl,a8,a0,a9⟩;have a1:=(F.1.below (ja _ (.cells #[.pointer (some ⟨w2.heap.size,14,none⟩)] 242))).ints a8 a9 (by have:=H.1;omega) (by have:=H.1;omega)
  change DecSt w w4 w1.heap.size r w.heap.size v s1.int.2 at a1
  change Box w4 w2.heap.size (EvtM.cells ⟨2,ju,0,s1.int.1⟩) 47 at a0
  obtain ⟨e9,b0⟩:∃ e:EvtM,e=⟨2,ju,0,s1.int.1⟩:=⟨_,rfl⟩;have Z:=Hd (show e9.s.user.length<=9223372036854775807/\e9.s.label.length<=9223372036854775807 by rw [b0];exact ⟨by show (0:Nat)<=_;omega,by show (0:Nat)<=_;omega⟩)
  rw [<- b0] at a0 hD;clear b0;generalize s1.int.2=s9 at a1 hD;have E:=Hd a1;have R:=Hd a0;clear a8 a0 a9 a1 F J L
 rotate_left
 all_goals
  have c1:w4.cell? ⟨w1.heap.size,1,none⟩=some (jm s9.er):=E.1.it.box.cell 1 _ rfl;unfold vI at hD;by_cases he:s9.er=0;rotate_left
  .
   rw [yJ he] at c1;rw [qh he] at hD;have V:=Hd (⟨c1,E.1.bz,E.1.bel,E.1.n1,E.1.g3⟩:ExS w w1.heap.size w.heap.size (.iface 91 s9.er) w4);have I:=Hd hD;have c6:∀ w',ExS w w1.heap.size w.heap.size (.iface 91 s9.er) w'->w'.cell? ⟨w1.heap.size,1,none⟩=some (.iface 91 s9.er):=fun w' h=>h.ce
   clear hD E;go_wp2_with fail;clear c1;refine qt (S:=ExS w w1.heap.size w.heap.size (.iface 91 s9.er)) (by kernel_rfl) V.1.drew (fun a3=>?_)
   refine Te 0 104 ?_;refine Te 1 105 ?_;refine Te 2 106 ?_;refine Te 3 107 ?_;refine Te 4 108 ?_;refine Rs 5 47 2 104 fun K hK=>?_
   rw [qf (by kernel_rfl)]
   refine zb 47 (.tmp 2) (.tmp 104) rfl w.heap.size 0 jW.cells.toList rfl rfl a3.bz.thereE (by kernel_rfl) jW.one ?_
   refine hK.out _ _ a3.store (fun a4=>?_)
   clear hK K
   try simp only [Act.put]
   refine Te 6 3 ?_;refine Dn ?_;have B:=Hd a4;clear a3 a4 c6 V;generalize World.setCells _ _ _ _=wz at B |-;go_wp2;exact Jt B.1.bz.rangeE underlying47 ⟨by rw [I.1,yJ he] <;> rfl,B.1.bel⟩
  rw [show jm s9.er=.nilIface by unfold jm;rw [qf he]] at c1
  rw [qf he] at hD;have c0:=E.1.it.box.cell 0 _ rfl;clear he;go_wp2_with fail;refine (jfD r s9.k v s9.l _ E.1.it.rd).mono ?_;rintro ev w7 ⟨rfl,c8⟩;have C:=Hd (E.1.below c8);have G:=Hd (R.1.below c8);clear c0 c1 c8 E R;by_cases hk:s9.k<s9.l.length
  .
   rw [qf hk,yJ (by decide:(3:Int)≠0)]
   rw [qf hk] at hD;have I:=Hd hD;clear hD hk G
   go_wp2_with (with_reducible refine Sk jW.cells.toList xF C.1.bz.thereE jW.one ?_)
   intro wz a2;have a5:=C.1.out jW;rw [<- a2.out] at a5;have B:=Hd a5;clear a2 a5;go_wp2;exact Jt B.1.1.rangeE underlying47 ⟨by rw [I.1] <;> rfl,B.1.2⟩
  rw [qh hk,show jm 0=.nilIface from rfl]
  rw [qh hk] at hD;clear hk;have c2:w7.cell? ⟨w1.heap.size,2,none⟩=some (.bool s9.big):=C.1.it.box.cell 2 _ rfl
  cases hbg:s9.big
  rotate_left
  .
   rw [hbg] at c2 hD;rw [qf rfl] at hD;have I:=Hd hD;clear hD hbg G
   go_wp2_with (with_reducible refine Sk jW.cells.toList xF C.1.bz.thereE jW.one ?_)
   intro wz a2;have a5:=C.1.out jW;rw [<- a2.out] at a5;have B:=Hd a5;clear a2 a5;go_wp2;exact Jt B.1.1.rangeE underlying47 ⟨by rw [I.1] <;> rfl,B.1.2⟩
  rw [hbg] at c2 hD;rw [qh (by decide)] at hD
  go_wp2_with (with_reducible refine Lw G.1.rangeE underlying47 ?_)
  intro cv c3;have ecv:cv=e9.cells:=by rw [c3.out]
  have O:=Hd (jhE e9 w7 Z.1.1 Z.1.2);rw [<- ecv] at O;clear c3 hbg ecv;go_wp2_with fail;refine O.1.mono ?_;rintro ev w8 ⟨rfl,c9⟩;have T:=Hd (C.1.below c9);have H7:=Hd (G.1.below c9);clear c9 C G c2 O
  cases hmay:jM e9
  .
   rw [uo hmay];rw [hmay,qh (by decide)] at hD
   have I:=Hd hD;clear hD hmay H7
   go_wp2_with (with_reducible refine Sk jW.cells.toList xF T.1.bz.thereE jW.one ?_)
   intro wz a2;have a5:=T.1.out jW;rw [<- a2.out] at a5;have B:=Hd a5;clear a2 a5;go_wp2;exact Jt B.1.1.rangeE underlying47 ⟨by rw [I.1] <;> rfl,B.1.2⟩
  obtain ⟨ot,ou,d7⟩:=jjH hmay;rw [d7];rw [hmay,qf rfl] at hD;have I:=Hd hD;clear hD hmay d7
  go_wp2_with (with_reducible refine Lk H7.1.rangeE underlying47 ?_)
  intro cv c3
  go_wp2_with (with_reducible refine Sk e9.cells.toList c3 (T.1.bz.thereF e9) e9.one ?_)
  intro wz a2;have a5:=T.1.out e9;rw [<- a2.out] at a5;have B:=Hd a5;clear a2 a5 c3;go_wp2;exact Jt B.1.1.rangeE underlying47 ⟨by rw [I.1] <;> rfl,B.1.2⟩
end Go.Proofs.YtgcnolapjppbpaaGreatDoor
