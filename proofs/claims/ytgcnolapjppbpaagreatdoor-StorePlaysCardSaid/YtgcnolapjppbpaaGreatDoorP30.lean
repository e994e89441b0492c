/-
  Texts of one proof, one behind the other.
-/
import Derived.Test.YtgcnolapjppbpaaGreatDoorP16
import Derived.Test.YtgcnolapjppbpaaGreatDoorP00
namespace Go.Proofs.YtgcnolapjppbpaaGreatDoor
open Go.RowKit _root_.Go.Proofs.Tryz
set_option maxRecDepth 100000
set_option maxHeartbeats 25600000
theorem jhW (x:Value)(l:List UInt8)(w:World)(hx:Rd w x l.length (l.map V8))(hl:l.length≤1000000000000) :
  Calls prog 93 #[x] w fun ev w'=>ev=.returned (.tuple #[.agg (ud l).2.cells,jo (ud l).1])∧Below w.heap.size w w':=by
 have H1:=Hd (fun o=>jdn x l (w.alloc o) (hx.below (ja w o)) hl)
 have H2:=Hd (fun o=>ja w o)
 have d1:∀ t,Box (w.alloc (.cells #[.int .i64 0,.int .i64 0,.int .i64 0,.int .i64 0,.int .i64 0,.int .i64 0,.string ⟨#[]⟩,.string ⟨#[]⟩,.int .u64 0,.int .i64 0,.int .i64 0,.int .i64 0,.int .i64 0,.int .i64 0,.int .i64 0] t)) w.heap.size jg.cells t:=fun t=>Box.new w jg.cells t
 have H3:=Hd d1;obtain ⟨D,hD⟩:=Nm (ud l);rw [← hD];unfold ud at hD;simp only at hD;obtain ⟨xa,xc,rfl,_⟩:=hx;clear hl d1;go_enter func93,ntmps93;go_wp2_with fail;refine (H1.1 _).mono ?_;rintro ev w1 ⟨r,v,rfl,hi,hb,hr,hv⟩;rw [World.size_alloc] at hr hv;have d2:w.heap.size+1≤w1.heap.size:=by have:=hb.size;rw [World.size_alloc] at this;exact this
 have d3:=hi.box.lt;have c9:DecSt w (w1.alloc (.cells #[.pointer (some ⟨r,0,none⟩),.nilIface,.bool false] 247)) w1.heap.size r w.heap.size v ⟨l,0,0,false⟩ :=
  ⟨⟨Box.new _ _ _,hi.below (ja _ _),by omega,fun e=>by have:=(hv _ e).2;omega,fun b d8=>by have:=(hv b d8).2;simp;omega⟩,
   ((H3.1 _).below hb).below (ja _ _),((H2.1 _).trans (hb.mono (by simp))).trans ((ja _ _).mono (by omega)),by omega,by omega,fun e=>by have:=(hv _ e).1;omega,by omega,by omega,Nat.le_refl _⟩
 have X:=Hd c9;have H8:=Hd hv;have H9:=Hd (And.intro d2 (And.intro hr d3));clear c9 hv d2 d3 hr hb hi H1 H2 H3;go_wp2_with fail;refine (zN w1.heap.size r v _ _ X.1.it).mono ?_;rintro ev w2 ⟨rfl,c8,d4⟩;have E:=Hd (X.1.step c8 d4);generalize (TkM.num ⟨l,0,0,false⟩)=p at hD E c8 ⊢;obtain ⟨x,s1⟩:=p;simp only at hD E c8 ⊢;clear c8 d4 X;have c1:w2.cell? ⟨w1.heap.size,1,none⟩=some (jo s1.er):=E.1.it.box.cell 1 _ rfl;by_cases he:s1.er=0;rotate_left
 ·
  rw [yj he] at c1;rw [if_neg he] at hD;have P:=Hd (⟨c1,E.1.bz,E.1.bel,E.1.n1,E.1.g3⟩:ExS w w1.heap.size w.heap.size (.iface 91 (.int .i64 s1.er)) w2);have G:=Hd hD;have c5:∀ w',ExS w w1.heap.size w.heap.size (.iface 91 (.int .i64 s1.er)) w'→w'.cell? ⟨w1.heap.size,1,none⟩=some (.iface 91 (.int .i64 s1.er)):=fun w' h=>h.ce
  clear hD E;go_wp2_with fail;clear c1;refine wp_region_held_drew (S:=ExS w w1.heap.size w.heap.size (.iface 91 (.int .i64 s1.er))) (by kernel_rfl) P.1.drew (fun a4=>?_)
  refine Te 0 20 ?_;refine Te 1 21 ?_;refine Te 2 22 ?_;refine Te 3 23 ?_;refine Te 4 24 ?_;refine Rs 5 47 2 20 fun K hK=>?_
  rw [if_pos (by kernel_rfl)]
  refine yK 47 (.tmp 2) (.tmp 20) rfl w.heap.size 0 jg.cells.toList rfl rfl a4.bz.thereE (by kernel_rfl) jg.one ?_
  refine hK.out _ _ a4.store (fun a5=>?_)
  clear hK K
  try simp only [Act.put]
  refine Te 6 3 ?_;refine Dn ?_;have A:=Hd a5;clear a4 a5 c5 P;generalize World.setCells _ _ _ _=wz at A ⊢;go_wp2_with fail;exact jb rfl rfl (w.heap.size) 0 rfl jg.cells.toList _ A.1.bz.rangeE underlying47 rfl (by kernel_rfl) _ rfl ⟨by rw [G.1,yj he];rfl,A.1.bel⟩
 rw [show jo s1.er=.nilIface by unfold jo;rw [if_pos he]] at c1
 rw [if_pos he] at hD;clear he;by_cases h2:2<x
 ·
  have g2:(2:Int)<(x:Int):=by omega
  rw [if_pos h2] at hD;have G:=Hd hD;clear hD h2
  go_wp2_with ((with_reducible refine jc ?q72_0 47 (.tmp 2) (.tmp 27) ?q72_1 (w.heap.size) 0 jg.cells.toList ?q72_2 jg.cells ?q72_3 jT ?q72_5 ?q72_6 ?q72_7 ?q72_8);(case q72_1=>rfl);(case q72_0=>rfl);(case q72_2=>rfl);(case q72_3=>rfl);(case q72_5=>exact E.1.bz.thereE);(case q72_6=>kernel_rfl);(case q72_7=>exact jg.one))
  intro wz a1;have a0:=E.1.out jg;rw [← a1.out] at a0;have A:=Hd a0;clear a1 a0;go_wp2_with fail;exact jb rfl rfl (w.heap.size) 0 rfl jg.cells.toList _ A.1.1.rangeE underlying47 rfl (by kernel_rfl) _ rfl ⟨by rw [G.1];rfl,A.1.2⟩
 rw [if_neg h2] at hD;obtain rfl | rfl | rfl:x=0∨x=1∨x=2:=by omega
 ·
  rw [if_pos rfl] at hD;clear h2;have b5:DecSt w (w2.alloc (.cells #[.int .i64 0,.int .i64 0,.int .i64 0,.int .i64 0,.int .i64 0,.int .i64 0,.string ⟨#[]⟩,.string ⟨#[]⟩,.int .u64 0,.int .i64 0,.int .i64 0,.int .i64 0,.int .i64 0,.int .i64 0,.int .i64 0] 47)) w1.heap.size r w.heap.size v s1:=E.1.below (ja _ _);have b6:Box (w2.alloc (.cells #[.int .i64 0,.int .i64 0,.int .i64 0,.int .i64 0,.int .i64 0,.int .i64 0,.string ⟨#[]⟩,.string ⟨#[]⟩,.int .u64 0,.int .i64 0,.int .i64 0,.int .i64 0,.int .i64 0,.int .i64 0,.int .i64 0] 47)) w2.heap.size (EvtM.cells ⟨0,ju,0,0⟩) 47:=Box.new _ _ _;have a1:w.heap.size<w2.heap.size:=E.1.bz.lt;have b7:w1.heap.size<w2.heap.size:=E.1.it.box.lt;have b8:r<w2.heap.size:=E.1.it.rd.box.lt;have b9:v.ownBlock≠some w2.heap.size:=fun e=>by have:=E.1.it.vl _ e;omega
  have L:=Hd b5;have M:=Hd b6;have H:=Hd (And.intro a1 (And.intro b7 (And.intro b8 b9)));clear b5 b6 a1 b7 b8 b9 E;unfold yg at hD;simp only at hD;go_wp2_with fail;clear c1;have HSd:DecSt w ((w2.alloc (.cells #[.int .i64 0,.int .i64 0,.int .i64 0,.int .i64 0,.int .i64 0,.int .i64 0,.string ⟨#[]⟩,.string ⟨#[]⟩,.int .u64 0,.int .i64 0,.int .i64 0,.int .i64 0,.int .i64 0,.int .i64 0,.int .i64 0] 47))).drew w1.heap.size r w.heap.size v s1:=L.1.below (jd _);have HEd:Box ((w2.alloc (.cells #[.int .i64 0,.int .i64 0,.int .i64 0,.int .i64 0,.int .i64 0,.int .i64 0,.string ⟨#[]⟩,.string ⟨#[]⟩,.int .u64 0,.int .i64 0,.int .i64 0,.int .i64 0,.int .i64 0,.int .i64 0,.int .i64 0] 47))).drew w2.heap.size (EvtM.cells ⟨0,ju,0,0⟩) 47:=M.1;have a7:=zE w1.heap.size r w2.heap.size (w2.heap.size+1) v s1 [1,2,3,4,5] (EvtM.cells ⟨0,ju,0,0⟩) 47 242 (World.alloc ((w2.alloc (.cells #[.int .i64 0,.int .i64 0,.int .i64 0,.int .i64 0,.int .i64 0,.int .i64 0,.string ⟨#[]⟩,.string ⟨#[]⟩,.int .u64 0,.int .i64 0,.int .i64 0,.int .i64 0,.int .i64 0,.int .i64 0,.int .i64 0] 47)).drew) (.cells #[.pointer (some ⟨w2.heap.size,1,none⟩),.pointer (some ⟨w2.heap.size,2,none⟩),.pointer (some ⟨w2.heap.size,3,none⟩),.pointer (some ⟨w2.heap.size,4,none⟩),.pointer (some ⟨w2.heap.size,5,none⟩)] 242)) (HSd.below (ja _ _)).it (HEd.below (ja _ _)) (by have:=Box.new ((w2.alloc (.cells #[.int .i64 0,.int .i64 0,.int .i64 0,.int .i64 0,.int .i64 0,.int .i64 0,.string ⟨#[]⟩,.string ⟨#[]⟩,.int .u64 0,.int .i64 0,.int .i64 0,.int .i64 0,.int .i64 0,.int .i64 0,.int .i64 0] 47))).drew #[.pointer (some ⟨w2.heap.size,1,none⟩),.pointer (some ⟨w2.heap.size,2,none⟩),.pointer (some ⟨w2.heap.size,3,none⟩),.pointer (some ⟨w2.heap.size,4,none⟩),.pointer (some ⟨w2.heap.size,5,none⟩)] 242;rw [show ((w2.alloc (.cells #[.int .i64 0,.int .i64 0,.int .i64 0,.int .i64 0,.int .i64 0,.int .i64 0,.string ⟨#[]⟩,.string ⟨#[]⟩,.int .u64 0,.int .i64 0,.int .i64 0,.int .i64 0,.int .i64 0,.int .i64 0,.int .i64 0] 47))).drew.heap.size=w2.heap.size+1 from by show ((w2.alloc (.cells #[.int .i64 0,.int .i64 0,.int .i64 0,.int .i64 0,.int .i64 0,.int .i64 0,.string ⟨#[]⟩,.string ⟨#[]⟩,.int .u64 0,.int .i64 0,.int .i64 0,.int .i64 0,.int .i64 0,.int .i64 0,.int .i64 0] 47))).heap.size=_;rw [World.size_alloc]] at this;exact this) (by intro o ho;simp only [List.mem_cons,List.not_mem_nil,or_false] at ho;rcases ho with rfl | rfl | rfl | rfl | rfl <;> (change _<15;decide)) (by have:=H.1;omega) (by have:=H.1;omega) (by have:=H.1;omega) (by have:=H.1;omega) (by omega) H.1.2.2.2 (by decide)
  have Q:=Hd a7;have R:=Hd HSd;clear a7 HSd HEd L M;have d0:True:=trivial;refine wp_region_held_drew (S:=fun _=>True) (by kernel_rfl) trivial (fun a4=>?_)
  refine Te 0 37 ?_;refine Te 1 38 ?_;refine Te 2 39 ?_;refine Te 3 40 ?_;refine Te 4 41 ?_;refine Te 5 42 ?_;refine Te 6 43 ?_;refine Te 7 44 ?_;refine Te 8 45 ?_;refine Te 9 46 ?_;refine Te 10 47 ?_;refine Te 11 48 ?_;refine Te 12 49 ?_;refine Te 13 50 ?_;refine Te 14 51 ?_;refine Te 15 52 ?_;refine Te 16 53 ?_;refine Te 17 54 ?_;refine wpAnyH_ready (rs := [18]) (by kernel_rfl) (by simp) (AllReadyH.cons (o:=⟨some 55,.buildSlice _ 5 _,_,_,_,none⟩) rfl (fun K hK=>?_) AllReadyH.nil)
  go_simp
  refine hK.out _ _ trivial (fun a5=>?_)
  clear hK K a5
  try simp only [Nz]
  refine Rc 19 56 fun K hK=>?_
  go_simp
  refine Q.1.mono ?_;rintro ev w4 ⟨rfl,a9,a2,b0⟩;refine hK.out _ _ trivial (fun _=>?_)
  clear hK K
  try simp only [Nz]
  refine Dn ?_;have a3:=(R.1.below (ja _ (.cells #[.pointer (some ⟨w2.heap.size,1,none⟩),.pointer (some ⟨w2.heap.size,2,none⟩),.pointer (some ⟨w2.heap.size,3,none⟩),.pointer (some ⟨w2.heap.size,4,none⟩),.pointer (some ⟨w2.heap.size,5,none⟩)] 242))).ints a9 b0 (by have:=H.1;omega) (by have:=H.1;omega)
  change DecSt w w4 w1.heap.size r w.heap.size v s1.int.2.int.2.int.2.int.2.int.2 at a3
  change Box w4 w2.heap.size (EvtM.cells ⟨0,⟨s1.int.1,s1.int.2.int.1,s1.int.2.int.2.int.1,s1.int.2.int.2.int.2.int.1,s1.int.2.int.2.int.2.int.2.int.1,[],[],0,0,0,0,0⟩,0,0⟩) 47 at a2
  clear a9 b0 Q R d0 a4;generalize s1.int=p at a3 a2 hD;obtain ⟨n1,s2⟩:=p;simp only at a3 a2 hD;generalize s2.int=p at a3 a2 hD;obtain ⟨n2,s3⟩:=p;simp only at a3 a2 hD;generalize s3.int=p at a3 a2 hD;obtain ⟨n3,s4⟩:=p;simp only at a3 a2 hD;generalize s4.int=p at a3 a2 hD;obtain ⟨n4,s5⟩:=p;simp only at a3 a2 hD;generalize s5.int=p at a3 a2 hD;obtain ⟨n5,s6⟩:=p;simp only at a3 a2 hD;have Y:=Hd a3;have H4:=Hd a2;clear a3 a2;go_wp2_with fail;refine (jaQ w1.heap.size r v s6 _ Y.1.it).mono ?_;rintro ev w5 ⟨rfl,hi,hm⟩;have a8:=Y.1.step hi hm;have hE:=H4.1.mod hm (by rintro (e | e) <;> (have:=H.1;omega))
  have c4:=s6.txt_len;clear hi hm;generalize s6.txt=p at a8 hD c4 ⊢;obtain ⟨u,s7⟩:=p;simp only at a8 hD c4 ⊢;have Z:=Hd a8;have H5:=Hd hE;have V:=Hd c4;clear a8 hE c4 Y H4;go_wp2_with fail;refine (jaQ w1.heap.size r v s7 _ Z.1.it).mono ?_;rintro ev w6 ⟨rfl,hi,hm⟩;have a8:=Z.1.step hi hm;have hE:=H5.1.mod hm (by rintro (e | e) <;> (have:=H.1;omega))
  have b4:=s7.txt_len;clear hi hm;generalize s7.txt=p at a8 hD b4 ⊢;obtain ⟨lb,s8⟩:=p;simp only at a8 hD b4 ⊢;have H6:=Hd a8;have W:=Hd hE;have T:=Hd b4;clear a8 hE b4 Z H5;have k6:=W.1.cell 6 _ rfl;have f6:=W.1.free 6;have c6:Box (w6.setCell ⟨w2.heap.size,6,none⟩ (.string (SB u))) w2.heap.size (EvtM.cells ⟨0,⟨n1,n2,n3,n4,n5,u,[],0,0,0,0,0⟩,0,0⟩) 47:=W.1.set 6 _;have c7:=H6.1.mod (Mod.set (fun i=>i=w2.heap.size) w6 ⟨w2.heap.size,6,none⟩ (.string (SB u)) rfl) (by have:=H.1;omega) (by have:=H.1;omega) (by have:=H.1;omega) H.1.2.2.2 (by have:=H.1;omega)
  have k7:=c6.cell 7 _ rfl;have f7:=c6.free 7;have d5:Box ((w6.setCell ⟨w2.heap.size,6,none⟩ (.string (SB u))).setCell ⟨w2.heap.size,7,none⟩ (.string (SB lb))) w2.heap.size (EvtM.cells ⟨0,⟨n1,n2,n3,n4,n5,u,lb,0,0,0,0,0⟩,0,0⟩) 47:=c6.set 7 _;have d6:=c7.mod (Mod.set (fun i=>i=w2.heap.size) (w6.setCell ⟨w2.heap.size,6,none⟩ (.string (SB u))) ⟨w2.heap.size,7,none⟩ (.string (SB lb)) rfl) (by have:=H.1;omega) (by have:=H.1;omega) (by have:=H.1;omega) H.1.2.2.2 (by have:=H.1;omega)
  have H7:=Hd d5;have H0:=Hd d6;clear c6 d5 c7 d6 W H6;go_wp2_with fail;refine (zN w1.heap.size r v s8 _ H0.1.it).mono ?_;rintro ev w7 ⟨rfl,hi,hm⟩;have a8:=H0.1.step hi hm;have hE:=H7.1.mod hm (by rintro (e | e) <;> (have:=H.1;omega))
  clear hi hm k6 f6 k7 f7 H0 H7;generalize s8.num=p at a8 hD ⊢;obtain ⟨sc,s9⟩:=p;simp only at a8 hD ⊢;have k8:=hE.cell 8 _ rfl;have f8:=hE.free 8;have c6:Box (w7.setCell ⟨w2.heap.size,8,none⟩ (.int .u64 (sc:Int))) w2.heap.size (EvtM.cells ⟨0,⟨n1,n2,n3,n4,n5,u,lb,sc,0,0,0,0⟩,0,0⟩) 47:=hE.set 8 _;have c7:=a8.mod (Mod.set (fun i=>i=w2.heap.size) w7 ⟨w2.heap.size,8,none⟩ (.int .u64 (sc:Int)) rfl) (by have:=H.1;omega) (by have:=H.1;omega) (by have:=H.1;omega) H.1.2.2.2 (by have:=H.1;omega)
  have F:=Hd c6;have C:=Hd c7;clear hE a8 c6 c7;go_wp2_with fail;clear k8 f8;obtain ⟨wa,d7⟩:∃ wa,wa=(w7.setCell ⟨w2.heap.size,8,none⟩ (.int .u64 (sc:Int))):=⟨_,rfl⟩;rw [← d7] at F C ⊢;clear d7;have HSd:DecSt w wa.drew w1.heap.size r w.heap.size v s9:=C.1.below (jd _);have HEd:Box wa.drew w2.heap.size (EvtM.cells ⟨0,⟨n1,n2,n3,n4,n5,u,lb,sc,0,0,0,0⟩,0,0⟩) 47:=F.1;have d9:w2.heap.size<wa.heap.size:=F.1.lt;have e0:w1.heap.size<wa.heap.size:=C.1.it.box.lt;have e1:r<wa.heap.size:=C.1.it.rd.box.lt;have a7:=zE w1.heap.size r w2.heap.size (wa.heap.size) v s9 [9,10,11,12] (EvtM.cells ⟨0,⟨n1,n2,n3,n4,n5,u,lb,sc,0,0,0,0⟩,0,0⟩) 47 242 (World.alloc (wa.drew) (.cells #[.pointer (some ⟨w2.heap.size,9,none⟩),.pointer (some ⟨w2.heap.size,10,none⟩),.pointer (some ⟨w2.heap.size,11,none⟩),.pointer (some ⟨w2.heap.size,12,none⟩)] 242)) (HSd.below (ja _ _)).it (HEd.below (ja _ _)) (Box.new wa.drew #[.pointer (some ⟨w2.heap.size,9,none⟩),.pointer (some ⟨w2.heap.size,10,none⟩),.pointer (some ⟨w2.heap.size,11,none⟩),.pointer (some ⟨w2.heap.size,12,none⟩)] 242) (by intro o ho;simp only [List.mem_cons,List.not_mem_nil,or_false] at ho;rcases ho with rfl | rfl | rfl | rfl <;> (change _<15;decide)) (by have:=H.1;omega) (by have:=H.1;omega) (by have:=H.1;omega) (by have:=H.1;omega) (by omega) H.1.2.2.2 (by decide)
  have Q:=Hd a7;have R:=Hd HSd;clear a7 HSd HEd C F;have d0:True:=trivial;refine wp_region_held_drew (S:=fun _=>True) (by kernel_rfl) trivial (fun a4=>?_)
  refine Te 0 72 ?_;refine Te 1 73 ?_;refine Te 2 74 ?_;refine Te 3 75 ?_;refine Te 4 76 ?_;refine Te 5 77 ?_;refine Te 6 78 ?_;refine Te 7 79 ?_;refine Te 8 80 ?_;refine Te 9 81 ?_;refine Te 10 82 ?_;refine Te 11 83 ?_;refine Te 12 84 ?_;refine wpAnyH_ready (rs := [13]) (by kernel_rfl) (by simp) (AllReadyH.cons (o:=⟨some 85,.buildSlice _ 4 _,_,_,_,none⟩) rfl (fun K hK=>?_) AllReadyH.nil)
  go_simp
  refine hK.out _ _ trivial (fun a5=>?_)
  clear hK K a5
  try simp only [Nz]
  refine Rc 14 86 fun K hK=>?_
  go_simp
  refine Q.1.mono ?_;rintro ev w8 ⟨rfl,a9,a2,b0⟩;refine hK.out _ _ trivial (fun _=>?_)
  clear hK K
  try simp only [Nz]
  refine Dn ?_;have a3:=(R.1.below (ja _ (.cells #[.pointer (some ⟨w2.heap.size,9,none⟩),.pointer (some ⟨w2.heap.size,10,none⟩),.pointer (some ⟨w2.heap.size,11,none⟩),.pointer (some ⟨w2.heap.size,12,none⟩)] 242))).ints a9 b0 (by have:=H.1;omega) (by have:=H.1;omega)
  change DecSt w w8 w1.heap.size r w.heap.size v s9.int.2.int.2.int.2.int.2 at a3
  change Box w8 w2.heap.size (EvtM.cells ⟨0,⟨n1,n2,n3,n4,n5,u,lb,sc,s9.int.1,s9.int.2.int.1,s9.int.2.int.2.int.1,s9.int.2.int.2.int.2.int.1⟩,0,0⟩) 47 at a2
  clear a9 b0 Q R d0 a4 d9 e0 e1;generalize s9.int=p at a3 a2 hD;obtain ⟨n6,s10⟩:=p;simp only at a3 a2 hD;generalize s10.int=p at a3 a2 hD;obtain ⟨n7,s11⟩:=p;simp only at a3 a2 hD;generalize s11.int=p at a3 a2 hD;obtain ⟨n8,s12⟩:=p;simp only at a3 a2 hD;generalize s12.int=p at a3 a2 hD;obtain ⟨n9,s13⟩:=p;simp only at a3 a2 hD;obtain ⟨e9,b1⟩:∃ e:EvtM,e=⟨0,⟨n1,n2,n3,n4,n5,u,lb,sc,n6,n7,n8,n9⟩,0,0⟩:=⟨_,rfl⟩;have U:=Hd (show e9.s.user.length≤9223372036854775807∧e9.s.label.length≤9223372036854775807 by rw [b1];exact ⟨Nat.le_trans V.1 (by decide),Nat.le_trans T.1 (by decide)⟩)
  rw [← b1] at a2 hD;clear b1 V T;have B:=Hd a3;have N:=Hd a2;clear a3 a2;have c1:w8.cell? ⟨w1.heap.size,1,none⟩=some (jo s13.er):=B.1.it.box.cell 1 _ rfl;unfold zI at hD;by_cases he:s13.er=0;rotate_left
  ·
   rw [yj he] at c1;rw [if_neg he] at hD;have P:=Hd (⟨c1,B.1.bz,B.1.bel,B.1.n1,B.1.g3⟩:ExS w w1.heap.size w.heap.size (.iface 91 (.int .i64 s13.er)) w8);have G:=Hd hD;have c5:∀ w',ExS w w1.heap.size w.heap.size (.iface 91 (.int .i64 s13.er)) w'→w'.cell? ⟨w1.heap.size,1,none⟩=some (.iface 91 (.int .i64 s13.er)):=fun w' h=>h.ce
   clear hD B;go_wp2_with fail;clear c1;refine wp_region_held_drew (S:=ExS w w1.heap.size w.heap.size (.iface 91 (.int .i64 s13.er))) (by kernel_rfl) P.1.drew (fun a4=>?_)
   refine Te 0 104 ?_;refine Te 1 105 ?_;refine Te 2 106 ?_;refine Te 3 107 ?_;refine Te 4 108 ?_;refine Rs 5 47 2 104 fun K hK=>?_
   rw [if_pos (by kernel_rfl)]
   refine yK 47 (.tmp 2) (.tmp 104) rfl w.heap.size 0 jg.cells.toList rfl rfl a4.bz.thereE (by kernel_rfl) jg.one ?_
   refine hK.out _ _ a4.store (fun a5=>?_)
   clear hK K
   try simp only [Act.put]
   refine Te 6 3 ?_;refine Dn ?_;have A:=Hd a5;clear a4 a5 c5 P;generalize World.setCells _ _ _ _=wz at A ⊢;go_wp2_with fail;exact jb rfl rfl (w.heap.size) 0 rfl jg.cells.toList _ A.1.bz.rangeE underlying47 rfl (by kernel_rfl) _ rfl ⟨by rw [G.1,yj he];rfl,A.1.bel⟩
  rw [show jo s13.er=.nilIface by unfold jo;rw [if_pos he]] at c1
  rw [if_pos he] at hD;have c0:=B.1.it.box.cell 0 _ rfl;clear he;go_wp2_with fail;refine (uG r s13.k v s13.l _ B.1.it.rd).mono ?_;rintro ev w7 ⟨rfl,b2⟩;have C:=Hd (B.1.below b2);have F:=Hd (N.1.below b2);clear c0 c1 b2 B N;by_cases hk:s13.k<s13.l.length
  ·
   rw [if_pos hk,yj (by decide:(3:Int)≠0)]
   rw [if_pos hk] at hD;have G:=Hd hD;clear hD hk F
   go_wp2_with ((with_reducible refine jc ?q436_0 47 (.tmp 2) (.tmp 116) ?q436_1 (w.heap.size) 0 jg.cells.toList ?q436_2 jg.cells ?q436_3 jT ?q436_5 ?q436_6 ?q436_7 ?q436_8);(case q436_1=>rfl);(case q436_0=>rfl);(case q436_2=>rfl);(case q436_3=>rfl);(case q436_5=>exact C.1.bz.thereE);(case q436_6=>kernel_rfl);(case q436_7=>exact jg.one))
   intro wz a1;have a0:=C.1.out jg;rw [← a1.out] at a0;have A:=Hd a0;clear a1 a0;go_wp2_with fail;exact jb rfl rfl (w.heap.size) 0 rfl jg.cells.toList _ A.1.1.rangeE underlying47 rfl (by kernel_rfl) _ rfl ⟨by rw [G.1];rfl,A.1.2⟩
  rw [if_neg hk,show jo 0=.nilIface from rfl]
  rw [if_neg hk] at hD;clear hk;have c2:w7.cell? ⟨w1.heap.size,2,none⟩=some (.bool s13.big):=C.1.it.box.cell 2 _ rfl
  cases hbg:s13.big
  rotate_left
  ·
   rw [hbg] at c2 hD;rw [if_pos rfl] at hD;have G:=Hd hD;clear hD hbg F
   go_wp2_with ((with_reducible refine jc ?q454_0 47 (.tmp 2) (.tmp 127) ?q454_1 (w.heap.size) 0 jg.cells.toList ?q454_2 jg.cells ?q454_3 jT ?q454_5 ?q454_6 ?q454_7 ?q454_8);(case q454_1=>rfl);(case q454_0=>rfl);(case q454_2=>rfl);(case q454_3=>rfl);(case q454_5=>exact C.1.bz.thereE);(case q454_6=>kernel_rfl);(case q454_7=>exact jg.one))
   intro wz a1;have a0:=C.1.out jg;rw [← a1.out] at a0;have A:=Hd a0;clear a1 a0;go_wp2_with fail;exact jb rfl rfl (w.heap.size) 0 rfl jg.cells.toList _ A.1.1.rangeE underlying47 rfl (by kernel_rfl) _ rfl ⟨by rw [G.1];rfl,A.1.2⟩
  rw [hbg] at c2 hD;rw [if_neg (by decide)] at hD
  go_wp2_with ((with_reducible refine jy ?q464_0 47 (.tmp 6) ?q464_1 (w2.heap.size) 0 ?q464_2 e9.cells.toList _ F.1.rangeE underlying47 ?q464_3 ?q464_4 ?q464_8);(case q464_1=>rfl);(case q464_0=>rfl);(case q464_2=>rfl);(case q464_3=>rfl);(case q464_4=>kernel_rfl))
  intro cv a6;have ecv:cv=e9.cells:=by rw [a6.out]
  have I:=Hd (jaN e9 w7 U.1.1 U.1.2);rw [← ecv] at I;clear a6 hbg ecv;go_wp2_with fail;refine I.1.mono ?_;rintro ev w8 ⟨rfl,b3⟩;have J:=Hd (C.1.below b3);have O:=Hd (F.1.below b3);clear b3 C F c2 I
  cases hmay:yb e9
  ·
   rw [zM hmay];rw [hmay,if_neg (by decide)] at hD
   have G:=Hd hD;clear hD hmay O
   go_wp2_with ((with_reducible refine jc ?q481_0 47 (.tmp 2) (.tmp 127) ?q481_1 (w.heap.size) 0 jg.cells.toList ?q481_2 jg.cells ?q481_3 jT ?q481_5 ?q481_6 ?q481_7 ?q481_8);(case q481_1=>rfl);(case q481_0=>rfl);(case q481_2=>rfl);(case q481_3=>rfl);(case q481_5=>exact J.1.bz.thereE);(case q481_6=>kernel_rfl);(case q481_7=>exact jg.one))
   intro wz a1;have a0:=J.1.out jg;rw [← a1.out] at a0;have A:=Hd a0;clear a1 a0;go_wp2_with fail;exact jb rfl rfl (w.heap.size) 0 rfl jg.cells.toList _ A.1.1.rangeE underlying47 rfl (by kernel_rfl) _ rfl ⟨by rw [G.1];rfl,A.1.2⟩
  obtain ⟨ot,ou,c3⟩:=jbf hmay;rw [c3];rw [hmay,if_pos rfl] at hD;have G:=Hd hD;clear hD hmay c3
  go_wp2_with ((with_reducible refine je ?q494_0 47 (.tmp 6) ?q494_1 (w2.heap.size) 0 ?q494_2 e9.cells.toList _ O.1.rangeE underlying47 ?q494_3 ?q494_4 ?q494_8);(case q494_1=>rfl);(case q494_0=>rfl);(case q494_2=>rfl);(case q494_3=>rfl);(case q494_4=>kernel_rfl))
  intro cv a6
  go_wp2_with ((with_reducible refine jc ?q496_0 47 (.tmp 2) (.tmp 129) ?q496_1 (w.heap.size) 0 e9.cells.toList ?q496_2 cv ?q496_3 a6 (J.1.bz.thereF e9) ?q496_4 e9.one ?q496_8);(case q496_1=>rfl);(case q496_0=>rfl);(case q496_2=>rfl);(case q496_3=>rfl);(case q496_4=>kernel_rfl))
  intro wz a1;have a0:=J.1.out e9;rw [← a1.out] at a0;have A:=Hd a0;clear a1 a0 a6;go_wp2_with fail;exact jb rfl rfl (w.heap.size) 0 rfl e9.cells.toList _ A.1.1.rangeE underlying47 rfl (by kernel_rfl) _ rfl ⟨by rw [G.1];rfl,A.1.2⟩
 ·
  rw [if_neg (by decide),if_pos rfl] at hD
  clear h2;have b5:DecSt w (w2.alloc (.cells #[.int .i64 1,.int .i64 0,.int .i64 0,.int .i64 0,.int .i64 0,.int .i64 0,.string ⟨#[]⟩,.string ⟨#[]⟩,.int .u64 0,.int .i64 0,.int .i64 0,.int .i64 0,.int .i64 0,.int .i64 0,.int .i64 0] 47)) w1.heap.size r w.heap.size v s1:=E.1.below (ja _ _);have b6:Box (w2.alloc (.cells #[.int .i64 1,.int .i64 0,.int .i64 0,.int .i64 0,.int .i64 0,.int .i64 0,.string ⟨#[]⟩,.string ⟨#[]⟩,.int .u64 0,.int .i64 0,.int .i64 0,.int .i64 0,.int .i64 0,.int .i64 0,.int .i64 0] 47)) w2.heap.size (EvtM.cells ⟨1,ju,0,0⟩) 47:=Box.new _ _ _;have a1:w.heap.size<w2.heap.size:=E.1.bz.lt;have b7:w1.heap.size<w2.heap.size:=E.1.it.box.lt;have b8:r<w2.heap.size:=E.1.it.rd.box.lt;have b9:v.ownBlock≠some w2.heap.size:=fun e=>by have:=E.1.it.vl _ e;omega
  have L:=Hd b5;have M:=Hd b6;have H:=Hd (And.intro a1 (And.intro b7 (And.intro b8 b9)));clear b5 b6 a1 b7 b8 b9 E;have a7:=zE w1.heap.size r w2.heap.size (w2.heap.size+1) v s1 [13] (EvtM.cells ⟨1,ju,0,0⟩) 47 242 ((w2.alloc (.cells #[.int .i64 1,.int .i64 0,.int .i64 0,.int .i64 0,.int .i64 0,.int .i64 0,.string ⟨#[]⟩,.string ⟨#[]⟩,.int .u64 0,.int .i64 0,.int .i64 0,.int .i64 0,.int .i64 0,.int .i64 0,.int .i64 0] 47)).alloc (.cells #[.pointer (some ⟨w2.heap.size,13,none⟩)] 242)) (L.1.below (ja _ _)).it (M.1.below (ja _ _)) (by have:=Box.new (w2.alloc (.cells #[.int .i64 1,.int .i64 0,.int .i64 0,.int .i64 0,.int .i64 0,.int .i64 0,.string ⟨#[]⟩,.string ⟨#[]⟩,.int .u64 0,.int .i64 0,.int .i64 0,.int .i64 0,.int .i64 0,.int .i64 0,.int .i64 0] 47)) #[.pointer (some ⟨w2.heap.size,13,none⟩)] 242;rw [World.size_alloc] at this;exact this) (by intro o ho;rw [List.mem_singleton.1 ho];decide) (by have:=H.1;omega) (by have:=H.1;omega) (by have:=H.1;omega) (by have:=H.1;omega) (by omega) H.1.2.2.2 (by decide)
  have Q:=Hd a7;clear a7;go_wp2_with fail;clear c1;refine Q.1.mono ?_;rintro ev w4 ⟨rfl,a9,a2,b0⟩;have a3:=(L.1.below (ja _ (.cells #[.pointer (some ⟨w2.heap.size,13,none⟩)] 242))).ints a9 b0 (by have:=H.1;omega) (by have:=H.1;omega)
  change DecSt w w4 w1.heap.size r w.heap.size v s1.int.2 at a3
  change Box w4 w2.heap.size (EvtM.cells ⟨1,ju,s1.int.1,0⟩) 47 at a2
  obtain ⟨e9,b1⟩:∃ e:EvtM,e=⟨1,ju,s1.int.1,0⟩:=⟨_,rfl⟩;have U:=Hd (show e9.s.user.length≤9223372036854775807∧e9.s.label.length≤9223372036854775807 by rw [b1];exact ⟨by show (0:Nat)≤_;omega,by show (0:Nat)≤_;omega⟩)
  rw [← b1] at a2 hD;clear b1;generalize s1.int.2=s9 at a3 hD;have B:=Hd a3;have N:=Hd a2;clear a9 a2 b0 a3 L M Q;have c1:w4.cell? ⟨w1.heap.size,1,none⟩=some (jo s9.er):=B.1.it.box.cell 1 _ rfl;unfold zI at hD;by_cases he:s9.er=0;rotate_left
  ·
   rw [yj he] at c1;rw [if_neg he] at hD;have P:=Hd (⟨c1,B.1.bz,B.1.bel,B.1.n1,B.1.g3⟩:ExS w w1.heap.size w.heap.size (.iface 91 (.int .i64 s9.er)) w4);have G:=Hd hD;have c5:∀ w',ExS w w1.heap.size w.heap.size (.iface 91 (.int .i64 s9.er)) w'→w'.cell? ⟨w1.heap.size,1,none⟩=some (.iface 91 (.int .i64 s9.er)):=fun w' h=>h.ce
   clear hD B;go_wp2_with fail;clear c1;refine wp_region_held_drew (S:=ExS w w1.heap.size w.heap.size (.iface 91 (.int .i64 s9.er))) (by kernel_rfl) P.1.drew (fun a4=>?_)
   refine Te 0 104 ?_;refine Te 1 105 ?_;refine Te 2 106 ?_;refine Te 3 107 ?_;refine Te 4 108 ?_;refine Rs 5 47 2 104 fun K hK=>?_
   rw [if_pos (by kernel_rfl)]
   refine yK 47 (.tmp 2) (.tmp 104) rfl w.heap.size 0 jg.cells.toList rfl rfl a4.bz.thereE (by kernel_rfl) jg.one ?_
   refine hK.out _ _ a4.store (fun a5=>?_)
   clear hK K
   try simp only [Act.put]
   refine Te 6 3 ?_;refine Dn ?_;have A:=Hd a5;clear a4 a5 c5 P;generalize World.setCells _ _ _ _=wz at A ⊢;go_wp2_with fail;exact jb rfl rfl (w.heap.size) 0 rfl jg.cells.toList _ A.1.bz.rangeE underlying47 rfl (by kernel_rfl) _ rfl ⟨by rw [G.1,yj he];rfl,A.1.bel⟩
  rw [show jo s9.er=.nilIface by unfold jo;rw [if_pos he]] at c1
  rw [if_pos he] at hD;have c0:=B.1.it.box.cell 0 _ rfl;clear he;go_wp2_with fail;refine (uG r s9.k v s9.l _ B.1.it.rd).mono ?_;rintro ev w7 ⟨rfl,b2⟩;have C:=Hd (B.1.below b2);have F:=Hd (N.1.below b2);clear c0 c1 b2 B N;by_cases hk:s9.k<s9.l.length
  ·
   rw [if_pos hk,yj (by decide:(3:Int)≠0)]
   rw [if_pos hk] at hD;have G:=Hd hD;clear hD hk F
   go_wp2_with ((with_reducible refine jc ?q598_0 47 (.tmp 2) (.tmp 116) ?q598_1 (w.heap.size) 0 jg.cells.toList ?q598_2 jg.cells ?q598_3 jT ?q598_5 ?q598_6 ?q598_7 ?q598_8);(case q598_1=>rfl);(case q598_0=>rfl);(case q598_2=>rfl);(case q598_3=>rfl);(case q598_5=>exact C.1.bz.thereE);(case q598_6=>kernel_rfl);(case q598_7=>exact jg.one))
   intro wz a1;have a0:=C.1.out jg;rw [← a1.out] at a0;have A:=Hd a0;clear a1 a0;go_wp2_with fail;exact jb rfl rfl (w.heap.size) 0 rfl jg.cells.toList _ A.1.1.rangeE underlying47 rfl (by kernel_rfl) _ rfl ⟨by rw [G.1];rfl,A.1.2⟩
  rw [if_neg hk,show jo 0=.nilIface from rfl]
  rw [if_neg hk] at hD;clear hk;have c2:w7.cell? ⟨w1.heap.size,2,none⟩=some (.bool s9.big):=C.1.it.box.cell 2 _ rfl
  cases hbg:s9.big
  rotate_left
  ·
   rw [hbg] at c2 hD;rw [if_pos rfl] at hD;have G:=Hd hD;clear hD hbg F
   go_wp2_with ((with_reducible refine jc ?q616_0 47 (.tmp 2) (.tmp 127) ?q616_1 (w.heap.size) 0 jg.cells.toList ?q616_2 jg.cells ?q616_3 jT ?q616_5 ?q616_6 ?q616_7 ?q616_8);(case q616_1=>rfl);(case q616_0=>rfl);(case q616_2=>rfl);(case q616_3=>rfl);(case q616_5=>exact C.1.bz.thereE);(case q616_6=>kernel_rfl);(case q616_7=>exact jg.one))
   intro wz a1;have a0:=C.1.out jg;rw [← a1.out] at a0;have A:=Hd a0;clear a1 a0;go_wp2_with fail;exact jb rfl rfl (w.heap.size) 0 rfl jg.cells.toList _ A.1.1.rangeE underlying47 rfl (by kernel_rfl) _ rfl ⟨by rw [G.1];rfl,A.1.2⟩
  rw [hbg] at c2 hD;rw [if_neg (by decide)] at hD
  go_wp2_with ((with_reducible refine jy ?q626_0 47 (.tmp 6) ?q626_1 (w2.heap.size) 0 ?q626_2 e9.cells.toList _ F.1.rangeE underlying47 ?q626_3 ?q626_4 ?q626_8);(case q626_1=>rfl);(case q626_0=>rfl);(case q626_2=>rfl);(case q626_3=>rfl);(case q626_4=>kernel_rfl))
  intro cv a6;have ecv:cv=e9.cells:=by rw [a6.out]
  have I:=Hd (jaN e9 w7 U.1.1 U.1.2);rw [← ecv] at I;clear a6 hbg ecv;go_wp2_with fail;refine I.1.mono ?_;rintro ev w8 ⟨rfl,b3⟩;have J:=Hd (C.1.below b3);have O:=Hd (F.1.below b3);clear b3 C F c2 I
  cases hmay:yb e9
  ·
   rw [zM hmay];rw [hmay,if_neg (by decide)] at hD
   have G:=Hd hD;clear hD hmay O
   go_wp2_with ((with_reducible refine jc ?q643_0 47 (.tmp 2) (.tmp 127) ?q643_1 (w.heap.size) 0 jg.cells.toList ?q643_2 jg.cells ?q643_3 jT ?q643_5 ?q643_6 ?q643_7 ?q643_8);(case q643_1=>rfl);(case q643_0=>rfl);(case q643_2=>rfl);(case q643_3=>rfl);(case q643_5=>exact J.1.bz.thereE);(case q643_6=>kernel_rfl);(case q643_7=>exact jg.one))
   intro wz a1;have a0:=J.1.out jg;rw [← a1.out] at a0;have A:=Hd a0;clear a1 a0;go_wp2_with fail;exact jb rfl rfl (w.heap.size) 0 rfl jg.cells.toList _ A.1.1.rangeE underlying47 rfl (by kernel_rfl) _ rfl ⟨by rw [G.1];rfl,A.1.2⟩
  obtain ⟨ot,ou,c3⟩:=jbf hmay;rw [c3];rw [hmay,if_pos rfl] at hD;have G:=Hd hD;clear hD hmay c3
  go_wp2_with ((with_reducible refine je ?q656_0 47 (.tmp 6) ?q656_1 (w2.heap.size) 0 ?q656_2 e9.cells.toList _ O.1.rangeE underlying47 ?q656_3 ?q656_4 ?q656_8);(case q656_1=>rfl);(case q656_0=>rfl);(case q656_2=>rfl);(case q656_3=>rfl);(case q656_4=>kernel_rfl))
  intro cv a6
  go_wp2_with ((with_reducible refine jc ?q658_0 47 (.tmp 2) (.tmp 129) ?q658_1 (w.heap.size) 0 e9.cells.toList ?q658_2 cv ?q658_3 a6 (J.1.bz.thereF e9) ?q658_4 e9.one ?q658_8);(case q658_1=>rfl);(case q658_0=>rfl);(case q658_2=>rfl);(case q658_3=>rfl);(case q658_4=>kernel_rfl))
  intro wz a1;have a0:=J.1.out e9;rw [← a1.out] at a0;have A:=Hd a0;clear a1 a0 a6;go_wp2_with fail;exact jb rfl rfl (w.heap.size) 0 rfl e9.cells.toList _ A.1.1.rangeE underlying47 rfl (by kernel_rfl) _ rfl ⟨by rw [G.1];rfl,A.1.2⟩
 ·
  rw [if_neg (by decide),if_neg (by decide)] at hD
  clear h2;have b5:DecSt w (w2.alloc (.cells #[.int .i64 2,.int .i64 0,.int .i64 0,.int .i64 0,.int .i64 0,.int .i64 0,.string ⟨#[]⟩,.string ⟨#[]⟩,.int .u64 0,.int .i64 0,.int .i64 0,.int .i64 0,.int .i64 0,.int .i64 0,.int .i64 0] 47)) w1.heap.size r w.heap.size v s1:=E.1.below (ja _ _);have b6:Box (w2.alloc (.cells #[.int .i64 2,.int .i64 0,.int .i64 0,.int .i64 0,.int .i64 0,.int .i64 0,.string ⟨#[]⟩,.string ⟨#[]⟩,.int .u64 0,.int .i64 0,.int .i64 0,.int .i64 0,.int .i64 0,.int .i64 0,.int .i64 0] 47)) w2.heap.size (EvtM.cells ⟨2,ju,0,0⟩) 47:=Box.new _ _ _;have a1:w.heap.size<w2.heap.size:=E.1.bz.lt;have b7:w1.heap.size<w2.heap.size:=E.1.it.box.lt;have b8:r<w2.heap.size:=E.1.it.rd.box.lt;have b9:v.ownBlock≠some w2.heap.size:=fun e=>by have:=E.1.it.vl _ e;omega
  have L:=Hd b5;have M:=Hd b6;have H:=Hd (And.intro a1 (And.intro b7 (And.intro b8 b9)));clear b5 b6 a1 b7 b8 b9 E;have a7:=zE w1.heap.size r w2.heap.size (w2.heap.size+1) v s1 [14] (EvtM.cells ⟨2,ju,0,0⟩) 47 242 ((w2.alloc (.cells #[.int .i64 2,.int .i64 0,.int .i64 0,.int .i64 0,.int .i64 0,.int .i64 0,.string ⟨#[]⟩,.string ⟨#[]⟩,.int .u64 0,.int .i64 0,.int .i64 0,.int .i64 0,.int .i64 0,.int .i64 0,.int .i64 0] 47)).alloc (.cells #[.pointer (some ⟨w2.heap.size,14,none⟩)] 242)) (L.1.below (ja _ _)).it (M.1.below (ja _ _)) (by have:=Box.new (w2.alloc (.cells #[.int .i64 2,.int .i64 0,.int .i64 0,.int .i64 0,.int .i64 0,.int .i64 0,.string ⟨#[]⟩,.string ⟨#[]⟩,.int .u64 0,.int .i64 0,.int .i64 0,.int .i64 0,.int .i64 0,.int .i64 0,.int .i64 0] 47)) #[.pointer (some ⟨w2.heap.size,14,none⟩)] 242;rw [World.size_alloc] at this;exact this) (by intro o ho;rw [List.mem_singleton.1 ho];decide) (by have:=H.1;omega) (by have:=H.1;omega) (by have:=H.1;omega) (by have:=H.1;omega) (by omega) H.1.2.2.2 (by decide)
  have Q:=Hd a7;clear a7;go_wp2_with fail;clear c1;refine Q.1.mono ?_;rintro ev w4 ⟨rfl,a9,a2,b0⟩;have a3:=(L.1.below (ja _ (.cells #[.pointer (some ⟨w2.heap.size,14,none⟩)] 242))).ints a9 b0 (by have:=H.1;omega) (by have:=H.1;omega)
  change DecSt w w4 w1.heap.size r w.heap.size v s1.int.2 at a3
  change Box w4 w2.heap.size (EvtM.cells ⟨2,ju,0,s1.int.1⟩) 47 at a2
  obtain ⟨e9,b1⟩:∃ e:EvtM,e=⟨2,ju,0,s1.int.1⟩:=⟨_,rfl⟩;have U:=Hd (show e9.s.user.length≤9223372036854775807∧e9.s.label.length≤9223372036854775807 by rw [b1];exact ⟨by show (0:Nat)≤_;omega,by show (0:Nat)≤_;omega⟩)
  rw [← b1] at a2 hD;clear b1;generalize s1.int.2=s9 at a3 hD;have B:=Hd a3;have N:=Hd a2;clear a9 a2 b0 a3 L M Q;have c1:w4.cell? ⟨w1.heap.size,1,none⟩=some (jo s9.er):=B.1.it.box.cell 1 _ rfl;unfold zI at hD;by_cases he:s9.er=0;rotate_left
  ·
   rw [yj he] at c1;rw [if_neg he] at hD;have P:=Hd (⟨c1,B.1.bz,B.1.bel,B.1.n1,B.1.g3⟩:ExS w w1.heap.size w.heap.size (.iface 91 (.int .i64 s9.er)) w4);have G:=Hd hD;have c5:∀ w',ExS w w1.heap.size w.heap.size (.iface 91 (.int .i64 s9.er)) w'→w'.cell? ⟨w1.heap.size,1,none⟩=some (.iface 91 (.int .i64 s9.er)):=fun w' h=>h.ce
   clear hD B;go_wp2_with fail;clear c1;refine wp_region_held_drew (S:=ExS w w1.heap.size w.heap.size (.iface 91 (.int .i64 s9.er))) (by kernel_rfl) P.1.drew (fun a4=>?_)
   refine Te 0 104 ?_;refine Te 1 105 ?_;refine Te 2 106 ?_;refine Te 3 107 ?_;refine Te 4 108 ?_;refine Rs 5 47 2 104 fun K hK=>?_
   rw [if_pos (by kernel_rfl)]
   refine yK 47 (.tmp 2) (.tmp 104) rfl w.heap.size 0 jg.cells.toList rfl rfl a4.bz.thereE (by kernel_rfl) jg.one ?_
   refine hK.out _ _ a4.store (fun a5=>?_)
   clear hK K
   try simp only [Act.put]
   refine Te 6 3 ?_;refine Dn ?_;have A:=Hd a5;clear a4 a5 c5 P;generalize World.setCells _ _ _ _=wz at A ⊢;go_wp2_with fail;exact jb rfl rfl (w.heap.size) 0 rfl jg.cells.toList _ A.1.bz.rangeE underlying47 rfl (by kernel_rfl) _ rfl ⟨by rw [G.1,yj he];rfl,A.1.bel⟩
  rw [show jo s9.er=.nilIface by unfold jo;rw [if_pos he]] at c1
  rw [if_pos he] at hD;have c0:=B.1.it.box.cell 0 _ rfl;clear he;go_wp2_with fail;refine (uG r s9.k v s9.l _ B.1.it.rd).mono ?_;rintro ev w7 ⟨rfl,b2⟩;have C:=Hd (B.1.below b2);have F:=Hd (N.1.below b2);clear c0 c1 b2 B N;by_cases hk:s9.k<s9.l.length
  ·
   rw [if_pos hk,yj (by decide:(3:Int)≠0)]
   rw [if_pos hk] at hD;have G:=Hd hD;clear hD hk F
   go_wp2_with ((with_reducible refine jc ?q760_0 47 (.tmp 2) (.tmp 116) ?q760_1 (w.heap.size) 0 jg.cells.toList ?q760_2 jg.cells ?q760_3 jT ?q760_5 ?q760_6 ?q760_7 ?q760_8);(case q760_1=>rfl);(case q760_0=>rfl);(case q760_2=>rfl);(case q760_3=>rfl);(case q760_5=>exact C.1.bz.thereE);(case q760_6=>kernel_rfl);(case q760_7=>exact jg.one))
   intro wz a1;have a0:=C.1.out jg;rw [← a1.out] at a0;have A:=Hd a0;clear a1 a0;go_wp2_with fail;exact jb rfl rfl (w.heap.size) 0 rfl jg.cells.toList _ A.1.1.rangeE underlying47 rfl (by kernel_rfl) _ rfl ⟨by rw [G.1];rfl,A.1.2⟩
  rw [if_neg hk,show jo 0=.nilIface from rfl]
  rw [if_neg hk] at hD;clear hk;have c2:w7.cell? ⟨w1.heap.size,2,none⟩=some (.bool s9.big):=C.1.it.box.cell 2 _ rfl
  cases hbg:s9.big
  rotate_left
  ·
   rw [hbg] at c2 hD;rw [if_pos rfl] at hD;have G:=Hd hD;clear hD hbg F
   go_wp2_with ((with_reducible refine jc ?q778_0 47 (.tmp 2) (.tmp 127) ?q778_1 (w.heap.size) 0 jg.cells.toList ?q778_2 jg.cells ?q778_3 jT ?q778_5 ?q778_6 ?q778_7 ?q778_8);(case q778_1=>rfl);(case q778_0=>rfl);(case q778_2=>rfl);(case q778_3=>rfl);(case q778_5=>exact C.1.bz.thereE);(case q778_6=>kernel_rfl);(case q778_7=>exact jg.one))
   intro wz a1;have a0:=C.1.out jg;rw [← a1.out] at a0;have A:=Hd a0;clear a1 a0;go_wp2_with fail;exact jb rfl rfl (w.heap.size) 0 rfl jg.cells.toList _ A.1.1.rangeE underlying47 rfl (by kernel_rfl) _ rfl ⟨by rw [G.1];rfl,A.1.2⟩
  rw [hbg] at c2 hD;rw [if_neg (by decide)] at hD
  go_wp2_with ((with_reducible refine jy ?q788_0 47 (.tmp 6) ?q788_1 (w2.heap.size) 0 ?q788_2 e9.cells.toList _ F.1.rangeE underlying47 ?q788_3 ?q788_4 ?q788_8);(case q788_1=>rfl);(case q788_0=>rfl);(case q788_2=>rfl);(case q788_3=>rfl);(case q788_4=>kernel_rfl))
  intro cv a6;have ecv:cv=e9.cells:=by rw [a6.out]
  have I:=Hd (jaN e9 w7 U.1.1 U.1.2);rw [← ecv] at I;clear a6 hbg ecv;go_wp2_with fail;refine I.1.mono ?_;rintro ev w8 ⟨rfl,b3⟩;have J:=Hd (C.1.below b3);have O:=Hd (F.1.below b3);clear b3 C F c2 I
  cases hmay:yb e9
  ·
   rw [zM hmay];rw [hmay,if_neg (by decide)] at hD
   have G:=Hd hD;clear hD hmay O
   go_wp2_with ((with_reducible refine jc ?q805_0 47 (.tmp 2) (.tmp 127) ?q805_1 (w.heap.size) 0 jg.cells.toList ?q805_2 jg.cells ?q805_3 jT ?q805_5 ?q805_6 ?q805_7 ?q805_8);(case q805_1=>rfl);(case q805_0=>rfl);(case q805_2=>rfl);(case q805_3=>rfl);(case q805_5=>exact J.1.bz.thereE);(case q805_6=>kernel_rfl);(case q805_7=>exact jg.one))
   intro wz a1;have a0:=J.1.out jg;rw [← a1.out] at a0;have A:=Hd a0;clear a1 a0;go_wp2_with fail;exact jb rfl rfl (w.heap.size) 0 rfl jg.cells.toList _ A.1.1.rangeE underlying47 rfl (by kernel_rfl) _ rfl ⟨by rw [G.1];rfl,A.1.2⟩
  obtain ⟨ot,ou,c3⟩:=jbf hmay;rw [c3];rw [hmay,if_pos rfl] at hD;have G:=Hd hD;clear hD hmay c3
  go_wp2_with ((with_reducible refine je ?q818_0 47 (.tmp 6) ?q818_1 (w2.heap.size) 0 ?q818_2 e9.cells.toList _ O.1.rangeE underlying47 ?q818_3 ?q818_4 ?q818_8);(case q818_1=>rfl);(case q818_0=>rfl);(case q818_2=>rfl);(case q818_3=>rfl);(case q818_4=>kernel_rfl))
  intro cv a6
  go_wp2_with ((with_reducible refine jc ?q820_0 47 (.tmp 2) (.tmp 129) ?q820_1 (w.heap.size) 0 e9.cells.toList ?q820_2 cv ?q820_3 a6 (J.1.bz.thereF e9) ?q820_4 e9.one ?q820_8);(case q820_1=>rfl);(case q820_0=>rfl);(case q820_2=>rfl);(case q820_3=>rfl);(case q820_4=>kernel_rfl))
  intro wz a1;have a0:=J.1.out e9;rw [← a1.out] at a0;have A:=Hd a0;clear a1 a0 a6;go_wp2_with fail;exact jb rfl rfl (w.heap.size) 0 rfl e9.cells.toList _ A.1.1.rangeE underlying47 rfl (by kernel_rfl) _ rfl ⟨by rw [G.1];rfl,A.1.2⟩
end Go.Proofs.YtgcnolapjppbpaaGreatDoor
