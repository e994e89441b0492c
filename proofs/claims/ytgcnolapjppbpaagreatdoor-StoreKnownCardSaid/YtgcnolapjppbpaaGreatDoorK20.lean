/- Texts of one proof. -/
import Derived.Test.YtgcnolapjppbpaaGreatDoorK18
namespace Go.Proofs.YtgcnolapjppbpaaGreatDoor
open Go.RowKit _root_.Go.Proofs.Tryz
set_option maxRecDepth 100000
set_option maxHeartbeats 25600000
variable {w0 w w':World}{t b2:Nat}{v:Value}{s:TkM}
def ue (l:List UInt8):Int × EvtM :=
 let p:=(⟨l,0,0,false⟩:TkM).num
 if p.2.er=0 then (if 2<p.1 then (1,jW) else if p.1=0 then vI (yO p.2).2 ⟨0,(yO p.2).1,0,0⟩
  else if p.1=1 then vI p.2.rint.2 ⟨1,ju,p.2.rint.1,0⟩ else vI p.2.rint.2 ⟨2,ju,0,p.2.rint.1⟩) else (p.2.er,jW)
theorem jjt (s:TkM):(yO s).1.user.length<=32/\(yO s).1.label.length<=32:=⟨TkM.txt_len _,TkM.txt_len _⟩
structure DkSt (w0 w:World)(t b2:Nat)(v:Value)(s:TkM):Prop where
 k:IsRK w t v s
 bz:Box w b2 jW.cells 47
 bel:Below w0.heap.size w0 w
 n1:b2≠t
 g1:w0.heap.size<=t
 g3:w0.heap.size<=b2
 vl:∀ b,v.ownBlock=some b->b<w0.heap.size
theorem DkSt.below (h:DkSt w0 w t b2 v s)(hb:Below w.heap.size w w'):DkSt w0 w' t b2 v s :=
 ⟨h.k.below hb,h.bz.below hb,h.bel.trans (hb.mono h.bel.size),h.n1,h.g1,h.g3,h.vl⟩
theorem DkSt.step {v':Value}{s':TkM}(h:DkSt w0 w t b2 v s)(hk:IsRK w' t v' s')(hv:v'.ownBlock=v.ownBlock)(hm:Mod (fun i=>i=t) w w'):DkSt w0 w' t b2 v' s' :=
 ⟨hk,h.bz.mod hm h.n1,h.bel.trans (hm.below h.bel.size (fun _ hi=>hi ▸ h.g1)),h.n1,h.g1,h.g3,fun b hb=>h.vl b (hv ▸ hb)⟩
theorem DkSt.mod {eb:Nat}(h:DkSt w0 w t b2 v s)(hm:Mod (fun i=>i=eb) w w')(h1:eb≠t)(h3:eb≠b2)(h5:w0.heap.size<=eb):DkSt w0 w' t b2 v s :=
 ⟨h.k.mod hm (fun e=>h1 e.symm) (fun b hb e=>by have:=h.vl b hb;omega),h.bz.mod hm (fun e=>h3 e.symm),h.bel.trans (hm.below h.bel.size (fun _ hi=>hi ▸ h5)),h.n1,h.g1,h.g3,h.vl⟩
theorem DkSt.out (h:DkSt w0 w t b2 v s)(f:EvtM):Box (w.setCells b2 0 f.cells.toList) b2 f.cells 47/\Below w0.heap.size w0 (w.setCells b2 0 f.cells.toList):=by
 have hb:=h.bz.setE f;have hg:=h.g3;generalize f.cells.toList=L at hb |-;have hm:=Mod.setCells (fun k=>k=b2) b2 rfl L 0 w
 exact ⟨hb,h.bel.trans (hm.below h.bel.size (fun _ hi=>hi ▸ hg))⟩
theorem jgu (t:Nat)(v:Value)(w:World)(hb:Box w t #[v,(0:Int),.bool false] 271)(hv:Rd w v 0 []) :
  Calls prog 145 #[.pointer (some ⟨t,0,none⟩)] w fun e w'=>e=.returned (.int .u64 0)/\w'=w.setCell ⟨t,1,none⟩ (2:Int):=by
 have Hc:=qe (uD v [] w hv (by decide))
 change Hid (Calls _ _ _ _ fun e w'=>e=.returned (.tuple #[.int .u64 0,(0:Int),(2:Int)])/\w'=w) at Hc
 obtain ⟨a,cap,rfl,_⟩:=hv;have c0:=hb.cell 0 _ rfl;have c1:=hb.cell 1 _ rfl;have f1:=hb.free 1;go_enter func145,ntmps145;go_wp2_with fail;refine Hc.out.mono ?_;rintro e w1 ⟨rfl,rfl⟩;go_wp2;go_ret;exact ⟨rfl,rfl⟩
theorem jga (x:Value)(l:List UInt8)(w:World)(hx:Rd w x l.length (l.map V8))(hl:l.length<=1000000000000) :
  Calls prog 108 #[x] w fun ev w'=>ev=.returned (.tuple #[.agg (ue l).2.cells,.int .i64 (ue l).1])/\Below w.heap.size w w':=by
 obtain ⟨D,hD⟩:=Nm (ue l);rw [<- hD];have c4:Box ((w.alloc (.cells #[(0:Int),(0:Int),(0:Int),(0:Int),(0:Int),(0:Int),.string ⟨#[]⟩,.string ⟨#[]⟩,.int .u64 0,(0:Int),(0:Int),(0:Int),(0:Int),(0:Int),(0:Int)] 47)).alloc (.cells #[x,(0:Int),.bool false] 271)) w.heap.size jW.cells 47:=(Box.new w jW.cells _).below (ja _ _);have b8:Box ((w.alloc (.cells #[(0:Int),(0:Int),(0:Int),(0:Int),(0:Int),(0:Int),.string ⟨#[]⟩,.string ⟨#[]⟩,.int .u64 0,(0:Int),(0:Int),(0:Int),(0:Int),(0:Int),(0:Int)] 47)).alloc (.cells #[x,(0:Int),.bool false] 271)) (w.heap.size+1) #[x,(0:Int),.bool false] 271:=by have:=Box.new (w.alloc (.cells #[(0:Int),(0:Int),(0:Int),(0:Int),(0:Int),(0:Int),.string ⟨#[]⟩,.string ⟨#[]⟩,.int .u64 0,(0:Int),(0:Int),(0:Int),(0:Int),(0:Int),(0:Int)] 47)) #[x,(0:Int),.bool false] 271;rw [qj] at this;exact this
 have b7:Below w.heap.size w ((w.alloc (.cells #[(0:Int),(0:Int),(0:Int),(0:Int),(0:Int),(0:Int),.string ⟨#[]⟩,.string ⟨#[]⟩,.int .u64 0,(0:Int),(0:Int),(0:Int),(0:Int),(0:Int),(0:Int)] 47)).alloc (.cells #[x,(0:Int),.bool false] 271)):=jl _ _ _;have c5:=hx.below b7;by_cases hl0:l = []
 .
  subst hl0;rw [show ue []=(2,jW) from rfl] at hD
  have U:=Hd (jgu (w.heap.size+1) x _ b8 c5);have c6:=Mod.set (fun i=>i=w.heap.size+1) ((w.alloc (.cells #[(0:Int),(0:Int),(0:Int),(0:Int),(0:Int),(0:Int),.string ⟨#[]⟩,.string ⟨#[]⟩,.int .u64 0,(0:Int),(0:Int),(0:Int),(0:Int),(0:Int),(0:Int)] 47)).alloc (.cells #[x,(0:Int),.bool false] 271)) ⟨w.heap.size+1,1,none⟩ (2:Int) rfl
  have O:=Hd (show ExS w (w.heap.size+1) w.heap.size (2:Int) (World.setCell ((w.alloc (.cells #[(0:Int),(0:Int),(0:Int),(0:Int),(0:Int),(0:Int),.string ⟨#[]⟩,.string ⟨#[]⟩,.int .u64 0,(0:Int),(0:Int),(0:Int),(0:Int),(0:Int),(0:Int)] 47)).alloc (.cells #[x,(0:Int),.bool false] 271)) ⟨w.heap.size+1,1,none⟩ (2:Int)) from ⟨(b8.set 1 _).cell 1 _ rfl,c4.mod c6 (by omega),b7.trans (c6.below b7.size (fun i hi=>by omega)),by omega,qm _⟩)
  obtain ⟨xa,xc,rfl,_⟩:=hx;clear c4 b8 b7 c5 c6 hl;go_enter func108,ntmps108;go_wp2_with fail;refine U.1.mono ?_;rintro ev w2 ⟨rfl,c9⟩;rw [<- c9] at O;have c1:=O.1.ce;clear c9 U;have M:=Hd (O.1:ExS w (w.heap.size+1) w.heap.size (2:Int) w2);have I:=Hd hD;have b9:∀ w',ExS w (w.heap.size+1) w.heap.size (2:Int) w'->w'.cell? ⟨(w.heap.size+1),1,none⟩=some (.int .i64 2):=fun w' h=>h.ce
  clear hD ;go_wp2_with fail;clear c1;refine qt (S:=ExS w ((w.heap.size+1)) w.heap.size (2:Int)) (by kernel_rfl) M.1.drew (fun a1=>?_)
  refine Te 0 17 ?_;refine Te 1 18 ?_;refine Te 2 19 ?_;refine Te 3 20 ?_;refine Te 4 21 ?_;refine Rs 5 47 2 17 fun K hK=>?_
  rw [qf (by kernel_rfl)]
  refine zb 47 (.tmp 2) (.tmp 17) rfl w.heap.size 0 jW.cells.toList rfl rfl a1.bz.thereE (by kernel_rfl) jW.one ?_
  refine hK.out _ _ a1.store (fun a3=>?_)
  clear hK K
  try simp only [Act.put]
  refine Te 6 3 ?_;refine Dn ?_;have B:=Hd a3;clear a1 a3 b9 M;generalize World.setCells _ _ _ _=wz at B |-;go_wp2;exact Jt B.1.bz.rangeE underlying47 ⟨by rw [I.1] <;> rfl,B.1.bel⟩
 unfold ue at hD;simp only at hD;have c7:∀ b,x.ownBlock=some b->b<w.heap.size:=by
  obtain ⟨a,cap,rfl,_,_,_,h4⟩:=hx;intro b hb;obtain ⟨b',off,rfl,hc⟩:=h4 0 (by rw [qE];exact pW.2 hl0)
  have d5:b'<w.heap.size:=World.block_lt_of_cell? w _ hc
  simp [Value.ownBlock] at hb
  omega
 have P:=Hd (show DkSt w ((w.alloc (.cells #[(0:Int),(0:Int),(0:Int),(0:Int),(0:Int),(0:Int),.string ⟨#[]⟩,.string ⟨#[]⟩,.int .u64 0,(0:Int),(0:Int),(0:Int),(0:Int),(0:Int),(0:Int)] 47)).alloc (.cells #[x,(0:Int),.bool false] 271)) (w.heap.size+1) w.heap.size x ⟨l,0,0,false⟩ from ⟨⟨b8,c5,fun e=>by have:=c7 _ e;omega,hl⟩,c4,b7,by omega,by omega,qm _,c7⟩)
 obtain ⟨xa,xc,rfl,_⟩:=hx;clear c4 b8 b7 c5 hl hl0 c7;go_enter func108,ntmps108;go_wp2_with fail;refine (xB (w.heap.size+1) _ _ _ P.1.k).mono ?_;rintro ev w2 ⟨rfl,⟨v,hk,hv⟩,hm⟩;have H:=Hd (P.1.step hk hv hm);clear hk hv hm P;generalize (TkM.num ⟨l,0,0,false⟩)=p at hD H |-;obtain ⟨x,s1⟩:=p;simp only at hD H |-;have c1:w2.cell? ⟨w.heap.size+1,1,none⟩=some (.int .i64 s1.er):=H.1.k.box.cell 1 _ rfl;by_cases he:s1.er=0;rotate_left
 .
  rw [qh he] at hD;have ge:(s1.er != 0)=true:=by simp [he]
  have M:=Hd (⟨c1,H.1.bz,H.1.bel,H.1.n1,H.1.g3⟩:ExS w (w.heap.size+1) w.heap.size s1.er w2);have I:=Hd hD;have b9:∀ w',ExS w (w.heap.size+1) w.heap.size s1.er w'->w'.cell? ⟨(w.heap.size+1),1,none⟩=some (.int .i64 s1.er):=fun w' h=>h.ce
  clear hD H he;go_wp2_with fail;clear c1;refine qt (S:=ExS w ((w.heap.size+1)) w.heap.size s1.er) (by kernel_rfl) M.1.drew (fun a1=>?_)
  refine Te 0 17 ?_;refine Te 1 18 ?_;refine Te 2 19 ?_;refine Te 3 20 ?_;refine Te 4 21 ?_;refine Rs 5 47 2 17 fun K hK=>?_
  rw [qf (by kernel_rfl)]
  refine zb 47 (.tmp 2) (.tmp 17) rfl w.heap.size 0 jW.cells.toList rfl rfl a1.bz.thereE (by kernel_rfl) jW.one ?_
  refine hK.out _ _ a1.store (fun a3=>?_)
  clear hK K
  try simp only [Act.put]
  refine Te 6 3 ?_;refine Dn ?_;have B:=Hd a3;clear a1 a3 b9 M;generalize World.setCells _ _ _ _=wz at B |-;go_wp2;exact Jt B.1.bz.rangeE underlying47 ⟨by rw [I.1] <;> rfl,B.1.bel⟩
 rw [he] at c1;rw [qf he] at hD;clear he;by_cases h2:2<x
 .
  have g2:(2:Int)<(x:Int):=by omega
  rw [qf h2] at hD;have I:=Hd hD;clear hD h2
  go_wp2_with (with_reducible refine Sk jW.cells.toList xF H.1.bz.thereE jW.one ?_)
  intro wz a0;have a2:=H.1.out jW;rw [<- a0.out] at a2;have B:=Hd a2;clear a0 a2;go_wp2;exact Jt B.1.1.rangeE underlying47 ⟨by rw [I.1] <;> rfl,B.1.2⟩
 rw [qh h2] at hD;obtain rfl | rfl | rfl:x=0\/x=1\/x=2:=by omega
 focus
  rw [qf rfl] at hD;clear h2;have F:=Hd (H.1.below (ja _ _):DkSt w (w2.alloc (.cells #[(0:Int),(0:Int),(0:Int),(0:Int),(0:Int),(0:Int),.string ⟨#[]⟩,.string ⟨#[]⟩,.int .u64 0,(0:Int),(0:Int),(0:Int),(0:Int),(0:Int),(0:Int)] 47)) (w.heap.size+1) w.heap.size v s1);have L:=Hd (Box.new _ _ _:Box (w2.alloc (.cells #[(0:Int),(0:Int),(0:Int),(0:Int),(0:Int),(0:Int),.string ⟨#[]⟩,.string ⟨#[]⟩,.int .u64 0,(0:Int),(0:Int),(0:Int),(0:Int),(0:Int),(0:Int)] 47)) w2.heap.size (EvtM.cells ⟨0,ju,0,0⟩) 47);have a0:w.heap.size<w2.heap.size:=H.1.bz.lt;have b1:w.heap.size+1<w2.heap.size:=H.1.k.box.lt;have C:=Hd (And.intro a0 b1);clear a0 b1 H;go_wp2_with fail;clear c1;refine (jaQ (w.heap.size+1) v s1 _ F.1.k (fun b hb=>by have:=F.1.vl b hb;have:=C.1.1;simp;omega)).mono ?_
  rintro ev w4 ⟨rfl,⟨v4,b2,b3⟩,a7⟩;have E:=Hd (F.1.step b2 b3 a7);have a5:=L.1.mod a7 (by have:=C.1;omega)
  have b5:=jjt s1;clear b2 b3 a7 F L;generalize yO s1=p at hD E b5 |-;obtain ⟨q,s4⟩:=p;simp only at hD E b5 |-;have T:=Hd (a5.there 1 12 (by show 1+12<=15;decide))
  have a6:=Box.setSes ⟨0,ju,0,0⟩ q a5;have a8:=Mod.setCells (fun i=>i=w2.heap.size) w2.heap.size rfl q.cells.toList 1 w4
  go_wp2_with (with_reducible refine Sk q.cells.toList (qe Array.toArray_toList.symm) T.1 q.one ?_)
  intro w5 d1;rw [<- d1.out] at a6 a8;have A:=Hd (E.1.mod a8 (by have:=C.1;omega) (by have:=C.1;omega) (by have:=C.1;omega))
  obtain ⟨e9,a4⟩:∃ e:EvtM,e=⟨0,q,0,0⟩:=⟨_,rfl⟩;have b4:Box w5 w2.heap.size e9.cells 47:=a4 ▸ a6;have R:=Hd (show e9.s.user.length<=9223372036854775807/\e9.s.label.length<=9223372036854775807 by rw [a4];exact ⟨qi b5.1 (by decide),qi b5.2 (by decide)⟩)
  rw [<- a4] at hD;have G:=Hd b4;clear d1 a6 a8 a4 b4 a5 E T b5
  go_upto_region 15 with (fail)
 rotate_left
 focus
  rw [qh (by decide),qf rfl] at hD
  clear h2;have F:=Hd (H.1.below (ja _ _):DkSt w (w2.alloc (.cells #[(1:Int),(0:Int),(0:Int),(0:Int),(0:Int),(0:Int),.string ⟨#[]⟩,.string ⟨#[]⟩,.int .u64 0,(0:Int),(0:Int),(0:Int),(0:Int),(0:Int),(0:Int)] 47)) (w.heap.size+1) w.heap.size v s1);have L:=Hd (Box.new _ _ _:Box (w2.alloc (.cells #[(1:Int),(0:Int),(0:Int),(0:Int),(0:Int),(0:Int),.string ⟨#[]⟩,.string ⟨#[]⟩,.int .u64 0,(0:Int),(0:Int),(0:Int),(0:Int),(0:Int),(0:Int)] 47)) w2.heap.size (EvtM.cells ⟨1,ju,0,0⟩) 47);have a0:w.heap.size<w2.heap.size:=H.1.bz.lt;have b1:w.heap.size+1<w2.heap.size:=H.1.k.box.lt;have C:=Hd (And.intro a0 b1);clear a0 b1 H;go_wp2_with fail;clear c1;refine (jU (w.heap.size+1) v s1 _ F.1.k).mono ?_;rintro ev w4 ⟨rfl,⟨v4,b2,b3⟩,a7⟩;have E:=Hd (F.1.step b2 b3 a7);have a5:=L.1.mod a7 (by have:=C.1;omega)
  clear b2 b3 a7 F L;generalize s1.rint=p at hD E |-;obtain ⟨n,s4⟩:=p;simp only at hD E |-;have x4:=a5.cell 13 _ rfl;have y4:=a5.free 13;have a6:Box (w4.setCell ⟨w2.heap.size,13,none⟩ n) w2.heap.size (EvtM.cells ⟨1,ju,n,0⟩) 47:=a5.set 13 _;have a8:=Mod.set (fun i=>i=w2.heap.size) w4 ⟨w2.heap.size,13,none⟩ n rfl
  have A:=Hd (E.1.mod a8 (by have:=C.1;omega) (by have:=C.1;omega) (by have:=C.1;omega))
  obtain ⟨e9,a4⟩:∃ e:EvtM,e=⟨1,ju,n,0⟩:=⟨_,rfl⟩;have b4:Box (w4.setCell ⟨w2.heap.size,13,none⟩ n) w2.heap.size e9.cells 47:=a4 ▸ a6;have R:=Hd (show e9.s.user.length<=9223372036854775807/\e9.s.label.length<=9223372036854775807 by rw [a4];exact ⟨by show (0:Nat)<=_;omega,by show (0:Nat)<=_;omega⟩)
  rw [<- a4] at hD;have G:=Hd b4;clear a6 a8 a4 b4 a5 E
  go_upto_region 15 with (fail)
  clear x4 y4;generalize (w4.setCell ⟨w2.heap.size,13,none⟩ n)=w5 at A G |-
 rotate_left
 focus
  rw [qh (by decide),qh (by decide)] at hD
  clear h2;have F:=Hd (H.1.below (ja _ _):DkSt w (w2.alloc (.cells #[(2:Int),(0:Int),(0:Int),(0:Int),(0:Int),(0:Int),.string ⟨#[]⟩,.string ⟨#[]⟩,.int .u64 0,(0:Int),(0:Int),(0:Int),(0:Int),(0:Int),(0:Int)] 47)) (w.heap.size+1) w.heap.size v s1);have L:=Hd (Box.new _ _ _:Box (w2.alloc (.cells #[(2:Int),(0:Int),(0:Int),(0:Int),(0:Int),(0:Int),.string ⟨#[]⟩,.string ⟨#[]⟩,.int .u64 0,(0:Int),(0:Int),(0:Int),(0:Int),(0:Int),(0:Int)] 47)) w2.heap.size (EvtM.cells ⟨2,ju,0,0⟩) 47);have a0:w.heap.size<w2.heap.size:=H.1.bz.lt;have b1:w.heap.size+1<w2.heap.size:=H.1.k.box.lt;have C:=Hd (And.intro a0 b1);clear a0 b1 H;go_wp2_with fail;clear c1;refine (jU (w.heap.size+1) v s1 _ F.1.k).mono ?_;rintro ev w4 ⟨rfl,⟨v4,b2,b3⟩,a7⟩;have E:=Hd (F.1.step b2 b3 a7);have a5:=L.1.mod a7 (by have:=C.1;omega)
  clear b2 b3 a7 F L;generalize s1.rint=p at hD E |-;obtain ⟨n,s4⟩:=p;simp only at hD E |-;have x4:=a5.cell 14 _ rfl;have y4:=a5.free 14;have a6:Box (w4.setCell ⟨w2.heap.size,14,none⟩ n) w2.heap.size (EvtM.cells ⟨2,ju,0,n⟩) 47:=a5.set 14 _;have a8:=Mod.set (fun i=>i=w2.heap.size) w4 ⟨w2.heap.size,14,none⟩ n rfl
  have A:=Hd (E.1.mod a8 (by have:=C.1;omega) (by have:=C.1;omega) (by have:=C.1;omega))
  obtain ⟨e9,a4⟩:∃ e:EvtM,e=⟨2,ju,0,n⟩:=⟨_,rfl⟩;have b4:Box (w4.setCell ⟨w2.heap.size,14,none⟩ n) w2.heap.size e9.cells 47:=a4 ▸ a6;have R:=Hd (show e9.s.user.length<=9223372036854775807/\e9.s.label.length<=9223372036854775807 by rw [a4];exact ⟨by show (0:Nat)<=_;omega,by show (0:Nat)<=_;omega⟩)
  rw [<- a4] at hD;have G:=Hd b4;clear a6 a8 a4 b4 a5 E
  go_upto_region 15 with (fail)
  clear x4 y4;generalize (w4.setCell ⟨w2.heap.size,14,none⟩ n)=w5 at A G |-
 rotate_left
 all_goals
  have c1:w5.cell? ⟨(w.heap.size+1),1,none⟩=some (.int .i64 s4.er):=A.1.k.box.cell 1 _ rfl;unfold vI at hD;by_cases he:s4.er=0;rotate_left
  .
   rw [qh he] at hD;have ge:(s4.er != 0)=true:=by simp [he]
   have M:=Hd (⟨c1,A.1.bz,A.1.bel,A.1.n1,A.1.g3⟩:ExS w (w.heap.size+1) w.heap.size s4.er w5);have I:=Hd hD;have b9:∀ w',ExS w (w.heap.size+1) w.heap.size s4.er w'->w'.cell? ⟨(w.heap.size+1),1,none⟩=some (.int .i64 s4.er):=fun w' h=>h.ce
   clear hD A he;go_wp2_with fail;clear c1;refine qt (S:=ExS w ((w.heap.size+1)) w.heap.size s4.er) (by kernel_rfl) M.1.drew (fun a1=>?_)
   refine Te 0 50 ?_;refine Te 1 51 ?_;refine Te 2 52 ?_;refine Te 3 53 ?_;refine Te 4 54 ?_;refine Rs 5 47 2 50 fun K hK=>?_
   rw [qf (by kernel_rfl)]
   refine zb 47 (.tmp 2) (.tmp 50) rfl w.heap.size 0 jW.cells.toList rfl rfl a1.bz.thereE (by kernel_rfl) jW.one ?_
   refine hK.out _ _ a1.store (fun a3=>?_)
   clear hK K
   try simp only [Act.put]
   refine Te 6 3 ?_;refine Dn ?_;have B:=Hd a3;clear a1 a3 b9 M;generalize World.setCells _ _ _ _=wz at B |-;go_wp2;exact Jt B.1.bz.rangeE underlying47 ⟨by rw [I.1] <;> rfl,B.1.bel⟩
  rw [qf he] at hD;rw [he] at c1;have d4:∃ a c,v4=.slice a s4.rest.length c:=by obtain ⟨a,c,h,_⟩:=A.1.k.rd;exact ⟨a,c,h⟩
  obtain ⟨va,vc,d2⟩:=d4;have c0:w5.cell? ⟨(w.heap.size+1),0,none⟩=some (.slice va s4.rest.length vc):=d2 ▸ A.1.k.box.cell 0 _ rfl;have c2:w5.cell? ⟨(w.heap.size+1),2,none⟩=some (.bool s4.big):=A.1.k.box.cell 2 _ rfl;have d3:s4.rest.length=s4.l.length-s4.k:=by unfold TkM.rest;rw [qn]
  clear he d2;by_cases hk:s4.k<s4.l.length
  .
   have g3:(0:Int)<(s4.rest.length:Int):=by omega
   rw [qf hk] at hD;have I:=Hd hD;clear hD hk d3 G
   go_wp2_with (with_reducible refine Sk jW.cells.toList xF A.1.bz.thereE jW.one ?_)
   intro wz a0;have a2:=A.1.out jW;rw [<- a0.out] at a2;have B:=Hd a2;clear a0 a2;go_wp2;exact Jt B.1.1.rangeE underlying47 ⟨by rw [I.1] <;> rfl,B.1.2⟩
  have g3:¬ (0:Int)<(s4.rest.length:Int):=by omega
  rw [qh hk] at hD;clear hk d3
  cases hbg:s4.big
  rotate_left
  .
   rw [hbg] at c2 hD;rw [qf rfl] at hD;have I:=Hd hD;clear hD hbg G
   go_wp2_with (with_reducible refine Sk jW.cells.toList xF A.1.bz.thereE jW.one ?_)
   intro wz a0;have a2:=A.1.out jW;rw [<- a0.out] at a2;have B:=Hd a2;clear a0 a2;go_wp2;exact Jt B.1.1.rangeE underlying47 ⟨by rw [I.1] <;> rfl,B.1.2⟩
  rw [hbg] at c2 hD;rw [qh (by decide)] at hD
  go_wp2_with (with_reducible refine Lw G.1.rangeE underlying47 ?_)
  intro cv c3;have ecv:cv=e9.cells:=by rw [c3.out]
  have J:=Hd (uz e9 w5 R.1.1 R.1.2);rw [<- ecv] at J;clear c3 hbg ecv
  cases hmay:jM e9
  .
   rw [hmay] at J hD;rw [qh (by decide)] at hD
   have I:=Hd hD;clear hD hmay;go_wp2_with fail;refine J.1.mono ?_;rintro ev w8 ⟨rfl,b6⟩;have N:=Hd (A.1.below b6);have Q:=Hd (G.1.below b6);clear b6 A G c0 c1 c2 J;clear Q
   go_wp2_with (with_reducible refine Sk jW.cells.toList xF N.1.bz.thereE jW.one ?_)
   intro wz a0;have a2:=N.1.out jW;rw [<- a0.out] at a2;have B:=Hd a2;clear a0 a2;go_wp2;exact Jt B.1.1.rangeE underlying47 ⟨by rw [I.1] <;> rfl,B.1.2⟩
  rw [hmay] at J hD;rw [qf rfl] at hD;have I:=Hd hD;clear hD hmay;go_wp2_with fail;refine J.1.mono ?_;rintro ev w8 ⟨rfl,b6⟩;have N:=Hd (A.1.below b6);have Q:=Hd (G.1.below b6);clear b6 A G c0 c1 c2 J
  go_wp2_with (with_reducible refine Lk Q.1.rangeE underlying47 ?_)
  intro cv c3
  go_wp2_with (with_reducible refine Sk e9.cells.toList c3 (N.1.bz.thereF e9) e9.one ?_)
  intro wz a0;have a2:=N.1.out e9;rw [<- a0.out] at a2;have B:=Hd a2;clear a0 a2 c3;go_wp2;exact Jt B.1.1.rangeE underlying47 ⟨by rw [I.1] <;> rfl,B.1.2⟩
end Go.Proofs.YtgcnolapjppbpaaGreatDoor
