/-
  Texts of one proof, one behind the other.
-/
import Derived.Test.YtgcnolapjppbpaaGreatDoorP38
import Derived.Test.YtgcnolapjppbpaaGreatDoorP00
namespace Go.Proofs.YtgcnolapjppbpaaGreatDoor
open Go.RowKit _root_.Go.Proofs.Tryz
set_option maxRecDepth 100000
set_option maxHeartbeats 25600000
def vL (l:List UInt8):Int × EvtM :=
 let p:=(⟨l,0,0,false⟩:TkM).num
 if p.2.er=0 then (if 2<p.1 then (1,jg) else if p.1=0 then zI (yH p.2).2 ⟨0,(yH p.2).1,0,0⟩
  else if p.1=1 then zI p.2.rint.2 ⟨1,ju,p.2.rint.1,0⟩ else zI p.2.rint.2 ⟨2,ju,0,p.2.rint.1⟩) else (p.2.er,jg)
theorem jhO (s:TkM):(yH s).1.user.length≤32∧(yH s).1.label.length≤32:=⟨TkM.txt_len _,TkM.txt_len _⟩
structure DkSt (w0 w:World)(t b2:Nat)(v:Value)(s:TkM):Prop where
 k:IsRK w t v s
 bz:Box w b2 jg.cells 47
 bel:Below w0.heap.size w0 w
 n1:b2≠t
 g1:w0.heap.size≤t
 g3:w0.heap.size≤b2
 vl:∀ b,v.ownBlock=some b→b<w0.heap.size
theorem DkSt.below {w0 w w':World}{t b2:Nat}{v:Value}{s:TkM}(h:DkSt w0 w t b2 v s)(hb:Below w.heap.size w w'):DkSt w0 w' t b2 v s :=
 ⟨h.k.below hb,h.bz.below hb,h.bel.trans (hb.mono h.bel.size),h.n1,h.g1,h.g3,h.vl⟩
theorem DkSt.step {w0 w w':World}{t b2:Nat}{v v':Value}{s s':TkM}(h:DkSt w0 w t b2 v s)(hk:IsRK w' t v' s')(hv:v'.ownBlock=v.ownBlock)(hm:Mod (fun i=>i=t) w w'):DkSt w0 w' t b2 v' s' :=
 ⟨hk,h.bz.mod hm h.n1,h.bel.trans (hm.below h.bel.size (fun _ hi=>hi ▸ h.g1)),h.n1,h.g1,h.g3,fun b hb=>h.vl b (hv ▸ hb)⟩
theorem DkSt.mod {w0 w w':World}{t b2 eb:Nat}{v:Value}{s:TkM}(h:DkSt w0 w t b2 v s)(hm:Mod (fun i=>i=eb) w w')(h1:eb≠t)(h3:eb≠b2)(h5:w0.heap.size≤eb):DkSt w0 w' t b2 v s :=
 ⟨h.k.mod hm (fun e=>h1 e.symm) (fun b hb e=>by have:=h.vl b hb;omega),h.bz.mod hm (fun e=>h3 e.symm),h.bel.trans (hm.below h.bel.size (fun _ hi=>hi ▸ h5)),h.n1,h.g1,h.g3,h.vl⟩
theorem DkSt.out {w0 w:World}{t b2:Nat}{v:Value}{s:TkM}(h:DkSt w0 w t b2 v s)(f:EvtM):Box (w.setCells b2 0 f.cells.toList) b2 f.cells 47∧Below w0.heap.size w0 (w.setCells b2 0 f.cells.toList):=by
 have hb:=h.bz.setE f;have hg:=h.g3;generalize f.cells.toList=L at hb ⊢;have hm:=Mod.setCells (fun k=>k=b2) b2 rfl L 0 w
 exact ⟨hb,h.bel.trans (hm.below h.bel.size (fun _ hi=>hi ▸ hg))⟩
theorem jeL (t:Nat)(v:Value)(w:World)(hb:Box w t #[v,.int .i64 0,.bool false] 271)(hv:Rd w v 0 []) :
  Calls prog 145 #[.pointer (some ⟨t,0,none⟩)] w fun e w'=>e=.returned (.int .u64 0)∧w'=w.setCell ⟨t,1,none⟩ (.int .i64 2):=by
 have Hc:=Lib.hid (vI v [] w hv (by decide))
 change Hid (Calls _ _ _ _ fun e w'=>e=.returned (.tuple #[.int .u64 0,.int .i64 0,.int .i64 2])∧w'=w) at Hc
 obtain ⟨a,cap,rfl,_⟩:=hv;have c0:=hb.cell 0 _ rfl;have c1:=hb.cell 1 _ rfl;have f1:=hb.free 1;go_enter func145,ntmps145;go_wp2_with fail;refine Hc.out.mono ?_;rintro e w1 ⟨rfl,rfl⟩;go_wp2_with fail;go_ret;exact ⟨rfl,rfl⟩
theorem jeR (x:Value)(l:List UInt8)(w:World)(hx:Rd w x l.length (l.map V8))(hl:l.length≤1000000000000) :
  Calls prog 108 #[x] w fun ev w'=>ev=.returned (.tuple #[.agg (vL l).2.cells,.int .i64 (vL l).1])∧Below w.heap.size w w':=by
 obtain ⟨D,hD⟩:=Nm (vL l);rw [← hD];have c7:Box ((w.alloc (.cells #[.int .i64 0,.int .i64 0,.int .i64 0,.int .i64 0,.int .i64 0,.int .i64 0,.string ⟨#[]⟩,.string ⟨#[]⟩,.int .u64 0,.int .i64 0,.int .i64 0,.int .i64 0,.int .i64 0,.int .i64 0,.int .i64 0] 47)).alloc (.cells #[x,.int .i64 0,.bool false] 271)) w.heap.size jg.cells 47:=(Box.new w jg.cells _).below (ja _ _);have c5:Box ((w.alloc (.cells #[.int .i64 0,.int .i64 0,.int .i64 0,.int .i64 0,.int .i64 0,.int .i64 0,.string ⟨#[]⟩,.string ⟨#[]⟩,.int .u64 0,.int .i64 0,.int .i64 0,.int .i64 0,.int .i64 0,.int .i64 0,.int .i64 0] 47)).alloc (.cells #[x,.int .i64 0,.bool false] 271)) (w.heap.size+1) #[x,.int .i64 0,.bool false] 271:=by have:=Box.new (w.alloc (.cells #[.int .i64 0,.int .i64 0,.int .i64 0,.int .i64 0,.int .i64 0,.int .i64 0,.string ⟨#[]⟩,.string ⟨#[]⟩,.int .u64 0,.int .i64 0,.int .i64 0,.int .i64 0,.int .i64 0,.int .i64 0,.int .i64 0] 47)) #[x,.int .i64 0,.bool false] 271;rw [World.size_alloc] at this;exact this
 have c4:Below w.heap.size w ((w.alloc (.cells #[.int .i64 0,.int .i64 0,.int .i64 0,.int .i64 0,.int .i64 0,.int .i64 0,.string ⟨#[]⟩,.string ⟨#[]⟩,.int .u64 0,.int .i64 0,.int .i64 0,.int .i64 0,.int .i64 0,.int .i64 0,.int .i64 0] 47)).alloc (.cells #[x,.int .i64 0,.bool false] 271)):=jn _ _ _;have c8:=hx.below c4;by_cases hl0:l = []
 ·
  subst hl0;rw [show vL []=(2,jg) from rfl] at hD
  have U:=Hd (jeL (w.heap.size+1) x _ c5 c8);have c9:=Mod.set (fun i=>i=w.heap.size+1) ((w.alloc (.cells #[.int .i64 0,.int .i64 0,.int .i64 0,.int .i64 0,.int .i64 0,.int .i64 0,.string ⟨#[]⟩,.string ⟨#[]⟩,.int .u64 0,.int .i64 0,.int .i64 0,.int .i64 0,.int .i64 0,.int .i64 0,.int .i64 0] 47)).alloc (.cells #[x,.int .i64 0,.bool false] 271)) ⟨w.heap.size+1,1,none⟩ (.int .i64 2) rfl
  have d1:ExS w (w.heap.size+1) w.heap.size (.int .i64 2) (World.setCell ((w.alloc (.cells #[.int .i64 0,.int .i64 0,.int .i64 0,.int .i64 0,.int .i64 0,.int .i64 0,.string ⟨#[]⟩,.string ⟨#[]⟩,.int .u64 0,.int .i64 0,.int .i64 0,.int .i64 0,.int .i64 0,.int .i64 0,.int .i64 0] 47)).alloc (.cells #[x,.int .i64 0,.bool false] 271)) ⟨w.heap.size+1,1,none⟩ (.int .i64 2)):=⟨(c5.set 1 _).cell 1 _ rfl,c7.mod c9 (by omega),c4.trans (c9.below c4.size (fun i hi=>by omega)),by omega,Nat.le_refl _⟩
  have Q:=Hd d1;obtain ⟨xa,xc,rfl,_⟩:=hx;clear c7 c5 c4 c8 c9 d1 hl;go_enter func108,ntmps108;go_wp2_with fail;refine U.1.mono ?_;rintro ev w2 ⟨rfl,d2⟩;rw [← d2] at Q;have c1:=Q.1.ce;clear d2 U;have N:=Hd (Q.1:ExS w (w.heap.size+1) w.heap.size (.int .i64 2) w2);have C:=Hd hD;have b0:∀ w',ExS w (w.heap.size+1) w.heap.size (.int .i64 2) w'→w'.cell? ⟨(w.heap.size+1),1,none⟩=some (.int .i64 2):=fun w' h=>h.ce
  clear hD ;go_wp2_with fail;clear c1;refine wp_region_held_drew (S:=ExS w ((w.heap.size+1)) w.heap.size (.int .i64 2)) (by kernel_rfl) N.1.drew (fun a2=>?_)
  refine Te 0 17 ?_;refine Te 1 18 ?_;refine Te 2 19 ?_;refine Te 3 20 ?_;refine Te 4 21 ?_;refine Rs 5 47 2 17 fun K hK=>?_
  rw [if_pos (by kernel_rfl)]
  refine yK 47 (.tmp 2) (.tmp 17) rfl w.heap.size 0 jg.cells.toList rfl rfl a2.bz.thereE (by kernel_rfl) jg.one ?_
  refine hK.out _ _ a2.store (fun a3=>?_)
  clear hK K
  try simp only [Act.put]
  refine Te 6 3 ?_;refine Dn ?_;have A:=Hd a3;clear a2 a3 b0 N;generalize World.setCells _ _ _ _=wz at A ⊢;go_wp2_with fail;exact jb rfl rfl (w.heap.size) 0 rfl jg.cells.toList _ A.1.bz.rangeE underlying47 rfl (by kernel_rfl) _ rfl ⟨by rw [C.1];rfl,A.1.bel⟩
 unfold vL at hD;simp only at hD;have d0:∀ b,x.ownBlock=some b→b<w.heap.size:=by
  obtain ⟨a,cap,rfl,_,_,_,h4⟩:=hx;intro b hb;obtain ⟨b',off,rfl,hc⟩:=h4 0 (by rw [List.length_map];exact List.length_pos_iff.2 hl0)
  have d5:b'<w.heap.size:=World.block_lt_of_cell? w _ hc
  simp [Value.ownBlock] at hb
  omega
 have d3:DkSt w ((w.alloc (.cells #[.int .i64 0,.int .i64 0,.int .i64 0,.int .i64 0,.int .i64 0,.int .i64 0,.string ⟨#[]⟩,.string ⟨#[]⟩,.int .u64 0,.int .i64 0,.int .i64 0,.int .i64 0,.int .i64 0,.int .i64 0,.int .i64 0] 47)).alloc (.cells #[x,.int .i64 0,.bool false] 271)) (w.heap.size+1) w.heap.size x ⟨l,0,0,false⟩:=⟨⟨c5,c8,fun e=>by have:=d0 _ e;omega,hl⟩,c7,c4,by omega,by omega,Nat.le_refl _,d0⟩
 have R:=Hd d3;obtain ⟨xa,xc,rfl,_⟩:=hx;clear c7 c5 c4 c8 hl hl0 d3 d0;go_enter func108,ntmps108;go_wp2_with fail;refine (xm (w.heap.size+1) _ _ _ R.1.k).mono ?_;rintro ev w2 ⟨rfl,⟨v,hk,hv⟩,hm⟩;have F:=Hd (R.1.step hk hv hm);clear hk hv hm R;generalize (TkM.num ⟨l,0,0,false⟩)=p at hD F ⊢;obtain ⟨x,s1⟩:=p;simp only at hD F ⊢;have c1:w2.cell? ⟨w.heap.size+1,1,none⟩=some (.int .i64 s1.er):=F.1.k.box.cell 1 _ rfl;by_cases he:s1.er=0;rotate_left
 ·
  rw [if_neg he] at hD;have ge:(s1.er != 0)=true:=by simp [he]
  have N:=Hd (⟨c1,F.1.bz,F.1.bel,F.1.n1,F.1.g3⟩:ExS w (w.heap.size+1) w.heap.size (.int .i64 s1.er) w2);have C:=Hd hD;have b0:∀ w',ExS w (w.heap.size+1) w.heap.size (.int .i64 s1.er) w'→w'.cell? ⟨(w.heap.size+1),1,none⟩=some (.int .i64 s1.er):=fun w' h=>h.ce
  clear hD F he;go_wp2_with fail;clear c1;refine wp_region_held_drew (S:=ExS w ((w.heap.size+1)) w.heap.size (.int .i64 s1.er)) (by kernel_rfl) N.1.drew (fun a2=>?_)
  refine Te 0 17 ?_;refine Te 1 18 ?_;refine Te 2 19 ?_;refine Te 3 20 ?_;refine Te 4 21 ?_;refine Rs 5 47 2 17 fun K hK=>?_
  rw [if_pos (by kernel_rfl)]
  refine yK 47 (.tmp 2) (.tmp 17) rfl w.heap.size 0 jg.cells.toList rfl rfl a2.bz.thereE (by kernel_rfl) jg.one ?_
  refine hK.out _ _ a2.store (fun a3=>?_)
  clear hK K
  try simp only [Act.put]
  refine Te 6 3 ?_;refine Dn ?_;have A:=Hd a3;clear a2 a3 b0 N;generalize World.setCells _ _ _ _=wz at A ⊢;go_wp2_with fail;exact jb rfl rfl (w.heap.size) 0 rfl jg.cells.toList _ A.1.bz.rangeE underlying47 rfl (by kernel_rfl) _ rfl ⟨by rw [C.1];rfl,A.1.bel⟩
 rw [he] at c1;rw [if_pos he] at hD;clear he;by_cases h2:2<x
 ·
  have g2:(2:Int)<(x:Int):=by omega
  rw [if_pos h2] at hD;have C:=Hd hD;clear hD h2
  go_wp2_with ((with_reducible refine jc ?e1_0 47 (.tmp 2) (.tmp 24) ?e1_1 (w.heap.size) 0 jg.cells.toList ?e1_2 jg.cells ?e1_3 jT ?e1_5 ?e1_6 ?e1_7 ?e1_8);(case e1_1=>rfl);(case e1_0=>rfl);(case e1_2=>rfl);(case e1_3=>rfl);(case e1_5=>exact F.1.bz.thereE);(case e1_6=>kernel_rfl);(case e1_7=>exact jg.one))
  intro wz a1;have a0:=F.1.out jg;rw [← a1.out] at a0;have A:=Hd a0;clear a1 a0;go_wp2_with fail;exact jb rfl rfl (w.heap.size) 0 rfl jg.cells.toList _ A.1.1.rangeE underlying47 rfl (by kernel_rfl) _ rfl ⟨by rw [C.1];rfl,A.1.2⟩
 rw [if_neg h2] at hD;obtain rfl | rfl | rfl:x=0∨x=1∨x=2:=by omega
 ·
  rw [if_pos rfl] at hD;clear h2;have b2:DkSt w (w2.alloc (.cells #[.int .i64 0,.int .i64 0,.int .i64 0,.int .i64 0,.int .i64 0,.int .i64 0,.string ⟨#[]⟩,.string ⟨#[]⟩,.int .u64 0,.int .i64 0,.int .i64 0,.int .i64 0,.int .i64 0,.int .i64 0,.int .i64 0] 47)) (w.heap.size+1) w.heap.size v s1:=F.1.below (ja _ _);have b3:Box (w2.alloc (.cells #[.int .i64 0,.int .i64 0,.int .i64 0,.int .i64 0,.int .i64 0,.int .i64 0,.string ⟨#[]⟩,.string ⟨#[]⟩,.int .u64 0,.int .i64 0,.int .i64 0,.int .i64 0,.int .i64 0,.int .i64 0,.int .i64 0] 47)) w2.heap.size (EvtM.cells ⟨0,ju,0,0⟩) 47:=Box.new _ _ _;have a1:w.heap.size<w2.heap.size:=F.1.bz.lt;have b4:w.heap.size+1<w2.heap.size:=F.1.k.box.lt;have L:=Hd b2;have O:=Hd b3;have I:=Hd (And.intro a1 b4);clear b2 b3 a1 b4 F;go_wp2_with fail;clear c1;refine (ve (w.heap.size+1) v s1 _ L.1.k (fun b hb=>by have:=L.1.vl b hb;have:=I.1.1;simp;omega)).mono ?_
  rintro ev w4 ⟨rfl,⟨v4,b5,b6⟩,a9⟩;have J:=Hd (L.1.step b5 b6 a9);have a7:=O.1.mod a9 (by have:=I.1;omega)
  have c3:=jhO s1;clear b5 b6 a9 L O;generalize yH s1=p at hD J c3 ⊢;obtain ⟨q,s4⟩:=p;simp only at hD J c3 ⊢;have T:=Hd (a7.there 1 12 (by show 1+12≤15;decide))
  have a8:=Box.setSes ⟨0,ju,0,0⟩ q a7;have b1:=Mod.setCells (fun i=>i=w2.heap.size) w2.heap.size rfl q.cells.toList 1 w4
  go_wp2_with ((with_reducible refine jc ?f0_0 45 (.tmp 34) (.tmp 33) ?f0_1 (w2.heap.size) 1 q.cells.toList ?f0_2 q.cells ?f0_3 (Lib.hid Array.toArray_toList.symm) ?f0_5 ?f0_4 ?f0_7 ?f0_8);(case f0_1=>rfl);(case f0_0=>rfl);(case f0_2=>rfl);(case f0_3=>rfl);(case f0_4=>kernel_rfl);(case f0_5=>exact T.1);(case f0_7=>exact q.one))
  intro w5 d4;rw [← d4.out] at a8 b1;have H:=Hd (J.1.mod b1 (by have:=I.1;omega) (by have:=I.1;omega) (by have:=I.1;omega))
  obtain ⟨e9,a6⟩:∃ e:EvtM,e=⟨0,q,0,0⟩:=⟨_,rfl⟩;have b7:Box w5 w2.heap.size e9.cells 47:=a6 ▸ a8;have P:=Hd (show e9.s.user.length≤9223372036854775807∧e9.s.label.length≤9223372036854775807 by rw [a6];exact ⟨Nat.le_trans c3.1 (by decide),Nat.le_trans c3.2 (by decide)⟩)
  rw [← a6] at hD;have E:=Hd b7;clear d4 a8 b1 a6 b7 a7 J T c3;have c1:w5.cell? ⟨(w.heap.size+1),1,none⟩=some (.int .i64 s4.er):=H.1.k.box.cell 1 _ rfl;unfold zI at hD;by_cases he:s4.er=0;rotate_left
  ·
   rw [if_neg he] at hD;have ge:(s4.er != 0)=true:=by simp [he]
   have N:=Hd (⟨c1,H.1.bz,H.1.bel,H.1.n1,H.1.g3⟩:ExS w (w.heap.size+1) w.heap.size (.int .i64 s4.er) w5);have C:=Hd hD;have b0:∀ w',ExS w (w.heap.size+1) w.heap.size (.int .i64 s4.er) w'→w'.cell? ⟨(w.heap.size+1),1,none⟩=some (.int .i64 s4.er):=fun w' h=>h.ce
   clear hD H he;go_wp2_with fail;clear c1;refine wp_region_held_drew (S:=ExS w ((w.heap.size+1)) w.heap.size (.int .i64 s4.er)) (by kernel_rfl) N.1.drew (fun a2=>?_)
   refine Te 0 50 ?_;refine Te 1 51 ?_;refine Te 2 52 ?_;refine Te 3 53 ?_;refine Te 4 54 ?_;refine Rs 5 47 2 50 fun K hK=>?_
   rw [if_pos (by kernel_rfl)]
   refine yK 47 (.tmp 2) (.tmp 50) rfl w.heap.size 0 jg.cells.toList rfl rfl a2.bz.thereE (by kernel_rfl) jg.one ?_
   refine hK.out _ _ a2.store (fun a3=>?_)
   clear hK K
   try simp only [Act.put]
   refine Te 6 3 ?_;refine Dn ?_;have A:=Hd a3;clear a2 a3 b0 N;generalize World.setCells _ _ _ _=wz at A ⊢;go_wp2_with fail;exact jb rfl rfl (w.heap.size) 0 rfl jg.cells.toList _ A.1.bz.rangeE underlying47 rfl (by kernel_rfl) _ rfl ⟨by rw [C.1];rfl,A.1.bel⟩
  rw [if_pos he] at hD;rw [he] at c1;have c6:∃ a c,v4=.slice a s4.rest.length c:=by obtain ⟨a,c,h,_⟩:=H.1.k.rd;exact ⟨a,c,h⟩
  obtain ⟨va,vc,b8⟩:=c6;have c0:w5.cell? ⟨(w.heap.size+1),0,none⟩=some (.slice va s4.rest.length vc):=b8 ▸ H.1.k.box.cell 0 _ rfl;have c2:w5.cell? ⟨(w.heap.size+1),2,none⟩=some (.bool s4.big):=H.1.k.box.cell 2 _ rfl;have b9:s4.rest.length=s4.l.length-s4.k:=by unfold TkM.rest;rw [List.length_drop]
  clear he b8;by_cases hk:s4.k<s4.l.length
  ·
   have g3:(0:Int)<(s4.rest.length:Int):=by omega
   rw [if_pos hk] at hD;have C:=Hd hD;clear hD hk b9 E
   go_wp2_with ((with_reducible refine jc ?e2_0 47 (.tmp 2) (.tmp 61) ?e2_1 (w.heap.size) 0 jg.cells.toList ?e2_2 jg.cells ?e2_3 jT ?e2_5 ?e2_6 ?e2_7 ?e2_8);(case e2_1=>rfl);(case e2_0=>rfl);(case e2_2=>rfl);(case e2_3=>rfl);(case e2_5=>exact H.1.bz.thereE);(case e2_6=>kernel_rfl);(case e2_7=>exact jg.one))
   intro wz a1;have a0:=H.1.out jg;rw [← a1.out] at a0;have A:=Hd a0;clear a1 a0;go_wp2_with fail;exact jb rfl rfl (w.heap.size) 0 rfl jg.cells.toList _ A.1.1.rangeE underlying47 rfl (by kernel_rfl) _ rfl ⟨by rw [C.1];rfl,A.1.2⟩
  have g3:¬ (0:Int)<(s4.rest.length:Int):=by omega
  rw [if_neg hk] at hD;clear hk b9
  cases hbg:s4.big
  rotate_left
  ·
   rw [hbg] at c2 hD;rw [if_pos rfl] at hD;have C:=Hd hD;clear hD hbg E
   go_wp2_with ((with_reducible refine jc ?e3_0 47 (.tmp 2) (.tmp 71) ?e3_1 (w.heap.size) 0 jg.cells.toList ?e3_2 jg.cells ?e3_3 jT ?e3_5 ?e3_6 ?e3_7 ?e3_8);(case e3_1=>rfl);(case e3_0=>rfl);(case e3_2=>rfl);(case e3_3=>rfl);(case e3_5=>exact H.1.bz.thereE);(case e3_6=>kernel_rfl);(case e3_7=>exact jg.one))
   intro wz a1;have a0:=H.1.out jg;rw [← a1.out] at a0;have A:=Hd a0;clear a1 a0;go_wp2_with fail;exact jb rfl rfl (w.heap.size) 0 rfl jg.cells.toList _ A.1.1.rangeE underlying47 rfl (by kernel_rfl) _ rfl ⟨by rw [C.1];rfl,A.1.2⟩
  rw [hbg] at c2 hD;rw [if_neg (by decide)] at hD
  go_wp2_with ((with_reducible refine jy ?e4_0 47 (.tmp 6) ?e4_1 (w2.heap.size) 0 ?e4_2 e9.cells.toList _ E.1.rangeE underlying47 ?e4_3 ?e4_4 ?e4_8);(case e4_1=>rfl);(case e4_0=>rfl);(case e4_2=>rfl);(case e4_3=>rfl);(case e4_4=>kernel_rfl))
  intro cv a5;have ecv:cv=e9.cells:=by rw [a5.out]
  have B:=Hd (xX e9 w5 P.1.1 P.1.2);rw [← ecv] at B;clear a5 hbg ecv
  cases hmay:yb e9
  ·
   rw [hmay] at B hD;rw [if_neg (by decide)] at hD
   have C:=Hd hD;clear hD hmay;go_wp2_with fail;refine B.1.mono ?_;rintro ev w8 ⟨rfl,a4⟩;have G:=Hd (H.1.below a4);have M:=Hd (E.1.below a4);clear a4 H E c0 c1 c2 B;clear M
   go_wp2_with ((with_reducible refine jc ?e5_0 47 (.tmp 2) (.tmp 71) ?e5_1 (w.heap.size) 0 jg.cells.toList ?e5_2 jg.cells ?e5_3 jT ?e5_5 ?e5_6 ?e5_7 ?e5_8);(case e5_1=>rfl);(case e5_0=>rfl);(case e5_2=>rfl);(case e5_3=>rfl);(case e5_5=>exact G.1.bz.thereE);(case e5_6=>kernel_rfl);(case e5_7=>exact jg.one))
   intro wz a1;have a0:=G.1.out jg;rw [← a1.out] at a0;have A:=Hd a0;clear a1 a0;go_wp2_with fail;exact jb rfl rfl (w.heap.size) 0 rfl jg.cells.toList _ A.1.1.rangeE underlying47 rfl (by kernel_rfl) _ rfl ⟨by rw [C.1];rfl,A.1.2⟩
  rw [hmay] at B hD;rw [if_pos rfl] at hD;have C:=Hd hD;clear hD hmay;go_wp2_with fail;refine B.1.mono ?_;rintro ev w8 ⟨rfl,a4⟩;have G:=Hd (H.1.below a4);have M:=Hd (E.1.below a4);clear a4 H E c0 c1 c2 B
  go_wp2_with ((with_reducible refine je ?e6_0 47 (.tmp 6) ?e6_1 (w2.heap.size) 0 ?e6_2 e9.cells.toList _ M.1.rangeE underlying47 ?e6_3 ?e6_4 ?e6_8);(case e6_1=>rfl);(case e6_0=>rfl);(case e6_2=>rfl);(case e6_3=>rfl);(case e6_4=>kernel_rfl))
  intro cv a5
  go_wp2_with ((with_reducible refine jc ?e7_0 47 (.tmp 2) (.tmp 72) ?e7_1 (w.heap.size) 0 e9.cells.toList ?e7_2 cv ?e7_3 a5 (G.1.bz.thereF e9) ?e7_4 e9.one ?e7_8);(case e7_1=>rfl);(case e7_0=>rfl);(case e7_2=>rfl);(case e7_3=>rfl);(case e7_4=>kernel_rfl))
  intro wz a1;have a0:=G.1.out e9;rw [← a1.out] at a0;have A:=Hd a0;clear a1 a0 a5;go_wp2_with fail;exact jb rfl rfl (w.heap.size) 0 rfl e9.cells.toList _ A.1.1.rangeE underlying47 rfl (by kernel_rfl) _ rfl ⟨by rw [C.1];rfl,A.1.2⟩
 ·
  rw [if_neg (by decide),if_pos rfl] at hD
  clear h2;have b2:DkSt w (w2.alloc (.cells #[.int .i64 1,.int .i64 0,.int .i64 0,.int .i64 0,.int .i64 0,.int .i64 0,.string ⟨#[]⟩,.string ⟨#[]⟩,.int .u64 0,.int .i64 0,.int .i64 0,.int .i64 0,.int .i64 0,.int .i64 0,.int .i64 0] 47)) (w.heap.size+1) w.heap.size v s1:=F.1.below (ja _ _);have b3:Box (w2.alloc (.cells #[.int .i64 1,.int .i64 0,.int .i64 0,.int .i64 0,.int .i64 0,.int .i64 0,.string ⟨#[]⟩,.string ⟨#[]⟩,.int .u64 0,.int .i64 0,.int .i64 0,.int .i64 0,.int .i64 0,.int .i64 0,.int .i64 0] 47)) w2.heap.size (EvtM.cells ⟨1,ju,0,0⟩) 47:=Box.new _ _ _;have a1:w.heap.size<w2.heap.size:=F.1.bz.lt;have b4:w.heap.size+1<w2.heap.size:=F.1.k.box.lt;have L:=Hd b2;have O:=Hd b3;have I:=Hd (And.intro a1 b4);clear b2 b3 a1 b4 F;go_wp2_with fail;clear c1;refine (jU (w.heap.size+1) v s1 _ L.1.k).mono ?_;rintro ev w4 ⟨rfl,⟨v4,b5,b6⟩,a9⟩;have J:=Hd (L.1.step b5 b6 a9);have a7:=O.1.mod a9 (by have:=I.1;omega)
  clear b5 b6 a9 L O;generalize s1.rint=p at hD J ⊢;obtain ⟨n,s4⟩:=p;simp only at hD J ⊢;have x4:=a7.cell 13 _ rfl;have y4:=a7.free 13;have a8:Box (w4.setCell ⟨w2.heap.size,13,none⟩ (.int .i64 n)) w2.heap.size (EvtM.cells ⟨1,ju,n,0⟩) 47:=a7.set 13 _;have b1:=Mod.set (fun i=>i=w2.heap.size) w4 ⟨w2.heap.size,13,none⟩ (.int .i64 n) rfl
  have H:=Hd (J.1.mod b1 (by have:=I.1;omega) (by have:=I.1;omega) (by have:=I.1;omega))
  obtain ⟨e9,a6⟩:∃ e:EvtM,e=⟨1,ju,n,0⟩:=⟨_,rfl⟩;have b7:Box (w4.setCell ⟨w2.heap.size,13,none⟩ (.int .i64 n)) w2.heap.size e9.cells 47:=a6 ▸ a8;have P:=Hd (show e9.s.user.length≤9223372036854775807∧e9.s.label.length≤9223372036854775807 by rw [a6];exact ⟨by show (0:Nat)≤_;omega,by show (0:Nat)≤_;omega⟩)
  rw [← a6] at hD;have E:=Hd b7;clear a8 b1 a6 b7 a7 J;have c1:(w4.setCell ⟨w2.heap.size,13,none⟩ (.int .i64 n)).cell? ⟨(w.heap.size+1),1,none⟩=some (.int .i64 s4.er):=H.1.k.box.cell 1 _ rfl;unfold zI at hD;by_cases he:s4.er=0;rotate_left
  ·
   rw [if_neg he] at hD;have ge:(s4.er != 0)=true:=by simp [he]
   have N:=Hd (⟨c1,H.1.bz,H.1.bel,H.1.n1,H.1.g3⟩:ExS w (w.heap.size+1) w.heap.size (.int .i64 s4.er) (w4.setCell ⟨w2.heap.size,13,none⟩ (.int .i64 n)));have C:=Hd hD;have b0:∀ w',ExS w (w.heap.size+1) w.heap.size (.int .i64 s4.er) w'→w'.cell? ⟨(w.heap.size+1),1,none⟩=some (.int .i64 s4.er):=fun w' h=>h.ce
   clear hD H he;go_wp2_with fail;clear c1;refine wp_region_held_drew (S:=ExS w ((w.heap.size+1)) w.heap.size (.int .i64 s4.er)) (by kernel_rfl) N.1.drew (fun a2=>?_)
   refine Te 0 50 ?_;refine Te 1 51 ?_;refine Te 2 52 ?_;refine Te 3 53 ?_;refine Te 4 54 ?_;refine Rs 5 47 2 50 fun K hK=>?_
   rw [if_pos (by kernel_rfl)]
   refine yK 47 (.tmp 2) (.tmp 50) rfl w.heap.size 0 jg.cells.toList rfl rfl a2.bz.thereE (by kernel_rfl) jg.one ?_
   refine hK.out _ _ a2.store (fun a3=>?_)
   clear hK K
   try simp only [Act.put]
   refine Te 6 3 ?_;refine Dn ?_;have A:=Hd a3;clear a2 a3 b0 N;generalize World.setCells _ _ _ _=wz at A ⊢;go_wp2_with fail;exact jb rfl rfl (w.heap.size) 0 rfl jg.cells.toList _ A.1.bz.rangeE underlying47 rfl (by kernel_rfl) _ rfl ⟨by rw [C.1];rfl,A.1.bel⟩
  rw [if_pos he] at hD;rw [he] at c1;have c6:∃ a c,v4=.slice a s4.rest.length c:=by obtain ⟨a,c,h,_⟩:=H.1.k.rd;exact ⟨a,c,h⟩
  obtain ⟨va,vc,b8⟩:=c6;have c0:(w4.setCell ⟨w2.heap.size,13,none⟩ (.int .i64 n)).cell? ⟨(w.heap.size+1),0,none⟩=some (.slice va s4.rest.length vc):=b8 ▸ H.1.k.box.cell 0 _ rfl;have c2:(w4.setCell ⟨w2.heap.size,13,none⟩ (.int .i64 n)).cell? ⟨(w.heap.size+1),2,none⟩=some (.bool s4.big):=H.1.k.box.cell 2 _ rfl;have b9:s4.rest.length=s4.l.length-s4.k:=by unfold TkM.rest;rw [List.length_drop]
  clear he b8;by_cases hk:s4.k<s4.l.length
  ·
   have g3:(0:Int)<(s4.rest.length:Int):=by omega
   rw [if_pos hk] at hD;have C:=Hd hD;clear hD hk b9 E
   go_wp2_with ((with_reducible refine jc ?e8_0 47 (.tmp 2) (.tmp 61) ?e8_1 (w.heap.size) 0 jg.cells.toList ?e8_2 jg.cells ?e8_3 jT ?e8_5 ?e8_6 ?e8_7 ?e8_8);(case e8_1=>rfl);(case e8_0=>rfl);(case e8_2=>rfl);(case e8_3=>rfl);(case e8_5=>exact H.1.bz.thereE);(case e8_6=>kernel_rfl);(case e8_7=>exact jg.one))
   intro wz a1;have a0:=H.1.out jg;rw [← a1.out] at a0;have A:=Hd a0;clear a1 a0;go_wp2_with fail;exact jb rfl rfl (w.heap.size) 0 rfl jg.cells.toList _ A.1.1.rangeE underlying47 rfl (by kernel_rfl) _ rfl ⟨by rw [C.1];rfl,A.1.2⟩
  have g3:¬ (0:Int)<(s4.rest.length:Int):=by omega
  rw [if_neg hk] at hD;clear hk b9
  cases hbg:s4.big
  rotate_left
  ·
   rw [hbg] at c2 hD;rw [if_pos rfl] at hD;have C:=Hd hD;clear hD hbg E
   go_wp2_with ((with_reducible refine jc ?e9_0 47 (.tmp 2) (.tmp 71) ?e9_1 (w.heap.size) 0 jg.cells.toList ?e9_2 jg.cells ?e9_3 jT ?e9_5 ?e9_6 ?e9_7 ?e9_8);(case e9_1=>rfl);(case e9_0=>rfl);(case e9_2=>rfl);(case e9_3=>rfl);(case e9_5=>exact H.1.bz.thereE);(case e9_6=>kernel_rfl);(case e9_7=>exact jg.one))
   intro wz a1;have a0:=H.1.out jg;rw [← a1.out] at a0;have A:=Hd a0;clear a1 a0;go_wp2_with fail;exact jb rfl rfl (w.heap.size) 0 rfl jg.cells.toList _ A.1.1.rangeE underlying47 rfl (by kernel_rfl) _ rfl ⟨by rw [C.1];rfl,A.1.2⟩
  rw [hbg] at c2 hD;rw [if_neg (by decide)] at hD
  go_wp2_with ((with_reducible refine jy ?e10_0 47 (.tmp 6) ?e10_1 (w2.heap.size) 0 ?e10_2 e9.cells.toList _ E.1.rangeE underlying47 ?e10_3 ?e10_4 ?e10_8);(case e10_1=>rfl);(case e10_0=>rfl);(case e10_2=>rfl);(case e10_3=>rfl);(case e10_4=>kernel_rfl))
  intro cv a5;have ecv:cv=e9.cells:=by rw [a5.out]
  have B:=Hd (xX e9 (w4.setCell ⟨w2.heap.size,13,none⟩ (.int .i64 n)) P.1.1 P.1.2);rw [← ecv] at B;clear a5 hbg ecv
  cases hmay:yb e9
  ·
   rw [hmay] at B hD;rw [if_neg (by decide)] at hD
   have C:=Hd hD;clear hD hmay;go_wp2_with fail;refine B.1.mono ?_;rintro ev w8 ⟨rfl,a4⟩;have G:=Hd (H.1.below a4);have M:=Hd (E.1.below a4);clear a4 H E c0 c1 c2 B;clear M
   go_wp2_with ((with_reducible refine jc ?e11_0 47 (.tmp 2) (.tmp 71) ?e11_1 (w.heap.size) 0 jg.cells.toList ?e11_2 jg.cells ?e11_3 jT ?e11_5 ?e11_6 ?e11_7 ?e11_8);(case e11_1=>rfl);(case e11_0=>rfl);(case e11_2=>rfl);(case e11_3=>rfl);(case e11_5=>exact G.1.bz.thereE);(case e11_6=>kernel_rfl);(case e11_7=>exact jg.one))
   intro wz a1;have a0:=G.1.out jg;rw [← a1.out] at a0;have A:=Hd a0;clear a1 a0;go_wp2_with fail;exact jb rfl rfl (w.heap.size) 0 rfl jg.cells.toList _ A.1.1.rangeE underlying47 rfl (by kernel_rfl) _ rfl ⟨by rw [C.1];rfl,A.1.2⟩
  rw [hmay] at B hD;rw [if_pos rfl] at hD;have C:=Hd hD;clear hD hmay;go_wp2_with fail;refine B.1.mono ?_;rintro ev w8 ⟨rfl,a4⟩;have G:=Hd (H.1.below a4);have M:=Hd (E.1.below a4);clear a4 H E c0 c1 c2 B
  go_wp2_with ((with_reducible refine je ?e12_0 47 (.tmp 6) ?e12_1 (w2.heap.size) 0 ?e12_2 e9.cells.toList _ M.1.rangeE underlying47 ?e12_3 ?e12_4 ?e12_8);(case e12_1=>rfl);(case e12_0=>rfl);(case e12_2=>rfl);(case e12_3=>rfl);(case e12_4=>kernel_rfl))
  intro cv a5
  go_wp2_with ((with_reducible refine jc ?e13_0 47 (.tmp 2) (.tmp 72) ?e13_1 (w.heap.size) 0 e9.cells.toList ?e13_2 cv ?e13_3 a5 (G.1.bz.thereF e9) ?e13_4 e9.one ?e13_8);(case e13_1=>rfl);(case e13_0=>rfl);(case e13_2=>rfl);(case e13_3=>rfl);(case e13_4=>kernel_rfl))
  intro wz a1;have a0:=G.1.out e9;rw [← a1.out] at a0;have A:=Hd a0;clear a1 a0 a5;go_wp2_with fail;exact jb rfl rfl (w.heap.size) 0 rfl e9.cells.toList _ A.1.1.rangeE underlying47 rfl (by kernel_rfl) _ rfl ⟨by rw [C.1];rfl,A.1.2⟩
 ·
  rw [if_neg (by decide),if_neg (by decide)] at hD
  clear h2;have b2:DkSt w (w2.alloc (.cells #[.int .i64 2,.int .i64 0,.int .i64 0,.int .i64 0,.int .i64 0,.int .i64 0,.string ⟨#[]⟩,.string ⟨#[]⟩,.int .u64 0,.int .i64 0,.int .i64 0,.int .i64 0,.int .i64 0,.int .i64 0,.int .i64 0] 47)) (w.heap.size+1) w.heap.size v s1:=F.1.below (ja _ _);have b3:Box (w2.alloc (.cells #[.int .i64 2,.int .i64 0,.int .i64 0,.int .i64 0,.int .i64 0,.int .i64 0,.string ⟨#[]⟩,.string ⟨#[]⟩,.int .u64 0,.int .i64 0,.int .i64 0,.int .i64 0,.int .i64 0,.int .i64 0,.int .i64 0] 47)) w2.heap.size (EvtM.cells ⟨2,ju,0,0⟩) 47:=Box.new _ _ _;have a1:w.heap.size<w2.heap.size:=F.1.bz.lt;have b4:w.heap.size+1<w2.heap.size:=F.1.k.box.lt;have L:=Hd b2;have O:=Hd b3;have I:=Hd (And.intro a1 b4);clear b2 b3 a1 b4 F;go_wp2_with fail;clear c1;refine (jU (w.heap.size+1) v s1 _ L.1.k).mono ?_;rintro ev w4 ⟨rfl,⟨v4,b5,b6⟩,a9⟩;have J:=Hd (L.1.step b5 b6 a9);have a7:=O.1.mod a9 (by have:=I.1;omega)
  clear b5 b6 a9 L O;generalize s1.rint=p at hD J ⊢;obtain ⟨n,s4⟩:=p;simp only at hD J ⊢;have x4:=a7.cell 14 _ rfl;have y4:=a7.free 14;have a8:Box (w4.setCell ⟨w2.heap.size,14,none⟩ (.int .i64 n)) w2.heap.size (EvtM.cells ⟨2,ju,0,n⟩) 47:=a7.set 14 _;have b1:=Mod.set (fun i=>i=w2.heap.size) w4 ⟨w2.heap.size,14,none⟩ (.int .i64 n) rfl
  have H:=Hd (J.1.mod b1 (by have:=I.1;omega) (by have:=I.1;omega) (by have:=I.1;omega))
  obtain ⟨e9,a6⟩:∃ e:EvtM,e=⟨2,ju,0,n⟩:=⟨_,rfl⟩;have b7:Box (w4.setCell ⟨w2.heap.size,14,none⟩ (.int .i64 n)) w2.heap.size e9.cells 47:=a6 ▸ a8;have P:=Hd (show e9.s.user.length≤9223372036854775807∧e9.s.label.length≤9223372036854775807 by rw [a6];exact ⟨by show (0:Nat)≤_;omega,by show (0:Nat)≤_;omega⟩)
  rw [← a6] at hD;have E:=Hd b7;clear a8 b1 a6 b7 a7 J;have c1:(w4.setCell ⟨w2.heap.size,14,none⟩ (.int .i64 n)).cell? ⟨(w.heap.size+1),1,none⟩=some (.int .i64 s4.er):=H.1.k.box.cell 1 _ rfl;unfold zI at hD;by_cases he:s4.er=0;rotate_left
  ·
   rw [if_neg he] at hD;have ge:(s4.er != 0)=true:=by simp [he]
   have N:=Hd (⟨c1,H.1.bz,H.1.bel,H.1.n1,H.1.g3⟩:ExS w (w.heap.size+1) w.heap.size (.int .i64 s4.er) (w4.setCell ⟨w2.heap.size,14,none⟩ (.int .i64 n)));have C:=Hd hD;have b0:∀ w',ExS w (w.heap.size+1) w.heap.size (.int .i64 s4.er) w'→w'.cell? ⟨(w.heap.size+1),1,none⟩=some (.int .i64 s4.er):=fun w' h=>h.ce
   clear hD H he;go_wp2_with fail;clear c1;refine wp_region_held_drew (S:=ExS w ((w.heap.size+1)) w.heap.size (.int .i64 s4.er)) (by kernel_rfl) N.1.drew (fun a2=>?_)
   refine Te 0 50 ?_;refine Te 1 51 ?_;refine Te 2 52 ?_;refine Te 3 53 ?_;refine Te 4 54 ?_;refine Rs 5 47 2 50 fun K hK=>?_
   rw [if_pos (by kernel_rfl)]
   refine yK 47 (.tmp 2) (.tmp 50) rfl w.heap.size 0 jg.cells.toList rfl rfl a2.bz.thereE (by kernel_rfl) jg.one ?_
   refine hK.out _ _ a2.store (fun a3=>?_)
   clear hK K
   try simp only [Act.put]
   refine Te 6 3 ?_;refine Dn ?_;have A:=Hd a3;clear a2 a3 b0 N;generalize World.setCells _ _ _ _=wz at A ⊢;go_wp2_with fail;exact jb rfl rfl (w.heap.size) 0 rfl jg.cells.toList _ A.1.bz.rangeE underlying47 rfl (by kernel_rfl) _ rfl ⟨by rw [C.1];rfl,A.1.bel⟩
  rw [if_pos he] at hD;rw [he] at c1;have c6:∃ a c,v4=.slice a s4.rest.length c:=by obtain ⟨a,c,h,_⟩:=H.1.k.rd;exact ⟨a,c,h⟩
  obtain ⟨va,vc,b8⟩:=c6;have c0:(w4.setCell ⟨w2.heap.size,14,none⟩ (.int .i64 n)).cell? ⟨(w.heap.size+1),0,none⟩=some (.slice va s4.rest.length vc):=b8 ▸ H.1.k.box.cell 0 _ rfl;have c2:(w4.setCell ⟨w2.heap.size,14,none⟩ (.int .i64 n)).cell? ⟨(w.heap.size+1),2,none⟩=some (.bool s4.big):=H.1.k.box.cell 2 _ rfl;have b9:s4.rest.length=s4.l.length-s4.k:=by unfold TkM.rest;rw [List.length_drop]
  clear he b8;by_cases hk:s4.k<s4.l.length
  ·
   have g3:(0:Int)<(s4.rest.length:Int):=by omega
   rw [if_pos hk] at hD;have C:=Hd hD;clear hD hk b9 E
   go_wp2_with ((with_reducible refine jc ?e14_0 47 (.tmp 2) (.tmp 61) ?e14_1 (w.heap.size) 0 jg.cells.toList ?e14_2 jg.cells ?e14_3 jT ?e14_5 ?e14_6 ?e14_7 ?e14_8);(case e14_1=>rfl);(case e14_0=>rfl);(case e14_2=>rfl);(case e14_3=>rfl);(case e14_5=>exact H.1.bz.thereE);(case e14_6=>kernel_rfl);(case e14_7=>exact jg.one))
   intro wz a1;have a0:=H.1.out jg;rw [← a1.out] at a0;have A:=Hd a0;clear a1 a0;go_wp2_with fail;exact jb rfl rfl (w.heap.size) 0 rfl jg.cells.toList _ A.1.1.rangeE underlying47 rfl (by kernel_rfl) _ rfl ⟨by rw [C.1];rfl,A.1.2⟩
  have g3:¬ (0:Int)<(s4.rest.length:Int):=by omega
  rw [if_neg hk] at hD;clear hk b9
  cases hbg:s4.big
  rotate_left
  ·
   rw [hbg] at c2 hD;rw [if_pos rfl] at hD;have C:=Hd hD;clear hD hbg E
   go_wp2_with ((with_reducible refine jc ?e15_0 47 (.tmp 2) (.tmp 71) ?e15_1 (w.heap.size) 0 jg.cells.toList ?e15_2 jg.cells ?e15_3 jT ?e15_5 ?e15_6 ?e15_7 ?e15_8);(case e15_1=>rfl);(case e15_0=>rfl);(case e15_2=>rfl);(case e15_3=>rfl);(case e15_5=>exact H.1.bz.thereE);(case e15_6=>kernel_rfl);(case e15_7=>exact jg.one))
   intro wz a1;have a0:=H.1.out jg;rw [← a1.out] at a0;have A:=Hd a0;clear a1 a0;go_wp2_with fail;exact jb rfl rfl (w.heap.size) 0 rfl jg.cells.toList _ A.1.1.rangeE underlying47 rfl (by kernel_rfl) _ rfl ⟨by rw [C.1];rfl,A.1.2⟩
  rw [hbg] at c2 hD;rw [if_neg (by decide)] at hD
  go_wp2_with ((with_reducible refine jy ?e16_0 47 (.tmp 6) ?e16_1 (w2.heap.size) 0 ?e16_2 e9.cells.toList _ E.1.rangeE underlying47 ?e16_3 ?e16_4 ?e16_8);(case e16_1=>rfl);(case e16_0=>rfl);(case e16_2=>rfl);(case e16_3=>rfl);(case e16_4=>kernel_rfl))
  intro cv a5;have ecv:cv=e9.cells:=by rw [a5.out]
  have B:=Hd (xX e9 (w4.setCell ⟨w2.heap.size,14,none⟩ (.int .i64 n)) P.1.1 P.1.2);rw [← ecv] at B;clear a5 hbg ecv
  cases hmay:yb e9
  ·
   rw [hmay] at B hD;rw [if_neg (by decide)] at hD
   have C:=Hd hD;clear hD hmay;go_wp2_with fail;refine B.1.mono ?_;rintro ev w8 ⟨rfl,a4⟩;have G:=Hd (H.1.below a4);have M:=Hd (E.1.below a4);clear a4 H E c0 c1 c2 B;clear M
   go_wp2_with ((with_reducible refine jc ?e17_0 47 (.tmp 2) (.tmp 71) ?e17_1 (w.heap.size) 0 jg.cells.toList ?e17_2 jg.cells ?e17_3 jT ?e17_5 ?e17_6 ?e17_7 ?e17_8);(case e17_1=>rfl);(case e17_0=>rfl);(case e17_2=>rfl);(case e17_3=>rfl);(case e17_5=>exact G.1.bz.thereE);(case e17_6=>kernel_rfl);(case e17_7=>exact jg.one))
   intro wz a1;have a0:=G.1.out jg;rw [← a1.out] at a0;have A:=Hd a0;clear a1 a0;go_wp2_with fail;exact jb rfl rfl (w.heap.size) 0 rfl jg.cells.toList _ A.1.1.rangeE underlying47 rfl (by kernel_rfl) _ rfl ⟨by rw [C.1];rfl,A.1.2⟩
  rw [hmay] at B hD;rw [if_pos rfl] at hD;have C:=Hd hD;clear hD hmay;go_wp2_with fail;refine B.1.mono ?_;rintro ev w8 ⟨rfl,a4⟩;have G:=Hd (H.1.below a4);have M:=Hd (E.1.below a4);clear a4 H E c0 c1 c2 B
  go_wp2_with ((with_reducible refine je ?e18_0 47 (.tmp 6) ?e18_1 (w2.heap.size) 0 ?e18_2 e9.cells.toList _ M.1.rangeE underlying47 ?e18_3 ?e18_4 ?e18_8);(case e18_1=>rfl);(case e18_0=>rfl);(case e18_2=>rfl);(case e18_3=>rfl);(case e18_4=>kernel_rfl))
  intro cv a5
  go_wp2_with ((with_reducible refine jc ?e19_0 47 (.tmp 2) (.tmp 72) ?e19_1 (w.heap.size) 0 e9.cells.toList ?e19_2 cv ?e19_3 a5 (G.1.bz.thereF e9) ?e19_4 e9.one ?e19_8);(case e19_1=>rfl);(case e19_0=>rfl);(case e19_2=>rfl);(case e19_3=>rfl);(case e19_4=>kernel_rfl))
  intro wz a1;have a0:=G.1.out e9;rw [← a1.out] at a0;have A:=Hd a0;clear a1 a0 a5;go_wp2_with fail;exact jb rfl rfl (w.heap.size) 0 rfl e9.cells.toList _ A.1.1.rangeE underlying47 rfl (by kernel_rfl) _ rfl ⟨by rw [C.1];rfl,A.1.2⟩
end Go.Proofs.YtgcnolapjppbpaaGreatDoor
