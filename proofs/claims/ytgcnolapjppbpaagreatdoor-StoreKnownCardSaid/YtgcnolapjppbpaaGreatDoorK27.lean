/- Texts of one proof. -/
import Derived.Test.YtgcnolapjppbpaaGreatDoorK19
namespace Go.Proofs.YtgcnolapjppbpaaGreatDoor
open Go.RowKit _root_.Go.Proofs.Tryz
set_option maxRecDepth 100000
set_option maxHeartbeats 25600000
variable {w:World}{r:Nat}{v:Value}
theorem ImSt.start {w1:World}{l:List UInt8}(hi:IsR w1 r v l 0)(hb:Below (w.alloc (.cells #[(0:Int),(0:Int),.slice none 0 0] 30)).heap.size (w.alloc (.cells #[(0:Int),(0:Int),.slice none 0 0] 30)) w1)(hr:w.heap.size+1<=r)(hv:∀ b,v.ownBlock=some b->w.heap.size+1<=b/\b<w1.heap.size) :
  ImSt w ((w1.alloc (.cells #[.pointer (some ⟨r,0,none⟩),.nilIface,.bool false] 238)).alloc (.cells #[(0:Int),(0:Int),.slice none 0 0] 30)) w1.heap.size r w.heap.size (w1.heap.size+1) v ⟨l,0,0,false⟩ 0 0 (.slice none 0 0) []:=by
 have a3:w.heap.size+1<=w1.heap.size:=by have:=hb.size;rw [qj] at this;exact this
 have a4:=hi.box.lt;have a1:IsTI (w1.alloc (.cells #[.pointer (some ⟨r,0,none⟩),.nilIface,.bool false] 238)) w1.heap.size r v ⟨l,0,0,false⟩ :=
  ⟨Box.new _ _ _,hi.below (ja _ _),by omega,fun e=>by have:=(hv _ e).2;omega,fun b a2=>by have:=(hv b a2).2;simp;omega⟩
 have a0:=Box.new (w1.alloc (.cells #[.pointer (some ⟨r,0,none⟩),.nilIface,.bool false] 238)) #[(0:Int),(0:Int),.slice none 0 0] 30;rw [qj] at a0;exact ⟨a1.below (ja _ _),(((Box.new w _ _).below hb).below (ja _ _)).below (ja _ _),a0,OwnS.nil _ _,
  (((ja w _).trans (hb.mono (by simp))).trans ((ja _ _).mono (by omega))).trans ((ja _ _).mono (by rw [qj];omega)),qm _,by omega,by omega,by omega,fun k hk=>⟨by have:=(hv k hk).1;omega,(hv k hk).2⟩⟩
theorem jmJ (s:TkM)(h:s.num.2.er≠0):s.num.1=0:=by
 unfold TkM.num at h |-
 split
 .
  rename_i h0
  rw [qf h0] at h
  split
  . rename_i h1;rw [qf h1] at h;exact absurd rfl h
  . rfl
 . rfl
theorem ImSt.zero {w0:World}{t b2 b8:Nat}{x:Value}{s:TkM}{c b:Int}{l:List SesM}(h:ImSt w0 w t r b2 b8 v s c b x l) :
  Box (((w.setCell ⟨b2,0,none⟩ (0:Int)).setCell ⟨b2,1,none⟩ (0:Int)).setCell ⟨b2,2,none⟩ (.slice none 0 0)) b2 #[(0:Int),(0:Int),.slice none 0 0] 30/\Below w0.heap.size w0 (((w.setCell ⟨b2,0,none⟩ (0:Int)).setCell ⟨b2,1,none⟩ (0:Int)).setCell ⟨b2,2,none⟩ (.slice none 0 0)) :=
 ⟨((h.bz.set 0 (0:Int)).set 1 (0:Int)).set 2 (.slice none 0 0),h.bel.trans ((((Mod.set (fun i=>i=b2) w ⟨b2,0,none⟩ (0:Int) rfl).trans (Mod.set (fun i=>i=b2) _ ⟨b2,1,none⟩ (0:Int) rfl)).trans (Mod.set (fun i=>i=b2) _ ⟨b2,2,none⟩ (.slice none 0 0) rfl)).below h.bel.size (fun _ e=>e ▸ h.g))⟩
theorem ImSt.full {w0:World}{t b2 b8:Nat}{x:Value}{s:TkM}{c b:Int}{l:List SesM}(h:ImSt w0 w t r b2 b8 v s c b x l) :
  Box (((w.setCell ⟨b2,0,none⟩ c).setCell ⟨b2,1,none⟩ b).setCell ⟨b2,2,none⟩ x) b2 #[c,b,x] 30/\OwnS (((w.setCell ⟨b2,0,none⟩ c).setCell ⟨b2,1,none⟩ b).setCell ⟨b2,2,none⟩ x) w0.heap.size x l/\Below w0.heap.size w0 (((w.setCell ⟨b2,0,none⟩ c).setCell ⟨b2,1,none⟩ b).setCell ⟨b2,2,none⟩ x):=by
 have hm:=(((Mod.set (fun i=>i=b2) w ⟨b2,0,none⟩ c rfl).trans (Mod.set (fun i=>i=b2) _ ⟨b2,1,none⟩ b rfl)).trans (Mod.set (fun i=>i=b2) _ ⟨b2,2,none⟩ x rfl))
 have:=h.g;have:=h.o1;have:=h.o2;have:=h.o3;exact ⟨((h.bz.set 0 c).set 1 b).set 2 x,(h.own.base (by omega)).mod hm (fun k hk e=>by have:=(h.own.lt k hk).1;omega),h.bel.trans (hm.below h.bel.size (fun _ e=>e ▸ h.g))⟩
theorem jk3 (s:TkM):SesOk (jY s).1:=⟨qi (TkM.txt_len _) (by decide),qi (TkM.txt_len _) (by decide),TkM.num_lt _⟩
theorem jdX:∀ (n:Nat) (s:TkM),∀ x∈(sesTs n s).1,SesOk x
 | 0,s,x,h=>by cases h
 | n+1,s,x,h=>by
  rcases qH.1 h with rfl | h
  . exact jk3 s
  . exact jdX n _ x h
theorem ja8 {b:Nat}{cs:List Value}{t:TypeId}(h:Box w b cs.toArray t):w.rangeAt b 0 cs:=h.range 0 _ (fun j v hv=>by rw [qA];simpa using hv)
theorem jiy (x:Value)(l:List UInt8)(w:World)(hx:Rd w x l.length (l.map V8))(hl:l.length<=1000000000000) :
  Calls prog 91 #[x] w fun ev w'=>∃ o,ev=.returned (.tuple #[.agg #[.int .i64 (vy l).2.clock,.int .i64 (vy l).2.births,o],jm (vy l).1])/\OwnS w' w.heap.size o (vy l).2.l/\Below w.heap.size w w':=by
 have H1:=Hd (fun o=>jdV x l (w.alloc o) (hx.below (ja w o)) hl)
 obtain ⟨D,hD⟩:=Nm (vy l);rw [<- hD];unfold vy at hD;simp only at hD;have J:=Hd hD;obtain ⟨xa,xc,rfl,f0⟩:=hx;clear hl hD f0;go_enter func91,ntmps91;go_wp2_with fail;refine (H1.1 _).mono ?_;rintro ev w1 ⟨r,v,rfl,hi,hb,hr,hv⟩;rw [qj] at hr hv;have R:=Hd (ImSt.start hi hb hr hv);clear hi hb hr hv H1;go_wp2_with fail;have b8:=R.1.below (ja _ (.cells #[.pointer (some ⟨w1.heap.size+1,0,none⟩),.pointer (some ⟨w1.heap.size+1,1,none⟩)] 242));have a5:=Box.new ((w1.alloc (.cells #[.pointer (some ⟨r,0,none⟩),.nilIface,.bool false] 238)).alloc (.cells #[(0:Int),(0:Int),.slice none 0 0] 30)) #[.pointer (some ⟨w1.heap.size+1,0,none⟩),.pointer (some ⟨w1.heap.size+1,1,none⟩)] 242;rw [qj,qj] at a5;have f1:=R.1.o2;have d5:=R.1.ov;have O:=Hd (un w1.heap.size r (w1.heap.size+1) (w1.heap.size+1+1) v ⟨l,0,0,false⟩ [0,1] _ 30 242 _ b8.it b8.bs a5 (by decide) (by omega) (by omega) (by omega) (by omega) (by omega) (fun e=>by have:=(d5 _ e).2;omega) (by decide))
 have H2:=Hd b8;clear b8 a5 f1 d5 R;refine O.1.mono ?_;rintro ev w4 ⟨rfl,a9,a2,b0⟩;have a1:=H2.1.clocks (c':=(⟨l,0,0,false⟩:TkM).int.1) (b':=(⟨l,0,0,false⟩:TkM).int.2.int.1) a9 a2 b0
 change ImSt _ _ _ _ _ _ _ (⟨l,0,0,false⟩:TkM).int.2.int.2 _ _ _ _ at a1
 clear a9 a2 b0 O H2;have a0:=J.1;clear J;generalize (⟨l,0,0,false⟩:TkM).int=p at a1 a0;obtain ⟨c,s1⟩:=p;simp only at a1 a0;generalize s1.int=p at a1 a0;obtain ⟨bb,s2⟩:=p;simp only at a1 a0;have M:=Hd a1;have J:=Hd a0;generalize w1.heap.size=t at *;clear a1 a0;go_wp2_with fail;refine (vg t r v s2 w4 M.1.it).mono ?_;rintro ev w5 ⟨rfl,hi,hm⟩;have b6:=M.1.step hi hm;have a0:=J.1;clear hi hm M J;have b3:=jmJ s2;generalize s2.num=p at b6 a0 b3 |-;obtain ⟨n,s3⟩:=p;simp only at b6 a0 b3 |-;have F:=Hd b6;have c1:w5.cell? ⟨t,1,none⟩=some (jm s3.er):=b6.it.box.cell 1 _ rfl;clear b6;by_cases hbig:s3.er=0/\32<n
 .
  rw [qf hbig] at a0;obtain ⟨he,hn⟩:=hbig;rw [show jm s3.er=.nilIface by unfold jm;rw [qf he]] at c1
  have g2:(32:Int)<(n:Int):=by omega
  obtain ⟨d0,e0,d1,e1,d2,e2⟩:=B3 F.1.bz;have I:=Hd F.1.zero;subst a0;clear he hn b3 F;go_wp2;exact Jt (ja8 I.1.1) underlying30 ⟨_,rfl,OwnS.nil _ _,I.1.2⟩
 rw [qh hbig] at a0;have hn:n<=32:=by
  by_cases he:s3.er=0
  . exact Nat.le_of_not_lt (fun h=>hbig ⟨he,h⟩)
  . rw [b3 he];exact qJ _
 have W:=Hd b3;have HN:=Hd hn;have J:=Hd a0;clear hbig b3 a0;by_cases he:s3.er=0;rotate_left
 .
  rw [yJ he] at c1;have d6:=W.1 he;have a0:=J.1;rw [d6] at a0;unfold jdf at a0
  change D=(if s3.er=0 then _ else _) at a0
  rw [qh he] at a0
  change D=(s3.er,jI) at a0
  have T:=Hd he;subst a0;subst d6;clear W HN J hn he;go_wp2
  go_loopg [41] 0 (fun gk iv wr=>iv=.int .u64 0/\ImSt w wr t r w.heap.size (t+1) v s3 c bb (.slice none 0 0) [])
  case atStart=>exact ⟨rfl,F.1⟩
  case round =>
   obtain ⟨rfl,a3⟩:=hrel;have A:=Hd a3;have c2:wr.cell? ⟨t,1,none⟩=some (jm s3.er):=a3.it.box.cell 1 _ rfl;rw [yJ T.1] at c2;clear a3 c1 F;have X:=Hd (⟨c2,A.1.bz,A.1.bel,by have:=A.1.o1;have:=A.1.o2;omega,A.1.g⟩:ExI w t w.heap.size (.iface 91 s3.er) wr)
   have c5:∀ w',ExI w t w.heap.size (.iface 91 s3.er) w'->w'.cell? ⟨t,1,none⟩=some (.iface 91 s3.er):=fun w' h=>h.ce
   clear A;go_wp2_with fail;clear c2;refine qt (S:=ExI w t w.heap.size (.iface 91 s3.er)) (by kernel_rfl) X.1.drew (fun a4=>?_)
   refine Te 0 81 ?_;refine Te 1 82 ?_;refine Te 2 83 ?_;refine Te 3 84 ?_;refine Te 4 85 ?_;refine Rs 5 30 2 81 fun K hK=>?_
   rw [qf (by kernel_rfl)]
   refine zb 30 (.tmp 2) (.tmp 81) rfl w.heap.size 0 [(0:Int),(0:Int),.slice none 0 0] rfl rfl (a4.bz.there 0 3 (by decide)) (by kernel_rfl) jiX ?_
   refine hK.out _ _ a4.store (fun a6=>?_)
   clear hK K
   try simp only [Act.put]
   refine Te 6 3 ?_;refine Dn ?_;have I:=Hd a6;clear a4 a6 c5 X;generalize World.setCells _ _ _ _=wz at I |-;go_wp2;exact Jt (ja8 I.1.bz) underlying30 ⟨_,by rw [yJ T.1] <;> rfl,OwnS.nil _ _,I.1.bel⟩
 rw [show jm s3.er=.nilIface by unfold jm;rw [qf he]] at c1
 have g2:¬ (32:Int)<(n:Int):=by omega
 clear he hn;go_wp2
 go_loopg [41] n (fun gk iv wr=>∃ (k:Nat) (x:Value),gk+k=n/\iv=.int .u64 (k:Int)/\ImSt w wr t r w.heap.size (t+1) v (sesTs k s3).2 c bb x (sesTs k s3).1)
 case atStart=>exact ⟨0,_,rfl,rfl,F.1⟩
 case round =>
  obtain ⟨k,x,c6,rfl,a3⟩:=hrel;have k0:(0:Int)<=(k:Int):=by omega
  have Y:=Hd c6;have A:=Hd a3;have H:=Hd (jdz k s3);by_cases hk:k<n
  .
   have k1:(k:Int)<(n:Int):=by omega
   have HK:=Hd hk;clear a3 hk c6;have Z:=Hd (jb3 k s3);generalize sesTs k s3=p at A H Z;obtain ⟨l,sk⟩:=p;simp only at A H Z;unfold jY at H;simp only at H;have f2:t+1<wr.heap.size:=A.1.bs.lt;have f3:r<t:=A.1.o2;have c7:(wr.alloc (.cells #[(0:Int),(0:Int),(0:Int),(0:Int),(0:Int),.string ⟨#[]⟩,.string ⟨#[]⟩,.int .u64 0,(0:Int),(0:Int),(0:Int),(0:Int)] 45)).heap.size=wr.heap.size+1:=qj _ _;have c8:=A.1.below (ja _ (.cells #[(0:Int),(0:Int),(0:Int),(0:Int),(0:Int),.string ⟨#[]⟩,.string ⟨#[]⟩,.int .u64 0,(0:Int),(0:Int),(0:Int),(0:Int)] 45));have c9:Box (wr.alloc (.cells #[(0:Int),(0:Int),(0:Int),(0:Int),(0:Int),.string ⟨#[]⟩,.string ⟨#[]⟩,.int .u64 0,(0:Int),(0:Int),(0:Int),(0:Int)] 45)) wr.heap.size #[(0:Int),(0:Int),(0:Int),(0:Int),(0:Int),.string ⟨#[]⟩,.string ⟨#[]⟩,.int .u64 0,(0:Int),(0:Int),(0:Int),(0:Int)] 45:=Box.new wr _ _;have d7:∀ eb,eb=wr.heap.size->x.ownBlock≠some eb:=fun eb he e=>by have:=(A.1.own.lt _ e).2;omega
   have d8:∀ eb,eb=wr.heap.size->v.ownBlock≠some eb:=fun eb he e=>by have:=(A.1.ov _ e).2;omega
   obtain ⟨eb,b9⟩:=Nm (wr.heap.size);have P:=Hd (d7 eb b9);have H3:=Hd (d8 eb b9);have U:=Hd (And.intro c8 c9);have G:=Hd (show t+1<eb/\r<t by omega)
   clear c8 c9 d7 d8 f2 f3 A;go_wp2_with fail;rw [<- b9] at U c7 |-;have a5:=Box.new (wr.alloc (.cells #[(0:Int),(0:Int),(0:Int),(0:Int),(0:Int),.string ⟨#[]⟩,.string ⟨#[]⟩,.int .u64 0,(0:Int),(0:Int),(0:Int),(0:Int)] 45)) #[.pointer (some ⟨eb,0,none⟩),.pointer (some ⟨eb,1,none⟩),.pointer (some ⟨eb,2,none⟩),.pointer (some ⟨eb,3,none⟩),.pointer (some ⟨eb,4,none⟩)] 242;rw [c7] at a5;have a7:=U.1.1.below (ja _ (.cells #[.pointer (some ⟨eb,0,none⟩),.pointer (some ⟨eb,1,none⟩),.pointer (some ⟨eb,2,none⟩),.pointer (some ⟨eb,3,none⟩),.pointer (some ⟨eb,4,none⟩)] 242));have b1:=U.1.2.below (ja _ (.cells #[.pointer (some ⟨eb,0,none⟩),.pointer (some ⟨eb,1,none⟩),.pointer (some ⟨eb,2,none⟩),.pointer (some ⟨eb,3,none⟩),.pointer (some ⟨eb,4,none⟩)] 242));have O:=Hd (un t r eb (eb+1) v sk [0,1,2,3,4] _ 45 242 _ a7.it b1 a5 (by decide) (by have:=G.1;omega) (by have:=G.1;omega) (by have:=G.1;omega) (by have:=G.1;omega) (by omega) H3.1 (by decide))
   have Q:=Hd a7;clear a7 b1 a5 U b9 c7;refine O.1.mono ?_;rintro ev w4 ⟨rfl,a9,a2,b0⟩;have a1:=Q.1.ints a9 b0 G.1.1 P.1
   change ImSt _ _ _ _ _ _ _ sk.int.2.int.2.int.2.int.2.int.2 _ _ _ _ at a1
   change Box w4 eb (SesM.cells ⟨sk.int.1,sk.int.2.int.1,sk.int.2.int.2.int.1,sk.int.2.int.2.int.2.int.1,sk.int.2.int.2.int.2.int.2.int.1,[],[],0,0,0,0,0⟩) 45 at a2
   clear a9 b0 O Q;generalize sk.int=p at a1 a2 H;obtain ⟨n1,q2⟩:=p;simp only at a1 a2 H;generalize q2.int=p at a1 a2 H;obtain ⟨n2,q3⟩:=p;simp only at a1 a2 H;generalize q3.int=p at a1 a2 H;obtain ⟨n3,q4⟩:=p;simp only at a1 a2 H;generalize q4.int=p at a1 a2 H;obtain ⟨n4,q5⟩:=p;simp only at a1 a2 H;generalize q5.int=p at a1 a2 H;obtain ⟨n5,q6⟩:=p;simp only at a1 a2 H;have M:=Hd a1;have H4:=Hd a2;clear a1 a2;go_wp2_with fail;refine (jbP t r v q6 _ M.1.it).mono ?_;rintro ev w5 ⟨rfl,hi,hm⟩;have a3:=M.1.step hi hm;have hE:=H4.1.mod hm (by rintro (e | e) <;>(have:=G.1;omega))
   clear hi hm;generalize q6.txt=p at a3 H |-;obtain ⟨u,q7⟩:=p;simp only at a3 H |-;have F:=Hd a3;have H5:=Hd hE;clear a3 hE M H4;go_wp2_with fail;refine (jbP t r v q7 _ F.1.it).mono ?_;rintro ev w6 ⟨rfl,hi,hm⟩;have a3:=F.1.step hi hm;have hE:=H5.1.mod hm (by rintro (e | e) <;>(have:=G.1;omega))
   clear hi hm;generalize q7.txt=p at a3 H |-;obtain ⟨lb,q8⟩:=p;simp only at a3 H |-;have H6:=Hd a3;have V:=Hd hE;clear a3 hE F H5;have k5:=V.1.cell 5 _ rfl;have f5:=V.1.free 5;have b2:Box (w6.setCell ⟨eb,5,none⟩ (.string (SB u))) eb (SesM.cells ⟨n1,n2,n3,n4,n5,u,[],0,0,0,0,0⟩) 45:=V.1.set 5 _;have b7:=H6.1.mod (Mod.set (fun i=>i=eb) w6 ⟨eb,5,none⟩ (.string (SB u)) rfl) G.1.1 P.1
   have k6:=b2.cell 6 _ rfl;have f6:=b2.free 6;have H7:=Hd (b2.set 6 _:Box ((w6.setCell ⟨eb,5,none⟩ (.string (SB u))).setCell ⟨eb,6,none⟩ (.string (SB lb))) eb (SesM.cells ⟨n1,n2,n3,n4,n5,u,lb,0,0,0,0,0⟩) 45);have H0:=Hd (b7.mod (Mod.set (fun i=>i=eb) (w6.setCell ⟨eb,5,none⟩ (.string (SB u))) ⟨eb,6,none⟩ (.string (SB lb)) rfl) G.1.1 P.1)
   clear b2 b7 V H6;go_wp2_with fail;refine (vg t r v q8 _ H0.1.it).mono ?_;rintro ev w7 ⟨rfl,hi,hm⟩;have a3:=H0.1.step hi hm;have hE:=H7.1.mod hm (by rintro (e | e) <;>(have:=G.1;omega))
   clear hi hm k5 f5 k6 f6 H0 H7;generalize q8.num=p at a3 H |-;obtain ⟨sc,q9⟩:=p;simp only at a3 H |-;have k7:=hE.cell 7 _ rfl;have f7:=hE.free 7;have H8:=Hd (hE.set 7 _:Box (w7.setCell ⟨eb,7,none⟩ (.int .u64 (sc:Int))) eb (SesM.cells ⟨n1,n2,n3,n4,n5,u,lb,sc,0,0,0,0⟩) 45);have B:=Hd (a3.mod (Mod.set (fun i=>i=eb) w7 ⟨eb,7,none⟩ (.int .u64 (sc:Int)) rfl) G.1.1 P.1)
   have f4:eb<w7.heap.size:=hE.lt;clear hE a3;go_wp2_with fail;clear k7 f7;have a7:=B.1.below (ja _ (.cells #[.pointer (some ⟨eb,8,none⟩),.pointer (some ⟨eb,9,none⟩),.pointer (some ⟨eb,10,none⟩),.pointer (some ⟨eb,11,none⟩)] 242));have b1:=H8.1.below (ja _ (.cells #[.pointer (some ⟨eb,8,none⟩),.pointer (some ⟨eb,9,none⟩),.pointer (some ⟨eb,10,none⟩),.pointer (some ⟨eb,11,none⟩)] 242));have a5:=Box.new (w7.setCell ⟨eb,7,none⟩ (.int .u64 (sc:Int))) #[.pointer (some ⟨eb,8,none⟩),.pointer (some ⟨eb,9,none⟩),.pointer (some ⟨eb,10,none⟩),.pointer (some ⟨eb,11,none⟩)] 242;rw [show (w7.setCell ⟨eb,7,none⟩ (.int .u64 (sc:Int))).heap.size=w7.heap.size by simp] at a5
   have O:=Hd (un t r eb w7.heap.size v q9 [8,9,10,11] _ 45 242 _ a7.it b1 a5 (show ∀ o ∈ [8,9,10,11],o<12 by decide) (by have:=G.1;omega) (by have:=G.1;omega) (by have:=G.1;omega) (by have:=G.1;omega) (by omega) H3.1 (by decide))
   have Q:=Hd a7;clear a7 b1 a5 H8 B f4;refine O.1.mono ?_;rintro ev w8 ⟨rfl,a9,a2,b0⟩;have a1:=Q.1.ints a9 b0 G.1.1 P.1
   change ImSt _ _ _ _ _ _ _ q9.int.2.int.2.int.2.int.2 _ _ _ _ at a1
   change Box w8 eb (SesM.cells ⟨n1,n2,n3,n4,n5,u,lb,sc,q9.int.1,q9.int.2.int.1,q9.int.2.int.2.int.1,q9.int.2.int.2.int.2.int.1⟩) 45 at a2
   clear a9 b0 O Q;generalize q9.int=p at a1 a2 H;obtain ⟨n6,q10⟩:=p;simp only at a1 a2 H;generalize q10.int=p at a1 a2 H;obtain ⟨n7,q11⟩:=p;simp only at a1 a2 H;generalize q11.int=p at a1 a2 H;obtain ⟨n8,q12⟩:=p;simp only at a1 a2 H;generalize q12.int=p at a1 a2 H;obtain ⟨n9,q13⟩:=p;simp only at a1 a2 H;obtain ⟨y,hy⟩:∃ y:SesM,y=⟨n1,n2,n3,n4,n5,u,lb,sc,n6,n7,n8,n9⟩:=⟨_,rfl⟩;rw [<- hy] at a2 H;clear hy;have H9:=Hd (Box.rangeS a2);have s2:w8.cell? ⟨t+1,2,none⟩=some x:=a1.bs.cell 2 _ rfl;have E:=Hd a1;clear a1 a2
   go_wp2_with (with_reducible refine Lk H9.1 underlying45 ?_)
   intro cv e4;have ecv:cv=y.cells:=by rw [e4.out]
   subst ecv;clear e4
   go_wp2_with (refine Bs (vL y w8) ?_)
   intro w9 d3;have e5:Below w8.heap.size w8 w9:=by rw [d3.out];exact ja _ _
   have Ha:=Hd (show ∀ j u,y.cells.toList[j]?=some u->w9.cell? ((⟨w8.heap.size,0,none⟩:Addr).add j)=some u by rw [d3.out];exact xu w8 y _)
   have N:=Hd (E.1.below e5);have Hb:=Hd (show l.length+1<=1256584717458 by have:=Z.1;have:=HK.1;have:=HN.1;omega)
   have Hc:=Hd (show t+1+1<=w9.heap.size by have:=N.1.bs.lt;omega)
   clear d3 e5 E H9 s2
   go_wp2_with (at_builtin;refine jag rfl _ _ rfl (t+1+1) _ l rfl N.1.own ⟨w8.heap.size,0,none⟩ 1 y rfl Ha.1 Hb.1 Hc.1 ?_)
   intro x' w10 b4 e6 _;obtain ⟨va,vc,e7,_⟩:=b4.slice;rw [qd,qx] at e7;subst e7;have a8:=N.1.grown e6;have d4:Mod (fun i=>t+1+1<=i) w9 w10:=⟨a8.os,a8.tape,a8.output,a8.size,fun i _ hn=>a8.block i (by omega)⟩
   have b5:=N.1.bs.mod d4 (by omega)
   have g2:w10.cell? ⟨t+1,2,none⟩=some x:=b5.cell 2 _ rfl;have e2:=b5.free 2;have Hf:=Hd (N.1.put a8 b4);clear b4 e6 a8 d4 b5 N Ha Hb Hc;go_wp2
   go_roundg (n-(k+1))
   case measure=>have:=Y.1;have:=HK.1;omega
   case rel=>exact ⟨k+1,_,by have:=Y.1;have:=HK.1;omega,by go_num,by rw [H.1];exact Hf.1⟩
  .
   have f8:k=n:=by omega
   subst f8;have k1:¬ (k:Int)<(k:Int):=by omega
   clear c6 hk a3 H Y W HN F c1;have a0:=J.1;clear J;have c0:=jdX k s3;generalize sesTs k s3=p at A a0 c0;obtain ⟨L,sN⟩:=p;simp only at A a0 c0;have He:=Hd c0;clear c0;have c2:wr.cell? ⟨t,1,none⟩=some (jm sN.er):=A.1.it.box.cell 1 _ rfl;unfold jdf at a0;by_cases he:sN.er=0;rotate_left
   .
    rw [qh he] at a0;rw [yJ he] at c2;have T:=Hd he;subst a0;clear he;have X:=Hd (⟨c2,A.1.bz,A.1.bel,by have:=A.1.o1;have:=A.1.o2;omega,A.1.g⟩:ExI w t w.heap.size (.iface 91 sN.er) wr)
    have c5:∀ w',ExI w t w.heap.size (.iface 91 sN.er) w'->w'.cell? ⟨t,1,none⟩=some (.iface 91 sN.er):=fun w' h=>h.ce
    clear A;go_wp2_with fail;clear c2;refine qt (S:=ExI w t w.heap.size (.iface 91 sN.er)) (by kernel_rfl) X.1.drew (fun a4=>?_)
    refine Te 0 81 ?_;refine Te 1 82 ?_;refine Te 2 83 ?_;refine Te 3 84 ?_;refine Te 4 85 ?_;refine Rs 5 30 2 81 fun K hK=>?_
    rw [qf (by kernel_rfl)]
    refine zb 30 (.tmp 2) (.tmp 81) rfl w.heap.size 0 [(0:Int),(0:Int),.slice none 0 0] rfl rfl (a4.bz.there 0 3 (by decide)) (by kernel_rfl) jiX ?_
    refine hK.out _ _ a4.store (fun a6=>?_)
    clear hK K
    try simp only [Act.put]
    refine Te 6 3 ?_;refine Dn ?_;have I:=Hd a6;clear a4 a6 c5 X;generalize World.setCells _ _ _ _=wz at I |-;go_wp2;exact Jt (ja8 I.1.bz) underlying30 ⟨_,by rw [yJ T.1] <;> rfl,OwnS.nil _ _,I.1.bel⟩
   rw [qf he] at a0;rw [show jm sN.er=.nilIface by unfold jm;rw [qf he]] at c2
   have c3:=A.1.it.box.cell 0 _ rfl;clear he;go_wp2_with fail;refine (jfD r sN.k v sN.l _ A.1.it.rd).mono ?_;rintro ev w7 ⟨rfl,e8⟩;have B:=Hd (A.1.below e8);clear c2 c3 e8 A;by_cases hk:sN.k<sN.l.length
   .
    rw [qf hk,yJ (by decide:(3:Int)≠0)]
    rw [qf hk] at a0;subst a0;clear hk;obtain ⟨d0,e0,d1,e1,d2,e2⟩:=B3 B.1.bz;have I:=Hd B.1.zero;clear B;go_wp2;exact Jt (ja8 I.1.1) underlying30 ⟨_,rfl,OwnS.nil _ _,I.1.2⟩
   rw [qh hk,show jm 0=.nilIface from rfl]
   rw [qh hk] at a0;clear hk;have c4:w7.cell? ⟨t,2,none⟩=some (.bool sN.big):=B.1.it.box.cell 2 _ rfl
   cases hbg:sN.big
   rotate_left
   .
    rw [hbg] at c4 a0;rw [qf rfl] at a0;subst a0;clear hbg;obtain ⟨d0,e0,d1,e1,d2,e2⟩:=B3 B.1.bz;have I:=Hd B.1.zero;clear B;go_wp2;exact Jt (ja8 I.1.1) underlying30 ⟨_,rfl,OwnS.nil _ _,I.1.2⟩
   rw [hbg] at c4 a0;rw [qh (by decide)] at a0
   have J:=Hd a0;clear a0 hbg;obtain ⟨s0,s1,s2⟩:=C3 B.1.bs;obtain ⟨xa,xc,rfl,_⟩:=B.1.own.slice;go_wp2_with fail;refine (jcL ⟨c,bb,L⟩ _ w7 B.1.own.rd He.1).mono ?_;rintro ev w8 ⟨rfl,e9⟩;have E:=Hd (B.1.below e9);have a0:=J.1;clear s0 s1 s2 c4 e9 B J He;generalize yr ⟨c,bb,L⟩=C at a0 |-
   cases C with
   | some f =>
    rw [qh (by simp)] at a0
    subst a0;rw [show jkQ (some f)=.iface 99 (.agg #[(24:Int),f]) from rfl]
    obtain ⟨d0,e0,d1,e1,d2,e2⟩:=B3 E.1.bz;have I:=Hd E.1.zero;clear E;go_wp2;exact Jt (ja8 I.1.1) underlying30 ⟨_,rfl,OwnS.nil _ _,I.1.2⟩
   | none =>
    rw [qf rfl] at a0;subst a0;rw [show jkQ none=.nilIface from rfl]
    obtain ⟨s0,s1,s2⟩:=C3 E.1.bs;have I:=Hd E.1.full;obtain ⟨d0,e0,d1,e1,d2,e2⟩:=B3 E.1.bz;clear E;go_wp2;exact Jt (ja8 I.1.1) underlying30 ⟨_,rfl,I.1.2.1,I.1.2.2⟩
end Go.Proofs.YtgcnolapjppbpaaGreatDoor
