/- Texts of one proof. -/
import Derived.Test.YtgcnolapjppbpaaGreatDoorK26
namespace Go.Proofs.YtgcnolapjppbpaaGreatDoor
open Go.RowKit _root_.Go.Proofs.Tryz
set_option maxRecDepth 100000
set_option maxHeartbeats 25600000
theorem jaY (d:DiskM)(rp:Nat)(G:Nat->Prop)(at_ n:Int)(w:World)(h:IsRef w d rp G)(hN:d.strs.length<=4096)(ha:I64 at_)(hn:I64 n) :
  Calls prog 138 #[.pointer (some ⟨rp,0,none⟩),at_,n] w fun e w'=>e=.returned (.bool (decide (xp d.strs.length at_ n)))/\w=w':=by
 obtain ⟨a1,a2⟩:=ha;obtain ⟨a3,a4⟩:=hn;have c0:w.cell? ⟨rp,0,none⟩=some (.int .i64 (d.strs.length:Int)):=by
  obtain ⟨tv,h1,_⟩:=h;exact h1.cell 0 _ rfl
 obtain ⟨N,a0⟩:=Nm (d.strs.length);rw [<- a0] at c0 hN |-;clear h a0;by_cases c1:0<=at_
 .
  by_cases c2:1<=n
  .
   by_cases c3:at_<=(N:Int)
   .
    by_cases c4:n<=(N:Int)
    .
     have hd:decide (xp N at_ n)=decide (at_+1+2*n<=(N:Int)):=by
      apply decide_eq_decide.2;unfold xp;omega
     rw [hd];clear hd;go_enter func138,ntmps138;go_wp2;go_ret;exact ⟨rfl,rfl⟩
    .
     have hd:decide (xp N at_ n)=false:=by rw [qI];unfold xp;omega
     have c4':decide (n<=(N:Int))=false:=by simpa using c4
     rw [hd];clear hd;go_enter func138,ntmps138;go_wp2;go_ret;exact ⟨rfl,rfl⟩
   .
    have hd:decide (xp N at_ n)=false:=by rw [qI];unfold xp;omega
    have c3':decide (at_<=(N:Int))=false:=by simpa using c3
    rw [hd];clear hd;go_enter func138,ntmps138;go_wp2;go_ret;exact ⟨rfl,rfl⟩
  .
   have hd:decide (xp N at_ n)=false:=by rw [qI];unfold xp;omega
   have c2':decide (1<=n)=false:=by simpa using c2
   rw [hd];clear hd;go_enter func138,ntmps138;go_wp2;go_ret;exact ⟨rfl,rfl⟩
 .
  have hd:decide (xp N at_ n)=false:=by rw [qI];unfold xp;omega
  have c1':decide (0<=at_)=false:=by simpa using c1
  rw [hd];clear hd;go_enter func138,ntmps138;go_wp2;go_ret;exact ⟨rfl,rfl⟩
theorem ut (B:Nat)(sv:Value)(xs:List UInt8)(m:UInt32)(w:World)(ho:w.ownsRow B 5 1 sv xs.length (xs.map V8))(hB:B<=w.heap.size)(hx:xs.length<=1000) :
  Calls prog 167 #[sv,.int .u32 (I32 m)] w fun e w'=>∃ sv',e=.returned sv'/\w'.ownsRow B 5 1 sv' (xs.length+4) ((xs++le m.toNat 4).map V8)/\Below B w w':=by
 obtain ⟨sa,sc,rfl,_⟩:=jP ho;have E:=Hd (by rw [jhA];rfl:(#[.int .u8 (I32 m % 256),.int .u8 (I32 m / 256 % 256),.int .u8 (I32 m / 65536 % 256),.int .u8 (I32 m / 16777216 % 256)]:Array Value).toList=(le m.toNat 4).map V8)
 have a1:=fun ob=>ja w ob
 have C:=Hd (fun ob=>jq ho (a1 ob))
 have H:=Hd (fun ob=>qi hB (a1 ob).size)
 have A:=Hd (fun ob=>(a1 ob).mono hB)
 clear ho a1;go_enter func167,ntmps167
 go_wp2_with (at_builtin;refine jmH rfl _ _ rfl B _ _ _ rfl (C.1 _) ⟨w.heap.size,0,none⟩ 4 4 _ rfl (by rw [qE,jC]) (jfK _ _ _ _ E.1) (jlq _) (by omega) (H.1 _) ?_)
 intro v' w1 a0 a3 _;have a4:=(A.1 (.cells #[.int .u8 (I32 m % 256),.int .u8 (I32 m / 256 % 256),.int .u8 (I32 m / 65536 % 256),.int .u8 (I32 m / 16777216 % 256)] 5)).trans (je a3 (H.1 _) (fun k hk=>((C.1 (.cells #[] 5)).lt k hk).1))
 rw [<- qM] at a0;have D:=Hd (And.intro a0 a4);clear a0 a4 a3 C A;go_wp2;go_ret;exact ⟨_,rfl,D.1.1,D.1.2⟩
theorem jk8 (n:Nat)(w:World):(convert 3 87 (n:Int)).run prog w=.ok (.int .u32 (I32 (UInt32.ofNat n))) w:=by
 have h1:I32 (UInt32.ofNat n)=(n:Int) % 4294967296:=by
  show ((n % 2 ^ 32:Nat):Int)=_;omega
 rw [run_convert_int (P:=prog) w 3 87 .i64 (n:Int) (by kernel_rfl) (by kernel_rfl),show prog.intKind 87=.u32 by kernel_rfl,jdI,h1]
theorem uG (e:UInt32)(v:Value)(l:List UInt8)(w:World)(hv:Rd w v l.length (l.map V8)) :
  Calls prog 143 #[.int .u32 (I32 e),v] w fun r w'=>r=.returned (.string (SB (yR e.toNat l)))/\Below w.heap.size w w':=by
 obtain ⟨va,vc,rfl⟩:∃ a c,v=.slice a l.length c:=by obtain ⟨a,c,h,_⟩:=hv;exact ⟨a,c,h⟩
 obtain ⟨lu,a4⟩:=Nm (UInt32.ofNat l.length);have b3:=jk8 l.length;rw [<- a4] at b3;have a8:le lu.toNat 4=le l.length 4:=by rw [a4];exact jll _
 obtain ⟨sv,a5⟩:=Nm (SB (yR e.toNat l));rw [<- a5];have D:=Hd a5;have L:=Hd hv;have E:=Hd a8;have F:=Hd (ut w.heap.size (.slice none 0 0) [] e w (ws _ _ _ _) (qm _) (by simp))
 clear hv a4 a8 a5;go_enter func143,ntmps143;go_wp2_with fail;refine F.1.mono ?_;rintro r w1 ⟨s1,rfl,a9,a6⟩;have A:=Hd a6;have G:=Hd (ut w.heap.size s1 (le e.toNat 4) lu w1 (by simpa [jC] using a9) a6.size (by simp [jC]))
 clear a9 a6 F;go_wp2_with fail;refine G.1.mono ?_;rintro r w2 ⟨s2,rfl,a7,b0⟩;rw [E.1] at a7;have a0:=A.1.trans b0;have B:=Hd a0;have H:=Hd (jao (.slice va l.length vc) l w2 (L.1.below a0));have I:=Hd (ut w.heap.size s2 (le e.toNat 4++le l.length 4) (crc l) w2 (by simpa [jC] using a7) a0.size (by simp [jC]))
 clear a7 b0 a0 G A;go_wp2_with fail;refine H.1.mono ?_;rintro r w3 ⟨rfl,rfl⟩;go_wp2_with fail;refine I.1.mono ?_;rintro r w4 ⟨s4,rfl,a1,b1⟩;have a2:=B.1.trans b1;have a1:w4.ownsRow w.heap.size 5 1 s4 (vP e.toNat l).length ((vP e.toNat l).map V8):=by
  have:=a1;rw [xD]
  simpa [vP,jC] using this
 have H:=Hd (jao s4 (vP e.toNat l) w4 (js a1));have C:=Hd a2;have J:=Hd (ut w.heap.size s4 (vP e.toNat l) (crc (vP e.toNat l)) w4 a1 a2.size (by rw [xD];omega))
 clear a1 b1 a2 I B;go_wp2_with fail;refine H.1.mono ?_;rintro r w5 ⟨rfl,rfl⟩;go_wp2_with fail;refine J.1.mono ?_;rintro r w6 ⟨s6,rfl,a3,b2⟩;have K:=Hd (C.1.trans b2);have a3:w6.ownsRow w.heap.size 5 1 s6 (yR e.toNat l).length ((yR e.toNat l).map V8):=by
  have:=a3;rw [yY];rw [xD] at this;exact this
 have kc:=uP (yR e.toNat l) (js a3) rfl;rw [<- D.1] at kc;clear a3 b2 J C;go_wp2;go_ret;exact ⟨rfl,K.1⟩
theorem jan (at_ n:Int)(e:UInt32)(w:World)(ha:0<=at_/\at_<=4096)(hn:0<=n/\n<=4096) :
  Calls prog 142 #[at_,n,.int .u32 (I32 e)] w fun r w'=>r=.returned (jF at_ n e.toNat)/\w=w':=by
 obtain ⟨r2,a0⟩:=Nm (e.toNat % 2);have a2:(I32 e).tmod 2=(r2:Int):=by rw [show I32 e=(e.toNat:Int) from rfl,kw (by omega)];omega
 have hf:jF at_ n e.toNat=at_+1+(r2:Int)*n:=by unfold jF;rw [a0]
 rw [hf];have a1:r2=0\/r2=1:=by omega
 clear hf a0
 rcases a1 with rfl | rfl
 .
  rw [show at_+1+((0:Nat):Int)*n=at_+1 by simp]
  go_enter func142,ntmps142;go_wp2;go_ret;exact ⟨by simp,rfl⟩
 .
  rw [show at_+1+((1:Nat):Int)*n=at_+1+n by simp]
  go_enter func142,ntmps142;go_wp2;go_ret;exact ⟨by simp,rfl⟩
theorem vR (l:List UInt8)(i:Nat)(w:World)(h:i+4<=l.length)(hi:i<=100) :
  Calls prog 140 #[.string (SB l),(i:Int)] w fun e w'=>e=.returned (.int .u32 ((yA l i:Nat):Int))/\∃ k,w'=w.drewN k:=by
 obtain ⟨c0,a1⟩:=Nm ((l.getD i 0).toNat);obtain ⟨c1,a2⟩:=Nm ((l.getD (i+1) 0).toNat);obtain ⟨c2,a3⟩:=Nm ((l.getD (i+2) 0).toNat);obtain ⟨c3,a4⟩:=Nm ((l.getD (i+3) 0).toNat);have a0:∀ i:Nat,(l.getD i 0).toNat<256:=fun i=>ka _
 have h0:c0<256:=by rw [a1];exact a0 _
 have h1:c1<256:=by rw [a2];exact a0 _
 have h2:c2<256:=by rw [a3];exact a0 _
 have h3:c3<256:=by rw [a4];exact a0 _
 have w1:IntKind.i64.wrap ((i:Int)+1)=((i+1:Nat):Int):=by simp [IntKind.wrap,IntKind.bits,IntKind.signed];omega
 have w2:IntKind.i64.wrap ((i:Int)+2)=((i+2:Nat):Int):=by simp [IntKind.wrap,IntKind.bits,IntKind.signed];omega
 have w3:IntKind.i64.wrap ((i:Int)+3)=((i+3:Nat):Int):=by simp [IntKind.wrap,IntKind.bits,IntKind.signed];omega
 obtain ⟨i1,a5⟩:=Nm (i+1);obtain ⟨i2,a6⟩:=Nm (i+2);obtain ⟨i3,a7⟩:=Nm (i+3);have j0:∀ w',(Instr.index 9 (.string (SB l)) (i:Int)).run prog w'=.ok (.int .u8 (c0:Int)) w':=fun w'=>by rw [a1];exact xL w' l i (by omega)
 have j1:∀ w',(Instr.index 9 (.string (SB l)) (i1:Int)).run prog w'=.ok (.int .u8 (c1:Int)) w':=fun w'=>by rw [a2,<- a5];exact xL w' l i1 (by omega)
 have j2:∀ w',(Instr.index 9 (.string (SB l)) (i2:Int)).run prog w'=.ok (.int .u8 (c2:Int)) w':=fun w'=>by rw [a3,<- a6];exact xL w' l i2 (by omega)
 have j3:∀ w',(Instr.index 9 (.string (SB l)) (i3:Int)).run prog w'=.ok (.int .u8 (c3:Int)) w':=fun w'=>by rw [a4,<- a7];exact xL w' l i3 (by omega)
 rw [<- a5] at w1;rw [<- a6] at w2;rw [<- a7] at w3;have b0:=jm6 c0 c1 c2 c3 h0 h1 h2 h3;have a8:c0+256*c1+65536*c2+16777216*c3=yA l i:=by rw [a1,a2,a3,a4];rfl
 obtain ⟨s,hs⟩:=Nm (yA l i);rw [a8,<- hs] at b0;rw [<- hs];obtain ⟨st,a9⟩:=Nm (SB l);rw [<- a9] at j0 j1 j2 j3 |-;clear hs a8 a1 a2 a3 a4 a0 a5 a6 a7 h hi a9;go_enter func140,ntmps140;go_wp2
 go_quiet (fail)
 go_wp2;go_ret;exact ⟨rfl,_,rfl⟩
theorem jnz (a:Option Addr)(n cap k e:Nat)(hk:k<=e)(he:e<=cap)(w:World):(Instr.slice 92 (.slice a n cap) (some (.int .i64 (k:Int))) (some (.int .i64 (e:Int))) none).run prog w=.ok (.slice (if cap=k then a else a.map (·.add k)) (e-k) (cap-k)) w:=by
 have hx:prog.elem 92=5:=by unfold Program.elem;rw [underlying92]
 have a0:(sizeOf 5).run prog w=.ok 1 w:=by
  obtain ⟨i0,hi,a2,a1,a3⟩:=wI uE
  simp [sizeOf,typeInfo,hi,a1]
 rw [run_slice_lh w 92 a n cap (by rw [hx];exact underlying92) .i64 .i64 (k:Int) (e:Int) (by omega) (by omega) (by omega),hx,a0]
 simp [Result.andThen,sliced]
theorem jmc {w:World}{a:Option Addr}{n cap k e:Nat}{xs:List Value}(h:Rd w (.slice a n cap) n xs)(hk:k<=e)(he:e<=n)(hx:xs.length<=n):Rd w (.slice (if cap=k then a else a.map (·.add k)) (e-k) (cap-k)) (e-k) ((xs.drop k).take (e-k)):=by
 have hc:n<=cap:=by obtain ⟨_,_,g1,g2,_⟩:=h;injection g1 with _ _ g3;omega
 have:=xR h (k:=k) (by omega) hx
 unfold xP at this;exact this.cut (by omega) (e-k)
theorem jeG (d:DiskM)(rp:Nat)(G:Nat->Prop)(at_ n:Int)(e:UInt32)(v:Value)(l:List UInt8)(w:World)(h:IsRef w d rp G)(hN:d.strs.length<=4096)(hv:Rd w v l.length (l.map V8))(hx:0<l.length->∀ k,v.ownBlock=some k->¬ G k)(ht:d.trail.length<=90000000000)(ha:I64 at_)(hn:I64 n)(hl:l.length<=140737488355000) :
  Calls prog 111 #[.pointer (some ⟨rp,0,none⟩),at_,n,.int .u32 (I32 e),v] w fun r w'=>r=.returned (.int .i64 (jR d at_ n e.toNat l).2)/\∃ G',IsRef w' (jR d at_ n e.toNat l).1 rp G'/\Mod G w w'/\∀ k,G' k->G k\/w.heap.size<=k:=by
 obtain ⟨va,vc,rfl⟩:∃ a c,v=.slice a l.length c:=by obtain ⟨a,c,h,_⟩:=hv;exact ⟨a,c,h⟩
 have C:=Hd (jaY d rp G at_ n w h hN ha hn);have L:=Hd h;have S:=Hd hv;have T:=Hd hx;by_cases hm:xp d.strs.length at_ n
 .
  rw [qz hm] at C;have c4:=hm;unfold xp at c4;obtain ⟨m1,m2,m3⟩:=c4;have e7:n<=4096:=by omega
  have e8:at_<=4096:=by omega
  by_cases h3:n*256<(l.length:Int)
  .
   have e1:jR d at_ n e.toNat l=(d,3):=by unfold jR;rw [qf hm,qf h3]
   rw [e1];clear h hv hx ha hn hN m3 hm e1;go_enter func111,ntmps111;go_wp2_with fail;refine C.1.mono ?_;rintro r w1 ⟨rfl,rfl⟩;go_wp2;go_ret;exact ⟨rfl,G,L.1,Mod.refl _ _,fun k hk=>.inl hk⟩
  .
   have e9:decide (n*256<(l.length:Int))=false:=by simp;omega
   obtain ⟨fb,b1⟩:=Nm (jF at_ n e.toNat);have c5:jR d at_ n e.toNat l=if (jr d fb (jk l.length l)).2=0 then (jr d fb (jk l.length l)).1.write at_ (SB (yR e.toNat l)) else jr d fb (jk l.length l):=by
    unfold jR;rw [qf hm,qh h3,b1]
   have I:=Hd c5;have E:=Hd (show l.length<=1048576 by omega)
   have J:=Hd (jan at_ n e w (by omega) (by omega))
   rw [<- b1] at J;have a1:0<=fb/\fb<=10000:=by
    rw [b1];unfold jF;have:e.toNat % 2=0\/e.toNat % 2=1:=by omega
    rcases this with h2 | h2 <;> rw [h2] <;> simp <;> omega
   have d7:=a1.1;have U:=Hd a1.2;have f0:l.length<=vc:=by obtain ⟨_,_,g1,g2,_⟩:=hv;injection g1 with _ _ g3;omega
   clear h hv hx ha hn hN m3 hm b1 c5 h3 a1;go_enter func111,ntmps111;go_wp2_with fail;refine C.1.mono ?_;rintro r w1 ⟨rfl,rfl⟩;go_wp2_with fail;refine J.1.mono ?_;rintro r w1 ⟨rfl,rfl⟩;go_wp2_with fail;have c6:∃ (i:Nat) (b:Int) (d':DiskM) (G':Nat->Prop),l.length=l.length-i*256/\(Value.int .i64 fb)=.int .i64 b/\(Value.int .i64 0)=.int .i64 ((i*256:Nat):Int)/\IsRef w d' rp G'/\Mod G w w/\(∀ k,G' k->G k\/w.heap.size<=k) /\
     jr d fb (jk l.length l)=jr d' b (jk (l.drop (i*256)).length (l.drop (i*256)))/\d'.trail.length<=d.trail.length+i/\b=fb+i/\i<=l.length :=
    ⟨0,fb,d,G,by omega,rfl,rfl,L.1,Mod.refl _ _,fun k hk=>.inl hk,by simp,qm _,by simp,qJ _⟩
   have K:=Hd c6;clear c6
   go_loopg [11,12] l.length (fun gk bv iv wr=>∃ (i:Nat) (b:Int) (d':DiskM) (G':Nat->Prop),gk=l.length-i*256/\bv=.int .i64 b/\iv=.int .i64 ((i*256:Nat):Int)/\IsRef wr d' rp G'/\Mod G w wr/\(∀ k,G' k->G k\/w.heap.size<=k) /\
     jr d fb (jk l.length l)=jr d' b (jk (l.drop (i*256)).length (l.drop (i*256)))/\d'.trail.length<=d.trail.length+i/\b=fb+i/\i<=l.length)
   case atStart=>exact K.1
   case round =>
    clear K;obtain ⟨i,b,d',G',c0,rfl,rfl,b2,a2,b3,a0,c7,c1,c8⟩:=hrel;have V:=Hd c0;have W:=Hd b2;have H:=Hd a2;have A:=Hd b3;have M:=Hd a0;have H6:=Hd (show 0<l.length->∀ k,(Value.slice va l.length vc).ownBlock=some k->¬ G' k from fun h0 k hk hf=>by
     rcases b3 k hf with h1 | h1
     . exact T.1 h0 k hk h1
     . have:=S.1.blk (by rw [qE];exact h0) k hk;omega)
    have b4:=S.1.mod0 a2 (fun h0 k hk=>T.1 (by rw [qE] at h0;exact h0) k hk)
    obtain ⟨lo,a6⟩:=Nm (i*256);rw [<- a6];have f1:0<=b:=by omega
    by_cases hq:lo<l.length
    .
     have d9:(lo:Int)<(l.length:Int):=by omega
     have e4:(0:Int)<=(lo:Int):=by omega
     obtain ⟨en,e0⟩:=Nm (min (lo+256) l.length);have e2:∀ ts t w',(Builtin.min_ ts t #[((lo:Int)+256:Int),(l.length:Int)]).run prog w'=.ok (en:Int) w':=fun ts t w'=>by
      rw [pL]
      congr 2
      by_cases h:(l.length:Int)<(lo:Int)+256
      . rw [qf h];omega
      . rw [qh h];omega
     have c9:=jnz va l.length vc lo en (by omega) (by omega)
     have b5:=jmc b4 (k:=lo) (e:=en) (by omega) (by omega) (by rw [qE];exact qm _)
     rw [<- wW,<- pu] at b5;obtain ⟨q,a7⟩:=Nm (l.drop lo);rw [<- a7] at b5;have c2:q.length=l.length-lo:=by rw [a7,qn]
     have a9:q ≠ []:=fun e=>by rw [e] at c2;simp at c2;omega
     have d0:(q.take (en-lo)).length=en-lo:=by rw [qr];omega
     have kc:=uP (q.take (en-lo)) b5 d0.symm;obtain ⟨ma,d1⟩:=Nm ((if vc=lo then va else va.map (·.add lo)))
     rw [<- d1] at c9 kc;have a8:q.take 256=q.take (en-lo):=by
      rcases Nat.le_total q.length 256 with h1 | h1
      . rw [ql h1,ql (by omega)]
      . rw [show en-lo=256 by omega]
     have d3:q.drop 256=l.drop ((i+1)*256):=by rw [a7,wR];congr 1;omega
     rw [a6.symm,<- a7] at a0;have a3:(d'.write b (SB (q.take (en-lo)))).2=0->jr d fb (jk l.length l)=jr (d'.write b (SB (q.take (en-lo)))).1 (b+1) (jk (l.drop ((i+1)*256)).length (l.drop ((i+1)*256))):=fun h0=>by
      rw [a0,show jk q.length q=jk (q.length-1+1) q by rw [kx (by omega)],jcI _ _ _ _ a9 (by rw [a8];exact h0),a8,d3]
      rw [jat (q.length-1) (l.drop ((i+1)*256)).length (l.drop ((i+1)*256)) (by rw [qn];omega) (qm _)]
     have a4:(d'.write b (SB (q.take (en-lo)))).2≠0->jR d at_ n e.toNat l=d'.write b (SB (q.take (en-lo))):=fun h0=>by
      have:jr d fb (jk l.length l)=d'.write b (SB (q.take (en-lo))):=by
       rw [a0,show jk q.length q=jk (q.length-1+1) q by rw [kx (by omega)],jcv _ _ _ _ a9 (by rw [a8];exact h0),a8]
      rw [I.1,this,qh h0]
     have b0:=(d'.write_trail b (SB (q.take (en-lo)))).1;have a5:=vQ d' b (SB (q.take (en-lo)));have d4:(SB (q.take (en-lo))).size<=9223372036854775807:=by rw [SB_size];omega
     have B:=Hd (vb d' rp G' b (SB (q.take (en-lo))) wr b2 (by have:=E.1;omega) d4)
     obtain ⟨tx,d5⟩:=Nm (SB (q.take (en-lo)));obtain ⟨d2,b6⟩:=Nm ((d'.write b tx).1);obtain ⟨er,b7⟩:=Nm ((d'.write b tx).2);rw [<- d5] at kc b0 a5 B a3 a4;rw [<- b6,<- b7] at B a3;rw [<- b6] at b0;rw [<- b7] at a5 a4;have N:=Hd a3;have O:=Hd a4;have X:=Hd (show d2.trail.length<=d.trail.length+(i+1) by omega)
     have Y:=Hd b6;have Z:=Hd b7;have H0:=Hd a6;have H1:=Hd c1;have e3:b<1000000000:=by have:=E.1;have:=U.1;omega
     have e5:(lo:Int)<=(en:Int):=by omega
     have e6:(en:Int)<=(vc:Int):=by omega
     have d8:(lo:Int)<1000000000:=by have:=E.1;omega
     have H2:=Hd (show i+1<=l.length by omega)
     have P:=Hd (show l.length-(i+1)*256<l.length-i*256 by omega)
     clear c0 b2 a2 b3 a0 c7 c1 c8 b4 a6 e0 b5 a7 c2 a9 d0 a8 d3 a3 a4 b0 d4 b6 b7 d5 hq d1;by_cases h0:er=0
     .
      rw [h0] at B;clear a5;go_wp2_with fail;refine B.1.mono ?_;rintro r w3 ⟨rfl,G3,g1,g2,g3⟩;have D:=Hd (show ∃ G',IsRef w3 d2 rp G'/\Mod G w w3/\(∀ k,G' k->G k\/w.heap.size<=k) from ⟨G3,g1,H.1.then g2 (fun k hk=>A.1 k hk),fun k hk=>by
       rcases g3 k hk with h1 | h1
       . exact A.1 k h1
       . right;have:=H.1.size;omega⟩)
      clear g1 g2 g3;go_wp2
      go_roundg (l.length-(i+1)*256)
      case measure=>have:=V.1;have:=P.1;omega
      case rel =>
       obtain ⟨G4,g1,g2,g3⟩:=D.1;refine ⟨i+1,b+1,d2,G4,rfl,by go_num,?_,g1,g2,g3,N.1 h0,X.1,by have:=H1.1;omega,H2.1⟩
       rw [show ((i+1)*256:Nat)=lo+256 by have:=H0.1;omega]
       go_num
     .
      have Q:=Hd (O.1 h0);clear a5;go_wp2_with fail;refine B.1.mono ?_;rintro r w3 ⟨rfl,G3,g1,g2,g3⟩;have D:=Hd (show ∃ G',IsRef w3 d2 rp G'/\Mod G w w3/\(∀ k,G' k->G k\/w.heap.size<=k) from ⟨G3,g1,H.1.then g2 (fun k hk=>A.1 k hk),fun k hk=>by
       rcases g3 k hk with h1 | h1
       . exact A.1 k h1
       . right;have:=H.1.size;omega⟩)
      clear g1 g2 g3 e3 d8 ht hl e2 c9 kc d7;go_wp2;go_ret;rw [Q.1,<- Z.1,<- Y.1];exact ⟨rfl,D.1⟩
    .
     have d9:¬ ((lo:Int)<(l.length:Int)):=by omega
     have d6:l.drop (i*256) = []:=qN (by omega)
     have b8:jr d fb (jk l.length l)=(d',0):=by rw [M.1,d6];exact jen _ _ _
     have c3:jR d at_ n e.toNat l=d'.write at_ (SB (yR e.toNat l)):=by rw [I.1,b8,qf rfl]
     have R:=Hd c3;have Hh:=Hd (uG e (.slice va l.length vc) l wr b4);have H3:=Hd (show d'.trail.length<=100000000000 by have:=E.1;omega)
     clear c0 b2 a2 b3 a0 c7 c1 c8 b4 a6 d6 b8 c3;go_wp2_with fail;refine Hh.1.mono ?_;rintro r w3 ⟨rfl,b9⟩;have B:=Hd (vb d' rp G' at_ (SB (yR e.toNat l)) w3 (W.1.below b9) H3.1 (by rw [SB_size,yY];omega))
     rw [<- R.1] at B;have H4:=Hd (H.1.then (Mod.of_below (F:=fun _=>False) b9) (fun _ h=>h.elim))
     have H5:=Hd (qi H.1.size b9.size);clear b9 Hh;go_wp2_with fail;refine B.1.mono ?_;rintro r w4 ⟨rfl,G4,g1,g2,g3⟩;have D:=Hd (show ∃ G',IsRef w4 (jR d at_ n e.toNat l).1 rp G'/\Mod G w w4/\∀ k,G' k->G k\/w.heap.size<=k from ⟨G4,g1,H4.1.then g2 (fun k hk=>A.1 k hk),fun k hk=>by
      rcases g3 k hk with h1 | h1
      . exact A.1 k h1
      . right;have:=H5.1;omega⟩)
     clear g1 g2 g3;go_wp2;go_ret;exact ⟨rfl,D.1⟩
 .
  rw [qv hm] at C;have e1:jR d at_ n e.toNat l=(d,1):=by unfold jR;rw [qh hm]
  rw [e1];clear h hv hx ha hn hN hm e1;go_enter func111,ntmps111;go_wp2_with fail;refine C.1.mono ?_;rintro r w1 ⟨rfl,rfl⟩;go_wp2;go_ret;exact ⟨rfl,G,L.1,Mod.refl _ _,fun k hk=>.inl hk⟩
theorem je3 (d:DiskM)(rp:Nat)(G:Nat->Prop)(fb:Int)(z:Nat)(w:World)(h:IsRef w d rp G)(b0:d.Wf)(ht:d.trail.length<=100000000000)(hs:∀ b,(jH d b).length<=9223372036854775807)(c1:0<=fb)(a6:fb<=10000)(hz:z<=1048576) :
  Calls prog 141 #[.pointer (some ⟨rp,0,none⟩),fb,(z:Int)] w fun e w'=>∃ v,e=.returned (.tuple #[v,.bool (yx d (z+1) fb z []).isSome])/\OwnM w' w.heap.size 5 v ((yx d (z+1) fb z []).getD []).length (((yx d (z+1) fb z []).getD []).map V8)/\Below w.heap.size w w':=by
 have O:=Hd h;have P:=Hd b0;have Q:=Hd ht;have R:=Hd hs;have S:=Hd hz;have J:=Hd a6;have c3:(z:Int)<=1048576:=by omega
 clear h b0 ht hs hz a6;go_enter func141,ntmps141;go_wp2
 go_loopg [8,9] (z+1) (fun gk dv iv wr=>∃ (acc:List UInt8) (i:Nat),gk=z+1-i/\iv=.int .i64 (i:Int)/\OwnM wr w.heap.size 5 dv acc.length (acc.map V8)/\Below w.heap.size w wr/\yx d (z+1) fb z []=yx d (z+1-i) (fb+i) z acc/\i<=acc.length/\acc.length<=z)
 case atStart=>exact ⟨[],0,rfl,rfl,OwnM.nil _ _ _,qG _ _,by simp,qJ _,qJ _⟩
 case round =>
  obtain ⟨acc,i,b1,rfl,a3,b2,a4,c4,c5⟩:=hrel;obtain ⟨da,dc,rfl⟩:=a3.form;have K:=Hd b1;have F:=Hd a3;have B:=Hd b2;have C:=Hd a4;clear b1 a3 b2 a4;by_cases hlt:acc.length<z
  .
   have b9:(acc.length:Int)<(z:Int):=by omega
   have c6:(i:Int)<=(z:Int):=by omega
   obtain ⟨b,hb⟩:∃ b,b=fb+(i:Int):=⟨_,rfl⟩;have a0:=uU d rp G b wr (O.1.below B.1) P.1 Q.1;rw [jbj] at a0;obtain ⟨k,hk⟩:=Nm (min (z-acc.length) 256);have c7:∀ ts t w',(Builtin.min_ ts t #[((z:Int)-(acc.length:Int):Int),(256:Int)]).run prog w'=.ok (k:Int) w':=fun ts t w'=>by
    rw [pL]
    congr 2
    by_cases h:(256:Int)<(z:Int)-(acc.length:Int)
    . rw [qf h];omega
    . rw [qh h];omega
   obtain ⟨t,a1⟩:=Nm (jH d b);have c8:t.length<=9223372036854775807:=by rw [a1];exact R.1 b
   have b3:t.length<k->yx d (z+1) fb z []=none:=fun h=>by
    rw [C.1];exact jhf d _ _ z acc (by omega) hlt (by rw [<- hb,<- a1,<- hk];exact h)
   have a7:¬ t.length<k->yx d (z+1) fb z []=yx d (z+1-(i+1)) (fb+((i+1:Nat):Int)) z (acc++t.take k):=fun h=>by
    rw [C.1,show z+1-i=(z+1-(i+1))+1 by omega,jdp d _ _ z acc hlt (by rw [<- hb,<- a1,<- hk];exact h),<- hb,<- a1,<- hk,show b+1=fb+((i+1:Nat):Int) by omega]
   rw [<- a1] at a0;obtain ⟨er,b4⟩:=Nm ((d.read b).2);rw [<- b4] at a0;obtain ⟨tx,a5⟩:=Nm (SB t);have c2:tx.size=t.length:=by rw [a5,SB_size]
   rw [<- a5] at a0;have c9:0<k:=by omega
   have d0:acc.length+k<=z:=by omega
   have d1:fb+(i:Int)=b:=hb.symm;have d2:b<1000000000:=by have:=J.1;omega
   have d3:(i:Int)<=1048576:=by omega
   have D:=Hd a0;have E:=Hd b3;have A:=Hd a7;have L:=Hd a5;clear a0 b3 a7 a1 a5 b4 hk hb;by_cases hlk:t.length<k
   .
    have I:=Hd (E.1 hlk);have c0:(t.length:Int)<(k:Int):=by omega
    clear E A;go_wp2_with fail;refine D.1.mono ?_;rintro r w3 ⟨rfl,rfl⟩;go_wp2
    go_ret2
    rw [I.1];exact ⟨_,rfl,OwnM.nil _ _ _,B.1⟩
   .
    have c0:decide ((t.length:Int)<(k:Int))=false:=by simp;omega
    have b5:=fun w=>jf6 w t k (by omega)
    rw [<- L.1] at b5;obtain ⟨tk,a8⟩:=Nm (SB (t.take k));rw [<- a8] at b5;have M:=Hd a8;have T:=Hd (A.1 hlk);have H:=Hd (by rw [qr];omega:(t.take k).length=k)
    have b6:=B.1.size;clear a8 A E;go_wp2_with fail;refine D.1.mono ?_;rintro r w3 ⟨rfl,rfl⟩
    go_wp2_with (at_builtin;refine je6 rfl _ _ rfl w.heap.size _ _ _ rfl F.1 (t.take k) (by show Value.string tk=_;rw [M.1]) (by rw [H.1];have:=S.1;omega) b6 ?_)
    intro v' w4 a2 b7 _;have b8:=B.1.trans (je b7 b6 (fun q hq=>(F.1.lt q hq).1))
    rw [<- pu,<- qM,wD (by omega)] at a2
    have N:=Hd (And.intro a2 b8);clear a2 b7 b8;go_wp2
    go_roundg (z+1-(i+1))
    case measure=>have:=K.1;omega
    case rel=>exact ⟨acc++t.take k,i+1,rfl,by go_num,by rw [qd,H.1];exact N.1.1,N.1.2,T.1,by rw [qd,H.1];omega,by rw [qd,H.1];omega⟩
  .
   have b9:¬ ((acc.length:Int)<(z:Int)):=by omega
   have I:=Hd (show yx d (z+1) fb z []=some acc by rw [C.1,jed _ _ _ _ _ hlt])
   go_wp2
   go_ret2
   rw [I.1];exact ⟨_,rfl,F.1,B.1⟩
def jng (W:World)(r:Nat × List UInt8 × Int)(e:Ending)(W':World):Prop :=
 ∃ v,e=.returned (.tuple #[.int .u32 (r.1:Int),v,r.2.2])/\OwnM W' W.heap.size 5 v r.2.1.length (r.2.1.map V8)/\Below W.heap.size W W'
theorem jeR (d:DiskM)(rp:Nat)(G:Nat->Prop)(at_ n:Int)(w:World)(h:IsRef w d rp G)(b0:d.Wf)(hN:d.strs.length<=4096)(ht:d.trail.length<=100000000000)(ha:I64 at_)(hn:I64 n)(hs:∀ b,(jH d b).length<=9223372036854775807) :
  Calls prog 105 #[.pointer (some ⟨rp,0,none⟩),at_,n] w (jng w (jZ d at_ n)):=by
 have F:=Hd (jaY d rp G at_ n w h hN ha hn);have T:=Hd h;have X:=Hd hs;have K:=Hd (fun fb z w (h:IsRef w d rp G)=>je3 d rp G fb z w h b0 ht hs)
 by_cases hm:xp d.strs.length at_ n
 .
  rw [qz hm] at F;have b8:=hm;unfold xp at b8;obtain ⟨m1,m2,m3⟩:=b8;have c8:n<=4096:=by omega
  have c9:at_<=4096:=by omega
  have b2:jZ d at_ n=(if jH d at_ = [] then (0,[],10)
   else if (jH d at_).length=16 then
    if n*256<((yA (jH d at_) 4:Nat):Int) then (0,[],21)
    else match yx d (yA (jH d at_) 4+1) (jF at_ n (yA (jH d at_) 0)) (yA (jH d at_) 4) [] with
     | none=>(0,[],21)
     | some p=>if yR (yA (jH d at_) 0) p=jH d at_ then (yA (jH d at_) 0,p,0) else (0,[],21)
   else (0,[],21):Nat × List UInt8 × Int):=by unfold jZ;rw [qf hm];rfl
  have a5:=uU d rp G at_ w h b0 ht;rw [jbj] at a5;obtain ⟨s,b3⟩:=Nm (jH d at_);obtain ⟨er,b9⟩:=Nm ((d.read at_).2);rw [<- b3] at b2 a5;rw [<- b9] at a5;have d0:s.length<=9223372036854775807:=by rw [b3];exact hs at_
  have A:=Hd a5;have H:=Hd b2;clear h hs ha hn hN m3 hm b2 a5 b3 b9 b0 ht;by_cases hs0:s = []
  .
   have hl:jZ d at_ n=(0,[],10):=by rw [H.1,qf hs0]
   rw [hl];obtain ⟨st,a0⟩:=Nm (SB s);have c2:st.toList.isEmpty=true:=by rw [a0,jh,hs0];rfl
   rw [<- a0] at A;clear a0 hs0 hl H;go_enter func105,ntmps105;go_wp2_with fail;refine F.1.mono ?_;rintro r w1 ⟨rfl,rfl⟩;go_wp2_with fail;refine A.1.mono ?_;rintro r w2 ⟨rfl,rfl⟩;go_wp2
   go_ret3
   exact ⟨_,rfl,OwnM.nil _ _ _,qG _ _⟩
  .
   obtain ⟨st,a0⟩:=Nm (SB s);have c2:st.toList.isEmpty=false:=by
    rw [a0,jh]
    cases s with
    | nil=>exact absurd rfl hs0
    | cons _ _=>rfl
   have d1:st.size=s.length:=by rw [a0,SB_size]
   rw [<- a0] at A;by_cases h16:s.length=16
   .
    have a9:jZ d at_ n=(if n*256<((yA s 4:Nat):Int) then (0,[],21)
     else match yx d (yA s 4+1) (jF at_ n (yA s 0)) (yA s 4) [] with
      | none=>(0,[],21)
      | some p=>if yR (yA s 0) p=s then (yA s 0,p,0) else (0,[],21):Nat × List UInt8 × Int):=by rw [H.1,qh hs0,qf h16]
    have a6:=fun w=>vR s 0 w (by omega) (by omega)
    have a7:=fun w=>vR s 4 w (by omega) (by omega)
    obtain ⟨eu,c0⟩:=Nm (UInt32.ofNat (yA s 0));have b4:yA s 0=eu.toNat:=by
     rw [c0];show yA s 0=yA s 0 % 2 ^ 32;have:=jbQ s 0;omega
    obtain ⟨z,hz⟩:=Nm (yA s 4);have b5:z<4294967296:=by rw [hz];exact jbQ s 4
    rw [<- a0,b4] at a6;rw [<- a0,<- hz] at a7;rw [b4,<- hz] at a9
    replace a6:∀ w,Calls prog 140 #[.string st,(0:Int)] w fun e w'=>e=.returned (.int .u32 (I32 eu))/\∃ k,w'=w.drewN k:=a6
    replace a7:∀ w,Calls prog 140 #[.string st,(4:Int)] w fun e w'=>e=.returned (.int .u32 (z:Int))/\∃ k,w'=w.drewN k:=a7
    have M:=Hd a6;have N:=Hd a7;have C:=Hd a9;have O:=Hd a0;have W:=Hd b5;have c6:∀ w,(convert 87 3 (.int .u32 (z:Int))).run prog w=.ok (z:Int) w:=fun w=>by
     rw [run_convert_int (P:=prog) w 87 3 .u32 (z:Int) (by kernel_rfl) (by kernel_rfl),show prog.intKind 3=.i64 by kernel_rfl]
     have c3:IntKind.i64.wrap (z:Int)=(z:Int):=by
      simp [IntKind.wrap,IntKind.bits,IntKind.signed];omega
     rw [c3]
    clear a0 hs0 a6 a7 c0 b4 hz a9 H b5;go_enter func105,ntmps105;go_wp2_with fail;refine F.1.mono ?_;rintro r w1 ⟨rfl,rfl⟩;go_wp2_with fail;refine A.1.mono ?_;rintro r w2 ⟨rfl,rfl⟩;go_wp2_with fail;refine (M.1 _).mono ?_;rintro r w1 ⟨rfl,k1,rfl⟩;go_wp2_with fail;refine (N.1 _).mono ?_;rintro r w3 ⟨rfl,k2,rfl⟩;have b6:Below w2.heap.size w2 ((w2.drewN k1).drewN k2):=⟨rfl,rfl,rfl,qm _,fun _ _=>rfl⟩
    have B:=Hd b6;have Q:=Hd (T.1.below b6);generalize (w2.drewN k1).drewN k2=w4 at B Q |-;clear b6 M N;by_cases hz:n*256<(z:Int)
    .
     have D:=Hd (show jZ d at_ n=(0,[],21) by rw [C.1,qf hz])
     go_wp2
     go_ret3
     rw [D.1];exact ⟨_,rfl,OwnM.nil _ _ _,B.1⟩
    .
     obtain ⟨fb,b1⟩:=Nm (jF at_ n eu.toNat);have b7:jZ d at_ n=(match yx d (z+1) fb z [] with
      | none=>(0,[],21)
      | some p=>if yR eu.toNat p=s then (eu.toNat,p,0) else (0,[],21):Nat × List UInt8 × Int):=by rw [C.1,qh hz,b1]
     have d2:decide (n*256<(z:Int))=false:=by simp;omega
     have U:=Hd (show z<=1048576 by omega)
     have R:=Hd (jan at_ n eu w4 (by omega) (by omega))
     rw [<- b1] at R;have a4:0<=fb/\fb<=10000:=by
      rw [b1];unfold jF;have:eu.toNat % 2=0\/eu.toNat % 2=1:=by omega
      rcases this with h2 | h2 <;> rw [h2] <;> simp <;> omega
     have E:=Hd (K.1 fb z w4 Q.1 a4.1 a4.2 U.1);have J:=Hd b7;clear b1 a4 b7 C hz;go_wp2_with fail;refine R.1.mono ?_;rintro r w5 ⟨rfl,rfl⟩;go_wp2_with fail;refine E.1.mono ?_;rintro r w5 ⟨lv,rfl,a1,a8⟩;obtain ⟨la,lc,rfl⟩:=a1.form
     cases hli:yx d (z+1) fb z [] with
     | none =>
      have D:=Hd (show jZ d at_ n=(0,[],21) by rw [J.1,hli])
      rw [show (none:Option (List UInt8)).isSome=false from rfl]
      have I:=Hd (jd B.1 a8);clear a1 a8 E hli;go_wp2
      go_ret3
      rw [D.1];exact ⟨_,rfl,OwnM.nil _ _ _,I.1⟩
     | some acc =>
      rw [hli] at a1
      replace a1:OwnM w5 w4.heap.size 5 (.slice la acc.length lc) acc.length (acc.map V8):=a1
      rw [show (some acc:Option (List UInt8)).isSome=true from rfl,show ((some acc:Option (List UInt8)).getD []).length=acc.length from rfl]
      have a2:jZ d at_ n=if yR eu.toNat acc=s then (eu.toNat,acc,0) else (0,[],21):=by rw [J.1,hli]
      have L:=Hd (uG eu (.slice la acc.length lc) acc w5 a1.rd);have V:=Hd (a1.lower B.1.size);have S:=Hd (jd B.1 a8);by_cases he:yR eu.toNat acc=s
      .
       rw [qf he] at a2;rw [he,<- O.1] at L;have D:=Hd a2;have c5:((st.toList==st.toList)=true):=by simp
       clear a2 he hli a1 a8 E;go_wp2_with fail;refine L.1.mono ?_;rintro r w6 ⟨rfl,a3⟩;have I:=Hd (And.intro (V.1.below a3) (jd S.1 a3));clear a3;go_wp2
       go_ret3
       rw [D.1];exact ⟨_,rfl,I.1.1,I.1.2⟩
      .
       rw [qh he] at a2;have c4:((SB (yR eu.toNat acc)).toList==st.toList)=false:=by rw [O.1,jh,jh,qD];exact he
       obtain ⟨hx,c1⟩:=Nm (SB (yR eu.toNat acc));rw [<- c1] at L c4;have D:=Hd a2;clear a2 he hli a1 a8 E c1;go_wp2_with fail;refine L.1.mono ?_;rintro r w6 ⟨rfl,a3⟩;have I:=Hd (jd S.1 a3);clear a3;go_wp2
       go_ret3
       rw [D.1];exact ⟨_,rfl,OwnM.nil _ _ _,I.1⟩
   .
    have hl:jZ d at_ n=(0,[],21):=by rw [H.1,qh hs0,qh h16]
    rw [hl];have c7:¬ ((s.length:Int)=16):=by omega
    clear a0 hs0 hl H;go_enter func105,ntmps105;go_wp2_with fail;refine F.1.mono ?_;rintro r w1 ⟨rfl,rfl⟩;go_wp2_with fail;refine A.1.mono ?_;rintro r w2 ⟨rfl,rfl⟩;go_wp2
    go_ret3
    exact ⟨_,rfl,OwnM.nil _ _ _,qG _ _⟩
 .
  rw [qv hm] at F;have e1:jZ d at_ n=(0,[],1):=by unfold jZ;rw [qh hm]
  rw [e1];clear h hs ha hn hN hm e1 b0 ht;go_enter func105,ntmps105;go_wp2_with fail;refine F.1.mono ?_;rintro r w1 ⟨rfl,rfl⟩;go_wp2
  go_ret3
  exact ⟨_,rfl,OwnM.nil _ _ _,qG _ _⟩
end Go.Proofs.YtgcnolapjppbpaaGreatDoor
