/- Texts of one proof. -/
import Derived.Test.YtgcnolapjppbpaaGreatDoorK24
namespace Go.Proofs.YtgcnolapjppbpaaGreatDoor
open Go.RowKit _root_.Go.Proofs.Tryz
set_option maxRecDepth 100000
set_option maxHeartbeats 25600000
variable {n:Nat}
theorem jnb {P:Program}(x y z:Int)(h:z=min x y)(ts:Array TypeId)(t:TypeId)(w:World):(Builtin.min_ ts t #[x,y]).run P w=.ok z w:=by
 rw [pL,h];have:(if y<x then y else x)=min x y:=by split <;> omega
 rw [this]
def jkb (a:Option Addr)(cap k m:Nat):Value:=.slice (if cap=k then a else a.map (·.add k)) (m-k) (cap-k)
theorem ji7 {P:Program}{t e:TypeId}(ht:P.underlying t=some (.slice e))(hs:(P.info? e).map (·.size)=some 1)(a:Option Addr)(n cap k m:Nat)(hk:k<=m)(hm:m<=cap)(w:World) :
  (Instr.slice t (.slice a n cap) (some (.int .i64 (k:Int))) (some (.int .i64 (m:Int))) none).run P w=.ok (jkb a cap k m) w:=by
 have hx:P.elem t=e:=by unfold Program.elem;rw [ht]
 have a0:(sizeOf e).run P w=.ok 1 w:=by
  cases hi:P.info? e with
  | none=>rw [hi] at hs;cases hs
  | some i =>
   rw [hi] at hs;simp only [pN,Option.some.injEq] at hs
   simp [sizeOf,typeInfo,hi,hs]
 rw [run_slice_lh w t a n cap (by rw [hx];exact ht) .i64 .i64 (k:Int) (m:Int) (by omega) (by omega) (by omega),hx,a0]
 simp [Result.andThen,sliced,jkb]
theorem jjb {w:World}{a:Option Addr}{cap k m:Nat}{xs:List Value}(h:Rd w (.slice a n cap) n xs)(hk:k<=m)(hm:m<=n):Rd w (jkb a cap k m) (m-k) ((xs.take m).drop k):=by
 have h1:=h.cut (m:=m) (by obtain ⟨_,_,e,h1,_⟩:=h;injection e with _ _ e;subst e;omega) m
 have h2:=xR (k:=k) h1 hk (by rw [qr];omega)
 exact h2
theorem jdU (a:Option Addr)(cap k m:Nat):∃ a' c',jkb a cap k m=.slice a' (m-k) c':=⟨_,_,rfl⟩
theorem jeB (w:World)(cs:Array Value)(l:List UInt8)(h:cs.toList=l.map V8)(hl:l.length<=9223372036854775807):(w.alloc (.cells cs 5)).ownsRow w.heap.size 5 1 (.slice (some ⟨w.heap.size,0,none⟩) l.length l.length) l.length (l.map V8):=by
 have hs:cs.size=l.length:=by rw [<- ph,h,qE]
 refine ⟨by simp,.inr ⟨w.heap.size,l.length,cs,rfl,qm _,ww w _,qm _,by unfold maxLen;omega,by omega,?_⟩⟩
 rw [h,Nat.mul_one,ql (by simp)]
theorem jmk (m k:Nat):(m:Int) / 2 ^ (8*k)=((m / 256 ^ k:Nat):Int):=by
 have h:(2:Nat) ^ (8*k)=256 ^ k:=by rw [Nat.pow_mul]
 have h2:((2:Int) ^ (8*k))=((256 ^ k:Nat):Int):=by rw [<- h];simp
 rw [h2];simp
theorem zP (m n:Nat)(w:World)(hn:n<=4) :
  Calls prog 176 #[.int .u64 (m:Int),(n:Int)] w fun e w'=>∃ v',e=.returned v'/\w'.ownsRow w.heap.size 5 1 v' n ((le m n).map V8)/\Below w.heap.size w w':=by
 go_enter func176,ntmps176;go_wp2
 go_loopw [5,6] (fun v i wr=>∃ k:Nat,k<=n/\i=.int .i64 k/\wr.ownsRow w.heap.size 5 1 v k ((le m k).map V8)/\Below w.heap.size w wr) (fun _ i _=>n-(intOf i).toNat)
 case atStart=>exact ⟨0,by omega,rfl,ws _ _ _ _,qG _ _⟩
 case round =>
  obtain ⟨k,hk,rfl,a0,hb⟩:=hrel;obtain ⟨va,vc,rfl,_⟩:=jP a0;by_cases hlt:k<n
  .
   have a5:(0:Int)<=(k:Int):=by omega
   obtain ⟨c,hc⟩:=Nm (UInt8.ofNat (m / 256 ^ k));have a1:∀ W:World,W.alloc (.cells #[.int .u8 ((m:Int) / 2 ^ (8*k) % 256)] 5)=W.alloc (.cells #[V8 c] 5):=fun W=>by
    rw [hc,jh7,jmk]
   have A:=Hd (jq a0 (ja wr (.cells #[.int .u8 ((m:Int) / 2 ^ (8*k) % 256)] 5)));have H:=Hd (show Rd (wr.alloc (.cells #[.int .u8 ((m:Int) / 2 ^ (8*k) % 256)] 5)) (.slice (some ⟨wr.heap.size,0,none⟩) 1 1) [c].length ([c].map V8) by
    rw [a1];exact jiw wr #[V8 c] 5 [c] rfl (by show 1<=_;decide))
   have B:=Hd hb;have C:=Hd (qi hb.size (ja wr (.cells #[.int .u8 ((m:Int) / 2 ^ (8*k) % 256)] 5)).size);have E:=Hd (show k+[c].length<=140737488355328 by rw [qx];omega)
   have F:=Hd hc;clear a0 hb a1 hc
   go_wp2_with (at_builtin;refine jcV rfl _ _ rfl w.heap.size _ k ((le m k).map V8) rfl A.1 _ [c] rfl H.1 E.1 C.1 ?_)
   intro v' w1 a2 a3 _;have a4:=(B.1.trans ((ja wr (.cells #[.int .u8 ((m:Int) / 2 ^ (8*k) % 256)] 5)).mono B.1.size)).trans (je a3 C.1 (fun q hq=>(A.1.lt q hq).1))
   have D:=Hd (show w1.ownsRow w.heap.size 5 1 v' (k+1) ((le m (k+1)).map V8)/\Below w.heap.size w w1 from ⟨by rw [jjd,qM,<- F.1];exact a2,a4⟩)
   clear a2 a3 a4 A H B C E F;go_wp2
   go_roundw
   case rel=>exact ⟨k+1,by omega,by go_num,D.1⟩
   case measure=>simp [intOf];omega
  .
   obtain rfl:k=n:=by omega
   have D:=Hd (And.intro a0 hb);clear a0 hb;go_wp2;go_ret;exact ⟨_,rfl,D.1⟩
theorem jhV (v:Value)(l:List UInt8)(w:World)(hv:Rd w v l.length (l.map V8))(hn:l.length<=140737488355000) :
  Calls prog 177 #[v] w fun e w'=>∃ o,e=.returned o/\w'.ownsRow w.heap.size 5 1 o l.length (l.map V8)/\Below w.heap.size w w':=by
 obtain ⟨a,cap,rfl,a6,a7,_,hc⟩:=hv;have A:=Hd hc;clear hc;go_enter func177,ntmps177
 go_wp2
 go_loopw [3,4] (fun o i wr=>∃ k:Nat,k<=l.length/\i=.int .i64 k/\wr.ownsRow w.heap.size 5 1 o k ((l.take k).map V8)/\Below w.heap.size w wr) (fun _ i _=>l.length-(intOf i).toNat)
 case atStart=>exact ⟨0,by omega,rfl,ws _ _ _ _,qG _ _⟩
 case round =>
  obtain ⟨k,hk,rfl,a0,hb⟩:=hrel;obtain ⟨oa,oc,rfl,_⟩:=jP a0;by_cases hlt:k<l.length
  .
   obtain ⟨b,off,rfl,a1⟩:=A.1 k (by simpa using hlt)
   obtain ⟨x,hx⟩:=Nm (l[k]);have a2:wr.cell? ⟨b,off+k,none⟩=some (.int .u8 (x.toNat:Int)):=jc hb (by rw [a1,hx];simp [hlt,V8])
   have B:=Hd (jq a0 (ja wr (.cells #[.int .u8 (x.toNat:Int)] 5)));have H:=Hd (show Rd (wr.alloc (.cells #[.int .u8 (x.toNat:Int)] 5)) (.slice (some ⟨wr.heap.size,0,none⟩) 1 1) [x].length ([x].map V8) from jiw wr #[V8 x] 5 [x] rfl (by show 1<=_;decide))
   have C:=Hd hb;have D:=Hd (qi hb.size (ja wr (.cells #[.int .u8 (x.toNat:Int)] 5)).size);have F:=Hd (show k+[x].length<=140737488355328 by rw [qx];omega)
   have G:=Hd hx;clear a0 hb hx A a1
   go_wp2_with (at_builtin;refine jcV rfl _ _ rfl w.heap.size _ k ((l.take k).map V8) rfl B.1 _ [x] rfl H.1 F.1 D.1 ?_)
   intro v' w1 a3 a4 _;have a5:=(C.1.trans ((ja wr (.cells #[.int .u8 (x.toNat:Int)] 5)).mono C.1.size)).trans (je a4 D.1 (fun q hq=>(B.1.lt q hq).1))
   have E:=Hd (show w1.ownsRow w.heap.size 5 1 v' (k+1) ((l.take (k+1)).map V8)/\Below w.heap.size w w1 from ⟨by rw [qk hlt,qM,<- G.1];simpa using a3,a5⟩)
   clear a3 a4 a5 B H C D F G a2;go_wp2
   go_roundw
   case rel=>exact ⟨k+1,by omega,by go_num,E.1⟩
   case measure=>simp [intOf];omega
  .
   obtain rfl:k=l.length:=by omega
   rw [ql (qm _)] at a0;have E:=Hd (And.intro a0 hb);clear a0 hb A;go_wp2;go_ret;exact ⟨_,rfl,E.1⟩
theorem vk {w:World}{b m:Nat}{v:Value}{xs:List Value}(h:w.ownsRow b 5 1 v m xs)(ys:List UInt8)(hy:xs=ys.map V8)(hn:ys.length=n):∃ a c,v=.slice a n c/\w.ownsRow b 5 1 (.slice a n c) n (ys.map V8):=by
 subst hy;have hm:m=n:=by have:=jmj h;rw [qE,hn] at this;omega
 subst hm;obtain ⟨a,c,rfl,_⟩:=jP h;exact ⟨a,c,rfl,h⟩
theorem uI (v:Value)(e:UInt32)(p:List UInt8)(w:World)(hv:Rd w v p.length (p.map V8))(hp:p.length<=512) :
  Calls prog 159 #[.int .u32 (e.toNat:Int),v] w fun r w'=>∃ lv,r=.returned lv/\w'.ownsRow w.heap.size 9 1 lv (jf e p).length ((jf e p).map SV)/\Below w.heap.size w w':=by
 obtain ⟨va,vc,rfl,g7⟩:∃ a c,v=.slice a p.length c/\p.length<=c:=by obtain ⟨a,c,h,h1,_⟩:=hv;exact ⟨a,c,h,h1⟩
 have HV:=Hd hv;have g1:=e.toNat_lt;obtain ⟨en,b9⟩:=Nm (e.toNat);rw [<- b9] at g1 |-;have He:=Hd b9;clear hv b9;have H0:=Hd (jeB w #[.int .u8 104] [104] rfl (by decide))
 have H1:=Hd (ja w (.cells #[.int .u8 104] 5));go_enter func159,ntmps159;go_wp2_with fail;refine (zP en 4 _ (by omega)).mono ?_
 rintro r w1 ⟨v1,rfl,a1,a0⟩;have O:=Hd (jq H0.1 a0);have B:=Hd (jd H1.1 a0);have H2:=Hd (js a1);clear a1 a0 H0 H1
 go_wp2_with (at_builtin;refine jcV rfl _ _ rfl w.heap.size _ 1 _ rfl O.1 _ (le en 4) rfl (by rw [jC];exact H2.1) (by rw [jC];omega) B.1.size ?_)
 intro v2 w2 d8 d9 _;have Q:=Hd (B.1.trans (je d9 B.1.size (fun q hq=>(O.1.lt q hq).1)))
 obtain ⟨a2,c2,rfl,e0⟩:=vk d8 (104::le en 4) (n:=5) (by simp) (by simp [jC])
 have H3:=Hd e0;clear d8 e0 d9 O B H2;go_wp2_with fail;refine (zP p.length 2 _ (by omega)).mono ?_
 rintro r w3 ⟨v3,rfl,e3,c0⟩;have R:=Hd (jq H3.1 c0);have C:=Hd (Q.1.trans (c0.mono Q.1.size));have H4:=Hd (js e3);clear e3 c0 H3 Q
 go_wp2_with (at_builtin;refine jcV rfl _ _ rfl w.heap.size _ 5 _ rfl R.1 _ (le p.length 2) rfl (by rw [jC];exact H4.1) (by rw [jC];omega) C.1.size ?_)
 intro v4 w4 e4 e5 _;have D:=Hd (C.1.trans (je e5 C.1.size (fun q hq=>(R.1.lt q hq).1)))
 obtain ⟨pr,b1⟩:=Nm (pre e p.length);have a3:pr.length=7:=by rw [b1,vx]
 obtain ⟨a4,c4,rfl,e6⟩:=vk e4 pr (n:=7) (by rw [b1];unfold pre;rw [<- He.1];simp) a3
 have E:=Hd e6;have Hf:=Hd b1;have S:=Hd a3;clear e4 e6 e5 b1 a3 R C H4;go_wp2_with fail;refine (jhV (.slice a4 7 c4) pr _ (by rw [S.1];exact js E.1) (by rw [S.1];omega)).mono ?_
 rintro r w5 ⟨v5,rfl,b2,b3⟩;have H5:=Hd (jq E.1 b3);have F:=Hd (D.1.trans (b3.mono D.1.size));rw [S.1] at b2;obtain ⟨a5,c5,rfl,_⟩:=jP b2;have G:=Hd b2;have H6:=Hd (HV.1.below F.1);have H7:=Hd b3.size;have c1:=Hd (fun k hk=>(E.1.lt k hk).2)
 clear b2 b3 E
 go_wp2_with (at_builtin;refine jcV rfl _ _ rfl w4.heap.size _ 7 (pr.map V8) rfl G.1 _ p rfl H6.1 (by omega) H7.1 ?_)
 intro v6 w6 e7 c3 _;have e8:Apart (.slice a4 7 c4) (.slice a5 7 c5):=fun k h1 h2=>by
  have:=(G.1.lt k h2).1;have:=c1.1 k h1;omega
 have H8:=Hd (xi H5.1 c3 e8);have T:=Hd (F.1.trans (je c3 F.1.size (fun q hq=>qi D.1.size (G.1.lt q hq).1)))
 obtain ⟨al,c7⟩:=Nm (pr++p);obtain ⟨a6,c6,rfl,e9⟩:=vk e7 al (n:=al.length) (by rw [c7];simp) rfl
 have Hg:=Hd c7;have H9:=Hd (js e9);clear e7 e9 c3 e8 c7 H5 G H6 H7 F D c1;go_wp2_with fail;refine (jao _ al _ H9.1).mono ?_;rintro r w' ⟨rfl,rfl⟩;obtain ⟨cr,b4⟩:=Nm ((crc al).toNat);have g8:cr<4294967296:=by rw [b4];exact (crc al).toNat_lt
 have hI:I32 (crc al)=(cr:Int):=by rw [b4];rfl
 rw [hI];have Hh:=Hd b4;clear hI b4 H9;go_wp2_with fail;refine (zP cr 4 _ (by omega)).mono ?_
 rintro r w7 ⟨v7,rfl,f0,d0⟩;have U:=Hd (jq H8.1 d0);have I:=Hd (T.1.trans (d0.mono T.1.size));have Ha:=Hd (js f0);clear f0 d0 H8 T
 go_wp2_with (at_builtin;refine jcV rfl _ _ rfl w.heap.size _ 7 _ rfl U.1 _ (le cr 4) rfl (by rw [jC];exact Ha.1) (by rw [jC];omega) I.1.size ?_)
 intro v8 w8 f1 f2 _;have A:=Hd (I.1.trans (je f2 I.1.size (fun q hq=>(U.1.lt q hq).1)))
 obtain ⟨hm,b5⟩:=Nm (xt e p);have d1:hm.length=11:=by rw [b5,xq]
 obtain ⟨a8,c8,rfl,f3⟩:=vk f1 hm (n:=11) (by rw [b5];unfold xt;rw [<- Hf.1,<- Hg.1,<- Hh.1];simp) d1
 have V:=Hd f3;have Hi:=Hd b5;have Hp:=Hd d1;clear f1 f3 f2 b5 d1 U I Ha;obtain ⟨k,hk⟩:=Nm (min p.length 245);have d2:∀ ts t w',(Builtin.min_ ts t #[(245:Int),(p.length:Int)]).run prog w'=.ok (k:Int) w':=fun ts t w'=>jnb _ _ _ (by omega) ts t w'
 have g2:k<=p.length:=by omega
 have g3:=ji2 va p.length vc k (by omega)
 obtain ⟨pt,b6⟩:=Nm (p.take 245);have a7:pt.length=k:=by rw [b6,qr];omega
 have H:=Hd (show Rd w8 (.slice va k vc) pt.length (pt.map V8) by
  have:=(HV.1.below A.1).cut (m:=k) (by omega) k
  rw [<- pu] at this;have e1:p.take k=p.take 245:=by
   rw [hk];by_cases hc:p.length<=245
   . rw [wD hc,ql (qm _),ql hc]
   . rw [pj (by omega)]
  rw [e1,<- b6] at this;rw [a7];exact this)
 have f4:11+pt.length<=140737488355328:=by omega
 have Hk:=Hd hk;have Hj:=Hd b6;have Ho:=Hd a7;clear hk b6 a7
 go_wp2_with (at_builtin;refine jcV rfl _ _ rfl w.heap.size _ 11 _ rfl V.1 _ pt rfl H.1 f4 A.1.size ?_)
 intro v9 w9 f5 f6 _;have J:=Hd (A.1.trans (je f6 A.1.size (fun q hq=>(V.1.lt q hq).1)))
 obtain ⟨F0,d3⟩:=Nm (hm++pt);obtain ⟨a9,c9,rfl,f7⟩:=vk f5 F0 (n:=F0.length) (by rw [d3];simp) rfl
 have kc:=uP F0 (js f7) rfl;have Hl:=Hd d3;have Hb:=Hd (show (w9.alloc (.cells #[.string (SB F0)] 9)).ownsRow w.heap.size 9 1 (.slice (some ⟨w9.heap.size,0,none⟩) 1 1) 1 [SV F0] from
  ⟨rfl,.inr ⟨w9.heap.size,1,_,rfl,J.1.size,ww w9 _,qm _,by unfold maxLen;omega,rfl,rfl⟩⟩)
 have W:=Hd (J.1.trans ((ja w9 (.cells #[.string (SB F0)] 9)).mono J.1.size));clear f5 f7 f6 d3 V H A f4;go_wp2_with fail;clear kc g3 d2;have b7:∀ f (q:List UInt8),q.length=0->yl f q = []:=fun f q h=>by
  cases f with
  | zero=>rfl
  | succ f=>rw [yl,qf h]
 have Z:=Hd b7;have HF:=Hd (show [F0]++yl 3 (p.drop k)=jf e p by
  have e1:p.drop k=p.drop 245:=by
   rw [Hk.1];by_cases hc:p.length<=245
   . rw [wD hc,qN (qm _),qN hc]
   . rw [pj (by omega)]
  rw [e1,Hl.1,Hi.1,Hj.1];rfl)
 have Hc:=Hd (show p.length-k<=255*3 by omega)
 clear b7
 go_loopw [8,9,10] (fun x lv i wr=>∃ (c q f:Nat) (L:List (List UInt8)),c<=q/\q<=p.length/\i=.int .i64 c/\x=.int .i64 q/\wr.ownsRow w.heap.size 9 1 lv L.length (L.map SV)/\L.length<=600-(p.length-q)/\L++yl f (p.drop q)=jf e p/\p.length-q<=255*f/\Below w.heap.size w wr) (fun _ _ i _=>p.length-(intOf i).toNat)
 case atStart=>exact ⟨0,k,3,[F0],by omega,g2,rfl,rfl,Hb.1,by simp;omega,HF.1,Hc.1,W.1⟩
 case round =>
  obtain ⟨c,q,f,L,g9,h0,rfl,rfl,b0,h3,f8,h4,hb⟩:=hrel;obtain ⟨la,lc,rfl,_⟩:=jP b0;have HO:=Hd b0;have N:=Hd hb;have K:=Hd f8;clear b0 hb f8 Hb W HF Hc J;by_cases hlt:c<p.length/\q<p.length
  .
   obtain ⟨g5,g6⟩:=hlt;obtain ⟨m,hm⟩:=Nm (min (q+255) p.length);have d2:∀ ts t w',(Builtin.min_ ts t #[((q:Int)+255:Int),(p.length:Int)]).run prog w'=.ok (m:Int) w':=fun ts t w'=>jnb _ _ _ (by omega) ts t w'
   have f9:=fun w'=>ji7 (P:=prog) (t:=92) underlying92 (by kernel_rfl) va p.length vc q m (by omega) (by omega) w'
   have d4:=jjb (HV.1.below N.1) (k:=q) (m:=m) (by omega) (by omega)
   obtain ⟨ma,mc,d5⟩:=jdU va vc q m;obtain ⟨t,ht⟩:=Nm ((p.take m).drop q);have b8:t.length=m-q:=by rw [ht,qn,qr];omega
   rw [d5,<- pu,<- wW,<- ht,<- b8] at d4;simp only [d5,<- b8] at f9;have kc:=uP t d4 rfl;have ha:=fun w'=>jm7 w' t (by omega)
   have H:=Hd (um wr (99::t) 9);have X:=Hd (jq HO.1 (ja wr (.cells #[.string (SB (99::t))] 9)));have Y:=Hd (qi N.1.size (ja wr (.cells #[.string (SB (99::t))] 9)).size);have M:=Hd (show L.length+[99::t].length<=8796093022208 by rw [qx];omega)
   have Hm:=Hd hm;have Ht:=Hd ht;have Hn:=Hd b8;clear hm ht d5 d4 b8
   go_wp2_with (at_builtin;refine jla rfl _ _ rfl w.heap.size _ L.length (L.map SV) rfl X.1 _ [99::t] rfl H.1 M.1 Y.1 ?_)
   intro v' w1 a1 g0 _;have a0:=(N.1.trans ((ja wr (.cells #[.string (SB (99::t))] 9)).mono N.1.size)).trans (je g0 Y.1 (fun j hj=>(X.1.lt j hj).1))
   have HN:=Hd (show ∃ (c2 q2 f:Nat) (L:List (List UInt8)),c2<=q2/\q2<=p.length/\Value.int .i64 ((c:Int)+1)=.int .i64 c2/\Value.int .i64 (m:Int)=.int .i64 q2/\w1.ownsRow w.heap.size 9 1 v' L.length (L.map SV)/\L.length<=600-(p.length-q2)/\L++yl f (p.drop q2)=jf e p/\p.length-q2<=255*f/\Below w.heap.size w w1 by
    have hm:=Hm.1;have hf:∃ g,f=g+1:=by
     cases f with
     | zero=>omega
     | succ g=>exact ⟨g,rfl⟩
    obtain ⟨g,rfl⟩:=hf;have g4:(p.drop q).length≠0:=by rw [qn];omega
    have e1:t=(p.drop q).take 255:=by
     rw [Ht.1,hm];by_cases hc:q+255<=p.length
     . rw [wD hc,List.drop_take];congr 1;omega
     . rw [pj (by omega),ql (qm _),ql (by rw [qn];omega)]
    have e2:yl g ((p.drop q).drop 255)=yl g (p.drop m):=by
     rw [wR,hm];by_cases hc:q+255<=p.length
     . rw [wD hc]
     . rw [pj (by omega),qN (by omega),qN (qm _)]
    refine ⟨c+1,m,g,L ++ [99::t],by omega,by omega,by go_num,rfl,?_,?_,?_,by omega,a0⟩
    . rw [qd,qM];simpa using a1
    . rw [qd,qx];omega
    .
     have:=K.1;rw [yl,qh g4,e2,<- e1] at this;rw [qB];exact this)
   clear a1 g0 a0 X H Y M f9 ha kc d2 Hm Ht Hn HO N K;go_wp2
   go_roundw
   case rel=>exact HN.1
   case measure=>simp [intOf];omega
  .
   have d7:¬ c<p.length\/(c<p.length/\¬ q<p.length):=by omega
   have hq:q=p.length:=by omega
   have d6:=K.1;rw [Z.1 f (p.drop q) (by rw [qn];omega),qF] at d6
   have HN:=Hd (show wr.ownsRow w.heap.size 9 1 (.slice la L.length lc) (jf e p).length ((jf e p).map SV) by rw [<- d6];exact HO.1)
   clear d6 hq HO K hlt
   rcases d7 with h1 | ⟨h1,h2⟩
   all_goals
    go_wp2;go_ret;exact ⟨_,rfl,HN.1,N.1⟩
theorem jcc (z:Int)(h1:0<=z)(h2:z<1000000000):wrap64 z=z:=by unfold wrap64;omega
theorem jnk {a b:List UInt8}(h:a≠b):((SB a).toList==(SB b).toList)=false:=by
 rw [jh,jh,qD];exact h
theorem jcd (v v':Value)(l l':List (List UInt8))(w:World)(hv:Rd w v l.length (l.map SV))(b1:Rd w v' l'.length (l'.map SV)) :
  Calls prog 187 #[v,v'] w fun e w'=>e=.returned (.bool (decide (l=l')))/\∃ k,w'=w.drewN k:=by
 have b3:=hv.len;have b0:=b1.len;obtain ⟨a,cap,rfl,b4,b7,_,hc⟩:=hv;obtain ⟨a',cap',rfl,b5,b8,_,hd⟩:=b1;have Hc:=qe hc;have Hd:=qe hd;clear hc hd;obtain ⟨B,hB⟩:=Nm (decide (l=l'));rw [<- hB];have HB:=qe hB;clear hB;by_cases hll:l.length=l'.length
 .
  obtain ⟨n,hn⟩:=Nm (l.length);have hb:(n != n)=false:=by simp
  have Hn:=qe hn;have Hn':=qe (hn.trans hll);rw [<- hll,<- hn];rw [<- hll,<- hn] at b5;rw [<- hn] at b4 b3;clear hn hll b0;go_enter func187,ntmps187
  go_wp2
  go_loopw [5] (fun i wr=>∃ k:Nat,k<=n/\i=.int .i64 k/\Hid (l.take k=l'.take k)/\∃ m,wr=w.drewN m) (fun i _=>n-(intOf i).toNat)
  case atStart=>exact ⟨0,by omega,rfl,qe rfl,0,rfl⟩
  case round =>
   obtain ⟨k,hk,rfl,HT,m,rfl⟩:=hrel;by_cases hlt:k<n
   .
    obtain ⟨b,off,rfl,a0⟩:=Hc.out k (by rw [qE,<- Hn.out];exact hlt)
    obtain ⟨b',off',rfl,a1⟩:=Hd.out k (by rw [qE,<- Hn'.out];exact hlt)
    have a4:k<l.length:=by rw [<- Hn.out];exact hlt
    have a5:k<l'.length:=by rw [<- Hn'.out];exact hlt
    obtain ⟨x,hx⟩:=Nm (l[k]);obtain ⟨y,hy⟩:=Nm (l'[k]);have a2:w.cell? ⟨b,off+k,none⟩=some (.string (SB x)):=by rw [a0,hx];simp [a4,SV]
    have a6:w.cell? ⟨b',off'+k,none⟩=some (.string (SB y)):=by rw [a1,hy];simp [a5,SV]
    have h1:(0:Int)<=(k:Int):=by omega
    have h2:(k:Int)<(n:Int):=by omega
    have a7:=qk a4;have a8:=qk a5;rw [<- hx] at a7;rw [<- hy] at a8;by_cases hxy:x=y
    .
     have HT2:=qe (show l.take (k+1)=l'.take (k+1) by rw [a7,a8,HT.out,hxy])
     rw [hxy] at a2;obtain ⟨s,hs⟩:=Nm (SB y);rw [<- hs] at a2 a6;clear a0 a1 Hc Hd hx hy a7 a8 hxy hs a4 a5
     go_wp2
     go_quiet (fail)
     go_wp2
     go_roundw
     case rel=>exact ⟨k+1,by omega,by go_num,HT2,_,rfl⟩
     case measure=>simp [intOf];omega
    .
     have a9:=jnk hxy;have a3:¬ l=l':=fun e=>by
      subst e;exact hxy (by rw [hx,hy])
     have Hno:=qe a3;obtain ⟨s,hs⟩:=Nm (SB x);obtain ⟨s',b2⟩:=Nm (SB y);rw [<- hs] at a2 a9;rw [<- b2] at a6 a9;clear a0 a1 Hc Hd hx hy a7 a8 hxy a4 a5 a3 hs b2
     go_wp2
     go_quiet (fail)
     go_wp2
     go_ret;have e1:B=false:=by rw [HB.out,qv Hno.out]
     exact ⟨by rw [e1];rfl,_,kA _ _ _⟩
   .
    obtain rfl:k=n:=by omega
    have he:=HT.out;rw [ql (by rw [<- Hn.out];exact qm _),ql (by rw [<- Hn'.out];exact qm _)] at he
    have He:=qe he;clear Hc Hd he
    go_wp2
    go_ret;have e1:B=true:=by rw [HB.out,qz He.out]
    exact ⟨by rw [e1];rfl,m,rfl⟩
 .
  have a3:¬ l=l':=fun e=>hll (by rw [e])
  have a9:((l.length:Int) != (l'.length:Int))=true:=by rw [wl];omega
  have b6:(l.length != l'.length)=true:=by rw [wl];exact hll
  have Hno:=qe a3;clear Hc Hd a3 hll;go_enter func187,ntmps187
  go_wp2
  go_ret;have e1:B=false:=by rw [HB.out,qv Hno.out]
  exact ⟨by rw [e1];rfl,0,rfl⟩
structure RefL (w:World)(bl:List (List UInt8))(a sz:Nat)(G:Option (List UInt8 × Nat))(pv:Value)(p:List UInt8)(k i:Nat)(wr:World):Prop where
 own:OwnM wr w.heap.size 5 pv p.length (p.map V8)
 k1:1<=k/\k<=i+1/\i<=3/\a+k<=bl.length
 len:p.length<=1048576*(i+1)
 go:g2 sz (3-i) p (bl.drop (a+k)) k=G
 below:Below w.heap.size w wr
theorem jmB {f:Nat}{p:List UInt8}{r:List (List UInt8)}{k:Nat}(h:f=0\/¬ p.length<n\/r = []):g2 n f p r k=some (p,k):=by
 cases f with
 | zero=>rfl
 | succ f =>
  cases r with
  | nil=>rfl
  | cons s r =>
   rcases h with h | h | h
   . omega
   . rw [g2,qh h]
   . cases h
set_option maxRecDepth 100000 in
theorem jeD (e:UInt32)(lv:Value)(bl:List (List UInt8))(a:Nat)(w:World)(hl:Rd w lv bl.length (bl.map SV))(hn:bl.length<=1048576)(ha:a<=1048576)(a3:∀ b∈bl,b.length<=1048576) :
  Calls prog 172 #[.int .u32 (e.toNat:Int),lv,(a:Int)] w fun r w'=>Below w.heap.size w w'/\((zH e (bl.drop a)=none/\∃ x y,r=.returned (.tuple #[x,y,.bool false])) \/
   ∃ p k v,zH e (bl.drop a)=some (p,k)/\r=.returned (.tuple #[v,(k:Int),.bool true])/\OwnM w' w.heap.size 5 v p.length (p.map V8)):=by
 rw [<- jiu];obtain ⟨la,lc,rfl,i8⟩:∃ a c,lv=.slice a bl.length c/\bl.length<=c:=by obtain ⟨a,c,h,h1,_⟩:=hl;exact ⟨a,c,h,h1⟩
 have i1:=hl.len;by_cases hat:a<bl.length
 .
  obtain ⟨b,hb⟩:=Nm (bl[a]);obtain ⟨r,hr⟩:=Nm (bl.drop (a+1));have b3:bl.drop a=b::r:=by rw [hb,hr];exact qL hat
  rw [b3];have a1:∃ B off,la=some ⟨B,off,none⟩/\w.cell? ⟨B,off+a,none⟩=some (.string (SB b)):=by
   obtain ⟨B,off,cap,e1,e2⟩:=hl.at a (by simpa using hat)
   injection e1 with e1
   refine ⟨B,off,e1,?_⟩;rw [e2,hb];simp [hat,SV]
  obtain ⟨B,off,rfl,a1⟩:=a1;have i9:b.length<=1048576:=by rw [hb];exact a3 _ (qy hat)
  have i2:(a:Int)<(bl.length:Int):=by omega
  have i3:(0:Int)<=(a:Int):=by omega
  have i4:decide (bl.length<=a)=false:=by simp;omega
  have V:=Hd a3;have X:=Hd hl;have Hr:=Hd hr;have Y:=Hd b3;clear hl a3 hb hr b3;obtain ⟨R,hR⟩:=Nm (xY e (b::r));rw [<- hR];have W:=Hd hR;clear hR;by_cases h11:b.length<11
  .
   have hd:(b.length:Int)<11:=by omega
   have H:=Hd (by rw [W.1,xY,qf h11]:R=none)
   go_enter func172,ntmps172;go_wp2
   go_ret3
   exact ⟨qG _ _,.inl ⟨H.1,_,_,rfl⟩⟩
  .
   have hd:decide ((b.length:Int)<11)=false:=by simp;omega
   have j0:decide (b.length<11)=false:=by simp;omega
   go_enter func172,ntmps172;go_wp2_with fail;obtain ⟨c5,a7⟩:=Nm ((b.getD 5 0).toNat);obtain ⟨c6,a8⟩:=Nm ((b.getD 6 0).toNat);have g4:∀ w',(Instr.index 9 (.string (SB b)) (5:Int)).run prog w'=.ok (.int .u8 (c5:Int)) w':=fun w'=>by rw [a7];exact xL w' b 5 (by omega)
   have g5:∀ w',(Instr.index 9 (.string (SB b)) (6:Int)).run prog w'=.ok (.int .u8 (c6:Int)) w':=fun w'=>by rw [a8];exact xL w' b 6 (by omega)
   have g6:(5:Int)<(b.length:Int):=by omega
   have g7:(6:Int)<(b.length:Int):=by omega
   have h5:c5<256:=by rw [a7];exact ka _
   have h6:c6<256:=by rw [a8];exact ka _
   have b4:jK b=c5+256*c6:=by rw [a7,a8];rfl
   obtain ⟨sz,b5⟩:=Nm (c5+256*c6);rw [<- b5] at b4;have D:=Hd b4;have f5:sz<65792:=by omega
   have b6:(c5:Int)+256*(c6:Int)=(sz:Int):=by omega
   clear b4 a7 a8 b5;obtain ⟨d3,d4,d5,d6,d7⟩:wrap64 (c5:Int)=c5/\wrap64 (c6:Int)=c6/\wrap64 (256*(c6:Int))=256*(c6:Int)/\wrap64 ((c5:Int)+256*(c6:Int))=(sz:Int)/\wrap64 (sz:Int)=(sz:Int) :=
    ⟨jcc _ (by omega) (by omega),jcc _ (by omega) (by omega),jcc _ (by omega) (by omega),(jcc _ (by omega) (by omega)).trans b6,jcc _ (by omega) (by omega)⟩
   have d2:(sz:Int)<65792:=by clear d3 d4 d5 d6 d7;omega
   have O:=Hd b6;clear b6 d7
   go_quiet (fail)
   obtain ⟨w1,b7⟩:=Nm (w.drewN nq);rw [<- b7];have b8:Below w.heap.size w w1:=by rw [b7];exact jD _ _
   have b9:=jc b8 a1;have C:=Hd b8;clear b7 b8 a1 d3 d4 d5 d6 g4 g5 g6 g7 h5 h6;rw [O.1];clear O f5 d2;by_cases h512:512<sz
   .
    have hg:(512:Int)<(sz:Int):=by omega
    have H:=Hd (show R=none by rw [W.1,xY,qh h11,qf (by rw [D.1];exact h512)])
    go_wp2
    go_ret3
    exact ⟨C.1,.inl ⟨H.1,_,_,rfl⟩⟩
   .
    have hg:decide ((512:Int)<(sz:Int))=false:=by simp;omega
    have j1:decide (512<sz)=false:=by simp;omega
    have i5:sz<=512:=by omega
    obtain ⟨p0,a9⟩:=Nm (b.drop 11);have i6:p0.length<=1048576:=by rw [a9,qn];omega
    have a4:(Instr.slice 9 (.string (SB b)) (some (.int .i64 11)) none none).run prog w1=.ok (.string (SB p0)) w1:=by rw [a9];exact jbU w1 b 11 (by omega)
    have c0:=jkK w1 p0;have a6:=jeu w1 p0 5 (by omega)
    have c4:=C.1.trans ((ux w1 5 (SB p0)).mono C.1.size);obtain ⟨G,hG⟩:=Nm (g2 sz 3 p0 r 1);obtain ⟨w2,d8⟩:=Nm (Lib.bytesWorld w1 5 (SB p0));rw [<- d8] at a6 c0 c4;have c7:RefL w bl a sz G (.slice (some ⟨w1.heap.size,0,none⟩) p0.length (grownCap w1 p0.length 0 5)) p0 1 0 w2 :=
     ⟨a6.lower C.1.size,⟨by omega,by omega,by omega,by omega⟩,by omega,by rw [hG,Hr.1],c4⟩
    obtain ⟨v0,d9⟩:=Nm (Value.slice (some ⟨w1.heap.size,0,none⟩) p0.length (grownCap w1 p0.length 0 5));rw [<- d9] at c7 c0;have Q:=Hd c7;have e0:R=jl4 e sz (b::r) G:=by
     rw [W.1,xY,qh h11,qh (by rw [D.1];exact h512),D.1,<- a9,<- hG]
    have E:=Hd e0;clear a9 hG e0 a6 c4 d8 c7 d9;go_wp2
    go_loopw [10,11,12] (fun pv kv iv wr=>∃ (p:List UInt8) (k i:Nat),kv=.int .i64 k/\iv=.int .i64 i/\RefL w bl a sz G pv p k i wr) (fun _ _ iv _=>3-(intOf iv).toNat)
    case atStart=>exact ⟨p0,1,0,rfl,rfl,Q.1⟩
    case round =>
     obtain ⟨p,k,i,rfl,rfl,hI⟩:=hrel;obtain ⟨j2,j3,j4,g8⟩:=hI.k1;have b0:=hI.len;obtain ⟨pa,pc,rfl,_⟩:=hI.own.slice;have A:=Hd hI;have j5:(0:Int)<=(k:Int):=by omega
     have j6:(0:Int)<=(i:Int):=by omega
     have j7:p.length<=8388608:=by omega
     clear hI Q c0 a4 b0;by_cases hall:i<3/\p.length<sz/\a+k<bl.length
     .
      obtain ⟨c1,c2,c3⟩:=hall;obtain ⟨s,hs⟩:=Nm (bl[a+k]);have j8:wr.cell? ⟨B,off+(a+k),none⟩=some (.string (SB s)):=by
       obtain ⟨B',off',cap',e1,e2⟩:=(X.1.below A.1.below).at (a+k) (by simpa using c3)
       injection e1 with e1 _ _
       injection e1 with e1
       injection e1 with e3 e4
       subst e3;subst e4;rw [e2,hs];simp [c3,SV]
      have e5:bl.drop (a+k)=s::bl.drop (a+(k+1)):=by rw [hs];exact qL c3
      have a2:=A.1.go;obtain ⟨f,hf⟩:∃ f,3-i=f+1:=⟨2-i,by omega⟩
      rw [e5,hf,g2,qf c2] at a2;have j9:s.length<=1048576:=by rw [hs];exact V.1 _ (qy c3)
      have c3':(a:Int)+(k:Int)<(bl.length:Int):=by omega
      have c30:(0:Int)<=(a:Int)+(k:Int):=by omega
      have k0:((a:Int)+(k:Int)).toNat=a+k:=by omega
      clear hs e5;by_cases hs0:s.length=0
      .
       rw [qf hs0] at a2;have g9:((s.length:Int)==0)=true:=by rw [qK];omega
       have h0:(s.length==0)=true:=by rw [qK];exact hs0
       have H:=Hd (show R=none by rw [E.1,<- a2];rfl)
       clear a2 hf hs0;go_wp2
       go_ret3
       exact ⟨A.1.below,.inl ⟨H.1,_,_,rfl⟩⟩
      .
       rw [qh hs0] at a2;have g9:((s.length:Int)==0)=false:=by rw [qD];omega
       have h0:(s.length==0)=false:=by rw [qD];exact hs0
       have a5:∀ w',(Instr.slice 9 (.string (SB s)) (some (.int .i64 1)) none none).run prog w'=.ok (.string (SB s.tail)) w':=fun w'=>by
        have:=jbU w' s 1 (by omega)
        rw [List.drop_one] at this;exact this
       have I:=Hd (show g2 sz (3-(i+1)) (p++s.tail) (bl.drop (a+(k+1))) (k+1)=G by rw [show 3-(i+1)=f by omega];exact a2)
       have f6:s.tail.length<=1048576:=by rw [List.length_tail];omega
       obtain ⟨st,c8⟩:=Nm (s.tail);rw [<- c8] at a5 I f6;have J:=Hd A.1.own;have K:=Hd A.1.below.size;have b0:p.length+st.length<=140737488355328:=by omega
       have f7:=A.1.len;clear a2 hf c8
       go_wp2_with (at_builtin;refine je6 rfl _ _ rfl w.heap.size _ p.length (p.map V8) rfl J.1 st rfl b0 K.1 ?_)
       intro v8 w8 e6 e7 _;have HN:=Hd (show ∃ (p':List UInt8) (k' i':Nat),Value.int .i64 ((k:Int)+1)=.int .i64 k'/\Value.int .i64 ((i:Int)+1)=.int .i64 i'/\RefL w bl a sz G v8 p' k' i' w8 from
        ⟨p++st,k+1,i+1,by go_num,by go_num,⟨by rw [qd,qM];exact e6,⟨by omega,by omega,by omega,by omega⟩,by rw [qd];omega,I.1,
         A.1.below.trans (je e7 K.1 (fun j hj=>(J.1.lt j hj).1))⟩⟩)
       clear e6 e7 I J b0 f7 A a5;go_wp2
       go_roundw
       case rel=>exact HN.1
       case measure=>simp [intOf];omega
     .
      have hG:=A.1.go;have e8:g2 sz (3-i) p (bl.drop (a+k)) k=some (p,k):=jmB (by
       rcases qX i 3 with h | h
       .
        rcases qX p.length sz with h2 | h2
        . exact .inr (.inr (qN (by omega)))
        . exact .inr (.inl (by omega))
       . exact .inl (by omega))
      rw [e8] at hG;have e9:R=if p.length≠sz then none else if jf e p=(b::r).take k then some (p,k) else none:=by rw [E.1,<- hG];rfl
      have L:=Hd e9;have b1:¬ i<3\/(i<3/\¬ p.length<sz)\/(i<3/\p.length<sz/\¬ (a:Int)+(k:Int)<(bl.length:Int)):=by omega
      have Z:=Hd A.1.own;have N:=Hd A.1.below;have h4:a+k<=bl.length:=g8;clear e8 hG e9 hall b9 E;by_cases hps:p.length=sz
      .
       have h7:((p.length:Int) != (sz:Int))=false:=by rw [wL];omega
       have f8:(p.length != sz)=false:=by rw [wL];exact hps
       have f9:p.length<=512:=by omega
       have f0:∀ w',Below wr.heap.size wr w'->Calls prog 159 #[.int .u32 (e.toNat:Int),.slice pa p.length pc] w' fun r w''=>∃ lv,r=.returned lv/\Rd w'' lv (jf e p).length ((jf e p).map SV)/\Below wr.heap.size wr w'':=fun w' hb =>
        (uI (.slice pa p.length pc) e p w' (Z.1.rd.below hb) f9).mono (fun r w'' ⟨lv,h1,h2,h3⟩=>⟨lv,h1,js h2,jd hb h3⟩)
       have f1:(b::r).take k=(bl.drop a).take k:=by rw [Y.1]
       have a4:=fun w'=>ji7 (P:=prog) (t:=81) underlying81 (by kernel_rfl) (some ⟨B,off,none⟩) bl.length lc a (a+k) (by omega) (by omega) w'
       have c9:=jjb (X.1.below N.1) (k:=a) (m:=a+k) (by omega) h4
       obtain ⟨ma,mc,b2⟩:=jdU (some ⟨B,off,none⟩) lc a (a+k);obtain ⟨t,ht⟩:=Nm ((bl.take (a+k)).drop a);have f2:t.length=k:=by rw [ht,qn,qr];omega
       have f3:t=(bl.drop a).take k:=by rw [ht,List.drop_take];congr 1;omega
       rw [b2,<- pu,<- wW,<- ht,show a+k-a=k by omega] at c9
       simp only [b2,show a+k-a=k by omega] at a4
       have g0:∀ w',(Instr.slice 81 (.slice (some ⟨B,off,none⟩) bl.length lc) (some (.int .i64 (a:Int))) (some (.int .i64 ((a:Int)+(k:Int)))) none).run prog w'=.ok (.slice ma k mc) w':=fun w'=>by
        have:=a4 w';rw [show (((a+k:Nat):Int))=(a:Int)+(k:Int) by omega] at this
        exact this
       have a5:∀ lv w',Rd w' lv (jf e p).length ((jf e p).map SV)->Below wr.heap.size wr w'->Calls prog 187 #[lv,.slice ma k mc] w' fun e' w''=>e'=.returned (.bool (decide (jf e p=t)))/\Below wr.heap.size wr w'':=fun lv w' h1 h2 =>
        (jcd lv (.slice ma k mc) (jf e p) t w' h1 (by rw [f2];exact c9.below h2)).mono (fun e' w'' ⟨g1,kd,g2⟩=>⟨g1,by rw [g2];exact jd h2 (jD _ _)⟩)
       have H0:=Hd f0;have M:=Hd a5;have S:=Hd (show R=if jf e p=t then some (p,k) else none by rw [L.1,qh (by simpa using hps),f1,<- f3])
       obtain ⟨okb,d0⟩:=Nm (decide (jf e p=t));rw [<- d0] at M;have T:=Hd d0;have g3:¬ lc=a:=by omega
       have d1:Value.slice ma k mc=.slice (some ⟨B,off+a,none⟩) k (lc-a):=by
        rw [<- show jkb (some ⟨B,off,none⟩) lc a (a+k)=.slice ma k mc by rw [b2];congr 1;omega]
        unfold jkb;rw [qh g3,show a+k-a=k by omega];simp [Addr.add]
       rw [d1] at M;obtain ⟨m,hm⟩:=Nm (a+k);have k2:m<=lc:=by omega
       have k3:a<=m:=by omega
       have k4:m-a=k:=by omega
       have k5:(m:Int)<=(lc:Int):=by omega
       have k6:IntKind.i64.wrap ((a:Int)+(k:Int))=(m:Int):=by
        rw [show (a:Int)+(k:Int)=(m:Int) by omega]
        exact IntWalk.i64_in _ (by omega)
       clear f0 f1 hps a5 c9 b2 ht f2 f3 d0 L a4 g0 d1 hm
       rcases b1 with h1 | ⟨h1,h2⟩ | ⟨h1,h2,h3⟩
       all_goals
        go_wp2_with fail
        go_region_held3 (fun w'=>Below wr.heap.size wr w') (first | exact jb _ | assumption)
         (first | (go_at_call 159;refine (H0.1 _ (by assumption)).mono ?_;rintro r4 w4 ⟨lv4,rfl,h8,h9⟩) | (go_at_call 187;refine (M.1 _ _ (by assumption) (by assumption)).mono ?_;rintro r5 w5 ⟨rfl,f4⟩))
        have U:=Hd f4;clear h9 f4 h8;go_wp2
        go_ret3
        refine ⟨N.1.trans (U.1.mono N.1.size),?_⟩
        cases okb with
        | false =>
         have i0:¬ jf e p=t:=fun h=>by have:=T.1;rw [qz h] at this;cases this
         exact .inl ⟨by rw [S.1,qh i0],_,_,rfl⟩
        | true =>
         have he:jf e p=t:=by have:=T.1;exact kz this.symm
         exact .inr ⟨p,k,_,by rw [S.1,qf he],rfl,Z.1.mod (F:=fun _=>False) (Mod.of_below U.1) (fun _ _ h=>h)⟩
      .
       have h7:((p.length:Int) != (sz:Int))=true:=by rw [wl];omega
       have f8:(p.length != sz)=true:=by rw [wl];exact hps
       have H:=Hd (show R=none by rw [L.1,qf hps])
       rcases b1 with h1 | ⟨h1,h2⟩ | ⟨h1,h2,h3⟩
       all_goals
        go_wp2
        go_ret3
        exact ⟨N.1,.inl ⟨H.1,_,_,rfl⟩⟩
 .
  have a0:xY e (bl.drop a)=none:=by rw [qN (by omega)];rfl
  have hd:(bl.length:Int)<=(a:Int):=by omega
  obtain ⟨R,hR⟩:=Nm (xY e (bl.drop a));rw [<- hR] at a0 |-;have H:=Hd a0;have i7:bl.length<=a:=by omega
  clear a0 hl a3 hat hR;go_enter func172,ntmps172;go_wp2
  go_ret3
  exact ⟨qG _ _,.inl ⟨H.1,_,_,rfl⟩⟩
end Go.Proofs.YtgcnolapjppbpaaGreatDoor
