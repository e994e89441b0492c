/-
  Texts of one proof, one behind the other.
-/
import Derived.Test.YtgcnolapjppbpaaGreatDoorP06
import Derived.Test.YtgcnolapjppbpaaGreatDoorP19
import Derived.Test.YtgcnolapjppbpaaGreatDoorP16
import Derived.Test.YtgcnolapjppbpaaGreatDoorP03
import Derived.Test.YtgcnolapjppbpaaGreatDoorP21
import Derived.BigQuiet
import Derived.Test.YtgcnolapjppbpaaGreatDoorP05
import Derived.Test.YtgcnolapjppbpaaGreatDoorP07
import Derived.Test.YtgcnolapjppbpaaGreatDoorP01
import Derived.Test.YtgcnolapjppbpaaGreatDoorP00
namespace Go.Proofs.YtgcnolapjppbpaaGreatDoor
open Go.RowKit _root_.Go.Proofs.Tryz
set_option maxRecDepth 100000
set_option maxHeartbeats 25600000
theorem jkC {P:Program}(x y z:Int)(h:z=min x y)(ts:Array TypeId)(t:TypeId)(w:World):(Builtin.min_ ts t #[.int .i64 x,.int .i64 y]).run P w=.ok (.int .i64 z) w:=by
 rw [run_min_int2,h];have:(if y<x then y else x)=min x y:=by split <;> omega
 rw [this]
def jh6 (a:Option Addr)(cap k m:Nat):Value:=.slice (if cap=k then a else a.map (·.add k)) (m-k) (cap-k)
theorem jhg {P:Program}{t e:TypeId}(ht:P.underlying t=some (.slice e))(hs:(P.info? e).map (·.size)=some 1)(a:Option Addr)(n cap k m:Nat)(hk:k≤m)(hm:m≤cap)(w:World) :
  (Instr.slice t (.slice a n cap) (some (.int .i64 (k:Int))) (some (.int .i64 (m:Int))) none).run P w=.ok (jh6 a cap k m) w:=by
 have hx:P.elem t=e:=by unfold Program.elem;rw [ht]
 have a0:(sizeOf e).run P w=.ok 1 w:=by
  cases hi:P.info? e with
  | none=>rw [hi] at hs;cases hs
  | some i =>
   rw [hi] at hs;simp only [Option.map_some,Option.some.injEq] at hs
   simp [sizeOf,typeInfo,hi,hs]
 rw [run_slice_lh w t a n cap (by rw [hx];exact ht) .i64 .i64 (k:Int) (m:Int) (by omega) (by omega) (by omega),hx,a0]
 simp [Result.andThen,sliced,jh6]
theorem jhx {w:World}{a:Option Addr}{n cap k m:Nat}{xs:List Value}(h:Rd w (.slice a n cap) n xs)(hk:k≤m)(hm:m≤n):Rd w (jh6 a cap k m) (m-k) ((xs.take m).drop k):=by
 have h1:=h.cut (m:=m) (by obtain ⟨_,_,e,h1,_⟩:=h;injection e with _ _ e;subst e;omega) m
 have h2:=xD (k:=k) h1 hk (by rw [List.length_take];omega)
 exact h2
theorem jcV (a:Option Addr)(cap k m:Nat):∃ a' c',jh6 a cap k m=.slice a' (m-k) c':=⟨_,_,rfl⟩
theorem jdy (w:World)(cs:Array Value)(l:List UInt8)(h:cs.toList=l.map V8)(hl:l.length≤9223372036854775807):(w.alloc (.cells cs 5)).ownsRow w.heap.size 5 1 (.slice (some ⟨w.heap.size,0,none⟩) l.length l.length) l.length (l.map V8):=by
 have hs:cs.size=l.length:=by rw [← Array.length_toList,h,List.length_map]
 refine ⟨by simp,.inr ⟨w.heap.size,l.length,cs,rfl,Nat.le_refl _,heap_alloc_new w _,Nat.le_refl _,by unfold maxLen;omega,by omega,?_⟩⟩
 rw [h,Nat.mul_one,List.take_of_length_le (by simp)]
theorem jjW (m k:Nat):(m:Int) / 2 ^ (8*k)=((m / 256 ^ k:Nat):Int):=by
 have h:(2:Nat) ^ (8*k)=256 ^ k:=by rw [Nat.pow_mul]
 have h2:((2:Int) ^ (8*k))=((256 ^ k:Nat):Int):=by rw [← h];simp
 rw [h2];simp
theorem zz (m n:Nat)(w:World)(hn:n≤4) :
  Calls prog 176 #[.int .u64 (m:Int),.int .i64 (n:Int)] w fun e w'=>∃ v',e=.returned v'∧w'.ownsRow w.heap.size 5 1 v' n ((le m n).map V8)∧Below w.heap.size w w':=by
 go_enter func176,ntmps176;go_wp2_with fail
 go_loopw [5,6] (fun v i wr=>∃ k:Nat,k≤n∧i=.int .i64 k∧wr.ownsRow w.heap.size 5 1 v k ((le m k).map V8)∧Below w.heap.size w wr) (fun _ i _=>n-(intOf i).toNat)
 case atStart=>exact ⟨0,by omega,rfl,World.ownsRow_nil _ _ _ _,Below.refl _ _⟩
 case round =>
  obtain ⟨k,hk,rfl,a0,hb⟩:=hrel;obtain ⟨va,vc,rfl,_⟩:=jK a0;by_cases hlt:k<n
  ·
   have a5:(0:Int)≤(k:Int):=by omega
   obtain ⟨c,hc⟩:=Nm (UInt8.ofNat (m / 256 ^ k));have a1:∀ W:World,W.alloc (.cells #[.int .u8 ((m:Int) / 2 ^ (8*k) % 256)] 5)=W.alloc (.cells #[V8 c] 5):=fun W=>by
    rw [hc,jf3,jjW]
   have A:=Hd (jr a0 (ja wr (.cells #[.int .u8 ((m:Int) / 2 ^ (8*k) % 256)] 5)));have H:=Hd (show Rd (wr.alloc (.cells #[.int .u8 ((m:Int) / 2 ^ (8*k) % 256)] 5)) (.slice (some ⟨wr.heap.size,0,none⟩) 1 1) [c].length ([c].map V8) by
    rw [a1];exact jgJ wr #[V8 c] 5 [c] rfl (by show 1≤_;decide))
   have B:=Hd hb;have C:=Hd (Nat.le_trans hb.size (ja wr (.cells #[.int .u8 ((m:Int) / 2 ^ (8*k) % 256)] 5)).size);have E:=Hd (show k+[c].length≤140737488355328 by rw [List.length_singleton];omega)
   have F:=Hd hc;clear a0 hb a1 hc
   go_wp2_with (at_builtin;refine jbG rfl _ _ rfl w.heap.size _ k ((le m k).map V8) rfl A.1 _ [c] rfl H.1 E.1 C.1 ?_)
   intro v' w1 a2 a3 _;have a4:=(B.1.trans ((ja wr (.cells #[.int .u8 ((m:Int) / 2 ^ (8*k) % 256)] 5)).mono B.1.size)).trans (ji a3 C.1 (fun q hq=>(A.1.lt q hq).1))
   have D:=Hd (show w1.ownsRow w.heap.size 5 1 v' (k+1) ((le m (k+1)).map V8)∧Below w.heap.size w w1 from ⟨by rw [jhp,List.map_append,← F.1];exact a2,a4⟩)
   clear a2 a3 a4 A H B C E F;go_wp2_with fail
   go_roundw
   case rel=>exact ⟨k+1,by omega,by go_num,D.1⟩
   case measure=>simp [intOf];omega
  ·
   obtain rfl:k=n:=by omega
   have D:=Hd (And.intro a0 hb);clear a0 hb;go_wp2_with fail;go_ret;exact ⟨_,rfl,D.1⟩
theorem jgw (v:Value)(l:List UInt8)(w:World)(hv:Rd w v l.length (l.map V8))(hn:l.length≤140737488355000) :
  Calls prog 177 #[v] w fun e w'=>∃ o,e=.returned o∧w'.ownsRow w.heap.size 5 1 o l.length (l.map V8)∧Below w.heap.size w w':=by
 obtain ⟨a,cap,rfl,a6,a7,_,hc⟩:=hv;have A:=Hd hc;clear hc;go_enter func177,ntmps177
 go_wp2
 go_loopw [3,4] (fun o i wr=>∃ k:Nat,k≤l.length∧i=.int .i64 k∧wr.ownsRow w.heap.size 5 1 o k ((l.take k).map V8)∧Below w.heap.size w wr) (fun _ i _=>l.length-(intOf i).toNat)
 case atStart=>exact ⟨0,by omega,rfl,World.ownsRow_nil _ _ _ _,Below.refl _ _⟩
 case round =>
  obtain ⟨k,hk,rfl,a0,hb⟩:=hrel;obtain ⟨oa,oc,rfl,_⟩:=jK a0;by_cases hlt:k<l.length
  ·
   obtain ⟨b,off,rfl,a1⟩:=A.1 k (by simpa using hlt)
   obtain ⟨x,hx⟩:=Nm (l[k]);have a2:wr.cell? ⟨b,off+k,none⟩=some (.int .u8 (x.toNat:Int)):=jf hb (by rw [a1,hx];simp [hlt,V8])
   have B:=Hd (jr a0 (ja wr (.cells #[.int .u8 (x.toNat:Int)] 5)));have H:=Hd (show Rd (wr.alloc (.cells #[.int .u8 (x.toNat:Int)] 5)) (.slice (some ⟨wr.heap.size,0,none⟩) 1 1) [x].length ([x].map V8) from jgJ wr #[V8 x] 5 [x] rfl (by show 1≤_;decide))
   have C:=Hd hb;have D:=Hd (Nat.le_trans hb.size (ja wr (.cells #[.int .u8 (x.toNat:Int)] 5)).size);have F:=Hd (show k+[x].length≤140737488355328 by rw [List.length_singleton];omega)
   have G:=Hd hx;clear a0 hb hx A a1
   go_wp2_with (at_builtin;refine jbG rfl _ _ rfl w.heap.size _ k ((l.take k).map V8) rfl B.1 _ [x] rfl H.1 F.1 D.1 ?_)
   intro v' w1 a3 a4 _;have a5:=(C.1.trans ((ja wr (.cells #[.int .u8 (x.toNat:Int)] 5)).mono C.1.size)).trans (ji a4 D.1 (fun q hq=>(B.1.lt q hq).1))
   have E:=Hd (show w1.ownsRow w.heap.size 5 1 v' (k+1) ((l.take (k+1)).map V8)∧Below w.heap.size w w1 from ⟨by rw [List.take_succ_eq_append_getElem hlt,List.map_append,← G.1];simpa using a3,a5⟩)
   clear a3 a4 a5 B H C D F G a2;go_wp2_with fail
   go_roundw
   case rel=>exact ⟨k+1,by omega,by go_num,E.1⟩
   case measure=>simp [intOf];omega
  ·
   obtain rfl:k=l.length:=by omega
   rw [List.take_of_length_le (Nat.le_refl _)] at a0;have E:=Hd (And.intro a0 hb);clear a0 hb A;go_wp2_with fail;go_ret;exact ⟨_,rfl,E.1⟩
theorem zQ {w:World}{b m n:Nat}{v:Value}{xs:List Value}(h:w.ownsRow b 5 1 v m xs)(ys:List UInt8)(hy:xs=ys.map V8)(hn:ys.length=n):∃ a c,v=.slice a n c∧w.ownsRow b 5 1 (.slice a n c) n (ys.map V8):=by
 subst hy;have hm:m=n:=by have:=jj6 h;rw [List.length_map,hn] at this;omega
 subst hm;obtain ⟨a,c,rfl,_⟩:=jK h;exact ⟨a,c,rfl,h⟩
theorem vT (v:Value)(e:UInt32)(p:List UInt8)(w:World)(hv:Rd w v p.length (p.map V8))(hp:p.length≤512) :
  Calls prog 159 #[.int .u32 (e.toNat:Int),v] w fun r w'=>∃ lv,r=.returned lv∧w'.ownsRow w.heap.size 9 1 lv (jz e p).length ((jz e p).map SV)∧Below w.heap.size w w':=by
 obtain ⟨va,vc,rfl,g7⟩:∃ a c,v=.slice a p.length c∧p.length≤c:=by obtain ⟨a,c,h,h1,_⟩:=hv;exact ⟨a,c,h,h1⟩
 have HV:=Hd hv;have g1:=e.toNat_lt;obtain ⟨en,b9⟩:=Nm (e.toNat);rw [← b9] at g1 ⊢;have He:=Hd b9;clear hv b9;have H0:=Hd (jdy w #[.int .u8 104] [104] rfl (by decide))
 have H1:=Hd (ja w (.cells #[.int .u8 104] 5));go_enter func159,ntmps159;go_wp2_with fail;refine (zz en 4 _ (by omega)).mono ?_
 rintro r w1 ⟨v1,rfl,a1,a0⟩;have O:=Hd (jr H0.1 a0);have B:=Hd (jh H1.1 a0);have H2:=Hd (jq a1);clear a1 a0 H0 H1
 go_wp2_with (at_builtin;refine jbG rfl _ _ rfl w.heap.size _ 1 _ rfl O.1 _ (le en 4) rfl (by rw [jG];exact H2.1) (by rw [jG];omega) B.1.size ?_)
 intro v2 w2 d8 d9 _;have Q:=Hd (B.1.trans (ji d9 B.1.size (fun q hq=>(O.1.lt q hq).1)))
 obtain ⟨a2,c2,rfl,e0⟩:=zQ d8 (104::le en 4) (n:=5) (by simp) (by simp [jG])
 have H3:=Hd e0;clear d8 e0 d9 O B H2;go_wp2_with fail;refine (zz p.length 2 _ (by omega)).mono ?_
 rintro r w3 ⟨v3,rfl,e3,c0⟩;have R:=Hd (jr H3.1 c0);have C:=Hd (Q.1.trans (c0.mono Q.1.size));have H4:=Hd (jq e3);clear e3 c0 H3 Q
 go_wp2_with (at_builtin;refine jbG rfl _ _ rfl w.heap.size _ 5 _ rfl R.1 _ (le p.length 2) rfl (by rw [jG];exact H4.1) (by rw [jG];omega) C.1.size ?_)
 intro v4 w4 e4 e5 _;have D:=Hd (C.1.trans (ji e5 C.1.size (fun q hq=>(R.1.lt q hq).1)))
 obtain ⟨pr,b1⟩:=Nm (pre e p.length);have a3:pr.length=7:=by rw [b1,vH]
 obtain ⟨a4,c4,rfl,e6⟩:=zQ e4 pr (n:=7) (by rw [b1];unfold pre;rw [← He.1];simp) a3
 have E:=Hd e6;have Hf:=Hd b1;have S:=Hd a3;clear e4 e6 e5 b1 a3 R C H4;go_wp2_with fail;refine (jgw (.slice a4 7 c4) pr _ (by rw [S.1];exact jq E.1) (by rw [S.1];omega)).mono ?_
 rintro r w5 ⟨v5,rfl,b2,b3⟩;have H5:=Hd (jr E.1 b3);have F:=Hd (D.1.trans (b3.mono D.1.size));rw [S.1] at b2;obtain ⟨a5,c5,rfl,_⟩:=jK b2;have G:=Hd b2;have H6:=Hd (HV.1.below F.1);have H7:=Hd b3.size;have c1:=Hd (fun k hk=>(E.1.lt k hk).2)
 clear b2 b3 E
 go_wp2_with (at_builtin;refine jbG rfl _ _ rfl w4.heap.size _ 7 (pr.map V8) rfl G.1 _ p rfl H6.1 (by omega) H7.1 ?_)
 intro v6 w6 e7 c3 _;have e8:Apart (.slice a4 7 c4) (.slice a5 7 c5):=fun k h1 h2=>by
  have:=(G.1.lt k h2).1;have:=c1.1 k h1;omega
 have H8:=Hd (xd H5.1 c3 e8);have T:=Hd (F.1.trans (ji c3 F.1.size (fun q hq=>Nat.le_trans D.1.size (G.1.lt q hq).1)))
 obtain ⟨al,c7⟩:=Nm (pr++p);obtain ⟨a6,c6,rfl,e9⟩:=zQ e7 al (n:=al.length) (by rw [c7];simp) rfl
 have Hg:=Hd c7;have H9:=Hd (jq e9);clear e7 e9 c3 e8 c7 H5 G H6 H7 F D c1;go_wp2_with fail;refine (uy _ al _ H9.1).mono ?_;rintro r w' ⟨rfl,rfl⟩;obtain ⟨cr,b4⟩:=Nm ((crc al).toNat);have g8:cr<4294967296:=by rw [b4];exact (crc al).toNat_lt
 have hI:I32 (crc al)=(cr:Int):=by rw [b4];rfl
 rw [hI];have Hh:=Hd b4;clear hI b4 H9;go_wp2_with fail;refine (zz cr 4 _ (by omega)).mono ?_
 rintro r w7 ⟨v7,rfl,f0,d0⟩;have U:=Hd (jr H8.1 d0);have I:=Hd (T.1.trans (d0.mono T.1.size));have Ha:=Hd (jq f0);clear f0 d0 H8 T
 go_wp2_with (at_builtin;refine jbG rfl _ _ rfl w.heap.size _ 7 _ rfl U.1 _ (le cr 4) rfl (by rw [jG];exact Ha.1) (by rw [jG];omega) I.1.size ?_)
 intro v8 w8 f1 f2 _;have A:=Hd (I.1.trans (ji f2 I.1.size (fun q hq=>(U.1.lt q hq).1)))
 obtain ⟨hm,b5⟩:=Nm (xr e p);have d1:hm.length=11:=by rw [b5,xz]
 obtain ⟨a8,c8,rfl,f3⟩:=zQ f1 hm (n:=11) (by rw [b5];unfold xr;rw [← Hf.1,← Hg.1,← Hh.1];simp) d1
 have V:=Hd f3;have Hi:=Hd b5;have Hp:=Hd d1;clear f1 f3 f2 b5 d1 U I Ha;obtain ⟨k,hk⟩:=Nm (min p.length 245);have d2:∀ ts t w',(Builtin.min_ ts t #[.int .i64 245,.int .i64 (p.length:Int)]).run prog w'=.ok (.int .i64 (k:Int)) w':=fun ts t w'=>jkC _ _ _ (by omega) ts t w'
 have g2:k≤p.length:=by omega
 have g3:=jhl va p.length vc k (by omega)
 obtain ⟨pt,b6⟩:=Nm (p.take 245);have a7:pt.length=k:=by rw [b6,List.length_take];omega
 have H:=Hd (show Rd w8 (.slice va k vc) pt.length (pt.map V8) by
  have:=(HV.1.below A.1).cut (m:=k) (by omega) k
  rw [← List.map_take] at this;have e1:p.take k=p.take 245:=by
   rw [hk];by_cases hc:p.length≤245
   · rw [Nat.min_eq_left hc,List.take_of_length_le (Nat.le_refl _),List.take_of_length_le hc]
   · rw [Nat.min_eq_right (by omega)]
  rw [e1,← b6] at this;rw [a7];exact this)
 have f4:11+pt.length≤140737488355328:=by omega
 have Hk:=Hd hk;have Hj:=Hd b6;have Ho:=Hd a7;clear hk b6 a7
 go_wp2_with (at_builtin;refine jbG rfl _ _ rfl w.heap.size _ 11 _ rfl V.1 _ pt rfl H.1 f4 A.1.size ?_)
 intro v9 w9 f5 f6 _;have J:=Hd (A.1.trans (ji f6 A.1.size (fun q hq=>(V.1.lt q hq).1)))
 obtain ⟨F0,d3⟩:=Nm (hm++pt);obtain ⟨a9,c9,rfl,f7⟩:=zQ f5 F0 (n:=F0.length) (by rw [d3];simp) rfl
 have kc:=vU F0 (jq f7) rfl;have Hl:=Hd d3;have Hb:=Hd (show (w9.alloc (.cells #[.string (SB F0)] 9)).ownsRow w.heap.size 9 1 (.slice (some ⟨w9.heap.size,0,none⟩) 1 1) 1 [SV F0] from
  ⟨rfl,.inr ⟨w9.heap.size,1,_,rfl,J.1.size,heap_alloc_new w9 _,Nat.le_refl _,by unfold maxLen;omega,rfl,rfl⟩⟩)
 have W:=Hd (J.1.trans ((ja w9 (.cells #[.string (SB F0)] 9)).mono J.1.size));clear f5 f7 f6 d3 V H A f4;go_wp2_with fail;clear kc g3 d2;have b7:∀ f (q:List UInt8),q.length=0→ym f q = []:=fun f q h=>by
  cases f with
  | zero=>rfl
  | succ f=>rw [ym,if_pos h]
 have Z:=Hd b7;have HF:=Hd (show [F0]++ym 3 (p.drop k)=jz e p by
  have e1:p.drop k=p.drop 245:=by
   rw [Hk.1];by_cases hc:p.length≤245
   · rw [Nat.min_eq_left hc,List.drop_eq_nil_of_le (Nat.le_refl _),List.drop_eq_nil_of_le hc]
   · rw [Nat.min_eq_right (by omega)]
  rw [e1,Hl.1,Hi.1,Hj.1];rfl)
 have Hc:=Hd (show p.length-k≤255*3 by omega)
 clear b7
 go_loopw [8,9,10] (fun x lv i wr=>∃ (c q f:Nat) (L:List (List UInt8)),c≤q∧q≤p.length∧i=.int .i64 c∧x=.int .i64 q∧wr.ownsRow w.heap.size 9 1 lv L.length (L.map SV)∧L.length≤600-(p.length-q)∧L++ym f (p.drop q)=jz e p∧p.length-q≤255*f∧Below w.heap.size w wr) (fun _ _ i _=>p.length-(intOf i).toNat)
 case atStart=>exact ⟨0,k,3,[F0],by omega,g2,rfl,rfl,Hb.1,by simp;omega,HF.1,Hc.1,W.1⟩
 case round =>
  obtain ⟨c,q,f,L,g9,h0,rfl,rfl,b0,h3,f8,h4,hb⟩:=hrel;obtain ⟨la,lc,rfl,_⟩:=jK b0;have HO:=Hd b0;have N:=Hd hb;have K:=Hd f8;clear b0 hb f8 Hb W HF Hc J;by_cases hlt:c<p.length∧q<p.length
  ·
   obtain ⟨g5,g6⟩:=hlt;obtain ⟨m,hm⟩:=Nm (min (q+255) p.length);have d2:∀ ts t w',(Builtin.min_ ts t #[.int .i64 ((q:Int)+255),.int .i64 (p.length:Int)]).run prog w'=.ok (.int .i64 (m:Int)) w':=fun ts t w'=>jkC _ _ _ (by omega) ts t w'
   have f9:=fun w'=>jhg (P:=prog) (t:=92) underlying92 (by kernel_rfl) va p.length vc q m (by omega) (by omega) w'
   have d4:=jhx (HV.1.below N.1) (k:=q) (m:=m) (by omega) (by omega)
   obtain ⟨ma,mc,d5⟩:=jcV va vc q m;obtain ⟨t,ht⟩:=Nm ((p.take m).drop q);have b8:t.length=m-q:=by rw [ht,List.length_drop,List.length_take];omega
   rw [d5,← List.map_take,← List.map_drop,← ht,← b8] at d4;simp only [d5,← b8] at f9;have kc:=vU t d4 rfl;have ha:=fun w'=>jkA w' t (by omega)
   have H:=Hd (vD wr (99::t) 9);have X:=Hd (jr HO.1 (ja wr (.cells #[.string (SB (99::t))] 9)));have Y:=Hd (Nat.le_trans N.1.size (ja wr (.cells #[.string (SB (99::t))] 9)).size);have M:=Hd (show L.length+[99::t].length≤8796093022208 by rw [List.length_singleton];omega)
   have Hm:=Hd hm;have Ht:=Hd ht;have Hn:=Hd b8;clear hm ht d5 d4 b8
   go_wp2_with (at_builtin;refine jiv rfl _ _ rfl w.heap.size _ L.length (L.map SV) rfl X.1 _ [99::t] rfl H.1 M.1 Y.1 ?_)
   intro v' w1 a1 g0 _;have a0:=(N.1.trans ((ja wr (.cells #[.string (SB (99::t))] 9)).mono N.1.size)).trans (ji g0 Y.1 (fun j hj=>(X.1.lt j hj).1))
   have HN:=Hd (show ∃ (c2 q2 f:Nat) (L:List (List UInt8)),c2≤q2∧q2≤p.length∧Value.int .i64 ((c:Int)+1)=.int .i64 c2∧Value.int .i64 (m:Int)=.int .i64 q2∧w1.ownsRow w.heap.size 9 1 v' L.length (L.map SV)∧L.length≤600-(p.length-q2)∧L++ym f (p.drop q2)=jz e p∧p.length-q2≤255*f∧Below w.heap.size w w1 by
    have hm:=Hm.1;have hf:∃ g,f=g+1:=by
     cases f with
     | zero=>omega
     | succ g=>exact ⟨g,rfl⟩
    obtain ⟨g,rfl⟩:=hf;have g4:(p.drop q).length≠0:=by rw [List.length_drop];omega
    have e1:t=(p.drop q).take 255:=by
     rw [Ht.1,hm];by_cases hc:q+255≤p.length
     · rw [Nat.min_eq_left hc,List.drop_take];congr 1;omega
     · rw [Nat.min_eq_right (by omega),List.take_of_length_le (Nat.le_refl _),List.take_of_length_le (by rw [List.length_drop];omega)]
    have e2:ym g ((p.drop q).drop 255)=ym g (p.drop m):=by
     rw [List.drop_drop,hm];by_cases hc:q+255≤p.length
     · rw [Nat.min_eq_left hc]
     · rw [Nat.min_eq_right (by omega),List.drop_eq_nil_of_le (by omega),List.drop_eq_nil_of_le (Nat.le_refl _)]
    refine ⟨c+1,m,g,L ++ [99::t],by omega,by omega,by go_num,rfl,?_,?_,?_,by omega,a0⟩
    · rw [List.length_append,List.map_append];simpa using a1
    · rw [List.length_append,List.length_singleton];omega
    ·
     have:=K.1;rw [ym,if_neg g4,e2,← e1] at this;rw [List.append_assoc];exact this)
   clear a1 g0 a0 X H Y M f9 ha kc d2 Hm Ht Hn HO N K;go_wp2_with fail
   go_roundw
   case rel=>exact HN.1
   case measure=>simp [intOf];omega
  ·
   have d7:¬ c<p.length∨(c<p.length∧¬ q<p.length):=by omega
   have hq:q=p.length:=by omega
   have d6:=K.1;rw [Z.1 f (p.drop q) (by rw [List.length_drop];omega),List.append_nil] at d6
   have HN:=Hd (show wr.ownsRow w.heap.size 9 1 (.slice la L.length lc) (jz e p).length ((jz e p).map SV) by rw [← d6];exact HO.1)
   clear d6 hq HO K hlt
   rcases d7 with h1 | ⟨h1,h2⟩
   all_goals
    go_wp2_with fail;go_ret;exact ⟨_,rfl,HN.1,N.1⟩
theorem jdd (v:Value)(e:UInt32)(p:List UInt8)(w:World)(hv:Rd w v p.length (p.map V8)) :
  Calls prog 117 #[.int .u32 (e.toNat:Int),v] w fun r w'=>(512<p.length∧r=.returned (.tuple #[.slice none 0 0,.int .i64 3])∧w'=w) ∨
   (p.length≤512∧∃ lv,r=.returned (.tuple #[lv,.int .i64 0])∧w'.ownsRow w.heap.size 9 1 lv (jz e p).length ((jz e p).map SV)∧Below w.heap.size w w'):=by
 obtain ⟨va,vc,rfl⟩:∃ a c,v=.slice a p.length c:=by obtain ⟨a,c,h,_⟩:=hv;exact ⟨a,c,h⟩
 by_cases a0:512<p.length
 ·
  have h:(512:Int)<(p.length:Int):=by omega
  go_enter func117,ntmps117;go_wp2_with fail
  go_ret2
  exact .inl ⟨a0,rfl,rfl⟩
 ·
  have h:decide ((512:Int)<(p.length:Int))=false:=by simp;omega
  have H:=Hd (vT (.slice va p.length vc) e p w hv (by omega))
  clear hv;go_enter func117,ntmps117;go_wp2_with fail;refine H.1.mono ?_;rintro r w1 ⟨lv,rfl,ho,hb⟩;have A:=Hd (And.intro ho hb);clear ho hb;go_wp2_with fail
  go_ret2
  exact .inr ⟨by omega,lv,rfl,A.1⟩
def yX (w:World)(l:LogM)(pm rp:Nat):Prop :=
 Box w pm #[.pointer (some ⟨rp,0,none⟩),.int .i64 (l.base:Int),.int .i64 (l.n:Int),.int .u32 (l.epoch.toNat:Int),.int .i64 (l.used:Int),.int .i64 (l.records:Int),.bool l.dead] 117
theorem jd5 (x:Int)(h1 : -9223372036854775808≤x)(h2:x≤9223372036854775807):IntKind.i64.wrap x=x:=by
 simp only [IntKind.wrap,IntKind.signed,IntKind.bits]
 simp
 omega
theorem jbT (d:DiskM)(rp:Nat)(G:Nat→Prop)(base n:Nat)(e:UInt32)(w:World)(h:IsRef w d rp G)(hl:d.strs.length≤4096)(h1:1≤n)(h2:base+n≤d.strs.length) :
  Calls prog 112 #[.pointer (some ⟨rp,0,none⟩),.int .i64 (base:Int),.int .i64 (n:Int),.int .u32 (e.toNat:Int)] w fun r w'=>r=.returned (.tuple #[.pointer (some ⟨w.heap.size,0,none⟩),.int .i64 0]) ∧
   yX w' ⟨base,n,e,0,0,false⟩ w.heap.size rp∧Below w.heap.size w w':=by
 obtain ⟨tv,b,_⟩:=h;have c0:=b.cell 0 _ rfl;have a0:¬ (n:Int)<1:=by omega
 have a1:¬ (base:Int)<0:=by omega
 have a2:¬ (d.strs.length:Int)<(base:Int):=by omega
 have a3:¬ ((d.strs.length:Int)-(base:Int))<(n:Int):=by omega
 clear b;go_enter func112,ntmps112;go_wp2_with fail
 go_ret2
 exact ⟨rfl,Box.new _ _ _,ja _ _⟩
theorem jbB {W:World}{b b':Nat}{e e':TypeId}{s s' n n':Nat}{v v':Value}{xs xs':List Value}(h:W.ownsRow b e s v n xs)(h':W.ownsRow b' e' s' v' n' xs')(a2:e≠e'):Apart v v':=by
 intro k hk a0
 rcases h.2 with ⟨rfl,_⟩ | ⟨g,cap,cur,rfl,_,hg,_⟩
 · simp [Value.ownBlock] at hk
 ·
  rcases h'.2 with ⟨rfl,_⟩ | ⟨g',cap',cur',rfl,_,a1,_⟩
  · simp [Value.ownBlock] at a0
  ·
   simp [Value.ownBlock] at hk a0
   subst hk;subst a0;rw [hg] at a1;injection a1 with h1;injection h1 with h2 h3 h4
   exact a2 h3
theorem jhH:(prog.info? 92).map (fun i=>(i.zero,i.size,i.bytes))=some (some (.slice none 0 0),1,24):=by kernel_rfl
theorem jky {w:World}{ops:Array Oper}{rest:List Oper}{o:Oper}{a:Act}{Q:Exit→Act→World→Prop}(a2:o.guard=none)(s x:Operand)(ho:o.op=.call { callee:=.builtin .append,args:=#[s,x],argTypes:=#[174,174] })(base:Nat)(v:Value)(n:Nat)(xs:List Value)(hs:a.eval s=v)(a1:w.ownsRow base 92 1 v n xs)(ad:Addr)(c:Nat)(y:Value)(hx:a.eval x=.slice (some ad) 1 c)(hy:w.cell? ad=some y)(h1:y.oneCell'=true)(a6:n+1≤4398046511104)(a0:base≤w.heap.size)(h:∀ v' w',w'.ownsRow base 92 1 v' (n+1) (xs ++ [y])→w.grownBy w' v.ownBlock→xe w v v'→wpList prog ops Q rest (a.put o.dst v') w'):wpList prog ops Q (o::rest) a w:=by
 obtain ⟨i0,hi,a3,a4,a5⟩:=info_parts jhH;refine ye a2 s x 174 ho base 92 i0 (.slice none 0 0) 1 24 underlying174 hi a3 a4 a5 rfl (by decide) v n xs hs a1 ad 1 c [y] hx rfl (fun j u hj=>?_) (by simpa using h1) (by unfold maxLen;omega) (by omega) a0 h
 cases j with
 | zero=>simp at hj;subst hj;rw [show ad.add 0=ad from by cases ad with | mk b o s=>cases s <;> rfl];exact hy
 | succ j=>simp at hj
def g2 (n:Nat):Nat→List UInt8→List (List UInt8)→Nat→Option (List UInt8 × Nat)
 | 0,p,_,k=>some (p,k)
 | _+1,p,[],k=>some (p,k)
 | f+1,p,s::r,k=>if p.length<n then (if s.length=0 then none else g2 n f (p++s.tail) r (k+1)) else some (p,k)
def jj0 (e:UInt32)(n:Nat)(bl:List (List UInt8)):Option (List UInt8 × Nat)→Option (List UInt8 × Nat)
 | none=>none
 | some (p,k)=>if p.length≠n then none else if jz e p=bl.take k then some (p,k) else none
def xL (e:UInt32):List (List UInt8)→Option (List UInt8 × Nat)
 | []=>none
 | b::r =>
  if b.length<11 then none else
  if 512<jL b then none else
  jj0 e (jL b) (b::r) (g2 (jL b) 3 (b.drop 11) r 1)
theorem jhr (size:Nat):∀ (f:Nat) (q p:List UInt8) (t:List (List UInt8)) (k:Nat),q.length≤255*f→p.length+q.length=size →
  g2 size f p (ym f q++t) k=some (p++q,k+(ym f q).length)
 | 0,q,p,t,k,hq,hs=>by
  have:q = []:=List.eq_nil_of_length_eq_zero (by omega)
  subst this
  simp [g2,ym]
 | f+1,q,p,t,k,hq,hs=>by
  rw [ym];by_cases h0:q.length=0
  ·
   have:q = []:=List.eq_nil_of_length_eq_zero h0;subst this;simp only [List.length_nil,if_true,List.nil_append,List.append_nil,Nat.add_zero]
   cases t with
   | nil=>rfl
   | cons s t=>rw [g2,if_neg (by simp at hs;omega)]
  ·
   rw [if_neg h0,List.cons_append,g2,if_pos (by omega),if_neg (by simp),List.tail_cons,
    jhr size f (q.drop 255) (p++q.take 255) t (k+1) (by simp;omega) (by simp;omega)]
   simp only [List.append_assoc,List.take_append_drop,List.length_cons,Option.some.injEq,Prod.mk.injEq,true_and];omega
theorem jj9 (size:Nat):∀ (f:Nat) (p:List UInt8) (r:List (List UInt8)) (k:Nat) (q:List UInt8) (k':Nat),g2 size f p r k=some (q,k')→k≤k'∧k'≤k+r.length
 | 0,p,r,k,q,k',h=>by
  rw [g2] at h;injection h with h;injection h with h1 h2;omega
 | f+1,p,[],k,q,k',h=>by
  rw [g2] at h;injection h with h;injection h with h1 h2;simp;omega
 | f+1,p,s::r,k,q,k',h=>by
  rw [g2] at h;by_cases h1:p.length<size
  ·
   rw [if_pos h1] at h;by_cases h2:s.length=0
   · rw [if_pos h2] at h;cases h
   ·
    rw [if_neg h2] at h;have:=jj9 size f _ r (k+1) q k' h;rw [List.length_cons];omega
  ·
   rw [if_neg h1] at h;injection h with h;injection h with h1 h2
   rw [List.length_cons];omega
theorem jg4 (e:UInt32)(bl:List (List UInt8)):xL e bl=vb e bl:=by
 have h1:∀ p k,xL e bl=some (p,k)→vb e bl=some (p,k):=by
  intro p k h
  cases bl with
  | nil=>cases h
  | cons b r =>
   rw [xL] at h;by_cases h1:b.length<11
   · rw [if_pos h1] at h;cases h
   rw [if_neg h1] at h;by_cases h2:512<jL b
   · rw [if_pos h2] at h;cases h
   rw [if_neg h2] at h
   cases hg:g2 (jL b) 3 (b.drop 11) r 1 with
   | none=>rw [hg] at h;cases h
   | some x =>
    obtain ⟨p',k'⟩:=x;rw [hg] at h;simp only [jj0] at h;by_cases h3:p'.length≠jL b
    · rw [if_pos h3] at h;cases h
    rw [if_neg h3] at h;by_cases h4:jz e p'=(b::r).take k'
    ·
     rw [if_pos h4] at h;injection h with h;injection h with e1 e2
     subst e1;subst e2;have a3:=jj9 _ _ _ _ _ _ _ hg;refine (zi _ _ _ _).2 ⟨by omega,?_,h4.symm⟩
     rw [h4,List.length_take,List.length_cons];omega
    · rw [if_neg h4] at h;cases h
 have h2:∀ p k,vb e bl=some (p,k)→xL e bl=some (p,k):=by
  intro p k h;obtain ⟨h5,hk,ht⟩:=(zi _ _ _ _).1 h;have a0:bl=jz e p++bl.drop k:=by rw [← ht,List.take_append_drop]
  rw [a0];have a1:=jbI e p (p.take 245) h5;have hl:=xz e p;have hd:(xr e p++p.take 245).drop 11=p.take 245:=by rw [← hl,List.drop_left]
  unfold jz;rw [List.cons_append,xL,if_neg (by simp [hl]),a1,if_neg (by omega),hd,jhr p.length 3 (p.drop 245) (p.take 245) (bl.drop k) 1 (by simp;omega) (by simp;omega),List.take_append_drop]
  simp only [jj0];have a2:1+(ym 3 (p.drop 245)).length=(jz e p).length:=by unfold jz;rw [List.length_cons];omega
  rw [if_neg (by simp),a2,if_pos ?_,← hk]
  have:(xr e p++p.take 245)::(ym 3 (p.drop 245)++bl.drop k)=jz e p++bl.drop k:=rfl;rw [this,List.take_left]
 cases ho:vb e bl with
 | some x=>obtain ⟨p,k⟩:=x;exact h2 p k ho
 | none =>
  cases hr:xL e bl with
  | none=>rfl
  | some x=>obtain ⟨p,k⟩:=x;rw [h1 p k hr] at ho;cases ho
end Go.Proofs.YtgcnolapjppbpaaGreatDoor
