/- Texts of one proof. -/
import Derived.Test.YtgcnolapjppbpaaGreatDoorK02
import Derived.Test.YtgcnolapjppbpaaGreatDoorK03
namespace Go.Proofs.YtgcnolapjppbpaaGreatDoor
open Go.RowKit _root_.Go.Proofs.Tryz
set_option maxRecDepth 100000
set_option maxHeartbeats 25600000
variable {p:List UInt8}{c b:Int}{s:SesM}{l:List SesM}{goes:SesM->Bool}{G:List Int}
def le (v:Nat):Nat->List UInt8
 | 0 => []
 | n+1=>UInt8.ofNat v::le (v / 256) n
theorem jC (v n:Nat):(le v n).length=n:=by induction n generalizing v with | zero=>rfl | succ n ih=>simp [le,ih]
def pre (e:UInt32)(n:Nat):List UInt8:=104::(le e.toNat 4++le n 2)
def xt (e:UInt32)(p:List UInt8):List UInt8:=pre e p.length++le (crc (pre e p.length++p)).toNat 4
theorem vx (e:UInt32)(n:Nat):(pre e n).length=7:=by simp [pre,jC]
theorem xq (e:UInt32)(p:List UInt8):(xt e p).length=11:=by simp [xt,vx,jC]
def yl:Nat->List UInt8->List (List UInt8)
 | 0,_ => []
 | f+1,p=>if p.length=0 then [] else (99::p.take 255)::yl f (p.drop 255)
def jf (e:UInt32)(p:List UInt8):List (List UInt8):=(xt e p++p.take 245)::yl 3 (p.drop 245)
def yv (size:Nat):List UInt8->List (List UInt8)->Nat->List UInt8 × Nat
 | p,[],n=>(p,n)
 | p,s::r,n=>if p.length<size then (if s.length=1+min (size-p.length) 255/\s.head?=some 99 then yv size (p++s.tail) r (n+1) else (p,n)) else (p,n)
def jK (b:List UInt8):Nat:=(b.getD 5 0).toNat+256*(b.getD 6 0).toNat
def zH (e:UInt32):List (List UInt8)->Option (List UInt8 × Nat)
 | []=>none
 | b::r =>
  if b.length<11 then none else
  if jK b > 512\/b.length≠11+min (jK b) 245 then none else
  let g:=yv (jK b) (b.drop 11) r 1
  if g.1.length≠jK b\/xt e g.1≠b.take 11 then none else some g
def jno (e:UInt32)(l:List (List UInt8))(p:List UInt8)(k:Nat):Prop:=p.length<=512/\k=(jf e p).length/\l.take k=jf e p
theorem jcE (e:UInt32)(p q:List UInt8)(h:p.length<=512):jK (xt e p++q)=p.length:=by
 have h5:(xt e p++q).getD 5 0=UInt8.ofNat p.length:=by simp [xt,pre,le]
 have h6:(xt e p++q).getD 6 0=UInt8.ofNat (p.length / 256):=by simp [xt,pre,le]
 unfold jK;rw [h5,h6];have a1:(UInt8.ofNat p.length).toNat=p.length % 256:=by show p.length % 2 ^ 8=_;rfl
 have a2:(UInt8.ofNat (p.length / 256)).toNat=p.length / 256 % 256:=by show p.length / 256 % 2 ^ 8=_;rfl
 rw [a1,a2];omega
theorem jcz (size:Nat):∀ (f:Nat) (q p:List UInt8) (t:List (List UInt8)) (n:Nat),q.length<=255*f->p.length+q.length=size ->
  yv size p (yl f q++t) n=(p++q,n+(yl f q).length)
 | 0,q,p,t,n,hq,hs=>by
  have:q = []:=qw (by omega)
  subst this;simp only [yl,wt,qF,wN,qT]
  cases t with
  | nil=>rfl
  | cons s t=>rw [yv,qh (by simp at hs;omega)]
 | f+1,q,p,t,n,hq,hs=>by
  rw [yl];by_cases h0:q.length=0
  .
   have:q = []:=qw h0;subst this;simp only [wN,pB,wt,qF,qT]
   cases t with
   | nil=>rfl
   | cons s t=>rw [yv,qh (by simp at hs;omega)]
  .
   rw [qh h0,po,yv,qf (by omega),qf ⟨by simp;omega,rfl⟩,List.tail_cons,
    jcz size f (q.drop 255) (p++q.take 255) t (n+1) (by simp;omega) (by simp;omega)]
   simp only [qB,qU,qp,Prod.mk.injEq,true_and];omega
theorem jdE (e:UInt32)(p:List UInt8)(t:List (List UInt8))(h:p.length<=512):zH e (jf e p++t)=some (p,(jf e p).length):=by
 have a0:=jcE e p (p.take 245) h;have hl:=xq e p;unfold jf;rw [po,zH];rw [qh (by simp [hl]),a0,qh (by simp [hl];omega)]
 have hd:(xt e p++p.take 245).drop 11=p.take 245:=by rw [<- hl,py]
 have ht:(xt e p++p.take 245).take 11=xt e p:=by rw [<- hl,kb]
 rw [hd,ht,jcz p.length 3 (p.drop 245) (p.take 245) t 1 (by simp;omega) (by simp;omega),qU]
 simp only [ne_eq,not_true_eq_false,or_self,ks,qp,Option.some.injEq,Prod.mk.injEq,true_and];omega
theorem jcH (size:Nat):∀ (f:Nat) (r:List (List UInt8)) (p:List UInt8) (n:Nat),(yv size p r n).1.length=size->size-p.length<=255*f->p.length<=size ->
  ∃ q,(yv size p r n).1=p++q/\q.length=size-p.length/\(yv size p r n).2=n+(yl f q).length/\r.take (yl f q).length=yl f q
 | f,[],p,n,hg,hf,hp=>by
  rw [yv] at hg |-;refine ⟨[],by simp,by simp at hg |-;omega,?_,?_⟩
  . cases f <;> simp [yl]
  . cases f <;> simp [yl]
 | f,s::r,p,n,hg,hf,hp=>by
  rw [yv] at hg |-;by_cases h1:p.length<size
  .
   rw [qf h1] at hg |-;by_cases h2:s.length=1+min (size-p.length) 255/\s.head?=some 99
   .
    rw [qf h2] at hg |-;obtain ⟨h2,h3⟩:=h2
    match f,hf with
    | 0,hf=>omega
    | f+1,hf =>
     have a0:s.tail.length=min (size-p.length) 255:=by simp;omega
     obtain ⟨q,g1,g2,g3,g4⟩:=jcH size f r (p++s.tail) (n+1) hg (by rw [qd,a0];omega) (by rw [qd,a0];omega)
     rw [qd,a0] at g2;have a1:(s.tail++q).length≠0:=by rw [qd,a0];omega
     have ht:(s.tail++q).take 255=s.tail:=by
      by_cases hc:size-p.length<=255
      .
       have:q = []:=qw (by omega)
       subst this;rw [qF,ql (by omega)]
      . rw [wU (by omega),ql (by omega)]
     have hd:(s.tail++q).drop 255=q:=by
      by_cases hc:size-p.length<=255
      .
       have:q = []:=qw (by omega)
       subst this;rw [qF,qN (by omega)]
      .
       have:s.tail.length=255:=by omega
       rw [<- this,py]
     have hs:99::s.tail=s:=by
      cases s with
      | nil=>simp at h3
      | cons a s=>simp at h3;rw [h3];rfl
     refine ⟨s.tail++q,by rw [g1,qB],by rw [qd,a0];omega,?_,?_⟩
     . rw [yl,qh a1,hd,qp,g3];omega
     . rw [yl,qh a1,hd,ht,qp,pH,g4,hs]
   .
    rw [qh h2] at hg;simp only at hg;omega
  .
   rw [qh h1] at hg |-;refine ⟨[],by simp,by simp;omega,?_,?_⟩
   . cases f <;> simp [yl]
   . cases f <;> simp [yl]
theorem zv (e:UInt32)(l:List (List UInt8))(p:List UInt8)(k:Nat):zH e l=some (p,k)↔jno e l p k:=by
 constructor
 .
  intro h
  cases l with
  | nil=>cases h
  | cons b r =>
   rw [zH] at h;by_cases h1:b.length<11
   . rw [qf h1] at h;cases h
   rw [qh h1] at h;by_cases h2:jK b > 512\/b.length≠11+min (jK b) 245
   . rw [qf h2] at h;cases h
   rw [qh h2] at h;simp only at h;by_cases h3:(yv (jK b) (b.drop 11) r 1).1.length≠jK b\/xt e (yv (jK b) (b.drop 11) r 1).1≠b.take 11
   . rw [qf h3] at h;cases h
   rw [qh h3] at h;simp only [not_or,Decidable.not_not] at h3;obtain ⟨h4,h5⟩:=h3;have hb:b.length=11+min (jK b) 245:=by
    by_cases hb:b.length=11+min (jK b) 245
    . exact hb
    . exact absurd (.inr hb) h2
   have a0:jK b<=512:=by
    by_cases hs:jK b<=512
    . exact hs
    . exact absurd (.inl (by omega)) h2
   obtain ⟨q,g1,g2,g3,g4⟩:=jcH (jK b) 3 r (b.drop 11) 1 h4 (by simp;omega) (by simp;omega)
   simp only [Option.some.injEq] at h;rw [h] at g1 g3 h4 h5;simp only at g1 g3 h4 h5;have a1:(b.drop 11).length=min (jK b) 245:=by simp;omega
   have ht:p.take 245=b.drop 11:=by
    rw [g1];by_cases hc:jK b<=245
    .
     have:q = []:=qw (by omega)
     subst this;rw [qF,ql (by omega)]
    . rw [wU (by omega),ql (by omega)]
   have hd:p.drop 245=q:=by
    rw [g1];by_cases hc:jK b<=245
    .
     have:q = []:=qw (by omega)
     subst this;rw [qF,qN (by omega)]
    .
     have:(b.drop 11).length=245:=by omega
     rw [<- this,py]
   refine ⟨by omega,?_,?_⟩
   . unfold jf;rw [qp,hd,g3];omega
   .
    unfold jf;rw [hd,ht,h5,g3,qU,Nat.add_comm,pH,g4]
 .
  rintro ⟨h1,h2,h3⟩;have:=jdE e p (l.drop k) h1;rw [<- h3,qU] at this;rw [this,h3,h2]
theorem us (e:UInt32)(p:List UInt8):0<(jf e p).length:=by simp [jf]
theorem vY {e:UInt32}{l:List (List UInt8)}{k:Nat}(h:zH e l=some (p,k)):0<k/\k<=l.length:=by
 obtain ⟨h1,h2,h3⟩:=(zv e l p k).1 h;have:=us e p;refine ⟨by omega,?_⟩
 have:=congrArg List.length h3
 simp at this;omega
theorem jjd (m n:Nat):le m (n+1)=le m n ++ [UInt8.ofNat (m / 256 ^ n)]:=by
 induction n generalizing m with
 | zero=>simp [le]
 | succ n ih=>rw [le,ih (m / 256),le,po,Nat.div_div_eq_div_mul,Nat.pow_succ,wS (256 ^ n)]
theorem jh7 (m:Nat):V8 (UInt8.ofNat m)=.int .u8 ((m:Int) % 256):=by
 unfold V8;have:(UInt8.ofNat m).toNat=m % 256:=by show m % 2 ^ 8=_;rfl
 rw [this];congr 1
theorem uu (B:Nat)(v:Value)(xs:List UInt8)(m n:Nat)(w:World)(hv:w.ownsRow B 5 1 v xs.length (xs.map V8))(hB:B<=w.heap.size)(hm:m<4294967296)(hn:n<=4)(hx:xs.length<=140737488355000) :
  Calls prog 130 #[v,.int .u32 (m:Int),(n:Int)] w fun e w'=>∃ v',e=.returned v'/\w'.ownsRow B 5 1 v' (xs.length+n) ((xs++le m n).map V8)/\Below B w w':=by
 obtain ⟨va,vc,rfl,_⟩:∃ a c,v=.slice a xs.length c/\True:=by
  rcases hv.2 with ⟨rfl,h0⟩ | ⟨g,cap,cur,rfl,_⟩
  . exact ⟨_,_,by rw [h0],trivial⟩
  . exact ⟨_,_,rfl,trivial⟩
 have C:=Hd hv;have K:=Hd hm;clear hv hm;go_enter func130,ntmps130;go_wp2
 go_loopg [0,1,8] n (fun gk v x i wr=>∃ (k:Nat),gk+k=n/\i=.int .i64 (k:Int)/\x=.int .u32 ((m / 256 ^ k:Nat):Int)/\wr.ownsRow B 5 1 v (xs.length+k) ((xs++le m k).map V8)/\Below B w wr)
 case atStart=>exact ⟨0,by omega,rfl,by simp,by simpa [le] using C.1,qG _ _⟩
 case round =>
  clear C;obtain ⟨k,a3,rfl,rfl,a0,hb⟩:=hrel;have hs:=hb.size;have b2:(0:Int)<=(k:Int):=by omega
  have A:=Hd a3;have L:=Hd hb;obtain ⟨q,hq⟩:=Nm (m / 256 ^ k);have b0:q<4294967296:=by rw [hq];exact Nat.lt_of_le_of_lt (Nat.div_le_self _ _) K.1
  have b3:(q:Int)<4294967296:=by omega
  have b4:(0:Int)<=(q:Int):=by omega
  have a5:q / 256=m / 256 ^ (k+1):=by rw [hq,Nat.div_div_eq_div_mul,Nat.pow_succ]
  rw [<- hq];obtain ⟨ra,rc,b1⟩:∃ a c,u0=.slice a (xs.length+k) c:=by
   rcases a0.2 with ⟨h,h0⟩ | ⟨g,cap,cur,h,_⟩
   . exact ⟨_,_,by rw [h,h0]⟩
   . exact ⟨_,_,h⟩
  subst b1;have a4:=jjd m k;rw [<- hq] at a4;have a1:=a0.alloc (.cells #[.int .u8 ((q:Int) % 256)] 5);have H:=Hd (hb.trans ((ja wr (.cells #[.int .u8 ((q:Int) % 256)] 5)).mono (by omega)))
  have D:=Hd a1;have E:=Hd a4;have F:=Hd a5;have G:=Hd a0;clear hb a0 a1 a4 a5 hq b0;by_cases hk:k<n
  .
   have b5:(k:Int)<(n:Int):=by omega
   clear a3
   go_wp2_with (at_builtin;refine jmH rfl _ _ rfl B _ _ _ rfl D.1 ⟨wr.heap.size,0,none⟩ 1 1 [.int .u8 ((q:Int) % 256)] rfl rfl (pM _ _ _) (by simp [Value.oneCell']) (by omega) (qi hB H.1.size) ?_)
   intro v' w1 a2 a7 _;have I:=Hd (H.1.trans (je a7 (qi hB H.1.size) (fun q hq=>(G.1.lt q hq).1)))
   have a9:w1.ownsRow B 5 1 v' (xs.length+(k+1)) ((xs++le m (k+1)).map V8):=by
    rw [E.1,qM,qM];rw [wK,pF,jh7];exact a2
   have J:=Hd a9;clear a2 a7 a9;go_wp2
   go_roundg (n-(k+1))
   case measure=>have:=A.1;omega
   case rel=>exact ⟨k+1,by have:=A.1;omega,by go_num,by rw [<- F.1];simp,J.1,I.1⟩
  .
   obtain rfl:k=n:=by omega
   clear a3;go_wp2;go_ret;exact ⟨_,rfl,G.1,L.1⟩
theorem jea (v:Value)(e:UInt32)(p:List UInt8)(w:World)(hv:Rd w v p.length (p.map V8))(hp:p.length<=512) :
  Calls prog 98 #[.int .u32 (e.toNat:Int),v] w fun r w'=>∃ v',r=.returned v'/\w'.ownsRow w.heap.size 5 1 v' 11 ((xt e p).map V8)/\Below w.heap.size w w':=by
 obtain ⟨va,vc,rfl⟩:∃ a c,v=.slice a p.length c:=by obtain ⟨a,c,h,_⟩:=hv;exact ⟨a,c,h⟩
 have b4:(w.alloc (.cells #[.int .u8 104] 5)).ownsRow w.heap.size 5 1 (.slice (some ⟨w.heap.size,0,none⟩) 1 1) ([(104:UInt8)]).length (([(104:UInt8)]).map V8) :=
  ⟨rfl,.inr ⟨w.heap.size,1,_,rfl,qm _,ww w _,qm _,by unfold maxLen;omega,rfl,rfl⟩⟩
 have X:=Hd hv;have T:=Hd (ja w (.cells #[.int .u8 104] 5));have F:=Hd (uu w.heap.size _ [104] e.toNat 4 _ b4 (by simp) e.toNat_lt (by omega) (by simp))
 clear hv b4;go_enter func98,ntmps98;go_wp2_with fail;refine F.1.mono ?_;rintro r w1 ⟨b1,rfl,b6,b8⟩;have A:=Hd (T.1.trans b8);have G:=Hd (uu w.heap.size b1 (104::le e.toNat 4) p.length 2 w1 (by simpa [jC] using b6) A.1.size (by omega) (by omega) (by simp [jC]))
 clear b6 b8 F T;go_wp2_with fail;refine G.1.mono ?_;rintro r w2 ⟨b2,rfl,a1,c0⟩;have a1:w2.ownsRow w.heap.size 5 1 b2 (pre e p.length).length ((pre e p.length).map V8):=by
  have:=a1;simpa [pre,jC] using this
 have B:=Hd (A.1.trans c0);have C:=Hd a1;have d0:=B.1.size;clear a1 c0 G A;go_wp2_with fail;refine (jbs w2).mono ?_;rintro r w3 ⟨rfl,rfl⟩;obtain ⟨w3,a2⟩:=Nm (w2.alloc (.cells #[.int .u32 (I32 0)] 256));rw [<- a2];obtain ⟨s,hs⟩:=Nm (w2.heap.size);rw [<- hs];have a3:Box w3 s #[.int .u32 (I32 0)] 256:=by rw [a2,hs];exact Box.new _ _ _
 have a4:=jq C.1 (ja w2 (.cells #[.int .u32 (I32 0)] 256));have a7:=B.1.trans ((ja w2 (.cells #[.int .u32 (I32 0)] 256)).mono d0);rw [<- a2] at a4 a7;have c1:∀ k,b2.ownBlock=some k->k≠s:=fun k hk e=>by have:=(C.1.lt k hk).2;omega
 have I:=Hd a3;have J:=Hd a4;have D:=Hd a7;have K:=Hd c1;have d1:w.heap.size<=s:=by omega
 have L:=Hd (jcn ⟨s,0,none⟩ 0 b2 (pre e p.length) w3 (a3.cell 0 _ rfl) (a3.free 0) (js a4));clear a3 a4 a7 c1 a2 hs C B;go_wp2_with fail;refine L.1.mono ?_;rintro r w4 ⟨rfl,a5⟩;obtain ⟨r1,a8⟩:∃ r1:UInt32,r1 = ~~~(zr (~~~0) (pre e p.length)):=⟨_,rfl⟩;rw [<- a8] at a5;have a9:Mod (fun q=>q=s) w3 w4:=by rw [a5];exact Mod.set (fun q=>q=s) w3 ⟨s,0,none⟩ _ rfl
 have a6:Box w4 s #[.int .u32 (I32 r1)] 256:=by rw [a5];simpa using I.1.set 0 (.int .u32 (I32 r1))
 have M:=Hd (yG J.1 a9 (fun k hk=>K.1 k hk))
 have H:=Hd (D.1.trans (a9.below D.1.size (fun q hq=>by omega)))
 have N:=Hd a6;have O:=Hd (jcn ⟨s,0,none⟩ r1 (.slice va p.length vc) p w4 (a6.cell 0 _ rfl) (a6.free 0) (X.1.below H.1));have P:=Hd a8;clear a5 a9 a6 I J D L a8;go_wp2_with fail;refine O.1.mono ?_;rintro r w5 ⟨rfl,a0⟩;have c4 : ~~~(zr (~~~r1) p)=crc (pre e p.length++p):=by
  rw [P.1];unfold crc;rw [jeP];simp;rfl
 rw [c4] at a0;obtain ⟨cv,b0⟩:=Nm (crc (pre e p.length++p));rw [<- b0] at a0;have b3:Mod (fun q=>q=s) w4 w5:=by rw [a0];exact Mod.set (fun q=>q=s) w4 ⟨s,0,none⟩ _ rfl
 have c5:Box w5 s #[.int .u32 (I32 cv)] 256:=by rw [a0];simpa using N.1.set 0 (.int .u32 (I32 cv))
 have Q:=Hd (yG M.1 b3 (fun k hk=>K.1 k hk))
 have E:=Hd (H.1.trans (b3.below H.1.size (fun q hq=>by omega)))
 have R:=Hd (jcP ⟨s,0,none⟩ (.int .u32 (I32 cv)) w5 (c5.cell 0 _ rfl));have U:=Hd b0;clear a0 b3 c5 N M H O c4 b0 P;go_wp2_with fail;refine R.1.mono ?_;rintro r w6 ⟨rfl,rfl⟩;have S:=Hd (uu w.heap.size b2 (pre e p.length) cv.toNat 4 w5 Q.1 E.1.size cv.toNat_lt (by omega) (by rw [vx];omega))
 clear R;unfold I32;go_wp2_with fail;refine S.1.mono ?_;rintro r w7 ⟨b7,rfl,c8,c9⟩;have V:=Hd (E.1.trans c9);have W:=Hd c8;clear c8 c9 S Q E;go_wp2;go_ret;refine ⟨_,rfl,?_,V.1⟩;have:=W.1;rw [vx] at this;unfold xt;rw [<- U.1];exact this
theorem jnu (c5 c6:Nat)(h5:c5<256)(h6:c6<256):bits .or .i64 (c5:Int) ((c6:Int)*256)=((c5+256*c6:Nat):Int):=by
 have e:((c6:Int)*256)=((c6*256:Nat):Int):=by omega
 have hx:c5 ||| (c6*256)<2 ^ 16:=Nat.or_lt_two_pow (by omega) (by omega)
 have ho:∀ n:Nat,n<65536->(BitVec.ofInt 64 (n:Int)).toNat=n:=fun n hn=>by rw [p7];omega
 rw [e];show IntKind.i64.wrap ((BitVec.ofInt 64 (c5:Int) ||| BitVec.ofInt 64 ((c6*256:Nat):Int)).toNat:Int)=_
 rw [BitVec.toNat_or,ho c5 (by omega),ho (c6*256) (by omega)]
 have a0:IntKind.i64.wrap ((c5 ||| (c6*256):Nat):Int)=((c5 ||| (c6*256):Nat):Int):=by rw [IntKind.wrap_i64];omega
 rw [a0];have:c5 ||| (c6*256)=c6*256+c5:=by
  rw [show (256:Nat)=2 ^ 8 from rfl,Nat.or_comm,<- Nat.shiftLeft_eq,Nat.shiftLeft_add_eq_or_of_lt (by omega)]
 omega
theorem jbq (e:UInt32)(b:List UInt8)(r:List (List UInt8))(a0:¬ b.length<11)(a1:¬ (jK b > 512\/b.length≠11+min (jK b) 245)){k:Nat}(hg:yv (jK b) (b.drop 11) r 1=(p,k)) :
  zH e (b::r)=if p.length≠jK b\/xt e p≠b.take 11 then none else some (p,k):=by
 rw [zH,qh a0,qh a1];simp only [hg]
theorem jiS (size:Nat)(p:List UInt8)(l:List (List UInt8))(n:Nat)(h:¬ p.length<size):yv size p l n=(p,n):=by
 cases l with
 | nil=>rfl
 | cons s r=>rw [yv,qh h]
theorem jdr (size:Nat)(p s:List UInt8)(r:List (List UInt8))(n:Nat)(h:¬ (s.length=1+min (size-p.length) 255/\s.head?=some 99)):yv size p (s::r) n=(p,n):=by
 rw [yv];by_cases h1:p.length<size
 . rw [qf h1,qh h]
 . rw [qh h1]
structure KR (w:World)(v:Value)(p b:List UInt8)(B off:Nat)(w':World):Prop where
 cell:w'.cell? ⟨B,off,none⟩=some (.string (SB b))
 rd:Rd w' v p.length (p.map V8)
 below:Below w.heap.size w w'
theorem KR.keep {w:World}{v:Value}{b:List UInt8}{B off:Nat}{w1 w2:World}(h:KR w v p b B off w1)(hb:Below w1.heap.size w1 w2):KR w v p b B off w2:=⟨jc hb h.cell,h.rd.below hb,h.below.trans (hb.mono h.below.size)⟩
theorem je9 (e:UInt32)(lv:Value)(bl:List (List UInt8))(w:World)(hl:Rd w lv bl.length (bl.map SV))(a7:∀ b∈bl,b.length<=9223372036854775807) :
  Calls prog 164 #[.int .u32 (e.toNat:Int),lv] w fun r w'=>Below w.heap.size w w'/\((zH e bl=none/\r=.returned (.tuple #[.slice none 0 0,(0:Int)])) \/
   ∃ p k v,zH e bl=some (p,k)/\r=.returned (.tuple #[v,(k:Int)])/\OwnM w' w.heap.size 5 v p.length (p.map V8)):=by
 have f7:=hl.len;obtain ⟨la,lc,rfl⟩:∃ a c,lv=.slice a bl.length c:=by obtain ⟨a,c,h,_⟩:=hl;exact ⟨a,c,h⟩
 cases hbl:bl with
 | nil =>
  subst hbl;clear hl a7 f7;simp only [wN];have i8:(((0:Nat):Int)==0)=true:=rfl;go_enter func164,ntmps164;go_wp2
  go_step3
  go_wp2_with fail
  try rw [wT]
  go_ret2
  exact ⟨qG _ _,.inl ⟨rfl,rfl⟩⟩
 | cons b r =>
  have b0:0<bl.length:=by rw [hbl];simp
  have a2:∃ B off,la=some ⟨B,off,none⟩/\w.cell? ⟨B,off,none⟩=some (.string (SB b)):=by
   obtain ⟨B,off,cap,e1,e2⟩:=hl.at 0 (by simpa using b0)
   injection e1 with e1
   refine ⟨B,off,e1,?_⟩;rw [qT] at e2;rw [e2,hbl];rfl
  obtain ⟨B,off,rfl,a2⟩:=a2;have i2:((bl.length:Int)==0)=false:=by simp;exact List.ne_nil_of_length_pos b0
  have i3:(0:Int)<bl.length:=by omega
  have H6:=Hd a7;have HL:=Hd hl;have H:=Hd hbl;have H7:=Hd (jaE a2);have i9:b.length<=9223372036854775807:=a7 b (by rw [hbl];simp)
  clear hl a7;rw [<- hbl];clear hbl;go_enter func164,ntmps164;by_cases h11:b.length<11
  .
   have hd:(b.length:Int)<11:=by omega
   go_wp2
   go_step3
   go_wp2_with fail
   try rw [wT]
   go_ret2
   refine ⟨qG _ _,.inl ⟨?_,rfl⟩⟩;rw [H.1,zH,qf h11]
  .
   have hd:decide ((b.length:Int)<11)=false:=by simp;omega
   go_wp2
   go_step3
   go_wp2_with fail;obtain ⟨c5,b1⟩:=Nm ((b.getD 5 0).toNat);obtain ⟨c6,b2⟩:=Nm ((b.getD 6 0).toNat);have g2:∀ w',(Instr.index 9 (.string (SB b)) (5:Int)).run prog w'=.ok (.int .u8 (c5:Int)) w':=fun w'=>by rw [b1];exact xL w' b 5 (by omega)
   have g3:∀ w',(Instr.index 9 (.string (SB b)) (6:Int)).run prog w'=.ok (.int .u8 (c6:Int)) w':=fun w'=>by rw [b2];exact xL w' b 6 (by omega)
   have g4:(5:Int)<(b.length:Int):=by omega
   have g5:(6:Int)<(b.length:Int):=by omega
   have h5:c5<256:=by rw [b1];exact ka _
   have h6:c6<256:=by rw [b2];exact ka _
   have d7:=jnu c5 c6 h5 h6;have b9:jK b=c5+256*c6:=by rw [b1,b2];rfl
   obtain ⟨sz,c1⟩:=Nm (c5+256*c6);rw [<- c1] at d7 b9;have C:=Hd b9;have f8:sz<65536:=by omega
   clear b9 b1 b2 c1;have g6:wrap64 (c5:Int)=c5:=(by unfold wrap64;omega)
   have g7:wrap64 (c6:Int)=c6:=(by unfold wrap64;omega)
   have g8:wrap64 ((c6:Int)*256)=(c6:Int)*256:=(by unfold wrap64;omega)
   go_quiet (fail)
   obtain ⟨w1,c2⟩:=Nm (w.drewN nq);rw [<- c2];have a9:Below w.heap.size w w1:=by rw [c2];exact ⟨rfl,rfl,rfl,qm _,fun _ _=>rfl⟩
   have g9:=jc a9 a2;have V:=Hd (HL.1.below a9);have F:=Hd a9;have c3:=a9.size;clear c2 a9 a2 HL d7 g6 g7 g8 g2 g3 g4 g5 h5 h6;by_cases h512:512<sz
   .
    have hg:(512:Int)<(sz:Int):=by omega
    go_wp2_with fail
    try rw [wT]
    go_ret2
    refine ⟨F.1,.inl ⟨?_,rfl⟩⟩;rw [H.1,zH,qh h11,qf (.inl (by rw [C.1];exact h512))]
   .
    have hg:decide ((512:Int)<(sz:Int))=false:=by simp;omega
    obtain ⟨mn,d8⟩:=Nm (min sz 245);have h0:∀ ts t w',(Builtin.min_ ts t #[(sz:Int),(245:Int)]).run prog w'=.ok (mn:Int) w':=fun ts t w'=>by
     rw [pL]
     congr 2
     by_cases h:(245:Int)<(sz:Int)
     . rw [qf h];omega
     . rw [qh h];omega
    have f9:mn<=245:=by omega
    have G:=Hd d8;clear d8;by_cases hlb:b.length=11+mn
    .
     have h4:(b.length:Int)=11+(mn:Int):=by omega
     obtain ⟨p0,b3⟩:=Nm (b.drop 11);have a8:p0.length=mn:=by rw [b3,qn];omega
     have a6:(Instr.slice 9 (.string (SB b)) (some (.int .i64 11)) none none).run prog w1=.ok (.string (SB p0)) w1:=by rw [b3];exact jbU w1 b 11 (by omega)
     have b4:=jkK w1 p0;have a1:=jeu w1 p0 5 (by omega)
     have c4:=F.1.trans ((ux w1 5 (SB p0)).mono c3);rw [a8] at b4 a1;obtain ⟨w2,c7⟩:=Nm (Lib.bytesWorld w1 5 (SB p0));obtain ⟨v0,d9⟩:=Nm (Value.slice (some ⟨w1.heap.size,0,none⟩) mn (grownCap w1 mn 0 5));rw [<- c7] at a1 b4 c4;rw [<- d9] at a1 b4;have W:=Hd c4;have X:=Hd (Rd.below (w':=w2) V.1 (by rw [c7];exact ux _ _ _))
     have M:=Hd (a1.lower c3);have H8:=Hd hlb;have Y:=Hd b3;clear c7 d9 a1 c4 F V hlb b3;go_wp2_with fail;clear h0 b4 a6 h4
     go_step3
     go_wp2_with fail;have e0:yv sz p0 (bl.drop 1) 1=yv (jK b) (b.drop 11) r 1:=by rw [C.1,<- Y.1,H.1];rfl
     have c8:p0.length<=sz:=by have:=G.1;omega
     have i1:sz<=512:=by omega
     have e5:¬ (jK b > 512\/b.length≠11+min (jK b) 245):=by
      rw [C.1,<- G.1];rintro (h | h)
      . omega
      . exact h H8.1
     have E:=Hd e5;clear e5;have Z:=Hd e0;have HM:=Hd a8;rw [<- a8] at M;have H0:=Hd c8;clear e0 a8 h512 c8 hg hd f9 G Y c3 f8
     go_loopg [7,8,9] (bl.length-1) (fun gk pv nv sv wr=>∃ (p:List UInt8) (k:Nat),gk+k=bl.length/\1<=k/\nv=.int .i64 (k:Int)/\OwnM wr w.heap.size 5 pv p.length (p.map V8)/\Below w.heap.size w wr/\yv sz p (bl.drop k) k=yv (jK b) (b.drop 11) r 1/\p.length<=sz /\
      Rd wr (.slice (some ⟨B,off,none⟩) bl.length lc) bl.length (bl.map SV))
     case atStart=>exact ⟨p0,1,by omega,qm _,rfl,M.1,W.1,Z.1,H0.1,X.1⟩
     case round =>
      clear M W Z H0 X HM;obtain ⟨p,k,e6,j0,rfl,a1,hb,e7,j1,hL⟩:=hrel;obtain ⟨pa,pc,rfl,_⟩:=a1.slice;have N:=Hd a1;have D:=Hd hb;have L:=Hd e7;have O:=Hd hL;have H1:=Hd e6;clear a1 hb e7 hL e6;by_cases hps:p.length<sz
      .
       have g0:(p.length:Int)<(sz:Int):=by omega
       by_cases hk:k=bl.length
       .
        have h7:((k:Int)==(bl.length:Int))=true:=by rw [qK];omega
        have A:=Hd (by rw [qN (by omega)];rfl:yv sz p (bl.drop k) k=(p,k))
        clear hk;have e8:((p.length:Int)==(sz:Int))=false:=by rw [qD];omega
        have c9:¬ p.length=sz:=by omega
        have d0:(p.length==sz)=false:=by rw [qD];omega
        have d1:((p.length:Int) != (sz:Int))=true:=by rw [wl];omega
        go_wp2
        go_quiet (fail)
        go_wp2_with fail
        try rw [wT]
        go_ret2
        refine ⟨D.1.trans (by first | exact qG _ _ | exact ⟨rfl,rfl,rfl,qm _,fun _ _=>rfl⟩),.inl ⟨?_,rfl⟩⟩
        rw [H.1,jbq e b r h11 E.1 (L.1.symm.trans A.1),qf (.inl (by rw [C.1];omega))]
       .
        have h7:((k:Int)==(bl.length:Int))=false:=by rw [qD];omega
        have b5:k<bl.length:=by have:=H1.1;omega
        have i4:(k:Int)<(bl.length:Int):=by omega
        have d2:(0:Int)<=(k:Int):=by omega
        obtain ⟨s,hs⟩:=Nm (bl[k]);have e9:bl.drop k=s::bl.drop (k+1):=by rw [hs];exact qL b5
        have j2:wr.cell? ⟨B,off+k,none⟩=some (.string (SB s)):=by
         obtain ⟨B',off',cap,e1,e2⟩:=O.1.at k (by simpa using b5)
         injection e1 with e1;injection e1 with e1;injection e1 with e3 e4
         subst e3;subst e4;rw [e2,hs,List.getD,List.getElem?_map,List.getElem?_eq_getElem b5];rfl
        have j3:s.length<=9223372036854775807:=H6.1 s (by rw [hs];exact qy b5)
        have P:=Hd e9;obtain ⟨mx,f0⟩:=Nm (min (sz-p.length) 255);have i5:∀ ts t w',(Builtin.min_ ts t #[((sz:Int)-(p.length:Int):Int),(255:Int)]).run prog w'=.ok (mx:Int) w':=fun ts t w'=>by
         rw [pL]
         congr 2
         by_cases h:(255:Int)<(sz:Int)-(p.length:Int)
         . rw [qf h];omega
         . rw [qh h];omega
        have i6:mx<=255:=by omega
        have i7:1<=mx:=by omega
        have I:=Hd f0;clear e9 hs f0;by_cases a6:s.length=1+mx
        .
         have g1:((s.length:Int)==1+(mx:Int))=true:=by rw [qK];omega
         obtain ⟨c0,d3⟩:=Nm ((s.getD 0 0).toNat);have j4:∀ w',(Instr.index 9 (.string (SB s)) (0:Int)).run prog w'=.ok (.int .u8 (c0:Int)) w':=fun w'=>by rw [d3];exact xL w' s 0 (by omega)
         have H2:=Hd d3;have j5:(0:Int)<(s.length:Int):=by omega
         clear d3;by_cases h99:c0=99
         .
          have h8:((c0:Int)==99)=true:=by rw [qK];omega
          have hh:s.head?=some 99:=by
           cases s with
           | nil=>simp at a6;omega
           | cons a s =>
            have h1:=H2.1;rw [h99] at h1;simp only [kt] at h1;simp only [List.head?_cons,Option.some.injEq];exact UInt8.toNat_inj.1 h1.symm
          obtain ⟨t,ht⟩:=Nm (s.drop 1);have f1:t.length=mx:=by rw [ht,qn];omega
          have b6:∀ w',(Instr.slice 9 (.string (SB s)) (some (.int .i64 1)) none none).run prog w'=.ok (.string (SB t)) w':=fun w'=>by rw [ht];exact jbU w' s 1 (by omega)
          have a0:yv sz p (s::bl.drop (k+1)) k=yv sz (p++t) (bl.drop (k+1)) (k+1):=by
           rw [yv,qf hps,qf ⟨by rw [a6,I.1],hh⟩,ht,List.drop_one]
          have A:=Hd a0;have f2:(p++t).length=p.length+t.length:=qd;have H3:=Hd f2;have H9:=Hd f1;have T:=Hd (show p.length+t.length<=140737488355328 by have:=I.1;omega)
          have Q:=Hd D.1.size;clear ht f1 a0 hh f2 h99
          go_wp2_with (at_builtin;refine je6 rfl _ _ rfl w.heap.size _ _ _ rfl N.1 t rfl T.1 Q.1 ?_)
          intro v' w1' b8 f3 _;have Ha:=Hd b8;have HB1':=Hd (D.1.trans (je f3 Q.1 (fun q hq=>(N.1.lt q hq).1)))
          have HL1':=Hd (Rd.keep (w':=w1') O.1 (fun q hq hl=>(je f3 Q.1 (fun q hq=>(N.1.lt q hq).1)).block q (by simp only [Value.ownBlock,Option.some.injEq] at hq;subst hq;exact H7.1)))
          clear b8;go_wp2
          go_roundg (bl.length-(k+1))
          case measure=>have:=H1.1;omega
          case rel=>exact ⟨p++t,k+1,by omega,by omega,by go_num,by rw [H3.1,qM];exact Ha.1,HB1'.1,by rw [<- A.1,<- P.1,L.1],by rw [H3.1,H9.1,I.1];omega,HL1'.1⟩
         .
          have h8:((c0:Int)==99)=false:=by rw [qD];omega
          have a0:yv sz p (bl.drop k) k=(p,k):=by
           rw [P.1];refine jdr _ _ _ _ _ (fun h=>h99 ?_)
           rw [H2.1]
           cases s with
           | nil=>simp at a6;omega
           | cons a s =>
            have:=h.2;simp only [List.head?_cons,Option.some.injEq] at this;rw [this];rfl
          have A:=Hd a0;clear a0;have e8:((p.length:Int)==(sz:Int))=false:=by rw [qD];omega
          have c9:¬ p.length=sz:=by omega
          have d0:(p.length==sz)=false:=by rw [qD];omega
          have d1:((p.length:Int) != (sz:Int))=true:=by rw [wl];omega
          go_wp2
          go_quiet (fail)
          go_wp2_with fail
          try rw [wT]
          go_ret2
          refine ⟨D.1.trans (by first | exact qG _ _ | exact ⟨rfl,rfl,rfl,qm _,fun _ _=>rfl⟩),.inl ⟨?_,rfl⟩⟩
          rw [H.1,jbq e b r h11 E.1 (L.1.symm.trans A.1),qf (.inl (by rw [C.1];omega))]
        .
         have g1:((s.length:Int)==1+(mx:Int))=false:=by rw [qD];omega
         have a0:yv sz p (bl.drop k) k=(p,k):=by
          rw [P.1];exact jdr _ _ _ _ _ (fun h=>a6 (by rw [h.1,I.1]))
         have A:=Hd a0;clear a0;have e8:((p.length:Int)==(sz:Int))=false:=by rw [qD];omega
         have c9:¬ p.length=sz:=by omega
         have d0:(p.length==sz)=false:=by rw [qD];omega
         have d1:((p.length:Int) != (sz:Int))=true:=by rw [wl];omega
         go_wp2
         go_quiet (fail)
         go_wp2_with fail
         try rw [wT]
         go_ret2
         refine ⟨D.1.trans (by first | exact qG _ _ | exact ⟨rfl,rfl,rfl,qm _,fun _ _=>rfl⟩),.inl ⟨?_,rfl⟩⟩
         rw [H.1,jbq e b r h11 E.1 (L.1.symm.trans A.1),qf (.inl (by rw [C.1];omega))]
      .
       have g0:decide ((p.length:Int)<(sz:Int))=false:=by simp;omega
       have a0:yv sz p (bl.drop k) k=(p,k):=jiS _ _ _ _ hps;have h9:p.length=sz:=by omega
       have f4:wr.cell? ⟨B,off,none⟩=some (.string (SB b)):=by
        obtain ⟨B',off',cap,e1,e2⟩:=O.1.at 0 (by simpa using b0)
        injection e1 with e1;injection e1 with e1;injection e1 with e3 e4
        subst e3;subst e4;rw [qT] at e2;rw [e2,H.1];rfl
       subst h9;have f5:∀ w',KR wr (.slice pa p.length pc) p b B off w'->Calls prog 98 #[.int .u32 (e.toNat:Int),.slice pa p.length pc] w' fun r w''=>∃ v',r=.returned v'/\(convert 92 9 v').run prog w''=.ok (.string (SB (xt e p))) w''/\Below w'.heap.size w' w'' :=
        fun w' h=>(jea (.slice pa p.length pc) e p w' h.rd (by omega)).mono (fun r w'' ⟨v',h1,h2,h3⟩=>⟨v',h1,uP _ (js h2) (xq e p).symm,h3⟩)
       have f6:KR wr (.slice pa p.length pc) p b B off wr.drew:=⟨jc (jb _) f4,N.1.rd.below (jb _),jb _⟩;have d2:∀ w',KR wr (.slice pa p.length pc) p b B off w'->w'.cell? ⟨B,off,none⟩=some (.string (SB b)):=fun w' h=>h.cell
       have b6:∀ w',(Instr.slice 9 (.string (SB b)) none (some (.int .i64 11)) none).run prog w'=.ok (.string (SB (b.take 11))) w':=fun w'=>jf6 w' b 11 (by omega)
       have J:=Hd f5;have R:=Hd f6;have A:=Hd a0;clear f5 f6 f4 a0;obtain ⟨hm,d4⟩:=Nm (xt e p);rw [<- d4] at J;obtain ⟨tk,d5⟩:=Nm (b.take 11);rw [<- d5] at b6;have H4:=Hd d4;have H5:=Hd d5;clear d4 d5;go_wp2;refine qt (S:=KR wr (.slice pa p.length pc) p b B off) (by kernel_rfl) R.1 (fun a4=>?_)
       refine Te 0 81 ?_;refine Te 1 82 ?_;refine Te 2 83 ?_;refine Te 3 84 ?_;refine Te 4 85 ?_;refine Te 5 86 ?_;refine Te 6 87 ?_;refine Te 9 90 ?_;refine Te 10 91 ?_;refine Te 11 92 ?_;refine Te 12 93 ?_;refine Rc 7 88 fun K hK=>?_
       rw [qf (by kernel_rfl)]
       go_simp
       refine (J.1 _ a4).mono ?_;rintro rr w4 ⟨v4,rfl,d6,i0⟩;refine hK.out _ _ (a4.keep i0) (fun a5=>?_)
       clear hK K
       try simp only [Nz]
       refine pD (rs := [8]) (by kernel_rfl) (by simp) (wJ (o:=⟨some 89,.convert _ _ _,_,_,_,_⟩) rfl (fun K hK=>?_) px)
       rw [qf (by kernel_rfl)]
       go_simp
       refine hK.out _ _ a5 (fun a3=>?_)
       clear hK K
       try simp only [Nz]
       by_cases hht:hm=tk
       .
        subst hht;refine Te 13 94 ?_;refine Te 14 95 ?_;refine Dn ?_;have U:=Hd a3;clear a4 a5 a3 d2 J R b6 d6;go_wp2_with fail
        try rw [wT]
        go_ret2
        refine ⟨D.1.trans (U.1.below.mono D.1.size),.inr ⟨p,k,_,?_,rfl,N.1.below U.1.below⟩⟩;rw [H.1,jbq e b r h11 E.1 (L.1.symm.trans A.1),qh];rintro (h | h)
        . exact h C.1.symm
        . exact h (H4.1.symm.trans H5.1)
       .
        have j6:((SB hm).toList==(SB tk).toList)=false:=by
         rw [jh,jh,qD];exact hht
        refine Te 13 94 ?_;refine Te 14 95 ?_;refine Dn ?_;have U:=Hd a3;clear a4 a5 a3 d2 J R b6 d6;go_wp2_with fail
        try rw [wT]
        go_ret2
        refine ⟨D.1.trans (U.1.below.mono D.1.size),.inl ⟨?_,rfl⟩⟩;rw [H.1,jbq e b r h11 E.1 (L.1.symm.trans A.1),qf (.inr (fun h=>hht (H4.1.trans (h.trans H5.1.symm))))]
    .
     have j7:((b.length:Int)==11+(mn:Int))=false:=by simp;omega
     go_wp2_with fail
     try rw [wT]
     go_ret2
     refine ⟨F.1,.inl ⟨?_,rfl⟩⟩;rw [H.1,zH,qh h11,qf (.inr (by rw [C.1,<- G.1];exact hlb))]
structure StM where
 clock:Int
 births:Int
 l:List SesM
def jI:StM:=⟨0,0,[]⟩
def vh (a b:Nat):Bool:=bits .andNot .u64 (a:Int) (b:Int)==0
def yz (s p:SesM):Bool:=(s.depth==p.depth+1)&&((s.user==p.user)&&(decide (s.deadline<=p.deadline)&&(vh s.scopes p.scopes&&(decide (p.level<s.level)==(s.kind==2)))))
def xO (s:SesM):List SesM->Bool->Option Bool
 | [],h=>some h
 | p::ps,h=>if p.slot=s.slot then none else xO s ps (if s.upS=p.slot/\s.upB=p.birth then yz s p else h)
def jcG:List SesM->Int
 | []=>0
 | [p]=>p.birth
 | _::p::ps=>jcG (p::ps)
def jcl (s:SesM):Bool:=(s.upS==0)&&(s.upB==0)
def zM (c b:Int)(s:SesM)(a:List SesM):Bool:=jG s&&(!(!a.isEmpty&&decide (s.birth<=jcG a))&&(decide (s.birth<=b)&&(decide (s.born<=c)&&(decide (c<s.deadline)&&(xO s a (jcl s)==some true)))))
def xJ (c b:Int)(a:List SesM)(k:Int):List SesM->Option Int
 | []=>none
 | s::r=>if zM c b s a=true then xJ c b (a ++ [s]) (k+1) r else some k
def zA (st:StM):Bool:=jT st.clock 0 1099511627776&&(jT st.births 0 1048576&&decide (st.l.length<=32))
def yr (st:StM):Option Int:=if zA st=true then xJ st.clock st.births [] 0 st.l else some (-1)
theorem uk (a:List SesM)(s:SesM):jcG (a ++ [s])=s.birth:=by
 induction a with
 | nil=>rfl
 | cons p a ih =>
  cases a with
  | nil=>rfl
  | cons q a=>exact ih
theorem jbn :∀ {r a:List SesM} {k:Int},xJ c b a k r=none↔∀ i (h:i<r.length),zM c b r[i] (a++r.take i)=true
 | [],a,k=>by simp [xJ]
 | s::r,a,k=>by
  unfold xJ;by_cases h:zM c b s a=true
  .
   rw [qf h,jbn]
   constructor
   .
    intro g i hi
    cases i with
    | zero=>simpa using h
    | succ i =>
     have:=g i (by simpa using hi)
     simpa using this
   .
    intro g i hi;have:=g (i+1) (by simpa using hi)
    simpa using this
  .
   rw [qh h]
   constructor
   . intro g;cases g
   .
    intro g;exact absurd (by have:=g 0 (by simp);rw [List.take_zero,qF] at this;exact this) h
theorem jac {st:StM}:yr st=none↔zA st=true/\∀ i (h:i<st.l.length),zM st.clock st.births st.l[i] (st.l.take i)=true:=by
 unfold yr;by_cases h:zA st=true
 . rw [qf h,jbn];simp [h]
 . rw [qh h];simp [h]
structure MayI (c b:Int)(s:SesM)(a:List SesM):Prop where
 may:jG s=true
 asc:a ≠ []->jcG a<s.birth
 births:s.birth<=b
 born:s.born<=c
 dead:c<s.deadline
 hang:xO s a (jcl s)=some true
theorem jbw {a:List SesM}:zM c b s a=true↔MayI c b s a:=by
 unfold zM;simp only [qq,pC,qK,pS,Bool.and_eq_false_iff,Bool.not_eq_false',qI,Int.not_le]
 constructor
 .
  rintro ⟨h1,h2,h3,h4,h5,h6⟩;exact ⟨h1,fun h=>h2.elim (fun g=>absurd (pU.1 g) h) id,h3,h4,h5,h6⟩
 .
  rintro ⟨h1,h2,h3,h4,h5,h6⟩;refine ⟨h1,?_,h3,h4,h5,h6⟩
  cases a with
  | nil=>exact .inl rfl
  | cons p a=>exact .inr (h2 (by simp))
theorem jmG (h:∀ i (h:i<l.length),MayI c b l[i] (l.take i)):∀ j (hj:j<l.length) i (hi:i<j),(l[i]'(by omega)).birth<l[j].birth:=by
 intro j
 induction j with
 | zero=>intro _ i hi;omega
 | succ j ih =>
  intro hj i hi;have h1:=(h (j+1) hj).asc (by simp;intro hh;rw [hh] at hj;simp at hj)
  rw [qk (by omega),uk] at h1
  rcases qX i j with h2 | h2
  . have:=ih (by omega) i h2;omega
  .
   obtain rfl:i=j:=by omega
   exact h1
def yh (b:Int):List SesM->Option SesM
 | []=>none
 | s::l=>if s.birth=b then some s else yh b l
def zI (s p:SesM):Bool:=(s.depth==IntKind.i64.wrap (p.depth+1))&&((s.user==p.user)&&(vh s.scopes p.scopes&&(decide (s.deadline<=p.deadline)&&(if s.kind=2 then decide (p.level<s.level) else s.level==p.level))))
def upM (s:SesM)(l:List SesM):Int :=
 if s.upB=0 then 0 else match yh s.upB l with
  | none=>16
  | some p=>if p.slot=s.upS then (if zI s p=true then 0 else 24) else 16
def uR (st:StM)(s:SesM):Int :=
 if s.birth=IntKind.i64.wrap (st.births+1) then (if s.born=st.clock then (if 32<=st.l.length then 19 else if st.l.any (fun x=>x.slot==s.slot)=true then 9 else upM s st.l) else 12) else 18
def xK (G:List Int)(s:SesM):Bool:=G.contains s.upB&&s.upB != 0
def xS (goes:SesM->Bool)(G:List Int)(s:SesM):List Int:=if (!G.contains s.birth&&(goes s || xK G s))=true then G ++ [s.birth] else G
def yE (goes:SesM->Bool)(G:List Int)(l:List SesM):List Int:=l.foldl (xS goes) G
def xE (goes:SesM->Bool)(l:List SesM):Nat->List Int
 | 0 => []
 | n+1=>yE goes (xE goes l n) l
def zu (goes:SesM->Bool)(l:List SesM):List Int:=xE goes l l.length
def jB (goes:SesM->Bool)(l:List SesM):List SesM:=l.filter (fun s => !goes s && !xK (zu goes l) s)
def jt (st:StM)(e:EvtM):Int × StM :=
 if jM e=true then
  (if e.kind=0 then (if uR st e.s=0 then (0,⟨st.clock,IntKind.i64.wrap (st.births+1),st.l ++ [e.s]⟩) else (uR st e.s,jI))
  else if e.kind=1 then (if st.l.any (fun s=>s.birth==e.birth)=true then (0,⟨st.clock,st.births,jB (fun s=>s.birth==e.birth) st.l⟩) else (16,jI))
  else if st.clock<0\/1099511627776-e.ticks<st.clock then (12,jI) else (0,⟨st.clock+e.ticks,st.births,jB (fun s=>decide (s.deadline<=st.clock+e.ticks)) st.l⟩))
 else (1,jI)
def yy:StM->List EvtM->StM × Nat
 | st,[]=>(st,0)
 | st,e::l=>if (jt st e).1=0 then ((yy (jt st e).2 l).1,(yy (jt st e).2 l).2+1) else (st,0)
theorem jis (goes:SesM->Bool)(G:List Int)(l:List SesM)(s:SesM):yE goes G (l ++ [s])=xS goes (yE goes G l) s:=by simp [yE]
theorem je7 (goes:SesM->Bool)(G:List Int)(s:SesM):xS goes G s=G\/xS goes G s=G ++ [s.birth]:=by
 unfold xS;split <;> simp
structure GoodG (l:List SesM)(G:List Int):Prop where
 nd:G.Nodup
 sub:∀ b∈G,∃ s∈l,s.birth=b
theorem GoodG.nil (l:List SesM):GoodG l []:=⟨List.nodup_nil,fun _ h=>by cases h⟩
theorem GoodG.step (h:GoodG l G)(hs:s∈l):GoodG l (xS goes G s):=by
 unfold xS
 split
 .
  rename_i hc
  rw [qq,pS] at hc;have hn:s.birth ∉ G:=fun hm=>by have:=List.contains_iff_mem.2 hm;rw [this] at hc;cases hc.1
  refine ⟨?_,fun b hb=>?_⟩
  .
   rw [List.nodup_append];exact ⟨h.nd,by simp,fun a ha b hb e=>hn (by rw [qC.1 hb] at e;exact e ▸ ha)⟩
  .
   rcases qW.1 hb with hb | hb
   . exact h.sub b hb
   . exact ⟨s,hs,(qC.1 hb).symm⟩
 . exact h
theorem GoodG.pass :∀ {m:List SesM} {G:List Int},GoodG l G->(∀ s∈m,s∈l)->GoodG l (yE goes G m)
 | [],_,h,_=>h
 | s::m,_,h,hm=>GoodG.pass (m:=m) (h.step (hm s (by simp))) (fun x hx=>hm x (by simp [hx]))
theorem GoodG.iter (goes:SesM->Bool)(l:List SesM):∀ n,GoodG l (xE goes l n)
 | 0=>GoodG.nil l
 | n+1=>(GoodG.iter goes l n).pass (fun _ h=>h)
theorem jh5:∀ {G B:List Int},G.Nodup->(∀ b∈G,b∈B)->G.length<=B.length
 | [],_,_,_=>qJ _
 | g::G,B,h,hs=>by
  have hg:=hs g (by simp)
  rw [List.nodup_cons] at h;have:=jh5 (G:=G) (B:=B.erase g) h.2 (fun b hb=>(List.mem_erase_of_ne (fun e:b=g=>h.1 (by rw [<- e];exact hb))).2 (hs b (by simp [hb])))
  rw [List.length_erase_of_mem hg] at this;have:0<B.length:=List.length_pos_of_mem hg;rw [qp];omega
theorem GoodG.le (h:GoodG l G):G.length<=l.length:=by
 have:=jh5 (B:=l.map (·.birth)) h.nd (fun b hb=>by obtain ⟨s,hs,e⟩:=h.sub b hb;exact pY.2 ⟨s,hs,e⟩)
 rwa [qE] at this
theorem ve (goes:SesM->Bool):∀ (l:List SesM) (G:List Int),yE goes G l=G\/G.length<(yE goes G l).length
 | [],_=>.inl rfl
 | s::l,G=>by
  show yE goes (xS goes G s) l=G\/G.length<(yE goes (xS goes G s) l).length
  rcases je7 goes G s with e | e <;> rw [e]
  . exact ve goes l G
  .
   rcases ve goes l (G ++ [s.birth]) with h | h
   . rw [h];right;simp
   . right;rw [qd] at h;simp at h;omega
theorem jhL (goes:SesM->Bool)(l:List SesM)(G:List Int):G.length<=(yE goes G l).length:=by
 rcases ve goes l G with h | h
 . rw [h];exact qm _
 . omega
theorem jfo :∀ {l:List SesM} {G:List Int},yE goes G l=G->∀ s∈l,xS goes G s=G
 | [],_,_,_,h=>by cases h
 | s::l,G,h,x,hx=>by
  have h1:yE goes (xS goes G s) l=G:=h;have h2:xS goes G s=G:=by
   rcases je7 goes G s with e | e
   . exact e
   .
    have:=jhL goes l (xS goes G s);rw [h1,e,qd] at this
    simp at this
    omega
  rw [h2] at h1
  rcases qH.1 hx with rfl | hx
  . exact h2
  . exact jfo h1 x hx
theorem jfm (goes:SesM->Bool)(l:List SesM):∀ n,yE goes (xE goes l n) l=xE goes l n\/n<=(xE goes l n).length
 | 0=>.inr (qJ _)
 | n+1=>by
  show yE goes (yE goes (xE goes l n) l) l=yE goes (xE goes l n) l\/n+1<=(yE goes (xE goes l n) l).length
  rcases jfm goes l n with h | h
  . rw [h];exact .inl h
  .
   rcases ve goes l (xE goes l n) with h1 | h1
   . rw [h1];exact .inl h1
   . exact .inr (by omega)
theorem jkp (h:GoodG l G)(hl:l.length<=G.length):yE goes G l=G:=by
 rcases ve goes l G with h1 | h1
 . exact h1
 . have:=(h.pass (goes:=goes) (m:=l) (fun _ h=>h)).le;omega
theorem jdG (goes:SesM->Bool)(l:List SesM):yE goes (zu goes l) l=zu goes l:=by
 rcases jfm goes l l.length with h | h
 . exact h
 . exact jkp (GoodG.iter goes l _) h
theorem ja2 {n:Nat}(h:yE goes (xE goes l n) l=xE goes l n):∀ k,xE goes l (n+k)=xE goes l n
 | 0=>rfl
 | k+1=>by
  show yE goes (xE goes l (n+k)) l=_;rw [ja2 h k];exact h
theorem jgJ {n:Nat}(h:yE goes (xE goes l n) l=xE goes l n):xE goes l n=zu goes l:=by
 rcases Nat.le_total n l.length with h1 | h1
 .
  have:=ja2 h (l.length-n);rw [show n+(l.length-n)=l.length by omega] at this
  exact this.symm
 .
  have:=ja2 (jdG goes l) (n-l.length);rw [show l.length+(n-l.length)=n by omega] at this
  exact this
inductive Dies (goes:SesM->Bool) (l:List SesM):SesM->Prop
 | one {s:SesM}:s∈l->goes s=true->Dies goes l s
 | up {s p:SesM}:s∈l->Dies goes l p->s.upB=p.birth->s.upB≠0->Dies goes l s
theorem Dies.mem (h:Dies goes l s):s∈l:=by cases h <;> assumption
theorem jbS :xK G s=true↔s.upB∈G/\s.upB≠0:=by
 unfold xK;rw [qq,List.contains_iff_mem];simp
theorem jg7 (h:∀ b∈G,∃ s,Dies goes l s/\s.birth=b)(hs:s∈l):∀ b∈xS goes G s,∃ s,Dies goes l s/\s.birth=b:=by
 intro b hb;unfold xS at hb
 split at hb
 .
  rename_i hc
  rcases qW.1 hb with hb | hb
  . exact h b hb
  .
   rw [qq,Bool.or_eq_true] at hc;rw [qC.1 hb]
   rcases hc.2 with hg | hu
   . exact ⟨s,.one hs hg,rfl⟩
   .
    obtain ⟨h1,h2⟩:=jbS.1 hu;obtain ⟨p,h3,h4⟩:=h _ h1;exact ⟨s,.up hs h3 h4.symm h2,rfl⟩
 . exact h b hb
theorem jcM :∀ {m:List SesM} {G:List Int},(∀ b∈G,∃ s,Dies goes l s/\s.birth=b)->(∀ s∈m,s∈l)->∀ b∈yE goes G m,∃ s,Dies goes l s/\s.birth=b
 | [],_,h,_=>h
 | s::m,_,h,hm=>jcM (m:=m) (jg7 h (hm s (by simp))) (fun x hx=>hm x (by simp [hx]))
theorem jcy (goes:SesM->Bool)(l:List SesM):∀ n,∀ b∈xE goes l n,∃ s,Dies goes l s/\s.birth=b
 | 0=>fun _ h=>by cases h
 | n+1=>jcM (jcy goes l n) (fun _ h=>h)
theorem jh4 (h:Dies goes l s):s.birth∈zu goes l:=by
 have hf:∀ s∈l,(goes s || xK (zu goes l) s)=true->s.birth∈zu goes l:=fun s hs hg=>by
  have h1:=jfo (jdG goes l) s hs
  rcases Bool.eq_false_or_eq_true ((zu goes l).contains s.birth) with h2 | h2
  . exact List.contains_iff_mem.1 h2
  .
   unfold xS at h1;rw [h2,hg] at h1;have:=congrArg List.length h1
   simp at this
 induction h with
 | one hs hg=>exact hf _ hs (by rw [hg];rfl)
 | up hs _ he hn ih=>exact hf _ hs (by rw [Bool.or_eq_true];right;exact jbS.2 ⟨by rw [he];exact ih,hn⟩)
theorem jbA (hs:s∈l):(goes s=true\/xK (zu goes l) s=true)↔Dies goes l s:=by
 constructor
 .
  rintro (h | h)
  . exact .one hs h
  .
   obtain ⟨h1,h2⟩:=jbS.1 h;obtain ⟨p,h3,h4⟩:=jcy goes l _ _ h1;exact .up hs h3 h4.symm h2
 .
  intro h
  cases h with
  | one _ hg=>exact .inl hg
  | up _ hp he hn=>exact .inr (jbS.2 ⟨by rw [he];exact jh4 hp,hn⟩)
theorem jal :s∈jB goes l↔s∈l/\¬ Dies goes l s:=by
 unfold jB;rw [List.mem_filter]
 constructor
 .
  rintro ⟨h1,h2⟩;refine ⟨h1,fun h=>?_⟩
  rw [qq,pS,pS] at h2
  rcases (jbA h1).2 h with h3 | h3
  . rw [h3] at h2;cases h2.1
  . rw [h3] at h2;cases h2.2
 .
  rintro ⟨h1,h2⟩;refine ⟨h1,?_⟩;rw [qq,pS,pS]
  constructor
  .
   cases e:goes s
   . rfl
   . exact absurd ((jbA h1).1 (.inl e)) h2
  .
   cases e:xK (zu goes l) s
   . rfl
   . exact absurd ((jbA h1).1 (.inr e)) h2
def g2 (n:Nat):Nat->List UInt8->List (List UInt8)->Nat->Option (List UInt8 × Nat)
 | 0,p,_,k=>some (p,k)
 | _+1,p,[],k=>some (p,k)
 | f+1,p,s::r,k=>if p.length<n then (if s.length=0 then none else g2 n f (p++s.tail) r (k+1)) else some (p,k)
def jl4 (e:UInt32)(n:Nat)(bl:List (List UInt8)):Option (List UInt8 × Nat)->Option (List UInt8 × Nat)
 | none=>none
 | some (p,k)=>if p.length≠n then none else if jf e p=bl.take k then some (p,k) else none
def xY (e:UInt32):List (List UInt8)->Option (List UInt8 × Nat)
 | []=>none
 | b::r =>
  if b.length<11 then none else
  if 512<jK b then none else
  jl4 e (jK b) (b::r) (g2 (jK b) 3 (b.drop 11) r 1)
theorem ji0 (size:Nat):∀ (f:Nat) (q p:List UInt8) (t:List (List UInt8)) (k:Nat),q.length<=255*f->p.length+q.length=size ->
  g2 size f p (yl f q++t) k=some (p++q,k+(yl f q).length)
 | 0,q,p,t,k,hq,hs=>by
  have:q = []:=qw (by omega)
  subst this
  simp [g2,yl]
 | f+1,q,p,t,k,hq,hs=>by
  rw [yl];by_cases h0:q.length=0
  .
   have:q = []:=qw h0;subst this;simp only [wN,pB,wt,qF,qT]
   cases t with
   | nil=>rfl
   | cons s t=>rw [g2,qh (by simp at hs;omega)]
  .
   rw [qh h0,po,g2,qf (by omega),qh (by simp),List.tail_cons,
    ji0 size f (q.drop 255) (p++q.take 255) t (k+1) (by simp;omega) (by simp;omega)]
   simp only [qB,qU,qp,Option.some.injEq,Prod.mk.injEq,true_and];omega
theorem jmv (size:Nat):∀ (f:Nat) (p:List UInt8) (r:List (List UInt8)) (k:Nat) (q:List UInt8) (k':Nat),g2 size f p r k=some (q,k')->k<=k'/\k'<=k+r.length
 | 0,p,r,k,q,k',h=>by
  rw [g2] at h;injection h with h;injection h with h1 h2;omega
 | f+1,p,[],k,q,k',h=>by
  rw [g2] at h;injection h with h;injection h with h1 h2;simp;omega
 | f+1,p,s::r,k,q,k',h=>by
  rw [g2] at h;by_cases h1:p.length<size
  .
   rw [qf h1] at h;by_cases h2:s.length=0
   . rw [qf h2] at h;cases h
   .
    rw [qh h2] at h;have:=jmv size f _ r (k+1) q k' h;rw [qp];omega
  .
   rw [qh h1] at h;injection h with h;injection h with h1 h2
   rw [qp];omega
theorem jiu (e:UInt32)(bl:List (List UInt8)):xY e bl=zH e bl:=by
 have h1:∀ p k,xY e bl=some (p,k)->zH e bl=some (p,k):=by
  intro p k h
  cases bl with
  | nil=>cases h
  | cons b r =>
   rw [xY] at h;by_cases h1:b.length<11
   . rw [qf h1] at h;cases h
   rw [qh h1] at h;by_cases h2:512<jK b
   . rw [qf h2] at h;cases h
   rw [qh h2] at h
   cases hg:g2 (jK b) 3 (b.drop 11) r 1 with
   | none=>rw [hg] at h;cases h
   | some x =>
    obtain ⟨p',k'⟩:=x;rw [hg] at h;simp only [jl4] at h;by_cases h3:p'.length≠jK b
    . rw [qf h3] at h;cases h
    rw [qh h3] at h;by_cases h4:jf e p'=(b::r).take k'
    .
     rw [qf h4] at h;injection h with h;injection h with e1 e2
     subst e1;subst e2;have a3:=jmv _ _ _ _ _ _ _ hg;refine (zv _ _ _ _).2 ⟨by omega,?_,h4.symm⟩
     rw [h4,qr,qp];omega
    . rw [qh h4] at h;cases h
 have h2:∀ p k,zH e bl=some (p,k)->xY e bl=some (p,k):=by
  intro p k h;obtain ⟨h5,hk,ht⟩:=(zv _ _ _ _).1 h;have a0:bl=jf e p++bl.drop k:=by rw [<- ht,qU]
  rw [a0];have a1:=jcE e p (p.take 245) h5;have hl:=xq e p;have hd:(xt e p++p.take 245).drop 11=p.take 245:=by rw [<- hl,py]
  unfold jf;rw [po,xY,qh (by simp [hl]),a1,qh (by omega),hd,ji0 p.length 3 (p.drop 245) (p.take 245) (bl.drop k) 1 (by simp;omega) (by simp;omega),qU]
  simp only [jl4];have a2:1+(yl 3 (p.drop 245)).length=(jf e p).length:=by unfold jf;rw [qp];omega
  rw [qh (by simp),a2,qf ?_,<- hk]
  have:(xt e p++p.take 245)::(yl 3 (p.drop 245)++bl.drop k)=jf e p++bl.drop k:=rfl;rw [this,kb]
 cases ho:zH e bl with
 | some x=>obtain ⟨p,k⟩:=x;exact h2 p k ho
 | none =>
  cases hr:xY e bl with
  | none=>rfl
  | some x=>obtain ⟨p,k⟩:=x;rw [h1 p k hr] at ho;cases ho
end Go.Proofs.YtgcnolapjppbpaaGreatDoor
