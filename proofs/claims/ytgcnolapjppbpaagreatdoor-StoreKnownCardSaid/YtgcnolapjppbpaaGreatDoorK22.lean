/- Texts of one proof. -/
import Derived.Test.YtgcnolapjppbpaaGreatDoorK19
import Derived.Test.YtgcnolapjppbpaaGreatDoorK20
import Derived.Test.YtgcnolapjppbpaaGreatDoorK21
namespace Go.Proofs.YtgcnolapjppbpaaGreatDoor
open Go.RowKit _root_.Go.Proofs.Tryz
set_option maxRecDepth 100000
set_option maxHeartbeats 25600000
variable {S st0:StM}{l:LogM}{k:Nat}{w w':World}{C B:Int}{sv:Value}{s:TkM}{q:SesM}{e:EvtM}{d':DiskM}{ep:UInt32}{p:List UInt8}{evs:List EvtM}
theorem jkD (S:StM)(e:EvtM)(r:List EvtM)(h0:(jt S e).1=0):yy S (e::r)=((yy (jt S e).2 r).1,(yy (jt S e).2 r).2+1):=by rw [yy,qf h0]
theorem jlL (S:StM)(e:EvtM)(r:List EvtM)(h0:(jt S e).1≠0):yy S (e::r)=(S,0):=by rw [yy,qh h0]
theorem jkd {st S:StM}{l:List EvtM}{k:Nat}(hk:k<l.length)(h:yy st (l.take k)=(S,k))(h0:(jt S l[k]).1=0):yy st (l.take (k+1))=((jt S l[k]).2,k+1):=by
 have h1:(l.take k).length=k:=by rw [qr];omega
 rw [qk hk,jbm _ _ _ (by rw [h,h1]),h,h1]
 simp only;rw [jkD _ _ _ h0];rfl
theorem jka {st S:StM}{l:List EvtM}{k:Nat}(hk:k<l.length)(h:yy st (l.take k)=(S,k))(h0:(jt S l[k]).1≠0):yy st l=(S,k):=by
 have h1:(l.take k).length=k:=by rw [qr];omega
 have e:l=l.take k++l[k]::l.drop (k+1):=by rw [List.getElem_cons_drop,qU]
 rw [e,jbm _ _ _ (by rw [h,h1]),h,h1]
 simp only;rw [jlL _ _ _ h0];rfl
theorem jlv {st:StM}{l:List EvtM}(h:yy st (l.take l.length)=(S,l.length)):yy st l=(S,l.length):=by rwa [List.take_length] at h
structure AllI (w w':World)(st:StM)(l:List EvtM)(k:Nat)(C B:Int)(sv:Value)(L:List SesM):Prop where
 bx:Box w' w.heap.size #[C,B,sv] 30
 bz:Box w' (w.heap.size+1) #[(0:Int),(0:Int),.slice none 0 0] 30
 ow:OwnS w' (w.heap.size+2) sv L
 al:yy st (l.take k)=(⟨C,B,L⟩,k)
 ln:L.length<=st.l.length+k
 bel:Below w.heap.size w w'
theorem AllI.below {w2:World}{st:StM}{l:List EvtM}{L:List SesM}(h:AllI w w' st l k C B sv L)(hb:Below w'.heap.size w' w2):AllI w w2 st l k C B sv L :=
 ⟨h.bx.below hb,h.bz.below hb,h.ow.below hb,h.al,h.ln,h.bel.trans (hb.mono h.bel.size)⟩
theorem AllI.put {st:StM}{l:List EvtM}{L:List SesM}(h:AllI w w' st l k C B sv L)(k2:Nat)(C2 B2:Int)(o:Value)(L2:List SesM)(ho:OwnS w' (w.heap.size+2) o L2)(a0:yy st (l.take k2)=(⟨C2,B2,L2⟩,k2))(a1:L2.length<=st.l.length+k2) :
  AllI w (((w'.setCell ⟨w.heap.size,0,none⟩ C2).setCell ⟨w.heap.size,1,none⟩ B2).setCell ⟨w.heap.size,2,none⟩ o) st l k2 C2 B2 o L2:=by
 have hm:=Mod.set3 w.heap.size w' C2 B2 o;exact ⟨((h.bx.set 0 C2).set 1 B2).set 2 o,h.bz.mod hm (by omega),ho.mod hm (fun k hk e=>by have:=(ho.lt k hk).1;omega),a0,a1,h.bel.trans (hm.below h.bel.size (fun i hi=>by omega))⟩
theorem AllI.fill {st:StM}{l:List EvtM}{L:List SesM}(h:AllI w w' st l k C B sv L) :
  Box (((w'.setCell ⟨w.heap.size+1,0,none⟩ C).setCell ⟨w.heap.size+1,1,none⟩ B).setCell ⟨w.heap.size+1,2,none⟩ sv) (w.heap.size+1) #[C,B,sv] 30/\OwnS (((w'.setCell ⟨w.heap.size+1,0,none⟩ C).setCell ⟨w.heap.size+1,1,none⟩ B).setCell ⟨w.heap.size+1,2,none⟩ sv) w.heap.size sv L/\Below w.heap.size w (((w'.setCell ⟨w.heap.size+1,0,none⟩ C).setCell ⟨w.heap.size+1,1,none⟩ B).setCell ⟨w.heap.size+1,2,none⟩ sv):=by
 have hm:=Mod.set3 (w.heap.size+1) w' C B sv;exact ⟨((h.bz.set 0 C).set 1 B).set 2 sv,(h.ow.mod hm (fun k hk e=>by have:=(h.ow.lt k hk).1;omega)).base (by omega),h.bel.trans (hm.below h.bel.size (fun i hi=>by omega))⟩
theorem jd3 (st:StM)(l:List EvtM)(v ev:Value)(w:World)(hv:RdS w v st.l)(a7:RdE w ev l)(hn:st.l.length+l.length<=1000000000)(a5:∀ e∈l,EvOk e) :
  Calls prog 94 #[.agg #[st.clock,st.births,v],ev] w fun e w'=>∃ o,e=.returned (.tuple #[.agg #[.int .i64 (yy st l).1.clock,.int .i64 (yy st l).1.births,o],((yy st l).2:Int)])/\OwnS w' w.heap.size o (yy st l).1.l/\Below w.heap.size w w':=by
 have H3:=Hd (fun (S:StM) (e:EvtM) (he:e∈l) v' w' h b8=>jcA S e v' w' h b8 (qi (a5 e he).user (by decide)) (qi (a5 e he).label (by decide)) (a5 e he).scopes)
 have W:=Hd a7;have H4:=Hd hn;have P:=Hd (show yy st (l.take 0)=(st,0) from rfl)
 obtain ⟨D,hD⟩:=Nm (yy st l);have HD:=Hd hD;rw [<- hD];obtain ⟨ea,ec,rfl,_,b9⟩:=a7.slice;obtain ⟨va,vc,rfl,c3,c4⟩:=hv.slice;have Q:=Hd (fun w' hb=>ug (.slice va st.l.length vc) st.l w' (hv.below hb) (by omega))
 have c5:l.length<=9223372036854775807:=by omega
 clear a7 hv hD a5 b9 c4 c3 hn;obtain ⟨n,hN⟩:=Nm (l.length);rw [<- hN] at c5 W |-;have HN:=Hd hN;clear hN;obtain ⟨vn,b0⟩:=Nm (st.l.length);rw [<- b0] at Q |-;clear b0;obtain ⟨c,hc⟩:=Nm (st.clock);obtain ⟨b,hb⟩:=Nm (st.births);rw [<- hc,<- hb];have R:=Hd (And.intro hc hb);clear hc hb;have J:=Hd (jl w (.cells #[c,b,.slice va vn vc] 30) (.cells #[(0:Int),(0:Int),.slice none 0 0] 30));have X:=Hd ((Box.new w #[c,b,.slice va vn vc] 30).below (ja _ (.cells #[(0:Int),(0:Int),.slice none 0 0] 30)));have Y:=Hd (show Box ((w.alloc (.cells #[c,b,.slice va vn vc] 30)).alloc (.cells #[(0:Int),(0:Int),.slice none 0 0] 30)) (w.heap.size+1) #[(0:Int),(0:Int),.slice none 0 0] 30 by have h:=Box.new (w.alloc (.cells #[c,b,.slice va vn vc] 30)) #[(0:Int),(0:Int),.slice none 0 0] 30;rw [qj] at h;exact h)
 go_enter func94,ntmps94;go_wp2_with fail;refine (Q.1 _ J.1).mono ?_;rintro e1 w1 ⟨o,rfl,ho,a0⟩;obtain ⟨sa,sc,rfl,_⟩:=ho.slice;obtain ⟨sn,a1⟩:=Nm (st.l.length);rw [<- a1] at ho |-;clear a1;have a6:=X.1.below a0;have b1:=Y.1.below a0;have hs:=J.1.size;have f2:=a6.free 2;have c2:w1.cell? ⟨w.heap.size,2,none⟩=some (.slice va vn vc):=a6.cell 2 _ rfl;have hm:=Mod.set (fun i=>i=w.heap.size) w1 ⟨w.heap.size,2,none⟩ (.slice sa sn sc) rfl
 have a8:=ho.base (base':=w.heap.size+2) (by simp)
 have Z:=Hd (show AllI w (w1.setCell ⟨w.heap.size,2,none⟩ (.slice sa sn sc)) st l 0 c b (.slice sa sn sc) st.l from
  ⟨a6.set 2 (.slice sa sn sc),b1.mod hm (by omega),a8.mod hm (fun k hk e=>by have:=(a8.lt k hk).1;omega),by rw [P.1,R.1.1,R.1.2],by omega,(J.1.trans (a0.mono hs)).trans (hm.below (J.1.trans (a0.mono hs)).size (fun i hi=>by omega))⟩)
 clear ho a8 a0 a6 b1 hs hm X Y J Q;go_wp2
 go_loopg [16] n (fun gk iv wr=>∃ (k:Nat) (C B:Int) (sv:Value) (L:List SesM),gk+k=n/\iv=.int .i64 (k:Int)/\AllI w wr st l k C B sv L)
 case atStart=>exact ⟨0,_,_,_,_,qT _,rfl,Z.1⟩
 case round =>
  clear c2 f2 Z P R;obtain ⟨k,C,B,sv,L,b2,rfl,hI⟩:=hrel;have k0:(0:Int)<=(k:Int):=by omega
  have T:=Hd b2;have E:=Hd hI;obtain ⟨sa,sc,rfl,_⟩:=hI.ow.slice;obtain ⟨sn,a1⟩:=Nm (L.length);rw [<- a1] at E;clear b2 hI a1;by_cases hk:k<n;rotate_left
  .
   have k1:¬ (k:Int)<(n:Int):=by omega
   obtain rfl:k=n:=by have:=T.1;omega
   have K:=Hd (show D=(⟨C,B,L⟩,k) by
    have h:=E.1.al;rw [HN.1] at h |-;rw [HD.1];exact jlv h)
   obtain ⟨c0,c1,c2⟩:=C3 E.1.bx;obtain ⟨z0,y0,z1,y1,z2,y2⟩:=B3 E.1.bz;have O:=Hd E.1.fill;clear hk E;go_wp2;exact Jt (jj O.1.1) underlying30 ⟨_,by rw [K.1] <;> rfl,by rw [K.1];exact O.1.2.1,O.1.2.2⟩
  have k1:(k:Int)<(n:Int):=by omega
  have a2:k<l.length:=by have:=HN.1;omega
  obtain ⟨e,he⟩:=Nm (l[k]);obtain ⟨rb,ro,c6,a4⟩:=(W.1.below E.1.bel).row k a2;subst c6;rw [<- he] at a4;have U:=Hd a4;have HK:=Hd hk;have H2:=Hd (show e∈l by rw [he];exact qy a2)
  have H5:=Hd (show L.length<=1000000000 by have h:=E.1.ln;have:=H4.1;omega)
  have G:=Hd (fun h0=>@jkd st ⟨C,B,L⟩ l k a2 E.1.al h0)
  have I:=Hd (fun h0=>@jka st ⟨C,B,L⟩ l k a2 E.1.al h0)
  have M:=Hd (qi (uq ⟨C,B,L⟩ e) (Nat.add_le_add_right E.1.ln 1));rw [<- he] at G I;clear hk a2 he a4
  go_wp2_with (with_reducible refine Lk U.1 underlying47 ?_)
  intro cv a3
  go_wp2_with (with_reducible refine Sk e.cells.toList a3 (jgD _ _) (EvtM.oneE _) ?_)
  intro w2 b3;obtain ⟨b4,b5⟩:=jkn b3;have H0:=Hd b4.rangeV;have F:=Hd (E.1.below b5);clear b3 a3 b4 b5 U E;obtain ⟨c0,f0,c1,f1,c2,f2⟩:=B3 F.1.bx
  go_wp2_with (with_reducible refine Lk H0.1 underlying47 ?_)
  intro cv a3;have ecv:cv=e.cells:=by rw [a3.out]
  subst ecv;clear a3 H0;go_wp2_with fail;refine (H3.1 ⟨C,B,L⟩ e H2.1 _ w2 F.1.ow.rd H5.1).mono ?_;rintro e3 w3 ⟨o,rfl,ho,b6⟩;obtain ⟨A,hA⟩:=Nm (jt ⟨C,B,L⟩ e);rw [<- hA] at ho G I M |-;clear hA c0 c1 c2 f0 f1 f2;obtain ⟨er,C2,B2,L2⟩:=A;simp only at ho G I M |-;have b7:w.heap.size+2<=w2.heap.size:=by have:=F.1.bz.lt;omega
  have H1:=Hd (F.1.below b6);obtain ⟨oa,oc,rfl,_⟩:=ho.slice;obtain ⟨m,hM⟩:=Nm (L2.length);rw [<- hM] at ho |-;clear hM;have a9:=ja w3 (.cells #[C2,B2,.slice oa m oc] 30);have H:=Hd (H1.1.below a9);have V:=Hd ((ho.base b7).below a9);have N:=Hd (Box.new w3 #[C2,B2,.slice oa m oc] 30);clear ho b6 a9 b7 H1 F;by_cases h0:er=0
  .
   subst h0;rw [show jm 0=.nilIface from rfl]
   have H6:=Hd (H.1.put (k+1) C2 B2 (.slice oa m oc) L2 V.1 (G.1 rfl) M.1);obtain ⟨c0,f0,c1,f1,c2,f2⟩:=B3 H.1.bx;obtain ⟨d0,d1,d2⟩:=C3 N.1;clear H V N G I M;go_wp2
   go_roundg (n-(k+1))
   case measure=>have:=T.1;have:=HK.1;omega
   case rel=>exact ⟨k+1,_,_,_,_,by have:=T.1;have:=HK.1;omega,by go_num,H6.1⟩
  rw [jfW h0];have K:=Hd (show D=(⟨C,B,L⟩,k) by rw [HD.1];exact I.1 h0)
  obtain ⟨c0,c1,c2⟩:=C3 H.1.bx;obtain ⟨z0,y0,z1,y1,z2,y2⟩:=B3 H.1.bz;have O:=Hd H.1.fill;clear h0 H V N G I M;go_wp2;exact Jt (jj O.1.1) underlying30 ⟨_,by rw [K.1] <;> rfl,by rw [K.1];exact O.1.2.1,O.1.2.2⟩
theorem At.bornV {r:List UInt8}(h:At s (yf [] q++r))(hq:SesN q)(a0:q.scopes<2 ^ 64):(jY s).1=q/\At (jY s).2 r:=by
 unfold yf at h;simp only [qB,wt] at h;obtain ⟨a1,a2⟩:=h.int hq.slot;obtain ⟨b1,b2⟩:=a2.int hq.birth;obtain ⟨c1,c2⟩:=b2.int hq.upS;obtain ⟨d1,d2⟩:=c2.int hq.upB;obtain ⟨f1,f2⟩:=d2.int hq.kind;obtain ⟨u1,u2⟩:=f2.txt hq.user;obtain ⟨l1,l2⟩:=u2.txt hq.label;obtain ⟨s1,s2⟩:=l2.num a0;obtain ⟨g1,g2⟩:=s2.int hq.level;obtain ⟨h1,h2⟩:=g2.int hq.born;obtain ⟨i1,i2⟩:=h2.int hq.deadline;obtain ⟨j1,j2⟩:=i2.int hq.depth;exact ⟨by unfold jY;simp only [a1,b1,c1,d1,f1,u1,l1,s1,g1,h1,i1,j1],j2⟩
def SesW (l:List SesM):Prop:=∀ q∈l,SesN q/\q.scopes<2 ^ 64
theorem SesW.head {l:List SesM}(h:SesW (q::l)):SesN q/\q.scopes<2 ^ 64:=h q (by simp)
theorem SesW.tail {l:List SesM}(h:SesW (q::l)):SesW l:=fun x hx=>h x (by simp [hx])
theorem At.sesTs:∀ (l:List SesM) (s:TkM) (r:List UInt8),At s (l.flatMap (yf [])++r)->SesW l->(sesTs l.length s).1=l/\At (sesTs l.length s).2 r
 | [],s,r,h,_=>⟨rfl,by rw [kC,wt] at h;exact h⟩
 | q::l,s,r,h,hw=>by
  rw [qV,qB] at h;obtain ⟨h1,h2⟩:=h.bornV hw.head.1 hw.head.2;obtain ⟨h3,h4⟩:=At.sesTs l (jY s).2 r h2 hw.tail;refine ⟨?_,h4⟩;show (jY s).1::(Go.Proofs.YtgcnolapjppbpaaGreatDoor.sesTs l.length (jY s).2).1=_;rw [h1,h3]
theorem At.fin {st:StM}(h:At s [])(hc:yr st=none):jdf s st=(0,st):=by
 have hk:¬ s.k<s.l.length:=by
  have:=congrArg List.length h.rest;unfold TkM.rest at this;rw [qn] at this
  simp at this;omega
 unfold jdf;rw [qf h.er,qh hk,h.big,qh (by decide),qf hc]
theorem jgb (st:StM)(r:List UInt8):yW st++r=ji st.clock++(ji st.births++(yo st.l.length++(st.l.flatMap (yf [])++r))):=by
 unfold yW yg;simp only [qV,kC,qF,qB]
 rfl
theorem jl3 {st:StM}(hc:yr st=none)(hw:SesW st.l)(r:List UInt8):∃ s,At s r/\vy (yW st++r)=jdf s st:=by
 obtain ⟨n1,n2,n3,_⟩:=zJ hc;have h0:At ⟨yW st++r,0,0,false⟩ (ji st.clock++(ji st.births++(yo st.l.length++(st.l.flatMap (yf [])++r)))):=⟨jgb st r,rfl,rfl,qJ _⟩;obtain ⟨a1,a2⟩:=h0.int n1;obtain ⟨b1,b2⟩:=a2.int n2;obtain ⟨p1,p2⟩:=b2.num (by omega)
 obtain ⟨q1,q2⟩:=At.sesTs _ _ _ p2 hw;refine ⟨_,q2,?_⟩;unfold vy;simp only;rw [a1,b1,p1,qh (by omega),q1]
theorem jjk {st:StM}(hc:yr st=none)(hw:SesW st.l):vy (yW st)=(0,st):=by
 obtain ⟨s,h1,h2⟩:=jl3 hc hw [];rw [qF] at h2;rw [h2];exact h1.fin hc
theorem jlz (h:(jY s).2.er=0):s.er=0:=by
 unfold jY at h;exact xA (xA (xA (xA (xA (jem (jem (jdW (xA (xA (xA (xA h)))))))))))
theorem jkv (h:(jY s).2.big=false):s.big=false:=by
 unfold jY at h;simp only at h;have h1:=(yK (yK (yK (yK h).1).1).1).1;rw [jdo,jdl,jdl] at h1;exact (yK (yK (yK (yK (yK h1).1).1).1).1).1
theorem jiv:∀ (n:Nat) (s:TkM),(sesTs n s).2.er=0->s.er=0
 | 0,_,h=>h
 | n+1,s,h=>jlz (jiv n (jY s).2 h)
theorem jgd:∀ (n:Nat) (s:TkM),(sesTs n s).2.big=false->s.big=false
 | 0,_,h=>h
 | n+1,s,h=>jkv (jgd n (jY s).2 h)
theorem Got.sesTs {b:List UInt8}:∀ (n:Nat) (s:TkM) (A:List UInt8),Got b s A->(sesTs n s).2.er=0->(sesTs n s).2.big=false->Got b (sesTs n s).2 (A++(sesTs n s).1.flatMap (yf []))/\∀ q∈(sesTs n s).1,q.scopes<2 ^ 64
 | 0,s,A,h,_,_=>⟨by show Got b s (A ++ []);rwa [qF],fun q hq=>by cases hq⟩
 | n+1,s,A,h,he,hb=>by
  obtain ⟨h1,h2⟩:=h.born (jiv n _ he) (jgd n _ hb);obtain ⟨h3,h4⟩:=Got.sesTs n (jY s).2 _ h1 he hb;refine ⟨?_,fun q hq=>?_⟩
  .
   show Got b (Go.Proofs.YtgcnolapjppbpaaGreatDoor.sesTs n (jY s).2).2 (A++((jY s).1::(Go.Proofs.YtgcnolapjppbpaaGreatDoor.sesTs n (jY s).2).1).flatMap (yf []));rw [qV,<- qB,<- jfr];exact h3
  .
   rcases qH.1 hq with rfl | hq
   . exact h2
   . exact h4 q hq
theorem jk9 {e f:StM}(h:jdf s e=(0,f)):s.er=0/\¬ s.k<s.l.length/\s.big=false/\yr e=none/\e=f:=by
 unfold jdf at h
 split at h
 .
  rename_i h0
  split at h
  . simp at h
  .
   rename_i h1
   split at h
   . simp at h
   .
    rename_i h2
    split at h
    .
     rename_i h3
     simp only [Prod.mk.injEq,true_and] at h;exact ⟨h0,h1,by simpa using h2,h3,h⟩
    . simp at h
 .
  rename_i h0
  simp only [Prod.mk.injEq] at h;exact absurd h.1 h0
theorem jkw {b:List UInt8}{st:StM}(h:vy b=(0,st)):yr st=none/\(∀ q∈st.l,q.scopes<2 ^ 64)/\yW st=b:=by
 unfold vy at h;simp only at h
 split at h
 . simp at h
 .
  obtain ⟨h1,h2,h3,h4,h5⟩:=jk9 h;have g0:Got b ⟨b,0,0,false⟩ []:=⟨rfl,qJ _⟩;have e3:=jiv _ _ h1;have b3:=jgd _ _ h3;rw [jdo] at b3;have e2:=jdW e3;have e1:=xA e2;have b1:=(yK b3).1;have g1:=g0.int e1 b1;have g2:=g1.int e2 b3;obtain ⟨g3,_⟩:=g2.num e3;obtain ⟨g4,g5⟩:=Got.sesTs _ _ _ g3 h1 h3;have g6:=g4.all h2;subst h5;refine ⟨h4,g5,Eq.trans ?_ g6.symm⟩;have hb:=jgb (⟨(⟨b,0,0,false⟩:TkM).int.1,(⟨b,0,0,false⟩:TkM).int.2.int.1,(sesTs (⟨b,0,0,false⟩:TkM).int.2.int.2.num.1 (⟨b,0,0,false⟩:TkM).int.2.int.2.num.2).1⟩:StM) [];rw [qF,qF] at hb;simp only at hb;rw [jb3] at hb;generalize (⟨b,0,0,false⟩:TkM).int=p at hb |-;rw [hb];simp only [wt,qB]
theorem jhX {n:Int}(h1:n<128):(ji n).length=1:=by
 unfold ji yo zY;rw [qf (by omega)];rfl
theorem jhJ (h:jG q=true):(yf [] q).length<=190:=by
 have hs:=SesN.of h;have hq:=h;unfold jG at hq;simp only [qq] at hq;have a1:=jhX (n:=q.slot) (by have:=jV hq.1;omega)
 have a2:=jhX (n:=q.level) (by have:=jV hq.2.2.2.1;omega)
 unfold yf;have h1:=fun n=>jy n
 have h2:=fun n=>xy n
 have h3:=yU hs.user;have h4:=yU hs.label;simp only [qd,wN];have:=h1 q.birth;have:=h1 q.upS;have:=h1 q.upB;have:=h1 q.kind;have:=h2 q.scopes;have:=h1 q.born;have:=h1 q.deadline;have:=h1 q.depth;omega
theorem jbt:∀ {l:List SesM},(∀ s∈l,jG s=true)->(l.flatMap (yf [])).length<=190*l.length
 | [],_=>by simp
 | s::l,h=>by
  have h1:=jhJ (h s (by simp))
  have h2:=jbt (l:=l) (fun q hq=>h q (by simp [hq]))
  rw [qV,qd,qp];omega
theorem vq {st:StM}(h:yr st=none):(yW st).length<=6144:=by
 obtain ⟨_,_,h3,h4⟩:=zJ h;have h5:=jbt h4;have:=jbW st.clock st.births st.l.length;unfold yW;rw [qd];omega
theorem jk2 {st:StM}:0<(yW st).length:=by
 have hs:∀ n,0<(yo n).length:=fun n=>by
  unfold yo zY;split <;> simp
 have:=jgb st [];rw [qF,qF] at this;rw [this,qd];have:=hs st.clock.toNat;unfold ji;omega
theorem jbC (s:TkM):s.num.2.big=s.big:=by
 unfold TkM.num
 split
 . split <;> rfl
 . rfl
theorem jbE (s:TkM):s.txt.2.big=s.big:=by
 unfold TkM.txt
 split
 . split <;> rfl
 . rfl
theorem xf (h:s.int.2.big=false):s.big=false/\s.rint.1=s.int.1:=by
 have h2:(s.num.2.big || !(decide (s.num.1<=9223372036854775807)))=false:=h
 rw [jbC,Bool.or_eq_false_iff] at h2;refine ⟨h2.1,?_⟩;have h3:s.num.1<=9223372036854775807:=by simpa using h2.2
 show rAs s.num.1=yC s.num.1;unfold rAs yC;rw [qf h3,qf h3]
theorem jjg (s:TkM)(h:(jY s).2.big=false):yO s=jY s:=by
 have a0:=xf (s:=(((((((((((s).int.2).int.2).int.2).int.2).int.2).txt.2).txt.2).num.2).int.2).int.2).int.2) h;have a1:=xf (s:=((((((((((s).int.2).int.2).int.2).int.2).int.2).txt.2).txt.2).num.2).int.2).int.2) a0.1;have h9:=xf (s:=(((((((((s).int.2).int.2).int.2).int.2).int.2).txt.2).txt.2).num.2).int.2) a1.1;have h8:=xf (s:=((((((((s).int.2).int.2).int.2).int.2).int.2).txt.2).txt.2).num.2) h9.1;have h7:((((((((s).int.2).int.2).int.2).int.2).int.2).txt.2).txt.2).big=false:=by rw [<- jbC];exact h8.1
 have h6:(((((((s).int.2).int.2).int.2).int.2).int.2).txt.2).big=false:=by rw [<- jbE];exact h7
 have h5:((((((s).int.2).int.2).int.2).int.2).int.2).big=false:=by rw [<- jbE];exact h6
 have h4:=xf (s:=((((s).int.2).int.2).int.2).int.2) h5;have h3:=xf (s:=(((s).int.2).int.2).int.2) h4.1;have h2:=xf (s:=((s).int.2).int.2) h3.1;have h1:=xf (s:=(s).int.2) h2.1;have h0:=xf (s:=s) h1.1;show ((⟨(s).rint.1,((s).int.2).rint.1,(((s).int.2).int.2).rint.1,((((s).int.2).int.2).int.2).rint.1,(((((s).int.2).int.2).int.2).int.2).rint.1,((((((s).int.2).int.2).int.2).int.2).int.2).txt.1,(((((((s).int.2).int.2).int.2).int.2).int.2).txt.2).txt.1,((((((((s).int.2).int.2).int.2).int.2).int.2).txt.2).txt.2).num.1,(((((((((s).int.2).int.2).int.2).int.2).int.2).txt.2).txt.2).num.2).rint.1,((((((((((s).int.2).int.2).int.2).int.2).int.2).txt.2).txt.2).num.2).int.2).rint.1,(((((((((((s).int.2).int.2).int.2).int.2).int.2).txt.2).txt.2).num.2).int.2).int.2).rint.1,((((((((((((s).int.2).int.2).int.2).int.2).int.2).txt.2).txt.2).num.2).int.2).int.2).int.2).rint.1⟩:SesM),((((((((((((s).int.2).int.2).int.2).int.2).int.2).txt.2).txt.2).num.2).int.2).int.2).int.2).int.2)=_;rw [h0.2,h1.2,h2.2,h3.2,h4.2,h8.2,h9.2,a1.2,a0.2]
 rfl
theorem jg3 (h:s.big=true)(e e':EvtM):vI s e=vI s e':=by
 unfold vI;rw [h];rfl
theorem jjn (l:List UInt8):ue l=vT l:=by
 unfold ue vT;simp only;generalize (TkM.num ⟨l,0,0,false⟩)=p;have hi:∀ f:Int->EvtM,vI p.2.rint.2 (f p.2.rint.1)=vI p.2.int.2 (f p.2.int.1):=fun f=>by
  show vI p.2.int.2 _=_
  cases hb:p.2.int.2.big
  . rw [(xf hb).2]
  . exact jg3 hb _ _
 have a0:vI (yO p.2).2 ⟨0,(yO p.2).1,0,0⟩=vI (jY p.2).2 ⟨0,(jY p.2).1,0,0⟩:=by
  cases hb:(jY p.2).2.big
  . rw [jjg _ hb]
  .
   show vI (jY p.2).2 _=_;exact jg3 hb _ _
 rw [a0,hi (fun n=>⟨1,ju,n,0⟩),hi (fun n=>⟨2,ju,0,n⟩)]
theorem jnj (h:jM e=true)(k1:(e.kind==1)=false)(k2:(e.kind==2)=false):(e.kind==0)=true:=by
 cases k0:(e.kind==0)
 . rw [jbp k0 k1 k2] at h;cases h
 . rfl
theorem evK (h:jM e=true):N63 e.kind:=by
 cases k1:(e.kind==1)
 .
  cases k2:(e.kind==2)
  . exact N63.lit 0 (jnj h k1 k2) (by omega)
  . exact N63.lit 2 k2 (by omega)
 . exact N63.lit 1 k1 (by omega)
theorem jnv (h:jM e=true)(k1:(e.kind==1)=true):N63 e.birth:=jad h (by simp at k1 |-;omega) k1
theorem jny (h:jM e=true)(k2:(e.kind==2)=true):N63 e.ticks:=(vV h (by simp at k2 |-;omega) (by simp at k2 |-;omega)).2
theorem jf2 (e:EvtM)(w:World)(hu:e.s.user.length<=9223372036854775807)(hl:e.s.label.length<=9223372036854775807)(a1:e.s.scopes<2 ^ 64) :
  Calls prog 87 #[.agg e.cells] w fun ev w'=>∃ o,ev=.returned (.tuple #[o,(uS e)])/\OwnM w' w.heap.size 5 o (jbO e).length ((jbO e).map V8)/\Below w.heap.size w w':=by
 have G:=Hd (show e.cells=#[.int .i64 e.kind,.int .i64 e.s.slot,.int .i64 e.s.birth,.int .i64 e.s.upS,.int .i64 e.s.upB,.int .i64 e.s.kind,.string (SB e.s.user),.string (SB e.s.label),.int .u64 (e.s.scopes:Int),.int .i64 e.s.level,.int .i64 e.s.born,.int .i64 e.s.deadline,.int .i64 e.s.depth,.int .i64 e.birth,.int .i64 e.ticks] from rfl)
 have H:=Hd (fun w=>uz e w hu hl)
 have B:=Hd (Box.new w e.cells 47);have C:=Hd (ja w (.cells e.cells 47));have I:=Hd a1;clear hu hl a1;rw [G.1] at B C H |-;go_enter func87,ntmps87;go_wp2_with fail
 cases hmay:jM e
 .
  have E:=Hd (show jbO e = [] by unfold jbO;rw [hmay];rfl)
  have F:=Hd (show uS e=1 by unfold uS;rw [hmay];rfl)
  have hc:=H.1;rw [hmay] at hc;refine (hc _).mono ?_;rintro ev w1 ⟨rfl,a0⟩;have A:=Hd (C.1.trans (a0.mono (by simp)))
  clear a0 hc H hmay;go_wp2;refine qP (wj rfl _ _ _) rfl ?_;rw [E.1,F.1];exact ⟨_,rfl,OwnM.nil _ _ _,A.1⟩
 .
  have E:=Hd (show jbO e=evB e by unfold jbO;rw [hmay];rfl)
  have F:=Hd (show uS e=0 by unfold uS;rw [hmay];rfl)
  have hc:=H.1;rw [hmay] at hc;refine (hc _).mono ?_;rintro ev w1 ⟨rfl,a0⟩;have A:=Hd (C.1.trans (a0.mono (by simp)))
  have K:=Hd ((B.1.below a0).range 0 [e.kind,e.s.slot,e.s.birth,e.s.upS,e.s.upB,e.s.kind,.string (SB e.s.user),.string (SB e.s.label),.int .u64 (e.s.scopes:Int),e.s.level,e.s.born,e.s.deadline,e.s.depth,e.birth,e.ticks] (fun j v hv=>by rw [qA];simpa using hv))
  have D:=Hd (fun w=>jb0 e w (evK hmay) (fun k1 k2=>SesN.of (jap hmay (jnj hmay k1 k2))) (fun k1=>jnv hmay k1) (fun k2=>jny hmay k2) I.1)
  rw [G.1] at D;clear a0 hc H hmay B
  go_wp2_with (refine vJ (op:=⟨some 7,.load _ _,_,_,_,_⟩) rfl 47 (.tmp 1) rfl w.heap.size 0 rfl _ _ K.1 underlying47 rfl (by kernel_rfl) ?_)
  intro cv a2;rw [a2.out];clear a2 cv;go_wp2_with fail;refine (D.1 _).mono ?_;rintro ev w2 ⟨o,rfl,ho,hb⟩;have L:=Hd (ho.lower A.1.size);have J:=Hd (A.1.trans (hb.mono A.1.size));clear ho hb;go_wp2;refine qP (wj rfl _ _ _) rfl ?_;rw [E.1,F.1];exact ⟨_,rfl,L.1,J.1⟩
theorem jbh (d:DiskM)(i:Int)(s:ByteArray)(j:Nat)(h:i≠(j:Int)):(d.write i s).1.strs[j]?=d.strs[j]?:=by
 unfold DiskM.write
 split
 . rfl
 rename_i h1
 split
 . rfl
 split
 . rfl
 .
  show (d.strs.set i.toNat s)[j]?=_;rw [List.getElem?_set_ne (by omega)]
theorem jcN:∀ (l:List (List UInt8)) (d:DiskM) (b:Int) (j:Nat),((j:Int)<b\/b+l.length<=j)->(jr d b l).1.strs[j]?=d.strs[j]?
 | [],d,b,j,_=>rfl
 | c::r,d,b,j,h=>by
  rw [qp] at h;rw [jr]
  split
  . rw [jcN r _ (b+1) j (by omega),jbh _ _ _ _ (by omega)]
  . exact jbh _ _ _ _ (by omega)
theorem jjP (e:Nat):1<=jF 0 24 e/\jF 0 24 e<=25:=by
 unfold jF
 rcases pi e with h | h <;> rw [h] <;> decide
theorem jfd (d:DiskM)(e:Nat)(p:List UInt8)(j:Nat)(hj:49<=j):(jR d 0 24 e p).1.strs[j]?=d.strs[j]?:=by
 unfold jR
 split
 .
  split
  . rfl
  rename_i h2
  have hf:=jjP e;have hc:=zl p.length p (qm _);have hb:(jk p.length p).length<=24:=by rw [hc];unfold yd;omega
  have h3:=jcN (jk p.length p) d (jF 0 24 e) j (by omega)
  split
  . rw [jbh _ _ _ _ (by omega),h3]
  . exact h3
 . rfl
theorem LogI.strs {e:UInt32}{b n:Nat}{want:List (List UInt8)}{d:DiskM}(h:LogI e b n want l d)(hl:d'.strs.length=d.strs.length)(hs:∀ j,j<n->d'.strs[b+j]?=d.strs[b+j]?):LogI e b n want l d' :=
 ⟨h.same,h.used,h.le,h.recs,h.short,by rw [hl];exact h.len,fun j hj=>by rw [hs j (by have:=h.le;omega)];exact h.stand j hj,fun j hj a0 s he=>h.no j hj a0 s (by rw [<- hs j a0];exact he)⟩
def Later (d:DiskM)(ep:UInt32):Prop:=∀ e:UInt32,ep.toNat<e.toNat->∀ j s,49<=j->j<65->d.strs[j]?=some s->NoB e s
theorem Later.strs {d:DiskM}(h:Later d ep)(hs:∀ j,49<=j->d'.strs[j]?=d.strs[j]?):Later d' ep:=fun e he j s h1 h2 h3=>h e he j s h1 h2 (by rw [<- hs j h1];exact h3)
theorem Later.mono {d:DiskM}{ep':UInt32}(h:Later d ep)(hl:ep.toNat<=ep'.toNat):Later d ep':=fun e he=>h e (by omega)
theorem LogI.newL {e:UInt32}{d:DiskM}(h:Later d ep)(he:ep.toNat<e.toNat)(hl:65<=d.strs.length):LogI e 49 16 [] (yt e) d :=
 ⟨⟨rfl,rfl,rfl⟩,rfl,qJ _,rfl,fun _ h=>by simp at h,by omega,fun j hj=>by simp [yt] at hj,fun j _ hj s hs=>h e he (49+j) s (by omega) (by omega) hs⟩
theorem Later.append {d:DiskM}(h:Later d ep)(hl:l.epoch.toNat<=ep.toNat)(p:List UInt8):Later (l.append d p).2.1 ep:=by
 intro e he j s h1 h2;have a0:l.epoch≠e:=fun x=>by rw [x] at hl;omega
 have hb:(d.back (l.base+l.used) (jf l.epoch p)).1.strs[j]?=some s->NoB e s:=fun hs=>by
  rcases jdO d (jf l.epoch p) (l.base+l.used) j with ⟨h3,_⟩ | ⟨h3,h4,h5,_⟩
  . exact h e he j s h1 h2 (h3 ▸ hs)
  .
   rw [h5] at hs;injection hs with hs
   rw [<- hs];exact jjD a0 (jee (by omega))
 unfold LogM.append
 split
 . exact h e he j s h1 h2
 split
 . exact h e he j s h1 h2
 split
 . exact h e he j s h1 h2
 split <;> exact hb
theorem jdu {d:DiskM}{at_ n:Int}{e:Nat}(h:Holds d at_ n e p):∀ (bs:List (List UInt8)) (a:Nat),at_+2*n<a->Holds (d.back a bs).1 at_ n e p
 | [],_,_=>h
 | b::r,a,ha=>by
  rw [xH];have ih:=jdu h r (a+1) (by omega)
  split
  . exact ih
  . exact ih.write _ _ (.inr ha)
theorem jgt {d:DiskM}{e:Nat}(h:Holds d 0 24 e p)(l:LogM)(hb:49<=l.base)(q:List UInt8):Holds (l.append d q).2.1 0 24 e p:=by
 have h1:=jdu h (jf l.epoch q) (l.base+l.used) (by omega)
 unfold LogM.append
 split
 . exact h
 split
 . exact h
 split
 . exact h
 split <;> exact h1
def jdS (l:List SesM):Prop:=∀ s∈l,s.scopes<2 ^ 64
structure Img (d:DiskM)(l:LogM)(st:StM)(ep:UInt32)(st0:StM)(evs:List EvtM):Prop where
 hold:Holds d 0 24 ep.toNat (yW st0)
 snd:Snd st0
 sc:jdS st0.l
 all:yy st0 evs=(st,evs.length)
 may:∀ e∈evs,jM e=true/\e.s.scopes<2 ^ 64
 log:LogI ep 49 16 (evs.map evB) l d
structure KeptD (d:DiskM)(st:StM)(ep:UInt32):Prop where
 wf:d.Wf
 len:65<=d.strs.length/\d.strs.length<=4096
 later:Later d ep
 alt:(jH d 0 = []/\ep=0/\st=jI)\/∃ l st0 evs,Img d l st ep st0 evs
theorem Img.st {d:DiskM}{st:StM}(h:Img d l st ep st0 evs):Snd st:=by
 have h1:=h.snd.all evs;rw [h.all] at h1;exact h1
theorem jki {st:StM}(h:jdS st.l)(he:e.s.scopes<2 ^ 64):jdS (jt st e).2.l:=by
 have hw:∀ (goes:SesM->Bool),jdS (jB goes st.l):=fun goes s hs=>h s (List.mem_filter.1 hs).1
 unfold jt
 split
 .
  split
  .
   split
   .
    intro s hs
    rcases qW.1 hs with hs | hs
    . exact h s hs
    . rw [qC.1 hs];exact he
   . intro s hs;cases hs
  .
   split
   .
    split
    . exact hw _
    . intro s hs;cases hs
   .
    split
    . intro s hs;cases hs
    . exact hw _
 . intro s hs;cases hs
theorem jlo:∀ (l:List EvtM) {st:StM},jdS st.l->(∀ e∈l,e.s.scopes<2 ^ 64)->jdS (yy st l).1.l
 | [],_,h,_=>h
 | e::l,st,h,he=>by
  rw [yy]
  split
  . exact jlo l (jki h (he e (by simp))) (fun x hx=>he x (by simp [hx]))
  . exact h
theorem Img.stSc {d:DiskM}{st:StM}(h:Img d l st ep st0 evs):jdS st.l:=by
 have h1:=jlo evs h.sc (fun e he=>(h.may e he).2)
 rw [h.all] at h1;exact h1
theorem KeptD.snd {d:DiskM}{st:StM}(h:KeptD d st ep):Snd st/\jdS st.l:=by
 rcases h.alt with ⟨_,_,rfl⟩ | ⟨l,st0,evs,hi⟩
 . exact ⟨Snd.zero,fun s hs=>by cases hs⟩
 . exact ⟨hi.st,hi.stSc⟩
theorem jl0 {st:StM}(h:Snd st)(hs:jdS st.l):SesW st.l:=fun q hq=>⟨SesN.of (h.may q hq),hs q hq⟩
theorem jfb:∀ (evs:List EvtM),(∀ e∈evs,jM e=true/\e.s.scopes<2 ^ 64)->vm (evs.map evB)=evs
 | [],_=>rfl
 | e::l,h=>by
  have h1:=h e (by simp)
  have h2:=jkH h1.1 h1.2;rw [wK,vm,h2,qf rfl,jfb l (fun x hx=>h x (by simp [hx]))]
theorem jim {e:UInt32}{d:DiskM}{want:List (List UInt8)}(h:LogI e 49 16 want l d):IsPays e (xW d 49 16) want:=by
 have hl:=h.len;obtain ⟨t,h1,h2⟩:=h.blocks (xW d 49 16) (by unfold xW;rw [qE,qr,qn];omega) (fun j hj=>jgZ d (by omega) j hj)
 rw [h1];exact ⟨(jlu e want t h.short h2).2,fun i hi=>⟨_,(jgH e want t h.short i (by omega)).2 hi⟩⟩
theorem KeptD.kept {d:DiskM}{st:StM}(h:KeptD d st ep):yi d=(st,ep,0):=by
 rcases h.alt with ⟨h1,h2,h3⟩ | ⟨l,st0,evs,hi⟩
 .
  have hl:jZ d 0 24=(0,[],10):=by
   unfold jZ;rw [qf (by unfold xp;have:=h.len;omega),qf h1]
  unfold yi;rw [hl,qf rfl,h2,h3]
 .
  have hl:=hi.hold.load ep.toNat_lt;have hd:=jjk hi.snd.check (jl0 hi.snd hi.sc);unfold yi;rw [hl];simp only;rw [qh (by decide),qf trivial,hd,qf rfl,UInt32.ofNat_toNat,(jim hi.log).eq,jfb evs hi.may,hi.all]
structure StoI (d:DiskM)(s:StoM)(st:StM):Prop where
 wf:d.Wf
 len:65<=d.strs.length/\d.strs.length<=4096
 later:Later d s.epoch
 img:∃ st0 evs,Img d s.log st s.epoch st0 evs
structure KeptI (d:DiskM)(st:StM)(ep:UInt32):Prop where
 wf:d.Wf
 len:65<=d.strs.length/\d.strs.length<=4096
 later:Later d ep
 img:∃ l st0 evs,Img d l st ep st0 evs
theorem StoI.kept {d:DiskM}{s:StoM}{st:StM}(h:StoI d s st):KeptI d st s.epoch:=⟨h.wf,h.len,h.later,by obtain ⟨a,b,c⟩:=h.img;exact ⟨_,a,b,c⟩⟩
theorem KeptI.d {d:DiskM}{st:StM}(h:KeptI d st ep):KeptD d st ep:=⟨h.wf,h.len,h.later,.inr h.img⟩
theorem KeptI.left {d:DiskM}{st:StM}(h:KeptI d st ep)(o:Option Nat):KeptI { d with left:=o } st ep:=by
 obtain ⟨l,st0,evs,hi⟩:=h.img;exact ⟨⟨h.wf.inr,h.wf.short,h.wf.play⟩,h.len,h.later,l,st0,evs,⟨⟨hi.hold.may,hi.hold.fits,hi.hold.small,hi.hold.head,hi.hold.body⟩,hi.snd,hi.sc,hi.all,hi.may,⟨hi.log.same,hi.log.used,hi.log.le,hi.log.recs,hi.log.short,hi.log.len,hi.log.stand,hi.log.no⟩⟩⟩
theorem StoI.left {d:DiskM}{s:StoM}{st:StM}(h:StoI d s st)(o:Option Nat):StoI { d with left:=o } s st:=by
 obtain ⟨st0,evs,hi⟩:=h.img;exact ⟨⟨h.wf.inr,h.wf.short,h.wf.play⟩,h.len,h.later,st0,evs,⟨⟨hi.hold.may,hi.hold.fits,hi.hold.small,hi.hold.head,hi.hold.body⟩,hi.snd,hi.sc,hi.all,hi.may,⟨hi.log.same,hi.log.used,hi.log.le,hi.log.recs,hi.log.short,hi.log.len,hi.log.stand,hi.log.no⟩⟩⟩
theorem KeptD.left {d:DiskM}{st:StM}(h:KeptD d st ep)(o:Option Nat):KeptD { d with left:=o } st ep:=by
 rcases h.alt with h1 | h1
 . exact ⟨⟨h.wf.inr,h.wf.short,h.wf.play⟩,h.len,h.later,.inl h1⟩
 . exact (KeptI.left ⟨h.wf,h.len,h.later,h1⟩ o).d
theorem zy (h:ep.toNat<4294967295):(ep+1).toNat=ep.toNat+1/\ep≠4294967295:=by
 refine ⟨?_,fun e=>?_⟩
 . rw [UInt32.toNat_add];show (ep.toNat+1) % 4294967296=_;omega
 . rw [e] at h;exact absurd h (by decide)
theorem jiW {st:StM}(h:yr st=none):ja3 st=0/\vz st=yW st:=by
 unfold ja3 vz;rw [qf h,qf h];exact ⟨rfl,rfl⟩
theorem jdH {st:StM}(h:yr st=none):1<=yd (yW st).length/\yd (yW st).length<=24:=by
 have h1:=vq h;have h2:=jk2 (st:=st);unfold yd;omega
theorem ja0 (d:DiskM)(i:Int)(s:ByteArray)(h:(d.write i s).2=0):(d.write i s).1.trail.length=d.trail.length+1:=by
 unfold DiskM.write at h |-
 split
 . rename_i h1;rw [qf h1] at h;cases h
 rename_i h1
 rw [qh h1] at h
 split
 . rename_i h2;rw [qf h2] at h;cases h
 rename_i h2
 rw [qh h2] at h
 split
 . rename_i h3;rw [qf h3] at h;cases h
 . simp
theorem jc0:∀ (l:List (List UInt8)) (d:DiskM) (b:Int),(jr d b l).2=0->(jr d b l).1.trail.length=d.trail.length+l.length
 | [],_,_,_=>rfl
 | c::r,d,b,h=>by
  rw [jr] at h |-
  split at h
  .
   rename_i h1
   rw [qf h1,jc0 r _ _ h,qp];have:(d.write b (SB c)).1.trail.length=d.trail.length+1:=ja0 _ _ _ h1;omega
  . rename_i h1;exact absurd h h1
theorem jfy (d:DiskM)(e:Nat)(p:List UInt8)(h:(jR d 0 24 e p).2=0):(jR d 0 24 e p).1.trail.length=d.trail.length+(yd p.length+1):=by
 unfold jR at h |-
 split
 .
  rename_i h1
  rw [qf h1] at h
  split
  . rename_i h2;rw [qf h2] at h;cases h
  rename_i h2
  rw [qh h2] at h
  split
  .
   rename_i h3
   rw [qf h3] at h;rw [ja0 _ _ _ h,jc0 _ _ _ h3,zl p.length p (qm _)];omega
  .
   rename_i h3
   rw [qh h3] at h;exact absurd h h3
 . rename_i h1;rw [qh h1] at h;cases h
theorem jj8 {d:DiskM}(h:d.left=none)(hm:xp d.strs.length 0 24)(hs:d.strs.length<=4096)(e:Nat)(p:List UInt8)(hp:(p.length:Int)<=24*256):(jR d 0 24 e p).2=0/\(jR d 0 24 e p).1.left=none:=by
 obtain ⟨h1,_,h3⟩:=jhF d 0 24 e p hm hs hp (fun k hk=>by rw [h] at hk;cases hk)
 exact ⟨h1,by rw [h3,h];rfl⟩
theorem jhm {d:DiskM}{st:StM}(hs:Snd st)(a3:jdS st.l)(hw:d.Wf)(hl:65<=d.strs.length/\d.strs.length<=4096)(a2:Later d ep)(a4:ep.toNat<4294967295)(hk:∀ k,d.left=some k->yd (yW st).length<k) :
  (jR d 0 24 (ep+1).toNat (yW st)).2=0/\StoI (jR d 0 24 (ep+1).toNat (yW st)).1 ⟨ep+1,yt (ep+1),false⟩ st:=by
 have hm:xp d.strs.length 0 24:=by unfold xp;omega
 have ht:=vq hs.check;obtain ⟨h1,h2,_⟩:=jhF d 0 24 (ep+1).toNat (yW st) hm hl.2 (by omega) hk
 have a1:=vU d 0 24 (ep+1).toNat (yW st);have a5:=fun j hj=>jfd d (ep+1).toNat (yW st) j hj
 have a6:=(zy a4).1;have a0:Later (jR d 0 24 (ep+1).toNat (yW st)).1 ep:=a2.strs a5;refine ⟨h1,jek hw _ _ _ _,by rw [a1];exact hl,a0.mono (by show ep.toNat<=(ep+1).toNat;omega),st,[],h2,hs,a3,rfl,(fun e he=>by cases he),LogI.newL a0 (by show ep.toNat<(ep+1).toNat;omega) (by rw [a1];exact hl.1)⟩
theorem ji1 {d:DiskM}{st:StM}(h:KeptI d st ep)(a2:ep.toNat<4294967295) :
  ((yu ep d st).2=0/\StoI (yu ep d st).1 ⟨ep+1,yt (ep+1),false⟩ st/\(yu ep d st).1.trail.length=d.trail.length+(yd (yW st).length+1))\/((yu ep d st).2=22/\d.left≠none/\KeptI (yu ep d st).1 st ep):=by
 obtain ⟨hs,a4⟩:=h.d.snd;obtain ⟨n1,n2⟩:=jiW hs.check;obtain ⟨e1,e2⟩:=zy a2;have hb:=jdH hs.check;have ht:=vq hs.check;unfold yu;rw [qf n1,qh e2,n2];by_cases hk:∃ k,d.left=some k/\k<=yd (yW st).length
 .
  obtain ⟨k,a0,a5⟩:=hk;obtain ⟨l,st0,evs,hi⟩:=h.img;obtain ⟨h1,h2⟩:=jks d 0 24 ep.toNat (ep+1).toNat (yW st0) (yW st) hi.hold (by omega) k a0 a5 (by rw [e1];omega)
  have a3:=fun j hj=>jfd d (ep+1).toNat (yW st) j hj
  have a1:=vU d 0 24 (ep+1).toNat (yW st);exact .inr ⟨h1,by rw [a0];simp,⟨jek h.wf _ _ _ _,by rw [a1];exact h.len,h.later.strs a3,l,st0,evs,h2,hi.snd,hi.sc,hi.all,hi.may,hi.log.strs a1 (fun j hj=>a3 _ (by omega))⟩⟩
 .
  have h2:=jhm hs a4 h.wf h.len h.later a2 (fun k a0=>by
   rcases qX (yd (yW st).length) k with h1 | h1
   . exact h1
   . exact absurd ⟨k,a0,h1⟩ hk)
  exact .inl ⟨h2.1,h2.2,jfy _ _ _ h2.1⟩
theorem jiI {d:DiskM}{st:StM}(h:KeptD d st ep)(a0:ep.toNat<4294967295)(hn:d.left=none) :
  (yu ep d st).2=0/\StoI (yu ep d st).1 ⟨ep+1,yt (ep+1),false⟩ st/\(yu ep d st).1.left=none/\(yu ep d st).1.trail.length=d.trail.length+(yd (yW st).length+1):=by
 obtain ⟨hs,a1⟩:=h.snd;obtain ⟨n1,n2⟩:=jiW hs.check;obtain ⟨e1,e2⟩:=zy a0;have ht:=vq hs.check;unfold yu;rw [qf n1,qh e2,n2];obtain ⟨h1,h2⟩:=jhm hs a1 h.wf h.len h.later a0 (fun k hk=>by rw [hn] at hk;cases hk)
 have h3:=jj8 hn (by unfold xp;have:=h.len;omega) h.len.2 (ep+1).toNat (yW st) (by omega)
 exact ⟨h1,h2,h3.2,jfy _ _ _ h1⟩
theorem jfu (e:UInt32){x:EvtM}(h:jM x=true):(jf e (evB x)).length=1:=by
 have h1:=jfI h;rw [jhc e _ (by omega),qh (by omega)]
theorem jef (e:UInt32):∀ (evs:List EvtM),(∀ x∈evs,jM x=true/\x.s.scopes<2 ^ 64)->(yM e (evs.map evB)).length=evs.length
 | [],_=>rfl
 | x::l,h=>by
  have h1:=jef e l (fun y hy=>h y (by simp [hy]))
  have h2:=jfu e (h x (by simp)).1
  have h3:yM e ((x::l).map evB)=jf e (evB x)++yM e (l.map evB):=by simp [yM]
  rw [h3,qd,h1,h2,qp];omega
theorem Img.used {d:DiskM}{st:StM}(h:Img d l st ep st0 evs):l.used=l.records:=by
 rw [h.log.used,h.log.recs,jef ep evs h.may,qE]
theorem jg5 {d:DiskM}(h:(l.append d p).2.2=19):l.n-l.used<(jf l.epoch p).length:=by
 unfold LogM.append at h
 split at h
 . cases h
 split at h
 . cases h
 split at h
 . assumption
 split at h
 . cases h
 . cases h
theorem Img.event {d:DiskM}{l':LogM}{st next:StM}(h:Img d l st ep st0 evs)(ha:jt st e=(0,next))(hm:jM e=true)(a0:e.s.scopes<2 ^ 64)(hh:Holds d' 0 24 ep.toNat (yW st0))(hl:LogI ep 49 16 (evs.map evB ++ [evB e]) l' d'):Img d' l' next ep st0 (evs ++ [e]):=by
 refine ⟨hh,h.snd,h.sc,?_,fun x hx=>?_,by rw [qM];exact hl⟩
 .
  have h1:=jbm evs [e] st0 (by rw [h.all])
  rw [h1,h.all,qd];simp only [yy,ha,qf]
  rfl
 .
  rcases qW.1 hx with hx | hx
  . exact h.may x hx
  . rw [qC.1 hx];exact ⟨hm,a0⟩
theorem Img.other {d:DiskM}{l':LogM}{st:StM}(h:Img d l st ep st0 evs)(hh:Holds d' 0 24 ep.toNat (yW st0))(hl:LogI ep 49 16 (evs.map evB) l' d'):Img d' l' st ep st0 evs :=
 ⟨hh,h.snd,h.sc,h.all,h.may,hl⟩
theorem jlf {d:DiskM}{a:Nat}{bs:List (List UInt8)}(hb:bs.length=1)(h:(d.back a bs).2=0):(d.back a bs).1.trail.length=d.trail.length+1:=by
 match bs,hb with
 | [b],_ =>
  rw [xH,qh (by simp [DiskM.back])] at h |-
  exact ja0 _ _ _ h
theorem je8 {d:DiskM}{st next:StM}(h:Img d l st ep st0 evs)(hw:d.Wf)(hl:65<=d.strs.length/\d.strs.length<=4096)(a5:Later d ep)(hd:l.dead=false)(ha:jt st e=(0,next))(hm:jM e=true)(a6:e.s.scopes<2 ^ 64) :
  ((l.append d (evB e)).2.2=0/\(l.append d (evB e)).1.dead=false/\StoI (l.append d (evB e)).2.1 ⟨ep,(l.append d (evB e)).1,false⟩ next/\(l.append d (evB e)).1.records=l.records+1/\(l.append d (evB e)).2.1.trail.length=d.trail.length+1) \/
  ((l.append d (evB e)).2.2=22/\d.left≠none/\KeptI (l.append d (evB e)).2.1 st ep) \/
  ((l.append d (evB e)).2.2=19/\l.records=16):=by
 obtain ⟨e1,e2,e3⟩:=h.log.same;have a7:=jfI hm;have a1:=(vw l d (evB e)).1;have a2:=jcj l hw (evB e);have a0:=a5.append (l:=l) (by rw [e3];exact qm _) (evB e)
 have a3:=jgt h.hold l (by rw [e1];exact qm _) (evB e)
 have a4:=jfu ep hm;have a8:=h.used
 rcases h.log.append (evB e) with ⟨h0,_,h1,_,_,h3⟩ | ⟨h0,h1,h3⟩ | ⟨h0,h1,_⟩ | ⟨h0,_,_,h4,h5⟩
 .
  refine .inl ⟨h0,h1,⟨a2,by rw [a1];exact hl,a0,st0,evs ++ [e],h.event ha hm a6 a3 h3⟩,by rw [h3.recs,h.log.recs,qd,qE];rfl,?_⟩
  unfold LogM.append at h0 |-;rw [qh (by rw [hd];simp)] at h0 |-
  rw [qh (by omega)] at h0 |-
  split
  . rename_i g;rw [qf g] at h0;cases h0
  .
   rename_i g
   rw [qh g] at h0
   split
   . rename_i g2;rw [qf g2] at h0;cases h0
   .
    rename_i g2
    exact jlf (by rw [e3];exact a4) (by simpa using g2)
 .
  refine .inr (.inl ⟨h0,fun hn=>?_,a2,by rw [a1];exact hl,a0,_,st0,evs,h.other a3 h3⟩)
  by_cases hf:l.n-l.used<(jf l.epoch (evB e)).length
  .
   unfold LogM.append at h0;rw [qh (by rw [hd];simp),qh (by omega),qf hf] at h0
   cases h0
  .
   have:=jjL (l:=l) (p:=evB e) hn hd (by omega) (by rw [e1,e2];omega) (by have:=h.log.le2;omega)
   rw [this] at h0;cases h0
 . omega
 .
  have h6:=jg5 h0;rw [e3,a4,e2] at h6;have:=h.log.le;exact .inr (.inr ⟨h0,by omega⟩)
end Go.Proofs.YtgcnolapjppbpaaGreatDoor
