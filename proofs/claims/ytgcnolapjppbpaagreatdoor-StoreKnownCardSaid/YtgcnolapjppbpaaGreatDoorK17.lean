/- Texts of one proof. -/
import Derived.Test.YtgcnolapjppbpaaGreatDoorK09
import Derived.Test.YtgcnolapjppbpaaGreatDoorK05
import Derived.Test.YtgcnolapjppbpaaGreatDoorK08
namespace Go.Proofs.YtgcnolapjppbpaaGreatDoor
open Go.RowKit _root_.Go.Proofs.Tryz
set_option maxRecDepth 100000
set_option maxHeartbeats 25600000
variable {w0 w w':World}{p base:Nat}{v:Value}{A:List UInt8}{g:List Bool}
theorem jgG (ns:List Int):(yg ns).length<=10*ns.length:=by
 induction ns with
 | nil=>simp [yg]
 | cons a l ih=>have:=jy a;simp only [yg,qV,qd,qp] at ih |-;omega
theorem jeE (B p r:Nat)(v0:Value)(l0:List UInt8)(ns:List Int)(w:World)(hw:IsW w B p v0 l0)(hr:Box w r (ns.map (fun n=>Value.int .i64 n)).toArray 3)(a4:∀ n∈ns,N63 n)(a8:¬ WF p v0 r)(b1:l0.length<=100000)(hn:ns.length<=100)(hB:B<=w.heap.size) :
  Calls prog 100 #[.agg #[.pointer (some ⟨p,0,none⟩)],.slice (some ⟨r,0,none⟩) ns.length ns.length] w fun e w'=>e=.returned (.tuple #[])/\∃ v',IsW w' B p v' (l0++yg ns)/\Mod (WF p v0) w w'/\Fresh w v0 v':=by
 have a0:=ja w (.cells #[.pointer (some ⟨p,0,none⟩)] 204);have hq:=Box.new w #[.pointer (some ⟨p,0,none⟩)] 204;have a9:¬ WF p v0 w.heap.size:=by
  have h1:=hw.box.lt;rintro (e | e)
  . omega
  . have:=(hw.own.lt _ e).2;omega
 have a5:=hw.below a0;have a6:=hr.below a0;have a2:=Mod.of_below (F:=WF p v0) a0;have b0:B<=(w.alloc (.cells #[.pointer (some ⟨p,0,none⟩)] 204)).heap.size:=qi hB a0.size;go_enter func100,ntmps100;go_wp2_with fail;generalize hwq:w.alloc (.cells #[.pointer (some ⟨p,0,none⟩)] 204)=wa at hq a5 a6 a2 b0 |-;have C:=Hd (show ∀ v',Fresh wa v0 v'->Fresh w v0 v' from fun v' h k hk=>(h k hk).imp id (fun g=>qi a2.size g))
 have D:=Hd a2;clear hwq a2 a0 hw hr
 go_loopg [8] ns.length (fun gk iv wr=>∃ (k:Nat) (v1:Value),gk+k=ns.length/\iv=.int .i64 (k:Int)/\IsW wr B p v1 (l0++yg (ns.take k))/\Mod (WF p v0) wa wr/\Fresh wa v0 v1)
 case atStart=>exact ⟨0,v0,rfl,rfl,by simpa [yg] using a5,Mod.refl _ _,Fresh.refl _ _⟩
 case round =>
  obtain ⟨k,v1,a3,rfl,hW,hM,hF⟩:=hrel;have hs:=hM.size;have E:=Hd hW;have G:=Hd hM;have A:=Hd hF;by_cases hk:k<ns.length
  .
   obtain ⟨n,a1⟩:=Nm (ns[k]);have hz:=jhl (n:=n) (a4 n (by rw [a1];exact qy _))
   have N:=Hd (a4 n (by rw [a1];exact qy _))
   have c0:wr.cell? ⟨w.heap.size,0,none⟩=some (.pointer (some ⟨p,0,none⟩)):=(hq.mod hM a9).cell 0 _ rfl;have c1:wr.cell? ⟨r,k,none⟩=some (.int .i64 n):=(a6.mod hM a8).cell k _ (by simp [hk,a1])
   have O:=Hd (show yg (ns.take (k+1))=yg (ns.take k)++ji n from by rw [qk hk,jep,a1])
   have P:=Hd (show (l0++yg (ns.take k)).length<=140737488350000 from by
    have h1:=jgG (ns.take k);have h2:(ns.take k).length<=100:=by rw [qr];omega
    rw [qd];omega)
   have k0:(0:Int)<=(k:Int):=by omega
   have k1:(k:Int)<(ns.length:Int):=by omega
   have H:=Hd a3;have I:=Hd hk;clear a3 a1 hW hM hF hk;go_wp2_with fail;refine (jab N.1 B p v1 _ _ E.1 P.1 (by omega)).mono ?_
   rintro e w2 ⟨rfl,v2,s1,s2,s3⟩;have J:=Hd s1;have K:=Hd (WF.then G.1 A.1 s2);have L:=Hd (A.1.trans hs s3);clear s1 s2 s3 c0 c1;go_wp2
   go_roundg (ns.length-(k+1))
   case measure=>have:=H.1;have:=I.1;omega
   case rel=>exact ⟨k+1,v2,by have:=H.1;have:=I.1;omega,by go_num,by rw [O.1,<- qB];exact J.1,K.1,L.1⟩
  .
   have k1:¬ (k:Int)<(ns.length:Int):=by omega
   have ht:ns.take k=ns:=ql (by omega)
   rw [ht] at hW;have M:=Hd hW;clear a3 hW hM hF ht E;go_wp2;refine pE (wZ rfl _ _ _) rfl ?_;exact ⟨rfl,v1,M.1,D.1.trans G.1,C.1 v1 A.1⟩
structure WSt (w0 w:World)(p:Nat)(v:Value)(A:List UInt8)(xs:List (Nat × Array Value × TypeId)):Prop where
 iw:IsW w w0.heap.size p v A
 bx:∀ x∈xs,Box w x.1 x.2.1 x.2.2/\¬ WF p v x.1
 le:w0.heap.size<=p
 bel:Below w0.heap.size w0 w
theorem WSt.call {v':Value}{A':List UInt8}{xs:List (Nat × Array Value × TypeId)}(h:WSt w0 w p v A xs)(hw:IsW w' w0.heap.size p v' A')(hm:Mod (WF p v) w w')(hf:Fresh w v v'):WSt w0 w' p v' A' xs:=by
 refine ⟨hw,fun x hx=>?_,h.le,h.bel.trans (hm.below h.bel.size (fun i hi=>?_))⟩
 .
  obtain ⟨h1,h2⟩:=h.bx x hx;refine ⟨h1.mod hm h2,?_⟩;have h3:=h1.lt;rintro (e | e)
  . exact h2 (.inl e)
  .
   rcases hf _ e with e | e
   . exact h2 (.inr e)
   . omega
 .
  rcases hi with rfl | e
  . exact h.le
  . exact (h.iw.own.lt i e).1
theorem WSt.below {xs:List (Nat × Array Value × TypeId)}(h:WSt w0 w p v A xs)(hb:Below w.heap.size w w'):WSt w0 w' p v A xs :=
 ⟨h.iw.below hb,fun x hx=>⟨(h.bx x hx).1.below hb,(h.bx x hx).2⟩,h.le,h.bel.trans (hb.mono h.bel.size)⟩
theorem WSt.row {xs:List (Nat × Array Value × TypeId)}(h:WSt w0 w p v A xs):¬ WF p v w.heap.size:=by
 have h1:=h.iw.box.lt;rintro (e | e)
 . omega
 . have:=(h.iw.own.lt _ e).2;omega
theorem WSt.push {b:Nat}{xs:List (Nat × Array Value × TypeId)}{cs:Array Value}{t:TypeId}(h:WSt w0 w p v A xs)(hb:Below w.heap.size w w')(e:b=w.heap.size)(hx:Box w' b cs t):WSt w0 w' p v A ((b,cs,t)::xs):=by
 subst e;have h':=h.below hb;refine ⟨h'.iw,fun x a0=>?_,h'.le,h'.bel⟩
 rcases qH.1 a0 with rfl | a0
 . exact ⟨hx,h.row⟩
 . exact h'.bx x a0
theorem WSt.drop {x:Nat × Array Value × TypeId}{xs:List (Nat × Array Value × TypeId)}(h:WSt w0 w p v A (x::xs)):WSt w0 w p v A xs:=⟨h.iw,fun y hy=>h.bx y (by simp [hy]),h.le,h.bel⟩
theorem WSt.one {x:Nat × Array Value × TypeId}{xs:List (Nat × Array Value × TypeId)}(h:WSt w0 w p v A (x::xs)):Box w x.1 x.2.1 x.2.2:=(h.bx x (by simp)).1
theorem WSt.ints {r:Nat}{xs:List (Nat × Array Value × TypeId)}(h:WSt w0 w p v A xs)(hr:r=w.heap.size)(ns:List Int)(a0:∀ n∈ns,N63 n)(hA:A.length<=100000)(hn:ns.length<=100) :
  Calls prog 100 #[.agg #[.pointer (some ⟨p,0,none⟩)],.slice (some ⟨r,0,none⟩) ns.length ns.length] (w.alloc (.cells (ns.map (fun n=>Value.int .i64 n)).toArray 3)) fun ev w'=>ev=.returned (.tuple #[])/\∃ v',WSt w0 w' p v' (A++yg ns) xs:=by
 subst hr;have h':=h.below (ja w (.cells (ns.map (fun n=>Value.int .i64 n)).toArray 3))
 refine (jeE w0.heap.size p w.heap.size v A ns _ h'.iw (Box.new _ _ _) a0 h.row hA hn h'.bel.size).mono ?_;rintro ev w' ⟨rfl,v',s1,s2,s3⟩;exact ⟨rfl,v',h'.call s1 s2 s3⟩
theorem WSt.text {xs:List (Nat × Array Value × TypeId)}(h:WSt w0 w p v A xs)(m:List UInt8)(hm:m.length<=32)(hA:A.length<=100000) :
  Calls prog 69 #[.pointer (some ⟨p,0,none⟩),.string (SB m)] w fun ev w'=>ev=.returned (.tuple #[])/\∃ v',WSt w0 w' p v' (A++yj m) xs:=by
 refine (jaj w0.heap.size p v A m w h.iw (by omega) (by omega) h.bel.size).mono ?_
 rintro ev w' ⟨rfl,v',s1,s2,s3⟩;exact ⟨rfl,v',h.call s1 s2 s3⟩
theorem WSt.number {xs:List (Nat × Array Value × TypeId)}(h:WSt w0 w p v A xs)(n:Nat)(hn:n<2 ^ 64)(hA:A.length<=100000) :
  Calls prog 68 #[.pointer (some ⟨p,0,none⟩),.int .u64 (n:Int)] w fun ev w'=>ev=.returned (.tuple #[])/\∃ v',WSt w0 w' p v' (A++yo n) xs:=by
 refine (zB w0.heap.size p v A n w h.iw hn (by omega) h.bel.size).mono ?_
 rintro ev w' ⟨rfl,v',s1,s2,s3⟩;exact ⟨rfl,v',h.call s1 s2 s3⟩
def yW (st:StM):List UInt8:=yg [st.clock,st.births,(st.l.length:Int)]++st.l.flatMap (yf [])
def vz (st:StM):List UInt8:=if yr st=none then yW st else []
def ja3 (st:StM):Int:=if yr st=none then 0 else 24
theorem jha (q:SesM):yf [] q=(((yg [q.slot,q.birth,q.upS,q.upB,q.kind]++yj q.user)++yj q.label)++yo q.scopes)++yg [q.level,q.born,q.deadline,q.depth]:=by
 unfold yf yg;simp
theorem jjI {q:SesM}(h:jG q=true):(yf [] q).length<=200:=by
 have hs:=SesN.of h;unfold yf;have h1:=fun n=>jy n
 have h2:=fun n=>xy n
 have h3:=yU hs.user;have h4:=yU hs.label;simp only [qd,wN];have:=h1 q.slot;have:=h1 q.birth;have:=h1 q.upS;have:=h1 q.upB;have:=h1 q.kind;have:=h2 q.scopes;have:=h1 q.level;have:=h1 q.born;have:=h1 q.deadline;have:=h1 q.depth;omega
theorem ud:∀ {l:List SesM},(∀ s∈l,jG s=true)->(l.flatMap (yf [])).length<=200*l.length
 | [],_=>by simp
 | s::l,h=>by
  have h1:=jjI (h s (by simp))
  have h2:=ud (l:=l) (fun q hq=>h q (by simp [hq]))
  rw [qV,qd,qp];omega
theorem jbW (a b c:Int):(yg [a,b,c]).length<=30:=jgG [a,b,c]
theorem zJ {st:StM}(h:yr st=none):N63 st.clock/\N63 st.births/\st.l.length<=32/\∀ s∈st.l,jG s=true:=by
 rw [jac] at h;obtain ⟨h1,h2⟩:=h;unfold zA at h1;simp only [qq,pC] at h1;refine ⟨.of h1.1 (by omega) (by omega),.of h1.2.1 (by omega) (by omega),h1.2.2,fun s hs=>?_⟩
 obtain ⟨i,hi,rfl⟩:=wP hs;exact (jbw.1 (h2 i hi)).may
theorem jh8 {st:StM}(h:yr st=none):(yW st).length<=7000:=by
 obtain ⟨_,_,h3,h4⟩:=zJ h;have h5:=ud h4;have:=jbW st.clock st.births st.l.length;unfold yW;rw [qd];omega
theorem jgj (st:StM)(v:Value)(w:World)(hr:RdS w v st.l)(ho:∀ s∈st.l,SesOk s) :
  Calls prog 75 #[.agg #[st.clock,st.births,v]] w fun ev w'=>∃ o,ev=.returned (.tuple #[o,jm (ja3 st)])/\OwnM w' w.heap.size 5 o (vz st).length ((vz st).map V8)/\Below w.heap.size w w':=by
 obtain ⟨a,cap,rfl,b9,d2⟩:=hr.slice;have U:=Hd (fun w' hb=>jcL st (.slice a st.l.length cap) w' (hr.below hb) ho)
 have HR:=Hd hr;have HO:=Hd ho;have V:=Hd (Box.new w #[st.clock,st.births,.slice a st.l.length cap] 30);have S:=Hd (ja w (.cells #[st.clock,st.births,.slice a st.l.length cap] 30));have d0:st.l.length<=9223372036854775807:=by omega
 clear hr ho b9;go_enter func75,ntmps75;go_wp2_with fail;refine (U.1 _ S.1).mono ?_;rintro ev w1 ⟨rfl,a6⟩;have J:=Hd (S.1.trans (a6.mono S.1.size));have K:=Hd (V.1.below a6);clear a6 S V U
 cases hck:yr st with
 | some n =>
  have Z:=Hd (show vz st = [] by unfold vz;rw [hck];rfl)
  have H2:=Hd (show ja3 st=24 by unfold ja3;rw [hck];rfl)
  rw [show jkQ (some n)=.iface 99 (.agg #[(24:Int),n]) from rfl]
  clear hck;go_wp2;refine qP (wj rfl _ _ _) rfl ?_;rw [Z.1,H2.1];exact ⟨_,rfl,OwnM.nil _ _ _,J.1⟩
 | none =>
 have Z:=Hd (show vz st=yW st by unfold vz;rw [hck];rfl)
 have H2:=Hd (show ja3 st=0 by unfold ja3;rw [hck];rfl)
 have E:=Hd (zJ hck);have H3:=Hd (jh8 hck);rw [show jkQ none=.nilIface from rfl]
 clear hck;go_wp2_with fail;refine (jaz w1).mono ?_;rintro ev w2 ⟨rfl,a7,a8⟩;have W:=Hd (K.1.below a8);have H4:=Hd (J.1.trans (a8.mono J.1.size));have L:=Hd a7;have b7:w1.heap.size<w2.heap.size:=a7.box.lt;have b8:w.heap.size<w1.heap.size:=K.1.lt;clear a8 a7 K;go_wp2_with fail
 go_region
 have a0:WSt w (w2.alloc (.cells #[.pointer (some ⟨w1.heap.size,0,none⟩)] 204)) w1.heap.size (.slice none 0 0) [] [(w2.heap.size,#[.pointer (some ⟨w1.heap.size,0,none⟩)],204),(w.heap.size,#[st.clock,st.births,.slice a st.l.length cap],30)]:=by
  refine WSt.push (w:=w2) ⟨⟨L.1.box,OwnM.nil _ _ _,L.1.ne⟩,fun x hx=>?_,J.1.size,H4.1⟩ (ja _ _) rfl (Box.new _ _ _)
  rw [qC.1 hx];exact ⟨W.1,jbd (by show w.heap.size≠w1.heap.size;omega)⟩
 have H:=Hd (a0.below (jb _));clear a0 W L;generalize hw3:World.drew _=w3 at H |-;clear hw3;obtain ⟨c0,c1,c2⟩:=C3 H.1.drop.one;have B:=Hd (H.1.ints rfl [st.clock,st.births,(st.l.length:Int)] (fun n hn=>by
   simp only [qH,qO,wM] at hn
   rcases hn with rfl | rfl | rfl
   . exact E.1.1
   . exact E.1.2.1
   . exact ⟨by omega,by have:=E.1.2.2.1;omega⟩) (by simp) (by simp))
 clear H b8 b7;go_wp2_with fail;refine B.1.mono ?_;rintro ev w4 ⟨rfl,v4,a2⟩;have F:=Hd a2;have c2:w4.cell? ⟨w.heap.size,2,none⟩=some (.slice a st.l.length cap):=a2.drop.one.cell 2 _ rfl;clear a2 c0 c1 B;go_wp2_with fail;clear c2;obtain ⟨n,hn⟩:=Nm (st.l.length);have HN:=Hd hn;have d3:n<=9223372036854775807:=by omega
 obtain ⟨A0,a4⟩:∃ A0,A0 = []++yg [st.clock,st.births,(st.l.length:Int)]:=⟨_,rfl⟩;rw [<- a4] at F;have HA:=Hd (show A0.length<=30 by rw [a4,wt];exact jbW _ _ _)
 have H5:=Hd (show yW st=A0++st.l.flatMap (yf []) by unfold yW;rw [a4];rfl)
 have H6:=Hd (fun k=>show (A0++(st.l.take k).flatMap (yf [])).length<=7000 by
  have h1:=HA.1;have h2:=ud (l:=st.l.take k) (fun s hs=>E.1.2.2.2 s (km hs))
  have h3:=E.1.2.2.1;rw [qr] at h2;rw [qd];omega)
 rw [<- hn] at F |-;clear a4 hn d0;generalize hxs:(w2.heap.size,(#[.pointer (some ⟨w1.heap.size,0,none⟩)]:Array Value),204)=x1 at F;generalize hys:(w.heap.size,(#[st.clock,st.births,.slice a n cap]:Array Value),30)=x2 at F;have H7:=Hd (show ∀ (w':World) (v:Value) (A:List UInt8),WSt w w' w1.heap.size v A [x1,x2]->w'.cell? ⟨w2.heap.size,0,none⟩=some (.pointer (some ⟨w1.heap.size,0,none⟩)) from fun _ _ _ h=>by have:=h.one;rw [<- hxs] at this;exact this.cell 0 _ rfl)
 clear hxs hys
 go_loopg [37] n (fun gk iv wr=>∃ (k:Nat) (v1:Value),gk+k=n/\iv=.int .i64 (k:Int)/\WSt w wr w1.heap.size v1 (A0++(st.l.take k).flatMap (yf [])) [x1,x2])
 case atStart=>exact ⟨0,v4,by omega,rfl,by have:=F.1;simpa using this⟩
 case round =>
  obtain ⟨k,v1,b0,rfl,a0⟩:=hrel;have H:=Hd a0;have X:=Hd b0;have k0:(0:Int)<=(k:Int):=by omega
  clear a0 b0 F;by_cases hk:k<n;rotate_left
  .
   have k1:¬ (k:Int)<(n:Int):=by omega
   have hT:=H.1;rw [ql (by have:=HN.1;omega),<- H5.1] at hT
   have T:=Hd hT;have c0:=H7.1 _ _ _ hT;clear hk hT H;go_wp2_with fail;refine (zT w.heap.size w1.heap.size _ _ _ T.1.iw (by have:=H3.1;omega)).mono ?_
   rintro ev w9 ⟨o9,rfl,b1,b2⟩;have H8:=Hd (b1.lower T.1.bel.size);have H9:=Hd (T.1.bel.trans (b2.mono T.1.bel.size));clear b1 b2 c0;go_wp2;refine qP (wj rfl _ _ _) rfl ?_;rw [Z.1,H2.1];exact ⟨_,rfl,H8.1,H9.1⟩
  have k1:(k:Int)<(n:Int):=by omega
  have a1:k<st.l.length:=by have:=HN.1;omega
  have Y:=Hd (HR.1.below H.1.bel);obtain ⟨s,hs⟩:=Nm (st.l[k]);obtain ⟨rb,ro,d1,a3⟩:=Y.1.row k a1;subst d1;rw [<- hs] at a3;have C:=Hd (SesN.of (E.1.2.2.2 s (by rw [hs];exact qy a1)))
  have Ha:=Hd (HO.1 s (by rw [hs];exact qy a1))
  have M:=Hd (show A0++(st.l.take (k+1)).flatMap (yf [])=((((A0++(st.l.take k).flatMap (yf []))++yg [s.slot,s.birth,s.upS,s.upB,s.kind])++yj s.user)++yj s.label)++yo s.scopes++yg [s.level,s.born,s.deadline,s.depth] by
   rw [qk a1,pg,<- hs];simp only [qV,kC,qF];rw [jha];simp only [qB])
  generalize hAk:A0++(st.l.take k).flatMap (yf [])=Ak at H M;have a5:=H6.1 (k+1);rw [M.1] at a5;simp only [qd] at a5;have I:=Hd a5;have N:=Hd a3;have HK:=Hd hk;clear hk a1 hs a3 a5 hAk
  go_wp2_with (with_reducible refine Lk N.1 underlying45 ?_)
  intro cv b3
  go_wp2_with (with_reducible refine Sz s.cells.toList b3 (SesM.oneS _) ?_)
  intro w5 b4;obtain ⟨b5,b6⟩:=uQ b4;have D:=Hd (H.1.push b6 rfl b5);clear b3 b4 b5 b6 H N Y;have c0:w5.cell? ⟨wr.heap.size,0,none⟩=some (.int .i64 s.slot):=D.1.one.cell 0 _ rfl;have c1:w5.cell? ⟨wr.heap.size,1,none⟩=some (.int .i64 s.birth):=D.1.one.cell 1 _ rfl;have c2:w5.cell? ⟨wr.heap.size,2,none⟩=some (.int .i64 s.upS):=D.1.one.cell 2 _ rfl;have c3:w5.cell? ⟨wr.heap.size,3,none⟩=some (.int .i64 s.upB):=D.1.one.cell 3 _ rfl;have c4:w5.cell? ⟨wr.heap.size,4,none⟩=some (.int .i64 s.kind):=D.1.one.cell 4 _ rfl;have B:=Hd (D.1.ints rfl [s.slot,s.birth,s.upS,s.upB,s.kind] (fun n hn=>by
   simp only [qH,qO,wM] at hn
   rcases hn with rfl | rfl | rfl | rfl | rfl
   . exact C.1.slot
   . exact C.1.birth
   . exact C.1.upS
   . exact C.1.upB
   . exact C.1.kind) (by have:=I.1;(try simp only [qd]);omega) (by simp))
  go_wp2_with fail;refine B.1.mono ?_;rintro ev w6 ⟨rfl,v6,a0⟩;have O:=Hd a0;clear a0 B D c0 c1 c2 c3 c4;have c5:w6.cell? ⟨wr.heap.size,5,none⟩=some (.string (SB s.user)):=O.1.one.cell 5 _ rfl;have B:=Hd (O.1.text s.user C.1.user (by have:=I.1;(try simp only [qd]);omega))
  go_wp2_with fail;refine B.1.mono ?_;rintro ev w7 ⟨rfl,v7,a0⟩;have P:=Hd a0;clear a0 B O c5;have c6:w7.cell? ⟨wr.heap.size,6,none⟩=some (.string (SB s.label)):=P.1.one.cell 6 _ rfl;have B:=Hd (P.1.text s.label C.1.label (by have:=I.1;(try simp only [qd]);omega))
  go_wp2_with fail;refine B.1.mono ?_;rintro ev w8 ⟨rfl,v8,a0⟩;have Q:=Hd a0;clear a0 B P c6;have c7:w8.cell? ⟨wr.heap.size,7,none⟩=some (.int .u64 (s.scopes:Int)):=Q.1.one.cell 7 _ rfl;have B:=Hd (Q.1.number s.scopes Ha.1.scopes (by have:=I.1;(try simp only [qd]);omega))
  go_wp2_with fail;refine B.1.mono ?_;rintro ev w9 ⟨rfl,v9,a0⟩;have G:=Hd a0;clear a0 B Q c7;have c8:w9.cell? ⟨wr.heap.size,8,none⟩=some (.int .i64 s.level):=G.1.one.cell 8 _ rfl;have c9:w9.cell? ⟨wr.heap.size,9,none⟩=some (.int .i64 s.born):=G.1.one.cell 9 _ rfl;have c10:w9.cell? ⟨wr.heap.size,10,none⟩=some (.int .i64 s.deadline):=G.1.one.cell 10 _ rfl;have c11:w9.cell? ⟨wr.heap.size,11,none⟩=some (.int .i64 s.depth):=G.1.one.cell 11 _ rfl;have B:=Hd (G.1.ints rfl [s.level,s.born,s.deadline,s.depth] (fun n hn=>by
   simp only [qH,qO,wM] at hn
   rcases hn with rfl | rfl | rfl | rfl
   . exact C.1.level
   . exact C.1.born
   . exact C.1.deadline
   . exact C.1.depth) (by have:=I.1;(try simp only [qd]);omega) (by simp))
  go_wp2_with fail;refine B.1.mono ?_;rintro ev w10 ⟨rfl,v10,a0⟩;have R:=Hd a0;clear a0 B G c8 c9 c10 c11;have H0:=Hd R.1.drop;clear R;go_wp2
  go_roundg (n-(k+1))
  case measure=>have:=X.1;have:=HK.1;omega
  case rel=>exact ⟨k+1,v10,by have:=X.1;have:=HK.1;omega,by go_num,by rw [M.1];exact H0.1⟩
def OwnB (w:World)(base:Nat)(v:Value)(g:List Bool):Prop:=w.ownsRow base 4 1 v g.length (g.map Value.bool)
theorem OwnB.slice (h:OwnB w base v g):∃ a cap,v=.slice a g.length cap/\g.length<=cap:=by
 obtain ⟨a,cap,h1,h2,_⟩:=js h;exact ⟨a,cap,h1,h2⟩
theorem OwnB.below (h:OwnB w base v g)(hb:Below w.heap.size w w'):OwnB w' base v g:=jq h hb
theorem OwnB.lt (h:OwnB w base v g):∀ k,v.ownBlock=some k->base<=k/\k<w.heap.size:=jbX h
theorem OwnB.at (h:OwnB w base v g){i:Nat}(hi:i<g.length) :
  ∃ gb cap,v=.slice (some ⟨gb,0,none⟩) g.length cap/\base<=gb/\gb<w.heap.size/\(∀ j,j<g.length->w.cell? ⟨gb,j,none⟩=some (.bool (gat g j)))/\w.frozen? ⟨gb,i,none⟩=false/\∀ x,OwnB (w.setCell ⟨gb,i,none⟩ (.bool x)) base v (g.set i x):=by
 obtain ⟨gb,cap,e,hb,_,hf,_⟩:=ji5 h i hi (.bool true);refine ⟨gb,cap,e,hb,(jbX h gb (by rw [e];rfl)).2,fun j hj=>?_,hf,fun x=>?_⟩
 .
  obtain ⟨b,off,cap',e1,h1⟩:=(js h).at j (by simpa using hj)
  rw [e] at e1;have hb:gb=b:=by injection e1 with e1;injection e1 with e1;injection e1
  have ho:(0:Nat)=off:=by injection e1 with e1;injection e1 with e1;injection e1
  subst hb;subst ho;rw [qA] at h1;rw [h1];unfold gat;rw [List.getD,List.getD,List.getElem?_map,List.getElem?_eq_getElem hj]
  rfl
 .
  obtain ⟨gb',cap',e',_,_,_,h2⟩:=ji5 h i hi (.bool x);rw [e] at e';have hb:gb=gb':=by injection e' with e1;injection e1 with e1;injection e1
  subst hb;unfold OwnB;rw [pP,List.map_set];exact h2
structure WtS (w0 w:World)(base:Nat)(gv:Value)(g:List Bool):Prop where
 own:OwnB w base gv g
 mod:Mod (fun b=>gv.ownBlock=some b) w0 w
theorem WtS.set {gb n cap:Nat}(h:WtS w0 w base (.slice (some ⟨gb,0,none⟩) n cap) g){i:Nat}{x:Bool}(ho:OwnB (w.setCell ⟨gb,i,none⟩ (.bool x)) base (.slice (some ⟨gb,0,none⟩) n cap) (g.set i x)):WtS w0 (w.setCell ⟨gb,i,none⟩ (.bool x)) base (.slice (some ⟨gb,0,none⟩) n cap) (g.set i x) :=
 ⟨ho,h.mod.trans (Mod.set _ _ _ _ rfl)⟩
theorem WtS.drew {gv:Value}(h:WtS w0 w base gv g):WtS w0 w.drew base gv g:=⟨h.own.below (jb _),h.mod.trans (Mod.drew _ _)⟩
def WtF (wq W:World):Prop:=W.heap=wq.heap
theorem WtF.drew (w:World):WtF w w.drew:=rfl
theorem WtF.cell {wq W:World}(h:WtF wq W){a:Addr}{x:Option Value}(hc:wq.cell? a=x):W.cell? a=x:=by
 rw [<- hc];exact World.cell?_of_block (by rw [h])
def jkB (goes:SesM->Bool)(l:List SesM)(g:List Bool):Prop:=g.length=l.length/\∀ i (hi:i<l.length),gat g i=true↔Dies goes l l[i]
theorem jeA (goes:SesM->Bool)(v gv:Value)(l:List SesM)(g:List Bool)(base:Nat)(w:World)(hv:RdS w v l)(hg:OwnB w base gv g)(hi:WInv goes l g)(b8:∀ k,v.ownBlock=some k->gv.ownBlock≠some k) :
  Calls prog 174 #[v,gv] w fun e w'=>e=.returned gv/\∃ g',OwnB w' base gv g'/\jkB goes l g'/\Mod (fun b=>gv.ownBlock=some b) w w':=by
 obtain ⟨a,cap,rfl,b9,d0⟩:=hv.slice;obtain ⟨ga,gcap,c0,c6⟩:=hg.slice;have c7:l.length<=9223372036854775807:=by omega
 obtain ⟨n,hN⟩:=Nm (l.length);have HV:=qe (fun w' (hm:Mod (fun b=>gv.ownBlock=some b) w w')=>(show RdS w' (.slice a l.length cap) l from Rd.mod hv hm (fun k hk=>b8 k hk)))
 have c1:g.length=n:=by rw [hi.len,hN]
 rw [c1] at c0;have HW0:=qe (show WtS w w base gv g from ⟨hg,Mod.refl _ _⟩)
 have HI0:=qe hi;subst c0;rw [<- hN] at c7 HV b9 |-;have HN:=qe hN;clear hv hg hi b8 b9 hN c1 c6;go_enter func174,ntmps174;go_wp2
 go_loopg [5] n (fun gk iv wr=>∃ (t:Nat) (g1:List Bool),gk+t=n/\iv=.int .i64 (t:Int)/\WtS w wr base (.slice ga n gcap) g1/\Hid (WInv goes l g1/\Prog l t g1))
 case atStart=>exact ⟨0,g,rfl,rfl,HW0.out,qe ⟨HI0.out,Prog.zero _ _⟩⟩
 case round =>
  clear HW0 HI0;obtain ⟨t,g1,c2,rfl,c3,HP⟩:=hrel;have t0:(0:Int)<=(t:Int):=by omega
  have HGT:=qe c2;have HW1:=qe c3;clear c2 c3;by_cases ht:t<n
  .
   have t1:(t:Int)<(n:Int):=by omega
   have HTN:=qe ht;clear ht;go_wp2_with fail;obtain ⟨wo,a9⟩:∃ wo:World,wo=wr:=⟨_,rfl⟩;rw [<- a9] at HW1 |-;clear a9
   go_loopg [6] n (fun gi iv wr=>∃ (i:Nat) (g2:List Bool),gi+i=n/\iv=.int .i64 (i:Int)/\WtS w wr base (.slice ga n gcap) g2/\Hid (TurnR goes l g1 g2 i 0))
   case atStart=>exact ⟨0,g1,rfl,rfl,HW1.out,qe (TurnR.start HP.out.1)⟩
   case round =>
    clear HW1;obtain ⟨i,g2,a5,rfl,c4,HT⟩:=hrel;have i0:(0:Int)<=(i:Int):=by omega
    have HGI:=qe a5;have HW2:=qe c4;clear a5 c4;by_cases hii:i<n
    .
     have i1:(i:Int)<(n:Int):=by omega
     have HIN:=qe hii;clear hii;go_wp2_with fail;obtain ⟨wo2,a9⟩:∃ wo:World,wo=wr:=⟨_,rfl⟩;rw [<- a9] at HW2 |-;clear a9
     go_loopg [7] n (fun gk iv wr=>∃ (k:Nat) (g3:List Bool),gk+k=n/\iv=.int .i64 (k:Int)/\WtS w wr base (.slice ga n gcap) g3/\Hid (TurnR goes l g1 g3 i k))
     case atStart=>exact ⟨0,g2,rfl,rfl,HW2.out,HT⟩
     case round =>
      clear HW2 HT;obtain ⟨k,g3,a6,rfl,a4,HT⟩:=hrel;have k0:(0:Int)<=(k:Int):=by omega
      have HGK:=qe a6;clear a6;by_cases hk:k<n
      .
       have k1:(k:Int)<(n:Int):=by omega
       have b3:i<l.length:=by have:=HN.out;have:=HIN.out;omega
       have b4:k<l.length:=by have:=HN.out;omega
       have HK:=qe hk;have b6:g3.length=n:=by rw [HT.out.inv.len,<- HN.out]
       obtain ⟨gb,gc,e3,c8,c5,a3,a2,b7⟩:=a4.own.at (i:=i) (by rw [b6];exact HIN.out)
       rw [b6] at e3 a3;injection e3 with e4 _ e5
       subst e4;subst e5;obtain ⟨s,hs⟩:=Nm (l[i]);obtain ⟨p,hp⟩:=Nm (l[k]);obtain ⟨rb,ro,c9,a7⟩:=(HV.out wr a4.mod).row i b3;subst c9;rw [<- hs] at a7;obtain ⟨rb',ro',b0,a8⟩:=(HV.out wr a4.mod).row k b4;injection b0 with b0
       injection b0 with h5 h6
       subst h5;subst h6;rw [<- hp] at a8;have r3:wr.cell? ⟨rb,ro+i*12+3,none⟩=some (.int .i64 s.upB):=a7 3 _ rfl;have r32:wr.cell? ⟨rb,ro+i*12+2+1,none⟩=some (.int .i64 s.upB):=a7 3 _ rfl;have q1:wr.cell? ⟨rb,ro+k*12+1,none⟩=some (.int .i64 p.birth):=a8 1 _ rfl;have b1:=a3 i HIN.out;have b2:=a3 k HK.out;have HED:=qe (show jgW l i k=(s.upB != 0&&(s.upB==p.birth)) by rw [hs,hp];exact jgo b3 b4)
       have HNT:=qe (HT.out.next b3 b4);have HSET:=qe b7;have HW3:=qe a4;clear hk b6 a3 b7 a4 hs hp a7 a8 b3 b4 HT c8 c5;obtain ⟨gi,a5⟩:=Nm (gat g3 i);obtain ⟨gk,a6⟩:=Nm (gat g3 k);have HGG:=qe (And.intro a5 a6);rw [<- a5] at b1;rw [<- a6] at b2;clear a5 a6
       cases gi
       rotate_left
       .
        have HLF:True:=trivial;have HST:=qe (show vj l g3 i k=g3.set i true by unfold vj;rw [<- HGG.out.1];rfl)
        have HW4:=qe (show WtS w (wr.drew.setCell ⟨gb,i,none⟩ (.bool true)) base (.slice (some ⟨gb,0,none⟩) n gcap) (g3.set i true) from ((HW3.out.set (HSET.out true)).drew))
        clear HGG HED HSET HW3;go_wp2_with fail;refine yF 36 (F:=WtF wr) (by kernel_rfl) (WtF.drew wr) (fun a1=>?_)
        refine Tl 0 26 ?_;refine Tl 1 27 ?_;refine Tl 2 28 ?_;refine Tl 3 29 ?_;refine Tl 4 30 ?_;refine Tl 5 31 ?_ (hy:=by intro w' a0;have u1:=a0.cell b1;clear a0;go_simp;try with_reducible rfl)
        refine Tl 6 32 ?_;refine Tm 7 33 ?_;refine Tm 8 34 ?_;refine Tm 9 35 ?_;refine Tm 10 36 ?_;refine Tm 11 37 ?_;refine Tm 12 38 ?_;refine Tm 13 39 ?_;refine Tm 14 40 ?_;refine Tm 15 41 ?_;refine Tm 16 42 ?_;refine Tm 17 43 ?_;refine Tm 18 44 ?_;refine Tm 19 45 ?_;refine Tm 20 46 ?_;refine Tm 21 47 ?_;refine Tm 22 48 ?_;refine Tm 23 49 ?_;refine Tm 24 50 ?_;refine Tm 25 51 ?_;refine Tm 26 52 ?_;refine Tm 27 53 ?_;refine Tm 28 54 ?_;refine Tm 29 55 ?_;refine Tm 30 56 ?_;refine Tm 31 57 ?_;refine Tm 32 58 ?_;refine Tm 33 59 ?_;refine Tl 34 60 ?_;refine Tl 35 61 ?_;have v1:wr.drew.cell? ⟨gb,i,none⟩=some _:=b1;have v2:wr.drew.frozen? ⟨gb,i,none⟩=false:=a2;refine jQ (rs := [36]) (by kernel_rfl) (by simp) (AllReadyL.last rfl (o:=⟨none,.store _ _ _,_,_,_,_⟩) rfl (fun K hK=>?_))
        go_simp
        refine hK.out _ _ ?_;clear hK K a1 v1 v2
        try simp only [Nz]
        refine yZ (by kernel_rfl) ?_ _
        have HW5:=qe HW4.out;clear r3 r32 q1 b1 b2 a2 HW4;go_wp2
        go_roundg (n-(k+1))
        case measure=>have:=HGK.out;have:=HK.out;omega
        case rel=>exact ⟨k+1,_,by have:=HGK.out;have:=HK.out;omega,by go_num,HW5.out,qe (by have h:=HNT.out;rw [HST.out] at h;exact h)⟩
       cases gk
       .
        have HLF:True:=trivial;have HST:=qe (show vj l g3 i k=g3.set i false by unfold vj;rw [<- HGG.out.1,<- HGG.out.2];rfl)
        have HW4:=qe (show WtS w (wr.drew.setCell ⟨gb,i,none⟩ (.bool false)) base (.slice (some ⟨gb,0,none⟩) n gcap) (g3.set i false) from ((HW3.out.set (HSET.out false)).drew))
        clear HGG HED HSET HW3;go_wp2_with fail;refine yF 36 (F:=WtF wr) (by kernel_rfl) (WtF.drew wr) (fun a1=>?_)
        refine Tl 0 26 ?_;refine Tl 1 27 ?_;refine Tl 2 28 ?_;refine Tl 3 29 ?_;refine Tl 4 30 ?_;refine Tl 5 31 ?_ (hy:=by intro w' a0;have u1:=a0.cell b1;clear a0;go_simp;try with_reducible rfl)
        refine Tl 6 32 ?_;refine Tl 7 33 ?_;refine Tl 8 34 ?_;refine Tl 9 35 ?_;refine Tl 10 36 ?_ (hy:=by intro w' a0;have u1:=a0.cell b2;clear a0;go_simp;try with_reducible rfl)
        refine Tl 11 37 ?_;refine Tm 12 38 ?_;refine Tm 13 39 ?_;refine Tm 14 40 ?_;refine Tm 15 41 ?_;refine Tm 16 42 ?_;refine Tm 17 43 ?_;refine Tm 18 44 ?_;refine Tl 19 45 ?_;refine Tl 20 46 ?_;refine Tm 21 47 ?_;refine Tm 22 48 ?_;refine Tm 23 49 ?_;refine Tm 24 50 ?_;refine Tm 25 51 ?_;refine Tm 26 52 ?_;refine Tm 27 53 ?_;refine Tm 28 54 ?_;refine Tm 29 55 ?_;refine Tm 30 56 ?_;refine Tm 31 57 ?_;refine Tm 32 58 ?_;refine Tl 33 59 ?_;refine Tl 34 60 ?_;refine Tl 35 61 ?_;have v1:wr.drew.cell? ⟨gb,i,none⟩=some _:=b1;have v2:wr.drew.frozen? ⟨gb,i,none⟩=false:=a2;refine jQ (rs := [36]) (by kernel_rfl) (by simp) (AllReadyL.last rfl (o:=⟨none,.store _ _ _,_,_,_,_⟩) rfl (fun K hK=>?_))
        go_simp
        refine hK.out _ _ ?_;clear hK K a1 v1 v2
        try simp only [Nz]
        refine yZ (by kernel_rfl) ?_ _
        have HW5:=qe HW4.out;clear r3 r32 q1 b1 b2 a2 HW4;go_wp2
        go_roundg (n-(k+1))
        case measure=>have:=HGK.out;have:=HK.out;omega
        case rel=>exact ⟨k+1,_,by have:=HGK.out;have:=HK.out;omega,by go_num,HW5.out,qe (by have h:=HNT.out;rw [HST.out] at h;exact h)⟩
       cases hz:(s.upB==0)
       rotate_left
       .
        have b5:(s.upB != 0)=false:=by rw [bne,hz];rfl
        have HST:=qe (show vj l g3 i k=g3.set i false by unfold vj;rw [<- HGG.out.1,<- HGG.out.2,HED.out,b5];rfl)
        have HW4:=qe (show WtS w (wr.drew.setCell ⟨gb,i,none⟩ (.bool false)) base (.slice (some ⟨gb,0,none⟩) n gcap) (g3.set i false) from ((HW3.out.set (HSET.out false)).drew))
        clear HGG HED HSET HW3;go_wp2_with fail;refine yF 36 (F:=WtF wr) (by kernel_rfl) (WtF.drew wr) (fun a1=>?_)
        refine Tl 0 26 ?_;refine Tl 1 27 ?_;refine Tl 2 28 ?_;refine Tl 3 29 ?_;refine Tl 4 30 ?_;refine Tl 5 31 ?_ (hy:=by intro w' a0;have u1:=a0.cell b1;clear a0;go_simp;try with_reducible rfl)
        refine Tl 6 32 ?_;refine Tl 7 33 ?_;refine Tl 8 34 ?_;refine Tl 9 35 ?_;refine Tl 10 36 ?_ (hy:=by intro w' a0;have u1:=a0.cell b2;clear a0;go_simp;try with_reducible rfl)
        refine Tl 11 37 ?_;refine Tl 12 38 ?_;refine Tl 13 39 ?_;refine Tl 14 40 ?_;refine Tl 15 41 ?_;refine Tl 16 42 ?_;refine Tl 17 43 ?_ (hy:=by intro w' a0;have u1:=a0.cell r3;have u2:=a0.cell r32;clear a0;go_simp;try with_reducible rfl)
        refine Tl 18 44 ?_;refine Tl 19 45 ?_;refine Tl 20 46 ?_;refine Tm 21 47 ?_;refine Tm 22 48 ?_;refine Tm 23 49 ?_;refine Tm 24 50 ?_;refine Tm 25 51 ?_;refine Tm 26 52 ?_;refine Tm 27 53 ?_;refine Tm 28 54 ?_;refine Tm 29 55 ?_;refine Tm 30 56 ?_;refine Tm 31 57 ?_;refine Tm 32 58 ?_;refine Tl 33 59 ?_;refine Tl 34 60 ?_;refine Tl 35 61 ?_;have v1:wr.drew.cell? ⟨gb,i,none⟩=some _:=b1;have v2:wr.drew.frozen? ⟨gb,i,none⟩=false:=a2;refine jQ (rs := [36]) (by kernel_rfl) (by simp) (AllReadyL.last rfl (o:=⟨none,.store _ _ _,_,_,_,_⟩) rfl (fun K hK=>?_))
        go_simp
        refine hK.out _ _ ?_;clear hK K a1 v1 v2
        try simp only [Nz]
        refine yZ (by kernel_rfl) ?_ _
        have HW5:=qe HW4.out;clear r3 r32 q1 b1 b2 a2 HW4;go_wp2
        go_roundg (n-(k+1))
        case measure=>have:=HGK.out;have:=HK.out;omega
        case rel=>exact ⟨k+1,_,by have:=HGK.out;have:=HK.out;omega,by go_num,HW5.out,qe (by have h:=HNT.out;rw [HST.out] at h;exact h)⟩
       have b5:(s.upB != 0)=true:=by rw [bne,hz];rfl
       cases hq:(s.upB==p.birth)
       .
        have HLF:True:=trivial;have HST:=qe (show vj l g3 i k=g3.set i false by unfold vj;rw [<- HGG.out.1,<- HGG.out.2,HED.out,b5,hq];rfl)
        have HW4:=qe (show WtS w (wr.drew.setCell ⟨gb,i,none⟩ (.bool false)) base (.slice (some ⟨gb,0,none⟩) n gcap) (g3.set i false) from ((HW3.out.set (HSET.out false)).drew))
        clear HGG HED HSET HW3;go_wp2_with fail;refine yF 36 (F:=WtF wr) (by kernel_rfl) (WtF.drew wr) (fun a1=>?_)
        refine Tl 0 26 ?_;refine Tl 1 27 ?_;refine Tl 2 28 ?_;refine Tl 3 29 ?_;refine Tl 4 30 ?_;refine Tl 5 31 ?_ (hy:=by intro w' a0;have u1:=a0.cell b1;clear a0;go_simp;try with_reducible rfl)
        refine Tl 6 32 ?_;refine Tl 7 33 ?_;refine Tl 8 34 ?_;refine Tl 9 35 ?_;refine Tl 10 36 ?_ (hy:=by intro w' a0;have u1:=a0.cell b2;clear a0;go_simp;try with_reducible rfl)
        refine Tl 11 37 ?_;refine Tl 12 38 ?_;refine Tl 13 39 ?_;refine Tl 14 40 ?_;refine Tl 15 41 ?_;refine Tl 16 42 ?_;refine Tl 17 43 ?_ (hy:=by intro w' a0;have u1:=a0.cell r3;have u2:=a0.cell r32;clear a0;go_simp;try with_reducible rfl)
        refine Tl 18 44 ?_;refine Tl 19 45 ?_;refine Tl 20 46 ?_;refine Tl 21 47 ?_;refine Tl 22 48 ?_;refine Tl 23 49 ?_;refine Tl 24 50 ?_;refine Tl 25 51 ?_;refine Tl 26 52 ?_ (hy:=by intro w' a0;have u1:=a0.cell r3;have u2:=a0.cell r32;clear a0;go_simp;try with_reducible rfl)
        refine Tl 27 53 ?_;refine Tl 28 54 ?_;refine Tl 29 55 ?_;refine Tl 30 56 ?_;refine Tl 31 57 ?_ (hy:=by intro w' a0;have u1:=a0.cell q1;clear a0;go_simp;try with_reducible rfl)
        refine Tl 32 58 ?_;refine Tl 33 59 ?_;refine Tl 34 60 ?_;refine Tl 35 61 ?_;have v1:wr.drew.cell? ⟨gb,i,none⟩=some _:=b1;have v2:wr.drew.frozen? ⟨gb,i,none⟩=false:=a2;refine jQ (rs := [36]) (by kernel_rfl) (by simp) (AllReadyL.last rfl (o:=⟨none,.store _ _ _,_,_,_,_⟩) rfl (fun K hK=>?_))
        go_simp
        refine hK.out _ _ ?_;clear hK K a1 v1 v2
        try simp only [Nz]
        refine yZ (by kernel_rfl) ?_ _
        have HW5:=qe HW4.out;clear r3 r32 q1 b1 b2 a2 HW4;go_wp2
        go_roundg (n-(k+1))
        case measure=>have:=HGK.out;have:=HK.out;omega
        case rel=>exact ⟨k+1,_,by have:=HGK.out;have:=HK.out;omega,by go_num,HW5.out,qe (by have h:=HNT.out;rw [HST.out] at h;exact h)⟩
       have HST:=qe (show vj l g3 i k=g3.set i true by unfold vj;rw [<- HGG.out.1,<- HGG.out.2,HED.out,b5,hq];rfl)
       have HW4:=qe (show WtS w (wr.drew.setCell ⟨gb,i,none⟩ (.bool true)) base (.slice (some ⟨gb,0,none⟩) n gcap) (g3.set i true) from ((HW3.out.set (HSET.out true)).drew))
       clear HGG HED HSET HW3;go_wp2_with fail;refine yF 36 (F:=WtF wr) (by kernel_rfl) (WtF.drew wr) (fun a1=>?_)
       refine Tl 0 26 ?_;refine Tl 1 27 ?_;refine Tl 2 28 ?_;refine Tl 3 29 ?_;refine Tl 4 30 ?_;refine Tl 5 31 ?_ (hy:=by intro w' a0;have u1:=a0.cell b1;clear a0;go_simp;try with_reducible rfl)
       refine Tl 6 32 ?_;refine Tl 7 33 ?_;refine Tl 8 34 ?_;refine Tl 9 35 ?_;refine Tl 10 36 ?_ (hy:=by intro w' a0;have u1:=a0.cell b2;clear a0;go_simp;try with_reducible rfl)
       refine Tl 11 37 ?_;refine Tl 12 38 ?_;refine Tl 13 39 ?_;refine Tl 14 40 ?_;refine Tl 15 41 ?_;refine Tl 16 42 ?_;refine Tl 17 43 ?_ (hy:=by intro w' a0;have u1:=a0.cell r3;have u2:=a0.cell r32;clear a0;go_simp;try with_reducible rfl)
       refine Tl 18 44 ?_;refine Tl 19 45 ?_;refine Tl 20 46 ?_;refine Tl 21 47 ?_;refine Tl 22 48 ?_;refine Tl 23 49 ?_;refine Tl 24 50 ?_;refine Tl 25 51 ?_;refine Tl 26 52 ?_ (hy:=by intro w' a0;have u1:=a0.cell r3;have u2:=a0.cell r32;clear a0;go_simp;try with_reducible rfl)
       refine Tl 27 53 ?_;refine Tl 28 54 ?_;refine Tl 29 55 ?_;refine Tl 30 56 ?_;refine Tl 31 57 ?_ (hy:=by intro w' a0;have u1:=a0.cell q1;clear a0;go_simp;try with_reducible rfl)
       refine Tl 32 58 ?_;refine Tl 33 59 ?_;refine Tl 34 60 ?_;refine Tl 35 61 ?_;have v1:wr.drew.cell? ⟨gb,i,none⟩=some _:=b1;have v2:wr.drew.frozen? ⟨gb,i,none⟩=false:=a2;refine jQ (rs := [36]) (by kernel_rfl) (by simp) (AllReadyL.last rfl (o:=⟨none,.store _ _ _,_,_,_,_⟩) rfl (fun K hK=>?_))
       go_simp
       refine hK.out _ _ ?_;clear hK K a1 v1 v2
       try simp only [Nz]
       refine yZ (by kernel_rfl) ?_ _
       have HW5:=qe HW4.out;clear r3 r32 q1 b1 b2 a2 HW4;go_wp2
       go_roundg (n-(k+1))
       case measure=>have:=HGK.out;have:=HK.out;omega
       case rel=>exact ⟨k+1,_,by have:=HGK.out;have:=HK.out;omega,by go_num,HW5.out,qe (by have h:=HNT.out;rw [HST.out] at h;exact h)⟩
      .
       have k1:¬ (k:Int)<(n:Int):=by omega
       have HR:=qe (show TurnR goes l g1 g3 (i+1) 0 by
        have e:k=l.length:=by have:=HGK.out;have:=HN.out;omega
        have h:=HT.out;rw [e] at h;exact h.row)
       have HW3:=qe a4;clear hk a4 HT;go_wp2
       go_roundg (n-(i+1))
       case measure=>have:=HGI.out;have:=HIN.out;omega
       case rel=>exact ⟨i+1,g3,by have:=HGI.out;have:=HIN.out;omega,by go_num,HW3.out,HR⟩
    .
     have i1:¬ (i:Int)<(n:Int):=by omega
     have HR:=qe (show WInv goes l g2/\Prog l (t+1) g2 by
      have e:i=l.length:=by have:=HGI.out;have:=HN.out;omega
      have h:=HT.out;rw [e] at h;exact ⟨h.inv,h.done HP.out.2⟩)
     clear hii HT HP;go_wp2
     go_roundg (n-(t+1))
     case measure=>have:=HGT.out;have:=HTN.out;omega
     case rel=>exact ⟨t+1,g2,by have:=HGT.out;have:=HTN.out;omega,by go_num,HW2.out,HR⟩
  .
   have t1:¬ (t:Int)<(n:Int):=by omega
   have HR:=qe (show jkB goes l g1 by
    have e:t=l.length:=by have:=HGT.out;have:=HN.out;omega
    obtain ⟨h1,h2⟩:=HP.out;rw [e] at h2;exact ⟨h1.len,jkZ h1 (jlI h1.len h2)⟩)
   clear ht HP;go_wp2;go_ret;exact ⟨rfl,g1,HW1.out.own,HR.out,HW1.out.mod⟩
end Go.Proofs.YtgcnolapjppbpaaGreatDoor
