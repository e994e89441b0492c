/-
  Texts of one proof, one behind the other.
-/
import Derived.Test.YtgcnolapjppbpaaGreatDoorP17
import Derived.Test.YtgcnolapjppbpaaGreatDoorP00
namespace Go.Proofs.YtgcnolapjppbpaaGreatDoor
open Go.RowKit _root_.Go.Proofs.Tryz
set_option maxRecDepth 100000
set_option maxHeartbeats 25600000
theorem jgn (ns:List Int):(jZ ns).length≤10*ns.length:=by
 induction ns with
 | nil=>simp [jZ]
 | cons a l ih=>have:=jw a;simp only [jZ,List.flatMap_cons,List.length_append,List.length_cons] at ih ⊢;omega
theorem jdG (B p r:Nat)(v0:Value)(l0:List UInt8)(ns:List Int)(w:World)(hw:IsW w B p v0 l0)(hr:Box w r (ns.map (fun n=>Value.int .i64 n)).toArray 3)(a4:∀ n∈ns,N63 n)(a8:¬ WF p v0 r)(b1:l0.length≤100000)(hn:ns.length≤100)(hB:B≤w.heap.size) :
  Calls prog 100 #[.agg #[.pointer (some ⟨p,0,none⟩)],.slice (some ⟨r,0,none⟩) ns.length ns.length] w fun e w'=>e=.returned (.tuple #[])∧∃ v',IsW w' B p v' (l0++jZ ns)∧Mod (WF p v0) w w'∧Fresh w v0 v':=by
 have a0:=ja w (.cells #[.pointer (some ⟨p,0,none⟩)] 204);have hq:=Box.new w #[.pointer (some ⟨p,0,none⟩)] 204;have a9:¬ WF p v0 w.heap.size:=by
  have h1:=hw.box.lt;rintro (e | e)
  · omega
  · have:=(hw.own.lt _ e).2;omega
 have a5:=hw.below a0;have a6:=hr.below a0;have a2:=Mod.of_below (F:=WF p v0) a0;have b0:B≤(w.alloc (.cells #[.pointer (some ⟨p,0,none⟩)] 204)).heap.size:=Nat.le_trans hB a0.size;go_enter func100,ntmps100;go_wp2_with fail;generalize hwq:w.alloc (.cells #[.pointer (some ⟨p,0,none⟩)] 204)=wa at hq a5 a6 a2 b0 ⊢;have a7:∀ v',Fresh wa v0 v'→Fresh w v0 v':=fun v' h k hk=>(h k hk).imp id (fun g=>Nat.le_trans a2.size g)
 have C:=Hd a7;have D:=Hd a2;clear hwq a7 a2 a0 hw hr
 go_loopg [8] ns.length (fun gk iv wr=>∃ (k:Nat) (v1:Value),gk+k=ns.length∧iv=.int .i64 (k:Int)∧IsW wr B p v1 (l0++jZ (ns.take k))∧Mod (WF p v0) wa wr∧Fresh wa v0 v1)
 case atStart=>exact ⟨0,v0,rfl,rfl,by simpa [jZ] using a5,Mod.refl _ _,Fresh.refl _ _⟩
 case round =>
  obtain ⟨k,v1,a3,rfl,hW,hM,hF⟩:=hrel;have hs:=hM.size;have E:=Hd hW;have G:=Hd hM;have A:=Hd hF;by_cases hk:k<ns.length
  ·
   obtain ⟨n,a1⟩:=Nm (ns[k]);have hz:=jgg (n:=n) (a4 n (by rw [a1];exact List.getElem_mem _))
   have N:=Hd (a4 n (by rw [a1];exact List.getElem_mem _))
   have c0:wr.cell? ⟨w.heap.size,0,none⟩=some (.pointer (some ⟨p,0,none⟩)):=(hq.mod hM a9).cell 0 _ rfl;have c1:wr.cell? ⟨r,k,none⟩=some (.int .i64 n):=(a6.mod hM a8).cell k _ (by simp [hk,a1])
   have O:=Hd (show jZ (ns.take (k+1))=jZ (ns.take k)++jm n from by rw [List.take_succ_eq_append_getElem hk,jda,a1])
   have P:=Hd (show (l0++jZ (ns.take k)).length≤140737488350000 from by
    have h1:=jgn (ns.take k);have h2:(ns.take k).length≤100:=by rw [List.length_take];omega
    rw [List.length_append];omega)
   have k0:(0:Int)≤(k:Int):=by omega
   have k1:(k:Int)<(ns.length:Int):=by omega
   have H:=Hd a3;have I:=Hd hk;clear a3 a1 hW hM hF hk;go_wp2_with fail;refine (ux N.1 B p v1 _ _ E.1 P.1 (by omega)).mono ?_
   rintro e w2 ⟨rfl,v2,s1,s2,s3⟩;have J:=Hd s1;have K:=Hd (WF.then G.1 A.1 s2);have L:=Hd (A.1.trans hs s3);clear s1 s2 s3 c0 c1;go_wp2_with fail
   go_roundg (ns.length-(k+1))
   case measure=>have:=H.1;have:=I.1;omega
   case rel=>exact ⟨k+1,v2,by have:=H.1;have:=I.1;omega,by go_num,by rw [O.1,← List.append_assoc];exact J.1,K.1,L.1⟩
  ·
   have k1:¬ (k:Int)<(ns.length:Int):=by omega
   have ht:ns.take k=ns:=List.take_of_length_le (by omega)
   rw [ht] at hW;have M:=Hd hW;clear a3 hW hM hF ht E;go_wp2_with fail;refine bodyPost_end (results_none rfl _ _ _) rfl ?_;exact ⟨rfl,v1,M.1,D.1.trans G.1,C.1 v1 A.1⟩
structure WSt (w0 w:World)(p:Nat)(v:Value)(A:List UInt8)(xs:List (Nat × Array Value × TypeId)):Prop where
 iw:IsW w w0.heap.size p v A
 bx:∀ x∈xs,Box w x.1 x.2.1 x.2.2∧¬ WF p v x.1
 le:w0.heap.size≤p
 bel:Below w0.heap.size w0 w
theorem WSt.call {w0 w w':World}{p:Nat}{v v':Value}{A A':List UInt8}{xs:List (Nat × Array Value × TypeId)}(h:WSt w0 w p v A xs)(hw:IsW w' w0.heap.size p v' A')(hm:Mod (WF p v) w w')(hf:Fresh w v v'):WSt w0 w' p v' A' xs:=by
 refine ⟨hw,fun x hx=>?_,h.le,h.bel.trans (hm.below h.bel.size (fun i hi=>?_))⟩
 ·
  obtain ⟨h1,h2⟩:=h.bx x hx;refine ⟨h1.mod hm h2,?_⟩;have h3:=h1.lt;rintro (e | e)
  · exact h2 (.inl e)
  ·
   rcases hf _ e with e | e
   · exact h2 (.inr e)
   · omega
 ·
  rcases hi with rfl | e
  · exact h.le
  · exact (h.iw.own.lt i e).1
theorem WSt.below {w0 w w':World}{p:Nat}{v:Value}{A:List UInt8}{xs:List (Nat × Array Value × TypeId)}(h:WSt w0 w p v A xs)(hb:Below w.heap.size w w'):WSt w0 w' p v A xs :=
 ⟨h.iw.below hb,fun x hx=>⟨(h.bx x hx).1.below hb,(h.bx x hx).2⟩,h.le,h.bel.trans (hb.mono h.bel.size)⟩
theorem WSt.row {w0 w:World}{p:Nat}{v:Value}{A:List UInt8}{xs:List (Nat × Array Value × TypeId)}(h:WSt w0 w p v A xs):¬ WF p v w.heap.size:=by
 have h1:=h.iw.box.lt;rintro (e | e)
 · omega
 · have:=(h.iw.own.lt _ e).2;omega
theorem WSt.push {w0 w w':World}{p b:Nat}{v:Value}{A:List UInt8}{xs:List (Nat × Array Value × TypeId)}{cs:Array Value}{t:TypeId}(h:WSt w0 w p v A xs)(hb:Below w.heap.size w w')(e:b=w.heap.size)(hx:Box w' b cs t):WSt w0 w' p v A ((b,cs,t)::xs):=by
 subst e;have h':=h.below hb;refine ⟨h'.iw,fun x a0=>?_,h'.le,h'.bel⟩
 rcases List.mem_cons.1 a0 with rfl | a0
 · exact ⟨hx,h.row⟩
 · exact h'.bx x a0
theorem WSt.drop {w0 w:World}{p:Nat}{v:Value}{A:List UInt8}{x:Nat × Array Value × TypeId}{xs:List (Nat × Array Value × TypeId)}(h:WSt w0 w p v A (x::xs)):WSt w0 w p v A xs:=⟨h.iw,fun y hy=>h.bx y (by simp [hy]),h.le,h.bel⟩
theorem WSt.one {w0 w:World}{p:Nat}{v:Value}{A:List UInt8}{x:Nat × Array Value × TypeId}{xs:List (Nat × Array Value × TypeId)}(h:WSt w0 w p v A (x::xs)):Box w x.1 x.2.1 x.2.2:=(h.bx x (by simp)).1
theorem WSt.ints {w0 w:World}{p r:Nat}{v:Value}{A:List UInt8}{xs:List (Nat × Array Value × TypeId)}(h:WSt w0 w p v A xs)(hr:r=w.heap.size)(ns:List Int)(a0:∀ n∈ns,N63 n)(hA:A.length≤100000)(hn:ns.length≤100) :
  Calls prog 100 #[.agg #[.pointer (some ⟨p,0,none⟩)],.slice (some ⟨r,0,none⟩) ns.length ns.length] (w.alloc (.cells (ns.map (fun n=>Value.int .i64 n)).toArray 3)) fun ev w'=>ev=.returned (.tuple #[])∧∃ v',WSt w0 w' p v' (A++jZ ns) xs:=by
 subst hr;have h':=h.below (ja w (.cells (ns.map (fun n=>Value.int .i64 n)).toArray 3))
 refine (jdG w0.heap.size p w.heap.size v A ns _ h'.iw (Box.new _ _ _) a0 h.row hA hn h'.bel.size).mono ?_;rintro ev w' ⟨rfl,v',s1,s2,s3⟩;exact ⟨rfl,v',h'.call s1 s2 s3⟩
theorem WSt.text {w0 w:World}{p:Nat}{v:Value}{A:List UInt8}{xs:List (Nat × Array Value × TypeId)}(h:WSt w0 w p v A xs)(m:List UInt8)(hm:m.length≤32)(hA:A.length≤100000) :
  Calls prog 69 #[.pointer (some ⟨p,0,none⟩),.string (SB m)] w fun ev w'=>ev=.returned (.tuple #[])∧∃ v',WSt w0 w' p v' (A++yr m) xs:=by
 refine (uA w0.heap.size p v A m w h.iw (by omega) (by omega) h.bel.size).mono ?_
 rintro ev w' ⟨rfl,v',s1,s2,s3⟩;exact ⟨rfl,v',h.call s1 s2 s3⟩
theorem WSt.number {w0 w:World}{p:Nat}{v:Value}{A:List UInt8}{xs:List (Nat × Array Value × TypeId)}(h:WSt w0 w p v A xs)(n:Nat)(hn:n<2 ^ 64)(hA:A.length≤100000) :
  Calls prog 68 #[.pointer (some ⟨p,0,none⟩),.int .u64 (n:Int)] w fun ev w'=>ev=.returned (.tuple #[])∧∃ v',WSt w0 w' p v' (A++yM n) xs:=by
 refine (zk w0.heap.size p v A n w h.iw hn (by omega) h.bel.size).mono ?_
 rintro ev w' ⟨rfl,v',s1,s2,s3⟩;exact ⟨rfl,v',h.call s1 s2 s3⟩
def jay (st:StM):List UInt8:=jZ [st.clock,st.births,(st.l.length:Int)]++st.l.flatMap (yq [])
def vj (st:StM):List UInt8:=if yu st=none then jay st else []
def jbx (st:StM):Int:=if yu st=none then 0 else 24
theorem jfR (q:SesM):yq [] q=(((jZ [q.slot,q.birth,q.upS,q.upB,q.kind]++yr q.user)++yr q.label)++yM q.scopes)++jZ [q.level,q.born,q.deadline,q.depth]:=by
 unfold yq jZ;simp
theorem jie {q:SesM}(h:jR q=true):(yq [] q).length≤200:=by
 have hs:=SesN.of h;unfold yq;have h1:=fun n=>jw n
 have h2:=fun n=>xu n
 have h3:=xk hs.user;have h4:=xk hs.label;simp only [List.length_append,List.length_nil];have:=h1 q.slot;have:=h1 q.birth;have:=h1 q.upS;have:=h1 q.upB;have:=h1 q.kind;have:=h2 q.scopes;have:=h1 q.level;have:=h1 q.born;have:=h1 q.deadline;have:=h1 q.depth;omega
theorem vN:∀ {l:List SesM},(∀ s∈l,jR s=true)→(l.flatMap (yq [])).length≤200*l.length
 | [],_=>by simp
 | s::l,h=>by
  have h1:=jie (h s (by simp))
  have h2:=vN (l:=l) (fun q hq=>h q (by simp [hq]))
  rw [List.flatMap_cons,List.length_append,List.length_cons];omega
theorem ja9 (a b c:Int):(jZ [a,b,c]).length≤30:=jgn [a,b,c]
theorem zV {st:StM}(h:yu st=none):N63 st.clock∧N63 st.births∧st.l.length≤32∧∀ s∈st.l,jR s=true:=by
 rw [jbH] at h;obtain ⟨h1,h2⟩:=h;unfold zC at h1;simp only [Bool.and_eq_true,decide_eq_true_eq] at h1;refine ⟨.of h1.1 (by omega) (by omega),.of h1.2.1 (by omega) (by omega),h1.2.2,fun s hs=>?_⟩
 obtain ⟨i,hi,rfl⟩:=List.getElem_of_mem hs;exact (jcy.1 (h2 i hi)).may
theorem jfm {st:StM}(h:yu st=none):(jay st).length≤7000:=by
 obtain ⟨_,_,h3,h4⟩:=zV h;have h5:=vN h4;have:=ja9 st.clock st.births st.l.length;unfold jay;rw [List.length_append];omega
theorem jeU (st:StM)(v:Value)(w:World)(hr:RdS w v st.l)(ho:∀ s∈st.l,SesOk s) :
  Calls prog 75 #[.agg #[.int .i64 st.clock,.int .i64 st.births,v]] w fun ev w'=>∃ o,ev=.returned (.tuple #[o,jo (jbx st)])∧OwnM w' w.heap.size 5 o (vj st).length ((vj st).map V8)∧Below w.heap.size w w':=by
 obtain ⟨a,cap,rfl,e3,e6⟩:=hr.slice;have U:=Hd (fun w' hb=>jbM st (.slice a st.l.length cap) w' (hr.below hb) ho)
 have HR:=Hd hr;have HO:=Hd ho;have V:=Hd (Box.new w #[.int .i64 st.clock,.int .i64 st.births,.slice a st.l.length cap] 30);have S:=Hd (ja w (.cells #[.int .i64 st.clock,.int .i64 st.births,.slice a st.l.length cap] 30));have e4:st.l.length≤9223372036854775807:=by omega
 clear hr ho e3;go_enter func75,ntmps75;go_wp2_with fail;refine (U.1 _ S.1).mono ?_;rintro ev w1 ⟨rfl,d0⟩;have J:=Hd (S.1.trans (d0.mono S.1.size));have K:=Hd (V.1.below d0);clear d0 S V U
 cases hck:yu st with
 | some n =>
  have Z:=Hd (show vj st = [] by unfold vj;rw [hck];rfl)
  have H2:=Hd (show jbx st=24 by unfold jbx;rw [hck];rfl)
  rw [show ji2 (some n)=.iface 99 (.agg #[.int .i64 24,.int .i64 n]) from rfl]
  clear hck;go_wp2_with fail;refine bodyPost_ret (results_tmp2 rfl _ _ _) rfl ?_;rw [Z.1,H2.1];exact ⟨_,rfl,OwnM.nil _ _ _,J.1⟩
 | none =>
 have Z:=Hd (show vj st=jay st by unfold vj;rw [hck];rfl)
 have H2:=Hd (show jbx st=0 by unfold jbx;rw [hck];rfl)
 have E:=Hd (zV hck);have H3:=Hd (jfm hck);rw [show ji2 none=.nilIface from rfl]
 clear hck;go_wp2_with fail;refine (uE w1).mono ?_;rintro ev w2 ⟨rfl,d1,d2⟩;have W:=Hd (K.1.below d2);have H4:=Hd (J.1.trans (d2.mono J.1.size));have L:=Hd d1;have e1:w1.heap.size<w2.heap.size:=d1.box.lt;have e2:w.heap.size<w1.heap.size:=K.1.lt;clear d2 d1 K;go_wp2_with fail
 go_region
 have a4:WSt w (w2.alloc (.cells #[.pointer (some ⟨w1.heap.size,0,none⟩)] 204)) w1.heap.size (.slice none 0 0) [] [(w2.heap.size,#[.pointer (some ⟨w1.heap.size,0,none⟩)],204),(w.heap.size,#[.int .i64 st.clock,.int .i64 st.births,.slice a st.l.length cap],30)]:=by
  refine WSt.push (w:=w2) ⟨⟨L.1.box,OwnM.nil _ _ _,L.1.ne⟩,fun x hx=>?_,J.1.size,H4.1⟩ (ja _ _) rfl (Box.new _ _ _)
  rw [List.mem_singleton.1 hx];exact ⟨W.1,jah (by show w.heap.size≠w1.heap.size;omega)⟩
 have H:=Hd (a4.below (jd _));clear a4 W L;generalize hw3:World.drew _=w3 at H ⊢;clear hw3;have c0:w3.cell? ⟨w.heap.size,0,none⟩=some (.int .i64 st.clock):=H.1.drop.one.cell 0 _ rfl;have c1:w3.cell? ⟨w.heap.size,1,none⟩=some (.int .i64 st.births):=H.1.drop.one.cell 1 _ rfl;have c2:w3.cell? ⟨w.heap.size,2,none⟩=some (.slice a st.l.length cap):=H.1.drop.one.cell 2 _ rfl;have B:=Hd (H.1.ints rfl [st.clock,st.births,(st.l.length:Int)] (fun n hn=>by
   simp only [List.mem_cons,List.not_mem_nil,or_false] at hn
   rcases hn with rfl | rfl | rfl
   · exact E.1.1
   · exact E.1.2.1
   · exact ⟨by omega,by have:=E.1.2.2.1;omega⟩) (by simp) (by simp))
 clear H e2 e1;go_wp2_with fail;refine B.1.mono ?_;rintro ev w4 ⟨rfl,v4,b5⟩;have F:=Hd b5;have c2:w4.cell? ⟨w.heap.size,2,none⟩=some (.slice a st.l.length cap):=b5.drop.one.cell 2 _ rfl;clear b5 c0 c1 B;go_wp2_with fail;clear c2;obtain ⟨n,hn⟩:=Nm (st.l.length);have HN:=Hd hn;have e7:n≤9223372036854775807:=by omega
 obtain ⟨A0,b7⟩:∃ A0,A0 = []++jZ [st.clock,st.births,(st.l.length:Int)]:=⟨_,rfl⟩;rw [← b7] at F;have HA:=Hd (show A0.length≤30 by rw [b7,List.nil_append];exact ja9 _ _ _)
 have H5:=Hd (show jay st=A0++st.l.flatMap (yq []) by unfold jay;rw [b7];rfl)
 have H6:=Hd (fun k=>show (A0++(st.l.take k).flatMap (yq [])).length≤7000 by
  have h1:=HA.1;have h2:=vN (l:=st.l.take k) (fun s hs=>E.1.2.2.2 s (List.mem_of_mem_take hs))
  have h3:=E.1.2.2.1;rw [List.length_take] at h2;rw [List.length_append];omega)
 rw [← hn] at F ⊢;clear b7 hn e4;generalize hxs:(w2.heap.size,(#[.pointer (some ⟨w1.heap.size,0,none⟩)]:Array Value),204)=x1 at F;generalize hys:(w.heap.size,(#[.int .i64 st.clock,.int .i64 st.births,.slice a n cap]:Array Value),30)=x2 at F;have d3:∀ (w':World) (v:Value) (A:List UInt8),WSt w w' w1.heap.size v A [x1,x2]→w'.cell? ⟨w2.heap.size,0,none⟩=some (.pointer (some ⟨w1.heap.size,0,none⟩)):=fun _ _ _ h=>by have:=h.one;rw [← hxs] at this;exact this.cell 0 _ rfl
 have H7:=Hd d3;clear hxs hys d3
 go_loopg [37] n (fun gk iv wr=>∃ (k:Nat) (v1:Value),gk+k=n∧iv=.int .i64 (k:Int)∧WSt w wr w1.heap.size v1 (A0++(st.l.take k).flatMap (yq [])) [x1,x2])
 case atStart=>exact ⟨0,v4,by omega,rfl,by have:=F.1;simpa using this⟩
 case round =>
  obtain ⟨k,v1,d4,rfl,a4⟩:=hrel;have H:=Hd a4;have X:=Hd d4;have k0:(0:Int)≤(k:Int):=by omega
  clear a4 d4 F;by_cases hk:k<n;rotate_left
  ·
   have k1:¬ (k:Int)<(n:Int):=by omega
   have hT:=H.1;rw [List.take_of_length_le (by have:=HN.1;omega),← H5.1] at hT
   have T:=Hd hT;have c0:=H7.1 _ _ _ hT;clear hk hT H;go_wp2_with fail;refine (zA w.heap.size w1.heap.size _ _ _ T.1.iw (by have:=H3.1;omega)).mono ?_
   rintro ev w9 ⟨o9,rfl,d5,d6⟩;have H8:=Hd (d5.lower T.1.bel.size);have H9:=Hd (T.1.bel.trans (d6.mono T.1.bel.size));clear d5 d6 c0;go_wp2_with fail;refine bodyPost_ret (results_tmp2 rfl _ _ _) rfl ?_;rw [Z.1,H2.1];exact ⟨_,rfl,H8.1,H9.1⟩
  have k1:(k:Int)<(n:Int):=by omega
  have a9:k<st.l.length:=by have:=HN.1;omega
  have Y:=Hd (HR.1.below H.1.bel);obtain ⟨s,hs⟩:=Nm (st.l[k]);obtain ⟨rb,ro,e5,b6⟩:=Y.1.row k a9;subst e5;rw [← hs] at b6;have C:=Hd (SesN.of (E.1.2.2.2 s (by rw [hs];exact List.getElem_mem a9)))
  have Ha:=Hd (HO.1 s (by rw [hs];exact List.getElem_mem a9))
  have M:=Hd (show A0++(st.l.take (k+1)).flatMap (yq [])=((((A0++(st.l.take k).flatMap (yq []))++jZ [s.slot,s.birth,s.upS,s.upB,s.kind])++yr s.user)++yr s.label)++yM s.scopes++jZ [s.level,s.born,s.deadline,s.depth] by
   rw [List.take_succ_eq_append_getElem a9,List.flatMap_append,← hs];simp only [List.flatMap_cons,List.flatMap_nil,List.append_nil];rw [jfR];simp only [List.append_assoc])
  generalize hAk:A0++(st.l.take k).flatMap (yq [])=Ak at H M;have b9:=H6.1 (k+1);rw [M.1] at b9;simp only [List.length_append] at b9;have I:=Hd b9;have N:=Hd b6;have HK:=Hd hk;clear hk a9 hs b6 b9 hAk
  go_wp2_with ((with_reducible refine je ?b0 45 (.tmp 39) ?b1 rb (ro+k*12) ?b2 s.cells.toList _ N.1 underlying45 ?b3 ?b4 ?b8);(case b1=>rfl);(case b0=>rfl);(case b2=>rfl);(case b3=>rfl);(case b4=>kernel_rfl))
  intro cv d7
  go_wp2_with ((with_reducible refine jc ?a0 45 (.tmp 9) (.tmp 40) ?a1 wr.heap.size 0 s.cells.toList ?a2 cv ?a3 d7 ?a5 ?a6 ?a7 ?a8);(case a1=>rfl);(case a0=>rfl);(case a2=>rfl);(case a3=>rfl);(case a5=>exact xf _ _);(case a6=>kernel_rfl);(case a7=>exact SesM.oneS _))
  intro w5 d8;obtain ⟨d9,e0⟩:=vE d8;have D:=Hd (H.1.push e0 rfl d9);clear d7 d8 d9 e0 H N Y;have c0:w5.cell? ⟨wr.heap.size,0,none⟩=some (.int .i64 s.slot):=D.1.one.cell 0 _ rfl;have c1:w5.cell? ⟨wr.heap.size,1,none⟩=some (.int .i64 s.birth):=D.1.one.cell 1 _ rfl;have c2:w5.cell? ⟨wr.heap.size,2,none⟩=some (.int .i64 s.upS):=D.1.one.cell 2 _ rfl;have c3:w5.cell? ⟨wr.heap.size,3,none⟩=some (.int .i64 s.upB):=D.1.one.cell 3 _ rfl;have c4:w5.cell? ⟨wr.heap.size,4,none⟩=some (.int .i64 s.kind):=D.1.one.cell 4 _ rfl;have B:=Hd (D.1.ints rfl [s.slot,s.birth,s.upS,s.upB,s.kind] (fun n hn=>by
   simp only [List.mem_cons,List.not_mem_nil,or_false] at hn
   rcases hn with rfl | rfl | rfl | rfl | rfl
   · exact C.1.slot
   · exact C.1.birth
   · exact C.1.upS
   · exact C.1.upB
   · exact C.1.kind) (by have:=I.1;(try simp only [List.length_append]);omega) (by simp))
  go_wp2_with fail;refine B.1.mono ?_;rintro ev w6 ⟨rfl,v6,a4⟩;have O:=Hd a4;clear a4 B D c0 c1 c2 c3 c4;have c5:w6.cell? ⟨wr.heap.size,5,none⟩=some (.string (SB s.user)):=O.1.one.cell 5 _ rfl;have B:=Hd (O.1.text s.user C.1.user (by have:=I.1;(try simp only [List.length_append]);omega))
  go_wp2_with fail;refine B.1.mono ?_;rintro ev w7 ⟨rfl,v7,a4⟩;have P:=Hd a4;clear a4 B O c5;have c6:w7.cell? ⟨wr.heap.size,6,none⟩=some (.string (SB s.label)):=P.1.one.cell 6 _ rfl;have B:=Hd (P.1.text s.label C.1.label (by have:=I.1;(try simp only [List.length_append]);omega))
  go_wp2_with fail;refine B.1.mono ?_;rintro ev w8 ⟨rfl,v8,a4⟩;have Q:=Hd a4;clear a4 B P c6;have c7:w8.cell? ⟨wr.heap.size,7,none⟩=some (.int .u64 (s.scopes:Int)):=Q.1.one.cell 7 _ rfl;have B:=Hd (Q.1.number s.scopes Ha.1.scopes (by have:=I.1;(try simp only [List.length_append]);omega))
  go_wp2_with fail;refine B.1.mono ?_;rintro ev w9 ⟨rfl,v9,a4⟩;have G:=Hd a4;clear a4 B Q c7;have c8:w9.cell? ⟨wr.heap.size,8,none⟩=some (.int .i64 s.level):=G.1.one.cell 8 _ rfl;have c9:w9.cell? ⟨wr.heap.size,9,none⟩=some (.int .i64 s.born):=G.1.one.cell 9 _ rfl;have c10:w9.cell? ⟨wr.heap.size,10,none⟩=some (.int .i64 s.deadline):=G.1.one.cell 10 _ rfl;have c11:w9.cell? ⟨wr.heap.size,11,none⟩=some (.int .i64 s.depth):=G.1.one.cell 11 _ rfl;have B:=Hd (G.1.ints rfl [s.level,s.born,s.deadline,s.depth] (fun n hn=>by
   simp only [List.mem_cons,List.not_mem_nil,or_false] at hn
   rcases hn with rfl | rfl | rfl | rfl
   · exact C.1.level
   · exact C.1.born
   · exact C.1.deadline
   · exact C.1.depth) (by have:=I.1;(try simp only [List.length_append]);omega) (by simp))
  go_wp2_with fail;refine B.1.mono ?_;rintro ev w10 ⟨rfl,v10,a4⟩;have R:=Hd a4;clear a4 B G c8 c9 c10 c11;have H0:=Hd R.1.drop;clear R;go_wp2_with fail
  go_roundg (n-(k+1))
  case measure=>have:=X.1;have:=HK.1;omega
  case rel=>exact ⟨k+1,v10,by have:=X.1;have:=HK.1;omega,by go_num,by rw [M.1];exact H0.1⟩
end Go.Proofs.YtgcnolapjppbpaaGreatDoor
