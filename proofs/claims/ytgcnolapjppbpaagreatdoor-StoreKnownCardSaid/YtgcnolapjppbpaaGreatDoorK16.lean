/- Texts of one proof. -/
import Derived.Test.YtgcnolapjppbpaaGreatDoorK13
import Derived.Test.YtgcnolapjppbpaaGreatDoorK14
import Derived.Test.YtgcnolapjppbpaaGreatDoorK15
namespace Go.Proofs.YtgcnolapjppbpaaGreatDoor
open Go.RowKit _root_.Go.Proofs.Tryz
set_option maxRecDepth 100000
set_option maxHeartbeats 25600000
variable {H:Type}{base b p k i:Nat}{w w0 w':World}{e:EvtM}{t:TypeId}{c:Int}{v lsv:Value}{l:List EvtM}{R:RowsS}
def sesTs:Nat->TkM->List SesM × TkM
 | 0,s=>([],s)
 | n+1,s=>((jY s).1::(sesTs n (jY s).2).1,(sesTs n (jY s).2).2)
def jdf (s:TkM)(st:StM):Int × StM:=if s.er=0 then (if s.k<s.l.length then (3,jI) else if s.big=true then (24,jI) else if yr st=none then (0,st) else (24,jI)) else (s.er,jI)
def vy (l:List UInt8):Int × StM :=
 let c:=(⟨l,0,0,false⟩:TkM).int
 let b:=c.2.int
 let p:=b.2.num
 if p.2.er=0/\32<p.1 then (24,jI) else jdf (sesTs p.1 p.2).2 ⟨c.1,b.1,(sesTs p.1 p.2).1⟩
theorem jdz:∀ (n:Nat) (s:TkM),sesTs (n+1) s=((sesTs n s).1 ++ [(jY (sesTs n s).2).1],(jY (sesTs n s).2).2)
 | 0,s=>rfl
 | n+1,s=>by
  have ih:=jdz n (jY s).2;show ((jY s).1::(sesTs (n+1) (jY s).2).1,(sesTs (n+1) (jY s).2).2)=_;rw [ih]
  rfl
theorem jb3:∀ (n:Nat) (s:TkM),(sesTs n s).1.length=n
 | 0,_=>rfl
 | n+1,s=>by show ((sesTs n (jY s).2).1).length+1=n+1;rw [jb3 n]
theorem ji6 {s:TkM}(h:s.er≠0):s.num=(0,s):=by unfold TkM.num;rw [qh h]
open Go.ChangeShapes Go.WideShapes Go.ChangeAt Go.RowKit
theorem L.own:ownKnob prog.godebug=none:=by kernel_rfl
theorem L.laidOut:laidOutB prog=true:=by kernel_rfl
def jmU (up:Bool)(N:Nat)(t:TypeId)(d:DataW H):Prop :=
 match up with | true=>Rows.uptoBulk d<=N | false=>(DataW.weights prog t d).all (·<=reachBytes)=true
def jnw (up:Bool)(N:Nat)(t:TypeId)(W:World)(cs:List Value):Prop :=
 ∃ (H:Type) (enc:TypeId × Value->H) (d:DataW H) (ps:List MemPlace) (fuel:Nat),DataW.trod enc prog W 0 (fun _=>true) true fuel t cs=some (d,ps)/\jmU up N t d
def Arg (up:Bool)(t:TypeId)(W:World)(v:Value):Prop :=
 jnw up 1048576 t W v.cells.toList/\∃ base,Value.okWide prog W .any base t v
def jd1 (up:Bool)(W:World):List TypeId->List Value->Prop
 | [],[]=>True
 | t::ts,v::vs=>Arg up t W v/\jd1 up W ts vs
 | _,_=>False
set_option maxRecDepth 100000 in
theorem jfH {up:Bool}{H:Type}{enc:TypeId × Value->H}{W:World}{base:Nat}:∀ {ts:List TypeId} {vs:List Value} {ds:List (DataW H)} {ps:List MemPlace},
  DataW.TrodAll enc prog W 0 (fun _=>true) true ts vs ds ps->(∀ (j:Nat) t v,ts[j]?=some t->vs[j]?=some v->Value.okWide prog W .any base t v) ->
  (match up with | true=>Rows.uptoBulkAll ds<=1048576 | false=>(DataW.weightsEach prog ts ds).all (·<=reachBytes)=true)->jd1 up W ts vs
 | [],[],[],_,_,_,_=>trivial
 | t::ts,v::vs,d::ds,ps,h,hv,hs=>by
  obtain ⟨p,q,h1,h2,rfl⟩:=h;refine ⟨⟨⟨H,enc,d,p,h1.choose,h1.choose_spec,?_⟩,base,hv 0 t v rfl rfl⟩,jfH (base:=base) h2 (fun j t v ht a0=>hv (j+1) t v (by simpa using ht) (by simpa using a0)) ?_⟩
  .
   cases up with
   | true=>simp only [Rows.uptoBulkAll] at hs;show Rows.uptoBulk d<=1048576;omega
   | false=>simp only [DataW.weightsEach,List.all_append,qq] at hs;exact hs.1
  .
   cases up with
   | true=>simp only [Rows.uptoBulkAll] at hs |-;omega
   | false=>simp only [DataW.weightsEach,List.all_append,qq] at hs;exact hs.2
 | [],[],_::_,_,h,_,_=>h.elim
 | [],_::_,_,_,h,_,_=>h.elim
 | _::_,[],_,_,h,_,_=>h.elim
 | _::_,_::_,[],_,h,_,_=>h.elim
theorem jaN {enc:TypeId × Value->H}{W W':World}(hb:Below W.heap.size W W'):∀ {ts:List TypeId} {vs:List Value} {ds:List (DataW H)} {ps:List MemPlace},
  (∀ t∈ts,prog.readableRec t=true/\t<prog.types.size)->DataW.TrodAll enc prog W 0 (fun _=>true) true ts vs ds ps->(∀ x∈ps,x.block<W.heap.size) ->
  DataW.TrodAll enc prog W' 0 (fun b=>decide (b<W.heap.size)) true ts vs ds ps
 | [],[],[],_,_,h,_=>h
 | t::ts,v::vs,d::ds,ps,hr,h,hlt=>by
  obtain ⟨p,q,h1,h2,rfl⟩:=h;refine ⟨p,q,Below.trod L.laidOut (hr t (by simp)).1 (hr t (by simp)).2 h1 hb (fun x hx=>hlt x (by simp [hx])),jaN hb (fun t ht=>hr t (by simp [ht])) h2 (fun x hx=>hlt x (by simp [hx])),rfl⟩
 | [],[],_::_,_,_,h,_=>h.elim
 | [],_::_,_,_,_,h,_=>h.elim
 | _::_,[],_,_,_,h,_=>h.elim
 | _::_,_::_,[],_,_,h,_=>h.elim
theorem uV {α:Type}(f : α->List Value)(size:Nat)(hs:∀ x,(f x).length=size)(hp:0<size)(z : α):∀ (l:List α) (i j:Nat),i<l.length->j<size->(l.flatMap f).getD (i*size+j) undef=(f (l.getD i z)).getD j undef
 | [],i,j,hi,_=>by simp at hi
 | a::l,0,j,_,hj=>by
  rw [qV,List.getD,List.getElem?_append_left (by rw [hs];omega)];simp
 | a::l,i+1,j,hi,hj=>by
  have:=uV f size hs hp z l i j (by simpa using hi) hj
  rw [qV,List.getD,List.getElem?_append_right (by rw [hs,pf];omega),hs,show (i+1)*size+j-size=i*size+j by rw [pf];omega]
  simpa [List.getD] using this
theorem vC {α:Type}(f : α->List Value)(size:Nat)(hs:∀ x,(f x).length=size):∀ l:List α,(l.flatMap f).length=l.length*size
 | []=>by simp
 | a::l=>by rw [qV,qd,hs,vC f size hs l,qp,pf];omega
def I64 (n:Int):Prop := -9223372036854775808<=n/\n<=9223372036854775807
theorem Mod.set3 (b:Nat)(w:World)(x y z:Value):Mod (fun i=>i=b) w (((w.setCell ⟨b,0,none⟩ x).setCell ⟨b,1,none⟩ y).setCell ⟨b,2,none⟩ z) :=
 ((Mod.set (fun i=>i=b) w ⟨b,0,none⟩ x rfl).trans (Mod.set (fun i=>i=b) _ ⟨b,1,none⟩ y rfl)).trans (Mod.set (fun i=>i=b) _ ⟨b,2,none⟩ z rfl)
theorem jfW {n:Int}(h:n≠0):jm n=.iface 91 n:=by unfold jm;rw [qh h]
theorem EvtM.cellsE (e:EvtM):e.cells=#[.int .i64 e.kind,.int .i64 e.s.slot,.int .i64 e.s.birth,.int .i64 e.s.upS,.int .i64 e.s.upB,.int .i64 e.s.kind,.string (SB e.s.user),.string (SB e.s.label),.int .u64 (e.s.scopes:Int),.int .i64 e.s.level,.int .i64 e.s.born,.int .i64 e.s.deadline,.int .i64 e.s.depth,.int .i64 e.birth,.int .i64 e.ticks]:=rfl
theorem Box.rangeV (h:Box w b e.cells t):w.rangeAt b 0 e.cells.toList:=h.range 0 _ (fun j v hv=>by rw [qA];simpa using hv)
theorem Box.rangeB (h:Box w b e.cells t):w.rangeAt b 1 e.s.cells.toList:=h.range 1 _ (fun j v hv=>by
 have hj:j<12:=(List.getElem?_eq_some_iff.1 hv).1;have h1:e.cells.toList[1+j]?=e.s.cells.toList[j]?:=by
  rcases j with _ | _ | _ | _ | _ | _ | _ | _ | _ | _ | _ | _ | j
  all_goals first | rfl | omega
 rw [<- Array.getElem?_toList,h1];exact hv)
structure ApS (w0 w:World)(p:Nat)(c b:Int)(v:Value)(e:EvtM)(l:List SesM):Prop where
 bx:Box w p #[c,b,v] 30
 be:Box w (p+1) e.cells 47
 bz:Box w (p+1+1) #[(0:Int),(0:Int),.slice none 0 0] 30
 rs:RdS w v l
 bel:Below p w0 w
 e0:p=w0.heap.size
theorem ApS.below {b:Int}{l:List SesM}(h:ApS w0 w p c b v e l)(hb:Below w.heap.size w w'):ApS w0 w' p c b v e l :=
 ⟨h.bx.below hb,h.be.below hb,h.bz.below hb,h.rs.below hb,h.bel.trans (hb.mono (by have:=h.bx.lt;omega)),h.e0⟩
theorem ApS.self {b:Int}{l:List SesM}(h:ApS w0 w p c b v e l):Below w0.heap.size w0 w:=by have:=h.bel;rwa [h.e0] at this
theorem ApS.fill {b:Int}{l:List SesM}(h:ApS w0 w p c b v e l)(c' b':Int)(x:Value) :
  Box (((w.setCell ⟨p+1+1,0,none⟩ c').setCell ⟨p+1+1,1,none⟩ b').setCell ⟨p+1+1,2,none⟩ x) (p+1+1) #[c',b',x] 30/\Below w0.heap.size w0 (((w.setCell ⟨p+1+1,0,none⟩ c').setCell ⟨p+1+1,1,none⟩ b').setCell ⟨p+1+1,2,none⟩ x) /\
  Mod (fun i=>i=p+1+1) w (((w.setCell ⟨p+1+1,0,none⟩ c').setCell ⟨p+1+1,1,none⟩ b').setCell ⟨p+1+1,2,none⟩ x):=by
 have hm:Mod (fun i=>i=p+1+1) w (((w.setCell ⟨p+1+1,0,none⟩ c').setCell ⟨p+1+1,1,none⟩ b').setCell ⟨p+1+1,2,none⟩ x):=Mod.set3 _ _ _ _ _
 exact ⟨((h.bz.set 0 c').set 1 b').set 2 x,h.self.trans (hm.below h.self.size (fun i hi=>by have:=h.e0;omega)),hm⟩
theorem jj {d:Int}{x:Value}(h:Box w b #[c,d,x] t):w.rangeAt b 0 [c,d,x]:=h.range 0 _ (fun j v hv=>by rw [qA];simpa using hv)
theorem jm4 (eb:Nat)(b:Int)(w:World)(hc:w.cell? ⟨eb,13,none⟩=some (.int .i64 b)):TestF 61 ⟨eb,0,none⟩ (fun s=>s.birth==b) w :=
 ⟨fun _ _=>by kernel_rfl,fun s w' hb=>jfZ s eb b w' (jc hb hc)⟩
theorem jm8 (eb:Nat)(b:Int)(w:World)(hc:w.cell? ⟨eb,13,none⟩=some (.int .i64 b)):TestF 63 ⟨eb,0,none⟩ (fun s=>s.birth==b) w :=
 ⟨fun _ _=>by kernel_rfl,fun s w' hb=>jfY s eb b w' (jc hb hc)⟩
theorem jm2 (eb:Nat)(b:Int)(w:World)(hc:w.cell? ⟨eb,0,none⟩=some (.int .i64 b)):TestF 64 ⟨eb,0,none⟩ (fun s=>decide (s.deadline<=b)) w :=
 ⟨fun _ _=>by kernel_rfl,fun s w' hb=>jgz s eb b w' (jc hb hc)⟩
theorem jcA (st:StM)(e:EvtM)(v:Value)(w:World)(hv:RdS w v st.l)(hn:st.l.length<=1000000000)(hu:e.s.user.length<=9223372036854775807)(hl:e.s.label.length<=9223372036854775807)(d3:e.s.scopes<2 ^ 64) :
  Calls prog 37 #[.agg #[st.clock,st.births,v],.agg e.cells] w fun ev w'=>∃ o,ev=.returned (.tuple #[.agg #[.int .i64 (jt st e).2.clock,.int .i64 (jt st e).2.births,o],jm (jt st e).1])/\OwnS w' w.heap.size o (jt st e).2.l/\Below w.heap.size w w':=by
 have H3:=Hd (fun w=>jck e w hu hl d3)
 obtain ⟨D,hD⟩:=Nm (jt st e);rw [<- hD];unfold jt at hD;have S:=Hd (fun v' w' h=>jeO st e.s v' w' h)
 have Y:=Hd hn;obtain ⟨c,b,l⟩:=st;simp only at hv hD S Y |-;have H4:=Hd hv;obtain ⟨a,cap,rfl,d5,d9⟩:=hv.slice;have d6:l.length<=9223372036854775807:=by omega
 have HD:=Hd hD;clear hD d5 hn hu hl d3;have H5:=Hd e.cellsE;have c9:ApS w (((w.alloc (.cells #[c,b,.slice a l.length cap] 30)).alloc (.cells e.cells 47)).alloc (.cells #[(0:Int),(0:Int),.slice none 0 0] 30)) w.heap.size c b (.slice a l.length cap) e l:=by
  have h1:=Box.new w #[c,b,.slice a l.length cap] 30;have h2:=Box.new (w.alloc (.cells #[c,b,.slice a l.length cap] 30)) e.cells 47;have h3:=Box.new ((w.alloc (.cells #[c,b,.slice a l.length cap] 30)).alloc (.cells e.cells 47)) #[(0:Int),(0:Int),.slice none 0 0] 30;rw [qj] at h2;rw [qj,qj] at h3;have b2:=(jl w (.cells #[c,b,.slice a l.length cap] 30) (.cells e.cells 47)).trans ((ja ((w.alloc (.cells #[c,b,.slice a l.length cap] 30)).alloc (.cells e.cells 47)) (.cells #[(0:Int),(0:Int),.slice none 0 0] 30)).mono (jl w _ _).size);exact ⟨(h1.below (ja _ _)).below (ja _ _),h2.below (ja _ _),h3,hv.below b2,b2,rfl⟩
 obtain ⟨n,hN⟩:=Nm (l.length);rw [<- hN] at d6 c9 H4 |-;have HN:=Hd hN;have H1:=Hd c9.be.rangeV;have T:=Hd c9;clear hv hN c9;rw [H5.1];rw [show (((w.alloc (.cells #[c,b,.slice a n cap] 30)).alloc (.cells e.cells 47)).alloc (.cells #[(0:Int),(0:Int),.slice none 0 0] 30))=((w.alloc (.cells #[c,b,.slice a n cap] 30)).alloc (.cells #[e.kind,e.s.slot,e.s.birth,e.s.upS,e.s.upB,e.s.kind,.string (SB e.s.user),.string (SB e.s.label),.int .u64 (e.s.scopes:Int),e.s.level,e.s.born,e.s.deadline,e.s.depth,e.birth,e.ticks] 47)).alloc (.cells #[(0:Int),(0:Int),.slice none 0 0] 30) from rfl] at T H1
 go_enter func37,ntmps37
 go_wp2_with (with_reducible refine Lk H1.1 underlying47 ?_)
 intro cv b7;have ecv:cv=e.cells:=by rw [b7.out]
 subst ecv;clear b7 H1 H5;generalize hw1:World.alloc _ _=w1 at T |-;clear hw1;obtain ⟨p,hp⟩:=Nm (w.heap.size);rw [<- hp] at T |-;have HP:=Hd hp;clear hp;go_wp2_with fail;refine (H3.1 _).mono ?_;rintro ev w2 ⟨o,rfl,ho,d4⟩;have H:=Hd (T.1.below d4);obtain ⟨oa,oc,rfl,_⟩:=ho.slice;clear ho d4 T H3
 cases hmay:jM e
 .
  have hn:uS e=1:=by unfold uS;rw [hmay];rfl
  have H6:=Hd (show D=(1,jI) by rw [HD.1,hmay];rfl)
  rw [hn,show jm 1=.iface 91 (1:Int) from rfl]
  clear hn HD hmay;obtain ⟨z0,y0,z1,y1,z2,y2⟩:=B3 H.1.bz;have O:=Hd (H.1.fill 0 0 (.slice none 0 0));clear H;go_wp2;exact Jt (jj O.1.1) underlying30 ⟨_,by rw [H6.1] <;> rfl,by rw [H6.1];exact OwnS.nil _ _,O.1.2.1⟩
 have hn:uS e=0:=by unfold uS;rw [hmay];rfl
 rw [hn,show jm 0=.nilIface from rfl]
 have Q:=Hd (HD.1.trans (by rw [hmay,qf rfl]))
 have R:=Hd hmay;clear hn hmay HD;have k0:w2.cell? ⟨p+1,0,none⟩=some (.int .i64 e.kind):=H.1.be.cell 0 _ rfl
 cases hk0:(e.kind==0)
 rotate_left
 .
  have I:=Hd (Q.1.trans (qf (qK.1 hk0)));clear Q R;obtain ⟨c0,c1,c2⟩:=C3 H.1.bx;have Z:=Hd H.1.be.rangeB
  go_wp2_with (with_reducible refine Lk Z.1 underlying45 ?_)
  intro cv b7;have ecv:cv=e.s.cells:=by rw [b7.out]
  subst ecv;clear b7;go_wp2_with fail;refine (S.1 _ _ H.1.rs).mono ?_;rintro ev w3 ⟨rfl,b2⟩;have A:=Hd (H.1.below b2);clear b2 H Z S c0 c1 c2 k0;by_cases hr:uR ⟨c,b,l⟩ e.s=0;rotate_left
  .
   rw [jfW hr];have HR:=Hd hr;have B:=Hd (I.1.trans (qh hr));generalize uR ⟨c,b,l⟩ e.s=er at *;clear hr I;obtain ⟨z0,y0,z1,y1,z2,y2⟩:=B3 A.1.bz;have O:=Hd (A.1.fill 0 0 (.slice none 0 0));clear A;go_wp2;exact Jt (jj O.1.1) underlying30 ⟨_,by rw [B.1,jfW HR.1] <;> rfl,by rw [B.1];exact OwnS.nil _ _,O.1.2.1⟩
  have B:=Hd (I.1.trans (qf hr));obtain ⟨W,hW⟩:∃ W,IntKind.i64.wrap (b+1)=W:=⟨_,rfl⟩;rw [hW] at B;rw [hr,show jm 0=.nilIface from rfl]
  have H0:=Hd (show l.length+1<=1256584717458 by have:=Y.1;omega)
  clear hr I hk0;have c2:w3.cell? ⟨p,2,none⟩=some (.slice a n cap):=A.1.bx.cell 2 _ rfl;have c1:w3.cell? ⟨p,1,none⟩=some (.int .i64 b):=A.1.bx.cell 1 _ rfl;have f1:=A.1.bx.free 1;have f2:=A.1.bx.free 2;have HC:=Hd (And.intro c2 f2);have Z:=Hd A.1.be.rangeB;clear c1 f1 c2 f2;go_wp2_with fail;refine yF 8 (F:=fun W=>Below w3.heap.size w3 W) (by kernel_rfl) (jb w3) (fun a5=>?_)
  refine Tl 0 30 ?_;refine Tl 1 31 ?_ (hy:=by intro w' d0;have q2:=jc d0 HC.1.1;clear d0;go_simp;try with_reducible rfl)
  refine Tl 3 33 ?_;refine Tl 4 34 ?_ (v:=.agg e.s.cells) (hy:=fun w' d0=>Ek (fun j v hv=>jc d0 (Z.1 j v hv)) underlying45 (cs:=(e.s.cells).toList))
  refine jQ (rs := [2,5]) (by kernel_rfl) (by simp) (AllReadyL.cons (o:=⟨some 32,.call _,_,_,_,_⟩) rfl (fun K hK=>?_) (AllReadyL.cons (o:=⟨some 35,.buildSlice _ 1 _,_,_,_,_⟩) rfl (fun K hK=>?_) AllReadyL.nil))
  .
   go_simp
   refine (ug (.slice a n cap) l _ (A.1.rs.below a5) (by have:=H0.1;omega)).mono ?_
   rintro ev w5 ⟨o,rfl,ho,b3⟩;refine hK.out _ _ (a5.trans (b3.mono a5.size)) (fun a1=>?_)
   have L:=Hd (ho.base (base':=w3.heap.size) a5.size);clear hK K ho b3 a5
   try simp only [Nz]
   refine jQ (rs := [5]) (by kernel_rfl) (by simp) (AllReadyL.cons (o:=⟨some 35,.buildSlice _ 1 _,_,_,_,_⟩) rfl (fun K hK=>?_) AllReadyL.nil)
   rw [qf (by kernel_rfl)]
   refine jae (.tmp 34) rfl e.s rfl ?_;refine hK.out _ _ (a1.trans ((ja w5 _).mono a1.size)) (fun a0=>?_)
   have U:=Hd (L.1.below (ja w5 (.cells e.s.cells 45)));have P:=Hd (xu w5 e.s 45);clear hK K a1 L
   try simp only [Nz]
   generalize w5.alloc (.cells e.s.cells 45)=w6 at U P a0 |-;generalize w5.heap.size=nb at P |-;refine jQ (rs := [6]) (by kernel_rfl) (by simp) (AllReadyL.cons (o:=⟨some 36,.call _,_,_,_,_⟩) rfl (fun K hK=>?_) AllReadyL.nil)
   rw [qf (by kernel_rfl)]
   refine jcs (.tmp 32) (.tmp 35) rfl w3.heap.size _ l rfl U.1 ⟨nb,0,none⟩ 1 e.s rfl P.1 H0.1 a0.size ?_;intro v' w7 a7 b8 _;obtain ⟨va,vc,b9,_⟩:=a7.slice;rw [qd,qx] at b9;subst b9;have c3:=a0.trans (je b8 a0.size (fun q hq=>(U.1.lt q hq).1))
   refine hK.out _ _ c3 (fun a4=>?_)
   have J:=Hd a7;clear hK K a7 b8 c3 U P a0
   try simp only [Nz]
   refine Tl 7 37 ?_;have q2:=jc a4 HC.1.1;have E:=Hd (A.1.below a4);have r2:=E.1.bx.free 2;refine jQ (rs := [8]) (by kernel_rfl) (by simp) (AllReadyL.last rfl (o:=⟨none,.store _ _ _,_,_,_,_⟩) rfl (fun K hK=>?_))
   go_simp
   refine hK.out _ _ ?_;clear hK K a4 q2 r2
   try simp only [Nz]
   refine yZ (by kernel_rfl) ?_ _
   have H8:=Hd A.1.bx.lt;have d1:p+1+1<w3.heap.size:=A.1.bz.lt;have a3:=Mod.set (fun i=>i=p) w7 ⟨p,2,none⟩ (.slice va (l.length+1) vc) rfl
   have a6:=(E.1.bx).set 2 (.slice va (l.length+1) vc);have a2:=E.1.bz.mod a3 (by omega)
   have b4:=J.1.mod a3 (fun k hk e=>by have:=(J.1.lt k hk).1;omega)
   have a9:=E.1.self.trans (a3.below E.1.self.size (fun i hi=>by have:=E.1.e0;omega))
   generalize World.setCell w7 _ _=w8 at a3 a6 a2 b4 a9 |-;obtain ⟨s0,s1,s2⟩:=C3 a6;have t1:=a6.free 1;obtain ⟨z0,y0,z1,y1,z2,y2⟩:=B3 a2;have b0:=Mod.set (fun i=>i=p) w8 ⟨p,1,none⟩ W rfl
   have c4:=a2.mod b0 (by omega)
   have c5:=b4.mod b0 (fun k hk e=>by have:=(J.1.lt k hk).1;omega)
   have b5:=a9.trans (b0.below a9.size (fun i hi=>by have:=E.1.e0;omega))
   have b6:=Mod.set3 (p+1+1) (w8.setCell ⟨p,1,none⟩ W) c W (.slice va (l.length+1) vc);have c6:=((c4.set 0 c).set 1 W).set 2 (.slice va (l.length+1) vc);have c7:=c5.mod b6 (fun k hk e=>by have:=(J.1.lt k hk).1;omega)
   have c8:=b5.trans (b6.below b5.size (fun i hi=>by have:=E.1.e0;omega))
   have a8:=c7.base (base':=w.heap.size) (by have:=E.1.e0;omega)
   have N:=Hd (And.intro c6 (And.intro a8 c8));clear a3 a6 a2 b4 a9 b0 c4 c5 b5 d1 J E b6 c6 c7 c8 a8;go_wp2;exact Jt (jj N.1.1) underlying30 ⟨_,by rw [B.1] <;> rfl,by rw [B.1];exact N.1.2.1,N.1.2.2⟩
  rw [qf (by kernel_rfl)]
  refine jae (.tmp 34) rfl e.s rfl ?_;refine hK.out _ _ (a5.trans ((ja w3.drew _).mono a5.size)) (fun a1=>?_)
  have H7:=Hd (show ∀ j u,e.s.cells.toList[j]?=some u->(w3.drew.alloc (.cells e.s.cells 45)).cell? ((⟨w3.heap.size,0,none⟩:Addr).add j)=some u from xu w3.drew e.s 45)
  clear hK K a5
  try simp only [Nz]
  refine jQ (rs := [2]) (by kernel_rfl) (by simp) (AllReadyL.cons (o:=⟨some 32,.call _,_,_,_,_⟩) rfl (fun K hK=>?_) AllReadyL.nil)
  go_simp
  refine (ug (.slice a n cap) l _ (A.1.rs.below a1) (by have:=H0.1;omega)).mono ?_
  rintro ev w6 ⟨o,rfl,ho,d2⟩;refine hK.out _ _ (a1.trans (d2.mono a1.size)) (fun a0=>?_)
  have U:=Hd (ho.base (base':=w3.heap.size) a1.size);have P:=Hd (fun j u hj=>jc d2 (H7.1 j u hj))
  clear hK K ho d2 a1 H7
  try simp only [Nz]
  refine jQ (rs := [6]) (by kernel_rfl) (by simp) (AllReadyL.cons (o:=⟨some 36,.call _,_,_,_,_⟩) rfl (fun K hK=>?_) AllReadyL.nil)
  rw [qf (by kernel_rfl)]
  refine jcs (.tmp 32) (.tmp 35) rfl w3.heap.size _ l rfl U.1 ⟨w3.heap.size,0,none⟩ 1 e.s rfl P.1 H0.1 a0.size ?_;intro v' w7 a7 b8 _;obtain ⟨va,vc,b9,_⟩:=a7.slice;rw [qd,qx] at b9;subst b9;have c3:=a0.trans (je b8 a0.size (fun q hq=>(U.1.lt q hq).1))
  refine hK.out _ _ c3 (fun a4=>?_)
  have J:=Hd a7;clear hK K a7 b8 c3 U P a0
  try simp only [Nz]
  refine Tl 7 37 ?_;have q2:=jc a4 HC.1.1;have E:=Hd (A.1.below a4);have r2:=E.1.bx.free 2;refine jQ (rs := [8]) (by kernel_rfl) (by simp) (AllReadyL.last rfl (o:=⟨none,.store _ _ _,_,_,_,_⟩) rfl (fun K hK=>?_))
  go_simp
  refine hK.out _ _ ?_;clear hK K a4 q2 r2
  try simp only [Nz]
  refine yZ (by kernel_rfl) ?_ _
  have H8:=Hd A.1.bx.lt;have d1:p+1+1<w3.heap.size:=A.1.bz.lt;have a3:=Mod.set (fun i=>i=p) w7 ⟨p,2,none⟩ (.slice va (l.length+1) vc) rfl
  have a6:=(E.1.bx).set 2 (.slice va (l.length+1) vc);have a2:=E.1.bz.mod a3 (by omega)
  have b4:=J.1.mod a3 (fun k hk e=>by have:=(J.1.lt k hk).1;omega)
  have a9:=E.1.self.trans (a3.below E.1.self.size (fun i hi=>by have:=E.1.e0;omega))
  generalize World.setCell w7 _ _=w8 at a3 a6 a2 b4 a9 |-;obtain ⟨s0,s1,s2⟩:=C3 a6;have t1:=a6.free 1;obtain ⟨z0,y0,z1,y1,z2,y2⟩:=B3 a2;have b0:=Mod.set (fun i=>i=p) w8 ⟨p,1,none⟩ W rfl
  have c4:=a2.mod b0 (by omega)
  have c5:=b4.mod b0 (fun k hk e=>by have:=(J.1.lt k hk).1;omega)
  have b5:=a9.trans (b0.below a9.size (fun i hi=>by have:=E.1.e0;omega))
  have b6:=Mod.set3 (p+1+1) (w8.setCell ⟨p,1,none⟩ W) c W (.slice va (l.length+1) vc);have c6:=((c4.set 0 c).set 1 W).set 2 (.slice va (l.length+1) vc);have c7:=c5.mod b6 (fun k hk e=>by have:=(J.1.lt k hk).1;omega)
  have c8:=b5.trans (b6.below b5.size (fun i hi=>by have:=E.1.e0;omega))
  have a8:=c7.base (base':=w.heap.size) (by have:=E.1.e0;omega)
  have N:=Hd (And.intro c6 (And.intro a8 c8));clear a3 a6 a2 b4 a9 b0 c4 c5 b5 d1 J E b6 c6 c7 c8 a8;go_wp2;exact Jt (jj N.1.1) underlying30 ⟨_,by rw [B.1] <;> rfl,by rw [B.1];exact N.1.2.1,N.1.2.2⟩
 cases hk1:(e.kind==1)
 rotate_left
 .
  have I:=Hd ((Q.1.trans (qh (fun h=>by rw [h] at hk0;cases hk0))).trans (qf (qK.1 hk1)))
  clear Q R S;have c2:w2.cell? ⟨p,2,none⟩=some (.slice a n cap):=H.1.bx.cell 2 _ rfl;have H2:=Hd (jdj 61 ⟨p+1,0,none⟩ (fun s=>s.birth==e.birth) (.slice a n cap) l w2 H.1.rs (jm4 (p+1) e.birth w2 (H.1.be.cell 13 _ rfl)))
  obtain ⟨r,hr⟩:=Nm (l.any (fun s=>s.birth==e.birth))
  rw [<- hr] at H2 I;clear hr;go_wp2_with fail;refine H2.1.mono ?_;rintro ev w3 ⟨rfl,b2⟩;have A:=Hd (H.1.below b2);clear b2 H H2 c2 k0 hk0 hk1
  cases r
  .
   have B:=Hd (show D=(16,jI) from I.1)
   clear I;obtain ⟨z0,y0,z1,y1,z2,y2⟩:=B3 A.1.bz;have O:=Hd (A.1.fill 0 0 (.slice none 0 0));clear A;go_wp2;exact Jt (jj O.1.1) underlying30 ⟨_,by rw [B.1] <;> rfl,by rw [B.1];exact OwnS.nil _ _,O.1.2.1⟩
  have B:=Hd (show D=(0,⟨c,b,jB (fun s=>s.birth==e.birth) l⟩) from I.1)
  clear I;obtain ⟨c0,c1,c2⟩:=C3 A.1.bx;have V:=Hd (jaS 63 ⟨p+1,0,none⟩ (fun s=>s.birth==e.birth) ⟨c,b,l⟩ (.slice a n cap) w3 A.1.rs Y.1 (jm8 (p+1) e.birth w3 (A.1.be.cell 13 _ rfl)))
  go_wp2_with fail;refine V.1.mono ?_;rintro ev w5 ⟨o,rfl,ho,b3⟩;have G:=Hd (A.1.below b3);obtain ⟨va,vc,rfl,_⟩:=ho.slice;have L:=Hd ho;have X:=Hd (show p+1+1<w3.heap.size from A.1.bz.lt)
  clear ho b3 V A c0 c1 c2;obtain ⟨z0,y0,z1,y1,z2,y2⟩:=B3 G.1.bz;have b1:=G.1.fill c b (.slice va (jB (fun s=>s.birth==e.birth) l).length vc)
  have a8:=(L.1.mod b1.2.2 (fun k hk e=>by have:=(L.1.lt k hk).1;have:=X.1;omega)).base (base':=w.heap.size) (by have:=G.1.e0;have:=X.1;omega)
  have N:=Hd (And.intro b1.1 (And.intro a8 b1.2.1));clear b1 a8 L G;go_wp2;exact Jt (jj N.1.1) underlying30 ⟨_,by rw [B.1] <;> rfl,by rw [B.1];exact N.1.2.1,N.1.2.2⟩
 obtain ⟨_,d7,d8⟩:=vV R.1 hk0 hk1;have I:=Hd ((Q.1.trans (qh (fun h=>by rw [h] at hk0;cases hk0))).trans (qh (fun h=>by rw [h] at hk1;cases hk1)))
 clear Q R S;have c0:w2.cell? ⟨p,0,none⟩=some (.int .i64 c):=H.1.bx.cell 0 _ rfl;have e14:w2.cell? ⟨p+1,14,none⟩=some (.int .i64 e.ticks):=H.1.be.cell 14 _ rfl;have f0:=H.1.bx.free 0;by_cases h1:c<0
 .
  have B:=Hd (show D=(12,jI) from I.1.trans (qf (.inl h1)))
  clear I;obtain ⟨z0,y0,z1,y1,z2,y2⟩:=B3 H.1.bz;have O:=Hd (H.1.fill 0 0 (.slice none 0 0));clear H;go_wp2;exact Jt (jj O.1.1) underlying30 ⟨_,by rw [B.1] <;> rfl,by rw [B.1];exact OwnS.nil _ _,O.1.2.1⟩
 obtain ⟨M,hM⟩:=Nm (1099511627776-e.ticks);have e1:IntKind.i64.wrap (1099511627776-e.ticks)=M:=by rw [hM];simp [IntKind.wrap,IntKind.bits,IntKind.signed];omega
 rw [<- hM] at I;by_cases h2:M<c
 .
  have B:=Hd (show D=(12,jI) from I.1.trans (qf (.inr h2)))
  clear I hM;obtain ⟨z0,y0,z1,y1,z2,y2⟩:=B3 H.1.bz;have O:=Hd (H.1.fill 0 0 (.slice none 0 0));clear H;go_wp2;exact Jt (jj O.1.1) underlying30 ⟨_,by rw [B.1] <;> rfl,by rw [B.1];exact OwnS.nil _ _,O.1.2.1⟩
 obtain ⟨C,hC⟩:=Nm (c+e.ticks);have e2:IntKind.i64.wrap (c+e.ticks)=C:=by rw [hC];simp [IntKind.wrap,IntKind.bits,IntKind.signed];omega
 have B:=Hd (show D=(0,⟨C,b,jB (fun s=>decide (s.deadline<=C)) l⟩) by rw [hC];exact I.1.trans (qh (fun h=>h.elim h1 h2)))
 clear I hM hC d7 d8;have a3:=Mod.set (fun i=>i=p) w2 ⟨p,0,none⟩ C rfl
 have A:=Hd (show ApS w (w2.setCell ⟨p,0,none⟩ C) p C b (.slice a n cap) e l from
  ⟨H.1.bx.set 0 C,H.1.be.mod a3 (by omega),H.1.bz.mod a3 (by omega),H4.1.below (H.1.self.trans (a3.below H.1.self.size (fun i hi=>by have:=H.1.e0;omega))),H.1.bel.trans (a3.below (by have:=H.1.bx.lt;omega) (fun i hi=>by omega)),H.1.e0⟩)
 clear a3;obtain ⟨c0,c1,c2⟩:=C3 A.1.bx;have V:=Hd (jaS 64 ⟨p,0,none⟩ (fun s=>decide (s.deadline<=C)) ⟨C,b,l⟩ (.slice a n cap) (w2.setCell ⟨p,0,none⟩ C) A.1.rs Y.1 (jm2 p C _ (A.1.bx.cell 0 _ rfl)))
 go_wp2_with fail;refine V.1.mono ?_;rintro ev w5 ⟨o,rfl,ho,b3⟩;have G:=Hd (A.1.below b3);obtain ⟨va,vc,rfl,_⟩:=ho.slice;have L:=Hd ho;have X:=Hd (show p+1+1<(w2.setCell ⟨p,0,none⟩ C).heap.size from A.1.bz.lt)
 clear ho b3 V A c0 c1 c2;obtain ⟨z0,y0,z1,y1,z2,y2⟩:=B3 G.1.bz;have b1:=G.1.fill C b (.slice va (jB (fun s=>decide (s.deadline<=C)) l).length vc)
 have a8:=(L.1.mod b1.2.2 (fun k hk e=>by have:=(L.1.lt k hk).1;have:=X.1;omega)).base (base':=w.heap.size) (by have:=G.1.e0;have:=X.1;omega)
 have N:=Hd (And.intro b1.1 (And.intro a8 b1.2.1));clear b1 a8 L G;go_wp2;exact Jt (jj N.1.1) underlying30 ⟨_,by rw [B.1] <;> rfl,by rw [B.1];exact N.1.2.1,N.1.2.2⟩
def zK (l:List EvtM):List Value:=l.flatMap (fun s=>s.cells.toList)
theorem jgp (l:List EvtM):(zK l).length=l.length*15:=by
 induction l with
 | nil=>rfl
 | cons s l ih =>
  have:(zK (s::l)).length=15+(zK l).length:=by unfold zK;rw [qV,qd];rfl
  rw [this,ih,qp];omega
theorem jgg (a b:List EvtM):zK (a++b)=zK a++zK b:=by unfold zK;rw [pg]
theorem jjN (s:EvtM):zK [s]=s.cells.toList:=by unfold zK;simp
theorem jgQ:∀ (l:List EvtM) (k j:Nat),j<15->(zK l)[k*15+j]?=l[k]?.bind (fun s=>s.cells.toList[j]?)
 | [],_,_,_=>by simp [zK]
 | e::l,k,j,hj=>by
  have a0:e.cells.toList.length=15:=rfl;unfold zK;rw [qV]
  cases k with
  | zero =>
   rw [List.getElem?_append_left (by omega)]
   simp
  | succ k =>
   rw [List.getElem?_append_right (by omega),a0,show (k+1)*15+j-15=k*15+j by omega]
   have:=jgQ l k j hj;unfold zK at this;rw [this]
   simp
def RdE (w:World)(v:Value)(l:List EvtM):Prop:=Rd w v l.length (zK l)
theorem RdE.below (h:RdE w v l)(hb:Below w.heap.size w w'):RdE w' v l:=Rd.below h hb
theorem RdE.slice (h:RdE w v l):∃ a cap,v=.slice a l.length cap/\l.length<=cap/\cap<=9223372036854775807:=by
 obtain ⟨a,cap,h1,h2,h3,_⟩:=h;exact ⟨a,cap,h1,h2,h3⟩
theorem RdE.row {a:Option Addr}{n cap:Nat}(h:RdE w (.slice a n cap) l)(k:Nat)(hk:k<l.length):∃ b off,a=some ⟨b,off,none⟩/\w.rangeAt b (off+k*15) (l[k]).cells.toList:=by
 obtain ⟨a',cap',e,h1,h2,_,h3⟩:=h;injection e with e1 e2 e3
 subst e1;have hl:=jgp l;obtain ⟨b,off,rfl,_⟩:=h3 (k*15) (by omega)
 refine ⟨b,off,rfl,fun j v hv=>?_⟩
 have hj:j<15:=(List.getElem?_eq_some_iff.1 hv).1;obtain ⟨b',off',e',h4⟩:=h3 (k*15+j) (by omega)
 injection e' with e';injection e' with e5 e6
 subst e5;subst e6;rw [wC,h4];have h5:=jgQ l k j hj;rw [List.getElem?_eq_getElem hk] at h5;rw [List.getD,h5];show some ((l[k].cells.toList[j]?).getD undef)=some v;rw [hv];rfl
theorem EvtM.oneE (e0:EvtM):∀ v∈e0.cells.toList,v.oneCell'=true:=by
 intro v hv;rw [e0.cellsE] at hv;simp only [qH,qO,wM] at hv
 rcases hv with rfl | rfl | rfl | rfl | rfl | rfl | rfl | rfl | rfl | rfl | rfl | rfl | rfl | rfl | rfl <;> rfl
def OwnE (w:World)(base:Nat)(v:Value)(l:List EvtM):Prop:=w.ownsRow base 47 15 v l.length (zK l)
theorem OwnE.nil (w:World)(base:Nat):OwnE w base (.slice none 0 0) []:=⟨rfl,.inl ⟨rfl,rfl⟩⟩
theorem OwnE.rd (h:OwnE w base v l):RdE w v l:=js h
theorem OwnE.below (h:OwnE w base v l)(hb:Below w.heap.size w w'):OwnE w' base v l:=jq h hb
theorem Turn1S.below (h:Turn1S R lsv w0 k i w)(hb:Below w.heap.size w w'):Turn1S R lsv w0 k i w':=by
 obtain ⟨⟨xs,h1,h2,h3⟩,h4,h5,h6,h7⟩:=h;exact ⟨⟨xs,fun j hj=>jq (h1 j hj) hb,h2,h3⟩,h4,h5.below hb,h6,h7.then (Mod.of_below (F:=fun _=>False) hb) (fun _ h=>h.elim)⟩
theorem Turn1S.lsAt (h:Turn1S R lsv w0 k i w)(hk:k<R.N) :
  ∃ b off cap,lsv=.slice (some ⟨b,off,none⟩) R.N cap/\w.cell? ⟨b,off+k,none⟩=some (R.vs k):=by
 obtain ⟨b,off,cap,h1,h2⟩:=h.ls.at k (by simpa using hk)
 exact ⟨b,off,cap,h1,by rw [h2];simp [List.getD,hk]⟩
theorem Turn1S.slice (h:Turn1S R lsv w0 k i w)(hk:k<R.N):∃ a c,R.vs k=.slice a (R.ns k) c:=by
 obtain ⟨⟨xs,h1,_⟩,_⟩:=h;obtain ⟨a,c,e,_⟩:=jP (h1 k hk);exact ⟨a,c,e⟩
theorem Turn2S.at {E:TypeId}{gsv g:Value}{gl:List Value}(h:Turn2S R lsv w0 E k gsv gl g i w)(hk:k<R.N) :
  (∃ b off cap,lsv=.slice (some ⟨b,off,none⟩) R.N cap/\w.cell? ⟨b,off+k,none⟩=some (R.vs k))/\w.ownsRow R.B R.e R.sz g (R.ns k+i) (xr R.mark k (R.ns k+i))/\∃ a c,R.vs k=.slice a (R.ns k) c:=by
 obtain ⟨b,off,cap,h1,h2⟩:=h.ls.at k (by simpa using hk)
 obtain ⟨a,c,h3,_⟩:=h.rd k hk;obtain ⟨gv,_,_,h4,_⟩:=h.own;exact ⟨⟨b,off,cap,h1,by rw [h2];simp [List.getD,hk]⟩,(h4 hk).2.1,a,c,h3⟩
theorem ji8 {n sz j:Nat}(hi:i<n)(hj:j<sz):i*sz+j<n*sz:=by
 have:=qQ sz (show i+1<=n by omega)
 rw [Nat.succ_mul] at this;omega
theorem Turn3S.at {gsv:Value}{gl:List Value}(h:Turn3S R lsv gsv gl w)(k:Nat)(hk:k<R.N) :
  (∃ b off cap,lsv=.slice (some ⟨b,off,none⟩) R.N cap/\w.cell? ⟨b,off+k,none⟩=some (R.vs k))/\(∃ a c,R.vs k=.slice a (R.ns k) c/\∀ i,i<R.ns k->∃ b off,a=some ⟨b,off,none⟩/\∀ j,j<R.sz->w.cell? ⟨b,off+i*R.sz+j,none⟩=some ((R.mark k i).getD j undef)) /\
  ∃ g,(∃ b off cap,gsv=.slice (some ⟨b,off,none⟩) R.N cap/\w.cell? ⟨b,off+k,none⟩=some g)/\(∃ b off c,g=.slice (some ⟨b,off,none⟩) (R.ns k+64) c/\∀ i,i<R.ns k+64->∀ j,j<R.sz->w.cell? ⟨b,off+i*R.sz+j,none⟩=some ((R.mark k i).getD j undef)):=by
 obtain ⟨b,off,cap,h1,h2⟩:=h.ls.at k (by simpa using hk)
 obtain ⟨b',off',cap',h3,h4⟩:=h.gs.at k (by rw [h.len];exact hk)
 obtain ⟨a,c,h5,_,_,_,h6⟩:=h.rd k hk;have hz:=R.hsz;obtain ⟨b2,off2,c2,h7,_⟩:=(h.gd k hk).at 0 (by rw [xz _ _ R.hmk];have:=ji8 (i:=0) (n:=R.ns k+64) (sz:=R.sz) (j:=0) (by omega) hz;omega)
 refine ⟨⟨b,off,cap,h1,by rw [h2];simp [List.getD,hk]⟩,⟨a,c,h5,fun i hi=>?_⟩,_,⟨b',off',cap',h3,h4⟩,b2,off2,c2,h7,fun i hi j hj=>?_⟩
 .
  obtain ⟨b,off,e1,_⟩:=h6 (i*R.sz+0) (by rw [xz _ _ R.hmk];exact ji8 hi hz)
  refine ⟨b,off,e1,fun j hj=>?_⟩
  obtain ⟨b3,off3,e3,e2⟩:=h6 (i*R.sz+j) (by rw [xz _ _ R.hmk];exact ji8 hi hj)
  rw [e1] at e3;injection e3 with e3;injection e3 with e3 e4
  subst e3;subst e4;rw [wC,e2,ja7 _ _ R.hmk _ _ _ _ hi hj]
 .
  obtain ⟨b3,off3,c3,h8,h9⟩:=(h.gd k hk).at (i*R.sz+j) (by rw [xz _ _ R.hmk];exact ji8 hi hj)
  rw [h7] at h8;injection h8 with h8;injection h8 with h8;injection h8 with e1 e2
  subst e1;subst e2;rw [wC,h9,ja7 _ _ R.hmk _ _ _ _ hi hj]
end Go.Proofs.YtgcnolapjppbpaaGreatDoor
