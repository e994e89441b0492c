/- Texts of one proof. -/
import Derived.Test.YtgcnolapjppbpaaGreatDoorK03
import Derived.Test.YtgcnolapjppbpaaGreatDoorK02
namespace Go.Proofs.YtgcnolapjppbpaaGreatDoor
open Go.RowKit _root_.Go.Proofs.Tryz
set_option maxRecDepth 100000
set_option maxHeartbeats 25600000
variable {n:Int}{l A:List UInt8}{e:EvtM}{w0 w w':World}{b p q:Nat}{cs:Array Value}{t:TypeId}{v:Value}
def N63 (n:Int):Prop:=0<=n/\n<=9223372036854775807
theorem N63.of {lo hi:Int}(h:jT n lo hi=true)(h0:0<=lo)(h1:hi<=9223372036854775807):N63 n:=by
 have:=jV h;exact ⟨by omega,by omega⟩
theorem N63.zero (h:(n==0)=true):N63 n:=by simp at h;subst h;exact ⟨by omega,by omega⟩
structure SesN (s:SesM):Prop where
 slot:N63 s.slot
 birth:N63 s.birth
 upS:N63 s.upS
 upB:N63 s.upB
 kind:N63 s.kind
 user:s.user.length<=32
 label:s.label.length<=32
 level:N63 s.level
 born:N63 s.born
 deadline:N63 s.deadline
 depth:N63 s.depth
theorem jdD (h:zi l=true):l.length<=32:=by
 unfold zi at h;rw [qY] at h;exact h.2.1
theorem SesN.of {s:SesM}(h:jG s=true):SesN s:=by
 unfold jG at h;simp only [qq] at h;obtain ⟨h1,h2,h3,h4,h5,h6,h7⟩:=h;have hd:N63 s.deadline:=by
  have:=jV h5;have:=jV h6;exact ⟨by omega,by omega⟩
 have a0:jx s=true->N63 s.kind->SesN s:=fun hc hk=>by
  unfold jx at hc;simp only [qq] at hc;obtain ⟨c1,c2,c3,c4⟩:=hc;have a1:N63 s.upB:=by
   have:=jV h2;have:=jV c2;exact ⟨by omega,by omega⟩
  exact ⟨.of h1 (by omega) (by omega),.of h2 (by omega) (by omega),.of c1 (by omega) (by omega),a1,hk,jdD h3,jdD c3,.of h4 (by omega) (by omega),.of h5 (by omega) (by omega),hd,.of c4 (by omega) (by omega)⟩
 cases k0:(s.kind==0)
 .
  rw [k0] at h7
  cases k1:(s.kind==1)
  .
   rw [k1] at h7
   cases k2:(s.kind==2)
   . rw [k2] at h7;simp at h7
   .
    rw [k2] at h7;simp only [wH,ks,pB,qq] at h7;have:s.kind=2:=by simpa using k2
    exact a0 h7.1 ⟨by omega,by omega⟩
  .
   rw [k1] at h7;simp only [wH,ks,pB] at h7;have:s.kind=1:=by simpa using k1
   exact a0 h7 ⟨by omega,by omega⟩
 .
  rw [k0] at h7;simp only [pB] at h7;unfold jE at h7;simp only [qq] at h7;obtain ⟨c1,c2,c3,c4⟩:=h7;exact ⟨.of h1 (by omega) (by omega),.of h2 (by omega) (by omega),.zero c1,.zero c2,.zero k0,jdD h3,by rw [pU.1 c3];simp,.of h4 (by omega) (by omega),.of h5 (by omega) (by omega),hd,.zero c4⟩
def yf (b:List UInt8)(s:SesM):List UInt8:=b++ji s.slot++ji s.birth++ji s.upS++ji s.upB++ji s.kind++yj s.user++yj s.label++yo s.scopes++ji s.level++ji s.born++ji s.deadline++ji s.depth
def evB (e:EvtM):List UInt8:=if (e.kind==1)=true then ji e.kind++ji e.birth else if (e.kind==2)=true then ji e.kind++ji e.ticks else yf (ji e.kind) e.s
theorem jy (n:Int):(ji n).length<=10:=xy _
theorem yU (h:l.length<=32):(yj l).length<=42:=by
 unfold yj;rw [qd];have:=xy l.length;omega
theorem jlV (h:SesN e.s):(evB e).length<=1000:=by
 unfold evB;have h1:=fun n=>jy n
 split
 . rw [qd];have:=h1 e.kind;have:=h1 e.birth;omega
 split
 . rw [qd];have:=h1 e.kind;have:=h1 e.ticks;omega
 .
  unfold yf;simp only [qd];have:=h1 e.kind;have:=h1 e.s.slot;have:=h1 e.s.birth;have:=h1 e.s.upS;have:=h1 e.s.upB;have:=h1 e.s.kind;have:=h1 e.s.level;have:=h1 e.s.born;have:=h1 e.s.deadline;have:=h1 e.s.depth;have:=yU h.user;have:=yU h.label;have:=xy e.s.scopes;omega
theorem jS (h:N63 n)(w:World) :
  Calls prog 156 #[n] w fun e w'=>∃ o,e=.returned o/\OwnM w' w.heap.size 5 o (ji n).length ((ji n).map V8)/\Below w.heap.size w w':=by
 obtain ⟨h1,h2⟩:=h;obtain ⟨k,rfl⟩:∃ k:Nat,n=(k:Int):=⟨n.toNat,by omega⟩
 exact jdC k w (by omega)
structure PutSt (w0 w:World)(b:Nat)(cs:Array Value)(t:TypeId)(v:Value)(A:List UInt8):Prop where
 bx:Box w b cs t
 own:OwnM w w0.heap.size 5 v A.length (A.map V8)
 ne:v.ownBlock≠some b
 bel:Below w0.heap.size w0 w
theorem PutSt.call (h:PutSt w0 w b cs t v A)(hb:Below w.heap.size w w'):PutSt w0 w' b cs t v A :=
 ⟨h.bx.below hb,h.own.below hb,h.ne,h.bel.trans (hb.mono h.bel.size)⟩
theorem PutSt.app {v':Value}(h:PutSt w0 w b cs t v A)(ho:OwnM w' w0.heap.size 5 v' (A.length+l.length) (A.map V8++l.map V8))(hg:w.grownBy w' v.ownBlock)(hm:xj w v v'):PutSt w0 w' b cs t v' (A++l):=by
 have a0:=h.bx.lt;refine ⟨h.bx.grown hg h.ne,by rw [qd,qM];exact ho,?_,h.bel.trans (je hg h.bel.size (fun q hq=>(h.own.lt q hq).1))⟩
 rcases hm with e | e
 . rw [e];exact h.ne
 . rw [e];intro e2;injection e2 with e2;omega
theorem jb0 (e:EvtM)(w:World)(hk:N63 e.kind)(hs:(e.kind==1)=false->(e.kind==2)=false->SesN e.s)(a1:(e.kind==1)=true->N63 e.birth)(a7:(e.kind==2)=true->N63 e.ticks)(a8:e.s.scopes<2 ^ 64) :
  Calls prog 116 #[.agg e.cells] w fun ev w'=>∃ o,ev=.returned o/\OwnM w' w.heap.size 5 o (evB e).length ((evB e).map V8)/\Below w.heap.size w w':=by
 have HE:=Hd (show e.cells=#[.int .i64 e.kind,.int .i64 e.s.slot,.int .i64 e.s.birth,.int .i64 e.s.upS,.int .i64 e.s.upB,.int .i64 e.s.kind,.string (SB e.s.user),.string (SB e.s.label),.int .u64 (e.s.scopes:Int),.int .i64 e.s.level,.int .i64 e.s.born,.int .i64 e.s.deadline,.int .i64 e.s.depth,.int .i64 e.birth,.int .i64 e.ticks] from rfl)
 have J:=Hd (Box.new w e.cells 47);have W:=Hd (ja w (.cells e.cells 47));have Hk:=Hd (jS hk);rw [HE.1] at J W |-;have M:=Hd (show ∀ l,evB e=l->l=evB e from fun _ h=>h.symm)
 clear hk;go_enter func116,ntmps116;go_wp2_with fail;refine (Hk.1 _).mono ?_;rintro ev w1 ⟨v0,rfl,ho,hb⟩;have hp:PutSt w w1 w.heap.size _ 47 v0 (ji e.kind):=⟨J.1.below hb,ho.lower (by simp),fun e2=>by have:=(ho.lt _ e2).1;simp at this;omega,W.1.trans (hb.mono (by simp))⟩
 have c0:=hp.bx.cell 0 _ rfl;have E:=Hd hp;have X:=Hd (jy e.kind);clear hp ho hb J W
 cases k1:(e.kind==1)
 rotate_left
 .
  skip
  have B:=Hd (jS (a1 k1));have c1:=E.1.bx.cell 13 _ rfl;go_wp2_with fail;refine (B.1 _).mono ?_;rintro ev w2 ⟨v1,rfl,a2,a1⟩;have H:=Hd (E.1.call a1);have A:=Hd a2;have C:=Hd (show (ji e.kind).length+(ji e.birth).length<=140737488355328 by have:=X.1;have:=jy e.birth;omega)
  clear a2 a1 c0 c1
  go_wp2_with (at_builtin;refine yX rfl _ _ rfl w.heap.size _ _ _ rfl H.1.own _ (ji e.birth) rfl A.1.rd C.1 H.1.bel.size ?_)
  intro v' w3 a0 a3 a4;have I:=Hd (H.1.app a0 a3 a4);clear a0 a3 a4;go_wp2;go_ret;rw [<- M.1 _ (by unfold evB;rw [k1];first | done | rfl)];exact ⟨_,rfl,I.1.own,I.1.bel⟩
 cases k2:(e.kind==2)
 rotate_left
 .
  skip
  have B:=Hd (jS (a7 k2));have c1:=E.1.bx.cell 14 _ rfl;go_wp2_with fail;refine (B.1 _).mono ?_;rintro ev w2 ⟨v1,rfl,a2,a1⟩;have H:=Hd (E.1.call a1);have A:=Hd a2;have C:=Hd (show (ji e.kind).length+(ji e.ticks).length<=140737488355328 by have:=X.1;have:=jy e.ticks;omega)
  clear a2 a1 c0 c1
  go_wp2_with (at_builtin;refine yX rfl _ _ rfl w.heap.size _ _ _ rfl H.1.own _ (ji e.ticks) rfl A.1.rd C.1 H.1.bel.size ?_)
  intro v' w3 a0 a3 a4;have I:=Hd (H.1.app a0 a3 a4);clear a0 a3 a4;go_wp2;go_ret;rw [<- M.1 _ (by unfold evB;rw [k1,k2];first | done | rfl)];exact ⟨_,rfl,I.1.own,I.1.bel⟩
 have D:=Hd (hs k1 k2);have Hf:=Hd a8;have HQ:=Hd (M.1 _ (by unfold evB yf;rw [k1,k2];first | done | rfl))
 clear hs a1 a7 a8 M;have H9:=Hd (E.1.bx.range 1 [e.s.slot,e.s.birth,e.s.upS,e.s.upB,e.s.kind,.string (SB e.s.user),.string (SB e.s.label),.int .u64 (e.s.scopes:Int),e.s.level,e.s.born,e.s.deadline,e.s.depth] (EvtM.sub e))
 go_wp2_with (refine vJ (op:=⟨some 25,.load _ _,_,_,_,_⟩) rfl 45 (.tmp 24) rfl w.heap.size 1 rfl [e.s.slot,e.s.birth,e.s.upS,e.s.upB,e.s.kind,.string (SB e.s.user),.string (SB e.s.label),.int .u64 (e.s.scopes:Int),e.s.level,e.s.born,e.s.deadline,e.s.depth] _ H9.1 underlying45 rfl (by kernel_rfl) ?_)
 intro cv a9;rw [a9.out];clear a9 cv c0 H9 k1 k2;have a5:PutSt w (w1.alloc (.cells #[e.s.slot,e.s.birth,e.s.upS,e.s.upB,e.s.kind,.string (SB e.s.user),.string (SB e.s.label),.int .u64 (e.s.scopes:Int),e.s.level,e.s.born,e.s.deadline,e.s.depth] 45)) w1.heap.size #[e.s.slot,e.s.birth,e.s.upS,e.s.upB,e.s.kind,.string (SB e.s.user),.string (SB e.s.label),.int .u64 (e.s.scopes:Int),e.s.level,e.s.born,e.s.deadline,e.s.depth] 45 v0 (ji e.kind):=⟨Box.new _ _ _,E.1.own.below (ja _ _),fun e2=>by have:=(E.1.own.lt _ e2).2;omega,E.1.bel.trans ((ja _ _).mono E.1.bel.size)⟩
 obtain ⟨A0,a6⟩:=Nm (ji e.kind);rw [<- a6] at a5 X;have Hg:=Hd a6;have Y:=Hd a5;have HL0:=X;clear a5 a6 E X;have B:=Hd (jS D.1.slot);have hd:(ji e.s.slot).length<=10:=jy _;have c1:=Y.1.bx.cell 0 _ rfl;have C:=Hd (show A0.length+(ji e.s.slot).length<=140737488355328 by have:=HL0.1;omega)
 have N:=Hd (show (A0++ji e.s.slot).length<=20 by have:=HL0.1;rw [qd];omega)
 clear hd;go_wp2_with fail;refine (B.1 _).mono ?_;rintro ev x0 ⟨o0,rfl,a2,a1⟩;have H:=Hd (Y.1.call a1);have A:=Hd a2;clear a2 a1 c1 B Y HL0
 go_wp2_with (at_builtin;refine yX rfl _ _ rfl w.heap.size _ _ _ rfl H.1.own _ (ji e.s.slot) rfl A.1.rd C.1 H.1.bel.size ?_)
 intro v1 y1 a0 a3 a4;have hP:=H.1.app a0 a3 a4;obtain ⟨A1,hA⟩:=Nm (A0++ji e.s.slot);rw [<- hA] at hP N;have Z:=Hd hP;have Hh:=Hd hA;clear hP hA a0 a3 a4 H A C;have B:=Hd (jS D.1.birth);have hd:(ji e.s.birth).length<=10:=jy _;have c1:=Z.1.bx.cell 1 _ rfl;have C:=Hd (show A1.length+(ji e.s.birth).length<=140737488355328 by have:=N.1;omega)
 have O:=Hd (show (A1++ji e.s.birth).length<=30 by have:=N.1;rw [qd];omega)
 clear hd;go_wp2_with fail;refine (B.1 _).mono ?_;rintro ev x1 ⟨o1,rfl,a2,a1⟩;have H:=Hd (Z.1.call a1);have A:=Hd a2;clear a2 a1 c1 B Z N
 go_wp2_with (at_builtin;refine yX rfl _ _ rfl w.heap.size _ _ _ rfl H.1.own _ (ji e.s.birth) rfl A.1.rd C.1 H.1.bel.size ?_)
 intro v2 y2 a0 a3 a4;have hP:=H.1.app a0 a3 a4;obtain ⟨A2,hA⟩:=Nm (A1++ji e.s.birth);rw [<- hA] at hP O;have H0:=Hd hP;have Hi:=Hd hA;clear hP hA a0 a3 a4 H A C;have B:=Hd (jS D.1.upS);have hd:(ji e.s.upS).length<=10:=jy _;have c1:=H0.1.bx.cell 2 _ rfl;have C:=Hd (show A2.length+(ji e.s.upS).length<=140737488355328 by have:=O.1;omega)
 have P:=Hd (show (A2++ji e.s.upS).length<=40 by have:=O.1;rw [qd];omega)
 clear hd;go_wp2_with fail;refine (B.1 _).mono ?_;rintro ev x2 ⟨o2,rfl,a2,a1⟩;have H:=Hd (H0.1.call a1);have A:=Hd a2;clear a2 a1 c1 B H0 O
 go_wp2_with (at_builtin;refine yX rfl _ _ rfl w.heap.size _ _ _ rfl H.1.own _ (ji e.s.upS) rfl A.1.rd C.1 H.1.bel.size ?_)
 intro v3 y3 a0 a3 a4;have hP:=H.1.app a0 a3 a4;obtain ⟨A3,hA⟩:=Nm (A2++ji e.s.upS);rw [<- hA] at hP P;have H1:=Hd hP;have Hj:=Hd hA;clear hP hA a0 a3 a4 H A C;have B:=Hd (jS D.1.upB);have hd:(ji e.s.upB).length<=10:=jy _;have c1:=H1.1.bx.cell 3 _ rfl;have C:=Hd (show A3.length+(ji e.s.upB).length<=140737488355328 by have:=P.1;omega)
 have Q:=Hd (show (A3++ji e.s.upB).length<=50 by have:=P.1;rw [qd];omega)
 clear hd;go_wp2_with fail;refine (B.1 _).mono ?_;rintro ev x3 ⟨o3,rfl,a2,a1⟩;have H:=Hd (H1.1.call a1);have A:=Hd a2;clear a2 a1 c1 B H1 P
 go_wp2_with (at_builtin;refine yX rfl _ _ rfl w.heap.size _ _ _ rfl H.1.own _ (ji e.s.upB) rfl A.1.rd C.1 H.1.bel.size ?_)
 intro v4 y4 a0 a3 a4;have hP:=H.1.app a0 a3 a4;obtain ⟨A4,hA⟩:=Nm (A3++ji e.s.upB);rw [<- hA] at hP Q;have H2:=Hd hP;have Hl:=Hd hA;clear hP hA a0 a3 a4 H A C;have B:=Hd (jS D.1.kind);have hd:(ji e.s.kind).length<=10:=jy _;have c1:=H2.1.bx.cell 4 _ rfl;have C:=Hd (show A4.length+(ji e.s.kind).length<=140737488355328 by have:=Q.1;omega)
 have R:=Hd (show (A4++ji e.s.kind).length<=60 by have:=Q.1;rw [qd];omega)
 clear hd;go_wp2_with fail;refine (B.1 _).mono ?_;rintro ev x4 ⟨o4,rfl,a2,a1⟩;have H:=Hd (H2.1.call a1);have A:=Hd a2;clear a2 a1 c1 B H2 Q
 go_wp2_with (at_builtin;refine yX rfl _ _ rfl w.heap.size _ _ _ rfl H.1.own _ (ji e.s.kind) rfl A.1.rd C.1 H.1.bel.size ?_)
 intro v5 y5 a0 a3 a4;have hP:=H.1.app a0 a3 a4;obtain ⟨A5,hA⟩:=Nm (A4++ji e.s.kind);rw [<- hA] at hP R;have H3:=Hd hP;have Hm:=Hd hA;clear hP hA a0 a3 a4 H A C;have B:=Hd (fun w=>zC e.s.user w (by have:=D.1.user;omega))
 have hd:(yj e.s.user).length<=42:=yU D.1.user;have c1:=H3.1.bx.cell 5 _ rfl;have C:=Hd (show A5.length+(yj e.s.user).length<=140737488355328 by have:=R.1;omega)
 have S:=Hd (show (A5++yj e.s.user).length<=102 by have:=R.1;rw [qd];omega)
 clear hd;go_wp2_with fail;refine (B.1 _).mono ?_;rintro ev x5 ⟨o5,rfl,a2,a1⟩;have H:=Hd (H3.1.call a1);have A:=Hd a2;clear a2 a1 c1 B H3 R
 go_wp2_with (at_builtin;refine yX rfl _ _ rfl w.heap.size _ _ _ rfl H.1.own _ (yj e.s.user) rfl A.1.rd C.1 H.1.bel.size ?_)
 intro v6 y6 a0 a3 a4;have hP:=H.1.app a0 a3 a4;obtain ⟨A6,hA⟩:=Nm (A5++yj e.s.user);rw [<- hA] at hP S;have H4:=Hd hP;have Ho:=Hd hA;clear hP hA a0 a3 a4 H A C;have B:=Hd (fun w=>zC e.s.label w (by have:=D.1.label;omega))
 have hd:(yj e.s.label).length<=42:=yU D.1.label;have c1:=H4.1.bx.cell 6 _ rfl;have C:=Hd (show A6.length+(yj e.s.label).length<=140737488355328 by have:=S.1;omega)
 have T:=Hd (show (A6++yj e.s.label).length<=144 by have:=S.1;rw [qd];omega)
 clear hd;go_wp2_with fail;refine (B.1 _).mono ?_;rintro ev x6 ⟨o6,rfl,a2,a1⟩;have H:=Hd (H4.1.call a1);have A:=Hd a2;clear a2 a1 c1 B H4 S
 go_wp2_with (at_builtin;refine yX rfl _ _ rfl w.heap.size _ _ _ rfl H.1.own _ (yj e.s.label) rfl A.1.rd C.1 H.1.bel.size ?_)
 intro v7 y7 a0 a3 a4;have hP:=H.1.app a0 a3 a4;obtain ⟨A7,hA⟩:=Nm (A6++yj e.s.label);rw [<- hA] at hP T;have H5:=Hd hP;have Hp:=Hd hA;clear hP hA a0 a3 a4 H A C;have B:=Hd (fun w=>xw e.s.scopes w Hf.1)
 have hd:(yo e.s.scopes).length<=10:=xy _;have c1:=H5.1.bx.cell 7 _ rfl;have C:=Hd (show A7.length+(yo e.s.scopes).length<=140737488355328 by have:=T.1;omega)
 have U:=Hd (show (A7++yo e.s.scopes).length<=154 by have:=T.1;rw [qd];omega)
 clear hd;go_wp2_with fail;refine (B.1 _).mono ?_;rintro ev x7 ⟨o7,rfl,a2,a1⟩;have H:=Hd (H5.1.call a1);have A:=Hd a2;clear a2 a1 c1 B H5 T
 go_wp2_with (at_builtin;refine yX rfl _ _ rfl w.heap.size _ _ _ rfl H.1.own _ (yo e.s.scopes) rfl A.1.rd C.1 H.1.bel.size ?_)
 intro v8 y8 a0 a3 a4;have hP:=H.1.app a0 a3 a4;obtain ⟨A8,hA⟩:=Nm (A7++yo e.s.scopes);rw [<- hA] at hP U;have H6:=Hd hP;have Hq:=Hd hA;clear hP hA a0 a3 a4 H A C;have B:=Hd (jS D.1.level);have hd:(ji e.s.level).length<=10:=jy _;have c1:=H6.1.bx.cell 8 _ rfl;have C:=Hd (show A8.length+(ji e.s.level).length<=140737488355328 by have:=U.1;omega)
 have V:=Hd (show (A8++ji e.s.level).length<=164 by have:=U.1;rw [qd];omega)
 clear hd;go_wp2_with fail;refine (B.1 _).mono ?_;rintro ev x8 ⟨o8,rfl,a2,a1⟩;have H:=Hd (H6.1.call a1);have A:=Hd a2;clear a2 a1 c1 B H6 U
 go_wp2_with (at_builtin;refine yX rfl _ _ rfl w.heap.size _ _ _ rfl H.1.own _ (ji e.s.level) rfl A.1.rd C.1 H.1.bel.size ?_)
 intro v9 y9 a0 a3 a4;have hP:=H.1.app a0 a3 a4;obtain ⟨A9,hA⟩:=Nm (A8++ji e.s.level);rw [<- hA] at hP V;have H7:=Hd hP;have Hr:=Hd hA;clear hP hA a0 a3 a4 H A C;have B:=Hd (jS D.1.born);have hd:(ji e.s.born).length<=10:=jy _;have c1:=H7.1.bx.cell 9 _ rfl;have C:=Hd (show A9.length+(ji e.s.born).length<=140737488355328 by have:=V.1;omega)
 have F:=Hd (show (A9++ji e.s.born).length<=174 by have:=V.1;rw [qd];omega)
 clear hd;go_wp2_with fail;refine (B.1 _).mono ?_;rintro ev x9 ⟨o9,rfl,a2,a1⟩;have H:=Hd (H7.1.call a1);have A:=Hd a2;clear a2 a1 c1 B H7 V
 go_wp2_with (at_builtin;refine yX rfl _ _ rfl w.heap.size _ _ _ rfl H.1.own _ (ji e.s.born) rfl A.1.rd C.1 H.1.bel.size ?_)
 intro v10 y10 a0 a3 a4;have hP:=H.1.app a0 a3 a4;obtain ⟨A10,hA⟩:=Nm (A9++ji e.s.born);rw [<- hA] at hP F;have K:=Hd hP;have Ha:=Hd hA;clear hP hA a0 a3 a4 H A C;have B:=Hd (jS D.1.deadline);have hd:(ji e.s.deadline).length<=10:=jy _;have c1:=K.1.bx.cell 10 _ rfl;have C:=Hd (show A10.length+(ji e.s.deadline).length<=140737488355328 by have:=F.1;omega)
 have G:=Hd (show (A10++ji e.s.deadline).length<=184 by have:=F.1;rw [qd];omega)
 clear hd;go_wp2_with fail;refine (B.1 _).mono ?_;rintro ev x10 ⟨o10,rfl,a2,a1⟩;have H:=Hd (K.1.call a1);have A:=Hd a2;clear a2 a1 c1 B K F
 go_wp2_with (at_builtin;refine yX rfl _ _ rfl w.heap.size _ _ _ rfl H.1.own _ (ji e.s.deadline) rfl A.1.rd C.1 H.1.bel.size ?_)
 intro v11 y11 a0 a3 a4;have hP:=H.1.app a0 a3 a4;obtain ⟨A11,hA⟩:=Nm (A10++ji e.s.deadline);rw [<- hA] at hP G;have L:=Hd hP;have Hb:=Hd hA;clear hP hA a0 a3 a4 H A C;have B:=Hd (jS D.1.depth);have hd:(ji e.s.depth).length<=10:=jy _;have c1:=L.1.bx.cell 11 _ rfl;have C:=Hd (show A11.length+(ji e.s.depth).length<=140737488355328 by have:=G.1;omega)
 have Hc:=Hd (show (A11++ji e.s.depth).length<=194 by have:=G.1;rw [qd];omega)
 clear hd;go_wp2_with fail;refine (B.1 _).mono ?_;rintro ev x11 ⟨o11,rfl,a2,a1⟩;have H:=Hd (L.1.call a1);have A:=Hd a2;clear a2 a1 c1 B L G
 go_wp2_with (at_builtin;refine yX rfl _ _ rfl w.heap.size _ _ _ rfl H.1.own _ (ji e.s.depth) rfl A.1.rd C.1 H.1.bel.size ?_)
 intro v12 y12 a0 a3 a4;have hP:=H.1.app a0 a3 a4;obtain ⟨A12,hA⟩:=Nm (A11++ji e.s.depth);rw [<- hA] at hP Hc;have H8:=Hd hP;have He:=Hd hA;clear hP hA a0 a3 a4 H A C;go_wp2;go_ret;rw [<- HQ.1,<- Hg.1,<- Hh.1,<- Hi.1,<- Hj.1,<- Hl.1,<- Hm.1,<- Ho.1,<- Hp.1,<- Hq.1,<- Hr.1,<- Ha.1,<- Hb.1,<- He.1];exact ⟨_,rfl,H8.1.own,H8.1.bel⟩
def yg (ns:List Int):List UInt8:=ns.flatMap ji
theorem jep (ns:List Int)(n:Int):yg (ns ++ [n])=yg ns++ji n:=by simp [yg]
theorem jab (h:N63 n)(B p:Nat)(v0:Value)(l0:List UInt8)(w:World)(hw:IsW w B p v0 l0)(a0:l0.length<=140737488350000)(hB:B<=w.heap.size) :
  Calls prog 68 #[.pointer (some ⟨p,0,none⟩),.int .u64 n] w fun e w'=>e=.returned (.tuple #[])/\∃ v',IsW w' B p v' (l0++ji n)/\Mod (WF p v0) w w'/\Fresh w v0 v':=by
 obtain ⟨h1,h2⟩:=h;obtain ⟨k,rfl⟩:∃ k:Nat,n=(k:Int):=⟨n.toNat,by omega⟩
 exact zB B p v0 l0 k w hw (by omega) a0 hB
theorem jhl (h:N63 n):n % 18446744073709551616=n:=by obtain ⟨h1,h2⟩:=h;omega
theorem jch (B p q r:Nat)(v0:Value)(l0:List UInt8)(ns:List Int)(t:TypeId)(w:World)(hw:IsW w B p v0 l0)(hq:Box w q #[.pointer (some ⟨p,0,none⟩)] t)(hr:Box w r (ns.map (fun n=>Value.int .i64 n)).toArray 3)(a2:∀ n∈ns,N63 n)(a3:¬ WF p v0 q)(a4:¬ WF p v0 r)(a5:l0.length<=100000)(hn:ns.length<=100)(hB:B<=w.heap.size) :
  Calls prog 67 #[.slice (some ⟨r,0,none⟩) ns.length ns.length,.pointer (some ⟨q,0,none⟩)] w fun e w'=>e=.returned (.tuple #[])/\∃ v',IsW w' B p v' (l0++yg ns)/\Mod (WF p v0) w w'/\Fresh w v0 v':=by
 go_enter func67,ntmps67;go_wp2
 go_loopg [7] ns.length (fun gk iv wr=>∃ (k:Nat) (v1:Value),gk+k=ns.length/\iv=.int .i64 (k:Int)/\IsW wr B p v1 (l0++yg (ns.take k))/\Mod (WF p v0) w wr/\Fresh w v0 v1)
 case atStart=>exact ⟨0,v0,rfl,rfl,by simpa [yg] using hw,Mod.refl _ _,Fresh.refl _ _⟩
 case round =>
  obtain ⟨k,v1,a1,rfl,hW,hM,hF⟩:=hrel;have hs:=hM.size;have C:=Hd hW;have D:=Hd hM;have A:=Hd hF;by_cases hk:k<ns.length
  .
   obtain ⟨n,a0⟩:=Nm (ns[k]);have hz:=jhl (n:=n) (a2 n (by rw [a0];exact qy _))
   have K:=Hd (a2 n (by rw [a0];exact qy _))
   have c0:=(hq.mod hM a3).cell 0 _ rfl;have c1:wr.cell? ⟨r,k,none⟩=some (.int .i64 n):=(hr.mod hM a4).cell k _ (by simp [hk,a0])
   have L:=Hd (show yg (ns.take (k+1))=yg (ns.take k)++ji n from by rw [qk hk,jep,a0])
   have M:=Hd (show (l0++yg (ns.take k)).length<=140737488350000 from by
    have:∀ l:List Int,(yg l).length<=10*l.length:=by
     intro l
     induction l with
     | nil=>simp [yg]
     | cons a l ih=>have:=jy a;simp only [yg,qV,qd,qp] at ih |-;omega
    have h1:=this (ns.take k);have h2:(ns.take k).length<=100:=by rw [qr];omega
    rw [qd];omega)
   have k0:(0:Int)<=(k:Int):=by omega
   have k1:(k:Int)<(ns.length:Int):=by omega
   have H:=Hd a1;have E:=Hd hk;clear a1 a0 hW hM hF hk;go_wp2_with fail;refine (jab K.1 B p v1 _ _ C.1 M.1 (by omega)).mono ?_
   rintro e w2 ⟨rfl,v2,s1,s2,s3⟩;have F:=Hd s1;have G:=Hd (WF.then D.1 A.1 s2);have I:=Hd (A.1.trans hs s3);clear s1 s2 s3 c0 c1;go_wp2
   go_roundg (ns.length-(k+1))
   case measure=>have:=H.1;have:=E.1;omega
   case rel=>exact ⟨k+1,v2,by have:=H.1;have:=E.1;omega,by go_num,by rw [L.1,<- qB];exact F.1,G.1,I.1⟩
  .
   have k1:¬ (k:Int)<(ns.length:Int):=by omega
   have ht:ns.take k=ns:=ql (by omega)
   rw [ht] at hW;have J:=Hd hW;clear a1 hW hM hF ht C;go_wp2;refine pE (wZ rfl _ _ _) rfl ?_;exact ⟨rfl,v1,J.1,D.1,A.1⟩
def jbO (e:EvtM):List UInt8:=if jM e=true then evB e else []
def uS (e:EvtM):Int:=if jM e=true then 0 else 1
structure EncSt (w0 w:World)(p q b:Nat)(cs:Array Value)(t:TypeId)(v:Value)(A:List UInt8):Prop where
 iw:IsW w w0.heap.size p v A
 bq:Box w q #[.pointer (some ⟨p,0,none⟩)] 130
 bb:Box w b cs t
 nq:¬ WF p v q
 nb:¬ WF p v b
 le:w0.heap.size<=p
 bel:Below w0.heap.size w0 w
theorem EncSt.call {v':Value}{A':List UInt8}(h:EncSt w0 w p q b cs t v A)(hw:IsW w' w0.heap.size p v' A')(hm:Mod (WF p v) w w')(hf:Fresh w v v'):EncSt w0 w' p q b cs t v' A':=by
 have h1:=h.bq.lt;have h2:=h.bb.lt;refine ⟨hw,h.bq.mod hm h.nq,h.bb.mod hm h.nb,?_,?_,h.le,h.bel.trans (hm.below h.bel.size (fun i hi=>?_))⟩
 .
  rintro (e | e)
  . exact h.nq (.inl e)
  .
   rcases hf _ e with e | e
   . exact h.nq (.inr e)
   . omega
 .
  rintro (e | e)
  . exact h.nb (.inl e)
  .
   rcases hf _ e with e | e
   . exact h.nb (.inr e)
   . omega
 .
  rcases hi with rfl | e
  . exact h.le
  . exact (h.iw.own.lt i e).1
theorem EncSt.below (h:EncSt w0 w p q b cs t v A)(hb:Below w.heap.size w w'):EncSt w0 w' p q b cs t v A :=
 ⟨h.iw.below hb,h.bq.below hb,h.bb.below hb,h.nq,h.nb,h.le,h.bel.trans (hb.mono h.bel.size)⟩
theorem EncSt.row (h:EncSt w0 w p q b cs t v A):¬ WF p v w.heap.size:=by
 have h1:=h.iw.box.lt;rintro (e | e)
 . omega
 . have:=(h.iw.own.lt _ e).2;omega
theorem EncSt.rebox {b':Nat}{cs':Array Value}{t':TypeId}(h:EncSt w0 w p q b cs t v A)(hb:Box w b' cs' t')(hn:¬ WF p v b'):EncSt w0 w p q b' cs' t' v A:=⟨h.iw,h.bq,hb,h.nq,hn,h.le,h.bel⟩
theorem jap (h:jM e=true)(k0:(e.kind==0)=true):jG e.s=true:=by
 unfold jM at h;rw [k0] at h;simp only [pB,qq] at h;exact h.2.2
theorem jad (h:jM e=true)(k0:(e.kind==0)=false)(k1:(e.kind==1)=true):N63 e.birth:=by
 unfold jM at h;rw [k0,k1] at h;simp only [pB,qq,wH,ks] at h;exact .of h.2.2 (by omega) (by omega)
theorem vV (h:jM e=true)(k0:(e.kind==0)=false)(k1:(e.kind==1)=false):(e.kind==2)=true/\N63 e.ticks:=by
 unfold jM at h;rw [k0,k1] at h
 cases k2:(e.kind==2)
 . rw [k2] at h;simp at h
 .
  rw [k2] at h;simp only [pB,qq,wH,ks] at h;exact ⟨rfl,.of h.2.2 (by omega) (by omega)⟩
theorem N63.lit (k:Nat)(h:(n==(k:Int))=true)(hk:k<10):N63 n:=by
 have:n=(k:Int):=by simpa using h
 exact ⟨by omega,by omega⟩
theorem jbd (h:q≠p):¬ WF p (.slice none 0 0) q:=by
 rintro (e | e)
 . exact h e
 . simp [Value.ownBlock] at e
theorem jni (v:Value)(w:World):(Instr.typeAssert (.iface 135 v) 128 135 true).run prog w=.ok (.tuple #[v,.bool true]) w:=by kernel_rfl
theorem jm3 (v:Value)(w:World):(Instr.typeAssert (.iface 138 v) 128 135 true).run prog w=.ok (.tuple #[.agg #[(0:Int),(0:Int),(0:Int),(0:Int),(0:Int),.string ⟨#[]⟩,.string ⟨#[]⟩,.int .u64 0,(0:Int),(0:Int),(0:Int),(0:Int)],.bool false]) w:=by kernel_rfl
theorem jmV (v:Value)(w:World):(Instr.typeAssert (.iface 138 v) 128 138 true).run prog w=.ok (.tuple #[v,.bool true]) w:=by kernel_rfl
theorem jnq (v:Value)(w:World):(Instr.typeAssert (.iface 140 v) 128 135 true).run prog w=.ok (.tuple #[.agg #[(0:Int),(0:Int),(0:Int),(0:Int),(0:Int),.string ⟨#[]⟩,.string ⟨#[]⟩,.int .u64 0,(0:Int),(0:Int),(0:Int),(0:Int)],.bool false]) w:=by kernel_rfl
theorem jmZ (v:Value)(w:World):(Instr.typeAssert (.iface 140 v) 128 138 true).run prog w=.ok (.tuple #[.agg #[(0:Int)],.bool false]) w:=by kernel_rfl
theorem jnl (v:Value)(w:World):(Instr.typeAssert (.iface 140 v) 128 140 true).run prog w=.ok (.tuple #[v,.bool true]) w:=by kernel_rfl
theorem EncSt.numbers {r:Nat}(h:EncSt w0 w p q b cs t v A)(hr:r=w.heap.size)(ns:List Int)(a0:∀ n∈ns,N63 n)(hA:A.length<=100000)(hn:ns.length<=100) :
  Calls prog 67 #[.slice (some ⟨r,0,none⟩) ns.length ns.length,.pointer (some ⟨q,0,none⟩)] (w.alloc (.cells (ns.map (fun n=>Value.int .i64 n)).toArray 3)) fun ev w'=>ev=.returned (.tuple #[])/\∃ v',EncSt w0 w' p q b cs t v' (A++yg ns):=by
 subst hr;have h':=h.below (ja w (.cells (ns.map (fun n=>Value.int .i64 n)).toArray 3))
 refine (jch w0.heap.size p q w.heap.size v A ns _ _ h'.iw h'.bq (Box.new _ _ _) a0 h'.nq h.row hA hn h'.bel.size).mono ?_;rintro ev w' ⟨rfl,v',s1,s2,s3⟩;exact ⟨rfl,v',h'.call s1 s2 s3⟩
theorem jck (e:EvtM)(w:World)(hu:e.s.user.length<=9223372036854775807)(hl:e.s.label.length<=9223372036854775807)(b5:e.s.scopes<2 ^ 64) :
  Calls prog 38 #[.agg e.cells] w fun ev w'=>∃ o,ev=.returned (.tuple #[o,jm (uS e)])/\OwnM w' w.heap.size 5 o (jbO e).length ((jbO e).map V8)/\Below w.heap.size w w':=by
 have Y:=Hd (show e.cells=#[.int .i64 e.kind,.int .i64 e.s.slot,.int .i64 e.s.birth,.int .i64 e.s.upS,.int .i64 e.s.upB,.int .i64 e.s.kind,.string (SB e.s.user),.string (SB e.s.label),.int .u64 (e.s.scopes:Int),.int .i64 e.s.level,.int .i64 e.s.born,.int .i64 e.s.deadline,.int .i64 e.s.depth,.int .i64 e.birth,.int .i64 e.ticks] from rfl)
 have Q:=Hd (fun w=>jhE e w hu hl)
 have R:=Hd (Box.new w e.cells 47);have V:=Hd (ja w (.cells e.cells 47));have W:=Hd b5;clear hu hl b5;rw [Y.1] at R V Q |-;go_enter func38,ntmps38;go_wp2_with fail;refine (Q.1 _).mono ?_;rintro ev w1 ⟨rfl,b1⟩;have F:=Hd (V.1.trans (b1.mono (by simp)))
 have C:=Hd (R.1.below b1);clear b1 Q
 cases hmay:jM e
 .
  rw [uo hmay];have S:=Hd (show jbO e = [] by unfold jbO;rw [hmay];rfl)
  have T:=Hd (show uS e=1 by unfold uS;rw [hmay];rfl)
  clear hmay;go_wp2;refine qP (wj rfl _ _ _) rfl ?_;rw [S.1,T.1];exact ⟨_,rfl,OwnM.nil _ _ _,F.1⟩
 have T:=Hd (show uS e=0 by unfold uS;rw [hmay];rfl)
 have S:=Hd (show jbO e=evB e by unfold jbO;rw [hmay];rfl)
 have Z:=Hd hmay
 cases k0:(e.kind==0)
 rotate_left
 .
  have B:=Hd (SesN.of (jap hmay k0));have k1:(e.kind==1)=false:=by simp at k0 |-;omega
  have k2:(e.kind==2)=false:=by simp at k0 |-;omega
  have G:=Hd (show evB e=((((([]++yg [e.kind])++yg [e.s.slot,e.s.birth,e.s.upS,e.s.upB,e.s.kind])++yj e.s.user)++yj e.s.label)++yo e.s.scopes)++yg [e.s.level,e.s.born,e.s.deadline,e.s.depth] by unfold evB yf yg;rw [k1,k2];simp)
  have A:=Hd (jlV B.1);rw [G.1] at A;have X:=Hd (show e.s.cells=#[.int .i64 e.s.slot,.int .i64 e.s.birth,.int .i64 e.s.upS,.int .i64 e.s.upB,.int .i64 e.s.kind,.string (SB e.s.user),.string (SB e.s.label),.int .u64 (e.s.scopes:Int),.int .i64 e.s.level,.int .i64 e.s.born,.int .i64 e.s.deadline,.int .i64 e.s.depth] from rfl)
  clear k1 k2;have U:=Hd (N63.lit 0 k0 (by omega))
  rw [jfk hmay k0,X.1];clear hmay;go_wp2_with fail;refine (jaz w1).mono ?_;rintro ev w2 ⟨rfl,a2,a3⟩;have a4:=C.1.below a3;have c0:∀ o,(w2.alloc o).cell? ⟨w.heap.size,0,none⟩=some (.int .i64 e.kind):=fun o=>(a4.below (ja w2 o)).cell 0 _ rfl
  have a5:=F.1.size;have b2:w1.heap.size<w2.heap.size:=a2.box.lt;have b3:w.heap.size<w2.heap.size:=by omega
  have b4:w.heap.size<w1.heap.size:=C.1.lt;have a6:EncSt w (w2.alloc (.cells #[.pointer (some ⟨w1.heap.size,0,none⟩)] 130)) w1.heap.size w2.heap.size w.heap.size _ 47 (.slice none 0 0) [] :=
   ⟨⟨a2.box.below (ja _ _),OwnM.nil _ _ _,by simp [Value.ownBlock]⟩,Box.new _ _ _,a4.below (ja _ _),jbd (by omega),jbd (by omega),a5,(F.1.trans (a3.mono a5)).trans ((ja _ _).mono (by omega))⟩
  have E:=Hd a6;clear a6 a4 a2 a3 C;go_wp2_with fail;refine (E.1.numbers (r:=w2.heap.size+1) (by simp) [e.kind] (fun n hn=>by rw [qC.1 hn];exact U.1) (by simp) (by simp)).mono ?_
  rintro ev w3 ⟨rfl,v3,a0⟩;have D:=Hd a0;clear a0 c0 E;have hA:EncSt w ((w3.alloc (.cells #[e.s.slot,e.s.birth,e.s.upS,e.s.upB,e.s.kind,.string (SB e.s.user),.string (SB e.s.label),.int .u64 (e.s.scopes:Int),e.s.level,e.s.born,e.s.deadline,e.s.depth] 135)).alloc (.cells #[e.s.slot,e.s.birth,e.s.upS,e.s.upB,e.s.kind,.string (SB e.s.user),.string (SB e.s.label),.int .u64 (e.s.scopes:Int),e.s.level,e.s.born,e.s.deadline,e.s.depth] 45)) w1.heap.size w2.heap.size (w3.heap.size+1) #[e.s.slot,e.s.birth,e.s.upS,e.s.upB,e.s.kind,.string (SB e.s.user),.string (SB e.s.label),.int .u64 (e.s.scopes:Int),e.s.level,e.s.born,e.s.deadline,e.s.depth] 45 v3 ([]++yg [e.kind]) :=
   (D.1.below (jl _ _ _)).rebox (by have:=Box.new (w3.alloc (.cells #[e.s.slot,e.s.birth,e.s.upS,e.s.upB,e.s.kind,.string (SB e.s.user),.string (SB e.s.label),.int .u64 (e.s.scopes:Int),e.s.level,e.s.born,e.s.deadline,e.s.depth] 135)) #[e.s.slot,e.s.birth,e.s.upS,e.s.upB,e.s.kind,.string (SB e.s.user),.string (SB e.s.label),.int .u64 (e.s.scopes:Int),e.s.level,e.s.born,e.s.deadline,e.s.depth] 45;rw [qj] at this;exact this) (by have:=(D.1.below (ja w3 (.cells #[e.s.slot,e.s.birth,e.s.upS,e.s.upB,e.s.kind,.string (SB e.s.user),.string (SB e.s.label),.int .u64 (e.s.scopes:Int),e.s.level,e.s.born,e.s.deadline,e.s.depth] 135))).row;rw [qj] at this;exact this)
  have t1:=fun v w=>jni v w
  have M:=Hd hA;clear hA D;go_wp2_with fail;have b0:∀ n ∈ [e.s.slot,e.s.birth,e.s.upS,e.s.upB,e.s.kind],N63 n:=by
   intro n hn;simp only [qH,qO,wM] at hn
   rcases hn with rfl | rfl | rfl | rfl | rfl
   . exact B.1.slot
   . exact B.1.birth
   . exact B.1.upS
   . exact B.1.upB
   . exact B.1.kind
  have a1:=A.1;simp only [qd] at a1;refine (M.1.numbers (r:=w3.heap.size+2) (by simp) [e.s.slot,e.s.birth,e.s.upS,e.s.upB,e.s.kind] b0 (by simp only [qd];omega) (by simp)).mono ?_
  rintro ev w4 ⟨rfl,v4,a0⟩;have I:=Hd a0;clear a0 b0 a1 M;have c1:=I.1.bq.cell 0 _ rfl;have c2:=I.1.bb.cell 5 _ rfl;have a1:=A.1;simp only [qd] at a1;have N:=Hd (jaj w.heap.size w1.heap.size _ _ e.s.user _ I.1.iw (by have:=B.1.user;omega) (by simp only [qd];have:=B.1.user;omega) I.1.bel.size)
  clear a1;go_wp2_with fail;refine N.1.mono ?_;rintro ev w5 ⟨rfl,v5,s1,s2,s3⟩;have J:=Hd (I.1.call s1 s2 s3);clear s1 s2 s3 c1 c2 N I;have c1:=J.1.bq.cell 0 _ rfl;have c2:=J.1.bb.cell 6 _ rfl;have a1:=A.1;simp only [qd] at a1;have N:=Hd (jaj w.heap.size w1.heap.size _ _ e.s.label _ J.1.iw (by have:=B.1.label;omega) (by simp only [qd];have:=B.1.label;omega) J.1.bel.size)
  clear a1;go_wp2_with fail;refine N.1.mono ?_;rintro ev w6 ⟨rfl,v6,s1,s2,s3⟩;have K:=Hd (J.1.call s1 s2 s3);clear s1 s2 s3 c1 c2 N J;have c1:=K.1.bq.cell 0 _ rfl;have c2:=K.1.bb.cell 7 _ rfl;have a1:=A.1;simp only [qd] at a1;have N:=Hd (zB w.heap.size w1.heap.size _ _ e.s.scopes _ K.1.iw W.1 (by simp only [qd];omega) K.1.bel.size)
  clear a1;go_wp2_with fail;refine N.1.mono ?_;rintro ev w7 ⟨rfl,v7,s1,s2,s3⟩;have L:=Hd (K.1.call s1 s2 s3);clear s1 s2 s3 c1 c2 N K;have ca:=L.1.bb.cell 8 _ rfl;have cb:=L.1.bb.cell 9 _ rfl;have cc:=L.1.bb.cell 10 _ rfl;have cd:=L.1.bb.cell 11 _ rfl;go_wp2_with fail;have b0:∀ n ∈ [e.s.level,e.s.born,e.s.deadline,e.s.depth],N63 n:=by
   intro n hn;simp only [qH,qO,wM] at hn
   rcases hn with rfl | rfl | rfl | rfl
   . exact B.1.level
   . exact B.1.born
   . exact B.1.deadline
   . exact B.1.depth
  have a1:=A.1;simp only [qd] at a1;refine (L.1.numbers (r:=w7.heap.size) (by simp) [e.s.level,e.s.born,e.s.deadline,e.s.depth] b0 (by simp only [qd];omega) (by simp)).mono ?_
  rintro ev w8 ⟨rfl,v8,a0⟩;have H:=Hd a0;clear a0 b0 a1 L;clear ca cb cc cd;have c1:=H.1.bq.cell 0 _ rfl;go_wp2_with fail;refine (zT w.heap.size w1.heap.size _ _ _ H.1.iw (by have:=A.1;omega)).mono ?_
  rintro ev w9 ⟨o9,rfl,a7,a8⟩;have O:=Hd (a7.lower H.1.bel.size);have P:=Hd (H.1.bel.trans (a8.mono H.1.bel.size));clear a7 a8 c1;go_wp2;refine qP (wj rfl _ _ _) rfl ?_;rw [S.1,T.1,G.1];exact ⟨_,rfl,O.1,P.1⟩
 cases k1:(e.kind==1)
 rotate_left
 .
  have B:=Hd (jad hmay k0 k1);have G:=Hd (show evB e=([]++yg [e.kind])++yg [e.birth] by unfold evB yg;rw [k1];simp)
  have A:=Hd (show (([]++yg [e.kind])++yg [e.birth]).length<=1000 by simp [yg];have:=jy e.kind;have:=jy e.birth;omega)
  have U:=Hd (N63.lit 1 k1 (by omega))
  rw [jdL hmay k0 k1];clear hmay;go_wp2_with fail;refine (jaz w1).mono ?_;rintro ev w2 ⟨rfl,a2,a3⟩;have a4:=C.1.below a3;have c0:∀ o,(w2.alloc o).cell? ⟨w.heap.size,0,none⟩=some (.int .i64 e.kind):=fun o=>(a4.below (ja w2 o)).cell 0 _ rfl
  have a5:=F.1.size;have b2:w1.heap.size<w2.heap.size:=a2.box.lt;have b3:w.heap.size<w2.heap.size:=by omega
  have b4:w.heap.size<w1.heap.size:=C.1.lt;have a6:EncSt w (w2.alloc (.cells #[.pointer (some ⟨w1.heap.size,0,none⟩)] 130)) w1.heap.size w2.heap.size w.heap.size _ 47 (.slice none 0 0) [] :=
   ⟨⟨a2.box.below (ja _ _),OwnM.nil _ _ _,by simp [Value.ownBlock]⟩,Box.new _ _ _,a4.below (ja _ _),jbd (by omega),jbd (by omega),a5,(F.1.trans (a3.mono a5)).trans ((ja _ _).mono (by omega))⟩
  have E:=Hd a6;clear a6 a4 a2 a3 C;go_wp2_with fail;refine (E.1.numbers (r:=w2.heap.size+1) (by simp) [e.kind] (fun n hn=>by rw [qC.1 hn];exact U.1) (by simp) (by simp)).mono ?_
  rintro ev w3 ⟨rfl,v3,a0⟩;have D:=Hd a0;clear a0 c0 E;have M:=Hd (D.1.below (ja w3 (.cells #[e.birth] 138)));clear D;have t1:=fun v w=>jm3 v w
  have t2:=fun v w=>jmV v w
  go_wp2_with fail;refine (M.1.numbers (r:=w3.heap.size+1) (by simp) [e.birth] (fun n hn=>by rw [qC.1 hn];exact B.1) (by have:=A.1;simp only [qd] at this |-;omega) (by simp)).mono ?_
  rintro ev w8 ⟨rfl,v8,a9⟩;have H:=Hd a9;clear a9 M;have c1:=H.1.bq.cell 0 _ rfl;go_wp2_with fail;refine (zT w.heap.size w1.heap.size _ _ _ H.1.iw (by have:=A.1;omega)).mono ?_
  rintro ev w9 ⟨o9,rfl,a7,a8⟩;have O:=Hd (a7.lower H.1.bel.size);have P:=Hd (H.1.bel.trans (a8.mono H.1.bel.size));clear a7 a8 c1;go_wp2;refine qP (wj rfl _ _ _) rfl ?_;rw [S.1,T.1,G.1];exact ⟨_,rfl,O.1,P.1⟩
 .
  have B:=Hd (vV hmay k0 k1).2;have k2:=(vV hmay k0 k1).1;have G:=Hd (show evB e=([]++yg [e.kind])++yg [e.ticks] by unfold evB yg;rw [k1,k2];simp)
  have A:=Hd (show (([]++yg [e.kind])++yg [e.ticks]).length<=1000 by simp [yg];have:=jy e.kind;have:=jy e.ticks;omega)
  have U:=Hd (N63.lit 2 k2 (by omega))
  rw [jhS hmay k0 k1];clear hmay;go_wp2_with fail;refine (jaz w1).mono ?_;rintro ev w2 ⟨rfl,a2,a3⟩;have a4:=C.1.below a3;have c0:∀ o,(w2.alloc o).cell? ⟨w.heap.size,0,none⟩=some (.int .i64 e.kind):=fun o=>(a4.below (ja w2 o)).cell 0 _ rfl
  have a5:=F.1.size;have b2:w1.heap.size<w2.heap.size:=a2.box.lt;have b3:w.heap.size<w2.heap.size:=by omega
  have b4:w.heap.size<w1.heap.size:=C.1.lt;have a6:EncSt w (w2.alloc (.cells #[.pointer (some ⟨w1.heap.size,0,none⟩)] 130)) w1.heap.size w2.heap.size w.heap.size _ 47 (.slice none 0 0) [] :=
   ⟨⟨a2.box.below (ja _ _),OwnM.nil _ _ _,by simp [Value.ownBlock]⟩,Box.new _ _ _,a4.below (ja _ _),jbd (by omega),jbd (by omega),a5,(F.1.trans (a3.mono a5)).trans ((ja _ _).mono (by omega))⟩
  have E:=Hd a6;clear a6 a4 a2 a3 C;go_wp2_with fail;refine (E.1.numbers (r:=w2.heap.size+1) (by simp) [e.kind] (fun n hn=>by rw [qC.1 hn];exact U.1) (by simp) (by simp)).mono ?_
  rintro ev w3 ⟨rfl,v3,a0⟩;have D:=Hd a0;clear a0 c0 E;have M:=Hd (D.1.below (ja w3 (.cells #[e.ticks] 140)));clear D;have t1:=fun v w=>jnq v w
  have t2:=fun v w=>jmZ v w
  have t3:=fun v w=>jnl v w
  go_wp2_with fail;refine (M.1.numbers (r:=w3.heap.size+1) (by simp) [e.ticks] (fun n hn=>by rw [qC.1 hn];exact B.1) (by have:=A.1;simp only [qd] at this |-;omega) (by simp)).mono ?_
  rintro ev w8 ⟨rfl,v8,a9⟩;have H:=Hd a9;clear a9 M;have c1:=H.1.bq.cell 0 _ rfl;go_wp2_with fail;refine (zT w.heap.size w1.heap.size _ _ _ H.1.iw (by have:=A.1;omega)).mono ?_
  rintro ev w9 ⟨o9,rfl,a7,a8⟩;have O:=Hd (a7.lower H.1.bel.size);have P:=Hd (H.1.bel.trans (a8.mono H.1.bel.size));clear a7 a8 c1;go_wp2;refine qP (wj rfl _ _ _) rfl ?_;rw [S.1,T.1,G.1];exact ⟨_,rfl,O.1,P.1⟩
end Go.Proofs.YtgcnolapjppbpaaGreatDoor
