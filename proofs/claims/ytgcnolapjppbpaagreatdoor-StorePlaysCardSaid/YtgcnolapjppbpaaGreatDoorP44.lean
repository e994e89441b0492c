/-
  Texts of one proof, one behind the other.
-/
import Derived.Test.YtgcnolapjppbpaaGreatDoorP26
import Derived.Test.YtgcnolapjppbpaaGreatDoorP43
import Derived.Test.YtgcnolapjppbpaaGreatDoorP00
namespace Go.Proofs.YtgcnolapjppbpaaGreatDoor
open Go.RowKit _root_.Go.Proofs.Tryz
set_option maxRecDepth 100000
set_option maxHeartbeats 25600000
theorem jgK:(prog.info? 4).map (fun i=>(i.zero,i.size,i.bytes))=some (some (.bool false),1,1):=by kernel_rfl
theorem jhm {op:Oper}{a:Act}{w:World}{K:Act→World→Prop}{Q:Exit→Act→World→Prop}(s x:Operand)(ho:op.op=.call { callee:=.builtin .append,args:=#[s,x],argTypes:=#[277,277] })(base:Nat)(v:Value)(g:List Bool)(hs:a.eval s=v)(a1:OwnB w base v g)(nb c:Nat)(y:Bool)(hx:a.eval x=.slice (some ⟨nb,0,none⟩) 1 c)(hy:w.cell? ⟨nb,0,none⟩=some (.bool y))(a5:g.length+1≤1256584717458)(a0:base≤w.heap.size)(h:∀ v' w',OwnB w' base v' (g ++ [y])→w.grownBy w' v.ownBlock→K (a.put op.dst v') w'):op.wp prog a w K Q:=by
 obtain ⟨i0,hi,a2,a3,a4⟩:=info_parts jgK;obtain ⟨v',w',hr,h2,h3,_⟩:=xM (P:=prog) w base 277 op.type 4 i0 _ 1 1 underlying277 hi a2 a3 a4 rfl (by decide) v g.length (g.map Value.bool) a1 ⟨nb,0,none⟩ 1 c [.bool y] rfl (fun j u hj=>by
  cases j with
  | zero=>simp at hj;subst hj;exact hy
  | succ j=>simp at hj) (by simp [Value.oneCell']) (by unfold maxLen;omega) (by omega) a0
 unfold Oper.wp execOp;simp only [ho,resolve,invoke,builtin,Sem.run_bind,Sem.run_pure,Result.andThen_ok,List.map_toArray,List.map_cons,List.map_nil,hs,hx,hr];refine h v' w' ?_ h3;unfold OwnB;rw [List.length_append,List.map_append];exact h2
theorem OwnB.nil (w:World)(base:Nat):OwnB w base (.slice none 0 0) []:=⟨rfl,.inl ⟨rfl,rfl⟩⟩
theorem jgc {goes:SesM→Bool}{l:List SesM}:WInv goes l (l.map goes):=by
 have a0:∀ i (hi:i<l.length),gat (l.map goes) i=goes l[i]:=fun i hi=>by
  unfold gat;rw [List.getD,List.getElem?_map,List.getElem?_eq_getElem hi];rfl
 exact ⟨List.length_map _,fun i hi h=>by rw [a0 i hi];exact h,fun i hi h=>.one (List.getElem_mem _) (by rw [← a0 i hi];exact h)⟩
theorem jgl {goes:SesM→Bool}{l:List SesM}{k:Nat}(hk:k<l.length):(l.take (k+1)).map goes=(l.take k).map goes ++ [goes l[k]]:=by
 rw [List.take_succ_eq_append_getElem hk,List.map_append];rfl
theorem jfY (k:Int):∀ l:List SesM,(yd k l).isSome=l.any (fun s=>s.birth==k)
 | []=>rfl
 | x::l=>by
  simp only [yd,List.any_cons];by_cases h:x.birth=k
  · rw [if_pos h];simp [h]
  ·
   rw [if_neg h,jfY k l];have:(x.birth==k)=false:=by rw [beq_eq_false_iff_ne];exact h
   rw [this,Bool.false_or]
theorem jgU {e:EvtM}(h:yb e=true)(k0:(e.kind==0)=false)(k1:(e.kind==1)=false):1≤e.ticks∧e.ticks≤1073741824:=by
 unfold yb at h;rw [k0,k1] at h
 cases k2:(e.kind==2)
 · rw [k2] at h;simp at h
 ·
  rw [k2] at h;simp only [if_true,Bool.and_eq_true,Bool.false_eq_true,if_false] at h;exact yp h.2.2
theorem ApS.mod3 {w0 w w':World}{p:Nat}{c b:Int}{v:Value}{e:EvtM}{l:List SesM}(h:ApS w0 w p c b v e l)(hm:Mod (fun i=>p+3≤i) w w')(a1:RdS w0 v l):ApS w0 w' p c b v e l:=by
 have a0:=h.bel.trans (hm.below (by have:=h.bx.lt;omega) (fun i hi=>by omega))
 exact ⟨h.bx.mod hm (by omega),h.be.mod hm (by omega),h.bz.mod hm (by omega),a1.below (by have h2:=a0;rw [h.e0] at h2;exact h2),a0,h.e0⟩
theorem jc7 (st:StM)(e:EvtM)(v:Value)(w:World)(hv:RdS w v st.l)(hn:st.l.length≤1000000000)(hu:e.s.user.length≤9223372036854775807)(hl:e.s.label.length≤9223372036854775807)(e6:e.s.scopes<2 ^ 64)(ho:∀ x∈st.l,x.scopes<2 ^ 64) :
  Calls prog 109 #[.agg #[.int .i64 st.clock,.int .i64 st.births,v],.agg e.cells] w fun ev w'=>∃ o,ev=.returned (.tuple #[.agg #[.int .i64 (jH st e).2.clock,.int .i64 (jH st e).2.births,o],.int .i64 (jH st e).1])∧OwnS w' w.heap.size o (jH st e).2.l∧Below w.heap.size w w':=by
 have Hq:=Hd (fun w=>xX e w hu hl)
 obtain ⟨D,hD⟩:=Nm (jH st e);rw [← hD];unfold jH at hD;have H4:=Hd (fun v' w' h hs=>jcg st e.s v' w' h hs e6 ho)
 have Hc:=Hd (fun goes v' gv g base w' h1 h2 h3 h4=>jbv goes st v' gv g base w' h1 h2 h3 h4 hn)
 have H5:=Hd hn;obtain ⟨c,b,l⟩:=st;simp only at hv hD H4 H5 Hc ⊢;have N:=Hd hv;have He:=Hd (fun v' w' h=>jad c b v' l e.birth w' h)
 have e7:l.length≤1256584717457:=by have:=H5.1;omega
 have Hf:=Hd (fun v' w' h=>ua c b v' l w' h e7)
 obtain ⟨a,cap,rfl,f8,g2⟩:=hv.slice;have f9:l.length≤9223372036854775807:=by omega
 have HD:=Hd hD;clear hD f8 hn hu hl e6 ho e7;have Hr:=Hd e.cellsE;have d6:ApS w (((w.alloc (.cells #[.int .i64 c,.int .i64 b,.slice a l.length cap] 30)).alloc (.cells e.cells 47)).alloc (.cells #[.int .i64 0,.int .i64 0,.slice none 0 0] 30)) w.heap.size c b (.slice a l.length cap) e l:=by
  have h1:=Box.new w #[.int .i64 c,.int .i64 b,.slice a l.length cap] 30;have h2:=Box.new (w.alloc (.cells #[.int .i64 c,.int .i64 b,.slice a l.length cap] 30)) e.cells 47;have h3:=Box.new ((w.alloc (.cells #[.int .i64 c,.int .i64 b,.slice a l.length cap] 30)).alloc (.cells e.cells 47)) #[.int .i64 0,.int .i64 0,.slice none 0 0] 30;rw [World.size_alloc] at h2;rw [World.size_alloc,World.size_alloc] at h3;have a7:=(jn w (.cells #[.int .i64 c,.int .i64 b,.slice a l.length cap] 30) (.cells e.cells 47)).trans ((ja ((w.alloc (.cells #[.int .i64 c,.int .i64 b,.slice a l.length cap] 30)).alloc (.cells e.cells 47)) (.cells #[.int .i64 0,.int .i64 0,.slice none 0 0] 30)).mono (jn w _ _).size);exact ⟨(h1.below (ja _ _)).below (ja _ _),h2.below (ja _ _),h3,hv.below a7,a7,rfl⟩
 obtain ⟨n,hN⟩:=Nm (l.length);rw [← hN] at f9 d6 N ⊢;have HN:=Hd hN;have Hi:=Hd d6.be.rangeV;have O:=Hd d6;clear hv hN d6;rw [Hr.1];rw [show (((w.alloc (.cells #[.int .i64 c,.int .i64 b,.slice a n cap] 30)).alloc (.cells e.cells 47)).alloc (.cells #[.int .i64 0,.int .i64 0,.slice none 0 0] 30))=((w.alloc (.cells #[.int .i64 c,.int .i64 b,.slice a n cap] 30)).alloc (.cells #[.int .i64 e.kind,.int .i64 e.s.slot,.int .i64 e.s.birth,.int .i64 e.s.upS,.int .i64 e.s.upB,.int .i64 e.s.kind,.string (SB e.s.user),.string (SB e.s.label),.int .u64 (e.s.scopes:Int),.int .i64 e.s.level,.int .i64 e.s.born,.int .i64 e.s.deadline,.int .i64 e.s.depth,.int .i64 e.birth,.int .i64 e.ticks] 47)).alloc (.cells #[.int .i64 0,.int .i64 0,.slice none 0 0] 30) from rfl] at O Hi
 go_enter func109,ntmps109
 go_wp2_with ((with_reducible refine je ?L1a 47 (.tmp 3) ?L1b (w.heap.size+1) (0) ?L1c e.cells.toList _ Hi.1 underlying47 ?L1d ?L1e ?L1f);(case L1b=>rfl);(case L1a=>rfl);(case L1c=>rfl);(case L1d=>rfl);(case L1e=>kernel_rfl))
 intro cv a8;have ecv:cv=e.cells:=by rw [a8.out]
 subst ecv;clear a8 Hi Hr;generalize hw1:World.alloc _ _=w1 at O ⊢;clear hw1;obtain ⟨p,hp⟩:=Nm (w.heap.size);rw [← hp] at O ⊢;have HP:=Hd hp;clear hp;go_wp2_with fail;refine (Hq.1 _).mono ?_;rintro ev w2 ⟨rfl,e8⟩;have H:=Hd (O.1.below e8);clear e8 O Hq
 cases hmay:yb e
 ·
  have Hs:=Hd (show D=(1,yh) by rw [HD.1,hmay];rfl)
  clear HD hmay;have z0:w2.cell? ⟨p+1+1,0,none⟩=some (.int .i64 0):=H.1.bz.cell 0 _ rfl;have y0:=H.1.bz.free 0;have z1:w2.cell? ⟨p+1+1,1,none⟩=some (.int .i64 0):=H.1.bz.cell 1 _ rfl;have y1:=H.1.bz.free 1;have z2:w2.cell? ⟨p+1+1,2,none⟩=some (.slice none 0 0):=H.1.bz.cell 2 _ rfl;have y2:=H.1.bz.free 2;have P:=Hd (H.1.fill 0 0 (.slice none 0 0));clear H;go_wp2_with fail;exact jb rfl rfl (p+1+1) 0 rfl [.int .i64 0,.int .i64 0,.slice none 0 0] _ (js P.1.1) underlying30 rfl (by kernel_rfl) _ rfl ⟨_,by rw [Hs.1];rfl,by rw [Hs.1];exact OwnS.nil _ _,P.1.2.1⟩
 have H3:=Hd (HD.1.trans (by rw [hmay,if_pos rfl]))
 have T:=Hd hmay;clear hmay HD;have k0:w2.cell? ⟨p+1,0,none⟩=some (.int .i64 e.kind):=H.1.be.cell 0 _ rfl
 cases hk0:(e.kind==0)
 rotate_left
 ·
  have E:=Hd (H3.1.trans (if_pos (beq_iff_eq.1 hk0)));have Ht:=Hd (jc6 T.1 hk0);clear H3 T Hc He;have H6:=Hd H.1.be.rangeB;have c0:w2.cell? ⟨p,0,none⟩=some (.int .i64 c):=H.1.bx.cell 0 _ rfl;have c1:w2.cell? ⟨p,1,none⟩=some (.int .i64 b):=H.1.bx.cell 1 _ rfl;have c2:w2.cell? ⟨p,2,none⟩=some (.slice a n cap):=H.1.bx.cell 2 _ rfl
  go_wp2_with ((with_reducible refine je ?L2a 45 (.tmp 23) ?L2b (p+1) (1) ?L2c e.s.cells.toList _ H6.1 underlying45 ?L2d ?L2e ?L2f);(case L2b=>rfl);(case L2a=>rfl);(case L2c=>rfl);(case L2d=>rfl);(case L2e=>kernel_rfl))
  intro cv a8;have ecv:cv=e.s.cells:=by rw [a8.out]
  subst ecv;clear a8;go_wp2_with fail;refine (H4.1 _ _ H.1.rs Ht.1).mono ?_;rintro ev w3 ⟨rfl,a7⟩;have F:=Hd (H.1.below a7);clear a7 H H6 H4 c0 c1 c2 k0 hk0 Ht
  cases hr:(jaJ ⟨c,b,l⟩ e.s==0)
  ·
   have e9:(jaJ ⟨c,b,l⟩ e.s != 0)=true:=by rw [bne,hr];rfl
   have B:=Hd (E.1.trans (if_neg (fun h=>by rw [h] at hr;cases hr)))
   generalize jaJ ⟨c,b,l⟩ e.s=er at *;clear hr E;have z0:w3.cell? ⟨p+1+1,0,none⟩=some (.int .i64 0):=F.1.bz.cell 0 _ rfl;have y0:=F.1.bz.free 0;have z1:w3.cell? ⟨p+1+1,1,none⟩=some (.int .i64 0):=F.1.bz.cell 1 _ rfl;have y1:=F.1.bz.free 1;have z2:w3.cell? ⟨p+1+1,2,none⟩=some (.slice none 0 0):=F.1.bz.cell 2 _ rfl;have y2:=F.1.bz.free 2;have P:=Hd (F.1.fill 0 0 (.slice none 0 0));clear F;go_wp2_with fail;exact jb rfl rfl (p+1+1) 0 rfl [.int .i64 0,.int .i64 0,.slice none 0 0] _ (js P.1.1) underlying30 rfl (by kernel_rfl) _ rfl ⟨_,by rw [B.1];rfl,by rw [B.1];exact OwnS.nil _ _,P.1.2.1⟩
  have e9:(jaJ ⟨c,b,l⟩ e.s != 0)=false:=by rw [bne,hr];rfl
  have B:=Hd (E.1.trans (if_pos (beq_iff_eq.1 hr)));obtain ⟨W,hW⟩:∃ W,IntKind.i64.wrap (b+1)=W:=⟨_,rfl⟩;rw [hW] at B;have Hz:=Hd (show l.length+1≤1256584717458 by have:=H5.1;omega)
  clear hr E;have c0:w3.cell? ⟨p,0,none⟩=some (.int .i64 c):=F.1.bx.cell 0 _ rfl;have c1:w3.cell? ⟨p,1,none⟩=some (.int .i64 b):=F.1.bx.cell 1 _ rfl;have c2:w3.cell? ⟨p,2,none⟩=some (.slice a n cap):=F.1.bx.cell 2 _ rfl;go_wp2_with fail;refine (Hf.1 _ _ F.1.rs).mono ?_;rintro ev w4 ⟨o,rfl,d7,b1⟩;have G:=Hd ((F.1.below b1));obtain ⟨oa,oc,rfl,_⟩:=d7.slice;have b2:=Box.new w4 #[.int .i64 c,.int .i64 b,.slice oa l.length oc] 30;have c6:=ja w4 (.cells #[.int .i64 c,.int .i64 b,.slice oa l.length oc] 30);have Hj:=Hd (show p+1+1<w3.heap.size from F.1.bz.lt)
  have Hu:=Hd (Nat.lt_of_lt_of_le Hj.1 b1.size);have HQ:=Hd (show p+1+1<w4.heap.size∧w3.heap.size≤w4.heap.size by have:=Hu.1;have:=b1.size;omega)
  have c1:(w4.alloc (.cells #[.int .i64 c,.int .i64 b,.slice oa l.length oc] 30)).cell? ⟨p,1,none⟩=some (.int .i64 b):=(G.1.below c6).bx.cell 1 _ rfl;have q1:(w4.alloc (.cells #[.int .i64 c,.int .i64 b,.slice oa l.length oc] 30)).cell? ⟨w4.heap.size,1,none⟩=some (.int .i64 b):=b2.cell 1 _ rfl;have f1:=b2.free 1;have a6:=ja w4 (.cells #[.int .i64 c,.int .i64 W,.slice oa l.length oc] 30);have U:=Hd (d7.below a6);have I:=Hd (G.1.below a6);have Hg:=Hd (Box.new w4 #[.int .i64 c,.int .i64 W,.slice oa l.length oc] 30);have Hk:=Hd (fun k hk=>(d7.lt k hk))
  have H6:=Hd I.1.be.rangeB;have q2:(w4.alloc (.cells #[.int .i64 c,.int .i64 W,.slice oa l.length oc] 30)).cell? ⟨w4.heap.size,2,none⟩=some (.slice oa l.length oc):=Hg.1.cell 2 _ rfl;have HS3X:=Hj;clear d7 b1 c6 a6 b2 G Hu Hj Hf e9 F
  go_wp2_with ((with_reducible refine je ?L3a 45 (.tmp 38) ?L3b (p+1) (1) ?L3c e.s.cells.toList _ H6.1 underlying45 ?L3d ?L3e ?L3f);(case L3b=>rfl);(case L3a=>rfl);(case L3c=>rfl);(case L3d=>rfl);(case L3e=>kernel_rfl))
  intro cv a8;have ecv:cv=e.s.cells:=by rw [a8.out]
  subst ecv;clear a8 H6;generalize w4.alloc (.cells #[.int .i64 c,.int .i64 W,.slice oa l.length oc] 30)=wb at U I Hg q2 ⊢;clear c1 q1 f1
  go_wp2_with (refine jD (op:=⟨some 40,_,_,_,_,_⟩) (by rfl) 28 1 #[(0,.tmp 39)] rfl #[(0,.agg e.s.cells)] (by kernel_rfl) _ _ (zJ e.s wb) ?_)
  intro w7 d9;have d8:Below wb.heap.size wb w7:=by rw [d9.out];exact ja _ _
  have Hv:=Hd (show ∀ j u,e.s.cells.toList[j]?=some u→w7.cell? ((⟨wb.heap.size,0,none⟩:Addr).add j)=some u by rw [d9.out];exact yY wb e.s _)
  have V:=Hd ((U.1.below d8));have Hw:=Hd (I.1.below d8);have Hh:=Hd (Hg.1.below d8);have Hl:=Hd (show w3.heap.size≤w7.heap.size by have:=Hh.1.lt;have:=HQ.1;omega)
  clear d9 d8 U I Hg q2
  go_wp2_with (at_builtin;refine vP rfl _ _ rfl w3.heap.size _ l rfl V.1 ⟨wb.heap.size,0,none⟩ 1 e.s rfl Hv.1 Hz.1 Hl.1 ?_)
  intro v8 w8 c8 e1 f3;obtain ⟨va,vc,a9,_⟩:=c8.slice;rw [List.length_append,List.length_singleton] at a9;subst a9;have d0:=Hh.1.grown e1 (fun e=>by have:=(Hk.1 _ e).2;omega)
  have f4:=zB e1 (fun k hk=>(V.1.lt k hk).1) Hl.1
  have g3:p+3≤w3.heap.size:=by have:=HS3X.1;omega
  have b0:=Hw.1.mod3 (f4.mono (fun i hi=>by omega)) N.1
  have f5:∀ k,(Value.slice va (l.length+1) vc).ownBlock=some k→k≠w4.heap.size:=fun k hk e=>by
   have hl:=Hh.1.lt
   rcases f3 with h | h
   · rw [h] at hk;have:=(Hk.1 k hk).2;omega
   · rw [h] at hk;injection hk with hk;omega
  have x0:w8.cell? ⟨w4.heap.size,0,none⟩=some (.int .i64 c):=d0.cell 0 _ rfl;have x1:w8.cell? ⟨w4.heap.size,1,none⟩=some (.int .i64 W):=d0.cell 1 _ rfl;have x2:w8.cell? ⟨w4.heap.size,2,none⟩=some (.slice oa l.length oc):=d0.cell 2 _ rfl;have f2:=d0.free 2;have e2:=Mod.set (fun i=>i=w4.heap.size) w8 ⟨w4.heap.size,2,none⟩ (.slice va (l.length+1) vc) rfl
  have c7:=b0.mod3 (e2.mono (fun i hi=>by have:=HQ.1;omega)) N.1
  have e3:=c8.mod e2 (fun k hk e=>f5 k hk e)
  have A1:=Hd c7;have a3:=c7.fill c W (.slice va (l.length+1) vc);have f6:=(e3.mod a3.2.2 (fun k hk e=>by have:=(e3.lt k hk).1;omega)).base (base':=w.heap.size) (by have:=c7.e0;omega)
  have X:=Hd (And.intro a3.1 (And.intro f6 a3.2.1));have z0:w8.cell? ⟨p+1+1,0,none⟩=some (.int .i64 0):=b0.bz.cell 0 _ rfl;have z1:w8.cell? ⟨p+1+1,1,none⟩=some (.int .i64 0):=b0.bz.cell 1 _ rfl;have z2:w8.cell? ⟨p+1+1,2,none⟩=some (.slice none 0 0):=b0.bz.cell 2 _ rfl;have y0:=b0.bz.free 0;have y1:=b0.bz.free 1;have y2:=b0.bz.free 2;have z22:(w8.setCell ⟨w4.heap.size,2,none⟩ (.slice va (l.length+1) vc)).cell? ⟨p+1+1,2,none⟩=some (.slice none 0 0):=c7.bz.cell 2 _ rfl;have y22:=c7.bz.free 2;clear d0 f4 b0 f5 e2 c7 e3 a3 f6 c8 e1 f3 V Hh Hw Hk Hv Hl;go_wp2_with fail;exact jb rfl rfl (p+1+1) 0 rfl [.int .i64 c,.int .i64 W,.slice va (l.length+1) vc] _ (js X.1.1) underlying30 rfl (by kernel_rfl) _ rfl ⟨_,by rw [B.1];rfl,by rw [B.1];exact X.1.2.1,X.1.2.2⟩
 cases a5:(e.kind==1)
 rotate_left
 ·
  have E:=Hd ((H3.1.trans (if_neg (fun h=>by rw [h] at hk0;cases hk0))).trans (if_pos (beq_iff_eq.1 a5)))
  clear H3 T H4 Hf;have c0:w2.cell? ⟨p,0,none⟩=some (.int .i64 c):=H.1.bx.cell 0 _ rfl;have c1:w2.cell? ⟨p,1,none⟩=some (.int .i64 b):=H.1.bx.cell 1 _ rfl;have c2:w2.cell? ⟨p,2,none⟩=some (.slice a n cap):=H.1.bx.cell 2 _ rfl;have k13:w2.cell? ⟨p+1,13,none⟩=some (.int .i64 e.birth):=H.1.be.cell 13 _ rfl;have e4:=jfY e.birth l;go_wp2_with fail;refine (He.1 _ _ H.1.rs).mono ?_;rintro ev w3 ⟨rfl,a7⟩;have F:=Hd (H.1.below a7);rw [e4];obtain ⟨r,hr⟩:=Nm (l.any (fun s=>s.birth==e.birth))
  rw [← hr] at E ⊢;generalize (yd e.birth l).getD zS=y;clear hr e4 a7 H c0 c1 c2 k13 k0 hk0 a5 He
  go_wp2_with ((with_reducible refine jc ?S4a 45 (.tmp 9) (.tmp 51) ?S4b (w3.heap.size) 0 y.cells.toList ?S4c y.cells ?S4d (SesM.listS _) ?S4e ?S4f ?S4g ?S4h);(case S4b=>rfl);(case S4a=>rfl);(case S4c=>rfl);(case S4d=>rfl);(case S4e=>exact xf _ _);(case S4f=>kernel_rfl);(case S4g=>exact SesM.oneS _))
  intro w4 f7;obtain ⟨_,b1⟩:=vE f7;have G:=Hd (F.1.below b1);clear f7 b1 F
  cases r
  ·
   have B:=Hd (show D=(16,yh) from E.1)
   clear E;have z0:w4.cell? ⟨p+1+1,0,none⟩=some (.int .i64 0):=G.1.bz.cell 0 _ rfl;have y0:=G.1.bz.free 0;have z1:w4.cell? ⟨p+1+1,1,none⟩=some (.int .i64 0):=G.1.bz.cell 1 _ rfl;have y1:=G.1.bz.free 1;have z2:w4.cell? ⟨p+1+1,2,none⟩=some (.slice none 0 0):=G.1.bz.cell 2 _ rfl;have y2:=G.1.bz.free 2;have P:=Hd (G.1.fill 0 0 (.slice none 0 0));clear G;go_wp2_with fail;exact jb rfl rfl (p+1+1) 0 rfl [.int .i64 0,.int .i64 0,.slice none 0 0] _ (js P.1.1) underlying30 rfl (by kernel_rfl) _ rfl ⟨_,by rw [B.1];rfl,by rw [B.1];exact OwnS.nil _ _,P.1.2.1⟩
  have B:=Hd (show D=(0,⟨c,b,jx (fun s=>s.birth==e.birth) l⟩) from E.1)
  clear E;have A0:=Hd (show p+3≤w4.heap.size from G.1.bz.lt)
  go_wp2_with fail
  go_loopg [6,11] n (fun gk ov iv wr=>∃ (k:Nat) (gl:List Bool),gk+k=n∧iv=.int .i64 (k:Int)∧((l.take k).map (fun s=>s.birth==e.birth)=gl∧gl.length=k∧(k=0→ov=.slice none 0 0))∧OwnB wr (p+3) ov gl∧Mod (fun i=>p+3≤i) w4 wr)
  case atStart=>exact ⟨0,[],Nat.add_zero _,rfl,⟨rfl,rfl,fun _=>rfl⟩,OwnB.nil _ _,Mod.refl _ _⟩
  case round =>
   obtain ⟨k,gl,d1,rfl,d2,b3,b4⟩:=hrel;have M:=Hd d2;have k0:(0:Int)≤(k:Int):=by omega
   have R:=Hd d1;have A:=Hd (G.1.mod3 b4 N.1);have Y:=Hd b4;have Z:=Hd b3;have H7:=Hd (show p+3≤wr.heap.size from A.1.bz.lt)
   have c2:wr.cell? ⟨p,2,none⟩=some (.slice a n cap):=A.1.bx.cell 2 _ rfl;clear d1 b4 b3 d2;by_cases hk:k<n
   ·
    have k1:(k:Int)<(n:Int):=by omega
    have b5:k<l.length:=by have:=HN.1;omega
    obtain ⟨s,hs⟩:=Nm (l[k]);obtain ⟨rb,ro,b6,a0⟩:=N.1.row k b5;subst b6;rw [← hs] at a0;have b7:rb<p:=by rw [HP.1];exact World.block_lt_of_cell? w _ (a0 0 _ rfl)
    have Hm:=Hd (show (l.take (k+1)).map (fun s=>s.birth==e.birth)=gl ++ [(fun s=>s.birth==e.birth) s] by rw [hs,← M.1.1];exact jgl b5)
    have HR:=Hd (And.intro (jf A.1.self (a0 1 _ rfl)) b7);have H8:=Hd c2;have Hn:=Hd (show wr.cell? ⟨p+1,13,none⟩=some (.int .i64 e.birth) from A.1.be.cell 13 _ rfl)
    have HK:=Hd hk;have Ho:=Hd (show gl.length+1≤1256584717458 by have:=H5.1;have:=M.1.2.1;omega)
    obtain ⟨ga,gc,rfl,_⟩:=Z.1.slice;clear a0 b7 hs hk b5;go_wp2_with fail;clear c2;refine wp_region_held_drew (S:=fun W=>Mod (fun i=>p+3≤i) wr W) (by kernel_rfl) (Mod.drew _ wr) (fun c9=>?_)
    refine Tk 0 63 ?_;refine Tk 1 64 ?_;refine Tk 2 65 ?_ (hy:=by intro w' a1;have u1:=xN a1 H8.1 (fun h=>by have h3:p+3≤p:=h;omega);clear a1;go_simp;try with_reducible rfl)
    refine Tk 3 66 ?_;refine Tk 4 67 ?_;refine Tk 5 68 ?_;refine Tk 6 69 ?_ (hy:=by intro w' a1;have u1:=xN a1 HR.1.1 (fun h=>by have h3:p+3≤rb:=h;have:=HR.1.2;omega);clear a1;go_simp;try with_reducible rfl)
    refine Tk 7 70 ?_;refine Tk 8 71 ?_ (hy:=by intro w' a1;have u1:=xN a1 Hn.1 (fun h=>by have h3:p+3≤p+1:=h;omega);clear a1;go_simp;try with_reducible rfl)
    refine Tk 9 72 ?_;refine wpAnyH_ready (rs := [10]) (by kernel_rfl) (by simp) (AllReadyH.cons (o:=⟨some 73,.buildSlice _ 1 _,_,_,_,_⟩) rfl (fun K hK=>?_) AllReadyH.nil)
    go_simp
    have b8:=(ja wr (.cells #[.bool (s.birth==e.birth)] 4)).trans ((jd (wr.alloc (.cells #[.bool (s.birth==e.birth)] 4))).mono (ja wr _).size);refine hK.out _ _ (Mod.of_below b8) (fun a2=>?_)
    have H0:=Hd (Z.1.below b8);have H9:=Hd (show (wr.alloc (.cells #[.bool (s.birth==e.birth)] 4)).drew.cell? ⟨wr.heap.size,0,none⟩=some (.bool (s.birth==e.birth)) from (Box.new wr #[.bool (s.birth==e.birth)] 4).cell 0 _ rfl)
    have H1:=Hd (Nat.le_trans H7.1 a2.size);clear hK K c9 b8
    try simp only [Nz]
    refine Rc 11 74 fun K hK=>?_
    rw [if_pos (by kernel_rfl)]
    refine jhm (.tmp 63) (.tmp 73) rfl (p+3) _ _ rfl H0.1 wr.heap.size 1 (s.birth==e.birth) rfl H9.1 Ho.1 H1.1 ?_;intro v' w7 a4 d3;have b9:=a2.trans (zB d3 (fun k hk=>(H0.1.lt k hk).1) H1.1)
    refine hK.out _ _ b9 (fun c3=>?_)
    have V:=Hd a4;have Hp:=Hd (Y.1.trans b9);obtain ⟨ga2,gc2,a9,_⟩:=a4.slice;rw [List.length_append,List.length_singleton] at a9;subst a9;clear hK K a4 d3 b9 H0 H9 a2
    try simp only [Nz]
    refine Tk 12 6 ?_;refine Dn ?_;clear c3 A Y Z HR H8 H1;go_wp2_with fail
    go_roundg (n-(k+1))
    case measure=>have:=R.1;have:=HK.1;omega
    case rel=>exact ⟨k+1,_,by have:=R.1;have:=HK.1;omega,by go_num,⟨Hm.1,by rw [List.length_append,List.length_singleton,M.1.2.1],fun h=>by cases h⟩,V.1,Hp.1⟩
   ·
    have k1:¬ (k:Int)<(n:Int):=by omega
    have Ha:=Hd (show gl=l.map (fun s=>s.birth==e.birth) by
     have h:=M.1.1;rw [List.take_of_length_le (by have:=HN.1;omega)] at h
     exact h.symm)
    have Q:=Hd Z.1;have c0:wr.cell? ⟨p,0,none⟩=some (.int .i64 c):=A.1.bx.cell 0 _ rfl;have c1:wr.cell? ⟨p,1,none⟩=some (.int .i64 b):=A.1.bx.cell 1 _ rfl;have O:=Hd (show ∀ k,(Value.slice a n cap).ownBlock=some k→(u6:Value).ownBlock≠some k from fun k1 a5 c4=>by
     have h3:=(Q.1.lt k1 c4).1;by_cases h0:0<l.length
     ·
      obtain ⟨rb,ro,b6,a0⟩:=N.1.row 0 h0;have b7:rb<p:=by rw [HP.1];exact World.block_lt_of_cell? w _ (a0 0 _ rfl)
      rw [b6] at a5;have e:rb=k1:=by injection a5
      omega
     ·
      rw [M.1.2.2 (by have:=HN.1;have:=R.1;omega)] at c4
      cases c4)
    obtain ⟨ga,gc,rfl,_⟩:=Q.1.slice;have Hb:=Hd (Hc.1 (fun s=>s.birth==e.birth) (.slice a n cap) _ _ (p+3) wr A.1.rs Q.1 (by rw [Ha.1];exact jgc) O.1)
    clear hk R Y Z H7 M;go_wp2_with fail;refine Hb.1.mono ?_;rintro ev w5 ⟨o,rfl,ho,d4⟩;have c5:Mod (fun i=>p+3≤i) wr w5:=d4.mono (fun i hi=>by
     rcases hi with h | h
     · have:=A.1.bz.lt;omega
     · exact (Q.1.lt i h).1)
    have J:=Hd (A.1.mod3 c5 N.1);obtain ⟨va,vc,rfl,_⟩:=ho.slice;have H2:=Hd (ho.base (base':=p+3) (show p+3≤wr.heap.size from A.1.bz.lt))
    clear ho d4 c5 Hb A c0 c1 c2 Q O Ha;have z0:w5.cell? ⟨p+1+1,0,none⟩=some (.int .i64 0):=J.1.bz.cell 0 _ rfl;have y0:=J.1.bz.free 0;have z1:w5.cell? ⟨p+1+1,1,none⟩=some (.int .i64 0):=J.1.bz.cell 1 _ rfl;have y1:=J.1.bz.free 1;have z2:w5.cell? ⟨p+1+1,2,none⟩=some (.slice none 0 0):=J.1.bz.cell 2 _ rfl;have y2:=J.1.bz.free 2;have a3:=J.1.fill c b (.slice va (jx (fun s=>s.birth==e.birth) l).length vc)
    have d5:=(H2.1.mod a3.2.2 (fun k hk e=>by have:=(H2.1.lt k hk).1;omega)).base (base':=w.heap.size) (by have:=J.1.e0;omega)
    have X:=Hd (And.intro a3.1 (And.intro d5 a3.2.1));clear a3 d5 H2 J;go_wp2_with fail;exact jb rfl rfl (p+1+1) 0 rfl [.int .i64 c,.int .i64 b,.slice va (jx (fun s=>s.birth==e.birth) l).length vc] _ (js X.1.1) underlying30 rfl (by kernel_rfl) _ rfl ⟨_,by rw [B.1];rfl,by rw [B.1];exact X.1.2.1,X.1.2.2⟩
 obtain ⟨g0,g1⟩:=jgU T.1 hk0 a5;have E:=Hd ((H3.1.trans (if_neg (fun h=>by rw [h] at hk0;cases hk0))).trans (if_neg (fun h=>by rw [h] at a5;cases a5)))
 clear H3 T H4 Hf He;have c0:w2.cell? ⟨p,0,none⟩=some (.int .i64 c):=H.1.bx.cell 0 _ rfl;have c1:w2.cell? ⟨p,1,none⟩=some (.int .i64 b):=H.1.bx.cell 1 _ rfl;have c2:w2.cell? ⟨p,2,none⟩=some (.slice a n cap):=H.1.bx.cell 2 _ rfl;have e14:w2.cell? ⟨p+1,14,none⟩=some (.int .i64 e.ticks):=H.1.be.cell 14 _ rfl;by_cases h1:c<0
 ·
  have B:=Hd (show D=(12,yh) from E.1.trans (if_pos (.inl h1)))
  clear E;have z0:w2.cell? ⟨p+1+1,0,none⟩=some (.int .i64 0):=H.1.bz.cell 0 _ rfl;have y0:=H.1.bz.free 0;have z1:w2.cell? ⟨p+1+1,1,none⟩=some (.int .i64 0):=H.1.bz.cell 1 _ rfl;have y1:=H.1.bz.free 1;have z2:w2.cell? ⟨p+1+1,2,none⟩=some (.slice none 0 0):=H.1.bz.cell 2 _ rfl;have y2:=H.1.bz.free 2;have P:=Hd (H.1.fill 0 0 (.slice none 0 0));clear H;go_wp2_with fail;exact jb rfl rfl (p+1+1) 0 rfl [.int .i64 0,.int .i64 0,.slice none 0 0] _ (js P.1.1) underlying30 rfl (by kernel_rfl) _ rfl ⟨_,by rw [B.1];rfl,by rw [B.1];exact OwnS.nil _ _,P.1.2.1⟩
 by_cases h2:1099511627776<c
 ·
  have B:=Hd (show D=(12,yh) from E.1.trans (if_pos (.inr (by omega))))
  clear E;have z0:w2.cell? ⟨p+1+1,0,none⟩=some (.int .i64 0):=H.1.bz.cell 0 _ rfl;have y0:=H.1.bz.free 0;have z1:w2.cell? ⟨p+1+1,1,none⟩=some (.int .i64 0):=H.1.bz.cell 1 _ rfl;have y1:=H.1.bz.free 1;have z2:w2.cell? ⟨p+1+1,2,none⟩=some (.slice none 0 0):=H.1.bz.cell 2 _ rfl;have y2:=H.1.bz.free 2;have P:=Hd (H.1.fill 0 0 (.slice none 0 0));clear H;go_wp2_with fail;exact jb rfl rfl (p+1+1) 0 rfl [.int .i64 0,.int .i64 0,.slice none 0 0] _ (js P.1.1) underlying30 rfl (by kernel_rfl) _ rfl ⟨_,by rw [B.1];rfl,by rw [B.1];exact OwnS.nil _ _,P.1.2.1⟩
 obtain ⟨C,hC⟩:=Nm (c+e.ticks);have e5:IntKind.i64.wrap (c+e.ticks)=C:=by rw [hC];simp [IntKind.wrap,IntKind.bits,IntKind.signed];omega
 have HC:=Hd hC;have Hx:=Hd e5;clear hC;by_cases h3:1099511627776<C
 ·
  have B:=Hd (show D=(12,yh) from E.1.trans (if_pos (.inr (by have:=HC.1;omega))))
  clear E;have z0:w2.cell? ⟨p+1+1,0,none⟩=some (.int .i64 0):=H.1.bz.cell 0 _ rfl;have y0:=H.1.bz.free 0;have z1:w2.cell? ⟨p+1+1,1,none⟩=some (.int .i64 0):=H.1.bz.cell 1 _ rfl;have y1:=H.1.bz.free 1;have z2:w2.cell? ⟨p+1+1,2,none⟩=some (.slice none 0 0):=H.1.bz.cell 2 _ rfl;have y2:=H.1.bz.free 2;have P:=Hd (H.1.fill 0 0 (.slice none 0 0));clear H;go_wp2_with fail;exact jb rfl rfl (p+1+1) 0 rfl [.int .i64 0,.int .i64 0,.slice none 0 0] _ (js P.1.1) underlying30 rfl (by kernel_rfl) _ rfl ⟨_,by rw [B.1];rfl,by rw [B.1];exact OwnS.nil _ _,P.1.2.1⟩
 have B:=Hd (show D=(0,⟨C,b,jx (fun s=>decide (s.deadline≤C)) l⟩) by
  rw [HC.1];exact E.1.trans (if_neg (fun h=>by have:=HC.1;omega)))
 clear E g0 g1;have A0:=Hd (show p+3≤w2.heap.size from H.1.bz.lt)
 go_wp2_with fail;clear e5 h3 h1 h2 e14 c0 c1 c2 k0 hk0 a5
 go_loopg [6,12] n (fun gk ov iv wr=>∃ (k:Nat) (gl:List Bool),gk+k=n∧iv=.int .i64 (k:Int)∧((l.take k).map (fun s=>decide (s.deadline≤C))=gl∧gl.length=k∧(k=0→ov=.slice none 0 0))∧OwnB wr (p+3) ov gl∧Mod (fun i=>p+3≤i) w2 wr)
 case atStart=>exact ⟨0,[],Nat.add_zero _,rfl,⟨rfl,rfl,fun _=>rfl⟩,OwnB.nil _ _,Mod.refl _ _⟩
 case round =>
  obtain ⟨k,gl,d1,rfl,d2,b3,b4⟩:=hrel;have M:=Hd d2;have k0:(0:Int)≤(k:Int):=by omega
  have R:=Hd d1;have A:=Hd (H.1.mod3 b4 N.1);have Y:=Hd b4;have Z:=Hd b3;have H7:=Hd (show p+3≤wr.heap.size from A.1.bz.lt)
  have c2:wr.cell? ⟨p,2,none⟩=some (.slice a n cap):=A.1.bx.cell 2 _ rfl;clear d1 b4 b3 d2;by_cases hk:k<n
  ·
   have k1:(k:Int)<(n:Int):=by omega
   have b5:k<l.length:=by have:=HN.1;omega
   obtain ⟨s,hs⟩:=Nm (l[k]);obtain ⟨rb,ro,b6,a0⟩:=N.1.row k b5;subst b6;rw [← hs] at a0;have b7:rb<p:=by rw [HP.1];exact World.block_lt_of_cell? w _ (a0 0 _ rfl)
   have Hm:=Hd (show (l.take (k+1)).map (fun s=>decide (s.deadline≤C))=gl ++ [(fun s=>decide (s.deadline≤C)) s] by rw [hs,← M.1.1];exact jgl b5)
   have HR:=Hd (And.intro (jf A.1.self (a0 10 _ rfl)) b7);have H8:=Hd c2;have Hn:=Hd (show wr.cell? ⟨p,0,none⟩=some (.int .i64 c) from A.1.bx.cell 0 _ rfl)
   have Hy:=Hd (show wr.cell? ⟨p+1,14,none⟩=some (.int .i64 e.ticks) from A.1.be.cell 14 _ rfl)
   have HK:=Hd hk;have Ho:=Hd (show gl.length+1≤1256584717458 by have:=H5.1;have:=M.1.2.1;omega)
   obtain ⟨ga,gc,rfl,_⟩:=Z.1.slice;clear a0 b7 hs hk b5;go_wp2_with fail;clear c2;refine wp_region_held_drew (S:=fun W=>Mod (fun i=>p+3≤i) wr W) (by kernel_rfl) (Mod.drew _ wr) (fun c9=>?_)
   refine Tk 0 102 ?_;refine Tk 1 103 ?_;refine Tk 2 104 ?_ (hy:=by intro w' a1;have u1:=xN a1 H8.1 (fun h=>by have h3:p+3≤p:=h;omega);clear a1;go_simp;try with_reducible rfl)
   refine Tk 3 105 ?_;refine Tk 4 106 ?_;refine Tk 5 107 ?_;refine Tk 6 108 ?_ (hy:=by intro w' a1;have u1:=xN a1 HR.1.1 (fun h=>by have h3:p+3≤rb:=h;have:=HR.1.2;omega);clear a1;go_simp;try with_reducible rfl)
   refine Tk 7 109 ?_;refine Tk 8 110 ?_ (hy:=by intro w' a1;have u1:=xN a1 Hn.1 (fun h=>by have h3:p+3≤p+0:=h;omega);clear a1;go_simp;try with_reducible rfl)
   refine Tk 9 111 ?_;refine Tk 10 112 ?_ (hy:=by intro w' a1;have u1:=xN a1 Hy.1 (fun h=>by have h3:p+3≤p+1:=h;omega);clear a1;go_simp;try with_reducible rfl)
   refine Tk 11 113 ?_ (hy:=by intro w' a1;have u1:=Hx.1;clear a1;go_simp;try with_reducible rfl)
   refine Tk 12 114 ?_;refine wpAnyH_ready (rs := [13]) (by kernel_rfl) (by simp) (AllReadyH.cons (o:=⟨some 115,.buildSlice _ 1 _,_,_,_,_⟩) rfl (fun K hK=>?_) AllReadyH.nil)
   go_simp
   have b8:=(ja wr (.cells #[.bool (decide (s.deadline≤C))] 4)).trans ((jd (wr.alloc (.cells #[.bool (decide (s.deadline≤C))] 4))).mono (ja wr _).size);refine hK.out _ _ (Mod.of_below b8) (fun a2=>?_)
   have H0:=Hd (Z.1.below b8);have H9:=Hd (show (wr.alloc (.cells #[.bool (decide (s.deadline≤C))] 4)).drew.cell? ⟨wr.heap.size,0,none⟩=some (.bool (decide (s.deadline≤C))) from (Box.new wr #[.bool (decide (s.deadline≤C))] 4).cell 0 _ rfl)
   have H1:=Hd (Nat.le_trans H7.1 a2.size);clear hK K c9 b8
   try simp only [Nz]
   refine Rc 14 116 fun K hK=>?_
   rw [if_pos (by kernel_rfl)]
   refine jhm (.tmp 102) (.tmp 115) rfl (p+3) _ _ rfl H0.1 wr.heap.size 1 (decide (s.deadline≤C)) rfl H9.1 Ho.1 H1.1 ?_;intro v' w7 a4 d3;have b9:=a2.trans (zB d3 (fun k hk=>(H0.1.lt k hk).1) H1.1)
   refine hK.out _ _ b9 (fun c3=>?_)
   have V:=Hd a4;have Hp:=Hd (Y.1.trans b9);obtain ⟨ga2,gc2,a9,_⟩:=a4.slice;rw [List.length_append,List.length_singleton] at a9;subst a9;clear hK K a4 d3 b9 H0 H9 a2
   try simp only [Nz]
   refine Tk 15 6 ?_;refine Dn ?_;clear c3 A Y Z HR H8 H1;go_wp2_with fail
   go_roundg (n-(k+1))
   case measure=>have:=R.1;have:=HK.1;omega
   case rel=>exact ⟨k+1,_,by have:=R.1;have:=HK.1;omega,by go_num,⟨Hm.1,by rw [List.length_append,List.length_singleton,M.1.2.1],fun h=>by cases h⟩,V.1,Hp.1⟩
  ·
   have k1:¬ (k:Int)<(n:Int):=by omega
   have Ha:=Hd (show gl=l.map (fun s=>decide (s.deadline≤C)) by
    have h:=M.1.1;rw [List.take_of_length_le (by have:=HN.1;omega)] at h
    exact h.symm)
   have Q:=Hd Z.1;have c0:wr.cell? ⟨p,0,none⟩=some (.int .i64 c):=A.1.bx.cell 0 _ rfl;have c1:wr.cell? ⟨p,1,none⟩=some (.int .i64 b):=A.1.bx.cell 1 _ rfl;have O:=Hd (show ∀ k,(Value.slice a n cap).ownBlock=some k→(u6:Value).ownBlock≠some k from fun k1 a5 c4=>by
    have h3:=(Q.1.lt k1 c4).1;by_cases h0:0<l.length
    ·
     obtain ⟨rb,ro,b6,a0⟩:=N.1.row 0 h0;have b7:rb<p:=by rw [HP.1];exact World.block_lt_of_cell? w _ (a0 0 _ rfl)
     rw [b6] at a5;have e:rb=k1:=by injection a5
     omega
    ·
     rw [M.1.2.2 (by have:=HN.1;have:=R.1;omega)] at c4
     cases c4)
   obtain ⟨ga,gc,rfl,_⟩:=Q.1.slice;have Hb:=Hd (Hc.1 (fun s=>decide (s.deadline≤C)) (.slice a n cap) _ _ (p+3) wr A.1.rs Q.1 (by rw [Ha.1];exact jgc) O.1)
   clear hk R Y Z H7 M;go_wp2_with fail;refine Hb.1.mono ?_;rintro ev w5 ⟨o,rfl,ho,d4⟩;have c5:Mod (fun i=>p+3≤i) wr w5:=d4.mono (fun i hi=>by
    rcases hi with h | h
    · have:=A.1.bz.lt;omega
    · exact (Q.1.lt i h).1)
   have J:=Hd (A.1.mod3 c5 N.1);obtain ⟨va,vc,rfl,_⟩:=ho.slice;have H2:=Hd (ho.base (base':=p+3) (show p+3≤wr.heap.size from A.1.bz.lt))
   clear ho d4 c5 Hb A c0 c1 c2 Q O Ha;obtain ⟨L,hL⟩:=Nm ((jx (fun s=>decide (s.deadline≤C)) l).length)
   rw [← hL] at H2 ⊢;have b2:=Box.new w5 #[.int .i64 c,.int .i64 b,.slice va L vc] 30;have c6:=ja w5 (.cells #[.int .i64 c,.int .i64 b,.slice va L vc] 30);have a6:=ja w5 (.cells #[.int .i64 C,.int .i64 b,.slice va L vc] 30);have c0:(w5.alloc (.cells #[.int .i64 c,.int .i64 b,.slice va L vc] 30)).cell? ⟨p,0,none⟩=some (.int .i64 c):=(J.1.below c6).bx.cell 0 _ rfl;have e14:(w5.alloc (.cells #[.int .i64 c,.int .i64 b,.slice va L vc] 30)).cell? ⟨p+1,14,none⟩=some (.int .i64 e.ticks):=(J.1.below c6).be.cell 14 _ rfl;have q0:(w5.alloc (.cells #[.int .i64 c,.int .i64 b,.slice va L vc] 30)).cell? ⟨w5.heap.size,0,none⟩=some (.int .i64 c):=b2.cell 0 _ rfl;have f0:=b2.free 0;have hX:=Box.new w5 #[.int .i64 C,.int .i64 b,.slice va L vc] 30;have I:=Hd (J.1.below a6);have U:=Hd (H2.1.below a6);have x0:(w5.alloc (.cells #[.int .i64 C,.int .i64 b,.slice va L vc] 30)).cell? ⟨w5.heap.size,0,none⟩=some (.int .i64 C):=hX.cell 0 _ rfl;have x1:(w5.alloc (.cells #[.int .i64 C,.int .i64 b,.slice va L vc] 30)).cell? ⟨w5.heap.size,1,none⟩=some (.int .i64 b):=hX.cell 1 _ rfl;have x2:(w5.alloc (.cells #[.int .i64 C,.int .i64 b,.slice va L vc] 30)).cell? ⟨w5.heap.size,2,none⟩=some (.slice va L vc):=hX.cell 2 _ rfl;have z0:(w5.alloc (.cells #[.int .i64 C,.int .i64 b,.slice va L vc] 30)).cell? ⟨p+1+1,0,none⟩=some (.int .i64 0):=I.1.bz.cell 0 _ rfl;have y0:=I.1.bz.free 0;have z1:(w5.alloc (.cells #[.int .i64 C,.int .i64 b,.slice va L vc] 30)).cell? ⟨p+1+1,1,none⟩=some (.int .i64 0):=I.1.bz.cell 1 _ rfl;have y1:=I.1.bz.free 1;have z2:(w5.alloc (.cells #[.int .i64 C,.int .i64 b,.slice va L vc] 30)).cell? ⟨p+1+1,2,none⟩=some (.slice none 0 0):=I.1.bz.cell 2 _ rfl;have y2:=I.1.bz.free 2;have e5:=Hx.1;have a3:=I.1.fill C b (.slice va L vc);have d5:=(U.1.mod a3.2.2 (fun k hk e=>by have:=(U.1.lt k hk).1;omega)).base (base':=w.heap.size) (by have:=I.1.e0;omega)
   have X:=Hd (And.intro a3.1 (And.intro d5 a3.2.1));have HL:=Hd hL;clear a3 d5 H2 J U I b2 c6 a6 hX hL;go_wp2_with fail;exact jb rfl rfl (p+1+1) 0 rfl [.int .i64 C,.int .i64 b,.slice va L vc] _ (js X.1.1) underlying30 rfl (by kernel_rfl) _ rfl ⟨_,by rw [B.1];rfl,by rw [B.1];exact X.1.2.1,X.1.2.2⟩
end Go.Proofs.YtgcnolapjppbpaaGreatDoor
