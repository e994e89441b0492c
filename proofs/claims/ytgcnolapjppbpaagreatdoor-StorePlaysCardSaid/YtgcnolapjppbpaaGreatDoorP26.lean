/-
  Texts of one proof, one behind the other.
-/
import Derived.Test.YtgcnolapjppbpaaGreatDoorP24
import Derived.Test.YtgcnolapjppbpaaGreatDoorP25
import Derived.Test.YtgcnolapjppbpaaGreatDoorP00
namespace Go.Proofs.YtgcnolapjppbpaaGreatDoor
open Go.RowKit _root_.Go.Proofs.Tryz
set_option maxRecDepth 100000
set_option maxHeartbeats 25600000
theorem Mod.set3 (b:Nat)(w:World)(x y z:Value):Mod (fun i=>i=b) w (((w.setCell ⟨b,0,none⟩ x).setCell ⟨b,1,none⟩ y).setCell ⟨b,2,none⟩ z) :=
 ((Mod.set (fun i=>i=b) w ⟨b,0,none⟩ x rfl).trans (Mod.set (fun i=>i=b) _ ⟨b,1,none⟩ y rfl)).trans (Mod.set (fun i=>i=b) _ ⟨b,2,none⟩ z rfl)
theorem jfe {n:Int}(h:n≠0):jo n=.iface 91 (.int .i64 n):=by unfold jo;rw [if_neg h]
theorem EvtM.cellsE (e:EvtM):e.cells=#[.int .i64 e.kind,.int .i64 e.s.slot,.int .i64 e.s.birth,.int .i64 e.s.upS,.int .i64 e.s.upB,.int .i64 e.s.kind,.string (SB e.s.user),.string (SB e.s.label),.int .u64 (e.s.scopes:Int),.int .i64 e.s.level,.int .i64 e.s.born,.int .i64 e.s.deadline,.int .i64 e.s.depth,.int .i64 e.birth,.int .i64 e.ticks]:=rfl
theorem Box.rangeV {w:World}{b:Nat}{e:EvtM}{t:TypeId}(h:Box w b e.cells t):w.rangeAt b 0 e.cells.toList:=h.range 0 _ (fun j v hv=>by rw [Nat.zero_add];simpa using hv)
theorem Box.rangeB {w:World}{b:Nat}{e:EvtM}{t:TypeId}(h:Box w b e.cells t):w.rangeAt b 1 e.s.cells.toList:=h.range 1 _ (fun j v hv=>by
 have hj:j<12:=(List.getElem?_eq_some_iff.1 hv).1;have h1:e.cells.toList[1+j]?=e.s.cells.toList[j]?:=by
  rcases j with _ | _ | _ | _ | _ | _ | _ | _ | _ | _ | _ | _ | j
  all_goals first | rfl | omega
 rw [← Array.getElem?_toList,h1];exact hv)
structure ApS (w0 w:World)(p:Nat)(c b:Int)(v:Value)(e:EvtM)(l:List SesM):Prop where
 bx:Box w p #[.int .i64 c,.int .i64 b,v] 30
 be:Box w (p+1) e.cells 47
 bz:Box w (p+1+1) #[.int .i64 0,.int .i64 0,.slice none 0 0] 30
 rs:RdS w v l
 bel:Below p w0 w
 e0:p=w0.heap.size
theorem ApS.below {w0 w w':World}{p:Nat}{c b:Int}{v:Value}{e:EvtM}{l:List SesM}(h:ApS w0 w p c b v e l)(hb:Below w.heap.size w w'):ApS w0 w' p c b v e l :=
 ⟨h.bx.below hb,h.be.below hb,h.bz.below hb,h.rs.below hb,h.bel.trans (hb.mono (by have:=h.bx.lt;omega)),h.e0⟩
theorem ApS.self {w0 w:World}{p:Nat}{c b:Int}{v:Value}{e:EvtM}{l:List SesM}(h:ApS w0 w p c b v e l):Below w0.heap.size w0 w:=by have:=h.bel;rwa [h.e0] at this
theorem ApS.fill {w0 w:World}{p:Nat}{c b:Int}{v:Value}{e:EvtM}{l:List SesM}(h:ApS w0 w p c b v e l)(c' b':Int)(x:Value) :
  Box (((w.setCell ⟨p+1+1,0,none⟩ (.int .i64 c')).setCell ⟨p+1+1,1,none⟩ (.int .i64 b')).setCell ⟨p+1+1,2,none⟩ x) (p+1+1) #[.int .i64 c',.int .i64 b',x] 30∧Below w0.heap.size w0 (((w.setCell ⟨p+1+1,0,none⟩ (.int .i64 c')).setCell ⟨p+1+1,1,none⟩ (.int .i64 b')).setCell ⟨p+1+1,2,none⟩ x) ∧
  Mod (fun i=>i=p+1+1) w (((w.setCell ⟨p+1+1,0,none⟩ (.int .i64 c')).setCell ⟨p+1+1,1,none⟩ (.int .i64 b')).setCell ⟨p+1+1,2,none⟩ x):=by
 have hm:Mod (fun i=>i=p+1+1) w (((w.setCell ⟨p+1+1,0,none⟩ (.int .i64 c')).setCell ⟨p+1+1,1,none⟩ (.int .i64 b')).setCell ⟨p+1+1,2,none⟩ x):=Mod.set3 _ _ _ _ _
 exact ⟨((h.bz.set 0 (.int .i64 c')).set 1 (.int .i64 b')).set 2 x,h.self.trans (hm.below h.self.size (fun i hi=>by have:=h.e0;omega)),hm⟩
theorem js {w:World}{b:Nat}{c d:Int}{x:Value}{t:TypeId}(h:Box w b #[.int .i64 c,.int .i64 d,x] t):w.rangeAt b 0 [.int .i64 c,.int .i64 d,x]:=h.range 0 _ (fun j v hv=>by rw [Nat.zero_add];simpa using hv)
theorem jkY (eb:Nat)(b:Int)(w:World)(hc:w.cell? ⟨eb,13,none⟩=some (.int .i64 b)):TestF 61 ⟨eb,0,none⟩ (fun s=>s.birth==b) w :=
 ⟨fun _ _=>by kernel_rfl,fun s w' hb=>jeF s eb b w' (jf hb hc)⟩
theorem jkM (eb:Nat)(b:Int)(w:World)(hc:w.cell? ⟨eb,13,none⟩=some (.int .i64 b)):TestF 63 ⟨eb,0,none⟩ (fun s=>s.birth==b) w :=
 ⟨fun _ _=>by kernel_rfl,fun s w' hb=>jeW s eb b w' (jf hb hc)⟩
theorem jkT (eb:Nat)(b:Int)(w:World)(hc:w.cell? ⟨eb,0,none⟩=some (.int .i64 b)):TestF 64 ⟨eb,0,none⟩ (fun s=>decide (s.deadline≤b)) w :=
 ⟨fun _ _=>by kernel_rfl,fun s w' hb=>jeT s eb b w' (jf hb hc)⟩
theorem jbS (st:StM)(e:EvtM)(v:Value)(w:World)(hv:RdS w v st.l)(hn:st.l.length≤1000000000)(hu:e.s.user.length≤9223372036854775807)(hl:e.s.label.length≤9223372036854775807)(d3:e.s.scopes<2 ^ 64) :
  Calls prog 37 #[.agg #[.int .i64 st.clock,.int .i64 st.births,v],.agg e.cells] w fun ev w'=>∃ o,ev=.returned (.tuple #[.agg #[.int .i64 (jH st e).2.clock,.int .i64 (jH st e).2.births,o],jo (jH st e).1])∧OwnS w' w.heap.size o (jH st e).2.l∧Below w.heap.size w w':=by
 have H3:=Hd (fun w=>jbq e w hu hl d3)
 obtain ⟨D,hD⟩:=Nm (jH st e);rw [← hD];unfold jH at hD;have S:=Hd (fun v' w' h=>jdH st e.s v' w' h)
 have Y:=Hd hn;obtain ⟨c,b,l⟩:=st;simp only at hv hD S Y ⊢;have H4:=Hd hv;obtain ⟨a,cap,rfl,d5,d9⟩:=hv.slice;have d6:l.length≤9223372036854775807:=by omega
 have HD:=Hd hD;clear hD d5 hn hu hl d3;have H5:=Hd e.cellsE;have c9:ApS w (((w.alloc (.cells #[.int .i64 c,.int .i64 b,.slice a l.length cap] 30)).alloc (.cells e.cells 47)).alloc (.cells #[.int .i64 0,.int .i64 0,.slice none 0 0] 30)) w.heap.size c b (.slice a l.length cap) e l:=by
  have h1:=Box.new w #[.int .i64 c,.int .i64 b,.slice a l.length cap] 30;have h2:=Box.new (w.alloc (.cells #[.int .i64 c,.int .i64 b,.slice a l.length cap] 30)) e.cells 47;have h3:=Box.new ((w.alloc (.cells #[.int .i64 c,.int .i64 b,.slice a l.length cap] 30)).alloc (.cells e.cells 47)) #[.int .i64 0,.int .i64 0,.slice none 0 0] 30;rw [World.size_alloc] at h2;rw [World.size_alloc,World.size_alloc] at h3;have b2:=(jn w (.cells #[.int .i64 c,.int .i64 b,.slice a l.length cap] 30) (.cells e.cells 47)).trans ((ja ((w.alloc (.cells #[.int .i64 c,.int .i64 b,.slice a l.length cap] 30)).alloc (.cells e.cells 47)) (.cells #[.int .i64 0,.int .i64 0,.slice none 0 0] 30)).mono (jn w _ _).size);exact ⟨(h1.below (ja _ _)).below (ja _ _),h2.below (ja _ _),h3,hv.below b2,b2,rfl⟩
 obtain ⟨n,hN⟩:=Nm (l.length);rw [← hN] at d6 c9 H4 ⊢;have HN:=Hd hN;have H1:=Hd c9.be.rangeV;have T:=Hd c9;clear hv hN c9;rw [H5.1];rw [show (((w.alloc (.cells #[.int .i64 c,.int .i64 b,.slice a n cap] 30)).alloc (.cells e.cells 47)).alloc (.cells #[.int .i64 0,.int .i64 0,.slice none 0 0] 30))=((w.alloc (.cells #[.int .i64 c,.int .i64 b,.slice a n cap] 30)).alloc (.cells #[.int .i64 e.kind,.int .i64 e.s.slot,.int .i64 e.s.birth,.int .i64 e.s.upS,.int .i64 e.s.upB,.int .i64 e.s.kind,.string (SB e.s.user),.string (SB e.s.label),.int .u64 (e.s.scopes:Int),.int .i64 e.s.level,.int .i64 e.s.born,.int .i64 e.s.deadline,.int .i64 e.s.depth,.int .i64 e.birth,.int .i64 e.ticks] 47)).alloc (.cells #[.int .i64 0,.int .i64 0,.slice none 0 0] 30) from rfl] at T H1
 go_enter func37,ntmps37
 go_wp2_with ((with_reducible refine je ?L1a 47 (.tmp 3) ?L1b (w.heap.size+1) (0) ?L1c e.cells.toList _ H1.1 underlying47 ?L1d ?L1e ?L1f);(case L1b=>rfl);(case L1a=>rfl);(case L1c=>rfl);(case L1d=>rfl);(case L1e=>kernel_rfl))
 intro cv b7;have ecv:cv=e.cells:=by rw [b7.out]
 subst ecv;clear b7 H1 H5;generalize hw1:World.alloc _ _=w1 at T ⊢;clear hw1;obtain ⟨p,hp⟩:=Nm (w.heap.size);rw [← hp] at T ⊢;have HP:=Hd hp;clear hp;go_wp2_with fail;refine (H3.1 _).mono ?_;rintro ev w2 ⟨o,rfl,ho,d4⟩;have H:=Hd (T.1.below d4);obtain ⟨oa,oc,rfl,_⟩:=ho.slice;clear ho d4 T H3
 cases hmay:yb e
 ·
  have hn:ue e=1:=by unfold ue;rw [hmay];rfl
  have H6:=Hd (show D=(1,yh) by rw [HD.1,hmay];rfl)
  rw [hn,show jo 1=.iface 91 (.int .i64 1) from rfl]
  clear hn HD hmay;have z0:w2.cell? ⟨p+1+1,0,none⟩=some (.int .i64 0):=H.1.bz.cell 0 _ rfl;have y0:=H.1.bz.free 0;have z1:w2.cell? ⟨p+1+1,1,none⟩=some (.int .i64 0):=H.1.bz.cell 1 _ rfl;have y1:=H.1.bz.free 1;have z2:w2.cell? ⟨p+1+1,2,none⟩=some (.slice none 0 0):=H.1.bz.cell 2 _ rfl;have y2:=H.1.bz.free 2;have O:=Hd (H.1.fill 0 0 (.slice none 0 0));clear H;go_wp2_with fail;exact jb rfl rfl (p+1+1) 0 rfl [.int .i64 0,.int .i64 0,.slice none 0 0] _ (js O.1.1) underlying30 rfl (by kernel_rfl) _ rfl ⟨_,by rw [H6.1];rfl,by rw [H6.1];exact OwnS.nil _ _,O.1.2.1⟩
 have hn:ue e=0:=by unfold ue;rw [hmay];rfl
 rw [hn,show jo 0=.nilIface from rfl]
 have Q:=Hd (HD.1.trans (by rw [hmay,if_pos rfl]))
 have R:=Hd hmay;clear hn hmay HD;have k0:w2.cell? ⟨p+1,0,none⟩=some (.int .i64 e.kind):=H.1.be.cell 0 _ rfl
 cases hk0:(e.kind==0)
 rotate_left
 ·
  have I:=Hd (Q.1.trans (if_pos (beq_iff_eq.1 hk0)));clear Q R;have c0:w2.cell? ⟨p,0,none⟩=some (.int .i64 c):=H.1.bx.cell 0 _ rfl;have c1:w2.cell? ⟨p,1,none⟩=some (.int .i64 b):=H.1.bx.cell 1 _ rfl;have c2:w2.cell? ⟨p,2,none⟩=some (.slice a n cap):=H.1.bx.cell 2 _ rfl;have Z:=Hd H.1.be.rangeB
  go_wp2_with ((with_reducible refine je ?L2a 45 (.tmp 23) ?L2b (p+1) (1) ?L2c e.s.cells.toList _ Z.1 underlying45 ?L2d ?L2e ?L2f);(case L2b=>rfl);(case L2a=>rfl);(case L2c=>rfl);(case L2d=>rfl);(case L2e=>kernel_rfl))
  intro cv b7;have ecv:cv=e.s.cells:=by rw [b7.out]
  subst ecv;clear b7;go_wp2_with fail;refine (S.1 _ _ H.1.rs).mono ?_;rintro ev w3 ⟨rfl,b2⟩;have A:=Hd (H.1.below b2);clear b2 H Z S c0 c1 c2 k0;by_cases hr:jaJ ⟨c,b,l⟩ e.s=0;rotate_left
  ·
   rw [jfe hr];have HR:=Hd hr;have B:=Hd (I.1.trans (if_neg hr));generalize jaJ ⟨c,b,l⟩ e.s=er at *;clear hr I;have z0:w3.cell? ⟨p+1+1,0,none⟩=some (.int .i64 0):=A.1.bz.cell 0 _ rfl;have y0:=A.1.bz.free 0;have z1:w3.cell? ⟨p+1+1,1,none⟩=some (.int .i64 0):=A.1.bz.cell 1 _ rfl;have y1:=A.1.bz.free 1;have z2:w3.cell? ⟨p+1+1,2,none⟩=some (.slice none 0 0):=A.1.bz.cell 2 _ rfl;have y2:=A.1.bz.free 2;have O:=Hd (A.1.fill 0 0 (.slice none 0 0));clear A;go_wp2_with fail;exact jb rfl rfl (p+1+1) 0 rfl [.int .i64 0,.int .i64 0,.slice none 0 0] _ (js O.1.1) underlying30 rfl (by kernel_rfl) _ rfl ⟨_,by rw [B.1,jfe HR.1];rfl,by rw [B.1];exact OwnS.nil _ _,O.1.2.1⟩
  have B:=Hd (I.1.trans (if_pos hr));obtain ⟨W,hW⟩:∃ W,IntKind.i64.wrap (b+1)=W:=⟨_,rfl⟩;rw [hW] at B;rw [hr,show jo 0=.nilIface from rfl]
  have H0:=Hd (show l.length+1≤1256584717458 by have:=Y.1;omega)
  clear hr I hk0;have c2:w3.cell? ⟨p,2,none⟩=some (.slice a n cap):=A.1.bx.cell 2 _ rfl;have c1:w3.cell? ⟨p,1,none⟩=some (.int .i64 b):=A.1.bx.cell 1 _ rfl;have f1:=A.1.bx.free 1;have f2:=A.1.bx.free 2;have HC:=Hd (And.intro c2 f2);have Z:=Hd A.1.be.rangeB;clear c1 f1 c2 f2;go_wp2_with fail;refine yy 8 (F:=fun W=>Below w3.heap.size w3 W) (by kernel_rfl) (jd w3) (fun a5=>?_)
  refine Tl 0 30 ?_;refine Tl 1 31 ?_ (hy:=by intro w' d0;have q2:=jf d0 HC.1.1;clear d0;go_simp;try with_reducible rfl)
  refine Tl 3 33 ?_;refine Tl 4 34 ?_ (v:=.agg e.s.cells) (hy:=fun w' d0=>jO 45 (.tmp 33) rfl (p+1) (1) rfl (e.s.cells).toList _ (fun j v hv=>jf d0 (Z.1 j v hv)) underlying45 rfl (by kernel_rfl))
  refine jM (rs := [2,5]) (by kernel_rfl) (by simp) (AllReadyL.cons (o:=⟨some 32,.call _,_,_,_,_⟩) rfl (fun K hK=>?_) (AllReadyL.cons (o:=⟨some 35,.buildSlice _ 1 _,_,_,_,_⟩) rfl (fun K hK=>?_) AllReadyL.nil))
  ·
   go_simp
   refine (vO (.slice a n cap) l _ (A.1.rs.below a5) (by have:=H0.1;omega)).mono ?_
   rintro ev w5 ⟨o,rfl,ho,b3⟩;refine hK.out _ _ (a5.trans (b3.mono a5.size)) (fun a1=>?_)
   have L:=Hd (ho.base (base':=w3.heap.size) a5.size);clear hK K ho b3 a5
   try simp only [Nz]
   refine jM (rs := [5]) (by kernel_rfl) (by simp) (AllReadyL.cons (o:=⟨some 35,.buildSlice _ 1 _,_,_,_,_⟩) rfl (fun K hK=>?_) AllReadyL.nil)
   rw [if_pos (by kernel_rfl)]
   refine uk (.tmp 34) rfl e.s rfl ?_;refine hK.out _ _ (a1.trans ((ja w5 _).mono a1.size)) (fun a0=>?_)
   have U:=Hd (L.1.below (ja w5 (.cells e.s.cells 45)));have P:=Hd (yY w5 e.s 45);clear hK K a1 L
   try simp only [Nz]
   generalize w5.alloc (.cells e.s.cells 45)=w6 at U P a0 ⊢;generalize w5.heap.size=nb at P ⊢;refine jM (rs := [6]) (by kernel_rfl) (by simp) (AllReadyL.cons (o:=⟨some 36,.call _,_,_,_,_⟩) rfl (fun K hK=>?_) AllReadyL.nil)
   rw [if_pos (by kernel_rfl)]
   refine jbd (.tmp 32) (.tmp 35) rfl w3.heap.size _ l rfl U.1 ⟨nb,0,none⟩ 1 e.s rfl P.1 H0.1 a0.size ?_;intro v' w7 a7 b8 _;obtain ⟨va,vc,b9,_⟩:=a7.slice;rw [List.length_append,List.length_singleton] at b9;subst b9;have c3:=a0.trans (ji b8 a0.size (fun q hq=>(U.1.lt q hq).1))
   refine hK.out _ _ c3 (fun a4=>?_)
   have J:=Hd a7;clear hK K a7 b8 c3 U P a0
   try simp only [Nz]
   refine Tl 7 37 ?_;have q2:=jf a4 HC.1.1;have E:=Hd (A.1.below a4);have r2:=E.1.bx.free 2;refine jM (rs := [8]) (by kernel_rfl) (by simp) (AllReadyL.last rfl (o:=⟨none,.store _ _ _,_,_,_,_⟩) rfl (fun K hK=>?_))
   go_simp
   refine hK.out _ _ ?_;clear hK K a4 q2 r2
   try simp only [Nz]
   refine yR (by kernel_rfl) ?_ _
   have H8:=Hd A.1.bx.lt;have d1:p+1+1<w3.heap.size:=A.1.bz.lt;have a3:=Mod.set (fun i=>i=p) w7 ⟨p,2,none⟩ (.slice va (l.length+1) vc) rfl
   have a6:=(E.1.bx).set 2 (.slice va (l.length+1) vc);have a2:=E.1.bz.mod a3 (by omega)
   have b4:=J.1.mod a3 (fun k hk e=>by have:=(J.1.lt k hk).1;omega)
   have a9:=E.1.self.trans (a3.below E.1.self.size (fun i hi=>by have:=E.1.e0;omega))
   generalize World.setCell w7 _ _=w8 at a3 a6 a2 b4 a9 ⊢;have s0:w8.cell? ⟨p,0,none⟩=some (.int .i64 c):=a6.cell 0 _ rfl;have s1:w8.cell? ⟨p,1,none⟩=some (.int .i64 b):=a6.cell 1 _ rfl;have s2:w8.cell? ⟨p,2,none⟩=some (.slice va (l.length+1) vc):=a6.cell 2 _ rfl;have t1:=a6.free 1;have z0:w8.cell? ⟨p+1+1,0,none⟩=some (.int .i64 0):=a2.cell 0 _ rfl;have z1:w8.cell? ⟨p+1+1,1,none⟩=some (.int .i64 0):=a2.cell 1 _ rfl;have z2:w8.cell? ⟨p+1+1,2,none⟩=some (.slice none 0 0):=a2.cell 2 _ rfl;have y0:=a2.free 0;have y1:=a2.free 1;have y2:=a2.free 2;have b0:=Mod.set (fun i=>i=p) w8 ⟨p,1,none⟩ (.int .i64 W) rfl
   have c4:=a2.mod b0 (by omega)
   have c5:=b4.mod b0 (fun k hk e=>by have:=(J.1.lt k hk).1;omega)
   have b5:=a9.trans (b0.below a9.size (fun i hi=>by have:=E.1.e0;omega))
   have b6:=Mod.set3 (p+1+1) (w8.setCell ⟨p,1,none⟩ (.int .i64 W)) (.int .i64 c) (.int .i64 W) (.slice va (l.length+1) vc);have c6:=((c4.set 0 (.int .i64 c)).set 1 (.int .i64 W)).set 2 (.slice va (l.length+1) vc);have c7:=c5.mod b6 (fun k hk e=>by have:=(J.1.lt k hk).1;omega)
   have c8:=b5.trans (b6.below b5.size (fun i hi=>by have:=E.1.e0;omega))
   have a8:=c7.base (base':=w.heap.size) (by have:=E.1.e0;omega)
   have N:=Hd (And.intro c6 (And.intro a8 c8));clear a3 a6 a2 b4 a9 b0 c4 c5 b5 d1 J E b6 c6 c7 c8 a8;go_wp2_with fail;exact jb rfl rfl (p+1+1) 0 rfl [.int .i64 c,.int .i64 W,.slice va (l.length+1) vc] _ (js N.1.1) underlying30 rfl (by kernel_rfl) _ rfl ⟨_,by rw [B.1];rfl,by rw [B.1];exact N.1.2.1,N.1.2.2⟩
  rw [if_pos (by kernel_rfl)]
  refine uk (.tmp 34) rfl e.s rfl ?_;refine hK.out _ _ (a5.trans ((ja w3.drew _).mono a5.size)) (fun a1=>?_)
  have H7:=Hd (show ∀ j u,e.s.cells.toList[j]?=some u→(w3.drew.alloc (.cells e.s.cells 45)).cell? ((⟨w3.heap.size,0,none⟩:Addr).add j)=some u from yY w3.drew e.s 45)
  clear hK K a5
  try simp only [Nz]
  refine jM (rs := [2]) (by kernel_rfl) (by simp) (AllReadyL.cons (o:=⟨some 32,.call _,_,_,_,_⟩) rfl (fun K hK=>?_) AllReadyL.nil)
  go_simp
  refine (vO (.slice a n cap) l _ (A.1.rs.below a1) (by have:=H0.1;omega)).mono ?_
  rintro ev w6 ⟨o,rfl,ho,d2⟩;refine hK.out _ _ (a1.trans (d2.mono a1.size)) (fun a0=>?_)
  have U:=Hd (ho.base (base':=w3.heap.size) a1.size);have P:=Hd (fun j u hj=>jf d2 (H7.1 j u hj))
  clear hK K ho d2 a1 H7
  try simp only [Nz]
  refine jM (rs := [6]) (by kernel_rfl) (by simp) (AllReadyL.cons (o:=⟨some 36,.call _,_,_,_,_⟩) rfl (fun K hK=>?_) AllReadyL.nil)
  rw [if_pos (by kernel_rfl)]
  refine jbd (.tmp 32) (.tmp 35) rfl w3.heap.size _ l rfl U.1 ⟨w3.heap.size,0,none⟩ 1 e.s rfl P.1 H0.1 a0.size ?_;intro v' w7 a7 b8 _;obtain ⟨va,vc,b9,_⟩:=a7.slice;rw [List.length_append,List.length_singleton] at b9;subst b9;have c3:=a0.trans (ji b8 a0.size (fun q hq=>(U.1.lt q hq).1))
  refine hK.out _ _ c3 (fun a4=>?_)
  have J:=Hd a7;clear hK K a7 b8 c3 U P a0
  try simp only [Nz]
  refine Tl 7 37 ?_;have q2:=jf a4 HC.1.1;have E:=Hd (A.1.below a4);have r2:=E.1.bx.free 2;refine jM (rs := [8]) (by kernel_rfl) (by simp) (AllReadyL.last rfl (o:=⟨none,.store _ _ _,_,_,_,_⟩) rfl (fun K hK=>?_))
  go_simp
  refine hK.out _ _ ?_;clear hK K a4 q2 r2
  try simp only [Nz]
  refine yR (by kernel_rfl) ?_ _
  have H8:=Hd A.1.bx.lt;have d1:p+1+1<w3.heap.size:=A.1.bz.lt;have a3:=Mod.set (fun i=>i=p) w7 ⟨p,2,none⟩ (.slice va (l.length+1) vc) rfl
  have a6:=(E.1.bx).set 2 (.slice va (l.length+1) vc);have a2:=E.1.bz.mod a3 (by omega)
  have b4:=J.1.mod a3 (fun k hk e=>by have:=(J.1.lt k hk).1;omega)
  have a9:=E.1.self.trans (a3.below E.1.self.size (fun i hi=>by have:=E.1.e0;omega))
  generalize World.setCell w7 _ _=w8 at a3 a6 a2 b4 a9 ⊢;have s0:w8.cell? ⟨p,0,none⟩=some (.int .i64 c):=a6.cell 0 _ rfl;have s1:w8.cell? ⟨p,1,none⟩=some (.int .i64 b):=a6.cell 1 _ rfl;have s2:w8.cell? ⟨p,2,none⟩=some (.slice va (l.length+1) vc):=a6.cell 2 _ rfl;have t1:=a6.free 1;have z0:w8.cell? ⟨p+1+1,0,none⟩=some (.int .i64 0):=a2.cell 0 _ rfl;have z1:w8.cell? ⟨p+1+1,1,none⟩=some (.int .i64 0):=a2.cell 1 _ rfl;have z2:w8.cell? ⟨p+1+1,2,none⟩=some (.slice none 0 0):=a2.cell 2 _ rfl;have y0:=a2.free 0;have y1:=a2.free 1;have y2:=a2.free 2;have b0:=Mod.set (fun i=>i=p) w8 ⟨p,1,none⟩ (.int .i64 W) rfl
  have c4:=a2.mod b0 (by omega)
  have c5:=b4.mod b0 (fun k hk e=>by have:=(J.1.lt k hk).1;omega)
  have b5:=a9.trans (b0.below a9.size (fun i hi=>by have:=E.1.e0;omega))
  have b6:=Mod.set3 (p+1+1) (w8.setCell ⟨p,1,none⟩ (.int .i64 W)) (.int .i64 c) (.int .i64 W) (.slice va (l.length+1) vc);have c6:=((c4.set 0 (.int .i64 c)).set 1 (.int .i64 W)).set 2 (.slice va (l.length+1) vc);have c7:=c5.mod b6 (fun k hk e=>by have:=(J.1.lt k hk).1;omega)
  have c8:=b5.trans (b6.below b5.size (fun i hi=>by have:=E.1.e0;omega))
  have a8:=c7.base (base':=w.heap.size) (by have:=E.1.e0;omega)
  have N:=Hd (And.intro c6 (And.intro a8 c8));clear a3 a6 a2 b4 a9 b0 c4 c5 b5 d1 J E b6 c6 c7 c8 a8;go_wp2_with fail;exact jb rfl rfl (p+1+1) 0 rfl [.int .i64 c,.int .i64 W,.slice va (l.length+1) vc] _ (js N.1.1) underlying30 rfl (by kernel_rfl) _ rfl ⟨_,by rw [B.1];rfl,by rw [B.1];exact N.1.2.1,N.1.2.2⟩
 cases hk1:(e.kind==1)
 rotate_left
 ·
  have I:=Hd ((Q.1.trans (if_neg (fun h=>by rw [h] at hk0;cases hk0))).trans (if_pos (beq_iff_eq.1 hk1)))
  clear Q R S;have c2:w2.cell? ⟨p,2,none⟩=some (.slice a n cap):=H.1.bx.cell 2 _ rfl;have H2:=Hd (jch 61 ⟨p+1,0,none⟩ (fun s=>s.birth==e.birth) (.slice a n cap) l w2 H.1.rs (jkY (p+1) e.birth w2 (H.1.be.cell 13 _ rfl)))
  obtain ⟨r,hr⟩:=Nm (l.any (fun s=>s.birth==e.birth))
  rw [← hr] at H2 I;clear hr;go_wp2_with fail;refine H2.1.mono ?_;rintro ev w3 ⟨rfl,b2⟩;have A:=Hd (H.1.below b2);clear b2 H H2 c2 k0 hk0 hk1
  cases r
  ·
   have B:=Hd (show D=(16,yh) from I.1)
   clear I;have z0:w3.cell? ⟨p+1+1,0,none⟩=some (.int .i64 0):=A.1.bz.cell 0 _ rfl;have y0:=A.1.bz.free 0;have z1:w3.cell? ⟨p+1+1,1,none⟩=some (.int .i64 0):=A.1.bz.cell 1 _ rfl;have y1:=A.1.bz.free 1;have z2:w3.cell? ⟨p+1+1,2,none⟩=some (.slice none 0 0):=A.1.bz.cell 2 _ rfl;have y2:=A.1.bz.free 2;have O:=Hd (A.1.fill 0 0 (.slice none 0 0));clear A;go_wp2_with fail;exact jb rfl rfl (p+1+1) 0 rfl [.int .i64 0,.int .i64 0,.slice none 0 0] _ (js O.1.1) underlying30 rfl (by kernel_rfl) _ rfl ⟨_,by rw [B.1];rfl,by rw [B.1];exact OwnS.nil _ _,O.1.2.1⟩
  have B:=Hd (show D=(0,⟨c,b,jx (fun s=>s.birth==e.birth) l⟩) from I.1)
  clear I;have c0:w3.cell? ⟨p,0,none⟩=some (.int .i64 c):=A.1.bx.cell 0 _ rfl;have c1:w3.cell? ⟨p,1,none⟩=some (.int .i64 b):=A.1.bx.cell 1 _ rfl;have c2:w3.cell? ⟨p,2,none⟩=some (.slice a n cap):=A.1.bx.cell 2 _ rfl;have V:=Hd (uV 63 ⟨p+1,0,none⟩ (fun s=>s.birth==e.birth) ⟨c,b,l⟩ (.slice a n cap) w3 A.1.rs Y.1 (jkM (p+1) e.birth w3 (A.1.be.cell 13 _ rfl)))
  go_wp2_with fail;refine V.1.mono ?_;rintro ev w5 ⟨o,rfl,ho,b3⟩;have G:=Hd (A.1.below b3);obtain ⟨va,vc,rfl,_⟩:=ho.slice;have L:=Hd ho;have X:=Hd (show p+1+1<w3.heap.size from A.1.bz.lt)
  clear ho b3 V A c0 c1 c2;have z0:w5.cell? ⟨p+1+1,0,none⟩=some (.int .i64 0):=G.1.bz.cell 0 _ rfl;have y0:=G.1.bz.free 0;have z1:w5.cell? ⟨p+1+1,1,none⟩=some (.int .i64 0):=G.1.bz.cell 1 _ rfl;have y1:=G.1.bz.free 1;have z2:w5.cell? ⟨p+1+1,2,none⟩=some (.slice none 0 0):=G.1.bz.cell 2 _ rfl;have y2:=G.1.bz.free 2;have b1:=G.1.fill c b (.slice va (jx (fun s=>s.birth==e.birth) l).length vc)
  have a8:=(L.1.mod b1.2.2 (fun k hk e=>by have:=(L.1.lt k hk).1;have:=X.1;omega)).base (base':=w.heap.size) (by have:=G.1.e0;have:=X.1;omega)
  have N:=Hd (And.intro b1.1 (And.intro a8 b1.2.1));clear b1 a8 L G;go_wp2_with fail;exact jb rfl rfl (p+1+1) 0 rfl [.int .i64 c,.int .i64 b,.slice va (jx (fun s=>s.birth==e.birth) l).length vc] _ (js N.1.1) underlying30 rfl (by kernel_rfl) _ rfl ⟨_,by rw [B.1];rfl,by rw [B.1];exact N.1.2.1,N.1.2.2⟩
 obtain ⟨_,d7,d8⟩:=uJ R.1 hk0 hk1;have I:=Hd ((Q.1.trans (if_neg (fun h=>by rw [h] at hk0;cases hk0))).trans (if_neg (fun h=>by rw [h] at hk1;cases hk1)))
 clear Q R S;have c0:w2.cell? ⟨p,0,none⟩=some (.int .i64 c):=H.1.bx.cell 0 _ rfl;have e14:w2.cell? ⟨p+1,14,none⟩=some (.int .i64 e.ticks):=H.1.be.cell 14 _ rfl;have f0:=H.1.bx.free 0;by_cases h1:c<0
 ·
  have B:=Hd (show D=(12,yh) from I.1.trans (if_pos (.inl h1)))
  clear I;have z0:w2.cell? ⟨p+1+1,0,none⟩=some (.int .i64 0):=H.1.bz.cell 0 _ rfl;have y0:=H.1.bz.free 0;have z1:w2.cell? ⟨p+1+1,1,none⟩=some (.int .i64 0):=H.1.bz.cell 1 _ rfl;have y1:=H.1.bz.free 1;have z2:w2.cell? ⟨p+1+1,2,none⟩=some (.slice none 0 0):=H.1.bz.cell 2 _ rfl;have y2:=H.1.bz.free 2;have O:=Hd (H.1.fill 0 0 (.slice none 0 0));clear H;go_wp2_with fail;exact jb rfl rfl (p+1+1) 0 rfl [.int .i64 0,.int .i64 0,.slice none 0 0] _ (js O.1.1) underlying30 rfl (by kernel_rfl) _ rfl ⟨_,by rw [B.1];rfl,by rw [B.1];exact OwnS.nil _ _,O.1.2.1⟩
 obtain ⟨M,hM⟩:=Nm (1099511627776-e.ticks);have e1:IntKind.i64.wrap (1099511627776-e.ticks)=M:=by rw [hM];simp [IntKind.wrap,IntKind.bits,IntKind.signed];omega
 rw [← hM] at I;by_cases h2:M<c
 ·
  have B:=Hd (show D=(12,yh) from I.1.trans (if_pos (.inr h2)))
  clear I hM;have z0:w2.cell? ⟨p+1+1,0,none⟩=some (.int .i64 0):=H.1.bz.cell 0 _ rfl;have y0:=H.1.bz.free 0;have z1:w2.cell? ⟨p+1+1,1,none⟩=some (.int .i64 0):=H.1.bz.cell 1 _ rfl;have y1:=H.1.bz.free 1;have z2:w2.cell? ⟨p+1+1,2,none⟩=some (.slice none 0 0):=H.1.bz.cell 2 _ rfl;have y2:=H.1.bz.free 2;have O:=Hd (H.1.fill 0 0 (.slice none 0 0));clear H;go_wp2_with fail;exact jb rfl rfl (p+1+1) 0 rfl [.int .i64 0,.int .i64 0,.slice none 0 0] _ (js O.1.1) underlying30 rfl (by kernel_rfl) _ rfl ⟨_,by rw [B.1];rfl,by rw [B.1];exact OwnS.nil _ _,O.1.2.1⟩
 obtain ⟨C,hC⟩:=Nm (c+e.ticks);have e2:IntKind.i64.wrap (c+e.ticks)=C:=by rw [hC];simp [IntKind.wrap,IntKind.bits,IntKind.signed];omega
 have B:=Hd (show D=(0,⟨C,b,jx (fun s=>decide (s.deadline≤C)) l⟩) by rw [hC];exact I.1.trans (if_neg (fun h=>h.elim h1 h2)))
 clear I hM hC d7 d8;have a3:=Mod.set (fun i=>i=p) w2 ⟨p,0,none⟩ (.int .i64 C) rfl
 have A:=Hd (show ApS w (w2.setCell ⟨p,0,none⟩ (.int .i64 C)) p C b (.slice a n cap) e l from
  ⟨H.1.bx.set 0 (.int .i64 C),H.1.be.mod a3 (by omega),H.1.bz.mod a3 (by omega),H4.1.below (H.1.self.trans (a3.below H.1.self.size (fun i hi=>by have:=H.1.e0;omega))),H.1.bel.trans (a3.below (by have:=H.1.bx.lt;omega) (fun i hi=>by omega)),H.1.e0⟩)
 clear a3;have c0:(w2.setCell ⟨p,0,none⟩ (.int .i64 C)).cell? ⟨p,0,none⟩=some (.int .i64 C):=A.1.bx.cell 0 _ rfl;have c1:(w2.setCell ⟨p,0,none⟩ (.int .i64 C)).cell? ⟨p,1,none⟩=some (.int .i64 b):=A.1.bx.cell 1 _ rfl;have c2:(w2.setCell ⟨p,0,none⟩ (.int .i64 C)).cell? ⟨p,2,none⟩=some (.slice a n cap):=A.1.bx.cell 2 _ rfl;have V:=Hd (uV 64 ⟨p,0,none⟩ (fun s=>decide (s.deadline≤C)) ⟨C,b,l⟩ (.slice a n cap) (w2.setCell ⟨p,0,none⟩ (.int .i64 C)) A.1.rs Y.1 (jkT p C _ (A.1.bx.cell 0 _ rfl)))
 go_wp2_with fail;refine V.1.mono ?_;rintro ev w5 ⟨o,rfl,ho,b3⟩;have G:=Hd (A.1.below b3);obtain ⟨va,vc,rfl,_⟩:=ho.slice;have L:=Hd ho;have X:=Hd (show p+1+1<(w2.setCell ⟨p,0,none⟩ (.int .i64 C)).heap.size from A.1.bz.lt)
 clear ho b3 V A c0 c1 c2;have z0:w5.cell? ⟨p+1+1,0,none⟩=some (.int .i64 0):=G.1.bz.cell 0 _ rfl;have y0:=G.1.bz.free 0;have z1:w5.cell? ⟨p+1+1,1,none⟩=some (.int .i64 0):=G.1.bz.cell 1 _ rfl;have y1:=G.1.bz.free 1;have z2:w5.cell? ⟨p+1+1,2,none⟩=some (.slice none 0 0):=G.1.bz.cell 2 _ rfl;have y2:=G.1.bz.free 2;have b1:=G.1.fill C b (.slice va (jx (fun s=>decide (s.deadline≤C)) l).length vc)
 have a8:=(L.1.mod b1.2.2 (fun k hk e=>by have:=(L.1.lt k hk).1;have:=X.1;omega)).base (base':=w.heap.size) (by have:=G.1.e0;have:=X.1;omega)
 have N:=Hd (And.intro b1.1 (And.intro a8 b1.2.1));clear b1 a8 L G;go_wp2_with fail;exact jb rfl rfl (p+1+1) 0 rfl [.int .i64 C,.int .i64 b,.slice va (jx (fun s=>decide (s.deadline≤C)) l).length vc] _ (js N.1.1) underlying30 rfl (by kernel_rfl) _ rfl ⟨_,by rw [B.1];rfl,by rw [B.1];exact N.1.2.1,N.1.2.2⟩
end Go.Proofs.YtgcnolapjppbpaaGreatDoor
