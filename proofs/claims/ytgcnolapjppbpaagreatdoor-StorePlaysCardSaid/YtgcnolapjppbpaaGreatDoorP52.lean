/-
  Texts of one proof, one behind the other.
-/
import Derived.Test.YtgcnolapjppbpaaGreatDoorP51
import Derived.Test.YtgcnolapjppbpaaGreatDoorP27
import Derived.Test.YtgcnolapjppbpaaGreatDoorP00
namespace Go.Proofs.YtgcnolapjppbpaaGreatDoor
open Go.RowKit _root_.Go.Proofs.Tryz
set_option maxRecDepth 100000
set_option maxHeartbeats 25600000
structure ActS where
 kind:Int
 n:Int
 e:EvtM
 odd:Bool
 st:StM
 sv:Value
 tx:ByteArray
def ActS.list (x:ActS):List Value:=.int .i64 x.kind::.int .i64 x.n::(x.e.cells.toList ++ [.bool x.odd,.int .i64 x.st.clock,.int .i64 x.st.births,x.sv,.string x.tx])
def ActS.cells (x:ActS):Array Value:=x.list.toArray
theorem ActS.length (x:ActS):x.list.length=22:=rfl
structure ActS.Ok (W:World)(x:ActS):Prop where
 kind:I64 x.kind
 n:I64 x.n
 ev:EvOk x.e
 rd:RdS W x.sv x.st.l
 ok:∀ s∈x.st.l,SesOk s
 len:x.st.l.length+16≤1256584717457
 tx:x.tx.size≤9223372036854775807
theorem ActS.ev {w:World}{b:Nat}{x:ActS}{t:TypeId}(h:Box w b x.cells t):w.rangeAt b 2 x.e.cells.toList:=h.range 2 _ (fun j v hv=>by
 have hj:j<15:=(List.getElem?_eq_some_iff.1 hv).1;show x.list.toArray[2+j]?=some v;rw [List.getElem?_toArray,Nat.add_comm];show (x.e.cells.toList++_)[j]?=some v;rw [List.getElem?_append_left hj];exact hv)
theorem jkt {w:World}{b:Nat}{a0 a1 a2 a3 x y z:Value}{t:TypeId}(h:Box w b #[a0,a1,a2,a3,x,y,z] t):w.rangeAt b 4 #[x,y,z].toList:=h.range 4 _ (fun j v hv=>by
 match j,hv with
 | 0,hv=>exact hv
 | 1,hv=>exact hv
 | 2,hv=>exact hv)
theorem jjU (a:Option Addr)(n m c k:Nat)(h:(Value.slice a n c).ownBlock=some k):(Value.slice a m c).ownBlock=some k:=by
 cases a with
 | none=>cases h
 | some a=>exact h
theorem SideA.sv {w:World}{A:Nat→Prop}{p:Nat}{d:DiskM}{s:Option StoM}{sv:Value}(h:SideA w A p d s sv):(s=none∧sv=.pointer none)∨∃ t ps,s=some t∧sv=.pointer (some ⟨ps,0,none⟩):=by
 obtain ⟨_,_,_,h3⟩:=h.ex
 rcases h3 with h3 | ⟨ps,pl,t,e1,e2,_⟩
 · exact .inl h3
 · exact .inr ⟨t,ps,e1,e2⟩
theorem SideB.sv {w:World}{A:Nat→Prop}{p:Nat}{d:DiskM}{s:Option StoM}{sv:Value}(h:SideB w A p d s sv):(s=none∧sv=.pointer none)∨∃ t ps,s=some t∧sv=.pointer (some ⟨ps,0,none⟩):=by
 obtain ⟨_,_,_,h3⟩:=h.ex
 rcases h3 with h3 | ⟨ps,pl,t,e1,e2,_⟩
 · exact .inl h3
 · exact .inr ⟨t,ps,e1,e2⟩
theorem SideA.told {w:World}{A:Nat→Prop}{p:Nat}{d:DiskM}{t:StoM}{sv:Value}(h:SideA w A p d (some t) sv):(Calls prog 17 #[sv] w fun e w'=>e=.returned (.int .i64 (I32 t.epoch))∧w'=w)∧(Calls prog 18 #[sv] w fun e w'=>e=.returned (.int .i64 (t.log.records:Int))∧w'=w):=by
 obtain ⟨_,_,_,h3⟩:=h.ex
 rcases h3 with ⟨h3,_⟩ | ⟨ps,pl,t',e1,rfl,a1,a2,f1,f2,ne,b,l⟩
 · cases h3
 injection e1 with e1
 subst e1;exact ⟨jeP ps p _ _ _ w b,jcM ps p pl _ _ _ w b l⟩
theorem SideB.told {w:World}{A:Nat→Prop}{p:Nat}{d:DiskM}{t:StoM}{ps:Nat}(h:SideB w A p d (some t) (.pointer (some ⟨ps,0,none⟩))):∃ pl,w.cell? ⟨ps,1,none⟩=some (.int .u32 (I32 t.epoch))∧w.cell? ⟨ps,2,none⟩=some (.pointer (some ⟨pl,0,none⟩))∧w.cell? ⟨pl,5,none⟩=some (.int .i64 (t.log.records:Int)):=by
 obtain ⟨_,_,_,h3⟩:=h.ex
 rcases h3 with ⟨h3,_⟩ | ⟨ps',pl,t',e1,e2,a1,a2,f1,f2,ne,b,l⟩
 · cases h3
 injection e1 with e1
 subst e1;injection e2 with e2
 injection e2 with e2
 injection e2 with e2
 subst e2;exact ⟨pl,b.bx.cell 1 _ rfl,b.bx.cell 2 _ rfl,Box.cell l 5 _ rfl⟩
structure Given (W wr:World)(pw:Nat)(A B:Nat→Prop)(S:StM)(v:Value):Prop where
 rd:RdS wr v S.l
 ok:∀ s∈S.l,SesOk s
 len:S.l.length+16≤1256584717457
 nv:0<S.l.length→∀ k,v.ownBlock=some k→¬ A k∧¬ B k∧k<wr.heap.size
structure NxtS (w wx:World)(q:Nat)(C B:Int)(o:Value)(L:List SesM):Prop where
 bel:Below w.heap.size w wx
 bx:Box wx q #[.int .i64 C,.int .i64 B,o] 30
 rs:RdS wx o L
 nv:∀ k,o.ownBlock=some k→w.heap.size≤k∧k<wx.heap.size
 ge:w.heap.size≤q
theorem PlayS.more {W:World}{pw p rp c c':Nat}{A B:Nat→Prop}{d:DiskM}{s:Option StoM}{st:StM}{sv rv ov:Value}{wr:World}(h:PlayS W pw p rp c A B d s st sv rv ov wr)(hc:c≤c'):PlayS W pw p rp c' A B d s st sv rv ov wr :=
 ⟨h.a,h.b,h.bx,h.rs,h.ab,h.np,h.nv,h.lo,h.pl.more hc,h.bel⟩
theorem PlayS.put {W:World}{pw p rp c:Nat}{A B:Nat→Prop}{d:DiskM}{s:Option StoM}{st:StM}{sv rv ov:Value}{wr:World}(h:PlayS W pw p rp c A B d s st sv rv ov wr)(C2 B2:Int)(L2:List SesM)(o:Value)(hr:RdS wr o L2)(hv:∀ k,o.ownBlock=some k→¬ A k∧¬ B k∧k≠pw∧k<wr.heap.size)(h1:∀ x∈L2,SesOk x)(h2:L2.length≤50+c) :
  PlayS W pw p rp c A B d s ⟨C2,B2,L2⟩ sv rv o (((wr.setCell ⟨pw,4,none⟩ (.int .i64 C2)).setCell ⟨pw,5,none⟩ (.int .i64 B2)).setCell ⟨pw,6,none⟩ o):=by
 have hm:Mod (fun k=>k=pw) wr (((wr.setCell ⟨pw,4,none⟩ (.int .i64 C2)).setCell ⟨pw,5,none⟩ (.int .i64 B2)).setCell ⟨pw,6,none⟩ o):=((Mod.set (fun k=>k=pw) wr ⟨pw,4,none⟩ (.int .i64 C2) rfl).trans (Mod.set _ _ ⟨pw,5,none⟩ (.int .i64 B2) rfl)).trans (Mod.set _ _ ⟨pw,6,none⟩ o rfl)
 exact ⟨h.a.mod hm (fun k hk e=>h.np.1 (by rw [← e];exact hk)),h.b.mod hm (fun k hk e=>h.np.2.1 (by rw [← e];exact hk)),((h.bx.set 4 (.int .i64 C2)).set 5 (.int .i64 B2)).set 6 o,hr.mod hm (fun k hk=>(hv k hk).2.2.1),h.ab,h.np,fun k hk=>by obtain ⟨a,b,e,f⟩:=hv k hk;exact ⟨a,b,e,Nat.lt_of_lt_of_le f hm.size⟩,h.lo,h.pl.put h1 h2,h.bel.trans (hm.below h.bel.size (fun k hk=>by have:=h.np.2.2;omega))⟩
theorem jdC (W:World)(pw p rp c:Nat)(A B:Nat→Prop)(d:DiskM)(s:Option StoM)(st:StM)(sv rv ov:Value)(wr:World)(x:ActS)(h:PlayS W pw p rp c A B d s st sv rv ov wr)(hx:x.Ok W)(hc:c≤1000)(hg:ErrType W) :
  Calls prog 27 #[.pointer (some ⟨pw,0,none⟩),.agg x.cells] wr fun r w'=>r=.returned (.bool true)∧∃ (A' B':Nat→Prop) (d':DiskM) (s':Option StoM) (st':StM) (ov':Value),PlayS W pw p rp (c+2) A' B' d' s' st' sv rv ov' w':=by
 have a1:=ja wr (.cells x.cells 68);have H:=Hd (h.to a1);have F:=Hd (Box.new wr x.cells 68);obtain ⟨oa,oc,rfl,_⟩:=h.rs.slice;obtain ⟨m,hm⟩:=Nm (st.l.length);have i0:=h.rs;rw [← hm] at H;have HM:=Hd hm;have T:=Hd (show (∀ k,A k∨B k∨k=pw→k<wr.heap.size) from fun k hk=>by
  rcases hk with hk | hk | rfl
  · exact h.a.lt k hk
  · exact h.b.lt k hk
  · exact h.bx.lt)
 have A7:=Hd h.bel.size;have J:=Hd hx;have HC:=Hd hc;have HG:=Hd hg;have i3:=h.a.sv;have i4:=h.b.sv;clear a1 h hx hc hg i0 hm;obtain ⟨q0,b9⟩:=Nm (wr.heap.size);rw [← b9] at F T A7;obtain ⟨w1,a3⟩:=Nm ((wr.alloc (.cells x.cells 68)));rw [← a3] at H F;have A8:=Hd (show q0<w1.heap.size from F.1.lt)
 rcases i3 with ⟨rfl,rfl⟩ | ⟨t,ps,rfl,rfl⟩
 ·
  have b1:(wr.alloc (.cells x.cells 68)).cell? ⟨pw,1,none⟩=some (.pointer none):=by rw [← a3];exact H.1.bx.cell 1 _ rfl
  go_enter func27,ntmps27;go_wp2_with fail;rw [← a3];go_ret;exact ⟨rfl,A,B,d,none,st,.slice oa m oc,⟨H.1.a,H.1.b,H.1.bx,H.1.rs,H.1.ab,H.1.np,H.1.nv,H.1.lo,H.1.pl.more (Nat.le_add_right _ _),H.1.bel⟩⟩
 rcases i4 with ⟨h0,_⟩ | ⟨t',rs,h0,rfl⟩
 · cases h0
 injection h0 with h0
 subst h0;have b1:(wr.alloc (.cells x.cells 68)).cell? ⟨pw,1,none⟩=some (.pointer (some ⟨ps,0,none⟩)):=by rw [← a3];exact H.1.bx.cell 1 _ rfl
 have b3:(wr.alloc (.cells x.cells 68)).cell? ⟨pw,3,none⟩=some (.pointer (some ⟨rs,0,none⟩)):=by rw [← a3];exact H.1.bx.cell 3 _ rfl
 have b4:(wr.alloc (.cells x.cells 68)).cell? ⟨pw,4,none⟩=some (.int .i64 st.clock):=by rw [← a3];exact H.1.bx.cell 4 _ rfl
 have b5:(wr.alloc (.cells x.cells 68)).cell? ⟨pw,5,none⟩=some (.int .i64 st.births):=by rw [← a3];exact H.1.bx.cell 5 _ rfl
 have b6:(wr.alloc (.cells x.cells 68)).cell? ⟨pw,6,none⟩=some (.slice oa m oc):=by rw [← a3];exact H.1.bx.cell 6 _ rfl
 have c0:Box ((wr.alloc (.cells x.cells 68)).alloc (.cells #[.int .i64 st.clock,.int .i64 st.births,.slice oa m oc] 30)) q0 x.cells 68:=by rw [← a3];exact F.1.below (ja _ _)
 have x17:((wr.alloc (.cells x.cells 68)).alloc (.cells #[.int .i64 st.clock,.int .i64 st.births,.slice oa m oc] 30)).cell? ⟨q0,17,none⟩=some (.bool x.odd):=c0.cell 17 _ rfl;have x18:((wr.alloc (.cells x.cells 68)).alloc (.cells #[.int .i64 st.clock,.int .i64 st.births,.slice oa m oc] 30)).cell? ⟨q0,18,none⟩=some (.int .i64 x.st.clock):=c0.cell 18 _ rfl;have x19:((wr.alloc (.cells x.cells 68)).alloc (.cells #[.int .i64 st.clock,.int .i64 st.births,.slice oa m oc] 30)).cell? ⟨q0,19,none⟩=some (.int .i64 x.st.births):=c0.cell 19 _ rfl;have x20:((wr.alloc (.cells x.cells 68)).alloc (.cells #[.int .i64 st.clock,.int .i64 st.births,.slice oa m oc] 30)).cell? ⟨q0,20,none⟩=some x.sv:=c0.cell 20 _ rfl;rw [b9] at x17 x18 x19 x20;obtain ⟨xa,xc,d6,_⟩:=J.1.rd.slice;obtain ⟨xn,e5⟩:=Nm (x.st.l.length);rw [← e5] at d6;rw [d6] at x20;have A9:=Hd d6;have Ab:=Hd e5;obtain ⟨od,g3⟩:=Nm (x.odd);rw [← g3] at x17;clear c0 d6 e5 g3;go_enter func27,ntmps27
 go_upto_if 28 with (fail)
 go_cut [] (fun wx=>∃ (S:StM) (v:Value),wx=w1.alloc (.cells #[.int .i64 S.clock,.int .i64 S.births,v] 30)∧Given W w1 pw A B S v)
 case first =>
  cases od
  rotate_left
  ·
   go_wp2_with fail;go_meet;refine ⟨x.st,x.sv,by rw [A9.1,a3],⟨J.1.rd.below H.1.bel,J.1.ok,J.1.len,fun h0 k hk=>?_⟩⟩
   have i8:k<W.heap.size:=Rd.blk J.1.rd (by rw [zb];omega) k hk
   exact ⟨fun g=>by have:=H.1.lo k (.inl g);omega,fun g=>by have:=H.1.lo k (.inr g);omega,by have:=H.1.bel.size;omega⟩
  ·
   skip
   go_wp2_with fail;go_meet;exact ⟨st,.slice oa m oc,by rw [a3],⟨H.1.rs,H.1.pl.ok,by have:=H.1.pl.len;have:=HC.1;omega,fun _ k hk=>⟨(H.1.nv k hk).1,(H.1.nv k hk).2.1,(H.1.nv k hk).2.2.2⟩⟩⟩
 case rest =>
  obtain ⟨⟨C,Bi,L⟩,v,rfl,b7⟩:=hcut;have g4:w1.heap.size=q0+1:=by rw [a3,World.size_alloc,b9]
  rw [← b9];clear a3 b9;obtain ⟨va,vc,rfl,_⟩:=b7.rd.slice;obtain ⟨n,hn⟩:=Nm (L.length);have e6:RdS w1 (.slice va L.length vc) L:=b7.rd;have U:=Hd (show 0<L.length→∀ k,(Value.slice va n vc).ownBlock=some k→¬ A k∧¬ B k∧k<w1.heap.size from by rw [hn];exact b7.nv)
  have Hh:=Hd (show ∀ s∈L,SesOk s from b7.ok)
  have c2:L.length+16≤1256584717457:=b7.len;clear b7;rw [show (StM.mk C Bi L).l.length=n from hn.symm]
  rw [← hn] at e6;have Hi:=Hd hn;have Hu:=Hd c2;have a1:=ja w1 (.cells #[.int .i64 C,.int .i64 Bi,.slice va n vc] 30);have H2:=Hd (H.1.to a1);have Hj:=Hd (F.1.below a1);have H9:=Hd (e6.below a1);have h5:=Box.new w1 #[.int .i64 C,.int .i64 Bi,.slice va n vc] 30;rw [g4] at h5;have O:=Hd h5;clear a1 e6 h5 hn c2 g4;have e0:=O.1.cell 0 _ rfl;have e1:=O.1.cell 1 _ rfl;have e2:=O.1.cell 2 _ rfl;have Ha:=Hd (jcn C Bi (.slice va L.length vc) L _ (by have:=H9.1;rw [Hi.1] at this;exact this) Hu.1)
  rw [← Hi.1] at Ha;obtain ⟨w2,e7⟩:=Nm ((w1.alloc (.cells #[.int .i64 C,.int .i64 Bi,.slice va n vc] 30)));go_wp2_with fail;rw [← e7] at H2 Hj H9 O e0 e1 e2 Ha ⊢;have Hv:=Hd (show w1.heap.size<w2.heap.size by rw [e7,World.size_alloc];exact Nat.lt_succ_self _)
  clear e7 e0 e1 e2 b1 b3 b4 b5 b6 x17 x18 x19 x20 H F;refine (show Calls _ _ #[.agg #[.int .i64 C,.int .i64 Bi,.slice va n vc]] w2 _ from Ha.1).mono ?_
  rintro r w3 ⟨o,rfl,g5,a4⟩;have b8:=g5;obtain ⟨ga,gc,rfl,_⟩:=g5;rw [← Hi.1] at b8 ⊢;have a1:=ja w3 (.cells #[.int .i64 C,.int .i64 Bi,.slice ga n gc] 30);have I:=Hd ((H2.1.to a4).to a1);have Hk:=Hd ((Hj.1.below a4).below a1);have Hl:=Hd ((O.1.below a4).below a1);have Hm:=Hd ((H9.1.below a4).below a1);have Hb:=Hd (b8.below a1);have V:=Hd (Box.new w3 #[.int .i64 C,.int .i64 Bi,.slice ga n gc] 30);have X:=Hd (show ∀ k,(Value.slice ga n gc).ownBlock=some k→w2.heap.size≤k∧k<w3.heap.size from fun k hk=>by
   obtain ⟨a',c',e,h⟩:=b8;injection e with e1 _ e3
   subst e1;subst e3;exact h.lt k (jjU _ _ _ _ _ hk))
  have Hc:=Hd a4.size;obtain ⟨q6,e8⟩:=Nm (w3.heap.size);rw [← e8] at V X Hc;obtain ⟨w4,e9⟩:=Nm ((w3.alloc (.cells #[.int .i64 C,.int .i64 Bi,.slice ga n gc] 30)));rw [← e9] at I Hk Hl Hm Hb V;clear b8 a4 a1 H2 Hj O H9 Ha;have Hw:=Hd (show q6<w4.heap.size from V.1.lt)
  go_wp2_with fail;rw [← e8,← e9];clear e8 e9;obtain ⟨f1,f2,f3,f4⟩:=I.1.pl.fit t rfl;have f0:d.trail.length≤9000000000:=by have:=I.1.pl.trail;have:=HC.1;omega
  have a5:=J.1.ev;have f7:t.log.records≤1000000000:=by have:=HC.1;omega
  have M:=Hd (fun w (hw:SideA w A p d (some t) (.pointer (some ⟨ps,0,none⟩))) (hr:RdS w (.slice ga n gc) L) hv=>hw.append x.e ⟨C,Bi,L⟩ (.slice ga n gc) hr hv Hh.1 (Nat.le_trans a5.user (by decide)) (Nat.le_trans a5.label (by decide)) a5.scopes f0 f1 f2 f3 f7)
  have He:=Hd (fun w (hw:SideB w B rp d (some t) (.pointer (some ⟨rs,0,none⟩))) (hr:RdS w (.slice va n vc) L) hv=>hw.append x.e ⟨C,Bi,L⟩ (.slice va n vc) hr hv Hh.1 (Nat.le_trans a5.user (by decide)) (Nat.le_trans a5.label (by decide)) a5.scopes f0 f1 f2 f3 f7 I.1.pl.small)
  have Hf:=Hd (jga t d x.e ⟨C,Bi,L⟩);have Hg:=Hd (I.1.pl.append x.e ⟨C,Bi,L⟩);clear f1 f2 f3 f4 f0 a5 f7;obtain ⟨R,hR⟩:=Nm (t.append d x.e ⟨C,Bi,L⟩);rw [← hR] at M He Hf Hg;clear hR;obtain ⟨t1,d1,er⟩:=R;simp only at M He Hf Hg;have c7:w4.drew.cell? ⟨pw,1,none⟩=some (.pointer (some ⟨ps,0,none⟩))∧Box w4.drew q0 x.cells 68∧Box w4.drew q6 #[.int .i64 C,.int .i64 Bi,.slice ga n gc] 30:=⟨I.1.bx.cell 1 _ rfl,Hk.1.below (jd w4),V.1.below (jd w4)⟩;refine wp_region_held_drew (S:=fun W=>W.cell? ⟨pw,1,none⟩=some (.pointer (some ⟨ps,0,none⟩))∧Box W q0 x.cells 68∧Box W q6 #[.int .i64 C,.int .i64 Bi,.slice ga n gc] 30) (by kernel_rfl) c7 (fun a0=>?_)
  refine Tk 0 33 ?_;refine Tk 1 34 ?_;refine Tk 2 35 ?_;refine Tk 3 36 ?_ (hy:=by intro w' a2;have c1:=a2.1;clear a2;go_simp;try with_reducible rfl)
  refine Tk 4 37 ?_;refine Tk 5 38 ?_ (v:=.agg x.e.cells) (hy:=fun w' a2=>jO 47 (.tmp 37) rfl (q0) (2) rfl (x.e.cells).toList _ (ActS.ev a2.2.1) underlying47 rfl (by kernel_rfl))
  refine Tk 6 39 ?_ (v:=.agg #[.int .i64 C,.int .i64 Bi,.slice ga n gc]) (hy:=fun w' a2=>jO 30 (.tmp 6) rfl (q6) (0) rfl (#[.int .i64 C,.int .i64 Bi,.slice ga n gc]).toList _ (js a2.2.2) underlying30 rfl (by kernel_rfl))
  refine Rc 7 40 fun K hK=>?_
  go_simp
  have P:=Hd (I.1.to (jd w4));have Q:=Hd (show ∀ k,A k∨B k∨k=pw∨k=q0∨k=q0+1→k<w2.heap.size from fun k hk=>by
   have h1:=Hv.1;have h2:=A8.1
   rcases hk with hk | hk | hk | hk | hk
   · have:=T.1 k (.inl hk);omega
   · have:=T.1 k (.inr (.inl hk));omega
   · have:=T.1 k (.inr (.inr hk));omega
   · omega
   · omega)
  have Y:=Hd (show ∀ k,A k∨B k→k≠q0∧k≠q0+1∧k<q0 from fun k hk=>by
   have h1:=T.1 k (hk.elim .inl (fun h=>.inr (.inl h)))
   omega)
  refine (show Calls _ _ #[.pointer (some ⟨ps,0,none⟩),.agg x.e.cells,.agg #[.int .i64 C,.int .i64 Bi,.slice ga n gc]] w4.drew _ from M.1 w4.drew P.1.a (Hb.1.below (jd w4)).rd (fun k hk=>⟨fun g=>by have:=Q.1 k (.inl g);have:=(X.1 k hk).1;omega,by have:=(X.1 k hk).2;have:=Hw.1;show k<w4.heap.size;omega⟩)).mono ?_
  rintro e3 w5 ⟨rfl,A',g6,a6,g7⟩;have Hn:=Hd (a0.2.1.mod a6 (fun g=>(Y.1 q0 (.inl g)).1 rfl))
  have Ho:=Hd (a0.2.2.mod a6 (fun g=>by have:=Q.1 q6 (.inl g);have:=Hc.1;omega))
  refine hK.out _ _ ⟨(P.1.bx.mod a6 I.1.np.1).cell 1 _ rfl,Hn.1,Ho.1⟩ (fun i5=>?_)
  have Hp:=Hd (P.1.bx.mod a6 I.1.np.1);have Z:=Hd (And.intro g6 (And.intro a6 g7));have Hx:=Hd (P.1.b.mod a6 (fun k hk g=>I.1.ab k g hk))
  have Hy:=Hd ((Hl.1.below (jd w4)).mod a6 (fun g=>(Y.1 _ (.inl g)).2.1 rfl))
  have Hq:=Hd (RdS.mod1 (Hm.1.below (jd w4)) a6 (fun h0 k hk=>(U.1 h0 k hk).1))
  have Hz:=Hd ((Hb.1.below (jd w4)).mod a6 (fun k hk g=>by have:=Q.1 k (.inl g);have:=(X.1 k hk).1;omega))
  clear hK K a0 g6 a6 g7 M c7 Hk Hl Hm Hb V
  try simp only [Nz]
  refine Tk 8 7 ?_;refine Dn ?_;clear i5;go_wp2_with fail;have c7:w5.drew.cell? ⟨pw,3,none⟩=some (.pointer (some ⟨rs,0,none⟩))∧Box w5.drew q0 x.cells 68∧Box w5.drew (q0+1) #[.int .i64 C,.int .i64 Bi,.slice va n vc] 30:=⟨(Hp.1.below (jd w5)).cell 3 _ rfl,Hn.1.below (jd w5),Hy.1.below (jd w5)⟩;refine wp_region_held_drew (S:=fun W=>W.cell? ⟨pw,3,none⟩=some (.pointer (some ⟨rs,0,none⟩))∧Box W q0 x.cells 68∧Box W (q0+1) #[.int .i64 C,.int .i64 Bi,.slice va n vc] 30) (by kernel_rfl) c7 (fun a0=>?_)
  refine Tk 0 41 ?_;refine Tk 1 42 ?_;refine Tk 2 43 ?_;refine Tk 3 44 ?_ (hy:=by intro w' a2;have c1:=a2.1;clear a2;go_simp;try with_reducible rfl)
  refine Tk 4 45 ?_;refine Tk 5 46 ?_ (v:=.agg x.e.cells) (hy:=fun w' a2=>jO 47 (.tmp 45) rfl (q0) (2) rfl (x.e.cells).toList _ (ActS.ev a2.2.1) underlying47 rfl (by kernel_rfl))
  refine Tk 6 47 ?_ (v:=.agg #[.int .i64 C,.int .i64 Bi,.slice va n vc]) (hy:=fun w' a2=>jO 30 (.tmp 5) rfl (q0+1) (0) rfl (#[.int .i64 C,.int .i64 Bi,.slice va n vc]).toList _ (js a2.2.2) underlying30 rfl (by kernel_rfl))
  refine Rc 7 48 fun K hK=>?_
  go_simp
  refine (show Calls _ _ #[.pointer (some ⟨rs,0,none⟩),.agg x.e.cells,.agg #[.int .i64 C,.int .i64 Bi,.slice va n vc]] w5.drew _ from He.1 w5.drew (Hx.1.below (jd w5)) (Hq.1.below (jd w5)) (fun h0 k hk=>⟨(U.1 h0 k hk).2.1,by have h1:=(U.1 h0 k hk).2.2;have h2:=Z.1.2.1.size;have h3:=Hv.1;have h4:=Hc.1;have h5:=Hw.1;show k<w5.heap.size;rw [show w4.drew.heap.size=w4.heap.size from rfl] at h2;omega⟩)).mono ?_
  rintro e3 w6 ⟨rfl,B',g8,a9,g9⟩;have Hr:=Hd (a0.2.1.mod a9 (fun g=>(Y.1 q0 (.inr g)).1 rfl))
  have Hs:=Hd (a0.2.2.mod a9 (fun g=>(Y.1 _ (.inr g)).2.1 rfl))
  refine hK.out _ _ ⟨((Hp.1.below (jd w5)).mod a9 I.1.np.2.1).cell 3 _ rfl,Hr.1,Hs.1⟩ (fun i6=>?_)
  have A0:=Hd ((Ho.1.below (jd w5)).mod a9 (fun g=>by have:=Q.1 q6 (.inr (.inl g));have:=Hc.1;omega))
  have A1:=Hd (RdS.mod1 (Hq.1.below (jd w5)) a9 (fun h0 k hk=>(U.1 h0 k hk).2.1))
  have A2:=Hd ((Hz.1.below (jd w5)).mod a9 (fun k hk g=>by have:=Q.1 k (.inr (.inl g));have:=(X.1 k hk).1;omega))
  have H6:=Hd (P.1.both Z.1.1 Z.1.2.1 Z.1.2.2 (jd w5) g8 a9 g9 Hg.1);clear hK K a0 g8 a9 g9 He c7 Hn Hy Hq Hz Ho Z Hx Hp P I Hg U Hh Q Y
  try simp only [Nz]
  refine Tk 8 8 ?_;refine Dn ?_;clear i6;go_wp2_with fail;refine (uI er w6 Hf.1.1 Hf.1.2 (HG.1.below H6.1.bel)).mono ?_;rintro r w7 ⟨rfl,b0⟩;have H7:=Hd (H6.1.to b0);have A3:=Hd (Hr.1.below b0);have d7:=Hs.1.below b0;have d8:=A0.1.below b0;have e0:=d7.cell 0 _ rfl;have e1:=d7.cell 1 _ rfl;have e2:=d7.cell 2 _ rfl;have g0:=d8.cell 0 _ rfl;have g1:=d8.cell 1 _ rfl;have g2:=d8.cell 2 _ rfl;have A4:=Hd (jcj C Bi (.slice ga n gc) (.slice va n vc) w2.heap.size L w7 (A2.1.below b0) (A1.1.below b0) (by have:=Hu.1;omega))
  clear b0 d7 d8 H6 Hr Hs A0 A2 A1;go_wp2_with fail;refine (show Calls _ _ #[.agg #[.int .i64 C,.int .i64 Bi,.slice ga n gc],.agg #[.int .i64 C,.int .i64 Bi,.slice va n vc]] w7 _ from A4.1).mono ?_
  rintro r w8 ⟨rfl,f8⟩;have D:=Hd (H7.1.to f8);have Aa:=Hd (A3.1.below f8);clear f8 H7 A3 A4 e0 e1 e2 g0 g1 g2
  go_upto_if 60 with (fail)
  go_cut [] (fun wx=>∃ (st':StM) (ov':Value),PlayS W pw p rp (c+2) A' B' d1 (some t1) st' (.pointer (some ⟨ps,0,none⟩)) (.pointer (some ⟨rs,0,none⟩)) ov' wx)
  case first =>
   by_cases h0:er=0
   rotate_left
   ·
    have i9:(er==0)=false:=by simpa using h0
    go_wp2_with fail;go_meet;exact ⟨st,.slice oa m oc,D.1.a,D.1.b,D.1.bx,D.1.rs,D.1.ab,D.1.np,D.1.nv,D.1.lo,D.1.pl.more (Nat.le_succ _),D.1.bel⟩
   subst h0;have c2:st.l.length≤1000000000:=by have:=D.1.pl.len;have:=HC.1;omega
   have a5:=J.1.ev;have d9:=fun v' w' h=>jdJ st x.e v' w' h c2 (Nat.le_trans a5.user (by decide)) (Nat.le_trans a5.label (by decide)) a5.scopes
   have f9:=vy st x.e;have e4:∀ y∈(jH st x.e).2.l,SesOk y:=fun y hy=>(jak hy).elim (D.1.pl.ok y) (fun e=>by rw [e];exact jfy a5)
   have i7:=D.1.pl.len;obtain ⟨S,hS⟩:=Nm (jH st x.e);rw [← hS] at d9 f9 e4;clear hS a5 c2;obtain ⟨er2,C2,B2,L2⟩:=S;simp only at d9 f9 e4;have M:=Hd d9;have A5:=Hd (show (∀ y∈L2,SesOk y)∧L2.length≤50+(c+2) from ⟨e4,by omega⟩)
   obtain ⟨m2,h7⟩:=Nm (L2.length);have Ht:=Hd h7;clear d9 f9 e4 i7 h7
   go_upto_region 12 with (fail)
   go_cut [9,10] (fun s9 s10 wx=>∃ (q9:Nat) (o:Value),s9=.pointer (some ⟨q9,0,none⟩)∧s10=.bool (er2==0)∧NxtS w8 wx q9 C2 B2 o L2)
   case first =>
    refine wp_region_held_drew (S:=fun W=>Below w8.heap.size w8 W) (by kernel_rfl) (jd w8) (fun a0=>?_)
    refine Tk 0 62 ?_;refine Tk 1 63 ?_;refine Tk 2 64 ?_;refine Tk 3 65 ?_ (v:=.agg #[.int .i64 st.clock,.int .i64 st.births,.slice oa m oc]) (hy:=fun w' a2=>jO 30 (.tmp 64) rfl (pw) (4) rfl (#[.int .i64 st.clock,.int .i64 st.births,.slice oa m oc]).toList _ (jkt (D.1.bx.below a2)) underlying30 rfl (by kernel_rfl))
    refine Tk 4 66 ?_;refine Tk 5 67 ?_ (v:=.agg x.e.cells) (hy:=fun w' a2=>jO 47 (.tmp 66) rfl (q0) (2) rfl (x.e.cells).toList _ (ActS.ev (Aa.1.below a2)) underlying47 rfl (by kernel_rfl))
    refine wpAnyH_ready (rs := [6,10]) (by kernel_rfl) (by simp) (AllReadyH.cons (o:=⟨some 68,.call _,_,_,_,_⟩) rfl (fun K hK=>?_) (AllReadyH.cons (o:=⟨some 9,.alloc _,_,_,_,_⟩) rfl (fun K hK=>?_) AllReadyH.nil))
    ·
     skip
     go_simp
     refine (show Calls _ _ #[.agg #[.int .i64 st.clock,.int .i64 st.births,.slice oa m oc],.agg x.e.cells] w8.drew _ from M.1 (.slice oa m oc) _ (D.1.rs.below a0)).mono ?_
     rintro e3 w5 ⟨o,rfl,ho,a4⟩;have c8:=jh a0 a4;refine hK.out _ _ c8 (fun h5=>?_)
     obtain ⟨na,nc,rfl,_⟩:=ho.slice;rw [← Ht.1] at ho ⊢;have G:=Hd ho;have H0:=Hd (show w8.heap.size≤w8.drew.heap.size from Nat.le_refl _)
     clear hK K a4 ho c8
     try simp only [Nz]
     refine Tk 7 61 ?_;refine Tk 8 69 ?_;refine Tk 9 70 ?_;refine Ra 10 9 fun K hK=>?_
     go_simp
     have a1:=ja w5 (.cells #[.int .i64 0,.int .i64 0,.slice none 0 0] 30);have c9:=jh h5 a1;refine hK.out _ _ c9 (fun h6=>?_)
     have E:=Hd (Box.new w5 #[.int .i64 0,.int .i64 0,.slice none 0 0] 30);have N:=Hd (show w8.heap.size≤(w5).heap.size from (h5).size)
     have A6:=Hd (G.1.below a1);have H3:=Hd (show ∀ k,(Value.slice na m2 nc).ownBlock=some k→k≠w5.heap.size from fun k hk=>by have:=(G.1.lt k hk).2;omega)
     clear G;have G:=A6;clear A6;clear hK K c9 a1
     try simp only [Nz]
     refine Rs 11 30 9 69 fun K hK=>?_
     rw [if_pos (by kernel_rfl)]
     refine xR 30 (.tmp 9) (.tmp 69) rfl (w5.heap.size) 0 [.int .i64 C2,.int .i64 B2,.slice na m2 nc] rfl rfl E.1.there3 (by kernel_rfl) (jh3 _ _ _ _ _) ?_
     obtain ⟨d3,a8⟩:=E.1.set3 (.int .i64 C2) (.int .i64 B2) (.slice na m2 nc);have b2:=(h6).trans (a8.below (B:=w8.heap.size) (h6).size (fun i hi=>by have:=N.1;omega))
     refine hK.out _ _ b2 (fun d4=>?_)
     have H5:=Hd (show NxtS w8 _ (w5.heap.size) C2 B2 (.slice na m2 nc) L2 from
      ⟨b2,d3,(G.1.mod a8 (fun k hk e=>H3.1 k hk e)).rd,fun k hk=>⟨Nat.le_trans H0.1 (G.1.lt k hk).1,Nat.lt_of_lt_of_le (G.1.lt k hk).2 a8.size⟩,N.1⟩)
     clear hK K d3 a8 b2 E N G H3 H0;generalize (World.setCells _ _ _ _)=w9 at H5 d4 ⊢
     try simp only [Act.put]
     refine Tk 12 10 ?_;refine Dn ?_;clear a0 d4;go_wp2_with fail;go_meet;exact ⟨_,_,rfl,rfl,H5.1⟩
    ·
     skip
     go_simp
     have a1:=ja w8.drew (.cells #[.int .i64 0,.int .i64 0,.slice none 0 0] 30);have c8:=jh a0 a1;refine hK.out _ _ c8 (fun h5=>?_)
     have E:=Hd (Box.new w8.drew #[.int .i64 0,.int .i64 0,.slice none 0 0] 30);have N:=Hd (show w8.heap.size≤(w8.drew).heap.size from (a0).size)

     clear hK K c8 a1
     try simp only [Nz]
     refine Rc 6 68 fun K hK=>?_
     go_simp
     refine (show Calls _ _ #[.agg #[.int .i64 st.clock,.int .i64 st.births,.slice oa m oc],.agg x.e.cells] (w8.drew.alloc (.cells #[.int .i64 0,.int .i64 0,.slice none 0 0] 30)) _ from M.1 (.slice oa m oc) _ (D.1.rs.below h5)).mono ?_
     rintro e3 w6 ⟨o,rfl,ho,a4⟩;have c9:=jh h5 a4;refine hK.out _ _ c9 (fun h6=>?_)
     obtain ⟨na,nc,rfl,_⟩:=ho.slice;rw [← Ht.1] at ho ⊢;have G:=Hd ho;have F:=Hd (E.1.below a4);have H0:=Hd (show w8.heap.size≤(w8.drew.alloc (.cells #[.int .i64 0,.int .i64 0,.slice none 0 0] 30)).heap.size from h5.size)
     have H3:=Hd (show ∀ k,(Value.slice na m2 nc).ownBlock=some k→k≠w8.drew.heap.size from fun k hk=>by have h1:(w8.drew.alloc (.cells #[.int .i64 0,.int .i64 0,.slice none 0 0] 30)).heap.size≤k:=(G.1.lt k hk).1;have h2:=E.1.lt;omega)
     clear E;have E:=F;clear F;clear hK K a4 ho c9
     try simp only [Nz]
     refine Tk 7 61 ?_;refine Tk 8 69 ?_;refine Tk 9 70 ?_;refine Rs 11 30 9 69 fun K hK=>?_
     rw [if_pos (by kernel_rfl)]
     refine xR 30 (.tmp 9) (.tmp 69) rfl (w8.drew.heap.size) 0 [.int .i64 C2,.int .i64 B2,.slice na m2 nc] rfl rfl E.1.there3 (by kernel_rfl) (jh3 _ _ _ _ _) ?_
     obtain ⟨d3,a8⟩:=E.1.set3 (.int .i64 C2) (.int .i64 B2) (.slice na m2 nc);have b2:=(h6).trans (a8.below (B:=w8.heap.size) (h6).size (fun i hi=>by have:=N.1;omega))
     refine hK.out _ _ b2 (fun d4=>?_)
     have H5:=Hd (show NxtS w8 _ (w8.drew.heap.size) C2 B2 (.slice na m2 nc) L2 from
      ⟨b2,d3,(G.1.mod a8 (fun k hk e=>H3.1 k hk e)).rd,fun k hk=>⟨Nat.le_trans H0.1 (G.1.lt k hk).1,Nat.lt_of_lt_of_le (G.1.lt k hk).2 a8.size⟩,N.1⟩)
     clear hK K d3 a8 b2 E N G H3 H0;generalize (World.setCells _ _ _ _)=w9 at H5 d4 ⊢
     try simp only [Act.put]
     refine Tk 12 10 ?_;refine Dn ?_;clear a0 d4;go_wp2_with fail;go_meet;exact ⟨_,_,rfl,rfl,H5.1⟩
   case rest =>
    obtain ⟨q9,o,rfl,rfl,a7⟩:=hcut;have hP:=(D.1.to a7.bel).more (Nat.le_succ (c+1));by_cases h2:er2=0;rotate_left
    ·
     have d5:(er2==0)=false:=by simpa using h2
     rw [d5];have HP:=Hd hP;clear hP a7 h2 d5;go_wp2_with fail;go_meet;exact ⟨st,_,HP.1⟩
    have d5:(er2==0)=true:=by simpa using h2
    rw [d5];obtain ⟨na,nc,rfl,_⟩:=a7.rs.slice;rw [← Ht.1] at a7;have hQ:=hP.put C2 B2 L2 (.slice na m2 nc) a7.rs (fun k hk=>by
     have h1:=a7.nv k hk;exact ⟨fun g=>by have:=D.1.a.lt k g;omega,fun g=>by have:=D.1.b.lt k g;omega,fun e=>by have:=D.1.bx.lt;omega,h1.2⟩) A5.1.1 A5.1.2
    have d0:=a7.bx.cell 0 _ rfl;have d1':=a7.bx.cell 1 _ rfl;have d2:=a7.bx.cell 2 _ rfl;have c4:=hP.bx.cell 4 _ rfl;have c5:=hP.bx.cell 5 _ rfl;have c6:=hP.bx.cell 6 _ rfl;have f4:=hP.bx.free 4;have f5:=hP.bx.free 5;have f6:=hP.bx.free 6;have HQ:=Hd hQ;clear hP hQ a7 h2 d5;go_wp2_with fail;go_meet;exact ⟨⟨C2,B2,L2⟩,_,HQ.1⟩
  case rest =>
   obtain ⟨st',ov',hP⟩:=hcut;have HE:=Hd (fun j=>(hP.a.below (jC wc j)).told.1)
   have HR:=Hd (fun j=>(hP.a.below (jC wc j)).told.2)
   obtain ⟨pl,k1,k2,k5⟩:=hP.b.told;obtain ⟨i1,i2⟩:=jiV t1.epoch;have c1:=hP.bx.cell 1 _ rfl;have c3:=hP.bx.cell 3 _ rfl;obtain ⟨ep,h8⟩:=Nm (I32 t1.epoch);rw [← h8] at HE k1 i1 i2;have j0:IntKind.i64.wrap ep=ep:=jd5 ep (by omega) (by omega)
   obtain ⟨rn,h9⟩:∃ n:Int,n=(t1.log.records:Int):=⟨_,rfl⟩;rw [← h9] at HR k5;have HP:=Hd hP;clear hP h8 h9;go_wp2_with fail
   go_quiet (first | (go_at_call 17;exact Calls.quiet_of_same (HE.1 _)) | (go_at_call 18;exact Calls.quiet_of_same (HR.1 _)))
   have HZ:=Hd (HP.1.to (jC wc nq));clear HP HE HR;go_wp2_with fail;go_ret;exact ⟨rfl,_,_,_,_,_,_,HZ.1⟩
end Go.Proofs.YtgcnolapjppbpaaGreatDoor
