/-
  Texts of one proof, one behind the other.
-/
import Derived.Test.YtgcnolapjppbpaaGreatDoorP22
import Derived.Test.YtgcnolapjppbpaaGreatDoorP27
import Derived.Test.YtgcnolapjppbpaaGreatDoorP29
import Derived.Test.YtgcnolapjppbpaaGreatDoorP30
import Derived.Test.YtgcnolapjppbpaaGreatDoorP31
import Derived.Test.YtgcnolapjppbpaaGreatDoorP00
namespace Go.Proofs.YtgcnolapjppbpaaGreatDoor
open Go.RowKit _root_.Go.Proofs.Tryz
set_option maxRecDepth 100000
set_option maxHeartbeats 25600000
theorem yi {P:Program}{fn:Func}{R:Ending→World→Prop}{a:Act}{w:World}{p u v:Tmp}{ty:TypeId}(h:fn.results=#[.cell p ty,.tmp u,.tmp v])(a0:a.defers = [])(b o:Nat)(hp:a.tmps.getD p undef=.pointer (some ⟨b,o,none⟩))(cs:List Value)(d:TypeDesc)(hc:w.rangeAt b o cs)(hu:P.underlying ty=some d)(hd:d.isRow=true)(hi:(P.info? ty).map (·.size)=some cs.length)(x y:Value)(hx:a.tmps.getD u undef=x)(hy:a.tmps.getD v undef=y)(hR:R (.returned (.tuple #[.agg cs.toArray,x,y])) w):bodyPost P fn R .ret a w:=by
 refine bodyPost_ret (v:=.tuple #[.agg cs.toArray,x,y]) ?_ a0 hR;have a1:a.tmps[p]?.getD undef=.pointer (some ⟨b,o,none⟩):=by simpa using hp
 have a2:a.tmps[u]?.getD undef=x:=by simpa using hx
 have a3:a.tmps[v]?.getD undef=y:=by simpa using hy
 simp only [results,h]
 simp [a1,a2,a3,asAddr,Result.andThen,run_loadVar_mid w b o ty cs d hc hu hd hi]
theorem jj7 {e:EvtM}(h:yb e=true)(a0:e.s.scopes<2 ^ 64):EvOk e:=by
 have i64:∀ {n:Int},N63 n→I64 n:=fun h=>⟨by have:=h.1;omega,h.2⟩
 have lo:∀ n:Int,0≤n→n≤9223372036854775807→I64 n:=fun n a b=>⟨by omega,b⟩
 unfold yb at h
 split at h
 ·
  rename_i k
  simp only [Bool.and_eq_true,beq_iff_eq] at h k;have s:=SesN.of h.2.2;exact ⟨Nat.le_trans s.user (by decide),Nat.le_trans s.label (by decide),a0,by rw [k];exact lo 0 (by decide) (by decide),by rw [h.1];exact lo 0 (by decide) (by decide),by rw [h.2.1];exact lo 0 (by decide) (by decide),i64 s.slot,i64 s.birth,i64 s.upS,i64 s.upB,i64 s.kind,i64 s.level,i64 s.born,i64 s.deadline,i64 s.depth⟩
 ·
  have z:e.s=ju→I64 e.kind→I64 e.birth→I64 e.ticks→EvOk e:=fun hs h1 h2 h3=>by
   have z0:I64 0:=lo 0 (by decide) (by decide)
   exact ⟨by rw [hs];decide,by rw [hs];decide,a0,h1,h2,h3,by rw [hs];exact z0,by rw [hs];exact z0,by rw [hs];exact z0,by rw [hs];exact z0,by rw [hs];exact z0,by rw [hs];exact z0,by rw [hs];exact z0,by rw [hs];exact z0,by rw [hs];exact z0⟩
  split at h
  ·
   rename_i k
   simp only [Bool.and_eq_true,beq_iff_eq,yJ] at h k;have:=yp h.2.2;exact z h.1 (by rw [k];exact lo 1 (by decide) (by decide)) (lo _ (by omega) (by omega)) (by rw [h.2.1];exact lo 0 (by decide) (by decide))
  ·
   split at h
   ·
    rename_i k
    simp only [Bool.and_eq_true,beq_iff_eq,yJ] at h k;have:=yp h.2.2;exact z h.1 (by rw [k];exact lo 2 (by decide) (by decide)) (by rw [h.2.1];exact lo 0 (by decide) (by decide)) (lo _ (by omega) (by omega))
   · cases h
theorem jeO {b:List UInt8}(h:(ud b).1=0):EvOk (ud b).2:=by
 have h1:ud b=(0,(ud b).2):=by rw [← h]
 obtain ⟨h2,h3,_⟩:=jiZ h1;exact jj7 h2 h3
theorem jix {e:UInt32}{bl:List (List UInt8)}:∀ (i:Nat),(∀ j,j<i→∃ p k,yU e bl j=some (p,k))→i≤yV e bl i
 | 0,_=>Nat.zero_le _
 | i+1,h=>by
  obtain ⟨p,k,h1⟩:=h i (by omega)
  have h2:=jix i (fun j hj=>h j (by omega))
  have h3:=((zi e _ p k).1 h1).2.1;have h4:=vQ e p;rw [zj h1];omega
theorem IsPays.len {e:UInt32}{bl ps:List (List UInt8)}(h:IsPays e bl ps):ps.length≤bl.length:=by
 by_cases h0:ps.length=0
 · omega
 ·
  have h1:=jix (e:=e) (bl:=bl) (ps.length-1) (fun j hj=>by obtain ⟨k,h2⟩:=h.2 j (by omega);exact ⟨_,k,h2⟩)
  obtain ⟨k,h2⟩:=h.2 (ps.length-1) (by omega)
  have h3:yV e bl (ps.length-1)<bl.length:=by
   rcases Nat.lt_or_ge (yV e bl (ps.length-1)) bl.length with g | g
   · exact g
   ·
    unfold yU at h2;rw [List.drop_of_length_le g] at h2
    cases h2
  omega
theorem jaq {b:List UInt8}{C B:Int}{L:List SesM}(h:vk b=(0,⟨C,B,L⟩)):L.length≤32:=by
 have h1:=(jbH.1 (jjf h).1).1;unfold zC at h1;simp only [Bool.and_eq_true,decide_eq_true_eq] at h1;exact h1.2.2
theorem jiI {w:World}{a:Option Addr}{n cap:Nat}{pre:List (Nat × Value)}(h:Rd w (.slice a n cap) n (pre.map (·.2)))(k:Nat)(hk:k<pre.length):∃ b off,a=some ⟨b,off,none⟩∧w.cell? ⟨b,off+k,none⟩=some pre[k].2:=by
 obtain ⟨a',cap',e,_,_,_,h3⟩:=h;injection e with e1 e2 e3
 subst e1;obtain ⟨b,off,h4,h5⟩:=h3 k (by rw [List.length_map];exact hk)
 refine ⟨b,off,h4,?_⟩;rw [h5,List.getD,List.getElem?_map,List.getElem?_eq_getElem hk];rfl
theorem Found.pays {e:UInt32}{bl:List (List UInt8)}{B:Nat}{pre:List (Nat × Value)}{W:World}(h:Found e bl B pre W)(hn:yU e bl pre.length=none) :
  (zU e bl).length=pre.length∧pre.length≤bl.length∧∀ i (hi:i<pre.length),∃ p,(zU e bl)[i]?=some p∧p.length≤512∧Rd W pre[i].2 p.length (p.map V8):=by
 have a0:∀ i (hi:i<pre.length),∃ p k,yU e bl i=some (p,k)∧OwnM W B 5 pre[i].2 p.length (p.map V8):=fun i hi=>(h.row i pre[i] (List.getElem?_eq_getElem hi)).2
 obtain ⟨ps,a1⟩:∃ ps:List (List UInt8),ps=(List.range pre.length).map (fun i=>((yU e bl i).getD ([],0)).1):=⟨_,rfl⟩
 have hl:ps.length=pre.length:=by rw [a1];simp
 have hg:∀ i (hi:i<ps.length),ps[i]=((yU e bl i).getD ([],0)).1:=fun i hi=>by subst a1;simp
 have a2:IsPays e bl ps:=⟨by rw [hl];exact hn,fun i hi=>by
  obtain ⟨p,k,h1,_⟩:=a0 i (by omega)
  exact ⟨k,by rw [hg i hi,h1];rfl⟩⟩
 rw [a2.eq];refine ⟨hl,by have:=a2.len;omega,fun i hi=>?_⟩
 obtain ⟨p,k,h1,h2⟩:=a0 i hi;have h3:=hg i (by omega)
 rw [h1] at h3;refine ⟨p,by rw [List.getElem?_eq_getElem (by omega),h3];rfl,?_,h2.rd⟩
 exact ((zi e _ p k).1 h1).1
theorem jea {ps:List (List UInt8)}{k:Nat}{p:List UInt8}(h:ps[k]?=some p):vd (ps.drop k)=if (ud p).1=0 then (ud p).2::vd (ps.drop (k+1)) else []:=by
 obtain ⟨hk,rfl⟩:=List.getElem?_eq_some_iff.1 h;rw [List.drop_eq_getElem_cons hk,vd]
theorem jg1 (d:DiskM)(pd:Nat)(F:Nat→Prop)(w:World)(hd:IsDisk w d pd F)(f9:∀ s∈d.strs,s.size≤256)(hl:65≤d.strs.length)(hs:∀ b,(jX d b).length≤9223372036854775807) :
  Calls prog 56 #[.pointer (some ⟨pd,0,none⟩)] w fun e w'=>∃ o,e=.returned (.tuple #[.agg #[.int .i64 (yf d).1.clock,.int .i64 (yf d).1.births,o],.int .u32 (I32 (yf d).2.1),jo (yf d).2.2])∧OwnS w' w.heap.size o (yf d).1.l∧Below w.heap.size w w':=by
 have Hf:=Hd (fun W (hW:IsDisk W d pd F)=>jgI d pd F 0 24 W hW ⟨by decide,by decide⟩ ⟨by decide,by decide⟩ hs)
 have Hr:=Hd (jbt d 0 24);have H6:=Hd (jgB d 0 24);have V:=Hd (jeh d);have Z:=Hd (fun e W (hW:IsDisk W d pd F)=>jeI d pd F 49 16 e W hW (by decide) hl f9)
 have H0:=Hd (fun bl (h1:bl.length=16) h2=>jhK d hl bl h1 h2)
 obtain ⟨K,hK⟩:=Nm (yf d);rw [← hK];unfold yf at hK;obtain ⟨LD,g0⟩:=Nm (jY d 0 24);rw [← g0] at Hf Hr H6 V hK;obtain ⟨ep,bs,er⟩:=LD;simp only at Hr H6 V hK;obtain ⟨eu,e1⟩:=Nm (UInt32.ofNat ep);have g1:(ep:Int)=I32 eu:=by
  rw [e1];unfold I32;rw [UInt32.toNat_ofNat'];have:=H6.1;omega
 rw [← e1] at hK;have G:=Hd hK;have HD:=Hd hd;have b0:=ja w (.cells #[.int .i64 0,.int .i64 0,.slice none 0 0] 30);have HZ:=Hd (Box.new w #[.int .i64 0,.int .i64 0,.slice none 0 0] 30);have HB:=Hd b0;have H7:=Hd (hd.grow b0);have Hs:=Hd g1;clear hd f9 hl hs hK g0 e1 b0 g1 H6;go_enter func56,ntmps56;go_wp2_with fail;generalize (w.alloc (.cells #[.int .i64 0,.int .i64 0,.slice none 0 0] 30))=w1 at HZ HB H7 ⊢;refine (Hf.1 w1 H7.1).mono ?_;rintro ev w2 ⟨bv,rfl,ho,hb⟩;simp only at ho ⊢;rw [Hs.1];have A:=Hd (HB.1.trans (hb.mono HB.1.size));have H8:=Hd (H7.1.grow hb);have H:=Hd (HZ.1.below hb);have H1:=Hd ho.rd;obtain ⟨ba,bc,rfl,_⟩:=ho.rd;obtain ⟨bn,e2⟩:=Nm (bs.length);rw [← e2] at H1 ⊢;have H9:=Hd e2;clear ho hb e2 HB H7 HZ Hf Hs HD;go_wp2_with fail;refine (show Calls _ _ #[jo er,.iface 91 (.int .i64 10)] w2 _ from jcY er 10 (by decide) w2).mono ?_
 rintro ev w3 ⟨rfl,rfl⟩;by_cases h10:er=10
 ·
  rw [if_pos h10] at G;have b6:(er==10)=true:=by simpa using h10
  rw [b6];clear h10 b6;have z0:w3.cell? ⟨w.heap.size,0,none⟩=some (.int .i64 0):=H.1.cell 0 _ rfl;have y0:=H.1.free 0;have z1:w3.cell? ⟨w.heap.size,1,none⟩=some (.int .i64 0):=H.1.cell 1 _ rfl;have y1:=H.1.free 1;have z2:w3.cell? ⟨w.heap.size,2,none⟩=some (.slice none 0 0):=H.1.cell 2 _ rfl;have y2:=H.1.free 2;have P:=Hd (show Box (((w3.setCell ⟨w.heap.size,0,none⟩ (.int .i64 0)).setCell ⟨w.heap.size,1,none⟩ (.int .i64 0)).setCell ⟨w.heap.size,2,none⟩ (.slice none 0 0)) w.heap.size #[.int .i64 0,.int .i64 0,.slice none 0 0] 30∧Below w.heap.size w (((w3.setCell ⟨w.heap.size,0,none⟩ (.int .i64 0)).setCell ⟨w.heap.size,1,none⟩ (.int .i64 0)).setCell ⟨w.heap.size,2,none⟩ (.slice none 0 0)) from
   ⟨((H.1.set 0 (.int .i64 0)).set 1 (.int .i64 0)).set 2 (.slice none 0 0),A.1.trans ((Mod.set3 w.heap.size w3 (.int .i64 0) (.int .i64 0) (.slice none 0 0)).below A.1.size (fun i hi=>Nat.le_of_eq hi.symm))⟩)
  obtain rfl:K=(yh,0,0):=G.1;clear A H8 H H1 G H9 Z H0 V;go_wp2_with fail;exact yi rfl rfl w.heap.size 0 rfl [.int .i64 0,.int .i64 0,.slice none 0 0] _ (js (P.1.1)) underlying30 rfl (by kernel_rfl) _ _ rfl rfl ⟨_,rfl,OwnS.nil _ _,P.1.2⟩
 rw [if_neg h10] at G;have b6:(er==10)=false:=by simpa using h10
 rw [b6];clear h10 b6;by_cases h0:er=0;rotate_left
 ·
  rw [if_neg h0] at G;rw [show jo er=.iface 91 (.int .i64 er) from if_neg h0]
  have z0:w3.cell? ⟨w.heap.size,0,none⟩=some (.int .i64 0):=H.1.cell 0 _ rfl;have y0:=H.1.free 0;have z1:w3.cell? ⟨w.heap.size,1,none⟩=some (.int .i64 0):=H.1.cell 1 _ rfl;have y1:=H.1.free 1;have z2:w3.cell? ⟨w.heap.size,2,none⟩=some (.slice none 0 0):=H.1.cell 2 _ rfl;have y2:=H.1.free 2;have P:=Hd (show Box (((w3.setCell ⟨w.heap.size,0,none⟩ (.int .i64 0)).setCell ⟨w.heap.size,1,none⟩ (.int .i64 0)).setCell ⟨w.heap.size,2,none⟩ (.slice none 0 0)) w.heap.size #[.int .i64 0,.int .i64 0,.slice none 0 0] 30∧Below w.heap.size w (((w3.setCell ⟨w.heap.size,0,none⟩ (.int .i64 0)).setCell ⟨w.heap.size,1,none⟩ (.int .i64 0)).setCell ⟨w.heap.size,2,none⟩ (.slice none 0 0)) from
   ⟨((H.1.set 0 (.int .i64 0)).set 1 (.int .i64 0)).set 2 (.slice none 0 0),A.1.trans ((Mod.set3 w.heap.size w3 (.int .i64 0) (.int .i64 0) (.slice none 0 0)).below A.1.size (fun i hi=>Nat.le_of_eq hi.symm))⟩)
  obtain rfl:K=(yh,0,er):=G.1;have A1:=Hd h0;clear A H8 H H1 G H9 Z H0 V h0;go_wp2_with fail;exact yi rfl rfl w.heap.size 0 rfl [.int .i64 0,.int .i64 0,.slice none 0 0] _ (js (P.1.1)) underlying30 rfl (by kernel_rfl) _ _ rfl rfl ⟨_,by show Ending.returned _=Ending.returned (.tuple #[_,_,jo er]);rw [show jo er=.iface 91 (.int .i64 er) from if_neg A1.1];rfl,OwnS.nil _ _,P.1.2⟩
 rw [if_pos h0] at G;rw [show jo er=.nilIface from if_pos h0]
 clear h0;have Q:=Hd (jgV (.slice ba bn bc) bs w3 (by rw [← H9.1];exact H1.1) (Nat.le_trans V.1 (by decide)))
 obtain ⟨I,hI⟩:=Nm (vk bs);rw [← hI] at G Q;obtain ⟨ei,C,B,L⟩:=I;simp only at G Q;have g2:ei=0→L.length≤32:=fun h=>jaq (b:=bs) (C:=C) (B:=B) (by rw [← hI,h])
 clear hI;go_wp2_with fail;refine Q.1.mono ?_;rintro ev w4 ⟨sv,rfl,ho,hb⟩;obtain ⟨sa,sc,rfl,_⟩:=ho.slice;obtain ⟨sn,g3⟩:=Nm (L.length);rw [← g3] at ho ⊢;have b0:=ja w4 (.cells #[.int .i64 C,.int .i64 B,.slice sa sn sc] 30);have X:=Hd ((A.1.trans (hb.mono A.1.size)).trans (b0.mono (A.1.trans (hb.mono A.1.size)).size));have Hg:=Hd ((H8.1.grow hb).grow b0);have N:=Hd ((H.1.below hb).below b0);have Hh:=Hd (ho.rd.below b0);have Ht:=Hd (show w.heap.size<w4.heap.size from (H.1.below hb).lt)
 have Hu:=Hd g2;have Hi:=Hd (Box.new w4 #[.int .i64 C,.int .i64 B,.slice sa sn sc] 30);clear ho hb b0 g3 g2 A H8 H H1 Q H9 V;by_cases h0:ei=0;rotate_left
 ·
  rw [if_neg h0] at G;rw [show jo ei=.iface 91 (.int .i64 ei) from if_neg h0]
  have z0:(w4.alloc (.cells #[.int .i64 C,.int .i64 B,.slice sa sn sc] 30)).cell? ⟨w.heap.size,0,none⟩=some (.int .i64 0):=N.1.cell 0 _ rfl;have y0:=N.1.free 0;have z1:(w4.alloc (.cells #[.int .i64 C,.int .i64 B,.slice sa sn sc] 30)).cell? ⟨w.heap.size,1,none⟩=some (.int .i64 0):=N.1.cell 1 _ rfl;have y1:=N.1.free 1;have z2:(w4.alloc (.cells #[.int .i64 C,.int .i64 B,.slice sa sn sc] 30)).cell? ⟨w.heap.size,2,none⟩=some (.slice none 0 0):=N.1.cell 2 _ rfl;have y2:=N.1.free 2;have P:=Hd (show Box ((((w4.alloc (.cells #[.int .i64 C,.int .i64 B,.slice sa sn sc] 30)).setCell ⟨w.heap.size,0,none⟩ (.int .i64 0)).setCell ⟨w.heap.size,1,none⟩ (.int .i64 0)).setCell ⟨w.heap.size,2,none⟩ (.slice none 0 0)) w.heap.size #[.int .i64 0,.int .i64 0,.slice none 0 0] 30∧Below w.heap.size w ((((w4.alloc (.cells #[.int .i64 C,.int .i64 B,.slice sa sn sc] 30)).setCell ⟨w.heap.size,0,none⟩ (.int .i64 0)).setCell ⟨w.heap.size,1,none⟩ (.int .i64 0)).setCell ⟨w.heap.size,2,none⟩ (.slice none 0 0)) from
   ⟨((N.1.set 0 (.int .i64 0)).set 1 (.int .i64 0)).set 2 (.slice none 0 0),X.1.trans ((Mod.set3 w.heap.size (w4.alloc (.cells #[.int .i64 C,.int .i64 B,.slice sa sn sc] 30)) (.int .i64 0) (.int .i64 0) (.slice none 0 0)).below X.1.size (fun i hi=>Nat.le_of_eq hi.symm))⟩)
  obtain rfl:K=(yh,0,24):=G.1;clear X Hg N Hh Hi G Z H0 h0;go_wp2_with fail;exact yi rfl rfl w.heap.size 0 rfl [.int .i64 0,.int .i64 0,.slice none 0 0] _ (js (P.1.1)) underlying30 rfl (by kernel_rfl) _ _ rfl rfl ⟨_,rfl,OwnS.nil _ _,P.1.2⟩
 rw [if_pos h0] at G;rw [show jo ei=.nilIface from if_pos h0]
 have Hv:=Hd (Hu.1 h0);clear h0;go_wp2_with fail;refine (show Calls _ _ #[.pointer (some ⟨pd,0,none⟩),.int .i64 49,.int .i64 16,.int .u32 (I32 eu)] (w4.alloc (.cells #[.int .i64 C,.int .i64 B,.slice sa sn sc] 30)) _ from Z.1 eu (w4.alloc (.cells #[.int .i64 C,.int .i64 B,.slice sa sn sc] 30)) Hg.1).mono ?_
 rintro ev w6 ⟨pl,ov,pre,bl,e3,g4,e4,rfl,e5,b5,c5⟩;have e6:=H0.1 bl e3 g4;rw [e6] at e4 e5;obtain ⟨e7,c4,e8⟩:=e5.pays e4;obtain ⟨ps,g5⟩:=Nm (zU eu (zf d 49 16));rw [← g5] at e7 e8 G;have c4:pre.length≤16:=by rw [← e6,e3] at c4;exact c4
 obtain ⟨oa,oc,rfl,_⟩:=jK b5;have b2:Rd w6 (.slice oa pre.length oc) pre.length (pre.map (·.2)):=jq b5
 obtain ⟨np,e9⟩:=Nm (pre.length);rw [← e9] at b2 ⊢;have Hw:=Hd e9;have H5:=Hd (show np≤16 by omega)
 have np0:(np:Int)≤16:=by omega
 have A2:=Hd b2;have Hj:=Hd e8;have A3:=Hd e7;obtain ⟨q,hq⟩:=Nm (w4.heap.size);have Hk:=Hd (Hi.1.below c5);have Hx:=Hd (N.1.below c5);have Hy:=Hd (Hh.1.below c5);have Ha:=Hd (X.1.trans (c5.mono X.1.size));have J:=Hd (show w.heap.size<w4.heap.size from Ht.1)
 rw [← hq] at Hk J ⊢;clear e3 g4 e4 e5 b5 c5 e6 e7 c4 e8 g5 b2 e9 Hi N Hh X Hg Z H0 hq Ht Hu;go_wp2_with fail
 go_loopg [11,54] np (fun gk ov iv wr=>∃ (k:Nat) (E:List EvtM),gk+k=np∧iv=.int .i64 (k:Int)∧OwnE wr w6.heap.size ov E∧E.length≤k∧vd ps=E++vd (ps.drop k)∧(∀ e∈E,EvOk e)∧Below w6.heap.size w6 wr)
 case atStart=>exact ⟨0,[],Nat.add_zero _,rfl,OwnE.nil _ _,Nat.le_refl _,rfl,(fun e he=>by cases he),Below.refl _ _⟩
 case round =>
  obtain ⟨k,E,g6,rfl,b5,g7,g8,g9,h3⟩:=hrel;have k0:(0:Int)≤(k:Int):=by omega
  have Hb:=Hd g6;have HO:=Hd b5;have Hc:=Hd g7;have H2:=Hd g8;have Hl:=Hd g9;have O:=Hd h3;clear g6 b5 g7 g8 g9 h3;by_cases hk:k<np;rotate_left
  ·
   have k1:¬ (k:Int)<(np:Int):=by omega
   have c6:vd ps=E:=by
    have h:=H2.1;rw [List.drop_of_length_le (show ps.length≤k by have:=Hw.1;have:=A3.1;omega)] at h
    rw [h];exact List.append_nil E
   clear hk;have b1:=Hk.1.below O.1;have c7:=Hx.1.below O.1;have b7:=jcG ⟨C,B,L⟩ E (.slice sa sn sc) _ wr (Hy.1.below O.1) HO.1.rd (by have:=Hv.1;have:=Hc.1;have:=H5.1;have:=Hb.1;show L.length+E.length≤_;omega) Hl.1
   rw [c6] at G;obtain ⟨R,hR⟩:=Nm (yE ⟨C,B,L⟩ E);rw [← hR] at b7 G;have S:=Hd b7;obtain ⟨es,ec,f3,_⟩:=HO.1.slice;subst f3;obtain ⟨en,c8⟩:=Nm (E.length);rw [← c8] at S ⊢;have c0:wr.cell? ⟨q,0,none⟩=some (.int .i64 C):=b1.cell 0 _ rfl;have c1:wr.cell? ⟨q,1,none⟩=some (.int .i64 B):=b1.cell 1 _ rfl;have c2:wr.cell? ⟨q,2,none⟩=some (.slice sa sn sc):=b1.cell 2 _ rfl;have M:=Hd b1;have H3:=Hd c7;have T:=Hd (Ha.1.trans (O.1.mono Ha.1.size));clear b1 c7 b7 hR c8 c6 H2 Hj;go_wp2_with fail;refine S.1.mono ?_;rintro ev wm ⟨o,rfl,ho,b3⟩;obtain ⟨ra,rc,rfl,_⟩:=ho.slice;obtain ⟨⟨RC,RB,RL⟩,rn⟩:=R;simp only at ho ⊢;obtain ⟨rl,b2⟩:=Nm (RL.length);rw [← b2] at ho ⊢;have a9:=M.1.below b3;have a4:=H3.1.below b3;clear c0 c1 c2;have c0:wm.cell? ⟨q,0,none⟩=some (.int .i64 C):=a9.cell 0 _ rfl;have c1:wm.cell? ⟨q,1,none⟩=some (.int .i64 B):=a9.cell 1 _ rfl;have c2:wm.cell? ⟨q,2,none⟩=some (.slice sa sn sc):=a9.cell 2 _ rfl;have f0:=a9.free 0;have f1:=a9.free 1;have f2:=a9.free 2;have b4:=Mod.set3 q wm (.int .i64 RC) (.int .i64 RB) (.slice ra rl rc);have z0:wm.cell? ⟨w.heap.size,0,none⟩=some (.int .i64 0):=a4.cell 0 _ rfl;have z1:wm.cell? ⟨w.heap.size,1,none⟩=some (.int .i64 0):=a4.cell 1 _ rfl;have z2:wm.cell? ⟨w.heap.size,2,none⟩=some (.slice none 0 0):=a4.cell 2 _ rfl;have y0:=a4.free 0;have y1:=a4.free 1;have y2:=a4.free 2;have f4:¬ q=w.heap.size:=by have:=J.1;omega
   have c9:¬ w.heap.size=q:=by have:=J.1;omega
   have b8:=T.1.trans (b3.mono T.1.size);have b9:=b8.trans (b4.below b8.size (fun i hi=>by have:=J.1;omega))
   have c3:=Mod.set3 w.heap.size (((wm.setCell ⟨q,0,none⟩ (.int .i64 RC)).setCell ⟨q,1,none⟩ (.int .i64 RB)).setCell ⟨q,2,none⟩ (.slice ra rl rc)) (.int .i64 RC) (.int .i64 RB) (.slice ra rl rc);have d0:=a4.mod b4 (fun e=>c9 e)
   have d1:w.heap.size≤wr.heap.size:=Nat.le_trans (Nat.le_of_lt J.1) (Nat.le_of_lt M.1.lt);have d2:=(ho.base (base':=w.heap.size) d1).mod b4 (fun k hk e=>by have:=(ho.lt k hk).1;have:=M.1.lt;omega)
   have d3:=d2.mod c3 (fun k hk e=>by have:=(ho.lt k hk).1;have:=M.1.lt;have:=J.1;omega)
   have d4:=((d0.set 0 (.int .i64 RC)).set 1 (.int .i64 RB)).set 2 (.slice ra rl rc);have d5:=b9.trans (c3.below b9.size (fun i hi=>Nat.le_of_eq hi.symm))
   have Y:=Hd (show Box ((((((wm.setCell ⟨q,0,none⟩ (.int .i64 RC)).setCell ⟨q,1,none⟩ (.int .i64 RB)).setCell ⟨q,2,none⟩ (.slice ra rl rc)).setCell ⟨w.heap.size,0,none⟩ (.int .i64 RC)).setCell ⟨w.heap.size,1,none⟩ (.int .i64 RB)).setCell ⟨w.heap.size,2,none⟩ (.slice ra rl rc)) w.heap.size #[.int .i64 RC,.int .i64 RB,.slice ra rl rc] 30∧OwnS ((((((wm.setCell ⟨q,0,none⟩ (.int .i64 RC)).setCell ⟨q,1,none⟩ (.int .i64 RB)).setCell ⟨q,2,none⟩ (.slice ra rl rc)).setCell ⟨w.heap.size,0,none⟩ (.int .i64 RC)).setCell ⟨w.heap.size,1,none⟩ (.int .i64 RB)).setCell ⟨w.heap.size,2,none⟩ (.slice ra rl rc)) w.heap.size (.slice ra rl rc) RL∧Below w.heap.size w ((((((wm.setCell ⟨q,0,none⟩ (.int .i64 RC)).setCell ⟨q,1,none⟩ (.int .i64 RB)).setCell ⟨q,2,none⟩ (.slice ra rl rc)).setCell ⟨w.heap.size,0,none⟩ (.int .i64 RC)).setCell ⟨w.heap.size,1,none⟩ (.int .i64 RB)).setCell ⟨w.heap.size,2,none⟩ (.slice ra rl rc)) from ⟨d4,d3,d5⟩)
   obtain rfl:K=(⟨RC,RB,RL⟩,eu,0):=G.1;clear b4 c3 d0 a9 a4 b8 b9 d1 d2 d3 d4 d5 ho b3 M H3 T G S b2;go_wp2_with fail;clear c0 c1 c2 f0 f1 f2 z0 z1 z2 y0 y1 y2 f4 c9;generalize ((((((wm.setCell ⟨q,0,none⟩ (.int .i64 RC)).setCell ⟨q,1,none⟩ (.int .i64 RB)).setCell ⟨q,2,none⟩ (.slice ra rl rc)).setCell ⟨w.heap.size,0,none⟩ (.int .i64 RC)).setCell ⟨w.heap.size,1,none⟩ (.int .i64 RB)).setCell ⟨w.heap.size,2,none⟩ (.slice ra rl rc))=wz at Y ⊢;refine yi rfl rfl w.heap.size 0 rfl [.int .i64 RC,.int .i64 RB,.slice ra rl rc] _ (js Y.1.1) underlying30 rfl (by kernel_rfl) _ _ rfl rfl ?_
   exact ⟨.slice ra rl rc,rfl,Y.1.2.1,Y.1.2.2⟩
  have k1:(k:Int)<(np:Int):=by omega
  have f5:k<pre.length:=by have:=Hw.1;omega
  have Hm:=Hd hk;obtain ⟨p,h4,h5,d6⟩:=Hj.1 k f5;obtain ⟨cb,co,i2,h6⟩:=jiI (A2.1.below O.1) k f5;subst i2;obtain ⟨x,hx⟩:=Nm (pre[k].2);rw [← hx] at d6 h6;obtain ⟨pn,h7⟩:=Nm (p.length);obtain ⟨pa,pc,rfl⟩:∃ a c,x=.slice a pn c:=by obtain ⟨a,c,h,_⟩:=d6;exact ⟨a,c,by rw [h7];exact h⟩
  have d7:=jhW (.slice pa pn pc) p wr (d6.below O.1) (Nat.le_trans h5 (by decide))
  have d8:=jea h4;have d9:=fun h=>jeO (b:=p) h
  obtain ⟨D,hD⟩:=Nm (ud p);rw [← hD] at d7 d8 d9;obtain ⟨de,dx⟩:=D;simp only at d7 d8 d9;have Q:=Hd d7;have H4:=Hd d8;have Hn:=Hd d9;clear hk f5 h4 h5 d6 hx h7 d7 d8 d9 hD;go_wp2_with fail;refine Q.1.mono ?_;rintro ev w8 ⟨rfl,f6⟩;have Hz:=Hd (HO.1.below f6);have Ho:=Hd (O.1.trans (f6.mono O.1.size));clear f6 HO O h6 Q
  go_wp2_with ((with_reducible refine jc ?a0 47 (.tmp 14) (.tmp 61) ?a1 w8.heap.size 0 dx.cells.toList ?a2 dx.cells ?a3 (EvtM.listE _) ?a5 ?a6 ?a7 ?a8);(case a1=>rfl);(case a0=>rfl);(case a2=>rfl);(case a3=>rfl);(case a5=>exact je9 _ _);(case a6=>kernel_rfl);(case a7=>exact EvtM.oneE _))
  intro w9 h8;obtain ⟨h9,f7⟩:=jje h8;have He:=Hd (Hz.1.below f7);have U:=Hd (Ho.1.trans (f7.mono Ho.1.size));have Hp:=Hd h9.rangeV;clear h8 h9 f7 Hz Ho;by_cases h0:de=0;rotate_left
  ·
   rw [show jo de=.iface 91 (.int .i64 de) from if_neg h0]
   rw [if_neg h0] at H4;have c6:vd ps=E:=by
    have h:=H2.1;rw [H4.1] at h;rw [h];exact List.append_nil E
   clear h0 Hp H4 Hn H2;have b1:=Hk.1.below U.1;have c7:=Hx.1.below U.1;have b7:=jcG ⟨C,B,L⟩ E (.slice sa sn sc) _ w9 (Hy.1.below U.1) He.1.rd (by have:=Hv.1;have:=Hc.1;have:=H5.1;have:=Hb.1;show L.length+E.length≤_;omega) Hl.1
   rw [c6] at G;obtain ⟨R,hR⟩:=Nm (yE ⟨C,B,L⟩ E);rw [← hR] at b7 G;have S:=Hd b7;obtain ⟨es,ec,f3,_⟩:=He.1.slice;subst f3;obtain ⟨en,c8⟩:=Nm (E.length);rw [← c8] at S ⊢;have c0:w9.cell? ⟨q,0,none⟩=some (.int .i64 C):=b1.cell 0 _ rfl;have c1:w9.cell? ⟨q,1,none⟩=some (.int .i64 B):=b1.cell 1 _ rfl;have c2:w9.cell? ⟨q,2,none⟩=some (.slice sa sn sc):=b1.cell 2 _ rfl;have M:=Hd b1;have H3:=Hd c7;have T:=Hd (Ha.1.trans (U.1.mono Ha.1.size));clear b1 c7 b7 hR c8 c6 Hj;go_wp2_with fail;refine S.1.mono ?_;rintro ev wm ⟨o,rfl,ho,b3⟩;obtain ⟨ra,rc,rfl,_⟩:=ho.slice;obtain ⟨⟨RC,RB,RL⟩,rn⟩:=R;simp only at ho ⊢;obtain ⟨rl,b2⟩:=Nm (RL.length);rw [← b2] at ho ⊢;have a9:=M.1.below b3;have a4:=H3.1.below b3;clear c0 c1 c2;have c0:wm.cell? ⟨q,0,none⟩=some (.int .i64 C):=a9.cell 0 _ rfl;have c1:wm.cell? ⟨q,1,none⟩=some (.int .i64 B):=a9.cell 1 _ rfl;have c2:wm.cell? ⟨q,2,none⟩=some (.slice sa sn sc):=a9.cell 2 _ rfl;have f0:=a9.free 0;have f1:=a9.free 1;have f2:=a9.free 2;have b4:=Mod.set3 q wm (.int .i64 RC) (.int .i64 RB) (.slice ra rl rc);have z0:wm.cell? ⟨w.heap.size,0,none⟩=some (.int .i64 0):=a4.cell 0 _ rfl;have z1:wm.cell? ⟨w.heap.size,1,none⟩=some (.int .i64 0):=a4.cell 1 _ rfl;have z2:wm.cell? ⟨w.heap.size,2,none⟩=some (.slice none 0 0):=a4.cell 2 _ rfl;have y0:=a4.free 0;have y1:=a4.free 1;have y2:=a4.free 2;have f4:¬ q=w.heap.size:=by have:=J.1;omega
   have c9:¬ w.heap.size=q:=by have:=J.1;omega
   have b8:=T.1.trans (b3.mono T.1.size);have b9:=b8.trans (b4.below b8.size (fun i hi=>by have:=J.1;omega))
   have c3:=Mod.set3 w.heap.size (((wm.setCell ⟨q,0,none⟩ (.int .i64 RC)).setCell ⟨q,1,none⟩ (.int .i64 RB)).setCell ⟨q,2,none⟩ (.slice ra rl rc)) (.int .i64 RC) (.int .i64 RB) (.slice ra rl rc);have d0:=a4.mod b4 (fun e=>c9 e)
   have d1:w.heap.size≤w9.heap.size:=Nat.le_trans (Nat.le_of_lt J.1) (Nat.le_of_lt M.1.lt);have d2:=(ho.base (base':=w.heap.size) d1).mod b4 (fun k hk e=>by have:=(ho.lt k hk).1;have:=M.1.lt;omega)
   have d3:=d2.mod c3 (fun k hk e=>by have:=(ho.lt k hk).1;have:=M.1.lt;have:=J.1;omega)
   have d4:=((d0.set 0 (.int .i64 RC)).set 1 (.int .i64 RB)).set 2 (.slice ra rl rc);have d5:=b9.trans (c3.below b9.size (fun i hi=>Nat.le_of_eq hi.symm))
   have Y:=Hd (show Box ((((((wm.setCell ⟨q,0,none⟩ (.int .i64 RC)).setCell ⟨q,1,none⟩ (.int .i64 RB)).setCell ⟨q,2,none⟩ (.slice ra rl rc)).setCell ⟨w.heap.size,0,none⟩ (.int .i64 RC)).setCell ⟨w.heap.size,1,none⟩ (.int .i64 RB)).setCell ⟨w.heap.size,2,none⟩ (.slice ra rl rc)) w.heap.size #[.int .i64 RC,.int .i64 RB,.slice ra rl rc] 30∧OwnS ((((((wm.setCell ⟨q,0,none⟩ (.int .i64 RC)).setCell ⟨q,1,none⟩ (.int .i64 RB)).setCell ⟨q,2,none⟩ (.slice ra rl rc)).setCell ⟨w.heap.size,0,none⟩ (.int .i64 RC)).setCell ⟨w.heap.size,1,none⟩ (.int .i64 RB)).setCell ⟨w.heap.size,2,none⟩ (.slice ra rl rc)) w.heap.size (.slice ra rl rc) RL∧Below w.heap.size w ((((((wm.setCell ⟨q,0,none⟩ (.int .i64 RC)).setCell ⟨q,1,none⟩ (.int .i64 RB)).setCell ⟨q,2,none⟩ (.slice ra rl rc)).setCell ⟨w.heap.size,0,none⟩ (.int .i64 RC)).setCell ⟨w.heap.size,1,none⟩ (.int .i64 RB)).setCell ⟨w.heap.size,2,none⟩ (.slice ra rl rc)) from ⟨d4,d3,d5⟩)
   obtain rfl:K=(⟨RC,RB,RL⟩,eu,0):=G.1;clear b4 c3 d0 a9 a4 b8 b9 d1 d2 d3 d4 d5 ho b3 M H3 T G S b2;go_wp2_with fail;clear c0 c1 c2 f0 f1 f2 z0 z1 z2 y0 y1 y2 f4 c9;generalize ((((((wm.setCell ⟨q,0,none⟩ (.int .i64 RC)).setCell ⟨q,1,none⟩ (.int .i64 RB)).setCell ⟨q,2,none⟩ (.slice ra rl rc)).setCell ⟨w.heap.size,0,none⟩ (.int .i64 RC)).setCell ⟨w.heap.size,1,none⟩ (.int .i64 RB)).setCell ⟨w.heap.size,2,none⟩ (.slice ra rl rc))=wz at Y ⊢;refine yi rfl rfl w.heap.size 0 rfl [.int .i64 RC,.int .i64 RB,.slice ra rl rc] _ (js Y.1.1) underlying30 rfl (by kernel_rfl) _ _ rfl rfl ?_
   exact ⟨.slice ra rl rc,rfl,Y.1.2.1,Y.1.2.2⟩
  rw [show jo de=.nilIface from if_pos h0]
  rw [if_pos h0] at H4;have A4:=Hd (Hn.1 h0);clear h0 Hn
  go_wp2_with ((with_reducible refine je ?b01 47 (.tmp 14) ?b11 w8.heap.size 0 ?b21 dx.cells.toList _ Hp.1 underlying47 ?b31 ?b41 ?b81);(case b11=>rfl);(case b01=>rfl);(case b21=>rfl);(case b31=>rfl);(case b41=>kernel_rfl))
  intro cv i0;have ecv:cv=dx.cells:=by rw [i0.out]
  subst ecv;clear i0 Hp
  go_wp2_with (refine jD (op:=⟨some 67,_,_,_,_,_⟩) (by rfl) 22 1 #[(0,.tmp 66)] rfl #[(0,.agg dx.cells)] (by kernel_rfl) _ _ (jke dx w9) ?_)
  intro wa f8;have b0:Below w9.heap.size w9 wa:=by rw [f8.out];exact ja _ _
  have A0:=Hd (show ∀ j u,dx.cells.toList[j]?=some u→wa.cell? ((⟨w9.heap.size,0,none⟩:Addr).add j)=some u by rw [f8.out];exact jhY w9 dx _)
  have Hq:=Hd (He.1.below b0);have A:=Hd (U.1.trans (b0.mono U.1.size));have A5:=Hd (show E.length+1≤1034834473200 by have:=Hc.1;have:=Hm.1;have:=H5.1;omega)
  clear f8 b0 He U
  go_wp2_with (at_builtin;refine jkz rfl _ _ rfl w6.heap.size _ E rfl Hq.1 ⟨w9.heap.size,0,none⟩ 1 dx rfl A0.1 A5.1 (by have:=A.1.size;omega) ?_)
  intro v' w3' e0 i1 _;have A6:=Hd (A.1.trans (ji i1 A.1.size (fun q hq=>(Hq.1.lt q hq).1)))
  have A7:=Hd e0;clear i1 e0 Hq A A0;go_wp2_with fail
  go_roundg (np-(k+1))
  case measure=>have:=Hb.1;have:=Hm.1;omega
  case rel=>exact ⟨k+1,E ++ [dx],by have:=Hb.1;have:=Hm.1;omega,by go_num,A7.1,by rw [List.length_append,List.length_singleton];have:=Hc.1;omega,by rw [H2.1,H4.1,List.append_assoc];rfl,fun e he=>by
   rcases List.mem_append.1 he with he | he
   · exact Hl.1 e he
   · rw [List.mem_singleton.1 he];exact A4.1,A6.1⟩
end Go.Proofs.YtgcnolapjppbpaaGreatDoor
