/- Texts of one proof. -/
import Derived.Test.YtgcnolapjppbpaaGreatDoorK26
import Derived.Test.YtgcnolapjppbpaaGreatDoorK27
import Derived.Test.YtgcnolapjppbpaaGreatDoorK28
namespace Go.Proofs.YtgcnolapjppbpaaGreatDoor
open Go.RowKit _root_.Go.Proofs.Tryz
set_option maxRecDepth 100000
set_option maxHeartbeats 25600000
variable {e:UInt32}{bl:List (List UInt8)}
theorem ym {P:Program}{fn:Func}{R:Ending->World->Prop}{a:Act}{w:World}{p u v:Tmp}{ty:TypeId}(h:fn.results=#[.cell p ty,.tmp u,.tmp v])(a0:a.defers = [])(b o:Nat)(hp:a.tmps.getD p undef=.pointer (some ⟨b,o,none⟩))(cs:List Value)(d:TypeDesc)(hc:w.rangeAt b o cs)(hu:P.underlying ty=some d)(hd:d.isRow=true)(hi:(P.info? ty).map (·.size)=some cs.length)(x y:Value)(hx:a.tmps.getD u undef=x)(hy:a.tmps.getD v undef=y)(hR:R (.returned (.tuple #[.agg cs.toArray,x,y])) w):bodyPost P fn R .ret a w:=by
 refine qP (v:=.tuple #[.agg cs.toArray,x,y]) ?_ a0 hR;have a1:a.tmps[p]?.getD undef=.pointer (some ⟨b,o,none⟩):=by simpa using hp
 have a2:a.tmps[u]?.getD undef=x:=by simpa using hx
 have a3:a.tmps[v]?.getD undef=y:=by simpa using hy
 simp only [results,h]
 simp [a1,a2,a3,asAddr,Result.andThen,run_loadVar_mid w b o ty cs d hc hu hd hi]
theorem jl1 {e:EvtM}(h:jM e=true)(a0:e.s.scopes<2 ^ 64):EvOk e:=by
 have i64:∀ {n:Int},N63 n->I64 n:=fun h=>⟨by have:=h.1;omega,h.2⟩
 have lo:∀ n:Int,0<=n->n<=9223372036854775807->I64 n:=fun n a b=>⟨by omega,b⟩
 unfold jM at h
 split at h
 .
  rename_i k
  simp only [qq,qK] at h k;have s:=SesN.of h.2.2;exact ⟨qi s.user (by decide),qi s.label (by decide),a0,by rw [k];exact lo 0 (by decide) (by decide),by rw [h.1];exact lo 0 (by decide) (by decide),by rw [h.2.1];exact lo 0 (by decide) (by decide),i64 s.slot,i64 s.birth,i64 s.upS,i64 s.upB,i64 s.kind,i64 s.level,i64 s.born,i64 s.deadline,i64 s.depth⟩
 .
  have z:e.s=ju->I64 e.kind->I64 e.birth->I64 e.ticks->EvOk e:=fun hs h1 h2 h3=>by
   have z0:I64 0:=lo 0 (by decide) (by decide)
   exact ⟨by rw [hs];decide,by rw [hs];decide,a0,h1,h2,h3,by rw [hs];exact z0,by rw [hs];exact z0,by rw [hs];exact z0,by rw [hs];exact z0,by rw [hs];exact z0,by rw [hs];exact z0,by rw [hs];exact z0,by rw [hs];exact z0,by rw [hs];exact z0⟩
  split at h
  .
   rename_i k
   simp only [qq,qK,yB] at h k;have:=jV h.2.2;exact z h.1 (by rw [k];exact lo 1 (by decide) (by decide)) (lo _ (by omega) (by omega)) (by rw [h.2.1];exact lo 0 (by decide) (by decide))
  .
   split at h
   .
    rename_i k
    simp only [qq,qK,yB] at h k;have:=jV h.2.2;exact z h.1 (by rw [k];exact lo 2 (by decide) (by decide)) (by rw [h.2.1];exact lo 0 (by decide) (by decide)) (lo _ (by omega) (by omega))
   . cases h
theorem jgA {b:List UInt8}(h:(vT b).1=0):EvOk (vT b).2:=by
 have h1:vT b=(0,(vT b).2):=by rw [<- h]
 obtain ⟨h2,h3,_⟩:=jkM h1;exact jl1 h2 h3
theorem jkI :∀ (i:Nat),(∀ j,j<i->∃ p k,yN e bl j=some (p,k))->i<=yQ e bl i
 | 0,_=>qJ _
 | i+1,h=>by
  obtain ⟨p,k,h1⟩:=h i (by omega)
  have h2:=jkI i (fun j hj=>h j (by omega))
  have h3:=((zv e _ p k).1 h1).2.1;have h4:=us e p;rw [ze h1];omega
theorem IsPays.len {ps:List (List UInt8)}(h:IsPays e bl ps):ps.length<=bl.length:=by
 by_cases h0:ps.length=0
 . omega
 .
  have h1:=jkI (e:=e) (bl:=bl) (ps.length-1) (fun j hj=>by obtain ⟨k,h2⟩:=h.2 j (by omega);exact ⟨_,k,h2⟩)
  obtain ⟨k,h2⟩:=h.2 (ps.length-1) (by omega)
  have h3:yQ e bl (ps.length-1)<bl.length:=by
   rcases qX (yQ e bl (ps.length-1)) bl.length with g | g
   . exact g
   .
    unfold yN at h2;rw [qZ g] at h2
    cases h2
  omega
theorem ja5 {b:List UInt8}{C B:Int}{L:List SesM}(h:vy b=(0,⟨C,B,L⟩)):L.length<=32:=by
 have h1:=(jac.1 (jkw h).1).1;unfold zA at h1;simp only [qq,pC] at h1;exact h1.2.2
theorem jk1 {w:World}{a:Option Addr}{n cap:Nat}{pre:List (Nat × Value)}(h:Rd w (.slice a n cap) n (pre.map (·.2)))(k:Nat)(hk:k<pre.length):∃ b off,a=some ⟨b,off,none⟩/\w.cell? ⟨b,off+k,none⟩=some pre[k].2:=by
 obtain ⟨a',cap',e,_,_,_,h3⟩:=h;injection e with e1 e2 e3
 subst e1;obtain ⟨b,off,h4,h5⟩:=h3 k (by rw [qE];exact hk)
 refine ⟨b,off,h4,?_⟩;rw [h5,List.getD,List.getElem?_map,List.getElem?_eq_getElem hk];rfl
theorem Found.pays {B:Nat}{pre:List (Nat × Value)}{W:World}(h:Found e bl B pre W)(hn:yN e bl pre.length=none) :
  (vD e bl).length=pre.length/\pre.length<=bl.length/\∀ i (hi:i<pre.length),∃ p,(vD e bl)[i]?=some p/\p.length<=512/\Rd W pre[i].2 p.length (p.map V8):=by
 have a0:∀ i (hi:i<pre.length),∃ p k,yN e bl i=some (p,k)/\OwnM W B 5 pre[i].2 p.length (p.map V8):=fun i hi=>(h.row i pre[i] (List.getElem?_eq_getElem hi)).2
 obtain ⟨ps,a1⟩:∃ ps:List (List UInt8),ps=(List.range pre.length).map (fun i=>((yN e bl i).getD ([],0)).1):=⟨_,rfl⟩
 have hl:ps.length=pre.length:=by rw [a1];simp
 have hg:∀ i (hi:i<ps.length),ps[i]=((yN e bl i).getD ([],0)).1:=fun i hi=>by subst a1;simp
 have a2:IsPays e bl ps:=⟨by rw [hl];exact hn,fun i hi=>by
  obtain ⟨p,k,h1,_⟩:=a0 i (by omega)
  exact ⟨k,by rw [hg i hi,h1];rfl⟩⟩
 rw [a2.eq];refine ⟨hl,by have:=a2.len;omega,fun i hi=>?_⟩
 obtain ⟨p,k,h1,h2⟩:=a0 i hi;have h3:=hg i (by omega)
 rw [h1] at h3;refine ⟨p,by rw [List.getElem?_eq_getElem (by omega),h3];rfl,?_,h2.rd⟩
 exact ((zv e _ p k).1 h1).1
theorem jfP {ps:List (List UInt8)}{k:Nat}{p:List UInt8}(h:ps[k]?=some p):vm (ps.drop k)=if (vT p).1=0 then (vT p).2::vm (ps.drop (k+1)) else []:=by
 obtain ⟨hk,rfl⟩:=List.getElem?_eq_some_iff.1 h;rw [qL hk,vm]
theorem jit (d:DiskM)(pd:Nat)(F:Nat->Prop)(w:World)(hd:IsDisk w d pd F)(e8:∀ s∈d.strs,s.size<=256)(hl:65<=d.strs.length)(hs:∀ b,(jH d b).length<=9223372036854775807) :
  Calls prog 56 #[.pointer (some ⟨pd,0,none⟩)] w fun e w'=>∃ o,e=.returned (.tuple #[.agg #[.int .i64 (yi d).1.clock,.int .i64 (yi d).1.births,o],.int .u32 (I32 (yi d).2.1),jm (yi d).2.2])/\OwnS w' w.heap.size o (yi d).1.l/\Below w.heap.size w w':=by
 have Hf:=Hd (fun W (hW:IsDisk W d pd F)=>jid d pd F 0 24 W hW ⟨by decide,by decide⟩ ⟨by decide,by decide⟩ hs)
 have Hr:=Hd (jct d 0 24);have H6:=Hd (jhv d 0 24);have V:=Hd (jfx d);have Z:=Hd (fun e W (hW:IsDisk W d pd F)=>jge d pd F 49 16 e W hW (by decide) hl e8)
 have H0:=Hd (fun bl (h1:bl.length=16) h2=>jjl d hl bl h1 h2)
 obtain ⟨K,hK⟩:=Nm (yi d);rw [<- hK];unfold yi at hK;obtain ⟨LD,e9⟩:=Nm (jZ d 0 24);rw [<- e9] at Hf Hr H6 V hK;obtain ⟨ep,bs,er⟩:=LD;simp only at Hr H6 V hK;obtain ⟨eu,d3⟩:=Nm (UInt32.ofNat ep);have f3:(ep:Int)=I32 eu:=by
  rw [d3];unfold I32;rw [UInt32.toNat_ofNat'];have:=H6.1;omega
 rw [<- d3] at hK;have G:=Hd hK;have HD:=Hd hd;have a2:=ja w (.cells #[(0:Int),(0:Int),.slice none 0 0] 30);have HZ:=Hd (Box.new w #[(0:Int),(0:Int),.slice none 0 0] 30);have HB:=Hd a2;have H7:=Hd (hd.grow a2);have Hs:=Hd f3;clear hd e8 hl hs hK e9 d3 a2 f3 H6;go_enter func56,ntmps56;go_wp2_with fail;generalize (w.alloc (.cells #[(0:Int),(0:Int),.slice none 0 0] 30))=w1 at HZ HB H7 |-;refine (Hf.1 w1 H7.1).mono ?_;rintro ev w2 ⟨bv,rfl,ho,hb⟩;simp only at ho |-;rw [Hs.1];have A:=Hd (HB.1.trans (hb.mono HB.1.size));have H8:=Hd (H7.1.grow hb);have H:=Hd (HZ.1.below hb);have H1:=Hd ho.rd;obtain ⟨ba,bc,rfl,_⟩:=ho.rd;obtain ⟨bn,d4⟩:=Nm (bs.length);rw [<- d4] at H1 |-;have H9:=Hd d4;clear ho hb d4 HB H7 HZ Hf Hs HD;go_wp2_with fail;refine (show Calls _ _ #[jm er,.iface 91 (10:Int)] w2 _ from jeg er 10 (by decide) w2).mono ?_
 rintro ev w3 ⟨rfl,rfl⟩;by_cases h10:er=10
 .
  rw [qf h10] at G;have a8:(er==10)=true:=by simpa using h10
  rw [a8];clear h10 a8;obtain ⟨z0,y0,z1,y1,z2,y2⟩:=B3 H.1;have P:=Hd (show Box (((w3.setCell ⟨w.heap.size,0,none⟩ (0:Int)).setCell ⟨w.heap.size,1,none⟩ (0:Int)).setCell ⟨w.heap.size,2,none⟩ (.slice none 0 0)) w.heap.size #[(0:Int),(0:Int),.slice none 0 0] 30/\Below w.heap.size w (((w3.setCell ⟨w.heap.size,0,none⟩ (0:Int)).setCell ⟨w.heap.size,1,none⟩ (0:Int)).setCell ⟨w.heap.size,2,none⟩ (.slice none 0 0)) from
   ⟨((H.1.set 0 (0:Int)).set 1 (0:Int)).set 2 (.slice none 0 0),A.1.trans ((Mod.set3 w.heap.size w3 (0:Int) (0:Int) (.slice none 0 0)).below A.1.size (fun i hi=>qS hi.symm))⟩)
  obtain rfl:K=(jI,0,0):=G.1;clear A H8 H H1 G H9 Z H0 V;go_wp2_with fail;exact ym rfl rfl w.heap.size 0 rfl [(0:Int),(0:Int),.slice none 0 0] _ (jj (P.1.1)) underlying30 rfl (by kernel_rfl) _ _ rfl rfl ⟨_,rfl,OwnS.nil _ _,P.1.2⟩
 rw [qh h10] at G;have a8:(er==10)=false:=by simpa using h10
 rw [a8];clear h10 a8;by_cases h0:er=0;rotate_left
 .
  rw [qh h0] at G;rw [show jm er=.iface 91 er from qh h0]
  obtain ⟨z0,y0,z1,y1,z2,y2⟩:=B3 H.1;have P:=Hd (show Box (((w3.setCell ⟨w.heap.size,0,none⟩ (0:Int)).setCell ⟨w.heap.size,1,none⟩ (0:Int)).setCell ⟨w.heap.size,2,none⟩ (.slice none 0 0)) w.heap.size #[(0:Int),(0:Int),.slice none 0 0] 30/\Below w.heap.size w (((w3.setCell ⟨w.heap.size,0,none⟩ (0:Int)).setCell ⟨w.heap.size,1,none⟩ (0:Int)).setCell ⟨w.heap.size,2,none⟩ (.slice none 0 0)) from
   ⟨((H.1.set 0 (0:Int)).set 1 (0:Int)).set 2 (.slice none 0 0),A.1.trans ((Mod.set3 w.heap.size w3 (0:Int) (0:Int) (.slice none 0 0)).below A.1.size (fun i hi=>qS hi.symm))⟩)
  obtain rfl:K=(jI,0,er):=G.1;have A1:=Hd h0;clear A H8 H H1 G H9 Z H0 V h0;go_wp2_with fail;exact ym rfl rfl w.heap.size 0 rfl [(0:Int),(0:Int),.slice none 0 0] _ (jj (P.1.1)) underlying30 rfl (by kernel_rfl) _ _ rfl rfl ⟨_,by show Ending.returned _=Ending.returned (.tuple #[_,_,jm er]);rw [show jm er=.iface 91 er from qh A1.1];rfl,OwnS.nil _ _,P.1.2⟩
 rw [qf h0] at G;rw [show jm er=.nilIface from qf h0]
 clear h0;have Q:=Hd (jiy (.slice ba bn bc) bs w3 (by rw [<- H9.1];exact H1.1) (qi V.1 (by decide)))
 obtain ⟨I,hI⟩:=Nm (vy bs);rw [<- hI] at G Q;obtain ⟨ei,C,B,L⟩:=I;simp only at G Q;have f4:ei=0->L.length<=32:=fun h=>ja5 (b:=bs) (C:=C) (B:=B) (by rw [<- hI,h])
 clear hI;go_wp2_with fail;refine Q.1.mono ?_;rintro ev w4 ⟨sv,rfl,ho,hb⟩;obtain ⟨sa,sc,rfl,_⟩:=ho.slice;obtain ⟨sn,f5⟩:=Nm (L.length);rw [<- f5] at ho |-;have a2:=ja w4 (.cells #[C,B,.slice sa sn sc] 30);have X:=Hd ((A.1.trans (hb.mono A.1.size)).trans (a2.mono (A.1.trans (hb.mono A.1.size)).size));have Hg:=Hd ((H8.1.grow hb).grow a2);have N:=Hd ((H.1.below hb).below a2);have Hh:=Hd (ho.rd.below a2);have Ht:=Hd (show w.heap.size<w4.heap.size from (H.1.below hb).lt)
 have Hu:=Hd f4;have Hi:=Hd (Box.new w4 #[C,B,.slice sa sn sc] 30);clear ho hb a2 f5 f4 A H8 H H1 Q H9 V;by_cases h0:ei=0;rotate_left
 .
  rw [qh h0] at G;rw [show jm ei=.iface 91 ei from qh h0]
  obtain ⟨z0,y0,z1,y1,z2,y2⟩:=B3 N.1;have P:=Hd (show Box ((((w4.alloc (.cells #[C,B,.slice sa sn sc] 30)).setCell ⟨w.heap.size,0,none⟩ (0:Int)).setCell ⟨w.heap.size,1,none⟩ (0:Int)).setCell ⟨w.heap.size,2,none⟩ (.slice none 0 0)) w.heap.size #[(0:Int),(0:Int),.slice none 0 0] 30/\Below w.heap.size w ((((w4.alloc (.cells #[C,B,.slice sa sn sc] 30)).setCell ⟨w.heap.size,0,none⟩ (0:Int)).setCell ⟨w.heap.size,1,none⟩ (0:Int)).setCell ⟨w.heap.size,2,none⟩ (.slice none 0 0)) from
   ⟨((N.1.set 0 (0:Int)).set 1 (0:Int)).set 2 (.slice none 0 0),X.1.trans ((Mod.set3 w.heap.size (w4.alloc (.cells #[C,B,.slice sa sn sc] 30)) (0:Int) (0:Int) (.slice none 0 0)).below X.1.size (fun i hi=>qS hi.symm))⟩)
  obtain rfl:K=(jI,0,24):=G.1;clear X Hg N Hh Hi G Z H0 h0;go_wp2_with fail;exact ym rfl rfl w.heap.size 0 rfl [(0:Int),(0:Int),.slice none 0 0] _ (jj (P.1.1)) underlying30 rfl (by kernel_rfl) _ _ rfl rfl ⟨_,rfl,OwnS.nil _ _,P.1.2⟩
 rw [qf h0] at G;rw [show jm ei=.nilIface from qf h0]
 have Hv:=Hd (Hu.1 h0);clear h0;go_wp2_with fail;refine (show Calls _ _ #[.pointer (some ⟨pd,0,none⟩),(49:Int),(16:Int),.int .u32 (I32 eu)] (w4.alloc (.cells #[C,B,.slice sa sn sc] 30)) _ from Z.1 eu (w4.alloc (.cells #[C,B,.slice sa sn sc] 30)) Hg.1).mono ?_
 rintro ev w6 ⟨pl,ov,pre,bl,d5,f6,d6,rfl,d7,a7,b4⟩;have d8:=H0.1 bl d5 f6;rw [d8] at d6 d7;obtain ⟨d9,b3,e0⟩:=d7.pays d6;obtain ⟨ps,f7⟩:=Nm (vD eu (xW d 49 16));rw [<- f7] at d9 e0 G;have b3:pre.length<=16:=by rw [<- d8,d5] at b3;exact b3
 obtain ⟨oa,oc,rfl,_⟩:=jP a7;have a4:Rd w6 (.slice oa pre.length oc) pre.length (pre.map (·.2)):=js a7
 obtain ⟨np,e1⟩:=Nm (pre.length);rw [<- e1] at a4 |-;have Hw:=Hd e1;have H5:=Hd (show np<=16 by omega)
 have np0:(np:Int)<=16:=by omega
 have A2:=Hd a4;have Hj:=Hd e0;have A3:=Hd d9;obtain ⟨q,hq⟩:=Nm (w4.heap.size);have Hk:=Hd (Hi.1.below b4);have Hx:=Hd (N.1.below b4);have Hy:=Hd (Hh.1.below b4);have Ha:=Hd (X.1.trans (b4.mono X.1.size));have J:=Hd (show w.heap.size<w4.heap.size from Ht.1)
 rw [<- hq] at Hk J |-;clear d5 f6 d6 d7 a7 b4 d8 d9 b3 e0 f7 a4 e1 Hi N Hh X Hg Z H0 hq Ht Hu;go_wp2
 go_loopg [11,54] np (fun gk ov iv wr=>∃ (k:Nat) (E:List EvtM),gk+k=np/\iv=.int .i64 (k:Int)/\OwnE wr w6.heap.size ov E/\E.length<=k/\vm ps=E++vm (ps.drop k)/\(∀ e∈E,EvOk e)/\Below w6.heap.size w6 wr)
 case atStart=>exact ⟨0,[],qT _,rfl,OwnE.nil _ _,qm _,rfl,(fun e he=>by cases he),qG _ _⟩
 case round =>
  obtain ⟨k,E,f8,rfl,a7,f9,g0,g1,g2⟩:=hrel;have k0:(0:Int)<=(k:Int):=by omega
  have Hb:=Hd f8;have HO:=Hd a7;have Hc:=Hd f9;have H2:=Hd g0;have Hl:=Hd g1;have O:=Hd g2;clear f8 a7 f9 g0 g1 g2;by_cases hk:k<np;rotate_left
  .
   have k1:¬ (k:Int)<(np:Int):=by omega
   have b5:vm ps=E:=by
    have h:=H2.1;rw [qZ (show ps.length<=k by have:=Hw.1;have:=A3.1;omega)] at h
    rw [h];exact qF E
   clear hk;have a3:=Hk.1.below O.1;have b6:=Hx.1.below O.1;have a9:=jd3 ⟨C,B,L⟩ E (.slice sa sn sc) _ wr (Hy.1.below O.1) HO.1.rd (by have:=Hv.1;have:=Hc.1;have:=H5.1;have:=Hb.1;show L.length+E.length<=_;omega) Hl.1
   rw [b5] at G;obtain ⟨R,hR⟩:=Nm (yy ⟨C,B,L⟩ E);rw [<- hR] at a9 G;have S:=Hd a9;obtain ⟨es,ec,e2,_⟩:=HO.1.slice;subst e2;obtain ⟨en,b7⟩:=Nm (E.length);rw [<- b7] at S |-;obtain ⟨c0,c1,c2⟩:=C3 a3;have M:=Hd a3;have H3:=Hd b6;have T:=Hd (Ha.1.trans (O.1.mono Ha.1.size));clear a3 b6 a9 hR b7 b5 H2 Hj;go_wp2_with fail;refine S.1.mono ?_;rintro ev wm ⟨o,rfl,ho,a5⟩;obtain ⟨ra,rc,rfl,_⟩:=ho.slice;obtain ⟨⟨RC,RB,RL⟩,rn⟩:=R;simp only at ho |-;obtain ⟨rl,a4⟩:=Nm (RL.length);rw [<- a4] at ho |-;have a1:=M.1.below a5;have a0:=H3.1.below a5;clear c0 c1 c2;obtain ⟨c0,f0,c1,f1,c2,f2⟩:=B3 a1;have a6:=Mod.set3 q wm RC RB (.slice ra rl rc);obtain ⟨z0,y0,z1,y1,z2,y2⟩:=B3 a0;have e3:¬ q=w.heap.size:=by have:=J.1;omega
   have b8:¬ w.heap.size=q:=by have:=J.1;omega
   have b0:=T.1.trans (a5.mono T.1.size);have b1:=b0.trans (a6.below b0.size (fun i hi=>by have:=J.1;omega))
   have b2:=Mod.set3 w.heap.size (((wm.setCell ⟨q,0,none⟩ RC).setCell ⟨q,1,none⟩ RB).setCell ⟨q,2,none⟩ (.slice ra rl rc)) RC RB (.slice ra rl rc);have b9:=a0.mod a6 (fun e=>b8 e)
   have c3:w.heap.size<=wr.heap.size:=qi (kh J.1) (kh M.1.lt);have c4:=(ho.base (base':=w.heap.size) c3).mod a6 (fun k hk e=>by have:=(ho.lt k hk).1;have:=M.1.lt;omega)
   have c5:=c4.mod b2 (fun k hk e=>by have:=(ho.lt k hk).1;have:=M.1.lt;have:=J.1;omega)
   have c6:=((b9.set 0 RC).set 1 RB).set 2 (.slice ra rl rc);have c7:=b1.trans (b2.below b1.size (fun i hi=>qS hi.symm))
   have Y:=Hd (show Box ((((((wm.setCell ⟨q,0,none⟩ RC).setCell ⟨q,1,none⟩ RB).setCell ⟨q,2,none⟩ (.slice ra rl rc)).setCell ⟨w.heap.size,0,none⟩ RC).setCell ⟨w.heap.size,1,none⟩ RB).setCell ⟨w.heap.size,2,none⟩ (.slice ra rl rc)) w.heap.size #[RC,RB,.slice ra rl rc] 30/\OwnS ((((((wm.setCell ⟨q,0,none⟩ RC).setCell ⟨q,1,none⟩ RB).setCell ⟨q,2,none⟩ (.slice ra rl rc)).setCell ⟨w.heap.size,0,none⟩ RC).setCell ⟨w.heap.size,1,none⟩ RB).setCell ⟨w.heap.size,2,none⟩ (.slice ra rl rc)) w.heap.size (.slice ra rl rc) RL/\Below w.heap.size w ((((((wm.setCell ⟨q,0,none⟩ RC).setCell ⟨q,1,none⟩ RB).setCell ⟨q,2,none⟩ (.slice ra rl rc)).setCell ⟨w.heap.size,0,none⟩ RC).setCell ⟨w.heap.size,1,none⟩ RB).setCell ⟨w.heap.size,2,none⟩ (.slice ra rl rc)) from ⟨c6,c5,c7⟩)
   obtain rfl:K=(⟨RC,RB,RL⟩,eu,0):=G.1;clear a6 b2 b9 a1 a0 b0 b1 c3 c4 c5 c6 c7 ho a5 M H3 T G S a4;go_wp2_with fail;clear c0 c1 c2 f0 f1 f2 z0 z1 z2 y0 y1 y2 e3 b8;generalize ((((((wm.setCell ⟨q,0,none⟩ RC).setCell ⟨q,1,none⟩ RB).setCell ⟨q,2,none⟩ (.slice ra rl rc)).setCell ⟨w.heap.size,0,none⟩ RC).setCell ⟨w.heap.size,1,none⟩ RB).setCell ⟨w.heap.size,2,none⟩ (.slice ra rl rc))=wz at Y |-;refine ym rfl rfl w.heap.size 0 rfl [RC,RB,.slice ra rl rc] _ (jj Y.1.1) underlying30 rfl (by kernel_rfl) _ _ rfl rfl ?_
   exact ⟨.slice ra rl rc,rfl,Y.1.2.1,Y.1.2.2⟩
  have k1:(k:Int)<(np:Int):=by omega
  have e4:k<pre.length:=by have:=Hw.1;omega
  have Hm:=Hd hk;obtain ⟨p,g3,g4,c8⟩:=Hj.1 k e4;obtain ⟨cb,co,h4,g5⟩:=jk1 (A2.1.below O.1) k e4;subst h4;obtain ⟨x,hx⟩:=Nm (pre[k].2);rw [<- hx] at c8 g5;obtain ⟨pn,g6⟩:=Nm (p.length);obtain ⟨pa,pc,rfl⟩:∃ a c,x=.slice a pn c:=by obtain ⟨a,c,h,_⟩:=c8;exact ⟨a,c,by rw [g6];exact h⟩
  have c9:=jjv (.slice pa pn pc) p wr (c8.below O.1) (qi g4 (by decide))
  have d0:=jfP g3;have d1:=fun h=>jgA (b:=p) h
  obtain ⟨D,hD⟩:=Nm (vT p);rw [<- hD] at c9 d0 d1;obtain ⟨de,dx⟩:=D;simp only at c9 d0 d1;have Q:=Hd c9;have H4:=Hd d0;have Hn:=Hd d1;clear hk e4 g3 g4 c8 hx g6 c9 d0 d1 hD;go_wp2_with fail;refine Q.1.mono ?_;rintro ev w8 ⟨rfl,e5⟩;have Hz:=Hd (HO.1.below e5);have Ho:=Hd (O.1.trans (e5.mono O.1.size));clear e5 HO O g5 Q
  go_wp2_with (with_reducible refine Sk dx.cells.toList (EvtM.listE _) (jgD _ _) (EvtM.oneE _) ?_)
  intro w9 g7;obtain ⟨g8,e6⟩:=jkn g7;have He:=Hd (Hz.1.below e6);have U:=Hd (Ho.1.trans (e6.mono Ho.1.size));have Hp:=Hd g8.rangeV;clear g7 g8 e6 Hz Ho;by_cases h0:de=0;rotate_left
  .
   rw [show jm de=.iface 91 de from qh h0]
   rw [qh h0] at H4;have b5:vm ps=E:=by
    have h:=H2.1;rw [H4.1] at h;rw [h];exact qF E
   clear h0 Hp H4 Hn H2;have a3:=Hk.1.below U.1;have b6:=Hx.1.below U.1;have a9:=jd3 ⟨C,B,L⟩ E (.slice sa sn sc) _ w9 (Hy.1.below U.1) He.1.rd (by have:=Hv.1;have:=Hc.1;have:=H5.1;have:=Hb.1;show L.length+E.length<=_;omega) Hl.1
   rw [b5] at G;obtain ⟨R,hR⟩:=Nm (yy ⟨C,B,L⟩ E);rw [<- hR] at a9 G;have S:=Hd a9;obtain ⟨es,ec,e2,_⟩:=He.1.slice;subst e2;obtain ⟨en,b7⟩:=Nm (E.length);rw [<- b7] at S |-;obtain ⟨c0,c1,c2⟩:=C3 a3;have M:=Hd a3;have H3:=Hd b6;have T:=Hd (Ha.1.trans (U.1.mono Ha.1.size));clear a3 b6 a9 hR b7 b5 Hj;go_wp2_with fail;refine S.1.mono ?_;rintro ev wm ⟨o,rfl,ho,a5⟩;obtain ⟨ra,rc,rfl,_⟩:=ho.slice;obtain ⟨⟨RC,RB,RL⟩,rn⟩:=R;simp only at ho |-;obtain ⟨rl,a4⟩:=Nm (RL.length);rw [<- a4] at ho |-;have a1:=M.1.below a5;have a0:=H3.1.below a5;clear c0 c1 c2;obtain ⟨c0,f0,c1,f1,c2,f2⟩:=B3 a1;have a6:=Mod.set3 q wm RC RB (.slice ra rl rc);obtain ⟨z0,y0,z1,y1,z2,y2⟩:=B3 a0;have e3:¬ q=w.heap.size:=by have:=J.1;omega
   have b8:¬ w.heap.size=q:=by have:=J.1;omega
   have b0:=T.1.trans (a5.mono T.1.size);have b1:=b0.trans (a6.below b0.size (fun i hi=>by have:=J.1;omega))
   have b2:=Mod.set3 w.heap.size (((wm.setCell ⟨q,0,none⟩ RC).setCell ⟨q,1,none⟩ RB).setCell ⟨q,2,none⟩ (.slice ra rl rc)) RC RB (.slice ra rl rc);have b9:=a0.mod a6 (fun e=>b8 e)
   have c3:w.heap.size<=w9.heap.size:=qi (kh J.1) (kh M.1.lt);have c4:=(ho.base (base':=w.heap.size) c3).mod a6 (fun k hk e=>by have:=(ho.lt k hk).1;have:=M.1.lt;omega)
   have c5:=c4.mod b2 (fun k hk e=>by have:=(ho.lt k hk).1;have:=M.1.lt;have:=J.1;omega)
   have c6:=((b9.set 0 RC).set 1 RB).set 2 (.slice ra rl rc);have c7:=b1.trans (b2.below b1.size (fun i hi=>qS hi.symm))
   have Y:=Hd (show Box ((((((wm.setCell ⟨q,0,none⟩ RC).setCell ⟨q,1,none⟩ RB).setCell ⟨q,2,none⟩ (.slice ra rl rc)).setCell ⟨w.heap.size,0,none⟩ RC).setCell ⟨w.heap.size,1,none⟩ RB).setCell ⟨w.heap.size,2,none⟩ (.slice ra rl rc)) w.heap.size #[RC,RB,.slice ra rl rc] 30/\OwnS ((((((wm.setCell ⟨q,0,none⟩ RC).setCell ⟨q,1,none⟩ RB).setCell ⟨q,2,none⟩ (.slice ra rl rc)).setCell ⟨w.heap.size,0,none⟩ RC).setCell ⟨w.heap.size,1,none⟩ RB).setCell ⟨w.heap.size,2,none⟩ (.slice ra rl rc)) w.heap.size (.slice ra rl rc) RL/\Below w.heap.size w ((((((wm.setCell ⟨q,0,none⟩ RC).setCell ⟨q,1,none⟩ RB).setCell ⟨q,2,none⟩ (.slice ra rl rc)).setCell ⟨w.heap.size,0,none⟩ RC).setCell ⟨w.heap.size,1,none⟩ RB).setCell ⟨w.heap.size,2,none⟩ (.slice ra rl rc)) from ⟨c6,c5,c7⟩)
   obtain rfl:K=(⟨RC,RB,RL⟩,eu,0):=G.1;clear a6 b2 b9 a1 a0 b0 b1 c3 c4 c5 c6 c7 ho a5 M H3 T G S a4;go_wp2_with fail;clear c0 c1 c2 f0 f1 f2 z0 z1 z2 y0 y1 y2 e3 b8;generalize ((((((wm.setCell ⟨q,0,none⟩ RC).setCell ⟨q,1,none⟩ RB).setCell ⟨q,2,none⟩ (.slice ra rl rc)).setCell ⟨w.heap.size,0,none⟩ RC).setCell ⟨w.heap.size,1,none⟩ RB).setCell ⟨w.heap.size,2,none⟩ (.slice ra rl rc))=wz at Y |-;refine ym rfl rfl w.heap.size 0 rfl [RC,RB,.slice ra rl rc] _ (jj Y.1.1) underlying30 rfl (by kernel_rfl) _ _ rfl rfl ?_
   exact ⟨.slice ra rl rc,rfl,Y.1.2.1,Y.1.2.2⟩
  rw [show jm de=.nilIface from qf h0]
  rw [qf h0] at H4;have A4:=Hd (Hn.1 h0);clear h0 Hn
  go_wp2_with (with_reducible refine Lk Hp.1 underlying47 ?_)
  intro cv g9;have ecv:cv=dx.cells:=by rw [g9.out]
  subst ecv;clear g9 Hp
  go_wp2_with (refine Bs (jls dx w9) ?_)
  intro wa e7;have a2:Below w9.heap.size w9 wa:=by rw [e7.out];exact ja _ _
  have A0:=Hd (show ∀ j u,dx.cells.toList[j]?=some u->wa.cell? ((⟨w9.heap.size,0,none⟩:Addr).add j)=some u by rw [e7.out];exact jfO w9 dx _)
  have Hq:=Hd (He.1.below a2);have A:=Hd (U.1.trans (a2.mono U.1.size));have A5:=Hd (show E.length+1<=1034834473200 by have:=Hc.1;have:=Hm.1;have:=H5.1;omega)
  clear e7 a2 He U
  go_wp2_with (at_builtin;refine jli rfl _ _ rfl w6.heap.size _ E rfl Hq.1 ⟨w9.heap.size,0,none⟩ 1 dx rfl A0.1 A5.1 (by have:=A.1.size;omega) ?_)
  intro v' w3' d2 h3 _;have A6:=Hd (A.1.trans (je h3 A.1.size (fun q hq=>(Hq.1.lt q hq).1)))
  have A7:=Hd d2;clear h3 d2 Hq A A0;go_wp2
  go_roundg (np-(k+1))
  case measure=>have:=Hb.1;have:=Hm.1;omega
  case rel=>exact ⟨k+1,E ++ [dx],by have:=Hb.1;have:=Hm.1;omega,by go_num,A7.1,by rw [qd,qx];have:=Hc.1;omega,by rw [H2.1,H4.1,qB];rfl,fun e he=>by
   rcases qW.1 he with he | he
   . exact Hl.1 e he
   . rw [qC.1 he];exact A4.1,A6.1⟩
end Go.Proofs.YtgcnolapjppbpaaGreatDoor
