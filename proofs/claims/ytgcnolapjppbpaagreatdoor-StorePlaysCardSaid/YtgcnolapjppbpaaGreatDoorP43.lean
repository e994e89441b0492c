/-
  Texts of one proof, one behind the other.
-/
import Derived.Test.YtgcnolapjppbpaaGreatDoorP42
import Derived.Test.YtgcnolapjppbpaaGreatDoorP25
import Derived.Test.YtgcnolapjppbpaaGreatDoorP24
import Derived.Test.YtgcnolapjppbpaaGreatDoorP16
import Derived.Laws.Bits64b
import Derived.Outline
import Derived.Deep.LoopGhost
import Derived.Test.YtgcnolapjppbpaaGreatDoorP00
namespace Go.Proofs.YtgcnolapjppbpaaGreatDoor
open Go.RowKit _root_.Go.Proofs.Tryz
set_option maxRecDepth 100000
set_option maxHeartbeats 25600000
theorem jkH (b:Nat)(w:World)(x y z:Value):Mod (fun i=>i=b) w (((w.setCell ⟨b,0,none⟩ x).setCell ⟨b,1,none⟩ y).setCell ⟨b,2,none⟩ z) :=
 ((Mod.set (fun i=>i=b) w ⟨b,0,none⟩ x rfl).trans (Mod.set (fun i=>i=b) _ ⟨b,1,none⟩ y rfl)).trans (Mod.set (fun i=>i=b) _ ⟨b,2,none⟩ z rfl)
theorem jjF {w:World}{b:Nat}{c d:Int}{x:Value}{t:TypeId}(h:Box w b #[.int .i64 c,.int .i64 d,x] t):w.rangeAt b 0 [.int .i64 c,.int .i64 d,x]:=h.range 0 _ (fun j v hv=>by rw [Nat.zero_add];simpa using hv)
theorem xN {w w':World}{F:Nat→Prop}{a:Addr}{x:Value}(hm:Mod F w w')(hc:w.cell? a=some x)(hn:¬ F a.block):w'.cell? a=some x:=by
 rw [World.cell?_of_block (w:=w) (hm.block a.block (World.block_lt_of_cell? w _ hc) hn)];exact hc
theorem zB {w w':World}{q:Nat}{v:Value}(hg:w.grownBy w' v.ownBlock)(hv:∀ k,v.ownBlock=some k→q≤k)(hq:q≤w.heap.size):Mod (fun i=>q≤i) w w':=by
 have hb:=ji hg hq (fun k hk=>hv k hk)
 exact ⟨hb.os,hb.tape,hb.output,hb.size,fun i _ hn=>hb.block i (by omega)⟩
structure RoS (w0 w:World)(p q:Nat)(c b:Int)(v gv:Value)(g:List Bool)(x:Value)(m:List SesM):Prop where
 bx:Box w p #[.int .i64 c,.int .i64 b,v] 30
 bz:Box w (p+1) #[.int .i64 0,.int .i64 0,.slice none 0 0] 30
 bo:Box w q #[.int .i64 c,.int .i64 b,x] 30
 own:OwnS w (q+1) x m
 rg:Rd w gv g.length (g.map Value.bool)
 bel:Mod (fun k=>p≤k∨gv.ownBlock=some k) w0 w
def ub (goes:SesM→Bool)(l:List SesM)(s:SesM):Bool := !goes s && !xx (zh goes l) s
theorem jjO {goes:SesM→Bool}{l:List SesM}{g:List Bool}(h:jiA goes l g){i:Nat}(hi:i<l.length):ub goes l l[i] = !gat g i:=by
 have h1:=h.2 i hi;have h2:=jaw (goes:=goes) (l:=l) (s:=l[i]) (List.getElem_mem _);unfold ub
 cases hg:gat g i
 ·
  cases e1:goes l[i]
  ·
   cases e2:xx (zh goes l) l[i]
   · rfl
   · exact absurd (h1.2 (h2.1 (.inr e2))) (by rw [hg];decide)
  · exact absurd (h1.2 (h2.1 (.inl e1))) (by rw [hg];decide)
 ·
  rcases h2.2 (h1.1 hg) with e | e
  · rw [e];rfl
  · rw [e,Bool.and_comm];rfl
theorem jbv (goes:SesM→Bool)(st:StM)(v gv:Value)(g:List Bool)(base:Nat)(w:World)(hv:RdS w v st.l)(hg:OwnB w base gv g)(hi:WInv goes st.l g)(b7:∀ k,v.ownBlock=some k→gv.ownBlock≠some k)(hn:st.l.length≤1000000000) :
  Calls prog 151 #[.agg #[.int .i64 st.clock,.int .i64 st.births,v],gv] w fun e w'=>∃ o,e=.returned (.agg #[.int .i64 st.clock,.int .i64 st.births,o])∧OwnS w' w.heap.size o (jx goes st.l)∧Mod (fun k=>w.heap.size≤k∨gv.ownBlock=some k) w w':=by
 obtain ⟨c,b,l⟩:=st;simp only at hv hi hn ⊢;obtain ⟨a,cap,rfl,c5,d8⟩:=hv.slice;have HV:=Hd hv;have H1:=Hd b7;have G:=Hd (show ∀ k,gv.ownBlock=some k→k<w.heap.size from fun k hk=>(hg.lt k hk).2)
 have a9:=jn w (.cells #[.int .i64 c,.int .i64 b,.slice a l.length cap] 30) (.cells #[.int .i64 0,.int .i64 0,.slice none 0 0] 30);have L:=Hd (jdL goes (.slice a l.length cap) gv l g base ((w.alloc (.cells #[.int .i64 c,.int .i64 b,.slice a l.length cap] 30)).alloc (.cells #[.int .i64 0,.int .i64 0,.slice none 0 0] 30)) (hv.below a9) (hg.below a9) hi b7);have h1:=(Box.new w #[.int .i64 c,.int .i64 b,.slice a l.length cap] 30).below (ja _ (.cells #[.int .i64 0,.int .i64 0,.slice none 0 0] 30));have h2:=Box.new (w.alloc (.cells #[.int .i64 c,.int .i64 b,.slice a l.length cap] 30)) #[.int .i64 0,.int .i64 0,.slice none 0 0] 30;rw [World.size_alloc] at h2;obtain ⟨n,hN⟩:=Nm (l.length);obtain ⟨ga,gcap,c6,_⟩:=hg.slice;have c7:g.length=n:=by rw [hi.len,hN]
 rw [c7] at c6;subst c6;have d9:n≤9223372036854775807:=by omega
 rw [← hN] at HV c5 h1 h2 a9 L ⊢;have HN:=Hd hN;have H2:=Hd hn;have C:=Hd h1;have D:=Hd h2;have E:=Hd a9;clear hv hg hi b7 c5 hN h1 h2 a9 c7 hn;go_enter func151,ntmps151;go_wp2_with fail;generalize hw1:World.alloc (World.alloc _ _) _=w1 at C D E L ⊢;clear hw1;obtain ⟨p,hp⟩:=Nm (w.heap.size);rw [← hp] at C D G ⊢;have S:=Hd hp;clear hp;refine L.1.mono ?_;rintro e w2 ⟨rfl,g',c8,b8,a1⟩;have H3:=Hd b8;have C:=Hd (C.1.mod a1 (fun h=>by have:=G.1 p h;omega))
 have D:=Hd (D.1.mod a1 (fun h=>by have:=G.1 (p+1) h;omega))
 have U:=Hd (jq c8);have b9:g'.length=n:=by rw [b8.1,← HN.1]
 have b3:Mod (fun k=>p≤k∨(Value.slice ga n gcap).ownBlock=some k) w w2:=⟨a1.os.trans E.1.os,a1.tape.trans E.1.tape,a1.output.trans E.1.output,Nat.le_trans E.1.size a1.size,fun i hi hn=>by
  rw [a1.block i (Nat.lt_of_lt_of_le hi E.1.size) (fun h=>hn (.inr h))]
  exact E.1.block i hi⟩
 have V:=Hd b3;have I:=Hd (show p+1<w2.heap.size from D.1.lt)
 have c0:w2.cell? ⟨p,0,none⟩=some (.int .i64 c):=C.1.cell 0 _ rfl;have c1:w2.cell? ⟨p,1,none⟩=some (.int .i64 b):=C.1.cell 1 _ rfl;clear b8 a1 c8 b3 L;go_wp2_with fail;have c9:=Box.new w2 #[.int .i64 c,.int .i64 b,.slice none 0 0] 30;have b0:Mod (fun i=>w2.heap.size≤i) w2 (w2.alloc (.cells #[.int .i64 c,.int .i64 b,.slice none 0 0] 30)):=Mod.of_below (F:=fun i=>w2.heap.size≤i) (ja w2 _)
 have H:=Hd (show RoS w (w2.alloc (.cells #[.int .i64 c,.int .i64 b,.slice none 0 0] 30)) p w2.heap.size c b (.slice a n cap) (.slice ga n gcap) g' (.slice none 0 0) [] from
  ⟨C.1.mod b0 (by have:=I.1;omega),D.1.mod b0 (by have:=I.1;omega),c9,OwnS.nil _ _,
   Rd.mod U.1 b0 (fun k hk=>by have:=G.1 k hk;have:=I.1;omega),V.1.trans (b0.mono (fun i hi=>by have:=I.1;omega))⟩)
 have B:=Hd (show p+1<w2.heap.size from I.1)
 clear c9 b0 c0 c1 C D U V I;generalize w2.heap.size=q at H B ⊢;generalize w2.alloc (.cells #[.int .i64 c,.int .i64 b,.slice none 0 0] 30)=w3 at H ⊢
 go_loopg [7] n (fun gk iv wr=>∃ (k:Nat) (x:Value),gk+k=n∧iv=.int .i64 (k:Int)∧RoS w wr p q c b (.slice a n cap) (.slice ga n gcap) g' x ((l.take k).filter (ub goes l)))
 case atStart=>exact ⟨0,_,rfl,rfl,H.1⟩
 case round =>
  clear H;obtain ⟨k,x,d0,rfl,a3⟩:=hrel;have k0:(0:Int)≤(k:Int):=by omega
  have M:=Hd d0;have H:=Hd a3;have c2:wr.cell? ⟨p,2,none⟩=some (.slice a n cap):=a3.bx.cell 2 _ rfl;clear d0;by_cases hk:k<n
  ·
   have k1:(k:Int)<(n:Int):=by omega
   have b4:k<l.length:=by have:=HN.1;omega
   obtain ⟨s,hs⟩:=Nm (l[k]);obtain ⟨rb,ro,d1,a2⟩:=HV.1.row k b4;rw [← hs] at a2;have d2:rb<p:=by rw [S.1];exact World.block_lt_of_cell? w _ (a2 0 _ rfl)
   have c3:wr.rangeAt rb (ro+k*12) s.cells.toList:=fun j u hj=>xN a3.bel (a2 j u hj) (fun h=>by
    rcases h with h | h
    · simp at h;omega
    ·
     refine H1.1 rb ?_ h;rw [d1];rfl)
   subst d1;have P:=Hd c3;have J:=Hd (show ub goes l s = !gat g' k by rw [hs];exact jjO H3.1 b4)
   have N:=Hd (jbW (f:=ub goes l) b4 hs);obtain ⟨gb,goff,gc,e3,b5⟩:=a3.rg.at k (by rw [List.length_map,b9];exact hk)
   rw [b9] at e3;injection e3 with e4 _ e5
   subst e4;subst e5;have b1:wr.cell? ⟨gb,goff+k,none⟩=some (.bool (gat g' k)):=by
    rw [b5];unfold gat;rw [List.getD,List.getD,List.getElem?_map,List.getElem?_eq_getElem (by omega)]
    rfl
   have T:=Hd hk;have X:=Hd (show ((l.take k).filter (ub goes l)).length+1≤1256584717458 by
    have h1:=List.length_filter_le (ub goes l) (l.take k);rw [List.length_take] at h1;have:=H2.1;omega)
   have H4:=Hd d2;clear a2 c3 hs hk b4 b5 a3 d2;generalize gat g' k=r at J b1
   cases r
   rotate_left
   ·
    have O:=Hd (show (l.take (k+1)).filter (ub goes l)=(l.take k).filter (ub goes l) by rw [N.1,J.1];exact List.append_nil _)
    clear N J P;go_wp2_with fail;clear b1 c2
    go_roundg (n-(k+1))
    case measure=>have:=M.1;have:=T.1;omega
    case rel=>exact ⟨k+1,x,by have:=M.1;have:=T.1;omega,by go_num,by rw [O.1];exact H.1⟩
   ·
    have O:=Hd (show (l.take (k+1)).filter (ub goes l)=(l.take k).filter (ub goes l) ++ [s] by rw [N.1,J.1];rfl)
    generalize (l.take k).filter (ub goes l)=m at H O X;obtain ⟨xa,xc,rfl,_⟩:=H.1.own.slice;have x2:wr.cell? ⟨q,2,none⟩=some (.slice xa m.length xc):=H.1.bo.cell 2 _ rfl;have HC:=Hd (And.intro c2 x2);have H5:=Hd (show q+1≤wr.heap.size from H.1.bo.lt)
    clear N J x2;go_wp2_with fail;clear b1 c2;refine yy 10 (F:=fun W=>Mod (fun i=>q+1≤i) wr W) (by kernel_rfl) (Mod.drew _ wr) (fun b6=>?_)
    refine Tl 0 29 ?_;refine Tl 1 30 ?_ (hy:=by intro w' a4;have q2:=xN a4 HC.1.2 (fun h=>Nat.not_succ_le_self _ h);clear a4;go_simp;try with_reducible rfl)
    refine Tl 2 31 ?_;refine Tl 3 32 ?_ (hy:=by intro w' a4;have q2:=xN a4 HC.1.1 (fun h=>by have:=B.1;simp at h;omega);clear a4;go_simp;try with_reducible rfl)
    refine Tl 4 33 ?_;refine Tl 5 34 ?_;refine Tl 6 35 ?_ (v:=.agg s.cells) (hy:=fun w' a4=>jO 45 (.tmp 34) rfl (rb) (ro+k*12) rfl (s.cells).toList _ (fun j v hv=>xN a4 (P.1 j v hv) (fun h=>by have:=H4.1;have:=B.1;simp at h;omega)) underlying45 rfl (by kernel_rfl))
    refine jM (rs := [7]) (by kernel_rfl) (by simp) (AllReadyL.cons (o:=⟨some 36,.buildSlice _ 1 _,_,_,_,_⟩) rfl (fun K hK=>?_) AllReadyL.nil)
    rw [if_pos (by kernel_rfl)]
    refine uk (.tmp 35) rfl s rfl ?_;have a6:Below wr.drew.heap.size wr.drew (wr.drew.alloc (.cells s.cells 45)):=ja _ _;refine hK.out _ _ (b6.trans (Mod.of_below a6)) (fun a5=>?_)
    have Q:=Hd ((H.1.own.below (jd wr)).below a6);have Y:=Hd (show ∀ j u,s.cells.toList[j]?=some u→(wr.drew.alloc (.cells s.cells 45)).cell? ((⟨wr.heap.size,0,none⟩:Addr).add j)=some u from yY wr.drew s 45)
    have Z:=Hd (Nat.le_trans H5.1 a5.size);clear hK K b6 a6
    try simp only [Nz]
    refine jM (rs := [8]) (by kernel_rfl) (by simp) (AllReadyL.cons (o:=⟨some 37,.call _,_,_,_,_⟩) rfl (fun K hK=>?_) AllReadyL.nil)
    rw [if_pos (by kernel_rfl)]
    refine jbd (.tmp 30) (.tmp 36) rfl (q+1) _ m rfl Q.1 ⟨wr.heap.size,0,none⟩ 1 s rfl Y.1 X.1 Z.1 ?_;intro v' w7 a8 d3 _;obtain ⟨va,vc,d4,_⟩:=a8.slice;rw [List.length_append,List.length_singleton] at d4;subst d4;have d5:=a5.trans (zB d3 (fun k hk=>(Q.1.lt k hk).1) Z.1)
    refine hK.out _ _ d5 (fun a0=>?_)
    have R:=Hd a8;clear hK K a8 d3 d5 Q Y a5
    try simp only [Nz]
    refine Tl 9 38 ?_;have q2:=xN a0 HC.1.2 (fun h=>Nat.not_succ_le_self _ h)
    have b2:=H.1.bo.mod a0 (by omega)
    have r2:=b2.free 2;refine jM (rs := [10]) (by kernel_rfl) (by simp) (AllReadyL.last rfl (o:=⟨none,.store _ _ _,_,_,_,_⟩) rfl (fun K hK=>?_))
    go_simp
    refine hK.out _ _ ?_;clear hK K q2 r2
    try simp only [Nz]
    refine yR (by kernel_rfl) ?_ _
    have a7:=Mod.set (fun i=>i=q) w7 ⟨q,2,none⟩ (.slice va (m.length+1) vc) rfl
    have H0:=Hd (show RoS w (w7.setCell ⟨q,2,none⟩ (.slice va (m.length+1) vc)) p q c b (.slice (some ⟨rb,ro,none⟩) n cap) (.slice (some ⟨gb,goff,none⟩) n gcap) g' (.slice va (m.length+1) vc) (m ++ [s]) from
     ⟨(H.1.bx.mod a0 (by have:=B.1;omega)).mod a7 (by have:=B.1;omega),(H.1.bz.mod a0 (by have:=B.1;omega)).mod a7 (by have:=B.1;omega),b2.set 2 (.slice va (m.length+1) vc),
      R.1.mod a7 (fun k hk e=>by have:=(R.1.lt k hk).1;omega),
      Rd.mod (Rd.mod H.1.rg a0 (fun k hk=>by have:=G.1 k hk;have:=B.1;omega)) a7 (fun k hk e=>by have:=G.1 k hk;have:=B.1;omega),
      (H.1.bel.trans (a0.mono (fun i hi=>by have:=B.1;omega))).trans (a7.mono (fun i hi=>by have:=B.1;omega))⟩)
    clear a7 b2 a0 R H;generalize World.setCell w7 _ _=w8 at H0 ⊢;go_wp2_with fail
    go_roundg (n-(k+1))
    case measure=>have:=M.1;have:=T.1;omega
    case rel=>exact ⟨k+1,_,by have:=M.1;have:=T.1;omega,by go_num,by rw [O.1];exact H0.1⟩
  ·
   have k1:¬ (k:Int)<(n:Int):=by omega
   have A:=Hd (show RoS w wr p q c b (.slice a n cap) (.slice ga n gcap) g' x (jx goes l) by
    have h:=a3;rw [List.take_of_length_le (by have:=HN.1;omega)] at h
    exact h)
   obtain ⟨xa,xc,rfl,_⟩:=A.1.own.slice;have x0:wr.cell? ⟨q,0,none⟩=some (.int .i64 c):=A.1.bo.cell 0 _ rfl;have x1:wr.cell? ⟨q,1,none⟩=some (.int .i64 b):=A.1.bo.cell 1 _ rfl;have x2:wr.cell? ⟨q,2,none⟩=some (.slice xa (jx goes l).length xc):=A.1.bo.cell 2 _ rfl;have z0:wr.cell? ⟨p+1,0,none⟩=some (.int .i64 0):=A.1.bz.cell 0 _ rfl;have z1:wr.cell? ⟨p+1,1,none⟩=some (.int .i64 0):=A.1.bz.cell 1 _ rfl;have z2:wr.cell? ⟨p+1,2,none⟩=some (.slice none 0 0):=A.1.bz.cell 2 _ rfl;have y0:=A.1.bz.free 0;have y1:=A.1.bz.free 1;have y2:=A.1.bz.free 2;have c4:=jkH (p+1) wr (.int .i64 c) (.int .i64 b) (.slice xa (jx goes l).length xc);have a6:=((A.1.bz.set 0 (.int .i64 c)).set 1 (.int .i64 b)).set 2 (.slice xa (jx goes l).length xc);have d6:=(A.1.own.mod c4 (fun k hk e=>by have:=(A.1.own.lt k hk).1;have:=B.1;omega)).base (base':=w.heap.size) (by have:=S.1;have:=B.1;omega)
   have d7:=A.1.bel.trans (c4.mono (fun i hi=>by have:=S.1;omega))
   have HF:=Hd (And.intro a6 (And.intro d6 (show Mod (fun k=>w.heap.size≤k∨(Value.slice ga n gcap).ownBlock=some k) w _ from d7.mono (fun i hi=>by rw [← S.1];exact hi))))
   clear hk a3 H A c4 a6 d6 d7;go_wp2_with fail;exact vq rfl rfl (p+1) 0 rfl [.int .i64 c,.int .i64 b,.slice xa (jx goes l).length xc] _ (jjF HF.1.1) underlying30 rfl (by kernel_rfl) ⟨_,rfl,HF.1.2.1,HF.1.2.2⟩
theorem jfC {a b:Nat}:zT a b=true↔∀ j,j<64→a.testBit j=true→b.testBit j=true:=by
 unfold zT;have h0:bits .andNot .u64 (a:Int) (b:Int)=((BitVec.ofNat 64 a &&& ~~~ BitVec.ofNat 64 b).toNat:Int):=by
  show IntKind.u64.wrap ((BitVec.ofInt 64 (a:Int) &&& ~~~ BitVec.ofInt 64 (b:Int)).toNat:Int)=_;rw [BitVec.ofInt_natCast,BitVec.ofInt_natCast];have:=(BitVec.ofNat 64 a &&& ~~~ BitVec.ofNat 64 b).isLt;generalize (BitVec.ofNat 64 a &&& ~~~ BitVec.ofNat 64 b).toNat=x at this ⊢
  simp [IntKind.wrap,IntKind.bits,IntKind.signed];omega
 rw [h0,beq_iff_eq]
 constructor
 ·
  intro h j hj ha;have h1:BitVec.ofNat 64 a &&& ~~~ BitVec.ofNat 64 b=0#64:=by
   apply BitVec.eq_of_toNat_eq
   rw [BitVec.toNat_ofNat];omega
  have h2:(BitVec.ofNat 64 a &&& ~~~ BitVec.ofNat 64 b).getLsbD j=false:=by rw [h1];simp
  rw [BitVec.getLsbD_and,BitVec.getLsbD_not,BitVec.getLsbD_ofNat,BitVec.getLsbD_ofNat,decide_eq_true hj,ha] at h2
  cases hb:b.testBit j
  · rw [hb] at h2;cases h2
  · rfl
 ·
  intro h;have h1:BitVec.ofNat 64 a &&& ~~~ BitVec.ofNat 64 b=0#64:=by
   apply BitVec.eq_of_getLsbD_eq
   intro j hj;rw [BitVec.getLsbD_and,BitVec.getLsbD_not,BitVec.getLsbD_ofNat,BitVec.getLsbD_ofNat,decide_eq_true hj,BitVec.getLsbD_zero]
   cases ha:a.testBit j
   · rfl
   · rw [h j hj ha];rfl
  rw [h1];rfl
theorem jkj {a j:Nat}(ha:a<2 ^ 64):(bits .and .u64 ((a:Int) / 2 ^ j) 1==1)=a.testBit j:=by
 have h1:(a:Int) / 2 ^ j=((a / 2 ^ j:Nat):Int):=by rw [Int.natCast_ediv,Int.natCast_pow];rfl
 have h2:a / 2 ^ j<18446744073709551616:=Nat.lt_of_le_of_lt (Nat.div_le_self _ _) ha;have h3:=bits_and_u64_nat (a / 2 ^ j) 1 h2 (by omega)
 rw [h1,show (1:Int)=((1:Nat):Int) from rfl,h3,Nat.and_one_is_mod,Nat.testBit_eq_decide_div_mod_eq]
 by_cases h:a / 2 ^ j % 2=1
 · rw [h];rfl
 ·
  have h4:a / 2 ^ j % 2=0:=by omega
  rw [h4];rfl
theorem jaZ (a j:Nat)(w:World)(ha:a<2 ^ 64)(hj:j<64) :
  Calls prog 191 #[.int .u64 (a:Int),.int .i64 (j:Int)] w fun e w'=>e=.returned (.bool (a.testBit j))∧w=w':=by
 have j0:(0:Int)≤(j:Int):=by omega
 have j1:(j:Int)<64:=by omega
 have A:=Hd hj;have H:=Hd ha;clear hj ha;go_enter func191,ntmps191;go_wp2_with fail;go_ret;exact ⟨by rw [jkj H.1];rfl,rfl⟩
theorem jco (a b:Nat)(w:World)(ha:a<2 ^ 64)(hb:b<2 ^ 64) :
  Calls prog 188 #[.int .u64 (a:Int),.int .u64 (b:Int)] w fun e w'=>e=.returned (.bool (zT a b))∧w=w':=by
 have HA:=Lib.hid (fun j w hj=>jaZ a j w ha hj)
 have HB:=Lib.hid (fun j w hj=>jaZ b j w hb hj)
 clear ha hb;go_enter func188,ntmps188;go_wp2_with fail
 go_loopg [5] 64 (fun gk iv wr=>∃ k:Nat,gk+k=64∧iv=.int .i64 (k:Int)∧w=wr∧Hid (∀ j,j<k→a.testBit j=true→b.testBit j=true))
 case atStart=>exact ⟨0,rfl,rfl,rfl,Lib.hid (fun j hj=>by omega)⟩
 case round =>
  obtain ⟨k,a0,rfl,rfl,HT⟩:=hrel;have k0:(0:Int)≤(k:Int):=by omega
  have HGK:=Lib.hid a0;clear a0;by_cases hk:k<64
  ·
   have k1:(k:Int)<64:=by omega
   have HK:=Lib.hid hk;clear hk;go_wp2_with fail;refine (HA.out k _ HK.out).mono ?_;rintro e w1 ⟨rfl,rfl⟩;obtain ⟨r,hr⟩:=Nm (a.testBit k);have HR:=Lib.hid hr;rw [← hr];clear hr
   cases r
   ·
    have HT2:=Lib.hid (show ∀ j,j<k+1→a.testBit j=true→b.testBit j=true from fun j hj h=>by
     by_cases e:j=k
     · subst e;rw [← HR.out] at h;cases h
     · exact HT.out j (by omega) h)
    clear HT HR;go_wp2_with fail
    go_roundg (64-(k+1))
    case measure=>have:=HGK.out;have:=HK.out;omega
    case rel=>exact ⟨k+1,by have:=HGK.out;have:=HK.out;omega,by go_num,rfl,HT2⟩
   ·
    go_wp2_with fail;refine (HB.out k _ HK.out).mono ?_;rintro e w1 ⟨rfl,rfl⟩;obtain ⟨q,hq⟩:=Nm (b.testBit k);have HQ:=Lib.hid hq;rw [← hq];clear hq
    cases q
    ·
     have HF:=Lib.hid (show zT a b=false by
      cases e:zT a b
      · rfl
      ·
       have:=jfC.1 e k HK.out HR.out.symm;rw [← HQ.out] at this;cases this)
     clear HT HR HQ;go_wp2_with fail;go_ret;rw [HF.out];exact ⟨rfl,rfl⟩
    ·
     have HT2:=Lib.hid (show ∀ j,j<k+1→a.testBit j=true→b.testBit j=true from fun j hj h=>by
      by_cases e:j=k
      · subst e;exact HQ.out.symm
      · exact HT.out j (by omega) h)
     clear HT HR HQ;go_wp2_with fail
     go_roundg (64-(k+1))
     case measure=>have:=HGK.out;have:=HK.out;omega
     case rel=>exact ⟨k+1,by have:=HGK.out;have:=HK.out;omega,by go_num,rfl,HT2⟩
  ·
   have k1:¬ (k:Int)<64:=by omega
   have HF:=Lib.hid (show zT a b=true from jfC.2 (fun j hj h=>HT.out j (by omega) h))
   clear HT hk;go_wp2_with fail;go_ret;rw [HF.out];exact ⟨rfl,rfl⟩
theorem jag (k:Int):∀ a b:List SesM,yd k (a++b)=(yd k a).or (yd k b)
 | [],b=>rfl
 | y::a,b=>by
  show (if y.birth=k then some y else yd k (a++b))=(if y.birth=k then some y else yd k a).or _
  split
  · rfl
  · exact jag k a b
theorem jiP {l:List SesM}{i:Nat}{k:Int}(hi:i<l.length)(h:yd k (l.take i)=none)(hk:l[i].birth=k):yd k l=some l[i]:=by
 have e:l=l.take i++(l[i]::l.drop (i+1)):=by rw [List.getElem_cons_drop,List.take_append_drop]
 have e2:yd k l=yd k (l.take i++(l[i]::l.drop (i+1))):=congrArg _ e;rw [e2,jag,h,Option.none_or];simp only [yd];rw [if_pos hk]
theorem jg0 {l:List SesM}{i:Nat}{k:Int}(hi:i<l.length)(h:yd k (l.take i)=none)(hk:l[i].birth≠k):yd k (l.take (i+1))=none:=by
 rw [List.take_succ_eq_append_getElem hi,jag,h,Option.none_or];simp only [yd];rw [if_neg hk]
theorem jey {k:Int}:∀ {l:List SesM} {p:SesM},yd k l=some p→p∈l∧p.birth=k
 | [],p,h=>by cases h
 | x::l,p,h=>by
  unfold yd at h
  split at h
  ·
   rename_i hx
   injection h with h;subst h;exact ⟨by simp,hx⟩
  · obtain ⟨h1,h2⟩:=jey h;exact ⟨by simp [h1],h2⟩
theorem jik:Hid (zS.cells=zS.cells.toList.toArray):=Lib.hid rfl
theorem jad (c b:Int)(v:Value)(l:List SesM)(kk:Int)(w:World)(hv:RdS w v l) :
  Calls prog 150 #[.agg #[.int .i64 c,.int .i64 b,v],.int .i64 kk] w fun e w'=>e=.returned (.tuple #[.agg ((yd kk l).getD zS).cells,.bool (yd kk l).isSome])∧Below w.heap.size w w':=by
 obtain ⟨a,cap,rfl,a5,b0⟩:=hv.slice;have a8:l.length≤9223372036854775807:=by omega
 obtain ⟨n,hN⟩:=Nm (l.length);have HB:=Lib.hid (jn w (.cells #[.int .i64 c,.int .i64 b,.slice a n cap] 30) (.cells #[.int .i64 0,.int .i64 0,.int .i64 0,.int .i64 0,.int .i64 0,.string ⟨#[]⟩,.string ⟨#[]⟩,.int .u64 0,.int .i64 0,.int .i64 0,.int .i64 0,.int .i64 0] 45));have HX0:=Lib.hid ((Box.new w #[.int .i64 c,.int .i64 b,.slice a n cap] 30).below (ja _ (.cells #[.int .i64 0,.int .i64 0,.int .i64 0,.int .i64 0,.int .i64 0,.string ⟨#[]⟩,.string ⟨#[]⟩,.int .u64 0,.int .i64 0,.int .i64 0,.int .i64 0,.int .i64 0] 45)));have hz:=Box.new (w.alloc (.cells #[.int .i64 c,.int .i64 b,.slice a n cap] 30)) zS.cells 45;rw [World.size_alloc,show zS.cells=#[.int .i64 0,.int .i64 0,.int .i64 0,.int .i64 0,.int .i64 0,.string ⟨#[]⟩,.string ⟨#[]⟩,.int .u64 0,.int .i64 0,.int .i64 0,.int .i64 0,.int .i64 0] from rfl] at hz
 have HZ:=Lib.hid hz;rw [← hN] at a8 hv a5 ⊢;have HN:=Lib.hid hN;have HV:=Lib.hid (hv.below HB.out);clear hv a5 hN hz;go_enter func150,ntmps150;go_wp2_with fail;generalize hw1:World.alloc _ _=w1 at HB HX0 HZ HV ⊢;clear hw1;obtain ⟨p,hp⟩:=Nm (w.heap.size);rw [← hp] at HX0 HZ ⊢;have HP:=Lib.hid hp;clear hp
 go_loopg [6] n (fun gk iv wr=>∃ k:Nat,gk+k=n∧iv=.int .i64 (k:Int)∧wr=w1∧Hid (yd kk (l.take k)=none))
 case atStart=>exact ⟨0,rfl,rfl,rfl,Lib.hid rfl⟩
 case round =>
  obtain ⟨k,a6,rfl,rfl,HT⟩:=hrel;have k0:(0:Int)≤(k:Int):=by omega
  have HGK:=Lib.hid a6;have c2:wr.cell? ⟨p,2,none⟩=some (.slice a n cap):=HX0.out.cell 2 _ rfl;clear a6;by_cases hk:k<n
  ·
   have k1:(k:Int)<(n:Int):=by omega
   have a3:k<l.length:=by have:=HN.out;omega
   obtain ⟨s,hs⟩:=Nm (l[k]);obtain ⟨rb,ro,a9,a2⟩:=HV.out.row k a3;subst a9;rw [← hs] at a2;have HROW:=Lib.hid a2;have r1:wr.cell? ⟨rb,ro+k*12+1,none⟩=some (.int .i64 s.birth):=a2 1 _ rfl;have HK:=Lib.hid hk;clear a2 hk
   cases e1:(s.birth==kk)
   ·
    have HT2:=Lib.hid (jg0 a3 HT.out (fun e=>by rw [← hs] at e;rw [e] at e1;simp at e1))
    clear HT hs a3;go_wp2_with fail
    go_roundg (n-(k+1))
    case measure=>have:=HGK.out;have:=HK.out;omega
    case rel=>exact ⟨k+1,by have:=HGK.out;have:=HK.out;omega,by go_num,rfl,HT2⟩
   ·
    have HF:=Lib.hid (show yd kk l=some s by rw [hs];exact jiP a3 HT.out (by rw [← hs];exact beq_iff_eq.1 e1))
    obtain ⟨a0,a4⟩:=(show Box wr (p+1) zS.cells 45 from HZ.out).setAllS rfl s
    have HSE:=Lib.hid a0;have HTH:=Lib.hid a4;clear HT hs a3 a0 a4
    go_wp2_with ((with_reducible refine je ?L1a 45 (.tmp 25) ?L1b (rb) (ro+k*12) ?L1c s.cells.toList _ HROW.out underlying45 ?L1d ?L1e ?L1f);(case L1b=>rfl);(case L1a=>rfl);(case L1c=>rfl);(case L1d=>rfl);(case L1e=>kernel_rfl))
    intro cv a7
    go_wp2_with ((with_reducible refine jc ?S2a 45 (.tmp 4) (.tmp 26) ?S2b (p+1) 0 s.cells.toList ?S2c cv ?S2d a7 ?S2e ?S2f ?S2g ?S2h);(case S2b=>rfl);(case S2a=>rfl);(case S2c=>rfl);(case S2d=>rfl);(case S2e=>exact HTH.out);(case S2f=>kernel_rfl);(case S2g=>exact SesM.oneS _))
    intro w2 a1;rw [← a1.out] at HSE;have HB2:=Lib.hid (show Below w.heap.size w w2 by
     rw [a1.out];generalize s.cells.toList=L;exact HB.out.trans ((Mod.setCells (fun q=>q=p+1) (p+1) rfl L 0 wr).below HB.out.size (fun i hi=>by have:=HP.out;omega)))
    clear a1 a7 HTH HB HX0 HZ HV HROW r1 c2 e1;go_wp2_with fail;exact jb rfl rfl (p+1) 0 rfl s.cells.toList _ (Box.rangeS HSE.out) underlying45 rfl (by kernel_rfl) _ rfl ⟨by rw [HF.out];rfl,HB2.out⟩
  ·
   have k1:¬ (k:Int)<(n:Int):=by omega
   have HF:=Lib.hid (show yd kk l=none by
    have h:=HT.out
    rwa [List.take_of_length_le (by have:=HN.out;omega)] at h)
   obtain ⟨a0,a4⟩:=(show Box wr (p+1) zS.cells 45 from HZ.out).setAllS rfl zS
   have HSE:=Lib.hid a0;have HTH:=Lib.hid a4;clear HT hk a0 a4
   go_wp2_with ((with_reducible refine jc ?S3a 45 (.tmp 4) (.tmp 27) ?S3b (p+1) 0 zS.cells.toList ?S3c zS.cells ?S3d jik ?S3e ?S3f ?S3g ?S3h);(case S3b=>rfl);(case S3a=>rfl);(case S3c=>rfl);(case S3d=>rfl);(case S3e=>exact HTH.out);(case S3f=>kernel_rfl);(case S3g=>exact SesM.oneS _))
   intro w2 a1;rw [← a1.out] at HSE;have HB2:=Lib.hid (show Below w.heap.size w w2 by
    rw [a1.out];generalize zS.cells.toList=L;exact HB.out.trans ((Mod.setCells (fun q=>q=p+1) (p+1) rfl L 0 wr).below HB.out.size (fun i hi=>by have:=HP.out;omega)))
   clear a1 HTH HB HX0 HZ HV c2;go_wp2_with fail;exact jb rfl rfl (p+1) 0 rfl zS.cells.toList _ (Box.rangeS HSE.out) underlying45 rfl (by kernel_rfl) _ rfl ⟨by rw [HF.out];rfl,HB2.out⟩
theorem jdw (s p:SesM)(w:World)(hk:s.kind=1∨s.kind=2)(a3:s.scopes<2 ^ 64)(a4:p.scopes<2 ^ 64) :
  Calls prog 173 #[.agg s.cells,.agg p.cells] w fun e w'=>e=.returned (.bool (vf s p))∧Below w.heap.size w w':=by
 have B:=Hd (fun o o2=>jn w o o2)
 obtain ⟨D,hD⟩:∃ D,IntKind.i64.wrap (p.depth+1)=D:=⟨_,rfl⟩;obtain ⟨lv,a0⟩:=Nm ((if s.kind=2 then decide (p.level<s.level) else s.level==p.level))
 have A:=Hd (show vf s p=((s.depth==D)&&((s.user==p.user)&&(zT s.scopes p.scopes&&(decide (s.deadline≤p.deadline)&&lv)))) by unfold vf;rw [hD,a0])
 have I:=Hd (fun w=>jco s.scopes p.scopes w a3 a4)
 have E:=Hd a0;have L:=Hd hk;clear a0 hk a3 a4;generalize vf s p=ft at A ⊢;have J:=Hd s.cellsE;have K:=Hd p.cellsE;rw [J.1,K.1];clear J K;go_enter func173,ntmps173
 cases h2:(s.depth==D)
 ·
  have a6:(s.depth != D)=true:=by rw [bne,h2];rfl
  go_wp2_with fail;go_ret;exact ⟨by rw [A.1,h2];rfl,B.1 _ _⟩
 have a6:(s.depth != D)=false:=by rw [bne,h2];rfl
 cases h3:(s.user==p.user)
 ·
  have a1:((SB s.user).toList==(SB p.user).toList)=false:=by rw [jk,jk];exact h3
  have a5:((SB s.user).toList != (SB p.user).toList)=true:=by rw [bne,a1];rfl
  go_wp2_with fail;go_ret;exact ⟨by rw [A.1,h2,h3];rfl,B.1 _ _⟩
 have a1:((SB s.user).toList==(SB p.user).toList)=true:=by rw [jk,jk];exact h3
 have a5:((SB s.user).toList != (SB p.user).toList)=false:=by rw [bne,a1];rfl
 go_wp2_with fail;refine (I.1 _).mono ?_;rintro e w4 ⟨rfl,rfl⟩;have H:=Hd (And.intro h2 h3);clear h2 h3 I;generalize zT s.scopes p.scopes=sc at A ⊢
 cases sc
 ·
  go_wp2_with fail;go_ret;exact ⟨by rw [A.1,H.1.1,H.1.2];rfl,B.1 _ _⟩
 by_cases h4:s.deadline≤p.deadline
 rotate_left
 ·
  have n4:p.deadline<s.deadline:=by omega
  have F:=Hd (decide_eq_false h4);clear h4;go_wp2_with fail;go_ret;exact ⟨by rw [A.1,H.1.1,H.1.2,F.1];rfl,B.1 _ _⟩
 have n4:¬ p.deadline<s.deadline:=by omega
 have F:=Hd (decide_eq_true h4);clear h4
 cases hk1:(s.kind==1)
 rotate_left
 ·
  have a2:(s.kind==2)=false:=by rw [beq_iff_eq.1 hk1];rfl
  cases hle:(s.level==p.level)
  ·
   have C:=Hd (show lv=false by rw [E.1,if_neg (by rw [beq_iff_eq.1 hk1];decide)];exact hle)
   go_wp2_with fail;go_ret;exact ⟨by rw [A.1,H.1.1,H.1.2,F.1,C.1];rfl,B.1 _ _⟩
  ·
   have C:=Hd (show lv=true by rw [E.1,if_neg (by rw [beq_iff_eq.1 hk1];decide)];exact hle)
   go_wp2_with fail;go_ret;exact ⟨by rw [A.1,H.1.1,H.1.2,F.1,C.1];rfl,B.1 _ _⟩
 have a2:(s.kind==2)=true:=by
  rcases L.1 with e | e
  · rw [e] at hk1;cases hk1
  · rw [e];rfl
 by_cases hlt:p.level<s.level
 ·
  have C:=Hd (show lv=true by rw [E.1,if_pos (beq_iff_eq.1 a2)];exact decide_eq_true hlt)
  have G:=Hd (decide_eq_true hlt);go_wp2_with fail;go_ret;exact ⟨by rw [A.1,H.1.1,H.1.2,F.1,C.1];first | rfl | (show Ending.returned (Value.bool (decide (p.level<s.level)))=_;rw [G.1];rfl),B.1 _ _⟩
 ·
  have C:=Hd (show lv=false by rw [E.1,if_pos (beq_iff_eq.1 a2)];exact decide_eq_false hlt)
  have G:=Hd (decide_eq_false hlt);go_wp2_with fail;go_ret;exact ⟨by rw [A.1,H.1.1,H.1.2,F.1,C.1];first | rfl | (show Ending.returned (Value.bool (decide (p.level<s.level)))=_;rw [G.1];rfl),B.1 _ _⟩
theorem jhV {s:SesM}(h:jR s=true)(hu:s.upB≠0):s.kind=1∨s.kind=2:=by
 unfold jR at h;simp only [Bool.and_eq_true] at h;obtain ⟨h1,h2,h3,h4,h5,h6,h7⟩:=h
 split at h7
 ·
  unfold jE at h7;simp only [Bool.and_eq_true,beq_iff_eq] at h7;exact absurd h7.2.1 hu
 split at h7
 · rename_i hk;left;simpa using hk
 split at h7
 · rename_i hk;right;simpa using hk
 · cases h7
theorem jcg (st:StM)(s:SesM)(v:Value)(w:World)(hv:RdS w v st.l)(hs:jR s=true)(a9:s.scopes<2 ^ 64)(ho:∀ x∈st.l,x.scopes<2 ^ 64) :
  Calls prog 149 #[.agg #[.int .i64 st.clock,.int .i64 st.births,v],.agg s.cells] w fun e w'=>e=.returned (.int .i64 (jaJ st s))∧Below w.heap.size w w':=by
 obtain ⟨E,hE⟩:=Nm (jaJ st s);rw [← hE];unfold jaJ at hE;obtain ⟨c,b,l⟩:=st;simp only at hv hE ho ⊢;have HKD:=Lib.hid (fun hu=>jhV hs hu)
 have HSS:=Lib.hid a9;have HOS:=Lib.hid ho;obtain ⟨a,cap,rfl,b0,b6⟩:=hv.slice;have b4:l.length≤9223372036854775807:=by omega
 have HFI:=Lib.hid (fun w' hb=>jad c b (.slice a l.length cap) l s.upB w' (hv.below hb))
 obtain ⟨n,hN⟩:=Nm (l.length);rw [← hN] at b4 hv b0 hE HFI ⊢;have HN:=Lib.hid hN;obtain ⟨W,hW⟩:∃ W,IntKind.i64.wrap (b+1)=W:=⟨_,rfl⟩;rw [hW] at hE;have HE:=Lib.hid hE;have HB:=Lib.hid (jn w (.cells #[.int .i64 c,.int .i64 b,.slice a n cap] 30) (.cells s.cells 45));have HX0:=Lib.hid ((Box.new w #[.int .i64 c,.int .i64 b,.slice a n cap] 30).below (ja _ (.cells s.cells 45)));have a4:=Box.new (w.alloc (.cells #[.int .i64 c,.int .i64 b,.slice a n cap] 30)) s.cells 45;rw [World.size_alloc] at a4;have HX1:=Lib.hid a4;have HV:=Lib.hid (hv.below HB.out);clear hv b0 hN hE a4 hs a9 ho;rw [s.cellsE];rw [show ((w.alloc (.cells #[.int .i64 c,.int .i64 b,.slice a n cap] 30)).alloc (.cells s.cells 45))=((w.alloc (.cells #[.int .i64 c,.int .i64 b,.slice a n cap] 30)).alloc (.cells #[.int .i64 s.slot,.int .i64 s.birth,.int .i64 s.upS,.int .i64 s.upB,.int .i64 s.kind,.string (SB s.user),.string (SB s.label),.int .u64 (s.scopes:Int),.int .i64 s.level,.int .i64 s.born,.int .i64 s.deadline,.int .i64 s.depth] 45)) from rfl] at HB HX0 HX1 HV
 go_enter func149,ntmps149;by_cases h1:s.birth=W;rotate_left
 ·
  have H1:=Lib.hid h1;have n1:(s.birth != W)=true:=by rw [bne_iff_ne];exact h1
  clear h1;go_wp2_with fail;go_ret;exact ⟨by rw [HE.out,if_neg H1.out];rfl,HB.out⟩
 have n1:(s.birth != W)=false:=by rw [bne_eq_false_iff_eq];exact h1
 have HE1:=Lib.hid (HE.out.trans (if_pos h1));clear h1 HE;by_cases h2:s.born=c;rotate_left
 ·
  have H2:=Lib.hid h2;have n2:(s.born != c)=true:=by rw [bne_iff_ne];exact h2
  clear h2;go_wp2_with fail;go_ret;exact ⟨by rw [HE1.out,if_neg H2.out];rfl,HB.out⟩
 have n2:(s.born != c)=false:=by rw [bne_eq_false_iff_eq];exact h2
 have HE2:=Lib.hid (HE1.out.trans (if_pos h2));clear h2 HE1;by_cases h3:32≤n
 ·
  have H3:=Lib.hid h3;have n3:(32:Int)≤(n:Int):=by omega
  clear h3;go_wp2_with fail;go_ret;exact ⟨by rw [HE2.out,if_pos H3.out];rfl,HB.out⟩
 have n3:¬ (32:Int)≤(n:Int):=by omega
 have HE3:=Lib.hid (HE2.out.trans (if_neg h3));clear h3 HE2;go_wp2_with fail;clear n1 n2 n3 hW;generalize hw1:World.alloc _ _=w1 at HB HX0 HX1 HV ⊢;clear hw1;obtain ⟨p,hp⟩:=Nm (w.heap.size);rw [← hp] at HX0 HX1 ⊢;have HP:=Lib.hid hp;clear hp
 go_loopg [5] n (fun gk iv wr=>∃ k:Nat,gk+k=n∧iv=.int .i64 (k:Int)∧Below w1.heap.size w1 wr∧Hid ((l.take k).any (fun y=>y.slot==s.slot)=false))
 case atStart=>exact ⟨0,rfl,rfl,Below.refl _ _,Lib.hid rfl⟩
 case round =>
  obtain ⟨k,b1,rfl,a5,HAN⟩:=hrel;have k0:(0:Int)≤(k:Int):=by omega
  have HGK:=Lib.hid b1;have HBL:=Lib.hid a5;have c2:wr.cell? ⟨p,2,none⟩=some (.slice a n cap):=(HX0.out.below a5).cell 2 _ rfl;clear b1 a5;by_cases hk:k<n
  ·
   have k1:(k:Int)<(n:Int):=by omega
   have a6:k<l.length:=by have:=HN.out;omega
   obtain ⟨x,hx⟩:=Nm (l[k]);obtain ⟨rb,ro,b5,a3⟩:=(HV.out.below HBL.out).row k a6;subst b5;rw [← hx] at a3;have r0:wr.cell? ⟨rb,ro+k*12,none⟩=some (.int .i64 x.slot):=a3 0 _ rfl;have s0:wr.cell? ⟨p+1,0,none⟩=some (.int .i64 s.slot):=(HX1.out.below HBL.out).cell 0 _ rfl;have HST:=Lib.hid (jgf (s:=s) a6 hx);have HSA:=Lib.hid (show (x.slot==s.slot)=true→l.any (fun y=>y.slot==s.slot)=true from fun h=>by rw [List.any_eq_true];exact ⟨x,by rw [hx];exact List.getElem_mem _,h⟩)
   have HK:=Lib.hid hk;clear a3 hx hk a6;go_wp2_with fail
   go_quiet (fail)
   have HB2:=Lib.hid (HBL.out.trans ((jC wr nq).mono HBL.out.size))
   cases hsl:(x.slot==s.slot)
   rotate_left
   ·
    have HT:=Lib.hid (HSA.out hsl);clear HST HSA r0 s0 c2;go_wp2_with fail;go_ret;exact ⟨by rw [HE3.out,if_pos HT.out];rfl,HB.out.trans (HB2.out.mono HB.out.size)⟩
   have HA2:=Lib.hid (show (l.take (k+1)).any (fun y=>y.slot==s.slot)=false by rw [HST.out,HAN.out,hsl];rfl)
   clear HST HSA HAN r0 s0 c2;go_wp2_with fail
   go_roundg (n-(k+1))
   case measure=>have:=HGK.out;have:=HK.out;omega
   case rel=>exact ⟨k+1,by have:=HGK.out;have:=HK.out;omega,by go_num,HB2.out,HA2⟩
  ·
   have k1:¬ (k:Int)<(n:Int):=by omega
   have b2:l.take k=l:=List.take_of_length_le (by have:=HN.out;omega)
   have HE4:=Lib.hid (show E=upM s l by
    have h:=HAN.out;rw [b2] at h;rw [HE3.out,if_neg (by rw [h];decide)])
   have HX0:=Lib.hid (HX0.out.below HBL.out);have HX1:=Lib.hid (HX1.out.below HBL.out);have HBW:=Lib.hid (HB.out.trans (HBL.out.mono HB.out.size));have s3:wr.cell? ⟨p+1,3,none⟩=some (.int .i64 s.upB):=HX1.out.cell 3 _ rfl;have c0:wr.cell? ⟨p,0,none⟩=some (.int .i64 c):=HX0.out.cell 0 _ rfl;have c1:wr.cell? ⟨p,1,none⟩=some (.int .i64 b):=HX0.out.cell 1 _ rfl;clear hk b2 HAN HE3 HGK HB HBL
   cases h0:(s.upB==0)
   rotate_left
   ·
    have H0:=Lib.hid (show s.upB=0 from beq_iff_eq.1 h0)
    go_wp2_with fail;go_ret;exact ⟨by rw [HE4.out];unfold upM;rw [if_pos H0.out];rfl,HBW.out⟩
   have HE5:=Lib.hid (show E=(match yd s.upB l with | none=>16 | some p=>if p.slot=s.upS then (if vf s p=true then 0 else 24) else 16) by
    rw [HE4.out];unfold upM;rw [if_neg (fun e=>by rw [e] at h0;cases h0)];rfl)
   have HKK:=Lib.hid (HKD.out (fun e=>by rw [e] at h0;cases h0))
   clear HE4 HKD;go_wp2_with fail;refine (HFI.out _ HBW.out).mono ?_;rintro ev w3 ⟨rfl,a7⟩;have HX3:=Lib.hid (HX1.out.below a7);have HBW3:=Lib.hid (HBW.out.trans (a7.mono HBW.out.size));clear a7 HX0 HX1 HBW s3 c0 c1 c2 h0 HFI
   cases hf:yd s.upB l with
    | none =>
     rw [hf] at HE5;have HE6:=HE5;rw [show ((none:Option SesM).getD zS)=zS from rfl,show (none:Option SesM).isSome=false from rfl]
     clear hf HE5
     go_wp2_with ((with_reducible refine jc ?S4a 45 (.tmp 6) (.tmp 49) ?S4b (w3.heap.size) 0 zS.cells.toList ?S4c zS.cells ?S4d (SesM.listS _) ?S4e ?S4f ?S4g ?S4h);(case S4b=>rfl);(case S4a=>rfl);(case S4c=>rfl);(case S4d=>rfl);(case S4e=>exact xf _ _);(case S4f=>kernel_rfl);(case S4g=>exact SesM.oneS _))
     intro w4 a1;obtain ⟨_,a0⟩:=vE a1;have HBW4:=Lib.hid (HBW3.out.trans (a0.mono HBW3.out.size));clear a1 a0 HBW3;go_wp2_with fail;go_ret;exact ⟨by rw [HE6.out];rfl,HBW4.out⟩
    | some y =>
     rw [hf] at HE5;have HE6:=Lib.hid (show E=(if y.slot=s.upS then (if vf s y=true then 0 else 24) else 16) from HE5.out)
     have HYS:=Lib.hid (HOS.out y (jey hf).1);rw [show ((some y:Option SesM).getD zS)=y from rfl,show (some y:Option SesM).isSome=true from rfl]
     clear hf HE5
     go_wp2_with ((with_reducible refine jc ?S5a 45 (.tmp 6) (.tmp 49) ?S5b (w3.heap.size) 0 y.cells.toList ?S5c y.cells ?S5d (SesM.listS _) ?S5e ?S5f ?S5g ?S5h);(case S5b=>rfl);(case S5a=>rfl);(case S5c=>rfl);(case S5d=>rfl);(case S5e=>exact xf _ _);(case S5f=>kernel_rfl);(case S5g=>exact SesM.oneS _))
     intro w4 a1;obtain ⟨a8,a0⟩:=vE a1;have HX4:=Lib.hid (HX3.out.below a0);have HBW4:=Lib.hid (HBW3.out.trans (a0.mono HBW3.out.size));have y0:w4.cell? ⟨w3.heap.size,0,none⟩=some (.int .i64 y.slot):=a8.cell 0 _ rfl;have s2:w4.cell? ⟨p+1,2,none⟩=some (.int .i64 s.upS):=HX4.out.cell 2 _ rfl;have HRY:=Lib.hid (Box.rangeS a8);have HRS:=Lib.hid (Box.rangeS HX4.out);clear a1 a8 a0 HX3 HBW3;by_cases h1:y.slot=s.upS;rotate_left
     ·
      have H1:=Lib.hid h1;have n1:(y.slot != s.upS)=true:=by rw [bne_iff_ne];exact h1
      clear h1;go_wp2_with fail;go_ret;exact ⟨by rw [HE6.out,if_neg H1.out];rfl,HBW4.out⟩
     have n1:(y.slot != s.upS)=false:=by rw [bne_eq_false_iff_eq];exact h1
     have HE7:=Lib.hid (HE6.out.trans (if_pos h1));have HFT:=Lib.hid (fun w=>jdw s y w HKK.out HSS.out HYS.out)
     clear h1 HE6
     go_wp2_with ((with_reducible refine je ?L6a 45 (.tmp 3) ?L6b (p+1) (0) ?L6c s.cells.toList _ HRS.out underlying45 ?L6d ?L6e ?L6f);(case L6b=>rfl);(case L6a=>rfl);(case L6c=>rfl);(case L6d=>rfl);(case L6e=>kernel_rfl))
     intro cv a2;have ecv:cv=s.cells:=by rw [a2.out]
     subst ecv;clear a2
     go_wp2_with ((with_reducible refine je ?L7a 45 (.tmp 6) ?L7b (w3.heap.size) (0) ?L7c y.cells.toList _ HRY.out underlying45 ?L7d ?L7e ?L7f);(case L7b=>rfl);(case L7a=>rfl);(case L7c=>rfl);(case L7d=>rfl);(case L7e=>kernel_rfl))
     intro cv a2;have ecv:cv=y.cells:=by rw [a2.out]
     subst ecv;clear a2;go_wp2_with fail;refine (HFT.out _).mono ?_;rintro ev w5 ⟨rfl,b3⟩;have HBW5:=Lib.hid (HBW4.out.trans (b3.mono HBW4.out.size));generalize vf s y=ft at HE7 ⊢;clear b3 HFT HBW4 y0 s2 HRY HRS HX4
     cases ft
     ·
      go_wp2_with fail;go_ret;exact ⟨by rw [HE7.out];rfl,HBW5.out⟩
     ·
      go_wp2_with fail;go_ret;exact ⟨by rw [HE7.out];rfl,HBW5.out⟩
end Go.Proofs.YtgcnolapjppbpaaGreatDoor
