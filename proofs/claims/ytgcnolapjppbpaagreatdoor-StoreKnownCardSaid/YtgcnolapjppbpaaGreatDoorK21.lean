/- Texts of one proof. -/
import Derived.Test.YtgcnolapjppbpaaGreatDoorK17
import Derived.Test.YtgcnolapjppbpaaGreatDoorK15
import Derived.Test.YtgcnolapjppbpaaGreatDoorK13
namespace Go.Proofs.YtgcnolapjppbpaaGreatDoor
open Go.RowKit _root_.Go.Proofs.Tryz
set_option maxRecDepth 100000
set_option maxHeartbeats 25600000
variable {w:World}{d:DiskM}{at_ n:Int}{e:Nat}{p:List UInt8}
theorem jnh (b:Nat)(w:World)(x y z:Value):Mod (fun i=>i=b) w (((w.setCell ⟨b,0,none⟩ x).setCell ⟨b,1,none⟩ y).setCell ⟨b,2,none⟩ z) :=
 ((Mod.set (fun i=>i=b) w ⟨b,0,none⟩ x rfl).trans (Mod.set (fun i=>i=b) _ ⟨b,1,none⟩ y rfl)).trans (Mod.set (fun i=>i=b) _ ⟨b,2,none⟩ z rfl)
theorem jly {b:Nat}{c d:Int}{x:Value}{t:TypeId}(h:Box w b #[c,d,x] t):w.rangeAt b 0 [c,d,x]:=h.range 0 _ (fun j v hv=>by rw [qA];simpa using hv)
theorem za {w':World}{F:Nat->Prop}{a:Addr}{x:Value}(hm:Mod F w w')(hc:w.cell? a=some x)(hn:¬ F a.block):w'.cell? a=some x:=by
 rw [World.cell?_of_block (w:=w) (hm.block a.block (World.block_lt_of_cell? w _ hc) hn)];exact hc
theorem zS {w':World}{q:Nat}{v:Value}(hg:w.grownBy w' v.ownBlock)(hv:∀ k,v.ownBlock=some k->q<=k)(hq:q<=w.heap.size):Mod (fun i=>q<=i) w w':=by
 have hb:=je hg hq (fun k hk=>hv k hk)
 exact ⟨hb.os,hb.tape,hb.output,hb.size,fun i _ hn=>hb.block i (by omega)⟩
structure RoS (w0 w:World)(p q:Nat)(c b:Int)(v gv:Value)(g:List Bool)(x:Value)(m:List SesM):Prop where
 bx:Box w p #[c,b,v] 30
 bz:Box w (p+1) #[(0:Int),(0:Int),.slice none 0 0] 30
 bo:Box w q #[c,b,x] 30
 own:OwnS w (q+1) x m
 rg:Rd w gv g.length (g.map Value.bool)
 bel:Mod (fun k=>p<=k\/gv.ownBlock=some k) w0 w
def uL (goes:SesM->Bool)(l:List SesM)(s:SesM):Bool := !goes s && !xK (zu goes l) s
theorem jmm {goes:SesM->Bool}{l:List SesM}{g:List Bool}(h:jkB goes l g){i:Nat}(hi:i<l.length):uL goes l l[i] = !gat g i:=by
 have h1:=h.2 i hi;have h2:=jbA (goes:=goes) (l:=l) (s:=l[i]) (qy _);unfold uL
 cases hg:gat g i
 .
  cases e1:goes l[i]
  .
   cases e2:xK (zu goes l) l[i]
   . rfl
   . exact absurd (h1.2 (h2.1 (.inr e2))) (by rw [hg];decide)
  . exact absurd (h1.2 (h2.1 (.inl e1))) (by rw [hg];decide)
 .
  rcases h2.2 (h1.1 hg) with e | e
  . rw [e];rfl
  . rw [e,Bool.and_comm];rfl
theorem jcm (goes:SesM->Bool)(st:StM)(v gv:Value)(g:List Bool)(base:Nat)(w:World)(hv:RdS w v st.l)(hg:OwnB w base gv g)(hi:WInv goes st.l g)(b7:∀ k,v.ownBlock=some k->gv.ownBlock≠some k)(hn:st.l.length<=1000000000) :
  Calls prog 151 #[.agg #[st.clock,st.births,v],gv] w fun e w'=>∃ o,e=.returned (.agg #[st.clock,st.births,o])/\OwnS w' w.heap.size o (jB goes st.l)/\Mod (fun k=>w.heap.size<=k\/gv.ownBlock=some k) w w':=by
 obtain ⟨c,b,l⟩:=st;simp only at hv hi hn |-;obtain ⟨a,cap,rfl,c5,d8⟩:=hv.slice;have HV:=Hd hv;have H1:=Hd b7;have G:=Hd (show ∀ k,gv.ownBlock=some k->k<w.heap.size from fun k hk=>(hg.lt k hk).2)
 have a9:=jl w (.cells #[c,b,.slice a l.length cap] 30) (.cells #[(0:Int),(0:Int),.slice none 0 0] 30);have L:=Hd (jeA goes (.slice a l.length cap) gv l g base ((w.alloc (.cells #[c,b,.slice a l.length cap] 30)).alloc (.cells #[(0:Int),(0:Int),.slice none 0 0] 30)) (hv.below a9) (hg.below a9) hi b7);have h1:=(Box.new w #[c,b,.slice a l.length cap] 30).below (ja _ (.cells #[(0:Int),(0:Int),.slice none 0 0] 30));have h2:=Box.new (w.alloc (.cells #[c,b,.slice a l.length cap] 30)) #[(0:Int),(0:Int),.slice none 0 0] 30;rw [qj] at h2;obtain ⟨n,hN⟩:=Nm (l.length);obtain ⟨ga,gcap,c6,_⟩:=hg.slice;have c7:g.length=n:=by rw [hi.len,hN]
 rw [c7] at c6;subst c6;have d9:n<=9223372036854775807:=by omega
 rw [<- hN] at HV c5 h1 h2 a9 L |-;have HN:=Hd hN;have H2:=Hd hn;have C:=Hd h1;have D:=Hd h2;have E:=Hd a9;clear hv hg hi b7 c5 hN h1 h2 a9 c7 hn;go_enter func151,ntmps151;go_wp2_with fail;generalize hw1:World.alloc (World.alloc _ _) _=w1 at C D E L |-;clear hw1;obtain ⟨p,hp⟩:=Nm (w.heap.size);rw [<- hp] at C D G |-;have S:=Hd hp;clear hp;refine L.1.mono ?_;rintro e w2 ⟨rfl,g',c8,b8,a1⟩;have H3:=Hd b8;have C:=Hd (C.1.mod a1 (fun h=>by have:=G.1 p h;omega))
 have D:=Hd (D.1.mod a1 (fun h=>by have:=G.1 (p+1) h;omega))
 have U:=Hd (js c8);have b9:g'.length=n:=by rw [b8.1,<- HN.1]
 have b3:Mod (fun k=>p<=k\/(Value.slice ga n gcap).ownBlock=some k) w w2:=⟨a1.os.trans E.1.os,a1.tape.trans E.1.tape,a1.output.trans E.1.output,qi E.1.size a1.size,fun i hi hn=>by
  rw [a1.block i (qu hi E.1.size) (fun h=>hn (.inr h))]
  exact E.1.block i hi⟩
 have V:=Hd b3;have I:=Hd (show p+1<w2.heap.size from D.1.lt)
 have c0:w2.cell? ⟨p,0,none⟩=some (.int .i64 c):=C.1.cell 0 _ rfl;have c1:w2.cell? ⟨p,1,none⟩=some (.int .i64 b):=C.1.cell 1 _ rfl;clear b8 a1 c8 b3 L;go_wp2_with fail;have c9:=Box.new w2 #[c,b,.slice none 0 0] 30;have b0:Mod (fun i=>w2.heap.size<=i) w2 (w2.alloc (.cells #[c,b,.slice none 0 0] 30)):=Mod.of_below (F:=fun i=>w2.heap.size<=i) (ja w2 _)
 have H:=Hd (show RoS w (w2.alloc (.cells #[c,b,.slice none 0 0] 30)) p w2.heap.size c b (.slice a n cap) (.slice ga n gcap) g' (.slice none 0 0) [] from
  ⟨C.1.mod b0 (by have:=I.1;omega),D.1.mod b0 (by have:=I.1;omega),c9,OwnS.nil _ _,
   Rd.mod U.1 b0 (fun k hk=>by have:=G.1 k hk;have:=I.1;omega),V.1.trans (b0.mono (fun i hi=>by have:=I.1;omega))⟩)
 have B:=Hd (show p+1<w2.heap.size from I.1)
 clear c9 b0 c0 c1 C D U V I;generalize w2.heap.size=q at H B |-;generalize w2.alloc (.cells #[c,b,.slice none 0 0] 30)=w3 at H |-
 go_loopg [7] n (fun gk iv wr=>∃ (k:Nat) (x:Value),gk+k=n/\iv=.int .i64 (k:Int)/\RoS w wr p q c b (.slice a n cap) (.slice ga n gcap) g' x ((l.take k).filter (uL goes l)))
 case atStart=>exact ⟨0,_,rfl,rfl,H.1⟩
 case round =>
  clear H;obtain ⟨k,x,d0,rfl,a3⟩:=hrel;have k0:(0:Int)<=(k:Int):=by omega
  have M:=Hd d0;have H:=Hd a3;have c2:wr.cell? ⟨p,2,none⟩=some (.slice a n cap):=a3.bx.cell 2 _ rfl;clear d0;by_cases hk:k<n
  .
   have k1:(k:Int)<(n:Int):=by omega
   have b4:k<l.length:=by have:=HN.1;omega
   obtain ⟨s,hs⟩:=Nm (l[k]);obtain ⟨rb,ro,d1,a2⟩:=HV.1.row k b4;rw [<- hs] at a2;have d2:rb<p:=by rw [S.1];exact World.block_lt_of_cell? w _ (a2 0 _ rfl)
   have c3:wr.rangeAt rb (ro+k*12) s.cells.toList:=fun j u hj=>za a3.bel (a2 j u hj) (fun h=>by
    rcases h with h | h
    . simp at h;omega
    .
     refine H1.1 rb ?_ h;rw [d1];rfl)
   subst d1;have P:=Hd c3;have J:=Hd (show uL goes l s = !gat g' k by rw [hs];exact jmm H3.1 b4)
   have N:=Hd (jcZ (f:=uL goes l) b4 hs);obtain ⟨gb,goff,gc,e3,b5⟩:=a3.rg.at k (by rw [qE,b9];exact hk)
   rw [b9] at e3;injection e3 with e4 _ e5
   subst e4;subst e5;have b1:wr.cell? ⟨gb,goff+k,none⟩=some (.bool (gat g' k)):=by
    rw [b5];unfold gat;rw [List.getD,List.getD,List.getElem?_map,List.getElem?_eq_getElem (by omega)]
    rfl
   have T:=Hd hk;have X:=Hd (show ((l.take k).filter (uL goes l)).length+1<=1256584717458 by
    have h1:=List.length_filter_le (uL goes l) (l.take k);rw [qr] at h1;have:=H2.1;omega)
   have H4:=Hd d2;clear a2 c3 hs hk b4 b5 a3 d2;generalize gat g' k=r at J b1
   cases r
   rotate_left
   .
    have O:=Hd (show (l.take (k+1)).filter (uL goes l)=(l.take k).filter (uL goes l) by rw [N.1,J.1];exact qF _)
    clear N J P;go_wp2_with fail;clear b1 c2
    go_roundg (n-(k+1))
    case measure=>have:=M.1;have:=T.1;omega
    case rel=>exact ⟨k+1,x,by have:=M.1;have:=T.1;omega,by go_num,by rw [O.1];exact H.1⟩
   .
    have O:=Hd (show (l.take (k+1)).filter (uL goes l)=(l.take k).filter (uL goes l) ++ [s] by rw [N.1,J.1];rfl)
    generalize (l.take k).filter (uL goes l)=m at H O X;obtain ⟨xa,xc,rfl,_⟩:=H.1.own.slice;have x2:wr.cell? ⟨q,2,none⟩=some (.slice xa m.length xc):=H.1.bo.cell 2 _ rfl;have HC:=Hd (And.intro c2 x2);have H5:=Hd (show q+1<=wr.heap.size from H.1.bo.lt)
    clear N J x2;go_wp2_with fail;clear b1 c2;refine yF 10 (F:=fun W=>Mod (fun i=>q+1<=i) wr W) (by kernel_rfl) (Mod.drew _ wr) (fun b6=>?_)
    refine Tl 0 29 ?_;refine Tl 1 30 ?_ (hy:=by intro w' a4;have q2:=za a4 HC.1.2 (fun h=>Nat.not_succ_le_self _ h);clear a4;go_simp;try with_reducible rfl)
    refine Tl 2 31 ?_;refine Tl 3 32 ?_ (hy:=by intro w' a4;have q2:=za a4 HC.1.1 (fun h=>by have:=B.1;simp at h;omega);clear a4;go_simp;try with_reducible rfl)
    refine Tl 4 33 ?_;refine Tl 5 34 ?_;refine Tl 6 35 ?_ (v:=.agg s.cells) (hy:=fun w' a4=>Ek (fun j v hv=>za a4 (P.1 j v hv) (fun h=>by have:=H4.1;have:=B.1;simp at h;omega)) underlying45 (cs:=(s.cells).toList))
    refine jQ (rs := [7]) (by kernel_rfl) (by simp) (AllReadyL.cons (o:=⟨some 36,.buildSlice _ 1 _,_,_,_,_⟩) rfl (fun K hK=>?_) AllReadyL.nil)
    rw [qf (by kernel_rfl)]
    refine jae (.tmp 35) rfl s rfl ?_;have a6:Below wr.drew.heap.size wr.drew (wr.drew.alloc (.cells s.cells 45)):=ja _ _;refine hK.out _ _ (b6.trans (Mod.of_below a6)) (fun a5=>?_)
    have Q:=Hd ((H.1.own.below (jb wr)).below a6);have Y:=Hd (show ∀ j u,s.cells.toList[j]?=some u->(wr.drew.alloc (.cells s.cells 45)).cell? ((⟨wr.heap.size,0,none⟩:Addr).add j)=some u from xu wr.drew s 45)
    have Z:=Hd (qi H5.1 a5.size);clear hK K b6 a6
    try simp only [Nz]
    refine jQ (rs := [8]) (by kernel_rfl) (by simp) (AllReadyL.cons (o:=⟨some 37,.call _,_,_,_,_⟩) rfl (fun K hK=>?_) AllReadyL.nil)
    rw [qf (by kernel_rfl)]
    refine jcs (.tmp 30) (.tmp 36) rfl (q+1) _ m rfl Q.1 ⟨wr.heap.size,0,none⟩ 1 s rfl Y.1 X.1 Z.1 ?_;intro v' w7 a8 d3 _;obtain ⟨va,vc,d4,_⟩:=a8.slice;rw [qd,qx] at d4;subst d4;have d5:=a5.trans (zS d3 (fun k hk=>(Q.1.lt k hk).1) Z.1)
    refine hK.out _ _ d5 (fun a0=>?_)
    have R:=Hd a8;clear hK K a8 d3 d5 Q Y a5
    try simp only [Nz]
    refine Tl 9 38 ?_;have q2:=za a0 HC.1.2 (fun h=>Nat.not_succ_le_self _ h)
    have b2:=H.1.bo.mod a0 (by omega)
    have r2:=b2.free 2;refine jQ (rs := [10]) (by kernel_rfl) (by simp) (AllReadyL.last rfl (o:=⟨none,.store _ _ _,_,_,_,_⟩) rfl (fun K hK=>?_))
    go_simp
    refine hK.out _ _ ?_;clear hK K q2 r2
    try simp only [Nz]
    refine yZ (by kernel_rfl) ?_ _
    have a7:=Mod.set (fun i=>i=q) w7 ⟨q,2,none⟩ (.slice va (m.length+1) vc) rfl
    have H0:=Hd (show RoS w (w7.setCell ⟨q,2,none⟩ (.slice va (m.length+1) vc)) p q c b (.slice (some ⟨rb,ro,none⟩) n cap) (.slice (some ⟨gb,goff,none⟩) n gcap) g' (.slice va (m.length+1) vc) (m ++ [s]) from
     ⟨(H.1.bx.mod a0 (by have:=B.1;omega)).mod a7 (by have:=B.1;omega),(H.1.bz.mod a0 (by have:=B.1;omega)).mod a7 (by have:=B.1;omega),b2.set 2 (.slice va (m.length+1) vc),
      R.1.mod a7 (fun k hk e=>by have:=(R.1.lt k hk).1;omega),
      Rd.mod (Rd.mod H.1.rg a0 (fun k hk=>by have:=G.1 k hk;have:=B.1;omega)) a7 (fun k hk e=>by have:=G.1 k hk;have:=B.1;omega),
      (H.1.bel.trans (a0.mono (fun i hi=>by have:=B.1;omega))).trans (a7.mono (fun i hi=>by have:=B.1;omega))⟩)
    clear a7 b2 a0 R H;generalize World.setCell w7 _ _=w8 at H0 |-;go_wp2
    go_roundg (n-(k+1))
    case measure=>have:=M.1;have:=T.1;omega
    case rel=>exact ⟨k+1,_,by have:=M.1;have:=T.1;omega,by go_num,by rw [O.1];exact H0.1⟩
  .
   have k1:¬ (k:Int)<(n:Int):=by omega
   have A:=Hd (show RoS w wr p q c b (.slice a n cap) (.slice ga n gcap) g' x (jB goes l) by
    have h:=a3;rw [ql (by have:=HN.1;omega)] at h
    exact h)
   obtain ⟨xa,xc,rfl,_⟩:=A.1.own.slice;obtain ⟨x0,x1,x2⟩:=C3 A.1.bo;obtain ⟨z0,y0,z1,y1,z2,y2⟩:=B3 A.1.bz;have c4:=jnh (p+1) wr c b (.slice xa (jB goes l).length xc);have a6:=((A.1.bz.set 0 c).set 1 b).set 2 (.slice xa (jB goes l).length xc);have d6:=(A.1.own.mod c4 (fun k hk e=>by have:=(A.1.own.lt k hk).1;have:=B.1;omega)).base (base':=w.heap.size) (by have:=S.1;have:=B.1;omega)
   have d7:=A.1.bel.trans (c4.mono (fun i hi=>by have:=S.1;omega))
   have HF:=Hd (And.intro a6 (And.intro d6 (show Mod (fun k=>w.heap.size<=k\/(Value.slice ga n gcap).ownBlock=some k) w _ from d7.mono (fun i hi=>by rw [<- S.1];exact hi))))
   clear hk a3 H A c4 a6 d6 d7;go_wp2;exact Jc (jly HF.1.1) underlying30 ⟨_,rfl,HF.1.2.1,HF.1.2.2⟩
theorem jcb (d:DiskM)(i:Int)(s:ByteArray)(h:0<=i/\i<d.strs.length)(hs:s.size<=256)(hl:d.left≠some 0):d.write i s=({ strs:=d.strs.set i.toNat s,trail:=d.trail ++ [(i,s)],left:=d.left.map (· - 1) },0):=by
 unfold DiskM.write;rw [qh (by omega),qh (by omega),qh hl]
theorem jfJ (d:DiskM)(i:Int)(s:ByteArray)(h:0<=i/\i<d.strs.length)(hs:s.size<=256)(hl:d.left=some 0):d.write i s=(d,22):=by
 unfold DiskM.write;rw [qh (by omega),qh (by omega),qf hl]
theorem jia (d:DiskM)(i:Int)(s:ByteArray)(h:(d.write i s).2≠0):(d.write i s).1=d:=by
 unfold DiskM.write at *
 split
 . rfl
 split
 . rfl
 split
 . rfl
 .
  rename_i h1 h2 h3
  rw [qh h1,qh h2,qh h3] at h;exact absurd rfl h
theorem jbi (d:DiskM)(i:Int)(h:0<=i/\i<d.strs.length):jH d i=LB (d.strs.getD i.toNat ByteArray.empty):=by
 unfold jH DiskM.read;rw [qf h]
theorem jb9 (d:DiskM)(i:Int)(h:¬ (0<=i/\i<d.strs.length)):jH d i = []:=by
 unfold jH DiskM.read;rw [qh h];rfl
theorem zE (d:DiskM)(i j:Int)(s:ByteArray)(h:i≠j):jH (d.write i s).1 j=jH d j:=by
 by_cases hw:(d.write i s).2=0
 .
  by_cases hj:0<=j/\j<d.strs.length
  .
   have hl:=d.write_len i s;rw [jbi _ _ (by rw [hl];exact hj),jbi _ _ hj]
   unfold DiskM.write at *
   split at hw
   . simp at hw
   split at hw
   . simp at hw
   split at hw
   . simp at hw
   .
    rename_i h1 h2 h3
    rw [qh h1,qh h2,qh h3];have:i.toNat≠j.toNat:=by omega
    simp only [List.getD,List.getElem?_set];rw [qh this]
  .
   have hl:=d.write_len i s;rw [jb9 _ _ (by rw [hl];exact hj),jb9 _ _ hj]
 . rw [jia d i s hw]
theorem jdY (d:DiskM)(i:Int)(s:ByteArray)(h:(d.write i s).2=0):jH (d.write i s).1 i=LB s:=by
 unfold DiskM.write at *
 split at h
 . simp at h
 split at h
 . simp at h
 split at h
 . simp at h
 .
  rename_i h1 h2 h3
  rw [qh h1,qh h2,qh h3,jbi _ _ (by simp;omega)]
  have:i.toNat<d.strs.length:=by omega
  simp [List.getD,this]
theorem zU:∀ (l:List (List UInt8)) (d:DiskM) (b j:Int),(j<b\/b+l.length<=j)->jH (jr d b l).1 j=jH d j
 | [],d,b,j,_=>rfl
 | c::r,d,b,j,h=>by
  rw [qp] at h;rw [jr]
  split
  . rw [zU r _ (b+1) j (by omega),zE _ _ _ _ (by omega)]
  . exact zE _ _ _ _ (by omega)
theorem ja1:∀ (l:List (List UInt8)) (d:DiskM) (b:Int),0<=b->b+l.length<=d.strs.length->(∀ c∈l,c.length<=256)->(∀ k,d.left=some k->l.length<=k) ->
  (jr d b l).2=0/\(∀ i,i<l.length->jH (jr d b l).1 (b+i)=l.getD i [])/\(jr d b l).1.left=d.left.map (· - l.length)
 | [],d,b,_,_,_,_=>by
  refine ⟨rfl,fun i hi=>by simp at hi,?_⟩
  cases hd:d.left with
  | none=>simp [jr,hd]
  | some k=>simp [jr,hd]
 | c::r,d,b,h0,hb,hc,hk=>by
  rw [qp] at hb hk;have hw:=jcb d b (SB c) ⟨h0,by omega⟩ (by rw [SB_size];exact hc c (by simp)) (fun e=>by have:=hk 0 e;omega)
  have h1:(d.write b (SB c)).2=0:=by rw [hw]
  have hl:=d.write_len b (SB c);have a1:(d.write b (SB c)).1.left=d.left.map (· - 1):=by rw [hw]
  obtain ⟨g1,g2,g3⟩:=ja1 r (d.write b (SB c)).1 (b+1) (by omega) (by rw [hl];omega) (fun x hx=>hc x (by simp [hx])) (fun k a0=>by
   rw [a1] at a0
   cases hd:d.left with
   | none=>rw [hd] at a0;cases a0
   | some m=>rw [hd] at a0;simp at a0;have:=hk m hd;omega)
  rw [jr,qf h1];refine ⟨g1,fun i hi=>?_,?_⟩
  .
   cases i with
   | zero =>
    rw [zU r _ _ _ (by left;simp;omega)]
    simp only [Int.natCast_zero,Int.add_zero,kt];rw [jdY _ _ _ h1,jmn]
   | succ i =>
    rw [qp] at hi;have:=g2 i (by omega)
    rw [show b+((i+1:Nat):Int)=b+1+(i:Int) by omega,this,wQ]
  .
   rw [g3,a1]
   cases d.left with
   | none=>rfl
   | some k=>simp;omega
theorem jdv:∀ (l:List (List UInt8)) (d:DiskM) (b:Int) (k:Nat),0<=b->b+l.length<=d.strs.length->(∀ c∈l,c.length<=256)->d.left=some k->k<l.length->(jr d b l).2=22
 | [],d,b,k,_,_,_,_,h=>by simp at h
 | c::r,d,b,k,h0,hb,hc,hk,h=>by
  rw [qp] at hb h
  cases k with
  | zero =>
   have hw:=jfJ d b (SB c) ⟨h0,by omega⟩ (by rw [SB_size];exact hc c (by simp)) hk
   rw [jr,qh (by rw [hw];simp),hw]
  | succ k =>
   have hw:=jcb d b (SB c) ⟨h0,by omega⟩ (by rw [SB_size];exact hc c (by simp)) (by rw [hk];simp)
   rw [jr,qf (by rw [hw])]
   exact jdv r _ (b+1) k (by omega) (by rw [d.write_len];omega) (fun x hx=>hc x (by simp [hx])) (by rw [hw,hk];rfl) (by omega)
theorem jaB:∀ (f:Nat) (p:List UInt8),∀ c∈jk f p,c.length<=256
 | 0,p,c,h=>by simp [jk] at h
 | f+1,p,c,h=>by
  rw [jk] at h
  split at h
  . simp at h
  .
   rcases qH.1 h with rfl | h
   . rw [qr];omega
   . exact jaB f _ c h
def yd (m:Nat):Nat:=(m+255) / 256
theorem zl:∀ (f:Nat) (p:List UInt8),p.length<=f->(jk f p).length=yd p.length
 | 0,p,h=>by
  have:p = []:=qw (by omega)
  subst this;rfl
 | f+1,p,h=>by
  rw [jk]
  split
  . rename_i h1;subst h1;rfl
  .
   rename_i h1
   have hp:0<p.length:=pW.2 h1;rw [qp,zl f _ (by rw [qn];omega),qn]
   unfold yd;omega
theorem jes:∀ (f:Nat) (p:List UInt8) (i:Nat),p.length<=f->i<(jk f p).length->(jk f p).getD i []=(p.drop (i*256)).take 256
 | 0,p,i,h,hi=>by simp [jk] at hi
 | f+1,p,i,h,hi=>by
  rw [jk] at hi |-
  split
  . rename_i h1;rw [qf h1] at hi;simp at hi
  .
   rename_i h1
   rw [qh h1,qp] at hi;have hp:0<p.length:=pW.2 h1
   cases i with
   | zero=>simp
   | succ i =>
    rw [wQ,jes f _ i (by rw [qn];omega) (by omega),wR]
    congr 2;omega
structure Holds (d:DiskM)(at_ n:Int)(e:Nat)(p:List UInt8):Prop where
 may:xp d.strs.length at_ n
 fits:(p.length:Int)<=n*256
 small:d.strs.length<=4096
 head:jH d at_=yR e p
 body:∀ i,i<yd p.length->jH d (jF at_ n e+i)=(p.drop (i*256)).take 256
theorem Holds.room (h:Holds d at_ n e p):(yd p.length:Int)<=n/\n<=2048/\p.length<=524288:=by
 have h1:=h.fits;have h2:=h.may;have h3:=h.small;unfold xp at h2;unfold yd;omega
theorem jiU (m:Nat)(hm:m<4294967296)(a b:List UInt8):yA (a++le m 4++b) a.length=m:=by
 have a0:∀ k:Nat,(UInt8.ofNat k).toNat=k % 256:=fun k=>by show k % 2 ^ 8=_;rfl
 have hg:∀ j,j<4->(a++le m 4++b).getD (a.length+j) 0=(le m 4).getD j 0:=fun j hj=>by
  rw [qB,List.getD,List.getElem?_append_right (by omega),List.getElem?_append_left (by rw [jC];omega)]
  rw [Nat.add_sub_cancel_left];rfl
 have h0:=hg 0 (by omega)
 rw [qT] at h0;unfold yA;rw [h0,hg 1 (by omega),hg 2 (by omega),hg 3 (by omega)]
 simp only [le,kt,wQ,a0];omega
theorem jlR (e:Nat)(p:List UInt8)(he:e<4294967296)(hp:p.length<4294967296):yA (yR e p) 0=e/\yA (yR e p) 4=p.length:=by
 constructor
 .
  have:=jiU e he [] (le p.length 4++le (crc p).toNat 4++le (crc (vP e p)).toNat 4)
  simpa [yR,vP,List.append_assoc] using this
 .
  have:=jiU p.length hp (le e 4) (le (crc p).toNat 4++le (crc (vP e p)).toNat 4);rw [jC] at this
  simpa [yR,vP,List.append_assoc] using this
theorem jey (d:DiskM)(p:List UInt8)(fb:Int)(hb:∀ i,i<yd p.length->jH d (fb+i)=(p.drop (i*256)).take 256) :
  ∀ (f i:Nat),p.length-min (i*256) p.length<f->yx d f (fb+i) p.length (p.take (i*256))=some p
 | 0,i,h=>by omega
 | f+1,i,h=>by
  by_cases hi:i*256<p.length
  .
   have a1:i<yd p.length:=by unfold yd;omega
   have hl:(p.take (i*256)).length=i*256:=by rw [qr];omega
   have hr:=hb i a1;have a0:(jH d (fb+i)).length=min 256 (p.length-i*256):=by rw [hr,qr,qn]
   rw [yx,qf (by rw [hl];exact hi),qh (by rw [hl,a0];omega)]
   have ht:(jH d (fb+i)).take (min (p.length-(p.take (i*256)).length) 256)=(p.drop (i*256)).take 256:=by
    rw [ql (by rw [a0,hl];omega),hr]
   have a2:p.take (i*256)++(p.drop (i*256)).take 256=p.take ((i+1)*256):=by
    rw [show (i+1)*256=i*256+256 by omega,List.take_add]
   rw [ht,a2,show fb+(i:Int)+1=fb+((i+1:Nat):Int) by omega]
   exact jey d p fb hb f (i+1) (by omega)
  . rw [ql (by omega),yx,qh (by omega)]
theorem jlY (e:Nat)(p:List UInt8):yR e p ≠ []:=fun h=>by
 have:=congrArg List.length h;rw [yY] at this;simp at this
theorem Holds.load (h:Holds d at_ n e p)(he:e<4294967296):jZ d at_ n=(e,p,0):=by
 have hr:=h.room;obtain ⟨h1,h2⟩:=jlR e p he (by omega)
 unfold jZ;rw [qf h.may,h.head,qh (jlY e p),qf (yY e p),h1,h2,qh (by have:=h.fits;omega)]
 have:=jey d p (jF at_ n e) h.body (p.length+1) 0 (by omega)
 simp only [Int.natCast_zero,Int.add_zero,Nat.zero_mul,List.take_zero] at this;rw [this]
 simp
theorem Holds.write (h:Holds d at_ n e p)(i:Int)(s:ByteArray)(hi:i<at_\/at_+2*n<i):Holds (d.write i s).1 at_ n e p:=by
 have hm:=h.may;unfold xp at hm;have hr:=h.room;have hf:at_+1<=jF at_ n e/\jF at_ n e+n<=at_+1+2*n:=by
  unfold jF
  rcases pi e with h2 | h2 <;> rw [h2] <;> simp <;> omega
 refine ⟨by rw [d.write_len];exact h.may,h.fits,by rw [d.write_len];exact h.small,?_,fun j hj=>?_⟩
 . rw [zE _ _ _ _ (by omega)];exact h.head
 . rw [zE _ _ _ _ (by omega)];exact h.body j hj
theorem jhF (d:DiskM)(at_ n:Int)(e:Nat)(p:List UInt8)(hm:xp d.strs.length at_ n)(hs:d.strs.length<=4096)(hp:(p.length:Int)<=n*256)(hk:∀ k,d.left=some k->yd p.length<k) :
  (jR d at_ n e p).2=0/\Holds (jR d at_ n e p).1 at_ n e p/\(jR d at_ n e p).1.left=d.left.map (· - (yd p.length+1)):=by
 have a3:=hm;unfold xp at a3;have a0:=zl p.length p (qm _);have hb:(yd p.length:Int)<=n:=by unfold yd;omega
 have hf:at_+1<=jF at_ n e/\jF at_ n e+n<=at_+1+2*n:=by
  unfold jF
  rcases pi e with h2 | h2 <;> rw [h2] <;> simp <;> omega
 obtain ⟨g1,g2,g3⟩:=ja1 (jk p.length p) d (jF at_ n e) (by omega) (by rw [a0];omega) (jaB _ _) (fun k h=>by rw [a0];have:=hk k h;omega)
 have hl:=uB d (jF at_ n e) (jk p.length p);obtain ⟨d1,a1⟩:=Nm ((jr d (jF at_ n e) (jk p.length p)).1);have a4:jR d at_ n e p=d1.write at_ (SB (yR e p)):=by
  unfold jR;rw [qf hm,qh (by omega),qf g1,a1]
 rw [<- a1] at g2 g3 hl;have hw:=jcb d1 at_ (SB (yR e p)) (by rw [hl];omega) (by rw [SB_size,yY];omega) (fun h=>by
  rw [g3] at h
  cases hd:d.left with
  | none=>rw [hd] at h;cases h
  | some k=>rw [hd] at h;simp at h;have:=hk k hd;rw [a0] at h;omega)
 have a2:(d1.write at_ (SB (yR e p))).2=0:=by rw [hw]
 rw [a4];refine ⟨a2,⟨by rw [d1.write_len,hl];exact hm,hp,by rw [d1.write_len,hl];exact hs,?_,fun i hi=>?_⟩,?_⟩
 . rw [jdY _ _ _ a2,jmn]
 . rw [zE _ _ _ _ (by omega),g2 i (by rw [a0];exact hi),jes _ _ _ (qm _) (by rw [a0];exact hi)]
 .
  rw [hw];show d1.left.map (· - 1)=_
  rw [g3,a0]
  cases d.left with
  | none=>rfl
  | some k=>simp;omega
theorem jks (d:DiskM)(at_ n:Int)(e e2:Nat)(p q:List UInt8)(h:Holds d at_ n e p)(hq:(q.length:Int)<=n*256)(k:Nat)(hk:d.left=some k)(a7:k<=yd q.length)(he:e2 % 2≠e % 2) :
  (jR d at_ n e2 q).2=22/\Holds (jR d at_ n e2 q).1 at_ n e p:=by
 have hm:=h.may;have a5:=hm;unfold xp at a5;have hr:=h.room;have a1:=zl q.length q (qm _);have hb:(yd q.length:Int)<=n:=by unfold yd;omega
 have hf:at_+1<=jF at_ n e2/\jF at_ n e2+n<=at_+1+2*n/\(jF at_ n e+n<=jF at_ n e2\/jF at_ n e2+n<=jF at_ n e)/\at_+1<=jF at_ n e:=by
  unfold jF
  rcases pi e with h1 | h1 <;> rcases pi e2 with h2 | h2 <;> rw [h1,h2] <;> simp <;> omega
 obtain ⟨d1,a0⟩:=Nm ((jr d (jF at_ n e2) (jk q.length q)).1);have hl:=uB d (jF at_ n e2) (jk q.length q);have a2:Holds d1 at_ n e p:=by
  refine ⟨by rw [a0,hl];exact hm,h.fits,by rw [a0,hl];exact h.small,?_,fun j hj=>?_⟩
  . rw [a0,zU _ _ _ _ (by rw [a1];omega)];exact h.head
  . rw [a0,zU _ _ _ _ (by rw [a1];omega)];exact h.body j hj
 rcases qX k (yd q.length) with h1 | h1
 .
  have a4:=jdv (jk q.length q) d (jF at_ n e2) k (by omega) (by rw [a1];omega) (jaB _ _) hk (by rw [a1];exact h1)
  have a3:jR d at_ n e2 q=jr d (jF at_ n e2) (jk q.length q):=by
   unfold jR;rw [qf hm,qh (by omega),qh (by rw [a4];simp)]
  rw [a3,a4,<- a0];exact ⟨rfl,a2⟩
 .
  obtain ⟨g1,g2,g3⟩:=ja1 (jk q.length q) d (jF at_ n e2) (by omega) (by rw [a1];omega) (jaB _ _) (fun k' h'=>by rw [hk] at h';injection h' with h';rw [a1];omega)
  have a6:d1.left=some 0:=by rw [a0,g3,hk,a1];simp;omega
  have hw:=jfJ d1 at_ (SB (yR e2 q)) (by rw [a0,hl];omega) (by rw [SB_size,yY];omega) a6
  have a3:jR d at_ n e2 q=d1.write at_ (SB (yR e2 q)):=by
   unfold jR;rw [qf hm,qh (by omega),qf g1,a0]
  rw [a3,hw];exact ⟨rfl,a2⟩
end Go.Proofs.YtgcnolapjppbpaaGreatDoor
