/-
  The statement of layer, proved out of its walk: whatever the input, the law answers true and leaves its arguments as they were; package errors' variable errorType reads as the program's text lays it (the card ties it).
-/
import Derived.Test.YtgcnolapjppbpaaGreatDoorP03
import Derived.BigQuiet
import Derived.Test.YtgcnolapjppbpaaGreatDoorP09
import Derived.Outline
import Derived.Deep.LoopGhost
import Derived.Deep.RegionHeld3
import Derived.Test.YtgcnolapjppbpaaGreatDoorP05
import Derived.Test.YtgcnolapjppbpaaGreatDoorP52
import Derived.Test.YtgcnolapjppbpaaGreatDoorP49
import Derived.Test.YtgcnolapjppbpaaGreatDoorP19
import Derived.LaidLaws
import Derived.LaidHandle
import Derived.ChangeSame
import Derived.ChangeVars
import Derived.JoinedOf
import Derived.RowKit
import Derived.RowKitTokens
import Derived.Stop.Joined
import Derived.Test.YtgcnolapjppbpaaGreatDoorP27
import Derived.Test.YtgcnolapjppbpaaGreatDoorP51
import Derived.Test.YtgcnolapjppbpaaGreatDoorTie
import Derived.Test.YtgcnolapjppbpaaGreatDoorCards
import Derived.SevenTiedAt
import Derived.Test.YtgcnolapjppbpaaGreatDoorP00
namespace Go.Proofs.YtgcnolapjppbpaaGreatDoor
open Go.RowKit _root_.Go.Proofs.Tryz
set_option maxRecDepth 100000
set_option maxHeartbeats 25600000
theorem jdi (v v':Value)(l:List (Int × ByteArray))(w:World)(hv:Rd w v l.length (jF l))(a4:Rd w v' l.length (jF l)) :
  Calls prog 28 #[v,v'] w fun e w'=>e=.returned (.bool true)∧∃ k,w'=w.drewN k:=by
 have a5:=hv.len;obtain ⟨a,cap,rfl,a6,a7,_,hc⟩:=hv;obtain ⟨a',cap',rfl,a8,a9,_,hd⟩:=a4;have H:=Hd hc;have Hd:=Hd hd;clear hc hd;go_enter func28,ntmps28
 go_wp2
 go_loopw [5] (fun i wr=>∃ k:Nat,k≤l.length∧i=.int .i64 k∧∃ m,wr=w.drewN m) (fun i _=>l.length-(intOf i).toNat)
 case atStart=>exact ⟨0,by omega,rfl,0,rfl⟩
 case round =>
  obtain ⟨k,hk,rfl,m,rfl⟩:=hrel;by_cases hlt:k<l.length
  ·
   obtain ⟨fa,fb⟩:=jfJ l k hlt;obtain ⟨b,off,rfl,a2⟩:=H.1 (k*2) (by rw [yD];omega)
   obtain ⟨b2,off2,e3,a0⟩:=H.1 (k*2+1) (by rw [yD];omega)
   injection e3 with e3
   injection e3 with e4 e5
   subst e4;subst e5;obtain ⟨c,ofc,rfl,a3⟩:=Hd.1 (k*2) (by rw [yD];omega)
   obtain ⟨c2,ofc2,e3,a1⟩:=Hd.1 (k*2+1) (by rw [yD];omega)
   injection e3 with e3
   injection e3 with e4 e5
   subst e4;subst e5;rw [fa] at a2 a3;rw [fb] at a0 a1;generalize l.getD k (0,ByteArray.empty)=r at *;obtain ⟨ri,rs⟩:=r;simp only at a2 a0 a3 a1;rw [← Nat.add_assoc] at a0 a1;have h1:(0:Int)≤(k:Int):=by omega
   have h2:(k:Int)<(l.length:Int):=by omega
   clear H Hd fa fb
   go_wp2
   go_quiet (fail)
   go_wp2
   go_roundw
   case rel=>exact ⟨k+1,by omega,by go_num,_,rfl⟩
   case measure=>simp [intOf];omega
  ·
   obtain rfl:k=l.length:=by omega
   clear H Hd
   go_wp2
   go_ret;exact ⟨rfl,m,rfl⟩
structure DR (W:World)(p rp c:Nat)(d:DiskM)(F G:Nat→Prop)(wr:World):Prop where
 disk:IsDisk wr d p F
 ref:IsRef wr d rp G
 wf:d.Wf
 small:d.strs.length≤4096
 trail:d.trail.length≤c
 fg:∀ k,F k→¬ G k
 lo:∀ k,F k∨G k→W.heap.size≤k
 below:Below W.heap.size W wr
theorem DR.to {W:World}{p rp c:Nat}{d:DiskM}{F G:Nat→Prop}{wr w2:World}(h:DR W p rp c d F G wr)(hb:Below wr.heap.size wr w2):DR W p rp c d F G w2 :=
 ⟨h.disk.mod (Mod.of_below (F:=fun _=>False) hb) (fun _ _ h=>h),h.ref.below hb,h.wf,h.small,h.trail,h.fg,h.lo,h.below.trans (hb.mono h.below.size)⟩
def ActS.z:ActS:=⟨0,0,⟨0,ju,0,0⟩,false,yh,.slice none 0 0,ByteArray.empty⟩
theorem jjz {w:World}{a:Option Addr}{n cap:Nat}{l:List ActS}(h:Rd w (.slice a n cap) l.length (l.flatMap ActS.list))(k:Nat)(hk:k<l.length):∃ b off,a=some ⟨b,off,none⟩∧w.rangeAt b (off+k*22) (l[k]).list:=by
 obtain ⟨a',cap',e,h1,h2,_,h3⟩:=h;injection e with e1 e2 e3
 subst e1;have hl:=ui ActS.list 22 ActS.length l;obtain ⟨b,off,rfl,_⟩:=h3 (k*22) (by omega)
 refine ⟨b,off,rfl,fun j v hv=>?_⟩
 have hj:j<22:=(List.getElem?_eq_some_iff.1 hv).1;obtain ⟨b',off',e',h4⟩:=h3 (k*22+j) (by omega)
 injection e' with e';injection e' with e5 e6
 subst e5;subst e6;rw [Nat.add_assoc,h4,ug ActS.list 22 ActS.length (by omega) ActS.z l k j hk hj]
 rw [List.getD,show l.getD k ActS.z=l[k] by simp [List.getD,hk],hv];rfl
theorem ActS.listA (x:ActS):Hid (x.cells=x.list.toArray):=Lib.hid rfl
theorem ActS.oneA (x:ActS)(h:x.sv.oneCell'=true):∀ v∈x.list,v.oneCell'=true:=by
 intro v hv;unfold ActS.list at hv;simp only [List.mem_cons,List.mem_append,List.not_mem_nil,or_false] at hv
 rcases hv with rfl | rfl | hv | rfl | rfl | rfl | rfl | rfl
 · rfl
 · rfl
 · exact x.e.oneE v hv
 · rfl
 · rfl
 · rfl
 · exact h
 · rfl
theorem jjS (w:World)(x:ActS):(w.alloc (.cells #[.int .i64 0,.int .i64 0,.int .i64 0,.int .i64 0,.int .i64 0,.int .i64 0,.int .i64 0,.int .i64 0,.string ⟨#[]⟩,.string ⟨#[]⟩,.int .u64 0,.int .i64 0,.int .i64 0,.int .i64 0,.int .i64 0,.int .i64 0,.int .i64 0,.bool false,.int .i64 0,.int .i64 0,.slice none 0 0,.string ⟨#[]⟩] 68)).there w.heap.size 0 x.list.length :=
 (Box.new w #[.int .i64 0,.int .i64 0,.int .i64 0,.int .i64 0,.int .i64 0,.int .i64 0,.int .i64 0,.int .i64 0,.string ⟨#[]⟩,.string ⟨#[]⟩,.int .u64 0,.int .i64 0,.int .i64 0,.int .i64 0,.int .i64 0,.int .i64 0,.int .i64 0,.bool false,.int .i64 0,.int .i64 0,.slice none 0 0,.string ⟨#[]⟩] 68).there 0 22 (by show 0+22≤22;decide)
theorem jk1 {w w':World}{x:ActS}(h:Hid (w'=(w.alloc (.cells #[.int .i64 0,.int .i64 0,.int .i64 0,.int .i64 0,.int .i64 0,.int .i64 0,.int .i64 0,.int .i64 0,.string ⟨#[]⟩,.string ⟨#[]⟩,.int .u64 0,.int .i64 0,.int .i64 0,.int .i64 0,.int .i64 0,.int .i64 0,.int .i64 0,.bool false,.int .i64 0,.int .i64 0,.slice none 0 0,.string ⟨#[]⟩] 68)).setCells w.heap.size 0 x.list)):Box w' w.heap.size x.cells 68∧Below w.heap.size w w':=by
 rw [h.out];have hb:=Box.new w #[.int .i64 0,.int .i64 0,.int .i64 0,.int .i64 0,.int .i64 0,.int .i64 0,.int .i64 0,.int .i64 0,.string ⟨#[]⟩,.string ⟨#[]⟩,.int .u64 0,.int .i64 0,.int .i64 0,.int .i64 0,.int .i64 0,.int .i64 0,.int .i64 0,.bool false,.int .i64 0,.int .i64 0,.slice none 0 0,.string ⟨#[]⟩] 68;obtain ⟨cs',h1,h2,h3,_⟩:=Box.setCells x.list 0 hb (by show 0+22≤22;decide)
 have e1:cs'=x.cells:=by
  apply Array.ext_getElem?
  intro j;by_cases hj:j<22
  ·
   have:=h3 j _ (List.getElem?_eq_getElem (show j<x.list.length from hj))
   rw [Nat.zero_add] at this;rw [this,← Array.getElem?_toList,List.getElem?_eq_getElem (show j<x.cells.toList.length from hj)];rfl
  · rw [Array.getElem?_eq_none (by rw [h2];show 22≤j;omega),Array.getElem?_eq_none (by show 22≤j;omega)]
 rw [e1] at h1;have a0:=ja w (.cells #[.int .i64 0,.int .i64 0,.int .i64 0,.int .i64 0,.int .i64 0,.int .i64 0,.int .i64 0,.int .i64 0,.string ⟨#[]⟩,.string ⟨#[]⟩,.int .u64 0,.int .i64 0,.int .i64 0,.int .i64 0,.int .i64 0,.int .i64 0,.int .i64 0,.bool false,.int .i64 0,.int .i64 0,.slice none 0 0,.string ⟨#[]⟩] 68);exact ⟨h1,a0.trans ((Mod.setCells (fun b=>b=w.heap.size) w.heap.size rfl x.list 0 _).below a0.size (fun i hi=>Nat.le_of_eq hi.symm))⟩
theorem SideB.trail {w:World}{A:Nat→Prop}{p:Nat}{d:DiskM}{s:Option StoM}{sv:Value}(h:SideB w A p d s sv):∃ ta tc,w.cell? ⟨p,1,none⟩=some (.slice ta d.trail.length tc)∧Rd w (.slice ta d.trail.length tc) d.trail.length (jF d.trail):=by
 obtain ⟨F,h1,_⟩:=h.ex;obtain ⟨tv,g1,g2,_⟩:=h1;have a0:=jq g2;obtain ⟨ta,tc,rfl,_,_⟩:=xJ g2;exact ⟨ta,tc,g1.cell 1 _ rfl,a0⟩
theorem SideA.writes {w:World}{A:Nat→Prop}{p:Nat}{d:DiskM}{s:Option StoM}{sv:Value}(h:SideA w A p d s sv):Calls prog 19 #[.pointer (some ⟨p,0,none⟩)] w fun e w'=>e=.returned (.int .i64 (d.trail.length:Int))∧w'=w:=by
 obtain ⟨F,h1,_⟩:=h.ex;exact (jeD d p F w h1).mono (fun _ _ h=>⟨h.1,h.2.symm⟩)
theorem SideA.trail {w:World}{A:Nat→Prop}{p:Nat}{d:DiskM}{s:Option StoM}{sv:Value}(h:SideA w A p d s sv)(hn:d.trail.length≤1000000000000):Calls prog 29 #[.pointer (some ⟨p,0,none⟩)] w fun e w'=>∃ a c,e=.returned (.slice a d.trail.length c)∧w'.ownsRow w.heap.size 111 2 (.slice a d.trail.length c) d.trail.length (jF d.trail)∧Below w.heap.size w w':=by
 obtain ⟨F,h1,_⟩:=h.ex;exact jgz d p F w h1 hn
theorem jhF (N:Nat)(h:N≤4096):PlainS 0 { strs:=List.replicate N ByteArray.empty,trail := [],left:=none } none yh :=
 ⟨DiskM.Wf.new N none,by simp;exact h,Nat.le_refl _,fun t ht=>(by cases ht),fun x hx=>(by cases hx),Nat.zero_le _⟩
theorem jbu (n:Int)(sv:Value)(acts:List ActS)(W:World)(c6:Rd W sv acts.length (acts.flatMap ActS.list))(d7:∀ a∈acts,a.Ok W)(hg:ErrType W)(hn:I64 n) :
  Calls prog 5 #[.int .i64 n,sv] W fun r W'=>r=.returned (.bool true)∧Below W.heap.size W W':=by
 obtain ⟨sa,sc,rfl⟩:∃ a c,sv=.slice a acts.length c:=by obtain ⟨a,c,h,_⟩:=c6;exact ⟨a,c,h⟩
 have Hb:=Hd c6;have Hc:=Hd d7;have T:=Hd hg;obtain ⟨f3,f4⟩:=hn;clear c6 d7 hg;by_cases hno:n<1∨4096<n
 ·
  have H:=Hd (jh1 n W hno);have O:=Hd (jkr n W hno);have D:=Hd (fun w hw=>uI 1 w (by omega) (by omega) (T.1.below (show Below W.heap.size W w from hw)))
  rw [show jo 1=zu 1 from rfl] at O D
  unfold zu at O D;clear hno;go_enter func5,ntmps5;go_wp2_with fail;refine O.1.mono ?_;rintro r w1 ⟨rfl,rfl⟩;go_wp2_with fail;refine H.1.mono ?_;rintro r w2 ⟨rfl,rfl⟩;go_wp2_with fail;refine (D.1 _ (Below.refl _ _)).mono ?_;rintro r w3 ⟨rfl,b4⟩;have U:=Hd b4;clear b4;go_wp2_with fail;refine (D.1 _ U.1).mono ?_;rintro r w4 ⟨rfl,b5⟩;have V:=Hd (U.1.trans (b5.mono U.1.size));clear b5;go_wp2_with fail;go_ret;exact ⟨rfl,V.1⟩
 obtain ⟨N,rfl⟩:=Int.eq_ofNat_of_zero_le (show 0≤n by omega)
 have H:=Hd (fun w=>jgT N w (by omega) (by omega))
 have O:=Hd (jjR N W (by omega) (by omega))
 have H6:=Hd (show N≤4096 by omega)
 clear hno;go_enter func5,ntmps5;go_wp2_with fail;refine O.1.mono ?_;rintro r w1 ⟨p,F,rfl,hd,b6,hF⟩;rw [show jo 0=.nilIface from rfl]
 have L:=Hd (And.intro hd (And.intro b6 hF));clear hd b6 hF O;go_wp2_with fail;refine (H.1 _).mono ?_;rintro r w2 ⟨rfl,G,hr,c7,hG⟩;obtain ⟨rp,d8⟩:=Nm (w1.heap.size);rw [← d8] at hr ⊢;have h0:DR W p rp 0 { strs:=List.replicate N ByteArray.empty,trail := [],left:=none } F G w2 :=
  ⟨L.1.1.mod (Mod.of_below (F:=fun _=>False) c7) (fun _ _ h=>h),hr,DiskM.Wf.new N none,by simp;exact H6.1,Nat.le_refl _,fun k hf hg=>by have:=L.1.1.lt k hf;have:=hG k hg;omega,fun k hk=>by
   rcases hk with hk | hk
   · exact L.1.2.2 k hk
   · have:=hG k hk;have:=L.1.2.1.size;omega,L.1.2.1.trans (c7.mono L.1.2.1.size)⟩
 have H0:=Hd h0;clear hr c7 hG h0 H L d8;go_wp2_with fail;refine (jbs _).mono ?_;rintro r w3 ⟨rfl,b4⟩;have D:=Hd (H0.1.to b4);clear b4 H0;by_cases h2:300<acts.length
 ·
  have f1:(300:Int)<(acts.length:Int):=by omega
  go_wp2_with fail;refine (jbs _).mono ?_;rintro r w4 ⟨rfl,b5⟩;have V:=Hd (D.1.to b5).below;clear b5;go_wp2_with fail;go_ret;exact ⟨rfl,V.1⟩
 have f1:¬ (300:Int)<(acts.length:Int):=by omega
 have c8:=Hd (show acts.length≤300 by omega)
 have b9:=ja w3 (.cells #[.pointer (some ⟨p,0,none⟩),.pointer none,.pointer (some ⟨rp,0,none⟩),.pointer none,.int .i64 0,.int .i64 0,.slice none 0 0] 66);have hP:PlayS W w3.heap.size p rp 0 F G { strs:=List.replicate N ByteArray.empty,trail := [],left:=none } none yh (.pointer none) (.pointer none) (.slice none 0 0) (w3.alloc (.cells #[.pointer (some ⟨p,0,none⟩),.pointer none,.pointer (some ⟨rp,0,none⟩),.pointer none,.int .i64 0,.int .i64 0,.slice none 0 0] 66)) :=
  ⟨SideA.below ⟨⟨F,D.1.disk,fun _ h=>h,.inl ⟨rfl,rfl⟩⟩,D.1.disk.lt⟩ b9,SideB.below ⟨⟨G,D.1.ref,fun _ h=>h,.inl ⟨rfl,rfl⟩⟩,D.1.ref.lt⟩ b9,Box.new _ _ _,Rd.nil _,D.1.fg,⟨fun h=>by have:=D.1.disk.lt _ h;omega,fun h=>by have:=D.1.ref.lt _ h;omega,D.1.below.size⟩,(fun k hk=>by cases hk),D.1.lo,jhF N H6.1,D.1.below.trans (b9.mono D.1.below.size)⟩
 obtain ⟨pw,c9⟩:=Nm (w3.heap.size);rw [← c9] at hP;have I:=Hd (jbE _ _ _ _ _ _ _ _ _ _ _ _ _ _ hP (by decide) T.1)
 clear hP b9 h2 D;go_wp2_with fail;rw [← c9];clear c9;refine I.1.mono ?_;rintro r w4 ⟨rfl,A,B,sv,rv,ov,hP⟩;have E:=Hd hP;clear hP I;go_wp2_with fail
 go_loopg [10] acts.length (fun gk iv wr=>∃ (k:Nat) (A B:Nat→Prop) (d:DiskM) (s:Option StoM) (st:StM) (sv rv ov:Value),gk+k=acts.length∧iv=.int .i64 (k:Int)∧PlayS W pw p rp (1+k*2) A B d s st sv rv ov wr)
 case atStart=>exact ⟨0,_,_,_,_,_,_,_,_,Nat.add_zero _,rfl,E.1⟩
 case round =>
  clear E;obtain ⟨k,A,B,d,s,st,sv,rv,ov,d0,rfl,hI⟩:=hrel;have k0:(0:Int)≤(k:Int):=by omega
  have H7:=Hd d0;have P:=Hd hI;by_cases hk:k<acts.length;rotate_left
  ·
   have k1:¬ (k:Int)<(acts.length:Int):=by omega
   have d9:d.trail.length≤1000000000000:=by have:=hI.pl.trail;have:=c8.1;omega
   have X:=Hd (hI.to (jd wr));obtain ⟨ta,tc,g1,g2⟩:=X.1.b.trail;have f0:wr.drew.cell? ⟨rp,1,none⟩=some (.slice ta d.trail.length tc):=g1;have He:=Hd g2;have Hf:=Hd (X.1.a.trail d9);clear hI d0 hk g1 g2 d9 P;go_wp2_with fail
   go_region_held3 (fun w'=>w'.cell? ⟨rp,1,none⟩=some (.slice ta d.trail.length tc))
    (first | with_reducible exact f0 | exact g1 | exact g2)
    (first | (go_at_call 29;refine Hf.1.mono ?_;rintro e w6 ⟨oa,oc,rfl,e0,c2⟩;have g1:=jf c2 f0;have Hg:=Hd (jdi _ _ d.trail w6 (jq e0) (He.1.below c2));have Hh:=Hd (X.1.to c2);clear c2 e0) | (go_at_call 28;refine Hg.1.mono ?_;rintro e w7 ⟨rfl,j7,rfl⟩;have g2:(w6.drewN j7).cell? ⟨rp,1,none⟩=some (.slice ta d.trail.length tc):=g1;have HN:=Hd (Hh.1.to (show Below w6.heap.size w6 (w6.drewN j7) from ⟨rfl,rfl,rfl,Nat.le_refl _,fun _ _=>rfl⟩)).bel))
   go_wp2_with fail;go_ret;exact ⟨rfl,HN.1⟩
  have k1:(k:Int)<(acts.length:Int):=by omega
  obtain ⟨rb,ro,f2,b8⟩:=jjz (Hb.1.below hI.bel) k hk;subst f2;have ho:=Hc.1 acts[k] (List.getElem_mem hk);obtain ⟨x,hx⟩:=Nm (acts[k]);rw [← hx] at b8 ho;have Y:=Hd b8;have Q:=Hd ho;have HK:=Hd hk;have hc:1+k*2≤700:=by have:=c8.1;omega
  have HC:=Hd hc;have b2:=jjk x.kind 5 (by omega)
  have d1:=fun w=>jgF x.kind 5 w ho.kind.1 ho.kind.2 (by omega) (by omega)
  obtain ⟨pk,e2⟩:=Nm (jbU x.kind 5);rw [← e2] at d1 b2;have H8:=Hd d1;have c3:pk=2∨pk=3∨pk=4∨(pk=0∨pk=1):=by omega
  have e4:x.sv.oneCell'=true:=by
   obtain ⟨a,c,h,_⟩:=ho.rd.slice;rw [h];rfl
  have Hi:=Hd e4;clear d0 hI hk b8 ho hx hc b2 d1 e2 e4
  go_wp2_with ((with_reducible refine je ?b01 68 (.tmp 54) ?b11 rb (ro+k*22) ?b21 x.list _ Y.1 underlying68 ?b31 ?b41 ?b81);(case b11=>rfl);(case b01=>rfl);(case b21=>rfl);(case b31=>rfl);(case b41=>kernel_rfl))
  intro cv b7;have ecv:cv=x.cells:=by rw [b7.out];rfl
  subst ecv;clear b7
  go_wp2_with ((with_reducible refine jc ?a0 68 (.tmp 11) (.tmp 55) ?a1 wr.heap.size 0 x.list ?a2 x.cells ?a3 (ActS.listA _) ?a5 ?a6 ?a7 ?a8);(case a1=>rfl);(case a0=>rfl);(case a2=>rfl);(case a3=>rfl);(case a5=>exact jjS _ _);(case a6=>kernel_rfl);(case a7=>exact ActS.oneA _ Hi.1))
  intro w1 e6;obtain ⟨hX,b6⟩:=jk1 e6;have H:=Hd (P.1.to b6);have J:=Hd hX;have K:=Hd (show ∀ k,A k∨B k∨k=pw→k≠wr.heap.size from fun k hk e=>by
   rcases hk with hk | hk | hk
   · have:=P.1.a.lt k hk;omega
   · have:=P.1.b.lt k hk;omega
   · have:=P.1.bx.lt;omega)
  obtain ⟨ab,e7⟩:=Nm (wr.heap.size);rw [← e7] at J K ⊢;clear e7;have c0:=J.1.cell 0 _ rfl;clear e6 hX b6 P Y;go_wp2_with fail;refine (H8.1 _).mono ?_;rintro r w2 ⟨rfl,rfl⟩;clear H8 c0
  go_upto_block 2 with (fail)
  go_cut [12] (fun s12 wx=>s12=.bool true∧∃ (A2 B2:Nat→Prop) (d2:DiskM) (s2:Option StoM) (st2:StM) (sv2 rv2 ov2:Value),PlayS W pw p rp (1+k*2+2) A2 B2 d2 s2 st2 sv2 rv2 ov2 wx)
  case first =>
   have c1:=J.1.cell 1 _ rfl;have c21:=J.1.cell 21 _ rfl;have e8:d.trail.length≤100000000000:=by have:=H.1.pl.trail;have:=HC.1;omega
   have HT:=Hd e8;clear e8
   rcases c3 with rfl | rfl | rfl | c3
   ·
    have Z:=Hd (H.1.a.cut x.n Q.1.n.2);clear c21;go_wp2_with fail;refine Z.1.mono ?_;rintro r w3 ⟨rfl,A3,ha,a4,b0⟩;have b3:=J.1.mod a4 (fun g=>K.1 ab (.inl g) rfl)
    have e1:=b3.cell 1 _ rfl;have HB:=Hd ((H.1.b.mod a4 (fun k hk g=>H.1.ab k g hk)).cut x.n Q.1.n.2)
    have C:=Hd (And.intro ha (And.intro a4 b0));clear ha a4 b0 b3 c1 Z;go_wp2_with fail;refine HB.1.mono ?_;rintro r w4 ⟨rfl,B4,hb,a9,b1⟩;have S:=Hd (H.1.both C.1.1 C.1.2.1 C.1.2.2 (Below.refl _ _) hb a9 b1 ((H.1.pl.left _).more (Nat.le_add_right _ 2)));clear hb a9 b1 HB C e1;go_wp2_with fail;go_meet;exact ⟨rfl,_,_,_,_,_,_,_,_,S.1⟩
   ·
    have Z:=Hd H.1.a.restore;clear c1 c21;go_wp2_with fail;refine Z.1.mono ?_;rintro r w3 ⟨rfl,A3,ha,a4,b0⟩;have d3:=(H.1.b.mod a4 (fun k hk g=>H.1.ab k g hk)).cut (-1) (by decide)
    rw [if_pos (show (-1:Int)<0 by decide)] at d3
    have HB:=Hd d3;have C:=Hd (And.intro ha (And.intro a4 b0));clear ha a4 b0 d3 Z;go_wp2_with fail;refine HB.1.mono ?_;rintro r w4 ⟨rfl,B4,hb,a9,b1⟩;have S:=Hd (H.1.both C.1.1 C.1.2.1 C.1.2.2 (Below.refl _ _) hb a9 b1 (H.1.pl.left none));have I:=Hd (jbE _ _ _ _ _ _ _ _ _ _ _ _ _ _ S.1 (by have:=HC.1;omega) T.1)
    clear hb a9 b1 HB C;go_wp2_with fail;refine I.1.mono ?_;rintro r w5 ⟨rfl,A5,B5,sv5,rv5,ov5,hP⟩;have E:=Hd (hP.more (Nat.le_succ _));clear hP I S;go_wp2_with fail;go_meet;exact ⟨rfl,_,_,_,_,_,_,_,_,E.1⟩
   ·
    have M:=Hd (H.1.to (jd w1));have Hj:=Hd (J.1.below (jd w1));have H4:=Hd (M.1.a.write x.n x.tx HT.1 Q.1.tx);have H5:=Hd (fun w (hw:SideB w B rp d s rv)=>hw.write x.n x.tx HT.1 Q.1.tx)
    have c4:0≤(d.write x.n x.tx).2∧(d.write x.n x.tx).2≤24:=by have:=vm d x.n x.tx;omega
    have b2:=(H.1.pl.write x.n x.tx).more (Nat.le_succ _);obtain ⟨R,hR⟩:=Nm (d.write x.n x.tx);rw [← hR] at H4 H5 c4 b2;clear hR;obtain ⟨d2,er⟩:=R;simp only at H4 H5 c4 b2;have H9:=Hd c4;have Hk:=Hd b2;have f0:w1.drew.cell? ⟨ab,1,none⟩=some (.int .i64 x.n)∧w1.drew.cell? ⟨ab,21,none⟩=some (.string x.tx):=⟨c1,c21⟩;clear c1 c21 c4 b2;go_wp2_with fail
    go_region_held3 (fun w'=>w'.cell? ⟨ab,1,none⟩=some (.int .i64 x.n)∧w'.cell? ⟨ab,21,none⟩=some (.string x.tx))
     (first | with_reducible exact f0 | exact e1 | exact e3 | exact e5)
     (first | (go_at_call 25;refine H4.1.mono ?_;rintro e w3 ⟨rfl,A3,ha,a4,b0⟩;have b3:=Box.mod Hj.1 a4 (fun hf=>(K.1 ab (.inl hf)) rfl);have e1:w3.cell? ⟨ab,1,none⟩=some (.int .i64 x.n)∧w3.cell? ⟨ab,21,none⟩=some (.string x.tx):=⟨b3.cell 1 _ rfl,b3.cell 21 _ rfl⟩;have Hl:=Hd (H5.1 w3 (M.1.b.mod a4 (fun k hk hf=>M.1.ab k hf hk)));have C:=Hd (And.intro ha (And.intro a4 b0));have Hm:=Hd b3;clear ha a4 b0 b3) | (go_at_call 26;refine Hl.1.mono ?_;rintro e w4 ⟨rfl,B4,hb,a9,b1⟩;have c5:=Box.mod Hm.1 a9 (fun hf=>(K.1 ab (.inr (.inl hf))) rfl);have e3:w4.cell? ⟨ab,1,none⟩=some (.int .i64 x.n)∧w4.cell? ⟨ab,21,none⟩=some (.string x.tx):=⟨c5.cell 1 _ rfl,c5.cell 21 _ rfl⟩;have HN:=Hd (M.1.both C.1.1 C.1.2.1 C.1.2.2 (Below.refl _ _) hb a9 b1 Hk.1);have Hn:=Hd (uI er w4 H9.1.1 H9.1.2 (T.1.below HN.1.bel));have Hp:=Hd c5;clear hb a9 b1 c5) | (go_at_call 14;refine Hn.1.mono ?_;rintro e w5 ⟨rfl,d4⟩;have d6:=Box.below Hp.1 d4;have e5:w5.cell? ⟨ab,1,none⟩=some (.int .i64 x.n)∧w5.cell? ⟨ab,21,none⟩=some (.string x.tx):=⟨d6.cell 1 _ rfl,d6.cell 21 _ rfl⟩;have Hq:=Hd (HN.1.to d4);clear d4 d6))
    go_wp2_with fail;go_meet;exact ⟨rfl,_,_,_,_,_,_,_,_,Hq.1⟩
   ·
    have f5:¬ pk=2:=by omega
    have f6:¬ pk=3:=by omega
    have f7:¬ pk=4:=by omega
    have Ha:=Hd (jdC _ _ _ _ _ _ _ _ _ _ _ _ _ _ x H.1 Q.1 (by have:=HC.1;omega) T.1)
    have Hr:=Hd (show w1.rangeAt ab 0 x.list from yP J.1)
    clear c1 c21 c3
    go_wp2_with ((with_reducible refine je ?f01 68 (.tmp 11) ?f11 ab 0 ?f21 x.list _ Hr.1 underlying68 ?f31 ?f41 ?f81);(case f11=>rfl);(case f01=>rfl);(case f21=>rfl);(case f31=>rfl);(case f41=>kernel_rfl))
    intro cv b7;have ecv:cv=x.cells:=by rw [b7.out];rfl
    subst ecv;clear b7;go_wp2_with fail;refine Ha.1.mono ?_;rintro r w5 ⟨rfl,A5,B5,d5,s5,st5,ov5,hP⟩;have E:=Hd hP;clear hP Ha;go_wp2_with fail;go_meet;exact ⟨rfl,_,_,_,_,_,_,_,_,E.1⟩
  case rest =>
   obtain ⟨rfl,A2,B2,d2,s2,st2,sv2,rv2,ov2,hP⟩:=hcut;have HW:=Hd (fun j=>(hP.a.below (jC wc j)).writes)
   obtain ⟨ta,tc,g1,_⟩:=hP.b.trail;obtain ⟨tn,e9⟩:=Nm (d2.trail.length);rw [← e9] at HW g1;have E:=Hd hP;clear hP e9 HC Q J K H c3;go_wp2_with fail
   go_quiet ((go_at_call 19;exact Calls.quiet_of_same (HW.1 _)))
   have S:=Hd (E.1.to (jC wc nq));clear E HW;go_wp2_with fail
   go_roundg (acts.length-(k+1))
   case measure=>have:=H7.1;have:=HK.1;omega
   case rel=>exact ⟨k+1,_,_,_,_,_,_,_,_,by have:=H7.1;have:=HK.1;omega,by go_num,by rw [show 1+(k+1)*2=1+k*2+2 by omega];exact S.1⟩
open Go.ChangeShapes Go.WideShapes Go.ChangeAt Go.RowKit
def jes : List (String × DataW Unit) := [("errors.errorType", Rows.laid_errors_errorType)]
theorem L.et : prog.globalNamed "errors.errorType" = some 0 := by kernel_rfl
theorem L.rt : (prog.cutTypes.find? (·.1 == "internal/reflectlite.rtype")).map (·.2) = some 193 := by kernel_rfl
theorem L.oneRow:((List.range 350).filter fun t=>prog.rowNamed t [101,114,114,111,114]) = [49]:=by kernel_rfl
theorem L.size:prog.types.size=350:=by kernel_rfl
theorem jcf {W:World}(h:laidMetH prog jes W):ErrType W:=by
 have h':laidMet prog [] W∧handlesMet prog jes W:=h;obtain ⟨name,u,ty,e1,e2,e3,e4,e5⟩:=h'.2 _ (List.mem_singleton.2 rfl);have en:name = [101,114,114,111,114]:=(Option.some.inj e1).symm;subst en;obtain rfl:=Option.some.inj (L.rt.symm.trans e2);have hm:ty∈(List.range 350).filter fun t=>prog.rowNamed t [101,114,114,111,114]:=List.mem_filter.2 ⟨List.mem_range.2 (by rw [← L.size];exact e3),e4⟩
 rw [L.oneRow] at hm;obtain rfl:=List.mem_singleton.1 hm;have hh:typeHandle prog 49=.pointer (some ⟨2,49,none⟩):=by kernel_rfl
 rw [hh] at e5;have:=World.var?_cell L.et e5 0;unfold ErrType
 simpa using this
noncomputable def jex (os:Os):World :=
 let w0:=World.holding prog os ⟨#[],#[],[]⟩
 { w0 with heap:=w0.heap.modify 0 fun
   | .cells _ t frozen=>.cells #[.iface 193 (.agg #[.pointer (some ⟨2,49,none⟩)])] t frozen
   | o=>o }
theorem jdu (os:Os)(args:Array Value):laidMetH prog jes ((jex os).forCall (fun _ _=>0) ⟨#[],args,[]⟩).memory :=
 laidMetH_of_parts (laidMet_nil _ _) (by kernel_rfl)
theorem jca {up:Bool}{vt:List TypeId}(a8:vt = []){f:FuncId}{fn:Func}{s:ChangeSpec}{ts:List TypeId}(hp:fn.params.toList=ts)(a4:fn.resultTypes=#[4])(a0:s.vars = [])(hr:∀ t∈ts,prog.readableRec t=true∧t<prog.types.size)(hs:∀ (H:Type) (ds:List (DataW H)),ds.length=ts.length→(s.fn H ds).results = [.lit (.bool true)]∧(s.fn H ds).args=ds∧(s.fn H ds).vars = [])(H:Type)(enc:TypeId × Value→H)(W:World)(base:Nat)(args:Array Value)(ds gs:List (DataW H))(before:List MemPlace)(a5:∀ (j:Nat) t v,fn.params[j]?=some t→args[j]?=some v→Value.okWide prog W .any base t v)(hW:DataW.Whole enc prog fn.params.toList s.vars false W args.toList ds gs before)(a2:match up with | true=>Rows.uptoSmall H (ds++gs)=true | false=>(DataW.weightsEach prog (fn.params.toList++vt) (ds++gs)).all (·≤reachBytes)=true)(walkAt:jdc up W ts args.toList→Calls prog f args W fun e W'=>e=.returned (.bool true)∧Below W.heap.size W W') :
  Calls prog f args W fun e W'=>∃ v,e=.returned v∧s.post enc prog fn false true false false W args v W':=by
 have a3:=hW;obtain ⟨p,q,hA,hV,rfl,_,_⟩:=hW;rw [a0] at hV;have hg:gs = []∧q = []:=by
  cases gs with
  | nil=>exact ⟨rfl,hV⟩
  | cons g gs=>exact hV.elim
 obtain ⟨rfl,rfl⟩:=hg;have a9:∀ x∈p,x.block<W.heap.size:=fun x hx=>by simpa using a3.lt x (by simpa using hx)
 have a6:ds.length=ts.length:=by
  have:∀ {ts:List TypeId} {vs:List Value} {ds:List (DataW H)} {ps:List MemPlace},DataW.TrodAll enc prog W 0 (fun _=>true) true ts vs ds ps→ds.length=ts.length:=by
   intro ts
   induction ts with
   | nil=>intro vs ds ps h;cases vs with
    | nil=>cases ds with
     | nil=>rfl
     | cons _ _=>exact h.elim
    | cons _ _=>exact h.elim
   | cons t ts ih=>intro vs ds ps h;cases vs with
    | nil=>exact h.elim
    | cons v vs=>cases ds with
     | nil=>exact h.elim
     | cons d ds=>obtain ⟨_,_,_,h2,_⟩:=h;simp [ih h2]
  rw [hp] at hA;exact this hA
 have a7:jdc up W ts args.toList:=by
  rw [← hp];refine jeg (base:=base) hA (fun j t v ht hv=>a5 j t v (by simpa using ht) (by simpa using hv)) ?_
  cases up with
  | true =>
   have h:Rows.uptoBulkAll (ds ++ [])≤1048576:=of_decide_eq_true a2
   simpa using h
  | false=>subst a8;simpa using a2
 have a1:=walkAt a7;refine a1.mono fun e W' ⟨he,hb⟩=>?_
 obtain ⟨s1,s2,s3⟩:=hs H (ds ++ []) (by simpa using a6)
 refine ⟨_,he,_,_,_,[],p,[],a3,?_,?_,?_,hb.frame _,fun h=>by cases h⟩
 · rw [s1,a4];exact ⟨[],[],shut_bool (by kernel_rfl) true,rfl,rfl⟩
 · rw [s2,List.append_nil];exact uX hb (by rw [hp];exact hr) hA a9
 · rw [s3,a0];rfl
theorem ArgC.actS {N:Nat}{W:World}{cs:List Value}(hl:cs.length=22)(h:ArgC false N 68 W cs):∃ x:ActS,cs=x.list∧x.Ok W:=by
 match cs,hl with
 | [c0,c1,c2,c3,c4,c5,c6,c7,c8,c9,c10,c11,c12,c13,c14,c15,c16,c17,c18,c19,c20,c21],_ =>
  have ci:prog.cellsOf 3=1:=by kernel_rfl
  have cs':prog.cellsOf 9=1:=by kernel_rfl
  have cb:prog.cellsOf 4=1:=by kernel_rfl
  have cv:prog.cellsOf 47=15:=by kernel_rfl
  have cx:prog.cellsOf 30=3:=by kernel_rfl
  have hs:=underlying68;obtain ⟨k,rfl,b0⟩:=h.fint hs 0 _ rfl ci c0 rfl .i64 underlying3;obtain ⟨n,rfl,b1⟩:=h.fint hs 1 _ rfl ci c1 rfl .i64 underlying3;obtain ⟨M,_,g⟩:=h.fstruct hs 2 _ rfl 47 2 15 rfl rfl cv;have g':ArgC false M 47 W [c2,c3,c4,c5,c6,c7,c8,c9,c10,c11,c12,c13,c14,c15,c16]:=g;obtain ⟨e,he,a0⟩:=g'.event rfl;obtain ⟨ob,rfl⟩:=h.fbool hs 3 _ rfl cb c17 rfl underlying4;obtain ⟨M2,_,q⟩:=h.fstruct hs 4 _ rfl 30 18 3 rfl rfl cx;have q':ArgC false M2 30 W [c18,c19,c20]:=q;have hx:=underlying30;obtain ⟨a,rfl,b2⟩:=q'.fint hx 0 _ rfl ci c18 rfl .i64 underlying3;obtain ⟨b,rfl,b3⟩:=q'.fint hx 1 _ rfl ci c19 rfl .i64 underlying3;obtain ⟨M3,_,hd⟩:=q'.fcell hx 2 _ rfl (by kernel_rfl) c20 rfl
  obtain ⟨l,h1,h2,h3⟩:=ArgC.sessions hd;obtain ⟨s,rfl,b4,_,_⟩:=h.fstring hs 5 _ rfl cs' c21 rfl underlying9;refine ⟨⟨k,n,e,ob,⟨a,b,l⟩,c20,s⟩,?_,jQ b0,jQ b1,a0,h1,fun s hs=>(h2 s hs).ok,by show l.length+16≤_;omega,b4⟩
  show Value.int .i64 k::.int .i64 n::([c2,c3,c4,c5,c6,c7,c8,c9,c10,c11,c12,c13,c14,c15,c16] ++ [.bool ob,.int .i64 a,.int .i64 b,c20,.string s])=_;rw [he];rfl
theorem Arg.actsS {W:World}{v:Value}(h:Arg false 57 W v):∃ l:List ActS,Rd W v l.length (l.flatMap ActS.list)∧(∀ r∈l,r.Ok W):=by
 obtain ⟨l,h1,h2,Ns,_,_,h5⟩:=(h.slice underlying57).flat ActS.z ActS.list ActS.length (by decide) (fun _ x=>x.Ok W) underlying57 (by kernel_rfl) (fun N cs hl hc=>hc.actS hl)
 refine ⟨l,h1,fun r hr=>?_⟩
 obtain ⟨i,hi,rfl⟩:=List.getElem_of_mem hr;have:=h5 i hi
 simpa [List.getD,hi] using this
theorem jdB (W:World)(vs:Array Value)(hg:ErrType W)(h:jdc false W [3,57] vs.toList):Calls prog 5 vs W fun e W'=>e=.returned (.bool true)∧Below W.heap.size W W':=by
 obtain ⟨vs⟩:=vs
 match vs,h with
 | [v,x],⟨h1,h2,_⟩ =>
  obtain ⟨n,rfl,hw⟩:=h1.int (k:=.i64) underlying3;obtain ⟨l,hl,a0⟩:=h2.actsS;exact jbu n x l W hl a0 hg (jQ hw)
theorem jaz (os:Os)(started:os.Started)(H:Type)(enc:TypeId × Value→H) :
  ReturnsInHanded {} Tryz.checked os 5 .any (fun w args=>(Rows.storePlaysSpec.pre enc prog Tryz.f5 [] false w args∧laidMetH prog jes w)∧sizedMet enc prog Tryz.f5 (OpenSpec.ofChange Rows.storePlaysSpec) false w args)
   (Rows.storePlaysSpec.post enc prog Tryz.f5 false true false false):=by
 refine returnsInHanded_of_change_and (C:=Tryz.checked) (X:=fun w _=>laidMetH prog jes w) (fun _ _ _ hh h=>h.of_heap hh) L.own started (by kernel_rfl) func5
  (ChangeSpec.witness_at (enc:=enc) (C:=Tryz.checked) (os:=os) (X:=fun w _=>laidMetH prog jes w) false (jex os) #[.int .i64 0,.slice none 0 0] 8 rfl (by kernel_rfl) (by kernel_rfl) (by kernel_rfl) (by kernel_rfl) (by kernel_rfl) (jdu os _)) ?_
 intro W base args ds gs before a0 hW _ a1 hL _;exact jca (up:=false) (vt:=Rows.storePlaysSpec.plain.varTypes prog) rfl (ts := [3,57]) rfl rfl rfl (by decide +kernel) (fun H ds h=>by
   rcases ds with _ | ⟨d0,_ | ⟨d1,_ | ⟨d2,_ | ⟨d3,_ | ⟨d4,_ | ⟨d5,ds⟩⟩⟩⟩⟩⟩ <;> first | exact ⟨rfl,rfl,rfl⟩ | (exfalso;simp at h;done) | (exfalso;simp at h;omega)) H enc W base args ds gs before a0 hW a1 (fun h=>jdB W args (jcf hL) h)
theorem jc1:Rows.StorePlaysSaid :=
 OpenClaim.holds_of_wide 5 Tryz.f5 rfl rfl rfl rfl rfl rfl rfl ⟨rfl,rfl,rfl,rfl,rfl⟩ rfl rfl rfl rfl rfl (by kernel_rfl) func5 (by kernel_rfl)
  (of_decide_eq_true (by kernel_rfl)) (by unfold Func.isWrapper;first | (rw [if_pos (by decide +kernel)];kernel_rfl) | (rw [if_neg (by decide +kernel)];exact ⟨rfl,rfl⟩))
  (fun os started H enc _=>jaz os started H enc)
theorem storePlays_card:Rows.StorePlaysCardSaid :=
 Claim7.holds_tied_plain_at .later [] [.handle] true (true, "092bf81c706308b9d9ed6c913da4f0e89253c5483a1ccd7890a9d92c8cc91fba") true
  jc1 (fun _ h=>by cases h) (by kernel_rfl) (fun _ h=>by cases h) storePlays_row_tie rfl ⟨rfl,rfl⟩ (by kernel_rfl) rfl
  (fun f fn hf a0=>by
   obtain rfl : f = 5 := Option.some.inj ((show prog.funcNamed "lineage/lineagelaw26.StorePlays" = some 5 by kernel_rfl).symm.trans hf) |>.symm
   obtain rfl:fn=Tryz.f5:=(Option.some.inj (func5.symm.trans a0)).symm;exact ⟨by kernel_rfl,fun j t ht=>by
    have hp:Tryz.f5.params=#[3,57]:=rfl;rw [hp] at ht;have h3:t=3∨t=57:=by
     rcases j with _ | _ | j
     · left;simpa using ht.symm
     · right;simpa using ht.symm
     · simp at ht
    rcases h3 with rfl | rfl
    · exact (show prog.wantsStandIn 3=false by kernel_rfl)
    · exact (show prog.wantsStandIn 57=false by kernel_rfl)⟩)
  (by kernel_rfl)
#print axioms storePlays_card
end Go.Proofs.YtgcnolapjppbpaaGreatDoor
