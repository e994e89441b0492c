/-
  Texts of one proof, one behind the other.
-/
import Derived.Test.YtgcnolapjppbpaaGreatDoorP34
import Derived.Test.YtgcnolapjppbpaaGreatDoorP39
import Derived.Test.YtgcnolapjppbpaaGreatDoorP18
import Derived.Test.YtgcnolapjppbpaaGreatDoorP00
namespace Go.Proofs.YtgcnolapjppbpaaGreatDoor
open Go.RowKit _root_.Go.Proofs.Tryz
set_option maxRecDepth 100000
set_option maxHeartbeats 25600000
structure RBackI (l:LogM)(d:DiskM)(pl pd:Nat)(bs:List (List UInt8))(F:Nat→Prop)(bv:Value)(w:World)(s0 m:Nat)(W:World):Prop where
 err:(d.back (l.base+l.used+m) (bs.drop m)).2=0
 disk:∃ F',IsRef W (d.back (l.base+l.used+m) (bs.drop m)).1 pd F'∧(∀ k,F' k→F k∨w.heap.size≤k)∧∀ k,F' k→bv.ownBlock≠some k
 log:yX W l pl pd
 row:Rd W bv bs.length (bs.map SV)
 mod:Mod F w W
 size:s0≤W.heap.size
theorem vX (l:LogM)(d:DiskM)(p:List UInt8)(pl pd:Nat)(F:Nat→Prop)(v:Value)(w:World)(hl:yX w l pl pd)(hd:IsRef w d pd F)(b5:¬ F pl)(hv:Rd w v p.length (p.map V8))(ht:d.trail.length≤10000000000)(e5:l.base+l.n≤d.strs.length)(hu:l.used≤l.n)(hr:l.records≤1000000000)(e9:d.strs.length≤4096) :
  Calls prog 88 #[.pointer (some ⟨pl,0,none⟩),v] w fun r w'=>r=.returned (.int .i64 (l.append d p).2.2)∧yX w' (l.append d p).1 pl pd∧Mod (fun b=>b=pl∨F b) w w' ∧
   ∃ F',IsRef w' (l.append d p).2.1 pd F'∧∀ k,F' k→F k∨w.heap.size≤k:=by
 obtain ⟨va,vc,rfl⟩:∃ a c,v=.slice a p.length c:=by obtain ⟨a,c,h,_⟩:=hv;exact ⟨a,c,h⟩
 have c3:=Box.cell hl 3 _ rfl;have c6:=Box.cell hl 6 _ rfl;have S:=Hd hl;have T:=Hd hd;have HV:=Hd hv;clear hl hd hv;by_cases a2:l.dead=true
 ·
  have ea:l.append d p=(l,d,22):=by unfold LogM.append;rw [if_pos a2]
  have Ea:=Hd ea;rw [a2] at c6;clear ea;go_enter func88,ntmps88;go_wp2_with fail;go_ret;rw [Ea.1];exact ⟨rfl,S.1,Mod.refl _ _,F,T.1,fun k hk=>.inl hk⟩
 have a2:l.dead=false:=by simpa using a2
 rw [a2] at c6;have I:=Hd (jdd _ l.epoch p w HV.1);by_cases h512:512<p.length
 ·
  have ea:l.append d p=(l,d,3):=by unfold LogM.append;rw [if_neg (by rw [a2];simp),if_pos h512]
  have Ea:=Hd ea;clear ea;go_enter func88,ntmps88;go_wp2_with fail;refine I.1.mono ?_;rintro r w1 hr;obtain ⟨_,rfl,rfl⟩:=hr.resolve_right (fun h=>by omega)
  go_wp2_with fail;go_ret;rw [Ea.1];exact ⟨rfl,S.1,Mod.refl _ _,F,T.1,fun k hk=>.inl hk⟩
 go_enter func88,ntmps88;go_wp2_with fail;refine I.1.mono ?_;rintro r w1 d8;obtain ⟨_,bv,rfl,ho,b2⟩:=d8.resolve_left (fun h=>by omega)
 obtain ⟨bs,a6⟩:=Nm (jz l.epoch p);have f0:bs.length≤4:=by rw [a6];exact jap _ _
 have f1:0<bs.length:=by rw [a6];exact vQ _ _
 have b3:∀ b∈bs,b.length≤256:=fun b hb=>ja4 (e:=l.epoch) (p:=p) (by rw [← a6];exact hb)
 rw [← a6] at ho;have J:=Hd a6;obtain ⟨ba,bc,rfl,_⟩:=jK ho;have A:=Hd (show yX w1 l pl pd from S.1.below b2)
 have K:=Hd (T.1.mod (Mod.of_below (F:=fun _=>False) b2) (fun _ _ h=>h))
 have V:=Hd (jq ho);have W:=Hd (fun k hk=>ho.lt k hk)
 have L:=Hd b2;have c2:=Box.cell A.1 2 _ rfl;have c4:=Box.cell A.1 4 _ rfl;obtain ⟨rm,d0⟩:=Nm (l.n-l.used);have z1:IntKind.i64.wrap ((l.n:Int)-(l.used:Int))=(rm:Int):=by rw [jd5 _ (by omega) (by omega)];omega
 have e6:rm≤4096:=by omega
 have M:=Hd d0;clear d0 ho b2 a6 I c3 c6;by_cases hfull:rm<bs.length
 ·
  have ea:l.append d p=(l,d,19):=by unfold LogM.append;rw [if_neg (by rw [a2];simp),if_neg h512,if_pos (by rw [← J.1,← M.1];exact hfull)]
  have Ea:=Hd ea;clear ea;have b6:decide ((rm:Int)<(bs.length:Int))=true:=by simp;omega
  go_wp2_with fail
  go_quiet (fail)
  go_wp2_with fail;go_ret;rw [Ea.1];have a1:=jC w1 nq;exact ⟨rfl,A.1.below a1,Mod.of_below (jh L.1 a1),F,K.1.mod (Mod.of_below (F:=fun _=>False) a1) (fun _ _ h=>h),fun k hk=>.inl hk⟩
 have b6:decide ((rm:Int)<(bs.length:Int))=false:=by simp;omega
 have d9:decide (rm<bs.length)=false:=by simp;omega
 have e4:l.n-l.used ≥ bs.length:=by rw [← M.1];omega
 go_wp2_with fail
 go_quiet (fail)
 have a1:=jC w1 nq;obtain ⟨w2,a4⟩:=Nm (w1.drewN nq);rw [← a4];have X:=Hd (show yX w2 l pl pd from by rw [a4];exact A.1.below a1)
 have Y:=Hd (show IsRef w2 d pd F from by rw [a4];exact K.1.mod (Mod.of_below (F:=fun _=>False) a1) (fun _ _ h=>h))
 have Z:=Hd (show Rd w2 (.slice ba bs.length bc) bs.length (bs.map SV) from by rw [a4];exact V.1.below a1)
 have E:=Hd (show Below w.heap.size w w2 from by rw [a4];exact jh L.1 a1)
 have N:=Hd (show w1.heap.size≤w2.heap.size from by rw [a4];exact a1.size)
 clear a1 A K V L c2 c4 z1 a4;have d1:l.append d p=if (d.back (l.base+l.used) bs).2≠0 then ({ l with dead:=true },(d.back (l.base+l.used) bs).1,22) else ({ l with used:=l.used+bs.length,records:=l.records+1 },(d.back (l.base+l.used) bs).1,0):=by
  unfold LogM.append;rw [if_neg (by rw [a2];simp),if_neg h512,if_neg (by rw [← J.1,← M.1];exact hfull),← J.1]
 have G:=Hd d1;clear d1;have b7:∀ k,(Value.slice ba bs.length bc).ownBlock=some k→w.heap.size≤k∧k<w2.heap.size:=fun k hk=>by
  have h1:=W.1 k hk;have h2:=E.1.size;exact ⟨h1.1,Nat.lt_of_lt_of_le h1.2 N.1⟩
 have d3:RBackI l d pl pd bs F (.slice ba bs.length bc) w w2.heap.size bs.length w2:=by
  refine ⟨by rw [List.drop_length];rfl,⟨F,by rw [List.drop_length];exact Y.1,fun k hk=>.inl hk,fun k hk e=>?_⟩,X.1,Z.1,Mod.of_below E.1,Nat.le_refl _⟩
  have:=(b7 k e).1;have:=T.1.lt k hk;omega
 have H0:=Hd d3;have Hb:=Hd b7;have e7:pl<w.heap.size:=S.1.lt;have Hc:=Hd E.1.size;clear d3 b7 X Y Z E W N;go_wp2_with fail
 go_loopg [7] bs.length (fun gk iv wr=>∃ gm:Nat,gk=gm∧iv=.int .i64 ((gm:Int)-1)∧gm≤bs.length∧RBackI l d pl pd bs F (.slice ba bs.length bc) w w2.heap.size gm wr)
 case atStart=>exact ⟨_,rfl,rfl,Nat.le_refl _,H0.1⟩
 case round =>
  clear H0;obtain ⟨gm,e0,rfl,f2,hI⟩:=hrel;by_cases hm:gm=0
  ·
   subst hm;have e8:¬ (0:Int)≤((0:Nat):Int)-1:=by omega
   obtain ⟨h1,⟨F',h2,h3,h4⟩,h5,h6,h7,h8⟩:=hI;rw [Nat.add_zero,List.drop_zero] at h1 h2;have a5:l.append d p=({ l with used:=l.used+bs.length,records:=l.records+1 },(d.back (l.base+l.used) bs).1,0):=by rw [G.1,if_neg (by rw [h1];simp)]
   have D:=Hd a5;have c4:=Box.cell h5 4 _ rfl;have f4:=Box.free h5 4;have s1:=Box.set h5 4 (.int .i64 ((l.used:Int)+(bs.length:Int)));have c5:=Box.cell s1 5 _ rfl;have f5:=Box.free s1 5;have s2:=Box.set s1 5 (.int .i64 ((l.records:Int)+1));have O:=Hd h2;have B:=Hd h3;have P:=Hd h7;have S2:=Hd s2;clear a5 h1 h2 h3 h4 h5 h6 h7 h8 s1 s2 G;go_wp2_with fail;go_ret;rw [D.1];have a8:=(Mod.set (fun b=>b=pl) wr ⟨pl,4,none⟩ (.int .i64 ((l.used:Int)+(bs.length:Int))) rfl).trans (Mod.set (fun b=>b=pl) _ ⟨pl,5,none⟩ (.int .i64 ((l.records:Int)+1)) rfl)
   refine ⟨rfl,?_,(P.1.mono (fun b hb=>.inr hb)).trans (a8.mono (fun b hb=>.inl hb)),F',O.1.mod a8 (fun k hk e=>?_),B.1⟩
   ·
    unfold yX;simp only [Int.natCast_add];exact S2.1
   ·
    rcases B.1 k hk with h | h
    · exact b5 (e ▸ h)
    · omega
  ·
   obtain ⟨k,rfl⟩:∃ k,gm=k+1:=⟨gm-1,by omega⟩
   have ek:(((k+1:Nat):Int)-1)=(k:Int):=by omega
   rw [ek];have f3:(0:Int)≤(k:Int):=by omega
   have f7:(k:Int)<(bs.length:Int):=by omega
   obtain ⟨h1,⟨F',h2,h3,h4⟩,h5,h6,h7,h8⟩:=hI;obtain ⟨bb,boff,bc',e1,d4⟩:=ji3 h6 k (by omega)
   injection e1 with e1 _ e3
   subst e1;subst e3;have c0:=Box.cell h5 0 _ rfl;have c1:=Box.cell h5 1 _ rfl;have c4:=Box.cell h5 4 _ rfl;have H1:=Hd h1;have O:=Hd h2;have B:=Hd h3;have U:=Hd h4;have H5:=Hd h5;have H6:=Hd h6;have P:=Hd h7;have Q:=Hd h8;clear h1 h2 h3 h4 h5 h6 h7 h8;go_wp2_with fail
   go_still_tail 19,(by kernel_rfl)
   change wpList _ _ _ _ _ wr.drew
   obtain ⟨dd,b8⟩:=Nm ((d.back (l.base+l.used+(k+1)) (bs.drop (k+1))).1);have b9:=jew d (l.base+l.used) bs k (by omega) H1.1
   have c7:=ul d (bs.drop (k+1)) (l.base+l.used+(k+1));rw [← b8] at b9 c7;have H2':=O.1;rw [← b8] at H2';have c8:(l.base:Int)+(l.used:Int)+(k:Int)=((l.base+l.used+k:Nat):Int):=by omega
   have d5:bs.getD k []∈bs:=by rw [List.getD,List.getElem?_eq_getElem (by omega)];exact List.getElem_mem (by omega)
   have c9:=zD dd pd F' ((l.base+l.used+k:Nat):Int) (SB (bs.getD k [])) wr.drew (H2'.mod (Mod.drew (fun _=>False) _) (fun _ _ h=>h)) (by have:=c7.2;rw [List.length_drop] at this;omega) (by have:=b3 _ d5;rw [SB_size];omega)
   rw [← b9,← c8] at c9;have R:=Hd c9;have H9:=Hd c8;have d6:=jcT d (bs.drop k) (l.base+l.used+k) (fun b hb=>b3 b (List.mem_of_mem_drop hb)) (by rw [List.length_drop];omega)
   obtain ⟨d2,d7⟩:=Nm ((d.back (l.base+l.used+k) (bs.drop k)).1);obtain ⟨er,a9⟩:=Nm ((d.back (l.base+l.used+k) (bs.drop k)).2);rw [← a9] at d6;have C:=Hd d7;have H:=Hd a9;clear b9 c7 H2' c8 d5 c9 b8 d7 a9 dd;go_wp2_with fail;refine R.1.mono ?_;rw [← C.1,← H.1];rintro r w3 ⟨rfl,F2,g1,g2,g3⟩;have e2:wr.heap.size≤w3.heap.size:=g2.size;have b4:∀ k,F2 k→F k∨w.heap.size≤k:=fun q hq=>by
    rcases g3 q hq with h | h
    · exact B.1 q h
    · exact .inr (by have:=Q.1;have:=Hc.1;have h:wr.heap.size≤q:=h;omega)
   have b0:∀ q,F' q→q≠pl:=fun q hq e=>by
    rcases B.1 q hq with h | h
    · exact b5 (e ▸ h)
    · omega
   have a0:yX w3 l pl pd:=(H5.1.drew).mod g2 (fun h=>b0 pl h rfl)
   have a7:Rd w3 (.slice (some ⟨bb,boff,none⟩) bs.length bc) bs.length (bs.map SV):=(H6.1.drew).mod g2 (fun q hq h=>U.1 q h hq)
   have a3:Mod F w w3:=(P.1.trans (Mod.drew F wr)).then g2 (fun q hq=>B.1 q hq)
   have b1:∀ q,F2 q→(Value.slice (some ⟨bb,boff,none⟩) bs.length bc).ownBlock≠some q:=fun q hq e=>by
    rcases g3 q hq with h | h
    · exact U.1 q h e
    ·
     have:=(Hb.1 q e).2;have:=Q.1;have h:wr.heap.size≤q:=h;omega
   rcases d6 with rfl | rfl
   ·
    have HN:=Hd (show RBackI l d pl pd bs F (.slice (some ⟨bb,boff,none⟩) bs.length bc) w w2.heap.size k w3 from ⟨H.1.symm,⟨F2,C.1 ▸ g1,b4,b1⟩,a0,a7,a3,Nat.le_trans Q.1 e2⟩)
    clear g1 g2 g3 b4 b0 a0 a7 a3 b1 H1 O B U H5 H6 P Q R H9 C H c0 c1 c4 d4;go_wp2_with fail
    go_roundg k
    case measure=>have:=e0;omega
    case rel=>exact ⟨k,rfl,rfl,by omega,HN.1⟩
   ·
    have a5:l.append d p=({ l with dead:=true },d2,22):=by
     have h1:=jbi d bs k (l.base+l.used) (by omega) (by rw [← H.1];decide)
     rw [G.1,h1,if_pos (by rw [← H.1];decide),← C.1]
    have D:=Hd a5;have c6:=Box.cell a0 6 _ rfl;have f6:=Box.free a0 6;have He:=Hd g1;have Ha:=Hd b4;have Hf:=Hd a0;have Hg:=Hd a3;clear a5 g1 g2 g3 b4 b0 a0 a7 a3 b1 H1 O B U H5 H6 P Q R H9 C H c0 c1 c4 d4 G;go_wp2_with fail;go_ret;rw [D.1];have a8:=Mod.set (fun b=>b=pl) w3 ⟨pl,6,none⟩ (.bool true) rfl
    refine ⟨rfl,?_,(Hg.1.mono (fun b hb=>.inr hb)).trans (a8.mono (fun b hb=>.inl hb)),F2,He.1.mod a8 (fun k hk e=>?_),Ha.1⟩
    · exact Box.set Hf.1 6 (.bool true)
    ·
     rcases Ha.1 k hk with h | h
     · exact b5 (e ▸ h)
     · omega
theorem jJ {n:Int}(h:N63 n)(w:World) :
  Calls prog 152 #[.int .i64 n] w fun e w'=>∃ o,e=.returned o∧OwnM w' w.heap.size 5 o (jm n).length ((jm n).map V8)∧Below w.heap.size w w':=by
 obtain ⟨h1,h2⟩:=h;obtain ⟨k,rfl⟩:∃ k:Nat,n=(k:Int):=⟨n.toNat,by omega⟩
 have H:=Hd (xh k w (by omega))
 have z1:=jav k (by omega)
 go_enter func152,ntmps152;go_wp2_with fail;refine H.1.mono ?_;rintro e w1 ⟨o,rfl,ho,hb⟩;have A:=Hd ho;have B:=Hd hb;clear ho hb;go_wp2_with fail;go_ret;exact ⟨_,rfl,A.1,B.1⟩
theorem jcF (s:SesM)(w:World)(hs:SesN s)(a6:s.scopes<2 ^ 64) :
  Calls prog 153 #[.agg s.cells] w fun ev w'=>∃ o,ev=.returned o∧OwnM w' w.heap.size 5 o (yq [] s).length ((yq [] s).map V8)∧Below w.heap.size w w':=by
 have D:=Hd hs;have H7:=Hd a6;have F:=Hd (Box.new w s.cells 45);have S:=Hd (ja w (.cells s.cells 45));have HE:=Hd (show s.cells=#[.int .i64 s.slot,.int .i64 s.birth,.int .i64 s.upS,.int .i64 s.upB,.int .i64 s.kind,.string (SB s.user),.string (SB s.label),.int .u64 (s.scopes:Int),.int .i64 s.level,.int .i64 s.born,.int .i64 s.deadline,.int .i64 s.depth] from rfl)
 have HQ:=Hd (show yq [] s=_ from by unfold yq;rw [List.nil_append])
 rw [HE.1] at F S ⊢;have Hk:=Hd (jJ hs.slot);clear hs a6;go_enter func153,ntmps153;go_wp2_with fail;refine (Hk.1 _).mono ?_;rintro ev w1 ⟨v0,rfl,ho,hb⟩;have hp:PutSt w w1 w.heap.size #[.int .i64 s.slot,.int .i64 s.birth,.int .i64 s.upS,.int .i64 s.upB,.int .i64 s.kind,.string (SB s.user),.string (SB s.label),.int .u64 (s.scopes:Int),.int .i64 s.level,.int .i64 s.born,.int .i64 s.deadline,.int .i64 s.depth] 45 v0 (jm s.slot):=⟨F.1.below hb,ho.lower (by simp),fun e2=>by have:=(ho.lt _ e2).1;simp at this;omega,S.1.trans (hb.mono (by simp))⟩
 obtain ⟨A0,a5⟩:=Nm (jm s.slot);have I:=Hd (jw s.slot);rw [← a5] at hp I;have T:=Hd hp;have H8:=Hd a5;clear hp ho hb F S a5;have B:=Hd (jJ D.1.birth);have hd:(jm s.birth).length≤10:=jw _;have c1:=T.1.bx.cell 1 _ rfl;have C:=Hd (show A0.length+(jm s.birth).length≤140737488355328 by have:=I.1;omega)
 have J:=Hd (show (A0++jm s.birth).length≤20 by have:=I.1;rw [List.length_append];omega)
 clear hd;go_wp2_with fail;refine (B.1 _).mono ?_;rintro ev x0 ⟨o0,rfl,a1,a2⟩;have H:=Hd (T.1.call a2);have A:=Hd a1;clear a1 a2 c1 B T I
 go_wp2_with (at_builtin;refine yQ rfl _ _ rfl w.heap.size _ _ _ rfl H.1.own _ (jm s.birth) rfl A.1.rd C.1 H.1.bel.size ?_)
 intro v1 y1 a0 a3 a4;have hP:=H.1.app a0 a3 a4;obtain ⟨A1,hA⟩:=Nm (A0++jm s.birth);rw [← hA] at hP J;have U:=Hd hP;have H9:=Hd hA;clear hP hA a0 a3 a4 H A C;have B:=Hd (jJ D.1.upS);have hd:(jm s.upS).length≤10:=jw _;have c1:=U.1.bx.cell 2 _ rfl;have C:=Hd (show A1.length+(jm s.upS).length≤140737488355328 by have:=J.1;omega)
 have K:=Hd (show (A1++jm s.upS).length≤30 by have:=J.1;rw [List.length_append];omega)
 clear hd;go_wp2_with fail;refine (B.1 _).mono ?_;rintro ev x1 ⟨o1,rfl,a1,a2⟩;have H:=Hd (U.1.call a2);have A:=Hd a1;clear a1 a2 c1 B U J
 go_wp2_with (at_builtin;refine yQ rfl _ _ rfl w.heap.size _ _ _ rfl H.1.own _ (jm s.upS) rfl A.1.rd C.1 H.1.bel.size ?_)
 intro v2 y2 a0 a3 a4;have hP:=H.1.app a0 a3 a4;obtain ⟨A2,hA⟩:=Nm (A1++jm s.upS);rw [← hA] at hP K;have V:=Hd hP;have Ha:=Hd hA;clear hP hA a0 a3 a4 H A C;have B:=Hd (jJ D.1.upB);have hd:(jm s.upB).length≤10:=jw _;have c1:=V.1.bx.cell 3 _ rfl;have C:=Hd (show A2.length+(jm s.upB).length≤140737488355328 by have:=K.1;omega)
 have L:=Hd (show (A2++jm s.upB).length≤40 by have:=K.1;rw [List.length_append];omega)
 clear hd;go_wp2_with fail;refine (B.1 _).mono ?_;rintro ev x2 ⟨o2,rfl,a1,a2⟩;have H:=Hd (V.1.call a2);have A:=Hd a1;clear a1 a2 c1 B V K
 go_wp2_with (at_builtin;refine yQ rfl _ _ rfl w.heap.size _ _ _ rfl H.1.own _ (jm s.upB) rfl A.1.rd C.1 H.1.bel.size ?_)
 intro v3 y3 a0 a3 a4;have hP:=H.1.app a0 a3 a4;obtain ⟨A3,hA⟩:=Nm (A2++jm s.upB);rw [← hA] at hP L;have W:=Hd hP;have Hb:=Hd hA;clear hP hA a0 a3 a4 H A C;have B:=Hd (jJ D.1.kind);have hd:(jm s.kind).length≤10:=jw _;have c1:=W.1.bx.cell 4 _ rfl;have C:=Hd (show A3.length+(jm s.kind).length≤140737488355328 by have:=L.1;omega)
 have M:=Hd (show (A3++jm s.kind).length≤50 by have:=L.1;rw [List.length_append];omega)
 clear hd;go_wp2_with fail;refine (B.1 _).mono ?_;rintro ev x3 ⟨o3,rfl,a1,a2⟩;have H:=Hd (W.1.call a2);have A:=Hd a1;clear a1 a2 c1 B W L
 go_wp2_with (at_builtin;refine yQ rfl _ _ rfl w.heap.size _ _ _ rfl H.1.own _ (jm s.kind) rfl A.1.rd C.1 H.1.bel.size ?_)
 intro v4 y4 a0 a3 a4;have hP:=H.1.app a0 a3 a4;obtain ⟨A4,hA⟩:=Nm (A3++jm s.kind);rw [← hA] at hP M;have X:=Hd hP;have Hc:=Hd hA;clear hP hA a0 a3 a4 H A C;have B:=Hd (fun w=>zl s.user w (by have:=D.1.user;omega))
 have hd:(yr s.user).length≤42:=xk D.1.user;have c1:=X.1.bx.cell 5 _ rfl;have C:=Hd (show A4.length+(yr s.user).length≤140737488355328 by have:=M.1;omega)
 have N:=Hd (show (A4++yr s.user).length≤92 by have:=M.1;rw [List.length_append];omega)
 clear hd;go_wp2_with fail;refine (B.1 _).mono ?_;rintro ev x4 ⟨o4,rfl,a1,a2⟩;have H:=Hd (X.1.call a2);have A:=Hd a1;clear a1 a2 c1 B X M
 go_wp2_with (at_builtin;refine yQ rfl _ _ rfl w.heap.size _ _ _ rfl H.1.own _ (yr s.user) rfl A.1.rd C.1 H.1.bel.size ?_)
 intro v5 y5 a0 a3 a4;have hP:=H.1.app a0 a3 a4;obtain ⟨A5,hA⟩:=Nm (A4++yr s.user);rw [← hA] at hP N;have Y:=Hd hP;have He:=Hd hA;clear hP hA a0 a3 a4 H A C;have B:=Hd (fun w=>zl s.label w (by have:=D.1.label;omega))
 have hd:(yr s.label).length≤42:=xk D.1.label;have c1:=Y.1.bx.cell 6 _ rfl;have C:=Hd (show A5.length+(yr s.label).length≤140737488355328 by have:=N.1;omega)
 have O:=Hd (show (A5++yr s.label).length≤134 by have:=N.1;rw [List.length_append];omega)
 clear hd;go_wp2_with fail;refine (B.1 _).mono ?_;rintro ev x5 ⟨o5,rfl,a1,a2⟩;have H:=Hd (Y.1.call a2);have A:=Hd a1;clear a1 a2 c1 B Y N
 go_wp2_with (at_builtin;refine yQ rfl _ _ rfl w.heap.size _ _ _ rfl H.1.own _ (yr s.label) rfl A.1.rd C.1 H.1.bel.size ?_)
 intro v6 y6 a0 a3 a4;have hP:=H.1.app a0 a3 a4;obtain ⟨A6,hA⟩:=Nm (A5++yr s.label);rw [← hA] at hP O;have Z:=Hd hP;have Hf:=Hd hA;clear hP hA a0 a3 a4 H A C;have B:=Hd (fun w=>xh s.scopes w H7.1)
 have hd:(yM s.scopes).length≤10:=xu _;have c1:=Z.1.bx.cell 7 _ rfl;have C:=Hd (show A6.length+(yM s.scopes).length≤140737488355328 by have:=O.1;omega)
 have P:=Hd (show (A6++yM s.scopes).length≤144 by have:=O.1;rw [List.length_append];omega)
 clear hd;go_wp2_with fail;refine (B.1 _).mono ?_;rintro ev x6 ⟨o6,rfl,a1,a2⟩;have H:=Hd (Z.1.call a2);have A:=Hd a1;clear a1 a2 c1 B Z O
 go_wp2_with (at_builtin;refine yQ rfl _ _ rfl w.heap.size _ _ _ rfl H.1.own _ (yM s.scopes) rfl A.1.rd C.1 H.1.bel.size ?_)
 intro v7 y7 a0 a3 a4;have hP:=H.1.app a0 a3 a4;obtain ⟨A7,hA⟩:=Nm (A6++yM s.scopes);rw [← hA] at hP P;have H0:=Hd hP;have Hg:=Hd hA;clear hP hA a0 a3 a4 H A C;have B:=Hd (jJ D.1.level);have hd:(jm s.level).length≤10:=jw _;have c1:=H0.1.bx.cell 8 _ rfl;have C:=Hd (show A7.length+(jm s.level).length≤140737488355328 by have:=P.1;omega)
 have Q:=Hd (show (A7++jm s.level).length≤154 by have:=P.1;rw [List.length_append];omega)
 clear hd;go_wp2_with fail;refine (B.1 _).mono ?_;rintro ev x7 ⟨o7,rfl,a1,a2⟩;have H:=Hd (H0.1.call a2);have A:=Hd a1;clear a1 a2 c1 B H0 P
 go_wp2_with (at_builtin;refine yQ rfl _ _ rfl w.heap.size _ _ _ rfl H.1.own _ (jm s.level) rfl A.1.rd C.1 H.1.bel.size ?_)
 intro v8 y8 a0 a3 a4;have hP:=H.1.app a0 a3 a4;obtain ⟨A8,hA⟩:=Nm (A7++jm s.level);rw [← hA] at hP Q;have H1:=Hd hP;have Hh:=Hd hA;clear hP hA a0 a3 a4 H A C;have B:=Hd (jJ D.1.born);have hd:(jm s.born).length≤10:=jw _;have c1:=H1.1.bx.cell 9 _ rfl;have C:=Hd (show A8.length+(jm s.born).length≤140737488355328 by have:=Q.1;omega)
 have R:=Hd (show (A8++jm s.born).length≤164 by have:=Q.1;rw [List.length_append];omega)
 clear hd;go_wp2_with fail;refine (B.1 _).mono ?_;rintro ev x8 ⟨o8,rfl,a1,a2⟩;have H:=Hd (H1.1.call a2);have A:=Hd a1;clear a1 a2 c1 B H1 Q
 go_wp2_with (at_builtin;refine yQ rfl _ _ rfl w.heap.size _ _ _ rfl H.1.own _ (jm s.born) rfl A.1.rd C.1 H.1.bel.size ?_)
 intro v9 y9 a0 a3 a4;have hP:=H.1.app a0 a3 a4;obtain ⟨A9,hA⟩:=Nm (A8++jm s.born);rw [← hA] at hP R;have H2:=Hd hP;have Hi:=Hd hA;clear hP hA a0 a3 a4 H A C;have B:=Hd (jJ D.1.deadline);have hd:(jm s.deadline).length≤10:=jw _;have c1:=H2.1.bx.cell 10 _ rfl;have C:=Hd (show A9.length+(jm s.deadline).length≤140737488355328 by have:=R.1;omega)
 have E:=Hd (show (A9++jm s.deadline).length≤174 by have:=R.1;rw [List.length_append];omega)
 clear hd;go_wp2_with fail;refine (B.1 _).mono ?_;rintro ev x9 ⟨o9,rfl,a1,a2⟩;have H:=Hd (H2.1.call a2);have A:=Hd a1;clear a1 a2 c1 B H2 R
 go_wp2_with (at_builtin;refine yQ rfl _ _ rfl w.heap.size _ _ _ rfl H.1.own _ (jm s.deadline) rfl A.1.rd C.1 H.1.bel.size ?_)
 intro v10 y10 a0 a3 a4;have hP:=H.1.app a0 a3 a4;obtain ⟨A10,hA⟩:=Nm (A9++jm s.deadline);rw [← hA] at hP E;have G:=Hd hP;have H4:=Hd hA;clear hP hA a0 a3 a4 H A C;have B:=Hd (jJ D.1.depth);have hd:(jm s.depth).length≤10:=jw _;have c1:=G.1.bx.cell 11 _ rfl;have C:=Hd (show A10.length+(jm s.depth).length≤140737488355328 by have:=E.1;omega)
 have H5:=Hd (show (A10++jm s.depth).length≤184 by have:=E.1;rw [List.length_append];omega)
 clear hd;go_wp2_with fail;refine (B.1 _).mono ?_;rintro ev x10 ⟨o10,rfl,a1,a2⟩;have H:=Hd (G.1.call a2);have A:=Hd a1;clear a1 a2 c1 B G E
 go_wp2_with (at_builtin;refine yQ rfl _ _ rfl w.heap.size _ _ _ rfl H.1.own _ (jm s.depth) rfl A.1.rd C.1 H.1.bel.size ?_)
 intro v11 y11 a0 a3 a4;have hP:=H.1.app a0 a3 a4;obtain ⟨A11,hA⟩:=Nm (A10++jm s.depth);rw [← hA] at hP H5;have H3:=Hd hP;have H6:=Hd hA;clear hP hA a0 a3 a4 H A C;go_wp2_with fail;go_ret;rw [HQ.1,← H8.1,← H9.1,← Ha.1,← Hb.1,← Hc.1,← He.1,← Hf.1,← Hg.1,← Hh.1,← Hi.1,← H4.1,← H6.1];exact ⟨_,rfl,H3.1.own,H3.1.bel⟩
theorem jcB (st:StM)(v:Value)(w:World)(hr:RdS w v st.l)(ho:∀ s∈st.l,SesOk s) :
  Calls prog 110 #[.agg #[.int .i64 st.clock,.int .i64 st.births,v]] w fun ev w'=>∃ o,ev=.returned (.tuple #[o,.int .i64 (jbx st)])∧OwnM w' w.heap.size 5 o (vj st).length ((vj st).map V8)∧Below w.heap.size w w':=by
 obtain ⟨a,cap,rfl,c4,c7⟩:=hr.slice;have N:=Hd (fun w' hb=>zP st (.slice a st.l.length cap) w' (hr.below hb) ho)
 have Z:=Hd hr;have HO:=Hd ho;have O:=Hd (Box.new w #[.int .i64 st.clock,.int .i64 st.births,.slice a st.l.length cap] 30);have M:=Hd (ja w (.cells #[.int .i64 st.clock,.int .i64 st.births,.slice a st.l.length cap] 30));have c5:st.l.length≤9223372036854775807:=by omega
 clear hr ho c4;go_enter func110,ntmps110;go_wp2_with fail;refine (N.1 _ M.1).mono ?_;rintro ev w1 ⟨rfl,a1⟩;have D:=Hd (M.1.trans (a1.mono M.1.size));have F:=Hd (O.1.below a1);clear a1 M O N
 cases hck:yu st with
 | some n =>
  have X:=Hd (show vj st = [] by unfold vj;rw [hck];rfl)
  have Y:=Hd (show jbx st=24 by unfold jbx;rw [hck];rfl)
  rw [show (uP (some n)).1=24 from rfl,show (uP (some n)).2=n from rfl]
  clear hck;go_wp2_with fail;refine bodyPost_ret (results_tmp2 rfl _ _ _) rfl ?_;rw [X.1,Y.1];exact ⟨_,rfl,OwnM.nil _ _ _,D.1⟩
 | none =>
 have X:=Hd (show vj st=jay st by unfold vj;rw [hck];rfl)
 have Y:=Hd (show jbx st=0 by unfold jbx;rw [hck];rfl)
 have B:=Hd (zV hck);have H5:=Hd (jfm hck);rw [show (uP none).1=0 from rfl,show (uP none).2=0 from rfl]
 clear hck;have n3:N63 (st.l.length:Int):=⟨by omega,by have:=B.1.2.2.1;omega⟩
 have H6:=Hd n3;have P:=Hd (jJ B.1.1);have Q:=Hd (jJ B.1.2.1);have R:=Hd (jJ n3);have c0:w1.cell? ⟨w.heap.size,0,none⟩=some (.int .i64 st.clock):=F.1.cell 0 _ rfl;clear n3;go_wp2_with fail;refine (P.1 _).mono ?_;rintro ev w2 ⟨v0,rfl,a9,b5⟩;have J:=Hd (show PutSt w w2 w.heap.size #[.int .i64 st.clock,.int .i64 st.births,.slice a st.l.length cap] 30 v0 (jm st.clock) from ⟨F.1.below b5,a9.lower D.1.size,fun e2=>by have:=(a9.lt _ e2).1;have:=F.1.lt;omega,D.1.trans (b5.mono D.1.size)⟩)
 clear a9 b5 c0 F D P;have c1:w2.cell? ⟨w.heap.size,1,none⟩=some (.int .i64 st.births):=J.1.bx.cell 1 _ rfl;go_wp2_with fail;refine (Q.1 _).mono ?_;rintro ev w3 ⟨o1,rfl,a2,a1⟩;have H:=Hd (J.1.call a1);have A:=Hd a2;have E:=Hd (show (jm st.clock).length+(jm st.births).length≤140737488355328 by have:=jw st.clock;have:=jw st.births;omega)
 clear a2 a1 c1 Q J
 go_wp2_with (at_builtin;refine yQ rfl _ _ rfl w.heap.size _ _ _ rfl H.1.own _ (jm st.births) rfl A.1.rd E.1 H.1.bel.size ?_)
 intro v1 y1 a0 a3 a4;have G:=Hd (H.1.app a0 a3 a4);clear a0 a3 a4 H A E;obtain ⟨A1,a7⟩:=Nm (jm st.clock++jm st.births);have S:=Hd (show A1.length≤20 by rw [a7,List.length_append];have:=jw st.clock;have:=jw st.births;omega)
 rw [← a7] at G;have H0:=Hd a7;clear a7;have c2:y1.cell? ⟨w.heap.size,2,none⟩=some (.slice a st.l.length cap):=G.1.bx.cell 2 _ rfl;go_wp2_with fail;refine (R.1 _).mono ?_;rintro ev w4 ⟨o2,rfl,a2,a1⟩;have H:=Hd (G.1.call a1);have A:=Hd a2;have E:=Hd (show A1.length+(jm (st.l.length:Int)).length≤140737488355328 by have:=S.1;have:=jw (st.l.length:Int);omega)
 clear a2 a1 c2 R G
 go_wp2_with (at_builtin;refine yQ rfl _ _ rfl w.heap.size _ _ _ rfl H.1.own _ (jm (st.l.length:Int)) rfl A.1.rd E.1 H.1.bel.size ?_)
 intro v2 y2 a0 a3 a4;have I:=Hd (H.1.app a0 a3 a4);clear a0 a3 a4 H A E;obtain ⟨A0,a8⟩:∃ A0,A0=A1++jm (st.l.length:Int):=⟨_,rfl⟩;rw [← a8] at I;have H3:=Hd (show jay st=A0++st.l.flatMap (yq []) by unfold jay jZ;rw [a8,H0.1];simp)
 have HA:=Hd (show A0.length≤30 by rw [a8,List.length_append];have:=S.1;have:=jw (st.l.length:Int);omega)
 have H4:=Hd (fun k=>show (A0++(st.l.take k).flatMap (yq [])).length≤7000 by
  have h1:=HA.1;have h2:=vN (l:=st.l.take k) (fun s hs=>B.1.2.2.2 s (List.mem_of_mem_take hs))
  have h3:=B.1.2.2.1;rw [List.length_take] at h2;rw [List.length_append];omega)
 obtain ⟨n,hn⟩:=Nm (st.l.length);have HN:=Hd hn;have c8:n≤9223372036854775807:=by omega
 rw [← hn] at I ⊢;clear a8 hn c5;go_wp2_with fail
 go_loopg [6,7] n (fun gk ov iv wr=>∃ (k:Nat),gk+k=n∧iv=.int .i64 (k:Int)∧PutSt w wr w.heap.size #[.int .i64 st.clock,.int .i64 st.births,.slice a n cap] 30 ov (A0++(st.l.take k).flatMap (yq [])))
 case atStart=>exact ⟨0,by omega,rfl,by have:=I.1;simpa using this⟩
 case round =>
  obtain ⟨k,b9,rfl,b6⟩:=hrel;have C:=Hd b6;have T:=Hd b9;have k0:(0:Int)≤(k:Int):=by omega
  have c2:wr.cell? ⟨w.heap.size,2,none⟩=some (.slice a n cap):=b6.bx.cell 2 _ rfl;clear b6 b9 I;by_cases hk:k<n;rotate_left
  ·
   have k1:¬ (k:Int)<(n:Int):=by omega
   have hT:=C.1;rw [List.take_of_length_le (by have:=HN.1;omega),← H3.1] at hT
   have HT:=Hd hT;clear hk hT C;go_wp2_with fail;refine bodyPost_ret (results_tmp2 rfl _ _ _) rfl ?_;rw [X.1,Y.1];exact ⟨_,rfl,HT.1.own,HT.1.bel⟩
  have k1:(k:Int)<(n:Int):=by omega
  have a5:k<st.l.length:=by have:=HN.1;omega
  have U:=Hd (Z.1.below C.1.bel);obtain ⟨s,hs⟩:=Nm (st.l[k]);obtain ⟨rb,ro,c6,a6⟩:=U.1.row k a5;subst c6;rw [← hs] at a6;have V:=Hd (fun w=>jcF s w (SesN.of (B.1.2.2.2 s (by rw [hs];exact List.getElem_mem a5))) (HO.1 s (by rw [hs];exact List.getElem_mem a5)).scopes)
  have K:=Hd (show A0++(st.l.take (k+1)).flatMap (yq [])=(A0++(st.l.take k).flatMap (yq []))++yq [] s by
   rw [List.take_succ_eq_append_getElem a5,List.flatMap_append,← hs];simp only [List.flatMap_cons,List.flatMap_nil,List.append_nil,List.append_assoc])
  have b7:=H4.1 (k+1);rw [K.1,List.length_append] at b7;generalize A0++(st.l.take k).flatMap (yq [])=Ak at C K b7;have E:=Hd (show Ak.length+(yq [] s).length≤140737488355328 by omega)
  have L:=Hd a6;have HK:=Hd hk;clear hk a5 hs a6 b7
  go_wp2_with ((with_reducible refine je ?b0 45 (.tmp 41) ?b1 rb (ro+k*12) ?b2 s.cells.toList _ L.1 underlying45 ?b3 ?b4 ?b8);(case b1=>rfl);(case b0=>rfl);(case b2=>rfl);(case b3=>rfl);(case b4=>kernel_rfl))
  intro cv c3;have ecv:cv=s.cells:=by rw [c3.out]
  subst ecv;clear c3 c2 L U;go_wp2_with fail;refine (V.1 _).mono ?_;rintro ev w6 ⟨o6,rfl,a2,a1⟩;have H:=Hd (C.1.call a1);have A:=Hd a2;clear a2 a1 C V
  go_wp2_with (at_builtin;refine yQ rfl _ _ rfl w.heap.size _ _ _ rfl H.1.own _ (yq [] s) rfl A.1.rd E.1 H.1.bel.size ?_)
  intro v3 y3 a0 a3 a4;have W:=Hd (H.1.app a0 a3 a4);clear a0 a3 a4 H A E;rw [← K.1] at W;go_wp2_with fail
  go_roundg (n-(k+1))
  case measure=>have:=T.1;have:=HK.1;omega
  case rel=>exact ⟨k+1,by have:=T.1;have:=HK.1;omega,by go_num,W.1⟩
end Go.Proofs.YtgcnolapjppbpaaGreatDoor
