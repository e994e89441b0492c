/-
  Texts of one proof, one behind the other.
-/
import Derived.Test.YtgcnolapjppbpaaGreatDoorP09
import Derived.Test.YtgcnolapjppbpaaGreatDoorP20
import Derived.Test.YtgcnolapjppbpaaGreatDoorP16
import Derived.StillTailTactics
import Derived.Outline
import Derived.Deep.LoopGhost
import Derived.Test.YtgcnolapjppbpaaGreatDoorP00
namespace Go.Proofs.YtgcnolapjppbpaaGreatDoor
open Go.RowKit _root_.Go.Proofs.Tryz
set_option maxRecDepth 100000
set_option maxHeartbeats 25600000
def xB (w:World)(l:LogM)(pl pd:Nat):Prop :=
 Box w pl #[.pointer (some ⟨pd,0,none⟩),.int .i64 (l.base:Int),.int .i64 (l.n:Int),.int .u32 (l.epoch.toNat:Int),.int .i64 (l.used:Int),.int .i64 (l.records:Int),.bool l.dead] 143
theorem jb7 (d:DiskM)(pd:Nat)(F:Nat→Prop)(base n:Nat)(e:UInt32)(w:World)(h:IsDisk w d pd F)(h1:1≤n)(h2:base+n≤d.strs.length) :
  Calls prog 77 #[.pointer (some ⟨pd,0,none⟩),.int .i64 (base:Int),.int .i64 (n:Int),.int .u32 (e.toNat:Int)] w fun r w'=>r=.returned (.tuple #[.pointer (some ⟨w.heap.size,0,none⟩),.nilIface]) ∧
   xB w' ⟨base,n,e,0,0,false⟩ w.heap.size pd∧Below w.heap.size w w':=by
 have hl:d.strs.length≤4096:=by obtain ⟨_,_,_,_,_,_,_,_,h5,_⟩:=h;exact h5
 have H:=Hd h;have a0:¬ (n:Int)<1:=by omega
 have a1:¬ (base:Int)<0:=by omega
 have a2:¬ (d.strs.length:Int)<(base:Int):=by omega
 have a3:¬ ((d.strs.length:Int)-(base:Int))<(n:Int):=by omega
 clear h;go_enter func77,ntmps77;go_wp2_with fail;refine (zc d pd F w H.1).mono ?_;rintro r w1 ⟨rfl,rfl⟩;go_wp2_with fail;refine (zc d pd F _ H.1).mono ?_;rintro r w1 ⟨rfl,rfl⟩;go_wp2_with fail
 go_ret2
 exact ⟨rfl,Box.new _ _ _,ja _ _⟩
theorem jhc (l:LogM)(pl pd:Nat)(w:World)(h:xB w l pl pd)(h1:l.used≤l.n)(h2:l.n≤9223372036854775807) :
  Calls prog 72 #[.pointer (some ⟨pl,0,none⟩)] w fun r w'=>r=.returned (.int .i64 ((l.n-l.used:Nat):Int))∧∃ k,w'=w.drewN k:=by
 have c2:=Box.cell h 2 _ rfl;have c4:=Box.cell h 4 _ rfl;have hs:((l.n-l.used:Nat):Int)=(l.n:Int)-(l.used:Int):=by omega
 rw [hs];clear h hs;go_enter func72,ntmps72;go_wp2_with fail
 go_quiet (fail)
 go_wp2_with fail;go_ret;exact ⟨rfl,_,rfl⟩
theorem jdS (l:LogM)(pl pd:Nat)(w:World)(h:xB w l pl pd) :
  Calls prog 45 #[.pointer (some ⟨pl,0,none⟩)] w fun r w'=>r=.returned (.int .i64 (l.records:Int))∧w'=w:=by
 have c5:=Box.cell h 5 _ rfl;clear h;go_enter func45,ntmps45;go_wp2_with fail;go_ret;exact ⟨rfl,rfl⟩
structure BackI (l:LogM)(d:DiskM)(pl pd:Nat)(bs:List (List UInt8))(F:Nat→Prop)(bv:Value)(w:World)(s0 m:Nat)(W:World):Prop where
 err:(d.back (l.base+l.used+m) (bs.drop m)).2=0
 disk:∃ F',IsDisk W (d.back (l.base+l.used+m) (bs.drop m)).1 pd F'∧(∀ k,F' k→F k∨w.heap.size≤k)∧∀ k,F' k→bv.ownBlock≠some k
 log:xB W l pl pd
 row:Rd W bv bs.length (bs.map SV)
 mod:Mod F w W
 size:s0≤W.heap.size
theorem ji3 {W:World}{v:Value}{bs:List (List UInt8)}(h:Rd W v bs.length (bs.map SV))(i:Nat)(hi:i<bs.length) :
  ∃ b off c,v=.slice (some ⟨b,off,none⟩) bs.length c∧W.cell? ⟨b,off+i,none⟩=some (.string (SB (bs.getD i []))):=by
 obtain ⟨b,off,c,e1,e2⟩:=h.at i (by rw [List.length_map];exact hi)
 refine ⟨b,off,c,e1,?_⟩;rw [e2]
 simp [List.getD,hi,SV]
theorem jew (d:DiskM)(a:Nat)(bs:List (List UInt8))(k:Nat)(hk:k<bs.length)(h:(d.back (a+(k+1)) (bs.drop (k+1))).2=0) :
  d.back (a+k) (bs.drop k)=(d.back (a+(k+1)) (bs.drop (k+1))).1.write ((a+k:Nat):Int) (SB (bs.getD k [])):=by
 rw [List.drop_eq_getElem_cons hk,vg,Nat.add_assoc a k 1,if_neg (by rw [h];simp)]
 simp [List.getD,hk]
theorem jbi (d:DiskM)(bs:List (List UInt8)):∀ (k a:Nat),k≤bs.length→(d.back (a+k) (bs.drop k)).2≠0→d.back a bs=d.back (a+k) (bs.drop k)
 | 0,a,_,_=>by simp
 | k+1,a,hk,h=>by
  have ih:=jbi d bs k a (by omega)
  have e:d.back (a+k) (bs.drop k)=d.back (a+(k+1)) (bs.drop (k+1)):=by
   rw [List.drop_eq_getElem_cons (show k<bs.length by omega),vg,Nat.add_assoc a k 1,if_pos h]
  rw [e] at ih;exact ih h
theorem jaP (l:LogM)(d:DiskM)(p:List UInt8)(pl pd:Nat)(F:Nat→Prop)(v:Value)(w:World)(hl:xB w l pl pd)(hd:IsDisk w d pd F)(b4:¬ F pl)(hv:Rd w v p.length (p.map V8))(ht:d.trail.length≤10000000000)(e4:l.base+l.n≤d.strs.length)(hu:l.used≤l.n)(hr:l.records≤1000000000) :
  Calls prog 39 #[.pointer (some ⟨pl,0,none⟩),v] w fun r w'=>r=.returned (jo (l.append d p).2.2)∧xB w' (l.append d p).1 pl pd∧Mod (fun b=>b=pl∨F b) w w' ∧
   ∃ F',IsDisk w' (l.append d p).2.1 pd F'∧∀ k,F' k→F k∨w.heap.size≤k:=by
 have e8:d.strs.length≤4096:=by obtain ⟨_,_,_,_,_,_,_,_,h5,_⟩:=hd;exact h5
 obtain ⟨va,vc,rfl⟩:∃ a c,v=.slice a p.length c:=by obtain ⟨a,c,h,_⟩:=hv;exact ⟨a,c,h⟩
 have c3:=Box.cell hl 3 _ rfl;have c6:=Box.cell hl 6 _ rfl;have S:=Hd hl;have T:=Hd hd;have HV:=Hd hv;clear hl hd hv;by_cases a1:l.dead=true
 ·
  have ea:l.append d p=(l,d,22):=by unfold LogM.append;rw [if_pos a1]
  have Ea:=Hd ea;rw [a1] at c6;clear ea;go_enter func39,ntmps39;go_wp2_with fail;go_ret;rw [Ea.1];exact ⟨rfl,S.1,Mod.refl _ _,F,T.1,fun k hk=>.inl hk⟩
 have a1:l.dead=false:=by simpa using a1
 rw [a1] at c6;have G:=Hd (jgi _ l.epoch p w HV.1);by_cases h512:512<p.length
 ·
  have ea:l.append d p=(l,d,3):=by unfold LogM.append;rw [if_neg (by rw [a1];simp),if_pos h512]
  have Ea:=Hd ea;clear ea;go_enter func39,ntmps39;go_wp2_with fail;refine G.1.mono ?_;rintro r w1 hr;obtain ⟨_,rfl,rfl⟩:=hr.resolve_right (fun h=>by omega)
  go_wp2_with fail;go_ret;rw [Ea.1];exact ⟨rfl,S.1,Mod.refl _ _,F,T.1,fun k hk=>.inl hk⟩
 go_enter func39,ntmps39;go_wp2_with fail;refine G.1.mono ?_;rintro r w1 d7;obtain ⟨_,bv,rfl,ho,b1⟩:=d7.resolve_left (fun h=>by omega)
 obtain ⟨bs,a5⟩:=Nm (jz l.epoch p);have e9:bs.length≤4:=by rw [a5];exact jap _ _
 have f0:0<bs.length:=by rw [a5];exact vQ _ _
 have b2:∀ b∈bs,b.length≤256:=fun b hb=>ja4 (e:=l.epoch) (p:=p) (by rw [← a5];exact hb)
 rw [← a5] at ho;have I:=Hd a5;obtain ⟨ba,bc,rfl,_⟩:=jK ho;have J:=Hd (show xB w1 l pl pd from S.1.below b1)
 have V:=Hd (T.1.mod (Mod.of_below (F:=fun _=>False) b1) (fun _ _ h=>h))
 have W:=Hd (jq ho);have X:=Hd (fun k hk=>ho.lt k hk)
 have Y:=Hd b1;clear ho b1 a5 G c3 c6;go_wp2_with fail;refine (jhc l pl pd w1 J.1 hu (by omega)).mono ?_
 rintro r w2 ⟨rfl,kd,rfl⟩;obtain ⟨rm,b5⟩:=Nm (l.n-l.used);rw [← b5];have e5:rm≤4096:=by omega
 have K:=Hd b5;clear b5;have a3:=jC w1 kd;obtain ⟨w2,c9⟩:=Nm (w1.drewN kd);rw [← c9] at a3 ⊢;have L:=Hd (show xB w2 l pl pd from J.1.below a3)
 have M:=Hd (V.1.mod (Mod.of_below (F:=fun _=>False) a3) (fun _ _ h=>h))
 have Z:=Hd (W.1.below a3);have A:=Hd (jh Y.1 a3);have N:=Hd a3.size;clear c9 a3 J V W Y;by_cases hfull:rm<bs.length
 ·
  have ea:l.append d p=(l,d,19):=by unfold LogM.append;rw [if_neg (by rw [a1];simp),if_neg h512,if_pos (by rw [← I.1,← K.1];exact hfull)]
  have Ea:=Hd ea;clear ea;have b6:(rm:Int)<(bs.length:Int):=by omega
  go_wp2_with fail;go_ret;rw [Ea.1];exact ⟨rfl,L.1,Mod.of_below A.1,F,M.1,fun k hk=>.inl hk⟩
 have b6:decide ((rm:Int)<(bs.length:Int))=false:=by simp;omega
 have d8:decide (rm<bs.length)=false:=by simp;omega
 have e2:l.n-l.used ≥ bs.length:=by rw [← K.1];omega
 have d0:l.append d p=if (d.back (l.base+l.used) bs).2≠0 then ({ l with dead:=true },(d.back (l.base+l.used) bs).1,22) else ({ l with used:=l.used+bs.length,records:=l.records+1 },(d.back (l.base+l.used) bs).1,0):=by
  unfold LogM.append;rw [if_neg (by rw [a1];simp),if_neg h512,if_neg (by rw [← I.1,← K.1];exact hfull),← I.1]
 have E:=Hd d0;clear d0;have b7:∀ k,(Value.slice ba bs.length bc).ownBlock=some k→w.heap.size≤k∧k<w2.heap.size:=fun k hk=>by
  have h1:=X.1 k hk;have h2:=A.1.size;exact ⟨h1.1,Nat.lt_of_lt_of_le h1.2 N.1⟩
 have d1:BackI l d pl pd bs F (.slice ba bs.length bc) w w2.heap.size bs.length w2:=by
  refine ⟨by rw [List.drop_length];rfl,⟨F,by rw [List.drop_length];exact M.1,fun k hk=>.inl hk,fun k hk e=>?_⟩,L.1,Z.1,Mod.of_below A.1,Nat.le_refl _⟩
  have:=(b7 k e).1;have:=T.1.lt k hk;omega
 have H0:=Hd d1;have Hc:=Hd b7;have e6:pl<w.heap.size:=S.1.lt;have He:=Hd A.1.size;clear d1 b7 L M Z A X N;go_wp2_with fail
 go_loopg [7] bs.length (fun gk iv wr=>∃ gm:Nat,gk=gm∧iv=.int .i64 ((gm:Int)-1)∧gm≤bs.length∧BackI l d pl pd bs F (.slice ba bs.length bc) w w2.heap.size gm wr)
 case atStart=>exact ⟨_,rfl,rfl,Nat.le_refl _,H0.1⟩
 case round =>
  clear H0;obtain ⟨gm,d9,rfl,f1,hI⟩:=hrel;by_cases hm:gm=0
  ·
   subst hm;have e7:¬ (0:Int)≤((0:Nat):Int)-1:=by omega
   obtain ⟨h1,⟨F',h2,h3,h4⟩,h5,h6,h7,h8⟩:=hI;rw [Nat.add_zero,List.drop_zero] at h1 h2;have a4:l.append d p=({ l with used:=l.used+bs.length,records:=l.records+1 },(d.back (l.base+l.used) bs).1,0):=by rw [E.1,if_neg (by rw [h1];simp)]
   have D:=Hd a4;have c4:=Box.cell h5 4 _ rfl;have f4:=Box.free h5 4;have s1:=Box.set h5 4 (.int .i64 ((l.used:Int)+(bs.length:Int)));have c5:=Box.cell s1 5 _ rfl;have f5:=Box.free s1 5;have s2:=Box.set s1 5 (.int .i64 ((l.records:Int)+1));have O:=Hd h2;have B:=Hd h3;have P:=Hd h7;have S2:=Hd s2;clear a4 h1 h2 h3 h4 h5 h6 h7 h8 s1 s2 E;go_wp2_with fail;go_ret;rw [D.1];have a7:=(Mod.set (fun b=>b=pl) wr ⟨pl,4,none⟩ (.int .i64 ((l.used:Int)+(bs.length:Int))) rfl).trans (Mod.set (fun b=>b=pl) _ ⟨pl,5,none⟩ (.int .i64 ((l.records:Int)+1)) rfl)
   refine ⟨rfl,?_,(P.1.mono (fun b hb=>.inr hb)).trans (a7.mono (fun b hb=>.inl hb)),F',O.1.mod a7 (fun k hk e=>?_),B.1⟩
   ·
    unfold xB;simp only [Int.natCast_add];exact S2.1
   ·
    rcases B.1 k hk with h | h
    · exact b4 (e ▸ h)
    · omega
  ·
   obtain ⟨k,rfl⟩:∃ k,gm=k+1:=⟨gm-1,by omega⟩
   have ek:(((k+1:Nat):Int)-1)=(k:Int):=by omega
   rw [ek];have f2:(0:Int)≤(k:Int):=by omega
   have f3:(k:Int)<(bs.length:Int):=by omega
   obtain ⟨h1,⟨F',h2,h3,h4⟩,h5,h6,h7,h8⟩:=hI;obtain ⟨bb,boff,bc',e1,d3⟩:=ji3 h6 k (by omega)
   injection e1 with e1 _ e3
   subst e1;subst e3;have c0:=Box.cell h5 0 _ rfl;have c1:=Box.cell h5 1 _ rfl;have c4:=Box.cell h5 4 _ rfl;have H1:=Hd h1;have O:=Hd h2;have B:=Hd h3;have U:=Hd h4;have H5:=Hd h5;have H6:=Hd h6;have P:=Hd h7;have Q:=Hd h8;clear h1 h2 h3 h4 h5 h6 h7 h8;go_wp2_with fail
   go_still_tail 19,(by kernel_rfl)
   change wpList _ _ _ _ _ wr.drew
   obtain ⟨dd,b8⟩:=Nm ((d.back (l.base+l.used+(k+1)) (bs.drop (k+1))).1);have b9:=jew d (l.base+l.used) bs k (by omega) H1.1
   have c2:=ul d (bs.drop (k+1)) (l.base+l.used+(k+1));rw [← b8] at b9 c2;have H2':=O.1;rw [← b8] at H2';have c7:(l.base:Int)+(l.used:Int)+(k:Int)=((l.base+l.used+k:Nat):Int):=by omega
   have d4:bs.getD k []∈bs:=by rw [List.getD,List.getElem?_eq_getElem (by omega)];exact List.getElem_mem (by omega)
   have c8:=uK dd pd F' ((l.base+l.used+k:Nat):Int) (SB (bs.getD k [])) wr.drew (H2'.mod (Mod.drew (fun _=>False) _) (fun _ _ h=>h)) (by have:=c2.2;rw [List.length_drop] at this;omega) (by have:=b2 _ d4;rw [SB_size];omega)
   rw [← b9,← c7] at c8;have R:=Hd c8;have H9:=Hd c7;have d5:=jcT d (bs.drop k) (l.base+l.used+k) (fun b hb=>b2 b (List.mem_of_mem_drop hb)) (by rw [List.length_drop];omega)
   obtain ⟨d2,d6⟩:=Nm ((d.back (l.base+l.used+k) (bs.drop k)).1);obtain ⟨er,a8⟩:=Nm ((d.back (l.base+l.used+k) (bs.drop k)).2);rw [← a8] at d5;have C:=Hd d6;have H:=Hd a8;clear b9 c2 H2' c7 d4 c8 b8 d6 a8 dd;go_wp2_with fail;refine R.1.mono ?_;rw [← C.1,← H.1];rintro r w3 ⟨rfl,F2,g1,g2,g3⟩;have e0:wr.heap.size≤w3.heap.size:=g2.size;have b3:∀ k,F2 k→F k∨w.heap.size≤k:=fun q hq=>by
    rcases g3 q hq with h | h
    · exact B.1 q h
    · exact .inr (by have:=Q.1;have:=He.1;have h:wr.heap.size≤q:=h;omega)
   have a9:∀ q,F' q→q≠pl:=fun q hq e=>by
    rcases B.1 q hq with h | h
    · exact b4 (e ▸ h)
    · omega
   have a0:xB w3 l pl pd:=(H5.1.drew).mod g2 (fun h=>a9 pl h rfl)
   have a6:Rd w3 (.slice (some ⟨bb,boff,none⟩) bs.length bc) bs.length (bs.map SV):=(H6.1.drew).mod g2 (fun q hq h=>U.1 q h hq)
   have a2:Mod F w w3:=(P.1.trans (Mod.drew F wr)).then g2 (fun q hq=>B.1 q hq)
   have b0:∀ q,F2 q→(Value.slice (some ⟨bb,boff,none⟩) bs.length bc).ownBlock≠some q:=fun q hq e=>by
    rcases g3 q hq with h | h
    · exact U.1 q h e
    ·
     have:=(Hc.1 q e).2;have:=Q.1;have h:wr.heap.size≤q:=h;omega
   rcases d5 with rfl | rfl
   ·
    have HN:=Hd (show BackI l d pl pd bs F (.slice (some ⟨bb,boff,none⟩) bs.length bc) w w2.heap.size k w3 from ⟨H.1.symm,⟨F2,C.1 ▸ g1,b3,b0⟩,a0,a6,a2,Nat.le_trans Q.1 e0⟩)
    rw [show jo 0=.nilIface from rfl]
    clear g1 g2 g3 b3 a9 a0 a6 a2 b0 H1 O B U H5 H6 P Q R H9 C H c0 c1 c4 d3;go_wp2_with fail
    go_roundg k
    case measure=>have:=d9;omega
    case rel=>exact ⟨k,rfl,rfl,by omega,HN.1⟩
   ·
    have a4:l.append d p=({ l with dead:=true },d2,22):=by
     have h1:=jbi d bs k (l.base+l.used) (by omega) (by rw [← H.1];decide)
     rw [E.1,h1,if_pos (by rw [← H.1];decide),← C.1]
    have D:=Hd a4;rw [show jo 22=zu 22 from rfl]
    have c6:=Box.cell a0 6 _ rfl;have f6:=Box.free a0 6;have Hf:=Hd g1;have Ha:=Hd b3;have Hg:=Hd a0;have Hh:=Hd a2;have Hb:=Hd (fun w=>jcx 22 22 w)
    clear a4 g1 g2 g3 b3 a9 a0 a6 a2 b0 H1 O B U H5 H6 P Q R H9 C H c0 c1 c4 d3 E;unfold zu at Hb ⊢;go_wp2_with fail;refine (Hb.1 _).mono ?_;rintro r w4 ⟨rfl,rfl⟩;go_wp2_with fail;go_ret;rw [D.1];have a7:=Mod.set (fun b=>b=pl) w4 ⟨pl,6,none⟩ (.bool true) rfl
    refine ⟨rfl,?_,(Hh.1.mono (fun b hb=>.inr hb)).trans (a7.mono (fun b hb=>.inl hb)),F2,Hf.1.mod a7 (fun k hk e=>?_),Ha.1⟩
    · exact Box.set Hg.1 6 (.bool true)
    ·
     rcases Ha.1 k hk with h | h
     · exact b4 (e ▸ h)
     · omega
theorem jhD {e:UInt32}{bl:List (List UInt8)}{B b:Nat}{pre:List (Nat × Value)}{W W':World}(h:Found e bl B pre W)(hm:Mod (fun k=>k=b) W W')(hB:b<B):Found e bl B pre W' :=
 h.keep (fun x hx k hk hl=>hm.block k hl (fun ek=>by
  obtain ⟨i,hi,rfl⟩:=List.getElem_of_mem hx;obtain ⟨_,p,c,_,ho⟩:=h.row i pre[i] (List.getElem?_eq_getElem hi);have:=(ho.lt k hk).1
  omega))
theorem jbP (strs:List ByteArray)(base n:Nat)(h:base+n≤strs.length)(j:Nat)(hj:j<n):strs[base+j]?=some (SB ((((strs.drop base).take n).map (fun s=>s.data.toList)).getD j [])):=by
 have h3:base+j<strs.length:=by omega
 have e:(((strs.drop base).take n).map (fun s:ByteArray=>s.data.toList)).getD j []=strs[base+j].data.toList:=by
  simp [List.getD,hj,h3]
 rw [e,List.getElem?_eq_getElem h3]
 congr 1
theorem jeI (d:DiskM)(pd:Nat)(F:Nat→Prop)(base n:Nat)(e:UInt32)(w:World)(h:IsDisk w d pd F)(h1:1≤n)(h2:base+n≤d.strs.length)(hs:∀ s∈d.strs,s.size≤256) :
  Calls prog 92 #[.pointer (some ⟨pd,0,none⟩),.int .i64 (base:Int),.int .i64 (n:Int),.int .u32 (e.toNat:Int)] w fun r w'=>∃ (pl:Nat) (ov:Value) (pre:List (Nat × Value)) (bl:List (List UInt8)),bl.length=n ∧
   (∀ j,j<n→d.strs[base+j]?=some (SB (bl.getD j [])))∧yU e bl pre.length=none∧r=.returned (.tuple #[.pointer (some ⟨pl,0,none⟩),ov,.nilIface])∧Found e bl w.heap.size pre w'∧w'.ownsRow w.heap.size 92 1 ov pre.length (pre.map (·.2))∧Below w.heap.size w w':=by
 have c1:d.strs.length≤4096:=by obtain ⟨_,_,_,_,_,_,_,_,h5,_⟩:=h;exact h5
 obtain ⟨bl,a2⟩:=Nm (((d.strs.drop base).take n).map (fun s=>s.data.toList))
 have b1:bl.length=n:=by rw [a2,List.length_map,List.length_take,List.length_drop];omega
 have a5:∀ j,j<n→d.strs[base+j]?=some (SB (bl.getD j [])):=fun j hj=>by rw [a2];exact jbP d.strs base n h2 j hj
 have a6:∀ b∈bl,b.length≤256:=by
  rw [a2];intro b hb;obtain ⟨s,b9,rfl⟩:=List.mem_map.1 hb;have:=hs s (List.mem_of_mem_drop (List.mem_of_mem_take b9));show s.data.toList.length≤256;rw [Array.length_toList];exact this
 have L:=Hd a5;have J:=Hd a6;have M:=Hd h;clear h a5 a6 a2 hs;go_enter func92,ntmps92;go_wp2_with fail;refine (jb7 d pd F base n e w M.1 h1 h2).mono ?_;rintro r w1 ⟨rfl,hl,a7⟩;have K:=Hd hl;have N:=Hd a7;have O:=Hd (M.1.mod (Mod.of_below (F:=fun _=>False) a7) (fun _ _ h=>h))
 clear hl a7;go_wp2_with fail
 go_loopg [13,31] n (fun gk bv iv wr=>∃ k:Nat,gk+k=n∧iv=.int .i64 (k:Int)∧wr.ownsRow w1.heap.size 9 1 bv k ((bl.take k).map SV)∧Below w1.heap.size w1 wr)
 case atStart=>exact ⟨0,rfl,rfl,World.ownsRow_nil _ _ _ _,Below.refl _ _⟩
 case round =>
  obtain ⟨k,b2,rfl,ho,hB⟩:=hrel;by_cases hk:k<n
  ·
   have c2:(k:Int)<(n:Int):=by omega
   obtain ⟨ba,bc,rfl,_⟩:=jK ho;have a8:=jgk d pd F (base+k) wr (O.1.mod (Mod.of_below (F:=fun _=>False) hB) (fun _ _ h=>h)) (by omega)
   obtain ⟨x,hx⟩:=Nm (bl.getD k []);have b3:d.strs.getD (base+k) ByteArray.empty=SB x:=by rw [List.getD,L.1 k hk,← hx];rfl
   rw [b3,show ((base+k:Nat):Int)=(base:Int)+(k:Int) from by omega,show jo 0=.nilIface from rfl] at a8
   have E:=Hd a8;have B:=Hd ho;have H:=Hd hB;have R:=Hd hx;have G:=Hd b2;clear a8 ho hB hx b2 b3;go_wp2_with fail;refine E.1.mono ?_;rintro r w2 ⟨rfl,rfl⟩;clear E;have A:=Hd (fun ob=>jr B.1 (ja wr ob))
   have C:=Hd (vD wr x 9);have D:=Hd (fun ob=>Nat.le_trans H.1.size (ja wr ob).size)
   go_wp2_with (at_builtin;refine jiv rfl _ _ rfl w1.heap.size _ k ((bl.take k).map SV) rfl (A.1 _) _ [x] rfl C.1 (by rw [List.length_singleton];omega) (D.1 _) ?_)
   intro v' w3 a3 b4 _;have a0:=(H.1.trans ((ja wr _).mono H.1.size)).trans (ji b4 (D.1 _) (fun q hq=>((A.1 (.cells #[] 9)).lt q hq).1))
   have a4:w3.ownsRow w1.heap.size 9 1 v' (k+1) ((bl.take (k+1)).map SV):=by
    rw [List.take_succ_eq_append_getElem (by omega),List.map_append]
    have e1:bl[k]=x:=by rw [R.1];simp [List.getD,show k<bl.length by omega]
    rw [e1];simpa using a3
   have S:=Hd (And.intro a4 a0);clear a0 a4 a3 b4 A C D B H;go_wp2_with fail
   go_roundg (n-(k+1))
   case measure=>have:=G.1;omega
   case rel=>exact ⟨k+1,by have:=G.1;omega,by go_num,S.1⟩
  ·
   obtain rfl:k=n:=by omega
   rw [List.take_of_length_le (by omega)] at ho
   obtain ⟨ba,bc,rfl,_⟩:=jK ho;have b5:=jgO e (.slice ba k bc) bl wr (by rw [b1];exact jq ho) (by omega) (fun b hb=>by have:=J.1 b hb;omega)
   have I:=Hd b5;have H:=Hd hB;clear b5 ho hB;go_wp2_with fail;refine I.1.mono ?_;rintro r w3 ⟨ov,pre,b6,rfl,b7,a9,a0⟩;obtain ⟨va,vc,rfl,_⟩:=jK a9;have c0:w1.heap.size≤wr.heap.size:=H.1.size;have c3:w.heap.size<w1.heap.size:=K.1.lt;have b0:Below w1.heap.size w1 w3:=jh H.1 a0;have a1:xB w3 ⟨base,k,e,0,0,false⟩ w.heap.size pd:=Box.below K.1 b0;have s1:=Box.set a1 4 (.int .i64 ((yV e bl pre.length:Nat):Int));have f4:=Box.free a1 4;have f5:=Box.free s1 5;have c4:=Box.cell a1 4 _ rfl;have c5:=Box.cell s1 5 _ rfl;have S1:=Hd s1;have U:=Hd a1;have T:=Hd b7;have B:=Hd a9;have P:=Hd b0;have Q:=Hd b6;clear b6 b7 a9 a0 b0 a1 s1 H K I;go_wp2_with fail
   go_ret3
   have hm:=(Mod.set (fun b=>b=w.heap.size) w3 ⟨w.heap.size,4,none⟩ (.int .i64 ((yV e bl pre.length:Nat):Int)) rfl).trans (Mod.set (fun b=>b=w.heap.size) _ ⟨w.heap.size,5,none⟩ (.int .i64 (pre.length:Int)) rfl)
   have b8:=jh N.1 P.1;refine ⟨w.heap.size,_,pre,bl,b1,L.1,Q.1,rfl,(jhD T.1 hm (by omega)).lower (by omega),jcw (yB B.1 hm (fun q hq c6=>?_)) (by omega),b8.trans (hm.below b8.size (fun b hb=>by omega))⟩
   have:=(B.1.lt q hq).1;omega
end Go.Proofs.YtgcnolapjppbpaaGreatDoor
