/-
  Texts of one proof, one behind the other.
-/
import Derived.Test.YtgcnolapjppbpaaGreatDoorP36
import Derived.Test.YtgcnolapjppbpaaGreatDoorP11
import Derived.Test.YtgcnolapjppbpaaGreatDoorP00
namespace Go.Proofs.YtgcnolapjppbpaaGreatDoor
open Go.RowKit _root_.Go.Proofs.Tryz
set_option maxRecDepth 100000
set_option maxHeartbeats 25600000
theorem jk3 (a:Option Addr)(n cap k e:Nat)(hk:k≤e)(he:e≤cap)(w:World):(Instr.slice 92 (.slice a n cap) (some (.int .i64 (k:Int))) (some (.int .i64 (e:Int))) none).run prog w=.ok (.slice (if cap=k then a else a.map (·.add k)) (e-k) (cap-k)) w:=by
 have hx:prog.elem 92=5:=by unfold Program.elem;rw [underlying92]
 have a0:(sizeOf 5).run prog w=.ok 1 w:=by
  obtain ⟨i0,hi,a2,a1,a3⟩:=info_parts vG
  simp [sizeOf,typeInfo,hi,a1]
 rw [run_slice_lh w 92 a n cap (by rw [hx];exact underlying92) .i64 .i64 (k:Int) (e:Int) (by omega) (by omega) (by omega),hx,a0]
 simp [Result.andThen,sliced]
theorem jjY {w:World}{a:Option Addr}{n cap k e:Nat}{xs:List Value}(h:Rd w (.slice a n cap) n xs)(hk:k≤e)(he:e≤n)(hx:xs.length≤n):Rd w (.slice (if cap=k then a else a.map (·.add k)) (e-k) (cap-k)) (e-k) ((xs.drop k).take (e-k)):=by
 have hc:n≤cap:=by obtain ⟨_,_,g1,g2,_⟩:=h;injection g1 with _ _ g3;omega
 have:=xD h (k:=k) (by omega) hx
 unfold xE at this;exact this.cut (by omega) (e-k)
theorem jdM (d:DiskM)(rp:Nat)(G:Nat→Prop)(at_ n:Int)(e:UInt32)(v:Value)(l:List UInt8)(w:World)(h:IsRef w d rp G)(hN:d.strs.length≤4096)(hv:Rd w v l.length (l.map V8))(hx:0<l.length→∀ k,v.ownBlock=some k→¬ G k)(ht:d.trail.length≤90000000000)(ha:I64 at_)(hn:I64 n)(hl:l.length≤140737488355000) :
  Calls prog 111 #[.pointer (some ⟨rp,0,none⟩),.int .i64 at_,.int .i64 n,.int .u32 (I32 e),v] w fun r w'=>r=.returned (.int .i64 (yv d at_ n e.toNat l).2)∧∃ G',IsRef w' (yv d at_ n e.toNat l).1 rp G'∧Mod G w w'∧∀ k,G' k→G k∨w.heap.size≤k:=by
 obtain ⟨va,vc,rfl⟩:∃ a c,v=.slice a l.length c:=by obtain ⟨a,c,h,_⟩:=hv;exact ⟨a,c,h⟩
 have C:=Hd (jac d rp G at_ n w h hN ha hn);have L:=Hd h;have S:=Hd hv;have T:=Hd hx;by_cases hm:zt d.strs.length at_ n
 ·
  rw [decide_eq_true hm] at C;have c4:=hm;unfold zt at c4;obtain ⟨m1,m2,m3⟩:=c4;have e7:n≤4096:=by omega
  have e8:at_≤4096:=by omega
  by_cases h3:n*256<(l.length:Int)
  ·
   have e1:yv d at_ n e.toNat l=(d,3):=by unfold yv;rw [if_pos hm,if_pos h3]
   rw [e1];clear h hv hx ha hn hN m3 hm e1;go_enter func111,ntmps111;go_wp2_with fail;refine C.1.mono ?_;rintro r w1 ⟨rfl,rfl⟩;go_wp2_with fail;go_ret;exact ⟨rfl,G,L.1,Mod.refl _ _,fun k hk=>.inl hk⟩
  ·
   have e9:decide (n*256<(l.length:Int))=false:=by simp;omega
   obtain ⟨fb,b1⟩:=Nm (yL at_ n e.toNat);have c5:yv d at_ n e.toNat l=if (jI d fb (jA l.length l)).2=0 then (jI d fb (jA l.length l)).1.write at_ (SB (xw e.toNat l)) else jI d fb (jA l.length l):=by
    unfold yv;rw [if_pos hm,if_neg h3,b1]
   have I:=Hd c5;have E:=Hd (show l.length≤1048576 by omega)
   have J:=Hd (uf at_ n e w (by omega) (by omega))
   rw [← b1] at J;have a1:0≤fb∧fb≤10000:=by
    rw [b1];unfold yL;have:e.toNat % 2=0∨e.toNat % 2=1:=by omega
    rcases this with h2 | h2 <;> rw [h2] <;> simp <;> omega
   have d7:=a1.1;have U:=Hd a1.2;have f0:l.length≤vc:=by obtain ⟨_,_,g1,g2,_⟩:=hv;injection g1 with _ _ g3;omega
   clear h hv hx ha hn hN m3 hm b1 c5 h3 a1;go_enter func111,ntmps111;go_wp2_with fail;refine C.1.mono ?_;rintro r w1 ⟨rfl,rfl⟩;go_wp2_with fail;refine J.1.mono ?_;rintro r w1 ⟨rfl,rfl⟩;go_wp2_with fail;have c6:∃ (i:Nat) (b:Int) (d':DiskM) (G':Nat→Prop),l.length=l.length-i*256∧(Value.int .i64 fb)=.int .i64 b∧(Value.int .i64 0)=.int .i64 ((i*256:Nat):Int)∧IsRef w d' rp G'∧Mod G w w∧(∀ k,G' k→G k∨w.heap.size≤k) ∧
     jI d fb (jA l.length l)=jI d' b (jA (l.drop (i*256)).length (l.drop (i*256)))∧d'.trail.length≤d.trail.length+i∧b=fb+i∧i≤l.length :=
    ⟨0,fb,d,G,by omega,rfl,rfl,L.1,Mod.refl _ _,fun k hk=>.inl hk,by simp,Nat.le_refl _,by simp,Nat.zero_le _⟩
   have K:=Hd c6;clear c6
   go_loopg [11,12] l.length (fun gk bv iv wr=>∃ (i:Nat) (b:Int) (d':DiskM) (G':Nat→Prop),gk=l.length-i*256∧bv=.int .i64 b∧iv=.int .i64 ((i*256:Nat):Int)∧IsRef wr d' rp G'∧Mod G w wr∧(∀ k,G' k→G k∨w.heap.size≤k) ∧
     jI d fb (jA l.length l)=jI d' b (jA (l.drop (i*256)).length (l.drop (i*256)))∧d'.trail.length≤d.trail.length+i∧b=fb+i∧i≤l.length)
   case atStart=>exact K.1
   case round =>
    clear K;obtain ⟨i,b,d',G',c0,rfl,rfl,b2,a2,b3,a0,c7,c1,c8⟩:=hrel;have V:=Hd c0;have W:=Hd b2;have H:=Hd a2;have A:=Hd b3;have M:=Hd a0;have H6:=Hd (show 0<l.length→∀ k,(Value.slice va l.length vc).ownBlock=some k→¬ G' k from fun h0 k hk hf=>by
     rcases b3 k hf with h1 | h1
     · exact T.1 h0 k hk h1
     · have:=S.1.blk (by rw [List.length_map];exact h0) k hk;omega)
    have b4:=S.1.mod0 a2 (fun h0 k hk=>T.1 (by rw [List.length_map] at h0;exact h0) k hk)
    obtain ⟨lo,a6⟩:=Nm (i*256);rw [← a6];have f1:0≤b:=by omega
    by_cases hq:lo<l.length
    ·
     have d9:(lo:Int)<(l.length:Int):=by omega
     have e4:(0:Int)≤(lo:Int):=by omega
     obtain ⟨en,e0⟩:=Nm (min (lo+256) l.length);have e2:∀ ts t w',(Builtin.min_ ts t #[.int .i64 ((lo:Int)+256),.int .i64 (l.length:Int)]).run prog w'=.ok (.int .i64 (en:Int)) w':=fun ts t w'=>by
      rw [run_min_int2]
      congr 2
      by_cases h:(l.length:Int)<(lo:Int)+256
      · rw [if_pos h];omega
      · rw [if_neg h];omega
     have c9:=jk3 va l.length vc lo en (by omega) (by omega)
     have b5:=jjY b4 (k:=lo) (e:=en) (by omega) (by omega) (by rw [List.length_map];exact Nat.le_refl _)
     rw [← List.map_drop,← List.map_take] at b5;obtain ⟨q,a7⟩:=Nm (l.drop lo);rw [← a7] at b5;have c2:q.length=l.length-lo:=by rw [a7,List.length_drop]
     have a9:q ≠ []:=fun e=>by rw [e] at c2;simp at c2;omega
     have d0:(q.take (en-lo)).length=en-lo:=by rw [List.length_take];omega
     have kc:=vU (q.take (en-lo)) b5 d0.symm;obtain ⟨ma,d1⟩:=Nm ((if vc=lo then va else va.map (·.add lo)))
     rw [← d1] at c9 kc;have a8:q.take 256=q.take (en-lo):=by
      rcases Nat.le_total q.length 256 with h1 | h1
      · rw [List.take_of_length_le h1,List.take_of_length_le (by omega)]
      · rw [show en-lo=256 by omega]
     have d3:q.drop 256=l.drop ((i+1)*256):=by rw [a7,List.drop_drop];congr 1;omega
     rw [a6.symm,← a7] at a0;have a3:(d'.write b (SB (q.take (en-lo)))).2=0→jI d fb (jA l.length l)=jI (d'.write b (SB (q.take (en-lo)))).1 (b+1) (jA (l.drop ((i+1)*256)).length (l.drop ((i+1)*256))):=fun h0=>by
      rw [a0,show jA q.length q=jA (q.length-1+1) q by rw [Nat.sub_add_cancel (by omega)],jbY _ _ _ _ a9 (by rw [a8];exact h0),a8,d3]
      rw [uq (q.length-1) (l.drop ((i+1)*256)).length (l.drop ((i+1)*256)) (by rw [List.length_drop];omega) (Nat.le_refl _)]
     have a4:(d'.write b (SB (q.take (en-lo)))).2≠0→yv d at_ n e.toNat l=d'.write b (SB (q.take (en-lo))):=fun h0=>by
      have:jI d fb (jA l.length l)=d'.write b (SB (q.take (en-lo))):=by
       rw [a0,show jA q.length q=jA (q.length-1+1) q by rw [Nat.sub_add_cancel (by omega)],jbR _ _ _ _ a9 (by rw [a8];exact h0),a8]
      rw [I.1,this,if_neg h0]
     have b0:=(d'.write_trail b (SB (q.take (en-lo)))).1;have a5:=vm d' b (SB (q.take (en-lo)));have d4:(SB (q.take (en-lo))).size≤9223372036854775807:=by rw [SB_size];omega
     have B:=Hd (zD d' rp G' b (SB (q.take (en-lo))) wr b2 (by have:=E.1;omega) d4)
     obtain ⟨tx,d5⟩:=Nm (SB (q.take (en-lo)));obtain ⟨d2,b6⟩:=Nm ((d'.write b tx).1);obtain ⟨er,b7⟩:=Nm ((d'.write b tx).2);rw [← d5] at kc b0 a5 B a3 a4;rw [← b6,← b7] at B a3;rw [← b6] at b0;rw [← b7] at a5 a4;have N:=Hd a3;have O:=Hd a4;have X:=Hd (show d2.trail.length≤d.trail.length+(i+1) by omega)
     have Y:=Hd b6;have Z:=Hd b7;have H0:=Hd a6;have H1:=Hd c1;have e3:b<1000000000:=by have:=E.1;have:=U.1;omega
     have e5:(lo:Int)≤(en:Int):=by omega
     have e6:(en:Int)≤(vc:Int):=by omega
     have d8:(lo:Int)<1000000000:=by have:=E.1;omega
     have H2:=Hd (show i+1≤l.length by omega)
     have P:=Hd (show l.length-(i+1)*256<l.length-i*256 by omega)
     clear c0 b2 a2 b3 a0 c7 c1 c8 b4 a6 e0 b5 a7 c2 a9 d0 a8 d3 a3 a4 b0 d4 b6 b7 d5 hq d1;by_cases h0:er=0
     ·
      rw [h0] at B;clear a5;go_wp2_with fail;refine B.1.mono ?_;rintro r w3 ⟨rfl,G3,g1,g2,g3⟩;have D:=Hd (show ∃ G',IsRef w3 d2 rp G'∧Mod G w w3∧(∀ k,G' k→G k∨w.heap.size≤k) from ⟨G3,g1,H.1.then g2 (fun k hk=>A.1 k hk),fun k hk=>by
       rcases g3 k hk with h1 | h1
       · exact A.1 k h1
       · right;have:=H.1.size;omega⟩)
      clear g1 g2 g3;go_wp2_with fail
      go_roundg (l.length-(i+1)*256)
      case measure=>have:=V.1;have:=P.1;omega
      case rel =>
       obtain ⟨G4,g1,g2,g3⟩:=D.1;refine ⟨i+1,b+1,d2,G4,rfl,by go_num,?_,g1,g2,g3,N.1 h0,X.1,by have:=H1.1;omega,H2.1⟩
       rw [show ((i+1)*256:Nat)=lo+256 by have:=H0.1;omega]
       go_num
     ·
      have Q:=Hd (O.1 h0);clear a5;go_wp2_with fail;refine B.1.mono ?_;rintro r w3 ⟨rfl,G3,g1,g2,g3⟩;have D:=Hd (show ∃ G',IsRef w3 d2 rp G'∧Mod G w w3∧(∀ k,G' k→G k∨w.heap.size≤k) from ⟨G3,g1,H.1.then g2 (fun k hk=>A.1 k hk),fun k hk=>by
       rcases g3 k hk with h1 | h1
       · exact A.1 k h1
       · right;have:=H.1.size;omega⟩)
      clear g1 g2 g3 e3 d8 ht hl e2 c9 kc d7;go_wp2_with fail;go_ret;rw [Q.1,← Z.1,← Y.1];exact ⟨rfl,D.1⟩
    ·
     have d9:¬ ((lo:Int)<(l.length:Int)):=by omega
     have d6:l.drop (i*256) = []:=List.drop_eq_nil_of_le (by omega)
     have b8:jI d fb (jA l.length l)=(d',0):=by rw [M.1,d6];exact jc0 _ _ _
     have c3:yv d at_ n e.toNat l=d'.write at_ (SB (xw e.toNat l)):=by rw [I.1,b8,if_pos rfl]
     have R:=Hd c3;have Hh:=Hd (vY e (.slice va l.length vc) l wr b4);have H3:=Hd (show d'.trail.length≤100000000000 by have:=E.1;omega)
     clear c0 b2 a2 b3 a0 c7 c1 c8 b4 a6 d6 b8 c3;go_wp2_with fail;refine Hh.1.mono ?_;rintro r w3 ⟨rfl,b9⟩;have B:=Hd (zD d' rp G' at_ (SB (xw e.toNat l)) w3 (W.1.below b9) H3.1 (by rw [SB_size,zo];omega))
     rw [← R.1] at B;have H4:=Hd (H.1.then (Mod.of_below (F:=fun _=>False) b9) (fun _ h=>h.elim))
     have H5:=Hd (Nat.le_trans H.1.size b9.size);clear b9 Hh;go_wp2_with fail;refine B.1.mono ?_;rintro r w4 ⟨rfl,G4,g1,g2,g3⟩;have D:=Hd (show ∃ G',IsRef w4 (yv d at_ n e.toNat l).1 rp G'∧Mod G w w4∧∀ k,G' k→G k∨w.heap.size≤k from ⟨G4,g1,H4.1.then g2 (fun k hk=>A.1 k hk),fun k hk=>by
      rcases g3 k hk with h1 | h1
      · exact A.1 k h1
      · right;have:=H5.1;omega⟩)
     clear g1 g2 g3;go_wp2_with fail;go_ret;exact ⟨rfl,D.1⟩
 ·
  rw [decide_eq_false hm] at C;have e1:yv d at_ n e.toNat l=(d,1):=by unfold yv;rw [if_neg hm]
  rw [e1];clear h hv hx ha hn hN hm e1;go_enter func111,ntmps111;go_wp2_with fail;refine C.1.mono ?_;rintro r w1 ⟨rfl,rfl⟩;go_wp2_with fail;go_ret;exact ⟨rfl,G,L.1,Mod.refl _ _,fun k hk=>.inl hk⟩
theorem jdx (d:DiskM)(rp:Nat)(G:Nat→Prop)(fb:Int)(z:Nat)(w:World)(h:IsRef w d rp G)(b0:d.Wf)(ht:d.trail.length≤100000000000)(hs:∀ b,(jX d b).length≤9223372036854775807)(c1:0≤fb)(a6:fb≤10000)(hz:z≤1048576) :
  Calls prog 141 #[.pointer (some ⟨rp,0,none⟩),.int .i64 fb,.int .i64 (z:Int)] w fun e w'=>∃ v,e=.returned (.tuple #[v,.bool (yA d (z+1) fb z []).isSome])∧OwnM w' w.heap.size 5 v ((yA d (z+1) fb z []).getD []).length (((yA d (z+1) fb z []).getD []).map V8)∧Below w.heap.size w w':=by
 have O:=Hd h;have P:=Hd b0;have Q:=Hd ht;have R:=Hd hs;have S:=Hd hz;have J:=Hd a6;have c3:(z:Int)≤1048576:=by omega
 clear h b0 ht hs hz a6;go_enter func141,ntmps141;go_wp2_with fail
 go_loopg [8,9] (z+1) (fun gk dv iv wr=>∃ (acc:List UInt8) (i:Nat),gk=z+1-i∧iv=.int .i64 (i:Int)∧OwnM wr w.heap.size 5 dv acc.length (acc.map V8)∧Below w.heap.size w wr∧yA d (z+1) fb z []=yA d (z+1-i) (fb+i) z acc∧i≤acc.length∧acc.length≤z)
 case atStart=>exact ⟨[],0,rfl,rfl,OwnM.nil _ _ _,Below.refl _ _,by simp,Nat.zero_le _,Nat.zero_le _⟩
 case round =>
  obtain ⟨acc,i,b1,rfl,a3,b2,a4,c4,c5⟩:=hrel;obtain ⟨da,dc,rfl⟩:=a3.form;have K:=Hd b1;have F:=Hd a3;have B:=Hd b2;have C:=Hd a4;clear b1 a3 b2 a4;by_cases hlt:acc.length<z
  ·
   have b9:(acc.length:Int)<(z:Int):=by omega
   have c6:(i:Int)≤(z:Int):=by omega
   obtain ⟨b,hb⟩:∃ b,b=fb+(i:Int):=⟨_,rfl⟩;have a0:=uj d rp G b wr (O.1.below B.1) P.1 Q.1;rw [ja3] at a0;obtain ⟨k,hk⟩:=Nm (min (z-acc.length) 256);have c7:∀ ts t w',(Builtin.min_ ts t #[.int .i64 ((z:Int)-(acc.length:Int)),.int .i64 256]).run prog w'=.ok (.int .i64 (k:Int)) w':=fun ts t w'=>by
    rw [run_min_int2]
    congr 2
    by_cases h:(256:Int)<(z:Int)-(acc.length:Int)
    · rw [if_pos h];omega
    · rw [if_neg h];omega
   obtain ⟨t,a1⟩:=Nm (jX d b);have c8:t.length≤9223372036854775807:=by rw [a1];exact R.1 b
   have b3:t.length<k→yA d (z+1) fb z []=none:=fun h=>by
    rw [C.1];exact jfq d _ _ z acc (by omega) hlt (by rw [← hb,← a1,← hk];exact h)
   have a7:¬ t.length<k→yA d (z+1) fb z []=yA d (z+1-(i+1)) (fb+((i+1:Nat):Int)) z (acc++t.take k):=fun h=>by
    rw [C.1,show z+1-i=(z+1-(i+1))+1 by omega,jcE d _ _ z acc hlt (by rw [← hb,← a1,← hk];exact h),← hb,← a1,← hk,show b+1=fb+((i+1:Nat):Int) by omega]
   rw [← a1] at a0;obtain ⟨er,b4⟩:=Nm ((d.read b).2);rw [← b4] at a0;obtain ⟨tx,a5⟩:=Nm (SB t);have c2:tx.size=t.length:=by rw [a5,SB_size]
   rw [← a5] at a0;have c9:0<k:=by omega
   have d0:acc.length+k≤z:=by omega
   have d1:fb+(i:Int)=b:=hb.symm;have d2:b<1000000000:=by have:=J.1;omega
   have d3:(i:Int)≤1048576:=by omega
   have D:=Hd a0;have E:=Hd b3;have A:=Hd a7;have L:=Hd a5;clear a0 b3 a7 a1 a5 b4 hk hb;by_cases hlk:t.length<k
   ·
    have I:=Hd (E.1 hlk);have c0:(t.length:Int)<(k:Int):=by omega
    clear E A;go_wp2_with fail;refine D.1.mono ?_;rintro r w3 ⟨rfl,rfl⟩;go_wp2_with fail
    go_ret2
    rw [I.1];exact ⟨_,rfl,OwnM.nil _ _ _,B.1⟩
   ·
    have c0:decide ((t.length:Int)<(k:Int))=false:=by simp;omega
    have b5:=fun w=>je8 w t k (by omega)
    rw [← L.1] at b5;obtain ⟨tk,a8⟩:=Nm (SB (t.take k));rw [← a8] at b5;have M:=Hd a8;have T:=Hd (A.1 hlk);have a9:(t.take k).length=k:=by rw [List.length_take];omega
    have H:=Hd a9;have b6:=B.1.size;clear a8 a9 A E;go_wp2_with fail;refine D.1.mono ?_;rintro r w3 ⟨rfl,rfl⟩
    go_wp2_with (at_builtin;refine jeA rfl _ _ rfl w.heap.size _ _ _ rfl F.1 (t.take k) (by show Value.string tk=_;rw [M.1]) (by rw [H.1];have:=S.1;omega) b6 ?_)
    intro v' w4 a2 b7 _;have b8:=B.1.trans (ji b7 b6 (fun q hq=>(F.1.lt q hq).1))
    rw [← List.map_take,← List.map_append,Nat.min_eq_left (by omega)] at a2
    have N:=Hd (And.intro a2 b8);clear a2 b7 b8;go_wp2_with fail
    go_roundg (z+1-(i+1))
    case measure=>have:=K.1;omega
    case rel=>exact ⟨acc++t.take k,i+1,rfl,by go_num,by rw [List.length_append,H.1];exact N.1.1,N.1.2,T.1,by rw [List.length_append,H.1];omega,by rw [List.length_append,H.1];omega⟩
  ·
   have b9:¬ ((acc.length:Int)<(z:Int)):=by omega
   have I:=Hd (show yA d (z+1) fb z []=some acc by rw [C.1,jcz _ _ _ _ _ hlt])
   go_wp2_with fail
   go_ret2
   rw [I.1];exact ⟨_,rfl,F.1,B.1⟩
def jkO (W:World)(r:Nat × List UInt8 × Int)(e:Ending)(W':World):Prop :=
 ∃ v,e=.returned (.tuple #[.int .u32 (r.1:Int),v,.int .i64 r.2.2])∧OwnM W' W.heap.size 5 v r.2.1.length (r.2.1.map V8)∧Below W.heap.size W W'
theorem jdN (d:DiskM)(rp:Nat)(G:Nat→Prop)(at_ n:Int)(w:World)(h:IsRef w d rp G)(b0:d.Wf)(hN:d.strs.length≤4096)(ht:d.trail.length≤100000000000)(ha:I64 at_)(hn:I64 n)(hs:∀ b,(jX d b).length≤9223372036854775807) :
  Calls prog 105 #[.pointer (some ⟨rp,0,none⟩),.int .i64 at_,.int .i64 n] w (jkO w (jY d at_ n)):=by
 have F:=Hd (jac d rp G at_ n w h hN ha hn);have T:=Hd h;have X:=Hd hs;have K:=Hd (fun fb z w (h:IsRef w d rp G)=>jdx d rp G fb z w h b0 ht hs)
 by_cases hm:zt d.strs.length at_ n
 ·
  rw [decide_eq_true hm] at F;have b8:=hm;unfold zt at b8;obtain ⟨m1,m2,m3⟩:=b8;have c8:n≤4096:=by omega
  have c9:at_≤4096:=by omega
  have b2:jY d at_ n=(if jX d at_ = [] then (0,[],10)
   else if (jX d at_).length=16 then
    if n*256<((yC (jX d at_) 4:Nat):Int) then (0,[],21)
    else match yA d (yC (jX d at_) 4+1) (yL at_ n (yC (jX d at_) 0)) (yC (jX d at_) 4) [] with
     | none=>(0,[],21)
     | some p=>if xw (yC (jX d at_) 0) p=jX d at_ then (yC (jX d at_) 0,p,0) else (0,[],21)
   else (0,[],21):Nat × List UInt8 × Int):=by unfold jY;rw [if_pos hm];rfl
  have a5:=uj d rp G at_ w h b0 ht;rw [ja3] at a5;obtain ⟨s,b3⟩:=Nm (jX d at_);obtain ⟨er,b9⟩:=Nm ((d.read at_).2);rw [← b3] at b2 a5;rw [← b9] at a5;have d0:s.length≤9223372036854775807:=by rw [b3];exact hs at_
  have A:=Hd a5;have H:=Hd b2;clear h hs ha hn hN m3 hm b2 a5 b3 b9 b0 ht;by_cases hs0:s = []
  ·
   have hl:jY d at_ n=(0,[],10):=by rw [H.1,if_pos hs0]
   rw [hl];obtain ⟨st,a0⟩:=Nm (SB s);have c2:st.toList.isEmpty=true:=by rw [a0,jk,hs0];rfl
   rw [← a0] at A;clear a0 hs0 hl H;go_enter func105,ntmps105;go_wp2_with fail;refine F.1.mono ?_;rintro r w1 ⟨rfl,rfl⟩;go_wp2_with fail;refine A.1.mono ?_;rintro r w2 ⟨rfl,rfl⟩;go_wp2_with fail
   go_ret3
   exact ⟨_,rfl,OwnM.nil _ _ _,Below.refl _ _⟩
  ·
   obtain ⟨st,a0⟩:=Nm (SB s);have c2:st.toList.isEmpty=false:=by
    rw [a0,jk]
    cases s with
    | nil=>exact absurd rfl hs0
    | cons _ _=>rfl
   have d1:st.size=s.length:=by rw [a0,SB_size]
   rw [← a0] at A;by_cases h16:s.length=16
   ·
    have a9:jY d at_ n=(if n*256<((yC s 4:Nat):Int) then (0,[],21)
     else match yA d (yC s 4+1) (yL at_ n (yC s 0)) (yC s 4) [] with
      | none=>(0,[],21)
      | some p=>if xw (yC s 0) p=s then (yC s 0,p,0) else (0,[],21):Nat × List UInt8 × Int):=by rw [H.1,if_neg hs0,if_pos h16]
    have a6:=fun w=>vi s 0 w (by omega) (by omega)
    have a7:=fun w=>vi s 4 w (by omega) (by omega)
    obtain ⟨eu,c0⟩:=Nm (UInt32.ofNat (yC s 0));have b4:yC s 0=eu.toNat:=by
     rw [c0];show yC s 0=yC s 0 % 2 ^ 32;have:=ja2 s 0;omega
    obtain ⟨z,hz⟩:=Nm (yC s 4);have b5:z<4294967296:=by rw [hz];exact ja2 s 4
    rw [← a0,b4] at a6;rw [← a0,← hz] at a7;rw [b4,← hz] at a9
    replace a6:∀ w,Calls prog 140 #[.string st,.int .i64 0] w fun e w'=>e=.returned (.int .u32 (I32 eu))∧∃ k,w'=w.drewN k:=a6
    replace a7:∀ w,Calls prog 140 #[.string st,.int .i64 4] w fun e w'=>e=.returned (.int .u32 (z:Int))∧∃ k,w'=w.drewN k:=a7
    have M:=Hd a6;have N:=Hd a7;have C:=Hd a9;have O:=Hd a0;have W:=Hd b5;have c6:∀ w,(convert 87 3 (.int .u32 (z:Int))).run prog w=.ok (.int .i64 (z:Int)) w:=fun w=>by
     rw [run_convert_int (P:=prog) w 87 3 .u32 (z:Int) (by kernel_rfl) (by kernel_rfl),show prog.intKind 3=.i64 by kernel_rfl]
     have c3:IntKind.i64.wrap (z:Int)=(z:Int):=by
      simp [IntKind.wrap,IntKind.bits,IntKind.signed];omega
     rw [c3]
    clear a0 hs0 a6 a7 c0 b4 hz a9 H b5;go_enter func105,ntmps105;go_wp2_with fail;refine F.1.mono ?_;rintro r w1 ⟨rfl,rfl⟩;go_wp2_with fail;refine A.1.mono ?_;rintro r w2 ⟨rfl,rfl⟩;go_wp2_with fail;refine (M.1 _).mono ?_;rintro r w1 ⟨rfl,k1,rfl⟩;go_wp2_with fail;refine (N.1 _).mono ?_;rintro r w3 ⟨rfl,k2,rfl⟩;have b6:Below w2.heap.size w2 ((w2.drewN k1).drewN k2):=⟨rfl,rfl,rfl,Nat.le_refl _,fun _ _=>rfl⟩
    have B:=Hd b6;have Q:=Hd (T.1.below b6);generalize (w2.drewN k1).drewN k2=w4 at B Q ⊢;clear b6 M N;by_cases hz:n*256<(z:Int)
    ·
     have D:=Hd (show jY d at_ n=(0,[],21) by rw [C.1,if_pos hz])
     go_wp2_with fail
     go_ret3
     rw [D.1];exact ⟨_,rfl,OwnM.nil _ _ _,B.1⟩
    ·
     obtain ⟨fb,b1⟩:=Nm (yL at_ n eu.toNat);have b7:jY d at_ n=(match yA d (z+1) fb z [] with
      | none=>(0,[],21)
      | some p=>if xw eu.toNat p=s then (eu.toNat,p,0) else (0,[],21):Nat × List UInt8 × Int):=by rw [C.1,if_neg hz,b1]
     have d2:decide (n*256<(z:Int))=false:=by simp;omega
     have U:=Hd (show z≤1048576 by omega)
     have R:=Hd (uf at_ n eu w4 (by omega) (by omega))
     rw [← b1] at R;have a4:0≤fb∧fb≤10000:=by
      rw [b1];unfold yL;have:eu.toNat % 2=0∨eu.toNat % 2=1:=by omega
      rcases this with h2 | h2 <;> rw [h2] <;> simp <;> omega
     have E:=Hd (K.1 fb z w4 Q.1 a4.1 a4.2 U.1);have J:=Hd b7;clear b1 a4 b7 C hz;go_wp2_with fail;refine R.1.mono ?_;rintro r w5 ⟨rfl,rfl⟩;go_wp2_with fail;refine E.1.mono ?_;rintro r w5 ⟨lv,rfl,a1,a8⟩;obtain ⟨la,lc,rfl⟩:=a1.form
     cases hli:yA d (z+1) fb z [] with
     | none =>
      have D:=Hd (show jY d at_ n=(0,[],21) by rw [J.1,hli])
      rw [show (none:Option (List UInt8)).isSome=false from rfl]
      have I:=Hd (jh B.1 a8);clear a1 a8 E hli;go_wp2_with fail
      go_ret3
      rw [D.1];exact ⟨_,rfl,OwnM.nil _ _ _,I.1⟩
     | some acc =>
      rw [hli] at a1
      replace a1:OwnM w5 w4.heap.size 5 (.slice la acc.length lc) acc.length (acc.map V8):=a1
      rw [show (some acc:Option (List UInt8)).isSome=true from rfl,show ((some acc:Option (List UInt8)).getD []).length=acc.length from rfl]
      have a2:jY d at_ n=if xw eu.toNat acc=s then (eu.toNat,acc,0) else (0,[],21):=by rw [J.1,hli]
      have L:=Hd (vY eu (.slice la acc.length lc) acc w5 a1.rd);have V:=Hd (a1.lower B.1.size);have S:=Hd (jh B.1 a8);by_cases he:xw eu.toNat acc=s
      ·
       rw [if_pos he] at a2;rw [he,← O.1] at L;have D:=Hd a2;have c5:((st.toList==st.toList)=true):=by simp
       clear a2 he hli a1 a8 E;go_wp2_with fail;refine L.1.mono ?_;rintro r w6 ⟨rfl,a3⟩;have I:=Hd (And.intro (V.1.below a3) (jh S.1 a3));clear a3;go_wp2_with fail
       go_ret3
       rw [D.1];exact ⟨_,rfl,I.1.1,I.1.2⟩
      ·
       rw [if_neg he] at a2;have c4:((SB (xw eu.toNat acc)).toList==st.toList)=false:=by rw [O.1,jk,jk,beq_eq_false_iff_ne];exact he
       obtain ⟨hx,c1⟩:=Nm (SB (xw eu.toNat acc));rw [← c1] at L c4;have D:=Hd a2;clear a2 he hli a1 a8 E c1;go_wp2_with fail;refine L.1.mono ?_;rintro r w6 ⟨rfl,a3⟩;have I:=Hd (jh S.1 a3);clear a3;go_wp2_with fail
       go_ret3
       rw [D.1];exact ⟨_,rfl,OwnM.nil _ _ _,I.1⟩
   ·
    have hl:jY d at_ n=(0,[],21):=by rw [H.1,if_neg hs0,if_neg h16]
    rw [hl];have c7:¬ ((s.length:Int)=16):=by omega
    clear a0 hs0 hl H;go_enter func105,ntmps105;go_wp2_with fail;refine F.1.mono ?_;rintro r w1 ⟨rfl,rfl⟩;go_wp2_with fail;refine A.1.mono ?_;rintro r w2 ⟨rfl,rfl⟩;go_wp2_with fail
    go_ret3
    exact ⟨_,rfl,OwnM.nil _ _ _,Below.refl _ _⟩
 ·
  rw [decide_eq_false hm] at F;have e1:jY d at_ n=(0,[],1):=by unfold jY;rw [if_neg hm]
  rw [e1];clear h hs ha hn hN hm e1 b0 ht;go_enter func105,ntmps105;go_wp2_with fail;refine F.1.mono ?_;rintro r w1 ⟨rfl,rfl⟩;go_wp2_with fail
  go_ret3
  exact ⟨_,rfl,OwnM.nil _ _ _,Below.refl _ _⟩
theorem jdh:∀ (l:List UInt8) (i u:Nat),(xi i u l).1=0→(xi i u l).2.2≤i+l.length∧i<(xi i u l).2.2
 | [],i,u=>by intro h;unfold xi at h;exact absurd h (by decide)
 | c::l,i,u=>by
  intro h;unfold xi at h ⊢
  split at h
  · exact absurd h (by decide)
  ·
   rename_i hf
   rw [if_neg hf]
   split at h
   ·
    rename_i h8
    rw [if_pos h8];simp only [List.length_cons];omega
   ·
    rename_i h8
    rw [if_neg h8];have:=jdh l (i+1) _ h;simp only [List.length_cons];omega
theorem ja6 (l:List UInt8)(h:(jW l).1=0):(jW l).2.2≤l.length:=by
 have:=(jdh l 0 0 h).1;unfold jW;omega
theorem vI (v:Value)(l:List UInt8)(w:World)(h:Rd w v l.length (l.map V8))(a9:l.length≤1000000000000) :
  Calls prog 169 #[v] w fun e w'=>e=.returned (.tuple #[.int .u64 ((jW l).2.1:Int),.int .i64 ((jW l).2.2:Int),.int .i64 (jW l).1])∧w'=w:=by
 obtain ⟨N,hN⟩:=Nm (jW l);rw [← hN];have E:=Hd hN;obtain ⟨a,cap,rfl,h1,h2,h3,h4⟩:=h;have F:=Hd h4;clear hN h4 h3;go_enter func169,ntmps169;go_wp2_with fail
 go_loopg [5,6] 10 (fun gk vv iv wr=>∃ (i u:Nat),gk+i=10∧i≤9∧vv=.int .u64 (u:Int)∧iv=.int .i64 (i:Int)∧u<2 ^ (7*i)∧i≤l.length∧xi i u (l.drop i)=N∧wr=w)
 case atStart=>exact ⟨0,0,rfl,by omega,rfl,rfl,by omega,by omega,E.1.symm,rfl⟩
 case round =>
  obtain ⟨i,u,a2,hi,rfl,rfl,hu,a7,hG,rfl⟩:=hrel;have i0:(0:Int)≤(i:Int):=by omega
  have i10:(i:Int)<10:=by omega
  by_cases hk:i<l.length
  ·
   obtain ⟨c,hc⟩:=Nm (l.getD i 0);have hd:l.drop i=c::l.drop (i+1):=by
    rw [List.drop_eq_getElem_cons hk,hc];simp [List.getD,hk]
   rw [hd] at hG;obtain ⟨b,off,rfl,a6⟩:=F.1 i (by simpa using hk)
   obtain ⟨y,hy⟩:=Nm (c.toNat);have b0:wr.cell? ⟨b,off+i,none⟩=some (.int .u8 (y:Int)):=by rw [a6,hy,hc];simp [hk,V8]
   unfold xi at hG;rw [← hy] at hG;have a3:y<256:=by rw [hy];exact c.toNat_lt
   obtain ⟨m,hm⟩:=Nm (y % 128);have a0:m<128:=by omega
   have a8:bits .and .u8 (y:Int) 127=(m:Int):=jjm y m a3 hm;have b1:IntKind.u64.wrap (m:Int)=(m:Int):=by simp [IntKind.wrap,IntKind.bits,IntKind.signed];omega
   have z7:IntKind.i64.wrap (7*(i:Int))=7*(i:Int):=by simp [IntKind.wrap,IntKind.bits,IntKind.signed];omega
   have i9:(i:Int)≤9:=by omega
   have k1:(i:Int)<(l.length:Int):=by omega
   have B:=Hd a2;have C:=Hd hk;clear hd hc a7 a6
   rcases (show (i=9∧1<y)∨(i=9∧y=0)∨(i≠9∧0<i∧y=0)∨(i=0)∨(i≠9∧0<i∧y≠0)∨(i=9∧y=1) by omega) with hcs | hcs | hcs | hcs | hcs | hcs
   ·
    have f9:((i:Int)==9)=true:=by simp;omega
    have fg:(1:Int)<(y:Int):=by omega
    have H:=Hd (show N=(4,0,0) from by rw [← hG];exact if_pos (by omega))
    clear hu hG hm hy a3 a0 a2 hi hk hcs;go_wp2_with fail;refine bodyPost_ret (results_tmp3 rfl _ _ _) rfl ?_;rw [H.1];exact ⟨rfl,rfl⟩
   ·
    have f9:((i:Int)==9)=true:=by simp;omega
    have fg:¬ (1:Int)<(y:Int):=by omega
    have f0:(0:Int)<(i:Int):=by omega
    have fy:((y:Int)==0)=true:=by simp;omega
    have H:=Hd (show N=(4,0,0) from by rw [← hG];exact if_pos (by omega))
    clear hu hG hm hy a3 a0 a2 hi hk hcs;go_wp2_with fail;refine bodyPost_ret (results_tmp3 rfl _ _ _) rfl ?_;rw [H.1];exact ⟨rfl,rfl⟩
   ·
    have f9:((i:Int)==9)=false:=by simp;omega
    have f0:(0:Int)<(i:Int):=by omega
    have fy:((y:Int)==0)=true:=by simp;omega
    have H:=Hd (show N=(4,0,0) from by rw [← hG];exact if_pos (by omega))
    clear hu hG hm hy a3 a0 a2 hi hk hcs;go_wp2_with fail;refine bodyPost_ret (results_tmp3 rfl _ _ _) rfl ?_;rw [H.1];exact ⟨rfl,rfl⟩
   ·
    have f9:((i:Int)==9)=false:=by simp;omega
    have f0:¬ (0:Int)<(i:Int):=by omega
    rw [if_neg (by omega)] at hG
    have a4:=jbj u m i hu a0 hi (by omega)
    obtain ⟨q,hq⟩:=Nm (u+m*2 ^ (7*i));rw [← hq] at a4;by_cases a1:y<128
    ·
     have H:=Hd (show N=(0,q,i+1) from by rw [← hG,if_pos a1,hq,show m=y by omega])
     have g1:(y:Int)<128:=by omega
     clear hu hG hm hy a3 a0 a2 hi hk hq a1 hcs;go_wp2_with fail;refine bodyPost_ret (results_tmp3 rfl _ _ _) rfl ?_;rw [H.1];exact ⟨rfl,rfl⟩
    ·
     have a5:i<9:=by omega
     have H:=Hd (show xi (i+1) q (l.drop (i+1))=N from by rw [← hG,if_neg a1,hq,show m=y-128 by omega])
     have D:=Hd (show q<2 ^ (7*(i+1)) from by
      rw [show 7*(i+1)=7*i+7 by omega,Nat.pow_add,hq]
      have:(m+1)*2 ^ (7*i)≤128*2 ^ (7*i):=Nat.mul_le_mul_right _ (by omega)
      rw [Nat.add_mul] at this;rw [Nat.mul_comm (2 ^ (7*i)) (2 ^ 7)];omega)
     have A:=Hd a5;have g1:¬ (y:Int)<128:=by omega
     clear hu hG hm hy a3 a0 a2 hi hk hq a1 a5 hcs;go_wp2_with fail
     go_roundg (10-(i+1))
     case measure=>have:=B.1;have:=A.1;omega
     case rel=>exact ⟨i+1,q,by have:=A.1;omega,by have:=A.1;omega,rfl,by go_num,D.1,by have:=C.1;omega,H.1,rfl⟩
   ·
    have f9:((i:Int)==9)=false:=by simp;omega
    have f0:(0:Int)<(i:Int):=by omega
    have fy:((y:Int)==0)=false:=by simp;omega
    rw [if_neg (by omega)] at hG
    have a4:=jbj u m i hu a0 hi (by omega)
    obtain ⟨q,hq⟩:=Nm (u+m*2 ^ (7*i));rw [← hq] at a4;by_cases a1:y<128
    ·
     have H:=Hd (show N=(0,q,i+1) from by rw [← hG,if_pos a1,hq,show m=y by omega])
     have g1:(y:Int)<128:=by omega
     clear hu hG hm hy a3 a0 a2 hi hk hq a1 hcs;go_wp2_with fail;refine bodyPost_ret (results_tmp3 rfl _ _ _) rfl ?_;rw [H.1];exact ⟨rfl,rfl⟩
    ·
     have a5:i<9:=by omega
     have H:=Hd (show xi (i+1) q (l.drop (i+1))=N from by rw [← hG,if_neg a1,hq,show m=y-128 by omega])
     have D:=Hd (show q<2 ^ (7*(i+1)) from by
      rw [show 7*(i+1)=7*i+7 by omega,Nat.pow_add,hq]
      have:(m+1)*2 ^ (7*i)≤128*2 ^ (7*i):=Nat.mul_le_mul_right _ (by omega)
      rw [Nat.add_mul] at this;rw [Nat.mul_comm (2 ^ (7*i)) (2 ^ 7)];omega)
     have A:=Hd a5;have g1:¬ (y:Int)<128:=by omega
     clear hu hG hm hy a3 a0 a2 hi hk hq a1 a5 hcs;go_wp2_with fail
     go_roundg (10-(i+1))
     case measure=>have:=B.1;have:=A.1;omega
     case rel=>exact ⟨i+1,q,by have:=A.1;omega,by have:=A.1;omega,rfl,by go_num,D.1,by have:=C.1;omega,H.1,rfl⟩
   ·
    have f9:((i:Int)==9)=true:=by simp;omega
    have fg:¬ (1:Int)<(y:Int):=by omega
    have f0:(0:Int)<(i:Int):=by omega
    have fy:((y:Int)==0)=false:=by simp;omega
    rw [if_neg (by omega)] at hG
    have a4:=jbj u m i hu a0 hi (by omega)
    obtain ⟨q,hq⟩:=Nm (u+m*2 ^ (7*i));rw [← hq] at a4;have a1:y<128:=by omega
    have H:=Hd (show N=(0,q,i+1) from by rw [← hG,if_pos a1,hq,show m=y by omega])
    have g1:(y:Int)<128:=by omega
    clear hu hG hm hy a3 a0 a2 hi hk hq a1 hcs;go_wp2_with fail;refine bodyPost_ret (results_tmp3 rfl _ _ _) rfl ?_;rw [H.1];exact ⟨rfl,rfl⟩
  ·
   have H:=Hd (show N=(2,0,0) from by
    rw [List.drop_of_length_le (by omega)] at hG
    rw [← hG];rfl)
   have k1:¬ (i:Int)<(l.length:Int):=by omega
   clear hu hG hk a7 a2 hi;go_wp2_with fail;refine bodyPost_ret (results_tmp3 rfl _ _ _) rfl ?_;rw [H.1];exact ⟨rfl,rfl⟩
end Go.Proofs.YtgcnolapjppbpaaGreatDoor
