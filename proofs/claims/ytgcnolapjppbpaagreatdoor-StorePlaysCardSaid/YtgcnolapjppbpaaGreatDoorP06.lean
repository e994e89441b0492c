/-
  Texts of one proof, one behind the other.
-/
import Derived.Test.YtgcnolapjppbpaaGreatDoorP05
import Derived.BigQuiet
import Derived.WalkMore
import Derived.Lib.Strings
import Derived.Deep.LoopGhost
import Derived.Outline
import Derived.Deep.RegionHeld3
import Derived.Test.YtgcnolapjppbpaaGreatDoorP00
namespace Go.Proofs.YtgcnolapjppbpaaGreatDoor
open Go.RowKit _root_.Go.Proofs.Tryz
set_option maxRecDepth 100000
set_option maxHeartbeats 25600000
theorem jk6 (c5 c6:Nat)(h5:c5<256)(h6:c6<256):bits .or .i64 (c5:Int) ((c6:Int)*256)=((c5+256*c6:Nat):Int):=by
 have e:((c6:Int)*256)=((c6*256:Nat):Int):=by omega
 have hx:c5 ||| (c6*256)<2 ^ 16:=Nat.or_lt_two_pow (by omega) (by omega)
 have ho:∀ n:Nat,n<65536→(BitVec.ofInt 64 (n:Int)).toNat=n:=fun n hn=>by rw [BitVec.toNat_ofInt];omega
 rw [e];show IntKind.i64.wrap ((BitVec.ofInt 64 (c5:Int) ||| BitVec.ofInt 64 ((c6*256:Nat):Int)).toNat:Int)=_
 rw [BitVec.toNat_or,ho c5 (by omega),ho (c6*256) (by omega)]
 have a0:IntKind.i64.wrap ((c5 ||| (c6*256):Nat):Int)=((c5 ||| (c6*256):Nat):Int):=by rw [IntKind.wrap_i64];omega
 rw [a0];have:c5 ||| (c6*256)=c6*256+c5:=by
  rw [show (256:Nat)=2 ^ 8 from rfl,Nat.or_comm,← Nat.shiftLeft_eq,Nat.shiftLeft_add_eq_or_of_lt (by omega)]
 omega
theorem jax (e:UInt32)(b:List UInt8)(r:List (List UInt8))(a0:¬ b.length<11)(a1:¬ (jL b > 512∨b.length≠11+min (jL b) 245)){p:List UInt8}{k:Nat}(hg:yt (jL b) (b.drop 11) r 1=(p,k)) :
  vb e (b::r)=if p.length≠jL b∨xr e p≠b.take 11 then none else some (p,k):=by
 rw [vb,if_neg a0,if_neg a1];simp only [hg]
theorem jgX (size:Nat)(p:List UInt8)(l:List (List UInt8))(n:Nat)(h:¬ p.length<size):yt size p l n=(p,n):=by
 cases l with
 | nil=>rfl
 | cons s r=>rw [yt,if_neg h]
theorem jdp (size:Nat)(p s:List UInt8)(r:List (List UInt8))(n:Nat)(h:¬ (s.length=1+min (size-p.length) 255∧s.head?=some 99)):yt size p (s::r) n=(p,n):=by
 rw [yt];by_cases h1:p.length<size
 · rw [if_pos h1,if_neg h]
 · rw [if_neg h1]
structure KR (w:World)(v:Value)(p b:List UInt8)(B off:Nat)(w':World):Prop where
 cell:w'.cell? ⟨B,off,none⟩=some (.string (SB b))
 rd:Rd w' v p.length (p.map V8)
 below:Below w.heap.size w w'
theorem KR.keep {w:World}{v:Value}{p b:List UInt8}{B off:Nat}{w1 w2:World}(h:KR w v p b B off w1)(hb:Below w1.heap.size w1 w2):KR w v p b B off w2:=⟨jf hb h.cell,h.rd.below hb,h.below.trans (hb.mono h.below.size)⟩
theorem jet (e:UInt32)(lv:Value)(bl:List (List UInt8))(w:World)(hl:Rd w lv bl.length (bl.map SV))(a7:∀ b∈bl,b.length≤9223372036854775807) :
  Calls prog 164 #[.int .u32 (e.toNat:Int),lv] w fun r w'=>Below w.heap.size w w'∧((vb e bl=none∧r=.returned (.tuple #[.slice none 0 0,.int .i64 0])) ∨
   ∃ p k v,vb e bl=some (p,k)∧r=.returned (.tuple #[v,.int .i64 (k:Int)])∧OwnM w' w.heap.size 5 v p.length (p.map V8)):=by
 have f7:=hl.len;obtain ⟨la,lc,rfl⟩:∃ a c,lv=.slice a bl.length c:=by obtain ⟨a,c,h,_⟩:=hl;exact ⟨a,c,h⟩
 cases hbl:bl with
 | nil =>
  subst hbl;clear hl a7 f7;simp only [List.length_nil];have i8:(((0:Nat):Int)==0)=true:=rfl;go_enter func164,ntmps164;go_wp2_with fail
  go_step3
  go_wp2_with fail
  try rw [Exit.noGoto_ret]
  go_ret2
  exact ⟨Below.refl _ _,.inl ⟨rfl,rfl⟩⟩
 | cons b r =>
  have b0:0<bl.length:=by rw [hbl];simp
  have a2:∃ B off,la=some ⟨B,off,none⟩∧w.cell? ⟨B,off,none⟩=some (.string (SB b)):=by
   obtain ⟨B,off,cap,e1,e2⟩:=hl.at 0 (by simpa using b0)
   injection e1 with e1
   refine ⟨B,off,e1,?_⟩;rw [Nat.add_zero] at e2;rw [e2,hbl];rfl
  obtain ⟨B,off,rfl,a2⟩:=a2;have i2:((bl.length:Int)==0)=false:=by simp;exact List.ne_nil_of_length_pos b0
  have i3:(0:Int)<bl.length:=by omega
  have H6:=Hd a7;have HL:=Hd hl;have H:=Hd hbl;have H7:=Hd (uM a2);have i9:b.length≤9223372036854775807:=a7 b (by rw [hbl];simp)
  clear hl a7;rw [← hbl];clear hbl;go_enter func164,ntmps164;by_cases h11:b.length<11
  ·
   have hd:(b.length:Int)<11:=by omega
   go_wp2_with fail
   go_step3
   go_wp2_with fail
   try rw [Exit.noGoto_ret]
   go_ret2
   refine ⟨Below.refl _ _,.inl ⟨?_,rfl⟩⟩;rw [H.1,vb,if_pos h11]
  ·
   have hd:decide ((b.length:Int)<11)=false:=by simp;omega
   go_wp2_with fail
   go_step3
   go_wp2_with fail;obtain ⟨c5,b1⟩:=Nm ((b.getD 5 0).toNat);obtain ⟨c6,b2⟩:=Nm ((b.getD 6 0).toNat);have g2:∀ w',(Instr.index 9 (.string (SB b)) (.int .i64 5)).run prog w'=.ok (.int .u8 (c5:Int)) w':=fun w'=>by rw [b1];exact xC w' b 5 (by omega)
   have g3:∀ w',(Instr.index 9 (.string (SB b)) (.int .i64 6)).run prog w'=.ok (.int .u8 (c6:Int)) w':=fun w'=>by rw [b2];exact xC w' b 6 (by omega)
   have g4:(5:Int)<(b.length:Int):=by omega
   have g5:(6:Int)<(b.length:Int):=by omega
   have h5:c5<256:=by rw [b1];exact UInt8.toNat_lt _
   have h6:c6<256:=by rw [b2];exact UInt8.toNat_lt _
   have d7:=jk6 c5 c6 h5 h6;have b9:jL b=c5+256*c6:=by rw [b1,b2];rfl
   obtain ⟨sz,c1⟩:=Nm (c5+256*c6);rw [← c1] at d7 b9;have C:=Hd b9;have f8:sz<65536:=by omega
   clear b9 b1 b2 c1;have g6:wrap64 (c5:Int)=c5:=(by unfold wrap64;omega)
   have g7:wrap64 (c6:Int)=c6:=(by unfold wrap64;omega)
   have g8:wrap64 ((c6:Int)*256)=(c6:Int)*256:=(by unfold wrap64;omega)
   go_quiet (fail)
   obtain ⟨w1,c2⟩:=Nm (w.drewN nq);rw [← c2];have a9:Below w.heap.size w w1:=by rw [c2];exact ⟨rfl,rfl,rfl,Nat.le_refl _,fun _ _=>rfl⟩
   have g9:=jf a9 a2;have V:=Hd (HL.1.below a9);have F:=Hd a9;have c3:=a9.size;clear c2 a9 a2 HL d7 g6 g7 g8 g2 g3 g4 g5 h5 h6;by_cases h512:512<sz
   ·
    have hg:(512:Int)<(sz:Int):=by omega
    go_wp2_with fail
    try rw [Exit.noGoto_ret]
    go_ret2
    refine ⟨F.1,.inl ⟨?_,rfl⟩⟩;rw [H.1,vb,if_neg h11,if_pos (.inl (by rw [C.1];exact h512))]
   ·
    have hg:decide ((512:Int)<(sz:Int))=false:=by simp;omega
    obtain ⟨mn,d8⟩:=Nm (min sz 245);have h0:∀ ts t w',(Builtin.min_ ts t #[.int .i64 (sz:Int),.int .i64 245]).run prog w'=.ok (.int .i64 (mn:Int)) w':=fun ts t w'=>by
     rw [run_min_int2]
     congr 2
     by_cases h:(245:Int)<(sz:Int)
     · rw [if_pos h];omega
     · rw [if_neg h];omega
    have f9:mn≤245:=by omega
    have G:=Hd d8;clear d8;by_cases hlb:b.length=11+mn
    ·
     have h4:(b.length:Int)=11+(mn:Int):=by omega
     obtain ⟨p0,b3⟩:=Nm (b.drop 11);have a8:p0.length=mn:=by rw [b3,List.length_drop];omega
     have a6:(Instr.slice 9 (.string (SB b)) (some (.int .i64 11)) none none).run prog w1=.ok (.string (SB p0)) w1:=by rw [b3];exact jbr w1 b 11 (by omega)
     have b4:=ji0 w1 p0;have a1:=jcD w1 p0 5 (by omega)
     have c4:=F.1.trans ((vM w1 5 (SB p0)).mono c3);rw [a8] at b4 a1;obtain ⟨w2,c7⟩:=Nm (Lib.bytesWorld w1 5 (SB p0));obtain ⟨v0,d9⟩:=Nm (Value.slice (some ⟨w1.heap.size,0,none⟩) mn (grownCap w1 mn 0 5));rw [← c7] at a1 b4 c4;rw [← d9] at a1 b4;have W:=Hd c4;have X:=Hd (Rd.below (w':=w2) V.1 (by rw [c7];exact vM _ _ _))
     have M:=Hd (a1.lower c3);have H8:=Hd hlb;have Y:=Hd b3;clear c7 d9 a1 c4 F V hlb b3;go_wp2_with fail;clear h0 b4 a6 h4
     go_step3
     go_wp2_with fail;have e0:yt sz p0 (bl.drop 1) 1=yt (jL b) (b.drop 11) r 1:=by rw [C.1,← Y.1,H.1];rfl
     have c8:p0.length≤sz:=by have:=G.1;omega
     have i1:sz≤512:=by omega
     have e5:¬ (jL b > 512∨b.length≠11+min (jL b) 245):=by
      rw [C.1,← G.1];rintro (h | h)
      · omega
      · exact h H8.1
     have E:=Hd e5;clear e5;have Z:=Hd e0;have HM:=Hd a8;rw [← a8] at M;have H0:=Hd c8;clear e0 a8 h512 c8 hg hd f9 G Y c3 f8
     go_loopg [7,8,9] (bl.length-1) (fun gk pv nv sv wr=>∃ (p:List UInt8) (k:Nat),gk+k=bl.length∧1≤k∧nv=.int .i64 (k:Int)∧OwnM wr w.heap.size 5 pv p.length (p.map V8)∧Below w.heap.size w wr∧yt sz p (bl.drop k) k=yt (jL b) (b.drop 11) r 1∧p.length≤sz ∧
      Rd wr (.slice (some ⟨B,off,none⟩) bl.length lc) bl.length (bl.map SV))
     case atStart=>exact ⟨p0,1,by omega,Nat.le_refl _,rfl,M.1,W.1,Z.1,H0.1,X.1⟩
     case round =>
      clear M W Z H0 X HM;obtain ⟨p,k,e6,j0,rfl,a1,hb,e7,j1,hL⟩:=hrel;obtain ⟨pa,pc,rfl,_⟩:=a1.slice;have N:=Hd a1;have D:=Hd hb;have L:=Hd e7;have O:=Hd hL;have H1:=Hd e6;clear a1 hb e7 hL e6;by_cases hps:p.length<sz
      ·
       have g0:(p.length:Int)<(sz:Int):=by omega
       by_cases hk:k=bl.length
       ·
        have h7:((k:Int)==(bl.length:Int))=true:=by rw [beq_iff_eq];omega
        have a0:yt sz p (bl.drop k) k=(p,k):=by rw [List.drop_eq_nil_of_le (by omega)];rfl
        have A:=Hd a0;clear a0 hk;have e8:((p.length:Int)==(sz:Int))=false:=by rw [beq_eq_false_iff_ne];omega
        have c9:¬ p.length=sz:=by omega
        have d0:(p.length==sz)=false:=by rw [beq_eq_false_iff_ne];omega
        have d1:((p.length:Int) != (sz:Int))=true:=by rw [bne_iff_ne];omega
        go_wp2_with fail
        go_quiet (fail)
        go_wp2_with fail
        try rw [Exit.noGoto_ret]
        go_ret2
        refine ⟨D.1.trans (by first | exact Below.refl _ _ | exact ⟨rfl,rfl,rfl,Nat.le_refl _,fun _ _=>rfl⟩),.inl ⟨?_,rfl⟩⟩
        rw [H.1,jax e b r h11 E.1 (L.1.symm.trans A.1),if_pos (.inl (by rw [C.1];omega))]
       ·
        have h7:((k:Int)==(bl.length:Int))=false:=by rw [beq_eq_false_iff_ne];omega
        have b5:k<bl.length:=by have:=H1.1;omega
        have i4:(k:Int)<(bl.length:Int):=by omega
        have d2:(0:Int)≤(k:Int):=by omega
        obtain ⟨s,hs⟩:=Nm (bl[k]);have e9:bl.drop k=s::bl.drop (k+1):=by rw [hs];exact List.drop_eq_getElem_cons b5
        have j2:wr.cell? ⟨B,off+k,none⟩=some (.string (SB s)):=by
         obtain ⟨B',off',cap,e1,e2⟩:=O.1.at k (by simpa using b5)
         injection e1 with e1;injection e1 with e1;injection e1 with e3 e4
         subst e3;subst e4;rw [e2,hs,List.getD,List.getElem?_map,List.getElem?_eq_getElem b5];rfl
        have j3:s.length≤9223372036854775807:=H6.1 s (by rw [hs];exact List.getElem_mem b5)
        have P:=Hd e9;obtain ⟨mx,f0⟩:=Nm (min (sz-p.length) 255);have i5:∀ ts t w',(Builtin.min_ ts t #[.int .i64 ((sz:Int)-(p.length:Int)),.int .i64 255]).run prog w'=.ok (.int .i64 (mx:Int)) w':=fun ts t w'=>by
         rw [run_min_int2]
         congr 2
         by_cases h:(255:Int)<(sz:Int)-(p.length:Int)
         · rw [if_pos h];omega
         · rw [if_neg h];omega
        have i6:mx≤255:=by omega
        have i7:1≤mx:=by omega
        have I:=Hd f0;clear e9 hs f0;by_cases a6:s.length=1+mx
        ·
         have g1:((s.length:Int)==1+(mx:Int))=true:=by rw [beq_iff_eq];omega
         obtain ⟨c0,d3⟩:=Nm ((s.getD 0 0).toNat);have j4:∀ w',(Instr.index 9 (.string (SB s)) (.int .i64 0)).run prog w'=.ok (.int .u8 (c0:Int)) w':=fun w'=>by rw [d3];exact xC w' s 0 (by omega)
         have H2:=Hd d3;have j5:(0:Int)<(s.length:Int):=by omega
         clear d3;by_cases h99:c0=99
         ·
          have h8:((c0:Int)==99)=true:=by rw [beq_iff_eq];omega
          have hh:s.head?=some 99:=by
           cases s with
           | nil=>simp at a6;omega
           | cons a s =>
            have h1:=H2.1;rw [h99] at h1;simp only [List.getD_cons_zero] at h1;simp only [List.head?_cons,Option.some.injEq];exact UInt8.toNat_inj.1 h1.symm
          obtain ⟨t,ht⟩:=Nm (s.drop 1);have f1:t.length=mx:=by rw [ht,List.length_drop];omega
          have b6:∀ w',(Instr.slice 9 (.string (SB s)) (some (.int .i64 1)) none none).run prog w'=.ok (.string (SB t)) w':=fun w'=>by rw [ht];exact jbr w' s 1 (by omega)
          have a0:yt sz p (s::bl.drop (k+1)) k=yt sz (p++t) (bl.drop (k+1)) (k+1):=by
           rw [yt,if_pos hps,if_pos ⟨by rw [a6,I.1],hh⟩,ht,List.drop_one]
          have A:=Hd a0;have f2:(p++t).length=p.length+t.length:=List.length_append;have H3:=Hd f2;have H9:=Hd f1;have b7:p.length+t.length≤140737488355328:=by have:=I.1;omega
          have T:=Hd b7;have Q:=Hd D.1.size;clear ht f1 a0 hh f2 b7 h99
          go_wp2_with (at_builtin;refine jeA rfl _ _ rfl w.heap.size _ _ _ rfl N.1 t rfl T.1 Q.1 ?_)
          intro v' w1' b8 f3 _;have Ha:=Hd b8;have HB1':=Hd (D.1.trans (ji f3 Q.1 (fun q hq=>(N.1.lt q hq).1)))
          have HL1':=Hd (Rd.keep (w':=w1') O.1 (fun q hq hl=>(ji f3 Q.1 (fun q hq=>(N.1.lt q hq).1)).block q (by simp only [Value.ownBlock,Option.some.injEq] at hq;subst hq;exact H7.1)))
          clear b8;go_wp2_with fail
          go_roundg (bl.length-(k+1))
          case measure=>have:=H1.1;omega
          case rel=>exact ⟨p++t,k+1,by omega,by omega,by go_num,by rw [H3.1,List.map_append];exact Ha.1,HB1'.1,by rw [← A.1,← P.1,L.1],by rw [H3.1,H9.1,I.1];omega,HL1'.1⟩
         ·
          have h8:((c0:Int)==99)=false:=by rw [beq_eq_false_iff_ne];omega
          have a0:yt sz p (bl.drop k) k=(p,k):=by
           rw [P.1];refine jdp _ _ _ _ _ (fun h=>h99 ?_)
           rw [H2.1]
           cases s with
           | nil=>simp at a6;omega
           | cons a s =>
            have:=h.2;simp only [List.head?_cons,Option.some.injEq] at this;rw [this];rfl
          have A:=Hd a0;clear a0;have e8:((p.length:Int)==(sz:Int))=false:=by rw [beq_eq_false_iff_ne];omega
          have c9:¬ p.length=sz:=by omega
          have d0:(p.length==sz)=false:=by rw [beq_eq_false_iff_ne];omega
          have d1:((p.length:Int) != (sz:Int))=true:=by rw [bne_iff_ne];omega
          go_wp2_with fail
          go_quiet (fail)
          go_wp2_with fail
          try rw [Exit.noGoto_ret]
          go_ret2
          refine ⟨D.1.trans (by first | exact Below.refl _ _ | exact ⟨rfl,rfl,rfl,Nat.le_refl _,fun _ _=>rfl⟩),.inl ⟨?_,rfl⟩⟩
          rw [H.1,jax e b r h11 E.1 (L.1.symm.trans A.1),if_pos (.inl (by rw [C.1];omega))]
        ·
         have g1:((s.length:Int)==1+(mx:Int))=false:=by rw [beq_eq_false_iff_ne];omega
         have a0:yt sz p (bl.drop k) k=(p,k):=by
          rw [P.1];exact jdp _ _ _ _ _ (fun h=>a6 (by rw [h.1,I.1]))
         have A:=Hd a0;clear a0;have e8:((p.length:Int)==(sz:Int))=false:=by rw [beq_eq_false_iff_ne];omega
         have c9:¬ p.length=sz:=by omega
         have d0:(p.length==sz)=false:=by rw [beq_eq_false_iff_ne];omega
         have d1:((p.length:Int) != (sz:Int))=true:=by rw [bne_iff_ne];omega
         go_wp2_with fail
         go_quiet (fail)
         go_wp2_with fail
         try rw [Exit.noGoto_ret]
         go_ret2
         refine ⟨D.1.trans (by first | exact Below.refl _ _ | exact ⟨rfl,rfl,rfl,Nat.le_refl _,fun _ _=>rfl⟩),.inl ⟨?_,rfl⟩⟩
         rw [H.1,jax e b r h11 E.1 (L.1.symm.trans A.1),if_pos (.inl (by rw [C.1];omega))]
      ·
       have g0:decide ((p.length:Int)<(sz:Int))=false:=by simp;omega
       have a0:yt sz p (bl.drop k) k=(p,k):=jgX _ _ _ _ hps;have h9:p.length=sz:=by omega
       have f4:wr.cell? ⟨B,off,none⟩=some (.string (SB b)):=by
        obtain ⟨B',off',cap,e1,e2⟩:=O.1.at 0 (by simpa using b0)
        injection e1 with e1;injection e1 with e1;injection e1 with e3 e4
        subst e3;subst e4;rw [Nat.add_zero] at e2;rw [e2,H.1];rfl
       subst h9;have f5:∀ w',KR wr (.slice pa p.length pc) p b B off w'→Calls prog 98 #[.int .u32 (e.toNat:Int),.slice pa p.length pc] w' fun r w''=>∃ v',r=.returned v'∧(convert 92 9 v').run prog w''=.ok (.string (SB (xr e p))) w''∧Below w'.heap.size w' w'' :=
        fun w' h=>(jds (.slice pa p.length pc) e p w' h.rd (by omega)).mono (fun r w'' ⟨v',h1,h2,h3⟩=>⟨v',h1,vU _ (jq h2) (xz e p).symm,h3⟩)
       have f6:KR wr (.slice pa p.length pc) p b B off wr.drew:=⟨jf (jd _) f4,N.1.rd.below (jd _),jd _⟩;have d2:∀ w',KR wr (.slice pa p.length pc) p b B off w'→w'.cell? ⟨B,off,none⟩=some (.string (SB b)):=fun w' h=>h.cell
       have b6:∀ w',(Instr.slice 9 (.string (SB b)) none (some (.int .i64 11)) none).run prog w'=.ok (.string (SB (b.take 11))) w':=fun w'=>je8 w' b 11 (by omega)
       have J:=Hd f5;have R:=Hd f6;have A:=Hd a0;clear f5 f6 f4 a0;obtain ⟨hm,d4⟩:=Nm (xr e p);rw [← d4] at J;obtain ⟨tk,d5⟩:=Nm (b.take 11);rw [← d5] at b6;have H4:=Hd d4;have H5:=Hd d5;clear d4 d5;go_wp2_with fail;refine wp_region_held_drew (S:=KR wr (.slice pa p.length pc) p b B off) (by kernel_rfl) R.1 (fun a4=>?_)
       refine Te 0 81 ?_;refine Te 1 82 ?_;refine Te 2 83 ?_;refine Te 3 84 ?_;refine Te 4 85 ?_;refine Te 5 86 ?_;refine Te 6 87 ?_;refine Te 9 90 ?_;refine Te 10 91 ?_;refine Te 11 92 ?_;refine Te 12 93 ?_;refine Rc 7 88 fun K hK=>?_
       rw [if_pos (by kernel_rfl)]
       go_simp
       refine (J.1 _ a4).mono ?_;rintro rr w4 ⟨v4,rfl,d6,i0⟩;refine hK.out _ _ (a4.keep i0) (fun a5=>?_)
       clear hK K
       try simp only [Nz]
       refine wpAnyH_ready (rs := [8]) (by kernel_rfl) (by simp) (AllReadyH.cons (o:=⟨some 89,.convert _ _ _,_,_,_,_⟩) rfl (fun K hK=>?_) AllReadyH.nil)
       rw [if_pos (by kernel_rfl)]
       go_simp
       refine hK.out _ _ a5 (fun a3=>?_)
       clear hK K
       try simp only [Nz]
       by_cases hht:hm=tk
       ·
        subst hht;refine Te 13 94 ?_;refine Te 14 95 ?_;refine Dn ?_;have U:=Hd a3;clear a4 a5 a3 d2 J R b6 d6;go_wp2_with fail
        try rw [Exit.noGoto_ret]
        go_ret2
        refine ⟨D.1.trans (U.1.below.mono D.1.size),.inr ⟨p,k,_,?_,rfl,N.1.below U.1.below⟩⟩;rw [H.1,jax e b r h11 E.1 (L.1.symm.trans A.1),if_neg];rintro (h | h)
        · exact h C.1.symm
        · exact h (H4.1.symm.trans H5.1)
       ·
        have j6:((SB hm).toList==(SB tk).toList)=false:=by
         rw [jk,jk,beq_eq_false_iff_ne];exact hht
        refine Te 13 94 ?_;refine Te 14 95 ?_;refine Dn ?_;have U:=Hd a3;clear a4 a5 a3 d2 J R b6 d6;go_wp2_with fail
        try rw [Exit.noGoto_ret]
        go_ret2
        refine ⟨D.1.trans (U.1.below.mono D.1.size),.inl ⟨?_,rfl⟩⟩;rw [H.1,jax e b r h11 E.1 (L.1.symm.trans A.1),if_pos (.inr (fun h=>hht (H4.1.trans (h.trans H5.1.symm))))]
    ·
     have j7:((b.length:Int)==11+(mn:Int))=false:=by simp;omega
     go_wp2_with fail
     try rw [Exit.noGoto_ret]
     go_ret2
     refine ⟨F.1,.inl ⟨?_,rfl⟩⟩;rw [H.1,vb,if_neg h11,if_pos (.inr (by rw [C.1,← G.1];exact hlb))]
theorem jiv {w:World}{ops:Array Oper}{rest:List Oper}{o:Oper}{a:Act}{Q:Exit→Act→World→Prop}(a3:o.guard=none)(s x:Operand)(ho:o.op=.call { callee:=.builtin .append,args:=#[s,x],argTypes:=#[81,81] })(base:Nat)(v:Value)(n:Nat)(xs:List Value)(hs:a.eval s=v)(a1:w.ownsRow base 9 1 v n xs)(src:Value)(l:List (List UInt8))(hx:a.eval x=src)(a2:Rd w src l.length (l.map SV))(a7:n+l.length≤8796093022208)(a0:base≤w.heap.size)(h:∀ v' w',w'.ownsRow base 9 1 v' (n+l.length) (xs++l.map SV)→w.grownBy w' v.ownBlock→xe w v v'→wpList prog ops Q rest (a.put o.dst v') w'):wpList prog ops Q (o::rest) a w:=by
 obtain ⟨i0,hi,a4,a5,a6⟩:=info_parts jc9;exact xY a3 s x 81 ho base 9 i0 (.string ByteArray.empty) 1 16 underlying81 hi a4 a5 a6 rfl (by decide) v n xs hs a1 src l.length (l.map SV) hx a2 (by simp) (by
  intro u hu;obtain ⟨c,_,rfl⟩:=List.mem_map.1 hu
  simp [SV,Value.oneCell']) (by unfold maxLen;omega) (by omega) a0 h
theorem vD (w:World)(l:List UInt8)(t:TypeId):Rd (w.alloc (.cells #[.string (SB l)] t)) (.slice (some ⟨w.heap.size,0,none⟩) 1 1) 1 [SV l]:=by
 refine ⟨_,1,rfl,Nat.le_refl _,by omega,(fun h=>by cases h),fun j hj=>⟨w.heap.size,0,rfl,?_⟩⟩
 have:j=0:=by simpa using hj
 subst this;exact (Box.new w #[.string (SB l)] t).cell 0 _ rfl
theorem jkA (w:World)(t:List UInt8)(h:t.length≤1000):(Op.stringOp .add ⟨#[99]⟩ (SB t)).run prog w=.ok (.string (SB (99::t))) w:=by
 have:=run_string_add_sum (P:=prog) w (SB [99]) (SB t) (by rw [SB_size,SB_size];simp;omega)
 rw [jkm] at this;exact this
set_option maxRecDepth 100000 in
theorem jgi (v:Value)(e:UInt32)(p:List UInt8)(w:World)(hv:Rd w v p.length (p.map V8)) :
  Calls prog 71 #[.int .u32 (e.toNat:Int),v] w fun r w'=>(512<p.length∧r=.returned (.tuple #[.slice none 0 0,.iface 91 (.int .i64 3)])∧w'=w) ∨
   (p.length≤512∧∃ lv,r=.returned (.tuple #[lv,.nilIface])∧w'.ownsRow w.heap.size 9 1 lv (jz e p).length ((jz e p).map SV)∧Below w.heap.size w w'):=by
 have e9:=hv.len;obtain ⟨va,vc,rfl,f0⟩:∃ a c,v=.slice a p.length c∧p.length≤c:=by obtain ⟨a,c,h,h1,_⟩:=hv;exact ⟨a,c,h,h1⟩
 have T:=Hd hv;clear hv;by_cases d6:512<p.length
 ·
  have h:(512:Int)<(p.length:Int):=by omega
  go_enter func71,ntmps71;go_wp2_with fail
  go_ret2
  exact .inl ⟨d6,rfl,rfl⟩
 ·
  have h:decide ((512:Int)<(p.length:Int))=false:=by simp;omega
  obtain ⟨k,hk⟩:=Nm (min p.length 245);have d8:∀ ts t w',(Builtin.min_ ts t #[.int .i64 (p.length:Int),.int .i64 245]).run prog w'=.ok (.int .i64 (k:Int)) w':=fun ts t w'=>by
   rw [run_min_int2]
   congr 2
   by_cases h:(245:Int)<(p.length:Int)
   · rw [if_pos h];omega
   · rw [if_neg h];omega
  have c2:k≤p.length:=by omega
  have F:=Hd hk;have d9:=jhl va p.length vc k (by omega)
  have c3:=jfQ va p.length vc k c2;have J:=Hd (jds (.slice va p.length vc) e p w T.1 (by omega))
  clear hk;go_enter func71,ntmps71;go_wp2_with fail;refine J.1.mono ?_;rintro r w1 ⟨b1,rfl,a5,b2⟩;have H:=Hd a5;have B:=Hd b2;have b5:=T.1.below b2;have b6:Rd w1 (.slice va k vc) (p.take 245).length ((p.take 245).map V8):=by
   have:=b5.cut (m:=k) (by omega) k
   rw [← List.map_take] at this;have e1:p.take k=p.take 245:=by
    rw [F.1];by_cases hc:p.length≤245
    · rw [Nat.min_eq_left hc,List.take_of_length_le (Nat.le_refl _),List.take_of_length_le hc]
    · rw [Nat.min_eq_right (by omega)]
   rw [e1] at this;rw [show (p.take 245).length=k by rw [List.length_take,F.1];omega];exact this
  have W:=Hd b5;have A:=Hd b6;have X:=Hd (xz e p);have D:=Hd b2.size;have K:=Hd (show 11+(p.take 245).length≤140737488355328 by have:=List.length_take_le 245 p;omega)
  clear a5 b2 b5 b6 J;obtain ⟨pt,b7⟩:=Nm (p.take 245);obtain ⟨hm,b8⟩:=Nm (xr e p);rw [← b7] at A K;rw [← b8] at H X;have Y:=Hd b7;have Z:=Hd b8;clear b7 b8
  go_wp2_with (at_builtin;refine jbG rfl _ _ rfl w.heap.size _ _ _ rfl H.1 _ pt rfl A.1 K.1 D.1 ?_)
  intro v2 w2 b3 c4 _;obtain ⟨F0,b4⟩:=Nm (hm++pt);rw [← List.map_append,← b4] at b3;have c5:11+pt.length=F0.length:=by rw [b4,List.length_append,X.1]
  rw [c5] at b3;have kc:=vU F0 (jq b3) rfl;have a2:=B.1.trans (ji c4 D.1 (fun q hq=>(H.1.lt q hq).1))
  have H0:=Hd a2;have H1:=Hd b4;have H2:=Hd a2.size;have c6:(w2.alloc (.cells #[.string (SB F0)] 9)).ownsRow w.heap.size 9 1 (.slice (some ⟨w2.heap.size,0,none⟩) 1 1) 1 [SV F0] :=
   ⟨rfl,.inr ⟨w2.heap.size,1,_,rfl,a2.size,heap_alloc_new w2 _,Nat.le_refl _,by unfold maxLen;omega,rfl,rfl⟩⟩
  have L:=Hd c6;have M:=Hd (a2.trans ((ja w2 (.cells #[.string (SB F0)] 9)).mono a2.size));have a6:=xD T.1 (k:=k) c2 (by simp)
  rw [← List.map_drop] at a6;have a3:p.drop k=p.drop 245:=by
   rw [F.1];by_cases hc:p.length≤245
   · rw [Nat.min_eq_left hc,List.drop_eq_nil_of_le (Nat.le_refl _),List.drop_eq_nil_of_le hc]
   · rw [Nat.min_eq_right (by omega)]
  obtain ⟨q0,a0⟩:=Nm (p.drop 245);have b9:p.length-k=q0.length:=by rw [a0,List.length_drop,F.1];omega
  rw [a3,b9,← a0] at a6;obtain ⟨ta,tc,a7,a8⟩:∃ a c,xE va p.length vc k=.slice a q0.length c∧q0.length≤c:=by
   obtain ⟨a,h⟩:=uo va p.length vc k;exact ⟨a,vc-k,by rw [h,b9],by omega⟩
  rw [a7] at a6 c3;have HT:=Hd a6;have N:=Hd (show q0.length≤255*3 by rw [a0,List.length_drop];omega)
  have O:=Hd (show [F0]++ym 3 q0=jz e p by rw [H1.1,Z.1,Y.1,a0];rfl)
  have C:=Hd a8;clear b3 c5 a2 c4 c6 a6 a8 W A a3 a7 H B D b4 b9 a0;go_wp2_with fail;clear kc d9 c3 d8
  go_loopg [1,7,8] 3 (fun gk pv kv lv wr=>∃ (q:List UInt8) (bs:List (List UInt8)) (a:Option Addr) (c:Nat),q.length≤255*gk∧pv=.slice a q.length c∧q.length≤c∧Rd w pv q.length (q.map V8)∧wr.ownsRow w.heap.size 9 1 lv bs.length (bs.map SV)∧Below w.heap.size w wr∧bs.length+gk≤10∧bs++ym gk q=jz e p)
  case atStart=>exact ⟨q0,[F0],ta,tc,N.1,rfl,C.1,HT.1,L.1,M.1,by simp,O.1⟩
  case round =>
   clear L M HT N O C H0 H2;obtain ⟨q,bs,a,c,c7,rfl,f1,c8,a9,hb,c9,d0⟩:=hrel;have P:=Hd c8;have U:=Hd a9;have G:=Hd hb;have Q:=Hd d0;have R:=Hd c7;have S:=Hd c9;obtain ⟨ra,rc,e0⟩:∃ a c,u8=.slice a bs.length c:=by
    obtain ⟨a,c,h,_⟩:=jq a9;exact ⟨a,c,h⟩
   subst e0;clear c8 a9 hb d0 c7 c9;by_cases a0:q.length=0
   ·
    have e2:decide ((0:Int)<(q.length:Int))=false:=by rw [decide_eq_false_iff_not];omega
    go_wp2_with fail
    go_ret2
    refine .inr ⟨by omega,_,rfl,?_,G.1⟩
    have e3:q = []:=List.eq_nil_of_length_eq_zero a0;have:=Q.1;rw [e3] at this;have e4:ym gk ([]:List UInt8) = []:=by cases gk <;> simp [ym]
    rw [e4,List.append_nil] at this;rw [← this];exact U.1
   ·
    have e2:(0:Int)<(q.length:Int):=by omega
    obtain ⟨kq,a3⟩:=Nm (min q.length 255);have e7:∀ ts t w',(Builtin.min_ ts t #[.int .i64 (q.length:Int),.int .i64 255]).run prog w'=.ok (.int .i64 (kq:Int)) w':=fun ts t w'=>by
     rw [run_min_int2]
     congr 2
     by_cases h:(255:Int)<(q.length:Int)
     · rw [if_pos h];omega
     · rw [if_neg h];omega
    have c0:kq≤q.length:=by omega
    have e8:=jhl a q.length c kq (by omega)
    have d7:=jfQ a q.length c kq c0;obtain ⟨t,ht⟩:=Nm (q.take kq);have d1:t.length=kq:=by rw [ht,List.length_take];omega
    have d2:Rd wr (.slice a kq c) t.length (t.map V8):=by
     have:=(Rd.below P.1 G.1).cut (m:=kq) (by omega) kq
     rw [← List.map_take,← ht] at this;rw [d1];exact this
    have kc:=vU t d2 rfl;have ha:=fun w'=>jkA w' t (by omega)
    have d3:=vD wr (99::t) 9;have H3:=Hd d3;have H4:=Hd (U.1.alloc (.cells #[.string (SB (99::t))] 9));have E:=Hd (G.1.trans ((ja wr (.cells #[.string (SB (99::t))] 9)).mono G.1.size));have I:=Hd (show bs.length+[99::t].length≤8796093022208 by have:=S.1;simp only [List.length_cons,List.length_nil];omega)
    obtain ⟨q1,a4⟩:=Nm (q.drop 255);have b0:q1.length=q.length-kq:=by rw [a4,List.length_drop];omega
    have e5:∃ g,gk=g+1:=by
     cases gk with
     | zero=>have:=R.1;omega
     | succ g=>exact ⟨g,rfl⟩
    obtain ⟨g,rfl⟩:=e5;have c1:bs ++ [99::t]++ym g q1=jz e p:=by
     have e6:t=q.take 255:=by
      rw [ht,a3];by_cases hc:q.length≤255
      · rw [Nat.min_eq_left hc,List.take_of_length_le (Nat.le_refl _),List.take_of_length_le hc]
      · rw [Nat.min_eq_right (by omega)]
     rw [← Q.1,ym,if_neg a0,List.append_assoc,List.singleton_append,← a4,e6]
    have a1:=xD P.1 (k:=kq) c0 (by simp)
    rw [← List.map_drop] at a1;have d4:q.drop kq=q1:=by
     rw [a4,a3];by_cases hc:q.length≤255
     · rw [Nat.min_eq_left hc,List.drop_eq_nil_of_le (Nat.le_refl _),List.drop_eq_nil_of_le hc]
     · rw [Nat.min_eq_right (by omega)]
    rw [d4,← b0] at a1;obtain ⟨ta,tc,a7,a8⟩:∃ a' c',xE a q.length c kq=.slice a' q1.length c'∧q1.length≤c':=by
     obtain ⟨a',h⟩:=uo a q.length c kq;exact ⟨a',c-kq,by rw [h,b0],by omega⟩
    rw [a7] at a1 d7;have H5:=Hd a1;have V:=Hd c1;have C:=Hd a8;have H6:=Hd (show q1.length≤255*g by have:=R.1;omega)
    clear a1 c1 a8 d4 d3 ht d1 d2 a4 b0 a7 a3
    go_wp2_with (at_builtin;refine jiv rfl _ _ rfl w.heap.size _ _ _ rfl H4.1 _ [99::t] rfl H3.1 I.1 E.1.size ?_)
    intro v' w1 a5 d5 _;have H:=Hd a5;have B:=Hd (E.1.trans (ji d5 E.1.size (fun q hq=>(U.1.lt q hq).1)))
    clear a5 d5;go_wp2_with fail
    go_roundg g
    case measure=>omega
    case rel=>exact ⟨q1,bs ++ [99::t],ta,tc,H6.1,rfl,C.1,H5.1,by rw [List.length_append,List.map_append];exact H.1,B.1,by rw [List.length_append];have:=S.1;simp only [List.length_cons,List.length_nil];omega,V.1⟩
end Go.Proofs.YtgcnolapjppbpaaGreatDoor
