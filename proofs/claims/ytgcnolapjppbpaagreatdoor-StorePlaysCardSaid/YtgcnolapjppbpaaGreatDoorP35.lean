/-
  Texts of one proof, one behind the other.
-/
import Derived.Test.YtgcnolapjppbpaaGreatDoorP34
import Derived.Test.YtgcnolapjppbpaaGreatDoorP07
import Derived.Test.YtgcnolapjppbpaaGreatDoorP08
import Derived.IntWalk
import Derived.Deep.RegionHeld3
import Derived.Test.YtgcnolapjppbpaaGreatDoorP00
namespace Go.Proofs.YtgcnolapjppbpaaGreatDoor
open Go.RowKit _root_.Go.Proofs.Tryz
set_option maxRecDepth 100000
set_option maxHeartbeats 25600000
theorem jbe (z:Int)(h1:0≤z)(h2:z<1000000000):wrap64 z=z:=by unfold wrap64;omega
theorem jkX {a b:List UInt8}(h:a≠b):((SB a).toList==(SB b).toList)=false:=by
 rw [jk,jk,beq_eq_false_iff_ne];exact h
theorem jbh (v v':Value)(l l':List (List UInt8))(w:World)(hv:Rd w v l.length (l.map SV))(b1:Rd w v' l'.length (l'.map SV)) :
  Calls prog 187 #[v,v'] w fun e w'=>e=.returned (.bool (decide (l=l')))∧∃ k,w'=w.drewN k:=by
 have b3:=hv.len;have b0:=b1.len;obtain ⟨a,cap,rfl,b4,b7,_,hc⟩:=hv;obtain ⟨a',cap',rfl,b5,b8,_,hd⟩:=b1;have Hc:=Lib.hid hc;have Hd:=Lib.hid hd;clear hc hd;obtain ⟨B,hB⟩:=Nm (decide (l=l'));rw [← hB];have HB:=Lib.hid hB;clear hB;by_cases hll:l.length=l'.length
 ·
  obtain ⟨n,hn⟩:=Nm (l.length);have hb:(n != n)=false:=by simp
  have Hn:=Lib.hid hn;have Hn':=Lib.hid (hn.trans hll);rw [← hll,← hn];rw [← hll,← hn] at b5;rw [← hn] at b4 b3;clear hn hll b0;go_enter func187,ntmps187
  go_wp2
  go_loopw [5] (fun i wr=>∃ k:Nat,k≤n∧i=.int .i64 k∧Hid (l.take k=l'.take k)∧∃ m,wr=w.drewN m) (fun i _=>n-(intOf i).toNat)
  case atStart=>exact ⟨0,by omega,rfl,Lib.hid rfl,0,rfl⟩
  case round =>
   obtain ⟨k,hk,rfl,HT,m,rfl⟩:=hrel;by_cases hlt:k<n
   ·
    obtain ⟨b,off,rfl,a0⟩:=Hc.out k (by rw [List.length_map,← Hn.out];exact hlt)
    obtain ⟨b',off',rfl,a1⟩:=Hd.out k (by rw [List.length_map,← Hn'.out];exact hlt)
    have a4:k<l.length:=by rw [← Hn.out];exact hlt
    have a5:k<l'.length:=by rw [← Hn'.out];exact hlt
    obtain ⟨x,hx⟩:=Nm (l[k]);obtain ⟨y,hy⟩:=Nm (l'[k]);have a2:w.cell? ⟨b,off+k,none⟩=some (.string (SB x)):=by rw [a0,hx];simp [a4,SV]
    have a6:w.cell? ⟨b',off'+k,none⟩=some (.string (SB y)):=by rw [a1,hy];simp [a5,SV]
    have h1:(0:Int)≤(k:Int):=by omega
    have h2:(k:Int)<(n:Int):=by omega
    have a7:=List.take_succ_eq_append_getElem a4;have a8:=List.take_succ_eq_append_getElem a5;rw [← hx] at a7;rw [← hy] at a8;by_cases hxy:x=y
    ·
     have HT2:=Lib.hid (show l.take (k+1)=l'.take (k+1) by rw [a7,a8,HT.out,hxy])
     rw [hxy] at a2;obtain ⟨s,hs⟩:=Nm (SB y);rw [← hs] at a2 a6;clear a0 a1 Hc Hd hx hy a7 a8 hxy hs a4 a5
     go_wp2
     go_quiet (fail)
     go_wp2
     go_roundw
     case rel=>exact ⟨k+1,by omega,by go_num,HT2,_,rfl⟩
     case measure=>simp [intOf];omega
    ·
     have a9:=jkX hxy;have a3:¬ l=l':=fun e=>by
      subst e;exact hxy (by rw [hx,hy])
     have Hno:=Lib.hid a3;obtain ⟨s,hs⟩:=Nm (SB x);obtain ⟨s',b2⟩:=Nm (SB y);rw [← hs] at a2 a9;rw [← b2] at a6 a9;clear a0 a1 Hc Hd hx hy a7 a8 hxy a4 a5 a3 hs b2
     go_wp2
     go_quiet (fail)
     go_wp2
     go_ret;have e1:B=false:=by rw [HB.out,decide_eq_false Hno.out]
     exact ⟨by rw [e1];rfl,_,World.drewN_drewN _ _ _⟩
   ·
    obtain rfl:k=n:=by omega
    have he:=HT.out;rw [List.take_of_length_le (by rw [← Hn.out];exact Nat.le_refl _),List.take_of_length_le (by rw [← Hn'.out];exact Nat.le_refl _)] at he
    have He:=Lib.hid he;clear Hc Hd he
    go_wp2
    go_ret;have e1:B=true:=by rw [HB.out,decide_eq_true He.out]
    exact ⟨by rw [e1];rfl,m,rfl⟩
 ·
  have a3:¬ l=l':=fun e=>hll (by rw [e])
  have a9:((l.length:Int) != (l'.length:Int))=true:=by rw [bne_iff_ne];omega
  have b6:(l.length != l'.length)=true:=by rw [bne_iff_ne];exact hll
  have Hno:=Lib.hid a3;clear Hc Hd a3 hll;go_enter func187,ntmps187
  go_wp2
  go_ret;have e1:B=false:=by rw [HB.out,decide_eq_false Hno.out]
  exact ⟨by rw [e1];rfl,0,rfl⟩
structure RefL (w:World)(bl:List (List UInt8))(a sz:Nat)(G:Option (List UInt8 × Nat))(pv:Value)(p:List UInt8)(k i:Nat)(wr:World):Prop where
 own:OwnM wr w.heap.size 5 pv p.length (p.map V8)
 k1:1≤k∧k≤i+1∧i≤3∧a+k≤bl.length
 len:p.length≤1048576*(i+1)
 go:g2 sz (3-i) p (bl.drop (a+k)) k=G
 below:Below w.heap.size w wr
theorem jkg {n f:Nat}{p:List UInt8}{r:List (List UInt8)}{k:Nat}(h:f=0∨¬ p.length<n∨r = []):g2 n f p r k=some (p,k):=by
 cases f with
 | zero=>rfl
 | succ f =>
  cases r with
  | nil=>rfl
  | cons s r =>
   rcases h with h | h | h
   · omega
   · rw [g2,if_neg h]
   · cases h
set_option maxRecDepth 100000 in
theorem jdX (e:UInt32)(lv:Value)(bl:List (List UInt8))(a:Nat)(w:World)(hl:Rd w lv bl.length (bl.map SV))(hn:bl.length≤1048576)(ha:a≤1048576)(a3:∀ b∈bl,b.length≤1048576) :
  Calls prog 172 #[.int .u32 (e.toNat:Int),lv,.int .i64 (a:Int)] w fun r w'=>Below w.heap.size w w'∧((vb e (bl.drop a)=none∧∃ x y,r=.returned (.tuple #[x,y,.bool false])) ∨
   ∃ p k v,vb e (bl.drop a)=some (p,k)∧r=.returned (.tuple #[v,.int .i64 (k:Int),.bool true])∧OwnM w' w.heap.size 5 v p.length (p.map V8)):=by
 rw [← jg4];obtain ⟨la,lc,rfl,i8⟩:∃ a c,lv=.slice a bl.length c∧bl.length≤c:=by obtain ⟨a,c,h,h1,_⟩:=hl;exact ⟨a,c,h,h1⟩
 have i1:=hl.len;by_cases hat:a<bl.length
 ·
  obtain ⟨b,hb⟩:=Nm (bl[a]);obtain ⟨r,hr⟩:=Nm (bl.drop (a+1));have b3:bl.drop a=b::r:=by rw [hb,hr];exact List.drop_eq_getElem_cons hat
  rw [b3];have a1:∃ B off,la=some ⟨B,off,none⟩∧w.cell? ⟨B,off+a,none⟩=some (.string (SB b)):=by
   obtain ⟨B,off,cap,e1,e2⟩:=hl.at a (by simpa using hat)
   injection e1 with e1
   refine ⟨B,off,e1,?_⟩;rw [e2,hb];simp [hat,SV]
  obtain ⟨B,off,rfl,a1⟩:=a1;have i9:b.length≤1048576:=by rw [hb];exact a3 _ (List.getElem_mem hat)
  have i2:(a:Int)<(bl.length:Int):=by omega
  have i3:(0:Int)≤(a:Int):=by omega
  have i4:decide (bl.length≤a)=false:=by simp;omega
  have V:=Hd a3;have X:=Hd hl;have Hr:=Hd hr;have Y:=Hd b3;clear hl a3 hb hr b3;obtain ⟨R,hR⟩:=Nm (xL e (b::r));rw [← hR];have W:=Hd hR;clear hR;by_cases h11:b.length<11
  ·
   have hd:(b.length:Int)<11:=by omega
   have a0:R=none:=by rw [W.1,xL,if_pos h11]
   have H:=Hd a0;clear a0;go_enter func172,ntmps172;go_wp2_with fail
   go_ret3
   exact ⟨Below.refl _ _,.inl ⟨H.1,_,_,rfl⟩⟩
  ·
   have hd:decide ((b.length:Int)<11)=false:=by simp;omega
   have j0:decide (b.length<11)=false:=by simp;omega
   go_enter func172,ntmps172;go_wp2_with fail;obtain ⟨c5,a7⟩:=Nm ((b.getD 5 0).toNat);obtain ⟨c6,a8⟩:=Nm ((b.getD 6 0).toNat);have g4:∀ w',(Instr.index 9 (.string (SB b)) (.int .i64 5)).run prog w'=.ok (.int .u8 (c5:Int)) w':=fun w'=>by rw [a7];exact xC w' b 5 (by omega)
   have g5:∀ w',(Instr.index 9 (.string (SB b)) (.int .i64 6)).run prog w'=.ok (.int .u8 (c6:Int)) w':=fun w'=>by rw [a8];exact xC w' b 6 (by omega)
   have g6:(5:Int)<(b.length:Int):=by omega
   have g7:(6:Int)<(b.length:Int):=by omega
   have h5:c5<256:=by rw [a7];exact UInt8.toNat_lt _
   have h6:c6<256:=by rw [a8];exact UInt8.toNat_lt _
   have b4:jL b=c5+256*c6:=by rw [a7,a8];rfl
   obtain ⟨sz,b5⟩:=Nm (c5+256*c6);rw [← b5] at b4;have D:=Hd b4;have f5:sz<65792:=by omega
   have b6:(c5:Int)+256*(c6:Int)=(sz:Int):=by omega
   clear b4 a7 a8 b5;obtain ⟨d3,d4,d5,d6,d7⟩:wrap64 (c5:Int)=c5∧wrap64 (c6:Int)=c6∧wrap64 (256*(c6:Int))=256*(c6:Int)∧wrap64 ((c5:Int)+256*(c6:Int))=(sz:Int)∧wrap64 (sz:Int)=(sz:Int) :=
    ⟨jbe _ (by omega) (by omega),jbe _ (by omega) (by omega),jbe _ (by omega) (by omega),(jbe _ (by omega) (by omega)).trans b6,jbe _ (by omega) (by omega)⟩
   have d2:(sz:Int)<65792:=by clear d3 d4 d5 d6 d7;omega
   have O:=Hd b6;clear b6 d7
   go_quiet (fail)
   obtain ⟨w1,b7⟩:=Nm (w.drewN nq);rw [← b7];have b8:Below w.heap.size w w1:=by rw [b7];exact jC _ _
   have b9:=jf b8 a1;have C:=Hd b8;clear b7 b8 a1 d3 d4 d5 d6 g4 g5 g6 g7 h5 h6;rw [O.1];clear O f5 d2;by_cases h512:512<sz
   ·
    have hg:(512:Int)<(sz:Int):=by omega
    have a0:R=none:=by rw [W.1,xL,if_neg h11,if_pos (by rw [D.1];exact h512)]
    have H:=Hd a0;clear a0;go_wp2_with fail
    go_ret3
    exact ⟨C.1,.inl ⟨H.1,_,_,rfl⟩⟩
   ·
    have hg:decide ((512:Int)<(sz:Int))=false:=by simp;omega
    have j1:decide (512<sz)=false:=by simp;omega
    have i5:sz≤512:=by omega
    obtain ⟨p0,a9⟩:=Nm (b.drop 11);have i6:p0.length≤1048576:=by rw [a9,List.length_drop];omega
    have a4:(Instr.slice 9 (.string (SB b)) (some (.int .i64 11)) none none).run prog w1=.ok (.string (SB p0)) w1:=by rw [a9];exact jbr w1 b 11 (by omega)
    have c0:=ji0 w1 p0;have a6:=jcD w1 p0 5 (by omega)
    have c4:=C.1.trans ((vM w1 5 (SB p0)).mono C.1.size);obtain ⟨G,hG⟩:=Nm (g2 sz 3 p0 r 1);obtain ⟨w2,d8⟩:=Nm (Lib.bytesWorld w1 5 (SB p0));rw [← d8] at a6 c0 c4;have c7:RefL w bl a sz G (.slice (some ⟨w1.heap.size,0,none⟩) p0.length (grownCap w1 p0.length 0 5)) p0 1 0 w2 :=
     ⟨a6.lower C.1.size,⟨by omega,by omega,by omega,by omega⟩,by omega,by rw [hG,Hr.1],c4⟩
    obtain ⟨v0,d9⟩:=Nm (Value.slice (some ⟨w1.heap.size,0,none⟩) p0.length (grownCap w1 p0.length 0 5));rw [← d9] at c7 c0;have Q:=Hd c7;have e0:R=jj0 e sz (b::r) G:=by
     rw [W.1,xL,if_neg h11,if_neg (by rw [D.1];exact h512),D.1,← a9,← hG]
    have E:=Hd e0;clear a9 hG e0 a6 c4 d8 c7 d9;go_wp2_with fail
    go_loopw [10,11,12] (fun pv kv iv wr=>∃ (p:List UInt8) (k i:Nat),kv=.int .i64 k∧iv=.int .i64 i∧RefL w bl a sz G pv p k i wr) (fun _ _ iv _=>3-(intOf iv).toNat)
    case atStart=>exact ⟨p0,1,0,rfl,rfl,Q.1⟩
    case round =>
     obtain ⟨p,k,i,rfl,rfl,hI⟩:=hrel;obtain ⟨j2,j3,j4,g8⟩:=hI.k1;have b0:=hI.len;obtain ⟨pa,pc,rfl,_⟩:=hI.own.slice;have A:=Hd hI;have j5:(0:Int)≤(k:Int):=by omega
     have j6:(0:Int)≤(i:Int):=by omega
     have j7:p.length≤8388608:=by omega
     clear hI Q c0 a4 b0;by_cases hall:i<3∧p.length<sz∧a+k<bl.length
     ·
      obtain ⟨c1,c2,c3⟩:=hall;obtain ⟨s,hs⟩:=Nm (bl[a+k]);have j8:wr.cell? ⟨B,off+(a+k),none⟩=some (.string (SB s)):=by
       obtain ⟨B',off',cap',e1,e2⟩:=(X.1.below A.1.below).at (a+k) (by simpa using c3)
       injection e1 with e1 _ _
       injection e1 with e1
       injection e1 with e3 e4
       subst e3;subst e4;rw [e2,hs];simp [c3,SV]
      have e5:bl.drop (a+k)=s::bl.drop (a+(k+1)):=by rw [hs];exact List.drop_eq_getElem_cons c3
      have a2:=A.1.go;obtain ⟨f,hf⟩:∃ f,3-i=f+1:=⟨2-i,by omega⟩
      rw [e5,hf,g2,if_pos c2] at a2;have j9:s.length≤1048576:=by rw [hs];exact V.1 _ (List.getElem_mem c3)
      have c3':(a:Int)+(k:Int)<(bl.length:Int):=by omega
      have c30:(0:Int)≤(a:Int)+(k:Int):=by omega
      have k0:((a:Int)+(k:Int)).toNat=a+k:=by omega
      clear hs e5;by_cases hs0:s.length=0
      ·
       rw [if_pos hs0] at a2;have g9:((s.length:Int)==0)=true:=by rw [beq_iff_eq];omega
       have h0:(s.length==0)=true:=by rw [beq_iff_eq];exact hs0
       have H:=Hd (show R=none by rw [E.1,← a2];rfl)
       clear a2 hf hs0;go_wp2_with fail
       go_ret3
       exact ⟨A.1.below,.inl ⟨H.1,_,_,rfl⟩⟩
      ·
       rw [if_neg hs0] at a2;have g9:((s.length:Int)==0)=false:=by rw [beq_eq_false_iff_ne];omega
       have h0:(s.length==0)=false:=by rw [beq_eq_false_iff_ne];exact hs0
       have a5:∀ w',(Instr.slice 9 (.string (SB s)) (some (.int .i64 1)) none none).run prog w'=.ok (.string (SB s.tail)) w':=fun w'=>by
        have:=jbr w' s 1 (by omega)
        rw [List.drop_one] at this;exact this
       have I:=Hd (show g2 sz (3-(i+1)) (p++s.tail) (bl.drop (a+(k+1))) (k+1)=G by rw [show 3-(i+1)=f by omega];exact a2)
       have f6:s.tail.length≤1048576:=by rw [List.length_tail];omega
       obtain ⟨st,c8⟩:=Nm (s.tail);rw [← c8] at a5 I f6;have J:=Hd A.1.own;have K:=Hd A.1.below.size;have b0:p.length+st.length≤140737488355328:=by omega
       have f7:=A.1.len;clear a2 hf c8
       go_wp2_with (at_builtin;refine jeA rfl _ _ rfl w.heap.size _ p.length (p.map V8) rfl J.1 st rfl b0 K.1 ?_)
       intro v8 w8 e6 e7 _;have HN:=Hd (show ∃ (p':List UInt8) (k' i':Nat),Value.int .i64 ((k:Int)+1)=.int .i64 k'∧Value.int .i64 ((i:Int)+1)=.int .i64 i'∧RefL w bl a sz G v8 p' k' i' w8 from
        ⟨p++st,k+1,i+1,by go_num,by go_num,⟨by rw [List.length_append,List.map_append];exact e6,⟨by omega,by omega,by omega,by omega⟩,by rw [List.length_append];omega,I.1,
         A.1.below.trans (ji e7 K.1 (fun j hj=>(J.1.lt j hj).1))⟩⟩)
       clear e6 e7 I J b0 f7 A a5;go_wp2_with fail
       go_roundw
       case rel=>exact HN.1
       case measure=>simp [intOf];omega
     ·
      have hG:=A.1.go;have e8:g2 sz (3-i) p (bl.drop (a+k)) k=some (p,k):=jkg (by
       rcases Nat.lt_or_ge i 3 with h | h
       ·
        rcases Nat.lt_or_ge p.length sz with h2 | h2
        · exact .inr (.inr (List.drop_eq_nil_of_le (by omega)))
        · exact .inr (.inl (by omega))
       · exact .inl (by omega))
      rw [e8] at hG;have e9:R=if p.length≠sz then none else if jz e p=(b::r).take k then some (p,k) else none:=by rw [E.1,← hG];rfl
      have L:=Hd e9;have b1:¬ i<3∨(i<3∧¬ p.length<sz)∨(i<3∧p.length<sz∧¬ (a:Int)+(k:Int)<(bl.length:Int)):=by omega
      have Z:=Hd A.1.own;have N:=Hd A.1.below;have h4:a+k≤bl.length:=g8;clear e8 hG e9 hall b9 E;by_cases hps:p.length=sz
      ·
       have h7:((p.length:Int) != (sz:Int))=false:=by rw [bne_eq_false_iff_eq];omega
       have f8:(p.length != sz)=false:=by rw [bne_eq_false_iff_eq];exact hps
       have f9:p.length≤512:=by omega
       have f0:∀ w',Below wr.heap.size wr w'→Calls prog 159 #[.int .u32 (e.toNat:Int),.slice pa p.length pc] w' fun r w''=>∃ lv,r=.returned lv∧Rd w'' lv (jz e p).length ((jz e p).map SV)∧Below wr.heap.size wr w'':=fun w' hb =>
        (vT (.slice pa p.length pc) e p w' (Z.1.rd.below hb) f9).mono (fun r w'' ⟨lv,h1,h2,h3⟩=>⟨lv,h1,jq h2,jh hb h3⟩)
       have f1:(b::r).take k=(bl.drop a).take k:=by rw [Y.1]
       have a4:=fun w'=>jhg (P:=prog) (t:=81) underlying81 (by kernel_rfl) (some ⟨B,off,none⟩) bl.length lc a (a+k) (by omega) (by omega) w'
       have c9:=jhx (X.1.below N.1) (k:=a) (m:=a+k) (by omega) h4
       obtain ⟨ma,mc,b2⟩:=jcV (some ⟨B,off,none⟩) lc a (a+k);obtain ⟨t,ht⟩:=Nm ((bl.take (a+k)).drop a);have f2:t.length=k:=by rw [ht,List.length_drop,List.length_take];omega
       have f3:t=(bl.drop a).take k:=by rw [ht,List.drop_take];congr 1;omega
       rw [b2,← List.map_take,← List.map_drop,← ht,show a+k-a=k by omega] at c9
       simp only [b2,show a+k-a=k by omega] at a4
       have g0:∀ w',(Instr.slice 81 (.slice (some ⟨B,off,none⟩) bl.length lc) (some (.int .i64 (a:Int))) (some (.int .i64 ((a:Int)+(k:Int)))) none).run prog w'=.ok (.slice ma k mc) w':=fun w'=>by
        have:=a4 w';rw [show (((a+k:Nat):Int))=(a:Int)+(k:Int) by omega] at this
        exact this
       have a5:∀ lv w',Rd w' lv (jz e p).length ((jz e p).map SV)→Below wr.heap.size wr w'→Calls prog 187 #[lv,.slice ma k mc] w' fun e' w''=>e'=.returned (.bool (decide (jz e p=t)))∧Below wr.heap.size wr w'':=fun lv w' h1 h2 =>
        (jbh lv (.slice ma k mc) (jz e p) t w' h1 (by rw [f2];exact c9.below h2)).mono (fun e' w'' ⟨g1,kd,g2⟩=>⟨g1,by rw [g2];exact jh h2 (jC _ _)⟩)
       have H0:=Hd f0;have M:=Hd a5;have S:=Hd (show R=if jz e p=t then some (p,k) else none by rw [L.1,if_neg (by simpa using hps),f1,← f3])
       obtain ⟨okb,d0⟩:=Nm (decide (jz e p=t));rw [← d0] at M;have T:=Hd d0;have g3:¬ lc=a:=by omega
       have d1:Value.slice ma k mc=.slice (some ⟨B,off+a,none⟩) k (lc-a):=by
        rw [← show jh6 (some ⟨B,off,none⟩) lc a (a+k)=.slice ma k mc by rw [b2];congr 1;omega]
        unfold jh6;rw [if_neg g3,show a+k-a=k by omega];simp [Addr.add]
       rw [d1] at M;obtain ⟨m,hm⟩:=Nm (a+k);have k2:m≤lc:=by omega
       have k3:a≤m:=by omega
       have k4:m-a=k:=by omega
       have k5:(m:Int)≤(lc:Int):=by omega
       have k6:IntKind.i64.wrap ((a:Int)+(k:Int))=(m:Int):=by
        rw [show (a:Int)+(k:Int)=(m:Int) by omega]
        exact IntWalk.i64_in _ (by omega)
       clear f0 f1 hps a5 c9 b2 ht f2 f3 d0 L a4 g0 d1 hm
       rcases b1 with h1 | ⟨h1,h2⟩ | ⟨h1,h2,h3⟩
       all_goals
        go_wp2_with fail
        go_region_held3 (fun w'=>Below wr.heap.size wr w') (first | exact jd _ | assumption)
         (first | (go_at_call 159;refine (H0.1 _ (by assumption)).mono ?_;rintro r4 w4 ⟨lv4,rfl,h8,h9⟩) | (go_at_call 187;refine (M.1 _ _ (by assumption) (by assumption)).mono ?_;rintro r5 w5 ⟨rfl,f4⟩))
        have U:=Hd f4;clear h9 f4 h8;go_wp2_with fail
        go_ret3
        refine ⟨N.1.trans (U.1.mono N.1.size),?_⟩
        cases okb with
        | false =>
         have i0:¬ jz e p=t:=fun h=>by have:=T.1;rw [decide_eq_true h] at this;cases this
         exact .inl ⟨by rw [S.1,if_neg i0],_,_,rfl⟩
        | true =>
         have he:jz e p=t:=by have:=T.1;exact of_decide_eq_true this.symm
         exact .inr ⟨p,k,_,by rw [S.1,if_pos he],rfl,Z.1.mod (F:=fun _=>False) (Mod.of_below U.1) (fun _ _ h=>h)⟩
      ·
       have h7:((p.length:Int) != (sz:Int))=true:=by rw [bne_iff_ne];omega
       have f8:(p.length != sz)=true:=by rw [bne_iff_ne];exact hps
       have H:=Hd (show R=none by rw [L.1,if_pos hps])
       rcases b1 with h1 | ⟨h1,h2⟩ | ⟨h1,h2,h3⟩
       all_goals
        go_wp2_with fail
        go_ret3
        exact ⟨N.1,.inl ⟨H.1,_,_,rfl⟩⟩
 ·
  have a0:xL e (bl.drop a)=none:=by rw [List.drop_eq_nil_of_le (by omega)];rfl
  have hd:(bl.length:Int)≤(a:Int):=by omega
  obtain ⟨R,hR⟩:=Nm (xL e (bl.drop a));rw [← hR] at a0 ⊢;have H:=Hd a0;have i7:bl.length≤a:=by omega
  clear a0 hl a3 hat hR;go_enter func172,ntmps172;go_wp2_with fail
  go_ret3
  exact ⟨Below.refl _ _,.inl ⟨H.1,_,_,rfl⟩⟩
end Go.Proofs.YtgcnolapjppbpaaGreatDoor
