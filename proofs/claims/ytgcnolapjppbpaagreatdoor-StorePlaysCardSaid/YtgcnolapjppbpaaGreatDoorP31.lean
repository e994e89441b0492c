/-
  Texts of one proof, one behind the other.
-/
import Derived.Test.YtgcnolapjppbpaaGreatDoorP16
import Derived.Test.YtgcnolapjppbpaaGreatDoorP18
import Derived.Test.YtgcnolapjppbpaaGreatDoorP00
namespace Go.Proofs.YtgcnolapjppbpaaGreatDoor
open Go.RowKit _root_.Go.Proofs.Tryz
set_option maxRecDepth 100000
set_option maxHeartbeats 25600000
theorem jil (A:List UInt8)(q:SesM):yq A q=A++yq [] q:=by unfold yq;simp only [List.append_assoc,List.nil_append]
theorem ja5 (c:UInt8):UInt8.ofNat c.toNat=c:=by
 apply UInt8.toNat.inj
 have:=c.toNat_lt;show c.toNat % 256=c.toNat;omega
theorem jen:∀ (l:List UInt8) (i u v j:Nat),i≤9→xi i u l=(0,v,j)→∃ n,v=u+n*2 ^ (7*i)∧i<j∧l.take (j-i)=vC (10-i) n∧n*2 ^ (7*i)<2 ^ 64∧(0<i→0<n)
 | [],i,u,v,j,_,h=>by simp [xi] at h
 | c::l,i,u,v,j,hi,h=>by
  have hc:=c.toNat_lt;unfold xi at h
  split at h
  · simp at h
  ·
   rename_i hf
   split at h
   ·
    rename_i h8
    simp only [Prod.mk.injEq,true_and] at h;obtain ⟨rfl,rfl⟩:=h;refine ⟨c.toNat,rfl,by omega,?_,?_,by omega⟩
    ·
     rw [show i+1-i=1 by omega,show 10-i=(9-i)+1 by omega]
     unfold vC;rw [if_pos h8,ja5];rfl
    ·
     rcases Nat.lt_or_ge i 9 with h9 | h9
     ·
      have:c.toNat*2 ^ (7*i)≤127*2 ^ 56:=Nat.mul_le_mul (by omega) (Nat.pow_le_pow_right (by omega) (by omega))
      omega
     ·
      obtain rfl:i=9:=by omega
      have:c.toNat*2 ^ (7*9)≤1*2 ^ (7*9):=Nat.mul_le_mul_right _ (by omega)
      omega
   ·
    rename_i h8
    have h9:i<9:=by
     rcases Nat.lt_or_ge i 9 with h1 | h1
     · exact h1
     · exact absurd (.inl ⟨by omega,by omega⟩) hf
    obtain ⟨n,h1,h2,h3,h4,h5⟩:=jen l (i+1) _ v j (by omega) h
    have hp:2 ^ (7*(i+1))=2 ^ (7*i)*128:=by rw [show 7*(i+1)=7*i+7 by omega,Nat.pow_add]
    have hn:=h5 (by omega)
    have a0:n*2 ^ (7*(i+1))+(c.toNat-128)*2 ^ (7*i)=(n*128+(c.toNat-128))*2 ^ (7*i):=by
     rw [hp,Nat.mul_comm (2 ^ (7*i)) 128,← Nat.mul_assoc,← Nat.add_mul]
    refine ⟨n*128+(c.toNat-128),by omega,by omega,?_,?_,by omega⟩
    ·
     rw [show j-i=(j-(i+1))+1 by omega,List.take_succ_cons,h3,show 10-i=(10-(i+1))+1 by omega]
     conv=>rhs;unfold vC
     rw [if_neg (by omega),show (n*128+(c.toNat-128)) % 128+128=c.toNat by omega,show (n*128+(c.toNat-128)) / 128=n by omega,ja5]
    ·
     rw [← a0]
     -- the number's upper part is below 2^64,so is the whole
     have hq:n*2 ^ (7*(i+1))<2 ^ 64:=h4;have hm:2 ^ (7*(i+1))*2 ^ (64-7*(i+1))=2 ^ 64:=by rw [← Nat.pow_add];congr 1;omega
     have a1:n<2 ^ (64-7*(i+1)):=by
      rcases Nat.lt_or_ge n (2 ^ (64-7*(i+1))) with h | h
      · exact h
      ·
       have:=Nat.mul_le_mul_right (2 ^ (7*(i+1))) h;rw [Nat.mul_comm (2 ^ (64-7*(i+1)))] at this;omega
     have h6:(n+1)*2 ^ (7*(i+1))≤2 ^ (64-7*(i+1))*2 ^ (7*(i+1)):=Nat.mul_le_mul_right _ a1;rw [Nat.mul_comm (2 ^ (64-7*(i+1))),hm,Nat.add_mul] at h6;have h7:(c.toNat-128)*2 ^ (7*i)<128*2 ^ (7*i):=Nat.mul_lt_mul_of_pos_right (by omega) (Nat.pow_pos (by omega))
     rw [Nat.mul_comm 128,← hp] at h7;omega
theorem jee:∀ (l:List UInt8) (i u:Nat),(xi i u l).1=0→(xi i u l).2.2≤i+l.length
 | [],i,u=>by intro h;unfold xi at h;exact absurd h (by decide)
 | c::l,i,u=>by
  intro h;unfold xi at h ⊢
  split at h
  · exact absurd h (by decide)
  ·
   rename_i hf
   rw [if_neg hf]
   split at h
   ·
    rename_i h8
    rw [if_pos h8];simp only [List.length_cons];omega
   ·
    rename_i h8
    rw [if_neg h8];have:=jee l (i+1) _ h;simp only [List.length_cons];omega
theorem jc5 (l:List UInt8)(h:(jW l).1=0):(jW l).2.2≤l.length:=by
 have:=jee l 0 0 h;unfold jW;omega
theorem jgd {l:List UInt8}(h:(jW l).1=0):(jW l).2.1<2 ^ 64∧l=yM (jW l).2.1++l.drop (jW l).2.2:=by
 obtain ⟨v,j,hv⟩:∃ v j,jW l=(0,v,j):=⟨(jW l).2.1,(jW l).2.2,by rw [← h]⟩
 rw [hv];obtain ⟨n,h1,h2,h3,h4,_⟩:=jen l 0 0 v j (by omega) hv
 simp only [Nat.mul_zero,Nat.pow_zero,Nat.mul_one,Nat.zero_add,Nat.sub_zero] at h1 h3 h4;subst h1;refine ⟨h4,?_⟩;show l=yM v++l.drop j;unfold yM;rw [← h3,List.take_append_drop]
theorem jin {l:List UInt8}(h:(jN l).1=0):l=yr (jN l).2.1++l.drop (jN l).2.2:=by
 unfold jN at h ⊢
 split at h
 ·
  rename_i h0
  rw [if_pos h0]
  split at h
  · simp at h
  ·
   rename_i h1
   rw [if_neg h1]
   split at h
   · simp at h
   ·
    rename_i h2
    rw [if_neg h2];have h3:=(jgd h0).2;have h4:=jc5 l h0;unfold yr;simp only;rw [List.length_take,List.length_drop,Nat.min_eq_left (by omega),List.append_assoc,← List.drop_drop,List.take_append_drop]
    exact h3
 · rename_i h0;exact absurd h h0
structure Got (b:List UInt8)(s:TkM)(A:List UInt8):Prop where
 eq:b=A++s.rest
 le:s.k≤s.l.length
theorem jcW {s:TkM}(h:s.num.2.er=0):s.er=0:=by
 unfold TkM.num at h
 split at h
 · assumption
 · exact h
theorem jdf {s:TkM}(h:s.txt.2.er=0):s.er=0:=by
 unfold TkM.txt at h
 split at h
 · assumption
 · exact h
theorem xl {s:TkM}(h:s.int.2.er=0):s.er=0:=jcW h
theorem jcr (s:TkM):s.num.2.big=s.big:=by
 unfold TkM.num
 split
 · split <;> rfl
 · rfl
theorem jcs (s:TkM):s.txt.2.big=s.big:=by
 unfold TkM.txt
 split
 · split <;> rfl
 · rfl
theorem yF {s:TkM}(h:s.int.2.big=false):s.big=false∧s.num.1≤9223372036854775807:=by
 have h1:(s.num.2.big || !(decide (s.num.1≤9223372036854775807)))=false:=h
 rw [Bool.or_eq_false_iff] at h1;rw [jcr] at h1;exact ⟨h1.1,by simpa using h1.2⟩
theorem Got.num {b:List UInt8}{s:TkM}{A:List UInt8}(h:Got b s A)(he:s.num.2.er=0):Got b s.num.2 (A++yM s.num.1)∧s.num.1<2 ^ 64:=by
 have h0:=jcW he;have hn:(jW s.rest).1=0:=by
  unfold TkM.num at he;rw [if_pos h0] at he
  split at he
  · assumption
  · exact he
 have h1:s.num=((jW s.rest).2.1,⟨s.l,s.k+(jW s.rest).2.2,0,s.big⟩):=by
  unfold TkM.num;rw [if_pos h0,if_pos hn]
 obtain ⟨h2,h3⟩:=jgd hn;have h4:=jc5 _ hn;rw [h1];refine ⟨⟨?_,?_⟩,h2⟩
 ·
  show b=(A++yM (jW s.rest).2.1)++s.l.drop (s.k+(jW s.rest).2.2);have e:s.l.drop (s.k+(jW s.rest).2.2)=s.rest.drop (jW s.rest).2.2:=by unfold TkM.rest;rw [List.drop_drop]
  rw [e,List.append_assoc,← h3];exact h.eq
 ·
  show s.k+(jW s.rest).2.2≤s.l.length;have:s.rest.length=s.l.length-s.k:=by unfold TkM.rest;rw [List.length_drop]
  have:=h.le;omega
theorem jg5 (l:List UInt8)(h:(jN l).1=0):(jN l).2.2≤l.length:=by
 unfold jN at h ⊢
 split at h
 ·
  rename_i h0
  rw [if_pos h0]
  split at h
  · simp at h
  ·
   rename_i h1
   rw [if_neg h1]
   split at h
   · simp at h
   ·
    rename_i h2
    rw [if_neg h2];have:=jc5 l h0;show (jW l).2.2+(jW l).2.1≤l.length;omega
 · rename_i h0;exact absurd h h0
theorem Got.txt {b:List UInt8}{s:TkM}{A:List UInt8}(h:Got b s A)(he:s.txt.2.er=0):Got b s.txt.2 (A++yr s.txt.1):=by
 have h0:=jdf he;have hn:(jN s.rest).1=0:=by
  unfold TkM.txt at he;rw [if_pos h0] at he
  split at he
  · assumption
  · exact he
 have h1:s.txt=((jN s.rest).2.1,⟨s.l,s.k+(jN s.rest).2.2,0,s.big⟩):=by
  unfold TkM.txt;rw [if_pos h0,if_pos hn]
 have h3:=jin hn;have h4:=jg5 _ hn;rw [h1];refine ⟨?_,?_⟩
 ·
  show b=(A++yr (jN s.rest).2.1)++s.l.drop (s.k+(jN s.rest).2.2);have e:s.l.drop (s.k+(jN s.rest).2.2)=s.rest.drop (jN s.rest).2.2:=by unfold TkM.rest;rw [List.drop_drop]
  rw [e,List.append_assoc,← h3];exact h.eq
 ·
  show s.k+(jN s.rest).2.2≤s.l.length;have:s.rest.length=s.l.length-s.k:=by unfold TkM.rest;rw [List.length_drop]
  have:=h.le;omega
theorem Got.int {b:List UInt8}{s:TkM}{A:List UInt8}(h:Got b s A)(he:s.int.2.er=0)(hb:s.int.2.big=false):Got b s.int.2 (A++jm s.int.1):=by
 obtain ⟨h1,_⟩:=h.num he;obtain ⟨_,h2⟩:=yF hb;have e:s.int.1=(s.num.1:Int):=by show yz s.num.1=_;unfold yz;rw [if_pos h2]
 rw [e];exact ⟨h1.eq,h1.le⟩
theorem Got.born {b:List UInt8}{s:TkM}{A:List UInt8}(h:Got b s A)(he:(yg s).2.er=0)(hb:(yg s).2.big=false):Got b (yg s).2 (yq A (yg s).1)∧(yg s).1.scopes<2 ^ 64:=by
 unfold yg at he hb ⊢;simp only at he hb ⊢;have e11:=xl he;have e10:=xl e11;have e9:=xl e10;have e8:=xl e9;have e7:=jcW e8;have e6:=jdf e7;have e5:=jdf e6;have e4:=xl e5;have e3:=xl e4;have e2:=xl e3;have e1:=xl e2;have b11:=(yF hb).1;have b10:=(yF b11).1;have b9:=(yF b10).1;have b8:=(yF b9).1;have b5:s.int.2.int.2.int.2.int.2.int.2.big=false:=by rw [← jcs,← jcs,← jcr];exact b8
 have b4:=(yF b5).1;have b3:=(yF b4).1;have b2:=(yF b3).1;have b1:=(yF b2).1;have g1:=h.int e1 b1;have g2:=g1.int e2 b2;have g3:=g2.int e3 b3;have g4:=g3.int e4 b4;have g5:=g4.int e5 b5;have g6:=g5.txt e6;have g7:=g6.txt e7;have g8:=(g7.num e8).1;have g9:=g8.int e9 b9;have g10:=g9.int e10 b10;have g11:=g10.int e11 b11;have g12:=g11.int he hb;exact ⟨g12,(g7.num e8).2⟩
theorem jdl {s:TkM}{e f:EvtM}(h:zI s e=(0,f)):s.er=0∧¬ s.k<s.l.length∧s.big=false∧yb e=true∧e=f:=by
 unfold zI at h
 split at h
 ·
  rename_i h0
  split at h
  · simp at h
  ·
   rename_i h1
   split at h
   · simp at h
   ·
    rename_i h2
    split at h
    ·
     rename_i h3
     simp only [Prod.mk.injEq,true_and] at h;exact ⟨h0,h1,by simpa using h2,h3,h⟩
    · simp at h
 ·
  rename_i h0
  simp only [Prod.mk.injEq] at h;exact absurd h.1 h0
theorem Got.all {b:List UInt8}{s:TkM}{A:List UInt8}(h:Got b s A)(hk:¬ s.k<s.l.length):b=A:=by
 have:=h.eq;rw [show s.rest = [] from by unfold TkM.rest;exact List.drop_of_length_le (by omega),List.append_nil] at this
 exact this
theorem jh7 (q:SesM):evB ⟨0,q,0,0⟩=yq (yM 0) q:=rfl
theorem jgG (n:Int):evB ⟨1,ju,n,0⟩=yM 1++jm n:=rfl
theorem jiQ (n:Int):evB ⟨2,ju,0,n⟩=yM 2++jm n:=rfl
theorem jiZ {b:List UInt8}{e:EvtM}(h:ud b=(0,e)):yb e=true∧e.s.scopes<2 ^ 64∧evB e=b:=by
 have h0:Got b ⟨b,0,0,false⟩ []:=⟨rfl,Nat.zero_le _⟩;have g1:=fun he=>(h0.num he).1
 unfold ud at h;simp only at h;generalize TkM.num ⟨b,0,0,false⟩=p at h g1;clear h0
 split at h
 ·
  rename_i he
  have g1:=g1 he;rw [List.nil_append] at g1
  split at h
  · simp at h
  split at h
  ·
   rename_i _ hk
   obtain ⟨h1,h2,h3,h4,h5⟩:=jdl h;obtain ⟨g2,g3⟩:=g1.born h1 h3;rw [hk] at g2;have g4:=g2.all h2;generalize (yg p.2).1=q at h4 h5 g3 g4;subst h5;exact ⟨h4,g3,(jh7 q).trans g4.symm⟩
  split at h
  ·
   rename_i _ _ hk
   obtain ⟨h1,h2,h3,h4,h5⟩:=jdl h;have g2:=g1.int h1 h3;rw [hk] at g2;have g4:=g2.all h2;generalize p.2.int.1=q at h4 h5 g4;subst h5;exact ⟨h4,show ju.scopes<2 ^ 64 by decide,(jgG q).trans g4.symm⟩
  ·
   rename_i h5 h6 h7
   obtain ⟨h1,h2,h3,h4,h5⟩:=jdl h;have g2:=g1.int h1 h3;rw [show p.1=2 by omega] at g2
   have g4:=g2.all h2;generalize p.2.int.1=q at h4 h5 g4;subst h5;exact ⟨h4,show ju.scopes<2 ^ 64 by decide,(jiQ q).trans g4.symm⟩
 ·
  rename_i he
  simp only [Prod.mk.injEq] at h;exact absurd h.1 he
theorem jjT (st:StM)(r:List UInt8):jay st++r=jm st.clock++(jm st.births++(yM st.l.length++(st.l.flatMap (yq [])++r))):=by
 unfold jay jZ;simp only [List.flatMap_cons,List.flatMap_nil,List.append_nil,List.append_assoc]
 rfl
theorem jjy {s:TkM}(h:(yg s).2.er=0):s.er=0:=by
 unfold yg at h;exact xl (xl (xl (xl (xl (jdf (jdf (jcW (xl (xl (xl (xl h)))))))))))
theorem jjd {s:TkM}(h:(yg s).2.big=false):s.big=false:=by
 unfold yg at h;simp only at h;have h1:=(yF (yF (yF (yF h).1).1).1).1;rw [jcr,jcs,jcs] at h1;exact (yF (yF (yF (yF (yF h1).1).1).1).1).1
theorem jg7:∀ (n:Nat) (s:TkM),(sesTs n s).2.er=0→s.er=0
 | 0,_,h=>h
 | n+1,s,h=>jjy (jg7 n (yg s).2 h)
theorem jeY:∀ (n:Nat) (s:TkM),(sesTs n s).2.big=false→s.big=false
 | 0,_,h=>h
 | n+1,s,h=>jjd (jeY n (yg s).2 h)
theorem Got.sesTs {b:List UInt8}:∀ (n:Nat) (s:TkM) (A:List UInt8),Got b s A→(sesTs n s).2.er=0→(sesTs n s).2.big=false→Got b (sesTs n s).2 (A++(sesTs n s).1.flatMap (yq []))∧∀ q∈(sesTs n s).1,q.scopes<2 ^ 64
 | 0,s,A,h,_,_=>⟨by show Got b s (A ++ []);rwa [List.append_nil],fun q hq=>by cases hq⟩
 | n+1,s,A,h,he,hb=>by
  obtain ⟨h1,h2⟩:=h.born (jg7 n _ he) (jeY n _ hb);obtain ⟨h3,h4⟩:=Got.sesTs n (yg s).2 _ h1 he hb;refine ⟨?_,fun q hq=>?_⟩
  ·
   show Got b (Go.Proofs.YtgcnolapjppbpaaGreatDoor.sesTs n (yg s).2).2 (A++((yg s).1::(Go.Proofs.YtgcnolapjppbpaaGreatDoor.sesTs n (yg s).2).1).flatMap (yq []));rw [List.flatMap_cons,← List.append_assoc,← jil];exact h3
  ·
   rcases List.mem_cons.1 hq with rfl | hq
   · exact h2
   · exact h4 q hq
theorem jiU {s:TkM}{e f:StM}(h:jfb s e=(0,f)):s.er=0∧¬ s.k<s.l.length∧s.big=false∧yu e=none∧e=f:=by
 unfold jfb at h
 split at h
 ·
  rename_i h0
  split at h
  · simp at h
  ·
   rename_i h1
   split at h
   · simp at h
   ·
    rename_i h2
    split at h
    ·
     rename_i h3
     simp only [Prod.mk.injEq,true_and] at h;exact ⟨h0,h1,by simpa using h2,h3,h⟩
    · simp at h
 ·
  rename_i h0
  simp only [Prod.mk.injEq] at h;exact absurd h.1 h0
theorem jjf {b:List UInt8}{st:StM}(h:vk b=(0,st)):yu st=none∧(∀ q∈st.l,q.scopes<2 ^ 64)∧jay st=b:=by
 unfold vk at h;simp only at h
 split at h
 · simp at h
 ·
  obtain ⟨h1,h2,h3,h4,h5⟩:=jiU h;have g0:Got b ⟨b,0,0,false⟩ []:=⟨rfl,Nat.zero_le _⟩;have e3:=jg7 _ _ h1;have b3:=jeY _ _ h3;rw [jcr] at b3;have e2:=jcW e3;have e1:=xl e2;have b1:=(yF b3).1;have g1:=g0.int e1 b1;have g2:=g1.int e2 b3;obtain ⟨g3,_⟩:=g2.num e3;obtain ⟨g4,g5⟩:=Got.sesTs _ _ _ g3 h1 h3;have g6:=g4.all h2;subst h5;refine ⟨h4,g5,Eq.trans ?_ g6.symm⟩;have hb:=jjT (⟨(⟨b,0,0,false⟩:TkM).int.1,(⟨b,0,0,false⟩:TkM).int.2.int.1,(sesTs (⟨b,0,0,false⟩:TkM).int.2.int.2.num.1 (⟨b,0,0,false⟩:TkM).int.2.int.2.num.2).1⟩:StM) [];rw [List.append_nil,List.append_nil] at hb;simp only at hb;rw [jbg] at hb;generalize (⟨b,0,0,false⟩:TkM).int=p at hb ⊢;rw [hb];simp only [List.nil_append,List.append_assoc]
theorem jgx {n:Int}(h1:n<128):(jm n).length=1:=by
 unfold jm yM vC;rw [if_pos (by omega)];rfl
theorem jf7 {q:SesM}(h:jR q=true):(yq [] q).length≤190:=by
 have hs:=SesN.of h;have hq:=h;unfold jR at hq;simp only [Bool.and_eq_true] at hq;have a1:=jgx (n:=q.slot) (by have:=yp hq.1;omega)
 have a2:=jgx (n:=q.level) (by have:=yp hq.2.2.2.1;omega)
 unfold yq;have h1:=fun n=>jw n
 have h2:=fun n=>xu n
 have h3:=xk hs.user;have h4:=xk hs.label;simp only [List.length_append,List.length_nil];have:=h1 q.birth;have:=h1 q.upS;have:=h1 q.upB;have:=h1 q.kind;have:=h2 q.scopes;have:=h1 q.born;have:=h1 q.deadline;have:=h1 q.depth;omega
theorem jaY:∀ {l:List SesM},(∀ s∈l,jR s=true)→(l.flatMap (yq [])).length≤190*l.length
 | [],_=>by simp
 | s::l,h=>by
  have h1:=jf7 (h s (by simp))
  have h2:=jaY (l:=l) (fun q hq=>h q (by simp [hq]))
  rw [List.flatMap_cons,List.length_append,List.length_cons];omega
theorem jg3 {st:StM}(h:yu st=none):(jay st).length≤6144:=by
 obtain ⟨_,_,h3,h4⟩:=zV h;have h5:=jaY h4;have:=ja9 st.clock st.births st.l.length;unfold jay;rw [List.length_append];omega
end Go.Proofs.YtgcnolapjppbpaaGreatDoor
