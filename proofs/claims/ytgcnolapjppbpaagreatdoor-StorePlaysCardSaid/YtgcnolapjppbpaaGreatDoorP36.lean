/-
  Texts of one proof, one behind the other.
-/
import Derived.Test.YtgcnolapjppbpaaGreatDoorP35
import Derived.Test.YtgcnolapjppbpaaGreatDoorP34
import Derived.Test.YtgcnolapjppbpaaGreatDoorP22
import Derived.Test.YtgcnolapjppbpaaGreatDoorP19
import Derived.Test.YtgcnolapjppbpaaGreatDoorP00
namespace Go.Proofs.YtgcnolapjppbpaaGreatDoor
open Go.RowKit _root_.Go.Proofs.Tryz
set_option maxRecDepth 100000
set_option maxHeartbeats 25600000
theorem ji1:(prog.info? 3).map (fun i=>(i.zero,i.size,i.bytes))=some (some (.int .i64 0),1,8):=by kernel_rfl
theorem jk8 {w:World}{ops:Array Oper}{rest:List Oper}{o:Oper}{a:Act}{Q:Exit→Act→World→Prop}(a2:o.guard=none)(s x:Operand)(ho:o.op=.call { callee:=.builtin .append,args:=#[s,x],argTypes:=#[34,34] })(base:Nat)(v:Value)(n:Nat)(xs:List Value)(hs:a.eval s=v)(a1:w.ownsRow base 3 1 v n xs)(ad:Addr)(c:Nat)(y:Value)(hx:a.eval x=.slice (some ad) 1 c)(hy:w.cell? ad=some y)(h1:y.oneCell'=true)(a6:n+1≤17592186044416)(a0:base≤w.heap.size)(h:∀ v' w',w'.ownsRow base 3 1 v' (n+1) (xs ++ [y])→w.grownBy w' v.ownBlock→xe w v v'→wpList prog ops Q rest (a.put o.dst v') w'):wpList prog ops Q (o::rest) a w:=by
 obtain ⟨i0,hi,a3,a4,a5⟩:=info_parts ji1;refine ye a2 s x 34 ho base 3 i0 (.int .i64 0) 1 8 underlying34 hi a3 a4 a5 rfl (by decide) v n xs hs a1 ad 1 c [y] hx rfl (fun j u hj=>?_) (by simpa using h1) (by unfold maxLen;omega) (by omega) a0 h
 cases j with
 | zero=>simp at hj;subst hj;rw [show ad.add 0=ad from by cases ad with | mk b o s=>cases s <;> rfl];exact hy
 | succ j=>simp at hj
theorem jjI {e:UInt32}{bl:List (List UInt8)}:∀ n,(∀ i,i<n→yU e bl i≠none)→n≤yV e bl n:=by
 intro n
 induction n with
 | zero=>intro _;exact Nat.zero_le _
 | succ n ih =>
  intro h;have h1:=ih (fun i hi=>h i (by omega))
  cases hp:yU e bl n with
  | none=>exact absurd hp (h n (by omega))
  | some x =>
   obtain ⟨p,k⟩:=x;rw [zj hp];have:=(vr hp).1;omega
def uF (e:UInt32)(bl:List (List UInt8))(k:Nat):List Value:=(List.range k).map (fun i=>.int .i64 ((yV e bl i:Nat):Int))
structure RScanI (e:UInt32)(bl:List (List UInt8))(w:World)(k:Nat)(ov pv:Value)(ys:List Value)(W:World):Prop where
 found:∀ i,i<k→∃ p c,yU e bl i=some (p,c)∧OwnM W w.heap.size 5 (ys.getD i undef) p.length (p.map V8)
 out:W.ownsRow w.heap.size 92 1 ov k ys
 len:ys.length=k
 pl:W.ownsRow w.heap.size 3 1 pv k (uF e bl k)
 below:Below w.heap.size w W
theorem OwnM.apart_row {W:World}{b b':Nat}{e e':TypeId}{s n n':Nat}{v v':Value}{xs xs':List Value}(h:OwnM W b e v n xs)(h':W.ownsRow b' e' s v' n' xs')(a0:e'≠e):Apart v v':=(jbV h' h a0).symm
theorem RScanI.next {e:UInt32}{bl:List (List UInt8)}{w:World}{k:Nat}{ov pv ov' pv' xv:Value}{ys:List Value}{wr w1 w2 w3:World}{o1 o2:Obj}{p:List UInt8}{c q:Nat}(h:RScanI e bl w k ov pv ys wr)(a1:Below wr.heap.size wr w1)(hp:yU e bl k=some (p,c))(a2:OwnM w1 wr.heap.size 5 xv p.length (p.map V8))(h2:w2.ownsRow w.heap.size 92 1 ov' (k+1) (ys ++ [xv]))(g2:(w1.alloc o1).grownBy w2 ov.ownBlock)(hq:q=yV e bl k)(h3:w3.ownsRow w.heap.size 3 1 pv' (k+1) (uF e bl k ++ [.int .i64 (q:Int)]))(g3:(w2.alloc o2).grownBy w3 pv.ownBlock):RScanI e bl w (k+1) ov' pv' (ys ++ [xv]) w3:=by
 have hs:=h.below.size;have b2:=jh a1 (ja w1 o1);have b3:=ja w2 o2;have o1a:=jr h.out b2;have p1a:=jr h.pl b2;have p2:=xd p1a g2 (jbB p1a o1a (by decide))
 have o2a:=jr h2 b3;have p2a:=jr p2 b3;have a0:∀ v (p:List UInt8),OwnM w1 w.heap.size 5 v p.length (p.map V8)→OwnM w3 w.heap.size 5 v p.length (p.map V8):=fun v p hv=>by
  have v1:=hv.below (ja w1 o1);have v2:=(v1.other g2 (v1.apart_row o1a (by decide))).below b3
  exact v2.other g3 (v2.apart_row p2a (by decide))
 refine ⟨fun i hi=>?_,xd o2a g3 (jbB o2a p2a (by decide)),by rw [List.length_append,h.len];rfl,?_,?_⟩
 ·
  rcases Nat.lt_or_ge i k with hik | hik
  ·
   obtain ⟨p',c',e1,e2⟩:=h.found i hik;refine ⟨p',c',e1,?_⟩;rw [List.getD,List.getElem?_append_left (by rw [h.len];exact hik)]
   exact a0 _ _ (e2.below a1)
  ·
   obtain rfl:i=k:=by omega
   refine ⟨p,c,hp,?_⟩;rw [List.getD,List.getElem?_append_right (by rw [h.len];omega),h.len,Nat.sub_self]
   exact a0 _ _ (a2.lower hs)
 ·
  have:uF e bl (k+1)=uF e bl k ++ [.int .i64 (q:Int)]:=by unfold uF;rw [List.range_succ,List.map_append,hq];rfl
  rw [this];exact h3
 ·
  have c1:=(h.below.trans (b2.mono hs)).trans (ji g2 (Nat.le_trans hs b2.size) (fun j hj=>(o1a.lt j hj).1))
  exact (c1.trans (b3.mono c1.size)).trans (ji g3 (Nat.le_trans c1.size b3.size) (fun j hj=>(p2a.lt j hj).1))
theorem jdU (e:UInt32)(lv:Value)(bl:List (List UInt8))(w:World)(hl:Rd w lv bl.length (bl.map SV))(hn:bl.length≤1048576)(a2:∀ b∈bl,b.length≤1048576) :
  Calls prog 148 #[.int .u32 (e.toNat:Int),lv] w fun r w'=>∃ n ov pv ys,yU e bl n=none∧r=.returned (.tuple #[ov,pv,.int .i64 ((yV e bl n:Nat):Int)])∧RScanI e bl w n ov pv ys w':=by
 obtain ⟨la,lc,rfl⟩:∃ a c,lv=.slice a bl.length c:=by obtain ⟨a,c,h,_⟩:=hl;exact ⟨a,c,h⟩
 have W:=Hd hl;have R:=Hd a2;clear hl a2;go_enter func148,ntmps148;go_wp2_with fail
 go_loopw [7,8,9,10] (fun ov pv av iv wr=>∃ (k:Nat) (ys:List Value),k≤bl.length∧iv=.int .i64 k∧av=.int .i64 ((yV e bl k:Nat):Int)∧RScanI e bl w k ov pv ys wr) (fun _ _ _ iv _=>bl.length-(intOf iv).toNat)
 case atStart=>exact ⟨0,[],by omega,rfl,rfl,⟨fun i hi=>by omega,World.ownsRow_nil _ _ _ _,rfl,World.ownsRow_nil _ _ _ _,Below.refl _ _⟩⟩
 case round =>
  obtain ⟨k,ys,hk,rfl,rfl,hI⟩:=hrel;obtain ⟨oa,oc,rfl,_⟩:=jK hI.out;obtain ⟨pa,pc,rfl,_⟩:=jK hI.pl;obtain ⟨q,hq⟩:=Nm (yV e bl k);have b3:q≤bl.length:=by rw [hq];exact uL _ _ _
  rw [← hq];have H:=Hd hI;have B:=Hd hq;by_cases hlt:k<bl.length
  ·
   have a3:=jdX e (.slice la bl.length lc) bl q wr (W.1.below hI.below) hn (by omega) R.1
   have A:=Hd a3;clear a3 hI hq;go_wp2_with fail;refine A.1.mono ?_;rintro r w1 ⟨a0,hr⟩
   rcases hr with ⟨a6,x,y,rfl⟩ | ⟨p,c,pv,hp,rfl,a4⟩
   ·
    have C:=Hd (show ∃ n ov pv ys,yU e bl n=none∧Ending.returned (Value.tuple #[.slice oa k oc,.slice pa k pc,.int .i64 (q:Int)])=.returned (.tuple #[ov,pv,.int .i64 ((yV e bl n:Nat):Int)])∧RScanI e bl w n ov pv ys w1 from
     ⟨k,_,_,ys,by unfold yU;rw [← B.1];exact a6,by rw [← B.1],⟨fun i hi=>by
      obtain ⟨p,c,h1,h2⟩:=H.1.found i hi;exact ⟨p,c,h1,h2.below a0⟩,jr H.1.out a0,H.1.len,jr H.1.pl a0,H.1.below.trans (a0.mono H.1.below.size)⟩⟩)
    clear a6 a0 A;go_wp2_with fail
    go_ret3
    exact C.1
   ·
    obtain ⟨xa,xc,rfl,_⟩:=a4.slice;have a7:yU e bl k=some (p,c):=by unfold yU;rw [← B.1];exact hp
    have a8:=(vr hp);have b4:q+c≤bl.length:=by have:=a8.2;rw [List.length_drop] at this;omega
    have b2:=jh a0 (ja w1 (.cells #[.slice xa p.length xc] 92));have D:=Hd (jr H.1.out b2);have G:=Hd ((Box.new w1 #[.slice xa p.length xc] 92).cell 0 _ rfl);have E:=Hd (Nat.le_trans H.1.below.size b2.size);have I:=Hd (show (Value.slice xa p.length xc).oneCell'=true by simp [Value.oneCell'])
    have S:=Hd (show k+1≤4398046511104 by omega)
    have F:=Hd (jr H.1.pl b2);have J:=Hd a0;have K:=Hd a4;have T:=Hd a7;have hw:wrap64 ((q:Int)+(c:Int))=(q:Int)+(c:Int):=jbe _ (by omega) (by omega)
    have U:=Hd hw;clear hp a7 a0 a4 b2 A a8 hw
    go_wp2_with (at_builtin;refine jky rfl _ _ rfl w.heap.size _ k ys rfl D.1 ⟨w1.heap.size,0,none⟩ 1 (.slice xa p.length xc) rfl G.1 I.1 S.1 E.1 ?_)
    intro v2 w2 a5 a1 _;obtain ⟨o2,c2,rfl,_⟩:=jK a5;have L:=Hd (jr (xd F.1 a1 (jbB F.1 D.1 (by decide))) (ja w2 (.cells #[.int .i64 (q:Int)] 3)))
    have M:=Hd (Nat.le_trans (Nat.le_trans E.1 a1.size) (ja w2 (.cells #[.int .i64 (q:Int)] 3)).size);have N:=Hd ((Box.new w2 #[.int .i64 (q:Int)] 3).cell 0 _ rfl);have V:=Hd (show k+1≤17592186044416 by omega)
    have O:=Hd (show (Value.int .i64 (q:Int)).oneCell'=true by simp [Value.oneCell'])
    have P:=Hd a5;have Q:=Hd a1;clear a5 a1
    go_wp2_with (at_builtin;refine jk8 rfl _ _ rfl w.heap.size _ k (uF e bl k) rfl L.1 ⟨w2.heap.size,0,none⟩ 1 (.int .i64 (q:Int)) rfl N.1 O.1 V.1 M.1 ?_)
    intro v3 w3 a9 b0 _;have C:=Hd (show ∃ (k':Nat) (ys':List Value),k'≤bl.length∧Value.int .i64 ((k:Int)+1)=.int .i64 k'∧Value.int .i64 ((q:Int)+(c:Int))=.int .i64 ((yV e bl k':Nat):Int)∧RScanI e bl w k' (.slice o2 (k+1) c2) v3 ys' w3 from
     ⟨k+1,_,by omega,by go_num,by rw [zj T.1,← B.1];go_num,H.1.next J.1 T.1 K.1 P.1 Q.1 B.1 a9 b0⟩)
    have b5:(0:Int)≤(q:Int):=by omega
    have b6:(0:Int)≤(c:Int):=by omega
    have b1:(q:Int)+(c:Int)≤1048576:=by omega
    clear a9 b0 L M N O P Q D G E I F J K H;have hw:=U.1;clear U;go_wp2_with fail
    go_roundw
    case rel=>exact C.1
    case measure=>simp [intOf];omega
  ·
   obtain rfl:k=bl.length:=by omega
   have C:=Hd (show ∃ n ov pv ys,yU e bl n=none∧Ending.returned (Value.tuple #[.slice oa bl.length oc,.slice pa bl.length pc,.int .i64 (q:Int)])=.returned (.tuple #[ov,pv,.int .i64 ((yV e bl n:Nat):Int)])∧RScanI e bl w n ov pv ys wr from by
    refine ⟨_,_,_,ys,?_,by rw [← hq],hI⟩
    have:=jjI (e:=e) (bl:=bl) bl.length (fun i hi h=>by
     obtain ⟨p,c,h1,_⟩:=hI.found i hi;rw [h1] at h;cases h)
    unfold yU;rw [List.drop_eq_nil_of_le this];rfl)
   clear hI hq;go_wp2_with fail
   go_ret3
   exact C.1
def DiskM.blks (d:DiskM)(base n:Nat):List (List UInt8):=((d.strs.drop base).take n).map (fun s=>s.data.toList)
theorem jeZ (d:DiskM)(rp:Nat)(G:Nat→Prop)(base n:Nat)(e:UInt32)(w:World)(h:IsRef w d rp G)(b7:d.strs.length≤4096)(b8:d.Wf)(b9:d.trail.length≤100000000000)(h1:1≤n)(h2:base+n≤d.strs.length)(hs:∀ s∈d.strs,s.size≤256) :
  Calls prog 107 #[.pointer (some ⟨rp,0,none⟩),.int .i64 (base:Int),.int .i64 (n:Int),.int .u32 (e.toNat:Int)] w fun r w'=>∃ (k:Nat) (ov:Value) (ys:List Value),
   yU e (d.blks base n) k=none∧r=.returned (.tuple #[.pointer (some ⟨w.heap.size,0,none⟩),ov,.int .i64 0])∧Rd w' ov k ys∧(∀ b,ov.ownBlock=some b→w.heap.size≤b)∧ys.length=k∧(∀ i,i<k→∃ p c,yU e (d.blks base n) i=some (p,c)∧Rd w' (ys.getD i undef) p.length (p.map V8)∧∀ b,(ys.getD i undef).ownBlock=some b→w.heap.size≤b)∧Below w.heap.size w w' ∧
   yX w' ⟨base,n,e,yV e (d.blks base n) k,k,false⟩ w.heap.size rp:=by

 obtain ⟨bl,a0⟩:=Nm (d.blks base n);rw [← a0];unfold DiskM.blks at a0;have c0:bl.length=n:=by rw [a0,List.length_map,List.length_take,List.length_drop];omega
 have a4:∀ j,j<n→d.strs[base+j]?=some (SB (bl.getD j [])):=fun j hj=>by rw [a0];exact jbP d.strs base n h2 j hj
 have a5:∀ b∈bl,b.length≤256:=by
  rw [a0];intro b hb;obtain ⟨s,c1,rfl⟩:=List.mem_map.1 hb;have:=hs s (List.mem_of_mem_drop (List.mem_of_mem_take c1));show s.data.toList.length≤256;rw [Array.length_toList];exact this
 have S:=Hd a4;have K:=Hd a5;have M:=Hd h;clear h a4 a5 a0 hs;go_enter func107,ntmps107;go_wp2_with fail;refine (jbT d rp G base n e w M.1 b7 h1 h2).mono ?_;rintro r w1 ⟨rfl,hl,a6⟩;have L:=Hd hl;have N:=Hd a6;have O:=Hd (M.1.mod (Mod.of_below (F:=fun _=>False) a6) (fun _ _ h=>h))
 clear hl a6;go_wp2_with fail
 go_loopg [13,14] n (fun gk bv iv wr=>∃ k:Nat,gk+k=n∧iv=.int .i64 (k:Int)∧wr.ownsRow w1.heap.size 9 1 bv k ((bl.take k).map SV)∧Below w1.heap.size w1 wr)
 case atStart=>exact ⟨0,rfl,rfl,World.ownsRow_nil _ _ _ _,Below.refl _ _⟩
 case round =>
  obtain ⟨k,a9,rfl,ho,hB⟩:=hrel;by_cases hk:k<n
  ·
   have c7:(k:Int)<(n:Int):=by omega
   obtain ⟨ba,bc,rfl,_⟩:=jK ho;have a7:=uj d rp G ((base+k:Nat):Int) wr (O.1.mod (Mod.of_below (F:=fun _=>False) hB) (fun _ _ h=>h)) b8 b9
   obtain ⟨x,hx⟩:=Nm (bl.getD k []);have b0:d.strs.getD (base+k) ByteArray.empty=SB x:=by rw [List.getD,S.1 k hk,← hx];rfl
   have b1:d.read ((base+k:Nat):Int)=(SB x,0):=by
    unfold DiskM.read;rw [if_pos ⟨by omega,by omega⟩,Int.toNat_natCast,b0]
   rw [b1,show ((base+k:Nat):Int)=(base:Int)+(k:Int) from by omega] at a7
   have E:=Hd a7;have B:=Hd ho;have H:=Hd hB;have T:=Hd hx;have I:=Hd a9;clear a7 ho hB hx a9 b0 b1;go_wp2_with fail;refine E.1.mono ?_;rintro r w2 ⟨rfl,e2⟩;obtain rfl:=e2.symm;clear E;have A:=Hd (fun ob=>jr B.1 (ja wr ob))
   have C:=Hd (vD wr x 9);have D:=Hd (fun ob=>Nat.le_trans H.1.size (ja wr ob).size)
   go_wp2_with (at_builtin;refine jiv rfl _ _ rfl w1.heap.size _ k ((bl.take k).map SV) rfl (A.1 _) _ [x] rfl C.1 (by rw [List.length_singleton];omega) (D.1 _) ?_)
   intro v' w3 a2 b2 _;have b3:=(H.1.trans ((ja wr _).mono H.1.size)).trans (ji b2 (D.1 _) (fun q hq=>((A.1 (.cells #[] 9)).lt q hq).1))
   have a3:w3.ownsRow w1.heap.size 9 1 v' (k+1) ((bl.take (k+1)).map SV):=by
    rw [List.take_succ_eq_append_getElem (by omega),List.map_append]
    have e1:bl[k]=x:=by rw [T.1];simp [List.getD,show k<bl.length by omega]
    rw [e1];simpa using a2
   have U:=Hd (And.intro a3 b3);clear b3 a3 a2 b2 A C D B H;go_wp2_with fail
   go_roundg (n-(k+1))
   case measure=>have:=I.1;omega
   case rel=>exact ⟨k+1,by have:=I.1;omega,by go_num,U.1⟩
  ·
   obtain rfl:k=n:=by omega
   rw [List.take_of_length_le (by omega)] at ho
   obtain ⟨ba,bc,rfl,_⟩:=jK ho;have b4:=jdU e (.slice ba k bc) bl wr (by rw [c0];exact jq ho) (by omega) (fun b hb=>by have:=K.1 b hb;omega)
   have J:=Hd b4;have H:=Hd hB;clear b4 ho hB;go_wp2_with fail;refine J.1.mono ?_;rintro r w3 ⟨kk,ov,pv,ys,b5,rfl,c2⟩;obtain ⟨q1,q2,q3,_,q5⟩:=c2;obtain ⟨va,vc,rfl,_⟩:=jK q2;have c6:w1.heap.size≤wr.heap.size:=H.1.size;have c8:w.heap.size<w1.heap.size:=L.1.lt;have a8:Below w1.heap.size w1 w3:=jh H.1 q5;have a1:yX w3 ⟨base,k,e,0,0,false⟩ w.heap.size rp:=Box.below L.1 a8;have s1:=Box.set a1 4 (.int .i64 ((yV e bl kk:Nat):Int));have f4:=Box.free a1 4;have f5:=Box.free s1 5;have c4:=Box.cell a1 4 _ rfl;have c5:=Box.cell s1 5 _ rfl;have S1:=Hd s1;have W:=Hd a1;have V:=Hd q1;have B:=Hd q2;have P:=Hd q3;have Q:=Hd a8;have R:=Hd b5;clear b5 q1 q2 q3 q5 a8 a1 s1 H L J;go_wp2_with fail
   go_ret3
   have hm:=(Mod.set (fun b=>b=w.heap.size) w3 ⟨w.heap.size,4,none⟩ (.int .i64 ((yV e bl kk:Nat):Int)) rfl).trans (Mod.set (fun b=>b=w.heap.size) _ ⟨w.heap.size,5,none⟩ (.int .i64 (kk:Int)) rfl)
   have b6:=jh N.1 Q.1;refine ⟨kk,_,ys,R.1,rfl,jq (yB B.1 hm (fun q hq c3=>?_)),(fun q hq=>by have:=(B.1.lt q hq).1;omega),P.1,fun i hi=>?_,b6.trans (hm.below b6.size (fun b hb=>by omega)),S1.1.set 5 (.int .i64 (kk:Int))⟩
   ·
    have:=(B.1.lt q hq).1;omega
   ·
    obtain ⟨p,c,g1,g2⟩:=V.1 i hi;refine ⟨p,c,g1,(g2.keep (fun q hq hl=>hm.block q hl (fun c3=>?_))).rd,fun q hq=>by have:=(g2.lt q hq).1;omega⟩
    have:=(g2.lt q hq).1;omega
theorem jac (d:DiskM)(rp:Nat)(G:Nat→Prop)(at_ n:Int)(w:World)(h:IsRef w d rp G)(hN:d.strs.length≤4096)(ha:I64 at_)(hn:I64 n) :
  Calls prog 138 #[.pointer (some ⟨rp,0,none⟩),.int .i64 at_,.int .i64 n] w fun e w'=>e=.returned (.bool (decide (zt d.strs.length at_ n)))∧w=w':=by
 obtain ⟨a1,a2⟩:=ha;obtain ⟨a3,a4⟩:=hn;have c0:w.cell? ⟨rp,0,none⟩=some (.int .i64 (d.strs.length:Int)):=by
  obtain ⟨tv,h1,_⟩:=h;exact h1.cell 0 _ rfl
 obtain ⟨N,a0⟩:=Nm (d.strs.length);rw [← a0] at c0 hN ⊢;clear h a0;by_cases c1:0≤at_
 ·
  by_cases c2:1≤n
  ·
   by_cases c3:at_≤(N:Int)
   ·
    by_cases c4:n≤(N:Int)
    ·
     have hd:decide (zt N at_ n)=decide (at_+1+2*n≤(N:Int)):=by
      apply decide_eq_decide.2;unfold zt;omega
     rw [hd];clear hd;go_enter func138,ntmps138;go_wp2_with fail;go_ret;exact ⟨rfl,rfl⟩
    ·
     have hd:decide (zt N at_ n)=false:=by rw [decide_eq_false_iff_not];unfold zt;omega
     have c4':decide (n≤(N:Int))=false:=by simpa using c4
     rw [hd];clear hd;go_enter func138,ntmps138;go_wp2_with fail;go_ret;exact ⟨rfl,rfl⟩
   ·
    have hd:decide (zt N at_ n)=false:=by rw [decide_eq_false_iff_not];unfold zt;omega
    have c3':decide (at_≤(N:Int))=false:=by simpa using c3
    rw [hd];clear hd;go_enter func138,ntmps138;go_wp2_with fail;go_ret;exact ⟨rfl,rfl⟩
  ·
   have hd:decide (zt N at_ n)=false:=by rw [decide_eq_false_iff_not];unfold zt;omega
   have c2':decide (1≤n)=false:=by simpa using c2
   rw [hd];clear hd;go_enter func138,ntmps138;go_wp2_with fail;go_ret;exact ⟨rfl,rfl⟩
 ·
  have hd:decide (zt N at_ n)=false:=by rw [decide_eq_false_iff_not];unfold zt;omega
  have c1':decide (0≤at_)=false:=by simpa using c1
  rw [hd];clear hd;go_enter func138,ntmps138;go_wp2_with fail;go_ret;exact ⟨rfl,rfl⟩
theorem vJ (B:Nat)(sv:Value)(xs:List UInt8)(m:UInt32)(w:World)(ho:w.ownsRow B 5 1 sv xs.length (xs.map V8))(hB:B≤w.heap.size)(hx:xs.length≤1000) :
  Calls prog 167 #[sv,.int .u32 (I32 m)] w fun e w'=>∃ sv',e=.returned sv'∧w'.ownsRow B 5 1 sv' (xs.length+4) ((xs++le m.toNat 4).map V8)∧Below B w w':=by
 obtain ⟨sa,sc,rfl,_⟩:=jK ho;have a2:(#[.int .u8 (I32 m % 256),.int .u8 (I32 m / 256 % 256),.int .u8 (I32 m / 65536 % 256),.int .u8 (I32 m / 16777216 % 256)]:Array Value).toList=(le m.toNat 4).map V8:=by rw [jfG];rfl
 have a1:=fun ob=>ja w ob
 have C:=Hd (fun ob=>jr ho (a1 ob))
 have E:=Hd a2;have H:=Hd (fun ob=>Nat.le_trans hB (a1 ob).size)
 have A:=Hd (fun ob=>(a1 ob).mono hB)
 clear ho a2 a1;go_enter func167,ntmps167
 go_wp2_with (at_builtin;refine jko rfl _ _ rfl B _ _ _ rfl (C.1 _) ⟨w.heap.size,0,none⟩ 4 4 _ rfl (by rw [List.length_map,jG]) (jed _ _ _ _ E.1) (jiO _) (by omega) (H.1 _) ?_)
 intro v' w1 a0 a3 _;have a4:=(A.1 (.cells #[.int .u8 (I32 m % 256),.int .u8 (I32 m / 256 % 256),.int .u8 (I32 m / 65536 % 256),.int .u8 (I32 m / 16777216 % 256)] 5)).trans (ji a3 (H.1 _) (fun k hk=>((C.1 (.cells #[] 5)).lt k hk).1))
 rw [← List.map_append] at a0;have D:=Hd (And.intro a0 a4);clear a0 a4 a3 C A;go_wp2_with fail;go_ret;exact ⟨_,rfl,D.1.1,D.1.2⟩
theorem jiW (n:Nat)(w:World):(convert 3 87 (.int .i64 (n:Int))).run prog w=.ok (.int .u32 (I32 (UInt32.ofNat n))) w:=by
 have h1:I32 (UInt32.ofNat n)=(n:Int) % 4294967296:=by
  show ((n % 2 ^ 32:Nat):Int)=_;omega
 rw [run_convert_int (P:=prog) w 3 87 .i64 (n:Int) (by kernel_rfl) (by kernel_rfl),show prog.intKind 87=.u32 by kernel_rfl,jc8,h1]
theorem vY (e:UInt32)(v:Value)(l:List UInt8)(w:World)(hv:Rd w v l.length (l.map V8)) :
  Calls prog 143 #[.int .u32 (I32 e),v] w fun r w'=>r=.returned (.string (SB (xw e.toNat l)))∧Below w.heap.size w w':=by
 obtain ⟨va,vc,rfl⟩:∃ a c,v=.slice a l.length c:=by obtain ⟨a,c,h,_⟩:=hv;exact ⟨a,c,h⟩
 obtain ⟨lu,a4⟩:=Nm (UInt32.ofNat l.length);have b3:=jiW l.length;rw [← a4] at b3;have a8:le lu.toNat 4=le l.length 4:=by rw [a4];exact jiz _
 obtain ⟨sv,a5⟩:=Nm (SB (xw e.toNat l));rw [← a5];have D:=Hd a5;have L:=Hd hv;have E:=Hd a8;have F:=Hd (vJ w.heap.size (.slice none 0 0) [] e w (World.ownsRow_nil _ _ _ _) (Nat.le_refl _) (by simp))
 clear hv a4 a8 a5;go_enter func143,ntmps143;go_wp2_with fail;refine F.1.mono ?_;rintro r w1 ⟨s1,rfl,a9,a6⟩;have A:=Hd a6;have G:=Hd (vJ w.heap.size s1 (le e.toNat 4) lu w1 (by simpa [jG] using a9) a6.size (by simp [jG]))
 clear a9 a6 F;go_wp2_with fail;refine G.1.mono ?_;rintro r w2 ⟨s2,rfl,a7,b0⟩;rw [E.1] at a7;have a0:=A.1.trans b0;have B:=Hd a0;have H:=Hd (uy (.slice va l.length vc) l w2 (L.1.below a0));have I:=Hd (vJ w.heap.size s2 (le e.toNat 4++le l.length 4) (crc l) w2 (by simpa [jG] using a7) a0.size (by simp [jG]))
 clear a7 b0 a0 G A;go_wp2_with fail;refine H.1.mono ?_;rintro r w3 ⟨rfl,rfl⟩;go_wp2_with fail;refine I.1.mono ?_;rintro r w4 ⟨s4,rfl,a1,b1⟩;have a2:=B.1.trans b1;have a1:w4.ownsRow w.heap.size 5 1 s4 (uS e.toNat l).length ((uS e.toNat l).map V8):=by
  have:=a1;rw [xq]
  simpa [uS,jG] using this
 have H:=Hd (uy s4 (uS e.toNat l) w4 (jq a1));have C:=Hd a2;have J:=Hd (vJ w.heap.size s4 (uS e.toNat l) (crc (uS e.toNat l)) w4 a1 a2.size (by rw [xq];omega))
 clear a1 b1 a2 I B;go_wp2_with fail;refine H.1.mono ?_;rintro r w5 ⟨rfl,rfl⟩;go_wp2_with fail;refine J.1.mono ?_;rintro r w6 ⟨s6,rfl,a3,b2⟩;have K:=Hd (C.1.trans b2);have a3:w6.ownsRow w.heap.size 5 1 s6 (xw e.toNat l).length ((xw e.toNat l).map V8):=by
  have:=a3;rw [zo];rw [xq] at this;exact this
 have kc:=vU (xw e.toNat l) (jq a3) rfl;rw [← D.1] at kc;clear a3 b2 J C;go_wp2_with fail;go_ret;exact ⟨rfl,K.1⟩
theorem uf (at_ n:Int)(e:UInt32)(w:World)(ha:0≤at_∧at_≤4096)(hn:0≤n∧n≤4096) :
  Calls prog 142 #[.int .i64 at_,.int .i64 n,.int .u32 (I32 e)] w fun r w'=>r=.returned (.int .i64 (yL at_ n e.toNat))∧w=w':=by
 obtain ⟨r2,a0⟩:=Nm (e.toNat % 2);have a2:(I32 e).tmod 2=(r2:Int):=by rw [show I32 e=(e.toNat:Int) from rfl,Int.tmod_eq_emod_of_nonneg (by omega)];omega
 have hf:yL at_ n e.toNat=at_+1+(r2:Int)*n:=by unfold yL;rw [a0]
 rw [hf];have a1:r2=0∨r2=1:=by omega
 clear hf a0
 rcases a1 with rfl | rfl
 ·
  rw [show at_+1+((0:Nat):Int)*n=at_+1 by simp]
  go_enter func142,ntmps142;go_wp2_with fail;go_ret;exact ⟨by simp,rfl⟩
 ·
  rw [show at_+1+((1:Nat):Int)*n=at_+1+n by simp]
  go_enter func142,ntmps142;go_wp2_with fail;go_ret;exact ⟨by simp,rfl⟩
theorem vi (l:List UInt8)(i:Nat)(w:World)(h:i+4≤l.length)(hi:i≤100) :
  Calls prog 140 #[.string (SB l),.int .i64 (i:Int)] w fun e w'=>e=.returned (.int .u32 ((yC l i:Nat):Int))∧∃ k,w'=w.drewN k:=by
 obtain ⟨c0,a1⟩:=Nm ((l.getD i 0).toNat);obtain ⟨c1,a2⟩:=Nm ((l.getD (i+1) 0).toNat);obtain ⟨c2,a3⟩:=Nm ((l.getD (i+2) 0).toNat);obtain ⟨c3,a4⟩:=Nm ((l.getD (i+3) 0).toNat);have a0:∀ i:Nat,(l.getD i 0).toNat<256:=fun i=>UInt8.toNat_lt _
 have h0:c0<256:=by rw [a1];exact a0 _
 have h1:c1<256:=by rw [a2];exact a0 _
 have h2:c2<256:=by rw [a3];exact a0 _
 have h3:c3<256:=by rw [a4];exact a0 _
 have w1:IntKind.i64.wrap ((i:Int)+1)=((i+1:Nat):Int):=by simp [IntKind.wrap,IntKind.bits,IntKind.signed];omega
 have w2:IntKind.i64.wrap ((i:Int)+2)=((i+2:Nat):Int):=by simp [IntKind.wrap,IntKind.bits,IntKind.signed];omega
 have w3:IntKind.i64.wrap ((i:Int)+3)=((i+3:Nat):Int):=by simp [IntKind.wrap,IntKind.bits,IntKind.signed];omega
 obtain ⟨i1,a5⟩:=Nm (i+1);obtain ⟨i2,a6⟩:=Nm (i+2);obtain ⟨i3,a7⟩:=Nm (i+3);have j0:∀ w',(Instr.index 9 (.string (SB l)) (.int .i64 (i:Int))).run prog w'=.ok (.int .u8 (c0:Int)) w':=fun w'=>by rw [a1];exact xC w' l i (by omega)
 have j1:∀ w',(Instr.index 9 (.string (SB l)) (.int .i64 (i1:Int))).run prog w'=.ok (.int .u8 (c1:Int)) w':=fun w'=>by rw [a2,← a5];exact xC w' l i1 (by omega)
 have j2:∀ w',(Instr.index 9 (.string (SB l)) (.int .i64 (i2:Int))).run prog w'=.ok (.int .u8 (c2:Int)) w':=fun w'=>by rw [a3,← a6];exact xC w' l i2 (by omega)
 have j3:∀ w',(Instr.index 9 (.string (SB l)) (.int .i64 (i3:Int))).run prog w'=.ok (.int .u8 (c3:Int)) w':=fun w'=>by rw [a4,← a7];exact xC w' l i3 (by omega)
 rw [← a5] at w1;rw [← a6] at w2;rw [← a7] at w3;have b0:=jkD c0 c1 c2 c3 h0 h1 h2 h3;have a8:c0+256*c1+65536*c2+16777216*c3=yC l i:=by rw [a1,a2,a3,a4];rfl
 obtain ⟨s,hs⟩:=Nm (yC l i);rw [a8,← hs] at b0;rw [← hs];obtain ⟨st,a9⟩:=Nm (SB l);rw [← a9] at j0 j1 j2 j3 ⊢;clear hs a8 a1 a2 a3 a4 a0 a5 a6 a7 h hi a9;go_enter func140,ntmps140;go_wp2_with fail
 go_quiet (fail)
 go_wp2_with fail;go_ret;exact ⟨rfl,_,rfl⟩
end Go.Proofs.YtgcnolapjppbpaaGreatDoor
