/-
  Texts of one proof, one behind the other.
-/
import Derived.Test.YtgcnolapjppbpaaGreatDoorP50
import Derived.Test.YtgcnolapjppbpaaGreatDoorP23
import Derived.Test.YtgcnolapjppbpaaGreatDoorP25
import Derived.Test.YtgcnolapjppbpaaGreatDoorP16
import Derived.Outline
import Derived.BigQuiet
import Derived.Deep.LoopGhost
import Derived.Deep.RegionHeld3
import Derived.Test.YtgcnolapjppbpaaGreatDoorP49
import Derived.Test.YtgcnolapjppbpaaGreatDoorP27
import Derived.Test.YtgcnolapjppbpaaGreatDoorP19
import Derived.Test.YtgcnolapjppbpaaGreatDoorP05
import Derived.Test.YtgcnolapjppbpaaGreatDoorP00
namespace Go.Proofs.YtgcnolapjppbpaaGreatDoor
open Go.RowKit _root_.Go.Proofs.Tryz
set_option maxRecDepth 100000
set_option maxHeartbeats 25600000
def jka (k i:Nat):List Value:=(ze k i).cells.toList
theorem jgP (s:SesM):xZ s s=true:=by unfold xZ;simp
theorem jfS {w:World}{b o:Nat}{cs:List Value}{sz:Nat}(h:∀ j,j<sz→w.cell? ⟨b,o+j,none⟩=some (cs.getD j undef))(hl:cs.length=sz:=by rfl):w.rangeAt b o cs:=fun j v hv=>by
 have hj:j<cs.length:=(List.getElem?_eq_some_iff.1 hv).1;rw [h j (by omega),List.getD,hv];rfl
theorem yx {w w':World}{b o:Nat}{cs:List Value}(hb:Below w.heap.size w w')(h:w.rangeAt b o cs):w'.rangeAt b o cs:=fun j v hv=>jf hb (h j v hv)
theorem jkR {w:World}{ops:Array Oper}{rest:List Oper}{o:Oper}{a:Act}{Q:Exit→Act→World→Prop}(a2:o.guard=none)(s x:Operand)(ho:o.op=.call { callee:=.builtin .append,args:=#[s,x],argTypes:=#[28,28] })(base:Nat)(v:Value)(n:Nat)(xs:List Value)(hs:a.eval s=v)(a1:w.ownsRow base 45 12 v n xs)(ad:Addr)(c:Nat)(y:SesM)(hx:a.eval x=.slice (some ad) 1 c)(hy:∀ j u,y.cells.toList[j]?=some u→w.cell? (ad.add j)=some u)(a6:n+1≤1256584717458)(a0:base≤w.heap.size)(h:∀ v' w',w'.ownsRow base 45 12 v' (n+1) (xs++y.cells.toList)→w.grownBy w' v.ownBlock→xe w v v'→jg2 w w' v v' n→wpList prog ops Q rest (a.put o.dst v') w'):wpList prog ops Q (o::rest) a w:=by
 obtain ⟨i0,hi,a3,a4,a5⟩:=info_parts jaW;exact jao a2 s x 28 ho base 45 i0 _ 12 112 underlying28 hi a3 a4 a5 rfl (by decide) v n xs hs a1 ad c y.cells.toList hx rfl hy y.oneS (by unfold maxLen;omega) (by omega) a0 h
theorem jbm {a:Act}{w:World}{op:Oper}(s:SesM)(x y:Operand)(ho:op.op=.binOp .neq 45 x y 45)(hx:a.eval x=.agg s.cells)(hy:a.eval y=.agg s.cells) :
  (execOp a.eval op).run prog w=.ok (.value (.bool false)) w:=by
 have h:=jaV s s w;rw [jgP] at h;unfold execOp;simp only [ho,hx,hy,Sem.run_bind,Sem.run_pure,Result.andThen_ok,run_eqGuard_agg (op:=.neq) (t:=45) (x:=x) (y:=y) (xs:=s.cells) (ys:=s.cells) (hm:=show prog.eqGuardType prog.depth 45=false by kernel_rfl),h,Bool.not_true]
theorem jid:(prog.info? 28).map (fun i=>(i.zero,i.size,i.bytes))=some (some (.slice none 0 0),1,24):=by kernel_rfl
theorem jk0 {w:World}{ops:Array Oper}{rest:List Oper}{o:Oper}{a:Act}{Q:Exit→Act→World→Prop}(a2:o.guard=none)(s x:Operand)(ho:o.op=.call { callee:=.builtin .append,args:=#[s,x],argTypes:=#[108,108] })(base:Nat)(v:Value)(n:Nat)(xs:List Value)(hs:a.eval s=v)(a1:w.ownsRow base 28 1 v n xs)(ad:Addr)(m c:Nat)(ys:List Value)(hx:a.eval x=.slice (some ad) m c)(hl:ys.length=m)(hy:∀ j u,ys[j]?=some u→w.cell? (ad.add j)=some u)(h1:∀ u∈ys,u.oneCell'=true)(a6:n+m≤4398046511104)(a0:base≤w.heap.size)(h:∀ v' w',w'.ownsRow base 28 1 v' (n+m) (xs++ys)→w.grownBy w' v.ownBlock→xe w v v'→wpList prog ops Q rest (a.put o.dst v') w'):wpList prog ops Q (o::rest) a w:=by
 obtain ⟨i0,hi,a3,a4,a5⟩:=info_parts jid;exact ye a2 s x 108 ho base 28 i0 (.slice none 0 0) 1 24 underlying108 hi a3 a4 a5 rfl (by decide) v n xs hs a1 ad m c ys hx (by omega) hy h1 (by unfold maxLen;omega) (by omega) a0 h
theorem jcC (R:RowsS)(lsv:Value)(w:World)(he:R.e=45)(d8:R.sz=12)(c9:R.mark=jka)(h:Turn1S R lsv w 0 0 w)(hN:R.N≤1000000)(b2:∀ j,j<R.N→R.ns j≤1000000000000)(hl:∀ b,lsv.ownBlock=some b→b<w.heap.size)(hB:R.B≤w.heap.size) :
  Calls prog 48 #[lsv] w fun e w'=>e=.returned (.bool true)∧Mod R.blk w w':=by
 obtain ⟨la,lc,e1⟩:∃ a c,lsv=.slice a R.N c:=by obtain ⟨a,c,e,_⟩:=h.ls;exact ⟨a,c,e⟩
 have Hl:=Hd hl;have H:=Hd h;have HB:=Hd hB;have He:=Hd he;have J:=Hd d8;have Q:=Hd c9;have T:=Hd b2;clear hl h hB he b2 d8 c9;subst e1;go_enter func48,ntmps48;go_wp2_with fail
 go_loopg [3] R.N (fun gk kv wr=>∃ k:Nat,gk+k=R.N∧kv=.int .i64 (k:Int)∧Turn1S R (.slice la R.N lc) w k 0 wr)
 case atStart=>exact ⟨0,rfl,rfl,H.1⟩
 case round =>
  clear H;obtain ⟨k,a4,rfl,hT⟩:=hrel;by_cases hk:k<R.N
  ·
   have b2:=T.1 k hk;obtain ⟨b,off,cap,e1,hc⟩:=hT.lsAt hk;obtain ⟨a,c,e2⟩:=hT.slice hk;rw [e2] at hc;injection e1 with e3 _ e4
   subst e3;subst e4;have d9:(0:Int)≤(k:Int):=by omega
   have e0:(k:Int)<(R.N:Int):=by omega
   have C:=Hd hT;have D:=Hd a4;have E2:=Hd e2;clear hT a4 e2 T;go_wp2_with fail;obtain ⟨n,hn⟩:=Nm (R.ns k);rw [← hn] at hc b2;have I:=Hd hn;clear hn;obtain ⟨wo,rfl⟩:∃ wo:World,wo=wr:=⟨_,rfl⟩
   go_loopg [4] n (fun gi iv wr=>∃ i:Nat,gi+i=n∧iv=.int .i64 (i:Int)∧Turn1S R (.slice (some ⟨b,off,none⟩) R.N lc) w k i wr)
   case atStart=>exact ⟨0,rfl,rfl,C.1⟩
   case round =>
    clear C hc;obtain ⟨i,a9,rfl,hT⟩:=hrel;have hc:wr.cell? ⟨b,off+k,none⟩=some (.slice a n c):=by
     obtain ⟨b',off',cap',e1,hc⟩:=hT.lsAt hk;injection e1 with e1;injection e1 with e1;injection e1 with e5 e6
     subst e5;subst e6;rw [hc,E2.1,I.1]
    have A:=Hd a9;by_cases hi:i<n
    ·
     obtain ⟨g,cap',e5,_,b6⟩:=hT.row hk (by rw [← I.1];exact hi)
     rw [E2.1,← I.1] at e5;injection e5 with e5 _ e6
     subst e5;subst e6;have f5:(0:Int)≤(i:Int):=by omega
     have f6:(i:Int)<(n:Int):=by omega
     obtain ⟨ms,a5⟩:=Nm (ze k i);have b0:R.mark k i=ms.cells.toList:=by rw [Q.1,a5];rfl
     have d0:∀ w5,Below wr.heap.size wr w5→w5.there g (i*12) 12∧Turn1S R (.slice (some ⟨b,off,none⟩) R.N lc) w k (i+1) (w5.setCells g (i*12) ms.cells.toList):=fun w5 a2=>by
      have f7:=hT.below a2;obtain ⟨g',cap',e5,b8,e8⟩:=f7.row hk (by rw [← I.1];exact hi)
      rw [E2.1,← I.1] at e5;injection e5 with e5 _ e6
      injection e5 with e5
      injection e5 with e5
      subst e5;rw [b0,J.1] at e8;rw [J.1] at b8;exact ⟨b8,e8⟩
     have a6:=fun w4=>zp (k:Int) (i:Int) w4 (by omega) (by omega)
     rw [← a5] at a6;have G:=Hd a6;have U:=Hd d0;have HC:=Hd hc;clear hT a9 b6 a6 a5 d0 b0;go_wp2_with fail;clear hc;refine yy 9 (F:=fun W=>Below wr.heap.size wr W) (by kernel_rfl) (jd wr) (fun a1=>?_)
     refine Tl 0 27 ?_;refine Tl 1 28 ?_;refine Tl 2 29 ?_;refine Tl 3 30 ?_ (hy:=by intro w' a0;have u1:=jf a0 HC.1;clear a0;go_simp;try with_reducible rfl)
     refine Tl 4 31 ?_;refine Tl 5 32 ?_;refine Tl 6 33 ?_;refine jM (rs := [7]) (by kernel_rfl) (by simp) (AllReadyL.cons (o:=⟨some 34,.call _,_,_,_,_⟩) rfl (fun K hK=>?_) AllReadyL.nil)
     go_simp
     refine (G.1 _).mono ?_;rintro e w5 ⟨rfl,a2⟩;have d1:=jh a1 a2;refine hK.out _ _ d1 (fun b9=>?_)
     obtain ⟨b8,e9⟩:=U.1 w5 b9;have H3:=Hd b8;have H4:=Hd e9;clear hK K a2 d1 a1 b8 e9 G U
     try simp only [Nz]
     refine Tl 8 35 ?_;refine jM (rs := [9]) (by kernel_rfl) (by simp) (AllReadyL.last rfl (o:=⟨none,.store _ _ _,_,_,_,_⟩) rfl (fun K hK=>?_))
     rw [if_pos (by kernel_rfl)]
     refine wp_store_mid 45 (.tmp 35) (.tmp 34) rfl g (i*12) ms.cells rfl rfl H3.1 (by kernel_rfl) (by have:=all_oneCell_toArray (SesM.oneS ms);simpa using this) ?_
     refine hK.out _ _ ?_;clear hK K H3 b9
     try simp only [Act.put]
     refine yR (by kernel_rfl) ?_ _
     generalize World.setCells w5 _ _ _=w6 at H4 ⊢;go_wp2_with fail
     go_roundg (n-(i+1))
     case measure=>have:=A.1;omega
     case rel=>exact ⟨i+1,by have:=A.1;omega,by go_num,H4.1⟩
    ·
     obtain rfl:i=n:=by omega
     rw [I.1] at hT;have C:=Hd (hT.next hk);clear hT a9;go_wp2_with fail
     go_roundg (R.N-(k+1))
     case measure=>have:=D.1;omega
     case rel=>exact ⟨k+1,by have:=D.1;omega,by go_num,C.1⟩
  ·
   obtain rfl:k=R.N:=by omega
   have d2:=hT.mod.size;have f0:=hT.two (E:=28) (fun b hb=>Nat.lt_of_lt_of_le (Hl.1 b hb) d2) (Nat.le_trans HB.1 d2)
   have C:=Hd f0;clear hT a4 f0 Hl HB d2;go_wp2_with fail;obtain ⟨wo,rfl⟩:∃ wo:World,wo=wr:=⟨_,rfl⟩
   go_loopg [5,6] R.N (fun gk gsv kv wr=>∃ (k:Nat) (gl:List Value),gk+k=R.N∧kv=.int .i64 (k:Int)∧Turn2S R (.slice la R.N lc) w 28 k gsv gl (R.vs k) 0 wr)
   case atStart=>exact ⟨0,[],rfl,rfl,C.1⟩
   case round =>
    clear C;obtain ⟨k,gl,a4,rfl,hT⟩:=hrel;by_cases hk:k<R.N
    ·
     have b2:=T.1 k hk;obtain ⟨⟨b,off,cap,e1,hc⟩,_,a,c,e2⟩:=hT.at hk;rw [e2] at hc hT;injection e1 with e3 _ e4
     subst e3;subst e4;have d9:(0:Int)≤(k:Int):=by omega
     have e0:(k:Int)<(R.N:Int):=by omega
     obtain ⟨n,hn⟩:=Nm (R.ns k);rw [← hn] at hc b2 e2 hT;have C:=Hd hT;have D:=Hd a4;have I:=Hd hn;have E2:=Hd e2;clear hT a4 e2 hn;go_wp2_with fail;obtain ⟨wo,rfl⟩:∃ wo:World,wo=wr:=⟨_,rfl⟩
     go_loopg [7,8] 64 (fun gi gv iv wr=>∃ i:Nat,gi+i=64∧iv=.int .i64 (i:Int)∧Turn2S R (.slice (some ⟨b,off,none⟩) R.N lc) w 28 k u5 gl gv i wr)
     case atStart=>exact ⟨0,rfl,rfl,C.1⟩
     case round =>
      clear C hc;obtain ⟨i,a9,rfl,hT⟩:=hrel;have b7:=(hT.at hk).2.1;have hc:wr.cell? ⟨b,off+k,none⟩=some (.slice a n c):=by
       obtain ⟨⟨b',off',cap',e1,hc⟩,_⟩:=hT.at hk;injection e1 with e1;injection e1 with e1;injection e1 with e5 e6
       subst e5;subst e6;rw [hc,E2.1]
      have A:=Hd a9;by_cases hi:i<64
      ·
       obtain ⟨ms,a5⟩:∃ ms,ms=ze k (n+i:Nat):=⟨_,rfl⟩;have b0:R.mark k (n+i)=ms.cells.toList:=by rw [Q.1,a5];rfl
       have a6:=fun w=>zp (k:Int) ((n+i:Nat):Int) w (by omega) (by omega)
       rw [← a5,Int.natCast_add] at a6;have f1:=hT.le;have f6:(i:Int)<64:=by omega
       have H6:=Hd hT;have H7:=Hd b7;have G:=Hd a6;have H8:=Hd b0;clear hT a9 a6 a5 b7 b0;go_wp2_with fail;refine (G.1 _).mono ?_;rintro e w5 ⟨rfl,a2⟩;have c8:=jh a2 (ja w5 (.cells ms.cells 45));have a7:=jr H7.1 c8;rw [He.1,J.1,← I.1] at a7;have L:=Hd a7;have V:=Hd (H6.1.below c8);have H9:=Hd (Nat.le_trans f1 c8.size);clear a2 c8 a7;have Ha:=Hd (yY w5 ms 45);have Hb:=Hd (show n+1+i≤1256584717458 by omega)
       go_wp2_with (first | refine jD (op:=⟨some 60,_,_,_,_,_⟩) (by rfl) 28 1 #[(0,.tmp 59)] rfl #[(0,.agg ms.cells)] (by kernel_rfl) _ _ (zJ ms w5) ?_)
       intro w6 f2;have ew6:=f2.out;subst ew6;clear f2
       go_wp2_with (at_builtin;refine jkR rfl _ _ rfl R.B _ _ _ rfl L.1 ⟨w5.heap.size,0,none⟩ 1 ms rfl Ha.1 (by have:=Hb.1;omega) H9.1 ?_)
       intro v' w1 a8 c0 c1 c7;rw [← He.1,← J.1,← H8.1,I.1] at a8;rw [I.1] at c7;have b6:=V.1.step hk a8 c0 c1 c7;have HT':=Hd b6;clear a8 c0 c1 c7 b6;go_wp2_with fail
       go_roundg (64-(i+1))
       case measure=>have:=A.1;omega
       case rel=>exact ⟨i+1,by have:=A.1;omega,by go_num,HT'.1⟩
      ·
       obtain rfl:i=64:=by omega
       obtain ⟨ga,gc,e7,_⟩:=jK b7;subst e7;have f1:=hT.le;have d3:=hT.gs;rw [show min k R.N=k by omega] at d3
       obtain ⟨m,hm⟩:=Nm (R.ns k+64);rw [← hm] at hT;have a7:=d3.alloc (.cells #[.slice ga m gc] 28);have f3:=hT.below (ja wr (.cells #[.slice ga m gc] 28));have L:=Hd a7;have V:=Hd f3;rw [← hm];clear hT a9 b7 f3 a7 d3 hm
       go_wp2_with (at_builtin;refine jk0 rfl _ _ rfl R.B _ _ _ rfl L.1 ⟨wr.heap.size,0,none⟩ 1 1 [.slice ga m gc] rfl rfl (cell_one_new _ _ _) (by simp [Value.oneCell']) (by omega) (by simp;omega) ?_)
       intro v' w1 a8 c0 c1;have b6:=V.1.next hk a8 c0 c1;have HT':=Hd b6;clear a8 c0 c1 b6;go_wp2_with fail
       go_roundg (R.N-(k+1))
       case measure=>have:=D.1;omega
       case rel=>exact ⟨k+1,_,by have:=D.1;omega,by go_num,HT'.1⟩
    ·
     obtain rfl:k=R.N:=by omega
     have d4:=hT.three;have d5:=hT.mod;have H5:=Hd d5;have C:=Hd d4;obtain ⟨ga,gc,rfl⟩:∃ a c,u5=.slice a R.N c:=by obtain ⟨a,c,e,_⟩:=d4.gs;exact ⟨a,c,e⟩
     clear hT d4 a4 d5;go_wp2_with fail;obtain ⟨wo,rfl⟩:∃ wo:World,wo=wr:=⟨_,rfl⟩
     go_loopg [9] R.N (fun gk kv wr'=>∃ k:Nat,gk+k=R.N∧kv=.int .i64 (k:Int)∧Below wo.heap.size wo wr')
     case atStart=>exact ⟨0,rfl,rfl,Below.refl _ _⟩
     case round =>
      obtain ⟨k,a4,rfl,c2⟩:=hrel;by_cases hk:k<R.N
      ·
       have b2:=T.1 k hk;obtain ⟨⟨b,off,cap,e1,hc⟩,⟨a,c,e2,hv⟩,g,⟨b3,off3,cap3,e3,hd⟩,b4,off4,c4,rfl,hw⟩:=(C.1.below c2).at k hk;rw [e2] at hc;injection e1 with e4 _ e5
       injection e3 with e6 _ e7
       subst e4;subst e5;subst e6;subst e7;obtain ⟨n,hn⟩:=Nm (R.ns k);rw [← hn] at hc b2 hv hw hd;have X:=Hd hv;have Y:=Hd hw;have D:=Hd a4;have d9:(0:Int)≤(k:Int):=by omega
       have e0:(k:Int)<(R.N:Int):=by omega
       have Z:=Hd c2;clear hv hw a4 e2 hn C c2;go_wp2_with fail;obtain ⟨wq,f4⟩:∃ wq:World,wq=wr:=⟨_,rfl⟩;rw [← f4] at hc hd X Y Z ⊢;clear f4
       go_loopg [10] (n+64) (fun gi iv wr'=>∃ i:Nat,gi+i=n+64∧iv=.int .i64 (i:Int)∧Below wq.heap.size wq wr')
       case atStart=>exact ⟨0,rfl,rfl,Below.refl _ _⟩
       case round =>
        obtain ⟨i,a9,rfl,b1⟩:=hrel;have A:=Hd a9;clear a9;have f5:(0:Int)≤(i:Int):=by omega
        by_cases hi:i<n+64
        ·
         have d6:=Y.1 i hi;obtain ⟨ms,a5⟩:=Nm (ze k i);have b0:R.mark k i=ms.cells.toList:=by rw [Q.1,a5];rfl
         have a6:=fun w=>zp (k:Int) (i:Int) w (by omega) (by omega)
         rw [← a5] at a6;rw [b0,J.1] at d6;have G:=Hd a6;have p3:wr.rangeAt b4 (off4+i*12) ms.cells.toList:=yx b1 (jfS d6);have p1:=jf b1 hc;have p2:=jf b1 hd;have H0:=Hd b1;have f9:(i:Int)<(n:Int)+64:=by omega
         clear a6 a5 hc hd d6 b1;by_cases hin:i<n
         ·
          obtain ⟨b5,off5,rfl,d7⟩:=X.1 i hin;rw [b0,J.1] at d7;have p4:wr.rangeAt b5 (off5+i*12) ms.cells.toList:=yx H0.1 (jfS d7);have f8:(i:Int)<(n:Int):=by omega
          clear d7;have P:=Hd (And.intro p1 (And.intro p2 p3));have P4:=Hd p4;clear p4;clear X Y b0 p3;go_wp2_with fail;clear p1 p2;refine (G.1 _).mono ?_;rintro e w5 ⟨rfl,a2⟩;have M:=Hd a2;clear a2
          go_wp2_with ((with_reducible refine jc ?qa0 45 (.tmp 11) (.tmp 83) ?qa1 (w5.heap.size) 0 ms.cells.toList ?qa2 ms.cells ?qa3 (SesM.listS _) ?qa4 ?qa5 ?qa6 ?qa7);(case qa1=>rfl);(case qa0=>rfl);(case qa2=>rfl);(case qa3=>rfl);(case qa4=>exact xf _ _);(case qa5=>kernel_rfl);(case qa6=>exact SesM.oneS _))
          intro wz c3;obtain ⟨c5,c6⟩:=vE c3;have a3:=jh M.1 c6;have Q5:=Hd (c5.range 0 _ (fun j v hv=>by rw [Nat.zero_add];rw [← Array.getElem?_toList];exact hv))
          have Q1:=Hd (jf a3 P.1.1);have Q2:=Hd (jf a3 P.1.2.1);have Q3:=Hd (yx a3 P.1.2.2);have Q4:=Hd (yx a3 P4.1);clear P4;have O:=Hd (jh H0.1 a3);clear a3 P c5 c6 c3 M;go_wp2_with fail;refine wp_region_held_drew (S:=fun W=>Below wz.heap.size wz W) (by kernel_rfl) (jd wz) (fun a1=>?_)
          refine Tk 0 84 ?_;refine Tk 1 85 ?_;refine Tk 2 86 ?_;refine Tk 3 87 ?_ (hy:=by intro w' a0;have u1:=jf a0 Q2.1;clear a0;go_simp;try with_reducible rfl)
          refine Tk 4 88 ?_;refine Tk 5 89 ?_;refine Tk 6 90 ?_ (v:=.agg ms.cells) (hy:=fun w' a0=>jO 45 (.tmp 89) rfl (b4) (off4+i*12) rfl (ms.cells).toList _ (yx a0 Q3.1) underlying45 rfl (by kernel_rfl))
          refine Tk 7 91 ?_ (v:=.agg ms.cells) (hy:=fun w' a0=>jO 45 (.tmp 11) rfl (w5.heap.size) (0) rfl (ms.cells).toList _ (yx a0 Q5.1) underlying45 rfl (by kernel_rfl))
          refine wpAnyH_take (i:=8) (oi:=⟨some 92,.binOp _ _ _ _ _,_,_,_,_⟩) (v:=.bool false) rfl (by kernel_rfl) (by kernel_rfl) (by kernel_rfl) (fun _ _ _ h=>h) (Or.inl ⟨by kernel_rfl,fun w' a0=>jbm ms (.tmp 90) (.tmp 91) rfl rfl rfl⟩) (by assumption) ?_
          try simp only [Nz]
          refine Tk 9 93 ?_;refine Tk 10 94 ?_;refine Tk 11 95 ?_;refine Tk 12 96 ?_;refine Tk 13 97 ?_;refine Tk 14 98 ?_ (hy:=by intro w' a0;have u1:=jf a0 Q1.1;clear a0;go_simp;try with_reducible rfl)
          refine Tk 15 99 ?_;refine Tk 16 100 ?_;refine Tk 17 101 ?_;refine Tk 18 102 ?_;refine Tk 19 103 ?_;refine Tk 20 104 ?_;refine Tk 21 105 ?_ (hy:=by intro w' a0;have u1:=jf a0 Q1.1;clear a0;go_simp;try with_reducible rfl)
          refine Tk 22 106 ?_;refine Tk 23 107 ?_;refine Tk 24 108 ?_ (v:=.agg ms.cells) (hy:=fun w' a0=>jO 45 (.tmp 107) rfl (b5) (off5+i*12) rfl (ms.cells).toList _ (yx a0 Q4.1) underlying45 rfl (by kernel_rfl))
          refine Tk 25 109 ?_ (v:=.agg ms.cells) (hy:=fun w' a0=>jO 45 (.tmp 11) rfl (w5.heap.size) (0) rfl (ms.cells).toList _ (yx a0 Q5.1) underlying45 rfl (by kernel_rfl))
          refine wpAnyH_take (i:=26) (oi:=⟨some 110,.binOp _ _ _ _ _,_,_,_,_⟩) (v:=.bool false) rfl (by kernel_rfl) (by kernel_rfl) (by kernel_rfl) (fun _ _ _ h=>h) (Or.inl ⟨by kernel_rfl,fun w' a0=>jbm ms (.tmp 108) (.tmp 109) rfl rfl rfl⟩) (by assumption) ?_
          try simp only [Nz]
          refine Tk 27 111 ?_;refine Tk 28 112 ?_;refine Dn ?_;have H1:=Hd (jh O.1 a1);clear a1 O Q1 Q2 Q3 Q5 Q4;go_wp2_with fail
          go_roundg (n+64-(i+1))
          case measure=>have:=A.1;omega
          case rel=>exact ⟨i+1,by have:=A.1;omega,by go_num,H1.1⟩
         ·
          have f8:decide ((i:Int)<(n:Int))=false:=by simp;omega
          have P:=Hd (And.intro p1 (And.intro p2 p3));clear X Y b0 p3;go_wp2_with fail;clear p1 p2;refine (G.1 _).mono ?_;rintro e w5 ⟨rfl,a2⟩;have M:=Hd a2;clear a2
          go_wp2_with ((with_reducible refine jc ?qb0 45 (.tmp 11) (.tmp 83) ?qb1 (w5.heap.size) 0 ms.cells.toList ?qb2 ms.cells ?qb3 (SesM.listS _) ?qb4 ?qb5 ?qb6 ?qb7);(case qb1=>rfl);(case qb0=>rfl);(case qb2=>rfl);(case qb3=>rfl);(case qb4=>exact xf _ _);(case qb5=>kernel_rfl);(case qb6=>exact SesM.oneS _))
          intro wz c3;obtain ⟨c5,c6⟩:=vE c3;have a3:=jh M.1 c6;have Q5:=Hd (c5.range 0 _ (fun j v hv=>by rw [Nat.zero_add];rw [← Array.getElem?_toList];exact hv))
          have Q1:=Hd (jf a3 P.1.1);have Q2:=Hd (jf a3 P.1.2.1);have Q3:=Hd (yx a3 P.1.2.2);have O:=Hd (jh H0.1 a3);clear a3 P c5 c6 c3 M;go_wp2_with fail;refine wp_region_held_drew (S:=fun W=>Below wz.heap.size wz W) (by kernel_rfl) (jd wz) (fun a1=>?_)
          refine Tk 0 84 ?_;refine Tk 1 85 ?_;refine Tk 2 86 ?_;refine Tk 3 87 ?_ (hy:=by intro w' a0;have u1:=jf a0 Q2.1;clear a0;go_simp;try with_reducible rfl)
          refine Tk 4 88 ?_;refine Tk 5 89 ?_;refine Tk 6 90 ?_ (v:=.agg ms.cells) (hy:=fun w' a0=>jO 45 (.tmp 89) rfl (b4) (off4+i*12) rfl (ms.cells).toList _ (yx a0 Q3.1) underlying45 rfl (by kernel_rfl))
          refine Tk 7 91 ?_ (v:=.agg ms.cells) (hy:=fun w' a0=>jO 45 (.tmp 11) rfl (w5.heap.size) (0) rfl (ms.cells).toList _ (yx a0 Q5.1) underlying45 rfl (by kernel_rfl))
          refine wpAnyH_take (i:=8) (oi:=⟨some 92,.binOp _ _ _ _ _,_,_,_,_⟩) (v:=.bool false) rfl (by kernel_rfl) (by kernel_rfl) (by kernel_rfl) (fun _ _ _ h=>h) (Or.inl ⟨by kernel_rfl,fun w' a0=>jbm ms (.tmp 90) (.tmp 91) rfl rfl rfl⟩) (by assumption) ?_
          try simp only [Nz]
          refine Tk 9 93 ?_;refine Tk 10 94 ?_;refine Tk 11 95 ?_;refine Tk 12 96 ?_;refine Tk 13 97 ?_;refine Tk 14 98 ?_ (hy:=by intro w' a0;have u1:=jf a0 Q1.1;clear a0;go_simp;try with_reducible rfl)
          refine Tk 15 99 ?_;refine Tk 16 100 ?_;refine Tk 17 101 ?_;refine Tn 18 102 ?_;refine Tn 19 103 ?_;refine Tn 20 104 ?_;refine Tn 21 105 ?_;refine Tn 22 106 ?_;refine Tn 23 107 ?_;refine Tn 24 108 ?_;refine Tn 25 109 ?_;refine Tn 26 110 ?_;refine Tk 27 111 ?_;refine Tk 28 112 ?_;refine Dn ?_;have H1:=Hd (jh O.1 a1);clear a1 O Q1 Q2 Q3 Q5;go_wp2_with fail
          go_roundg (n+64-(i+1))
          case measure=>have:=A.1;omega
          case rel=>exact ⟨i+1,by have:=A.1;omega,by go_num,H1.1⟩
        ·
         obtain rfl:i=n+64:=by have:=A.1;omega
         have H2:=Hd (Z.1.trans (b1.mono Z.1.size));have p1:=jf b1 hc;have p2:=jf b1 hd;clear X Y b1 hc hd;go_wp2_with fail
         go_roundg (R.N-(k+1))
         case measure=>have:=D.1;omega
         case rel=>exact ⟨k+1,by have:=D.1;omega,by go_num,H2.1⟩
      ·
       obtain rfl:k=R.N:=by omega
       have H2:=Hd c2;clear C a4 c2;go_wp2_with fail;go_ret;exact ⟨rfl,H5.1.then (Mod.of_below (F:=fun _=>False) H2.1) (fun _ h=>h.elim)⟩
theorem jfl (st:StM):jeE st st=true:=by simp [jeE,uH]
def jkS (v:Value)(n B:Nat):RowsS:=⟨1,fun _=>v,fun _=>n,B,45,12,by decide,jka,fun _ _=>rfl,fun _ _=>SesM.oneS _⟩
theorem jij {w:World}{B g:Nat}{v:Value}{l:List SesM}(h:OwnS w B v l)(hx:Box w g #[v] 28)(hg:∀ k,v.ownBlock=some k→k≠g)(hl:l.length≤1000000000000)(hB:B≤w.heap.size) :
  Calls prog 48 #[.slice (some ⟨g,0,none⟩) 1 1] w fun e w'=>e=.returned (.bool true)∧Mod (fun k=>v.ownBlock=some k) w w' :=
 (jcC (jkS v l.length B) _ w rfl rfl rfl ⟨⟨fun _=>yN l,fun j hj=>h,fun j hj _=>by omega,fun _=>by simp [xg]⟩,fun j j' hj a0 a2=>by
   have hj:j<1:=hj;have a0:j'<1:=a0
   omega,⟨some ⟨g,0,none⟩,1,rfl,by show 1≤1;omega,by omega,fun h=>(by cases h),fun j hj=>⟨g,0,rfl,by
    have hj:j<1:=hj;rw [Nat.zero_add]
    match j,hj with
    | 0,_=>exact hx.cell 0 _ rfl⟩⟩,fun j hj k hk a1=>by
   have hk:some g=some k:=hk;injection hk with hk
   exact hg k a1 hk.symm,Mod.refl _ _⟩ (by show 1≤1000000;decide) (fun j _=>hl) (fun b hb=>by
   have hb:some g=some b:=hb;injection hb with hb
   subst hb;exact hx.lt) hB).mono (fun e w' ⟨e1,hm⟩=>⟨e1,hm.mono (fun k ⟨j,_,hk⟩=>hk)⟩)
theorem jbE (W:World)(pw p rp c:Nat)(A B:Nat→Prop)(d:DiskM)(s:Option StoM)(st:StM)(sv rv ov:Value)(wr:World)(h:PlayS W pw p rp c A B d s st sv rv ov wr)(hc:c≤1000)(hg:ErrType W) :
  Calls prog 22 #[.pointer (some ⟨pw,0,none⟩)] wr fun r w'=>r=.returned (.bool true)∧∃ (A' B':Nat→Prop) (sv' rv' ov':Value),PlayS W pw p rp (c+1) A' B' (jP d).1 (uU (jP d)) (jP d).2.2.1 sv' rv' ov' w':=by
 have a6:=h.pl.opens;have b1:=jh4 d;have b5:d.trail.length≤9000000000:=by have:=h.pl.trail;omega
 have a7:=fun (w:World) (hw:SideA w A p d s sv)=>hw.opens (jgb h.pl.wf) b5 (jbD h.pl.wf) (jbA d)
 have a8:=fun (w:World) (hw:SideB w B rp d s rv)=>hw.opens h.pl.wf h.pl.small (jgb h.pl.wf) b5 (jbD h.pl.wf) (jbA d)
 obtain ⟨s',d9⟩:=Nm (uU (jP d));rw [← d9] at a6 a7 a8 ⊢;clear d9;obtain ⟨R,hR⟩:=Nm (jP d);rw [← hR] at a6 b1 a7 a8 ⊢;clear hR b5;obtain ⟨d',ep,⟨C,Bi,L⟩,er⟩:=R;simp only at a6 b1 a7 a8 ⊢;have T:=Hd (fun v v' w'=>jcd ⟨C,Bi,L⟩ ⟨C,Bi,L⟩ v v' w')
 have Hm:=Hd (show L.length≤1051 by have:L.length≤50+(c+1):=a6.len;omega)
 have Hn:=Hd (fun v w' (hv:RdS w' v L)=>ua C Bi v L w' hv (by have:=Hm.1;omega))
 simp only at T;obtain ⟨n,hn⟩:=Nm (L.length);have H4:=Hd hn;have c0:=h.bx.cell 0 _ rfl;have A3:=Hd a6;have Ho:=Hd b1;have Hp:=Hd a7;have Hq:=Hd a8;have H:=Hd h;have HG:=Hd hg;clear h a6 b1 a7 a8 hg hn;go_enter func22,ntmps22;go_wp2_with fail;refine (Hp.1 wr H.1.a).mono ?_;rintro r w1 ⟨pv,o,rfl,b6,b7,a2,A',hA,a9,e0,b8⟩;obtain ⟨oa,oc,rfl,_⟩:=a2.slice;rw [← H4.1] at a2 b8 ⊢;have a0:=ja w1 (.cells #[.int .i64 C,.int .i64 Bi,.slice oa n oc] 30);have N:=Hd (hA.below a0);have H5:=Hd ((H.1.b.mod a9 (fun k hk e6=>H.1.ab k e6 hk)).below a0)
 have U:=Hd ((H.1.bx.mod a9 H.1.np.1).below a0);have O:=Hd (Box.new w1 #[.int .i64 C,.int .i64 Bi,.slice oa n oc] 30);have H6:=Hd (a2.below a0);have b9:=H.1.bel.trans (a9.below H.1.bel.size (fun k hk=>H.1.lo k (.inl hk)))
 have V:=Hd (b9.trans (a0.mono b9.size));have D:=Hd (show (∀ k,A' k→A k∨wr.heap.size≤k)∧(∀ k,A' k→k<w1.heap.size)∧(∀ k,(Value.slice oa n oc).ownBlock=some k→¬ A' k∧wr.heap.size≤k∧k<w1.heap.size)∧wr.heap.size≤w1.heap.size from ⟨e0,hA.lt,fun k hk=>⟨b8 k hk,(a2.lt k hk).1,(a2.lt k hk).2⟩,a9.size⟩)
 obtain ⟨q1,c7⟩:=Nm (w1.heap.size);rw [← c7] at O D;have K:=Hd (show q1<(w1.alloc (.cells #[.int .i64 C,.int .i64 Bi,.slice oa n oc] 30)).heap.size from O.1.lt)
 have c2:(w1.alloc (.cells #[.int .i64 C,.int .i64 Bi,.slice oa n oc] 30)).cell? ⟨pw,2,none⟩=some (.pointer (some ⟨rp,0,none⟩)):=U.1.cell 2 _ rfl;clear a2 a0 hA a9 e0 b8 b9 c0 Hp;go_wp2_with fail;rw [← c7];clear c7;obtain ⟨w1',c8⟩:=Nm ((w1.alloc (.cells #[.int .i64 C,.int .i64 Bi,.slice oa n oc] 30)));rw [← c8] at N H5 U O H6 V K c2 ⊢;clear c8;refine (Hq.1 w1' H5.1).mono ?_;rintro r w2 ⟨rpv,o2,rfl,c9,d0,a2,B',hB,a4,b2,e1⟩;obtain ⟨ob,od,rfl,_⟩:=a2.slice;rw [← H4.1] at a2 e1 ⊢;have a0:=ja w2 (.cells #[.int .i64 C,.int .i64 Bi,.slice ob n od] 30);have d1:∀ k,A' k→¬ B k:=fun k hk hb=>by
  rcases D.1.1 k hk with g | g
  · exact H.1.ab k g hb
  · have:=H.1.b.lt k hb;omega
 have d2:¬ B q1:=fun hb=>by have:=H.1.b.lt _ hb;have:=D.1.2.2.2;omega
 have H7:=Hd ((N.1.mod a4 d1).below a0);have H8:=Hd (hB.below a0);have H9:=Hd ((U.1.mod a4 H.1.np.2.1).below a0);have G:=Hd ((O.1.mod a4 d2).below a0);have E:=Hd (Box.new w2 #[.int .i64 C,.int .i64 Bi,.slice ob n od] 30);have X:=Hd ((H6.1.mod a4 (fun k hk hb=>by have:=H.1.b.lt k hb;have:=(D.1.2.2.1 k hk).2.1;omega)).below a0)
 have Y:=Hd (a2.below a0);have d3:=V.1.trans (a4.below V.1.size (fun k hk=>H.1.lo k (.inr hk)))
 have P:=Hd (d3.trans (a0.mono d3.size));have e7:=H.1.bx.lt;have HN:=Hd (show q1≠pw∧w2.heap.size≠pw∧q1≠w2.heap.size∧(∀ k,(Value.slice ob n od).ownBlock=some k→k≠pw) from
  ⟨by have:=D.1.2.2.2;omega,by have:=K.1;have:=a4.size;have:=D.1.2.2.2;omega,by have:=K.1;have:=a4.size;omega,fun k hk e=>by have:=(a2.lt k hk).1;have:=K.1;have:=D.1.2.2.2;omega⟩)
 have Z:=Hd (show w2.heap.size+1≤(w2.alloc (.cells #[.int .i64 C,.int .i64 Bi,.slice ob n od] 30)).heap.size from E.1.lt)
 have F:=Hd (show (∀ k,B' k→B k∨q1<k)∧(∀ k,A' k→¬ B' k)∧(∀ k,B' k→k<w2.heap.size)∧(∀ k,A' k→k<w2.heap.size)∧¬ A' pw∧¬ B' pw from
  ⟨fun k hk=>(b2 k hk).imp id (fun g=>Nat.lt_of_lt_of_le K.1 g),fun k hk hb=>by
   rcases b2 k hb with g | g
   · exact d1 k hk g
   · have:=N.1.lt k hk;omega,hB.lt,fun k hk=>Nat.lt_of_lt_of_le (N.1.lt k hk) a4.size,fun hk=>by
   rcases D.1.1 _ hk with g | g
   · exact H.1.np.1 g
   · omega,fun hk=>by
   rcases b2 _ hk with g | g
   · exact H.1.np.2.1 g
   · have:=K.1;have:=D.1.2.2.2;omega⟩)
 have Q:=Hd (uI er _ Ho.1.1 Ho.1.2 (HG.1.below P.1));obtain ⟨q2,d4⟩:=Nm (w2.heap.size);rw [← d4] at E HN Z F;obtain ⟨w2',b0⟩:=Nm ((w2.alloc (.cells #[.int .i64 C,.int .i64 Bi,.slice ob n od] 30)));rw [← b0] at H7 H8 H9 G E X Y P Z Q;obtain ⟨pq,rfl⟩:∃ a,pv=.pointer a:=by
  by_cases h0:er=0
  · obtain ⟨a,h⟩:=b6 h0;exact ⟨_,h⟩
  · exact ⟨_,b7 h0⟩
 obtain ⟨rq,rfl⟩:∃ a,rpv=.pointer a:=by
  by_cases h0:er=0
  · obtain ⟨a,h⟩:=c9 h0;exact ⟨_,h⟩
  · exact ⟨_,d0 h0⟩
 have Ha:=Hd (And.intro b6 b7);clear a2 a0 hB a4 b2 e1 d3 e7 d1 d2 c2 Hq N H5 U O H6 V K b6 b7 c9 d0
 go_upto_region 3 with (fail)
 rw [← d4,← b0];clear d4 b0
 go_cut [43] (fun s43 wx=>s43=.bool false∧Below w2'.heap.size w2' wx)
 case first =>
  have main:∀ (w3:World),Below w2'.heap.size w2' w3→Calls prog 16 #[.agg #[.int .i64 C,.int .i64 Bi,.slice oa n oc],.agg #[.int .i64 C,.int .i64 Bi,.slice ob n od]] w3 fun e w'=>e=.returned (.bool true)∧Below w3.heap.size w3 w':=fun w3 a1=>by
   have e2:=T.1 (.slice oa n oc) (.slice ob n od) w3 (X.1.below a1).rd (Y.1.below a1).rd;rw [jfl] at e2;exact e2
  have Hr:=Hd main;clear main T;by_cases h0:er=0
  ·
   obtain ⟨pa,ha⟩:=Ha.1.1 h0;injection ha with ha
   subst ha;subst h0;rw [show jo 0=.nilIface from rfl] at Q ⊢
   go_wp2_with fail;refine Q.1.mono ?_;rintro r w3 ⟨rfl,a1⟩;have z0:=(G.1.below a1).cell 0 _ rfl;have z1:=(G.1.below a1).cell 1 _ rfl;have z2:=(G.1.below a1).cell 2 _ rfl;have y0:=(E.1.below a1).cell 0 _ rfl;have y1:=(E.1.below a1).cell 1 _ rfl;have y2:=(E.1.below a1).cell 2 _ rfl;have HM:=Hd (Hr.1 w3 a1);have HB:=Hd a1;clear a1;go_wp2_with fail;refine HM.1.mono ?_;rintro r w4 ⟨rfl,a3⟩;have M:=Hd (HB.1.trans (a3.mono HB.1.size));clear a3;go_wp2_with fail;go_meet;exact ⟨rfl,M.1⟩
  ·
   have ha:=Ha.1.2 h0;injection ha with ha
   subst ha;have e8:(er != 0)=true:=by rw [bne_iff_ne];exact h0
   clear h0;go_wp2_with fail;refine Q.1.mono ?_;rintro r w3 ⟨rfl,a1⟩;have z0:=(G.1.below a1).cell 0 _ rfl;have z1:=(G.1.below a1).cell 1 _ rfl;have z2:=(G.1.below a1).cell 2 _ rfl;have y0:=(E.1.below a1).cell 0 _ rfl;have y1:=(E.1.below a1).cell 1 _ rfl;have y2:=(E.1.below a1).cell 2 _ rfl;have HM:=Hd (Hr.1 w3 a1);have HB:=Hd a1;clear a1;go_wp2_with fail;refine HM.1.mono ?_;rintro r w4 ⟨rfl,a3⟩;have M:=Hd (HB.1.trans (a3.mono HB.1.size));clear a3;go_wp2_with fail;go_meet;exact ⟨rfl,M.1⟩
 case rest =>
  obtain ⟨rfl,a3⟩:=hcut;have Hs:=Hd (H7.1.below a3);have M:=Hd (H8.1.below a3);have I:=Hd (H9.1.below a3);have Hb:=Hd (G.1.below a3);have Ht:=Hd (E.1.below a3);have H0:=Hd (X.1.below a3);have Hu:=Hd (Y.1.below a3);have Hc:=Hd (P.1.trans (a3.mono P.1.size));have He:=Hd (Nat.le_trans Z.1 a3.size);clear a3 H7 H8 H9 G E X Y P Z Q Ha T;have c1:=I.1.cell 1 _ rfl;have c3:=I.1.cell 3 _ rfl;have f1:=I.1.free 1;have f3:=I.1.free 3;have b3:Mod (fun k=>k=pw) wc ((wc.setCell ⟨pw,1,none⟩ (.pointer pq)).setCell ⟨pw,3,none⟩ (.pointer rq)):=(Mod.set (fun k=>k=pw) wc ⟨pw,1,none⟩ (.pointer pq) rfl).trans (Mod.set _ _ ⟨pw,3,none⟩ (.pointer rq) rfl)
  have Hf:=Hd ((I.1.set 1 (.pointer pq)).set 3 (.pointer rq));have H1:=Hd b3;have S:=Hd (Ht.1.mod b3 (fun e=>HN.1.2.1 e))
  have Hg:=Hd (Hu.1.mod b3 (fun k hk e=>(HN.1.2.2.2 k hk) e))
  have y0:((wc.setCell ⟨pw,1,none⟩ (.pointer pq)).setCell ⟨pw,3,none⟩ (.pointer rq)).cell? ⟨q2,0,none⟩=some (.int .i64 C):=S.1.cell 0 _ rfl;have y1:((wc.setCell ⟨pw,1,none⟩ (.pointer pq)).setCell ⟨pw,3,none⟩ (.pointer rq)).cell? ⟨q2,1,none⟩=some (.int .i64 Bi):=S.1.cell 1 _ rfl;have y2:((wc.setCell ⟨pw,1,none⟩ (.pointer pq)).setCell ⟨pw,3,none⟩ (.pointer rq)).cell? ⟨q2,2,none⟩=some (.slice ob n od):=S.1.cell 2 _ rfl;clear b3;go_wp2_with fail;obtain ⟨w5,e3⟩:=Nm (((wc.setCell ⟨pw,1,none⟩ (.pointer pq)).setCell ⟨pw,3,none⟩ (.pointer rq)));rw [← e3] at Hf H1 S Hg y0 y1 y2 ⊢;clear e3 c1 c3 f1 f3 y0 y1 y2;refine (Hn.1 (.slice ob n od) w5 Hg.1.rd).mono ?_;rintro r w6 ⟨o3,rfl,a2,d5⟩;obtain ⟨ga,gc,rfl,_⟩:=a2.slice;rw [← H4.1] at a2 ⊢;have J:=Hd (Hf.1.below d5);have Hv:=Hd (H1.1.trans (Mod.of_below d5));have Hw:=Hd a2;have Hh:=Hd (show ∀ k,(Value.slice ga n gc).ownBlock=some k→wc.heap.size≤k∧k<w6.heap.size from fun k hk=>⟨Nat.le_trans H1.1.size (a2.lt k hk).1,(a2.lt k hk).2⟩)
  clear a2 d5 Hf H1 S Hg Hn;have c4:=J.1.cell 4 _ rfl;have c5:=J.1.cell 5 _ rfl;have c6:=J.1.cell 6 _ rfl;have f4:=J.1.free 4;have f5:=J.1.free 5;have f6:=J.1.free 6;have b4:Mod (fun k=>k=pw) w6 (((w6.setCell ⟨pw,4,none⟩ (.int .i64 C)).setCell ⟨pw,5,none⟩ (.int .i64 Bi)).setCell ⟨pw,6,none⟩ (.slice ga n gc)):=((Mod.set (fun k=>k=pw) w6 ⟨pw,4,none⟩ (.int .i64 C) rfl).trans (Mod.set _ _ ⟨pw,5,none⟩ (.int .i64 Bi) rfl)).trans (Mod.set _ _ ⟨pw,6,none⟩ (.slice ga n gc) rfl)
  have Hi:=Hd (((J.1.set 4 (.int .i64 C)).set 5 (.int .i64 Bi)).set 6 (.slice ga n gc));have H2:=Hd (Hv.1.trans b4);have Hj:=Hd (Hw.1.mod b4 (fun k hk e=>by have:=(Hh.1 k hk).1;have:=I.1.lt;omega))
  have Hk:=Hd (Hb.1.mod H2.1 (fun e=>HN.1.1 e))
  have Hl:=Hd b4.size;have z2:(((w6.setCell ⟨pw,4,none⟩ (.int .i64 C)).setCell ⟨pw,5,none⟩ (.int .i64 Bi)).setCell ⟨pw,6,none⟩ (.slice ga n gc)).cell? ⟨q1,2,none⟩=some (.slice oa n oc):=Hk.1.cell 2 _ rfl;clear b4 Hv Hw;go_wp2_with fail;obtain ⟨w7,d6⟩:=Nm ((((w6.setCell ⟨pw,4,none⟩ (.int .i64 C)).setCell ⟨pw,5,none⟩ (.int .i64 Bi)).setCell ⟨pw,6,none⟩ (.slice ga n gc)));rw [← d6] at Hi H2 Hj Hk Hl z2 ⊢;have e4:w7.heap.size=w6.heap.size:=by rw [d6];simp
  clear d6 c4 c5 c6 f4 f5 f6;have d7:∀ k,(Value.slice oa n oc).ownBlock=some k→wr.heap.size≤k∧k<q1∧¬ A' k∧¬ B' k∧k≠pw:=fun k hk=>by
   have h1:=D.1.2.2.1 k hk;have h2:=H.1.bx.lt;refine ⟨h1.2.1,h1.2.2,h1.1,fun hb=>?_,by omega⟩
   rcases F.1.1 k hb with g | g
   · have:=H.1.b.lt k g;omega
   · omega
  have H3:=Hd d7;have a0:=ja w7 (.cells #[.slice oa n oc] 28);have hw:=H2.1;have e5:=(H0.1.mod hw (fun k hk=>(d7 k hk).2.2.2.2)).below a0
  have hX:=Box.new w7 #[.slice oa n oc] 28;have h1:wc.heap.size≤w7.heap.size:=hw.size;have d8:=jij (l:=L) e5 hX (fun k hk e=>by have:=(H0.1.lt k hk).2;omega) (by have:=Hm.1;omega) (by have:=I.1.lt;have:=H.1.bx.lt;have:=D.1.2.2.2;have:=He.1;rw [World.size_alloc];have:=HN.1;have:=Hb.1.lt;omega)
  rw [e4] at d8;have Hx:=Hd d8;have Hy:=Hd ((Hs.1.mod hw (fun k hk e=>F.1.2.2.2.2.1 (by rw [← e];exact hk))).below a0)
  have Hz:=Hd ((M.1.mod hw (fun k hk e=>F.1.2.2.2.2.2 (by rw [← e];exact hk))).below a0)
  have A0:=Hd (Hi.1.below a0);have A1:=Hd (Hj.1.rd.below a0);have A4:=Hd (show ∀ k,(Value.slice oa n oc).ownBlock=some k→k<wc.heap.size from fun k hk=>(H0.1.lt k hk).2)
  have hW:=Hc.1.trans (hw.below Hc.1.size (fun k hk=>by have:=H.1.np.2.2;omega))
  have A2:=Hd (hW.trans (a0.mono hW.size));have A5:=Hd (show w6.heap.size≤(w7.alloc (.cells #[.slice oa n oc] 28)).heap.size from Nat.le_trans Hl.1 a0.size)
  have A6:=Hd (show q2<wc.heap.size∧pw<wc.heap.size from ⟨He.1,I.1.lt⟩)
  clear e4 d7 a0 hw e5 hX h1 d8 hW Hs M Hi Hj H0 Hc Hb Ht Hu J H2 Hk Hl He I;go_wp2_with fail;refine (show Calls _ _ #[.slice (some ⟨w6.heap.size,0,none⟩) 1 1] _ _ from Hx.1).mono ?_
  rintro r w9 ⟨rfl,a5⟩;have HF:=Hd (show PlayS W pw p rp (c+1) A' B' d' s' ⟨C,Bi,L⟩ (.pointer pq) (.pointer rq) (.slice ga n gc) w9 from
   ⟨Hy.1.mod a5 (fun k hk ho=>(H3.1 k ho).2.2.1 hk),Hz.1.mod a5 (fun k hk ho=>(H3.1 k ho).2.2.2.1 hk),A0.1.mod a5 (fun ho=>(H3.1 pw ho).2.2.2.2 rfl),A1.1.mod a5 (fun k hk ho=>by have:=(Hh.1 k hk).1;have:=A4.1 k ho;omega),F.1.2.1,⟨F.1.2.2.2.2.1,F.1.2.2.2.2.2,H.1.np.2.2⟩,fun k hk=>by
    have h1:=Hh.1 k hk;have h2:=A6.1;have h3:=H.1.bx.lt;have h4:=D.1.2.2.2;refine ⟨fun g=>by have:=F.1.2.2.2.1 k g;omega,fun g=>by have:=F.1.2.2.1 k g;omega,fun e=>?_,by have:=A5.1;have:=a5.size;omega⟩
    omega,fun k hk=>by
    have h5:=H.1.bel.size
    rcases hk with hk | hk
    ·
     rcases D.1.1 k hk with g | g
     · exact H.1.lo k (.inl g)
     · omega
    ·
     rcases F.1.1 k hk with g | g
     · exact H.1.lo k (.inr g)
     · have:=D.1.2.2.2;omega,A3.1,A2.1.trans (a5.below A2.1.size (fun k hk=>by have:=(H3.1 k hk).1;have:=H.1.bel.size;omega))⟩)
  clear a5 Hx Hy Hz A0 A1;go_wp2_with fail;go_ret;exact ⟨rfl,_,_,_,_,_,HF.1⟩
theorem jgZ {n:Int}(h:(Lit.int .u64 n).wf=true):∃ k:Nat,n=(k:Int)∧k<2 ^ 64:=by
 have h1:0≤n∧n≤18446744073709551615:=by simpa [Lit.wf,IntKind.min,IntKind.max,IntKind.bits,IntKind.signed] using h
 exact ⟨n.toNat,by omega,by omega⟩
structure SesI (s:SesM):Prop where
 ok:SesOk s
 slot:I64 s.slot
 birth:I64 s.birth
 upS:I64 s.upS
 upB:I64 s.upB
 kind:I64 s.kind
 level:I64 s.level
 born:I64 s.born
 deadline:I64 s.deadline
 depth:I64 s.depth
theorem ArgC.session {N:Nat}{W:World}{cs:List Value}(hl:cs.length=12)(h:ArgC false N 45 W cs):∃ s:SesM,cs=s.cells.toList∧SesI s:=by
 match cs,hl with
 | [c1,c2,c3,c4,c5,c6,c7,c8,c9,c10,c11,c12],_ =>
  have ci:prog.cellsOf 3=1:=by kernel_rfl
  have cs':prog.cellsOf 9=1:=by kernel_rfl
  have cu:prog.cellsOf 43=1:=by kernel_rfl
  have cl:prog.cellsOf 41=2:=by kernel_rfl
  have hx:=underlying45;obtain ⟨n1,rfl,b1⟩:=h.fint hx 0 _ rfl ci c1 rfl .i64 underlying3;obtain ⟨n2,rfl,b2⟩:=h.fint hx 1 _ rfl ci c2 rfl .i64 underlying3;obtain ⟨M2,_,k⟩:=h.fstruct hx 2 _ rfl 41 2 2 rfl rfl cl;have k':ArgC false M2 41 W [c3,c4]:=k;have hk:=underlying41;obtain ⟨n3,rfl,b3⟩:=k'.fint hk 0 _ rfl ci c3 rfl .i64 underlying3;obtain ⟨n4,rfl,b4⟩:=k'.fint hk 1 _ rfl ci c4 rfl .i64 underlying3;obtain ⟨n5,rfl,b5⟩:=h.fint hx 3 _ rfl ci c5 rfl .i64 underlying3;obtain ⟨s6,rfl,_,_,b6⟩:=h.fstring hx 4 _ rfl cs' c6 rfl underlying9;obtain ⟨s7,rfl,_,_,b7⟩:=h.fstring hx 5 _ rfl cs' c7 rfl underlying9;obtain ⟨n8,rfl,b8⟩:=h.fint hx 6 _ rfl cu c8 rfl .u64 underlying43;obtain ⟨n9,rfl,b9⟩:=h.fint hx 7 _ rfl ci c9 rfl .i64 underlying3;obtain ⟨n10,rfl,b10⟩:=h.fint hx 8 _ rfl ci c10 rfl .i64 underlying3;obtain ⟨n11,rfl,b11⟩:=h.fint hx 9 _ rfl ci c11 rfl .i64 underlying3;obtain ⟨n12,rfl,b12⟩:=h.fint hx 10 _ rfl ci c12 rfl .i64 underlying3;obtain ⟨u,rfl,hu⟩:=jhv s6;obtain ⟨l,rfl,hl⟩:=jhv s7;obtain ⟨sc,rfl,a0⟩:=jgZ b8;refine ⟨⟨n1,n2,n3,n4,n5,u,l,sc,n9,n10,n11,n12⟩,rfl,⟨?_,?_,a0⟩,jQ b1,jQ b2,jQ b3,jQ b4,jQ b5,jQ b9,jQ b10,jQ b11,jQ b12⟩
  · show u.length≤_;rw [hu];exact Nat.le_trans (b6 rfl) (by decide)
  · show l.length≤_;rw [hl];exact Nat.le_trans (b7 rfl) (by decide)
theorem ArgC.sessions {N:Nat}{W:World}{v:Value}(h:ArgC false N 28 W [v]):∃ l:List SesM,RdS W v l∧(∀ s∈l,SesI s)∧l.length≤1256584717421:=by
 obtain ⟨l,h1,h2,Ns,_,_,h5⟩:=h.flat ju (fun s:SesM=>s.cells.toList) (fun _=>rfl) (by decide) (fun _ s=>SesI s) underlying28 (by kernel_rfl) (fun N cs hl hc=>hc.session hl)
 refine ⟨l,h1,fun s hs=>?_,?_⟩
 ·
  obtain ⟨i,hi,rfl⟩:=List.getElem_of_mem hs;have:=h5 i hi
  simpa [List.getD,hi] using this
 ·
  have:=h2 rfl;rw [show prog.bytesOf 45=112 by kernel_rfl] at this;omega
end Go.Proofs.YtgcnolapjppbpaaGreatDoor
