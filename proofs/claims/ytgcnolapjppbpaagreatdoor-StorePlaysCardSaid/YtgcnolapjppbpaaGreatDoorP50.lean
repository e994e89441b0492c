/-
  Texts of one proof, one behind the other.
-/
import Derived.Test.YtgcnolapjppbpaaGreatDoorP04
import Derived.Test.YtgcnolapjppbpaaGreatDoorP13
import Derived.Test.YtgcnolapjppbpaaGreatDoorP00
namespace Go.Proofs.YtgcnolapjppbpaaGreatDoor
open Go.RowKit _root_.Go.Proofs.Tryz
set_option maxRecDepth 100000
set_option maxHeartbeats 25600000
def xg (mk:Nat→Nat→List Value)(k n:Nat):List Value:=(List.range n).flatMap (mk k)
theorem zW (mk:Nat→Nat→List Value)(k n:Nat):xg mk k (n+1)=xg mk k n++mk k n:=by simp [xg,List.range_succ]
theorem xj (mk:Nat→Nat→List Value)(sz:Nat)(h:∀ k i,(mk k i).length=sz)(k n:Nat):(xg mk k n).length=n*sz:=by
 induction n with
 | zero=>simp [xg]
 | succ n ih=>rw [zW,List.length_append,ih,h,Nat.succ_mul]
theorem jan (mk:Nat→Nat→List Value)(sz:Nat)(h:∀ k i,(mk k i).length=sz)(k:Nat):∀ (n i j:Nat),i<n→j<sz→(xg mk k n).getD (i*sz+j) undef=(mk k i).getD j undef
 | 0,_,_,hi,_=>by omega
 | n+1,i,j,hi,hj=>by
  have hl:=xj mk sz h k n;rw [zW];by_cases e:i=n
  ·
   subst e;rw [List.getD,List.getElem?_append_right (by omega),hl,Nat.add_sub_cancel_left];rfl
  ·
   have:=Nat.mul_le_mul_right sz (show i+1≤n by omega)
   rw [Nat.succ_mul] at this;rw [List.getD,List.getElem?_append_left (by omega)]
   exact jan mk sz h k n i j (by omega) hj
theorem jge {w:World}{base:Nat}{e:TypeId}{v:Value}{n sz:Nat}{xs:List Value}(h:w.ownsRow base e sz v n xs):xs.length=n*sz:=h.1
theorem jji {w:World}{base sz:Nat}{e:TypeId}{v:Value}{n:Nat}{xs:List Value}(h:w.ownsRow base e sz v n xs)(i:Nat)(hi:i<n)(ys:List Value)(hy:ys.length=sz) :
  ∃ g cap,v=.slice (some ⟨g,0,none⟩) n cap∧base≤g∧w.there g (i*sz) sz∧∃ xs',(w.setCells g (i*sz) ys).ownsRow base e sz v n xs'∧xs'.take ((i+1)*sz)=xs.take (i*sz)++ys:=by
 rcases h.2 with ⟨rfl,rfl⟩ | ⟨g,cap,cur,rfl,a1,hg,a2,a3,a4,a0⟩
 · omega
 ·
  have hB:Box w g cur e:=hg;have h1:=Nat.mul_le_mul_right sz (show i+1≤n by omega)
  have h2:=Nat.mul_le_mul_right sz a2;rw [Nat.succ_mul] at h1;obtain ⟨cur',b1,b2,b3,b4⟩:=Box.setCells ys (i*sz) hB (by omega)
  refine ⟨g,cap,rfl,a1,fun j hj=>⟨?_,hB.free _⟩,cur'.toList.take (n*sz),⟨by rw [List.length_take,Array.length_toList,b2];omega,.inr ⟨g,cap,cur',rfl,a1,b1,a2,a3,by rw [b2];exact a4,rfl⟩⟩,?_⟩
  · rw [hB.cell (i*sz+j) cur[i*sz+j] (by simp [show i*sz+j<cur.size by omega])];rfl
  ·
   rw [List.take_take,Nat.succ_mul,show min (i*sz+sz) (n*sz)=i*sz+sz by omega]
   refine List.ext_getElem? fun q=>?_
   rw [List.getElem?_take];by_cases hq:q<i*sz
   · rw [if_pos (by omega),List.getElem?_append_left (by rw [List.length_take,← a0,List.length_take,Array.length_toList];omega),List.getElem?_take,if_pos hq,← a0,List.getElem?_take,if_pos (by omega),Array.getElem?_toList,Array.getElem?_toList,b4 q (.inl hq)]
   ·
    have a5:(xs.take (i*sz)).length=i*sz:=by rw [List.length_take,← a0,List.length_take,Array.length_toList];omega
    rw [List.getElem?_append_right (by omega),a5]
    by_cases hq2:q<i*sz+sz
    ·
     rw [if_pos hq2,Array.getElem?_toList];have:=b3 (q-i*sz) ys[q-i*sz] (by simp [show q-i*sz<ys.length by omega])
     rw [show i*sz+(q-i*sz)=q by omega] at this
     rw [this];simp [show q-i*sz<ys.length by omega]
    · rw [if_neg hq2,List.getElem?_eq_none (by omega)]
theorem Twin.appendS {w w':World}{base sz:Nat}{e:TypeId}{u v v':Value}{n m:Nat}{xs ys x:List Value}(h:Twin u v n m)(hr:Rd w u n ys)(hy:ys.length=n*sz)(a1:w.ownsRow base e sz v m xs)(a3:w'.ownsRow base e sz v' (m+1) (xs++x))(hg:w.grownBy w' v.ownBlock)(a4:jg2 w w' v v' m)(hu:∀ k,u.ownBlock=some k→k<w.heap.size):Twin u v' n (m+1)∧Rd w' u n ys:=by
 rcases a4 with ⟨b,c,rfl,rfl⟩ | ⟨hn,hb⟩
 ·
  rcases h with h | ⟨b',c1,c2,rfl,e2,a5⟩
  · refine ⟨.inl (fun k hk=>by have:=h k hk;simpa [Value.ownBlock] using this),hr.keep (fun k hk hl=>hg.block k hl (fun e=>h k hk e.symm))⟩
  ·
   injection e2 with e3 e4 e5
   injection e3 with e3
   injection e3 with e3
   subst e3;refine ⟨.inr ⟨_,c1,c,rfl,rfl,by omega⟩,?_⟩
   obtain ⟨a0,cap0,h0,h1,h2,h3,h4⟩:=hr;injection h0 with g1 g2 g3
   subst g1;subst g3;refine ⟨_,_,rfl,h1,h2,h3,fun j hj=>?_⟩
   obtain ⟨b2,o2,g4,g5⟩:=h4 j hj;injection g4 with g4
   injection g4 with g4 g6
   subst g4;subst g6;refine ⟨_,0,rfl,?_⟩;have hl:xs.length=m*sz:=a1.1;have a2:j<xs.length:=by have:=Nat.mul_le_mul_right sz a5;omega
   have q1:=a1.cells (g:=_) rfl j xs[j] (by simp [a2])
   have q2:=a3.cells (g:=_) rfl j xs[j] (by rw [List.getElem?_append_left a2];simp [a2])
   rw [Go.WideShapes.add_plain] at q1 q2;rw [q2,← q1,g5]
 · exact ⟨.inl (fun k hk e=>by have:=hu k hk;rw [hn] at e;injection e with e;omega),hr.below hb⟩
structure RowsS where
 N:Nat
 vs:Nat→Value
 ns:Nat→Nat
 B:Nat
 e:TypeId
 sz:Nat
 hsz:0<sz
 mark:Nat→Nat→List Value
 hmk:∀ k i,(mark k i).length=sz
 hmk1:∀ k i,∀ u∈mark k i,u.oneCell'=true
def RowsS.blk (R:RowsS):Nat→Prop:=fun b=>∃ j,j<R.N∧(R.vs j).ownBlock=some b
structure Turn1S (R:RowsS)(lsv:Value)(w0:World)(k i:Nat)(w:World):Prop where
 own:∃ xs:Nat→List Value,(∀ j,j<R.N→w.ownsRow R.B R.e R.sz (R.vs j) (R.ns j) (xs j))∧(∀ j,j<k→j<R.N→xs j=xg R.mark j (R.ns j))∧(k<R.N→(xs k).take (i*R.sz)=xg R.mark k i)
 apart:∀ j j',j<R.N→j'<R.N→j≠j'→Apart (R.vs j) (R.vs j')
 ls:Rd w lsv R.N ((List.range R.N).map R.vs)
 lsa:∀ j,j<R.N→Apart lsv (R.vs j)
 mod:Mod R.blk w0 w
theorem Turn1S.row {R:RowsS}{lsv:Value}{w0:World}{k i:Nat}{w:World}(h:Turn1S R lsv w0 k i w)(hk:k<R.N)(hi:i<R.ns k) :
  ∃ g cap,R.vs k=.slice (some ⟨g,0,none⟩) (R.ns k) cap∧w.there g (i*R.sz) R.sz∧Turn1S R lsv w0 k (i+1) (w.setCells g (i*R.sz) (R.mark k i)):=by
 obtain ⟨⟨xs,h1,h2,h3⟩,h4,h5,h6,h7⟩:=h;obtain ⟨g,cap,e1,hb,hy,xs',hs,hx⟩:=jji (h1 k hk) i hi (R.mark k i) (R.hmk k i);have hm:Mod (fun b=>b=g) w (w.setCells g (i*R.sz) (R.mark k i)):=Mod.setCells (fun b=>b=g) g rfl _ _ _
 have hl:=jge (h1 k hk);refine ⟨g,cap,e1,hy,⟨fun j=>if j=k then xs' else xs j,fun j hj=>?_,fun j hj a0=>?_,fun _=>?_⟩,h4,?_,h6,h7.trans (hm.mono (fun _ hi=>by subst hi;exact ⟨k,hk,by rw [e1];rfl⟩))⟩
 ·
  dsimp only
  by_cases e:j=k
  · subst e;rw [if_pos rfl];exact hs
  · rw [if_neg e];exact yB (h1 j hj) hm (fun b hb e2=>h4 j k hj hk e b hb (by rw [e1,e2];rfl))
 ·
  dsimp only
  rw [if_neg (by omega)];exact h2 j hj a0
 ·
  dsimp only
  rw [if_pos rfl,zW,← h3 hk];exact hx
 · exact h5.mod hm (fun b hb e2=>h6 k hk b hb (by rw [e1,e2];rfl))
theorem Turn1S.next {R:RowsS}{lsv:Value}{w0:World}{k:Nat}{w:World}(h:Turn1S R lsv w0 k (R.ns k) w)(hk:k<R.N):Turn1S R lsv w0 (k+1) 0 w:=by
 obtain ⟨⟨xs,h1,h2,h3⟩,h4,h5,h6,h7⟩:=h;refine ⟨⟨xs,h1,fun j hj a0=>?_,fun _=>by simp [xg]⟩,h4,h5,h6,h7⟩
 by_cases e:j=k
 ·
  subst e;have:=h3 hk;rw [List.take_of_length_le (Nat.le_of_eq (jge (h1 j hk)))] at this;exact this
 · exact h2 j (by omega) a0
structure Turn2S (R:RowsS)(lsv:Value)(w0:World)(E:TypeId)(k:Nat)(gsv:Value)(gl:List Value)(g:Value)(i:Nat)(w:World):Prop where
 own:∃ gv:Nat→Value,(∀ j,j<k→j<R.N→w.ownsRow R.B R.e R.sz (gv j) (R.ns j+64) (xg R.mark j (R.ns j+64)))∧(∀ j,k<j→j<R.N→gv j=R.vs j∧w.ownsRow R.B R.e R.sz (gv j) (R.ns j) (xg R.mark j (R.ns j))) ∧
  (k<R.N→gv k=g∧w.ownsRow R.B R.e R.sz g (R.ns k+i) (xg R.mark k (R.ns k+i))∧Twin (R.vs k) g (R.ns k) (R.ns k+i))∧(∀ j j',j<R.N→j'<R.N→j≠j'→Apart (gv j) (gv j')∧Apart (R.vs j) (gv j')) ∧
  (∀ j,j<R.N→Apart lsv (gv j)∧Apart gsv (gv j))∧gl=(List.range (min k R.N)).map gv
 rd:∀ j,j<R.N→Rd w (R.vs j) (R.ns j) (xg R.mark j (R.ns j))
 lt:∀ j,j<R.N→∀ b,(R.vs j).ownBlock=some b→b<w.heap.size
 ls:Rd w lsv R.N ((List.range R.N).map R.vs)
 lsl:∀ b,lsv.ownBlock=some b→b<w.heap.size
 gs:w.ownsRow R.B E 1 gsv (min k R.N) gl
 gsa:Apart lsv gsv∧∀ j,j<R.N→Apart (R.vs j) gsv
 mod:Mod R.blk w0 w
 le:R.B≤w.heap.size
 new:(k<R.N→∀ b,g.ownBlock=some b→R.blk b∨w0.heap.size≤b)∧∀ b,gsv.ownBlock=some b→w0.heap.size≤b
theorem Turn1S.two {R:RowsS}{lsv:Value}{w0:World}{w:World}{E:TypeId}(h:Turn1S R lsv w0 R.N 0 w)(hl:∀ b,lsv.ownBlock=some b→b<w.heap.size)(hB:R.B≤w.heap.size) :
  Turn2S R lsv w0 E 0 (.slice none 0 0) [] (R.vs 0) 0 w:=by
 obtain ⟨⟨xs,h1,h2,h3⟩,h4,h5,h6,h7⟩:=h;have ho:∀ j,j<R.N→w.ownsRow R.B R.e R.sz (R.vs j) (R.ns j) (xg R.mark j (R.ns j)):=fun j hj=>by
  have:=h1 j hj
  rwa [h2 j hj hj] at this
 refine ⟨⟨R.vs,fun j hj _=>by omega,fun j _ hj=>⟨rfl,ho j hj⟩,fun h0=>⟨rfl,ho 0 h0,?_⟩,fun j j' hj a0 a1=>⟨h4 j j' hj a0 a1,h4 j j' hj a0 a1⟩,fun j hj=>⟨h6 j hj,jbb _⟩,by simp⟩,
  fun j hj=>jq (ho j hj),fun j hj b hb=>((ho j hj).lt b hb).2,h5,hl,?_,⟨jd8 _,fun j _=>jd8 _⟩,h7,hB,fun h0 b hb=>.inl ⟨0,h0,hb⟩,fun b hb=>by simp [Value.ownBlock] at hb⟩
 ·
  rcases (ho 0 h0).2 with ⟨e,_⟩ | ⟨g,cap,cur,e,_⟩
  · rw [e];exact .inl (jbb _)
  · rw [e];exact .inr ⟨g,cap,cap,rfl,rfl,by omega⟩
 · rw [Nat.zero_min];exact World.ownsRow_nil _ _ _ _
theorem Turn2S.below {R:RowsS}{lsv:Value}{w0:World}{E:TypeId}{k i:Nat}{gsv g:Value}{gl:List Value}{w w':World}(h:Turn2S R lsv w0 E k gsv gl g i w)(hb:Below w.heap.size w w'):Turn2S R lsv w0 E k gsv gl g i w':=by
 obtain ⟨⟨gv,h1,h2,h3,h4,h5,h6⟩,k1,k2,k3,k4,k5,k6,k7,k8,k9⟩:=h;exact ⟨⟨gv,fun j a b=>jr (h1 j a b) hb,fun j a b=>⟨(h2 j a b).1,jr (h2 j a b).2 hb⟩,fun a=>⟨(h3 a).1,jr (h3 a).2.1 hb,(h3 a).2.2⟩,h4,h5,h6⟩,fun j hj=>(k1 j hj).below hb,
  fun j hj b a0=>Nat.lt_of_lt_of_le (k2 j hj b a0) hb.size,k3.below hb,fun b a0=>Nat.lt_of_lt_of_le (k4 b a0) hb.size,jr k5 hb,k6,k7.then (Mod.of_below (F:=fun _=>False) hb) (fun _ h=>h.elim),Nat.le_trans k8 hb.size,k9⟩
theorem Turn2S.step {R:RowsS}{lsv:Value}{w0:World}{E:TypeId}{k i:Nat}{gsv g g':Value}{gl:List Value}{w w':World}(h:Turn2S R lsv w0 E k gsv gl g i w)(hk:k<R.N)(a0:w'.ownsRow R.B R.e R.sz g' (R.ns k+i+1) (xg R.mark k (R.ns k+i)++R.mark k (R.ns k+i)))(hg:w.grownBy w' g.ownBlock)(hm:xe w g g')(a4:jg2 w w' g g' (R.ns k+i)):Turn2S R lsv w0 E k gsv gl g' (i+1) w':=by
 obtain ⟨⟨gv,h1,h2,h3,h4,h5,h6⟩,k1,k2,k3,k4,k5,k6,k7,k8,k9⟩:=h;obtain ⟨e0,ho,ht⟩:=h3 hk;have a2:=fun j (hj:j<R.N) (a5:j≠k)=>(show ∀ b,(gv j).ownBlock=some b→b<w.heap.size from fun b hb=>by
  rcases Nat.lt_or_gt_of_ne a5 with hlt | hlt
  · exact ((h1 j hlt hj).lt b hb).2
  · exact ((h2 j hlt hj).2.lt b hb).2)
 have hT:=ht.appendS (k1 k hk) (xj _ _ R.hmk _ _) ho a0 hg a4 (k2 k hk);rw [← zW] at a0;refine ⟨⟨fun j=>if j=k then g' else gv j,fun j a b=>?_,fun j a b=>?_,fun a=>⟨if_pos rfl,a0,hT.1⟩,fun j j' hj a1 a3=>?_,fun j hj=>?_,?_⟩,fun j hj=>?_,fun j hj b hb=>Nat.lt_of_lt_of_le (k2 j hj b hb) hg.size,
  k3.keep (fun b hb hl=>hg.block b hl (fun e=>(h5 k hk).1 b hb (by rw [e0];exact e.symm))),fun b hb=>Nat.lt_of_lt_of_le (k4 b hb) hg.size,xd k5 hg (by rw [← e0];exact (h5 k hk).2),k6,
  k7.then (Mod.of_grown hg (F:=fun b=>R.blk b∨w0.heap.size≤b) (fun b hb=>k9.1 hk b hb)) (fun b hb=>hb),Nat.le_trans k8 hg.size,fun _ b hb=>?_,k9.2⟩
 ·
  show w'.ownsRow R.B R.e R.sz (if j=k then g' else gv j) _ _
  rw [if_neg (by omega)];exact xd (h1 j a b) hg (by rw [← e0];exact (h4 j k b hk (by omega)).1)
 ·
  show (if j=k then g' else gv j)=_∧w'.ownsRow R.B R.e R.sz (if j=k then g' else gv j) _ _
  rw [if_neg (by omega)];exact ⟨(h2 j a b).1,xd (h2 j a b).2 hg (by rw [← e0];exact (h4 j k b hk (by omega)).1)⟩
 ·
  show Apart (if j=k then g' else gv j) (if j'=k then g' else gv j')∧Apart (R.vs j) (if j'=k then g' else gv j')
  by_cases ej:j=k
  ·
   subst ej;rw [if_pos rfl,if_neg (by omega)]
   have h:=h4 j j' hj a1 a3;refine ⟨?_,h.2⟩;have h':=h.1.symm;rw [e0] at h';exact (h'.moved hm (a2 j' a1 (by omega))).symm
  ·
   rw [if_neg ej];by_cases ej':j'=k
   ·
    subst ej';rw [if_pos rfl];have h:=h4 j j' hj a1 a3;rw [e0] at h;exact ⟨h.1.moved hm (a2 j hj ej),h.2.moved hm (k2 j hj)⟩
   · rw [if_neg ej'];exact h4 j j' hj a1 a3
 ·
  show Apart lsv (if j=k then g' else gv j)∧Apart gsv (if j=k then g' else gv j)
  by_cases ej:j=k
  ·
   subst ej;rw [if_pos rfl];have h:=h5 j hj;rw [e0] at h;exact ⟨h.1.moved hm k4,h.2.moved hm (fun b hb=>(k5.lt b hb).2)⟩
  · rw [if_neg ej];exact h5 j hj
 ·
  rw [h6];refine List.map_congr_left fun j hj=>?_
  simp only [List.mem_range] at hj;rw [if_neg (by omega)]
 ·
  by_cases ej:j=k
  · subst ej;exact hT.2
  · exact (k1 j hj).keep (fun b hb hl=>hg.block b hl (fun e=>(h4 j k hj hk ej).2 b hb (by rw [e0];exact e.symm)))
 ·
  rcases hm with e | e
  · rw [e] at hb;exact k9.1 hk b hb
  · rw [e] at hb;injection hb with hb;right;rw [← hb];exact k7.size
theorem Turn2S.next {R:RowsS}{lsv:Value}{w0:World}{E:TypeId}{k:Nat}{gsv g gsv':Value}{gl:List Value}{w w':World}(h:Turn2S R lsv w0 E k gsv gl g 64 w)(hk:k<R.N)(a0:w'.ownsRow R.B E 1 gsv' (k+1) (gl ++ [g]))(hg:w.grownBy w' gsv.ownBlock)(hm:xe w gsv gsv'):Turn2S R lsv w0 E (k+1) gsv' (gl ++ [g]) (R.vs (k+1)) 0 w':=by
 obtain ⟨⟨gv,h1,h2,h3,h4,h5,h6⟩,k1,k2,k3,k4,k5,k6,k7,k8,k9⟩:=h;obtain ⟨e0,ho,ht⟩:=h3 hk;have a1:=fun j (hj:j<R.N)=>(show ∀ b,(gv j).ownBlock=some b→b<w.heap.size from fun b hb=>by
  rcases Nat.lt_trichotomy j k with hlt | rfl | hlt
  · exact ((h1 j hlt hj).lt b hb).2
  · rw [e0] at hb;exact (ho.lt b hb).2
  · exact ((h2 j hlt hj).2.lt b hb).2)
 refine ⟨⟨gv,fun j a b=>?_,fun j a b=>⟨(h2 j (by omega) b).1,xd (h2 j (by omega) b).2 hg (h5 j b).2.symm⟩,fun a=>⟨(h2 _ (by omega) a).1,?_,?_⟩,h4,fun j hj=>⟨(h5 j hj).1,((h5 j hj).2.symm.moved hm (a1 j hj)).symm⟩,?_⟩,
  fun j hj=>(k1 j hj).keep (fun b hb hl=>hg.block b hl (fun e=>k6.2 j hj b hb e.symm)),fun j hj b hb=>Nat.lt_of_lt_of_le (k2 j hj b hb) hg.size,
  k3.keep (fun b hb hl=>hg.block b hl (fun e=>k6.1 b hb e.symm)),fun b hb=>Nat.lt_of_lt_of_le (k4 b hb) hg.size,by rw [show min (k+1) R.N=k+1 by omega];exact a0,⟨k6.1.moved hm k4,fun j hj=>(k6.2 j hj).moved hm (k2 j hj)⟩,
  k7.then (Mod.of_grown hg (F:=fun b=>w0.heap.size≤b) (fun b hb=>k9.2 b hb)) (fun b hb=>.inr hb),Nat.le_trans k8 hg.size,fun a b hb=>.inl ⟨k+1,a,hb⟩,fun b hb=>?_⟩
 ·
  by_cases ej:j=k
  · subst ej;rw [e0];exact xd ho hg (by rw [← e0];exact (h5 j b).2.symm)
  · exact xd (h1 j (by omega) b) hg (h5 j b).2.symm
 ·
  have h:=h2 (k+1) (by omega) a
  rw [h.1] at h;exact xd h.2 hg (by have:=(h5 (k+1) a).2.symm;rwa [(h2 (k+1) (by omega) a).1] at this)
 ·
  have h:=h2 (k+1) (by omega) a
  rw [h.1] at h
  rcases h.2.2 with ⟨e,_⟩ | ⟨g,cap,cur,e,_⟩
  · rw [e];exact .inl (jbb _)
  · rw [e];exact .inr ⟨g,cap,cap,rfl,rfl,by omega⟩
 · rw [h6,show min k R.N=k by omega,show min (k+1) R.N=k+1 by omega,List.range_succ,List.map_append];simp [e0]
 ·
  rcases hm with e | e
  · rw [e] at hb;exact k9.2 b hb
  · rw [e] at hb;injection hb with hb;rw [← hb];exact k7.size
structure Turn3S (R:RowsS)(lsv gsv:Value)(gl:List Value)(w:World):Prop where
 ls:Rd w lsv R.N ((List.range R.N).map R.vs)
 gs:Rd w gsv R.N gl
 len:gl.length=R.N
 rd:∀ j,j<R.N→Rd w (R.vs j) (R.ns j) (xg R.mark j (R.ns j))
 gd:∀ j,j<R.N→Rd w (gl.getD j undef) (R.ns j+64) (xg R.mark j (R.ns j+64))
theorem Turn2S.three {R:RowsS}{lsv:Value}{w0:World}{E:TypeId}{gsv g:Value}{gl:List Value}{w:World}{i:Nat}(h:Turn2S R lsv w0 E R.N gsv gl g i w):Turn3S R lsv gsv gl w:=by
 obtain ⟨⟨gv,h1,h2,h3,h4,h5,h6⟩,k1,k2,k3,k4,k5,k6,k7⟩:=h;rw [Nat.min_self] at h6 k5;refine ⟨k3,jq k5,by rw [h6];simp,k1,fun j hj=>?_⟩
 have:gl.getD j undef=gv j:=by rw [h6];simp [List.getD,hj]
 rw [this];exact jq (h1 j hj hj)
theorem Turn3S.below {R:RowsS}{lsv gsv:Value}{gl:List Value}{w w':World}(h:Turn3S R lsv gsv gl w)(hb:Below w.heap.size w w'):Turn3S R lsv gsv gl w' :=
 ⟨h.ls.below hb,h.gs.below hb,h.len,fun j hj=>(h.rd j hj).below hb,fun j hj=>(h.gd j hj).below hb⟩
theorem Turn1S.below {R:RowsS}{lsv:Value}{w0:World}{k i:Nat}{w w':World}(h:Turn1S R lsv w0 k i w)(hb:Below w.heap.size w w'):Turn1S R lsv w0 k i w':=by
 obtain ⟨⟨xs,h1,h2,h3⟩,h4,h5,h6,h7⟩:=h;exact ⟨⟨xs,fun j hj=>jr (h1 j hj) hb,h2,h3⟩,h4,h5.below hb,h6,h7.then (Mod.of_below (F:=fun _=>False) hb) (fun _ h=>h.elim)⟩
theorem Turn1S.lsAt {R:RowsS}{lsv:Value}{w0:World}{k i:Nat}{w:World}(h:Turn1S R lsv w0 k i w)(hk:k<R.N) :
  ∃ b off cap,lsv=.slice (some ⟨b,off,none⟩) R.N cap∧w.cell? ⟨b,off+k,none⟩=some (R.vs k):=by
 obtain ⟨b,off,cap,h1,h2⟩:=h.ls.at k (by simpa using hk)
 exact ⟨b,off,cap,h1,by rw [h2];simp [List.getD,hk]⟩
theorem Turn1S.slice {R:RowsS}{lsv:Value}{w0:World}{k i:Nat}{w:World}(h:Turn1S R lsv w0 k i w)(hk:k<R.N):∃ a c,R.vs k=.slice a (R.ns k) c:=by
 obtain ⟨⟨xs,h1,_⟩,_⟩:=h;obtain ⟨a,c,e,_⟩:=jK (h1 k hk);exact ⟨a,c,e⟩
theorem Turn2S.at {R:RowsS}{lsv:Value}{w0:World}{E:TypeId}{k i:Nat}{gsv g:Value}{gl:List Value}{w:World}(h:Turn2S R lsv w0 E k gsv gl g i w)(hk:k<R.N) :
  (∃ b off cap,lsv=.slice (some ⟨b,off,none⟩) R.N cap∧w.cell? ⟨b,off+k,none⟩=some (R.vs k))∧w.ownsRow R.B R.e R.sz g (R.ns k+i) (xg R.mark k (R.ns k+i))∧∃ a c,R.vs k=.slice a (R.ns k) c:=by
 obtain ⟨b,off,cap,h1,h2⟩:=h.ls.at k (by simpa using hk)
 obtain ⟨a,c,h3,_⟩:=h.rd k hk;obtain ⟨gv,_,_,h4,_⟩:=h.own;exact ⟨⟨b,off,cap,h1,by rw [h2];simp [List.getD,hk]⟩,(h4 hk).2.1,a,c,h3⟩
theorem jhj {i n sz j:Nat}(hi:i<n)(hj:j<sz):i*sz+j<n*sz:=by
 have:=Nat.mul_le_mul_right sz (show i+1≤n by omega)
 rw [Nat.succ_mul] at this;omega
theorem Turn3S.at {R:RowsS}{lsv gsv:Value}{gl:List Value}{w:World}(h:Turn3S R lsv gsv gl w)(k:Nat)(hk:k<R.N) :
  (∃ b off cap,lsv=.slice (some ⟨b,off,none⟩) R.N cap∧w.cell? ⟨b,off+k,none⟩=some (R.vs k))∧(∃ a c,R.vs k=.slice a (R.ns k) c∧∀ i,i<R.ns k→∃ b off,a=some ⟨b,off,none⟩∧∀ j,j<R.sz→w.cell? ⟨b,off+i*R.sz+j,none⟩=some ((R.mark k i).getD j undef)) ∧
  ∃ g,(∃ b off cap,gsv=.slice (some ⟨b,off,none⟩) R.N cap∧w.cell? ⟨b,off+k,none⟩=some g)∧(∃ b off c,g=.slice (some ⟨b,off,none⟩) (R.ns k+64) c∧∀ i,i<R.ns k+64→∀ j,j<R.sz→w.cell? ⟨b,off+i*R.sz+j,none⟩=some ((R.mark k i).getD j undef)):=by
 obtain ⟨b,off,cap,h1,h2⟩:=h.ls.at k (by simpa using hk)
 obtain ⟨b',off',cap',h3,h4⟩:=h.gs.at k (by rw [h.len];exact hk)
 obtain ⟨a,c,h5,_,_,_,h6⟩:=h.rd k hk;have hz:=R.hsz;obtain ⟨b2,off2,c2,h7,_⟩:=(h.gd k hk).at 0 (by rw [xj _ _ R.hmk];have:=jhj (i:=0) (n:=R.ns k+64) (sz:=R.sz) (j:=0) (by omega) hz;omega)
 refine ⟨⟨b,off,cap,h1,by rw [h2];simp [List.getD,hk]⟩,⟨a,c,h5,fun i hi=>?_⟩,_,⟨b',off',cap',h3,h4⟩,b2,off2,c2,h7,fun i hi j hj=>?_⟩
 ·
  obtain ⟨b,off,e1,_⟩:=h6 (i*R.sz+0) (by rw [xj _ _ R.hmk];exact jhj hi hz)
  refine ⟨b,off,e1,fun j hj=>?_⟩
  obtain ⟨b3,off3,e3,e2⟩:=h6 (i*R.sz+j) (by rw [xj _ _ R.hmk];exact jhj hi hj)
  rw [e1] at e3;injection e3 with e3;injection e3 with e3 e4
  subst e3;subst e4;rw [Nat.add_assoc,e2,jan _ _ R.hmk _ _ _ _ hi hj]
 ·
  obtain ⟨b3,off3,c3,h8,h9⟩:=(h.gd k hk).at (i*R.sz+j) (by rw [xj _ _ R.hmk];exact jhj hi hj)
  rw [h7] at h8;injection h8 with h8;injection h8 with h8;injection h8 with e1 e2
  subst e1;subst e2;rw [Nat.add_assoc,h9,jan _ _ R.hmk _ _ _ _ hi hj]
end Go.Proofs.YtgcnolapjppbpaaGreatDoor
