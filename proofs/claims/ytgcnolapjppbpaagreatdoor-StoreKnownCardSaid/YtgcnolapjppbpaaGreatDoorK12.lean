/- Texts of one proof. -/
import Derived.Test.YtgcnolapjppbpaaGreatDoorK11
namespace Go.Proofs.YtgcnolapjppbpaaGreatDoor
open Go.RowKit _root_.Go.Proofs.Tryz
set_option maxRecDepth 100000
set_option maxHeartbeats 25600000
variable {B b base n:Nat}{w w' W:World}{e:UInt32}{v:Value}{xs:List Value}{bl want:List (List UInt8)}{p:List UInt8}{d:DiskM}
open Go.RowKit Go.Shelf
attribute [local go_sem] Oper.semAt_some
def vZ (A C:World):Prop:=∀ (k:Nat) (cs:Array Value) (t:TypeId) (fz:Nat × Nat),A.heap[k]?=some (.cells cs t fz)->C.heap[k]?=some (.cells cs t fz)
theorem jdk {I:World->Prop}(h:∀ A C,I A->vZ A C->Mod (fun b=>B<=b) A C->I C):Soft B I where
 below:=fun {A C} hi hb=>h A C hi (fun k cs t fz hk=>(hb.block k (Array.getElem?_eq_some_iff.1 hk).1).trans hk) (Mod.of_below hb)
 put:=fun {A l o} o' hi hl hk ho=>h A _ hi (fun k cs t fz a0=>by
  by_cases e:k=l
  .
   subst e;rw [hk] at a0;injection a0 with a0
   rw [a0] at ho
   simp [Obj.isCells] at ho
  . exact (pG e).trans a0) (jf4 (by exact hl) o')
theorem Box.ck {cs:Array Value}{t:TypeId}(h:Box w b cs t)(hc:vZ w w'):Box w' b cs t:=hc _ _ _ _ h
theorem jkJ {e:TypeId}{size:Nat}(h:w.ownsRow base e size v n xs)(hc:vZ w w'):w'.ownsRow base e size v n xs:=by
 refine ⟨h.1,?_⟩
 rcases h.2 with hn | ⟨g,cap,cur,hv,hb,hg,rest⟩
 . exact .inl hn
 . exact .inr ⟨g,cap,cur,hv,hb,hc _ _ _ _ hg,rest⟩
theorem OwnM.ck {e:TypeId}(h:OwnM w base e v n xs)(hc:vZ w w'):OwnM w' base e v n xs:=by
 refine ⟨h.1,?_⟩
 rcases h.2 with hn | ⟨g,cap,cur,fz,hv,hb,hg,rest⟩
 . exact .inl hn
 . exact .inr ⟨g,cap,cur,fz,hv,hb,hc _ _ _ _ hg,rest⟩
theorem jkk:(prog.info? 92).map (fun i=>(i.zero,i.size,i.bytes))=some (some (.slice none 0 0),1,24):=by kernel_rfl
structure Found (e:UInt32)(bl:List (List UInt8))(B:Nat)(pre:List (Nat × Value))(W:World):Prop where
 row:∀ i x,pre[i]?=some x->x.1=yQ e bl i/\∃ p k,yN e bl i=some (p,k)/\OwnM W B 5 x.2 p.length (p.map V8)
 apart:∀ (i j:Nat) (x y:Nat × Value),i<j->pre[i]?=some x->pre[j]?=some y->Apart x.2 y.2
theorem Found.nil (e:UInt32)(bl:List (List UInt8))(B:Nat)(W:World):Found e bl B [] W:=⟨fun i x h=>by simp at h,fun i j x y _ h=>by simp at h⟩
theorem Found.ck {pre:List (Nat × Value)}{W':World}(h:Found e bl B pre W)(hc:vZ W W'):Found e bl B pre W' :=
 ⟨fun i x hx=>by obtain ⟨h1,p,k,h2,h3⟩:=h.row i x hx;exact ⟨h1,p,k,h2,h3.ck hc⟩,h.apart⟩
theorem Found.keep {pre:List (Nat × Value)}{W':World}(h:Found e bl B pre W)(hk:∀ x∈pre,∀ k,x.2.ownBlock=some k->k<W.heap.size->W'.heap[k]?=W.heap[k]?):Found e bl B pre W' :=
 ⟨fun i x hx=>by obtain ⟨h1,p,k,h2,h3⟩:=h.row i x hx;exact ⟨h1,p,k,h2,h3.keep (hk x (List.mem_of_getElem? hx))⟩,h.apart⟩
theorem Found.snoc {pre:List (Nat × Value)}{x:Nat × Value}(h:Found e bl B pre W)(hx:NextR B e bl pre x W):Found e bl B (pre ++ [x]) W:=by
 obtain ⟨h1,h2,h3⟩:=hx;refine ⟨fun i y hy=>?_,fun i j y z a0 hy hz=>?_⟩
 .
  rcases qX i pre.length with hi | hi
  .
   rw [List.getElem?_append_left hi] at hy;exact h.row i y hy
  .
   rw [List.getElem?_append_right hi] at hy;have a1:i-pre.length=0:=by
    rcases ky (i-pre.length) with h0 | h0
    . exact h0
    . rw [List.getElem?_eq_none (by simp;omega)] at hy;cases hy
   rw [a1] at hy;obtain rfl:x=y:=by simpa using hy
   rw [show i=pre.length by omega]
   exact ⟨h1,h2⟩
 .
  have a2:j<(pre ++ [x]).length:=(List.getElem?_eq_some_iff.1 hz).1;rw [qd,qx] at a2;rw [List.getElem?_append_left (by omega)] at hy
  rcases qX j pre.length with hj | hj
  .
   rw [List.getElem?_append_left hj] at hz;exact h.apart i j y z a0 hy hz
  .
   rw [List.getElem?_append_right hj,show j-pre.length=0 by omega] at hz
   obtain rfl:x=z:=by simpa using hz
   exact h3 y (List.mem_of_getElem? hy)
theorem Found.len {pre:List (Nat × Value)}(h:Found e bl B pre W):pre.length<=bl.length:=by
 have:∀ n,n<=pre.length->n<=yQ e bl n:=by
  intro n
  induction n with
  | zero=>intro _;exact qJ _
  | succ n ih =>
   intro hn;obtain ⟨_,p,k,h2,_⟩:=h.row n pre[n] (List.getElem?_eq_getElem (by omega))
   rw [ze h2];have:=(vY h2).1;have:=ih (by omega)
   omega
 exact qi (this _ (qm _)) (jax _ _ _)
theorem Found.lower {B':Nat}{pre:List (Nat × Value)}(h:Found e bl B pre W)(hb:B'<=B):Found e bl B' pre W :=
 ⟨fun i x hx=>by obtain ⟨h1,p,k,h2,h3⟩:=h.row i x hx;exact ⟨h1,p,k,h2,h3.lower hb⟩,h.apart⟩
structure ScanI (e:UInt32)(bl:List (List UInt8))(lv:Value)(w w5:World)(pre:List (Nat × Value))(W:World):Prop where
 found:Found e bl w5.heap.size pre W
 out:∃ ov,Box W (w.heap.size+1+1) #[ov] 174/\W.ownsRow w5.heap.size 92 1 ov pre.length (pre.map (·.2))
 used:Box W (w.heap.size+1+1+1) #[((yQ e bl pre.length:Nat):Int)] 3
 ep:Box W w.heap.size #[.int .u32 (e.toNat:Int)] 87
 li:Box W (w.heap.size+1) #[lv] 81
 below:Below w.heap.size w W
 mod:Mod (fun b=>b<w.heap.size+4\/w5.heap.size<=b) w5 W
theorem ScanI.soft {lv:Value}{w5:World}(hs:w.heap.size<=w5.heap.size)(pre:List (Nat × Value)):Soft w5.heap.size (ScanI e bl lv w w5 pre):=jdk (fun A C h hc hm=>by
 obtain ⟨ov,h1,h2⟩:=h.out;refine ⟨h.found.ck hc,⟨ov,h1.ck hc,jkJ h2 hc⟩,h.used.ck hc,h.ep.ck hc,h.li.ck hc,h.below.trans (hm.below h.below.size (fun i hi=>qi hs hi)),h.mod.trans (hm.mono (fun i hi=>.inr hi))⟩)
theorem NextR.soft (B:Nat)(pre:List (Nat × Value))(x:Nat × Value):Soft n (NextR B e bl pre x):=jdk (fun A C h hc _=>by
 obtain ⟨h1,⟨p,k,h2,h3⟩,h4⟩:=h;exact ⟨h1,⟨p,k,h2,h3.ck hc⟩,h4⟩)
theorem jcJ {b':Nat}{e e':TypeId}{s n':Nat}{v':Value}{xs':List Value}(h:W.ownsRow b e s v n xs)(h':OwnM W b' e' v' n' xs')(a2:e≠e'):Apart v v':=by
 intro k hk a0
 rcases h.2 with ⟨rfl,_⟩ | ⟨g,cap,cur,rfl,_,hg,_⟩
 . simp [Value.ownBlock] at hk
 .
  rcases h'.2 with ⟨rfl,_⟩ | ⟨g',cap',cur',fz,rfl,_,a1,_⟩
  . simp [Value.ownBlock] at a0
  .
   simp [Value.ownBlock] at hk a0
   subst hk;subst a0;rw [hg] at a1;injection a1 with h1;injection h1 with h2 h3 h4
   exact a2 h3
theorem jji {e:TypeId}{s:Nat}(h:W.ownsRow b e s v n xs){k:Nat}(hk:v.ownBlock=some k):∃ cs t fz,W.heap[k]?=some (.cells cs t fz):=by
 rcases h.2 with ⟨rfl,_⟩ | ⟨g,cap,cur,rfl,_,hg,_⟩
 . simp [Value.ownBlock] at hk
 .
  simp [Value.ownBlock] at hk
  subst hk;exact ⟨_,_,_,hg⟩
theorem ScanI.next {lv:Value}{w5 w6 w7:World}{pre:List (Nat × Value)}{x:Nat × Value}{k:Nat}{ov v':Value}{o:Obj}(h:ScanI e bl lv w w5 pre W)(hs:w.heap.size+4<=w5.heap.size)(hx:NextR w5.heap.size e bl pre x W)(hk:yN e bl pre.length=some (p,k))(b3:Below W.heap.size W w6)(a8:Box W (w.heap.size+1+1) #[ov] 174)(a3:W.ownsRow w5.heap.size 92 1 ov pre.length (pre.map (·.2)))(a4:w7.ownsRow w5.heap.size 92 1 v' (pre.length+1) (pre.map (·.2) ++ [x.2]))(hg:(w6.alloc o).grownBy w7 ov.ownBlock)(z:Int)(hz:z=((yQ e bl pre.length+k:Nat):Int)) :
  KeepsOthers W ((w7.setCell ⟨w.heap.size+1+1,0,none⟩ v').setCell ⟨w.heap.size+1+1+1,0,none⟩ z)/\Mod (fun b=>b<w.heap.size+4\/w5.heap.size<=b) W ((w7.setCell ⟨w.heap.size+1+1,0,none⟩ v').setCell ⟨w.heap.size+1+1+1,0,none⟩ z) /\
   ScanI e bl lv w w5 (pre ++ [x]) ((w7.setCell ⟨w.heap.size+1+1,0,none⟩ v').setCell ⟨w.heap.size+1+1+1,0,none⟩ z):=by
 obtain ⟨G,hG⟩:∃ G:Nat->Prop,G=fun b=>b=w.heap.size+1+1\/b=w.heap.size+1+1+1\/ov.ownBlock=some b:=⟨_,rfl⟩
 have b4:Below W.heap.size W (w6.alloc o):=jd b3 (ja w6 o);have a5:Mod (fun b=>ov.ownBlock=some b) W w7:=(Mod.of_below b4).trans (Mod.of_grown hg (fun k hk=>hk))
 have a9:Mod (fun b=>b=w.heap.size+1+1\/b=w.heap.size+1+1+1) w7 ((w7.setCell ⟨w.heap.size+1+1,0,none⟩ v').setCell ⟨w.heap.size+1+1+1,0,none⟩ z):=(Mod.set _ w7 ⟨w.heap.size+1+1,0,none⟩ v' (.inl rfl)).trans (Mod.set _ _ ⟨w.heap.size+1+1+1,0,none⟩ _ (.inr rfl))
 obtain ⟨w9,a2⟩:=Nm ((w7.setCell ⟨w.heap.size+1+1,0,none⟩ v').setCell ⟨w.heap.size+1+1+1,0,none⟩ z);have hm:Mod G W w9:=by rw [a2,hG];exact (a5.mono (fun i hi=>.inr (.inr hi))).trans (a9.mono (fun i hi=>by rcases hi with h | h;exact .inl h;exact .inr (.inl h)))
 rw [<- a2];have a0:=fun k hk=>(a3.lt k hk).1
 have b0:∀ b,G b->b<w.heap.size+4\/w5.heap.size<=b:=by
  rw [hG];rintro b (h | h | h)
  . left;omega
  . left;omega
  . exact .inr (a0 b h)
 have a6:∀ y∈pre ++ [x],∀ k,y.2.ownBlock=some k->¬ G k:=by
  have b1:∀ y∈pre ++ [x],∃ n xs,OwnM W w5.heap.size 5 y.2 n xs:=by
   intro y hy
   rcases qW.1 hy with hy | hy
   .
    obtain ⟨i,hi⟩:=List.getElem?_of_mem hy;obtain ⟨_,p,k,_,h3⟩:=h.found.row i y hi;exact ⟨_,_,h3⟩
   .
    obtain rfl:y=x:=by simpa using hy
    obtain ⟨_,⟨p,k,_,h3⟩,_⟩:=hx;exact ⟨_,_,h3⟩
  intro y hy k hk;obtain ⟨n,xs,h3⟩:=b1 y hy;have h4:=(h3.lt k hk).1;rw [hG];rintro (h | h | h)
  . omega
  . omega
  . exact jcJ a3 h3 (by decide) k h hk
 have b2:yQ e bl (pre ++ [x]).length=yQ e bl pre.length+k:=by rw [qd,qx,ze hk]
 refine ⟨⟨hm.size,fun k o hk ho=>(hm.block k (Array.getElem?_eq_some_iff.1 hk).1 ?_).trans hk⟩,hm.mono b0,?_⟩
 .
  rw [hG];have a1:∀ cs t fz,W.heap[k]?≠some (.cells cs t fz):=fun cs t fz h=>by
   rw [hk] at h;injection h with h;rw [h] at ho;simp [Obj.isCells] at ho
  rintro (h1 | h1 | h1)
  . subst h1;exact a1 _ _ _ a8
  . subst h1;exact a1 _ _ _ h.used
  .
   obtain ⟨cs,t,fz,h2⟩:=jji a3 h1;exact a1 _ _ _ h2
 .
  have b5:=fun k hk=>(a4.lt k hk).1
  have b6:Box w7 (w.heap.size+1+1) #[ov] 174:=a8.mod a5 (fun h=>by have:=a0 _ h;omega)
  have b7:Box w7 (w.heap.size+1+1+1) #[((yQ e bl pre.length:Nat):Int)] 3:=h.used.mod a5 (fun h=>by have:=a0 _ h;omega)
  have a7:=hm;rw [hG] at a7;refine ⟨(h.found.keep (fun y hy k hk hl=>hm.block k hl (a6 y (qW.2 (.inl hy)) k hk))).snoc ?_,⟨v',?_,?_⟩,?_,h.ep.mod a7 ?_,h.li.mod a7 ?_,h.below.trans (hm.below h.below.size ?_),h.mod.trans (hm.mono b0)⟩
  .
   obtain ⟨h1,⟨p,k,h2,h3⟩,h4⟩:=hx;exact ⟨h1,⟨p,k,h2,h3.mod hm (a6 x (qW.2 (.inr (qC.2 rfl))))⟩,h4⟩
  . rw [a2];exact (b6.set 0 v').set_other (by simp) _
  .
   rw [a2,qd,qx,qM];exact yG a4 a9 (fun k hk h=>by have:=b5 k hk;rcases h with h | h <;> omega)
  . rw [a2,b2,<- hz];exact (b7.set_other (by simp) v').set 0 _
  .
   rintro (h1 | h1 | h1)
   . omega
   . omega
   . have:=a0 _ h1;omega
  .
   rintro (h1 | h1 | h1)
   . omega
   . omega
   . have:=a0 _ h1;omega
  .
   rw [hG];rintro i (h1 | h1 | h1)
   . omega
   . omega
   . have:=a0 _ h1;omega
set_option maxRecDepth 100000 in
theorem jiP (e:UInt32)(lv:Value)(bl:List (List UInt8))(w:World)(hl:Rd w lv bl.length (bl.map SV))(hn:bl.length<=5000000000000)(c2:∀ b∈bl,b.length<=9223372036854775807) :
  Calls prog 126 #[.int .u32 (e.toNat:Int),lv] w fun r w'=>∃ (ov:Value) (pre:List (Nat × Value)),yN e bl pre.length=none/\r=.returned (.tuple #[ov,((yQ e bl pre.length:Nat):Int)]) /\
   Found e bl w.heap.size pre w'/\w'.ownsRow w.heap.size 92 1 ov pre.length (pre.map (·.2))/\Below w.heap.size w w':=by
 refine (callsIn_wide (n:=9)).1 ?_;refine callsIn_of_wp_marks func126 rfl trivial ?_ rfl;simp only [ntmps126,wF,qp,wN,Nat.reduceAdd,Nat.reduceSub,Array.replicate_succ,Array.replicate_zero,List.push_toArray,List.append_toArray,wt,po];obtain ⟨la,lc,rfl⟩:∃ a c,lv=.slice a bl.length c:=by obtain ⟨a,c,h,_⟩:=hl;exact ⟨a,c,h⟩
 have d5:=ja w (.cells #[.int .u32 (e.toNat:Int)] 87);have b2:=ja (w.alloc (.cells #[.int .u32 (e.toNat:Int)] 87)) (.cells #[.slice la bl.length lc] 81);have a0:=ja ((w.alloc (.cells #[.int .u32 (e.toNat:Int)] 87)).alloc (.cells #[.slice la bl.length lc] 81)) (.cells #[.slice none 0 0] 174);have b3:=ja (((w.alloc (.cells #[.int .u32 (e.toNat:Int)] 87)).alloc (.cells #[.slice la bl.length lc] 81)).alloc (.cells #[.slice none 0 0] 174)) (.cells #[(0:Int)] 3);have d6:=(((Box.new w #[.int .u32 (e.toNat:Int)] 87).below b2).below a0).below b3;have c3:=((Box.new (w.alloc (.cells #[.int .u32 (e.toNat:Int)] 87)) #[.slice la bl.length lc] 81).below a0).below b3;have c4:=(Box.new ((w.alloc (.cells #[.int .u32 (e.toNat:Int)] 87)).alloc (.cells #[.slice la bl.length lc] 81)) #[.slice none 0 0] 174).below b3;have c5:=Box.new (((w.alloc (.cells #[.int .u32 (e.toNat:Int)] 87)).alloc (.cells #[.slice la bl.length lc] 81)).alloc (.cells #[.slice none 0 0] 174)) #[(0:Int)] 3;have c6:=d5.trans ((b2.trans ((a0.trans (b3.mono (by simp))).mono (by simp))).mono (by simp))
 rw [qj] at c3;rw [qj,qj] at c4;rw [qj,qj,qj] at c5;have I:=Hd d6;have J:=Hd c3;have L:=Hd c4;have M:=Hd c5;have N:=Hd c6;have S:=Hd (hl.below c6);have HL:=Hd hl;clear hl d5 b2 a0 b3 d6 c3 c4 c5 c6
 gi_wp2_with (gi_at_call 163;fail)
 refine ⟨trivial,?_⟩;refine (callsIn_wide.2 (jjS e _ bl _ S.1 (by omega))).mono ?_
 rintro r w5 ⟨E,B,rfl,hA,a5⟩;have I:=Hd (I.1.below a5);have J:=Hd (J.1.below a5);have L:=Hd (L.1.below a5);have M:=Hd (M.1.below a5);have T:=Hd (N.1.trans (a5.mono N.1.size));have b4:=T.1.size;have hA:AllAt (w.heap.size+4) e bl E B w5:=by
  have e1:((((w.alloc (.cells #[.int .u32 (e.toNat:Int)] 87)).alloc (.cells #[.slice la bl.length lc] 81)).alloc (.cells #[.slice none 0 0] 174)).alloc (.cells #[(0:Int)] 3)).heap.size=w.heap.size+4:=by simp
  rw [e1] at hA;exact hA
 have e2:w.heap.size+4<=w5.heap.size:=by have:=a5.size;simp only [qj] at this;omega
 have HA:=Hd hA;clear a5 hA N S
 gi_wp2
 refine jbV rfl (by omega) (gf:=182) (lb:=#[.pointer (some ⟨E,0,none⟩),.pointer (some ⟨B,0,none⟩)]) rfl trivial (enters_of func182 (by kernel_rfl) rfl)
  (jm5 e bl c2 E B (w.heap.size+4) w5 HA.1 (9-1) (by omega)) (fun b hb=>.inr hb) (fun _=>rfl)
  (ScanI e bl (.slice la bl.length lc) w w5) (fun _ _ _=>False) (fun s=>ScanI.soft b4 s) (fun _ _=>jdk (fun _ _ h _ _=>h)) (fun s x=>NextR.soft _ s x)
  ⟨Found.nil _ _ _ _,⟨_,L.1,ws _ _ _ _⟩,M.1,I.1,J.1,T.1,Mod.refl _ _⟩
  (fun x=>{ tmps:=#[.int .u32 (e.toNat:Int),.slice la bl.length lc,.pointer (some ⟨w.heap.size,0,none⟩),.pointer (some ⟨w.heap.size+1,0,none⟩),.slice none 0 0,.int .i64 0,.pointer (some ⟨w.heap.size+1+1,0,none⟩),.pointer (some ⟨w.heap.size+1+1+1,0,none⟩),.int .i64 (x.1:Int),x.2,undef,undef,.int .u32 (e.toNat:Int),.slice la bl.length lc,.func (.func 182) #[] #[.pointer (some ⟨E,0,none⟩),.pointer (some ⟨B,0,none⟩)],.int .i64 (x.1:Int),x.2,undef,undef,undef,undef,undef,undef,undef,undef,undef,undef,undef,undef,undef,undef,undef,undef,undef],defers := [] })
  ?assign ?body ?done ?stop
 case assign =>
  intro l x W K hK
  gi_wp2
  exact hK
 case done =>
  rintro D pre W hS hI hD hK;obtain ⟨ov,a6,a7⟩:=hI.out;have f1:=a6.cell 0 _ rfl;have e4:=hI.used.cell 0 _ rfl;have G:=Hd hI;have H:=Hd a7;have HS:=Hd hS;clear hI a6 a7 hS
  gi_wp2
  refine wpIn_wide.2 ?_
  go_quiet (fail)
  gi_wp2
  have b6:Below W.heap.size W (W.drewN nq):=⟨rfl,rfl,rfl,qm _,fun _ _=>rfl⟩
  obtain ⟨W9,e5⟩:=Nm (W.drewN nq);rw [<- e5] at b6 |-;have c7:W9.heap[D]?=some (.deferred (some [])):=(b6.block D (Array.getElem?_eq_some_iff.1 hK).1).trans hK;refine ⟨by simp,.inl ⟨_,_,rfl,run_takeDeferred c7,?_⟩⟩
  have c8:=(ScanI.soft b4 pre).put (.deferred none) ((ScanI.soft b4 pre).below G.1 b6) hD c7 rfl;have d7:Soft w5.heap.size (fun W=>W.ownsRow w5.heap.size 92 1 ov pre.length (pre.map (·.2))):=jdk (fun A C h hc _=>jkJ h hc)
  have e3:=d7.put (.deferred none) (d7.below H.1 b6) hD c7 rfl;exact ⟨_,wj rfl _ _ _,ov,pre,HS.1,rfl,c8.found.lower b4,jdy e3 b4,c8.below⟩
 case stop =>
  rintro D c pre W _ h _ _;exact h.elim
 case body =>
  rintro l pre x W hI hT;obtain ⟨xa,xv⟩:=x;obtain ⟨a8,⟨p,k,hp,a9⟩,c9⟩:=hT;simp only at a8 a9 c9;obtain ⟨pa,pc,rfl,f2⟩:=a9.slice;obtain ⟨ov,a6,a7⟩:=hI.out;obtain ⟨oa,oc,rfl,_⟩:=jP a7;have d8:xa<=bl.length:=by rw [a8];exact jax _ _ _
  have d9:=HL.1.below hI.below;have e6:=jd8 (P:=prog) (t:=81) underlying81 (by kernel_rfl) la bl.length lc xa d8
  have b7:=xR d9 (k:=xa) d8 (by simp)
  rw [<- wW,<- qn] at b7;obtain ⟨tv,e0⟩:=Nm (xP la bl.length lc xa);rw [<- e0] at e6 b7;have d0:∀ w',Below W.heap.size W w'->Calls prog 164 #[.int .u32 (e.toNat:Int),tv] w' fun r w''=>∃ v,r=.returned (.tuple #[v,(k:Int)])/\Below W.heap.size W w'' /\
    w''.cell? ⟨w.heap.size+1+1,0,none⟩=some (.slice oa pre.length oc)/\w''.frozen? ⟨w.heap.size+1+1,0,none⟩=false/\(∃ y,w''.cell? ⟨w.heap.size+1+1+1,0,none⟩=some y)/\w''.frozen? ⟨w.heap.size+1+1+1,0,none⟩=false:=fun w' hb =>
   (je9 e tv (bl.drop xa) w' (b7.below hb) (fun b hb=>c2 b (wO hb))).mono (fun r w'' ⟨b2,h⟩=>by
    have a0:=jd hb b2
    rcases h with ⟨h,_⟩ | ⟨p',k',v,h,h1,h2⟩
    .
     rw [a8] at h;unfold yN at hp;rw [hp] at h;cases h
    .
     rw [a8] at h;unfold yN at hp;rw [hp] at h;injection h with h;injection h with h3 h4
     subst h3;subst h4;exact ⟨v,h1,a0,(a6.below a0).cell 0 _ rfl,(a6.below a0).free 0,⟨_,(hI.used.below a0).cell 0 _ rfl⟩,(hI.used.below a0).free 0⟩)
  have e4:=hI.ep.cell 0 _ rfl;have f3:=hI.li.cell 0 _ rfl;have G:=Hd hI;have O:=Hd d0;have U:=Hd a6;have H:=Hd a7;have R:=Hd a8;have V:=Hd hp;have X:=Hd a9;have Y:=Hd c9;have f4:1<=9-1-1:=by omega
  have f5:prog.follows .mixedOrders=true:=by kernel_rfl
  clear hI d0 a6 a7 a8 hp a9 c9 b7 d9 e0;obtain ⟨i0,hi,e7,e8,e9⟩:=wI jkk;have f0:=G.1.found.len;have Z:=Hd (show pre.length+1<=maxLen by unfold maxLen;omega)
  have H0:=Hd (show (pre.length+1)*24<=140737488355328 by omega)
  have H1:=Hd G.1.mod.size;have f6:xa+k<=bl.length:=by
   have:=jax e bl (pre.length+1);rw [ze V.1,<- R.1] at this;exact this
  have f7:wrap64 ((xa:Int)+(k:Int))=(xa:Int)+(k:Int):=by unfold wrap64;omega
  gi_wp2
  refine wpIn_mono (Q:=fun ex a' w6=>ex=Exit.normal/\∃ v,a'={ tmps:=#[.int .u32 (e.toNat:Int),.slice la bl.length lc,.pointer (some ⟨w.heap.size,0,none⟩),.pointer (some ⟨w.heap.size+1,0,none⟩),.slice none 0 0,.int .i64 0,.pointer (some ⟨w.heap.size+1+1,0,none⟩),.pointer (some ⟨w.heap.size+1+1+1,0,none⟩),.int .i64 (xa:Int),.slice pa p.length pc,v,.int .i64 (k:Int),.int .u32 (e.toNat:Int),.slice la bl.length lc,.func (.func 182) #[] #[.pointer (some ⟨E,0,none⟩),.pointer (some ⟨B,0,none⟩)],.int .i64 (xa:Int),.slice pa p.length pc,.tuple #[v,(k:Int)],.int .u32 (e.toNat:Int),.slice la bl.length lc,.int .i64 (xa:Int),tv,.tuple #[v,(k:Int)],v,.int .i64 (k:Int),undef,undef,undef,undef,undef,undef,undef,undef,undef],defers := [] }/\Below W.heap.size W w6 /\
    w6.cell? ⟨w.heap.size+1+1,0,none⟩=some (.slice oa pre.length oc)/\w6.frozen? ⟨w.heap.size+1+1,0,none⟩=false/\(∃ y,w6.cell? ⟨w.heap.size+1+1+1,0,none⟩=some y)/\w6.frozen? ⟨w.heap.size+1+1+1,0,none⟩=false) ?_ ?_
  .
   gi_region_with_o (first | (gi_at_call 164;refine (CallsIn.inRound l (callsIn_wide.2 (O.1 _ (jb _)))).mono ?_;rintro r w6 ⟨v,rfl,b5,b8,b9,⟨y,c0⟩,c1⟩) | (refine ⟨trivial,?_⟩;refine (CallsIn.inRound l (callsIn_wide.2 (O.1 _ (jb _)))).mono ?_;rintro r w6 ⟨v,rfl,b5,b8,b9,⟨y,c0⟩,c1⟩))
   all_goals exact ⟨rfl,v,rfl,b5,b8,b9,⟨y,c0⟩,c1⟩
  rintro ex a' w6 ⟨rfl,v,rfl,b5,b8,b9,⟨y,c0⟩,c1⟩;have F:=Hd b5;clear b5
  gi_wp2_with (gi_at_builtin;refine wpListIn_append_own _ rfl _ _ 174 rfl w5.heap.size 92 i0 (.slice none 0 0) 1 24 underlying174 hi e7 e8 e9 rfl (by decide) _ _ _ rfl ((jq H.1 F.1).alloc _) ⟨w6.heap.size,0,none⟩ 1 1 [.slice pa p.length pc] rfl rfl (pM _ _ _) (by simp [Value.oneCell']) Z.1 H0.1 (qi H1.1 (qi F.1.size (by simp))) ?_)
  intro v' w7 b0 b1 _;obtain ⟨ga,gc,rfl,_⟩:=jP b0;have d1:∀ k,(Value.slice oa pre.length oc).ownBlock=some k->w5.heap.size<=k:=fun k hk=>(H.1.lt k hk).1
  have d2:Mod (fun b=>(Value.slice oa pre.length oc).ownBlock=some b) W w7:=(Mod.of_below (jd F.1 (ja w6 _))).trans (Mod.of_grown b1 (fun k hk=>hk))
  have d3:=U.1.mod d2 (fun h=>by have:=d1 _ h;omega)
  have d4:=G.1.used.mod d2 (fun h=>by have:=d1 _ h;omega)
  have a1:=d3.cell 0 _ rfl;have a2:=d3.free 0;have a3:=d4.cell 0 _ rfl;have a4:=d4.free 0;have HN:=Hd (fun z hz=>G.1.next (x:=(xa,.slice pa p.length pc)) e2 ⟨R.1,⟨p,k,V.1,X.1⟩,Y.1⟩ V.1 F.1 U.1 H.1 b0 b1 z hz)
  clear d1 d2 d3 d4 b0 b1 b8 b9 c0 c1
  gi_wp2
  exact HN.1 _ (by rw [<- R.1];omega)
theorem ja9 (e:UInt32)(p:List UInt8):(jf e p).length<=4:=by
 have:∀ f q,(yl f q).length<=f:=by
  intro f
  induction f with
  | zero=>intro q;simp [yl]
  | succ f ih =>
   intro q;rw [yl];split
   . simp
   . have:=ih (q.drop 255);simp only [qp];omega
 unfold jf;rw [qp];have:=this 3 (p.drop 245);omega
theorem jaX (e:UInt32)(ps:List (List UInt8))(p:List UInt8):yM e (ps ++ [p])=yM e ps++jf e p:=by simp [yM]
def DiskM.back (d:DiskM):Nat->List (List UInt8)->DiskM × Int
 | _,[]=>(d,0)
 | a,b::r=>if (DiskM.back d (a+1) r).2≠0 then DiskM.back d (a+1) r else (DiskM.back d (a+1) r).1.write (a:Int) (SB b)
structure LogM where
 base:Nat
 n:Nat
 epoch:UInt32
 used:Nat
 records:Nat
 dead:Bool
def LogM.append (l:LogM)(d:DiskM)(p:List UInt8):LogM × DiskM × Int :=
 if l.dead=true then (l,d,22)
 else if 512<p.length then (l,d,3)
 else if l.n-l.used<(jf l.epoch p).length then (l,d,19)
 else if (d.back (l.base+l.used) (jf l.epoch p)).2≠0 then ({ l with dead:=true },(d.back (l.base+l.used) (jf l.epoch p)).1,22)
 else ({ l with used:=l.used+(jf l.epoch p).length,records:=l.records+1 },(d.back (l.base+l.used) (jf l.epoch p)).1,0)
theorem xH (d:DiskM)(a:Nat)(b:List UInt8)(r:List (List UInt8)):d.back a (b::r)=if (d.back (a+1) r).2≠0 then d.back (a+1) r else (d.back (a+1) r).1.write (a:Int) (SB b):=rfl
theorem vp (d:DiskM):∀ (bs:List (List UInt8)) (a:Nat),(d.back a bs).1.strs.length=d.strs.length/\(d.back a bs).1.trail.length<=d.trail.length+bs.length
 | [],a=>⟨rfl,qm _⟩
 | b::r,a=>by
  obtain ⟨h1,h2⟩:=vp d r (a+1);rw [xH]
  split
  . exact ⟨h1,by rw [qp];omega⟩
  .
   have h3:=(d.back (a+1) r).1.write_len (a:Int) (SB b);have h4:=(d.back (a+1) r).1.write_trail (a:Int) (SB b);exact ⟨by rw [h3,h1],by rw [qp];omega⟩
theorem jf7 (h:d.Wf):∀ (bs:List (List UInt8)) (a:Nat),(d.back a bs).1.Wf
 | [],_=>h
 | b::r,a=>by
  rw [xH]
  split
  . exact jf7 h r (a+1)
  . exact (jf7 h r (a+1)).write _ _
theorem jei (d:DiskM):∀ (bs:List (List UInt8)) (a:Nat),(∀ b∈bs,b.length<=256)->a+bs.length<=d.strs.length->(d.back a bs).2=0\/(d.back a bs).2=22
 | [],_,_,_=>.inl rfl
 | b::r,a,hb,ha=>by
  rw [qp] at ha;have ih:=jei d r (a+1) (fun x hx=>hb x (pz _ hx)) (by omega)
  rw [xH]
  split
  . exact ih
  .
   have h1:=(vp d r (a+1)).1;have h2:=hb b (pJ ..);unfold DiskM.write;rw [qh (by rw [h1];omega),qh (by rw [SB_size];omega)]
   split
   . exact .inr rfl
   . exact .inl rfl
theorem jkg (d:DiskM)(i:Nat)(s:ByteArray)(j:Nat):(d.write (i:Int) s).1.strs[j]?=if (d.write (i:Int) s).2=0/\j=i then some s else d.strs[j]?:=by
 unfold DiskM.write
 split
 . rw [qh (by simp)]
 split
 . rw [qh (by simp)]
 split
 . rw [qh (by simp)]
 .
  rename_i h1 _ _
  have h1:i<d.strs.length:=by omega
  by_cases hj:j=i
  . subst hj;simp [h1]
  .
   rw [qh (by simp [hj])]
   simp only [p9];rw [List.getElem?_set_ne (by omega)]
theorem jdO (d:DiskM):∀ (bs:List (List UInt8)) (a j:Nat),((d.back a bs).1.strs[j]?=d.strs[j]?/\((d.back a bs).2=0->j<a\/a+bs.length<=j))\/(a<=j/\j<a+bs.length/\(d.back a bs).1.strs[j]?=some (SB (bs.getD (j-a) []))/\((d.back a bs).2≠0->a<j))
 | [],a,j=>.inl ⟨rfl,fun _=>by simp only [wN];omega⟩
 | b::r,a,j=>by
  have ih:=jdO d r (a+1) j;rw [xH,qp];by_cases he:(d.back (a+1) r).2≠0
  .
   rw [qf he]
   rcases ih with ⟨h1,_⟩ | ⟨h1,h2,h3,h4⟩
   . exact .inl ⟨h1,fun h=>absurd h he⟩
   .
    refine .inr ⟨by omega,by omega,?_,fun _=>by omega⟩
    rw [h3,show j-a=j-(a+1)+1 by omega,wQ]
  .
   rw [qh he,jkg];have he:(d.back (a+1) r).2=0:=by simpa using he
   by_cases hw:((d.back (a+1) r).1.write (a:Int) (SB b)).2=0
   .
    by_cases hj:j=a
    .
     rw [qf ⟨hw,hj⟩];refine .inr ⟨by omega,by omega,?_,fun h=>absurd hw h⟩
     rw [hj,Nat.sub_self];rfl
    .
     rw [qh (by simp [hj])]
     rcases ih with ⟨h1,h2⟩ | ⟨h1,h2,h3,h4⟩
     . exact .inl ⟨h1,fun _=>by have:=h2 he;omega⟩
     .
      refine .inr ⟨by omega,by omega,?_,fun _=>by omega⟩
      rw [h3,show j-a=j-(a+1)+1 by omega,wQ]
   .
    rw [qh (by simp [hw])]
    rcases ih with ⟨h1,h2⟩ | ⟨h1,h2,h3,h4⟩
    . exact .inl ⟨h1,fun h=>absurd h hw⟩
    .
     refine .inr ⟨by omega,by omega,?_,fun _=>by omega⟩
     rw [h3,show j-a=j-(a+1)+1 by omega,wQ]
def NoB (e:UInt32)(s:ByteArray):Prop:=¬ s.data.toList.take 5=104::le e.toNat 4
theorem jmf {a b:UInt32}(h:le a.toNat 4=le b.toNat 4):a=b:=by
 have ha:=a.toNat_lt;have hb:=b.toNat_lt;have h2:∀ v:Nat,v<4294967296->((le v 4).getD 0 0).toNat+256*((le v 4).getD 1 0).toNat+65536*((le v 4).getD 2 0).toNat+16777216*((le v 4).getD 3 0).toNat=v:=fun v hv=>by
  simp only [le,kt,wQ,UInt8.toNat_ofNat'];omega
 have h3:=h2 a.toNat (by omega)
 rw [h,h2 b.toNat (by omega)] at h3
 exact ki.1 h3.symm
theorem uv:∀ (f:Nat) (q:List UInt8) (b:List UInt8),b∈yl f q->∃ r,b=99::r/\r.length<=255
 | 0,q,b,h=>by simp [yl] at h
 | f+1,q,b,h=>by
  rw [yl] at h
  split at h
  . simp at h
  .
   rcases qH.1 h with rfl | h
   . exact ⟨_,rfl,by rw [qr];omega⟩
   . exact uv f _ b h
theorem zZ {b:List UInt8}(h:b∈jf e p):b.length<=256:=by
 unfold jf at h
 rcases qH.1 h with rfl | h
 . rw [qd,xq,qr];omega
 .
  obtain ⟨r,rfl,hr⟩:=uv _ _ _ h;rw [qp];omega
theorem jjD {e':UInt32}(he:e≠e'){b:List UInt8}(h:b∈jf e p):NoB e' (SB b):=by
 unfold NoB;rw [jaF];unfold jf at h
 rcases qH.1 h with rfl | h
 .
  intro h2;rw [wU (by rw [xq];omega),xt,wU (by rw [vx];omega)] at h2
  have h3:(pre e p.length).take 5=104::le e.toNat 4:=by
   unfold pre;rw [pH,wU (by rw [jC];omega),ql (by rw [jC];omega)]
  rw [h3] at h2;injection h2 with _ h2
  exact he (jmf h2)
 .
  obtain ⟨r,rfl,_⟩:=uv _ _ _ h;intro h2;rw [pH] at h2;injection h2 with h2 _
  revert h2;decide
theorem jds {e':UInt32}{i:Nat}(hi:0<i)(hl:i<(jf e p).length):NoB e' (SB ((jf e p).getD i [])):=by
 unfold NoB;rw [jaF];obtain ⟨k,rfl⟩:∃ k,i=k+1:=⟨i-1,by omega⟩
 unfold jf at hl |-;rw [qp] at hl;rw [wQ];have hm:(yl 3 (p.drop 245)).getD k []∈yl 3 (p.drop 245):=by
  rw [List.getD,List.getElem?_eq_getElem (by omega)];exact qy (by omega)
 obtain ⟨r,h,_⟩:=uv _ _ _ hm;rw [h];intro h2;rw [pH] at h2;injection h2 with h2 _
 revert h2;decide
theorem jee {i:Nat}(hl:i<(jf e p).length):(jf e p).getD i []∈jf e p:=by
 rw [List.getD,List.getElem?_eq_getElem hl];exact qy hl
structure LogI (e:UInt32)(base n:Nat)(want:List (List UInt8))(l:LogM)(d:DiskM):Prop where
 same:l.base=base/\l.n=n/\l.epoch=e
 used:l.used=(yM e want).length
 le:l.used<=n
 recs:l.records=want.length
 short:∀ p∈want,p.length<=512
 len:base+n<=d.strs.length
 stand:∀ j,j<l.used->d.strs[base+j]?=some (SB ((yM e want).getD j []))
 no:∀ j,l.used<=j->j<n->∀ s,d.strs[base+j]?=some s->NoB e s
theorem vw (l:LogM)(d:DiskM)(p:List UInt8):(l.append d p).2.1.strs.length=d.strs.length/\(l.append d p).2.1.trail.length<=d.trail.length+4:=by
 unfold LogM.append
 split
 . exact ⟨rfl,wn _ _⟩
 split
 . exact ⟨rfl,wn _ _⟩
 split
 . exact ⟨rfl,wn _ _⟩
 have h1:=vp d (jf l.epoch p) (l.base+l.used);have h2:=ja9 l.epoch p
 split <;> exact ⟨h1.1,by have:=h1.2;simp only;omega⟩
theorem jcw (l:LogM)(d:DiskM)(p:List UInt8):(l.append d p).1.base=l.base/\(l.append d p).1.n=l.n/\(l.append d p).1.epoch=l.epoch/\l.used<=(l.append d p).1.used/\(l.used<=l.n->(l.append d p).1.used<=l.n)/\(l.append d p).1.records<=l.records+1:=by
 unfold LogM.append
 split
 . exact ⟨rfl,rfl,rfl,qm _,id,wE _⟩
 split
 . exact ⟨rfl,rfl,rfl,qm _,id,wE _⟩
 split
 . exact ⟨rfl,rfl,rfl,qm _,id,wE _⟩
 split
 . exact ⟨rfl,rfl,rfl,qm _,id,wE _⟩
 . exact ⟨rfl,rfl,rfl,wn _ _,fun h=>by simp only;omega,qm _⟩
theorem jcj (l:LogM)(h:d.Wf)(p:List UInt8):(l.append d p).2.1.Wf:=by
 unfold LogM.append
 split
 . exact h
 split
 . exact h
 split
 . exact h
 split <;> exact jf7 h _ _
theorem LogI.append {l:LogM}(h:LogI e base n want l d)(p:List UInt8) :
  ((l.append d p).2.2=0/\l.dead=false/\(l.append d p).1.dead=false/\p.length<=512/\(l.append d p).1.used=l.used+(jf e p).length/\LogI e base n (want ++ [p]) (l.append d p).1 (l.append d p).2.1) \/
  ((l.append d p).2.2=22/\(l.append d p).1.dead=true/\LogI e base n want (l.append d p).1 (l.append d p).2.1) \/
  ((l.append d p).2.2=3/\512<p.length/\l.dead=false/\(l.append d p).1=l/\(l.append d p).2.1=d)\/((l.append d p).2.2=19/\p.length<=512/\l.dead=false/\(l.append d p).1=l/\(l.append d p).2.1=d):=by
 unfold LogM.append
 split
 . rename_i hd;exact .inr (.inl ⟨rfl,hd,h⟩)
 rename_i hd
 have hd:l.dead=false:=by simpa using hd
 split
 . rename_i h2;exact .inr (.inr (.inl ⟨rfl,h2,hd,rfl,rfl⟩))
 rename_i h2
 split
 . exact .inr (.inr (.inr ⟨rfl,by omega,hd,rfl,rfl⟩))
 rename_i h3
 obtain ⟨e1,e2,e3⟩:=h.same;rw [e1,e3] at *;rw [e2,h.same.2.2] at h3;have hg:=jdO d (jf e p) (base+l.used);have hl:=vp d (jf e p) (base+l.used);have a1:=h.le;by_cases he:(d.back (base+l.used) (jf e p)).2≠0
 .
  rw [qf he];refine .inr (.inl ⟨rfl,rfl,⟨e1,e2,e3⟩,h.used,h.le,h.recs,h.short,by rw [hl.1];exact h.len,fun j hj=>?_,fun j hj a0 s hs=>?_⟩)
  .
   rcases hg (base+j) with ⟨h1,_⟩ | ⟨h1,_⟩
   . rw [h1];exact h.stand j hj
   . simp only at hj;omega
  .
   simp only at hj hs
   rcases hg (base+j) with ⟨h1,_⟩ | ⟨h1,h4,h5,h6⟩
   . exact h.no j hj a0 s (h1 ▸ hs)
   .
    have h7:=h6 he;rw [h5] at hs;injection hs with hs
    rw [<- hs];exact jds (by omega) (by omega)
 .
  have he:(d.back (base+l.used) (jf e p)).2=0:=by simpa using he
  rw [qh (by simp [he])]
  have hu:(yM e (want ++ [p])).length=l.used+(jf e p).length:=by rw [jaX,qd,h.used]
  refine .inl ⟨rfl,hd,hd,by omega,rfl,⟨e1,e2,e3⟩,hu.symm,by simp only;omega,by simp only;rw [h.recs,qd,qx],fun q hq=>?_,by rw [hl.1];exact h.len,fun j hj=>?_,fun j hj a0 s hs=>?_⟩
  .
   rcases qW.1 hq with hq | hq
   . exact h.short q hq
   . have:=qC.1 hq;subst this;omega
  .
   simp only at hj |-;rw [jaX]
   rcases hg (base+j) with ⟨h1,h4⟩ | ⟨h1,h4,h5,_⟩
   .
    have:=h4 he;rw [h1,h.stand j (by omega),List.getD,List.getD,List.getElem?_append_left (by have:=h.used;omega)]
   .
    rw [h5];have e4:base+j-(base+l.used)=j-l.used:=by omega
    rw [e4,List.getD,List.getD,List.getElem?_append_right (by have:=h.used;omega),h.used]
  .
   simp only at hj hs
   rcases hg (base+j) with ⟨h1,_⟩ | ⟨h1,h4,_⟩
   . exact h.no j (by omega) a0 s (h1 ▸ hs)
   . omega
theorem LogI.le2 {l:LogM}(h:LogI e base n want l d):l.used<=l.n:=by rw [h.same.2.1];exact h.le
theorem LogI.blocks {l:LogM}(h:LogI e base n want l d)(bl:List (List UInt8))(hl:bl.length=n)(hb:∀ j,j<n->d.strs[base+j]?=some (SB (bl.getD j []))) :
  ∃ t,bl=yM e want++t/\zH e t=none:=by
 have hu:=h.used;have a2:=h.le;refine ⟨bl.drop l.used,?_,?_⟩
 .
  refine kD (by rw [qd,qn];omega) (fun j h1 h2=>?_)
  by_cases hj:j<l.used
  .
   have e1:=h.stand j hj;rw [hb j (by omega)] at e1
   injection e1 with e1
   have e1:=jkS e1;rw [List.getElem_append_left (by omega)]
   simpa [List.getD,h1,show j<(yM e want).length by omega] using e1
  .
   rw [List.getElem_append_right (by omega),List.getElem_drop]
   congr 1;omega
 .
  cases hd:bl.drop l.used with
  | nil=>rfl
  | cons b r =>
   have a0:l.used<bl.length:=by
    rcases qX l.used bl.length with h1 | h1
    . exact h1
    . rw [qN h1] at hd;cases hd
   refine jiq e b r (fun hc=>?_)
   have a1:bl.getD l.used []=b:=by
    have:bl.drop l.used=bl[l.used]::bl.drop (l.used+1):=qL a0;rw [this] at hd;injection hd with hd _
    simp [List.getD,a0,hd]
   have:=h.no l.used (qm _) (by omega) _ (hb l.used (by omega))
   unfold NoB at this;rw [jaF,a1] at this;exact this hc
theorem jb1 (h:d.left=none):∀ (bs:List (List UInt8)) (a:Nat),(∀ b∈bs,b.length<=256)->a+bs.length<=d.strs.length->(d.back a bs).2=0/\(d.back a bs).1.left=none
 | [],_,_,_=>⟨rfl,h⟩
 | b::r,a,hb,ha=>by
  rw [qp] at ha;have ih:=jb1 h r (a+1) (fun x hx=>hb x (pz _ hx)) (by omega)
  rw [xH,qh (by rw [ih.1];simp)]
  have h1:=(vp d r (a+1)).1;have h2:=hb b (pJ ..);refine ⟨?_,DiskM.write_left ih.2 _ _⟩;unfold DiskM.write;rw [qh (by rw [h1];omega),qh (by rw [SB_size];omega),qh (by rw [ih.2];simp)]
theorem jhW (l:LogM)(h:d.left=none)(hl:l.base+l.n<=d.strs.length)(hu:l.used<=l.n)(p:List UInt8):(l.append d p).2.1.left=none:=by
 unfold LogM.append
 split
 . exact h
 split
 . exact h
 split
 . exact h
 have h1:=(jb1 h (jf l.epoch p) (l.base+l.used) (fun b hb=>zZ hb) (by omega)).2
 split <;> exact h1
theorem jjL {l:LogM}(h:d.left=none)(hd:l.dead=false)(hp:p.length<=512)(hl:l.base+l.n<=d.strs.length)(hu:l.used+(jf l.epoch p).length<=l.n):(l.append d p).2.2=0:=by
 unfold LogM.append;have h1:=(jb1 h (jf l.epoch p) (l.base+l.used) (fun b hb=>zZ hb) (by omega)).1
 rw [qh (by rw [hd];simp),qh (by omega),qh (by omega),qh (by rw [h1];simp)]
theorem jhc (e:UInt32)(p:List UInt8)(h:p.length<=512):(jf e p).length=if 245<p.length then 1+(p.length-245+254) / 255 else 1:=by
 have hr:∀ f (q:List UInt8),q.length<=255*f->(yl f q).length=(q.length+254) / 255:=by
  intro f
  induction f with
  | zero=>intro q hq;simp [yl];omega
  | succ f ih =>
   intro q hq;rw [yl];by_cases h0:q.length=0
   . rw [qf h0,h0];rfl
   . rw [qh h0,qp,ih _ (by rw [qn];omega),qn];omega
 unfold jf;rw [qp,hr 3 _ (by rw [qn];omega),qn]
 split <;> omega
theorem jlH (e:UInt32)(n:Nat)(j:Nat)(s:ByteArray)(h:(List.replicate n ByteArray.empty)[j]?=some s):NoB e s:=by
 rw [List.getElem?_replicate] at h
 split at h
 . injection h with h;rw [<- h];unfold NoB;simp
 . cases h
structure IsTI (w:World)(t r:Nat)(v:Value)(s:TkM):Prop where
 box:Box w t #[.pointer (some ⟨r,0,none⟩),jm s.er,.bool s.big] 238
 rd:IsR w r v s.l s.k
 ne:t≠r
 nv:v.ownBlock≠some t
 vl:∀ b,v.ownBlock=some b->b<w.heap.size
theorem IsTI.mod {t r:Nat}{s:TkM}{F:Nat->Prop}(h:IsTI w t r v s)(hm:Mod F w w')(h1:¬ F t)(h2:¬ F r)(h3:∀ b,v.ownBlock=some b->¬ F b):IsTI w' t r v s :=
 ⟨h.box.mod hm h1,h.rd.mod hm h2 h3,h.ne,h.nv,fun b hb=>qu (h.vl b hb) hm.size⟩
theorem IsTI.below {t r:Nat}{s:TkM}(h:IsTI w t r v s)(hb:Below w.heap.size w w'):IsTI w' t r v s:=h.mod (Mod.of_below (F:=fun _=>False) hb) (fun h=>h) (fun h=>h) (fun _ _ h=>h)
theorem vg (t r:Nat)(v:Value)(s:TkM)(w:World)(h:IsTI w t r v s) :
  Calls prog 124 #[.pointer (some ⟨t,0,none⟩)] w fun e w'=>e=.returned (.int .u64 (s.num.1:Int))/\IsTI w' t r v s.num.2/\Mod (fun i=>i=r\/i=t) w w':=by
 have HT:=qe h;have c0:=h.box.cell 0 _ rfl;have c1:w.cell? ⟨t,1,none⟩=some (jm s.er):=h.box.cell 1 _ rfl;by_cases he:s.er=0;rotate_left
 .
  have HS:=qe (show s.num=(0,s) by unfold TkM.num;rw [qh he])
  rw [yJ he] at c1;clear h;go_enter func124,ntmps124;go_wp2;go_ret;rw [HS.out];exact ⟨rfl,HT.out,Mod.refl _ _⟩
 .
  obtain ⟨N,hN⟩:=Nm (jX s.rest);have Hc:=qe (jaP r s.k v s.l w h.rd h.vl)
  change Hid (Calls _ _ _ _ fun e w'=>Mod (fun i=>i=r) w w'/\(((jX s.rest).1=0/\e=.returned (.tuple #[.int .u64 ((jX s.rest).2.1:Int),.nilIface])/\IsR w' r v s.l (s.k+(jX s.rest).2.2))\/((jX s.rest).1≠0/\e=.returned (.tuple #[.int .u64 0,.iface 91 (.int .i64 (jX s.rest).1)])/\IsR w' r v s.l s.k))) at Hc
  have HS:=qe (show s.num=(if N.1=0 then (N.2.1,⟨s.l,s.k+N.2.2,0,s.big⟩) else (0,⟨s.l,s.k,N.1,s.big⟩)) by unfold TkM.num;rw [qf he,hN])
  rw [<- hN] at Hc;rw [show jm s.er=.nilIface by unfold jm;rw [qf he]] at c1
  clear h hN;go_enter func124,ntmps124;go_wp2_with fail;refine Hc.out.mono ?_;rintro e w1 ⟨hm,⟨hn,rfl,hi⟩ | ⟨hn,rfl,hi⟩⟩
  .
   have a0:=HT.out.box.mod hm HT.out.ne;have HS':=qe (show s.num=(N.2.1,⟨s.l,s.k+N.2.2,0,s.big⟩) by rw [HS.out,qf hn])
   have d1:=a0.cell 1 _ rfl;have f1:=a0.free 1;have a1:=Mod.set (fun i=>i=t) w1 ⟨t,1,none⟩ .nilIface rfl
   have HR:=qe (show IsTI (w1.setCell ⟨t,1,none⟩ .nilIface) t r v ⟨s.l,s.k+N.2.2,0,s.big⟩ from ⟨a0.set 1 .nilIface,hi.mod a1 (fun e=>HT.out.ne e.symm) (fun b hb e=>HT.out.nv (by rw [hb,e])),HT.out.ne,HT.out.nv,fun b hb=>by have:=HT.out.vl b hb;have:=hm.size;simp;omega⟩)
   have HM:=qe ((hm.mono (fun i hi=>Or.inl hi:∀ i,i=r->i=r\/i=t)).trans (a1.mono (fun i hi=>Or.inr hi:∀ i,i=t->i=r\/i=t)))
   clear hm hn hi a0 a1 HS c0 c1 he;go_wp2;go_ret;rw [HS'.out];exact ⟨rfl,HR.out,HM.out⟩
  .
   have a0:=HT.out.box.mod hm HT.out.ne;have HS':=qe (show s.num=(0,⟨s.l,s.k,N.1,s.big⟩) by rw [HS.out,qh hn])
   have d1:=a0.cell 1 _ rfl;have f1:=a0.free 1;have a1:=Mod.set (fun i=>i=t) w1 ⟨t,1,none⟩ (.iface 91 N.1) rfl
   have HR:=qe (show IsTI (w1.setCell ⟨t,1,none⟩ (.iface 91 N.1)) t r v ⟨s.l,s.k,N.1,s.big⟩ from ⟨by rw [yJ hn];exact a0.set 1 _,hi.mod a1 (fun e=>HT.out.ne e.symm) (fun b hb e=>HT.out.nv (by rw [hb,e])),HT.out.ne,HT.out.nv,fun b hb=>by have:=HT.out.vl b hb;have:=hm.size;simp;omega⟩)
   have HM:=qe ((hm.mono (fun i hi=>Or.inl hi:∀ i,i=r->i=r\/i=t)).trans (a1.mono (fun i hi=>Or.inr hi:∀ i,i=t->i=r\/i=t)))
   clear hm hn hi a0 a1 HS c0 c1 he;go_wp2;go_ret;rw [HS'.out];exact ⟨rfl,HR.out,HM.out⟩
theorem jbP (t r:Nat)(v:Value)(s:TkM)(w:World)(h:IsTI w t r v s) :
  Calls prog 123 #[.pointer (some ⟨t,0,none⟩)] w fun e w'=>e=.returned (.string (SB s.txt.1))/\IsTI w' t r v s.txt.2/\Mod (fun i=>i=r\/i=t) w w':=by
 have HT:=qe h;have c0:=h.box.cell 0 _ rfl;have c1:w.cell? ⟨t,1,none⟩=some (jm s.er):=h.box.cell 1 _ rfl;by_cases he:s.er=0;rotate_left
 .
  have HS:=qe (show s.txt=([],s) by unfold TkM.txt;rw [qh he])
  rw [yJ he] at c1;clear h;go_enter func123,ntmps123;go_wp2;go_ret;rw [HS.out];exact ⟨rfl,HT.out,Mod.refl _ _⟩
 .
  obtain ⟨N,hN⟩:=Nm (jL s.rest);have Hc:=qe (jcO r s.k v s.l w h.rd h.vl)
  change Hid (Calls _ _ _ _ fun e w'=>Mod (fun i=>i=r) w w'/\(((jL s.rest).1=0/\e=.returned (.tuple #[.string (SB (jL s.rest).2.1),.nilIface])/\IsR w' r v s.l (s.k+(jL s.rest).2.2))\/((jL s.rest).1≠0/\e=.returned (.tuple #[.string ⟨#[]⟩,.iface 91 (.int .i64 (jL s.rest).1)])/\IsR w' r v s.l s.k))) at Hc
  have HS:=qe (show s.txt=(if N.1=0 then (N.2.1,⟨s.l,s.k+N.2.2,0,s.big⟩) else ([],⟨s.l,s.k,N.1,s.big⟩)) by unfold TkM.txt;rw [qf he,hN])
  rw [<- hN] at Hc;rw [show jm s.er=.nilIface by unfold jm;rw [qf he]] at c1
  clear h hN;go_enter func123,ntmps123;go_wp2_with fail;refine Hc.out.mono ?_;rintro e w1 ⟨hm,⟨hn,rfl,hi⟩ | ⟨hn,rfl,hi⟩⟩
  .
   have a0:=HT.out.box.mod hm HT.out.ne;have HS':=qe (show s.txt=(N.2.1,⟨s.l,s.k+N.2.2,0,s.big⟩) by rw [HS.out,qf hn])
   have d1:=a0.cell 1 _ rfl;have f1:=a0.free 1;have a1:=Mod.set (fun i=>i=t) w1 ⟨t,1,none⟩ .nilIface rfl
   have HR:=qe (show IsTI (w1.setCell ⟨t,1,none⟩ .nilIface) t r v ⟨s.l,s.k+N.2.2,0,s.big⟩ from ⟨a0.set 1 .nilIface,hi.mod a1 (fun e=>HT.out.ne e.symm) (fun b hb e=>HT.out.nv (by rw [hb,e])),HT.out.ne,HT.out.nv,fun b hb=>by have:=HT.out.vl b hb;have:=hm.size;simp;omega⟩)
   have HM:=qe ((hm.mono (fun i hi=>Or.inl hi:∀ i,i=r->i=r\/i=t)).trans (a1.mono (fun i hi=>Or.inr hi:∀ i,i=t->i=r\/i=t)))
   clear hm hn hi a0 a1 HS c0 c1 he;go_wp2;go_ret;rw [HS'.out];exact ⟨rfl,HR.out,HM.out⟩
  .
   have a0:=HT.out.box.mod hm HT.out.ne;have HS':=qe (show s.txt=([],⟨s.l,s.k,N.1,s.big⟩) by rw [HS.out,qh hn])
   have d1:=a0.cell 1 _ rfl;have f1:=a0.free 1;have a1:=Mod.set (fun i=>i=t) w1 ⟨t,1,none⟩ (.iface 91 N.1) rfl
   have HR:=qe (show IsTI (w1.setCell ⟨t,1,none⟩ (.iface 91 N.1)) t r v ⟨s.l,s.k,N.1,s.big⟩ from ⟨by rw [yJ hn];exact a0.set 1 _,hi.mod a1 (fun e=>HT.out.ne e.symm) (fun b hb e=>HT.out.nv (by rw [hb,e])),HT.out.ne,HT.out.nv,fun b hb=>by have:=HT.out.vl b hb;have:=hm.size;simp;omega⟩)
   have HM:=qe ((hm.mono (fun i hi=>Or.inl hi:∀ i,i=r->i=r\/i=t)).trans (a1.mono (fun i hi=>Or.inr hi:∀ i,i=t->i=r\/i=t)))
   clear hm hn hi a0 a1 HS c0 c1 he;go_wp2;go_ret;rw [HS'.out];exact ⟨rfl,HR.out,HM.out⟩
theorem un (t r eb sb:Nat)(v:Value)(s:TkM)(offs:List Nat)(cs:Array Value)(T Ts:TypeId)(w:World)(h:IsTI w t r v s)(hb:Box w eb cs T)(hs:Box w sb (offs.map (fun o=>Value.pointer (some ⟨eb,o,none⟩))).toArray Ts)(ho:∀ o∈offs,o<cs.size)(h1:eb≠t)(h2:eb≠r)(h3:sb≠t)(h4:sb≠r)(h5:sb≠eb)(h6:v.ownBlock≠some eb)(hn:offs.length<=100) :
  Calls prog 122 #[.pointer (some ⟨t,0,none⟩),.slice (some ⟨sb,0,none⟩) offs.length offs.length] w fun e w'=>e=.returned (.tuple #[])/\IsTI w' t r v (xG s cs offs).1/\Box w' eb (xG s cs offs).2 T/\Mod (fun i=>i=r\/i=t\/i=eb) w w':=by
 go_enter func122,ntmps122;go_wp2
 go_loopg [9] offs.length (fun gk iv wr=>∃ j:Nat,gk+j=offs.length/\iv=.int .i64 (j:Int)/\IsTI wr t r v (xG s cs (offs.take j)).1/\Box wr eb (xG s cs (offs.take j)).2 T/\Mod (fun i=>i=r\/i=t\/i=eb) w wr)
 case atStart=>exact ⟨0,rfl,rfl,h,hb,Mod.refl _ _⟩
 case round =>
  obtain ⟨j,b0,rfl,hT,hB,hM⟩:=hrel;by_cases hj:j<offs.length
  .
   obtain ⟨o,a8⟩:=Nm (offs[j]);have b3:o<cs.size:=ho o (by rw [a8];exact qy _)
   have b2:offs.take (j+1)=offs.take j ++ [o]:=by rw [qk hj,a8]
   have b1:=jex s cs (offs.take j);have H:=Hd (jez s cs (offs.take j) o);rw [<- b2] at H;generalize xG s cs (offs.take j)=p at hT hB H b1;obtain ⟨s1,cs1⟩:=p;simp only at hT hB H b1;have c0:wr.cell? ⟨sb,j,none⟩=some (.pointer (some ⟨eb,o,none⟩)):=(hs.mod hM (by rintro (e | e | e) <;> contradiction)).cell j _ (by simp [hj,a8])
   have J:=Hd (vg t r v s1 wr hT);have a9:=s1.num_lt;have A:=Hd (show s1.int=(yC s1.num.1,⟨s1.num.2.l,s1.num.2.k,s1.num.2.er,s1.num.2.big || !(decide (s1.num.1<=9223372036854775807))⟩) from rfl)
   generalize s1.num=q at J a9 A;obtain ⟨x,s2⟩:=q;simp only at J a9 A;have zx:=ja6 x a9;have K:=Hd hB;have I:=Hd hM;have F:=Hd b0;have G:=Hd hj;have k0:(0:Int)<=(j:Int):=by omega
   have k1:(j:Int)<(offs.length:Int):=by omega
   have L:=Hd (show o<cs1.size by omega)
   clear hT hB hM b0 hj a9 b1 b2 a8 b3;go_wp2_with fail;refine J.1.mono ?_;rintro e w1 ⟨rfl,a0,a6⟩;have a7:=K.1.mod a6 (by rintro (e | e) <;> contradiction)
   have d2:=a0.box.cell 2 _ rfl;have f2:=a0.box.free 2
   cases hbg:s2.big
   rotate_left
   .
    rw [hbg] at d2;have a4:=a0.box.set 2 (.bool true);have a2:=Mod.set (fun i=>i=t) w1 ⟨t,2,none⟩ (.bool true) rfl
    have a3:=a7.mod a2 h1;have e0:=a3.cell o _ (Array.getElem?_eq_getElem L.1);have f0:=a3.free o;have a1:=Mod.set (fun i=>i=eb) (w1.setCell ⟨t,2,none⟩ (.bool true)) ⟨eb,o,none⟩ (yC x) rfl
    have B:=Hd (a3.set o (yC x));have a5:IsTI ((w1.setCell ⟨t,2,none⟩ (.bool true)).setCell ⟨eb,o,none⟩ (yC x)) t r v ⟨s2.l,s2.k,s2.er,true⟩ :=
     ⟨a4.mod a1 (fun e=>h1 e.symm),(a0.rd.mod a2 (fun e=>a0.ne e.symm) (fun b hb e=>a0.nv (by rw [hb,e]))).mod a1 (fun e=>h2 e.symm) (fun b hb e=>h6 (by rw [hb,e])),a0.ne,a0.nv,fun b hb=>by have:=a0.vl b hb;simp;omega⟩
    have C:=Hd a5;have D:=Hd (((I.1.trans (a6.mono (fun i hi=>hi.elim (fun e=>Or.inl e) (fun e=>Or.inr (Or.inl e))))).trans (a2.mono (fun i hi=>.inr (.inl hi)))).trans (a1.mono (fun i hi=>.inr (.inr hi))))
    have E:=Hd (show xG s cs (offs.take (j+1))=(⟨s2.l,s2.k,s2.er,true⟩,cs1.setIfInBounds o (yC x)) by rw [H.1,A.1];simp only [hbg,Bool.true_or])
    clear a4 a2 a3 a1 a5 a0 a7 a6 H A hbg;go_wp2
    go_roundg (offs.length-(j+1))
    case measure=>have:=F.1;have:=G.1;omega
    case rel=>exact ⟨j+1,by have:=F.1;have:=G.1;omega,by go_num,by rw [E.1];exact C.1,by rw [E.1];exact B.1,D.1⟩
   .
    rw [hbg] at d2;by_cases hx:(9223372036854775807:Int)<(x:Int)
    .
     have hd:decide (x<=9223372036854775807)=false:=qv (by omega)
     have a4:=a0.box.set 2 (.bool true);have a2:=Mod.set (fun i=>i=t) w1 ⟨t,2,none⟩ (.bool true) rfl
     have a3:=a7.mod a2 h1;have e0:=a3.cell o _ (Array.getElem?_eq_getElem L.1);have f0:=a3.free o;have a1:=Mod.set (fun i=>i=eb) (w1.setCell ⟨t,2,none⟩ (.bool true)) ⟨eb,o,none⟩ (yC x) rfl
     have B:=Hd (a3.set o (yC x));have a5:IsTI ((w1.setCell ⟨t,2,none⟩ (.bool true)).setCell ⟨eb,o,none⟩ (yC x)) t r v ⟨s2.l,s2.k,s2.er,true⟩ :=
      ⟨a4.mod a1 (fun e=>h1 e.symm),(a0.rd.mod a2 (fun e=>a0.ne e.symm) (fun b hb e=>a0.nv (by rw [hb,e]))).mod a1 (fun e=>h2 e.symm) (fun b hb e=>h6 (by rw [hb,e])),a0.ne,a0.nv,fun b hb=>by have:=a0.vl b hb;simp;omega⟩
     have C:=Hd a5;have D:=Hd (((I.1.trans (a6.mono (fun i hi=>hi.elim (fun e=>Or.inl e) (fun e=>Or.inr (Or.inl e))))).trans (a2.mono (fun i hi=>.inr (.inl hi)))).trans (a1.mono (fun i hi=>.inr (.inr hi))))
     have E:=Hd (show xG s cs (offs.take (j+1))=(⟨s2.l,s2.k,s2.er,true⟩,cs1.setIfInBounds o (yC x)) by rw [H.1,A.1];simp only [hbg,hd,pZ,Bool.not_false])
     clear a4 a2 a3 a1 a5 a0 a7 a6 H A hbg hd;go_wp2
     go_roundg (offs.length-(j+1))
     case measure=>have:=F.1;have:=G.1;omega
     case rel=>exact ⟨j+1,by have:=F.1;have:=G.1;omega,by go_num,by rw [E.1];exact C.1,by rw [E.1];exact B.1,D.1⟩
    .
     have hd:decide (x<=9223372036854775807)=true:=qz (by omega)
     have b4:decide ((9223372036854775807:Int)<(x:Int))=false:=qv hx;clear hx;have a4:=a0.box.set 2 (.bool false);have a2:=Mod.set (fun i=>i=t) w1 ⟨t,2,none⟩ (.bool false) rfl
     have a3:=a7.mod a2 h1;have e0:=a3.cell o _ (Array.getElem?_eq_getElem L.1);have f0:=a3.free o;have a1:=Mod.set (fun i=>i=eb) (w1.setCell ⟨t,2,none⟩ (.bool false)) ⟨eb,o,none⟩ (yC x) rfl
     have B:=Hd (a3.set o (yC x));have a5:IsTI ((w1.setCell ⟨t,2,none⟩ (.bool false)).setCell ⟨eb,o,none⟩ (yC x)) t r v ⟨s2.l,s2.k,s2.er,false⟩ :=
      ⟨a4.mod a1 (fun e=>h1 e.symm),(a0.rd.mod a2 (fun e=>a0.ne e.symm) (fun b hb e=>a0.nv (by rw [hb,e]))).mod a1 (fun e=>h2 e.symm) (fun b hb e=>h6 (by rw [hb,e])),a0.ne,a0.nv,fun b hb=>by have:=a0.vl b hb;simp;omega⟩
     have C:=Hd a5;have D:=Hd (((I.1.trans (a6.mono (fun i hi=>hi.elim (fun e=>Or.inl e) (fun e=>Or.inr (Or.inl e))))).trans (a2.mono (fun i hi=>.inr (.inl hi)))).trans (a1.mono (fun i hi=>.inr (.inr hi))))
     have E:=Hd (show xG s cs (offs.take (j+1))=(⟨s2.l,s2.k,s2.er,false⟩,cs1.setIfInBounds o (yC x)) by rw [H.1,A.1];simp only [hbg,hd,pZ,Bool.not_true])
     clear a4 a2 a3 a1 a5 a0 a7 a6 H A hbg hd;go_wp2
     go_roundg (offs.length-(j+1))
     case measure=>have:=F.1;have:=G.1;omega
     case rel=>exact ⟨j+1,by have:=F.1;have:=G.1;omega,by go_num,by rw [E.1];exact C.1,by rw [E.1];exact B.1,D.1⟩
  .
   have ht:offs.take j=offs:=ql (by omega)
   rw [ht] at hT hB;have k1:¬ (j:Int)<(offs.length:Int):=by omega
   have M:=Hd hT;have K:=Hd hB;have I:=Hd hM;clear hT hB hM b0 ht hj;go_wp2;refine pE (wZ rfl _ _ _) rfl ?_;exact ⟨rfl,M.1,K.1,I.1⟩
end Go.Proofs.YtgcnolapjppbpaaGreatDoor
