/-
  Texts of one proof, one behind the other.
-/
import Derived.Test.YtgcnolapjppbpaaGreatDoorP07
import Derived.Maps.AppendAt
import Derived.Test.YtgcnolapjppbpaaGreatDoorP00
namespace Go.Proofs.YtgcnolapjppbpaaGreatDoor
open Go.RowKit _root_.Go.Proofs.Tryz
set_option maxRecDepth 100000
set_option maxHeartbeats 25600000
open Go.RowKit Go.Shelf
attribute [local go_sem] Oper.semAt_some
def vu (A C:World):Prop:=∀ (k:Nat) (cs:Array Value) (t:TypeId) (fz:Nat × Nat),A.heap[k]?=some (.cells cs t fz)→C.heap[k]?=some (.cells cs t fz)
theorem jcq {B:Nat}{I:World→Prop}(h:∀ A C,I A→vu A C→Mod (fun b=>B≤b) A C→I C):Soft B I where
 below:=fun {A C} hi hb=>h A C hi (fun k cs t fz hk=>(hb.block k (Array.getElem?_eq_some_iff.1 hk).1).trans hk) (Mod.of_below hb)
 put:=fun {A l o} o' hi hl hk ho=>h A _ hi (fun k cs t fz a0=>by
  by_cases e:k=l
  ·
   subst e;rw [hk] at a0;injection a0 with a0
   rw [a0] at ho
   simp [Obj.isCells] at ho
  · exact (World.putObj_heap_other e).trans a0) (jfi (by exact hl) o')
theorem Box.ck {w w':World}{b:Nat}{cs:Array Value}{t:TypeId}(h:Box w b cs t)(hc:vu w w'):Box w' b cs t:=hc _ _ _ _ h
theorem jiN {w w':World}{base:Nat}{e:TypeId}{size n:Nat}{v:Value}{xs:List Value}(h:w.ownsRow base e size v n xs)(hc:vu w w'):w'.ownsRow base e size v n xs:=by
 refine ⟨h.1,?_⟩
 rcases h.2 with hn | ⟨g,cap,cur,hv,hb,hg,rest⟩
 · exact .inl hn
 · exact .inr ⟨g,cap,cur,hv,hb,hc _ _ _ _ hg,rest⟩
theorem OwnM.ck {w w':World}{base:Nat}{e:TypeId}{v:Value}{n:Nat}{xs:List Value}(h:OwnM w base e v n xs)(hc:vu w w'):OwnM w' base e v n xs:=by
 refine ⟨h.1,?_⟩
 rcases h.2 with hn | ⟨g,cap,cur,fz,hv,hb,hg,rest⟩
 · exact .inl hn
 · exact .inr ⟨g,cap,cur,fz,hv,hb,hc _ _ _ _ hg,rest⟩
theorem jiT:(prog.info? 92).map (fun i=>(i.zero,i.size,i.bytes))=some (some (.slice none 0 0),1,24):=by kernel_rfl
structure Found (e:UInt32)(bl:List (List UInt8))(B:Nat)(pre:List (Nat × Value))(W:World):Prop where
 row:∀ i x,pre[i]?=some x→x.1=yV e bl i∧∃ p k,yU e bl i=some (p,k)∧OwnM W B 5 x.2 p.length (p.map V8)
 apart:∀ (i j:Nat) (x y:Nat × Value),i<j→pre[i]?=some x→pre[j]?=some y→Apart x.2 y.2
theorem Found.nil (e:UInt32)(bl:List (List UInt8))(B:Nat)(W:World):Found e bl B [] W:=⟨fun i x h=>by simp at h,fun i j x y _ h=>by simp at h⟩
theorem Found.ck {e:UInt32}{bl:List (List UInt8)}{B:Nat}{pre:List (Nat × Value)}{W W':World}(h:Found e bl B pre W)(hc:vu W W'):Found e bl B pre W' :=
 ⟨fun i x hx=>by obtain ⟨h1,p,k,h2,h3⟩:=h.row i x hx;exact ⟨h1,p,k,h2,h3.ck hc⟩,h.apart⟩
theorem Found.keep {e:UInt32}{bl:List (List UInt8)}{B:Nat}{pre:List (Nat × Value)}{W W':World}(h:Found e bl B pre W)(hk:∀ x∈pre,∀ k,x.2.ownBlock=some k→k<W.heap.size→W'.heap[k]?=W.heap[k]?):Found e bl B pre W' :=
 ⟨fun i x hx=>by obtain ⟨h1,p,k,h2,h3⟩:=h.row i x hx;exact ⟨h1,p,k,h2,h3.keep (hk x (List.mem_of_getElem? hx))⟩,h.apart⟩
theorem Found.snoc {e:UInt32}{bl:List (List UInt8)}{B:Nat}{pre:List (Nat × Value)}{x:Nat × Value}{W:World}(h:Found e bl B pre W)(hx:NextR B e bl pre x W):Found e bl B (pre ++ [x]) W:=by
 obtain ⟨h1,h2,h3⟩:=hx;refine ⟨fun i y hy=>?_,fun i j y z a0 hy hz=>?_⟩
 ·
  rcases Nat.lt_or_ge i pre.length with hi | hi
  ·
   rw [List.getElem?_append_left hi] at hy;exact h.row i y hy
  ·
   rw [List.getElem?_append_right hi] at hy;have a1:i-pre.length=0:=by
    rcases Nat.eq_zero_or_pos (i-pre.length) with h0 | h0
    · exact h0
    · rw [List.getElem?_eq_none (by simp;omega)] at hy;cases hy
   rw [a1] at hy;obtain rfl:x=y:=by simpa using hy
   rw [show i=pre.length by omega]
   exact ⟨h1,h2⟩
 ·
  have a2:j<(pre ++ [x]).length:=(List.getElem?_eq_some_iff.1 hz).1;rw [List.length_append,List.length_singleton] at a2;rw [List.getElem?_append_left (by omega)] at hy
  rcases Nat.lt_or_ge j pre.length with hj | hj
  ·
   rw [List.getElem?_append_left hj] at hz;exact h.apart i j y z a0 hy hz
  ·
   rw [List.getElem?_append_right hj,show j-pre.length=0 by omega] at hz
   obtain rfl:x=z:=by simpa using hz
   exact h3 y (List.mem_of_getElem? hy)
theorem Found.len {e:UInt32}{bl:List (List UInt8)}{B:Nat}{pre:List (Nat × Value)}{W:World}(h:Found e bl B pre W):pre.length≤bl.length:=by
 have:∀ n,n≤pre.length→n≤yV e bl n:=by
  intro n
  induction n with
  | zero=>intro _;exact Nat.zero_le _
  | succ n ih =>
   intro hn;obtain ⟨_,p,k,h2,_⟩:=h.row n pre[n] (List.getElem?_eq_getElem (by omega))
   rw [zj h2];have:=(vr h2).1;have:=ih (by omega)
   omega
 exact Nat.le_trans (this _ (Nat.le_refl _)) (uL _ _ _)
theorem Found.lower {e:UInt32}{bl:List (List UInt8)}{B B':Nat}{pre:List (Nat × Value)}{W:World}(h:Found e bl B pre W)(hb:B'≤B):Found e bl B' pre W :=
 ⟨fun i x hx=>by obtain ⟨h1,p,k,h2,h3⟩:=h.row i x hx;exact ⟨h1,p,k,h2,h3.lower hb⟩,h.apart⟩
structure ScanI (e:UInt32)(bl:List (List UInt8))(lv:Value)(w w5:World)(pre:List (Nat × Value))(W:World):Prop where
 found:Found e bl w5.heap.size pre W
 out:∃ ov,Box W (w.heap.size+1+1) #[ov] 174∧W.ownsRow w5.heap.size 92 1 ov pre.length (pre.map (·.2))
 used:Box W (w.heap.size+1+1+1) #[.int .i64 ((yV e bl pre.length:Nat):Int)] 3
 ep:Box W w.heap.size #[.int .u32 (e.toNat:Int)] 87
 li:Box W (w.heap.size+1) #[lv] 81
 below:Below w.heap.size w W
 mod:Mod (fun b=>b<w.heap.size+4∨w5.heap.size≤b) w5 W
theorem ScanI.soft {e:UInt32}{bl:List (List UInt8)}{lv:Value}{w w5:World}(hs:w.heap.size≤w5.heap.size)(pre:List (Nat × Value)):Soft w5.heap.size (ScanI e bl lv w w5 pre):=jcq (fun A C h hc hm=>by
 obtain ⟨ov,h1,h2⟩:=h.out;refine ⟨h.found.ck hc,⟨ov,h1.ck hc,jiN h2 hc⟩,h.used.ck hc,h.ep.ck hc,h.li.ck hc,h.below.trans (hm.below h.below.size (fun i hi=>Nat.le_trans hs hi)),h.mod.trans (hm.mono (fun i hi=>.inr hi))⟩)
theorem NextR.soft {e:UInt32}{bl:List (List UInt8)}{n:Nat}(B:Nat)(pre:List (Nat × Value))(x:Nat × Value):Soft n (NextR B e bl pre x):=jcq (fun A C h hc _=>by
 obtain ⟨h1,⟨p,k,h2,h3⟩,h4⟩:=h;exact ⟨h1,⟨p,k,h2,h3.ck hc⟩,h4⟩)
theorem jbV {W:World}{b b':Nat}{e e':TypeId}{s n n':Nat}{v v':Value}{xs xs':List Value}(h:W.ownsRow b e s v n xs)(h':OwnM W b' e' v' n' xs')(a2:e≠e'):Apart v v':=by
 intro k hk a0
 rcases h.2 with ⟨rfl,_⟩ | ⟨g,cap,cur,rfl,_,hg,_⟩
 · simp [Value.ownBlock] at hk
 ·
  rcases h'.2 with ⟨rfl,_⟩ | ⟨g',cap',cur',fz,rfl,_,a1,_⟩
  · simp [Value.ownBlock] at a0
  ·
   simp [Value.ownBlock] at hk a0
   subst hk;subst a0;rw [hg] at a1;injection a1 with h1;injection h1 with h2 h3 h4
   exact a2 h3
theorem jhL {W:World}{b:Nat}{e:TypeId}{s n:Nat}{v:Value}{xs:List Value}(h:W.ownsRow b e s v n xs){k:Nat}(hk:v.ownBlock=some k):∃ cs t fz,W.heap[k]?=some (.cells cs t fz):=by
 rcases h.2 with ⟨rfl,_⟩ | ⟨g,cap,cur,rfl,_,hg,_⟩
 · simp [Value.ownBlock] at hk
 ·
  simp [Value.ownBlock] at hk
  subst hk;exact ⟨_,_,_,hg⟩
theorem ScanI.next {e:UInt32}{bl:List (List UInt8)}{lv:Value}{w w5 W w6 w7:World}{pre:List (Nat × Value)}{x:Nat × Value}{p:List UInt8}{k:Nat}{ov v':Value}{o:Obj}(h:ScanI e bl lv w w5 pre W)(hs:w.heap.size+4≤w5.heap.size)(hx:NextR w5.heap.size e bl pre x W)(hk:yU e bl pre.length=some (p,k))(b3:Below W.heap.size W w6)(a8:Box W (w.heap.size+1+1) #[ov] 174)(a3:W.ownsRow w5.heap.size 92 1 ov pre.length (pre.map (·.2)))(a4:w7.ownsRow w5.heap.size 92 1 v' (pre.length+1) (pre.map (·.2) ++ [x.2]))(hg:(w6.alloc o).grownBy w7 ov.ownBlock)(z:Int)(hz:z=((yV e bl pre.length+k:Nat):Int)) :
  KeepsOthers W ((w7.setCell ⟨w.heap.size+1+1,0,none⟩ v').setCell ⟨w.heap.size+1+1+1,0,none⟩ (.int .i64 z))∧Mod (fun b=>b<w.heap.size+4∨w5.heap.size≤b) W ((w7.setCell ⟨w.heap.size+1+1,0,none⟩ v').setCell ⟨w.heap.size+1+1+1,0,none⟩ (.int .i64 z)) ∧
   ScanI e bl lv w w5 (pre ++ [x]) ((w7.setCell ⟨w.heap.size+1+1,0,none⟩ v').setCell ⟨w.heap.size+1+1+1,0,none⟩ (.int .i64 z)):=by
 obtain ⟨G,hG⟩:∃ G:Nat→Prop,G=fun b=>b=w.heap.size+1+1∨b=w.heap.size+1+1+1∨ov.ownBlock=some b:=⟨_,rfl⟩
 have b4:Below W.heap.size W (w6.alloc o):=jh b3 (ja w6 o);have a5:Mod (fun b=>ov.ownBlock=some b) W w7:=(Mod.of_below b4).trans (Mod.of_grown hg (fun k hk=>hk))
 have a9:Mod (fun b=>b=w.heap.size+1+1∨b=w.heap.size+1+1+1) w7 ((w7.setCell ⟨w.heap.size+1+1,0,none⟩ v').setCell ⟨w.heap.size+1+1+1,0,none⟩ (.int .i64 z)):=(Mod.set _ w7 ⟨w.heap.size+1+1,0,none⟩ v' (.inl rfl)).trans (Mod.set _ _ ⟨w.heap.size+1+1+1,0,none⟩ _ (.inr rfl))
 obtain ⟨w9,a2⟩:=Nm ((w7.setCell ⟨w.heap.size+1+1,0,none⟩ v').setCell ⟨w.heap.size+1+1+1,0,none⟩ (.int .i64 z));have hm:Mod G W w9:=by rw [a2,hG];exact (a5.mono (fun i hi=>.inr (.inr hi))).trans (a9.mono (fun i hi=>by rcases hi with h | h;exact .inl h;exact .inr (.inl h)))
 rw [← a2];have a0:=fun k hk=>(a3.lt k hk).1
 have b0:∀ b,G b→b<w.heap.size+4∨w5.heap.size≤b:=by
  rw [hG];rintro b (h | h | h)
  · left;omega
  · left;omega
  · exact .inr (a0 b h)
 have a6:∀ y∈pre ++ [x],∀ k,y.2.ownBlock=some k→¬ G k:=by
  have b1:∀ y∈pre ++ [x],∃ n xs,OwnM W w5.heap.size 5 y.2 n xs:=by
   intro y hy
   rcases List.mem_append.1 hy with hy | hy
   ·
    obtain ⟨i,hi⟩:=List.getElem?_of_mem hy;obtain ⟨_,p,k,_,h3⟩:=h.found.row i y hi;exact ⟨_,_,h3⟩
   ·
    obtain rfl:y=x:=by simpa using hy
    obtain ⟨_,⟨p,k,_,h3⟩,_⟩:=hx;exact ⟨_,_,h3⟩
  intro y hy k hk;obtain ⟨n,xs,h3⟩:=b1 y hy;have h4:=(h3.lt k hk).1;rw [hG];rintro (h | h | h)
  · omega
  · omega
  · exact jbV a3 h3 (by decide) k h hk
 have b2:yV e bl (pre ++ [x]).length=yV e bl pre.length+k:=by rw [List.length_append,List.length_singleton,zj hk]
 refine ⟨⟨hm.size,fun k o hk ho=>(hm.block k (Array.getElem?_eq_some_iff.1 hk).1 ?_).trans hk⟩,hm.mono b0,?_⟩
 ·
  rw [hG];have a1:∀ cs t fz,W.heap[k]?≠some (.cells cs t fz):=fun cs t fz h=>by
   rw [hk] at h;injection h with h;rw [h] at ho;simp [Obj.isCells] at ho
  rintro (h1 | h1 | h1)
  · subst h1;exact a1 _ _ _ a8
  · subst h1;exact a1 _ _ _ h.used
  ·
   obtain ⟨cs,t,fz,h2⟩:=jhL a3 h1;exact a1 _ _ _ h2
 ·
  have b5:=fun k hk=>(a4.lt k hk).1
  have b6:Box w7 (w.heap.size+1+1) #[ov] 174:=a8.mod a5 (fun h=>by have:=a0 _ h;omega)
  have b7:Box w7 (w.heap.size+1+1+1) #[.int .i64 ((yV e bl pre.length:Nat):Int)] 3:=h.used.mod a5 (fun h=>by have:=a0 _ h;omega)
  have a7:=hm;rw [hG] at a7;refine ⟨(h.found.keep (fun y hy k hk hl=>hm.block k hl (a6 y (List.mem_append.2 (.inl hy)) k hk))).snoc ?_,⟨v',?_,?_⟩,?_,h.ep.mod a7 ?_,h.li.mod a7 ?_,h.below.trans (hm.below h.below.size ?_),h.mod.trans (hm.mono b0)⟩
  ·
   obtain ⟨h1,⟨p,k,h2,h3⟩,h4⟩:=hx;exact ⟨h1,⟨p,k,h2,h3.mod hm (a6 x (List.mem_append.2 (.inr (List.mem_singleton.2 rfl))))⟩,h4⟩
  · rw [a2];exact (b6.set 0 v').set_other (by simp) _
  ·
   rw [a2,List.length_append,List.length_singleton,List.map_append];exact yB a4 a9 (fun k hk h=>by have:=b5 k hk;rcases h with h | h <;> omega)
  · rw [a2,b2,← hz];exact (b7.set_other (by simp) v').set 0 _
  ·
   rintro (h1 | h1 | h1)
   · omega
   · omega
   · have:=a0 _ h1;omega
  ·
   rintro (h1 | h1 | h1)
   · omega
   · omega
   · have:=a0 _ h1;omega
  ·
   rw [hG];rintro i (h1 | h1 | h1)
   · omega
   · omega
   · have:=a0 _ h1;omega
set_option maxRecDepth 100000 in
theorem jgO (e:UInt32)(lv:Value)(bl:List (List UInt8))(w:World)(hl:Rd w lv bl.length (bl.map SV))(hn:bl.length≤5000000000000)(c2:∀ b∈bl,b.length≤9223372036854775807) :
  Calls prog 126 #[.int .u32 (e.toNat:Int),lv] w fun r w'=>∃ (ov:Value) (pre:List (Nat × Value)),yU e bl pre.length=none∧r=.returned (.tuple #[ov,.int .i64 ((yV e bl pre.length:Nat):Int)]) ∧
   Found e bl w.heap.size pre w'∧w'.ownsRow w.heap.size 92 1 ov pre.length (pre.map (·.2))∧Below w.heap.size w w':=by
 refine (callsIn_wide (n:=9)).1 ?_;refine callsIn_of_wp_marks func126 rfl trivial ?_ rfl;simp only [ntmps126,List.size_toArray,List.length_cons,List.length_nil,Nat.reduceAdd,Nat.reduceSub,Array.replicate_succ,Array.replicate_zero,List.push_toArray,List.append_toArray,List.nil_append,List.cons_append];obtain ⟨la,lc,rfl⟩:∃ a c,lv=.slice a bl.length c:=by obtain ⟨a,c,h,_⟩:=hl;exact ⟨a,c,h⟩
 have d5:=ja w (.cells #[.int .u32 (e.toNat:Int)] 87);have b2:=ja (w.alloc (.cells #[.int .u32 (e.toNat:Int)] 87)) (.cells #[.slice la bl.length lc] 81);have a0:=ja ((w.alloc (.cells #[.int .u32 (e.toNat:Int)] 87)).alloc (.cells #[.slice la bl.length lc] 81)) (.cells #[.slice none 0 0] 174);have b3:=ja (((w.alloc (.cells #[.int .u32 (e.toNat:Int)] 87)).alloc (.cells #[.slice la bl.length lc] 81)).alloc (.cells #[.slice none 0 0] 174)) (.cells #[.int .i64 0] 3);have d6:=(((Box.new w #[.int .u32 (e.toNat:Int)] 87).below b2).below a0).below b3;have c3:=((Box.new (w.alloc (.cells #[.int .u32 (e.toNat:Int)] 87)) #[.slice la bl.length lc] 81).below a0).below b3;have c4:=(Box.new ((w.alloc (.cells #[.int .u32 (e.toNat:Int)] 87)).alloc (.cells #[.slice la bl.length lc] 81)) #[.slice none 0 0] 174).below b3;have c5:=Box.new (((w.alloc (.cells #[.int .u32 (e.toNat:Int)] 87)).alloc (.cells #[.slice la bl.length lc] 81)).alloc (.cells #[.slice none 0 0] 174)) #[.int .i64 0] 3;have c6:=d5.trans ((b2.trans ((a0.trans (b3.mono (by simp))).mono (by simp))).mono (by simp))
 rw [World.size_alloc] at c3;rw [World.size_alloc,World.size_alloc] at c4;rw [World.size_alloc,World.size_alloc,World.size_alloc] at c5;have I:=Hd d6;have J:=Hd c3;have L:=Hd c4;have M:=Hd c5;have N:=Hd c6;have S:=Hd (hl.below c6);have HL:=Hd hl;clear hl d5 b2 a0 b3 d6 c3 c4 c5 c6
 gi_wp2_with (gi_at_call 163;fail)
 refine ⟨trivial,?_⟩;refine (callsIn_wide.2 (jh5 e _ bl _ S.1 (by omega))).mono ?_
 rintro r w5 ⟨E,B,rfl,hA,a5⟩;have I:=Hd (I.1.below a5);have J:=Hd (J.1.below a5);have L:=Hd (L.1.below a5);have M:=Hd (M.1.below a5);have T:=Hd (N.1.trans (a5.mono N.1.size));have b4:=T.1.size;have hA:AllAt (w.heap.size+4) e bl E B w5:=by
  have e1:((((w.alloc (.cells #[.int .u32 (e.toNat:Int)] 87)).alloc (.cells #[.slice la bl.length lc] 81)).alloc (.cells #[.slice none 0 0] 174)).alloc (.cells #[.int .i64 0] 3)).heap.size=w.heap.size+4:=by simp
  rw [e1] at hA;exact hA
 have e2:w.heap.size+4≤w5.heap.size:=by have:=a5.size;simp only [World.size_alloc] at this;omega
 have HA:=Hd hA;clear a5 hA N S
 gi_wp2
 refine jbo rfl (by omega) (gf:=182) (lb:=#[.pointer (some ⟨E,0,none⟩),.pointer (some ⟨B,0,none⟩)]) rfl trivial (enters_of func182 (by kernel_rfl) rfl)
  (jkI e bl c2 E B (w.heap.size+4) w5 HA.1 (9-1) (by omega)) (fun b hb=>.inr hb) (fun _=>rfl)
  (ScanI e bl (.slice la bl.length lc) w w5) (fun _ _ _=>False) (fun s=>ScanI.soft b4 s) (fun _ _=>jcq (fun _ _ h _ _=>h)) (fun s x=>NextR.soft _ s x)
  ⟨Found.nil _ _ _ _,⟨_,L.1,World.ownsRow_nil _ _ _ _⟩,M.1,I.1,J.1,T.1,Mod.refl _ _⟩
  (fun x=>{ tmps:=#[.int .u32 (e.toNat:Int),.slice la bl.length lc,.pointer (some ⟨w.heap.size,0,none⟩),.pointer (some ⟨w.heap.size+1,0,none⟩),.slice none 0 0,.int .i64 0,.pointer (some ⟨w.heap.size+1+1,0,none⟩),.pointer (some ⟨w.heap.size+1+1+1,0,none⟩),.int .i64 (x.1:Int),x.2,undef,undef,.int .u32 (e.toNat:Int),.slice la bl.length lc,.func (.func 182) #[] #[.pointer (some ⟨E,0,none⟩),.pointer (some ⟨B,0,none⟩)],.int .i64 (x.1:Int),x.2,undef,undef,undef,undef,undef,undef,undef,undef,undef,undef,undef,undef,undef,undef,undef,undef,undef],defers := [] })
  ?assign ?body ?done ?stop
 case assign =>
  intro l x W K hK
  gi_wp2
  exact hK
 case done =>
  rintro D pre W hS hI hD hK;obtain ⟨ov,a6,a7⟩:=hI.out;have f1:=a6.cell 0 _ rfl;have e4:=hI.used.cell 0 _ rfl;have G:=Hd hI;have H:=Hd a7;have HS:=Hd hS;clear hI a6 a7 hS
  gi_wp2
  refine wpIn_wide.2 ?_
  go_quiet (fail)
  gi_wp2
  have b6:Below W.heap.size W (W.drewN nq):=⟨rfl,rfl,rfl,Nat.le_refl _,fun _ _=>rfl⟩
  obtain ⟨W9,e5⟩:=Nm (W.drewN nq);rw [← e5] at b6 ⊢;have c7:W9.heap[D]?=some (.deferred (some [])):=(b6.block D (Array.getElem?_eq_some_iff.1 hK).1).trans hK;refine ⟨by simp,.inl ⟨_,_,rfl,run_takeDeferred c7,?_⟩⟩
  have c8:=(ScanI.soft b4 pre).put (.deferred none) ((ScanI.soft b4 pre).below G.1 b6) hD c7 rfl;have d7:Soft w5.heap.size (fun W=>W.ownsRow w5.heap.size 92 1 ov pre.length (pre.map (·.2))):=jcq (fun A C h hc _=>jiN h hc)
  have e3:=d7.put (.deferred none) (d7.below H.1 b6) hD c7 rfl;exact ⟨_,results_tmp2 rfl _ _ _,ov,pre,HS.1,rfl,c8.found.lower b4,jcw e3 b4,c8.below⟩
 case stop =>
  rintro D c pre W _ h _ _;exact h.elim
 case body =>
  rintro l pre x W hI hT;obtain ⟨xa,xv⟩:=x;obtain ⟨a8,⟨p,k,hp,a9⟩,c9⟩:=hT;simp only at a8 a9 c9;obtain ⟨pa,pc,rfl,f2⟩:=a9.slice;obtain ⟨ov,a6,a7⟩:=hI.out;obtain ⟨oa,oc,rfl,_⟩:=jK a7;have d8:xa≤bl.length:=by rw [a8];exact uL _ _ _
  have d9:=HL.1.below hI.below;have e6:=jdb (P:=prog) (t:=81) underlying81 (by kernel_rfl) la bl.length lc xa d8
  have b7:=xD d9 (k:=xa) d8 (by simp)
  rw [← List.map_drop,← List.length_drop] at b7;obtain ⟨tv,e0⟩:=Nm (xE la bl.length lc xa);rw [← e0] at e6 b7;have d0:∀ w',Below W.heap.size W w'→Calls prog 164 #[.int .u32 (e.toNat:Int),tv] w' fun r w''=>∃ v,r=.returned (.tuple #[v,.int .i64 (k:Int)])∧Below W.heap.size W w'' ∧
    w''.cell? ⟨w.heap.size+1+1,0,none⟩=some (.slice oa pre.length oc)∧w''.frozen? ⟨w.heap.size+1+1,0,none⟩=false∧(∃ y,w''.cell? ⟨w.heap.size+1+1+1,0,none⟩=some y)∧w''.frozen? ⟨w.heap.size+1+1+1,0,none⟩=false:=fun w' hb =>
   (jet e tv (bl.drop xa) w' (b7.below hb) (fun b hb=>c2 b (List.mem_of_mem_drop hb))).mono (fun r w'' ⟨b2,h⟩=>by
    have a0:=jh hb b2
    rcases h with ⟨h,_⟩ | ⟨p',k',v,h,h1,h2⟩
    ·
     rw [a8] at h;unfold yU at hp;rw [hp] at h;cases h
    ·
     rw [a8] at h;unfold yU at hp;rw [hp] at h;injection h with h;injection h with h3 h4
     subst h3;subst h4;exact ⟨v,h1,a0,(a6.below a0).cell 0 _ rfl,(a6.below a0).free 0,⟨_,(hI.used.below a0).cell 0 _ rfl⟩,(hI.used.below a0).free 0⟩)
  have e4:=hI.ep.cell 0 _ rfl;have f3:=hI.li.cell 0 _ rfl;have G:=Hd hI;have O:=Hd d0;have U:=Hd a6;have H:=Hd a7;have R:=Hd a8;have V:=Hd hp;have X:=Hd a9;have Y:=Hd c9;have f4:1≤9-1-1:=by omega
  have f5:prog.follows .mixedOrders=true:=by kernel_rfl
  clear hI d0 a6 a7 a8 hp a9 c9 b7 d9 e0;obtain ⟨i0,hi,e7,e8,e9⟩:=info_parts jiT;have f0:=G.1.found.len;have Z:=Hd (show pre.length+1≤maxLen by unfold maxLen;omega)
  have H0:=Hd (show (pre.length+1)*24≤140737488355328 by omega)
  have H1:=Hd G.1.mod.size;have f6:xa+k≤bl.length:=by
   have:=uL e bl (pre.length+1);rw [zj V.1,← R.1] at this;exact this
  have f7:wrap64 ((xa:Int)+(k:Int))=(xa:Int)+(k:Int):=by unfold wrap64;omega
  gi_wp2
  refine wpIn_mono (Q:=fun ex a' w6=>ex=Exit.normal∧∃ v,a'={ tmps:=#[.int .u32 (e.toNat:Int),.slice la bl.length lc,.pointer (some ⟨w.heap.size,0,none⟩),.pointer (some ⟨w.heap.size+1,0,none⟩),.slice none 0 0,.int .i64 0,.pointer (some ⟨w.heap.size+1+1,0,none⟩),.pointer (some ⟨w.heap.size+1+1+1,0,none⟩),.int .i64 (xa:Int),.slice pa p.length pc,v,.int .i64 (k:Int),.int .u32 (e.toNat:Int),.slice la bl.length lc,.func (.func 182) #[] #[.pointer (some ⟨E,0,none⟩),.pointer (some ⟨B,0,none⟩)],.int .i64 (xa:Int),.slice pa p.length pc,.tuple #[v,.int .i64 (k:Int)],.int .u32 (e.toNat:Int),.slice la bl.length lc,.int .i64 (xa:Int),tv,.tuple #[v,.int .i64 (k:Int)],v,.int .i64 (k:Int),undef,undef,undef,undef,undef,undef,undef,undef,undef],defers := [] }∧Below W.heap.size W w6 ∧
    w6.cell? ⟨w.heap.size+1+1,0,none⟩=some (.slice oa pre.length oc)∧w6.frozen? ⟨w.heap.size+1+1,0,none⟩=false∧(∃ y,w6.cell? ⟨w.heap.size+1+1+1,0,none⟩=some y)∧w6.frozen? ⟨w.heap.size+1+1+1,0,none⟩=false) ?_ ?_
  ·
   gi_region_with_o (first | (gi_at_call 164;refine (CallsIn.inRound l (callsIn_wide.2 (O.1 _ (jd _)))).mono ?_;rintro r w6 ⟨v,rfl,b5,b8,b9,⟨y,c0⟩,c1⟩) | (refine ⟨trivial,?_⟩;refine (CallsIn.inRound l (callsIn_wide.2 (O.1 _ (jd _)))).mono ?_;rintro r w6 ⟨v,rfl,b5,b8,b9,⟨y,c0⟩,c1⟩))
   all_goals exact ⟨rfl,v,rfl,b5,b8,b9,⟨y,c0⟩,c1⟩
  rintro ex a' w6 ⟨rfl,v,rfl,b5,b8,b9,⟨y,c0⟩,c1⟩;have F:=Hd b5;clear b5
  gi_wp2_with (gi_at_builtin;refine wpListIn_append_own _ rfl _ _ 174 rfl w5.heap.size 92 i0 (.slice none 0 0) 1 24 underlying174 hi e7 e8 e9 rfl (by decide) _ _ _ rfl ((jr H.1 F.1).alloc _) ⟨w6.heap.size,0,none⟩ 1 1 [.slice pa p.length pc] rfl rfl (cell_one_new _ _ _) (by simp [Value.oneCell']) Z.1 H0.1 (Nat.le_trans H1.1 (Nat.le_trans F.1.size (by simp))) ?_)
  intro v' w7 b0 b1 _;obtain ⟨ga,gc,rfl,_⟩:=jK b0;have d1:∀ k,(Value.slice oa pre.length oc).ownBlock=some k→w5.heap.size≤k:=fun k hk=>(H.1.lt k hk).1
  have d2:Mod (fun b=>(Value.slice oa pre.length oc).ownBlock=some b) W w7:=(Mod.of_below (jh F.1 (ja w6 _))).trans (Mod.of_grown b1 (fun k hk=>hk))
  have d3:=U.1.mod d2 (fun h=>by have:=d1 _ h;omega)
  have d4:=G.1.used.mod d2 (fun h=>by have:=d1 _ h;omega)
  have a1:=d3.cell 0 _ rfl;have a2:=d3.free 0;have a3:=d4.cell 0 _ rfl;have a4:=d4.free 0;have HN:=Hd (fun z hz=>G.1.next (x:=(xa,.slice pa p.length pc)) e2 ⟨R.1,⟨p,k,V.1,X.1⟩,Y.1⟩ V.1 F.1 U.1 H.1 b0 b1 z hz)
  clear d1 d2 d3 d4 b0 b1 b8 b9 c0 c1
  gi_wp2
  exact HN.1 _ (by rw [← R.1];omega)
end Go.Proofs.YtgcnolapjppbpaaGreatDoor
