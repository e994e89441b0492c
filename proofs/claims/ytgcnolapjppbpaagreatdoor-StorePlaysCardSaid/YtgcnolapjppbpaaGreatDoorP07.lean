/-
  Texts of one proof, one behind the other.
-/
import Derived.Test.YtgcnolapjppbpaaGreatDoorP04
import Derived.RangeFuncNested
import Derived.RangeFuncBound
import Derived.RangeFuncCalls
import Derived.RangeFuncLeaves
import Derived.Test.YtgcnolapjppbpaaGreatDoorP06
import Derived.StillTailTactics
import Derived.Shelf.Abstract
import Derived.Shelf.RegionOpen
import Derived.WalkKit
import Derived.OwnWalkIn
import Derived.TacticsInMore
import Derived.LoopNIn
import Derived.LoopIn
import Derived.Test.YtgcnolapjppbpaaGreatDoorP00
namespace Go.Proofs.YtgcnolapjppbpaaGreatDoor
open Go.RowKit _root_.Go.Proofs.Tryz
set_option maxRecDepth 100000
set_option maxHeartbeats 25600000
structure Soft (B:Nat)(I:World→Prop):Prop where
 below:∀ {A C:World},I A→Below A.heap.size A C→I C
 put:∀ {A:World} {l:Nat} {o:Obj} (o':Obj),I A→B≤l→A.heap[l]?=some o→o.isCells=false→I (A.putObj l o')
def jkQ {α:Type}(F:Fence)(n:Nat)(P:Program)(g:Nat)(lb:Array Value)(encs : α→Array Value)(Fm:Nat→Prop)(T:List α → α→World→Prop)(S Sp:List α→Prop)(w:World):Prop :=
 ∀ (l:Nat) (J Jx:List α→World→Prop) (W:World),Mod Fm w W→(∀ s (A C:World),J s A→Below A.heap.size A C→J s C)→(∀ s (A C:World),Jx s A→Below A.heap.size A C→Jx s C) →
  (∀ pre x W1,J pre W1→T pre x W1→YieldAt F (n-1) P l (encs x) W1 fun e W'=>(e=.returned (.bool true)∧J (pre ++ [x]) W'∧Mod Fm W1 W')∨(e=.returned (.bool false)∧Jx (pre ++ [x]) W')) →
  J [] W→CallsIn F n P g (#[.func (.yield l) #[] #[]]++lb) W fun e W'=>(∃ v,e=.returned v)∧((∃ xs,S xs∧J xs W')∨∃ pre,Sp pre∧Jx pre W')
def jkx {α:Type}(Fm:Nat→Prop)(I:List α→World→Prop)(Ix:Code→List α→World→Prop)(xs:List α)(W:World):Exit→Act→World→Prop
 | .normal,_,W'=>KeepsOthers W W'∧Mod Fm W W'∧I xs W'
 | .ret,_,W'=>KeepsOthers W W'∧Ix .ret xs W'
 | .exit id,_,W'=>KeepsOthers W W'∧Ix (.exit id) xs W'
 | .goto t,_,W'=>KeepsOthers W W'∧Ix (.goto t) xs W'
 | .panic _,_,_=>False
 | .outgrown,_,_=>False
theorem jfi {Fm:Nat→Prop}{l:Nat}{W:World}(hn:Fm l)(o:Obj):Mod Fm W (W.putObj l o):=Mod.of_grown (grownBy_putObj' W l o) (fun k e=>by cases e;exact hn)
section
variable {F : Fence} {n : Nat} {P : Program}
theorem jbo {α:Type}{g:Operand}{ps:Array Tmp}{assign body:Code}{Q:Exit→Act→World→Prop}{a:Act}{w:World}(c1:F.round=none)(h1:1≤n){gf:Nat}{lb:Array Value}(hg:a.eval g=.func (.func gf) #[] lb)(c2:F.fn gf)(eg:∀ args w,(callFunc gf args).run P w=.ok (.enter gf args) w){encs : α→Array Value}{Fm:Nat→Prop}{T:List α → α→World→Prop}{S Sp:List α→Prop}(b9:jkQ F (n-1) P gf lb encs Fm T S Sp w)(b6:∀ b,w.heap.size≤b→Fm b)(c3:∀ x,(encs x).size=ps.size)(I:List α→World→Prop)(Ix:Code→List α→World→Prop)(hI:∀ s,Soft w.heap.size (I s))(a7:∀ c s,Soft w.heap.size (Ix c s))(hT:∀ s x,Soft w.heap.size (T s x))(h0:I [] w)(a₁ : α→Act)(a9:∀ (l:Nat) (x : α) (W:World) (K:Act→World→Prop),K (a₁ x) W→assign.wpIn (F.inRound l) (n-1-1) P (Exit.then K (fun _ _ _=>False)) { tmps:=(ps.zip (encs x)).foldl (fun t (p,v)=>t.setIfInBounds p v) a.tmps,defers := [] } W)(b3:∀ (l:Nat) (pre:List α) (x : α) (W:World),I pre W→T pre x W→body.wpIn (F.inRound l) (n-1-1) P (jkx Fm I Ix (pre ++ [x]) W) (a₁ x) W)(b4:∀ (D:Nat) (xs:List α) (W:World),S xs→I xs W→w.heap.size≤D→W.heap[D]?=some (.deferred (some []))→Q .normal { a with defers:={ target:=.collected D,args:=#[] }::a.defers } W)(b5:∀ (D:Nat) (c:Code) (pre:List α) (W:World),Sp pre→Ix c pre W→w.heap.size≤D→W.heap[D]?=some (.deferred (some []))→c.wpIn F n P Q { a with defers:={ target:=.collected D,args:=#[] }::a.defers } W) :
  (Code.rangeFunc g ps assign body).wpIn F n P Q a w:=by
 refine wpIn_rangeFunc fun fn c4=>?_
 rw [c1]
 let rec0:LoopState→Option Code→Loop:=fun st pe=>{ state:=st,pending:=pe,fn,tmps:=a.tmps,params:=ps,assign,body,defers:=w.heap.size }
 obtain ⟨rc,a1⟩:=Nm (rec0);obtain ⟨D,hD⟩:=Nm (w.heap.size);obtain ⟨WA,a8⟩:=Nm (w.alloc (.deferred (some [])));obtain ⟨W1,b0⟩:=Nm (WA.alloc (.loop (rc .ready none)));have b1:Below w.heap.size w WA:=by rw [a8];exact ja _ _
 have b2:Below WA.heap.size WA W1:=by rw [b0];exact ja _ _
 have c5:WA.heap.size=D+1:=by rw [a8,hD];simp
 have c6:WA.heap[D]?=some (.deferred (some [])):=by rw [a8,hD];exact heap_alloc_new w _
 have c7:W1.heap[D]?=some (.deferred (some [])):=by rw [b2.block D (by omega)];exact c6
 have c8:W1.heap[D+1]?=some (.loop (rc .ready none)):=by rw [← c5,b0];exact heap_alloc_new WA _
 have c9:Below w.heap.size w W1:=b1.trans (b2.mono b1.size);have d8:D≤D+1:=Nat.le_succ D
 -- what is held between two rounds
 let J:List α→World→Prop:=fun pre W=>I pre W∧W.heap[D+1]?=some (.loop (rc .ready none))∧W.heap[D]?=some (.deferred (some []))
 let Jx:List α→World→Prop:=fun pre W=>∃ c,Ix c pre W∧W.heap[D+1]?=some (.loop (rc .done (some c)))∧W.heap[D]?=some (.deferred (some []))
 have keepAt:∀ {A C:World} {k:Nat} {o:Obj},A.heap[k]?=some o→Below A.heap.size A C→C.heap[k]?=some o:=fun h hb=>(hb.block _ (Array.getElem?_eq_some_iff.1 h).1).trans h
 refine ⟨D+1,[{ target:=.collected D,args:=#[] }],W1,{ target:=.fn (.func gf) lb,args:=#[.func (.yield (D+1)) #[] #[]] },W1,gf,#[.func (.yield (D+1)) #[] #[]]++lb,W1,?_,?_,?_,?_,fun _=>h1,?_⟩
 · rw [b0,a8,a1,hD];exact run_enterLoop_outer _ _ _ _ _
 ·
  simp only [resolve,hg]
  simp [go_sem]
 · intro f' b7;simp [Target.leads] at b7;subst b7;exact c2
 · simp [invoke,go_sem,eg]
 ·
  refine (b9 (D+1) J Jx W1 (Mod.of_below c9) (fun s A C h hb=>⟨(hI s).below h.1 hb,keepAt h.2.1 hb,keepAt h.2.2 hb⟩) (fun s A C h hb=>by
   obtain ⟨c,h1,h2,h3⟩:=h;exact ⟨c,(a7 c s).below h1 hb,keepAt h2 hb,keepAt h3 hb⟩) ?_ ⟨(hI []).below ((hI []).below h0 b1) b2,c8,c7⟩).mono ?_
  ·
   rintro pre x W ⟨hi,hl,hd⟩ ht;have d0:D+1<W.heap.size:=(Array.getElem?_eq_some_iff.1 hl).1;have hy:=run_yield (P:=P) (args:=encs x) hl (by rw [a1];exact c3 x)
   rw [a1] at hy;refine ⟨fn,_,assign,body,hy,roundIn_of_wpIn c4 (a9 _ x W _ ⟨_,run_beginRound hl (by rw [a1]),?_⟩)⟩
   clear hy;obtain ⟨busy,b8⟩:∃ b:Loop,b={ rc .ready none with state:=.busy }:=⟨_,rfl⟩
   rw [← b8];obtain ⟨W2,a5⟩:=Nm (W.putObj (D+1) (.loop busy));rw [← a5];have d1:W2.heap[D+1]?=some (.loop busy):=by rw [a5];exact World.putObj_heap_same d0
   have d2:W2.heap[D]?=some (.deferred (some [])):=by rw [a5];exact (World.putObj_heap_other (by omega)).trans hd
   have d3:Mod Fm W W2:=by rw [a5];exact jfi (b6 _ (by omega)) _
   have d4:I pre W2:=by rw [a5];exact (hI pre).put _ hi (by omega) hl rfl
   have d5:T pre x W2:=by rw [a5];exact (hT pre x).put _ ht (by omega) hl rfl
   have a6:∀ (jump:Option Code) (W3:World),KeepsOthers W2 W3→(Instr.endRound (D+1) jump).run P W3=.ok (.bool jump.isNone) (W3.putObj (D+1) (.loop (rc (if jump.isNone then .ready else .done) jump))) ∧
     W3.heap[D+1]?=some (.loop busy)∧(W3.putObj (D+1) (.loop (rc (if jump.isNone then .ready else .done) jump))).heap[D+1]?=some (.loop (rc (if jump.isNone then .ready else .done) jump)) ∧
     (W3.putObj (D+1) (.loop (rc (if jump.isNone then .ready else .done) jump))).heap[D]?=some (.deferred (some [])):=fun jump W3 hk=>by
    have a0:=hk.same _ _ d1 rfl;have hr:=run_endRound (P:=P) jump a0;refine ⟨by rw [hr,b8,a1],a0,World.putObj_heap_same (Array.getElem?_eq_some_iff.1 a0).1,(World.putObj_heap_other (by omega)).trans (hk.same _ _ d2 rfl)⟩
   refine wpIn_mono (b3 _ pre x _ d4 d5) ?_;rintro e a3 W3 hp
   cases e with
   | normal =>
    obtain ⟨d6,c0,d7⟩:=hp;obtain ⟨hr,a0,a2,a4⟩:=a6 none W3 d6;exact ⟨_,_,hr,.inl ⟨rfl,⟨(hI _).put _ d7 (by omega) a0 rfl,a2,a4⟩,(d3.trans c0).trans (jfi (b6 _ (by omega)) _)⟩⟩
   | ret =>
    obtain ⟨hr,a0,a2,a4⟩:=a6 (some .ret) W3 hp.1;exact ⟨_,_,hr,.inr ⟨rfl,.ret,(a7 _ _).put _ hp.2 (by omega) a0 rfl,a2,a4⟩⟩
   | exit id =>
    obtain ⟨hr,a0,a2,a4⟩:=a6 (some (.exit id)) W3 hp.1;exact ⟨_,_,hr,.inr ⟨rfl,.exit id,(a7 _ _).put _ hp.2 (by omega) a0 rfl,a2,a4⟩⟩
   | goto t =>
    obtain ⟨hr,a0,a2,a4⟩:=a6 (some (.goto t)) W3 hp.1;exact ⟨_,_,hr,.inr ⟨rfl,.goto t,(a7 _ _).put _ hp.2 (by omega) a0 rfl,a2,a4⟩⟩
   | panic ch=>exact hp.elim
   | outgrown=>exact hp.elim
  ·
   rintro e W2 ⟨⟨v,rfl⟩,(⟨xs,hS,hi,hl,hd⟩ | ⟨pre,hS,c,hi,hl,hd⟩)⟩
   ·
    have hr:=run_endLoop (P:=P) hl (by rw [a1];simp [rec0])
    rw [a1] at hr;exact ⟨none,_,hr,by rw [hD] at *;exact b4 _ xs _ hS ((hI xs).put _ hi (by omega) hl rfl) (Nat.le_refl _) ((World.putObj_heap_other (by omega)).trans hd)⟩
   ·
    have hr:=run_endLoop (P:=P) hl (by rw [a1];simp [rec0])
    rw [a1] at hr;exact ⟨some c,_,hr,by rw [hD] at *;exact b5 _ c pre _ hS ((a7 c pre).put _ hi (by omega) hl rfl) (Nat.le_refl _) ((World.putObj_heap_other (by omega)).trans hd)⟩
end
structure AllAt (n₀:Nat)(e:UInt32)(bl:List (List UInt8))(E B:Nat)(w:World):Prop where
 lo:n₀≤E∧n₀≤B
 ec:w.cell? ⟨E,0,none⟩=some (.int .u32 (e.toNat:Int))
 bc:∃ bv,w.cell? ⟨B,0,none⟩=some bv∧Rd w bv bl.length (bl.map SV)∧∀ k,bv.ownBlock=some k→n₀≤k
theorem jgD {F:Nat→Prop}{w w':World}(hm:Mod F w w'){a:Addr}{x:Value}(h:w.cell? a=some x)(hF:¬ F a.block):w'.cell? a=some x:=by
 rw [World.cell?_of_block (hm.block a.block (uM h) hF)];exact h
theorem AllAt.kept {n₀:Nat}{e:UInt32}{bl:List (List UInt8)}{E B:Nat}{w w':World}(h:AllAt n₀ e bl E B w)(hm:Mod (fun b=>b<n₀∨w.heap.size≤b) w w'):AllAt n₀ e bl E B w':=by
 obtain ⟨bv,h1,h2,h3⟩:=h.bc;have hE:=uM h.ec;have hB:=uM h1;obtain ⟨l1,l2⟩:=h.lo;refine ⟨h.lo,jgD hm h.ec (by simp only at hE ⊢;omega),bv,jgD hm h1 (by simp only at hB ⊢;omega),h2.keep (fun k hk hl=>hm.block k hl (by have:=h3 k hk;omega)),h3⟩
theorem jh5 (e:UInt32)(lv:Value)(bl:List (List UInt8))(w:World)(hl:Rd w lv bl.length (bl.map SV))(hn:bl.length≤8796093022208) :
  Calls prog 163 #[.int .u32 (e.toNat:Int),lv] w fun r w'=>∃ E B,r=.returned (.func (.func 182) #[] #[.pointer (some ⟨E,0,none⟩),.pointer (some ⟨B,0,none⟩)])∧AllAt w.heap.size e bl E B w'∧Below w.heap.size w w':=by
 obtain ⟨la,lc,rfl⟩:∃ a c,lv=.slice a bl.length c:=by obtain ⟨a,c,h,_⟩:=hl;exact ⟨a,c,h⟩
 have a1:=ja w (.cells #[.int .u32 (e.toNat:Int)] 87);have H:=Hd a1;have C:=Hd (Box.new w #[.int .u32 (e.toNat:Int)] 87);have D:=Hd (hl.below a1);have J:=Hd (show 0+bl.length≤8796093022208 by omega)
 clear hl a1;go_enter func163,ntmps163
 go_wp2_with (at_builtin;refine jiv rfl _ _ rfl w.heap.size _ 0 [] rfl (World.ownsRow_nil _ _ _ _) _ bl rfl D.1 J.1 H.1.size ?_)
 intro v' w2 a0 a3 _;obtain ⟨ra,rc,rfl⟩:∃ a c,v'=.slice a bl.length c:=by
  obtain ⟨a,c,h,_⟩:=jK a0;exact ⟨a,c,by simpa using h⟩
 have a2:Below (w.alloc (.cells #[.int .u32 (e.toNat:Int)] 87)).heap.size (w.alloc (.cells #[.int .u32 (e.toNat:Int)] 87)) w2:=ur a3 (Nat.le_refl _) (fun k h=>by simp [Value.ownBlock] at h)
 have a4:=H.1.trans (a2.mono H.1.size);have a5:=C.1.below a2;have A:=Hd a4;have F:=Hd a5;have G:=Hd (jq a0);have I:=Hd (fun k hk=>(a0.lt k hk).1)
 clear a2 a4 a5 a0 a3 C D H;go_wp2_with fail;go_ret;have hm:=ja w2 (.cells #[.slice ra bl.length rc] 81);refine ⟨_,_,rfl,⟨⟨Nat.le_refl _,A.1.size⟩,(F.1.below hm).cell 0 _ rfl,_,(Box.new w2 #[.slice ra bl.length rc] 81).cell 0 _ rfl,?_,I.1⟩,A.1.trans (hm.mono A.1.size)⟩;have:=G.1.below hm
 simpa using this
open Go.RowKit Go.Shelf
attribute [local go_sem] Oper.semAt_some
def yV (e:UInt32)(bl:List (List UInt8)):Nat→Nat
 | 0=>0
 | i+1=>match vb e (bl.drop (yV e bl i)) with
  | none=>yV e bl i
  | some g=>yV e bl i+g.2
def yU (e:UInt32)(bl:List (List UInt8))(i:Nat):Option (List UInt8 × Nat):=vb e (bl.drop (yV e bl i))
theorem zj {e:UInt32}{bl:List (List UInt8)}{i:Nat}{p:List UInt8}{k:Nat}(h:yU e bl i=some (p,k)):yV e bl (i+1)=yV e bl i+k:=by
 unfold yU at h;rw [yV,h]
theorem uL (e:UInt32)(bl:List (List UInt8)):∀ i,yV e bl i≤bl.length
 | 0=>Nat.zero_le _
 | i+1=>by
  have ih:=uL e bl i;rw [yV]
  cases h:vb e (bl.drop (yV e bl i)) with
  | none=>exact ih
  | some g =>
   have:=vr (p:=g.1) (k:=g.2) h;rw [List.length_drop] at this;show yV e bl i+g.2≤_;omega
def NextR (n₀:Nat)(e:UInt32)(bl:List (List UInt8))(pre:List (Nat × Value))(x:Nat × Value)(W:World):Prop :=
 x.1=yV e bl pre.length∧(∃ p k,yU e bl pre.length=some (p,k)∧OwnM W n₀ 5 x.2 p.length (p.map V8))∧∀ y∈pre,Apart y.2 x.2
structure AllK (e:UInt32)(E B n:Nat)(ba:Option Addr)(bc:Nat)(wr w':World):Prop where
 ec:w'.cell? ⟨E,0,none⟩=some (.int .u32 (e.toNat:Int))
 bc:w'.cell? ⟨B,0,none⟩=some (.slice ba n bc)
 below:Below wr.heap.size wr w'
theorem AllK.keep {e:UInt32}{E B n:Nat}{ba:Option Addr}{bc:Nat}{wr w1 w2:World}(h:AllK e E B n ba bc wr w1)(hb:Below w1.heap.size w1 w2):AllK e E B n ba bc wr w2:=⟨jf hb h.ec,jf hb h.bc,h.below.trans (hb.mono h.below.size)⟩
set_option maxRecDepth 100000 in
theorem jkI (e:UInt32)(bl:List (List UInt8))(a6:∀ b∈bl,b.length≤9223372036854775807)(E B n₀:Nat)(w:World)(hA:AllAt n₀ e bl E B w)(n:Nat)(hn:1≤n) :
  jkQ Fence.wide n prog 182 #[.pointer (some ⟨E,0,none⟩),.pointer (some ⟨B,0,none⟩)] (fun x:Nat × Value=>#[.int .i64 (x.1:Int),x.2]) (fun b=>b<n₀∨w.heap.size≤b) (NextR w.heap.size e bl) (fun xs=>yU e bl xs.length=none) (fun _=>True) w:=by
 intro l J Jx W hW hJ b1 hY h0;refine callsIn_of_wp func182 rfl trivial ?_ rfl;simp only [ntmps182,List.size_toArray,List.length_cons,List.length_nil,Nat.reduceAdd,Nat.reduceSub,Array.replicate_succ,Array.replicate_zero,List.push_toArray,List.append_toArray,List.nil_append,List.cons_append];refine wpIn_wide.2 ?_;have X:=Hd hY;have Y:=Hd hJ;have H0:=Hd b1;have Z:=Hd hA;have HW:=Hd hW;have N:=Hd a6;clear hY hJ b1 hA hW a6;go_wp2_with fail
 go_loopg [4,5,6] bl.length (fun gk s4 s5 s6 wr=>∃ pre:List (Nat × Value),gk+yV e bl pre.length=bl.length∧s4=.int .i64 ((yV e bl pre.length:Nat):Int)∧J pre wr∧Mod (fun b=>b<n₀∨w.heap.size≤b) w wr∧∀ y∈pre,∀ b,y.2.ownBlock=some b→b<wr.heap.size)
 case atStart=>exact ⟨[],by simp [yV],rfl,h0,HW.1,fun y hy=>by simp at hy⟩
 case round =>
  obtain ⟨pre,a7,rfl,hj,hb,b2⟩:=hrel;obtain ⟨at_,a8⟩:=Nm (yV e bl pre.length);rw [← a8] at a7 ⊢;have H:=Hd a8;have Q:=Hd a7;have D:=Hd hj;have O:=Hd hb;have G:=Hd b2;have a9:=Z.1.kept O.1;have b3:=a9.ec;obtain ⟨bv,b4,a4,_⟩:=a9.bc;obtain ⟨ba,bc,rfl⟩:∃ a c,bv=.slice a bl.length c:=by obtain ⟨a,c,h,_⟩:=a4;exact ⟨a,c,h⟩
  have b5:at_≤bl.length:=by omega
  have d1:=a4.len;have b6:=jdb (P:=prog) (t:=81) underlying81 (by kernel_rfl) ba bl.length bc at_ b5
  have a5:=xD a4 (k:=at_) b5 (by simp)
  rw [← List.map_drop,← List.length_drop] at a5;obtain ⟨tv,b7⟩:=Nm (xE ba bl.length bc at_);rw [← b7] at b6 a5;have A:=Hd (fun (w':World) (h:Below wr.heap.size wr w')=>jet e tv (bl.drop at_) w' (a5.below h) (fun b hb=>N.1 b (List.mem_of_mem_drop hb)))
  clear a9 a4 a5 hj hb b2 b7 a8 a7;go_wp2_with fail;refine wp_region_held_drew (S:=AllK e E B bl.length ba bc wr) (by kernel_rfl) ⟨jf (jd _) b3,jf (jd _) b4,jd _⟩ (fun a1=>?_)
  have c7:∀ w',AllK e E B bl.length ba bc wr w'→w'.cell? ⟨E,0,none⟩=some (.int .u32 (e.toNat:Int)):=fun w' h=>h.ec
  have b8:∀ w',AllK e E B bl.length ba bc wr w'→w'.cell? ⟨B,0,none⟩=some (.slice ba bl.length bc):=fun w' h=>h.bc
  refine Te 0 8 ?_;refine Te 1 9 ?_;refine Te 2 10 ?_;refine Te 3 11 ?_;refine Rc 4 12 fun K hK=>?_
  try rw [if_pos (by kernel_rfl)]
  go_simp
  refine (A.1 _ a1.below).mono ?_;rintro rr w4 ⟨b9,b0⟩;obtain ⟨pv,kk,rfl,c0⟩:∃ (pv:Value) (kk:Nat),rr=.returned (.tuple #[pv,.int .i64 (kk:Int)])∧((yU e bl pre.length=none∧kk=0)∨∃ p,yU e bl pre.length=some (p,kk)∧OwnM w4 wr.heap.size 5 pv p.length (p.map V8)):=by
   rcases b0 with ⟨h1,h2⟩ | ⟨p,k,v,h1,h2,h3⟩
   · exact ⟨_,0,h2,.inl ⟨by unfold yU;rw [← H.1];exact h1,rfl⟩⟩
   · exact ⟨v,k,h2,.inr ⟨p,by unfold yU;rw [← H.1];exact h1,h3.lower a1.below.size⟩⟩
  refine hK.out _ _ (a1.keep b9) (fun a0=>?_)
  clear hK K b0 a1;have I:=Hd c0;clear c0
  try simp only [Nz]
  refine Te 5 7 ?_;refine Te 6 13 ?_;refine Te 7 14 ?_;refine Te 8 5 ?_;refine Te 9 6 ?_;refine Dn ?_;have c1:=Y.1 pre wr w4 D.1 a0.below;have c2:=O.1.trans (Mod.of_below (F:=fun b=>b<n₀∨w.heap.size≤b) a0.below)
  have d2:=a0.below.size;have L:=Hd c1;have R:=Hd c2;clear a0 c7 b8 b3 b4 b6 A D c1 c2 b9;by_cases h0k:kk=0
  ·
   have c3:yU e bl pre.length=none:=by
    rcases I.1 with h | ⟨p,h,_⟩
    · exact h.1
    · have:=vr h;omega
   have T:=Hd c3;clear c3;subst h0k;have hz:(((0:Nat):Int)==0)=true:=rfl;go_wp2_with fail;refine bodyPost_ret (results_none rfl _ _ _) rfl ?_;exact ⟨⟨_,rfl⟩,.inl ⟨pre,T.1,L.1⟩⟩
  ·
   obtain ⟨p,hp,a2⟩:∃ p,yU e bl pre.length=some (p,kk)∧OwnM w4 wr.heap.size 5 pv p.length (p.map V8):=by
    rcases I.1 with h | h
    · exact absurd h.2 h0k
    · exact h
   have hz:((kk:Int)==0)=false:=by rw [beq_eq_false_iff_ne];omega
   obtain ⟨fn,tmps,assign,body,hy,hR⟩:=X.1 pre (at_,pv) w4 L.1 ⟨H.1,⟨p,kk,hp,a2.lower O.1.size⟩,fun y hy k hk c8=>by have h1:=G.1 y hy k hk;have h2:=(a2.lt k c8).1;omega⟩
   have U:=Hd hp;have HO:=Hd a2;clear hp a2
   go_upto_region 2 with (fail)
   refine (wpIn_wide (n:=n)).1 ?_
   gi_wp2
   refine hR.mono ?_;rintro rr w5 (⟨rfl,c4,c5⟩ | ⟨rfl,c6⟩)
   ·
    have a3:yV e bl (pre ++ [(at_,pv)]).length=at_+kk:=by
     rw [List.length_append,List.length_singleton,zj U.1,← H.1]
    have c9:=uL e bl (pre ++ [(at_,pv)]).length;rw [a3] at c9;have b8:=(vr U.1).1;have V:=Hd c4;have M:=Hd c5;have C:=Hd a3;clear c4 c5 a3 hR hy;have d3:wrap64 ((at_:Int)+(kk:Int))=(at_:Int)+(kk:Int):=by unfold wrap64;omega
    try gi_wp2
    go_wp2_with fail
    go_roundg (bl.length-(at_+kk))
    case measure=>have:=Q.1;omega
    case rel=>exact ⟨pre ++ [(at_,pv)],by rw [C.1];omega,by rw [C.1];go_num,V.1,R.1.trans M.1,fun y hy b hb=>by
     have d4:=M.1.size
     rcases List.mem_append.1 hy with hy | hy
     · have:=G.1 y hy b hb;omega
     ·
      have d0:y=(at_,pv):=by simpa using hy
      subst d0;have:=(HO.1.lt b hb).2
      omega⟩
   ·
    try gi_wp2
    go_wp2_with fail;refine bodyPost_ret (results_none rfl _ _ _) rfl ?_;exact ⟨⟨_,rfl⟩,.inr ⟨_,trivial,c6⟩⟩
end Go.Proofs.YtgcnolapjppbpaaGreatDoor
