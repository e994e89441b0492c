/- Texts of one proof. -/
import Derived.Test.YtgcnolapjppbpaaGreatDoorK01
namespace Go.Proofs.YtgcnolapjppbpaaGreatDoor
open Go.RowKit _root_.Go.Proofs.Tryz
set_option maxRecDepth 100000
set_option maxHeartbeats 25600000
variable {Q:Exit->Act->World->Prop}{a a':Act}{w w':World}{ops:Array Oper}{o:Oper}{r k i p fuel t:Nat}{v v':Value}{l:List UInt8}{listed:Array Bool}{P:Program}{md:Region.Mode}{S:World->Prop}{x1:Op}{x2:TypeId}{x3:String}{x4:Array Edge}
def jaG (r:UInt32):UInt32:=(r >>> 1) ^^^ (0xedb88320 &&& -(r &&& 1))
def uX:Nat->UInt32->UInt32
 | 0,r=>r
 | n+1,r=>jaG (uX n r)
def jgm (r:UInt32)(c:UInt8):UInt32:=uX 8 (r ^^^ c.toUInt32)
def zr (r:UInt32)(l:List UInt8):UInt32:=l.foldl jgm r
def crc (l:List UInt8):UInt32 := ~~~(zr 0xffffffff l)
theorem jcU (r:UInt32)(l:List UInt8)(k:Nat)(h:k<l.length):zr r (l.take (k+1))=jgm (zr r (l.take k)) l[k]:=by
 rw [qk h,zr,List.foldl_append];rfl
theorem jeP (r:UInt32)(a b:List UInt8):zr r (a++b)=zr (zr r a) b:=by rw [zr,List.foldl_append];rfl
theorem jkc (r:UInt32):r &&& 1=0\/r &&& 1=1:=by
 have h:(r &&& 1).toNat<=1:=by
  rw [UInt32.toNat_and];exact Nat.and_le_right
 have:(r &&& 1).toNat=0\/(r &&& 1).toNat=1:=by omega
 rcases this with h | h
 . left;exact ki.1 (by simpa using h)
 . right;exact ki.1 (by simpa using h)
theorem jgN {r:UInt32}(h:r &&& 1=1):jaG r=(r >>> 1) ^^^ 0xedb88320:=by
 rw [jaG,h];rfl
theorem jf3 {r:UInt32}(h:r &&& 1=0):jaG r=r >>> 1:=by
 rw [jaG,h,show (0xedb88320 &&& -(0:UInt32))=0 from rfl,UInt32.xor_zero]
def jm (n:Int):Value:=if n=0 then .nilIface else .iface 91 n
theorem jkW (x:UInt32):bits .xor .u32 (I32 x / 2) (bits .and .u32 3988292384 (-bits .and .u32 (I32 x) 1 % 4294967296))=I32 (jaG x):=by
 rw [show (1:Int)=I32 1 from rfl,show (3988292384:Int)=I32 0xedb88320 from rfl,I32_and,jlO,I32_and,jdK,I32_xor];rfl
theorem jcn (p:Addr)(r:UInt32)(v:Value)(l:List UInt8)(w:World)(hp:w.cell? p=some (.int .u32 (I32 r)))(hf:w.frozen? p=false)(hv:Rd w v l.length (l.map V8)) :
  Calls prog 132 #[.pointer (some p),v] w fun e w'=>e=.returned (.tuple #[])/\w'=w.setCell p (.int .u32 (I32 (~~~(zr (~~~r) l)))):=by
 have hm:=hv.len;obtain ⟨a,cap,rfl,a3,a4,_,hc⟩:=hv;have H:=Hd hc;clear hc;go_enter func132,ntmps132
 go_wp2
 go_loop [4,14] (fun x i=>∃ k:Nat,k<=l.length/\i=.int .i64 k/\x=.int .u32 (I32 (zr (~~~r) (l.take k)))) (fun _ i=>l.length-(intOf i).toNat)
 case atStart=>exact ⟨0,by omega,rfl,rfl⟩
 case round =>
  obtain ⟨k,hk,rfl,rfl⟩:=hrel;by_cases hlt:k<l.length
  .
   obtain ⟨b,off,rfl,a0⟩:=H.1 k (by simpa using hlt)
   have a2:w.cell? ⟨b,off+k,none⟩=some (.int .u8 (l[k].toNat:Int)):=by rw [a0];simp [hlt,V8]
   clear H a0;have a1:=Hd (jcU (~~~r) l k hlt)
   go_wp2
   go_loop [4,22] (fun x i=>∃ j:Nat,j<=8/\i=.int .i64 j/\x=.int .u32 (I32 (uX j ((zr (~~~r) (l.take k)) ^^^ l[k].toUInt32)))) (fun _ i=>8-(intOf i).toNat)
   case atStart=>exact ⟨0,by omega,rfl,rfl⟩
   case round =>
    obtain ⟨j,hj,rfl,rfl⟩:=hrel;by_cases hlt:j<8
    .
     go_wp2
     go_round
     case rel=>exact ⟨j+1,by omega,by go_num,by rw [jkW];rfl⟩
     case measure=>simp [intOf];omega
    .
     go_wp2
     go_round
     case rel=>exact ⟨k+1,by omega,by go_num,by
      rw [a1.1];obtain rfl:j=8:=by omega
      rfl⟩
     case measure=>simp [intOf];omega
  .
   obtain rfl:k=l.length:=by omega
   go_wp2
   go_end0
   exact ⟨rfl,rfl⟩
theorem jbs (w:World):Calls prog 131 #[] w fun e w'=>e=.returned (.pointer (some ⟨w.heap.size,0,none⟩))/\w'=w.alloc (.cells #[.int .u32 (I32 0)] 256):=by
 go_enter func131,ntmps131
 go_wp2
 go_ret;exact ⟨rfl,rfl⟩
theorem jcP (p:Addr)(x:Value)(w:World)(hp:w.cell? p=some x):Calls prog 133 #[.pointer (some p)] w fun e w'=>e=.returned x/\w=w':=by
 go_enter func133,ntmps133
 go_wp2
 go_ret;exact ⟨rfl,rfl⟩
structure Soft (B:Nat)(I:World->Prop):Prop where
 below:∀ {A C:World},I A->Below A.heap.size A C->I C
 put:∀ {A:World} {l:Nat} {o:Obj} (o':Obj),I A->B<=l->A.heap[l]?=some o->o.isCells=false->I (A.putObj l o')
def jnf {α:Type}(F:Fence)(n:Nat)(P:Program)(g:Nat)(lb:Array Value)(encs : α->Array Value)(Fm:Nat->Prop)(T:List α -> α->World->Prop)(S Sp:List α->Prop)(w:World):Prop :=
 ∀ (l:Nat) (J Jx:List α->World->Prop) (W:World),Mod Fm w W->(∀ s (A C:World),J s A->Below A.heap.size A C->J s C)->(∀ s (A C:World),Jx s A->Below A.heap.size A C->Jx s C) ->
  (∀ pre x W1,J pre W1->T pre x W1->YieldAt F (n-1) P l (encs x) W1 fun e W'=>(e=.returned (.bool true)/\J (pre ++ [x]) W'/\Mod Fm W1 W')\/(e=.returned (.bool false)/\Jx (pre ++ [x]) W')) ->
  J [] W->CallsIn F n P g (#[.func (.yield l) #[] #[]]++lb) W fun e W'=>(∃ v,e=.returned v)/\((∃ xs,S xs/\J xs W')\/∃ pre,Sp pre/\Jx pre W')
def jmz {α:Type}(Fm:Nat->Prop)(I:List α->World->Prop)(Ix:Code->List α->World->Prop)(xs:List α)(W:World):Exit->Act->World->Prop
 | .normal,_,W'=>KeepsOthers W W'/\Mod Fm W W'/\I xs W'
 | .ret,_,W'=>KeepsOthers W W'/\Ix .ret xs W'
 | .exit id,_,W'=>KeepsOthers W W'/\Ix (.exit id) xs W'
 | .goto t,_,W'=>KeepsOthers W W'/\Ix (.goto t) xs W'
 | .panic _,_,_=>False
 | .outgrown,_,_=>False
theorem jf4 {Fm:Nat->Prop}{l:Nat}{W:World}(hn:Fm l)(o:Obj):Mod Fm W (W.putObj l o):=Mod.of_grown (grownBy_putObj' W l o) (fun k e=>by cases e;exact hn)
section
variable {F : Fence} {n : Nat} {P : Program}
theorem jbV {α:Type}{g:Operand}{ps:Array Tmp}{assign body:Code}(c1:F.round=none)(h1:1<=n){gf:Nat}{lb:Array Value}(hg:a.eval g=.func (.func gf) #[] lb)(c2:F.fn gf)(eg:∀ args w,(callFunc gf args).run P w=.ok (.enter gf args) w){encs : α->Array Value}{Fm:Nat->Prop}{T:List α -> α->World->Prop}{S Sp:List α->Prop}(b9:jnf F (n-1) P gf lb encs Fm T S Sp w)(b6:∀ b,w.heap.size<=b->Fm b)(c3:∀ x,(encs x).size=ps.size)(I:List α->World->Prop)(Ix:Code->List α->World->Prop)(hI:∀ s,Soft w.heap.size (I s))(a7:∀ c s,Soft w.heap.size (Ix c s))(hT:∀ s x,Soft w.heap.size (T s x))(h0:I [] w)(a₁ : α->Act)(a9:∀ (l:Nat) (x : α) (W:World) (K:Act->World->Prop),K (a₁ x) W->assign.wpIn (F.inRound l) (n-1-1) P (Exit.then K (fun _ _ _=>False)) { tmps:=(ps.zip (encs x)).foldl (fun t (p,v)=>t.setIfInBounds p v) a.tmps,defers := [] } W)(b3:∀ (l:Nat) (pre:List α) (x : α) (W:World),I pre W->T pre x W->body.wpIn (F.inRound l) (n-1-1) P (jmz Fm I Ix (pre ++ [x]) W) (a₁ x) W)(b4:∀ (D:Nat) (xs:List α) (W:World),S xs->I xs W->w.heap.size<=D->W.heap[D]?=some (.deferred (some []))->Q .normal { a with defers:={ target:=.collected D,args:=#[] }::a.defers } W)(b5:∀ (D:Nat) (c:Code) (pre:List α) (W:World),Sp pre->Ix c pre W->w.heap.size<=D->W.heap[D]?=some (.deferred (some []))->c.wpIn F n P Q { a with defers:={ target:=.collected D,args:=#[] }::a.defers } W) :
  (Code.rangeFunc g ps assign body).wpIn F n P Q a w:=by
 refine wpIn_rangeFunc fun fn c4=>?_
 rw [c1]
 let rec0:LoopState->Option Code->Loop:=fun st pe=>{ state:=st,pending:=pe,fn,tmps:=a.tmps,params:=ps,assign,body,defers:=w.heap.size }
 obtain ⟨rc,a1⟩:=Nm (rec0);obtain ⟨D,hD⟩:=Nm (w.heap.size);obtain ⟨WA,a8⟩:=Nm (w.alloc (.deferred (some [])));obtain ⟨W1,b0⟩:=Nm (WA.alloc (.loop (rc .ready none)));have b1:Below w.heap.size w WA:=by rw [a8];exact ja _ _
 have b2:Below WA.heap.size WA W1:=by rw [b0];exact ja _ _
 have c5:WA.heap.size=D+1:=by rw [a8,hD];simp
 have c6:WA.heap[D]?=some (.deferred (some [])):=by rw [a8,hD];exact ww w _
 have c7:W1.heap[D]?=some (.deferred (some [])):=by rw [b2.block D (by omega)];exact c6
 have c8:W1.heap[D+1]?=some (.loop (rc .ready none)):=by rw [<- c5,b0];exact ww WA _
 have c9:Below w.heap.size w W1:=b1.trans (b2.mono b1.size);have d8:D<=D+1:=wE D
 -- what is held between two rounds
 let J:List α->World->Prop:=fun pre W=>I pre W/\W.heap[D+1]?=some (.loop (rc .ready none))/\W.heap[D]?=some (.deferred (some []))
 let Jx:List α->World->Prop:=fun pre W=>∃ c,Ix c pre W/\W.heap[D+1]?=some (.loop (rc .done (some c)))/\W.heap[D]?=some (.deferred (some []))
 have keepAt:∀ {A C:World} {k:Nat} {o:Obj},A.heap[k]?=some o->Below A.heap.size A C->C.heap[k]?=some o:=fun h hb=>(hb.block _ (Array.getElem?_eq_some_iff.1 h).1).trans h
 refine ⟨D+1,[{ target:=.collected D,args:=#[] }],W1,{ target:=.fn (.func gf) lb,args:=#[.func (.yield (D+1)) #[] #[]] },W1,gf,#[.func (.yield (D+1)) #[] #[]]++lb,W1,?_,?_,?_,?_,fun _=>h1,?_⟩
 . rw [b0,a8,a1,hD];exact run_enterLoop_outer _ _ _ _ _
 .
  simp only [resolve,hg]
  simp [go_sem]
 . intro f' b7;simp [Target.leads] at b7;subst b7;exact c2
 . simp [invoke,go_sem,eg]
 .
  refine (b9 (D+1) J Jx W1 (Mod.of_below c9) (fun s A C h hb=>⟨(hI s).below h.1 hb,keepAt h.2.1 hb,keepAt h.2.2 hb⟩) (fun s A C h hb=>by
   obtain ⟨c,h1,h2,h3⟩:=h;exact ⟨c,(a7 c s).below h1 hb,keepAt h2 hb,keepAt h3 hb⟩) ?_ ⟨(hI []).below ((hI []).below h0 b1) b2,c8,c7⟩).mono ?_
  .
   rintro pre x W ⟨hi,hl,hd⟩ ht;have d0:D+1<W.heap.size:=(Array.getElem?_eq_some_iff.1 hl).1;have hy:=run_yield (P:=P) (args:=encs x) hl (by rw [a1];exact c3 x)
   rw [a1] at hy;refine ⟨fn,_,assign,body,hy,roundIn_of_wpIn c4 (a9 _ x W _ ⟨_,run_beginRound hl (by rw [a1]),?_⟩)⟩
   clear hy;obtain ⟨busy,b8⟩:∃ b:Loop,b={ rc .ready none with state:=.busy }:=⟨_,rfl⟩
   rw [<- b8];obtain ⟨W2,a5⟩:=Nm (W.putObj (D+1) (.loop busy));rw [<- a5];have d1:W2.heap[D+1]?=some (.loop busy):=by rw [a5];exact World.putObj_heap_same d0
   have d2:W2.heap[D]?=some (.deferred (some [])):=by rw [a5];exact (pG (by omega)).trans hd
   have d3:Mod Fm W W2:=by rw [a5];exact jf4 (b6 _ (by omega)) _
   have d4:I pre W2:=by rw [a5];exact (hI pre).put _ hi (by omega) hl rfl
   have d5:T pre x W2:=by rw [a5];exact (hT pre x).put _ ht (by omega) hl rfl
   have a6:∀ (jump:Option Code) (W3:World),KeepsOthers W2 W3->(Instr.endRound (D+1) jump).run P W3=.ok (.bool jump.isNone) (W3.putObj (D+1) (.loop (rc (if jump.isNone then .ready else .done) jump))) /\
     W3.heap[D+1]?=some (.loop busy)/\(W3.putObj (D+1) (.loop (rc (if jump.isNone then .ready else .done) jump))).heap[D+1]?=some (.loop (rc (if jump.isNone then .ready else .done) jump)) /\
     (W3.putObj (D+1) (.loop (rc (if jump.isNone then .ready else .done) jump))).heap[D]?=some (.deferred (some [])):=fun jump W3 hk=>by
    have a0:=hk.same _ _ d1 rfl;have hr:=run_endRound (P:=P) jump a0;refine ⟨by rw [hr,b8,a1],a0,World.putObj_heap_same (Array.getElem?_eq_some_iff.1 a0).1,(pG (by omega)).trans (hk.same _ _ d2 rfl)⟩
   refine wpIn_mono (b3 _ pre x _ d4 d5) ?_;rintro e a3 W3 hp
   cases e with
   | normal =>
    obtain ⟨d6,c0,d7⟩:=hp;obtain ⟨hr,a0,a2,a4⟩:=a6 none W3 d6;exact ⟨_,_,hr,.inl ⟨rfl,⟨(hI _).put _ d7 (by omega) a0 rfl,a2,a4⟩,(d3.trans c0).trans (jf4 (b6 _ (by omega)) _)⟩⟩
   | ret =>
    obtain ⟨hr,a0,a2,a4⟩:=a6 (some .ret) W3 hp.1;exact ⟨_,_,hr,.inr ⟨rfl,.ret,(a7 _ _).put _ hp.2 (by omega) a0 rfl,a2,a4⟩⟩
   | exit id =>
    obtain ⟨hr,a0,a2,a4⟩:=a6 (some (.exit id)) W3 hp.1;exact ⟨_,_,hr,.inr ⟨rfl,.exit id,(a7 _ _).put _ hp.2 (by omega) a0 rfl,a2,a4⟩⟩
   | goto t =>
    obtain ⟨hr,a0,a2,a4⟩:=a6 (some (.goto t)) W3 hp.1;exact ⟨_,_,hr,.inr ⟨rfl,.goto t,(a7 _ _).put _ hp.2 (by omega) a0 rfl,a2,a4⟩⟩
   | panic ch=>exact hp.elim
   | outgrown=>exact hp.elim
  .
   rintro e W2 ⟨⟨v,rfl⟩,(⟨xs,hS,hi,hl,hd⟩ | ⟨pre,hS,c,hi,hl,hd⟩)⟩
   .
    have hr:=run_endLoop (P:=P) hl (by rw [a1];simp [rec0])
    rw [a1] at hr;exact ⟨none,_,hr,by rw [hD] at *;exact b4 _ xs _ hS ((hI xs).put _ hi (by omega) hl rfl) (qm _) ((pG (by omega)).trans hd)⟩
   .
    have hr:=run_endLoop (P:=P) hl (by rw [a1];simp [rec0])
    rw [a1] at hr;exact ⟨some c,_,hr,by rw [hD] at *;exact b5 _ c pre _ hS ((a7 c pre).put _ hi (by omega) hl rfl) (qm _) ((pG (by omega)).trans hd)⟩
end
theorem jff {rest:List Oper}(a4:o.guard=none)(s x:Operand)(ho:o.op=.call { callee:=.builtin .append,args:=#[s,x],argTypes:=#[92,92] })(base:Nat)(v:Value)(n:Nat)(xs:List Value)(hs:a.eval s=v)(a0:OwnM w base 5 v n xs)(ad:Addr)(c:Nat)(y:Value)(hx:a.eval x=.slice (some ad) 1 c)(hy:w.cell? ad=some y)(h1:y.oneCell'=true)(a9:n+1<=140737488355328)(a3:base<=w.heap.size)(h:∀ v' w',OwnM w' base 5 v' (n+1) (xs ++ [y])->w.grownBy w' v.ownBlock->xj w v v'->jiL w w' v v' n->wpList prog ops Q rest (a.put o.dst v') w'):wpList prog ops Q (o::rest) a w:=by
 obtain ⟨i0,hi,a5,a6,a7⟩:=wI uE;refine pX a4 fun _ hK=>?_
 have a8:ad.add 0=ad:=by cases ad with | mk b o s=>cases s <;> rfl
 obtain ⟨v',w',hr,h2,h3,h4,h5⟩:=ui (P:=prog) w base 92 92 o.type 5 _ i0 (.int .u8 0) 1 underlying92 underlying92 (.inl ⟨_,rfl⟩) hi a5 a6 a7 rfl v n xs a0
  (.slice (some ad) 1 c) 1 [y] rfl (fun w=>by simp [Builtin.lenOf]) (fun wd hw=>by
   refine run_firstCells_some (P:=prog) wd 1 1 ad 1 c [y] rfl (fun j u hj=>?_)
   cases j with
   | zero=>simp at hj;subst hj;rw [a8,hw];exact hy
   | succ j=>simp at hj) (by simpa using h1) (by unfold maxLen;omega) (by omega) a3
 have h6:jiL w w' v v' n:=by
  rcases h5 with h5 | h5 | ⟨e1,_⟩
  . exact .inl h5
  . exact .inr h5
  .
   exfalso
   obtain ⟨a1,c1,e2,_⟩:=a0.slice;obtain ⟨a2,c2,e3,_⟩:=h2.slice;rw [e1,e2] at e3;injection e3 with _ e4 _
   omega
 unfold Oper.wp execOp;simp only [ho,resolve,invoke,builtin,wu,wB,qR,wV,wK,pF,hs,hx,hr];exact hK _ _ (h v' w' h2 h3 h4 h6)
theorem yX {rest:List Oper}(a5:o.guard=none)(s x:Operand)(ho:o.op=.call { callee:=.builtin .append,args:=#[s,x],argTypes:=#[92,92] })(base:Nat)(v:Value)(n:Nat)(xs:List Value)(hs:a.eval s=v)(a4:OwnM w base 5 v n xs)(src:Value)(l:List UInt8)(hx:a.eval x=src)(a0:Rd w src l.length (l.map V8))(b2:n+l.length<=140737488355328)(a2:base<=w.heap.size)(h:∀ v' w',OwnM w' base 5 v' (n+l.length) (xs++l.map V8)->w.grownBy w' v.ownBlock->xj w v v'->wpList prog ops Q rest (a.put o.dst v') w'):wpList prog ops Q (o::rest) a w:=by
 obtain ⟨i0,hi,a6,a7,a8⟩:=wI uE;refine pX a5 fun _ hK=>?_
 obtain ⟨v',w',hr,h2,h3,h4,_⟩:=ui (P:=prog) w base 92 92 o.type 5 _ i0 (.int .u8 0) 1 underlying92 underlying92 (.inl ⟨_,rfl⟩) hi a6 a7 a8 rfl v n xs a4
  src l.length (l.map V8) (by simp) (fun w=>by obtain ⟨ad,cap,rfl,_⟩:=a0;simp [Builtin.lenOf]) (fun wd hw=>by
   obtain ⟨ad,cap,rfl,b3,_,a1,a3⟩:=a0
   cases ad with
   | some ad =>
    refine run_firstCells_some (P:=prog) wd 1 l.length ad l.length cap (l.map V8) (by simp) (fun j u hj=>?_)
    have a9:j<(l.map V8).length:=(List.getElem?_eq_some_iff.1 hj).1;obtain ⟨b,off,e1,e2⟩:=a3 j a9;injection e1 with e1;subst e1
    rw [hw,wY,e2,List.getD,hj];rfl
   | none =>
    have b4:=a1 rfl;have b0:l = []:=qw (by omega)
    subst b0;have b1:cap=0:=a1 rfl;subst b1;exact run_firstCells_none ..) (by
   intro u hu;obtain ⟨c,_,rfl⟩:=pY.1 hu
   simp [V8,Value.oneCell']) (by unfold maxLen;omega) (by omega) a2
 unfold Oper.wp execOp;simp only [ho,resolve,invoke,builtin,wu,wB,qR,wV,wK,pF,hs,hx,hr];exact hK _ _ (h v' w' h2 h3 h4)
def zY:Nat->Nat->List UInt8
 | 0,_ => []
 | k+1,n=>if n<128 then [UInt8.ofNat n] else UInt8.ofNat (n % 128+128)::zY k (n / 128)
def yo (n:Nat):List UInt8:=zY 10 n
theorem jlr (k n:Nat):(zY k n).length<=k:=by
 induction k generalizing n with
 | zero=>simp [zY]
 | succ k ih =>
  rw [zY];split
  . simp
  . have:=ih (n / 128);simp only [qp];omega
theorem xy (n:Nat):(yo n).length<=10:=jlr 10 n
theorem jgq (n:Nat)(h:n<256):V8 (UInt8.ofNat n)=.int .u8 (n:Int):=by
 unfold V8;have:(UInt8.ofNat n).toNat=n % 256:=rfl;rw [this,Nat.mod_eq_of_lt h]
theorem jlF (n:Nat)(h:n<2 ^ 64):bits .and .u64 (n:Int) 127=((n % 128:Nat):Int):=by
 show IntKind.u64.wrap ((BitVec.ofInt 64 (n:Int) &&& BitVec.ofInt 64 127).toNat:Int)=_;rw [BitVec.toNat_and,p7,p7];have e1:((n:Int) % ((2 ^ 64:Nat):Int)).toNat=n:=by omega
 have e2:((127:Int) % ((2 ^ 64:Nat):Int)).toNat=2 ^ 7-1:=by decide
 rw [e1,e2,Nat.and_two_pow_sub_one_eq_mod];have:n % 2 ^ 7<128:=Nat.mod_lt _ (by decide)
 simp [IntKind.wrap,IntKind.bits,IntKind.signed];omega
theorem jnn (n:Nat)(h:n<128):bits .or .u8 (n:Int) 128=((n+128:Nat):Int):=by
 have:∀ n:Nat,n<128->bits .or .u8 (n:Int) 128=((n+128:Nat):Int):=by decide +kernel
 exact this n h
theorem jmL (n:Nat)(h:n<256):bits .or .u8 (n:Int) 128=((n % 128+128:Nat):Int):=by
 have:∀ n:Nat,n<256->bits .or .u8 (n:Int) 128=((n % 128+128:Nat):Int):=by decide +kernel
 exact this n h
theorem xw (n:Nat)(w:World)(hn:n<2 ^ 64) :
  Calls prog 158 #[.int .u64 (n:Int)] w fun e w'=>∃ o,e=.returned o/\OwnM w' w.heap.size 5 o (yo n).length ((yo n).map V8)/\Below w.heap.size w w':=by
 go_enter func158,ntmps158;go_wp2
 go_loopg [0,3,4] 10 (fun gk vv o iv wr=>∃ (i v:Nat) (l:List UInt8),gk+i=10/\vv=.int .u64 (v:Int)/\iv=.int .i64 (i:Int)/\v<2 ^ (70-7*i)/\v<2 ^ 64/\OwnM wr w.heap.size 5 o l.length (l.map V8)/\l++(if i=0\/0<v then zY (10-i) v else [])=yo n/\Below w.heap.size w wr)
 case atStart=>exact ⟨0,n,[],rfl,rfl,rfl,by omega,hn,OwnM.nil _ _ _,by simp [yo],qG _ _⟩
 case round =>
  obtain ⟨i,v,l,a5,rfl,rfl,hv,a4,a0,hl,hb⟩:=hrel;by_cases hc:i<10/\(i=0\/0<v)
  .
   obtain ⟨h1,h2⟩:=hc;obtain ⟨m,hm⟩:=Nm (v % 128);obtain ⟨q,hq⟩:=Nm (v / 128);have a7:=jlF v a4;rw [<- hm] at a7;have a8:m<128:=by omega
   have f1:(i:Int)<10:=by omega
   have f0:(0:Int)<=(i:Int):=by omega
   have hs:=hb.size;rw [qf h2,show 10-i=(9-i)+1 by omega] at hl
   unfold zY at hl;have b0:(v:Int) / 128=(q:Int):=by omega
   have C:=Hd a5;have D:=Hd h1;have E:=Hd (show q<2 ^ 64 by omega)
   have G:=Hd (show q<2 ^ (70-7*(i+1)) from by
    have e:2 ^ (70-7*i)=2 ^ (70-7*(i+1))*128:=by rw [show 70-7*i=(70-7*(i+1))+7 by omega,pO]
    rw [e] at hv;rw [hq];exact Nat.div_lt_of_lt_mul (by rw [wS];exact hv))
   have I:=Hd (show l.length+1<=140737488355328 from by
    have h5:(l++(if v<128 then [UInt8.ofNat v] else UInt8.ofNat (v % 128+128)::zY (9-i) (v / 128))).length=(yo n).length:=by rw [hl]
    have:=xy n;rw [qd] at h5;omega)
   by_cases hq0:0<q
   .
    have F:=Hd (show (l ++ [UInt8.ofNat (m+128)])++(if i+1=0\/0<q then zY (10-(i+1)) q else [])=yo n from by
     rw [qh (by omega)] at hl
     rw [qf (.inr hq0),<- hl,hm,hq,qB,show 10-(i+1)=9-i by omega];rfl)
    have a9:=jnn m a8;have B:=Hd (jgq (m+128) (by omega))
    obtain ⟨k,hk⟩:=Nm (m+128);rw [<- hk] at F a9 B;have g1:(0:Int)<(q:Int):=by omega
    clear hl hk;by_cases hi0:i=0
    .
     have f2:((i:Int)==0)=true:=by simp;omega
     clear hi0 h2 a5 hv a4 hm hq h1
     go_wp2_with (at_builtin;refine jff rfl _ _ rfl w.heap.size _ _ _ rfl (a0.below (ja wr _)) ⟨wr.heap.size,0,none⟩ 1 (.int .u8 ((k:Int):Int)) rfl (by exact pM _ _ _ 0 _ rfl) (by simp [Value.oneCell']) (by have:=I.1;omega) (by simp;omega) ?_)
     intro v' w1 a1 a2 _ _;have a3:=hb.trans ((ja wr (.cells #[.int .u8 ((k:Int):Int)] 5)).mono hs);have H:=Hd (a3.trans (je a2 (by simp;omega) (fun q hq=>(a0.lt q hq).1)))
     have A:=Hd a1;clear a3 a2 a1 a0 hb;go_wp2
     go_roundg (10-(i+1))
     case measure=>have:=C.1;have:=D.1;omega
     case rel=>exact ⟨i+1,q,l ++ [UInt8.ofNat k],by have:=C.1;have:=D.1;omega,by go_num,by go_num,G.1,E.1,by rw [qd,qM,qx,pK,B.1];exact A.1,F.1,H.1⟩
    .
     have f2:((i:Int)==0)=false:=by simp;omega
     have f3:(0:Int)<(v:Int):=by omega
     clear hi0 h2 a5 hv a4 hm hq h1
     go_wp2_with (at_builtin;refine jff rfl _ _ rfl w.heap.size _ _ _ rfl (a0.below (ja wr _)) ⟨wr.heap.size,0,none⟩ 1 (.int .u8 ((k:Int):Int)) rfl (by exact pM _ _ _ 0 _ rfl) (by simp [Value.oneCell']) (by have:=I.1;omega) (by simp;omega) ?_)
     intro v' w1 a1 a2 _ _;have a3:=hb.trans ((ja wr (.cells #[.int .u8 ((k:Int):Int)] 5)).mono hs);have H:=Hd (a3.trans (je a2 (by simp;omega) (fun q hq=>(a0.lt q hq).1)))
     have A:=Hd a1;clear a3 a2 a1 a0 hb;go_wp2
     go_roundg (10-(i+1))
     case measure=>have:=C.1;have:=D.1;omega
     case rel=>exact ⟨i+1,q,l ++ [UInt8.ofNat k],by have:=C.1;have:=D.1;omega,by go_num,by go_num,G.1,E.1,by rw [qd,qM,qx,pK,B.1];exact A.1,F.1,H.1⟩
   .
    have a6:m=v:=by omega
    have F:=Hd (show (l ++ [UInt8.ofNat m])++(if i+1=0\/0<q then zY (10-(i+1)) q else [])=yo n from by
     rw [qf (by omega)] at hl
     rw [qh (by omega),<- hl,a6,qF])
    have B:=Hd (jgq m (by omega))
    have g1:¬ (0:Int)<(q:Int):=by omega
    clear hl a6;by_cases hi0:i=0
    .
     have f2:((i:Int)==0)=true:=by simp;omega
     clear hi0 h2 a5 hv a4 hm hq h1
     go_wp2_with (at_builtin;refine jff rfl _ _ rfl w.heap.size _ _ _ rfl (a0.below (ja wr _)) ⟨wr.heap.size,0,none⟩ 1 (.int .u8 ((m:Int):Int)) rfl (by exact pM _ _ _ 0 _ rfl) (by simp [Value.oneCell']) (by have:=I.1;omega) (by simp;omega) ?_)
     intro v' w1 a1 a2 _ _;have a3:=hb.trans ((ja wr (.cells #[.int .u8 ((m:Int):Int)] 5)).mono hs);have H:=Hd (a3.trans (je a2 (by simp;omega) (fun q hq=>(a0.lt q hq).1)))
     have A:=Hd a1;clear a3 a2 a1 a0 hb;go_wp2
     go_roundg (10-(i+1))
     case measure=>have:=C.1;have:=D.1;omega
     case rel=>exact ⟨i+1,q,l ++ [UInt8.ofNat m],by have:=C.1;have:=D.1;omega,by go_num,by go_num,G.1,E.1,by rw [qd,qM,qx,pK,B.1];exact A.1,F.1,H.1⟩
    .
     have f2:((i:Int)==0)=false:=by simp;omega
     have f3:(0:Int)<(v:Int):=by omega
     clear hi0 h2 a5 hv a4 hm hq h1
     go_wp2_with (at_builtin;refine jff rfl _ _ rfl w.heap.size _ _ _ rfl (a0.below (ja wr _)) ⟨wr.heap.size,0,none⟩ 1 (.int .u8 ((m:Int):Int)) rfl (by exact pM _ _ _ 0 _ rfl) (by simp [Value.oneCell']) (by have:=I.1;omega) (by simp;omega) ?_)
     intro v' w1 a1 a2 _ _;have a3:=hb.trans ((ja wr (.cells #[.int .u8 ((m:Int):Int)] 5)).mono hs);have H:=Hd (a3.trans (je a2 (by simp;omega) (fun q hq=>(a0.lt q hq).1)))
     have A:=Hd a1;clear a3 a2 a1 a0 hb;go_wp2
     go_roundg (10-(i+1))
     case measure=>have:=C.1;have:=D.1;omega
     case rel=>exact ⟨i+1,q,l ++ [UInt8.ofNat m],by have:=C.1;have:=D.1;omega,by go_num,by go_num,G.1,E.1,by rw [qd,qM,qx,pK,B.1];exact A.1,F.1,H.1⟩
  .
   have e1:l=yo n:=by
    rw [<- hl];by_cases h2:i=0\/0<v
    .
     have h3:10<=i:=by omega
     have h4:i=10:=by omega
     rw [h4] at hv |-;have h5:v=0:=by omega
     rw [qh (by omega),qF]
    . rw [qh h2,qF]
   subst e1;by_cases hi:i<10
   .
    have f1:(i:Int)<10:=by omega
    have f2:((i:Int)==0)=false:=by simp;omega
    have f3:¬ (0:Int)<(v:Int):=by omega
    clear hc hl hv a4 a5;go_wp2;go_ret;exact ⟨_,rfl,a0,hb⟩
   .
    have f1:¬ (i:Int)<10:=by omega
    clear hc hl hv a4 a5;go_wp2;go_ret;exact ⟨_,rfl,a0,hb⟩
def ji (n:Int):List UInt8:=yo n.toNat
def yj (l:List UInt8):List UInt8:=yo l.length++l
theorem jfg (n:Nat)(h:n<=9223372036854775807):IntKind.u64.wrap (n:Int)=(n:Int):=by
 simp [IntKind.wrap,IntKind.bits,IntKind.signed];omega
theorem jbJ (n:Nat)(h:n<=9223372036854775807):(n:Int) % 18446744073709551616=(n:Int):=by omega
theorem jdC (n:Nat)(w:World)(hn:n<=9223372036854775807) :
  Calls prog 156 #[(n:Int)] w fun e w'=>∃ o,e=.returned o/\OwnM w' w.heap.size 5 o (yo n).length ((yo n).map V8)/\Below w.heap.size w w':=by
 have H:=Hd (xw n w (by omega))
 have z1:=jbJ n hn;go_enter func156,ntmps156;go_wp2_with fail;refine H.1.mono ?_;rintro e w1 ⟨o,rfl,ho,hb⟩;have A:=Hd ho;have B:=Hd hb;clear ho hb;go_wp2;go_ret;exact ⟨_,rfl,A.1,B.1⟩
theorem zC (l:List UInt8)(w:World)(hn:l.length<=140737488355000) :
  Calls prog 157 #[.string (SB l)] w fun e w'=>∃ o,e=.returned o/\OwnM w' w.heap.size 5 o (yj l).length ((yj l).map V8)/\Below w.heap.size w w':=by
 have H:=Hd (xw l.length w (by omega))
 have z1:=jbJ l.length (by omega)
 have a4:(SB l).size=l.length:=SB_size l;go_enter func157,ntmps157;go_wp2_with fail;refine H.1.mono ?_;rintro e w1 ⟨o,rfl,ho,hb⟩;have a3:=xy l.length;have hs:=hb.size;have A:=Hd (show (yo l.length).length+l.length<=140737488355328 by omega)
 go_wp2_with (at_builtin;refine je6 rfl _ _ rfl w.heap.size _ _ _ rfl ho l rfl (by have:=A.1;omega) (by omega) ?_)
 intro v' w2 a0 a1 _;have C:=Hd (hb.trans (je a1 hs (fun q hq=>(ho.lt q hq).1)))
 have B:=Hd a0;clear ho hb a0 a1;go_wp2;go_ret;exact ⟨_,rfl,by unfold yj;rw [qd,qM];exact B.1,C.1⟩
def pan (n:Int):Ending:=.panicked [{ v:=.iface 91 n,recovered:=false }]
structure IsR (w:World)(r:Nat)(v:Value)(l:List UInt8)(k:Nat):Prop where
 box:Box w r #[v,(k:Int)] 288
 rd:Rd w v l.length (l.map V8)
 le:k<=l.length
 ne:v.ownBlock≠some r
 sm:l.length<=1000000000000
theorem IsR.mod {F:Nat->Prop}(h:IsR w r v l k)(hm:Mod F w w')(h1:¬ F r)(h2:∀ b,v.ownBlock=some b->¬ F b):IsR w' r v l k :=
 ⟨h.box.mod hm h1,h.rd.keep (fun b hb hl=>hm.block b hl (h2 b hb)),h.le,h.ne,h.sm⟩
theorem IsR.below (h:IsR w r v l k)(hb:Below w.heap.size w w'):IsR w' r v l k:=h.mod (Mod.of_below (F:=fun _=>False) hb) (fun h=>h) (fun _ _ h=>h)
theorem IsR.set (h:IsR w r v l k)(j:Nat)(hj:j<=l.length):IsR (w.setCell ⟨r,1,none⟩ (j:Int)) r v l j/\Mod (fun b=>b=r) w (w.setCell ⟨r,1,none⟩ (j:Int)):=by
 have hm:=Mod.set (fun b=>b=r) w ⟨r,1,none⟩ (j:Int) rfl
 exact ⟨⟨h.box.set 1 _,h.rd.keep (fun b hb hl=>hm.block b hl (fun e=>h.ne (by rw [hb,e]))),hj,h.ne,h.sm⟩,hm⟩
theorem jl9 (r k:Nat)(v:Value)(l:List UInt8)(w:World)(h:IsR w r v l k)(hk:k<l.length) :
  Calls prog 190 #[.pointer (some ⟨r,0,none⟩)] w fun e w'=>e=.returned (V8 (l.getD k 0))/\IsR w' r v l (k+1)/\Mod (fun b=>b=r) w w':=by
 have hr:=h.rd;obtain ⟨a,cap,rfl,h1,h2,h3,h4⟩:=hr;obtain ⟨b,off,rfl,hc⟩:=h4 k (by simpa using hk)
 have a5:w.cell? ⟨b,off+k,none⟩=some (V8 (l.getD k 0)):=by rw [hc];simp [hk]
 have a7:=h.sm;have c0:=h.box.cell 0 _ rfl;have c1:=h.box.cell 1 _ rfl;have f1:=h.box.free 1;have I:=Hd h;have J:=Hd hk;have k0:(0:Int)<=(k:Int):=by omega
 have k1:(k:Int)<(l.length:Int):=by omega
 have K:=Hd a5;have a6:b≠r:=fun e=>h.ne (by simp [Value.ownBlock,e])
 clear h h4 hc a5 h3 hk;go_enter func190,ntmps190;go_wp2
 go_quiet (fail)
 have a2:Below w.heap.size w (w.drewN nq):=⟨rfl,rfl,rfl,qm _,fun _ _=>rfl⟩
 have H:=Hd (I.1.below a2);have B:=Hd (Mod.of_below (F:=fun b=>b=r) a2)
 have A:=Hd (jc a2 K.1);generalize w.drewN nq=w2 at H B A |-;clear a2 c0 c1 f1;have c0:=H.1.box.cell 0 _ rfl;have c1:=H.1.box.cell 1 _ rfl;have f1:=H.1.box.free 1;go_wp2_with fail;obtain ⟨a1,a3⟩:=H.1.set (k+1) J.1;have e1:((k+1:Nat):Int)=(k:Int)+1:=by omega
 have a0:(w2.setCell ⟨r,1,none⟩ ((k+1:Nat):Int)).cell? ⟨b,off+k,none⟩=some (V8 (l.getD k 0)):=by
  rw [World.cell?_of_block (w:=w2) (a3.block b (jaE A.1) a6)];exact A.1
 have d0:=a1.box.cell 0 _ rfl;have d1:=a1.box.cell 1 _ rfl;rw [e1] at a0 a1 a3 d0 d1;have C:=Hd a1;have D:=Hd (B.1.trans a3);have L:=Hd (show V8 (l.getD k 0)=.int .u8 ((l.getD k 0).toNat:Int) from rfl)
 rw [L.1] at a0;have z1:IntKind.i64.wrap ((k:Int)+1-1)=(k:Int):=by simp [IntKind.wrap,IntKind.bits,IntKind.signed];omega
 clear a1 a3 e1 c0 c1 f1;generalize w2.setCell _ _=w3 at a0 C D d0 d1 |-
 go_quiet (fail)
 have a4:Below w3.heap.size w3 (w3.drewN nq):=⟨rfl,rfl,rfl,qm _,fun _ _=>rfl⟩
 have E:=Hd (C.1.below a4);have G:=Hd (D.1.trans (Mod.of_below (F:=fun b=>b=r) a4))
 clear a4 a0 d0 d1;go_wp2;go_ret;exact ⟨rfl,E.1,G.1⟩
theorem jmK (r k:Nat)(v:Value)(l:List UInt8)(w:World)(h:IsR w r v l k)(hk:¬ k<l.length) :
  Calls prog 190 #[.pointer (some ⟨r,0,none⟩)] w fun e w'=>e=pan 2/\IsR w' r v l k/\Mod (fun b=>b=r) w w':=by
 have hr:=h.rd;obtain ⟨a,cap,rfl,h1,h2,h3,h4⟩:=hr;have a1:=h.sm;have c0:=h.box.cell 0 _ rfl;have c1:=h.box.cell 1 _ rfl;have B:=Hd h;have k0:(0:Int)<=(k:Int):=by omega
 have k1:¬ (k:Int)<(l.length:Int):=by omega
 clear h h4 h3 hk;go_enter func190,ntmps190;go_wp2
 go_quiet (fail)
 have a0:Below w.heap.size w (w.drewN nq):=⟨rfl,rfl,rfl,qm _,fun _ _=>rfl⟩
 have H:=Hd (B.1.below a0);have A:=Hd (Mod.of_below (F:=fun b=>b=r) a0)
 generalize w.drewN nq=w2 at H A |-;clear a0 c0 c1;go_wp2_with fail;exact ⟨rfl,rfl,H.1,A.1⟩
def yT (i v:Nat):List UInt8->Int × Nat × Nat
 | []=>(2,0,0)
 | c::r=>if (i=9/\1<c.toNat)\/(0<i/\c.toNat=0) then (4,0,0) else if c.toNat<128 then (0,v+c.toNat*2 ^ (7*i),i+1) else yT (i+1) (v+(c.toNat-128)*2 ^ (7*i)) r
def jX (l:List UInt8):Int × Nat × Nat:=yT 0 0 l
theorem jkz (y m:Nat)(h:y<256)(hm:m=y % 128):bits .and .u8 (y:Int) 127=(m:Int):=by
 have:∀ n:Nat,n<256->bits .and .u8 (n:Int) 127=((n % 128:Nat):Int):=by decide +kernel
 rw [this y h,hm]
theorem jlE (a b:Nat)(ha:a<2 ^ 64)(hb:b<2 ^ 64):bits .or .u64 (a:Int) (b:Int)=((a ||| b:Nat):Int):=by
 have hx:a ||| b<2 ^ 64:=Nat.or_lt_two_pow ha hb
 have ho:∀ n:Nat,n<2 ^ 64->(BitVec.ofInt 64 (n:Int)).toNat=n:=fun n hn=>by rw [p7];omega
 show IntKind.u64.wrap ((BitVec.ofInt 64 (a:Int) ||| BitVec.ofInt 64 (b:Int)).toNat:Int)=_
 rw [BitVec.toNat_or,ho a ha,ho b hb]
 simp [IntKind.wrap,IntKind.bits,IntKind.signed];omega
theorem jlc {m:Nat}(hm:m<128)(hi:i<=9)(h9:i=9->m<=1):m*2 ^ (7*i)<=2 ^ 63/\(i<9->m*2 ^ (7*i)<2 ^ 63):=by
 have h:i=0\/i=1\/i=2\/i=3\/i=4\/i=5\/i=6\/i=7\/i=8\/i=9:=by omega
 rcases h with rfl | rfl | rfl | rfl | rfl | rfl | rfl | rfl | rfl | rfl <;> first | (simp only [Nat.reduceMul,Nat.reducePow];omega) | (have:=h9 rfl;simp only [Nat.reduceMul,Nat.reducePow];omega)
theorem jb2 (u m i:Nat)(hu:u<2 ^ (7*i))(hm:m<128)(hi:i<=9)(h9:i=9->m<=1):bits .or .u64 (u:Int) (IntKind.u64.wrap ((m:Int)*2 ^ (7*i)))=((u+m*2 ^ (7*i):Nat):Int):=by
 have h1:=(jlc hm hi h9).1;have h2:(2:Nat) ^ (7*i)<=2 ^ 63:=Nat.pow_le_pow_right (by omega) (by omega)
 have h3:u<2 ^ 64:=by omega
 have h4:m*2 ^ (7*i)<2 ^ 64:=by omega
 have e1:((m:Int)*2 ^ (7*i))=((m*2 ^ (7*i):Nat):Int):=by simp
 have e2:IntKind.u64.wrap ((m*2 ^ (7*i):Nat):Int)=((m*2 ^ (7*i):Nat):Int):=by
  generalize m*2 ^ (7*i)=z at h4 |-
  simp [IntKind.wrap,IntKind.bits,IntKind.signed];omega
 rw [e1,e2,jlE u _ h3 h4,jgw u m (7*i) _ rfl hu,Nat.add_comm]
theorem jbM (r k:Nat)(v:Value)(l:List UInt8)(w:World)(h:IsR w r v l k) :
  Calls prog 180 #[.pointer (some ⟨r,0,none⟩)] w fun e w'=>Mod (fun b=>b=r) w w' /\
   (((jX (l.drop k)).1=0/\e=.returned (.int .u64 ((jX (l.drop k)).2.1:Int))/\IsR w' r v l (k+(jX (l.drop k)).2.2))\/((jX (l.drop k)).1≠0/\e=pan (jX (l.drop k)).1/\∃ j,IsR w' r v l j)):=by
 obtain ⟨N,hN⟩:=Nm (jX (l.drop k));rw [<- hN];have K:=Hd hN;clear hN;go_enter func180,ntmps180;go_wp2
 go_loopg [3,4] 10 (fun gk vv iv wr=>∃ (i u:Nat),gk+i=10/\i<=9/\vv=.int .u64 (u:Int)/\iv=.int .i64 (i:Int)/\u<2 ^ (7*i)/\k+i<=l.length/\IsR wr r v l (k+i)/\yT i u (l.drop (k+i))=N/\Mod (fun b=>b=r) w wr)
 case atStart=>exact ⟨0,0,rfl,by omega,rfl,rfl,by omega,by have:=h.le;omega,h,K.1.symm,Mod.refl _ _⟩
 case round =>
  obtain ⟨i,u,a2,hi,rfl,rfl,hu,a8,hR,hG,hM⟩:=hrel;have G:=Hd hR;have I:=Hd hM;by_cases hk:k+i<l.length
  .
   obtain ⟨c,hc⟩:=Nm (l.getD (k+i) 0);have hd:l.drop (k+i)=c::l.drop (k+i+1):=by
    rw [qL hk,hc];simp [List.getD,hk]
   rw [hd] at hG;go_wp2_with fail;refine (jl9 r (k+i) v l _ G.1 hk).mono ?_;rintro e w1 ⟨rfl,a4,a5⟩;rw [<- hc];obtain ⟨y,hy⟩:=Nm (c.toNat);have J:=Hd (show V8 c=.int .u8 (y:Int) by rw [hy];rfl)
   rw [J.1];unfold yT at hG;rw [<- hy] at hG;have a3:y<256:=by rw [hy];exact c.toNat_lt
   obtain ⟨m,hm⟩:=Nm (y % 128);have a0:m<128:=by omega
   have a9:bits .and .u8 (y:Int) 127=(m:Int):=jkz y m a3 hm;have b0:IntKind.u64.wrap (m:Int)=(m:Int):=by simp [IntKind.wrap,IntKind.bits,IntKind.signed];omega
   have z7:IntKind.i64.wrap (7*(i:Int))=7*(i:Int):=by simp [IntKind.wrap,IntKind.bits,IntKind.signed];omega
   have i0:(0:Int)<=(i:Int):=by omega
   have i9:(i:Int)<=9:=by omega
   have A:=Hd a4;have B:=Hd (I.1.trans a5);have D:=Hd a2;have E:=Hd hk;clear a4 a5 hR hM hd hc J a8
   rcases (show (i=9/\1<y)\/(i=9/\y=0)\/(i≠9/\0<i/\y=0)\/(i=0)\/(i≠9/\0<i/\y≠0)\/(i=9/\y=1) by omega) with hcs | hcs | hcs | hcs | hcs | hcs
   .
    have f9:((i:Int)==9)=true:=by simp;omega
    have fg:(1:Int)<(y:Int):=by omega
    have H:=Hd (show N=(4,0,0) from by rw [<- hG];exact qf (by omega))
    clear hu hG hm hy a3 a0 a2 hi hk hcs;go_wp2_with fail;rw [H.1];exact ⟨rfl,B.1,.inr ⟨by decide,rfl,_,A.1⟩⟩
   .
    have f9:((i:Int)==9)=true:=by simp;omega
    have fg:¬ (1:Int)<(y:Int):=by omega
    have f0:(0:Int)<(i:Int):=by omega
    have fy:((y:Int)==0)=true:=by simp;omega
    have H:=Hd (show N=(4,0,0) from by rw [<- hG];exact qf (by omega))
    clear hu hG hm hy a3 a0 a2 hi hk hcs;go_wp2_with fail;rw [H.1];exact ⟨rfl,B.1,.inr ⟨by decide,rfl,_,A.1⟩⟩
   .
    have f9:((i:Int)==9)=false:=by simp;omega
    have f0:(0:Int)<(i:Int):=by omega
    have fy:((y:Int)==0)=true:=by simp;omega
    have H:=Hd (show N=(4,0,0) from by rw [<- hG];exact qf (by omega))
    clear hu hG hm hy a3 a0 a2 hi hk hcs;go_wp2_with fail;rw [H.1];exact ⟨rfl,B.1,.inr ⟨by decide,rfl,_,A.1⟩⟩
   .
    have f9:((i:Int)==9)=false:=by simp;omega
    have f0:¬ (0:Int)<(i:Int):=by omega
    rw [qh (by omega)] at hG
    have a6:=jb2 u m i hu a0 hi (by omega)
    obtain ⟨q,hq⟩:=Nm (u+m*2 ^ (7*i));rw [<- hq] at a6;by_cases a1:y<128
    .
     have H:=Hd (show N=(0,q,i+1) from by rw [<- hG,qf a1,hq,show m=y by omega])
     have g1:(y:Int)<128:=by omega
     clear hu hG hm hy a3 a0 a2 hi hk hq a1 hcs;go_wp2;go_ret;rw [H.1];refine ⟨B.1,.inl ⟨rfl,rfl,?_⟩⟩;have:=A.1
     rwa [wC] at this
    .
     have a7:i<9:=by omega
     have H:=Hd (show yT (i+1) q (l.drop (k+(i+1)))=N from by rw [<- hG,qh a1,hq,show m=y-128 by omega,wC])
     have F:=Hd (show q<2 ^ (7*(i+1)) from by
      rw [show 7*(i+1)=7*i+7 by omega,pO,hq]
      have:(m+1)*2 ^ (7*i)<=128*2 ^ (7*i):=qQ _ (by omega)
      rw [pf] at this;rw [wS (2 ^ (7*i)) (2 ^ 7)];omega)
     have C:=Hd a7;have g1:¬ (y:Int)<128:=by omega
     clear hu hG hm hy a3 a0 a2 hi hk hq a1 a7 hcs;go_wp2
     go_roundg (10-(i+1))
     case measure=>have:=D.1;have:=C.1;omega
     case rel=>exact ⟨i+1,q,by have:=C.1;omega,by have:=C.1;omega,rfl,by go_num,F.1,by have:=E.1;omega,A.1,H.1,B.1⟩
   .
    have f9:((i:Int)==9)=false:=by simp;omega
    have f0:(0:Int)<(i:Int):=by omega
    have fy:((y:Int)==0)=false:=by simp;omega
    rw [qh (by omega)] at hG
    have a6:=jb2 u m i hu a0 hi (by omega)
    obtain ⟨q,hq⟩:=Nm (u+m*2 ^ (7*i));rw [<- hq] at a6;by_cases a1:y<128
    .
     have H:=Hd (show N=(0,q,i+1) from by rw [<- hG,qf a1,hq,show m=y by omega])
     have g1:(y:Int)<128:=by omega
     clear hu hG hm hy a3 a0 a2 hi hk hq a1 hcs;go_wp2;go_ret;rw [H.1];refine ⟨B.1,.inl ⟨rfl,rfl,?_⟩⟩;have:=A.1
     rwa [wC] at this
    .
     have a7:i<9:=by omega
     have H:=Hd (show yT (i+1) q (l.drop (k+(i+1)))=N from by rw [<- hG,qh a1,hq,show m=y-128 by omega,wC])
     have F:=Hd (show q<2 ^ (7*(i+1)) from by
      rw [show 7*(i+1)=7*i+7 by omega,pO,hq]
      have:(m+1)*2 ^ (7*i)<=128*2 ^ (7*i):=qQ _ (by omega)
      rw [pf] at this;rw [wS (2 ^ (7*i)) (2 ^ 7)];omega)
     have C:=Hd a7;have g1:¬ (y:Int)<128:=by omega
     clear hu hG hm hy a3 a0 a2 hi hk hq a1 a7 hcs;go_wp2
     go_roundg (10-(i+1))
     case measure=>have:=D.1;have:=C.1;omega
     case rel=>exact ⟨i+1,q,by have:=C.1;omega,by have:=C.1;omega,rfl,by go_num,F.1,by have:=E.1;omega,A.1,H.1,B.1⟩
   .
    have f9:((i:Int)==9)=true:=by simp;omega
    have fg:¬ (1:Int)<(y:Int):=by omega
    have f0:(0:Int)<(i:Int):=by omega
    have fy:((y:Int)==0)=false:=by simp;omega
    rw [qh (by omega)] at hG
    have a6:=jb2 u m i hu a0 hi (by omega)
    obtain ⟨q,hq⟩:=Nm (u+m*2 ^ (7*i));rw [<- hq] at a6;have a1:y<128:=by omega
    have H:=Hd (show N=(0,q,i+1) from by rw [<- hG,qf a1,hq,show m=y by omega])
    have g1:(y:Int)<128:=by omega
    clear hu hG hm hy a3 a0 a2 hi hk hq a1 hcs;go_wp2;go_ret;rw [H.1];refine ⟨B.1,.inl ⟨rfl,rfl,?_⟩⟩;have:=A.1
    rwa [wC] at this
  .
   have H:=Hd (show N=(2,0,0) from by
    rw [qZ (by omega)] at hG
    rw [<- hG];rfl)
   have L:=Hd hk;clear hu hG hR hM hk a8;go_wp2_with fail;refine (jmK r (k+i) v l _ G.1 L.1).mono ?_;rintro e w1 ⟨rfl,a4,a5⟩;have A:=Hd a4;have B:=Hd (I.1.trans a5);clear a4 a5;unfold pan;go_wp2_with fail;rw [H.1];exact ⟨rfl,B.1,.inr ⟨by decide,rfl,_,A.1⟩⟩
structure IsW (w:World)(B p:Nat)(v:Value)(l:List UInt8):Prop where
 box:Box w p #[v] 188
 own:OwnM w B 5 v l.length (l.map V8)
 ne:v.ownBlock≠some p
def Fresh (w:World)(v v':Value):Prop:=∀ k,v'.ownBlock=some k->v.ownBlock=some k\/w.heap.size<=k
theorem Fresh.refl (w:World)(v:Value):Fresh w v v:=fun _ h=>.inl h
theorem Fresh.moved {v'':Value}(h:Fresh w v v')(hs:w.heap.size<=w'.heap.size)(hm:xj w' v' v''):Fresh w v v'':=fun k hk=>by
 rcases hm with e | e
 . rw [e] at hk;exact h k hk
 . rw [e] at hk;injection hk with hk;exact .inr (by omega)
theorem Fresh.trans {v'':Value}(h:Fresh w v v')(hs:w.heap.size<=w'.heap.size)(k:Fresh w' v' v''):Fresh w v v'':=fun j hj=>by
 rcases k j hj with e | e
 . exact h j e
 . exact .inr (by omega)
def WF (p:Nat)(v:Value):Nat->Prop:=fun k=>k=p\/v.ownBlock=some k
theorem WF.then {w1 w2:World}(h:Mod (WF p v) w w1)(hf:Fresh w v v')(k:Mod (WF p v') w1 w2):Mod (WF p v) w w2 :=
 h.then k (fun i hi=>by
  rcases hi with rfl | hi
  . exact .inl (.inl rfl)
  .
   rcases hf i hi with e | e
   . exact .inl (.inr e)
   . exact .inr e)
theorem IsW.below {B:Nat}(h:IsW w B p v l)(hb:Below w.heap.size w w'):IsW w' B p v l:=⟨h.box.below hb,h.own.below hb,h.ne⟩
theorem IsW.step {w1:World}{B:Nat}{m:List UInt8}(h:IsW w B p v l)(a1:OwnM w1 B 5 v' (l.length+m.length) (l.map V8++m.map V8))(hg:w.grownBy w1 v.ownBlock)(hm:xj w v v') :
  IsW (w1.setCell ⟨p,0,none⟩ v') B p v' (l++m)/\Mod (WF p v) w (w1.setCell ⟨p,0,none⟩ v')/\Fresh w v v':=by
 have a3:=h.box.lt;have a0:v'.ownBlock≠some p:=by
  rcases hm with e | e
  . rw [e];exact h.ne
  . rw [e];intro e2;injection e2 with e2;omega
 have a2:Box w1 p #[v] 188:=h.box.grown hg h.ne;refine ⟨⟨by have:=a2.set 0 v';exact this,?_,a0⟩,?_,(Fresh.refl w v).moved (qm _) hm⟩
 .
  rw [qd,qM];exact a1.mod (Mod.set (fun k=>k=p) w1 ⟨p,0,none⟩ v' rfl) (fun k hk e=>a0 (by rw [hk,e]))
 . exact (Mod.of_grown hg (F:=WF p v) (fun k hk=>.inr hk)).trans (Mod.set _ _ _ _ (.inl rfl))
theorem jaz (w:World) :
  Calls prog 66 #[] w fun e w'=>e=.returned (.pointer (some ⟨w.heap.size,0,none⟩))/\IsW w' w.heap.size w.heap.size (.slice none 0 0) []/\Below w.heap.size w w':=by
 go_enter func66,ntmps66;go_wp2;go_ret;exact ⟨rfl,⟨Box.new _ _ _,OwnM.nil _ _ _,by simp [Value.ownBlock]⟩,ja _ _⟩
theorem zB (B p:Nat)(v0:Value)(l0:List UInt8)(n:Nat)(w:World)(hw:IsW w B p v0 l0)(hn:n<2 ^ 64)(b5:l0.length<=140737488350000)(hB:B<=w.heap.size) :
  Calls prog 68 #[.pointer (some ⟨p,0,none⟩),.int .u64 (n:Int)] w fun e w'=>e=.returned (.tuple #[])/\∃ v',IsW w' B p v' (l0++yo n)/\Mod (WF p v0) w w'/\Fresh w v0 v':=by
 go_enter func68,ntmps68;go_wp2
 go_loopg [1] n (fun gk vv wr=>∃ (i v:Nat) (l:List UInt8) (v1:Value),gk=v/\i<=9/\vv=.int .u64 (v:Int)/\v<2 ^ (70-7*i)/\v<2 ^ 64/\IsW wr B p v1 (l0++l)/\l++zY (10-i) v=yo n/\Mod (WF p v0) w wr/\Fresh w v0 v1)
 case atStart=>exact ⟨0,n,[],v0,rfl,by omega,rfl,by omega,hn,by rw [qF];exact hw,by simp [yo],Mod.refl _ _,Fresh.refl _ _⟩
 case round =>
  obtain ⟨i,v,l,v1,a7,hi,rfl,hv,a8,hW,hl,hM,hF⟩:=hrel;have hs:=hM.size;have a4:(l0++l).length+1<=140737488355328:=by
   have h5:(l++zY (10-i) v).length=(yo n).length:=by rw [hl]
   have:=xy n;rw [qd] at h5 |-;omega
  obtain ⟨L,a9⟩:=Nm (l0++l);rw [<- a9] at hW a4;have J:=Hd a9;clear a9;have M:=Hd a4;have hc:=hW.box.cell 0 v1 rfl;have b1:=hW.box.free 0;have hp:=hW.box.lt;obtain ⟨xa,xc,rfl,_⟩:=hW.own.slice;have E:=Hd hW;have N:=Hd hM;have G:=Hd hF;have S:=Hd hl;by_cases hc2:127<v
  .
   have g1:(127:Int)<(v:Int):=by omega
   have O:=Hd a7;obtain ⟨k,hk⟩:=Nm (v % 128+128);have H:=Hd (jgq k (by omega))
   have b6:bits .or .u8 ((v:Int) % 256) 128=(k:Int):=by
    have:=jmL (v % 256) (by omega)
    rw [show ((v:Int) % 256)=((v % 256:Nat):Int) by omega,this];omega
   have b2:i<9:=by
    rcases qX i 9 with h | h
    . exact h
    .
     have:i=9:=by omega
     subst this;omega
   have R:=Hd b2;have K:=Hd (show v / 128<2 ^ 64 by omega)
   have P:=Hd (show v / 128<2 ^ (70-7*(i+1)) from by
    have e:2 ^ (70-7*i)=2 ^ (70-7*(i+1))*128:=by rw [show 70-7*i=(70-7*(i+1))+7 by omega,pO]
    rw [e] at hv;exact Nat.div_lt_of_lt_mul (by rw [wS];exact hv))
   have I:=Hd (show (l ++ [UInt8.ofNat k])++zY (10-(i+1)) (v / 128)=yo n from by
    rw [show 10-i=(9-i)+1 by omega] at hl
    unfold zY at hl;rw [qh (by omega)] at hl
    rw [<- hl,hk,qB,show 10-(i+1)=9-i by omega];rfl)
   have b3:(v:Int) / 128=((v / 128:Nat):Int):=by omega
   obtain ⟨q,hq⟩:=Nm (v / 128);rw [<- hq] at b3 P K I;have Q:=Hd (show q<v by omega)
   clear hv a8 hl hM hF hi a4 a7 hc2 hk b2 hq hW
   go_wp2_with (at_builtin;refine jff rfl _ _ rfl B _ _ _ rfl (E.1.own.below (ja wr _)) ⟨wr.heap.size,0,none⟩ 1 (.int .u8 (k:Int)) rfl (by exact pM _ _ _ 0 _ rfl) (by simp [Value.oneCell']) (by have:=M.1;omega) (by simp;omega) ?_)
   intro v' w1 a0 a2 a5 _;obtain ⟨ya,yc,rfl,_⟩:=a0.slice;have a1:=E.1.below (ja wr (.cells #[.int .u8 (k:Int)] 5));have b0:=a1.step (m := [UInt8.ofNat k]) (by rw [qx,pK,H.1];exact a0) a2 a5
   obtain ⟨s1,s2,s3⟩:=b0;have a3:Box w1 p #[_] _:=a1.box.grown a2 a1.ne;have c1:=a3.cell 0 _ rfl;have f1:=a3.free 0;have a6:=Mod.of_below (F:=WF p (.slice xa L.length xc)) (ja wr (.cells #[.int .u8 (k:Int)] 5));have A:=Hd s1;have C:=Hd (WF.then N.1 G.1 (a6.trans s2));have D:=Hd (G.1.trans hs (Fresh.trans (Fresh.refl wr _) (show wr.heap.size<=(wr.alloc (.cells #[.int .u8 (k:Int)] 5)).heap.size by simp) s3))
   clear s1 s2 s3 a3 a1 a6 a0 a2 a5 hc b1 hp;go_wp2
   go_roundg q
   case measure=>have:=Q.1;have:=O.1;omega
   case rel=>exact ⟨i+1,q,l ++ [UInt8.ofNat k],_,rfl,by have:=R.1;omega,by go_num,P.1,K.1,by rw [<- qB,<- J.1];exact A.1,I.1,C.1,D.1⟩
  .
   have g1:¬ (127:Int)<(v:Int):=by omega
   have H:=Hd (jgq v (by omega))
   have b4:(v:Int) % 256=(v:Int):=by omega
   have I:=Hd (show l ++ [UInt8.ofNat v]=yo n from by
    rw [show 10-i=(9-i)+1 by omega] at hl
    unfold zY at hl;rw [qf (by omega)] at hl;exact hl)
   clear hv a8 hl hM hF hi a4 a7 hc2 hW
   go_wp2_with (at_builtin;refine jff rfl _ _ rfl B _ _ _ rfl (E.1.own.below (ja wr _)) ⟨wr.heap.size,0,none⟩ 1 (.int .u8 (v:Int)) rfl (by exact pM _ _ _ 0 _ rfl) (by simp [Value.oneCell']) (by have:=M.1;omega) (by simp;omega) ?_)
   intro v' w1 a0 a2 a5 _;obtain ⟨ya,yc,rfl,_⟩:=a0.slice;have a1:=E.1.below (ja wr (.cells #[.int .u8 (v:Int)] 5));have b0:=a1.step (m := [UInt8.ofNat v]) (by rw [qx,pK,H.1];exact a0) a2 a5
   obtain ⟨s1,s2,s3⟩:=b0;have a3:Box w1 p #[_] _:=a1.box.grown a2 a1.ne;have c1:=a3.cell 0 _ rfl;have f1:=a3.free 0;have a6:=Mod.of_below (F:=WF p (.slice xa L.length xc)) (ja wr (.cells #[.int .u8 (v:Int)] 5));have A:=Hd s1;have C:=Hd (WF.then N.1 G.1 (a6.trans s2));have D:=Hd (G.1.trans hs (Fresh.trans (Fresh.refl wr _) (show wr.heap.size<=(wr.alloc (.cells #[.int .u8 (v:Int)] 5)).heap.size by simp) s3))
   clear s1 s2 s3 a3 a1 a6 a0 a2 a5 hc b1 hp;go_wp2;refine pE (wZ rfl _ _ _) rfl ?_;refine ⟨rfl,_,?_,C.1,D.1⟩;rw [show l0++yo n=L ++ [UInt8.ofNat v] from by rw [J.1,qB,I.1]];exact A.1
theorem jaj (B p:Nat)(v0:Value)(l0:List UInt8)(m:List UInt8)(w:World)(hw:IsW w B p v0 l0)(hm:m.length<=140737488340000)(a4:l0.length+m.length<=140737488350000)(hB:B<=w.heap.size) :
  Calls prog 69 #[.pointer (some ⟨p,0,none⟩),.string (SB m)] w fun e w'=>e=.returned (.tuple #[])/\∃ v',IsW w' B p v' (l0++yj m)/\Mod (WF p v0) w w'/\Fresh w v0 v':=by
 have G:=Hd (zB B p v0 l0 m.length w hw (by omega) (by omega) hB)
 have z1:=jbJ m.length (by omega)
 have a5:(SB m).size=m.length:=SB_size m;go_enter func69,ntmps69;go_wp2_with fail;refine G.1.mono ?_;rintro e w1 ⟨rfl,v1,h1,h2,h3⟩;obtain ⟨L,hL⟩:=Nm (l0++yo m.length);rw [<- hL] at h1;have I:=Hd (show L.length+m.length<=140737488355328 from by
  have:=xy m.length;rw [hL,qd];omega)
 have A:=Hd hL;have hs:=h2.size;obtain ⟨xa,xc,rfl,_⟩:=h1.own.slice;have hc:=h1.box.cell 0 _ rfl;have H:=Hd h1;have J:=Hd h2;have C:=Hd h3;clear h1 h2 h3 hL
 go_wp2_with (at_builtin;refine je6 rfl _ _ rfl B _ _ _ rfl H.1.own m rfl (by have:=I.1;omega) (by omega) ?_)
 intro v' w2 a0 a1 a3;obtain ⟨ya,yc,rfl,_⟩:=a0.slice;obtain ⟨s1,s2,s3⟩:=H.1.step a0 a1 a3;have a2:Box w2 p #[_] _:=H.1.box.grown a1 H.1.ne;have c1:=a2.cell 0 _ rfl;have f1:=a2.free 0;have D:=Hd s1;have E:=Hd (WF.then J.1 C.1 s2);have F:=Hd (C.1.trans hs s3);clear s1 s2 s3 a2 a0 a1 a3 hc;go_wp2;refine pE (wZ rfl _ _ _) rfl ?_;refine ⟨rfl,_,?_,E.1,F.1⟩;rw [show l0++yj m=L++m from by rw [A.1,qB];rfl];exact D.1
theorem jcx (v:Value)(l:List UInt8)(w:World)(hv:Rd w v l.length (l.map V8))(hl:l.length<=140737488355000) :
  Calls prog 97 #[v] w fun e w'=>∃ o,e=.returned o/\OwnM w' w.heap.size 5 o l.length (l.map V8)/\Below w.heap.size w w':=by
 have a1:=hv;obtain ⟨a,cap,rfl,h1,h2,h3,h4⟩:=hv
 cases a with
 | none =>
  have h0:l = []:=qw (by have:=h3 rfl;omega)
  subst h0;have a4:cap=0:=h3 rfl;subst a4;clear h4 h3 a1;have a2:=fun w=>pQ (P:=prog) w 92 5 none 0 0 0 0 underlying92
  change ∀ w,Sem.run _ _ w=Result.ok (Value.bool true) w at a2
  go_enter func97,ntmps97;go_wp2;go_ret;exact ⟨_,rfl,OwnM.nil _ _ _,qG _ _⟩
 | some a =>
  have B:=Hd a1;clear h4 h3 a1;have a2:=fun w=>pQ (P:=prog) w 92 5 (some a) l.length cap 0 0 underlying92
  change ∀ w,Sem.run _ _ w=Result.ok (Value.bool false) w at a2
  have H:=Hd (show OwnM (w.alloc (.cells #[] 5)) w.heap.size 5 (.slice (some ⟨w.heap.size,0,none⟩) 0 0) 0 [] from ⟨rfl,.inr ⟨w.heap.size,0,#[],(0,0),rfl,qm _,ww w _,.inl rfl,by omega,by unfold maxLen;omega,by simp,rfl⟩⟩)
  go_enter func97,ntmps97
  go_wp2_with (at_builtin;refine yX rfl _ _ rfl w.heap.size _ _ _ rfl H.1 _ l rfl (B.1.below (ja w _)) (by omega) (by simp) ?_)
  intro v' w2 a0 a3 a5;have C:=Hd ((ja w (.cells #[] 5)).trans (je a3 (by simp) (fun q hq=>(H.1.lt q hq).1)))
  have A:=Hd a0;clear a0 a3 a5;go_wp2;go_ret;exact ⟨_,rfl,A.1,C.1⟩
theorem zT (B p:Nat)(v:Value)(l:List UInt8)(w:World)(hw:IsW w B p v l)(hl:l.length<=140737488355000) :
  Calls prog 70 #[.pointer (some ⟨p,0,none⟩)] w fun e w'=>∃ o,e=.returned o/\OwnM w' w.heap.size 5 o l.length (l.map V8)/\Below w.heap.size w w':=by
 obtain ⟨xa,xc,rfl,_⟩:=hw.own.slice;have hc:=hw.box.cell 0 _ rfl;have H:=Hd (jcx _ l w hw.own.rd hl);clear hw;go_enter func70,ntmps70;go_wp2_with fail;refine H.1.mono ?_;rintro e w1 ⟨o,rfl,h1,h2⟩;have A:=Hd h1;have C:=Hd h2;clear h1 h2;go_wp2;go_ret;exact ⟨_,rfl,A.1,C.1⟩
theorem jD (w:World)(k:Nat):Below w.heap.size w (w.drewN k):=⟨rfl,rfl,rfl,qm _,fun _ _=>rfl⟩
def jfS (k i:Int):List UInt8 := [35,B8 k,B8 (k / 256),B8 i,B8 (i / 256)]
theorem jdT (k i:Int)(w:World) :
  Calls prog 113 #[k,i] w fun e w'=>e=.returned (.string (SB (jfS k i)))/\Below w.heap.size w w':=by
 have a0:=jiw w #[.int .u8 35,.int .u8 (k % 256),.int .u8 (k / 256 % 256),.int .u8 (i % 256),.int .u8 (i / 256 % 256)] 5 (jfS k i) (by
  show _ = [V8 35,V8 (B8 k),V8 (B8 (k / 256)),V8 (B8 i),V8 (B8 (i / 256))];rw [ji4,ji4,ji4,ji4];rfl) (by show 5<=_;decide)
 have kc:=uP (jfS k i) a0 rfl;have H:=Hd (ja w (.cells #[.int .u8 35,.int .u8 (k % 256),.int .u8 (k / 256 % 256),.int .u8 (i % 256),.int .u8 (i / 256 % 256)] 5));obtain ⟨s,hs⟩:=Nm (SB (jfS k i));rw [<- hs] at kc |-;have kc:(convert 92 9 (.slice (some ⟨w.heap.size,0,none⟩) 5 5)).run prog (w.alloc (.cells #[.int .u8 35,.int .u8 (k % 256),.int .u8 (k / 256 % 256),.int .u8 (i % 256),.int .u8 (i / 256 % 256)] 5))=.ok (.string s) (w.alloc (.cells #[.int .u8 35,.int .u8 (k % 256),.int .u8 (k / 256 % 256),.int .u8 (i % 256),.int .u8 (i / 256 % 256)] 5)):=kc;clear a0 hs;go_enter func113,ntmps113;go_wp2;go_ret;exact ⟨rfl,H.1⟩
section
variable {P : Program} {ops : Array Oper} {Q : Exit → Act → World → Prop} {md : Region.Mode} {F : World → Prop} {t : Nat}
def zO (P:Program)(md:Region.Mode)(ops:Array Oper)(Q:Exit->Act->World->Prop)(F:World->Prop)(t:Nat):Nat->Array Bool->Act->World->Prop
 | 0,listed,a,w=>Region.ready md ops listed = []/\Q .normal a w
 | fuel+1,listed,a,w =>
  (Region.ready md ops listed = []->Q .normal a w) /\
  ∀ i∈Region.ready md ops listed,wpOp P ops Q i (fun a' w'=>(i=t\/F w')/\zO P md ops Q F t fuel (listed.setIfInBounds i true) a' w') a w
theorem jaL:∀ (fuel:Nat) (listed:Array Bool) (a:Act) (w:World),zO P md ops Q F t fuel listed a w->wpAny P md ops Q fuel listed a w
 | 0,_,_,_,h=>h
 | fuel+1,_,_,_,h=>⟨h.1,fun i hi=>wpOp_mono (fun a' w' h'=>jaL fuel _ a' w' h'.2) (h.2 i hi)⟩
def jbk (md:Region.Mode)(ops:Array Oper)(t i:Nat):Bool:=match ops[t]? with
 | some o=>o.after.toList.any (fun e=>Region.binds md e&&e.on==i)
 | none=>false
theorem jip (h:jbk md ops t i=true)(hi:i∈Region.ready md ops listed):t ∉ Region.ready md ops listed:=fun ht=>by
 obtain ⟨_,ot,a1,a0⟩:=mem_ready.1 ht;unfold jbk at h;rw [a1] at h;obtain ⟨e,he,h2⟩:=kl.1 h;rw [qq,qK] at h2;have h1:=a0 e (Array.mem_toList_iff.1 he) h2.1;have h0:=(mem_ready.1 hi).1;rw [h2.2] at h1
 rcases qX i listed.size with h' | h'
 . simp [h'] at h0 h1;rw [h0] at h1;cases h1
 . simp [Array.getElem?_eq_none h'] at h1
theorem jgk {oi:Oper}(hi:ops[i]?=some oi)(a1:∀ (j:Nat) (o:Oper) cs b,ops[j]?=some o->o.op≠.select cs b)(hQ:∀ c a w,Q (.panic c) (a.put oi.dst v) w->Q (.panic c) a w)(a8:jbk md ops t i=true) :
  ∀ (fuel:Nat) (listed:Array Bool) (a:Act) (w:World),
   (∀ j oj,ops[j]?=some oj->j≠i->listed.getD j true=false->(∀ e∈oj.after,Region.binds md e=true->e.on≠i)->oi.apart ops oj=true) ->
   i∈Region.ready md ops listed->YieldsIf P ops F oi v a->F w ->
   zO P md ops Q F t fuel (listed.setIfInBounds i true) (a.put oi.dst v) w->zO P md ops Q F t (fuel+1) listed a w:=by
 intro fuel
 induction fuel with
 | zero =>
  intro listed a w _ hr hy hS H;refine ⟨fun h=>(by rw [h] at hr;cases hr),fun j hj=>?_⟩
  by_cases hji:j=i
  . subst hji;exact hy.wpOp hi hS ⟨.inr hS,H⟩
  .
   have:=ready_mono hj hji;rw [H.1] at this
   cases this
 | succ fuel ih =>
  intro listed a w a0 hr hy hS H;refine ⟨fun h=>(by rw [h] at hr;cases hr),fun j hj=>?_⟩
  by_cases hji:j=i
  . subst hji;exact hy.wpOp hi hS ⟨.inr hS,H⟩
  .
   have a9:j≠t:=fun e=>jip a8 hr (e ▸ hj)
   have h1:=H.2 j (ready_mono hj hji);obtain ⟨a2,oj,a3,a6⟩:=mem_ready.1 hj;have a7:∀ e∈oj.after,Region.binds md e=true->e.on≠i:=fun e he hb b0=>by
    have h1:=a6 e he hb;have h0:=(mem_ready.1 hr).1;rw [b0] at h1
    rcases qX i listed.size with h' | h'
    . simp [h'] at h0 h1;rw [h0] at h1;cases h1
    . simp [Array.getElem?_eq_none h'] at h1
   have h2:=wpOp_putIf a3 (a0 j oj a3 hji a2 a7) (fun cs b=>a1 i oi cs b hi) (fun cs b=>a1 j oj cs b a3) hQ hy h1
   have a4:∀ k ok,ops[k]?=some ok->k≠i->(listed.setIfInBounds j true).getD k true=false ->
     (∀ e∈ok.after,Region.binds md e=true->e.on≠i)->oi.apart ops ok=true:=fun k ok hk b1 a5 b2=>by
    refine a0 k ok hk b1 ?_ b2;by_cases hjk:j=k
    . subst hjk;exact a2
    . rw [getD_set_ne true hjk] at a5;exact a5
   refine wpOp_mono (fun a' w' h3=>?_) h2
   have hF:F w':=h3.2.1.resolve_left a9;refine ⟨.inr hF,ih (listed.setIfInBounds j true) a' w' a4 (ready_mono hr (Ne.symm hji)) h3.1 hF ?_⟩;rw [Array.setIfInBounds_comm _ _ hji];exact h3.2.2
theorem jmq {oi:Oper}(hi:ops[i]?=some oi)(hs:Region.noSelect ops=true)(hf:Region.free md ops listed i=true)(hr:(Region.ready md ops listed).contains i=true)(a0:jbk md ops t i=true)(hQ:∀ c a w,Q (.panic c) (a.put oi.dst v) w->Q (.panic c) a w)(hy:YieldsIf P ops F oi v a)(hS:F w)(h:zO P md ops Q F t fuel (listed.setIfInBounds i true) (a.put oi.dst v) w):zO P md ops Q F t (fuel+1) listed a w :=
 jgk hi (Region.noSelect_spec hs) hQ a0 fuel listed a w (Region.free_spec hi hf) (by simpa using hr) hy hS h
def AllReadyL (P:Program)(md:Region.Mode)(ops:Array Oper)(Q:Exit->Act->World->Prop)(F:World->Prop)(t:Nat)(fuel:Nat)(listed:Array Bool)(a:Act)(w:World)(rs:List Nat):Prop :=
 ∀ i∈rs,wpOp P ops Q i (fun a' w'=>(i=t\/F w')/\zO P md ops Q F t fuel (listed.setIfInBounds i true) a' w') a w
theorem AllReadyL.nil :AllReadyL P md ops Q F t fuel listed a w []:=fun _ h=>by cases h
theorem AllReadyL.cons {rs:List Nat}(ho:ops[i]?=some o)(h:∀ K':Act->World->Prop,Shut (∀ a w,F w->(F w->zO P md ops Q F t fuel (listed.setIfInBounds i true) a w)->K' a w)->if Region.wanted o (yielded ops a.tmps)=true then Oper.wp P o a w K' Q else K' (a.put o.dst undef) w)(hs:AllReadyL P md ops Q F t fuel listed a w rs):AllReadyL P md ops Q F t fuel listed a w (i::rs):=fun j hj=>by
 rcases qH.1 hj with rfl | hj
 . exact wpOp_step ho (fun K' hK=>h K' (fun a w hS hW=>hK a w ⟨.inr hS,hW hS⟩))
 . exact hs j hj
theorem AllReadyL.last (a0:i=t)(ho:ops[i]?=some o)(h:∀ K':Act->World->Prop,Shut (∀ a w,zO P md ops Q F t fuel (listed.setIfInBounds i true) a w->K' a w)->if Region.wanted o (yielded ops a.tmps)=true then Oper.wp P o a w K' Q else K' (a.put o.dst undef) w):AllReadyL P md ops Q F t fuel listed a w [i]:=fun j hj=>by
 rw [qC] at hj;subst hj;exact wpOp_step ho (fun K' hK=>h K' (fun a w hW=>hK a w ⟨.inl a0,hW⟩))
theorem jQ {rs:List Nat}(hr:Region.ready md ops listed=rs)(a0:rs ≠ [])(h:AllReadyL P md ops Q F t fuel listed a w rs):zO P md ops Q F t (fuel+1) listed a w:=⟨fun h0=>absurd (hr ▸ h0) a0,hr ▸ h⟩
theorem yZ (hr:Region.ready md ops listed = [])(h:Q .normal a w):∀ fuel,zO P md ops Q F t fuel listed a w
 | 0=>⟨hr,h⟩
 | _+1=>⟨fun _=>h,by rw [hr];simp⟩
theorem yF (t:Nat){id:Nat}(hm:P.follows .mixedOrders=true)(hS:F w.drew)(h:F w.drew->zO P .any ops Q F t ops.size (Array.replicate ops.size false) a w.drew):(Code.region id ops true).wp P Q a w :=
 wp_region_any hm (jaL _ _ _ _ (h hS))
end
theorem Tl (i d:Nat){x5:Option (Nat × Bool)}(h:zO P md ops Q S t fuel (listed.setIfInBounds i true) a' w)(hi:ops[i]?=some ⟨some d,x1,x2,x3,x4,x5⟩:=by rfl)(hs:Region.noSelect ops=true:=by kernel_rfl)(hf:Region.free md ops listed i=true:=by kernel_rfl)(hr:(Region.ready md ops listed).contains i=true:=by kernel_rfl)(hwt:jbk md ops t i=true:=by kernel_rfl)(hQ:∀ c a w,Q (.panic c) (a.put (some d) v) w->Q (.panic c) a w:=by exact fun _ _ _ h=>h)(hw:Region.wanted ⟨some d,x1,x2,x3,x4,x5⟩ (yielded ops a.tmps)=true:=by kernel_rfl)(hy:∀ w',S w'->(execOp a.eval ⟨some d,x1,x2,x3,x4,x5⟩).run P w'=.ok (.value v) w':=by (intro w' hw';clear hw';go_simp;try with_reducible rfl))(hS:S w:=by assumption)(ha:a.put (some d) v=a':=by (simp only [Act.put,wG,pp,pI];try rfl)):zO P md ops Q S t (fuel+1) listed a w :=
  jmq (v:=v) hi hs hf hr hwt hQ (Or.inl ⟨hw,hy⟩) hS (ha ▸ h)
theorem Tf (i d:Nat){x5:Option (Nat × Bool)}(h:zO P md ops Q S t fuel (listed.setIfInBounds i true) a' w)(hi:ops[i]?=some ⟨some d,x1,x2,x3,x4,x5⟩:=by rfl)(hs:Region.noSelect ops=true:=by kernel_rfl)(hf:Region.free md ops listed i=true:=by kernel_rfl)(hr:(Region.ready md ops listed).contains i=true:=by kernel_rfl)(hwt:jbk md ops t i=true:=by kernel_rfl)(hQ:∀ c a w,Q (.panic c) (a.put (some d) v) w->Q (.panic c) a w:=by exact fun _ _ _ h=>h)(hw:Region.wanted ⟨some d,x1,x2,x3,x4,x5⟩ (yielded ops a.tmps)=true:=by kernel_rfl)(hy:∀ w',S w'->(execOp a.eval ⟨some d,x1,x2,x3,x4,x5⟩).run P w'=.ok (.value v) w':=by (intro w' hw';go_simp;try with_reducible rfl))(hS:S w:=by assumption)(ha:a.put (some d) v=a':=by (simp only [Act.put,wG,pp,pI];try rfl)):zO P md ops Q S t (fuel+1) listed a w :=
  jmq (v:=v) hi hs hf hr hwt hQ (Or.inl ⟨hw,hy⟩) hS (ha ▸ h)
theorem Tm (i d:Nat){x5:Option (Nat × Bool)}(h:zO P md ops Q S t fuel (listed.setIfInBounds i true) a' w)(hi:ops[i]?=some ⟨some d,x1,x2,x3,x4,x5⟩:=by rfl)(hs:Region.noSelect ops=true:=by kernel_rfl)(hf:Region.free md ops listed i=true:=by kernel_rfl)(hr:(Region.ready md ops listed).contains i=true:=by kernel_rfl)(hwt:jbk md ops t i=true:=by kernel_rfl)(hQ:∀ c a w,Q (.panic c) (a.put (some d) undef) w->Q (.panic c) a w:=by exact fun _ _ _ h=>h)(hw:Region.wanted ⟨some d,x1,x2,x3,x4,x5⟩ (yielded ops a.tmps)=false:=by kernel_rfl)(hS:S w:=by assumption)(ha:a.put (some d) undef=a':=by (simp only [Act.put,wG,pp,pI];try rfl)):zO P md ops Q S t (fuel+1) listed a w :=
  jmq (v:=undef) hi hs hf hr hwt hQ (Or.inr ⟨hw,rfl⟩) hS (ha ▸ h)
end Go.Proofs.YtgcnolapjppbpaaGreatDoor
