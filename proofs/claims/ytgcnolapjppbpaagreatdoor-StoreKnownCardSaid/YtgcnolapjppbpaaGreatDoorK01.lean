/- Texts of one proof. -/
import Derived.Test.YtgcnolapjppbpaaGreatDoorRows
import Derived.Test.YtgcnolapjppbpaaGreatDoorK00
namespace Go.Proofs.YtgcnolapjppbpaaGreatDoor
open Go.RowKit _root_.Go.Proofs.Tryz
set_option maxRecDepth 100000
set_option maxHeartbeats 25600000
variable {w w' c:World}{a:Act}{x v u y z:Value}{n base size B b o:Nat}{xs:List Value}{e t ty:TypeId}{P:Program}{ops:Array Oper}{rest:List Oper}{Q:Exit->Act->World->Prop}{cs:Array Value}{r:Option Nat}{F:Nat->Prop}{op:Oper}{fn:Func}{R:Ending->World->Prop}{p:Tmp}{d:TypeDesc}
def I32 (u:UInt32):Int:=(u.toNat:Int)
theorem jir (u:UInt32):0<=I32 u/\I32 u<4294967296:=by unfold I32;have:=u.toNat_lt;omega
theorem jiY {a b:UInt32}(h:I32 a=I32 b):a=b:=by unfold I32 at h;exact ki.1 (by omega)
theorem uc (u:UInt32):BitVec.ofInt 32 (I32 u)=u.toBitVec:=by
 unfold I32;rw [BitVec.ofInt_natCast];simp
theorem jfj (n:Nat)(h:n<4294967296):IntKind.u32.wrap (n:Int)=(n:Int):=by
 simp [IntKind.wrap,IntKind.bits,IntKind.signed];omega
theorem jb4 (b:BitVec 32):IntKind.u32.wrap (b.toNat:Int)=I32 (UInt32.ofBitVec b):=by
 rw [jfj _ b.isLt];rfl
@[go_sem] theorem I32_and (a b:UInt32):bits .and .u32 (I32 a) (I32 b)=I32 (a &&& b):=by
 show IntKind.u32.wrap ((BitVec.ofInt 32 (I32 a) &&& BitVec.ofInt 32 (I32 b)).toNat:Int)=_;rw [jb4,uc,uc];rfl
@[go_sem] theorem I32_xor (a b:UInt32):bits .xor .u32 (I32 a) (I32 b)=I32 (a ^^^ b):=by
 show IntKind.u32.wrap ((BitVec.ofInt 32 (I32 a) ^^^ BitVec.ofInt 32 (I32 b)).toNat:Int)=_;rw [jb4,uc,uc];rfl
@[go_sem] theorem I32_not (a:UInt32):bits .xor .u32 IntKind.u32.max (I32 a)=I32 (~~~a):=by
 show IntKind.u32.wrap ((BitVec.ofInt 32 IntKind.u32.max ^^^ BitVec.ofInt 32 (I32 a)).toNat:Int)=_;have h:BitVec.ofInt 32 IntKind.u32.max=BitVec.allOnes 32:=by decide
 rw [jb4,h,uc,BitVec.allOnes_xor];rfl
@[go_sem] theorem I32_byte (c:UInt8):((c.toNat:Int) % 4294967296)=I32 c.toUInt32:=by
 unfold I32;have:=c.toNat_lt;simp;omega
theorem jdK (x:UInt32):I32 x / (2:Int)=I32 (x >>> 1):=by
 unfold I32;simp [Nat.shiftRight_eq_div_pow]
theorem jlO (x:UInt32) : -(I32 x) % 4294967296=I32 (-x):=by
 unfold I32;have:=x.toNat_lt;rw [UInt32.toNat_neg];unfold UInt32.size;omega
def V8 (c:UInt8):Value:=.int .u8 (c.toNat:Int)
theorem jc (hb:Below w.heap.size w w'){a:Addr}(h:w.cell? a=some x):w'.cell? a=some x:=by
 rw [hb.cell (World.block_lt_of_cell? w a h)];exact h
def Rd (w:World)(v:Value)(n:Nat)(xs:List Value):Prop :=
 ∃ a cap,v=.slice a n cap/\n<=cap/\cap<=9223372036854775807/\(a=none->cap=0)/\(∀ j,j<xs.length->∃ b off,a=some ⟨b,off,none⟩/\w.cell? ⟨b,off+j,none⟩=some (xs.getD j undef))
theorem Rd.nil (w:World):Rd w (.slice none 0 0) 0 []:=⟨none,0,rfl,by omega,by omega,fun _=>rfl,fun j h=>by simp at h⟩
theorem Rd.below (h:Rd w v n xs)(hb:Below w.heap.size w w'):Rd w' v n xs:=by
 obtain ⟨a,cap,rfl,h1,h2,h0,h3⟩:=h;refine ⟨a,cap,rfl,h1,h2,h0,fun j hj=>?_⟩
 obtain ⟨b,off,rfl,h4⟩:=h3 j hj;exact ⟨b,off,rfl,jc hb h4⟩
theorem Rd.keep (h:Rd w v n xs)(hb:∀ k,v.ownBlock=some k->k<w.heap.size->w'.heap[k]?=w.heap[k]?):Rd w' v n xs:=by
 obtain ⟨a,cap,rfl,h1,h2,h0,h3⟩:=h;refine ⟨a,cap,rfl,h1,h2,h0,fun j hj=>?_⟩
 obtain ⟨b,off,rfl,h4⟩:=h3 j hj;refine ⟨b,off,rfl,?_⟩;rw [World.cell?_of_block (w:=w) (hb b rfl (World.block_lt_of_cell? w _ h4))];exact h4
theorem Rd.cut {a:Option Addr}{cap m:Nat}(h:Rd w (.slice a n cap) n xs)(hm:m<=cap)(k:Nat):Rd w (.slice a m cap) m (xs.take k):=by
 obtain ⟨a',cap',h0,h1,h2,h9,h3⟩:=h;injection h0 with e1 e2 e3
 subst e1;subst e3;refine ⟨a,cap,rfl,hm,h2,h9,fun j hj=>?_⟩
 rw [qr] at hj;obtain ⟨b,off,rfl,h4⟩:=h3 j (by omega)
 refine ⟨b,off,rfl,?_⟩;rw [h4,List.getD,List.getD,List.getElem?_take,qf (by omega)]
theorem Rd.len (h:Rd w v n xs):n<=9223372036854775807:=by
 obtain ⟨a,cap,rfl,h1,h2,_⟩:=h;omega
theorem js (h:w.ownsRow base e size v n xs):Rd w v n xs:=by
 obtain ⟨h0,h⟩:=h
 rcases h with ⟨rfl,rfl⟩ | ⟨g,cap,cur,rfl,hb,hg,hn,hc,hs,ht⟩
 .
  have:xs = []:=qw (by simpa using h0)
  subst this;exact Rd.nil w
 .
  refine ⟨_,cap,rfl,hn,by unfold maxLen at hc;omega,(fun h=>by cases h),fun j hj=>⟨g,0,rfl,?_⟩⟩
  have a0:w.cell? ⟨g,0+j,none⟩=cur[0+j]?:=cell_of_row w g (0+j) cur e (0,0) hg;rw [a0,qA,<- ht,List.getD,List.getElem?_take,qf (by omega)]
  have:j<cur.size:=by
   have h1:(cur.toList.take (n*size)).length=xs.length:=by rw [ht]
   rw [qr,ph] at h1;omega
  simp [Array.getElem?_eq_getElem this]
theorem jbX (h:w.ownsRow base e size v n xs):∀ k,v.ownBlock=some k->base<=k/\k<w.heap.size:=h.lt
theorem jq (h:w.ownsRow base e size v n xs)(hb:Below w.heap.size w w'):w'.ownsRow base e size v n xs:=by
 refine ⟨h.1,?_⟩
 rcases h.2 with hn | ⟨g,cap,cur,rfl,a0,hg,rest⟩
 . exact .inl hn
 . exact .inr ⟨g,cap,cur,rfl,a0,by rw [hb.block g (lt_of_block hg)];exact hg,rest⟩
theorem jdy {base':Nat}(h:w.ownsRow base e size v n xs)(hb:base'<=base):w.ownsRow base' e size v n xs:=by
 refine ⟨h.1,?_⟩
 rcases h.2 with hn | ⟨g,cap,cur,rfl,a0,rest⟩
 . exact .inl hn
 . exact .inr ⟨g,cap,cur,rfl,by omega,rest⟩
theorem je (hg:w.grownBy w' v.ownBlock)(hB:B<=w.heap.size)(hv:∀ k,v.ownBlock=some k->B<=k):Below B w w' :=
 (qG B w).grown hg hB hv
theorem ja (w:World)(o:Obj):Below w.heap.size w (w.alloc o):=(qG _ _).alloc (qm _) o
theorem jd {a b:World}(h:Below a.heap.size a b)(k:Below b.heap.size b c):Below a.heap.size a c:=h.trans (k.mono h.size)
theorem jg {v':Value}(h:v=v'):Ending.returned v=.returned v':=by rw [h]
def Apart (u v:Value):Prop:=∀ k,u.ownBlock=some k->v.ownBlock≠some k
def xj (w:World)(v v':Value):Prop:=v'.ownBlock=v.ownBlock\/v'.ownBlock=some w.heap.size
theorem Apart.symm (h:Apart u v):Apart v u:=fun k h1 h2=>h k h2 h1
theorem Apart.moved {v':Value}(h:Apart u v)(hm:xj w v v')(hu:∀ k,u.ownBlock=some k->k<w.heap.size):Apart u v':=by
 intro k hk
 rcases hm with e | e
 . rw [e];exact h k hk
 . rw [e];intro e2;injection e2 with e2;have:=hu k hk;omega
theorem jfv (u:Value):Apart u (.slice none 0 0):=fun k _ h=>by simp [Value.ownBlock] at h
theorem jcp (u:Value):Apart (.slice none 0 0) u:=fun k h=>by simp [Value.ownBlock] at h
theorem xi (h:w.ownsRow base e size u n xs)(hg:w.grownBy w' v.ownBlock)(ha:Apart u v):w'.ownsRow base e size u n xs:=by
 refine h.kept hg ?_
 cases hu:u.ownBlock with
 | none=>exact .inl rfl
 | some k=>exact .inr (fun e=>ha k hu e.symm)
theorem xX (w:World)(base:Nat)(t ty e:TypeId)(i:TypeInfo)(z:Value)(size bytes:Nat)(ht:P.underlying t=some (.slice e))(hi:P.info? e=some i)(hz:i.zero=some z)(a0:i.size=size)(a5:i.bytes=bytes)(a8:z.cells.size=size)(a9:0<size)(v:Value)(n:Nat)(xs:List Value)(a3:w.ownsRow base e size v n xs)(a:Addr)(m c:Nat)(news:List Value)(hl:news.length=m*size)(a1:∀ j u,news[j]?=some u->w.cell? (a.add j)=some u)(h1:∀ u∈news,u.oneCell'=true)(a7:n+m<=maxLen)(a2:(n+m)*bytes<=140737488355328)(a6:base<=w.heap.size) :
  ∃ v' w',(Builtin.append_ #[t,t] ty #[v,.slice (some a) m c]).run P w=.ok v' w'/\w'.ownsRow base e size v' (n+m) (xs++news)/\w.grownBy w' v.ownBlock/\xj w v v':=by
 obtain ⟨v',w',hr,h2,h3,h4⟩:=run_append_own (P:=P) w base t ty e i z size bytes ht hi hz a0 a5 a8 a9 v n xs a3 a m c news hl a1 h1 a7 a2 a6;refine ⟨v',w',hr,h2,h3,?_⟩;have b0:n+m<=9223372036854775807:=by simp only [maxLen] at a7;omega
 rcases a3.2 with ⟨rfl,rfl⟩ | ⟨g,cap,cur,rfl,b3,hg,b4,b5,b1,b2⟩
 .
  by_cases hm:m=0
  .
   subst hm;have:=(h4.2 ⟨rfl,rfl⟩);subst this;exact .inl rfl
  .
   subst a0;subst a5;have a4:=run_append_nil (P:=P) w t ty e i z ht hi hz a m c news hl a1 (by omega) (by omega) (by have hb:=a2;simp only [qA] at hb;omega)
   rw [a4] at hr;injection hr with e1 e2
   subst e1;exact .inr rfl
 .
  by_cases hroom:n+m<=cap
  .
   subst a0;have a4:=run_append_room (P:=P) w t ty e i ht hi g n cap cur hg a m c news hl a1 h1 hroom (by rw [hl,b1,<- pf];exact qQ _ hroom)
   rw [a4] at hr;injection hr with e1 e2
   subst e1;exact .inl rfl
  .
   subst a0;subst a5;have a4:=run_append_grow (P:=P) w t ty e i z ht hi hz ⟨g,0,none⟩ n cap xs a3.1 (a3.cells (g:=g) rfl) a m c news hl a1 (by omega) (by omega) (growslice_fits (by omega) a2)
   rw [a4] at hr;injection hr with e1 e2
   subst e1;exact .inr rfl
theorem yb {o:Oper}(a5:o.guard=none)(s x:Operand)(t:TypeId)(ho:o.op=.call { callee:=.builtin .append,args:=#[s,x],argTypes:=#[t,t] })(base:Nat)(e:TypeId)(i:TypeInfo)(z:Value)(size bytes:Nat)(ht:P.underlying t=some (.slice e))(hi:P.info? e=some i)(hz:i.zero=some z)(a1:i.size=size)(a6:i.bytes=bytes)(a7:z.cells.size=size)(a8:0<size)(v:Value)(n:Nat)(xs:List Value)(hs:a.eval s=v)(a4:w.ownsRow base e size v n xs)(ad:Addr)(m c:Nat)(news:List Value)(hx:a.eval x=.slice (some ad) m c)(hl:news.length=m*size)(a2:∀ j u,news[j]?=some u->w.cell? (ad.add j)=some u)(h1:∀ u∈news,u.oneCell'=true)(a9:n+m<=maxLen)(a0:(n+m)*bytes<=140737488355328)(a3:base<=w.heap.size)(h:∀ v' w',w'.ownsRow base e size v' (n+m) (xs++news)->w.grownBy w' v.ownBlock->xj w v v'->wpList P ops Q rest (a.put o.dst v') w'):wpList P ops Q (o::rest) a w:=by
 refine pX a5 fun _ hK=>?_
 obtain ⟨v',w',hr,h2,h3,h4⟩:=xX (P:=P) w base t o.type e i z size bytes ht hi hz a1 a6 a7 a8 v n xs a4 ad m c news hl a2 h1 a9 a0 a3;unfold Oper.wp execOp;simp only [ho,resolve,invoke,builtin,wu,wB,qR,wV,wK,pF,hs,hx,hr];exact hK _ _ (h v' w' h2 h3 h4)
def xP (a:Option Addr)(n cap k:Nat):Value:=.slice (if cap=k then a else a.map (·.add k)) (n-k) (cap-k)
theorem jd8 (ht:P.underlying t=some (.slice e))(hs:(P.info? e).map (·.size)=some 1)(a:Option Addr)(n cap k:Nat)(hk:k<=n)(w:World) :
  (Instr.slice t (.slice a n cap) (some (.int .i64 (k:Int))) none none).run P w=.ok (xP a n cap k) w:=by
 have hx:P.elem t=e:=by unfold Program.elem;rw [ht]
 have a0:(sizeOf e).run P w=.ok 1 w:=by
  cases hi:P.info? e with
  | none=>rw [hi] at hs;cases hs
  | some i =>
   rw [hi] at hs;simp only [pN,Option.some.injEq] at hs
   simp [sizeOf,typeInfo,hi,hs]
 rw [run_slice_l w t a n cap (by rw [hx];exact ht) .i64 (k:Int) (by omega) (by omega),hx,a0]
 simp [Result.andThen,sliced,xP]
theorem jhQ (ht:P.underlying t=some (.slice e))(hs:∃ k,(P.info? e).map (·.size)=some k)(a:Option Addr)(n cap k:Nat)(hk:k<=cap)(w:World) :
  (Instr.slice t (.slice a n cap) none (some (.int .i64 (k:Int))) none).run P w=.ok (.slice a k cap) w:=by
 have hx:P.elem t=e:=by unfold Program.elem;rw [ht]
 obtain ⟨sz,hs⟩:=hs;have a0:(sizeOf e).run P w=.ok sz w:=by
  cases hi:P.info? e with
  | none=>rw [hi] at hs;cases hs
  | some i =>
   rw [hi] at hs;simp only [pN,Option.some.injEq] at hs
   simp [sizeOf,typeInfo,hi,hs]
 rw [run_slice_h w t a n cap (by rw [hx];exact ht) .i64 (k:Int) (by omega) (by omega),hx,a0]
 have:a.map (fun x=>x.add 0)=a:=by cases a <;> rfl
 simp [Result.andThen,sliced,this]
theorem xR {a:Option Addr}{cap k:Nat}(h:Rd w (.slice a n cap) n xs)(hk:k<=n)(hx:xs.length<=n):Rd w (xP a n cap k) (n-k) (xs.drop k):=by
 obtain ⟨a',cap',h0,h1,h2,h9,h3⟩:=h;injection h0 with e1 e2 e3
 subst e1;subst e3;refine ⟨_,_,rfl,by omega,by omega,(fun h=>by
  have:cap=0:=by
   by_cases hc:cap=k
   . rw [qf hc] at h;exact h9 h
   .
    rw [qh hc] at h;cases a with
    | none=>exact h9 rfl
    | some _=>cases h
  omega),fun j hj=>?_⟩
 rw [qn] at hj;obtain ⟨b,off,rfl,h4⟩:=h3 (k+j) (by omega)
 rw [qh (by omega)]
 refine ⟨b,off+k,by simp [Go.WideShapes.add_plain],?_⟩
 rw [wC,h4];simp [List.getD]
theorem jak (a:Option Addr)(n cap k:Nat):∃ a',xP a n cap k=.slice a' (n-k) (cap-k):=⟨_,rfl⟩
def Box (w:World)(b:Nat)(cs:Array Value)(t:TypeId):Prop:=w.heap[b]?=some (.cells cs t (0,0))
theorem Box.lt (h:Box w b cs t):b<w.heap.size:=lt_of_block h
theorem Box.cell (h:Box w b cs t)(j:Nat)(x:Value)(hx:cs[j]?=some x):w.cell? ⟨b,j,none⟩=some x:=by
 unfold Box at h;simp [World.cell?,h,hx]
theorem Box.free (h:Box w b cs t)(j:Nat):w.frozen? ⟨b,j,none⟩=false:=by
 unfold Box at h;simp [World.frozen?,h]
theorem Box.new (w:World)(cs:Array Value)(t:TypeId):Box (w.alloc (.cells cs t)) w.heap.size cs t:=ww w _
theorem Box.below (h:Box w b cs t)(hb:Below w.heap.size w w'):Box w' b cs t:=by
 unfold Box;rw [hb.block b h.lt];exact h
theorem Box.keep (h:Box w b cs t)(hb:w'.heap[b]?=w.heap[b]?):Box w' b cs t:=by
 unfold Box;rw [hb];exact h
theorem Box.set (h:Box w b cs t)(j:Nat)(u:Value):Box (w.setCell ⟨b,j,none⟩ u) b (cs.setIfInBounds j u) t:=by
 unfold Box at h |-;simp only [World.setCell,Array.getElem?_modify,pB,h];rfl
theorem Box.set_other (h:Box w b cs t){p:Addr}(hp:p.block≠b)(u:Value):Box (w.setCell p u) b cs t :=
 h.keep (Below.heap_setCell w p u b (fun e=>hp e.symm))
theorem Box.drew (h:Box w b cs t):Box w.drew b cs t:=h
theorem jb (w:World):Below w.heap.size w w.drew:=(qG _ _).drew
theorem Rd.drew (h:Rd w v n xs):Rd w.drew v n xs:=h
def B8 (n:Int):UInt8:=UInt8.ofNat (n % 256).toNat
theorem jmT (n:Int):((B8 n).toNat:Int)=n % 256:=by
 unfold B8;have:(UInt8.ofNat (n % 256).toNat).toNat=(n % 256).toNat:=by show (n % 256).toNat % 2 ^ 8=_;omega
 rw [this];omega
theorem ji4 (n:Int):V8 (B8 n)=.int .u8 (n % 256):=by unfold V8;rw [jmT]
theorem jiw (w:World)(cs:Array Value)(T:TypeId)(l:List UInt8)(h:cs.toList=l.map V8)(hl:l.length<=9223372036854775807):Rd (w.alloc (.cells cs T)) (.slice (some ⟨w.heap.size,0,none⟩) l.length l.length) l.length (l.map V8):=by
 refine ⟨_,_,rfl,qm _,hl,(fun h=>by cases h),fun j hj=>⟨w.heap.size,0,rfl,?_⟩⟩
 rw [qA];refine (Box.new w cs T).cell j _ ?_;rw [<- Array.getElem?_toList,h,List.getD,List.getElem?_eq_getElem hj];rfl
theorem zo {o:Oper}(a5:o.guard=none)(s x:Operand)(t:TypeId)(ho:o.op=.call { callee:=.builtin .append,args:=#[s,x],argTypes:=#[t,t] })(base:Nat)(e:TypeId)(i:TypeInfo)(z:Value)(size bytes:Nat)(ht:P.underlying t=some (.slice e))(hi:P.info? e=some i)(hz:i.zero=some z)(a2:i.size=size)(a8:i.bytes=bytes)(a9:z.cells.size=size)(b0:0<size)(v:Value)(n:Nat)(xs:List Value)(hs:a.eval s=v)(a0:w.ownsRow base e size v n xs)(src:Value)(m:Nat)(news:List Value)(hx:a.eval x=src)(a6:Rd w src m news)(hl:news.length=m*size)(h1:∀ u∈news,u.oneCell'=true)(b1:n+m<=maxLen)(a1:(n+m)*bytes<=140737488355328)(a3:base<=w.heap.size)(h:∀ v' w',w'.ownsRow base e size v' (n+m) (xs++news)->w.grownBy w' v.ownBlock->xj w v v'->wpList P ops Q rest (a.put o.dst v') w'):wpList P ops Q (o::rest) a w:=by
 obtain ⟨ad,cap,rfl,b7,_,a7,a4⟩:=a6
 cases ad with
 | some ad =>
  refine yb a5 s x t ho base e i z size bytes ht hi hz a2 a8 a9 b0 v n xs hs a0 ad m cap news hx hl (fun j u hj=>?_) h1 b1 a1 a3 h
  have b2:j<news.length:=(List.getElem?_eq_some_iff.1 hj).1;obtain ⟨b,off,e1,e2⟩:=a4 j b2;injection e1 with e1;subst e1
  rw [wY,e2,List.getD,hj];rfl
 | none =>
  have b3:=a7 rfl;subst b3;have b4:m=0:=by omega
  subst b4;have b5:news = []:=qw (by simpa using hl)
  subst b5;refine pX a5 fun _ hK=>?_
  have hk:∃ v' w',(Builtin.append_ #[t,t] o.type #[v,.slice none 0 0]).run P w=.ok v' w'/\v'=v/\w'=w:=by
   rcases a0.2 with ⟨rfl,_⟩ | ⟨g,cap,cur,rfl,_,hg,b6,_⟩
   . exact ⟨_,_,by simp [Builtin.append_,run_underlying ht,sizeOf,typeInfo,hi,Builtin.lenOf,Builtin.firstCells],rfl,rfl⟩
   .
    refine ⟨_,_,?_,rfl,rfl⟩
    simp [Builtin.append_,run_underlying ht,sizeOf,typeInfo,hi,Builtin.lenOf,Builtin.firstCells,b6,loadCells,storeCells]
  obtain ⟨v',w',hr,rfl,rfl⟩:=hk;unfold Oper.wp execOp;simp only [ho,resolve,invoke,builtin,wu,wB,qR,wV,wK,pF,hs,hx,hr];exact hK _ _ (h v' w' (by simpa using a0) ⟨rfl,rfl,rfl,qm _,fun _ _ _=>rfl⟩ (.inl rfl))
theorem Box.grown (h:Box w b cs t)(hg:w.grownBy w' r)(hr:r≠some b):Box w' b cs t :=
 h.keep (hg.block b h.lt (fun e=>hr e.symm))
theorem jib (w:World)(r:Option Nat):w.grownBy w r:=⟨rfl,rfl,rfl,qm _,fun _ _ _=>rfl⟩
theorem jam (hg:w.grownBy w' r)(hB:B<=w.heap.size)(hr:∀ k,r=some k->B<=k):Below B w w' :=
 (qG B w).grown hg hB hr
structure Mod (F:Nat->Prop)(w w':World):Prop where
 os:w'.os=w.os
 tape:w'.tape=w.tape
 output:w'.output=w.output
 size:w.heap.size<=w'.heap.size
 block:∀ k,k<w.heap.size->¬ F k->w'.heap[k]?=w.heap[k]?
theorem Mod.refl (F:Nat->Prop)(w:World):Mod F w w:=⟨rfl,rfl,rfl,qm _,fun _ _ _=>rfl⟩
theorem Mod.trans {a b:World}(h:Mod F a b)(k:Mod F b c):Mod F a c :=
 ⟨k.os.trans h.os,k.tape.trans h.tape,k.output.trans h.output,qi h.size k.size,fun i hi hn=>(k.block i (qu hi h.size) hn).trans (h.block i hi hn)⟩
theorem Mod.then {G:Nat->Prop}{a b:World}(h:Mod F a b)(k:Mod G b c)(hg:∀ i,G i->F i\/a.heap.size<=i):Mod F a c :=
 ⟨k.os.trans h.os,k.tape.trans h.tape,k.output.trans h.output,qi h.size k.size,fun i hi hn=>(k.block i (qu hi h.size) (fun a0=>by
  rcases hg i a0 with h1 | h1
  . exact hn h1
  . omega)).trans (h.block i hi hn)⟩
theorem Mod.mono {G:Nat->Prop}{a b:World}(h:Mod F a b)(hg:∀ i,F i->G i):Mod G a b :=
 ⟨h.os,h.tape,h.output,h.size,fun i hi hn=>h.block i hi (fun hf=>hn (hg i hf))⟩
theorem Mod.below {a b:World}(h:Mod F a b)(hB:B<=a.heap.size)(hf:∀ i,F i->B<=i):Below B a b :=
 ⟨h.os,h.tape,h.output,h.size,fun i hi=>h.block i (by omega) (fun a0=>by have:=hf i a0;omega)⟩
theorem Mod.of_below {a b:World}(h:Below a.heap.size a b):Mod F a b:=⟨h.os,h.tape,h.output,h.size,fun i hi _=>h.block i hi⟩
theorem Mod.of_grown {a b:World}(h:a.grownBy b r)(hr:∀ k,r=some k->F k):Mod F a b :=
 ⟨h.os,h.tape,h.output,h.size,fun i hi hn=>h.block i hi (fun e=>hn (hr i e.symm))⟩
theorem Mod.set (F:Nat->Prop)(a:World)(p:Addr)(u:Value)(hp:F p.block):Mod F a (a.setCell p u) :=
 ⟨rfl,rfl,rfl,by simp,fun i _ hn=>Below.heap_setCell a p u i (fun e=>hn (by rw [e];exact hp))⟩
theorem Mod.drew (F:Nat->Prop)(a:World):Mod F a a.drew:=⟨rfl,rfl,rfl,qm _,fun _ _ _=>rfl⟩
theorem Mod.alloc (F:Nat->Prop)(a:World)(o:Obj):Mod F a (a.alloc o):=Mod.of_below (ja a o)
theorem Box.mod (h:Box w b cs t)(hm:Mod F w w')(hb:¬ F b):Box w' b cs t:=h.keep (hm.block b h.lt hb)
theorem yG (h:w.ownsRow base e size v n xs)(hm:Mod F w w')(hb:∀ k,v.ownBlock=some k->¬ F k):w'.ownsRow base e size v n xs:=by
 refine ⟨h.1,?_⟩
 rcases h.2 with hn | ⟨g,cap,cur,rfl,a0,hg,rest⟩
 . exact .inl hn
 . exact .inr ⟨g,cap,cur,rfl,a0,by rw [hm.block g (lt_of_block hg) (hb g rfl)];exact hg,rest⟩
theorem Rd.mod (h:Rd w v n xs)(hm:Mod F w w')(hb:∀ k,v.ownBlock=some k->¬ F k):Rd w' v n xs :=
 h.keep (fun k hk hl=>hm.block k hl (hb k hk))
theorem B3 (h:Box w b #[x,y,z] t):w.cell? ⟨b,0,none⟩=some x/\w.frozen? ⟨b,0,none⟩=false/\w.cell? ⟨b,1,none⟩=some y/\w.frozen? ⟨b,1,none⟩=false/\w.cell? ⟨b,2,none⟩=some z/\w.frozen? ⟨b,2,none⟩=false :=
  ⟨h.cell 0 _ rfl,h.free 0,h.cell 1 _ rfl,h.free 1,h.cell 2 _ rfl,h.free 2⟩
theorem C3 (h:Box w b #[x,y,z] t):w.cell? ⟨b,0,none⟩=some x/\w.cell? ⟨b,1,none⟩=some y/\w.cell? ⟨b,2,none⟩=some z :=
  ⟨h.cell 0 _ rfl,h.cell 1 _ rfl,h.cell 2 _ rfl⟩
def jiL (w w':World)(v v':Value)(n:Nat):Prop :=
 (∃ b c,v=.slice (some ⟨b,0,none⟩) n c/\v'=.slice (some ⟨b,0,none⟩) (n+1) c)\/(v'.ownBlock=some w.heap.size/\Below w.heap.size w w')
theorem jdg (w:World)(base:Nat)(t ty e:TypeId)(i:TypeInfo)(z:Value)(size bytes:Nat)(ht:P.underlying t=some (.slice e))(hi:P.info? e=some i)(hz:i.zero=some z)(a0:i.size=size)(a5:i.bytes=bytes)(a8:z.cells.size=size)(a9:0<size)(v:Value)(n:Nat)(xs:List Value)(a3:w.ownsRow base e size v n xs)(a:Addr)(c:Nat)(news:List Value)(hl:news.length=size)(a1:∀ j u,news[j]?=some u->w.cell? (a.add j)=some u)(h1:∀ u∈news,u.oneCell'=true)(a7:n+1<=maxLen)(a2:(n+1)*bytes<=140737488355328)(a6:base<=w.heap.size) :
  ∃ v' w',(Builtin.append_ #[t,t] ty #[v,.slice (some a) 1 c]).run P w=.ok v' w'/\w'.ownsRow base e size v' (n+1) (xs++news)/\w.grownBy w' v.ownBlock/\xj w v v'/\jiL w w' v v' n:=by
 obtain ⟨v',w',hr,h2,h3,h4⟩:=xX (P:=P) w base t ty e i z size bytes ht hi hz a0 a5 a8 a9 v n xs a3 a 1 c news (by omega) a1 h1 a7 a2 a6
 refine ⟨v',w',hr,h2,h3,h4,?_⟩;have b0:n+1<=9223372036854775807:=by simp only [maxLen] at a7;omega
 rcases a3.2 with ⟨rfl,rfl⟩ | ⟨g,cap,cur,rfl,b3,hg,b4,b5,b1,b2⟩
 .
  subst a0;subst a5;have a4:=run_append_nil (P:=P) w t ty e i z ht hi hz a 1 c news (by omega) a1 (by omega) (by omega) (by have hb:=a2;simp only [qA] at hb;omega)
  rw [a4] at hr;injection hr with e1 e2
  subst e1;subst e2;exact .inr ⟨rfl,(jb w).trans ((qG _ _).alloc (by simp) _)⟩
 .
  by_cases hroom:n+1<=cap
  .
   subst a0;have a4:=run_append_room (P:=P) w t ty e i ht hi g n cap cur hg a 1 c news (by omega) a1 h1 hroom (by rw [hl,b1];have:=qQ i.size hroom;rw [pf] at this;omega)
   rw [a4] at hr;injection hr with e1 e2
   subst e1;exact .inl ⟨g,cap,rfl,rfl⟩
  .
   subst a0;subst a5;have a4:=run_append_grow (P:=P) w t ty e i z ht hi hz ⟨g,0,none⟩ n cap xs a3.1 (a3.cells (g:=g) rfl) a 1 c news (by omega) a1 (by omega) (by omega) (growslice_fits (by omega) a2)
   rw [a4] at hr;injection hr with e1 e2
   subst e1;subst e2;exact .inr ⟨rfl,(jb w).trans ((qG _ _).alloc (by simp) _)⟩
theorem ja4 {o:Oper}(a5:o.guard=none)(s x:Operand)(t:TypeId)(ho:o.op=.call { callee:=.builtin .append,args:=#[s,x],argTypes:=#[t,t] })(base:Nat)(e:TypeId)(i:TypeInfo)(z:Value)(size bytes:Nat)(ht:P.underlying t=some (.slice e))(hi:P.info? e=some i)(hz:i.zero=some z)(a1:i.size=size)(a6:i.bytes=bytes)(a7:z.cells.size=size)(a8:0<size)(v:Value)(n:Nat)(xs:List Value)(hs:a.eval s=v)(a4:w.ownsRow base e size v n xs)(ad:Addr)(c:Nat)(news:List Value)(hx:a.eval x=.slice (some ad) 1 c)(hl:news.length=size)(a2:∀ j u,news[j]?=some u->w.cell? (ad.add j)=some u)(h1:∀ u∈news,u.oneCell'=true)(a9:n+1<=maxLen)(a0:(n+1)*bytes<=140737488355328)(a3:base<=w.heap.size)(h:∀ v' w',w'.ownsRow base e size v' (n+1) (xs++news)->w.grownBy w' v.ownBlock->xj w v v'->jiL w w' v v' n->wpList P ops Q rest (a.put o.dst v') w'):wpList P ops Q (o::rest) a w:=by
 refine pX a5 fun _ hK=>?_
 obtain ⟨v',w',hr,h2,h3,h4,h5⟩:=jdg (P:=P) w base t o.type e i z size bytes ht hi hz a1 a6 a7 a8 v n xs a4 ad c news hl a2 h1 a9 a0 a3;unfold Oper.wp execOp;simp only [ho,resolve,invoke,builtin,wu,wB,qR,wV,wK,pF,hs,hx,hr];exact hK _ _ (h v' w' h2 h3 h4 h5)
def Twin (u g:Value)(n m:Nat):Prop:=Apart u g\/∃ b c c',u=.slice (some ⟨b,0,none⟩) n c/\g=.slice (some ⟨b,0,none⟩) m c'/\n<=m
theorem ji5 (h:w.ownsRow base e 1 v n xs)(i:Nat)(hi:i<n)(x:Value) :
  ∃ g cap,v=.slice (some ⟨g,0,none⟩) n cap/\base<=g/\(∃ y,w.cell? ⟨g,i,none⟩=some y)/\w.frozen? ⟨g,i,none⟩=false/\(w.setCell ⟨g,i,none⟩ x).ownsRow base e 1 v n (xs.set i x):=by
 rcases h.2 with ⟨rfl,rfl⟩ | ⟨g,cap,cur,rfl,a1,hg,a2,a3,a4,a0⟩
 . omega
 .
  have hB:Box w g cur e:=hg;have a5:i<cur.size:=by omega
  refine ⟨g,cap,rfl,a1,⟨cur[i],hB.cell i _ (by simp [a5])⟩,hB.free i,?_,.inr ⟨g,cap,cur.setIfInBounds i x,rfl,a1,hB.set i x,a2,a3,by simpa using a4,?_⟩⟩
  . simpa using h.1
  . rw [Array.toList_setIfInBounds,<- a0,List.take_set]
theorem jmj (h:w.ownsRow base e 1 v n xs):xs.length=n:=by have:=h.1;omega
theorem jP (h:w.ownsRow base e size v n xs):∃ a c,v=.slice a n c/\n<=9223372036854775807:=by
 rcases h.2 with ⟨rfl,rfl⟩ | ⟨g,cap,cur,rfl,a2,hg,a3,a0,a4,a1⟩
 . exact ⟨_,_,rfl,by omega⟩
 . exact ⟨_,_,rfl,by unfold maxLen at a0;omega⟩
theorem Rd.at (h:Rd w v n xs)(i:Nat)(hi:i<xs.length):∃ b off cap,v=.slice (some ⟨b,off,none⟩) n cap/\w.cell? ⟨b,off+i,none⟩=some (xs.getD i undef):=by
 obtain ⟨a,cap,rfl,h1,h2,h3,h4⟩:=h;obtain ⟨b,off,rfl,h5⟩:=h4 i hi;exact ⟨b,off,cap,rfl,h5⟩
def OwnM (w:World)(base:Nat)(e:TypeId)(v:Value)(n:Nat)(xs:List Value):Prop :=
 xs.length=n/\((v=.slice none 0 0/\n=0) \/
 ∃ g cap cur fz,v=.slice (some ⟨g,0,none⟩) n cap/\base<=g/\w.heap[g]?=some (.cells cur e fz)/\(fz=(0,0)\/cur.size<=fz.1)/\n<=cap/\cap<=maxLen/\cap<=cur.size/\cur.toList.take n=xs)
section
variable {w : World} {base : Nat} {e : TypeId} {v : Value} {n : Nat} {xs : List Value}
theorem OwnM.nil (w:World)(base:Nat)(e:TypeId):OwnM w base e (.slice none 0 0) 0 []:=⟨rfl,.inl ⟨rfl,rfl⟩⟩
theorem OwnM.lt (h:OwnM w base e v n xs):∀ k,v.ownBlock=some k->base<=k/\k<w.heap.size:=by
 intro k hk
 rcases h.2 with ⟨rfl,_⟩ | ⟨g,cap,cur,fz,rfl,hb,hg,_⟩
 . simp [Value.ownBlock] at hk
 .
  simp [Value.ownBlock] at hk
  subst hk;exact ⟨hb,(Array.getElem?_eq_some_iff.1 hg).1⟩
theorem OwnM.keep (h:OwnM w base e v n xs)(hb:∀ k,v.ownBlock=some k->k<w.heap.size->w'.heap[k]?=w.heap[k]?):OwnM w' base e v n xs:=by
 refine ⟨h.1,?_⟩
 rcases h.2 with hn | ⟨g,cap,cur,fz,rfl,a0,hg,rest⟩
 . exact .inl hn
 . exact .inr ⟨g,cap,cur,fz,rfl,a0,by rw [hb g rfl (Array.getElem?_eq_some_iff.1 hg).1];exact hg,rest⟩
theorem OwnM.below (h:OwnM w base e v n xs)(hb:Below w.heap.size w w'):OwnM w' base e v n xs:=h.keep (fun k _ hl=>hb.block k hl)
theorem OwnM.lower {base':Nat}(h:OwnM w base e v n xs)(hb:base'<=base):OwnM w base' e v n xs:=by
 refine ⟨h.1,?_⟩
 rcases h.2 with hn | ⟨g,cap,cur,fz,rfl,a0,rest⟩
 . exact .inl hn
 . exact .inr ⟨g,cap,cur,fz,rfl,by omega,rest⟩
theorem OwnM.other (h:OwnM w base e v n xs)(hg:w.grownBy w' u.ownBlock)(ha:Apart v u):OwnM w' base e v n xs :=
 h.keep (fun k hk hl=>hg.block k hl (fun e=>ha k hk e.symm))
theorem OwnM.mod (h:OwnM w base e v n xs)(hm:Mod F w w')(hb:∀ k,v.ownBlock=some k->¬ F k):OwnM w' base e v n xs :=
 h.keep (fun k hk hl=>hm.block k hl (hb k hk))
theorem OwnM.rd (h:OwnM w base e v n xs):Rd w v n xs:=by
 obtain ⟨h0,h⟩:=h
 rcases h with ⟨rfl,rfl⟩ | ⟨g,cap,cur,fz,rfl,hb,hg,hf,hn,hc,hs,ht⟩
 .
  have:xs = []:=qw h0;subst this;exact Rd.nil w
 .
  refine ⟨_,cap,rfl,hn,by unfold maxLen at hc;omega,(fun h=>by cases h),fun j hj=>⟨g,0,rfl,?_⟩⟩
  have a0:w.cell? ⟨g,0+j,none⟩=cur[0+j]?:=cell_of_row w g (0+j) cur e fz hg;rw [a0,qA,<- ht,List.getD,List.getElem?_take,qf (by omega)]
  have:j<cur.size:=by omega
  simp [Array.getElem?_eq_getElem this]
theorem OwnM.slice (h:OwnM w base e v n xs):∃ a c,v=.slice a n c/\n<=9223372036854775807:=by
 rcases h.2 with ⟨rfl,rfl⟩ | ⟨g,cap,cur,fz,rfl,a2,hg,hf,a3,a0,a4,a1⟩
 . exact ⟨_,_,rfl,by omega⟩
 . exact ⟨_,_,rfl,by unfold maxLen at a0;omega⟩
theorem OwnM.cells (h:OwnM w base e v n xs){g:Nat}(hg:v.ownBlock=some g):∀ j u,xs[j]?=some u->w.cell? ((⟨g,0,none⟩:Addr).add j)=some u:=by
 intro j u hu
 rcases h.2 with ⟨rfl,_⟩ | ⟨g',cap,cur,fz,rfl,_,a2,_,_,_,_,a0⟩
 . simp [Value.ownBlock] at hg
 .
  simp [Value.ownBlock] at hg
  subst hg;have a1:(⟨g',0,none⟩:Addr).add j=⟨g',j,none⟩:=by unfold Addr.add;split <;> simp_all
  rw [a1,cell_of_row w g' j cur e fz a2];rw [<- a0,List.getElem?_take] at hu
  split at hu
  . simpa using hu
  . cases hu
theorem jko {g:Nat}{cur:Array Value}{fz:Nat × Nat}(hg:w.heap[g]?=some (.cells cur e fz))(hf:fz=(0,0)\/cur.size<=fz.1)(j:Nat)(hj:j<cur.size):w.frozen? ⟨g,j,none⟩=false:=by
 obtain ⟨lo,hi⟩:=fz;simp only [World.frozen?,hg,Bool.and_eq_false_iff,qI]
 rcases hf with hf | hf
 . simp only [Prod.mk.injEq] at hf;obtain ⟨rfl,rfl⟩:=hf;right;omega
 . left;simp only at hf;omega
theorem jns (w:World)(g i:Nat)(cur:Array Value)(e:TypeId)(fz:Nat × Nat)(x:Value)(hg:w.heap[g]?=some (.cells cur e fz)):(w.setCell ⟨g,i,none⟩ x).heap[g]?=some (.cells (cur.setIfInBounds i x) e fz):=by
 simp only [World.setCell,Array.getElem?_modify,pB,hg];rfl
theorem jfs (g:Nat)(e:TypeId)(fz:Nat × Nat):∀ (vs:List Value) (o:Nat) (w:World) (cur:Array Value),w.heap[g]?=some (.cells cur e fz)->o+vs.length<=cur.size ->
  ∃ cur',(w.setCells g o vs).heap[g]?=some (.cells cur' e fz)/\cur'.size=cur.size/\(∀ j v,vs[j]?=some v->cur'[o+j]?=some v)/\∀ j,j<o\/o+vs.length<=j->cur'[j]?=cur[j]?
 | [],o,w,cur,h,hl=>⟨cur,h,rfl,fun j v hv=>by simp at hv,fun _ _=>rfl⟩
 | x::r,o,w,cur,h,hl=>by
  simp only [qp] at hl;obtain ⟨cur',h1,h2,h3,h4⟩:=jfs g e fz r (o+1) (w.setCell ⟨g,o,none⟩ x) (cur.setIfInBounds o x) (jns w g o cur e fz x h) (by simp;omega)
  rw [World.setCells];refine ⟨cur',h1,by simpa using h2,fun j v hv=>?_,fun j hj=>?_⟩
  .
   cases j with
   | zero =>
    rw [qT,h4 o (by omega)]
    simp at hv
    subst hv
    simp [show o<cur.size by omega]
   | succ j =>
    have:=h3 j v (by simpa using hv)
    rw [show o+(j+1)=o+1+j by omega];exact this
  .
   simp only [qp] at hj;rw [h4 j (by omega)]
   simp [show o≠j by omega]
theorem jhi (F:Nat->Prop)(b:Nat)(hb:F b):∀ (vs:List Value) (o:Nat) (w:World),Mod F w (w.setCells b o vs)
 | [],_,_=>Mod.refl _ _
 | v::r,o,w=>(Mod.set F w ⟨b,o,none⟩ v hb).trans (jhi F b hb r (o+1) _)
end
def jnd (w w':World)(v v':Value)(n m:Nat):Prop :=
 (∃ b c,v=.slice (some ⟨b,0,none⟩) n c/\v'=.slice (some ⟨b,0,none⟩) (n+m) c)\/(v'.ownBlock=some w.heap.size/\Below w.heap.size w w')\/(v'=v/\w'=w)
theorem ui (w:World)(base:Nat)(t t2 ty e:TypeId)(d:TypeDesc)(i:TypeInfo)(z:Value)(bytes:Nat)(ht:P.underlying t=some (.slice e))(a8:P.underlying t2=some d)(hd:(∃ e2,d=.slice e2)\/d=.string)(hi:P.info? e=some i)(hz:i.zero=some z)(a1:i.size=1)(b3:i.bytes=bytes)(b4:z.cells.size=1)(v:Value)(n:Nat)(xs:List Value)(a0:OwnM w base e v n xs)(x:Value)(m:Nat)(news:List Value)(hl:news.length=m)(a3:∀ w:World,(Builtin.lenOf x).run P w=.ok m w)(b5:∀ wd:World,(∀ a,wd.cell? a=w.cell? a)->(Builtin.firstCells 1 m x).run P wd=.ok news.toArray wd)(h1:∀ u∈news,u.oneCell'=true)(b0:n+m<=maxLen)(a5:(n+m)*bytes<=140737488355328)(a9:base<=w.heap.size) :
  ∃ v' w',(Builtin.append_ #[t,t2] ty #[v,x]).run P w=.ok v' w'/\OwnM w' base e v' (n+m) (xs++news)/\w.grownBy w' v.ownBlock/\xj w v v'/\jnd w w' v v' n m:=by
 rcases hd with ⟨e2,rfl⟩ | rfl
 all_goals
  have c1:n+m<=9223372036854775807:=by simp only [maxLen] at b0;omega
  have b6:=b5 w (fun _=>rfl)
  have b7:=b5 w.drew (fun _=>rfl)
  have c9:=grownCap_ge w (n+m)
  rcases a0.2 with ⟨rfl,rfl⟩ | ⟨g,cap,cur,fz,rfl,c2,hg,hf,d0,c3,d1,b1⟩
  .
   have c4:xs = []:=qw a0.1;subst c4;by_cases hm:m=0
   .
    subst hm;have c5:news = []:=qw hl;subst c5;refine ⟨.slice none 0 0,w,?_,OwnM.nil _ _ _,jib _ _,.inl rfl,.inr (.inr ⟨rfl,rfl⟩)⟩
    simp [Builtin.append_,run_underlying ht,run_underlying a8,sizeOf,typeInfo,hi,a1,a3,b6]
   .
    have hn:¬ (m=0):=hm;have a6:¬ (9223372036854775807<(m:Int)):=by omega
    have a7:¬ (281474976710656<Builtin.nextslicecap m 0*bytes):=by rw [nextslicecap_zero (by omega)];simp only [qA] at a5;omega
    have hr:(Builtin.append_ #[t,t2] ty #[.slice none 0 0,x]).run P w=.ok (.slice (some ⟨w.heap.size,0,none⟩) m (grownCap w m 0 e)) (w.drew.alloc (.cells (news.toArray++Builtin.zeroCells z.cells (grownCap w m 0 e-m)) e)):=by
     simp [Builtin.append_,run_underlying ht,run_underlying a8,sizeOf,typeInfo,zeroValue,hi,hz,a1,b3,a3,hn,a6,a7,Question.forced,run_firstCells_none,b7,newRow,grownCap]
    have hc:=grownCap_le_maxLen w m 0 e (by simpa using b0)
    have b8:=grownCap_ge w m 0 e;refine ⟨_,_,hr,⟨by simpa using hl,.inr ⟨w.heap.size,_,_,(0,0),by rw [qA],a9,ww w.drew _,.inl rfl,by omega,hc,?_,?_⟩⟩,⟨rfl,rfl,rfl,by simp,fun k hk _=>Below.heap_alloc w.drew _ k hk⟩,.inr rfl,.inr (.inl ⟨rfl,(jb w).trans ((qG _ _).alloc (by simp) _)⟩)⟩
    . simp only [Array.size_append,wF,size_zeroCells,b4,hl];omega
    . rw [Array.toList_append,qA,wt,<- hl];exact kb
  .
   by_cases a4:n+m<=cap
   .
    have b9:=run_storeCells_cells (P:=P) g n news 0 w (fun j hj=>by rw [qT,cell_of_row w g (n+j) cur e fz hg];simp;omega) (fun j hj=>by rw [qT];exact jko hg hf (n+j) (by omega)) h1
    simp only [qT] at b9;have hr:(Builtin.append_ #[t,t2] ty #[.slice (some ⟨g,0,none⟩) n cap,x]).run P w=.ok (.slice (some ⟨g,0,none⟩) (n+m) cap) (w.setCells g n news):=by
     simp [Builtin.append_,run_underlying ht,run_underlying a8,sizeOf,typeInfo,hi,a1,a3,a4,b6,Addr.add_lit,b9]
    obtain ⟨cur',k1,k2,k3,k4⟩:=jfs g e fz news n w cur hg (by omega)
    have a2:=jhi (fun q=>q=g) g rfl news n w
    refine ⟨_,_,hr,⟨by rw [qd,a0.1,hl],.inr ⟨g,cap,cur',fz,rfl,c2,k1,by rw [k2];exact hf,a4,c3,by omega,?_⟩⟩,⟨a2.os,a2.tape,a2.output,a2.size,fun k hk c6=>a2.block k hk (fun e=>c6 (by rw [e];rfl))⟩,.inl rfl,.inl ⟨g,cap,rfl,rfl⟩⟩
    apply List.ext_getElem?
    intro j;rw [List.getElem?_take];by_cases hj:j<n+m
    .
     rw [qf hj,Array.getElem?_toList];by_cases hjn:j<n
     . rw [k4 j (.inl hjn),List.getElem?_append_left (by rw [a0.1];exact hjn),<- b1,List.getElem?_take,qf hjn,Array.getElem?_toList]
     .
      have c0:j-n<news.length:=by omega
      have:=k3 (j-n) news[j-n] (by simp [c0])
      rw [show n+(j-n)=j by omega] at this
      rw [this,List.getElem?_append_right (by rw [a0.1];omega),a0.1];simp [c0]
    . rw [qh hj,List.getElem?_eq_none (by rw [qd,a0.1];omega)]
   .
    have b2:∀ j u,xs[j]?=some u->w.cell? ((⟨g,0,none⟩:Addr).add j)=some u:=a0.cells (g:=g) rfl;have c7:=run_firstCells_some (P:=P) w.drew 1 n ⟨g,0,none⟩ n cap xs (by rw [a0.1];omega) (by simpa using b2)
    have a6:¬ (9223372036854775807<((n:Int)+(m:Int))):=by omega
    have a7:¬ (281474976710656<Builtin.nextslicecap (n+m) cap*bytes):=by have:=growslice_fits (need:=n+m) (old:=cap) (bytes:=bytes) (by omega) a5;omega
    have hr:(Builtin.append_ #[t,t2] ty #[.slice (some ⟨g,0,none⟩) n cap,x]).run P w=.ok (.slice (some ⟨w.heap.size,0,none⟩) (n+m) (grownCap w (n+m) cap e)) (w.drew.alloc (.cells (xs.toArray++news.toArray++Builtin.zeroCells z.cells (grownCap w (n+m) cap e-(n+m))) e)):=by
     simp [Builtin.append_,run_underlying ht,run_underlying a8,sizeOf,typeInfo,zeroValue,hi,hz,a1,b3,a3,a4,a6,a7,Question.forced,b7,c7,newRow,grownCap]
     congr 2
     apply Array.ext'
     simp [List.append_assoc]
    have hc:=grownCap_le_maxLen w (n+m) cap e b0;have b8:=grownCap_ge w (n+m) cap e;refine ⟨_,_,hr,⟨by rw [qd,a0.1,hl],.inr ⟨w.heap.size,_,_,(0,0),rfl,a9,ww w.drew _,.inl rfl,b8,hc,?_,?_⟩⟩,⟨rfl,rfl,rfl,by simp,fun k hk _=>Below.heap_alloc w.drew _ k hk⟩,.inr rfl,.inr (.inl ⟨rfl,(jb w).trans ((qG _ _).alloc (by simp) _)⟩)⟩
    . simp only [Array.size_append,wF,size_zeroCells,b4,hl,a0.1];omega
    .
     have c8:(xs++news).length=n+m:=by rw [qd,a0.1,hl]
     rw [Array.toList_append,Array.toList_append,<- c8];exact kb
def uN (k n:Int):Int:=if n<1 then 0 else k % n
theorem jet (k n:Int)(h:1<=n):0<=uN k n/\uN k n<n:=by
 unfold uN;rw [qh (by omega)];exact ⟨Int.emod_nonneg _ (by omega),Int.emod_lt_of_pos _ (by omega)⟩
theorem jjm (k n:Int)(hn:1<=n):(if k.tmod n<0 then k.tmod n+n else k.tmod n)=k % n:=by
 have h1:=Int.tmod_eq_emod (a:=k) (b:=n);have h5:0<=k % n:=Int.emod_nonneg _ (by omega)
 have h6:k % n<n:=Int.emod_lt_of_pos _ (by omega)
 by_cases h:0<=k\/n ∣ k
 . rw [qf h] at h1;rw [qh (by omega)];omega
 . rw [qh h] at h1;rw [qf (by omega)];omega
theorem vu (k n:Int)(w:World)(h1 : -9223372036854775808<=k)(h2:k<=9223372036854775807)(h3 : -9223372036854775808<=n)(h4:n<=9223372036854775807) :
  Calls prog 10 #[k,n] w fun e w'=>e=.returned (uN k n)/\w=w':=by
 by_cases hn:n<1
 .
  go_enter func10,ntmps10
  go_wp2
  go_ret;exact ⟨by simp [uN,hn],rfl⟩
 .
  have a0:Hid (uN k n=k % n):=by unfold uN;rw [qh hn];rfl
  have ht:=jjm k n (by omega)
  have a2:0<=k % n:=Int.emod_nonneg _ (by omega)
  have a3:k % n<n:=Int.emod_lt_of_pos _ (by omega)
  by_cases hk:0<=k
  .
   clear ht;go_enter func10,ntmps10
   go_wp2
   go_ret;exact ⟨by rw [a0.out];rfl,rfl⟩
  .
   by_cases hz:k.tmod n<0
   .
    rw [qf hz] at ht;have a4 : -n<=k.tmod n:=by omega
    have a1:=qe ht;clear ht;go_enter func10,ntmps10
    go_wp2
    go_ret;exact ⟨by rw [a0.out,<- a1.out];rfl,rfl⟩
   .
    rw [qh hz] at ht;have a1:=qe ht;clear ht;go_enter func10,ntmps10
    go_wp2
    go_ret;exact ⟨by rw [a0.out,<- a1.out];rfl,rfl⟩
theorem uE:(prog.info? 5).map (fun i=>(i.zero,i.size,i.bytes))=some (some (.int .u8 0),1,1):=by kernel_rfl
theorem jmH {o:Oper}(a3:o.guard=none)(s x:Operand)(ho:o.op=.call { callee:=.builtin .append,args:=#[s,x],argTypes:=#[92,92] })(base:Nat)(v:Value)(n:Nat)(xs:List Value)(hs:a.eval s=v)(a2:w.ownsRow base 5 1 v n xs)(ad:Addr)(m c:Nat)(news:List Value)(hx:a.eval x=.slice (some ad) m c)(hl:news.length=m)(a0:∀ j u,news[j]?=some u->w.cell? (ad.add j)=some u)(h1:∀ u∈news,u.oneCell'=true)(a7:n+m<=140737488355328)(a1:base<=w.heap.size)(h:∀ v' w',w'.ownsRow base 5 1 v' (n+m) (xs++news)->w.grownBy w' v.ownBlock->xj w v v'->wpList prog ops Q rest (a.put o.dst v') w'):wpList prog ops Q (o::rest) a w:=by
 obtain ⟨i0,hi,a4,a5,a6⟩:=wI uE;exact yb a3 s x 92 ho base 5 i0 (.int .u8 0) 1 1 underlying92 hi a4 a5 a6 rfl (by decide) v n xs hs a2 ad m c news hx (by omega) a0 h1 (by unfold maxLen;omega) (by omega) a1 h
theorem jhT (a:Option Addr)(n cap k:Nat)(hk:k<=n)(w:World):(Instr.slice 92 (.slice a n cap) (some (.int .i64 (k:Int))) none none).run prog w=.ok (xP a n cap k) w :=
 jd8 underlying92 (by kernel_rfl) a n cap k hk w
theorem ji2 (a:Option Addr)(n cap k:Nat)(hk:k<=cap)(w:World):(Instr.slice 92 (.slice a n cap) none (some (.int .i64 (k:Int))) none).run prog w=.ok (.slice a k cap) w :=
 jhQ underlying92 ⟨1,by kernel_rfl⟩ a n cap k hk w
theorem jcV {o:Oper}(a3:o.guard=none)(s x:Operand)(ho:o.op=.call { callee:=.builtin .append,args:=#[s,x],argTypes:=#[92,92] })(base:Nat)(v:Value)(n:Nat)(xs:List Value)(hs:a.eval s=v)(a1:w.ownsRow base 5 1 v n xs)(src:Value)(l:List UInt8)(hx:a.eval x=src)(a2:Rd w src l.length (l.map V8))(a7:n+l.length<=140737488355328)(a0:base<=w.heap.size)(h:∀ v' w',w'.ownsRow base 5 1 v' (n+l.length) (xs++l.map V8)->w.grownBy w' v.ownBlock->xj w v v'->wpList prog ops Q rest (a.put o.dst v') w'):wpList prog ops Q (o::rest) a w:=by
 obtain ⟨i0,hi,a4,a5,a6⟩:=wI uE;exact zo a3 s x 92 ho base 5 i0 (.int .u8 0) 1 1 underlying92 hi a4 a5 a6 rfl (by decide) v n xs hs a1 src l.length (l.map V8) hx a2 (by simp) (by
  intro u hu;obtain ⟨c,_,rfl⟩:=pY.1 hu
  simp [V8,Value.oneCell']) (by unfold maxLen;omega) (by omega) a0 h
def SB (l:List UInt8):ByteArray:=⟨l.toArray⟩
def SV (l:List UInt8):Value:=.string (SB l)
@[simp] theorem SB_size (l:List UInt8):(SB l).size=l.length:=by simp [SB,ByteArray.size]
theorem jaF (l:List UInt8):(SB l).data.toList=l:=by simp [SB]
theorem jkj (l:List UInt8)(i:Nat)(h:i<(SB l).size):(SB l)[i]'h=l.getD i 0:=by
 have h':i<l.length:=by simpa using h
 show (SB l).data[i]'_=_
 simp [SB,List.getD,h']
theorem jkR {a b:ByteArray}(h:a.data.toList=b.data.toList):a=b:=by
 cases a;cases b;simp only [ByteArray.mk.injEq] at *;exact Array.ext' h
theorem jkS {a b:List UInt8}(h:SB a=SB b):a=b:=by
 have:=congrArg (fun x:ByteArray=>x.data.toList) h;simpa [SB] using this
theorem jej (l:List UInt8)(i j:Nat):(SB l).extract i j=SB ((l.take j).drop i):=by
 apply jkR
 simp [SB,ByteArray.data_extract,List.drop_take]
theorem jmM (a b:List UInt8):SB a++SB b=SB (a++b):=by unfold SB;rw [ByteArray.mk_append_mk]
theorem uP (l:List UInt8)(h:Rd w v n (l.map V8))(hn:n=l.length):(convert 92 9 v).run prog w=.ok (.string (SB l)) w:=by
 subst hn;obtain ⟨a,cap,rfl,h1,h2,h3,h4⟩:=h
 cases l with
 | nil =>
  cases a with
  | none=>exact run_convert_bytes_nil w 92 5 underlying92 underlying5 _ _ 9 underlying9
  | some a=>exact run_convert_bytes_back w 92 9 5 a cap [] underlying92 underlying5 underlying9 (fun j hj=>by simp at hj)
 | cons c l =>
  obtain ⟨b,off,rfl,_⟩:=h4 0 (by simp)
  refine run_convert_bytes_back w 92 9 5 _ cap (c::l) underlying92 underlying5 underlying9 (fun j hj=>?_)
  obtain ⟨b',off',e,h5⟩:=h4 j (by simpa using hj)
  injection e with e;injection e with e1 e2;subst e1;subst e2
  have a0:(⟨b,off,none⟩:Addr).add j=⟨b,off+j,none⟩:=by unfold Addr.add;split <;> simp_all
  rw [a0,h5,List.getD,List.getElem?_map,List.getElem?_eq_getElem hj];rfl
theorem jkK (w:World)(l:List UInt8):(convert 9 92 (.string (SB l))).run prog w=.ok (.slice (some ⟨w.heap.size,0,none⟩) l.length (grownCap w l.length 0 5)) (Lib.bytesWorld w 5 (SB l)):=by
 have:=Lib.run_convert_string_bytes (P:=prog) w 9 92 5 (SB l) underlying9 underlying92 underlying5
 simpa using this
theorem ux (w:World)(e:TypeId)(s:ByteArray):Below w.heap.size w (Lib.bytesWorld w e s) :=
 ⟨rfl,rfl,rfl,by rw [Lib.bytesWorld_size];omega,fun k hk=>Lib.bytesWorld_at_old w e s k hk⟩
theorem jeu (w:World)(l:List UInt8)(e:TypeId)(h:l.length<=140737488355328):OwnM (Lib.bytesWorld w e (SB l)) w.heap.size e (.slice (some ⟨w.heap.size,0,none⟩) l.length (grownCap w l.length 0 e)) l.length (l.map V8):=by
 have hg:=grownCap_ge w l.length 0 e;have hm:=grownCap_le_maxLen w l.length 0 e (by unfold maxLen;omega)
 have a0:(Lib.bytesCells w e (SB l)).size=grownCap w l.length 0 e:=by have:=SB_size l;unfold SB at this;simp only [Lib.bytesCells,SB,Array.size_append,Array.size_map,Array.size_replicate,this,wF];omega
 refine ⟨by simp,.inr ⟨w.heap.size,_,_,_,rfl,qm _,Lib.bytesWorld_at_new w e (SB l),.inr (qm _),hg,hm,by omega,?_⟩⟩
 simp [Lib.bytesCells,SB,V8]
theorem je6 {o:Oper}(a2:o.guard=none)(s x:Operand)(ho:o.op=.call { callee:=.builtin .append,args:=#[s,x],argTypes:=#[92,9] })(base:Nat)(v:Value)(n:Nat)(xs:List Value)(hs:a.eval s=v)(a1:OwnM w base 5 v n xs)(l:List UInt8)(hx:a.eval x=.string (SB l))(a6:n+l.length<=140737488355328)(a0:base<=w.heap.size)(h:∀ v' w',OwnM w' base 5 v' (n+l.length) (xs++l.map V8)->w.grownBy w' v.ownBlock->xj w v v'->wpList prog ops Q rest (a.put o.dst v') w'):wpList prog ops Q (o::rest) a w:=by
 obtain ⟨i0,hi,a3,a4,a5⟩:=wI uE;refine pX a2 fun _ hK=>?_
 obtain ⟨v',w',hr,h2,h3,h4,_⟩:=ui (P:=prog) w base 92 9 o.type 5 _ i0 (.int .u8 0) 1 underlying92 underlying9 (.inr rfl) hi a3 a4 a5 rfl v n xs a1
  (.string (SB l)) l.length (l.map V8) (by simp) (fun w=>by simp [Builtin.lenOf]) (fun wd _=>by
   have:=Lib.run_firstCells_string (P:=prog) wd 1 (SB l);rw [SB_size] at this;rw [this];simp [Lib.strCells,SB,V8]) (by
   intro u hu;obtain ⟨c,_,rfl⟩:=pY.1 hu
   simp [V8,Value.oneCell']) (by unfold maxLen;omega) (by omega) a0
 unfold Oper.wp execOp;simp only [ho,resolve,invoke,builtin,wu,wB,qR,wV,wK,pF,hs,hx,hr];exact hK _ _ (h v' w' h2 h3 h4)
theorem jbU (w:World)(l:List UInt8)(i:Nat)(h:i<=l.length):(Instr.slice 9 (.string (SB l)) (some (.int .i64 (i:Int))) none none).run prog w=.ok (.string (SB (l.drop i))) w:=by
 rw [run_slice_string_from_if w 9 (SB l) .i64 i underlying9,qf (by simp;omega),jej,SB_size,ql (qm _)];rfl
theorem jf6 (w:World)(l:List UInt8)(i:Nat)(h:i<=l.length):(Instr.slice 9 (.string (SB l)) none (some (.int .i64 (i:Int))) none).run prog w=.ok (.string (SB (l.take i))) w:=by
 rw [run_slice_string_to_if w 9 (SB l) .i64 i underlying9,qf (by simp;omega),jej];rfl
theorem xL (w:World)(l:List UInt8)(i:Nat)(h:i<l.length):(Instr.index 9 (.string (SB l)) (i:Int)).run prog w=.ok (.int .u8 ((l.getD i 0).toNat:Int)) w:=by
 rw [run_index_string w 9 (SB l) .i64 i underlying9,dif_pos (by simp;omega)]
 simp only [p9];rw [jkj]
theorem jaE {a:Addr}(h:w.cell? a=some x):a.block<w.heap.size:=by
 rcases qX a.block w.heap.size with h' | h'
 . exact h'
 . simp [World.cell?,Array.getElem?_eq_none h'] at h
theorem jh (l:List UInt8):(SB l).toList=l:=by rw [Lib.toList_data,jaF]
theorem jgw (a b i m:Nat)(hm:m=2 ^ i)(h:a<m):a ||| (b*m)=b*m+a:=by
 subst hm;rw [Nat.or_comm,<- Nat.shiftLeft_eq,Nat.shiftLeft_add_eq_or_of_lt h]
theorem jgs (a b:Nat)(ha:a<4294967296)(hb:b<4294967296):bits .or .u32 (a:Int) (b:Int)=((a ||| b:Nat):Int):=by
 have hx:a ||| b<2 ^ 32:=Nat.or_lt_two_pow (by omega) (by omega)
 have ho:∀ n:Nat,n<4294967296->(BitVec.ofInt 32 (n:Int)).toNat=n:=fun n hn=>by rw [p7];omega
 show IntKind.u32.wrap ((BitVec.ofInt 32 (a:Int) ||| BitVec.ofInt 32 (b:Int)).toNat:Int)=_
 rw [BitVec.toNat_or,ho a ha,ho b hb,jfj _ (by omega)]
theorem jm6 (c1 c2 c3 c4:Nat)(h1:c1<256)(h2:c2<256)(h3:c3<256)(h4:c4<256) :
  bits .or .u32 (bits .or .u32 (bits .or .u32 (c1:Int) ((c2:Int)*256)) ((c3:Int)*65536)) ((c4:Int)*16777216)=((c1+256*c2+65536*c3+16777216*c4:Nat):Int):=by
 have e2:((c2:Int)*256)=((c2*256:Nat):Int):=by omega
 have e3:((c3:Int)*65536)=((c3*65536:Nat):Int):=by omega
 have e4:((c4:Int)*16777216)=((c4*16777216:Nat):Int):=by omega
 rw [e2,e3,e4,jgs c1 (c2*256) (by omega) (by omega),jgw c1 c2 8 256 (by decide) (by omega),jgs _ (c3*65536) (by omega) (by omega),jgw _ c3 16 65536 (by decide) (by omega),jgs _ (c4*16777216) (by omega) (by omega),jgw _ c4 24 16777216 (by decide) (by omega)]
 omega
theorem vJ (a0:op.guard=none)(ty:TypeId)(x:Operand)(ho:op.op=.load ty x)(b o:Nat)(hx:a.eval x=.pointer (some ⟨b,o,none⟩))(cs:List Value)(d:TypeDesc)(hc:w.rangeAt b o cs)(hu:P.underlying ty=some d)(hd:d.isRow=true)(hi:(P.info? ty).map (·.size)=some cs.length)(h:∀ c,Hid (c=cs.toArray)->wpList P ops Q rest (a.put op.dst (.agg c)) w):wpList P ops Q (op::rest) a w :=
 wpList_load_mid a0 ty x ho b o hx cs d hc hu hd hi (h _ (qe rfl))
theorem xk {Q:Act->Prop}(hw:Region.wanted op (yielded ops a.tmps)=true)(ty:TypeId)(x:Operand)(ho:op.op=.load ty x)(b o:Nat)(hx:a.eval x=.pointer (some ⟨b,o,none⟩))(cs:List Value)(d:TypeDesc)(hc:w.rangeAt b o cs)(hu:P.underlying ty=some d)(hd:d.isRow=true)(hi:(P.info? ty).map (·.size)=some cs.length)(h:∀ c,Hid (c=cs.toArray)->wpStill P ops w Q rest (a.put op.dst (.agg c))):wpStill P ops w Q (op::rest) a:=by
 unfold wpStill;rw [qf hw];unfold Oper.still execOp;simp only [ho,hx,Instr.loadAt,Instr.sureAddr,wu,wB,qR,pA w b o ty cs d hc hu hd hi];exact ⟨rfl,h _ (qe rfl)⟩
theorem jar (a0:op.guard=none)(ty:TypeId)(x y:Operand)(ho:op.op=.store ty x y)(b o:Nat)(cs:List Value)(hx:a.eval x=.pointer (some ⟨b,o,none⟩))(c:Array Value)(hy:a.eval y=.agg c)(hv:Hid (c=cs.toArray))(ht:w.there b o cs.length)(hi:(P.info? ty).map (·.size)=some cs.length)(h1:∀ v∈cs,v.oneCell'=true)(h:∀ w',Hid (w'=w.setCells b o cs)->wpList P ops Q rest (a.put op.dst undef) w'):wpList P ops Q (op::rest) a w :=
 wpList_store_mid a0 ty x y ho b o cs.toArray hx (hy.trans (congrArg Value.agg hv.out)) (by simpa using ht) (by simpa using hi) (pV h1) (h _ (qe (by simp)))
theorem jlD {u:Tmp}(h:fn.results=#[.cell p ty,.tmp u])(a0:a.defers = [])(b o:Nat)(hp:a.tmps.getD p undef=.pointer (some ⟨b,o,none⟩))(cs:List Value)(d:TypeDesc)(hc:w.rangeAt b o cs)(hu:P.underlying ty=some d)(hd:d.isRow=true)(hi:(P.info? ty).map (·.size)=some cs.length)(x:Value)(hx:a.tmps.getD u undef=x)(hR:R (.returned (.tuple #[.agg cs.toArray,x])) w):bodyPost P fn R .ret a w:=by
 refine qP (v:=.tuple #[.agg cs.toArray,x]) ?_ a0 hR;rw [results_cell_tmp h,hp,hx]
 simp [asAddr,Result.andThen,run_loadVar_mid w b o ty cs d hc hu hd hi]
theorem jne (h:fn.results=#[.cell p ty])(a0:a.defers = [])(b o:Nat)(hp:a.tmps.getD p undef=.pointer (some ⟨b,o,none⟩))(cs:List Value)(d:TypeDesc)(hc:w.rangeAt b o cs)(hu:P.underlying ty=some d)(hd:d.isRow=true)(hi:(P.info? ty).map (·.size)=some cs.length)(hR:R (.returned (.agg cs.toArray)) w):bodyPost P fn R .ret a w:=by
 refine qP (v:=.agg cs.toArray) ?_ a0 hR;simp only [results,h];have a1:a.tmps[p]?.getD undef=.pointer (some ⟨b,o,none⟩):=by simpa using hp
 simp [a1,asAddr,run_loadVar_mid w b o ty cs d hc hu hd hi]
theorem Box.setCells :∀ (vs:List Value) (o:Nat) {w:World} {cs:Array Value},Box w b cs t->o+vs.length<=cs.size ->
  ∃ cs',Box (w.setCells b o vs) b cs' t/\cs'.size=cs.size/\(∀ j v,vs[j]?=some v->cs'[o+j]?=some v)/\∀ j,j<o\/o+vs.length<=j->cs'[j]?=cs[j]?
 | [],o,_,cs,h,_=>⟨cs,h,rfl,fun j v hv=>by simp at hv,fun _ _=>rfl⟩
 | x::r,o,w,cs,h,hl=>by
  simp only [qp] at hl;obtain ⟨cs',h1,h2,h3,h4⟩:=Box.setCells r (o+1) (h.set o x) (by simp;omega)
  rw [World.setCells];refine ⟨cs',h1,by simpa using h2,fun j v hv=>?_,fun j hj=>?_⟩
  .
   cases j with
   | zero =>
    rw [qT,h4 o (by omega)]
    simp at hv
    subst hv
    simp [show o<cs.size by omega]
   | succ j =>
    have:=h3 j v (by simpa using hv)
    rw [show o+(j+1)=o+1+j by omega];exact this
  .
   simp only [qp] at hj;rw [h4 j (by omega)]
   simp [show o≠j by omega]
theorem Mod.setCells (F:Nat->Prop)(b:Nat)(hb:F b):∀ (vs:List Value) (o:Nat) (w:World),Mod F w (w.setCells b o vs)
 | [],_,_=>Mod.refl _ _
 | v::r,o,w=>(Mod.set F w ⟨b,o,none⟩ v hb).trans (Mod.setCells F b hb r (o+1) _)
theorem Sk {w2:World}{cs2:List Value}{x y:Operand}{c:Array Value}(cs:List Value)(hv:Hid (c=cs.toArray))(ht:w2.there b o n)(h1:∀ v∈cs2,v.oneCell'=true)(h:∀ w',Hid (w'=w.setCells b o cs)->wpList P ops Q rest (a.put op.dst undef) w')(ho:op.op=.store ty x y:=by with_unfolding_all rfl)(hgd:op.guard=none:=by with_unfolding_all rfl)(hx:a.eval x=.pointer (some ⟨b,o,none⟩):=by with_unfolding_all rfl)(hy:a.eval y=.agg c:=by with_unfolding_all rfl)(hi:(P.info? ty).map (·.size)=some cs.length:=by kernel_rfl)(hw:w2=w:=by with_unfolding_all rfl)(hn:n=cs.length:=by with_unfolding_all rfl)(h2:cs2=cs:=by with_unfolding_all rfl):wpList P ops Q (op::rest) a w :=
  jar hgd ty x y ho b o cs hx c hy hv (hw ▸ hn ▸ ht) hi (h2 ▸ h1) h
theorem Sz {cs2:List Value}{x y:Operand}{c:Array Value}(cs:List Value)(hv:Hid (c=cs.toArray))(h1:∀ v∈cs2,v.oneCell'=true)(h:∀ w',Hid (w'=w.setCells b o cs)->wpList P ops Q rest (a.put op.dst undef) w')(ho:op.op=.store ty x y:=by with_unfolding_all rfl)(hgd:op.guard=none:=by with_unfolding_all rfl)(hx:a.eval x=.pointer (some ⟨b,o,none⟩):=by with_unfolding_all rfl)(hy:a.eval y=.agg c:=by with_unfolding_all rfl)(h2:cs2=cs:=by with_unfolding_all rfl)(hi:(P.info? ty).map (·.size)=some cs.length:=by kernel_rfl)(ht:w.there b o cs.length:=by with_unfolding_all exact jnt _ _):wpList P ops Q (op::rest) a w :=
  jar hgd ty x y ho b o cs hx c hy hv ht hi (h2 ▸ h1) h
theorem Lk {x:Operand}{cs:List Value}(hc:w.rangeAt b o cs)(hu:P.underlying ty=some d)(h:∀ c,Hid (c=cs.toArray)->wpList P ops Q rest (a.put op.dst (.agg c)) w)(ho:op.op=.load ty x:=by with_unfolding_all rfl)(hgd:op.guard=none:=by with_unfolding_all rfl)(hx:a.eval x=.pointer (some ⟨b,o,none⟩):=by with_unfolding_all rfl)(hd:d.isRow=true:=by with_unfolding_all rfl)(hi:(P.info? ty).map (·.size)=some cs.length:=by kernel_rfl):wpList P ops Q (op::rest) a w :=
  vJ hgd ty x ho b o hx cs d hc hu hd hi h
theorem Lw {x:Operand}{cs:List Value}(hc:w.rangeAt b o cs)(hu:P.underlying ty=some d)(h:∀ c,Hid (c=cs.toArray)->wpList P ops Q rest (a.put op.dst (.agg c)) w)(ho:op.op=.load ty x:=by with_unfolding_all rfl)(hw:Region.wanted op (yielded ops a.tmps)=true:=by with_unfolding_all rfl)(hx:a.eval x=.pointer (some ⟨b,o,none⟩):=by with_unfolding_all rfl)(hd:d.isRow=true:=by with_unfolding_all rfl)(hi:(P.info? ty).map (·.size)=some cs.length:=by kernel_rfl):wpList P ops Q (op::rest) a w:=by
  rw [wpList,qf hw]
  exact .inl (wp_load_mid ty x ho b o hx cs d hc hu hd hi (h _ (qe rfl)))
theorem Ek {x:Operand}{cs:List Value}(hc:w.rangeAt b o cs)(hu:P.underlying ty=some d)(ho:op.op=.load ty x:=by rfl)(hx:a.eval x=.pointer (some ⟨b,o,none⟩):=by rfl)(hd:d.isRow=true:=by rfl)(hi:(P.info? ty).map (·.size)=some cs.length:=by kernel_rfl):(execOp a.eval op).run P w=.ok (.value (.agg cs.toArray)) w:=by
  unfold execOp
  simp only [ho,hx,Instr.loadAt,Instr.sureAddr,wu,wB,qR,pA w b o ty cs d hc hu hd hi]
theorem Jt {u:Tmp}{cs:List Value}(hc:w.rangeAt b o cs)(hu:P.underlying ty=some d)(hR:R (.returned (.tuple #[.agg cs.toArray,x])) w)(h:fn.results=#[.cell p ty,.tmp u]:=by rfl)(hdf:a.defers = []:=by rfl)(hp:a.tmps.getD p undef=.pointer (some ⟨b,o,none⟩):=by rfl)(hd:d.isRow=true:=by rfl)(hi:(P.info? ty).map (·.size)=some cs.length:=by kernel_rfl)(hx:a.tmps.getD u undef=x:=by rfl):bodyPost P fn R .ret a w :=
  jlD h hdf b o hp cs d hc hu hd hi x hx hR
theorem Jc {cs:List Value}(hc:w.rangeAt b o cs)(hu:P.underlying ty=some d)(hR:R (.returned (.agg cs.toArray)) w)(h:fn.results=#[.cell p ty]:=by rfl)(hdf:a.defers = []:=by rfl)(hp:a.tmps.getD p undef=.pointer (some ⟨b,o,none⟩):=by rfl)(hd:d.isRow=true:=by rfl)(hi:(P.info? ty).map (·.size)=some cs.length:=by kernel_rfl):bodyPost P fn R .ret a w :=
  jne h hdf b o hp cs d hc hu hd hi hR
theorem Bs {parts:Array (Nat × Operand)}{vals:Array (Nat × Value)}(hr:(Instr.buildSlice t n vals).run P w=.ok (.slice (some ⟨w.heap.size,0,none⟩) n n) (w.alloc (.cells cs e)))(h:∀ w',Hid (w'=w.alloc (.cells cs e))->wpList P ops Q rest (a.put op.dst (.slice (some ⟨w.heap.size,0,none⟩) n n)) w')(ho:op.op=.buildSlice t n parts:=by rfl)(hw:Region.wanted op (yielded ops a.tmps)=true:=by rfl)(hv:(parts.map fun (i,x)=>(i,a.eval x))=vals:=by kernel_rfl):wpList P ops Q (op::rest) a w:=by
  rw [wpList,qf hw]
  refine .inl ?_
  unfold Oper.wp execOp
  simp only [ho,wu,hv,hr,qR,wB]
  exact h _ (qe rfl)
theorem Bv {parts:Array (Nat × Operand)}{vals:Array (Nat × Value)}(hr:(Instr.build t vals).run P w=.ok x w)(h:wpList P ops Q rest (a.put op.dst x) w)(ho:op.op=.build t parts:=by rfl)(hw:Region.wanted op (yielded ops a.tmps)=true:=by rfl)(hv:(parts.map fun (i,x)=>(i,a.eval x))=vals:=by kernel_rfl):wpList P ops Q (op::rest) a w:=by
  rw [wpList,qf hw]
  refine .inl ?_
  unfold Oper.wp execOp
  simp only [ho,wu,hv,hr,qR,wB]
  exact h
theorem Mod.setG3 (b:Nat)(w:World)(x y z:Value):Mod (fun i=>i=b) w (((w.setCell ⟨b,0,none⟩ x).setCell ⟨b,1,none⟩ y).setCell ⟨b,2,none⟩ z) :=
 ((Mod.set (fun i=>i=b) w ⟨b,0,none⟩ x rfl).trans (Mod.set (fun i=>i=b) _ ⟨b,1,none⟩ y rfl)).trans (Mod.set (fun i=>i=b) _ ⟨b,2,none⟩ z rfl)
theorem jgF {a:Addr}(hm:Mod F w w')(hc:w.cell? a=some x)(hn:¬ F a.block):w'.cell? a=some x:=by
 rw [World.cell?_of_block (w:=w) (hm.block a.block (World.block_lt_of_cell? w _ hc) hn)];exact hc
theorem jfR {K:Act->World->Prop}(ty:TypeId)(x y:Operand)(ho:op.op=.store ty x y)(b o:Nat)(cs:List Value)(hx:a.eval x=.pointer (some ⟨b,o,none⟩))(hy:a.eval y=.agg cs.toArray)(ht:w.there b o cs.length)(hi:(P.info? ty).map (·.size)=some cs.length)(h1:∀ v∈cs,v.oneCell'=true)(h:K (a.put op.dst undef) (w.setCells b o cs)):op.wp P a w K Q:=by
 refine wp_store_mid ty x y ho b o cs.toArray hx hy ?_ ?_ (pV h1) ?_
 . rw [wF];exact ht
 . rw [wF];exact hi
 . exact h
theorem Box.thereG3 (h:Box w b #[x,y,z] t):w.there b 0 3:=by
 intro j hj;rw [qA]
 match j,hj with
 | 0,_=>exact ⟨by rw [h.cell 0 _ rfl];rfl,h.free _⟩
 | 1,_=>exact ⟨by rw [h.cell 1 _ rfl];rfl,h.free _⟩
 | 2,_=>exact ⟨by rw [h.cell 2 _ rfl];rfl,h.free _⟩
theorem Box.setG3 (h:Box w b #[x,y,z] t)(x' y' z':Value):Box (w.setCells b 0 [x',y',z']) b #[x',y',z'] t/\Mod (fun i=>i=b) w (w.setCells b 0 [x',y',z']) :=
 ⟨((h.set 0 x').set 1 y').set 2 z',Mod.setG3 b w x' y' z'⟩
theorem jmp (x y:Int)(a:Option Addr)(n c:Nat):∀ v ∈ [Value.int .i64 x,Value.int .i64 y,Value.slice a n c],v.oneCell'=true:=by
 intro v hv;simp only [qH,qO,wM] at hv
 rcases hv with rfl | rfl | rfl <;> rfl
end Go.Proofs.YtgcnolapjppbpaaGreatDoor
