/-
  Texts of one proof, one behind the other.
-/
import Derived.Test.YtgcnolapjppbpaaGreatDoorRows
import Derived.WalkKit
import Derived.WalkSpells
import Derived.WalkLawsBesides
import Derived.Lib.Hide
import Derived.Handy
import Derived.StillTailTactics
import Derived.BigQuiet
import Derived.Deep.QuietTactic
import Derived.Deep.RegionHeld3
import Derived.Deep.RegionWith
import Derived.Deep.AppendLies
import Derived.Laws.EntriesVeiled
import Derived.Deep.DeepCutAuto
import Derived.Deep.CutBlock
import Derived.Deep.LoopGhost
import Derived.Deep.DeepMust
import Derived.Test.YtgcnolapjppbpaaGreatDoorP00
namespace Go.Proofs.YtgcnolapjppbpaaGreatDoor
open Go.RowKit _root_.Go.Proofs.Tryz
set_option maxRecDepth 100000
set_option maxHeartbeats 25600000
def uC (r:UInt32):UInt32:=(r >>> 1) ^^^ (0xedb88320 &&& -(r &&& 1))
def uz:Nat→UInt32→UInt32
 | 0,r=>r
 | n+1,r=>uC (uz n r)
def jeX (r:UInt32)(c:UInt8):UInt32:=uz 8 (r ^^^ c.toUInt32)
def xW (r:UInt32)(l:List UInt8):UInt32:=l.foldl jeX r
def crc (l:List UInt8):UInt32 := ~~~(xW 0xffffffff l)
theorem jb2 (r:UInt32)(l:List UInt8)(k:Nat)(h:k<l.length):xW r (l.take (k+1))=jeX (xW r (l.take k)) l[k]:=by
 rw [List.take_succ_eq_append_getElem h,xW,List.foldl_append];rfl
theorem jdW (r:UInt32)(a b:List UInt8):xW r (a++b)=xW (xW r a) b:=by rw [xW,List.foldl_append];rfl
theorem jh2 (r:UInt32):r &&& 1=0∨r &&& 1=1:=by
 have h:(r &&& 1).toNat≤1:=by
  rw [UInt32.toNat_and];exact Nat.and_le_right
 have:(r &&& 1).toNat=0∨(r &&& 1).toNat=1:=by omega
 rcases this with h | h
 · left;exact UInt32.toNat_inj.1 (by simpa using h)
 · right;exact UInt32.toNat_inj.1 (by simpa using h)
theorem jfz {r:UInt32}(h:r &&& 1=1):uC r=(r >>> 1) ^^^ 0xedb88320:=by
 rw [uC,h];rfl
theorem je4 {r:UInt32}(h:r &&& 1=0):uC r=r >>> 1:=by
 rw [uC,h,show (0xedb88320 &&& -(0:UInt32))=0 from rfl,UInt32.xor_zero]
def le (v:Nat):Nat→List UInt8
 | 0 => []
 | n+1=>UInt8.ofNat v::le (v / 256) n
theorem jG (v n:Nat):(le v n).length=n:=by induction n generalizing v with | zero=>rfl | succ n ih=>simp [le,ih]
def pre (e:UInt32)(n:Nat):List UInt8:=104::(le e.toNat 4++le n 2)
def xr (e:UInt32)(p:List UInt8):List UInt8:=pre e p.length++le (crc (pre e p.length++p)).toNat 4
theorem vH (e:UInt32)(n:Nat):(pre e n).length=7:=by simp [pre,jG]
theorem xz (e:UInt32)(p:List UInt8):(xr e p).length=11:=by simp [xr,vH,jG]
def ym:Nat→List UInt8→List (List UInt8)
 | 0,_ => []
 | f+1,p=>if p.length=0 then [] else (99::p.take 255)::ym f (p.drop 255)
def jz (e:UInt32)(p:List UInt8):List (List UInt8):=(xr e p++p.take 245)::ym 3 (p.drop 245)
def yt (size:Nat):List UInt8→List (List UInt8)→Nat→List UInt8 × Nat
 | p,[],n=>(p,n)
 | p,s::r,n=>if p.length<size then (if s.length=1+min (size-p.length) 255∧s.head?=some 99 then yt size (p++s.tail) r (n+1) else (p,n)) else (p,n)
def jL (b:List UInt8):Nat:=(b.getD 5 0).toNat+256*(b.getD 6 0).toNat
def vb (e:UInt32):List (List UInt8)→Option (List UInt8 × Nat)
 | []=>none
 | b::r =>
  if b.length<11 then none else
  if jL b > 512∨b.length≠11+min (jL b) 245 then none else
  let g:=yt (jL b) (b.drop 11) r 1
  if g.1.length≠jL b∨xr e g.1≠b.take 11 then none else some g
def jkB (e:UInt32)(l:List (List UInt8))(p:List UInt8)(k:Nat):Prop:=p.length≤512∧k=(jz e p).length∧l.take k=jz e p
theorem jbI (e:UInt32)(p q:List UInt8)(h:p.length≤512):jL (xr e p++q)=p.length:=by
 have h5:(xr e p++q).getD 5 0=UInt8.ofNat p.length:=by simp [xr,pre,le]
 have h6:(xr e p++q).getD 6 0=UInt8.ofNat (p.length / 256):=by simp [xr,pre,le]
 unfold jL;rw [h5,h6];have a1:(UInt8.ofNat p.length).toNat=p.length % 256:=by show p.length % 2 ^ 8=_;rfl
 have a2:(UInt8.ofNat (p.length / 256)).toNat=p.length / 256 % 256:=by show p.length / 256 % 2 ^ 8=_;rfl
 rw [a1,a2];omega
theorem jb3 (size:Nat):∀ (f:Nat) (q p:List UInt8) (t:List (List UInt8)) (n:Nat),q.length≤255*f→p.length+q.length=size →
  yt size p (ym f q++t) n=(p++q,n+(ym f q).length)
 | 0,q,p,t,n,hq,hs=>by
  have:q = []:=List.eq_nil_of_length_eq_zero (by omega)
  subst this;simp only [ym,List.nil_append,List.append_nil,List.length_nil,Nat.add_zero]
  cases t with
  | nil=>rfl
  | cons s t=>rw [yt,if_neg (by simp at hs;omega)]
 | f+1,q,p,t,n,hq,hs=>by
  rw [ym];by_cases h0:q.length=0
  ·
   have:q = []:=List.eq_nil_of_length_eq_zero h0;subst this;simp only [List.length_nil,if_true,List.nil_append,List.append_nil,Nat.add_zero]
   cases t with
   | nil=>rfl
   | cons s t=>rw [yt,if_neg (by simp at hs;omega)]
  ·
   rw [if_neg h0,List.cons_append,yt,if_pos (by omega),if_pos ⟨by simp;omega,rfl⟩,List.tail_cons,
    jb3 size f (q.drop 255) (p++q.take 255) t (n+1) (by simp;omega) (by simp;omega)]
   simp only [List.append_assoc,List.take_append_drop,List.length_cons,Prod.mk.injEq,true_and];omega
theorem jgN (e:UInt32)(p:List UInt8)(t:List (List UInt8))(h:p.length≤512):vb e (jz e p++t)=some (p,(jz e p).length):=by
 have a0:=jbI e p (p.take 245) h;have hl:=xz e p;unfold jz;rw [List.cons_append,vb];rw [if_neg (by simp [hl]),a0,if_neg (by simp [hl];omega)]
 have hd:(xr e p++p.take 245).drop 11=p.take 245:=by rw [← hl,List.drop_left]
 have ht:(xr e p++p.take 245).take 11=xr e p:=by rw [← hl,List.take_left]
 rw [hd,ht,jb3 p.length 3 (p.drop 245) (p.take 245) t 1 (by simp;omega) (by simp;omega),List.take_append_drop]
 simp only [ne_eq,not_true_eq_false,or_self,if_false,List.length_cons,Option.some.injEq,Prod.mk.injEq,true_and];omega
theorem jbX (size:Nat):∀ (f:Nat) (r:List (List UInt8)) (p:List UInt8) (n:Nat),(yt size p r n).1.length=size→size-p.length≤255*f→p.length≤size →
  ∃ q,(yt size p r n).1=p++q∧q.length=size-p.length∧(yt size p r n).2=n+(ym f q).length∧r.take (ym f q).length=ym f q
 | f,[],p,n,hg,hf,hp=>by
  rw [yt] at hg ⊢;refine ⟨[],by simp,by simp at hg ⊢;omega,?_,?_⟩
  · cases f <;> simp [ym]
  · cases f <;> simp [ym]
 | f,s::r,p,n,hg,hf,hp=>by
  rw [yt] at hg ⊢;by_cases h1:p.length<size
  ·
   rw [if_pos h1] at hg ⊢;by_cases h2:s.length=1+min (size-p.length) 255∧s.head?=some 99
   ·
    rw [if_pos h2] at hg ⊢;obtain ⟨h2,h3⟩:=h2
    match f,hf with
    | 0,hf=>omega
    | f+1,hf =>
     have a0:s.tail.length=min (size-p.length) 255:=by simp;omega
     obtain ⟨q,g1,g2,g3,g4⟩:=jbX size f r (p++s.tail) (n+1) hg (by rw [List.length_append,a0];omega) (by rw [List.length_append,a0];omega)
     rw [List.length_append,a0] at g2;have a1:(s.tail++q).length≠0:=by rw [List.length_append,a0];omega
     have ht:(s.tail++q).take 255=s.tail:=by
      by_cases hc:size-p.length≤255
      ·
       have:q = []:=List.eq_nil_of_length_eq_zero (by omega)
       subst this;rw [List.append_nil,List.take_of_length_le (by omega)]
      · rw [List.take_append_of_le_length (by omega),List.take_of_length_le (by omega)]
     have hd:(s.tail++q).drop 255=q:=by
      by_cases hc:size-p.length≤255
      ·
       have:q = []:=List.eq_nil_of_length_eq_zero (by omega)
       subst this;rw [List.append_nil,List.drop_eq_nil_of_le (by omega)]
      ·
       have:s.tail.length=255:=by omega
       rw [← this,List.drop_left]
     have hs:99::s.tail=s:=by
      cases s with
      | nil=>simp at h3
      | cons a s=>simp at h3;rw [h3];rfl
     refine ⟨s.tail++q,by rw [g1,List.append_assoc],by rw [List.length_append,a0];omega,?_,?_⟩
     · rw [ym,if_neg a1,hd,List.length_cons,g3];omega
     · rw [ym,if_neg a1,hd,ht,List.length_cons,List.take_succ_cons,g4,hs]
   ·
    rw [if_neg h2] at hg;simp only at hg;omega
  ·
   rw [if_neg h1] at hg ⊢;refine ⟨[],by simp,by simp;omega,?_,?_⟩
   · cases f <;> simp [ym]
   · cases f <;> simp [ym]
theorem zi (e:UInt32)(l:List (List UInt8))(p:List UInt8)(k:Nat):vb e l=some (p,k)↔jkB e l p k:=by
 constructor
 ·
  intro h
  cases l with
  | nil=>cases h
  | cons b r =>
   rw [vb] at h;by_cases h1:b.length<11
   · rw [if_pos h1] at h;cases h
   rw [if_neg h1] at h;by_cases h2:jL b > 512∨b.length≠11+min (jL b) 245
   · rw [if_pos h2] at h;cases h
   rw [if_neg h2] at h;simp only at h;by_cases h3:(yt (jL b) (b.drop 11) r 1).1.length≠jL b∨xr e (yt (jL b) (b.drop 11) r 1).1≠b.take 11
   · rw [if_pos h3] at h;cases h
   rw [if_neg h3] at h;simp only [not_or,Decidable.not_not] at h3;obtain ⟨h4,h5⟩:=h3;have hb:b.length=11+min (jL b) 245:=by
    by_cases hb:b.length=11+min (jL b) 245
    · exact hb
    · exact absurd (.inr hb) h2
   have a0:jL b≤512:=by
    by_cases hs:jL b≤512
    · exact hs
    · exact absurd (.inl (by omega)) h2
   obtain ⟨q,g1,g2,g3,g4⟩:=jbX (jL b) 3 r (b.drop 11) 1 h4 (by simp;omega) (by simp;omega)
   simp only [Option.some.injEq] at h;rw [h] at g1 g3 h4 h5;simp only at g1 g3 h4 h5;have a1:(b.drop 11).length=min (jL b) 245:=by simp;omega
   have ht:p.take 245=b.drop 11:=by
    rw [g1];by_cases hc:jL b≤245
    ·
     have:q = []:=List.eq_nil_of_length_eq_zero (by omega)
     subst this;rw [List.append_nil,List.take_of_length_le (by omega)]
    · rw [List.take_append_of_le_length (by omega),List.take_of_length_le (by omega)]
   have hd:p.drop 245=q:=by
    rw [g1];by_cases hc:jL b≤245
    ·
     have:q = []:=List.eq_nil_of_length_eq_zero (by omega)
     subst this;rw [List.append_nil,List.drop_eq_nil_of_le (by omega)]
    ·
     have:(b.drop 11).length=245:=by omega
     rw [← this,List.drop_left]
   refine ⟨by omega,?_,?_⟩
   · unfold jz;rw [List.length_cons,hd,g3];omega
   ·
    unfold jz;rw [hd,ht,h5,g3,List.take_append_drop,Nat.add_comm,List.take_succ_cons,g4]
 ·
  rintro ⟨h1,h2,h3⟩;have:=jgN e p (l.drop k) h1;rw [← h3,List.take_append_drop] at this;rw [this,h3,h2]
theorem vQ (e:UInt32)(p:List UInt8):0<(jz e p).length:=by simp [jz]
theorem vr {e:UInt32}{l:List (List UInt8)}{p:List UInt8}{k:Nat}(h:vb e l=some (p,k)):0<k∧k≤l.length:=by
 obtain ⟨h1,h2,h3⟩:=(zi e l p k).1 h;have:=vQ e p;refine ⟨by omega,?_⟩
 have:=congrArg List.length h3
 simp at this;omega
def I32 (u:UInt32):Int:=(u.toNat:Int)
theorem jiV (u:UInt32):0≤I32 u∧I32 u<4294967296:=by unfold I32;have:=u.toNat_lt;omega
theorem jht {a b:UInt32}(h:I32 a=I32 b):a=b:=by unfold I32 at h;exact UInt32.toNat_inj.1 (by omega)
theorem vh (u:UInt32):BitVec.ofInt 32 (I32 u)=u.toBitVec:=by
 unfold I32;rw [BitVec.ofInt_natCast];simp
theorem jd7 (n:Nat)(h:n<4294967296):IntKind.u32.wrap (n:Int)=(n:Int):=by
 simp [IntKind.wrap,IntKind.bits,IntKind.signed];omega
theorem ja8 (b:BitVec 32):IntKind.u32.wrap (b.toNat:Int)=I32 (UInt32.ofBitVec b):=by
 rw [jd7 _ b.isLt];rfl
@[go_sem] theorem I32_and (a b:UInt32):bits .and .u32 (I32 a) (I32 b)=I32 (a &&& b):=by
 show IntKind.u32.wrap ((BitVec.ofInt 32 (I32 a) &&& BitVec.ofInt 32 (I32 b)).toNat:Int)=_;rw [ja8,vh,vh];rfl
@[go_sem] theorem I32_xor (a b:UInt32):bits .xor .u32 (I32 a) (I32 b)=I32 (a ^^^ b):=by
 show IntKind.u32.wrap ((BitVec.ofInt 32 (I32 a) ^^^ BitVec.ofInt 32 (I32 b)).toNat:Int)=_;rw [ja8,vh,vh];rfl
@[go_sem] theorem I32_not (a:UInt32):bits .xor .u32 IntKind.u32.max (I32 a)=I32 (~~~a):=by
 show IntKind.u32.wrap ((BitVec.ofInt 32 IntKind.u32.max ^^^ BitVec.ofInt 32 (I32 a)).toNat:Int)=_;have h:BitVec.ofInt 32 IntKind.u32.max=BitVec.allOnes 32:=by decide
 rw [ja8,h,vh,BitVec.allOnes_xor];rfl
@[go_sem] theorem I32_byte (c:UInt8):((c.toNat:Int) % 4294967296)=I32 c.toUInt32:=by
 unfold I32;have:=c.toNat_lt;simp;omega
theorem jcR (x:UInt32):I32 x / (2:Int)=I32 (x >>> 1):=by
 unfold I32;simp [Nat.shiftRight_eq_div_pow]
theorem jj1 (x:UInt32) : -(I32 x) % 4294967296=I32 (-x):=by
 unfold I32;have:=x.toNat_lt;rw [UInt32.toNat_neg];unfold UInt32.size;omega
def V8 (c:UInt8):Value:=.int .u8 (c.toNat:Int)
theorem jf {w w':World}(hb:Below w.heap.size w w'){a:Addr}{x:Value}(h:w.cell? a=some x):w'.cell? a=some x:=by
 rw [hb.cell (World.block_lt_of_cell? w a h)];exact h
def Rd (w:World)(v:Value)(n:Nat)(xs:List Value):Prop :=
 ∃ a cap,v=.slice a n cap∧n≤cap∧cap≤9223372036854775807∧(a=none→cap=0)∧(∀ j,j<xs.length→∃ b off,a=some ⟨b,off,none⟩∧w.cell? ⟨b,off+j,none⟩=some (xs.getD j undef))
theorem Rd.nil (w:World):Rd w (.slice none 0 0) 0 []:=⟨none,0,rfl,by omega,by omega,fun _=>rfl,fun j h=>by simp at h⟩
theorem Rd.below {w w':World}{v:Value}{n:Nat}{xs:List Value}(h:Rd w v n xs)(hb:Below w.heap.size w w'):Rd w' v n xs:=by
 obtain ⟨a,cap,rfl,h1,h2,h0,h3⟩:=h;refine ⟨a,cap,rfl,h1,h2,h0,fun j hj=>?_⟩
 obtain ⟨b,off,rfl,h4⟩:=h3 j hj;exact ⟨b,off,rfl,jf hb h4⟩
theorem Rd.keep {w w':World}{v:Value}{n:Nat}{xs:List Value}(h:Rd w v n xs)(hb:∀ k,v.ownBlock=some k→k<w.heap.size→w'.heap[k]?=w.heap[k]?):Rd w' v n xs:=by
 obtain ⟨a,cap,rfl,h1,h2,h0,h3⟩:=h;refine ⟨a,cap,rfl,h1,h2,h0,fun j hj=>?_⟩
 obtain ⟨b,off,rfl,h4⟩:=h3 j hj;refine ⟨b,off,rfl,?_⟩;rw [World.cell?_of_block (w:=w) (hb b rfl (World.block_lt_of_cell? w _ h4))];exact h4
theorem Rd.cut {w:World}{a:Option Addr}{cap n m:Nat}{xs:List Value}(h:Rd w (.slice a n cap) n xs)(hm:m≤cap)(k:Nat):Rd w (.slice a m cap) m (xs.take k):=by
 obtain ⟨a',cap',h0,h1,h2,h9,h3⟩:=h;injection h0 with e1 e2 e3
 subst e1;subst e3;refine ⟨a,cap,rfl,hm,h2,h9,fun j hj=>?_⟩
 rw [List.length_take] at hj;obtain ⟨b,off,rfl,h4⟩:=h3 j (by omega)
 refine ⟨b,off,rfl,?_⟩;rw [h4,List.getD,List.getD,List.getElem?_take,if_pos (by omega)]
theorem Rd.len {w:World}{v:Value}{n:Nat}{xs:List Value}(h:Rd w v n xs):n≤9223372036854775807:=by
 obtain ⟨a,cap,rfl,h1,h2,_⟩:=h;omega
theorem jq {w:World}{base:Nat}{e:TypeId}{size n:Nat}{v:Value}{xs:List Value}(h:w.ownsRow base e size v n xs):Rd w v n xs:=by
 obtain ⟨h0,h⟩:=h
 rcases h with ⟨rfl,rfl⟩ | ⟨g,cap,cur,rfl,hb,hg,hn,hc,hs,ht⟩
 ·
  have:xs = []:=List.eq_nil_of_length_eq_zero (by simpa using h0)
  subst this;exact Rd.nil w
 ·
  refine ⟨_,cap,rfl,hn,by unfold maxLen at hc;omega,(fun h=>by cases h),fun j hj=>⟨g,0,rfl,?_⟩⟩
  have a0:w.cell? ⟨g,0+j,none⟩=cur[0+j]?:=cell_of_row w g (0+j) cur e (0,0) hg;rw [a0,Nat.zero_add,← ht,List.getD,List.getElem?_take,if_pos (by omega)]
  have:j<cur.size:=by
   have h1:(cur.toList.take (n*size)).length=xs.length:=by rw [ht]
   rw [List.length_take,Array.length_toList] at h1;omega
  simp [Array.getElem?_eq_getElem this]
theorem jfd {w:World}{base:Nat}{e:TypeId}{size n:Nat}{v:Value}{xs:List Value}(h:w.ownsRow base e size v n xs):∀ k,v.ownBlock=some k→base≤k∧k<w.heap.size:=h.lt
theorem jr {w w':World}{base:Nat}{e:TypeId}{size n:Nat}{v:Value}{xs:List Value}(h:w.ownsRow base e size v n xs)(hb:Below w.heap.size w w'):w'.ownsRow base e size v n xs:=by
 refine ⟨h.1,?_⟩
 rcases h.2 with hn | ⟨g,cap,cur,rfl,a0,hg,rest⟩
 · exact .inl hn
 · exact .inr ⟨g,cap,cur,rfl,a0,by rw [hb.block g (lt_of_block hg)];exact hg,rest⟩
theorem jcw {w:World}{base base':Nat}{e:TypeId}{size n:Nat}{v:Value}{xs:List Value}(h:w.ownsRow base e size v n xs)(hb:base'≤base):w.ownsRow base' e size v n xs:=by
 refine ⟨h.1,?_⟩
 rcases h.2 with hn | ⟨g,cap,cur,rfl,a0,rest⟩
 · exact .inl hn
 · exact .inr ⟨g,cap,cur,rfl,by omega,rest⟩
theorem ji {B:Nat}{w w':World}{v:Value}(hg:w.grownBy w' v.ownBlock)(hB:B≤w.heap.size)(hv:∀ k,v.ownBlock=some k→B≤k):Below B w w' :=
 (Below.refl B w).grown hg hB hv
theorem ja (w:World)(o:Obj):Below w.heap.size w (w.alloc o):=(Below.refl _ _).alloc (Nat.le_refl _) o
theorem jh {a b c:World}(h:Below a.heap.size a b)(k:Below b.heap.size b c):Below a.heap.size a c:=h.trans (k.mono h.size)
theorem jj {v v':Value}(h:v=v'):Ending.returned v=.returned v':=by rw [h]
def Apart (u v:Value):Prop:=∀ k,u.ownBlock=some k→v.ownBlock≠some k
def xe (w:World)(v v':Value):Prop:=v'.ownBlock=v.ownBlock∨v'.ownBlock=some w.heap.size
theorem Apart.symm {u v:Value}(h:Apart u v):Apart v u:=fun k h1 h2=>h k h2 h1
theorem Apart.moved {w:World}{u v v':Value}(h:Apart u v)(hm:xe w v v')(hu:∀ k,u.ownBlock=some k→k<w.heap.size):Apart u v':=by
 intro k hk
 rcases hm with e | e
 · rw [e];exact h k hk
 · rw [e];intro e2;injection e2 with e2;have:=hu k hk;omega
theorem jd8 (u:Value):Apart u (.slice none 0 0):=fun k _ h=>by simp [Value.ownBlock] at h
theorem jbb (u:Value):Apart (.slice none 0 0) u:=fun k h=>by simp [Value.ownBlock] at h
theorem xd {w w':World}{base:Nat}{e:TypeId}{size n:Nat}{u v:Value}{xs:List Value}(h:w.ownsRow base e size u n xs)(hg:w.grownBy w' v.ownBlock)(ha:Apart u v):w'.ownsRow base e size u n xs:=by
 refine h.kept hg ?_
 cases hu:u.ownBlock with
 | none=>exact .inl rfl
 | some k=>exact .inr (fun e=>ha k hu e.symm)
theorem xM {P:Program}(w:World)(base:Nat)(t ty e:TypeId)(i:TypeInfo)(z:Value)(size bytes:Nat)(ht:P.underlying t=some (.slice e))(hi:P.info? e=some i)(hz:i.zero=some z)(a0:i.size=size)(a5:i.bytes=bytes)(a8:z.cells.size=size)(a9:0<size)(v:Value)(n:Nat)(xs:List Value)(a3:w.ownsRow base e size v n xs)(a:Addr)(m c:Nat)(news:List Value)(hl:news.length=m*size)(a1:∀ j u,news[j]?=some u→w.cell? (a.add j)=some u)(h1:∀ u∈news,u.oneCell'=true)(a7:n+m≤maxLen)(a2:(n+m)*bytes≤140737488355328)(a6:base≤w.heap.size) :
  ∃ v' w',(Builtin.append_ #[t,t] ty #[v,.slice (some a) m c]).run P w=.ok v' w'∧w'.ownsRow base e size v' (n+m) (xs++news)∧w.grownBy w' v.ownBlock∧xe w v v':=by
 obtain ⟨v',w',hr,h2,h3,h4⟩:=run_append_own (P:=P) w base t ty e i z size bytes ht hi hz a0 a5 a8 a9 v n xs a3 a m c news hl a1 h1 a7 a2 a6;refine ⟨v',w',hr,h2,h3,?_⟩;have b0:n+m≤9223372036854775807:=by simp only [maxLen] at a7;omega
 rcases a3.2 with ⟨rfl,rfl⟩ | ⟨g,cap,cur,rfl,b3,hg,b4,b5,b1,b2⟩
 ·
  by_cases hm:m=0
  ·
   subst hm;have:=(h4.2 ⟨rfl,rfl⟩);subst this;exact .inl rfl
  ·
   subst a0;subst a5;have a4:=run_append_nil (P:=P) w t ty e i z ht hi hz a m c news hl a1 (by omega) (by omega) (by have hb:=a2;simp only [Nat.zero_add] at hb;omega)
   rw [a4] at hr;injection hr with e1 e2
   subst e1;exact .inr rfl
 ·
  by_cases hroom:n+m≤cap
  ·
   subst a0;have a4:=run_append_room (P:=P) w t ty e i ht hi g n cap cur hg a m c news hl a1 h1 hroom (by rw [hl,b1,← Nat.add_mul];exact Nat.mul_le_mul_right _ hroom)
   rw [a4] at hr;injection hr with e1 e2
   subst e1;exact .inl rfl
  ·
   subst a0;subst a5;have a4:=run_append_grow (P:=P) w t ty e i z ht hi hz ⟨g,0,none⟩ n cap xs a3.1 (a3.cells (g:=g) rfl) a m c news hl a1 (by omega) (by omega) (growslice_fits (by omega) a2)
   rw [a4] at hr;injection hr with e1 e2
   subst e1;exact .inr rfl
theorem ye {P:Program}{w:World}{ops:Array Oper}{rest:List Oper}{o:Oper}{a:Act}{Q:Exit→Act→World→Prop}(a5:o.guard=none)(s x:Operand)(t:TypeId)(ho:o.op=.call { callee:=.builtin .append,args:=#[s,x],argTypes:=#[t,t] })(base:Nat)(e:TypeId)(i:TypeInfo)(z:Value)(size bytes:Nat)(ht:P.underlying t=some (.slice e))(hi:P.info? e=some i)(hz:i.zero=some z)(a1:i.size=size)(a6:i.bytes=bytes)(a7:z.cells.size=size)(a8:0<size)(v:Value)(n:Nat)(xs:List Value)(hs:a.eval s=v)(a4:w.ownsRow base e size v n xs)(ad:Addr)(m c:Nat)(news:List Value)(hx:a.eval x=.slice (some ad) m c)(hl:news.length=m*size)(a2:∀ j u,news[j]?=some u→w.cell? (ad.add j)=some u)(h1:∀ u∈news,u.oneCell'=true)(a9:n+m≤maxLen)(a0:(n+m)*bytes≤140737488355328)(a3:base≤w.heap.size)(h:∀ v' w',w'.ownsRow base e size v' (n+m) (xs++news)→w.grownBy w' v.ownBlock→xe w v v'→wpList P ops Q rest (a.put o.dst v') w'):wpList P ops Q (o::rest) a w:=by
 refine wpList_plain a5 fun _ hK=>?_
 obtain ⟨v',w',hr,h2,h3,h4⟩:=xM (P:=P) w base t o.type e i z size bytes ht hi hz a1 a6 a7 a8 v n xs a4 ad m c news hl a2 h1 a9 a0 a3;unfold Oper.wp execOp;simp only [ho,resolve,invoke,builtin,Sem.run_bind,Sem.run_pure,Result.andThen_ok,List.map_toArray,List.map_cons,List.map_nil,hs,hx,hr];exact hK _ _ (h v' w' h2 h3 h4)
def xE (a:Option Addr)(n cap k:Nat):Value:=.slice (if cap=k then a else a.map (·.add k)) (n-k) (cap-k)
theorem jdb {P:Program}{t e:TypeId}(ht:P.underlying t=some (.slice e))(hs:(P.info? e).map (·.size)=some 1)(a:Option Addr)(n cap k:Nat)(hk:k≤n)(w:World) :
  (Instr.slice t (.slice a n cap) (some (.int .i64 (k:Int))) none none).run P w=.ok (xE a n cap k) w:=by
 have hx:P.elem t=e:=by unfold Program.elem;rw [ht]
 have a0:(sizeOf e).run P w=.ok 1 w:=by
  cases hi:P.info? e with
  | none=>rw [hi] at hs;cases hs
  | some i =>
   rw [hi] at hs;simp only [Option.map_some,Option.some.injEq] at hs
   simp [sizeOf,typeInfo,hi,hs]
 rw [run_slice_l w t a n cap (by rw [hx];exact ht) .i64 (k:Int) (by omega) (by omega),hx,a0]
 simp [Result.andThen,sliced,xE]
theorem jf4 {P:Program}{t e:TypeId}(ht:P.underlying t=some (.slice e))(hs:∃ k,(P.info? e).map (·.size)=some k)(a:Option Addr)(n cap k:Nat)(hk:k≤cap)(w:World) :
  (Instr.slice t (.slice a n cap) none (some (.int .i64 (k:Int))) none).run P w=.ok (.slice a k cap) w:=by
 have hx:P.elem t=e:=by unfold Program.elem;rw [ht]
 obtain ⟨sz,hs⟩:=hs;have a0:(sizeOf e).run P w=.ok sz w:=by
  cases hi:P.info? e with
  | none=>rw [hi] at hs;cases hs
  | some i =>
   rw [hi] at hs;simp only [Option.map_some,Option.some.injEq] at hs
   simp [sizeOf,typeInfo,hi,hs]
 rw [run_slice_h w t a n cap (by rw [hx];exact ht) .i64 (k:Int) (by omega) (by omega),hx,a0]
 have:a.map (fun x=>x.add 0)=a:=by cases a <;> rfl
 simp [Result.andThen,sliced,this]
theorem xD {w:World}{a:Option Addr}{n cap k:Nat}{xs:List Value}(h:Rd w (.slice a n cap) n xs)(hk:k≤n)(hx:xs.length≤n):Rd w (xE a n cap k) (n-k) (xs.drop k):=by
 obtain ⟨a',cap',h0,h1,h2,h9,h3⟩:=h;injection h0 with e1 e2 e3
 subst e1;subst e3;refine ⟨_,_,rfl,by omega,by omega,(fun h=>by
  have:cap=0:=by
   by_cases hc:cap=k
   · rw [if_pos hc] at h;exact h9 h
   ·
    rw [if_neg hc] at h;cases a with
    | none=>exact h9 rfl
    | some _=>cases h
  omega),fun j hj=>?_⟩
 rw [List.length_drop] at hj;obtain ⟨b,off,rfl,h4⟩:=h3 (k+j) (by omega)
 rw [if_neg (by omega)]
 refine ⟨b,off+k,by simp [Go.WideShapes.add_plain],?_⟩
 rw [Nat.add_assoc,h4];simp [List.getD]
theorem uo (a:Option Addr)(n cap k:Nat):∃ a',xE a n cap k=.slice a' (n-k) (cap-k):=⟨_,rfl⟩
def Box (w:World)(b:Nat)(cs:Array Value)(t:TypeId):Prop:=w.heap[b]?=some (.cells cs t (0,0))
theorem Box.lt {w:World}{b:Nat}{cs:Array Value}{t:TypeId}(h:Box w b cs t):b<w.heap.size:=lt_of_block h
theorem Box.cell {w:World}{b:Nat}{cs:Array Value}{t:TypeId}(h:Box w b cs t)(j:Nat)(x:Value)(hx:cs[j]?=some x):w.cell? ⟨b,j,none⟩=some x:=by
 unfold Box at h;simp [World.cell?,h,hx]
theorem Box.free {w:World}{b:Nat}{cs:Array Value}{t:TypeId}(h:Box w b cs t)(j:Nat):w.frozen? ⟨b,j,none⟩=false:=by
 unfold Box at h;simp [World.frozen?,h]
theorem Box.new (w:World)(cs:Array Value)(t:TypeId):Box (w.alloc (.cells cs t)) w.heap.size cs t:=heap_alloc_new w _
theorem Box.below {w w':World}{b:Nat}{cs:Array Value}{t:TypeId}(h:Box w b cs t)(hb:Below w.heap.size w w'):Box w' b cs t:=by
 unfold Box;rw [hb.block b h.lt];exact h
theorem Box.keep {w w':World}{b:Nat}{cs:Array Value}{t:TypeId}(h:Box w b cs t)(hb:w'.heap[b]?=w.heap[b]?):Box w' b cs t:=by
 unfold Box;rw [hb];exact h
theorem Box.set {w:World}{b:Nat}{cs:Array Value}{t:TypeId}(h:Box w b cs t)(j:Nat)(u:Value):Box (w.setCell ⟨b,j,none⟩ u) b (cs.setIfInBounds j u) t:=by
 unfold Box at h ⊢;simp only [World.setCell,Array.getElem?_modify,if_true,h];rfl
theorem Box.set_other {w:World}{b:Nat}{cs:Array Value}{t:TypeId}(h:Box w b cs t){p:Addr}(hp:p.block≠b)(u:Value):Box (w.setCell p u) b cs t :=
 h.keep (Below.heap_setCell w p u b (fun e=>hp e.symm))
theorem Box.drew {w:World}{b:Nat}{cs:Array Value}{t:TypeId}(h:Box w b cs t):Box w.drew b cs t:=h
theorem jd (w:World):Below w.heap.size w w.drew:=(Below.refl _ _).drew
theorem Rd.drew {w:World}{v:Value}{n:Nat}{xs:List Value}(h:Rd w v n xs):Rd w.drew v n xs:=h
def B8 (n:Int):UInt8:=UInt8.ofNat (n % 256).toNat
theorem jkk (n:Int):((B8 n).toNat:Int)=n % 256:=by
 unfold B8;have:(UInt8.ofNat (n % 256).toNat).toNat=(n % 256).toNat:=by show (n % 256).toNat % 2 ^ 8=_;omega
 rw [this];omega
theorem jhA (n:Int):V8 (B8 n)=.int .u8 (n % 256):=by unfold V8;rw [jkk]
theorem jgJ (w:World)(cs:Array Value)(T:TypeId)(l:List UInt8)(h:cs.toList=l.map V8)(hl:l.length≤9223372036854775807):Rd (w.alloc (.cells cs T)) (.slice (some ⟨w.heap.size,0,none⟩) l.length l.length) l.length (l.map V8):=by
 refine ⟨_,_,rfl,Nat.le_refl _,hl,(fun h=>by cases h),fun j hj=>⟨w.heap.size,0,rfl,?_⟩⟩
 rw [Nat.zero_add];refine (Box.new w cs T).cell j _ ?_;rw [← Array.getElem?_toList,h,List.getD,List.getElem?_eq_getElem hj];rfl
theorem xY {P:Program}{w:World}{ops:Array Oper}{rest:List Oper}{o:Oper}{a:Act}{Q:Exit→Act→World→Prop}(a5:o.guard=none)(s x:Operand)(t:TypeId)(ho:o.op=.call { callee:=.builtin .append,args:=#[s,x],argTypes:=#[t,t] })(base:Nat)(e:TypeId)(i:TypeInfo)(z:Value)(size bytes:Nat)(ht:P.underlying t=some (.slice e))(hi:P.info? e=some i)(hz:i.zero=some z)(a2:i.size=size)(a8:i.bytes=bytes)(a9:z.cells.size=size)(b0:0<size)(v:Value)(n:Nat)(xs:List Value)(hs:a.eval s=v)(a0:w.ownsRow base e size v n xs)(src:Value)(m:Nat)(news:List Value)(hx:a.eval x=src)(a6:Rd w src m news)(hl:news.length=m*size)(h1:∀ u∈news,u.oneCell'=true)(b1:n+m≤maxLen)(a1:(n+m)*bytes≤140737488355328)(a3:base≤w.heap.size)(h:∀ v' w',w'.ownsRow base e size v' (n+m) (xs++news)→w.grownBy w' v.ownBlock→xe w v v'→wpList P ops Q rest (a.put o.dst v') w'):wpList P ops Q (o::rest) a w:=by
 obtain ⟨ad,cap,rfl,b7,_,a7,a4⟩:=a6
 cases ad with
 | some ad =>
  refine ye a5 s x t ho base e i z size bytes ht hi hz a2 a8 a9 b0 v n xs hs a0 ad m cap news hx hl (fun j u hj=>?_) h1 b1 a1 a3 h
  have b2:j<news.length:=(List.getElem?_eq_some_iff.1 hj).1;obtain ⟨b,off,e1,e2⟩:=a4 j b2;injection e1 with e1;subst e1
  rw [Go.WideShapes.add_plain,e2,List.getD,hj];rfl
 | none =>
  have b3:=a7 rfl;subst b3;have b4:m=0:=by omega
  subst b4;have b5:news = []:=List.eq_nil_of_length_eq_zero (by simpa using hl)
  subst b5;refine wpList_plain a5 fun _ hK=>?_
  have hk:∃ v' w',(Builtin.append_ #[t,t] o.type #[v,.slice none 0 0]).run P w=.ok v' w'∧v'=v∧w'=w:=by
   rcases a0.2 with ⟨rfl,_⟩ | ⟨g,cap,cur,rfl,_,hg,b6,_⟩
   · exact ⟨_,_,by simp [Builtin.append_,run_underlying ht,sizeOf,typeInfo,hi,Builtin.lenOf,Builtin.firstCells],rfl,rfl⟩
   ·
    refine ⟨_,_,?_,rfl,rfl⟩
    simp [Builtin.append_,run_underlying ht,sizeOf,typeInfo,hi,Builtin.lenOf,Builtin.firstCells,b6,loadCells,storeCells]
  obtain ⟨v',w',hr,rfl,rfl⟩:=hk;unfold Oper.wp execOp;simp only [ho,resolve,invoke,builtin,Sem.run_bind,Sem.run_pure,Result.andThen_ok,List.map_toArray,List.map_cons,List.map_nil,hs,hx,hr];exact hK _ _ (h v' w' (by simpa using a0) ⟨rfl,rfl,rfl,Nat.le_refl _,fun _ _ _=>rfl⟩ (.inl rfl))
theorem Box.grown {w w':World}{b:Nat}{cs:Array Value}{t:TypeId}{r:Option Nat}(h:Box w b cs t)(hg:w.grownBy w' r)(hr:r≠some b):Box w' b cs t :=
 h.keep (hg.block b h.lt (fun e=>hr e.symm))
theorem jg6 (w:World)(r:Option Nat):w.grownBy w r:=⟨rfl,rfl,rfl,Nat.le_refl _,fun _ _ _=>rfl⟩
theorem ur {w w':World}{B:Nat}{r:Option Nat}(hg:w.grownBy w' r)(hB:B≤w.heap.size)(hr:∀ k,r=some k→B≤k):Below B w w' :=
 (Below.refl B w).grown hg hB hr
structure Mod (F:Nat→Prop)(w w':World):Prop where
 os:w'.os=w.os
 tape:w'.tape=w.tape
 output:w'.output=w.output
 size:w.heap.size≤w'.heap.size
 block:∀ k,k<w.heap.size→¬ F k→w'.heap[k]?=w.heap[k]?
theorem Mod.refl (F:Nat→Prop)(w:World):Mod F w w:=⟨rfl,rfl,rfl,Nat.le_refl _,fun _ _ _=>rfl⟩
theorem Mod.trans {F:Nat→Prop}{a b c:World}(h:Mod F a b)(k:Mod F b c):Mod F a c :=
 ⟨k.os.trans h.os,k.tape.trans h.tape,k.output.trans h.output,Nat.le_trans h.size k.size,fun i hi hn=>(k.block i (Nat.lt_of_lt_of_le hi h.size) hn).trans (h.block i hi hn)⟩
theorem Mod.then {F G:Nat→Prop}{a b c:World}(h:Mod F a b)(k:Mod G b c)(hg:∀ i,G i→F i∨a.heap.size≤i):Mod F a c :=
 ⟨k.os.trans h.os,k.tape.trans h.tape,k.output.trans h.output,Nat.le_trans h.size k.size,fun i hi hn=>(k.block i (Nat.lt_of_lt_of_le hi h.size) (fun a0=>by
  rcases hg i a0 with h1 | h1
  · exact hn h1
  · omega)).trans (h.block i hi hn)⟩
theorem Mod.mono {F G:Nat→Prop}{a b:World}(h:Mod F a b)(hg:∀ i,F i→G i):Mod G a b :=
 ⟨h.os,h.tape,h.output,h.size,fun i hi hn=>h.block i hi (fun hf=>hn (hg i hf))⟩
theorem Mod.below {F:Nat→Prop}{a b:World}{B:Nat}(h:Mod F a b)(hB:B≤a.heap.size)(hf:∀ i,F i→B≤i):Below B a b :=
 ⟨h.os,h.tape,h.output,h.size,fun i hi=>h.block i (by omega) (fun a0=>by have:=hf i a0;omega)⟩
theorem Mod.of_below {F:Nat→Prop}{a b:World}(h:Below a.heap.size a b):Mod F a b:=⟨h.os,h.tape,h.output,h.size,fun i hi _=>h.block i hi⟩
theorem Mod.of_grown {F:Nat→Prop}{a b:World}{r:Option Nat}(h:a.grownBy b r)(hr:∀ k,r=some k→F k):Mod F a b :=
 ⟨h.os,h.tape,h.output,h.size,fun i hi hn=>h.block i hi (fun e=>hn (hr i e.symm))⟩
theorem Mod.set (F:Nat→Prop)(a:World)(p:Addr)(u:Value)(hp:F p.block):Mod F a (a.setCell p u) :=
 ⟨rfl,rfl,rfl,by simp,fun i _ hn=>Below.heap_setCell a p u i (fun e=>hn (by rw [e];exact hp))⟩
theorem Mod.drew (F:Nat→Prop)(a:World):Mod F a a.drew:=⟨rfl,rfl,rfl,Nat.le_refl _,fun _ _ _=>rfl⟩
theorem Mod.alloc (F:Nat→Prop)(a:World)(o:Obj):Mod F a (a.alloc o):=Mod.of_below (ja a o)
theorem Box.mod {w w':World}{b:Nat}{cs:Array Value}{t:TypeId}{F:Nat→Prop}(h:Box w b cs t)(hm:Mod F w w')(hb:¬ F b):Box w' b cs t:=h.keep (hm.block b h.lt hb)
theorem yB {w w':World}{base:Nat}{e:TypeId}{size n:Nat}{v:Value}{xs:List Value}{F:Nat→Prop}(h:w.ownsRow base e size v n xs)(hm:Mod F w w')(hb:∀ k,v.ownBlock=some k→¬ F k):w'.ownsRow base e size v n xs:=by
 refine ⟨h.1,?_⟩
 rcases h.2 with hn | ⟨g,cap,cur,rfl,a0,hg,rest⟩
 · exact .inl hn
 · exact .inr ⟨g,cap,cur,rfl,a0,by rw [hm.block g (lt_of_block hg) (hb g rfl)];exact hg,rest⟩
theorem Rd.mod {w w':World}{v:Value}{n:Nat}{xs:List Value}{F:Nat→Prop}(h:Rd w v n xs)(hm:Mod F w w')(hb:∀ k,v.ownBlock=some k→¬ F k):Rd w' v n xs :=
 h.keep (fun k hk hl=>hm.block k hl (hb k hk))
end Go.Proofs.YtgcnolapjppbpaaGreatDoor
