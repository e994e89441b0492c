/-
  Texts of one proof, one behind the other.
-/
import Derived.Test.YtgcnolapjppbpaaGreatDoorP01
import Derived.Test.YtgcnolapjppbpaaGreatDoorP04
import Derived.Laws.IdiomStrings
import Derived.Laws.BytesArg
import Derived.Lib.Strings
import Derived.Test.YtgcnolapjppbpaaGreatDoorP03
import Derived.Outline
import Derived.Deep.LoopGhost
import Derived.Test.YtgcnolapjppbpaaGreatDoorP00
namespace Go.Proofs.YtgcnolapjppbpaaGreatDoor
open Go.RowKit _root_.Go.Proofs.Tryz
set_option maxRecDepth 100000
set_option maxHeartbeats 25600000
def jbU (k n:Int):Int:=if n<1 then 0 else k % n
theorem jjk (k n:Int)(h:1≤n):0≤jbU k n∧jbU k n<n:=by
 unfold jbU;rw [if_neg (by omega)];exact ⟨Int.emod_nonneg _ (by omega),Int.emod_lt_of_pos _ (by omega)⟩
theorem jib (k n:Int)(hn:1≤n):(if k.tmod n<0 then k.tmod n+n else k.tmod n)=k % n:=by
 have h1:=Int.tmod_eq_emod (a:=k) (b:=n);have h5:0≤k % n:=Int.emod_nonneg _ (by omega)
 have h6:k % n<n:=Int.emod_lt_of_pos _ (by omega)
 by_cases h:0≤k∨n ∣ k
 · rw [if_pos h] at h1;rw [if_neg (by omega)];omega
 · rw [if_neg h] at h1;rw [if_pos (by omega)];omega
theorem jgF (k n:Int)(w:World)(h1 : -9223372036854775808≤k)(h2:k≤9223372036854775807)(h3 : -9223372036854775808≤n)(h4:n≤9223372036854775807) :
  Calls prog 10 #[.int .i64 k,.int .i64 n] w fun e w'=>e=.returned (.int .i64 (jbU k n))∧w=w':=by
 by_cases hn:n<1
 ·
  go_enter func10,ntmps10
  go_wp2
  go_ret;exact ⟨by simp [jbU,hn],rfl⟩
 ·
  have a0:Hid (jbU k n=k % n):=by unfold jbU;rw [if_neg hn];rfl
  have ht:=jib k n (by omega)
  have a2:0≤k % n:=Int.emod_nonneg _ (by omega)
  have a3:k % n<n:=Int.emod_lt_of_pos _ (by omega)
  by_cases hk:0≤k
  ·
   clear ht;go_enter func10,ntmps10
   go_wp2
   go_ret;exact ⟨by rw [a0.out];rfl,rfl⟩
  ·
   by_cases hz:k.tmod n<0
   ·
    rw [if_pos hz] at ht;have a4 : -n≤k.tmod n:=by omega
    have a1:=Lib.hid ht;clear ht;go_enter func10,ntmps10
    go_wp2
    go_ret;exact ⟨by rw [a0.out,← a1.out];rfl,rfl⟩
   ·
    rw [if_neg hz] at ht;have a1:=Lib.hid ht;clear ht;go_enter func10,ntmps10
    go_wp2
    go_ret;exact ⟨by rw [a0.out,← a1.out];rfl,rfl⟩
theorem vG:(prog.info? 5).map (fun i=>(i.zero,i.size,i.bytes))=some (some (.int .u8 0),1,1):=by kernel_rfl
theorem jko {w:World}{ops:Array Oper}{rest:List Oper}{o:Oper}{a:Act}{Q:Exit→Act→World→Prop}(a3:o.guard=none)(s x:Operand)(ho:o.op=.call { callee:=.builtin .append,args:=#[s,x],argTypes:=#[92,92] })(base:Nat)(v:Value)(n:Nat)(xs:List Value)(hs:a.eval s=v)(a2:w.ownsRow base 5 1 v n xs)(ad:Addr)(m c:Nat)(news:List Value)(hx:a.eval x=.slice (some ad) m c)(hl:news.length=m)(a0:∀ j u,news[j]?=some u→w.cell? (ad.add j)=some u)(h1:∀ u∈news,u.oneCell'=true)(a7:n+m≤140737488355328)(a1:base≤w.heap.size)(h:∀ v' w',w'.ownsRow base 5 1 v' (n+m) (xs++news)→w.grownBy w' v.ownBlock→xe w v v'→wpList prog ops Q rest (a.put o.dst v') w'):wpList prog ops Q (o::rest) a w:=by
 obtain ⟨i0,hi,a4,a5,a6⟩:=info_parts vG;exact ye a3 s x 92 ho base 5 i0 (.int .u8 0) 1 1 underlying92 hi a4 a5 a6 rfl (by decide) v n xs hs a2 ad m c news hx (by omega) a0 h1 (by unfold maxLen;omega) (by omega) a1 h
theorem jfQ (a:Option Addr)(n cap k:Nat)(hk:k≤n)(w:World):(Instr.slice 92 (.slice a n cap) (some (.int .i64 (k:Int))) none none).run prog w=.ok (xE a n cap k) w :=
 jdb underlying92 (by kernel_rfl) a n cap k hk w
theorem jhl (a:Option Addr)(n cap k:Nat)(hk:k≤cap)(w:World):(Instr.slice 92 (.slice a n cap) none (some (.int .i64 (k:Int))) none).run prog w=.ok (.slice a k cap) w :=
 jf4 underlying92 ⟨1,by kernel_rfl⟩ a n cap k hk w
theorem jbG {w:World}{ops:Array Oper}{rest:List Oper}{o:Oper}{a:Act}{Q:Exit→Act→World→Prop}(a3:o.guard=none)(s x:Operand)(ho:o.op=.call { callee:=.builtin .append,args:=#[s,x],argTypes:=#[92,92] })(base:Nat)(v:Value)(n:Nat)(xs:List Value)(hs:a.eval s=v)(a1:w.ownsRow base 5 1 v n xs)(src:Value)(l:List UInt8)(hx:a.eval x=src)(a2:Rd w src l.length (l.map V8))(a7:n+l.length≤140737488355328)(a0:base≤w.heap.size)(h:∀ v' w',w'.ownsRow base 5 1 v' (n+l.length) (xs++l.map V8)→w.grownBy w' v.ownBlock→xe w v v'→wpList prog ops Q rest (a.put o.dst v') w'):wpList prog ops Q (o::rest) a w:=by
 obtain ⟨i0,hi,a4,a5,a6⟩:=info_parts vG;exact xY a3 s x 92 ho base 5 i0 (.int .u8 0) 1 1 underlying92 hi a4 a5 a6 rfl (by decide) v n xs hs a1 src l.length (l.map V8) hx a2 (by simp) (by
  intro u hu;obtain ⟨c,_,rfl⟩:=List.mem_map.1 hu
  simp [V8,Value.oneCell']) (by unfold maxLen;omega) (by omega) a0 h
def SB (l:List UInt8):ByteArray:=⟨l.toArray⟩
def SV (l:List UInt8):Value:=.string (SB l)
@[simp] theorem SB_size (l:List UInt8):(SB l).size=l.length:=by simp [SB,ByteArray.size]
theorem jhw (l:List UInt8):(SB l).data.toList=l:=by simp [SB]
theorem jiB (l:List UInt8)(i:Nat)(h:i<(SB l).size):(SB l)[i]'h=l.getD i 0:=by
 have h':i<l.length:=by simpa using h
 show (SB l).data[i]'_=_
 simp [SB,List.getD,h']
theorem jg8 {a b:ByteArray}(h:a.data.toList=b.data.toList):a=b:=by
 cases a;cases b;simp only [ByteArray.mk.injEq] at *;exact Array.ext' h
theorem jkf {a b:List UInt8}(h:SB a=SB b):a=b:=by
 have:=congrArg (fun x:ByteArray=>x.data.toList) h;simpa [SB] using this
theorem jcN (l:List UInt8)(i j:Nat):(SB l).extract i j=SB ((l.take j).drop i):=by
 apply jg8
 simp [SB,ByteArray.data_extract,List.drop_take]
theorem jkm (a b:List UInt8):SB a++SB b=SB (a++b):=by unfold SB;rw [ByteArray.mk_append_mk]
theorem jhv (s:ByteArray):∃ l,s=SB l∧l.length=s.size:=⟨s.data.toList,by apply jg8;simp [SB],by show s.data.toList.length=s.data.size;simp⟩
theorem vU {w:World}{v:Value}{n:Nat}(l:List UInt8)(h:Rd w v n (l.map V8))(hn:n=l.length):(convert 92 9 v).run prog w=.ok (.string (SB l)) w:=by
 subst hn;obtain ⟨a,cap,rfl,h1,h2,h3,h4⟩:=h
 cases l with
 | nil =>
  cases a with
  | none=>exact run_convert_bytes_nil w 92 5 underlying92 underlying5 _ _ 9 underlying9
  | some a=>exact run_convert_bytes_back w 92 9 5 a cap [] underlying92 underlying5 underlying9 (fun j hj=>by simp at hj)
 | cons c l =>
  obtain ⟨b,off,rfl,_⟩:=h4 0 (by simp)
  refine run_convert_bytes_back w 92 9 5 _ cap (c::l) underlying92 underlying5 underlying9 (fun j hj=>?_)
  obtain ⟨b',off',e,h5⟩:=h4 j (by simpa using hj)
  injection e with e;injection e with e1 e2;subst e1;subst e2
  have a0:(⟨b,off,none⟩:Addr).add j=⟨b,off+j,none⟩:=by unfold Addr.add;split <;> simp_all
  rw [a0,h5,List.getD,List.getElem?_map,List.getElem?_eq_getElem hj];rfl
theorem ji0 (w:World)(l:List UInt8):(convert 9 92 (.string (SB l))).run prog w=.ok (.slice (some ⟨w.heap.size,0,none⟩) l.length (grownCap w l.length 0 5)) (Lib.bytesWorld w 5 (SB l)):=by
 have:=Lib.run_convert_string_bytes (P:=prog) w 9 92 5 (SB l) underlying9 underlying92 underlying5
 simpa using this
theorem vM (w:World)(e:TypeId)(s:ByteArray):Below w.heap.size w (Lib.bytesWorld w e s) :=
 ⟨rfl,rfl,rfl,by rw [Lib.bytesWorld_size];omega,fun k hk=>Lib.bytesWorld_at_old w e s k hk⟩
theorem jcD (w:World)(l:List UInt8)(e:TypeId)(h:l.length≤140737488355328):OwnM (Lib.bytesWorld w e (SB l)) w.heap.size e (.slice (some ⟨w.heap.size,0,none⟩) l.length (grownCap w l.length 0 e)) l.length (l.map V8):=by
 have hg:=grownCap_ge w l.length 0 e;have hm:=grownCap_le_maxLen w l.length 0 e (by unfold maxLen;omega)
 have a0:(Lib.bytesCells w e (SB l)).size=grownCap w l.length 0 e:=by have:=SB_size l;unfold SB at this;simp only [Lib.bytesCells,SB,Array.size_append,Array.size_map,Array.size_replicate,this,List.size_toArray];omega
 refine ⟨by simp,.inr ⟨w.heap.size,_,_,_,rfl,Nat.le_refl _,Lib.bytesWorld_at_new w e (SB l),.inr (Nat.le_refl _),hg,hm,by omega,?_⟩⟩
 simp [Lib.bytesCells,SB,V8]
theorem jeA {w:World}{ops:Array Oper}{rest:List Oper}{o:Oper}{a:Act}{Q:Exit→Act→World→Prop}(a2:o.guard=none)(s x:Operand)(ho:o.op=.call { callee:=.builtin .append,args:=#[s,x],argTypes:=#[92,9] })(base:Nat)(v:Value)(n:Nat)(xs:List Value)(hs:a.eval s=v)(a1:OwnM w base 5 v n xs)(l:List UInt8)(hx:a.eval x=.string (SB l))(a6:n+l.length≤140737488355328)(a0:base≤w.heap.size)(h:∀ v' w',OwnM w' base 5 v' (n+l.length) (xs++l.map V8)→w.grownBy w' v.ownBlock→xe w v v'→wpList prog ops Q rest (a.put o.dst v') w'):wpList prog ops Q (o::rest) a w:=by
 obtain ⟨i0,hi,a3,a4,a5⟩:=info_parts vG;refine wpList_plain a2 fun _ hK=>?_
 obtain ⟨v',w',hr,h2,h3,h4,_⟩:=vz (P:=prog) w base 92 9 o.type 5 _ i0 (.int .u8 0) 1 underlying92 underlying9 (.inr rfl) hi a3 a4 a5 rfl v n xs a1
  (.string (SB l)) l.length (l.map V8) (by simp) (fun w=>by simp [Builtin.lenOf]) (fun wd _=>by
   have:=Lib.run_firstCells_string (P:=prog) wd 1 (SB l);rw [SB_size] at this;rw [this];simp [Lib.strCells,SB,V8]) (by
   intro u hu;obtain ⟨c,_,rfl⟩:=List.mem_map.1 hu
   simp [V8,Value.oneCell']) (by unfold maxLen;omega) (by omega) a0
 unfold Oper.wp execOp;simp only [ho,resolve,invoke,builtin,Sem.run_bind,Sem.run_pure,Result.andThen_ok,List.map_toArray,List.map_cons,List.map_nil,hs,hx,hr];exact hK _ _ (h v' w' h2 h3 h4)
theorem jbr (w:World)(l:List UInt8)(i:Nat)(h:i≤l.length):(Instr.slice 9 (.string (SB l)) (some (.int .i64 (i:Int))) none none).run prog w=.ok (.string (SB (l.drop i))) w:=by
 rw [run_slice_string_from_if w 9 (SB l) .i64 i underlying9,if_pos (by simp;omega),jcN,SB_size,List.take_of_length_le (Nat.le_refl _)];rfl
theorem je8 (w:World)(l:List UInt8)(i:Nat)(h:i≤l.length):(Instr.slice 9 (.string (SB l)) none (some (.int .i64 (i:Int))) none).run prog w=.ok (.string (SB (l.take i))) w:=by
 rw [run_slice_string_to_if w 9 (SB l) .i64 i underlying9,if_pos (by simp;omega),jcN];rfl
theorem xC (w:World)(l:List UInt8)(i:Nat)(h:i<l.length):(Instr.index 9 (.string (SB l)) (.int .i64 (i:Int))).run prog w=.ok (.int .u8 ((l.getD i 0).toNat:Int)) w:=by
 rw [run_index_string w 9 (SB l) .i64 i underlying9,dif_pos (by simp;omega)]
 simp only [Int.toNat_natCast];rw [jiB]
theorem uM {w:World}{a:Addr}{x:Value}(h:w.cell? a=some x):a.block<w.heap.size:=by
 rcases Nat.lt_or_ge a.block w.heap.size with h' | h'
 · exact h'
 · simp [World.cell?,Array.getElem?_eq_none h'] at h
theorem jk (l:List UInt8):(SB l).toList=l:=by rw [Lib.toList_data,jhw]
theorem jeV (a b i m:Nat)(hm:m=2 ^ i)(h:a<m):a ||| (b*m)=b*m+a:=by
 subst hm;rw [Nat.or_comm,← Nat.shiftLeft_eq,Nat.shiftLeft_add_eq_or_of_lt h]
theorem je0 (a b:Nat)(ha:a<4294967296)(hb:b<4294967296):bits .or .u32 (a:Int) (b:Int)=((a ||| b:Nat):Int):=by
 have hx:a ||| b<2 ^ 32:=Nat.or_lt_two_pow (by omega) (by omega)
 have ho:∀ n:Nat,n<4294967296→(BitVec.ofInt 32 (n:Int)).toNat=n:=fun n hn=>by rw [BitVec.toNat_ofInt];omega
 show IntKind.u32.wrap ((BitVec.ofInt 32 (a:Int) ||| BitVec.ofInt 32 (b:Int)).toNat:Int)=_
 rw [BitVec.toNat_or,ho a ha,ho b hb,jd7 _ (by omega)]
theorem jkD (c1 c2 c3 c4:Nat)(h1:c1<256)(h2:c2<256)(h3:c3<256)(h4:c4<256) :
  bits .or .u32 (bits .or .u32 (bits .or .u32 (c1:Int) ((c2:Int)*256)) ((c3:Int)*65536)) ((c4:Int)*16777216)=((c1+256*c2+65536*c3+16777216*c4:Nat):Int):=by
 have e2:((c2:Int)*256)=((c2*256:Nat):Int):=by omega
 have e3:((c3:Int)*65536)=((c3*65536:Nat):Int):=by omega
 have e4:((c4:Int)*16777216)=((c4*16777216:Nat):Int):=by omega
 rw [e2,e3,e4,je0 c1 (c2*256) (by omega) (by omega),jeV c1 c2 8 256 (by decide) (by omega),je0 _ (c3*65536) (by omega) (by omega),jeV _ c3 16 65536 (by decide) (by omega),je0 _ (c4*16777216) (by omega) (by omega),jeV _ c4 24 16777216 (by decide) (by omega)]
 omega
def LB (s:ByteArray):List UInt8:=s.data.toList
theorem jkV (s:ByteArray):SB (LB s)=s:=by apply jg8;simp [SB,LB]
theorem jkn (s:ByteArray):(LB s).length=s.size:=by show s.data.toList.length=s.data.size;simp
def zt (N at_ n:Int):Prop:=0≤at_∧1≤n∧at_+1+2*n≤N
instance (N at_ n:Int):Decidable (zt N at_ n):=by unfold zt;exact inferInstance
def yL (at_ n:Int)(e:Nat):Int:=at_+1+((e % 2:Nat):Int)*n
def uS (e:Nat)(p:List UInt8):List UInt8:=le e 4++le p.length 4++le (crc p).toNat 4
def xw (e:Nat)(p:List UInt8):List UInt8:=uS e p++le (crc (uS e p)).toNat 4
theorem xq (e:Nat)(p:List UInt8):(uS e p).length=12:=by simp [uS,jG]
theorem zo (e:Nat)(p:List UInt8):(xw e p).length=16:=by simp [xw,xq,jG]
def jA:Nat→List UInt8→List (List UInt8)
 | 0,_ => []
 | f+1,p=>if p = [] then [] else p.take 256::jA f (p.drop 256)
def jI (d:DiskM)(b:Int):List (List UInt8)→DiskM × Int
 | []=>(d,0)
 | c::r=>if (d.write b (SB c)).2=0 then jI (d.write b (SB c)).1 (b+1) r else d.write b (SB c)
def yv (d:DiskM)(at_ n:Int)(e:Nat)(p:List UInt8):DiskM × Int :=
 if zt d.strs.length at_ n then
  if n*256<(p.length:Int) then (d,3)
  else if (jI d (yL at_ n e) (jA p.length p)).2=0 then (jI d (yL at_ n e) (jA p.length p)).1.write at_ (SB (xw e p)) else jI d (yL at_ n e) (jA p.length p)
 else (d,1)
def yC (l:List UInt8)(i:Nat):Nat:=(l.getD i 0).toNat+256*(l.getD (i+1) 0).toNat+65536*(l.getD (i+2) 0).toNat+16777216*(l.getD (i+3) 0).toNat
theorem ja2 (l:List UInt8)(i:Nat):yC l i<4294967296:=by
 have h1:=(l.getD i 0).toNat_lt;have h2:=(l.getD (i+1) 0).toNat_lt;have h3:=(l.getD (i+2) 0).toNat_lt;have h4:=(l.getD (i+3) 0).toNat_lt;unfold yC;omega
def jX (d:DiskM)(b:Int):List UInt8:=LB (d.read b).1
def yA (d:DiskM):Nat→Int→Nat→List UInt8→Option (List UInt8)
 | 0,_,_,acc=>some acc
 | f+1,b,size,acc =>
  if acc.length<size then
   if (jX d b).length<min (size-acc.length) 256 then none else yA d f (b+1) size (acc++(jX d b).take (min (size-acc.length) 256))
  else some acc
def jY (d:DiskM)(at_ n:Int):Nat × List UInt8 × Int :=
 if zt d.strs.length at_ n then
  if jX d at_ = [] then (0,[],10)
  else if (jX d at_).length=16 then
   if n*256<((yC (jX d at_) 4:Nat):Int) then (0,[],21)
   else match yA d (yC (jX d at_) 4+1) (yL at_ n (yC (jX d at_) 0)) (yC (jX d at_) 4) [] with
    | none=>(0,[],21)
    | some p=>if xw (yC (jX d at_) 0) p=jX d at_ then (yC (jX d at_) 0,p,0) else (0,[],21)
  else (0,[],21)
 else (0,[],1)
theorem jjt {a b c d a' b' c' d':Int}(h1:a=a')(h2:b=b')(h3:c=c')(h4:d=d'):[Value.int .u8 a,.int .u8 b,.int .u8 c,.int .u8 d] = [Value.int .u8 a',.int .u8 b',.int .u8 c',.int .u8 d']:=by subst h1;subst h2;subst h3;subst h4;rfl
theorem jfG (m:Nat):(le m 4).map V8 = [.int .u8 ((m:Int) % 256),.int .u8 ((m:Int) / 256 % 256),.int .u8 ((m:Int) / 65536 % 256),.int .u8 ((m:Int) / 16777216 % 256)]:=by
 have h:∀ k:Nat,((UInt8.ofNat k).toNat:Int)=(k:Int) % 256:=fun k=>by
  have:(UInt8.ofNat k).toNat=k % 256:=by show k % 2 ^ 8=_;rfl
  rw [this];omega
 have e1:((m / 256:Nat):Int) % 256=(m:Int) / 256 % 256:=by omega
 have e2:((m / 256 / 256:Nat):Int) % 256=(m:Int) / 65536 % 256:=by omega
 have e3:((m / 256 / 256 / 256:Nat):Int) % 256=(m:Int) / 16777216 % 256:=by omega
 exact jjt (h _) ((h _).trans e1) ((h _).trans e2) ((h _).trans e3)
theorem jcP (d:DiskM)(b:Int)(l:List (List UInt8)):(jI d b l).1.strs.length=d.strs.length:=by
 induction l generalizing d b with
 | nil=>rfl
 | cons c r ih =>
  rw [jI];split
  · rw [ih,DiskM.write_len]
  · rw [DiskM.write_len]
theorem jd9 {d:DiskM}(h:d.Wf)(b:Int)(l:List (List UInt8)):(jI d b l).1.Wf:=by
 induction l generalizing d b with
 | nil=>exact h
 | cons c r ih =>
  rw [jI];split
  · exact ih (h.write _ _) _
  · exact h.write _ _
theorem je1 (d:DiskM)(b:Int)(l:List (List UInt8)):(jI d b l).1.trail.length≤d.trail.length+l.length:=by
 induction l generalizing d b with
 | nil=>exact Nat.le_refl _
 | cons c r ih =>
  have:=(d.write_trail b (SB c)).1;rw [jI,List.length_cons];split
  · have:=ih (d.write b (SB c)).1 (b+1);omega
  · omega
theorem jaa:∀ (f:Nat) (p:List UInt8),p.length≤f→(jA f p).length*256<p.length+256
 | 0,p,h=>by simp [jA]
 | f+1,p,h=>by
  rw [jA]
  split
  · simp
  ·
   rename_i h1
   have hp:0<p.length:=List.length_pos_iff.2 h1;have:=jaa f (p.drop 256) (by rw [List.length_drop];omega)
   rw [List.length_cons];rw [List.length_drop] at this;generalize (jA f (p.drop 256)).length=c at this ⊢;clear h1 h;generalize p.length=m at this hp ⊢;omega
theorem jiS {d:DiskM}(h:d.Wf)(at_ n:Int)(e:Nat)(p:List UInt8):(yv d at_ n e p).1.Wf:=by
 unfold yv
 split
 ·
  split
  · exact h
  split
  · exact (jd9 h _ _).write _ _
  · exact jd9 h _ _
 · exact h
theorem jbw (d:DiskM)(at_ n:Int)(e:Nat)(p:List UInt8):(yv d at_ n e p).1.strs.length=d.strs.length:=by
 unfold yv
 split
 ·
  split
  · rfl
  split
  · rw [DiskM.write_len,jcP]
  · rw [jcP]
 · rfl
theorem jgt (d:DiskM)(at_ n:Int)(e:Nat)(p:List UInt8)(hd:d.strs.length≤4096):(yv d at_ n e p).1.trail.length≤d.trail.length+2050:=by
 unfold yv
 split
 ·
  rename_i h1
  split
  · exact Nat.le_add_right _ _
  ·
   rename_i h2
   have hc:=jaa p.length p (Nat.le_refl _);have ht:=je1 d (yL at_ n e) (jA p.length p);unfold zt at h1
   split
   ·
    have:=((jI d (yL at_ n e) (jA p.length p)).1.write_trail at_ (SB (xw e p))).1;omega
   · omega
 · exact Nat.le_add_right _ _
theorem vm (d:DiskM)(i:Int)(s:ByteArray):(d.write i s).2=0∨(d.write i s).2=1∨(d.write i s).2=3∨(d.write i s).2=22:=by
 unfold DiskM.write
 split
 · simp
 split
 · simp
 split
 · simp
 · simp
theorem jgH (d:DiskM)(b:Int)(l:List (List UInt8)):(jI d b l).2=0∨(jI d b l).2=1∨(jI d b l).2=3∨(jI d b l).2=22:=by
 induction l generalizing d b with
 | nil=>exact .inl rfl
 | cons c r ih =>
  rw [jI];split
  · exact ih _ _
  · exact vm _ _ _
theorem jhC (d:DiskM)(at_ n:Int)(e:Nat)(p:List UInt8):(yv d at_ n e p).2=0∨(yv d at_ n e p).2=1∨(yv d at_ n e p).2=3∨(yv d at_ n e p).2=22:=by
 unfold yv
 split
 ·
  split
  · simp
  split
  · exact vm _ _ _
  · exact jgH _ _ _
 · simp
theorem jbt (d:DiskM)(at_ n:Int):(jY d at_ n).2.2=0∨(jY d at_ n).2.2=1∨(jY d at_ n).2.2=10∨(jY d at_ n).2.2=21:=by
 unfold jY
 split
 ·
  split
  · simp
  split
  ·
   split
   · simp
   split
   · simp
   · split <;> simp
  · simp
 · simp
theorem jgB (d:DiskM)(at_ n:Int):(jY d at_ n).1<4294967296:=by
 unfold jY
 split
 ·
  split
  · simp
  split
  ·
   split
   · simp
   split
   · simp
   ·
    split
    · exact ja2 _ _
    · simp
  · simp
 · simp
theorem jiM (x:UInt32):bits .xor .u32 (I32 x / 2) (bits .and .u32 3988292384 (-bits .and .u32 (I32 x) 1 % 4294967296))=I32 (uC x):=by
 rw [show (1:Int)=I32 1 from rfl,show (3988292384:Int)=I32 0xedb88320 from rfl,I32_and,jj1,I32_and,jcR,I32_xor];rfl
theorem ja7 (p:Addr)(r:UInt32)(v:Value)(l:List UInt8)(w:World)(hp:w.cell? p=some (.int .u32 (I32 r)))(hf:w.frozen? p=false)(hv:Rd w v l.length (l.map V8)) :
  Calls prog 132 #[.pointer (some p),v] w fun e w'=>e=.returned (.tuple #[])∧w'=w.setCell p (.int .u32 (I32 (~~~(xW (~~~r) l)))):=by
 have hm:=hv.len;obtain ⟨a,cap,rfl,a3,a4,_,hc⟩:=hv;have H:=Hd hc;clear hc;go_enter func132,ntmps132
 go_wp2
 go_loop [4,14] (fun x i=>∃ k:Nat,k≤l.length∧i=.int .i64 k∧x=.int .u32 (I32 (xW (~~~r) (l.take k)))) (fun _ i=>l.length-(intOf i).toNat)
 case atStart=>exact ⟨0,by omega,rfl,rfl⟩
 case round =>
  obtain ⟨k,hk,rfl,rfl⟩:=hrel;by_cases hlt:k<l.length
  ·
   obtain ⟨b,off,rfl,a0⟩:=H.1 k (by simpa using hlt)
   have a2:w.cell? ⟨b,off+k,none⟩=some (.int .u8 (l[k].toNat:Int)):=by rw [a0];simp [hlt,V8]
   clear H a0;have a1:=Hd (jb2 (~~~r) l k hlt)
   go_wp2
   go_loop [4,22] (fun x i=>∃ j:Nat,j≤8∧i=.int .i64 j∧x=.int .u32 (I32 (uz j ((xW (~~~r) (l.take k)) ^^^ l[k].toUInt32)))) (fun _ i=>8-(intOf i).toNat)
   case atStart=>exact ⟨0,by omega,rfl,rfl⟩
   case round =>
    obtain ⟨j,hj,rfl,rfl⟩:=hrel;by_cases hlt:j<8
    ·
     go_wp2
     go_round
     case rel=>exact ⟨j+1,by omega,by go_num,by rw [jiM];rfl⟩
     case measure=>simp [intOf];omega
    ·
     go_wp2
     go_round
     case rel=>exact ⟨k+1,by omega,by go_num,by
      rw [a1.1];obtain rfl:j=8:=by omega
      rfl⟩
     case measure=>simp [intOf];omega
  ·
   obtain rfl:k=l.length:=by omega
   go_wp2
   go_end0
   exact ⟨rfl,rfl⟩
theorem jaL (w:World):Calls prog 131 #[] w fun e w'=>e=.returned (.pointer (some ⟨w.heap.size,0,none⟩))∧w'=w.alloc (.cells #[.int .u32 (I32 0)] 256):=by
 go_enter func131,ntmps131
 go_wp2
 go_ret;exact ⟨rfl,rfl⟩
theorem jb5 (p:Addr)(x:Value)(w:World)(hp:w.cell? p=some x):Calls prog 133 #[.pointer (some p)] w fun e w'=>e=.returned x∧w=w':=by
 go_enter func133,ntmps133
 go_wp2
 go_ret;exact ⟨rfl,rfl⟩
theorem jhp (m n:Nat):le m (n+1)=le m n ++ [UInt8.ofNat (m / 256 ^ n)]:=by
 induction n generalizing m with
 | zero=>simp [le]
 | succ n ih=>rw [le,ih (m / 256),le,List.cons_append,Nat.div_div_eq_div_mul,Nat.pow_succ,Nat.mul_comm (256 ^ n)]
theorem jf3 (m:Nat):V8 (UInt8.ofNat m)=.int .u8 ((m:Int) % 256):=by
 unfold V8;have:(UInt8.ofNat m).toNat=m % 256:=by show m % 2 ^ 8=_;rfl
 rw [this];congr 1
theorem vF (B:Nat)(v:Value)(xs:List UInt8)(m n:Nat)(w:World)(hv:w.ownsRow B 5 1 v xs.length (xs.map V8))(hB:B≤w.heap.size)(hm:m<4294967296)(hn:n≤4)(hx:xs.length≤140737488355000) :
  Calls prog 130 #[v,.int .u32 (m:Int),.int .i64 (n:Int)] w fun e w'=>∃ v',e=.returned v'∧w'.ownsRow B 5 1 v' (xs.length+n) ((xs++le m n).map V8)∧Below B w w':=by
 obtain ⟨va,vc,rfl,_⟩:∃ a c,v=.slice a xs.length c∧True:=by
  rcases hv.2 with ⟨rfl,h0⟩ | ⟨g,cap,cur,rfl,_⟩
  · exact ⟨_,_,by rw [h0],trivial⟩
  · exact ⟨_,_,rfl,trivial⟩
 have C:=Hd hv;have K:=Hd hm;clear hv hm;go_enter func130,ntmps130;go_wp2_with fail
 go_loopg [0,1,8] n (fun gk v x i wr=>∃ (k:Nat),gk+k=n∧i=.int .i64 (k:Int)∧x=.int .u32 ((m / 256 ^ k:Nat):Int)∧wr.ownsRow B 5 1 v (xs.length+k) ((xs++le m k).map V8)∧Below B w wr)
 case atStart=>exact ⟨0,by omega,rfl,by simp,by simpa [le] using C.1,Below.refl _ _⟩
 case round =>
  clear C;obtain ⟨k,a3,rfl,rfl,a0,hb⟩:=hrel;have hs:=hb.size;have b2:(0:Int)≤(k:Int):=by omega
  have A:=Hd a3;have L:=Hd hb;obtain ⟨q,hq⟩:=Nm (m / 256 ^ k);have b0:q<4294967296:=by rw [hq];exact Nat.lt_of_le_of_lt (Nat.div_le_self _ _) K.1
  have b3:(q:Int)<4294967296:=by omega
  have b4:(0:Int)≤(q:Int):=by omega
  have a5:q / 256=m / 256 ^ (k+1):=by rw [hq,Nat.div_div_eq_div_mul,Nat.pow_succ]
  rw [← hq];obtain ⟨ra,rc,b1⟩:∃ a c,u0=.slice a (xs.length+k) c:=by
   rcases a0.2 with ⟨h,h0⟩ | ⟨g,cap,cur,h,_⟩
   · exact ⟨_,_,by rw [h,h0]⟩
   · exact ⟨_,_,h⟩
  subst b1;have a4:=jhp m k;rw [← hq] at a4;have a1:=a0.alloc (.cells #[.int .u8 ((q:Int) % 256)] 5);have a6:=hb.trans ((ja wr (.cells #[.int .u8 ((q:Int) % 256)] 5)).mono (by omega))
  have D:=Hd a1;have H:=Hd a6;have E:=Hd a4;have F:=Hd a5;have G:=Hd a0;clear hb a0 a1 a6 a4 a5 hq b0;by_cases hk:k<n
  ·
   have b5:(k:Int)<(n:Int):=by omega
   clear a3
   go_wp2_with (at_builtin;refine jko rfl _ _ rfl B _ _ _ rfl D.1 ⟨wr.heap.size,0,none⟩ 1 1 [.int .u8 ((q:Int) % 256)] rfl rfl (cell_one_new _ _ _) (by simp [Value.oneCell']) (by omega) (Nat.le_trans hB H.1.size) ?_)
   intro v' w1 a2 a7 _;have a8:=H.1.trans (ji a7 (Nat.le_trans hB H.1.size) (fun q hq=>(G.1.lt q hq).1))
   have a9:w1.ownsRow B 5 1 v' (xs.length+(k+1)) ((xs++le m (k+1)).map V8):=by
    rw [E.1,List.map_append,List.map_append];rw [List.map_cons,List.map_nil,jf3];exact a2
   have I:=Hd a8;have J:=Hd a9;clear a2 a7 a8 a9;go_wp2_with fail
   go_roundg (n-(k+1))
   case measure=>have:=A.1;omega
   case rel=>exact ⟨k+1,by have:=A.1;omega,by go_num,by rw [← F.1];simp,J.1,I.1⟩
  ·
   obtain rfl:k=n:=by omega
   clear a3;go_wp2_with fail;go_ret;exact ⟨_,rfl,G.1,L.1⟩
theorem jds (v:Value)(e:UInt32)(p:List UInt8)(w:World)(hv:Rd w v p.length (p.map V8))(hp:p.length≤512) :
  Calls prog 98 #[.int .u32 (e.toNat:Int),v] w fun r w'=>∃ v',r=.returned v'∧w'.ownsRow w.heap.size 5 1 v' 11 ((xr e p).map V8)∧Below w.heap.size w w':=by
 obtain ⟨va,vc,rfl⟩:∃ a c,v=.slice a p.length c:=by obtain ⟨a,c,h,_⟩:=hv;exact ⟨a,c,h⟩
 have b4:(w.alloc (.cells #[.int .u8 104] 5)).ownsRow w.heap.size 5 1 (.slice (some ⟨w.heap.size,0,none⟩) 1 1) ([(104:UInt8)]).length (([(104:UInt8)]).map V8) :=
  ⟨rfl,.inr ⟨w.heap.size,1,_,rfl,Nat.le_refl _,heap_alloc_new w _,Nat.le_refl _,by unfold maxLen;omega,rfl,rfl⟩⟩
 have X:=Hd hv;have T:=Hd (ja w (.cells #[.int .u8 104] 5));have b5:=vF w.heap.size _ [104] e.toNat 4 _ b4 (by simp) e.toNat_lt (by omega) (by simp)
 have F:=Hd b5;clear hv b4 b5;go_enter func98,ntmps98;go_wp2_with fail;refine F.1.mono ?_;rintro r w1 ⟨b1,rfl,b6,b8⟩;have A:=Hd (T.1.trans b8);have b9:=vF w.heap.size b1 (104::le e.toNat 4) p.length 2 w1 (by simpa [jG] using b6) A.1.size (by omega) (by omega) (by simp [jG])
 have G:=Hd b9;clear b6 b8 F T b9;go_wp2_with fail;refine G.1.mono ?_;rintro r w2 ⟨b2,rfl,a1,c0⟩;have a1:w2.ownsRow w.heap.size 5 1 b2 (pre e p.length).length ((pre e p.length).map V8):=by
  have:=a1;simpa [pre,jG] using this
 have B:=Hd (A.1.trans c0);have C:=Hd a1;have d0:=B.1.size;clear a1 c0 G A;go_wp2_with fail;refine (jaL w2).mono ?_;rintro r w3 ⟨rfl,rfl⟩;obtain ⟨w3,a2⟩:=Nm (w2.alloc (.cells #[.int .u32 (I32 0)] 256));rw [← a2];obtain ⟨s,hs⟩:=Nm (w2.heap.size);rw [← hs];have a3:Box w3 s #[.int .u32 (I32 0)] 256:=by rw [a2,hs];exact Box.new _ _ _
 have a4:=jr C.1 (ja w2 (.cells #[.int .u32 (I32 0)] 256));have a7:=B.1.trans ((ja w2 (.cells #[.int .u32 (I32 0)] 256)).mono d0);rw [← a2] at a4 a7;have c1:∀ k,b2.ownBlock=some k→k≠s:=fun k hk e=>by have:=(C.1.lt k hk).2;omega
 have I:=Hd a3;have J:=Hd a4;have D:=Hd a7;have K:=Hd c1;have d1:w.heap.size≤s:=by omega
 have c2:=ja7 ⟨s,0,none⟩ 0 b2 (pre e p.length) w3 (a3.cell 0 _ rfl) (a3.free 0) (jq a4);have L:=Hd c2;clear a3 a4 a7 c1 a2 hs C B c2;go_wp2_with fail;refine L.1.mono ?_;rintro r w4 ⟨rfl,a5⟩;obtain ⟨r1,a8⟩:∃ r1:UInt32,r1 = ~~~(xW (~~~0) (pre e p.length)):=⟨_,rfl⟩;rw [← a8] at a5;have a9:Mod (fun q=>q=s) w3 w4:=by rw [a5];exact Mod.set (fun q=>q=s) w3 ⟨s,0,none⟩ _ rfl
 have a6:Box w4 s #[.int .u32 (I32 r1)] 256:=by rw [a5];simpa using I.1.set 0 (.int .u32 (I32 r1))
 have M:=Hd (yB J.1 a9 (fun k hk=>K.1 k hk))
 have H:=Hd (D.1.trans (a9.below D.1.size (fun q hq=>by omega)))
 have N:=Hd a6;have c3:=ja7 ⟨s,0,none⟩ r1 (.slice va p.length vc) p w4 (a6.cell 0 _ rfl) (a6.free 0) (X.1.below H.1);have O:=Hd c3;have P:=Hd a8;clear a5 a9 a6 I J D L c3 a8;go_wp2_with fail;refine O.1.mono ?_;rintro r w5 ⟨rfl,a0⟩;have c4 : ~~~(xW (~~~r1) p)=crc (pre e p.length++p):=by
  rw [P.1];unfold crc;rw [jdW];simp;rfl
 rw [c4] at a0;obtain ⟨cv,b0⟩:=Nm (crc (pre e p.length++p));rw [← b0] at a0;have b3:Mod (fun q=>q=s) w4 w5:=by rw [a0];exact Mod.set (fun q=>q=s) w4 ⟨s,0,none⟩ _ rfl
 have c5:Box w5 s #[.int .u32 (I32 cv)] 256:=by rw [a0];simpa using N.1.set 0 (.int .u32 (I32 cv))
 have Q:=Hd (yB M.1 b3 (fun k hk=>K.1 k hk))
 have E:=Hd (H.1.trans (b3.below H.1.size (fun q hq=>by omega)))
 have c6:=jb5 ⟨s,0,none⟩ (.int .u32 (I32 cv)) w5 (c5.cell 0 _ rfl);have R:=Hd c6;have U:=Hd b0;clear a0 b3 c5 N M H O c4 c6 b0 P;go_wp2_with fail;refine R.1.mono ?_;rintro r w6 ⟨rfl,rfl⟩;have c7:=vF w.heap.size b2 (pre e p.length) cv.toNat 4 w5 Q.1 E.1.size cv.toNat_lt (by omega) (by rw [vH];omega)
 have S:=Hd c7;clear c7 R;unfold I32;go_wp2_with fail;refine S.1.mono ?_;rintro r w7 ⟨b7,rfl,c8,c9⟩;have V:=Hd (E.1.trans c9);have W:=Hd c8;clear c8 c9 S Q E;go_wp2_with fail;go_ret;refine ⟨_,rfl,?_,V.1⟩;have:=W.1;rw [vH] at this;unfold xr;rw [← U.1];exact this
end Go.Proofs.YtgcnolapjppbpaaGreatDoor
