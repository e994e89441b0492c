/-
  Texts of one proof, one behind the other.
-/
import Derived.Test.YtgcnolapjppbpaaGreatDoorP03
import Derived.Test.YtgcnolapjppbpaaGreatDoorP07
import Derived.Test.YtgcnolapjppbpaaGreatDoorP08
import Derived.Test.YtgcnolapjppbpaaGreatDoorP04
import Derived.Test.YtgcnolapjppbpaaGreatDoorP05
import Derived.Test.YtgcnolapjppbpaaGreatDoorP00
namespace Go.Proofs.YtgcnolapjppbpaaGreatDoor
open Go.RowKit _root_.Go.Proofs.Tryz
set_option maxRecDepth 100000
set_option maxHeartbeats 25600000
theorem jap (e:UInt32)(p:List UInt8):(jz e p).length≤4:=by
 have:∀ f q,(ym f q).length≤f:=by
  intro f
  induction f with
  | zero=>intro q;simp [ym]
  | succ f ih =>
   intro q;rw [ym];split
   · simp
   · have:=ih (q.drop 255);simp only [List.length_cons];omega
 unfold jz;rw [List.length_cons];have:=this 3 (p.drop 245);omega
def DiskM.back (d:DiskM):Nat→List (List UInt8)→DiskM × Int
 | _,[]=>(d,0)
 | a,b::r=>if (DiskM.back d (a+1) r).2≠0 then DiskM.back d (a+1) r else (DiskM.back d (a+1) r).1.write (a:Int) (SB b)
structure LogM where
 base:Nat
 n:Nat
 epoch:UInt32
 used:Nat
 records:Nat
 dead:Bool
def LogM.append (l:LogM)(d:DiskM)(p:List UInt8):LogM × DiskM × Int :=
 if l.dead=true then (l,d,22)
 else if 512<p.length then (l,d,3)
 else if l.n-l.used<(jz l.epoch p).length then (l,d,19)
 else if (d.back (l.base+l.used) (jz l.epoch p)).2≠0 then ({ l with dead:=true },(d.back (l.base+l.used) (jz l.epoch p)).1,22)
 else ({ l with used:=l.used+(jz l.epoch p).length,records:=l.records+1 },(d.back (l.base+l.used) (jz l.epoch p)).1,0)
theorem vg (d:DiskM)(a:Nat)(b:List UInt8)(r:List (List UInt8)):d.back a (b::r)=if (d.back (a+1) r).2≠0 then d.back (a+1) r else (d.back (a+1) r).1.write (a:Int) (SB b):=rfl
theorem ul (d:DiskM):∀ (bs:List (List UInt8)) (a:Nat),(d.back a bs).1.strs.length=d.strs.length∧(d.back a bs).1.trail.length≤d.trail.length+bs.length
 | [],a=>⟨rfl,Nat.le_refl _⟩
 | b::r,a=>by
  obtain ⟨h1,h2⟩:=ul d r (a+1);rw [vg]
  split
  · exact ⟨h1,by rw [List.length_cons];omega⟩
  ·
   have h3:=(d.back (a+1) r).1.write_len (a:Int) (SB b);have h4:=(d.back (a+1) r).1.write_trail (a:Int) (SB b);exact ⟨by rw [h3,h1],by rw [List.length_cons];omega⟩
theorem je2 {d:DiskM}(h:d.Wf):∀ (bs:List (List UInt8)) (a:Nat),(d.back a bs).1.Wf
 | [],_=>h
 | b::r,a=>by
  rw [vg]
  split
  · exact je2 h r (a+1)
  · exact (je2 h r (a+1)).write _ _
theorem jcT (d:DiskM):∀ (bs:List (List UInt8)) (a:Nat),(∀ b∈bs,b.length≤256)→a+bs.length≤d.strs.length→(d.back a bs).2=0∨(d.back a bs).2=22
 | [],_,_,_=>.inl rfl
 | b::r,a,hb,ha=>by
  rw [List.length_cons] at ha;have ih:=jcT d r (a+1) (fun x hx=>hb x (List.mem_cons_of_mem _ hx)) (by omega)
  rw [vg]
  split
  · exact ih
  ·
   have h1:=(ul d r (a+1)).1;have h2:=hb b (List.mem_cons_self ..);unfold DiskM.write;rw [if_neg (by rw [h1];omega),if_neg (by rw [SB_size];omega)]
   split
   · exact .inr rfl
   · exact .inl rfl
theorem jde:∀ (f:Nat) (q:List UInt8) (b:List UInt8),b∈ym f q→∃ r,b=99::r∧r.length≤255
 | 0,q,b,h=>by simp [ym] at h
 | f+1,q,b,h=>by
  rw [ym] at h
  split at h
  · simp at h
  ·
   rcases List.mem_cons.1 h with rfl | h
   · exact ⟨_,rfl,by rw [List.length_take];omega⟩
   · exact jde f _ b h
theorem ja4 {e:UInt32}{p b:List UInt8}(h:b∈jz e p):b.length≤256:=by
 unfold jz at h
 rcases List.mem_cons.1 h with rfl | h
 · rw [List.length_append,xz,List.length_take];omega
 ·
  obtain ⟨r,rfl,hr⟩:=jde _ _ _ h;rw [List.length_cons];omega
theorem jcA (l:LogM)(d:DiskM)(p:List UInt8):(l.append d p).2.1.strs.length=d.strs.length∧(l.append d p).2.1.trail.length≤d.trail.length+4:=by
 unfold LogM.append
 split
 · exact ⟨rfl,Nat.le_add_right _ _⟩
 split
 · exact ⟨rfl,Nat.le_add_right _ _⟩
 split
 · exact ⟨rfl,Nat.le_add_right _ _⟩
 have h1:=ul d (jz l.epoch p) (l.base+l.used);have h2:=jap l.epoch p
 split <;> exact ⟨h1.1,by have:=h1.2;simp only;omega⟩
theorem jbN (l:LogM)(d:DiskM)(p:List UInt8):(l.append d p).1.base=l.base∧(l.append d p).1.n=l.n∧(l.append d p).1.epoch=l.epoch∧l.used≤(l.append d p).1.used∧(l.used≤l.n→(l.append d p).1.used≤l.n)∧(l.append d p).1.records≤l.records+1:=by
 unfold LogM.append
 split
 · exact ⟨rfl,rfl,rfl,Nat.le_refl _,id,Nat.le_succ _⟩
 split
 · exact ⟨rfl,rfl,rfl,Nat.le_refl _,id,Nat.le_succ _⟩
 split
 · exact ⟨rfl,rfl,rfl,Nat.le_refl _,id,Nat.le_succ _⟩
 split
 · exact ⟨rfl,rfl,rfl,Nat.le_refl _,id,Nat.le_succ _⟩
 · exact ⟨rfl,rfl,rfl,Nat.le_add_right _ _,fun h=>by simp only;omega,Nat.le_refl _⟩
theorem jd4 (l:LogM){d:DiskM}(h:d.Wf)(p:List UInt8):(l.append d p).2.1.Wf:=by
 unfold LogM.append
 split
 · exact h
 split
 · exact h
 split
 · exact h
 split <;> exact je2 h _ _
theorem jec {w:World}{ops:Array Oper}{rest:List Oper}{o:Oper}{a:Act}{Q:Exit→Act→World→Prop}(a4:o.guard=none)(s x:Operand)(ho:o.op=.call { callee:=.builtin .append,args:=#[s,x],argTypes:=#[92,92] })(base:Nat)(v:Value)(n:Nat)(xs:List Value)(hs:a.eval s=v)(a0:OwnM w base 5 v n xs)(ad:Addr)(c:Nat)(y:Value)(hx:a.eval x=.slice (some ad) 1 c)(hy:w.cell? ad=some y)(h1:y.oneCell'=true)(a9:n+1≤140737488355328)(a3:base≤w.heap.size)(h:∀ v' w',OwnM w' base 5 v' (n+1) (xs ++ [y])→w.grownBy w' v.ownBlock→xe w v v'→jg2 w w' v v' n→wpList prog ops Q rest (a.put o.dst v') w'):wpList prog ops Q (o::rest) a w:=by
 obtain ⟨i0,hi,a5,a6,a7⟩:=info_parts vG;refine wpList_plain a4 fun _ hK=>?_
 have a8:ad.add 0=ad:=by cases ad with | mk b o s=>cases s <;> rfl
 obtain ⟨v',w',hr,h2,h3,h4,h5⟩:=vz (P:=prog) w base 92 92 o.type 5 _ i0 (.int .u8 0) 1 underlying92 underlying92 (.inl ⟨_,rfl⟩) hi a5 a6 a7 rfl v n xs a0
  (.slice (some ad) 1 c) 1 [y] rfl (fun w=>by simp [Builtin.lenOf]) (fun wd hw=>by
   refine run_firstCells_some (P:=prog) wd 1 1 ad 1 c [y] rfl (fun j u hj=>?_)
   cases j with
   | zero=>simp at hj;subst hj;rw [a8,hw];exact hy
   | succ j=>simp at hj) (by simpa using h1) (by unfold maxLen;omega) (by omega) a3
 have h6:jg2 w w' v v' n:=by
  rcases h5 with h5 | h5 | ⟨e1,_⟩
  · exact .inl h5
  · exact .inr h5
  ·
   exfalso
   obtain ⟨a1,c1,e2,_⟩:=a0.slice;obtain ⟨a2,c2,e3,_⟩:=h2.slice;rw [e1,e2] at e3;injection e3 with _ e4 _
   omega
 unfold Oper.wp execOp;simp only [ho,resolve,invoke,builtin,Sem.run_bind,Sem.run_pure,Result.andThen_ok,List.map_toArray,List.map_cons,List.map_nil,hs,hx,hr];exact hK _ _ (h v' w' h2 h3 h4 h6)
theorem yQ {w:World}{ops:Array Oper}{rest:List Oper}{o:Oper}{a:Act}{Q:Exit→Act→World→Prop}(a5:o.guard=none)(s x:Operand)(ho:o.op=.call { callee:=.builtin .append,args:=#[s,x],argTypes:=#[92,92] })(base:Nat)(v:Value)(n:Nat)(xs:List Value)(hs:a.eval s=v)(a4:OwnM w base 5 v n xs)(src:Value)(l:List UInt8)(hx:a.eval x=src)(a0:Rd w src l.length (l.map V8))(b2:n+l.length≤140737488355328)(a2:base≤w.heap.size)(h:∀ v' w',OwnM w' base 5 v' (n+l.length) (xs++l.map V8)→w.grownBy w' v.ownBlock→xe w v v'→wpList prog ops Q rest (a.put o.dst v') w'):wpList prog ops Q (o::rest) a w:=by
 obtain ⟨i0,hi,a6,a7,a8⟩:=info_parts vG;refine wpList_plain a5 fun _ hK=>?_
 obtain ⟨v',w',hr,h2,h3,h4,_⟩:=vz (P:=prog) w base 92 92 o.type 5 _ i0 (.int .u8 0) 1 underlying92 underlying92 (.inl ⟨_,rfl⟩) hi a6 a7 a8 rfl v n xs a4
  src l.length (l.map V8) (by simp) (fun w=>by obtain ⟨ad,cap,rfl,_⟩:=a0;simp [Builtin.lenOf]) (fun wd hw=>by
   obtain ⟨ad,cap,rfl,b3,_,a1,a3⟩:=a0
   cases ad with
   | some ad =>
    refine run_firstCells_some (P:=prog) wd 1 l.length ad l.length cap (l.map V8) (by simp) (fun j u hj=>?_)
    have a9:j<(l.map V8).length:=(List.getElem?_eq_some_iff.1 hj).1;obtain ⟨b,off,e1,e2⟩:=a3 j a9;injection e1 with e1;subst e1
    rw [hw,Go.WideShapes.add_plain,e2,List.getD,hj];rfl
   | none =>
    have b4:=a1 rfl;have b0:l = []:=List.eq_nil_of_length_eq_zero (by omega)
    subst b0;have b1:cap=0:=a1 rfl;subst b1;exact run_firstCells_none ..) (by
   intro u hu;obtain ⟨c,_,rfl⟩:=List.mem_map.1 hu
   simp [V8,Value.oneCell']) (by unfold maxLen;omega) (by omega) a2
 unfold Oper.wp execOp;simp only [ho,resolve,invoke,builtin,Sem.run_bind,Sem.run_pure,Result.andThen_ok,List.map_toArray,List.map_cons,List.map_nil,hs,hx,hr];exact hK _ _ (h v' w' h2 h3 h4)
def vC:Nat→Nat→List UInt8
 | 0,_ => []
 | k+1,n=>if n<128 then [UInt8.ofNat n] else UInt8.ofNat (n % 128+128)::vC k (n / 128)
def yM (n:Nat):List UInt8:=vC 10 n
theorem jjc (k n:Nat):(vC k n).length≤k:=by
 induction k generalizing n with
 | zero=>simp [vC]
 | succ k ih =>
  rw [vC];split
  · simp
  · have:=ih (n / 128);simp only [List.length_cons];omega
theorem xu (n:Nat):(yM n).length≤10:=jjc 10 n
theorem je5 (n:Nat)(h:n<256):V8 (UInt8.ofNat n)=.int .u8 (n:Int):=by
 unfold V8;have:(UInt8.ofNat n).toNat=n % 256:=rfl;rw [this,Nat.mod_eq_of_lt h]
theorem jjE (n:Nat)(h:n<2 ^ 64):bits .and .u64 (n:Int) 127=((n % 128:Nat):Int):=by
 show IntKind.u64.wrap ((BitVec.ofInt 64 (n:Int) &&& BitVec.ofInt 64 127).toNat:Int)=_;rw [BitVec.toNat_and,BitVec.toNat_ofInt,BitVec.toNat_ofInt];have e1:((n:Int) % ((2 ^ 64:Nat):Int)).toNat=n:=by omega
 have e2:((127:Int) % ((2 ^ 64:Nat):Int)).toNat=2 ^ 7-1:=by decide
 rw [e1,e2,Nat.and_two_pow_sub_one_eq_mod];have:n % 2 ^ 7<128:=Nat.mod_lt _ (by decide)
 simp [IntKind.wrap,IntKind.bits,IntKind.signed];omega
theorem jkE (n:Nat)(h:n<128):bits .or .u8 (n:Int) 128=((n+128:Nat):Int):=by
 have:∀ n:Nat,n<128→bits .or .u8 (n:Int) 128=((n+128:Nat):Int):=by decide +kernel
 exact this n h
theorem jki (n:Nat)(h:n<256):bits .or .u8 (n:Int) 128=((n % 128+128:Nat):Int):=by
 have:∀ n:Nat,n<256→bits .or .u8 (n:Int) 128=((n % 128+128:Nat):Int):=by decide +kernel
 exact this n h
theorem xh (n:Nat)(w:World)(hn:n<2 ^ 64) :
  Calls prog 158 #[.int .u64 (n:Int)] w fun e w'=>∃ o,e=.returned o∧OwnM w' w.heap.size 5 o (yM n).length ((yM n).map V8)∧Below w.heap.size w w':=by
 go_enter func158,ntmps158;go_wp2_with fail
 go_loopg [0,3,4] 10 (fun gk vv o iv wr=>∃ (i v:Nat) (l:List UInt8),gk+i=10∧vv=.int .u64 (v:Int)∧iv=.int .i64 (i:Int)∧v<2 ^ (70-7*i)∧v<2 ^ 64∧OwnM wr w.heap.size 5 o l.length (l.map V8)∧l++(if i=0∨0<v then vC (10-i) v else [])=yM n∧Below w.heap.size w wr)
 case atStart=>exact ⟨0,n,[],rfl,rfl,rfl,by omega,hn,OwnM.nil _ _ _,by simp [yM],Below.refl _ _⟩
 case round =>
  obtain ⟨i,v,l,a5,rfl,rfl,hv,a4,a0,hl,hb⟩:=hrel;by_cases hc:i<10∧(i=0∨0<v)
  ·
   obtain ⟨h1,h2⟩:=hc;obtain ⟨m,hm⟩:=Nm (v % 128);obtain ⟨q,hq⟩:=Nm (v / 128);have a7:=jjE v a4;rw [← hm] at a7;have a8:m<128:=by omega
   have f1:(i:Int)<10:=by omega
   have f0:(0:Int)≤(i:Int):=by omega
   have hs:=hb.size;rw [if_pos h2,show 10-i=(9-i)+1 by omega] at hl
   unfold vC at hl;have b0:(v:Int) / 128=(q:Int):=by omega
   have C:=Hd a5;have D:=Hd h1;have E:=Hd (show q<2 ^ 64 by omega)
   have G:=Hd (show q<2 ^ (70-7*(i+1)) from by
    have e:2 ^ (70-7*i)=2 ^ (70-7*(i+1))*128:=by rw [show 70-7*i=(70-7*(i+1))+7 by omega,Nat.pow_add]
    rw [e] at hv;rw [hq];exact Nat.div_lt_of_lt_mul (by rw [Nat.mul_comm];exact hv))
   have I:=Hd (show l.length+1≤140737488355328 from by
    have h5:(l++(if v<128 then [UInt8.ofNat v] else UInt8.ofNat (v % 128+128)::vC (9-i) (v / 128))).length=(yM n).length:=by rw [hl]
    have:=xu n;rw [List.length_append] at h5;omega)
   by_cases hq0:0<q
   ·
    have F:=Hd (show (l ++ [UInt8.ofNat (m+128)])++(if i+1=0∨0<q then vC (10-(i+1)) q else [])=yM n from by
     rw [if_neg (by omega)] at hl
     rw [if_pos (.inr hq0),← hl,hm,hq,List.append_assoc,show 10-(i+1)=9-i by omega];rfl)
    have a9:=jkE m a8;have B:=Hd (je5 (m+128) (by omega))
    obtain ⟨k,hk⟩:=Nm (m+128);rw [← hk] at F a9 B;have g1:(0:Int)<(q:Int):=by omega
    clear hl hk;by_cases hi0:i=0
    ·
     have f2:((i:Int)==0)=true:=by simp;omega
     clear hi0 h2 a5 hv a4 hm hq h1
     go_wp2_with (at_builtin;refine jec rfl _ _ rfl w.heap.size _ _ _ rfl (a0.below (ja wr _)) ⟨wr.heap.size,0,none⟩ 1 (.int .u8 ((k:Int):Int)) rfl (by exact cell_one_new _ _ _ 0 _ rfl) (by simp [Value.oneCell']) (by have:=I.1;omega) (by simp;omega) ?_)
     intro v' w1 a1 a2 _ _;have a3:=hb.trans ((ja wr (.cells #[.int .u8 ((k:Int):Int)] 5)).mono hs);have H:=Hd (a3.trans (ji a2 (by simp;omega) (fun q hq=>(a0.lt q hq).1)))
     have A:=Hd a1;clear a3 a2 a1 a0 hb;go_wp2_with fail
     go_roundg (10-(i+1))
     case measure=>have:=C.1;have:=D.1;omega
     case rel=>exact ⟨i+1,q,l ++ [UInt8.ofNat k],by have:=C.1;have:=D.1;omega,by go_num,by go_num,G.1,E.1,by rw [List.length_append,List.map_append,List.length_singleton,List.map_singleton,B.1];exact A.1,F.1,H.1⟩
    ·
     have f2:((i:Int)==0)=false:=by simp;omega
     have f3:(0:Int)<(v:Int):=by omega
     clear hi0 h2 a5 hv a4 hm hq h1
     go_wp2_with (at_builtin;refine jec rfl _ _ rfl w.heap.size _ _ _ rfl (a0.below (ja wr _)) ⟨wr.heap.size,0,none⟩ 1 (.int .u8 ((k:Int):Int)) rfl (by exact cell_one_new _ _ _ 0 _ rfl) (by simp [Value.oneCell']) (by have:=I.1;omega) (by simp;omega) ?_)
     intro v' w1 a1 a2 _ _;have a3:=hb.trans ((ja wr (.cells #[.int .u8 ((k:Int):Int)] 5)).mono hs);have H:=Hd (a3.trans (ji a2 (by simp;omega) (fun q hq=>(a0.lt q hq).1)))
     have A:=Hd a1;clear a3 a2 a1 a0 hb;go_wp2_with fail
     go_roundg (10-(i+1))
     case measure=>have:=C.1;have:=D.1;omega
     case rel=>exact ⟨i+1,q,l ++ [UInt8.ofNat k],by have:=C.1;have:=D.1;omega,by go_num,by go_num,G.1,E.1,by rw [List.length_append,List.map_append,List.length_singleton,List.map_singleton,B.1];exact A.1,F.1,H.1⟩
   ·
    have a6:m=v:=by omega
    have F:=Hd (show (l ++ [UInt8.ofNat m])++(if i+1=0∨0<q then vC (10-(i+1)) q else [])=yM n from by
     rw [if_pos (by omega)] at hl
     rw [if_neg (by omega),← hl,a6,List.append_nil])
    have B:=Hd (je5 m (by omega))
    have g1:¬ (0:Int)<(q:Int):=by omega
    clear hl a6;by_cases hi0:i=0
    ·
     have f2:((i:Int)==0)=true:=by simp;omega
     clear hi0 h2 a5 hv a4 hm hq h1
     go_wp2_with (at_builtin;refine jec rfl _ _ rfl w.heap.size _ _ _ rfl (a0.below (ja wr _)) ⟨wr.heap.size,0,none⟩ 1 (.int .u8 ((m:Int):Int)) rfl (by exact cell_one_new _ _ _ 0 _ rfl) (by simp [Value.oneCell']) (by have:=I.1;omega) (by simp;omega) ?_)
     intro v' w1 a1 a2 _ _;have a3:=hb.trans ((ja wr (.cells #[.int .u8 ((m:Int):Int)] 5)).mono hs);have H:=Hd (a3.trans (ji a2 (by simp;omega) (fun q hq=>(a0.lt q hq).1)))
     have A:=Hd a1;clear a3 a2 a1 a0 hb;go_wp2_with fail
     go_roundg (10-(i+1))
     case measure=>have:=C.1;have:=D.1;omega
     case rel=>exact ⟨i+1,q,l ++ [UInt8.ofNat m],by have:=C.1;have:=D.1;omega,by go_num,by go_num,G.1,E.1,by rw [List.length_append,List.map_append,List.length_singleton,List.map_singleton,B.1];exact A.1,F.1,H.1⟩
    ·
     have f2:((i:Int)==0)=false:=by simp;omega
     have f3:(0:Int)<(v:Int):=by omega
     clear hi0 h2 a5 hv a4 hm hq h1
     go_wp2_with (at_builtin;refine jec rfl _ _ rfl w.heap.size _ _ _ rfl (a0.below (ja wr _)) ⟨wr.heap.size,0,none⟩ 1 (.int .u8 ((m:Int):Int)) rfl (by exact cell_one_new _ _ _ 0 _ rfl) (by simp [Value.oneCell']) (by have:=I.1;omega) (by simp;omega) ?_)
     intro v' w1 a1 a2 _ _;have a3:=hb.trans ((ja wr (.cells #[.int .u8 ((m:Int):Int)] 5)).mono hs);have H:=Hd (a3.trans (ji a2 (by simp;omega) (fun q hq=>(a0.lt q hq).1)))
     have A:=Hd a1;clear a3 a2 a1 a0 hb;go_wp2_with fail
     go_roundg (10-(i+1))
     case measure=>have:=C.1;have:=D.1;omega
     case rel=>exact ⟨i+1,q,l ++ [UInt8.ofNat m],by have:=C.1;have:=D.1;omega,by go_num,by go_num,G.1,E.1,by rw [List.length_append,List.map_append,List.length_singleton,List.map_singleton,B.1];exact A.1,F.1,H.1⟩
  ·
   have e1:l=yM n:=by
    rw [← hl];by_cases h2:i=0∨0<v
    ·
     have h3:10≤i:=by omega
     have h4:i=10:=by omega
     rw [h4] at hv ⊢;have h5:v=0:=by omega
     rw [if_neg (by omega),List.append_nil]
    · rw [if_neg h2,List.append_nil]
   subst e1;by_cases hi:i<10
   ·
    have f1:(i:Int)<10:=by omega
    have f2:((i:Int)==0)=false:=by simp;omega
    have f3:¬ (0:Int)<(v:Int):=by omega
    clear hc hl hv a4 a5;go_wp2_with fail;go_ret;exact ⟨_,rfl,a0,hb⟩
   ·
    have f1:¬ (i:Int)<10:=by omega
    clear hc hl hv a4 a5;go_wp2_with fail;go_ret;exact ⟨_,rfl,a0,hb⟩
def jm (n:Int):List UInt8:=yM n.toNat
def yr (l:List UInt8):List UInt8:=yM l.length++l
theorem jem (n:Nat)(h:n≤9223372036854775807):IntKind.u64.wrap (n:Int)=(n:Int):=by
 simp [IntKind.wrap,IntKind.bits,IntKind.signed];omega
theorem jav (n:Nat)(h:n≤9223372036854775807):(n:Int) % 18446744073709551616=(n:Int):=by omega
theorem jcX (n:Nat)(w:World)(hn:n≤9223372036854775807) :
  Calls prog 156 #[.int .i64 (n:Int)] w fun e w'=>∃ o,e=.returned o∧OwnM w' w.heap.size 5 o (yM n).length ((yM n).map V8)∧Below w.heap.size w w':=by
 have H:=Hd (xh n w (by omega))
 have z1:=jav n hn;go_enter func156,ntmps156;go_wp2_with fail;refine H.1.mono ?_;rintro e w1 ⟨o,rfl,ho,hb⟩;have A:=Hd ho;have B:=Hd hb;clear ho hb;go_wp2_with fail;go_ret;exact ⟨_,rfl,A.1,B.1⟩
theorem zl (l:List UInt8)(w:World)(hn:l.length≤140737488355000) :
  Calls prog 157 #[.string (SB l)] w fun e w'=>∃ o,e=.returned o∧OwnM w' w.heap.size 5 o (yr l).length ((yr l).map V8)∧Below w.heap.size w w':=by
 have H:=Hd (xh l.length w (by omega))
 have z1:=jav l.length (by omega)
 have a4:(SB l).size=l.length:=SB_size l;go_enter func157,ntmps157;go_wp2_with fail;refine H.1.mono ?_;rintro e w1 ⟨o,rfl,ho,hb⟩;have a3:=xu l.length;have hs:=hb.size;have A:=Hd (show (yM l.length).length+l.length≤140737488355328 by omega)
 go_wp2_with (at_builtin;refine jeA rfl _ _ rfl w.heap.size _ _ _ rfl ho l rfl (by have:=A.1;omega) (by omega) ?_)
 intro v' w2 a0 a1 _;have a2:=hb.trans (ji a1 hs (fun q hq=>(ho.lt q hq).1))
 have B:=Hd a0;have C:=Hd a2;clear ho hb a0 a2 a1;go_wp2_with fail;go_ret;exact ⟨_,rfl,by unfold yr;rw [List.length_append,List.map_append];exact B.1,C.1⟩
end Go.Proofs.YtgcnolapjppbpaaGreatDoor
