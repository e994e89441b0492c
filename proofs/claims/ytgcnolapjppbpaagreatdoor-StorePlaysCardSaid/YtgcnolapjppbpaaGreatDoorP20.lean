/-
  Texts of one proof, one behind the other.
-/
import Derived.Test.YtgcnolapjppbpaaGreatDoorP05
import Derived.Test.YtgcnolapjppbpaaGreatDoorP19
import Derived.Test.YtgcnolapjppbpaaGreatDoorP13
import Derived.BigQuiet
import Derived.Lib.JoinLaws
import Derived.Outline
import Derived.Deep.LoopGhost
import Derived.Test.YtgcnolapjppbpaaGreatDoorP01
import Derived.LaidEql
import Derived.Stop.Asserts
import Derived.Test.YtgcnolapjppbpaaGreatDoorP00
namespace Go.Proofs.YtgcnolapjppbpaaGreatDoor
open Go.RowKit _root_.Go.Proofs.Tryz
set_option maxRecDepth 100000
set_option maxHeartbeats 25600000
theorem yP {w:World}{b:Nat}{cs:Array Value}{t:TypeId}(h:Box w b cs t):w.rangeAt b 0 cs.toList:=fun j v hv=>by
 rw [Nat.zero_add];exact h.cell j v (by rw [← Array.getElem?_toList];exact hv)
theorem jeb (d:DiskM)(p:Nat)(F:Nat→Prop)(at_ n:Int)(w:World)(h:IsDisk w d p F)(hm:¬ zt d.strs.length at_ n)(ha:I64 at_)(hn:I64 n) :
  Calls prog 101 #[.pointer (some ⟨p,0,none⟩),.int .i64 at_,.int .i64 n] w fun e w'=>e=.returned (.tuple #[.agg #[.int .i64 0,.int .i64 0],.bool false])∧Below w.heap.size w w':=by
 obtain ⟨a2,a3⟩:=ha;obtain ⟨a4,a5⟩:=hn;have hN:d.strs.length≤4096:=by obtain ⟨bb,tv,pv,q,h1,h2,h3,h4,h5,_⟩:=h;exact h5
 obtain ⟨N,a1⟩:=Nm (d.strs.length);have A:=Hd (ja w (.cells #[.int .i64 0,.int .i64 0] 205));have a0:=zc d p F (w.alloc (.cells #[.int .i64 0,.int .i64 0] 205)) (h.mod (Mod.of_below (F:=fun _=>False) (ja w _)) (fun _ _ h=>h))
 rw [← a1] at a0 hN hm;have H:=Hd a0;unfold zt at hm;clear h a1 a0;by_cases c1:at_<0
 ·
  go_enter func101,ntmps101;go_wp2_with fail;refine H.1.mono ?_;rintro r w1 ⟨rfl,rfl⟩;go_wp2_with fail;exact jb rfl rfl w.heap.size 0 rfl [.int .i64 0,.int .i64 0] _ (yP (Box.new _ _ _)) underlying205 rfl (by kernel_rfl) _ rfl ⟨rfl,A.1⟩
 have c1':decide (at_<0)=false:=by simpa using c1
 by_cases c2:n<1
 ·
  go_enter func101,ntmps101;go_wp2_with fail;refine H.1.mono ?_;rintro r w1 ⟨rfl,rfl⟩;go_wp2_with fail;exact jb rfl rfl w.heap.size 0 rfl [.int .i64 0,.int .i64 0] _ (yP (Box.new _ _ _)) underlying205 rfl (by kernel_rfl) _ rfl ⟨rfl,A.1⟩
 have c2':decide (n<1)=false:=by simpa using c2
 by_cases c3:(N:Int)<at_
 ·
  go_enter func101,ntmps101;go_wp2_with fail;refine H.1.mono ?_;rintro r w1 ⟨rfl,rfl⟩;go_wp2_with fail;exact jb rfl rfl w.heap.size 0 rfl [.int .i64 0,.int .i64 0] _ (yP (Box.new _ _ _)) underlying205 rfl (by kernel_rfl) _ rfl ⟨rfl,A.1⟩
 have c3':decide ((N:Int)<at_)=false:=by simpa using c3
 by_cases c4:(N:Int)<n
 ·
  go_enter func101,ntmps101;go_wp2_with fail;refine H.1.mono ?_;rintro r w1 ⟨rfl,rfl⟩;go_wp2_with fail;exact jb rfl rfl w.heap.size 0 rfl [.int .i64 0,.int .i64 0] _ (yP (Box.new _ _ _)) underlying205 rfl (by kernel_rfl) _ rfl ⟨rfl,A.1⟩
 have c4':decide ((N:Int)<n)=false:=by simpa using c4
 have c5:(N:Int)<at_+1+2*n:=by omega
 go_enter func101,ntmps101;go_wp2_with fail;refine H.1.mono ?_;rintro r w1 ⟨rfl,rfl⟩;go_wp2_with fail;exact jb rfl rfl w.heap.size 0 rfl [.int .i64 0,.int .i64 0] _ (yP (Box.new _ _ _)) underlying205 rfl (by kernel_rfl) _ rfl ⟨rfl,A.1⟩
theorem jdt (d:DiskM)(p:Nat)(F:Nat→Prop)(at_ n:Int)(w:World)(h:IsDisk w d p F)(hm:zt d.strs.length at_ n) :
  Calls prog 101 #[.pointer (some ⟨p,0,none⟩),.int .i64 at_,.int .i64 n] w fun e w'=>e=.returned (.tuple #[.agg #[.int .i64 (at_+1),.int .i64 (at_+1+n)],.bool true])∧Below w.heap.size w w':=by
 have hN:d.strs.length≤4096:=by obtain ⟨bb,tv,pv,q,h1,h2,h3,h4,h5,_⟩:=h;exact h5
 obtain ⟨N,a1⟩:=Nm (d.strs.length);have a0:=zc d p F (w.alloc (.cells #[.int .i64 0,.int .i64 0] 205)) (h.mod (Mod.of_below (F:=fun _=>False) (ja w _)) (fun _ _ h=>h))
 rw [← a1] at a0 hN hm;have H:=Hd a0;unfold zt at hm;obtain ⟨m1,m2,m3⟩:=hm;clear h a1 a0;have c1':decide (at_<0)=false:=by simp;omega
 have c2':decide (n<1)=false:=by simp;omega
 have c3':decide ((N:Int)<at_)=false:=by simp;omega
 have c4':decide ((N:Int)<n)=false:=by simp;omega
 have c5':decide ((N:Int)<at_+1+2*n)=false:=by simp;omega
 go_enter func101,ntmps101;go_wp2_with fail;refine H.1.mono ?_;rintro r w1 ⟨rfl,rfl⟩;go_wp2_with fail;exact jb rfl rfl w.heap.size 0 rfl [.int .i64 (at_+1),.int .i64 (at_+1+n)] _ (yP (Box.new _ _ _)) underlying205 rfl (by kernel_rfl) _ rfl ⟨rfl,ja _ _⟩
theorem jed (w:World)(cs:Array Value)(t:TypeId)(xs:List Value)(h:cs.toList=xs):∀ j u,xs[j]?=some u→(w.alloc (.cells cs t)).cell? ((⟨w.heap.size,0,none⟩:Addr).add j)=some u:=by
 intro j u hj;rw [Go.WideShapes.add_plain,Nat.zero_add];refine (Box.new w cs t).cell j u ?_;rw [← Array.getElem?_toList,h];exact hj
theorem jiO (l:List UInt8):∀ u∈l.map V8,u.oneCell'=true:=by
 intro u hu;obtain ⟨c,_,rfl⟩:=List.mem_map.1 hu
 simp [V8,Value.oneCell']
theorem uB (B q:Nat)(sv:Value)(xs:List UInt8)(m:UInt32)(w:World)(hq:Box w q #[sv] 92)(ho:w.ownsRow B 5 1 sv xs.length (xs.map V8))(a5:∀ k,sv.ownBlock=some k→k≠q)(hB:B≤w.heap.size)(b0:B≤q)(hx:xs.length≤1000) :
  Calls prog 136 #[.int .u32 (I32 m),.pointer (some ⟨q,0,none⟩)] w fun e w'=>e=.returned (.tuple #[])∧∃ sv',Box w' q #[sv'] 92∧w'.ownsRow B 5 1 sv' (xs.length+4) ((xs++le m.toNat 4).map V8)∧(∀ k,sv'.ownBlock=some k→k≠q)∧Below B w w':=by
 obtain ⟨sa,sc,rfl,_⟩:=jK ho;have c0:=hq.cell 0 _ rfl;have a6:(#[.int .u8 (I32 m % 256),.int .u8 (I32 m / 256 % 256),.int .u8 (I32 m / 65536 % 256),.int .u8 (I32 m / 16777216 % 256)]:Array Value).toList=(le m.toNat 4).map V8:=by rw [jfG];rfl
 have a1:=fun ob=>ja w ob
 have E:=Hd (fun ob=>Box.below hq (a1 ob))
 have D:=Hd (fun ob=>jr ho (a1 ob))
 have I:=Hd a6;have H:=Hd a5;have A:=Hd (fun ob=>Nat.le_trans hB (a1 ob).size)
 have C:=Hd (fun ob=>(a1 ob).mono hB)
 have a7:=hq.lt;have G:=Hd a7;clear hq ho a6 a5 a1;go_enter func136,ntmps136
 go_wp2_with (at_builtin;refine jko rfl _ _ rfl B _ _ _ rfl (D.1 _) ⟨w.heap.size,0,none⟩ 4 4 _ rfl (by rw [List.length_map,jG]) (jed _ _ _ _ I.1) (jiO _) (by omega) (A.1 _) ?_)
 intro v' w1 a0 a3 a8;have a2:=Box.mod (E.1 _) (Mod.of_grown (F:=fun k=>(Value.slice sa xs.length sc).ownBlock=some k) a3 (fun _ h=>h)) (fun e=>H.1 _ e rfl)
 have c1:=a2.cell 0 _ rfl;have f1:=a2.free 0;have a4:∀ k,v'.ownBlock=some k→k≠q:=fun k hk e=>by
  rcases a8 with h | h
  · rw [h] at hk;exact H.1 k hk e
  · rw [h] at hk;injection hk with hk;have:=G.1;rw [World.size_alloc] at hk;omega
 have a9:=(C.1 (.cells #[.int .u8 (I32 m % 256),.int .u8 (I32 m / 256 % 256),.int .u8 (I32 m / 65536 % 256),.int .u8 (I32 m / 16777216 % 256)] 5)).trans (ji a3 (A.1 _) (fun k hk=>((D.1 (.cells #[] 5)).lt k hk).1))
 rw [← List.map_append] at a0;obtain ⟨na,nc,rfl,_⟩:=jK a0;have J:=Hd (And.intro a2 (And.intro a0 (And.intro a4 a9)));clear a2 a0 a4 a9 a3 a8 E D H C c0 a7;go_wp2_with fail;refine bodyPost_end (results_none rfl _ _ _) rfl ?_;obtain ⟨h1,h2,h3,h4⟩:=J.1;refine ⟨rfl,_,h1.set 0 _,yB h2 (Mod.set (fun k=>k=q) w1 ⟨q,0,none⟩ _ rfl) (fun k hk e=>h3 k hk e),h3,h4.setCell b0 _⟩
theorem jc8 (n:Int):IntKind.u32.wrap n=n % 4294967296:=by simp [IntKind.wrap,IntKind.bits,IntKind.signed]
theorem jiz (n:Nat):le (UInt32.ofNat n).toNat 4=le n 4:=by
 have h:(UInt32.ofNat n).toNat=n % 2 ^ 32:=by show n % 2 ^ 32=_;rfl
 have a0:∀ a b:Nat,a % 256=b % 256→UInt8.ofNat a=UInt8.ofNat b:=fun a b a1=>by
  refine UInt8.toNat_inj.1 ?_;show a % 2 ^ 8=b % 2 ^ 8;exact a1
 rw [h];simp only [le];rw [a0 (n % 2 ^ 32) n (by omega),a0 (n % 2 ^ 32 / 256) (n / 256) (by omega),a0 (n % 2 ^ 32 / 256 / 256) (n / 256 / 256) (by omega),a0 (n % 2 ^ 32 / 256 / 256 / 256) (n / 256 / 256 / 256) (by omega)]
theorem jaE (e:UInt32)(v:Value)(l:List UInt8)(w:World)(hv:Rd w v l.length (l.map V8)) :
  Calls prog 102 #[.int .u32 (I32 e),v] w fun r w'=>r=.returned (.string (SB (xw e.toNat l)))∧Below w.heap.size w w':=by
 obtain ⟨va,vc,rfl⟩:∃ a c,v=.slice a l.length c:=by obtain ⟨a,c,h,_⟩:=hv;exact ⟨a,c,h⟩
 have c3:∀ w,(Instr.makeSlice 92 (.int .i64 0) (.int .i64 16)).run prog w=.ok (.slice (some ⟨w.heap.size,0,none⟩) 0 16) (w.alloc (.cells (madeCells #[.int .u8 0] 16) 5)):=fun w=>run_make_room (P:=prog) 92 5 (.int .u8 0) 1 underlying92 vG rfl .i64 .i64 16 (by omega) (by omega) w
 obtain ⟨lu,a4⟩:=Nm (UInt32.ofNat l.length);have c5:∀ w,(convert 3 87 (.int .i64 (l.length:Int))).run prog w=.ok (.int .u32 (I32 lu)) w:=fun w=>by
  have h1:I32 lu=(l.length:Int) % 4294967296:=by
   rw [a4];show ((l.length % 2 ^ 32:Nat):Int)=_;omega
  rw [run_convert_int (P:=prog) w 3 87 .i64 (l.length:Int) (by kernel_rfl) (by kernel_rfl),show prog.intKind 87=.u32 by kernel_rfl,jc8,h1]
 have b3:le lu.toNat 4=le l.length 4:=by rw [a4];exact jiz _
 obtain ⟨g,hg⟩:=Nm (w.heap.size);obtain ⟨sv,a5⟩:=Nm (SB (xw e.toNat l));rw [← a5];have R:=Hd a5;have Y:=Hd hv;have S:=Hd b3;clear hv a4 b3 a5;have b4:=jr (World.ownsRow_made (base:=w.heap.size) (e:=5) (size:=1) w (madeCells #[.int .u8 0] 16) 16 (Nat.le_refl _) (by unfold maxLen;omega) (by simp [size_madeCells])) (ja _ (.cells #[.slice (some ⟨w.heap.size,0,none⟩) 0 16] 92))
 have a6:=Box.new (w.alloc (.cells (madeCells #[.int .u8 0] 16) 5)) #[.slice (some ⟨w.heap.size,0,none⟩) 0 16] 92;have a7:=jh (ja w (.cells (madeCells #[.int .u8 0] 16) 5)) (ja _ (.cells #[.slice (some ⟨w.heap.size,0,none⟩) 0 16] 92));rw [World.size_alloc] at a6;have h1:=uB w.heap.size (w.heap.size+1) (.slice (some ⟨w.heap.size,0,none⟩) 0 16) [] e _ a6 b4 (fun k hk e=>by simp [Value.ownBlock] at hk;omega) a7.size (Nat.le_succ _) (by simp)
 have T:=Hd h1;have I:=Hd a7;clear b4 a6 a7 h1;go_enter func102,ntmps102;go_wp2_with fail;refine T.1.mono ?_;rintro r w1 ⟨rfl,s1,a8,a9,b0,b5⟩;have C:=Hd (I.1.trans b5);obtain ⟨B,hB⟩:=Nm (w.heap.size);rw [← hB] at a8 a9 b0 C ⊢;have H:=Hd hB;have h2:=uB B (B+1) s1 (le e.toNat 4) lu w1 a8 (by simpa [jG] using a9) b0 (Nat.le_trans (Nat.le_of_eq H.1) C.1.size) (Nat.le_succ _) (by simp [jG])
 have U:=Hd h2;clear a8 a9 b0 b5 T I h2 hB;go_wp2_with fail;refine U.1.mono ?_;rintro r w2 ⟨rfl,s2,b6,b1,b7,b8⟩;rw [S.1] at b1;have D:=Hd (C.1.trans b8);have Q:=Hd (show Below w.heap.size w w2 from by rw [← H.1];exact D.1)
 have A:=Hd (jaO (.slice va l.length vc) l w2 (Y.1.below Q.1));have J:=Hd b6;have K:=Hd b1;have L:=Hd b7;clear b6 b1 b7 b8 U C;go_wp2_with fail;refine A.1.mono ?_;rintro r w3 ⟨rfl,a1⟩;have E:=Hd (D.1.trans (a1.mono (Nat.le_trans (Nat.le_of_eq H.1) D.1.size)));have h3:=uB B (B+1) s2 (le e.toNat 4++le l.length 4) (crc l) w3 (Box.below J.1 a1) (by have:=jr K.1 a1;simpa [jG] using this) L.1 (Nat.le_trans (Nat.le_of_eq H.1) E.1.size) (Nat.le_succ _) (by simp [jG])
 have V:=Hd h3;clear h3 a1 A J K L D;go_wp2_with fail;refine V.1.mono ?_;rintro r w4 ⟨rfl,s4,b2,a0,b9,c0⟩;have F:=Hd (E.1.trans c0);have a0:w4.ownsRow B 5 1 s4 (uS e.toNat l).length ((uS e.toNat l).map V8):=by
  have:=a0;rw [xq]
  simpa [uS,jG] using this
 have c4:=b2.cell 0 _ rfl;have A:=Hd (jaO s4 (uS e.toNat l) w4 (jq a0));have M:=Hd b2;have N:=Hd a0;have O:=Hd b9;clear b2 a0 b9 c0 V E;go_wp2_with fail;refine A.1.mono ?_;rintro r w5 ⟨rfl,a2⟩;have G:=Hd (F.1.trans (a2.mono (Nat.le_trans (Nat.le_of_eq H.1) F.1.size)));have h5:=uB B (B+1) s4 (uS e.toNat l) (crc (uS e.toNat l)) w5 (Box.below M.1 a2) (jr N.1 a2) O.1 (Nat.le_trans (Nat.le_of_eq H.1) G.1.size) (Nat.le_succ _) (by rw [xq];omega)
 have W:=Hd h5;clear h5 a2 A M N O F c4;go_wp2_with fail;refine W.1.mono ?_;rintro r w6 ⟨rfl,s6,c1,a3,_,c2⟩;have X:=Hd (G.1.trans c2);have c6:=c1.cell 0 _ rfl;have a3:w6.ownsRow B 5 1 s6 (xw e.toNat l).length ((xw e.toNat l).map V8):=by
  have:=a3;rw [zo];rw [xq] at this;exact this
 have kc:=vU (xw e.toNat l) (jq a3) rfl;rw [← R.1] at kc;clear c1 a3 c2 W G;go_wp2_with fail;go_ret;exact ⟨rfl,by rw [← H.1];exact X.1⟩
theorem jcI (l:List UInt8)(w:World)(h:4≤l.length)(hl:l.length≤9223372036854775807) :
  Calls prog 120 #[.string (SB l)] w fun e w'=>e=.returned (.int .u32 ((yC l 0:Nat):Int))∧∃ k,w'=w.drewN k:=by
 obtain ⟨c0,a1⟩:=Nm ((l.getD 0 0).toNat);obtain ⟨c1,a2⟩:=Nm ((l.getD 1 0).toNat);obtain ⟨c2,a3⟩:=Nm ((l.getD 2 0).toNat);obtain ⟨c3,a4⟩:=Nm ((l.getD 3 0).toNat);have a0:∀ i:Nat,(l.getD i 0).toNat<256:=fun i=>UInt8.toNat_lt _
 have h0:c0<256:=by rw [a1];exact a0 0
 have h1:c1<256:=by rw [a2];exact a0 1
 have h2:c2<256:=by rw [a3];exact a0 2
 have h3:c3<256:=by rw [a4];exact a0 3
 have i0:∀ w',(Instr.index 9 (.string (SB l)) (.int .i64 0)).run prog w'=.ok (.int .u8 (c0:Int)) w':=fun w'=>by rw [a1];exact xC w' l 0 (by omega)
 have i1:∀ w',(Instr.index 9 (.string (SB l)) (.int .i64 1)).run prog w'=.ok (.int .u8 (c1:Int)) w':=fun w'=>by rw [a2];exact xC w' l 1 (by omega)
 have i2:∀ w',(Instr.index 9 (.string (SB l)) (.int .i64 2)).run prog w'=.ok (.int .u8 (c2:Int)) w':=fun w'=>by rw [a3];exact xC w' l 2 (by omega)
 have i3:∀ w',(Instr.index 9 (.string (SB l)) (.int .i64 3)).run prog w'=.ok (.int .u8 (c3:Int)) w':=fun w'=>by rw [a4];exact xC w' l 3 (by omega)
 have a6:=jkD c0 c1 c2 c3 h0 h1 h2 h3;have a5:c0+256*c1+65536*c2+16777216*c3=yC l 0:=by rw [a1,a2,a3,a4];rfl
 obtain ⟨s,hs⟩:=Nm (yC l 0);rw [a5,← hs] at a6;rw [← hs];clear hs a5 a1 a2 a3 a4 a0;go_enter func120,ntmps120;go_wp2_with fail
 go_quiet (fail)
 go_wp2_with fail;go_ret;exact ⟨rfl,_,rfl⟩
theorem jbY (d:DiskM)(b:Int)(f:Nat)(p:List UInt8)(hp:p ≠ [])(h0:(d.write b (SB (p.take 256))).2=0):jI d b (jA (f+1) p)=jI (d.write b (SB (p.take 256))).1 (b+1) (jA f (p.drop 256)):=by
 rw [jA,if_neg hp,jI,if_pos h0]
theorem jbR (d:DiskM)(b:Int)(f:Nat)(p:List UInt8)(hp:p ≠ [])(h0:(d.write b (SB (p.take 256))).2≠0):jI d b (jA (f+1) p)=d.write b (SB (p.take 256)):=by
 rw [jA,if_neg hp,jI,if_neg h0]
theorem jc0 (d:DiskM)(b:Int)(f:Nat):jI d b (jA f [])=(d,0):=by
 cases f <;> simp [jA,jI]
theorem uq:∀ (f g:Nat) (p:List UInt8),p.length≤f→p.length≤g→jA f p=jA g p
 | 0,g,p,h,_=>by
  have:p = []:=List.eq_nil_of_length_eq_zero (by omega)
  subst this;cases g <;> simp [jA]
 | f+1,0,p,_,h=>by
  have:p = []:=List.eq_nil_of_length_eq_zero (by omega)
  subst this;simp [jA]
 | f+1,g+1,p,h1,h2=>by
  rw [jA,jA]
  split
  · rfl
  ·
   rename_i hp
   have:0<p.length:=List.length_pos_iff.2 hp;rw [uq f g (p.drop 256) (by rw [List.length_drop];omega) (by rw [List.length_drop];omega)]
theorem jf6 {a:Option Addr}{n cap k:Nat}:∀ b,(xE a n cap k).ownBlock=some b→(Value.slice a n cap).ownBlock=some b:=by
 intro b h;unfold xE at h
 split at h
 ·
  cases a with
  | none=>simp [Value.ownBlock] at h
  | some a=>simpa [Value.ownBlock] using h
 ·
  cases a with
  | none=>simp [Value.ownBlock] at h
  | some a =>
   cases a with
   | mk b' o s =>
    have:((⟨b',o,s⟩:Addr).add k).block=b':=by unfold Addr.add;split <;> first | rfl | (split <;> rfl)
    simp only [Option.map_some,Value.ownBlock,this] at h ⊢;exact h
theorem Rd.blk {w:World}{v:Value}{n:Nat}{xs:List Value}(h:Rd w v n xs)(hx:0<xs.length):∀ k,v.ownBlock=some k→k<w.heap.size:=by
 intro k hk;obtain ⟨b,off,cap,rfl,hc⟩:=h.at 0 hx
 simp [Value.ownBlock] at hk
 subst hk;exact uM hc
theorem Rd.mod0 {w w':World}{v:Value}{n:Nat}{xs:List Value}{F:Nat→Prop}(h:Rd w v n xs)(hm:Mod F w w')(hb:0<xs.length→∀ k,v.ownBlock=some k→¬ F k):Rd w' v n xs:=by
 rcases Nat.eq_zero_or_pos xs.length with h0 | h0
 ·
  obtain ⟨a,cap,e,h1,h2,h3,_⟩:=h;exact ⟨a,cap,e,h1,h2,h3,fun j hj=>by omega⟩
 · exact h.mod hm (hb h0)
theorem IsDisk.grow {w w':World}{d:DiskM}{p:Nat}{F:Nat→Prop}(h:IsDisk w d p F)(hb:Below w.heap.size w w'):IsDisk w' d p F:=h.mod (Mod.of_below (F:=fun _=>False) hb) (fun _ _ h=>h)
theorem jhd (d:DiskM)(p:Nat)(F:Nat→Prop)(at_ n:Int)(e:UInt32)(v:Value)(l:List UInt8)(w:World)(h:IsDisk w d p F)(hv:Rd w v l.length (l.map V8))(hx:0<l.length→∀ k,v.ownBlock=some k→¬ F k)(ht:d.trail.length≤90000000000)(ha:I64 at_)(hn:I64 n)(hl:l.length≤140737488355000) :
  Calls prog 76 #[.pointer (some ⟨p,0,none⟩),.int .i64 at_,.int .i64 n,.int .u32 (I32 e),v] w fun r w'=>r=.returned (jo (yv d at_ n e.toNat l).2)∧∃ F',IsDisk w' (yv d at_ n e.toNat l).1 p F'∧Mod F w w'∧∀ k,F' k→F k∨w.heap.size≤k:=by
 obtain ⟨va,vc,rfl⟩:∃ a c,v=.slice a l.length c:=by obtain ⟨a,c,h,_⟩:=hv;exact ⟨a,c,h⟩
 have hN:d.strs.length≤4096:=by obtain ⟨bb,tv,pv,q,h1,h2,h3,h4,h5,_⟩:=h;exact h5
 have e6:F p:=h.cells.1;by_cases hm:zt d.strs.length at_ n
 ·
  have E:=Hd (jdt d p F at_ n w h hm);have K:=Hd h;have S:=Hd hv;have Z:=Hd hx;have c3:=hm;unfold zt at c3;obtain ⟨m1,m2,m3⟩:=c3;have e7:n≤4096:=by omega
  have e8:at_≤4096:=by omega
  by_cases h3:n*256<(l.length:Int)
  ·
   have e1:yv d at_ n e.toNat l=(d,3):=by unfold yv;rw [if_pos hm,if_pos h3]
   rw [e1];clear h hv hx ha hn hN m3 hm e1;go_enter func76,ntmps76;go_wp2_with fail;refine E.1.mono ?_;rintro r w1 ⟨rfl,a0⟩;have H:=Hd a0;clear a0;go_wp2_with fail;go_ret;refine ⟨rfl,F,K.1.mod (Mod.of_below (F:=fun _=>False) (jh H.1 (ja _ _))) (fun _ _ h=>h),Mod.of_below (jh H.1 (ja _ _)),fun k hk=>.inl hk⟩
  ·
   have e9:decide (n*256<(l.length:Int))=false:=by simp;omega
   obtain ⟨fb,b0⟩:=Nm (yL at_ n e.toNat);have c4:yv d at_ n e.toNat l=if (jI d fb (jA l.length l)).2=0 then (jI d fb (jA l.length l)).1.write at_ (SB (xw e.toNat l)) else jI d fb (jA l.length l):=by
    unfold yv;rw [if_pos hm,if_neg h3,b0]
   have L:=Hd c4;obtain ⟨r2,b6⟩:=Nm (e.toNat % 2);have T:=Hd (show l.length≤1048576 by omega)
   have hI:I32 e=(e.toNat:Int):=rfl;have f0:(I32 e).tmod 2=(r2:Int):=by rw [hI,Int.tmod_eq_emod_of_nonneg (by omega)];omega
   have f1:(0:Int)≤(r2:Int):=by omega
   have f2:(r2:Int)<2:=by omega
   have b1:∀ w1:World,(w1.alloc (.cells #[.int .i64 (at_+1),.int .i64 (at_+1+n)] 205)).cell? ⟨w1.heap.size,r2,none⟩=some (.int .i64 fb):=fun w1=>by
    refine (Box.new w1 _ _).cell r2 _ ?_;have:r2=0∨r2=1:=by omega
    rw [b0];unfold yL;rw [← b6]
    rcases this with rfl | rfl
    · simp
    · simp
   have a2:0≤fb∧fb≤10000:=by
    rw [b0];unfold yL;rw [← b6];have:r2=0∨r2=1:=by omega
    rcases this with rfl | rfl <;> simp <;> omega
   have d6:=a2.1;have H0:=Hd a2.2;clear h hv hx ha hn hN m3 hm b0 c4 h3 b6 hI a2;go_enter func76,ntmps76;go_wp2_with fail;refine E.1.mono ?_;rintro r w1 ⟨rfl,a0⟩;have d8:=b1 w1;have H:=Hd a0;clear a0 b1;go_wp2_with fail;have b2:=jh H.1 (ja w1 (.cells #[.int .i64 (at_+1),.int .i64 (at_+1+n)] 205));have c5:∃ (q:List UInt8) (b:Int) (d':DiskM) (F':Nat→Prop),l.length=q.length∧Value.int .i64 fb=.int .i64 b∧(∃ a c,Value.slice va l.length vc=.slice a q.length c)∧Rd (w1.alloc (.cells #[.int .i64 (at_+1),.int .i64 (at_+1+n)] 205)) (.slice va l.length vc) q.length (q.map V8) ∧
     (∀ k,(Value.slice va l.length vc).ownBlock=some k→(Value.slice va l.length vc).ownBlock=some k)∧IsDisk (w1.alloc (.cells #[.int .i64 (at_+1),.int .i64 (at_+1+n)] 205)) d' p F'∧Mod F w (w1.alloc (.cells #[.int .i64 (at_+1),.int .i64 (at_+1+n)] 205))∧(∀ k,F' k→F k∨w.heap.size≤k) ∧
     jI d fb (jA l.length l)=jI d' b (jA q.length q)∧d'.trail.length+q.length≤d.trail.length+l.length∧b+q.length≤fb+l.length∧0≤b∧q.length≤l.length :=
    ⟨l,fb,d,F,rfl,rfl,⟨_,_,rfl⟩,S.1.below b2,fun _ h=>h,K.1.mod (Mod.of_below (F:=fun _=>False) b2) (fun _ _ h=>h),Mod.of_below b2,fun k hk=>.inl hk,rfl,Nat.le_refl _,Int.le_refl _,d6,Nat.le_refl _⟩
   have G:=Hd c5;clear c5 b2 d8 E H;generalize w1.alloc (.cells #[.int .i64 (at_+1),.int .i64 (at_+1+n)] 205)=w2 at G ⊢
   go_loopg [13,14] l.length (fun gk bv rv wr=>∃ (q:List UInt8) (b:Int) (d':DiskM) (F':Nat→Prop),gk=q.length∧bv=.int .i64 b∧(∃ a c,rv=.slice a q.length c)∧Rd wr rv q.length (q.map V8) ∧
     (∀ k,rv.ownBlock=some k→(Value.slice va l.length vc).ownBlock=some k)∧IsDisk wr d' p F'∧Mod F w wr∧(∀ k,F' k→F k∨w.heap.size≤k) ∧
     jI d fb (jA l.length l)=jI d' b (jA q.length q)∧d'.trail.length+q.length≤d.trail.length+l.length∧b+q.length≤fb+l.length∧0≤b∧q.length≤l.length)
   case atStart=>exact G.1
   case round =>
    clear G;obtain ⟨q,b,d',F',c6,rfl,⟨qa,qc,rfl⟩,c7,c8,c9,b7,b8,a1,b9,f3,f4,f5⟩:=hrel;have H1:=Hd c6;have I:=Hd c7;have M:=Hd c8;have N:=Hd c9;have A:=Hd b7;have B:=Hd b8;have D:=Hd a1;have H2:=Hd (show 0<q.length→∀ k,(Value.slice va l.length vc).ownBlock=some k→¬ F' k from fun h0 k hk hf=>by
     rcases b8 k hf with h1 | h1
     · exact Z.1 (by omega) k hk h1
     · have:=S.1.blk (by rw [List.length_map];omega) k hk;omega)
    clear c6 c7 c8 c9 b7 b8 a1;by_cases hq:q.length=0
    ·
     obtain rfl:q = []:=List.eq_nil_of_length_eq_zero hq;have d9:([]:List UInt8).length=0:=rfl;rw [d9];have a1:jI d fb (jA l.length l)=(d',0):=by rw [D.1];exact jc0 _ _ _
     have c0:yv d at_ n e.toNat l=d'.write at_ (SB (xw e.toNat l)):=by rw [L.1,a1,if_pos rfl]
     have U:=Hd c0;have Hh:=Hd (jaE e (.slice va l.length vc) l wr (S.1.mod0 A.1 (fun h0 k hk=>Z.1 (by rw [List.length_map] at h0;exact h0) k hk)))
     have d0:d'.trail.length≤100000000000:=by have:=T.1;omega
     have H3:=Hd d0;clear a1 c0 d0;go_wp2_with fail;refine Hh.1.mono ?_;rintro r w3 ⟨rfl,b3⟩;have C:=Hd (uK d' p F' at_ (SB (xw e.toNat l)) w3 (N.1.grow b3) H3.1 (by rw [SB_size,zo];omega))
     rw [← U.1] at C;have H4:=Hd (A.1.then (Mod.of_below (F:=fun _=>False) b3) (fun _ h=>h.elim))
     have H5:=Hd (Nat.le_trans A.1.size b3.size);clear b3 Hh;go_wp2_with fail;refine C.1.mono ?_;rintro r w4 ⟨rfl,F4,g1,g2,g3⟩;have J:=Hd (show ∃ F',IsDisk w4 (yv d at_ n e.toNat l).1 p F'∧Mod F w w4∧∀ k,F' k→F k∨w.heap.size≤k from ⟨F4,g1,H4.1.then g2 (fun k hk=>B.1 k hk),fun k hk=>by
      rcases g3 k hk with h1 | h1
      · exact B.1 k h1
      · right;have:=H5.1;omega⟩)
     clear g1 g2 g3;go_wp2_with fail;go_ret;exact ⟨rfl,J.1⟩
    ·
     have f6:(0:Int)<(q.length:Int):=by omega
     obtain ⟨k,hk⟩:=Nm (min q.length 256);have f7:∀ ts t w',(Builtin.min_ ts t #[.int .i64 (q.length:Int),.int .i64 256]).run prog w'=.ok (.int .i64 (k:Int)) w':=fun ts t w'=>by
      rw [run_min_int2]
      congr 2
      by_cases h:(256:Int)<(q.length:Int)
      · rw [if_pos h];omega
      · rw [if_neg h];omega
     have d1:k≤q.length:=by omega
     have f8:q.length≤qc:=by obtain ⟨_,_,g1,g2,_⟩:=I.1;injection g1 with _ _ g3;omega
     have f9:=jhl qa q.length qc k (by omega)
     have d7:=jfQ qa q.length qc k d1;have a7:q.take 256=q.take k:=by
      rcases Nat.le_total q.length 256 with h1 | h1
      · rw [List.take_of_length_le h1,List.take_of_length_le (by omega)]
      · rw [show k=256 by omega]
     have d3:q.drop 256=q.drop k:=by
      rcases Nat.le_total q.length 256 with h1 | h1
      · rw [List.drop_eq_nil_of_le h1,List.drop_eq_nil_of_le (by omega)]
      · rw [show k=256 by omega]
     have b9:(q.take k).length=k:=by rw [List.length_take];omega
     have kc:=vU (q.take k) (v:=.slice qa k qc) (n:=k) (w:=wr) (by
      have:=I.1.cut (m:=k) (by omega) k
      rw [← List.map_take] at this;exact this) b9.symm
     have a3:=xD I.1 d1 (by rw [List.length_map];exact Nat.le_refl _)
     have a8:=jf6 (a:=qa) (n:=q.length) (cap:=qc) (k:=k);rw [← List.map_drop] at a3;obtain ⟨ta,d4⟩:=uo qa q.length qc k;rw [d4] at a3 d7 a8;have c1:q.length-k=(q.drop k).length:=by rw [List.length_drop]
     have e3:0<k:=by omega
     have e0:(SB (q.take k)).size≤256:=by rw [SB_size];omega
     have a4:(d'.write b (SB (q.take k))).2=0→jI d fb (jA l.length l)=jI (d'.write b (SB (q.take k))).1 (b+1) (jA (q.drop k).length (q.drop k)):=fun h0=>by
      rw [D.1,show jA q.length q=jA (q.length-1+1) q by rw [Nat.sub_add_cancel (by omega)],jbY _ _ _ _ (fun e=>by rw [e] at hq;exact hq rfl) (by rw [a7];exact h0),a7,d3]
      rw [uq (q.length-1) (q.drop k).length (q.drop k) (by rw [List.length_drop];omega) (Nat.le_refl _)]
     have a5:(d'.write b (SB (q.take k))).2≠0→yv d at_ n e.toNat l=d'.write b (SB (q.take k)):=fun h0=>by
      have:jI d fb (jA l.length l)=d'.write b (SB (q.take k)):=by
       rw [D.1,show jA q.length q=jA (q.length-1+1) q by rw [Nat.sub_add_cancel (by omega)],jbR _ _ _ _ (fun e=>by rw [e] at hq;exact hq rfl) (by rw [a7];exact h0),a7]
      rw [L.1,this,if_neg h0]
     have a9:=(d'.write_trail b (SB (q.take k))).1;have a6:=vm d' b (SB (q.take k));have C:=Hd (uK d' p F' b (SB (q.take k)) wr N.1 (by have:=T.1;omega) (by omega))
     obtain ⟨tx,d5⟩:=Nm (SB (q.take k));obtain ⟨d2,b4⟩:=Nm ((d'.write b tx).1);obtain ⟨er,b5⟩:=Nm ((d'.write b tx).2);rw [← d5] at kc a9 a6 C a4 a5;rw [← b4,← b5] at C a4;rw [← b4] at a9;rw [← b5] at a6 a5;have V:=Hd a4;have W:=Hd a5;have H6:=Hd a3;have O:=Hd a8;have P:=Hd c1;have Q:=Hd (show d2.trail.length+(q.drop k).length≤d.trail.length+l.length∧b+1+((q.drop k).length:Int)≤fb+(l.length:Int) from by rw [← c1];constructor <;> omega)
     have H7:=Hd b4;have H8:=Hd b5;have e4:(k:Int)≤(q.length:Int):=by omega
     have g0:(0:Int)≤(k:Int):=by omega
     have e5:(k:Int)≤(qc:Int):=by omega
     have R:=Hd (show (q.drop k).length<q.length by rw [List.length_drop];omega)
     have a0:b<1000000000:=by have:=T.1;have:=H0.1;omega
     clear a3 a8 c1 a9 a4 a5 b4 b5 a7 d3 b9 e0 d4 d5 hq hk;by_cases h0:er=0
     ·
      rw [h0,show jo 0=.nilIface from rfl] at C
      clear a6;go_wp2_with fail;refine C.1.mono ?_;rintro r w3 ⟨rfl,F3,g1,g2,g3⟩;have J:=Hd (show ∃ F',IsDisk w3 d2 p F'∧Mod F w w3∧(∀ k,F' k→F k∨w.heap.size≤k) from ⟨F3,g1,A.1.then g2 (fun k hk=>B.1 k hk),fun k hk=>by
       rcases g3 k hk with h1 | h1
       · exact B.1 k h1
       · right;have:=A.1.size;omega⟩)
      have X:=Hd (H6.1.mod g2 (fun k hk=>H2.1 (by omega) k (M.1 k (O.1 k hk))))
      clear g1 g2 g3;go_wp2_with fail
      go_roundg (q.drop k).length
      case measure=>have:=R.1;have:=H1.1;omega
      case rel =>
       obtain ⟨F4,g1,g2,g3⟩:=J.1;refine ⟨q.drop k,b+1,d2,F4,rfl,by go_num,⟨_,_,by rw [← P.1]⟩,by rw [← P.1] at *;exact X.1,fun k' e2=>M.1 k' (O.1 k' e2),g1,g2,g3,V.1 h0,Q.1.1,Q.1.2,by omega,by have:=R.1;omega⟩
     ·
      have c2:jo er=.iface 91 (.int .i64 er):=by unfold jo;rw [if_neg h0]
      have Y:=Hd (W.1 h0);rw [c2] at C;have H9:=Hd c2;clear a6 c2;go_wp2_with fail;refine C.1.mono ?_;rintro r w3 ⟨rfl,F3,g1,g2,g3⟩;have J:=Hd (show ∃ F',IsDisk w3 d2 p F'∧Mod F w w3∧(∀ k,F' k→F k∨w.heap.size≤k) from ⟨F3,g1,A.1.then g2 (fun k hk=>B.1 k hk),fun k hk=>by
       rcases g3 k hk with h1 | h1
       · exact B.1 k h1
       · right;have:=A.1.size;omega⟩)
      clear g1 g2 g3;go_wp2_with fail;go_ret;rw [Y.1,← H8.1,← H7.1,H9.1];exact ⟨rfl,J.1⟩
 ·
  have e1:yv d at_ n e.toNat l=(d,1):=by unfold yv;rw [if_neg hm]
  rw [e1];have E:=Hd (jeb d p F at_ n w h hm ha hn);have K:=Hd h;clear h hv hx ha hn hN hm e1;go_enter func76,ntmps76;go_wp2_with fail;refine E.1.mono ?_;rintro r w1 ⟨rfl,a0⟩;have H:=Hd a0;clear a0;go_wp2_with fail;go_ret;refine ⟨rfl,F,K.1.grow (jh H.1 (ja _ _)),Mod.of_below (jh H.1 (ja _ _)),fun k hk=>.inl hk⟩
open Go.RowKit Go.Extern.Stop Go.Stop Go.Extern
def zu (n:Int):Value:=.iface 91 (.int .i64 n)
theorem jhb:(prog.info? 91).map (·.comparable)=some true:=by kernel_rfl
theorem jfF (w:World)(d:Nat)(a b:Int):(Op.equalIn (d+2) 49 (zu a) (zu b)).run prog w=.ok (a==b) w:=by
 obtain ⟨i,hi,hc⟩:=Option.map_eq_some_iff.1 jhb;unfold zu
 simp [Op.equalIn,run_underlying underlying49,run_underlying underlying91,typeInfo,hi,hc]
theorem jjv (w:World)(a b:Int):(binOp .eql 49 (zu a) (zu b)).run prog w=.ok (.bool (a==b)) w:=by
 have h:=jfF w 9998 a b;unfold zu at h ⊢;simp only [binOp]
 simp [Op.equal,Op.maxDepth,h]
theorem jgW (v:Value)(w:World):(Extern.ReflectliteType.typeOf #[.iface 91 v]).run prog w=.ok (.iface 193 (.agg #[.pointer (some ⟨2,91,none⟩)])) w:=by kernel_rfl
def jkU : Array Value → Sem Value := Extern.ReflectliteType.method fun t => do Extern.Rtype.noPackHeld "Comparable" t; pure (.bool (← typeInfo t).comparable)
theorem jdg (w:World):(jkU #[.agg #[.pointer (some ⟨2,91,none⟩)]]).run prog w=.ok (.bool true) w:=by kernel_rfl
theorem jjj (v:Value)(xT:TypeId)(w:World):(Instr.typeAssert (.iface 91 v) xT 195 true).run prog w=.ok (.tuple #[.nilIface,.bool false]) w:=run_typeAssert_lacksB underlying195 (by kernel_rfl) (by kernel_rfl) v xT w
theorem jau (v:Value)(xT:TypeId)(w:World):(Instr.typeAssert (.iface 91 v) xT 198 true).run prog w=.ok (.tuple #[.nilIface,.bool false]) w:=run_typeAssert_lacksB underlying198 (by kernel_rfl) (by kernel_rfl) v xT w
theorem jae (v:Value)(xT:TypeId)(w:World):(Instr.typeAssert (.iface 91 v) xT 200 true).run prog w=.ok (.tuple #[.nilIface,.bool false]) w:=run_typeAssert_lacksB underlying200 (by kernel_rfl) (by kernel_rfl) v xT w
theorem jhG (a b:Int)(w:World):Calls prog 74 #[zu a,zu b,.bool true] w fun e w'=>e=.returned (.bool (a==b))∧w'=w:=by
 have nI:=jjj;have nU:=jau;have nV:=jae;have a0:=jjv w a b;unfold zu at a0 ⊢
 cases hab:(a==b) with
 | true =>
  rw [hab] at a0;clear hab;go_enter func74,ntmps74
  go_wp2
  refine wp_loop_rounds 1 ?_;rw [rounds_succ]
  go_wp2
  go_ret;exact ⟨rfl,rfl⟩
 | false =>
  rw [hab] at a0;clear hab;go_enter func74,ntmps74
  go_wp2
  refine wp_loop_rounds 1 ?_;rw [rounds_succ]
  go_wp2
  go_ret;exact ⟨rfl,rfl⟩
theorem jcx (a b:Int)(w:World):Calls prog 40 #[zu a,zu b] w fun e w'=>e=.returned (.bool (a==b))∧w'=w:=by
 have h8:=@run_callFunc_extern prog 73 _ Extern.ReflectliteType.typeOf func73 (by kernel_rfl) (by kernel_rfl) (by kernel_rfl) (by kernel_rfl)
 have a1:=@run_callFunc_extern prog 231 _ jkU func231 (by kernel_rfl) (by kernel_rfl) (by kernel_rfl) (by kernel_rfl)
 have tT:=jgW;have cT:=jdg;have a0:=jhG a b w;unfold zu at a0 ⊢;have H:=Hd a0;clear a0;go_enter func40,ntmps40;go_wp2_with fail;refine H.1.mono ?_;rintro e w' ⟨rfl,rfl⟩;go_wp2_with fail;go_ret;exact ⟨rfl,rfl⟩
theorem jj5 (w:World):Calls prog 42 #[.nilIface] w fun e w'=>e=.returned (.int .i64 0)∧w'=w:=by
 go_enter func42,ntmps42;go_wp2_with fail;go_ret;exact ⟨rfl,rfl⟩
theorem jir (n:Nat)(w:World)(h1:1≤n)(h2:n≤24):Calls prog 42 #[zu n] w fun e w'=>e=.returned (.int .i64 (n:Int))∧w'=w:=by
 have hi:=fun b=>jcx (n:Int) b w
 unfold zu at hi ⊢;have H:=Hd hi;clear hi;go_enter func42,ntmps42;go_wp2_with fail
 go_loop [3,4] (fun f i=>∃ k:Nat,1≤k∧k≤25∧i=.int .i64 k∧((n<k∧f=.int .i64 n)∨(k≤n∧f=.int .i64 0))) (fun _ i=>25-(intOf i).toNat)
 case atStart=>exact ⟨1,by omega,by omega,rfl,.inr ⟨h1,rfl⟩⟩
 case round =>
  obtain ⟨k,a1,a2,rfl,hf⟩:=hrel;by_cases hk:k<25
  ·
   have a0:k≤24:=by omega
   have hc:(n<k∧((n:Int)==(k:Int))=false)∨(n=k)∨(k<n∧((n:Int)==(k:Int))=false):=by
    rcases Nat.lt_trichotomy n k with h | h | h
    · exact .inl ⟨h,by rw [beq_eq_false_iff_ne];omega⟩
    · exact .inr (.inl h)
    · exact .inr (.inr ⟨h,by rw [beq_eq_false_iff_ne];omega⟩)
   rcases hc with ⟨a3,hb⟩ | rfl | ⟨a4,hb⟩
   ·
    rcases hf with ⟨_,rfl⟩ | ⟨h,rfl⟩
    ·
     go_wp2_with fail;refine (H.1 (k:Int)).mono ?_;rintro e w' ⟨rfl,rfl⟩;go_wp2_with fail
     go_round
     case rel=>exact ⟨k+1,by omega,by omega,by go_num,.inl ⟨by omega,rfl⟩⟩
     case measure=>simp [intOf];omega
    · omega
   ·
    rcases hf with ⟨h,rfl⟩ | ⟨_,rfl⟩
    · omega
    ·
     have hb:((n:Int)==(n:Int))=true:=by rw [beq_iff_eq]
     go_wp2_with fail;refine (H.1 (n:Int)).mono ?_;rintro e w' ⟨rfl,rfl⟩;go_wp2_with fail
     go_round
     case rel=>exact ⟨n+1,by omega,by omega,by go_num,.inl ⟨by omega,rfl⟩⟩
     case measure=>simp [intOf];omega
   ·
    rcases hf with ⟨h,rfl⟩ | ⟨_,rfl⟩
    · omega
    ·
     go_wp2_with fail;refine (H.1 (k:Int)).mono ?_;rintro e w' ⟨rfl,rfl⟩;go_wp2_with fail
     go_round
     case rel=>exact ⟨k+1,by omega,by omega,by go_num,.inr ⟨by omega,rfl⟩⟩
     case measure=>simp [intOf];omega
  ·
   obtain rfl:k=25:=by omega
   rcases hf with ⟨_,rfl⟩ | ⟨h,rfl⟩
   ·
    have a5:((n:Int)==0)=false:=by rw [beq_eq_false_iff_ne];omega
    have a6:(n==0)=false:=by rw [beq_eq_false_iff_ne];omega
    go_wp2_with fail;refine (H.1 0).mono ?_;rintro e w' ⟨rfl,rfl⟩;go_wp2_with fail;go_ret;exact ⟨rfl,rfl⟩
   · omega
end Go.Proofs.YtgcnolapjppbpaaGreatDoor
