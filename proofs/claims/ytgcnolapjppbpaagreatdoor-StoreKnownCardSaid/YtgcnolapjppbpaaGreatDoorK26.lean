/- Texts of one proof. -/
import Derived.Test.YtgcnolapjppbpaaGreatDoorK24
import Derived.Test.YtgcnolapjppbpaaGreatDoorK25
namespace Go.Proofs.YtgcnolapjppbpaaGreatDoor
open Go.RowKit _root_.Go.Proofs.Tryz
set_option maxRecDepth 100000
set_option maxHeartbeats 25600000
variable {w w':World}{n ps pd:Nat}{v lv:Value}{xs:List Value}{F:Nat->Prop}{d:DiskM}{ep:UInt32}{b:Bool}
theorem yV {b:Nat}{cs:Array Value}{t:TypeId}(h:Box w b cs t):w.rangeAt b 0 cs.toList:=fun j v hv=>by
 rw [qA];exact h.cell j v (by rw [<- Array.getElem?_toList];exact hv)
theorem jfF (d:DiskM)(p:Nat)(F:Nat->Prop)(at_ n:Int)(w:World)(h:IsDisk w d p F)(hm:¬ xp d.strs.length at_ n)(ha:I64 at_)(hn:I64 n) :
  Calls prog 101 #[.pointer (some ⟨p,0,none⟩),at_,n] w fun e w'=>e=.returned (.tuple #[.agg #[(0:Int),(0:Int)],.bool false])/\Below w.heap.size w w':=by
 obtain ⟨a2,a3⟩:=ha;obtain ⟨a4,a5⟩:=hn;have hN:d.strs.length<=4096:=by obtain ⟨bb,tv,pv,q,h1,h2,h3,h4,h5,_⟩:=h;exact h5
 obtain ⟨N,a1⟩:=Nm (d.strs.length);have A:=Hd (ja w (.cells #[(0:Int),(0:Int)] 205));have a0:=zp d p F (w.alloc (.cells #[(0:Int),(0:Int)] 205)) (h.mod (Mod.of_below (F:=fun _=>False) (ja w _)) (fun _ _ h=>h))
 rw [<- a1] at a0 hN hm;have H:=Hd a0;unfold xp at hm;clear h a1 a0;by_cases c1:at_<0
 .
  go_enter func101,ntmps101;go_wp2_with fail;refine H.1.mono ?_;rintro r w1 ⟨rfl,rfl⟩;go_wp2;exact Jt (yV (Box.new _ _ _)) underlying205 ⟨rfl,A.1⟩ (cs := [.int .i64 0,.int .i64 0])
 have c1':decide (at_<0)=false:=by simpa using c1
 by_cases c2:n<1
 .
  go_enter func101,ntmps101;go_wp2_with fail;refine H.1.mono ?_;rintro r w1 ⟨rfl,rfl⟩;go_wp2;exact Jt (yV (Box.new _ _ _)) underlying205 ⟨rfl,A.1⟩ (cs := [.int .i64 0,.int .i64 0])
 have c2':decide (n<1)=false:=by simpa using c2
 by_cases c3:(N:Int)<at_
 .
  go_enter func101,ntmps101;go_wp2_with fail;refine H.1.mono ?_;rintro r w1 ⟨rfl,rfl⟩;go_wp2;exact Jt (yV (Box.new _ _ _)) underlying205 ⟨rfl,A.1⟩ (cs := [.int .i64 0,.int .i64 0])
 have c3':decide ((N:Int)<at_)=false:=by simpa using c3
 by_cases c4:(N:Int)<n
 .
  go_enter func101,ntmps101;go_wp2_with fail;refine H.1.mono ?_;rintro r w1 ⟨rfl,rfl⟩;go_wp2;exact Jt (yV (Box.new _ _ _)) underlying205 ⟨rfl,A.1⟩ (cs := [.int .i64 0,.int .i64 0])
 have c4':decide ((N:Int)<n)=false:=by simpa using c4
 have c5:(N:Int)<at_+1+2*n:=by omega
 go_enter func101,ntmps101;go_wp2_with fail;refine H.1.mono ?_;rintro r w1 ⟨rfl,rfl⟩;go_wp2;exact Jt (yV (Box.new _ _ _)) underlying205 ⟨rfl,A.1⟩ (cs := [.int .i64 0,.int .i64 0])
theorem jdZ (d:DiskM)(p:Nat)(F:Nat->Prop)(at_ n:Int)(w:World)(h:IsDisk w d p F)(hm:xp d.strs.length at_ n) :
  Calls prog 101 #[.pointer (some ⟨p,0,none⟩),at_,n] w fun e w'=>e=.returned (.tuple #[.agg #[(at_+1:Int),(at_+1+n:Int)],.bool true])/\Below w.heap.size w w':=by
 have hN:d.strs.length<=4096:=by obtain ⟨bb,tv,pv,q,h1,h2,h3,h4,h5,_⟩:=h;exact h5
 obtain ⟨N,a1⟩:=Nm (d.strs.length);have a0:=zp d p F (w.alloc (.cells #[(0:Int),(0:Int)] 205)) (h.mod (Mod.of_below (F:=fun _=>False) (ja w _)) (fun _ _ h=>h))
 rw [<- a1] at a0 hN hm;have H:=Hd a0;unfold xp at hm;obtain ⟨m1,m2,m3⟩:=hm;clear h a1 a0;have c1':decide (at_<0)=false:=by simp;omega
 have c2':decide (n<1)=false:=by simp;omega
 have c3':decide ((N:Int)<at_)=false:=by simp;omega
 have c4':decide ((N:Int)<n)=false:=by simp;omega
 have c5':decide ((N:Int)<at_+1+2*n)=false:=by simp;omega
 go_enter func101,ntmps101;go_wp2_with fail;refine H.1.mono ?_;rintro r w1 ⟨rfl,rfl⟩;go_wp2;exact Jt (yV (Box.new _ _ _)) underlying205 ⟨rfl,ja _ _⟩ (cs := [.int .i64 (at_+1),.int .i64 (at_+1+n)])
theorem jfK (w:World)(cs:Array Value)(t:TypeId)(xs:List Value)(h:cs.toList=xs):∀ j u,xs[j]?=some u->(w.alloc (.cells cs t)).cell? ((⟨w.heap.size,0,none⟩:Addr).add j)=some u:=by
 intro j u hj;rw [wY,qA];refine (Box.new w cs t).cell j u ?_;rw [<- Array.getElem?_toList,h];exact hj
theorem jlq (l:List UInt8):∀ u∈l.map V8,u.oneCell'=true:=by
 intro u hu;obtain ⟨c,_,rfl⟩:=pY.1 hu
 simp [V8,Value.oneCell']
theorem jaD (B q:Nat)(sv:Value)(xs:List UInt8)(m:UInt32)(w:World)(hq:Box w q #[sv] 92)(ho:w.ownsRow B 5 1 sv xs.length (xs.map V8))(a5:∀ k,sv.ownBlock=some k->k≠q)(hB:B<=w.heap.size)(b0:B<=q)(hx:xs.length<=1000) :
  Calls prog 136 #[.int .u32 (I32 m),.pointer (some ⟨q,0,none⟩)] w fun e w'=>e=.returned (.tuple #[])/\∃ sv',Box w' q #[sv'] 92/\w'.ownsRow B 5 1 sv' (xs.length+4) ((xs++le m.toNat 4).map V8)/\(∀ k,sv'.ownBlock=some k->k≠q)/\Below B w w':=by
 obtain ⟨sa,sc,rfl,_⟩:=jP ho;have c0:=hq.cell 0 _ rfl;have I:=Hd (by rw [jhA];rfl:(#[.int .u8 (I32 m % 256),.int .u8 (I32 m / 256 % 256),.int .u8 (I32 m / 65536 % 256),.int .u8 (I32 m / 16777216 % 256)]:Array Value).toList=(le m.toNat 4).map V8)
 have a1:=fun ob=>ja w ob
 have E:=Hd (fun ob=>Box.below hq (a1 ob))
 have D:=Hd (fun ob=>jq ho (a1 ob))
 have H:=Hd a5;have A:=Hd (fun ob=>qi hB (a1 ob).size)
 have C:=Hd (fun ob=>(a1 ob).mono hB)
 have a7:=hq.lt;have G:=Hd a7;clear hq ho a5 a1;go_enter func136,ntmps136
 go_wp2_with (at_builtin;refine jmH rfl _ _ rfl B _ _ _ rfl (D.1 _) ⟨w.heap.size,0,none⟩ 4 4 _ rfl (by rw [qE,jC]) (jfK _ _ _ _ I.1) (jlq _) (by omega) (A.1 _) ?_)
 intro v' w1 a0 a3 a8;have a2:=Box.mod (E.1 _) (Mod.of_grown (F:=fun k=>(Value.slice sa xs.length sc).ownBlock=some k) a3 (fun _ h=>h)) (fun e=>H.1 _ e rfl)
 have c1:=a2.cell 0 _ rfl;have f1:=a2.free 0;have a4:∀ k,v'.ownBlock=some k->k≠q:=fun k hk e=>by
  rcases a8 with h | h
  . rw [h] at hk;exact H.1 k hk e
  . rw [h] at hk;injection hk with hk;have:=G.1;rw [qj] at hk;omega
 have a9:=(C.1 (.cells #[.int .u8 (I32 m % 256),.int .u8 (I32 m / 256 % 256),.int .u8 (I32 m / 65536 % 256),.int .u8 (I32 m / 16777216 % 256)] 5)).trans (je a3 (A.1 _) (fun k hk=>((D.1 (.cells #[] 5)).lt k hk).1))
 rw [<- qM] at a0;obtain ⟨na,nc,rfl,_⟩:=jP a0;have J:=Hd (And.intro a2 (And.intro a0 (And.intro a4 a9)));clear a2 a0 a4 a9 a3 a8 E D H C c0 a7;go_wp2;refine pE (wZ rfl _ _ _) rfl ?_;obtain ⟨h1,h2,h3,h4⟩:=J.1;refine ⟨rfl,_,h1.set 0 _,yG h2 (Mod.set (fun k=>k=q) w1 ⟨q,0,none⟩ _ rfl) (fun k hk e=>h3 k hk e),h3,h4.setCell b0 _⟩
theorem jdI (n:Int):IntKind.u32.wrap n=n % 4294967296:=by simp [IntKind.wrap,IntKind.bits,IntKind.signed]
theorem jll (n:Nat):le (UInt32.ofNat n).toNat 4=le n 4:=by
 have h:(UInt32.ofNat n).toNat=n % 2 ^ 32:=by show n % 2 ^ 32=_;rfl
 have a0:∀ a b:Nat,a % 256=b % 256->UInt8.ofNat a=UInt8.ofNat b:=fun a b a1=>by
  refine UInt8.toNat_inj.1 ?_;show a % 2 ^ 8=b % 2 ^ 8;exact a1
 rw [h];simp only [le];rw [a0 (n % 2 ^ 32) n (by omega),a0 (n % 2 ^ 32 / 256) (n / 256) (by omega),a0 (n % 2 ^ 32 / 256 / 256) (n / 256 / 256) (by omega),a0 (n % 2 ^ 32 / 256 / 256 / 256) (n / 256 / 256 / 256) (by omega)]
theorem jbl (e:UInt32)(v:Value)(l:List UInt8)(w:World)(hv:Rd w v l.length (l.map V8)) :
  Calls prog 102 #[.int .u32 (I32 e),v] w fun r w'=>r=.returned (.string (SB (yR e.toNat l)))/\Below w.heap.size w w':=by
 obtain ⟨va,vc,rfl⟩:∃ a c,v=.slice a l.length c:=by obtain ⟨a,c,h,_⟩:=hv;exact ⟨a,c,h⟩
 have c3:∀ w,(Instr.makeSlice 92 (0:Int) (16:Int)).run prog w=.ok (.slice (some ⟨w.heap.size,0,none⟩) 0 16) (w.alloc (.cells (madeCells #[.int .u8 0] 16) 5)):=fun w=>run_make_room (P:=prog) 92 5 (.int .u8 0) 1 underlying92 uE rfl .i64 .i64 16 (by omega) (by omega) w
 obtain ⟨lu,a4⟩:=Nm (UInt32.ofNat l.length);have c5:∀ w,(convert 3 87 (l.length:Int)).run prog w=.ok (.int .u32 (I32 lu)) w:=fun w=>by
  have h1:I32 lu=(l.length:Int) % 4294967296:=by
   rw [a4];show ((l.length % 2 ^ 32:Nat):Int)=_;omega
  rw [run_convert_int (P:=prog) w 3 87 .i64 (l.length:Int) (by kernel_rfl) (by kernel_rfl),show prog.intKind 87=.u32 by kernel_rfl,jdI,h1]
 have S:=Hd (show le lu.toNat 4=le l.length 4 by rw [a4];exact jll _)
 obtain ⟨g,hg⟩:=Nm (w.heap.size);obtain ⟨sv,a5⟩:=Nm (SB (yR e.toNat l));rw [<- a5];have R:=Hd a5;have Y:=Hd hv;clear hv a4 a5;have b4:=jq (World.ownsRow_made (base:=w.heap.size) (e:=5) (size:=1) w (madeCells #[.int .u8 0] 16) 16 (qm _) (by unfold maxLen;omega) (by simp [size_madeCells])) (ja _ (.cells #[.slice (some ⟨w.heap.size,0,none⟩) 0 16] 92))
 have a6:=Box.new (w.alloc (.cells (madeCells #[.int .u8 0] 16) 5)) #[.slice (some ⟨w.heap.size,0,none⟩) 0 16] 92;have a7:=jd (ja w (.cells (madeCells #[.int .u8 0] 16) 5)) (ja _ (.cells #[.slice (some ⟨w.heap.size,0,none⟩) 0 16] 92));rw [qj] at a6;have T:=Hd (jaD w.heap.size (w.heap.size+1) (.slice (some ⟨w.heap.size,0,none⟩) 0 16) [] e _ a6 b4 (fun k hk e=>by simp [Value.ownBlock] at hk;omega) a7.size (wE _) (by simp))
 have I:=Hd a7;clear b4 a6 a7;go_enter func102,ntmps102;go_wp2_with fail;refine T.1.mono ?_;rintro r w1 ⟨rfl,s1,a8,a9,b0,b5⟩;have C:=Hd (I.1.trans b5);obtain ⟨B,hB⟩:=Nm (w.heap.size);rw [<- hB] at a8 a9 b0 C |-;have H:=Hd hB;have U:=Hd (jaD B (B+1) s1 (le e.toNat 4) lu w1 a8 (by simpa [jC] using a9) b0 (qi (qS H.1) C.1.size) (wE _) (by simp [jC]))
 clear a8 a9 b0 b5 T I hB;go_wp2_with fail;refine U.1.mono ?_;rintro r w2 ⟨rfl,s2,b6,b1,b7,b8⟩;rw [S.1] at b1;have D:=Hd (C.1.trans b8);have Q:=Hd (show Below w.heap.size w w2 from by rw [<- H.1];exact D.1)
 have A:=Hd (jbv (.slice va l.length vc) l w2 (Y.1.below Q.1));have J:=Hd b6;have K:=Hd b1;have L:=Hd b7;clear b6 b1 b7 b8 U C;go_wp2_with fail;refine A.1.mono ?_;rintro r w3 ⟨rfl,a1⟩;have E:=Hd (D.1.trans (a1.mono (qi (qS H.1) D.1.size)));have V:=Hd (jaD B (B+1) s2 (le e.toNat 4++le l.length 4) (crc l) w3 (Box.below J.1 a1) (by have:=jq K.1 a1;simpa [jC] using this) L.1 (qi (qS H.1) E.1.size) (wE _) (by simp [jC]))
 clear a1 A J K L D;go_wp2_with fail;refine V.1.mono ?_;rintro r w4 ⟨rfl,s4,b2,a0,b9,c0⟩;have F:=Hd (E.1.trans c0);have a0:w4.ownsRow B 5 1 s4 (vP e.toNat l).length ((vP e.toNat l).map V8):=by
  have:=a0;rw [xD]
  simpa [vP,jC] using this
 have c4:=b2.cell 0 _ rfl;have A:=Hd (jbv s4 (vP e.toNat l) w4 (js a0));have M:=Hd b2;have N:=Hd a0;have O:=Hd b9;clear b2 a0 b9 c0 V E;go_wp2_with fail;refine A.1.mono ?_;rintro r w5 ⟨rfl,a2⟩;have G:=Hd (F.1.trans (a2.mono (qi (qS H.1) F.1.size)));have W:=Hd (jaD B (B+1) s4 (vP e.toNat l) (crc (vP e.toNat l)) w5 (Box.below M.1 a2) (jq N.1 a2) O.1 (qi (qS H.1) G.1.size) (wE _) (by rw [xD];omega))
 clear a2 A M N O F c4;go_wp2_with fail;refine W.1.mono ?_;rintro r w6 ⟨rfl,s6,c1,a3,_,c2⟩;have X:=Hd (G.1.trans c2);have c6:=c1.cell 0 _ rfl;have a3:w6.ownsRow B 5 1 s6 (yR e.toNat l).length ((yR e.toNat l).map V8):=by
  have:=a3;rw [yY];rw [xD] at this;exact this
 have kc:=uP (yR e.toNat l) (js a3) rfl;rw [<- R.1] at kc;clear c1 a3 c2 W G;go_wp2;go_ret;exact ⟨rfl,by rw [<- H.1];exact X.1⟩
theorem jdQ (l:List UInt8)(w:World)(h:4<=l.length)(hl:l.length<=9223372036854775807) :
  Calls prog 120 #[.string (SB l)] w fun e w'=>e=.returned (.int .u32 ((yA l 0:Nat):Int))/\∃ k,w'=w.drewN k:=by
 obtain ⟨c0,a1⟩:=Nm ((l.getD 0 0).toNat);obtain ⟨c1,a2⟩:=Nm ((l.getD 1 0).toNat);obtain ⟨c2,a3⟩:=Nm ((l.getD 2 0).toNat);obtain ⟨c3,a4⟩:=Nm ((l.getD 3 0).toNat);have a0:∀ i:Nat,(l.getD i 0).toNat<256:=fun i=>ka _
 have h0:c0<256:=by rw [a1];exact a0 0
 have h1:c1<256:=by rw [a2];exact a0 1
 have h2:c2<256:=by rw [a3];exact a0 2
 have h3:c3<256:=by rw [a4];exact a0 3
 have i0:∀ w',(Instr.index 9 (.string (SB l)) (0:Int)).run prog w'=.ok (.int .u8 (c0:Int)) w':=fun w'=>by rw [a1];exact xL w' l 0 (by omega)
 have i1:∀ w',(Instr.index 9 (.string (SB l)) (1:Int)).run prog w'=.ok (.int .u8 (c1:Int)) w':=fun w'=>by rw [a2];exact xL w' l 1 (by omega)
 have i2:∀ w',(Instr.index 9 (.string (SB l)) (2:Int)).run prog w'=.ok (.int .u8 (c2:Int)) w':=fun w'=>by rw [a3];exact xL w' l 2 (by omega)
 have i3:∀ w',(Instr.index 9 (.string (SB l)) (3:Int)).run prog w'=.ok (.int .u8 (c3:Int)) w':=fun w'=>by rw [a4];exact xL w' l 3 (by omega)
 have a6:=jm6 c0 c1 c2 c3 h0 h1 h2 h3;have a5:c0+256*c1+65536*c2+16777216*c3=yA l 0:=by rw [a1,a2,a3,a4];rfl
 obtain ⟨s,hs⟩:=Nm (yA l 0);rw [a5,<- hs] at a6;rw [<- hs];clear hs a5 a1 a2 a3 a4 a0;go_enter func120,ntmps120;go_wp2
 go_quiet (fail)
 go_wp2;go_ret;exact ⟨rfl,_,rfl⟩
theorem jcI (d:DiskM)(b:Int)(f:Nat)(p:List UInt8)(hp:p ≠ [])(h0:(d.write b (SB (p.take 256))).2=0):jr d b (jk (f+1) p)=jr (d.write b (SB (p.take 256))).1 (b+1) (jk f (p.drop 256)):=by
 rw [jk,qh hp,jr,qf h0]
theorem jcv (d:DiskM)(b:Int)(f:Nat)(p:List UInt8)(hp:p ≠ [])(h0:(d.write b (SB (p.take 256))).2≠0):jr d b (jk (f+1) p)=d.write b (SB (p.take 256)):=by
 rw [jk,qh hp,jr,qh h0]
theorem jen (d:DiskM)(b:Int)(f:Nat):jr d b (jk f [])=(d,0):=by
 cases f <;> simp [jk,jr]
theorem jat:∀ (f g:Nat) (p:List UInt8),p.length<=f->p.length<=g->jk f p=jk g p
 | 0,g,p,h,_=>by
  have:p = []:=qw (by omega)
  subst this;cases g <;> simp [jk]
 | f+1,0,p,_,h=>by
  have:p = []:=qw (by omega)
  subst this;simp [jk]
 | f+1,g+1,p,h1,h2=>by
  rw [jk,jk]
  split
  . rfl
  .
   rename_i hp
   have:0<p.length:=pW.2 hp;rw [jat f g (p.drop 256) (by rw [qn];omega) (by rw [qn];omega)]
theorem jhG {a:Option Addr}{cap k:Nat}:∀ b,(xP a n cap k).ownBlock=some b->(Value.slice a n cap).ownBlock=some b:=by
 intro b h;unfold xP at h
 split at h
 .
  cases a with
  | none=>simp [Value.ownBlock] at h
  | some a=>simpa [Value.ownBlock] using h
 .
  cases a with
  | none=>simp [Value.ownBlock] at h
  | some a =>
   cases a with
   | mk b' o s =>
    have:((⟨b',o,s⟩:Addr).add k).block=b':=by unfold Addr.add;split <;> first | rfl | (split <;> rfl)
    simp only [pN,Value.ownBlock,this] at h |-;exact h
theorem Rd.blk (h:Rd w v n xs)(hx:0<xs.length):∀ k,v.ownBlock=some k->k<w.heap.size:=by
 intro k hk;obtain ⟨b,off,cap,rfl,hc⟩:=h.at 0 hx
 simp [Value.ownBlock] at hk
 subst hk;exact jaE hc
theorem Rd.mod0 (h:Rd w v n xs)(hm:Mod F w w')(hb:0<xs.length->∀ k,v.ownBlock=some k->¬ F k):Rd w' v n xs:=by
 rcases ky xs.length with h0 | h0
 .
  obtain ⟨a,cap,e,h1,h2,h3,_⟩:=h;exact ⟨a,cap,e,h1,h2,h3,fun j hj=>by omega⟩
 . exact h.mod hm (hb h0)
theorem IsDisk.grow {p:Nat}(h:IsDisk w d p F)(hb:Below w.heap.size w w'):IsDisk w' d p F:=h.mod (Mod.of_below (F:=fun _=>False) hb) (fun _ _ h=>h)
theorem jiN (d:DiskM)(p:Nat)(F:Nat->Prop)(at_ n:Int)(e:UInt32)(v:Value)(l:List UInt8)(w:World)(h:IsDisk w d p F)(hv:Rd w v l.length (l.map V8))(hx:0<l.length->∀ k,v.ownBlock=some k->¬ F k)(ht:d.trail.length<=90000000000)(ha:I64 at_)(hn:I64 n)(hl:l.length<=140737488355000) :
  Calls prog 76 #[.pointer (some ⟨p,0,none⟩),at_,n,.int .u32 (I32 e),v] w fun r w'=>r=.returned (jm (jR d at_ n e.toNat l).2)/\∃ F',IsDisk w' (jR d at_ n e.toNat l).1 p F'/\Mod F w w'/\∀ k,F' k->F k\/w.heap.size<=k:=by
 obtain ⟨va,vc,rfl⟩:∃ a c,v=.slice a l.length c:=by obtain ⟨a,c,h,_⟩:=hv;exact ⟨a,c,h⟩
 have hN:d.strs.length<=4096:=by obtain ⟨bb,tv,pv,q,h1,h2,h3,h4,h5,_⟩:=h;exact h5
 have e6:F p:=h.cells.1;by_cases hm:xp d.strs.length at_ n
 .
  have E:=Hd (jdZ d p F at_ n w h hm);have K:=Hd h;have S:=Hd hv;have Z:=Hd hx;have c3:=hm;unfold xp at c3;obtain ⟨m1,m2,m3⟩:=c3;have e7:n<=4096:=by omega
  have e8:at_<=4096:=by omega
  by_cases h3:n*256<(l.length:Int)
  .
   have e1:jR d at_ n e.toNat l=(d,3):=by unfold jR;rw [qf hm,qf h3]
   rw [e1];clear h hv hx ha hn hN m3 hm e1;go_enter func76,ntmps76;go_wp2_with fail;refine E.1.mono ?_;rintro r w1 ⟨rfl,a0⟩;have H:=Hd a0;clear a0;go_wp2;go_ret;refine ⟨rfl,F,K.1.mod (Mod.of_below (F:=fun _=>False) (jd H.1 (ja _ _))) (fun _ _ h=>h),Mod.of_below (jd H.1 (ja _ _)),fun k hk=>.inl hk⟩
  .
   have e9:decide (n*256<(l.length:Int))=false:=by simp;omega
   obtain ⟨fb,b0⟩:=Nm (jF at_ n e.toNat);have c4:jR d at_ n e.toNat l=if (jr d fb (jk l.length l)).2=0 then (jr d fb (jk l.length l)).1.write at_ (SB (yR e.toNat l)) else jr d fb (jk l.length l):=by
    unfold jR;rw [qf hm,qh h3,b0]
   have L:=Hd c4;obtain ⟨r2,b6⟩:=Nm (e.toNat % 2);have T:=Hd (show l.length<=1048576 by omega)
   have hI:I32 e=(e.toNat:Int):=rfl;have f0:(I32 e).tmod 2=(r2:Int):=by rw [hI,kw (by omega)];omega
   have f1:(0:Int)<=(r2:Int):=by omega
   have f2:(r2:Int)<2:=by omega
   have b1:∀ w1:World,(w1.alloc (.cells #[(at_+1:Int),(at_+1+n:Int)] 205)).cell? ⟨w1.heap.size,r2,none⟩=some (.int .i64 fb):=fun w1=>by
    refine (Box.new w1 _ _).cell r2 _ ?_;have:r2=0\/r2=1:=by omega
    rw [b0];unfold jF;rw [<- b6]
    rcases this with rfl | rfl
    . simp
    . simp
   have a2:0<=fb/\fb<=10000:=by
    rw [b0];unfold jF;rw [<- b6];have:r2=0\/r2=1:=by omega
    rcases this with rfl | rfl <;> simp <;> omega
   have d6:=a2.1;have H0:=Hd a2.2;clear h hv hx ha hn hN m3 hm b0 c4 h3 b6 hI a2;go_enter func76,ntmps76;go_wp2_with fail;refine E.1.mono ?_;rintro r w1 ⟨rfl,a0⟩;have d8:=b1 w1;have H:=Hd a0;clear a0 b1;go_wp2_with fail;have b2:=jd H.1 (ja w1 (.cells #[(at_+1:Int),(at_+1+n:Int)] 205));have c5:∃ (q:List UInt8) (b:Int) (d':DiskM) (F':Nat->Prop),l.length=q.length/\Value.int .i64 fb=.int .i64 b/\(∃ a c,Value.slice va l.length vc=.slice a q.length c)/\Rd (w1.alloc (.cells #[(at_+1:Int),(at_+1+n:Int)] 205)) (.slice va l.length vc) q.length (q.map V8) /\
     (∀ k,(Value.slice va l.length vc).ownBlock=some k->(Value.slice va l.length vc).ownBlock=some k)/\IsDisk (w1.alloc (.cells #[(at_+1:Int),(at_+1+n:Int)] 205)) d' p F'/\Mod F w (w1.alloc (.cells #[(at_+1:Int),(at_+1+n:Int)] 205))/\(∀ k,F' k->F k\/w.heap.size<=k) /\
     jr d fb (jk l.length l)=jr d' b (jk q.length q)/\d'.trail.length+q.length<=d.trail.length+l.length/\b+q.length<=fb+l.length/\0<=b/\q.length<=l.length :=
    ⟨l,fb,d,F,rfl,rfl,⟨_,_,rfl⟩,S.1.below b2,fun _ h=>h,K.1.mod (Mod.of_below (F:=fun _=>False) b2) (fun _ _ h=>h),Mod.of_below b2,fun k hk=>.inl hk,rfl,qm _,Int.le_refl _,d6,qm _⟩
   have G:=Hd c5;clear c5 b2 d8 E H;generalize w1.alloc (.cells #[(at_+1:Int),(at_+1+n:Int)] 205)=w2 at G |-
   go_loopg [13,14] l.length (fun gk bv rv wr=>∃ (q:List UInt8) (b:Int) (d':DiskM) (F':Nat->Prop),gk=q.length/\bv=.int .i64 b/\(∃ a c,rv=.slice a q.length c)/\Rd wr rv q.length (q.map V8) /\
     (∀ k,rv.ownBlock=some k->(Value.slice va l.length vc).ownBlock=some k)/\IsDisk wr d' p F'/\Mod F w wr/\(∀ k,F' k->F k\/w.heap.size<=k) /\
     jr d fb (jk l.length l)=jr d' b (jk q.length q)/\d'.trail.length+q.length<=d.trail.length+l.length/\b+q.length<=fb+l.length/\0<=b/\q.length<=l.length)
   case atStart=>exact G.1
   case round =>
    clear G;obtain ⟨q,b,d',F',c6,rfl,⟨qa,qc,rfl⟩,c7,c8,c9,b7,b8,a1,b9,f3,f4,f5⟩:=hrel;have H1:=Hd c6;have I:=Hd c7;have M:=Hd c8;have N:=Hd c9;have A:=Hd b7;have B:=Hd b8;have D:=Hd a1;have H2:=Hd (show 0<q.length->∀ k,(Value.slice va l.length vc).ownBlock=some k->¬ F' k from fun h0 k hk hf=>by
     rcases b8 k hf with h1 | h1
     . exact Z.1 (by omega) k hk h1
     . have:=S.1.blk (by rw [qE];omega) k hk;omega)
    clear c6 c7 c8 c9 b7 b8 a1;by_cases hq:q.length=0
    .
     obtain rfl:q = []:=qw hq;have d9:([]:List UInt8).length=0:=rfl;rw [d9];have a1:jr d fb (jk l.length l)=(d',0):=by rw [D.1];exact jen _ _ _
     have c0:jR d at_ n e.toNat l=d'.write at_ (SB (yR e.toNat l)):=by rw [L.1,a1,qf rfl]
     have U:=Hd c0;have Hh:=Hd (jbl e (.slice va l.length vc) l wr (S.1.mod0 A.1 (fun h0 k hk=>Z.1 (by rw [qE] at h0;exact h0) k hk)))
     have H3:=Hd (show d'.trail.length<=100000000000 by have:=T.1;omega)
     clear a1 c0;go_wp2_with fail;refine Hh.1.mono ?_;rintro r w3 ⟨rfl,b3⟩;have C:=Hd (jaw d' p F' at_ (SB (yR e.toNat l)) w3 (N.1.grow b3) H3.1 (by rw [SB_size,yY];omega))
     rw [<- U.1] at C;have H4:=Hd (A.1.then (Mod.of_below (F:=fun _=>False) b3) (fun _ h=>h.elim))
     have H5:=Hd (qi A.1.size b3.size);clear b3 Hh;go_wp2_with fail;refine C.1.mono ?_;rintro r w4 ⟨rfl,F4,g1,g2,g3⟩;have J:=Hd (show ∃ F',IsDisk w4 (jR d at_ n e.toNat l).1 p F'/\Mod F w w4/\∀ k,F' k->F k\/w.heap.size<=k from ⟨F4,g1,H4.1.then g2 (fun k hk=>B.1 k hk),fun k hk=>by
      rcases g3 k hk with h1 | h1
      . exact B.1 k h1
      . right;have:=H5.1;omega⟩)
     clear g1 g2 g3;go_wp2;go_ret;exact ⟨rfl,J.1⟩
    .
     have f6:(0:Int)<(q.length:Int):=by omega
     obtain ⟨k,hk⟩:=Nm (min q.length 256);have f7:∀ ts t w',(Builtin.min_ ts t #[(q.length:Int),(256:Int)]).run prog w'=.ok (k:Int) w':=fun ts t w'=>by
      rw [pL]
      congr 2
      by_cases h:(256:Int)<(q.length:Int)
      . rw [qf h];omega
      . rw [qh h];omega
     have d1:k<=q.length:=by omega
     have f8:q.length<=qc:=by obtain ⟨_,_,g1,g2,_⟩:=I.1;injection g1 with _ _ g3;omega
     have f9:=ji2 qa q.length qc k (by omega)
     have d7:=jhT qa q.length qc k d1;have a7:q.take 256=q.take k:=by
      rcases Nat.le_total q.length 256 with h1 | h1
      . rw [ql h1,ql (by omega)]
      . rw [show k=256 by omega]
     have d3:q.drop 256=q.drop k:=by
      rcases Nat.le_total q.length 256 with h1 | h1
      . rw [qN h1,qN (by omega)]
      . rw [show k=256 by omega]
     have b9:(q.take k).length=k:=by rw [qr];omega
     have kc:=uP (q.take k) (v:=.slice qa k qc) (n:=k) (w:=wr) (by
      have:=I.1.cut (m:=k) (by omega) k
      rw [<- pu] at this;exact this) b9.symm
     have a3:=xR I.1 d1 (by rw [qE];exact qm _)
     have a8:=jhG (a:=qa) (n:=q.length) (cap:=qc) (k:=k);rw [<- wW] at a3;obtain ⟨ta,d4⟩:=jak qa q.length qc k;rw [d4] at a3 d7 a8;have c1:q.length-k=(q.drop k).length:=by rw [qn]
     have e3:0<k:=by omega
     have e0:(SB (q.take k)).size<=256:=by rw [SB_size];omega
     have a4:(d'.write b (SB (q.take k))).2=0->jr d fb (jk l.length l)=jr (d'.write b (SB (q.take k))).1 (b+1) (jk (q.drop k).length (q.drop k)):=fun h0=>by
      rw [D.1,show jk q.length q=jk (q.length-1+1) q by rw [kx (by omega)],jcI _ _ _ _ (fun e=>by rw [e] at hq;exact hq rfl) (by rw [a7];exact h0),a7,d3]
      rw [jat (q.length-1) (q.drop k).length (q.drop k) (by rw [qn];omega) (qm _)]
     have a5:(d'.write b (SB (q.take k))).2≠0->jR d at_ n e.toNat l=d'.write b (SB (q.take k)):=fun h0=>by
      have:jr d fb (jk l.length l)=d'.write b (SB (q.take k)):=by
       rw [D.1,show jk q.length q=jk (q.length-1+1) q by rw [kx (by omega)],jcv _ _ _ _ (fun e=>by rw [e] at hq;exact hq rfl) (by rw [a7];exact h0),a7]
      rw [L.1,this,qh h0]
     have a9:=(d'.write_trail b (SB (q.take k))).1;have a6:=vQ d' b (SB (q.take k));have C:=Hd (jaw d' p F' b (SB (q.take k)) wr N.1 (by have:=T.1;omega) (by omega))
     obtain ⟨tx,d5⟩:=Nm (SB (q.take k));obtain ⟨d2,b4⟩:=Nm ((d'.write b tx).1);obtain ⟨er,b5⟩:=Nm ((d'.write b tx).2);rw [<- d5] at kc a9 a6 C a4 a5;rw [<- b4,<- b5] at C a4;rw [<- b4] at a9;rw [<- b5] at a6 a5;have V:=Hd a4;have W:=Hd a5;have H6:=Hd a3;have O:=Hd a8;have P:=Hd c1;have Q:=Hd (show d2.trail.length+(q.drop k).length<=d.trail.length+l.length/\b+1+((q.drop k).length:Int)<=fb+(l.length:Int) from by rw [<- c1];constructor <;> omega)
     have H7:=Hd b4;have H8:=Hd b5;have e4:(k:Int)<=(q.length:Int):=by omega
     have g0:(0:Int)<=(k:Int):=by omega
     have e5:(k:Int)<=(qc:Int):=by omega
     have R:=Hd (show (q.drop k).length<q.length by rw [qn];omega)
     have a0:b<1000000000:=by have:=T.1;have:=H0.1;omega
     clear a3 a8 c1 a9 a4 a5 b4 b5 a7 d3 b9 e0 d4 d5 hq hk;by_cases h0:er=0
     .
      rw [h0,show jm 0=.nilIface from rfl] at C
      clear a6;go_wp2_with fail;refine C.1.mono ?_;rintro r w3 ⟨rfl,F3,g1,g2,g3⟩;have J:=Hd (show ∃ F',IsDisk w3 d2 p F'/\Mod F w w3/\(∀ k,F' k->F k\/w.heap.size<=k) from ⟨F3,g1,A.1.then g2 (fun k hk=>B.1 k hk),fun k hk=>by
       rcases g3 k hk with h1 | h1
       . exact B.1 k h1
       . right;have:=A.1.size;omega⟩)
      have X:=Hd (H6.1.mod g2 (fun k hk=>H2.1 (by omega) k (M.1 k (O.1 k hk))))
      clear g1 g2 g3;go_wp2
      go_roundg (q.drop k).length
      case measure=>have:=R.1;have:=H1.1;omega
      case rel =>
       obtain ⟨F4,g1,g2,g3⟩:=J.1;refine ⟨q.drop k,b+1,d2,F4,rfl,by go_num,⟨_,_,by rw [<- P.1]⟩,by rw [<- P.1] at *;exact X.1,fun k' e2=>M.1 k' (O.1 k' e2),g1,g2,g3,V.1 h0,Q.1.1,Q.1.2,by omega,by have:=R.1;omega⟩
     .
      have c2:jm er=.iface 91 er:=by unfold jm;rw [qh h0]
      have Y:=Hd (W.1 h0);rw [c2] at C;have H9:=Hd c2;clear a6 c2;go_wp2_with fail;refine C.1.mono ?_;rintro r w3 ⟨rfl,F3,g1,g2,g3⟩;have J:=Hd (show ∃ F',IsDisk w3 d2 p F'/\Mod F w w3/\(∀ k,F' k->F k\/w.heap.size<=k) from ⟨F3,g1,A.1.then g2 (fun k hk=>B.1 k hk),fun k hk=>by
       rcases g3 k hk with h1 | h1
       . exact B.1 k h1
       . right;have:=A.1.size;omega⟩)
      clear g1 g2 g3;go_wp2;go_ret;rw [Y.1,<- H8.1,<- H7.1,H9.1];exact ⟨rfl,J.1⟩
 .
  have e1:jR d at_ n e.toNat l=(d,1):=by unfold jR;rw [qh hm]
  rw [e1];have E:=Hd (jfF d p F at_ n w h hm ha hn);have K:=Hd h;clear h hv hx ha hn hN hm e1;go_enter func76,ntmps76;go_wp2_with fail;refine E.1.mono ?_;rintro r w1 ⟨rfl,a0⟩;have H:=Hd a0;clear a0;go_wp2;go_ret;refine ⟨rfl,F,K.1.grow (jd H.1 (ja _ _)),Mod.of_below (jd H.1 (ja _ _)),fun k hk=>.inl hk⟩
theorem jmE (b:Int)(w:World):Calls prog 40 #[.nilIface,zL b] w fun e w'=>e=.returned (.bool false)/\w'=w:=by
 unfold zL;have he:∀ w,(binOp .eql 49 .nilIface (.iface 91 b)).run prog w=.ok (.bool false) w:=fun w=>by kernel_rfl
 go_enter func40,ntmps40;go_wp2;go_ret;exact ⟨rfl,rfl⟩
theorem jeg (a b:Int)(hb:b≠0)(w:World):Calls prog 40 #[jm a,.iface 91 b] w fun e w'=>e=.returned (.bool (a==b))/\w'=w:=by
 by_cases h:a=0
 .
  subst h;have e:((0:Int)==b)=false:=by simp;omega
  rw [e];exact jmE b w
 .
  have e:jm a=zL a:=by unfold jm;rw [qh h];rfl
  rw [e];exact jdJ a b w
theorem jjw (h:ep≠4294967295):IntKind.u32.wrap (I32 ep+1)=I32 (ep+1):=by
 have h1:=ep.toNat_lt;have h2:ep.toNat≠4294967295:=fun e=>h (ki.1 (by rw [e];rfl))
 have h3:(ep+1).toNat=ep.toNat+1:=by rw [UInt32.toNat_add];show (ep.toNat+1) % 4294967296=_;omega
 unfold I32;rw [h3]
 simp [IntKind.wrap,IntKind.signed,IntKind.bits]
 omega
structure StoB (w:World)(ps pd:Nat)(ep:UInt32)(lv:Value)(b:Bool):Prop where
 bx:Box w ps #[.pointer (some ⟨pd,0,none⟩),.int .u32 (I32 ep),lv,.bool b] 90
theorem StoB.mod (h:StoB w ps pd ep lv b)(hm:Mod F w w')(hn:¬ F ps):StoB w' ps pd ep lv b:=⟨h.bx.mod hm hn⟩
theorem StoB.below (h:StoB w ps pd ep lv b)(hb:Below w.heap.size w w'):StoB w' ps pd ep lv b:=⟨h.bx.below hb⟩
theorem StoB.set1 (h:StoB w ps pd ep lv b)(e:UInt32):StoB (w.setCell ⟨ps,1,none⟩ (.int .u32 (I32 e))) ps pd e lv b:=⟨h.bx.set 1 _⟩
theorem StoB.set2 (h:StoB w ps pd ep lv b)(v:Value):StoB (w.setCell ⟨ps,2,none⟩ v) ps pd ep v b:=⟨h.bx.set 2 _⟩
theorem StoB.set3 (h:StoB w ps pd ep lv b)(c:Bool):StoB (w.setCell ⟨ps,3,none⟩ (.bool c)) ps pd ep lv c:=⟨h.bx.set 3 _⟩
structure Laid (w:World)(ps pd:Nat)(ep:UInt32)(lv:Value)(b:Bool)(F:Nat->Prop)(R:DiskM × Int)(w':World):Prop where
 dk:∃ F',IsDisk w' R.1 pd F'/\(∀ k,F' k->F k\/w.heap.size<=k)/\(R.2=0->∃ pl',w.heap.size<=pl'/\¬ F' pl'/\StoB w' ps pd (ep+1) (.pointer (some ⟨pl',0,none⟩)) b/\yI w' (yt (ep+1)) pl' pd)
 no:R.2≠0->StoB w' ps pd ep lv b
 md:Mod (fun k=>k=ps\/F k) w w'
theorem jfB (st:StM)(v:Value)(d:DiskM)(ps pd:Nat)(ep:UInt32)(lv:Value)(b:Bool)(F:Nat->Prop)(w:World)(h:StoB w ps pd ep lv b)(hd:IsDisk w d pd F)(b8:¬ F ps)(hr:RdS w v st.l)(ho:∀ s∈st.l,SesOk s)(ht:d.trail.length<=90000000000)(hl:65<=d.strs.length)(a7:(vz st).length<=140737488355000) :
  Calls prog 41 #[.pointer (some ⟨ps,0,none⟩),.agg #[st.clock,st.births,v]] w fun e w'=>e=.returned (jm (yu ep d st).2)/\Laid w ps pd ep lv b F (yu ep d st) w':=by
 obtain ⟨va,vc,rfl,_⟩:=hr.slice;obtain ⟨n,hn⟩:=Nm (st.l.length);rw [<- hn] at hr |-;obtain ⟨c,hc⟩:=Nm (st.clock);obtain ⟨bi,hb⟩:=Nm (st.births);have a5:=fun w' h=>jgj st (.slice va n vc) w' h ho
 rw [<- hc,<- hb] at a5 |-;obtain ⟨I,hI⟩:=Nm (vz st);obtain ⟨N,hN⟩:=Nm (ja3 st);have a4:yu ep d st=if N=0 then (if ep=4294967295 then (d,5) else jR d 0 24 (ep+1).toNat I) else (d,24):=by rw [hI,hN];rfl
 obtain ⟨RL,b9⟩:=Nm (yu ep d st);rw [<- b9] at a4 |-;have H:=Hd a4;rw [<- hI,<- hN] at a5;rw [<- hI] at a7;have Y:=Hd a5;have a2:=ja w (.cells #[c,bi,.slice va n vc] 30);have HR:=Hd (hr.below a2);have HS:=Hd (h.below a2);have HD:=Hd (hd.grow a2);have X:=Hd a2;have HT:=Hd ht;have H5:=Hd hl;have H6:=Hd a7;have HP:=Hd b8;have H7:=Hd (show ps<w.heap.size from h.bx.lt)
 have H8:=Hd hd.lt;have HX:=Hd (Box.new w #[c,bi,.slice va n vc] 30);clear h hd b8 hr ho ht hl a7 hn hc hb hI hN a5 a2 a4 b9;go_enter func41,ntmps41;go_wp2_with fail;generalize (w.alloc (.cells #[c,bi,.slice va n vc] 30))=w1 at HR HS HD X HX |-;refine (Y.1 w1 HR.1).mono ?_;rintro e w2 ⟨iv,rfl,ho,hb⟩;have A:=Hd (HS.1.below hb);have G:=Hd (HD.1.grow hb);have B:=Hd (X.1.trans (hb.mono X.1.size));have M:=Hd ho.rd;have Z:=Hd (show ∀ k,iv.ownBlock=some k->w1.heap.size<=k from fun k hk=>(ho.lt k hk).1)
 obtain ⟨ia,ic,rfl,_⟩:=ho.rd;obtain ⟨m,hm⟩:=Nm (I.length);rw [<- hm] at M Z |-;have HM:=Hd hm;have c1:w2.cell? ⟨ps,1,none⟩=some (.int .u32 (I32 ep)):=A.1.bx.cell 1 _ rfl;clear ho hb Y HR HS HD HX hm;by_cases hn:N=0;rotate_left
 .
  rw [show jm N=.iface 91 N from qh hn]
  obtain rfl:RL=(d,24):=by rw [H.1,qh hn]
  clear hn c1 H;go_wp2;go_ret;exact ⟨rfl,⟨⟨F,G.1,fun k hk=>.inl hk,fun h=>by cases h⟩,fun _=>A.1,Mod.of_below B.1⟩⟩
 rw [qf hn] at H;rw [show jm N=.nilIface from qf hn]
 clear hn;by_cases hep:ep=4294967295
 .
  obtain rfl:RL=(d,5):=by rw [H.1,qf hep]
  have hI:I32 ep=4294967295:=by rw [hep];rfl
  have c1':w2.cell? ⟨ps,1,none⟩=some (.int .u32 4294967295):=by rw [c1,hI]
  clear hep hI c1 H;go_wp2;go_ret;exact ⟨rfl,⟨⟨F,G.1,fun k hk=>.inl hk,fun h=>by cases h⟩,fun _=>A.1,Mod.of_below B.1⟩⟩
 rw [qh hep] at H;have hI:(I32 ep==4294967295)=false:=by
  rw [qD];intro e;exact hep (jiY (e.trans rfl))
 have HW:=Hd (jjw hep);have c6:=Hd hep;obtain ⟨e1,a8⟩:=Nm (ep+1);rw [<- a8] at HW H;have O:=Hd a8;obtain ⟨R,rfl⟩:=Nm (RL);have hR:=H.1;clear H;have a9:=fun W (hW:IsDisk W d pd F) (c5:Rd W (.slice ia m ic) I.length (I.map V8))=>jiN d pd F 0 24 e1 (.slice ia m ic) I W hW c5 (fun _ k hk hf=>by have:=Z.1 k hk;have:=H8.1 k hf;have:=X.1.size;omega) HT.1 ⟨by decide,by decide⟩ ⟨by decide,by decide⟩ H6.1
 rw [<- hR] at a9;have H1:=Hd a9;have H9:=Hd (show R.1.strs.length=d.strs.length by rw [hR,vU])
 clear hep a8 hR a9;go_wp2;refine qt (S:=fun W=>StoB W ps pd ep lv b) (by kernel_rfl) (A.1.below (jb w2)) (fun a1=>?_)
 refine Tk 0 22 ?_;refine Tk 1 23 ?_;refine Tk 2 24 ?_;refine Tk 3 25 ?_ (hy:=by intro w' a0;have u1:=(StoB.bx a0).cell 0 _ rfl;clear a0;go_simp;try with_reducible rfl)
 refine Tk 4 26 ?_;refine Tk 5 27 ?_;refine Tk 6 28 ?_;refine Tk 7 29 ?_ (hy:=by intro w' a0;have u1:=(StoB.bx a0).cell 1 _ rfl;clear a0;go_simp;try with_reducible rfl)
 refine Tk 8 30 ?_ (hy:=by intro w' a0;have u2:=HW.1;clear a0;go_simp;try with_reducible rfl)
 refine Tk 9 31 ?_;refine Rc 10 32 fun K hK=>?_
 go_simp
 refine (H1.1 _ (G.1.grow (jb w2)) (by rw [<- HM.1];exact M.1.below (jb w2))).mono ?_
 rintro ev w3 ⟨rfl,F',c0,b0,c3⟩;have b1:=a1.mod b0 HP.1;refine hK.out _ _ b1 (fun _=>?_)
 have C:=Hd b1;have P:=Hd c0;have Q:=Hd (show Mod F w w3 from (Mod.of_below B.1).trans ((Mod.of_below (jb w2)).trans b0))
 have J:=Hd (show ∀ k,F' k->F k\/w.heap.size<=k from fun k hk=>by
  rcases c3 k hk with g | g
  . exact .inl g
  . right;exact qi B.1.size g)
 clear hK K b1 c0 b0 c3 a1 H1 G M B A c1 hI
 try simp only [Nz]
 refine Tk 11 7 ?_;refine Dn ?_;by_cases h0:R.2=0;rotate_left
 .
  rw [show jm R.2=.iface 91 R.2 from qh h0]
  have T:=Hd h0;clear h0;go_wp2;go_ret;exact ⟨by rw [show jm R.2=.iface 91 R.2 from qh T.1];rfl,⟨⟨F',P.1,J.1,fun h=>absurd h T.1⟩,fun _=>C.1,Q.1.mono (fun _ h=>.inr h)⟩⟩
 rw [show jm R.2=.nilIface from qf h0]
 have T:=Hd h0;clear h0;have c1:w3.cell? ⟨ps,1,none⟩=some (.int .u32 (I32 ep)):=C.1.bx.cell 1 _ rfl;have f1:=C.1.bx.free 1;have uw:=HW.1;have D:=Hd (show StoB (w3.setCell ⟨ps,1,none⟩ (.int .u32 (I32 e1))) ps pd e1 lv b from C.1.set1 e1)
 have b2:=Mod.set (fun k=>k=ps) w3 ⟨ps,1,none⟩ (.int .u32 (I32 e1)) rfl
 have b3:¬ F' ps:=fun hf=>by
  rcases J.1 ps hf with g | g
  . exact HP.1 g
  . have:=H7.1;omega
 have E:=Hd (P.1.mod b2 (fun k hk e=>b3 (by rw [<- e];exact hk)))
 have L:=Hd (show Mod (fun k=>k=ps\/F k) w (w3.setCell ⟨ps,1,none⟩ (.int .u32 (I32 e1))) from (Q.1.mono (fun _ h=>.inr h)).trans (b2.mono (fun _ h=>.inl h)))
 have H2:=Hd b3;clear b2 b3 P C Q;go_wp2_with fail;clear c1 f1 uw;generalize w3.setCell ⟨ps,1,none⟩ (.int .u32 (I32 e1))=w4 at D E L |-;have H3:=Hd (fun W (hW:IsDisk W R.1 pd F')=>jcW R.1 pd F' 49 16 e1 W hW (by decide) (by rw [H9.1];exact H5.1))
 refine qt (S:=fun W=>∃ x,StoB W ps pd e1 x b) (by kernel_rfl) ⟨lv,D.1.below (jb w4)⟩ (fun a1=>?_)
 refine Tk 0 44 ?_;refine Tk 1 45 ?_;refine Tk 2 46 ?_;refine Tk 3 47 ?_;refine Te 4 48 ?_ (hy:=by intro w' a0;obtain ⟨x,hx⟩:=a0;have u1:=hx.bx.cell 0 _ rfl;clear hx;go_simp;try with_reducible rfl)
 refine Tk 5 49 ?_;refine Tk 6 50 ?_;refine Tk 7 51 ?_;refine Te 8 52 ?_ (hy:=by intro w' a0;obtain ⟨x,hx⟩:=a0;have u1:=hx.bx.cell 1 _ rfl;clear hx;go_simp;try with_reducible rfl)
 refine Rc 9 53 fun K hK=>?_
 go_simp
 refine (show Calls _ _ #[.pointer (some ⟨pd,0,none⟩),(49:Int),(16:Int),.int .u32 (I32 e1)] _ _ from H3.1 _ (E.1.grow (jb w4))).mono ?_
 rintro ev w5 ⟨rfl,b4,b5⟩;have a3:=(D.1.below (jb w4)).below b5;refine hK.out _ _ ⟨lv,a3⟩ (fun _=>?_)
 have c2:w5.cell? ⟨ps,2,none⟩=some lv:=a3.bx.cell 2 _ rfl;have f2:=a3.bx.free 2;have U:=Hd a3;have H4:=Hd b4;have V:=Hd (show Below w4.heap.size w4 w5 from jd (jb w4) b5)
 clear hK K a3 b4 b5 a1 H3
 try simp only [Nz]
 refine Tk 10 43 ?_;refine Tk 11 54 ?_;refine Tk 12 55 ?_;refine Tk 13 56 ?_;refine Tk 14 57 ?_;refine pD (rs := [15]) (by kernel_rfl) (by simp) (wJ (o:=⟨none,.store _ _ _,_,_,_,_⟩) rfl (fun K hK=>?_) px)
 go_simp
 refine hK.out _ _ ⟨_,U.1.set2 (.pointer (some ⟨w4.drew.heap.size,0,none⟩))⟩ (fun _=>?_)
 clear hK K c2 f2
 try simp only [Nz]
 refine Tk 16 6 ?_;refine Dn ?_;have Ha:=Hd (show Below w4.heap.size w4 (w5.setCell ⟨ps,2,none⟩ (.pointer (some ⟨w4.drew.heap.size,0,none⟩)))\/True from .inr trivial)
 clear Ha;have a6:=Mod.set (fun k=>k=ps) w5 ⟨ps,2,none⟩ (.pointer (some ⟨w4.drew.heap.size,0,none⟩)) rfl
 have b6:w4.drew.heap.size=w4.heap.size:=rfl;have c4:ps<w4.heap.size:=D.1.bx.lt;have b7:=E.1.lt;have Hb:=Hd (show Laid w ps pd ep lv b F R (w5.setCell ⟨ps,2,none⟩ (.pointer (some ⟨w4.drew.heap.size,0,none⟩))) from
  ⟨⟨F',(E.1.grow V.1).mod a6 (fun k hk e=>H2.1 (by rw [<- e];exact hk)),J.1,fun _=>⟨w4.drew.heap.size,qi L.1.size (qS b6.symm),fun hf=>by have:=b7 _ hf;omega,by rw [<- O.1];exact U.1.set2 _,by rw [<- O.1];exact Box.mod H4.1 a6 (by rw [b6];omega)⟩⟩,
  fun h=>absurd T.1 h,L.1.trans ((Mod.of_below V.1).trans (a6.mono (fun _ h=>.inl h)))⟩)
 clear a6 b6 c4 b7 D E L U H4 V J H2 O;go_wp2;go_ret;exact ⟨by rw [show jm R.2=.nilIface from qf T.1];rfl,Hb.1⟩
theorem IsDisk.grow' {p:Nat}(h:IsDisk w d p F)(hb:Below w.heap.size w w'):IsDisk w' d p F:=h.grow hb
theorem OwnM.form {base:Nat}{e:TypeId}(h:OwnM w base e v n xs):∃ a c,v=.slice a n c:=by
 obtain ⟨a,c,e,_⟩:=h.slice;exact ⟨a,c,e⟩
theorem jbj (d:DiskM)(b:Int):(d.read b).1=SB (jH d b):=(jmY _).symm
theorem jj0 (l:List UInt8)(i:Nat):yA (l.drop i) 0=yA l i:=by
 unfold yA;simp only [List.getD,List.getElem?_drop,qT,qA]
theorem jed (d:DiskM)(f:Nat)(b:Int)(z:Nat)(acc:List UInt8)(h:¬ acc.length<z):yx d f b z acc=some acc:=by
 cases f with
 | zero=>rfl
 | succ f=>rw [yx,qh h]
theorem jhf (d:DiskM)(f:Nat)(b:Int)(z:Nat)(acc:List UInt8)(hf:0<f)(h:acc.length<z)(h2:(jH d b).length<min (z-acc.length) 256):yx d f b z acc=none:=by
 obtain ⟨f,rfl⟩:=Nat.exists_eq_succ_of_ne_zero (Nat.pos_iff_ne_zero.1 hf);rw [yx,qf h,qf h2]
theorem jdp (d:DiskM)(f:Nat)(b:Int)(z:Nat)(acc:List UInt8)(h:acc.length<z)(h2:¬ (jH d b).length<min (z-acc.length) 256):yx d (f+1) b z acc=yx d f (b+1) z (acc++(jH d b).take (min (z-acc.length) 256)):=by
 rw [yx,qf h,qh h2]
theorem jiM (d:DiskM)(i:Int):(d.read i).2=0\/(d.read i).2=1:=by
 unfold DiskM.read;split
 . exact .inl rfl
 . exact .inr rfl
theorem jjV {i:Int}(h:(d.read i).2=1):jH d i = []:=by
 unfold jH DiskM.read at *
 split at h
 . simp at h
 . rename_i h1;rw [qh h1];rfl
def jnr (W:World)(r:Nat × List UInt8 × Int)(e:Ending)(W':World):Prop :=
 ∃ v,e=.returned (.tuple #[.int .u32 (r.1:Int),v,jm r.2.2])/\OwnM W' W.heap.size 5 v r.2.1.length (r.2.1.map V8)/\Below W.heap.size W W'
theorem jid (d:DiskM)(p:Nat)(F:Nat->Prop)(at_ n:Int)(w:World)(h:IsDisk w d p F)(ha:I64 at_)(hn:I64 n)(hs:∀ b,(jH d b).length<=9223372036854775807) :
  Calls prog 90 #[.pointer (some ⟨p,0,none⟩),at_,n] w (jnr w (jZ d at_ n)):=by
 have hN:d.strs.length<=4096:=by obtain ⟨bb,tv,pv,q,h1,h2,h3,h4,h5,_⟩:=h;exact h5
 have S:=Hd h;have Hs:=Hd hs;by_cases hm:xp d.strs.length at_ n
 .
  have N:=Hd (jdZ d p F at_ n w h hm);have d2:=hm;unfold xp at d2;obtain ⟨m1,m2,m3⟩:=d2;have f6:n<=4096:=by omega
  have f7:at_<=4096:=by omega
  have c1:(d.read at_).2=0:=by unfold DiskM.read;rw [qf (by omega)]
  have c2:jZ d at_ n=(if jH d at_ = [] then (0,[],10)
   else if (jH d at_).length=16 then
    if n*256<((yA (jH d at_) 4:Nat):Int) then (0,[],21)
    else match yx d (yA (jH d at_) 4+1) (jF at_ n (yA (jH d at_) 0)) (yA (jH d at_) 4) [] with
     | none=>(0,[],21)
     | some p=>if yR (yA (jH d at_) 0) p=jH d at_ then (yA (jH d at_) 0,p,0) else (0,[],21)
   else (0,[],21):Nat × List UInt8 × Int):=by unfold jZ;rw [qf hm];rfl
  have b4:=fun w (h:IsDisk w d p F)=>jhM d p F at_ w h
  rw [jbj,c1,show jm 0=.nilIface from rfl] at b4
  obtain ⟨s,c3⟩:=Nm (jH d at_);rw [<- c3] at c2 b4;have f8:s.length<=9223372036854775807:=by rw [c3];exact hs at_
  have D:=Hd b4;have B:=Hd c2;clear h hs ha hn hN m3 hm c1 c2 b4 c3;by_cases hs0:s = []
  .
   have hl:jZ d at_ n=(0,[],10):=by rw [B.1,qf hs0]
   rw [hl];obtain ⟨st,a0⟩:=Nm (SB s);have e9:st.toList.isEmpty=true:=by rw [a0,jh,hs0];rfl
   rw [<- a0] at D;clear a0 hs0 hl B;go_enter func90,ntmps90;go_wp2_with fail;refine N.1.mono ?_;rintro r w1 ⟨rfl,a1⟩;have a2:=jd a1 (ja w1 (.cells #[(at_+1:Int),(at_+1+n:Int)] 205));have E:=Hd a2;have G:=Hd (D.1 _ (S.1.grow a2));clear a1 a2;go_wp2_with fail;refine G.1.mono ?_;rintro r w2 ⟨rfl,rfl⟩;go_wp2
   go_ret3
   exact ⟨_,rfl,OwnM.nil _ _ _,E.1⟩
  .
   obtain ⟨st,a0⟩:=Nm (SB s);have e9:st.toList.isEmpty=false:=by
    rw [a0,jh]
    cases s with
    | nil=>exact absurd rfl hs0
    | cons _ _=>rfl
   have c4:st.size=s.length:=by rw [a0,SB_size]
   rw [<- a0] at D;by_cases h16:s.length=16
   .
    have b0:jZ d at_ n=(if n*256<((yA s 4:Nat):Int) then (0,[],21)
     else match yx d (yA s 4+1) (jF at_ n (yA s 0)) (yA s 4) [] with
      | none=>(0,[],21)
      | some p=>if yR (yA s 0) p=s then (yA s 0,p,0) else (0,[],21):Nat × List UInt8 × Int):=by rw [B.1,qh hs0,qf h16]
    obtain ⟨st4,b1⟩:=Nm (SB (s.drop 4));have e5:∀ w,(Instr.slice 9 (.string st) (some (.int .i64 4)) none none).run prog w=.ok (.string st4) w:=fun w=>by rw [a0,b1];exact jbU w s 4 (by omega)
    have a9:=fun w=>jdQ s w (by omega) (by omega)
    have b5:=fun w=>jdQ (s.drop 4) w (by rw [qn];omega) (by rw [qn];omega)
    rw [jj0] at b5;obtain ⟨eu,d3⟩:=Nm (UInt32.ofNat (yA s 0));have c5:yA s 0=eu.toNat:=by
     rw [d3];show yA s 0=yA s 0 % 2 ^ 32;have:=jbQ s 0;omega
    obtain ⟨z,hz⟩:=Nm (yA s 4);have b2:z<4294967296:=by rw [hz];exact jbQ s 4
    rw [<- a0,c5] at a9;rw [<- b1,<- hz] at b5;rw [c5,<- hz] at b0
    replace a9:∀ w,Calls prog 120 #[.string st] w fun e w'=>e=.returned (.int .u32 (I32 eu))/\∃ k,w'=w.drewN k:=a9
    have f0:IntKind.i64.wrap (z:Int)=(z:Int):=by
     have:=b2
     simp [IntKind.wrap,IntKind.bits,IntKind.signed];omega
    have V:=Hd a9;have W:=Hd b5;have C:=Hd b0;have X:=Hd a0;have H4:=Hd b2;clear a0 hs0 a9 b5 b1 d3 c5 hz b0 B b2;go_enter func90,ntmps90;go_wp2_with fail;refine N.1.mono ?_;rintro r w1 ⟨rfl,a1⟩;have a2:=jd a1 (ja w1 (.cells #[(at_+1:Int),(at_+1+n:Int)] 205));have E:=Hd a2;have G:=Hd (D.1 _ (S.1.grow a2));clear a1 a2;go_wp2_with fail;refine G.1.mono ?_;rintro r w2 ⟨rfl,rfl⟩;go_wp2
    go_quiet (first | (go_at_call 120;first | with_reducible exact Calls.quiet_of (V.1 _) | with_reducible exact Calls.quiet_of (W.1 _)))
    have I:=Hd (show Below w.heap.size w ((w1.alloc (.cells #[(at_+1:Int),(at_+1+n:Int)] 205)).drewN nq) from jd E.1 ⟨rfl,rfl,rfl,qm _,fun _ _=>rfl⟩)
    clear V W e5 f0;by_cases hz:n*256<(z:Int)
    .
     have J:=Hd (by rw [C.1,qf hz]:jZ d at_ n=(0,[],21))
     clear C;go_wp2
     go_ret3
     rw [J.1];exact ⟨_,rfl,OwnM.nil _ _ _,I.1⟩
    .
     obtain ⟨fb,b6⟩:=Nm (jF at_ n eu.toNat);have c6:jZ d at_ n=(match yx d (z+1) fb z [] with
      | none=>(0,[],21)
      | some p=>if yR eu.toNat p=s then (eu.toNat,p,0) else (0,[],21):Nat × List UInt8 × Int):=by rw [C.1,qh hz,b6]
     have f9:decide (n*256<(z:Int))=false:=by simp;omega
     have O:=Hd (show z<=1048576 by omega)
     obtain ⟨r2,c7⟩:=Nm (eu.toNat % 2);have hI:I32 eu=(eu.toNat:Int):=rfl;have g0:(I32 eu).tmod 2=(r2:Int):=by rw [hI,kw (by omega)];omega
     have c1:(0:Int)<=(r2:Int):=by omega
     have g1:(r2:Int)<2:=by omega
     have b7:((w1.alloc (.cells #[(at_+1:Int),(at_+1+n:Int)] 205)).drewN nq).cell? ⟨w1.heap.size,r2,none⟩=some (.int .i64 fb):=by
      show (w1.alloc (.cells #[(at_+1:Int),(at_+1+n:Int)] 205)).cell? ⟨w1.heap.size,r2,none⟩=some (.int .i64 fb);refine (Box.new w1 _ _).cell r2 _ ?_;have:r2=0\/r2=1:=by omega
      rw [b6];unfold jF;rw [<- c7]
      rcases this with rfl | rfl
      . simp
      . simp
     have a6:0<=fb/\fb<=10000:=by
      rw [b6];unfold jF;rw [<- c7];have:r2=0\/r2=1:=by omega
      rcases this with rfl | rfl <;> simp <;> omega
     have e6:=a6.1;have Y:=Hd a6.2;have P:=Hd c6;generalize (w1.alloc (.cells #[(at_+1:Int),(at_+1+n:Int)] 205)).drewN nq=w2 at I b7 |-;clear b6 c7 hI a6 c6 C hz;go_wp2_with fail;obtain ⟨wo,d5⟩:∃ wo:World,wo=w2:=⟨_,rfl⟩;rw [<- d5] at I |-;clear b7 d5
     go_loopg [15,16] z (fun gk dv bv wr=>∃ (acc:List UInt8) (b:Int) (f:Nat),gk=z-acc.length/\bv=.int .i64 b/\OwnM wr w.heap.size 5 dv acc.length (acc.map V8)/\Below w.heap.size w wr/\yx d (z+1) fb z []=yx d f b z acc/\z-acc.length<f/\acc.length<=z/\0<=b/\b<=fb+acc.length)
     case atStart=>exact ⟨[],fb,z+1,rfl,rfl,OwnM.nil _ _ _,I.1,rfl,Nat.lt_succ_self _,qJ _,e6,by simp⟩
     case round =>
      clear I;obtain ⟨acc,b,f,d6,rfl,b3,d7,b8,hf,g2,g3,a1⟩:=hrel;obtain ⟨da,dc,rfl⟩:=b3.form;have Z:=Hd d6;have T:=Hd b3;have K:=Hd d7;have Q:=Hd b8;have Hf':=Hd hf;have g4:b<1000000000:=by have:=O.1;have:=Y.1;omega
      clear d6 b3 d7 b8 hf;by_cases hlt:acc.length<z
      .
       have e7:(acc.length:Int)<(z:Int):=by omega
       have a4:=jhM d p F b wr (S.1.grow' K.1);rw [jbj] at a4;obtain ⟨k,hk⟩:=Nm (min (z-acc.length) 256);have g5:∀ ts t w',(Builtin.min_ ts t #[((z:Int)-(acc.length:Int):Int),(256:Int)]).run prog w'=.ok (k:Int) w':=fun ts t w'=>by
        rw [pL]
        congr 2
        by_cases h:(256:Int)<(z:Int)-(acc.length:Int)
        . rw [qf h];omega
        . rw [qh h];omega
       obtain ⟨t,ht⟩:=Nm (jH d b);have g6:t.length<=9223372036854775807:=by rw [ht];exact Hs.1 b
       have d8:t.length<k->yx d (z+1) fb z []=none:=fun h=>by
        rw [Q.1];exact jhf d f b z acc (by have:=Hf'.1;omega) hlt (by rw [<- ht,<- hk];exact h)
       have c8:¬ t.length<k->yx d (z+1) fb z []=yx d (f-1) (b+1) z (acc++t.take k):=fun h=>by
        rw [Q.1];have hf:=Hf'.1;obtain ⟨g,rfl⟩:∃ g,f=g+1:=⟨f-1,by omega⟩
        rw [jdp d g b z acc hlt (by rw [<- ht,<- hk];exact h),<- ht,<- hk];rfl
       have d9:=jiM d b;have a7:(d.read b).2=1->t = []:=fun h=>by rw [ht];exact jjV h
       rw [<- ht] at a4;obtain ⟨tx,b9⟩:=Nm (SB t);have f4:tx.size=t.length:=by rw [b9,SB_size]
       rw [<- b9] at a4;have f1:0<k:=by omega
       have c9:IntKind.i64.wrap ((z:Int)-(acc.length:Int))=(z:Int)-(acc.length:Int):=by
        have:=O.1
        simp [IntKind.wrap,IntKind.bits,IntKind.signed];omega
       have c0:wrap64 ((z:Int)-(acc.length:Int))=(z:Int)-(acc.length:Int):=by
        have:=O.1;unfold wrap64;omega
       have g7:acc.length+k<=z:=by omega
       have H:=Hd a4;have R:=Hd d8;have L:=Hd c8;have H0:=Hd b9;have H3:=Hd (And.intro c9 c0);have g8:(z:Int)<=1048576:=by have:=O.1;omega
       clear a4 d8 c8 ht b9 c9 c0 hk;by_cases hlk:t.length<k
       .
        have hl:jZ d at_ n=(0,[],21):=by rw [P.1,R.1 hlk]
        have J:=Hd hl;have e8:(t.length:Int)<(k:Int):=by omega
        clear hl R L
        rcases d9 with h0 | h0
        .
         rw [h0,show jm 0=.nilIface from rfl] at H
         clear a7 h0;go_wp2_with fail;refine H.1.mono ?_;rintro r w3 ⟨rfl,rfl⟩;go_wp2
         go_ret3
         rw [J.1];exact ⟨_,rfl,OwnM.nil _ _ _,K.1⟩
        .
         rw [h0,show jm 1=.iface 91 (1:Int) from rfl] at H
         clear a7 h0;go_wp2_with fail;refine H.1.mono ?_;rintro r w3 ⟨rfl,rfl⟩;go_wp2
         go_ret3
         rw [J.1];exact ⟨_,rfl,OwnM.nil _ _ _,K.1⟩
       .
        rcases d9 with h0 | h0
        .
         rw [h0,show jm 0=.nilIface from rfl] at H
         have e8:decide ((t.length:Int)<(k:Int))=false:=by simp;omega
         have a0:=fun w=>jf6 w t k (by omega)
         rw [<- H0.1] at a0;obtain ⟨tk,d0⟩:=Nm (SB (t.take k));rw [<- d0] at a0;have H1:=Hd d0;have Hy:=Hd (L.1 hlk);have A:=Hd (by rw [qr];omega:(t.take k).length=k)
         have c4:=K.1.size;clear a7 h0 d0 L R;go_wp2_with fail;refine H.1.mono ?_;rintro r w3 ⟨rfl,rfl⟩
         go_wp2_with (at_builtin;refine je6 rfl _ _ rfl w.heap.size _ _ _ rfl T.1 (t.take k) (by show Value.string tk=_;rw [H1.1]) (by rw [A.1];have:=O.1;omega) c4 ?_)
         intro v' w4 a8 e0 _;have e2:=K.1.trans (je e0 c4 (fun q hq=>(T.1.lt q hq).1))
         rw [<- pu,<- qM,wD (by omega)] at a8
         have M:=Hd (And.intro a8 e2);clear a8 e0 e2;go_wp2
         go_roundg (z-(acc.length+k))
         case measure=>have:=Z.1;omega
         case rel=>exact ⟨acc++t.take k,b+1,f-1,by rw [qd,A.1],by go_num,by rw [qd,A.1];exact M.1.1,M.1.2,Hy.1,by rw [qd,A.1];have:=Hf'.1;omega,by rw [qd,A.1];omega,by omega,by rw [qd,A.1];omega⟩
        .
         exfalso
         have:=a7 h0;rw [this] at hlk;exact hlk f1
      .
       have e7:¬ ((acc.length:Int)<(z:Int)):=by omega
       have hl:yx d (z+1) fb z []=some acc:=by rw [Q.1,jed _ _ _ _ _ hlt]
       have a3:jZ d at_ n=if yR eu.toNat acc=s then (eu.toNat,acc,0) else (0,[],21):=by rw [P.1,hl]
       have U:=Hd (jbl eu (.slice da acc.length dc) acc wr T.1.rd);have e3:=yY eu.toNat acc;by_cases he:yR eu.toNat acc=s
       .
        rw [qf he] at a3;rw [he,<- X.1] at U;have J:=Hd a3;clear hl a3 he e3;go_wp2_with fail;refine U.1.mono ?_;rintro r w3 ⟨rfl,a5⟩;have M:=Hd (And.intro (T.1.below a5) (jd K.1 a5));have f3:((st.toList==st.toList)=true):=by simp
        clear a5;go_wp2
        go_ret3
        rw [J.1];exact ⟨_,rfl,M.1.1,M.1.2⟩
       .
        rw [qh he] at a3;have f2:((SB (yR eu.toNat acc)).toList==st.toList)=false:=by rw [X.1,jh,jh,qD];exact he
        obtain ⟨hx,e4⟩:=Nm (SB (yR eu.toNat acc));rw [<- e4] at U f2;have J:=Hd a3;clear hl a3 he e3 e4;go_wp2_with fail;refine U.1.mono ?_;rintro r w3 ⟨rfl,a5⟩;have M:=Hd (jd K.1 a5);clear a5;go_wp2
        go_ret3
        rw [J.1];exact ⟨_,rfl,OwnM.nil _ _ _,M.1⟩
   .
    have hl:jZ d at_ n=(0,[],21):=by rw [B.1,qh hs0,qh h16]
    rw [hl];have f5:¬ ((s.length:Int)=16):=by omega
    clear a0 hs0 hl B;go_enter func90,ntmps90;go_wp2_with fail;refine N.1.mono ?_;rintro r w1 ⟨rfl,a1⟩;have a2:=jd a1 (ja w1 (.cells #[(at_+1:Int),(at_+1+n:Int)] 205));have E:=Hd a2;have G:=Hd (D.1 _ (S.1.grow a2));clear a1 a2;go_wp2_with fail;refine G.1.mono ?_;rintro r w2 ⟨rfl,rfl⟩;go_wp2
    go_ret3
    exact ⟨_,rfl,OwnM.nil _ _ _,E.1⟩
 .
  have e1:jZ d at_ n=(0,[],1):=by unfold jZ;rw [qh hm]
  rw [e1];have N:=Hd (jfF d p F at_ n w h hm ha hn);clear h hs ha hn hN hm e1;go_enter func90,ntmps90;go_wp2_with fail;refine N.1.mono ?_;rintro r w1 ⟨rfl,a1⟩;have H2:=Hd a1;clear a1;go_wp2
  go_ret3
  exact ⟨_,rfl,OwnM.nil _ _ _,jd H2.1 (ja _ _)⟩
end Go.Proofs.YtgcnolapjppbpaaGreatDoor
