/-
  Texts of one proof, one behind the other.
-/
import Derived.Test.YtgcnolapjppbpaaGreatDoorP09
import Derived.Recover
import Derived.BigQuiet
import Derived.Test.YtgcnolapjppbpaaGreatDoorP02
import Derived.Test.YtgcnolapjppbpaaGreatDoorP00
namespace Go.Proofs.YtgcnolapjppbpaaGreatDoor
open Go.RowKit _root_.Go.Proofs.Tryz
set_option maxRecDepth 100000
set_option maxHeartbeats 25600000
def pan (n:Int):Ending:=.panicked [{ v:=.iface 91 (.int .i64 n),recovered:=false }]
structure IsR (w:World)(r:Nat)(v:Value)(l:List UInt8)(k:Nat):Prop where
 box:Box w r #[v,.int .i64 (k:Int)] 288
 rd:Rd w v l.length (l.map V8)
 le:k≤l.length
 ne:v.ownBlock≠some r
 sm:l.length≤1000000000000
theorem IsR.mod {w w':World}{r k:Nat}{v:Value}{l:List UInt8}{F:Nat→Prop}(h:IsR w r v l k)(hm:Mod F w w')(h1:¬ F r)(h2:∀ b,v.ownBlock=some b→¬ F b):IsR w' r v l k :=
 ⟨h.box.mod hm h1,h.rd.keep (fun b hb hl=>hm.block b hl (h2 b hb)),h.le,h.ne,h.sm⟩
theorem IsR.below {w w':World}{r k:Nat}{v:Value}{l:List UInt8}(h:IsR w r v l k)(hb:Below w.heap.size w w'):IsR w' r v l k:=h.mod (Mod.of_below (F:=fun _=>False) hb) (fun h=>h) (fun _ _ h=>h)
theorem IsR.set {w:World}{r k:Nat}{v:Value}{l:List UInt8}(h:IsR w r v l k)(j:Nat)(hj:j≤l.length):IsR (w.setCell ⟨r,1,none⟩ (.int .i64 (j:Int))) r v l j∧Mod (fun b=>b=r) w (w.setCell ⟨r,1,none⟩ (.int .i64 (j:Int))):=by
 have hm:=Mod.set (fun b=>b=r) w ⟨r,1,none⟩ (.int .i64 (j:Int)) rfl
 exact ⟨⟨h.box.set 1 _,h.rd.keep (fun b hb hl=>hm.block b hl (fun e=>h.ne (by rw [hb,e]))),hj,h.ne,h.sm⟩,hm⟩
theorem jjx (r k:Nat)(v:Value)(l:List UInt8)(w:World)(h:IsR w r v l k)(hk:k<l.length) :
  Calls prog 190 #[.pointer (some ⟨r,0,none⟩)] w fun e w'=>e=.returned (V8 (l.getD k 0))∧IsR w' r v l (k+1)∧Mod (fun b=>b=r) w w':=by
 have hr:=h.rd;obtain ⟨a,cap,rfl,h1,h2,h3,h4⟩:=hr;obtain ⟨b,off,rfl,hc⟩:=h4 k (by simpa using hk)
 have a5:w.cell? ⟨b,off+k,none⟩=some (V8 (l.getD k 0)):=by rw [hc];simp [hk]
 have a7:=h.sm;have c0:=h.box.cell 0 _ rfl;have c1:=h.box.cell 1 _ rfl;have f1:=h.box.free 1;have I:=Hd h;have J:=Hd hk;have k0:(0:Int)≤(k:Int):=by omega
 have k1:(k:Int)<(l.length:Int):=by omega
 have K:=Hd a5;have a6:b≠r:=fun e=>h.ne (by simp [Value.ownBlock,e])
 clear h h4 hc a5 h3 hk;go_enter func190,ntmps190;go_wp2_with fail
 go_quiet (fail)
 have a2:Below w.heap.size w (w.drewN nq):=⟨rfl,rfl,rfl,Nat.le_refl _,fun _ _=>rfl⟩
 have H:=Hd (I.1.below a2);have B:=Hd (Mod.of_below (F:=fun b=>b=r) a2)
 have A:=Hd (jf a2 K.1);generalize w.drewN nq=w2 at H B A ⊢;clear a2 c0 c1 f1;have c0:=H.1.box.cell 0 _ rfl;have c1:=H.1.box.cell 1 _ rfl;have f1:=H.1.box.free 1;go_wp2_with fail;obtain ⟨a1,a3⟩:=H.1.set (k+1) J.1;have e1:((k+1:Nat):Int)=(k:Int)+1:=by omega
 have a0:(w2.setCell ⟨r,1,none⟩ (.int .i64 ((k+1:Nat):Int))).cell? ⟨b,off+k,none⟩=some (V8 (l.getD k 0)):=by
  rw [World.cell?_of_block (w:=w2) (a3.block b (uM A.1) a6)];exact A.1
 have d0:=a1.box.cell 0 _ rfl;have d1:=a1.box.cell 1 _ rfl;rw [e1] at a0 a1 a3 d0 d1;have C:=Hd a1;have D:=Hd (B.1.trans a3);have L:=Hd (show V8 (l.getD k 0)=.int .u8 ((l.getD k 0).toNat:Int) from rfl)
 rw [L.1] at a0;have z1:IntKind.i64.wrap ((k:Int)+1-1)=(k:Int):=by simp [IntKind.wrap,IntKind.bits,IntKind.signed];omega
 clear a1 a3 e1 c0 c1 f1;generalize w2.setCell _ _=w3 at a0 C D d0 d1 ⊢
 go_quiet (fail)
 have a4:Below w3.heap.size w3 (w3.drewN nq):=⟨rfl,rfl,rfl,Nat.le_refl _,fun _ _=>rfl⟩
 have E:=Hd (C.1.below a4);have G:=Hd (D.1.trans (Mod.of_below (F:=fun b=>b=r) a4))
 clear a4 a0 d0 d1;go_wp2_with fail;go_ret;exact ⟨rfl,E.1,G.1⟩
theorem jkv (r k:Nat)(v:Value)(l:List UInt8)(w:World)(h:IsR w r v l k)(hk:¬ k<l.length) :
  Calls prog 190 #[.pointer (some ⟨r,0,none⟩)] w fun e w'=>e=pan 2∧IsR w' r v l k∧Mod (fun b=>b=r) w w':=by
 have hr:=h.rd;obtain ⟨a,cap,rfl,h1,h2,h3,h4⟩:=hr;have a1:=h.sm;have c0:=h.box.cell 0 _ rfl;have c1:=h.box.cell 1 _ rfl;have B:=Hd h;have k0:(0:Int)≤(k:Int):=by omega
 have k1:¬ (k:Int)<(l.length:Int):=by omega
 clear h h4 h3 hk;go_enter func190,ntmps190;go_wp2_with fail
 go_quiet (fail)
 have a0:Below w.heap.size w (w.drewN nq):=⟨rfl,rfl,rfl,Nat.le_refl _,fun _ _=>rfl⟩
 have H:=Hd (B.1.below a0);have A:=Hd (Mod.of_below (F:=fun b=>b=r) a0)
 generalize w.drewN nq=w2 at H A ⊢;clear a0 c0 c1;go_wp2_with fail;exact ⟨rfl,rfl,H.1,A.1⟩
def xi (i v:Nat):List UInt8→Int × Nat × Nat
 | []=>(2,0,0)
 | c::r=>if (i=9∧1<c.toNat)∨(0<i∧c.toNat=0) then (4,0,0) else if c.toNat<128 then (0,v+c.toNat*2 ^ (7*i),i+1) else xi (i+1) (v+(c.toNat-128)*2 ^ (7*i)) r
def jW (l:List UInt8):Int × Nat × Nat:=xi 0 0 l
theorem jjm (y m:Nat)(h:y<256)(hm:m=y % 128):bits .and .u8 (y:Int) 127=(m:Int):=by
 have:∀ n:Nat,n<256→bits .and .u8 (n:Int) 127=((n % 128:Nat):Int):=by decide +kernel
 rw [this y h,hm]
theorem jju (a b:Nat)(ha:a<2 ^ 64)(hb:b<2 ^ 64):bits .or .u64 (a:Int) (b:Int)=((a ||| b:Nat):Int):=by
 have hx:a ||| b<2 ^ 64:=Nat.or_lt_two_pow ha hb
 have ho:∀ n:Nat,n<2 ^ 64→(BitVec.ofInt 64 (n:Int)).toNat=n:=fun n hn=>by rw [BitVec.toNat_ofInt];omega
 show IntKind.u64.wrap ((BitVec.ofInt 64 (a:Int) ||| BitVec.ofInt 64 (b:Int)).toNat:Int)=_
 rw [BitVec.toNat_or,ho a ha,ho b hb]
 simp [IntKind.wrap,IntKind.bits,IntKind.signed];omega
theorem jiG {m i:Nat}(hm:m<128)(hi:i≤9)(h9:i=9→m≤1):m*2 ^ (7*i)≤2 ^ 63∧(i<9→m*2 ^ (7*i)<2 ^ 63):=by
 have h:i=0∨i=1∨i=2∨i=3∨i=4∨i=5∨i=6∨i=7∨i=8∨i=9:=by omega
 rcases h with rfl | rfl | rfl | rfl | rfl | rfl | rfl | rfl | rfl | rfl <;> first | (simp only [Nat.reduceMul,Nat.reducePow];omega) | (have:=h9 rfl;simp only [Nat.reduceMul,Nat.reducePow];omega)
theorem jbj (u m i:Nat)(hu:u<2 ^ (7*i))(hm:m<128)(hi:i≤9)(h9:i=9→m≤1):bits .or .u64 (u:Int) (IntKind.u64.wrap ((m:Int)*2 ^ (7*i)))=((u+m*2 ^ (7*i):Nat):Int):=by
 have h1:=(jiG hm hi h9).1;have h2:(2:Nat) ^ (7*i)≤2 ^ 63:=Nat.pow_le_pow_right (by omega) (by omega)
 have h3:u<2 ^ 64:=by omega
 have h4:m*2 ^ (7*i)<2 ^ 64:=by omega
 have e1:((m:Int)*2 ^ (7*i))=((m*2 ^ (7*i):Nat):Int):=by simp
 have e2:IntKind.u64.wrap ((m*2 ^ (7*i):Nat):Int)=((m*2 ^ (7*i):Nat):Int):=by
  generalize m*2 ^ (7*i)=z at h4 ⊢
  simp [IntKind.wrap,IntKind.bits,IntKind.signed];omega
 rw [e1,e2,jju u _ h3 h4,jeV u m (7*i) _ rfl hu,Nat.add_comm]
theorem ja0 (r k:Nat)(v:Value)(l:List UInt8)(w:World)(h:IsR w r v l k) :
  Calls prog 180 #[.pointer (some ⟨r,0,none⟩)] w fun e w'=>Mod (fun b=>b=r) w w' ∧
   (((jW (l.drop k)).1=0∧e=.returned (.int .u64 ((jW (l.drop k)).2.1:Int))∧IsR w' r v l (k+(jW (l.drop k)).2.2))∨((jW (l.drop k)).1≠0∧e=pan (jW (l.drop k)).1∧∃ j,IsR w' r v l j)):=by
 obtain ⟨N,hN⟩:=Nm (jW (l.drop k));rw [← hN];have K:=Hd hN;clear hN;go_enter func180,ntmps180;go_wp2_with fail
 go_loopg [3,4] 10 (fun gk vv iv wr=>∃ (i u:Nat),gk+i=10∧i≤9∧vv=.int .u64 (u:Int)∧iv=.int .i64 (i:Int)∧u<2 ^ (7*i)∧k+i≤l.length∧IsR wr r v l (k+i)∧xi i u (l.drop (k+i))=N∧Mod (fun b=>b=r) w wr)
 case atStart=>exact ⟨0,0,rfl,by omega,rfl,rfl,by omega,by have:=h.le;omega,h,K.1.symm,Mod.refl _ _⟩
 case round =>
  obtain ⟨i,u,a2,hi,rfl,rfl,hu,a8,hR,hG,hM⟩:=hrel;have G:=Hd hR;have I:=Hd hM;by_cases hk:k+i<l.length
  ·
   obtain ⟨c,hc⟩:=Nm (l.getD (k+i) 0);have hd:l.drop (k+i)=c::l.drop (k+i+1):=by
    rw [List.drop_eq_getElem_cons hk,hc];simp [List.getD,hk]
   rw [hd] at hG;go_wp2_with fail;refine (jjx r (k+i) v l _ G.1 hk).mono ?_;rintro e w1 ⟨rfl,a4,a5⟩;rw [← hc];obtain ⟨y,hy⟩:=Nm (c.toNat);have J:=Hd (show V8 c=.int .u8 (y:Int) by rw [hy];rfl)
   rw [J.1];unfold xi at hG;rw [← hy] at hG;have a3:y<256:=by rw [hy];exact c.toNat_lt
   obtain ⟨m,hm⟩:=Nm (y % 128);have a0:m<128:=by omega
   have a9:bits .and .u8 (y:Int) 127=(m:Int):=jjm y m a3 hm;have b0:IntKind.u64.wrap (m:Int)=(m:Int):=by simp [IntKind.wrap,IntKind.bits,IntKind.signed];omega
   have z7:IntKind.i64.wrap (7*(i:Int))=7*(i:Int):=by simp [IntKind.wrap,IntKind.bits,IntKind.signed];omega
   have i0:(0:Int)≤(i:Int):=by omega
   have i9:(i:Int)≤9:=by omega
   have A:=Hd a4;have B:=Hd (I.1.trans a5);have D:=Hd a2;have E:=Hd hk;clear a4 a5 hR hM hd hc J a8
   rcases (show (i=9∧1<y)∨(i=9∧y=0)∨(i≠9∧0<i∧y=0)∨(i=0)∨(i≠9∧0<i∧y≠0)∨(i=9∧y=1) by omega) with hcs | hcs | hcs | hcs | hcs | hcs
   ·
    have f9:((i:Int)==9)=true:=by simp;omega
    have fg:(1:Int)<(y:Int):=by omega
    have H:=Hd (show N=(4,0,0) from by rw [← hG];exact if_pos (by omega))
    clear hu hG hm hy a3 a0 a2 hi hk hcs;go_wp2_with fail;rw [H.1];exact ⟨rfl,B.1,.inr ⟨by decide,rfl,_,A.1⟩⟩
   ·
    have f9:((i:Int)==9)=true:=by simp;omega
    have fg:¬ (1:Int)<(y:Int):=by omega
    have f0:(0:Int)<(i:Int):=by omega
    have fy:((y:Int)==0)=true:=by simp;omega
    have H:=Hd (show N=(4,0,0) from by rw [← hG];exact if_pos (by omega))
    clear hu hG hm hy a3 a0 a2 hi hk hcs;go_wp2_with fail;rw [H.1];exact ⟨rfl,B.1,.inr ⟨by decide,rfl,_,A.1⟩⟩
   ·
    have f9:((i:Int)==9)=false:=by simp;omega
    have f0:(0:Int)<(i:Int):=by omega
    have fy:((y:Int)==0)=true:=by simp;omega
    have H:=Hd (show N=(4,0,0) from by rw [← hG];exact if_pos (by omega))
    clear hu hG hm hy a3 a0 a2 hi hk hcs;go_wp2_with fail;rw [H.1];exact ⟨rfl,B.1,.inr ⟨by decide,rfl,_,A.1⟩⟩
   ·
    have f9:((i:Int)==9)=false:=by simp;omega
    have f0:¬ (0:Int)<(i:Int):=by omega
    rw [if_neg (by omega)] at hG
    have a6:=jbj u m i hu a0 hi (by omega)
    obtain ⟨q,hq⟩:=Nm (u+m*2 ^ (7*i));rw [← hq] at a6;by_cases a1:y<128
    ·
     have H:=Hd (show N=(0,q,i+1) from by rw [← hG,if_pos a1,hq,show m=y by omega])
     have g1:(y:Int)<128:=by omega
     clear hu hG hm hy a3 a0 a2 hi hk hq a1 hcs;go_wp2_with fail;go_ret;rw [H.1];refine ⟨B.1,.inl ⟨rfl,rfl,?_⟩⟩;have:=A.1
     rwa [Nat.add_assoc] at this
    ·
     have a7:i<9:=by omega
     have H:=Hd (show xi (i+1) q (l.drop (k+(i+1)))=N from by rw [← hG,if_neg a1,hq,show m=y-128 by omega,Nat.add_assoc])
     have F:=Hd (show q<2 ^ (7*(i+1)) from by
      rw [show 7*(i+1)=7*i+7 by omega,Nat.pow_add,hq]
      have:(m+1)*2 ^ (7*i)≤128*2 ^ (7*i):=Nat.mul_le_mul_right _ (by omega)
      rw [Nat.add_mul] at this;rw [Nat.mul_comm (2 ^ (7*i)) (2 ^ 7)];omega)
     have C:=Hd a7;have g1:¬ (y:Int)<128:=by omega
     clear hu hG hm hy a3 a0 a2 hi hk hq a1 a7 hcs;go_wp2_with fail
     go_roundg (10-(i+1))
     case measure=>have:=D.1;have:=C.1;omega
     case rel=>exact ⟨i+1,q,by have:=C.1;omega,by have:=C.1;omega,rfl,by go_num,F.1,by have:=E.1;omega,A.1,H.1,B.1⟩
   ·
    have f9:((i:Int)==9)=false:=by simp;omega
    have f0:(0:Int)<(i:Int):=by omega
    have fy:((y:Int)==0)=false:=by simp;omega
    rw [if_neg (by omega)] at hG
    have a6:=jbj u m i hu a0 hi (by omega)
    obtain ⟨q,hq⟩:=Nm (u+m*2 ^ (7*i));rw [← hq] at a6;by_cases a1:y<128
    ·
     have H:=Hd (show N=(0,q,i+1) from by rw [← hG,if_pos a1,hq,show m=y by omega])
     have g1:(y:Int)<128:=by omega
     clear hu hG hm hy a3 a0 a2 hi hk hq a1 hcs;go_wp2_with fail;go_ret;rw [H.1];refine ⟨B.1,.inl ⟨rfl,rfl,?_⟩⟩;have:=A.1
     rwa [Nat.add_assoc] at this
    ·
     have a7:i<9:=by omega
     have H:=Hd (show xi (i+1) q (l.drop (k+(i+1)))=N from by rw [← hG,if_neg a1,hq,show m=y-128 by omega,Nat.add_assoc])
     have F:=Hd (show q<2 ^ (7*(i+1)) from by
      rw [show 7*(i+1)=7*i+7 by omega,Nat.pow_add,hq]
      have:(m+1)*2 ^ (7*i)≤128*2 ^ (7*i):=Nat.mul_le_mul_right _ (by omega)
      rw [Nat.add_mul] at this;rw [Nat.mul_comm (2 ^ (7*i)) (2 ^ 7)];omega)
     have C:=Hd a7;have g1:¬ (y:Int)<128:=by omega
     clear hu hG hm hy a3 a0 a2 hi hk hq a1 a7 hcs;go_wp2_with fail
     go_roundg (10-(i+1))
     case measure=>have:=D.1;have:=C.1;omega
     case rel=>exact ⟨i+1,q,by have:=C.1;omega,by have:=C.1;omega,rfl,by go_num,F.1,by have:=E.1;omega,A.1,H.1,B.1⟩
   ·
    have f9:((i:Int)==9)=true:=by simp;omega
    have fg:¬ (1:Int)<(y:Int):=by omega
    have f0:(0:Int)<(i:Int):=by omega
    have fy:((y:Int)==0)=false:=by simp;omega
    rw [if_neg (by omega)] at hG
    have a6:=jbj u m i hu a0 hi (by omega)
    obtain ⟨q,hq⟩:=Nm (u+m*2 ^ (7*i));rw [← hq] at a6;have a1:y<128:=by omega
    have H:=Hd (show N=(0,q,i+1) from by rw [← hG,if_pos a1,hq,show m=y by omega])
    have g1:(y:Int)<128:=by omega
    clear hu hG hm hy a3 a0 a2 hi hk hq a1 hcs;go_wp2_with fail;go_ret;rw [H.1];refine ⟨B.1,.inl ⟨rfl,rfl,?_⟩⟩;have:=A.1
    rwa [Nat.add_assoc] at this
  ·
   have H:=Hd (show N=(2,0,0) from by
    rw [List.drop_of_length_le (by omega)] at hG
    rw [← hG];rfl)
   have L:=Hd hk;clear hu hG hR hM hk a8;go_wp2_with fail;refine (jkv r (k+i) v l _ G.1 L.1).mono ?_;rintro e w1 ⟨rfl,a4,a5⟩;have A:=Hd a4;have B:=Hd (I.1.trans a5);clear a4 a5;unfold pan;go_wp2_with fail;rw [H.1];exact ⟨rfl,B.1,.inr ⟨by decide,rfl,_,A.1⟩⟩
def xP (w:World)(r k:Nat):World:=((w.alloc (.cells #[.pointer (some ⟨r,0,none⟩)] 235)).alloc (.cells #[.nilIface] 49)).alloc (.cells #[.int .i64 (k:Int)] 3)
theorem jcQ (p q s:Addr)(w:World) :
  CallsD prog 189 #[.pointer (some p),.pointer (some q),.pointer (some s)] .returning w fun e u' w'=>e=.returned (.tuple #[])∧u'=.returning∧w'=w:=by
 refine callsD_of_wpS func189 rfl fun c₀ cs hu=>?_
 apply wpS_seq
 apply wpS_region
 simp [wpOpsS,go_sem,recoverD,hu,ntmps189,Exit.thenS]
 apply wpS_seq
 apply wpS_region
 simp [wpOpsS,go_sem,Exit.thenS]
 refine wpS_cond (t:=false) (by simp [Act.eval,Array.replicate]) ?_
 simp only [Bool.false_eq_true,if_false];refine wpS_of_wp (wp_skip ?_)
 cases c₀
 simp_all [bodyPostS,results,Tryz.results189]
theorem jkw (v:Value)(w:World):(Instr.typeAssert (.iface 91 v) 20 91 true).run prog w=.ok (.tuple #[v,.bool true]) w:=by kernel_rfl
theorem jbK (p q s:Addr)(n k:Int)(r:Nat)(x y:Value)(older:List PanicEntry)(w:World)(hp:w.cell? p=some (.int .i64 k))(hq:w.cell? q=some (.pointer (some ⟨r,0,none⟩)))(c1:w.cell? ⟨r,1,none⟩=some x)(f1:w.frozen? ⟨r,1,none⟩=false)(hs:(w.setCell ⟨r,1,none⟩ (.int .i64 k)).cell? s=some y)(fs:(w.setCell ⟨r,1,none⟩ (.int .i64 k)).frozen? s=false) :
  CallsD prog 189 #[.pointer (some p),.pointer (some q),.pointer (some s)] (.panicking ({ v:=.iface 91 (.int .i64 n),recovered:=false }::older)) w fun e u' w' =>
   e=.returned (.tuple #[])∧u'=.panicking ({ v:=.iface 91 (.int .i64 n),recovered:=true }::older)∧w'=(w.setCell ⟨r,1,none⟩ (.int .i64 k)).setCell s (.iface 91 (.int .i64 n)):=by
 have ht:=fun w=>jkw (.int .i64 n) w
 refine callsD_of_wpS func189 rfl fun c₀ cs hu=>?_
 apply wpS_seq
 apply wpS_region
 simp [wpOpsS,go_sem,recoverD,hu,ntmps189,Exit.thenS]
 apply wpS_seq
 apply wpS_region
 simp [wpOpsS,go_sem,Exit.thenS]
 refine wpS_cond (t:=true) (by simp [Act.eval,Array.replicate]) ?_
 simp only [if_true];refine wpS_of_wp ?_;simp only [Array.replicate,List.replicate];go_wp2_with fail
 simp [bodyPostS,results,Tryz.results189]
theorem jgo (r k:Nat)(v:Value)(l:List UInt8)(p q:Addr)(w:World)(h:IsR w r v l k)(A:World→Prop)(B:Int→World→Prop)(F:Nat→Prop)(hF:∀ i,F i→i<w.heap.size)(hc:Calls prog 181 #[.pointer (some p),.pointer (some q)] (xP w r k) fun e w'=>Mod F (xP w r k) w'∧((e=.returned (.tuple #[])∧A w')∨∃ n,e=pan n∧B n w'∧∃ j,IsR w' r v l j)) :
  Calls prog 178 #[.pointer (some ⟨r,0,none⟩),.func (.func 181) #[] #[.pointer (some p),.pointer (some q)]] w fun e w' =>
   (e=.returned .nilIface∧∃ w1,A w1∧Mod F (xP w r k) w1∧w'=w1.setCell ⟨w.heap.size+1,0,none⟩ .nilIface) ∨
   ∃ n,e=.returned (.iface 91 (.int .i64 n))∧∃ w1,B n w1∧Mod F (xP w r k) w1∧(∃ j,IsR w1 r v l j)∧w'=(w1.setCell ⟨r,1,none⟩ (.int .i64 (k:Int))).setCell ⟨w.heap.size+1,0,none⟩ (.iface 91 (.int .i64 n)):=by
 have a9:∀ (fn:Fn) (first cap:Array Value) (w:World),(Instr.makeFunc fn first cap).run prog w=.ok (.func fn first cap) w:=fun _ _ _ _=>rfl
 have a1:Box (xP w r k) w.heap.size #[.pointer (some ⟨r,0,none⟩)] 235:=((Box.new w #[.pointer (some ⟨r,0,none⟩)] _).below (ja _ _)).below (ja _ _);have a2:Box (xP w r k) (w.heap.size+1) #[.nilIface] 49:=by
  have:=(Box.new (w.alloc (.cells #[.pointer (some ⟨r,0,none⟩)] 235)) #[.nilIface] 49).below (ja _ (.cells #[.int .i64 (k:Int)] 3));rw [World.size_alloc] at this;exact this
 have a3:Box (xP w r k) (w.heap.size+2) #[.int .i64 (k:Int)] 3:=by
  have:=Box.new ((w.alloc (.cells #[.pointer (some ⟨r,0,none⟩)] 235)).alloc (.cells #[.nilIface] 49)) #[.int .i64 (k:Int)] 3;rw [World.size_alloc,World.size_alloc] at this;exact this
 have a8:∀ o o2,((w.alloc o).alloc o2).cell? ⟨r,1,none⟩=some (.int .i64 (k:Int)):=fun o o2=>((h.box.below (ja _ _)).below (ja _ _)).cell 1 _ rfl
 have G:=Hd hc;have H:=Hd a1;have C:=Hd a2;have D:=Hd a3;have L:=Hd h.le;have b0:=h.box.lt;clear hc h a1 a2 a3
 go_enter_defers func178,ntmps178
 go_wp2_with fail;refine G.1.mono ?_;rintro e w1 ⟨hm,a7⟩;have E:=Hd hm;have a4:=H.1.mod hm (fun hf=>by have:=hF _ hf;omega)
 have a0:=C.1.mod hm (fun hf=>by have:=hF _ hf;omega)
 have a5:=D.1.mod hm (fun hf=>by have:=hF _ hf;omega)
 rcases a7 with ⟨rfl,hA⟩ | ⟨n,rfl,hB,j,hj⟩
 ·
  have I:=Hd hA;have d0:=a0.cell 0 _ rfl;have d1:=a0.free 0;have d2:=(a0.set 0 .nilIface).cell 0 _ rfl;clear hA hm a4 a0 a5 a8;go_wp2_with fail;refine leaves_cons (f:=189) (args:=#[.pointer (some ⟨w.heap.size+1+1,0,none⟩),.pointer (some ⟨w.heap.size,0,none⟩),.pointer (some ⟨w.heap.size+1,0,none⟩)]) (by simp) (by simp [go_sem]) ?_
  refine (jcQ _ _ _ _).mono ?_;rintro e u' w'' ⟨rfl,rfl,rfl⟩;refine ⟨_,?_,.inl ⟨rfl,w1,I.1,E.1,rfl⟩⟩
  simp [results,Tryz.results178,go_sem,d2]
 ·
  have J:=Hd hB;have c0:=a5.cell 0 _ rfl;have c1:=a4.cell 0 _ rfl;have c2:=hj.box.cell 1 _ rfl;have c3:=hj.box.free 1;have a6:Box (w1.setCell ⟨r,1,none⟩ (.int .i64 (k:Int))) (w.heap.size+1) #[.nilIface] 49:=a0.set_other (by show r≠w.heap.size+1;omega) _
  have c4:=a6.cell 0 _ rfl;have c5:=a6.free 0;have d2:=(a6.set 0 (.iface 91 (.int .i64 n))).cell 0 _ rfl;have K:=Hd (show ∃ j,IsR w1 r v l j from ⟨j,hj⟩)
  clear hB hm a4 a0 a5 a8 hj;unfold pan;go_wp2_with fail;refine leaves_cons (f:=189) (args:=#[.pointer (some ⟨w.heap.size+1+1,0,none⟩),.pointer (some ⟨w.heap.size,0,none⟩),.pointer (some ⟨w.heap.size+1,0,none⟩)]) (by simp) (by simp [go_sem]) ?_
  refine (jbK _ _ _ n (k:Int) r _ _ [] _ c0 c1 c2 c3 c4 c5).mono ?_;rintro e u' w'' ⟨rfl,rfl,rfl⟩;refine ⟨_,?_,.inr ⟨n,rfl,w1,J.1,E.1,K.1,rfl⟩⟩
  simp [results,Tryz.results178,go_sem,d2]
theorem jhN (r k:Nat)(v:Value)(l:List UInt8)(p q s:Addr)(w:World)(h:IsR w r v l k)(A:World→Prop)(B:Int→World→Prop)(F:Nat→Prop)(hF:∀ i,F i→i<w.heap.size)(hc:Calls prog 179 #[.pointer (some p),.pointer (some q),.pointer (some s)] (xP w r k) fun e w'=>Mod F (xP w r k) w'∧((e=.returned (.tuple #[])∧A w')∨∃ n,e=pan n∧B n w'∧∃ j,IsR w' r v l j)) :
  Calls prog 178 #[.pointer (some ⟨r,0,none⟩),.func (.func 179) #[] #[.pointer (some p),.pointer (some q),.pointer (some s)]] w fun e w' =>
   (e=.returned .nilIface∧∃ w1,A w1∧Mod F (xP w r k) w1∧w'=w1.setCell ⟨w.heap.size+1,0,none⟩ .nilIface) ∨
   ∃ n,e=.returned (.iface 91 (.int .i64 n))∧∃ w1,B n w1∧Mod F (xP w r k) w1∧(∃ j,IsR w1 r v l j)∧w'=(w1.setCell ⟨r,1,none⟩ (.int .i64 (k:Int))).setCell ⟨w.heap.size+1,0,none⟩ (.iface 91 (.int .i64 n)):=by
 have a9:∀ (fn:Fn) (first cap:Array Value) (w:World),(Instr.makeFunc fn first cap).run prog w=.ok (.func fn first cap) w:=fun _ _ _ _=>rfl
 have a1:Box (xP w r k) w.heap.size #[.pointer (some ⟨r,0,none⟩)] 235:=((Box.new w #[.pointer (some ⟨r,0,none⟩)] _).below (ja _ _)).below (ja _ _);have a2:Box (xP w r k) (w.heap.size+1) #[.nilIface] 49:=by
  have:=(Box.new (w.alloc (.cells #[.pointer (some ⟨r,0,none⟩)] 235)) #[.nilIface] 49).below (ja _ (.cells #[.int .i64 (k:Int)] 3));rw [World.size_alloc] at this;exact this
 have a3:Box (xP w r k) (w.heap.size+2) #[.int .i64 (k:Int)] 3:=by
  have:=Box.new ((w.alloc (.cells #[.pointer (some ⟨r,0,none⟩)] 235)).alloc (.cells #[.nilIface] 49)) #[.int .i64 (k:Int)] 3;rw [World.size_alloc,World.size_alloc] at this;exact this
 have a8:∀ o o2,((w.alloc o).alloc o2).cell? ⟨r,1,none⟩=some (.int .i64 (k:Int)):=fun o o2=>((h.box.below (ja _ _)).below (ja _ _)).cell 1 _ rfl
 have G:=Hd hc;have H:=Hd a1;have C:=Hd a2;have D:=Hd a3;have L:=Hd h.le;have b0:=h.box.lt;clear hc h a1 a2 a3
 go_enter_defers func178,ntmps178
 go_wp2_with fail;refine G.1.mono ?_;rintro e w1 ⟨hm,a7⟩;have E:=Hd hm;have a4:=H.1.mod hm (fun hf=>by have:=hF _ hf;omega)
 have a0:=C.1.mod hm (fun hf=>by have:=hF _ hf;omega)
 have a5:=D.1.mod hm (fun hf=>by have:=hF _ hf;omega)
 rcases a7 with ⟨rfl,hA⟩ | ⟨n,rfl,hB,j,hj⟩
 ·
  have I:=Hd hA;have d0:=a0.cell 0 _ rfl;have d1:=a0.free 0;have d2:=(a0.set 0 .nilIface).cell 0 _ rfl;clear hA hm a4 a0 a5 a8;go_wp2_with fail;refine leaves_cons (f:=189) (args:=#[.pointer (some ⟨w.heap.size+1+1,0,none⟩),.pointer (some ⟨w.heap.size,0,none⟩),.pointer (some ⟨w.heap.size+1,0,none⟩)]) (by simp) (by simp [go_sem]) ?_
  refine (jcQ _ _ _ _).mono ?_;rintro e u' w'' ⟨rfl,rfl,rfl⟩;refine ⟨_,?_,.inl ⟨rfl,w1,I.1,E.1,rfl⟩⟩
  simp [results,Tryz.results178,go_sem,d2]
 ·
  have J:=Hd hB;have c0:=a5.cell 0 _ rfl;have c1:=a4.cell 0 _ rfl;have c2:=hj.box.cell 1 _ rfl;have c3:=hj.box.free 1;have a6:Box (w1.setCell ⟨r,1,none⟩ (.int .i64 (k:Int))) (w.heap.size+1) #[.nilIface] 49:=a0.set_other (by show r≠w.heap.size+1;omega) _
  have c4:=a6.cell 0 _ rfl;have c5:=a6.free 0;have d2:=(a6.set 0 (.iface 91 (.int .i64 n))).cell 0 _ rfl;have K:=Hd (show ∃ j,IsR w1 r v l j from ⟨j,hj⟩)
  clear hB hm a4 a0 a5 a8 hj;unfold pan;go_wp2_with fail;refine leaves_cons (f:=189) (args:=#[.pointer (some ⟨w.heap.size+1+1,0,none⟩),.pointer (some ⟨w.heap.size,0,none⟩),.pointer (some ⟨w.heap.size+1,0,none⟩)]) (by simp) (by simp [go_sem]) ?_
  refine (jbK _ _ _ n (k:Int) r _ _ [] _ c0 c1 c2 c3 c4 c5).mono ?_;rintro e u' w'' ⟨rfl,rfl,rfl⟩;refine ⟨_,?_,.inr ⟨n,rfl,w1,J.1,E.1,K.1,rfl⟩⟩
  simp [results,Tryz.results178,go_sem,d2]
end Go.Proofs.YtgcnolapjppbpaaGreatDoor
