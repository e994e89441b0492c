/-
  Texts of one proof, one behind the other.
-/
import Derived.Test.YtgcnolapjppbpaaGreatDoorP05
import Derived.Test.YtgcnolapjppbpaaGreatDoorP22
import Derived.Test.YtgcnolapjppbpaaGreatDoorP16
import Derived.Deep.RegionHeld3
import Derived.Test.YtgcnolapjppbpaaGreatDoorP02
import Derived.Test.YtgcnolapjppbpaaGreatDoorP23
import Derived.Test.YtgcnolapjppbpaaGreatDoorP20
import Derived.Test.YtgcnolapjppbpaaGreatDoorP33
import Derived.Test.YtgcnolapjppbpaaGreatDoorP19
import Derived.Test.YtgcnolapjppbpaaGreatDoorP31
import Derived.Test.YtgcnolapjppbpaaGreatDoorP27
import Derived.Test.YtgcnolapjppbpaaGreatDoorP07
import Derived.Test.YtgcnolapjppbpaaGreatDoorP48
import Derived.Test.YtgcnolapjppbpaaGreatDoorP45
import Derived.Test.YtgcnolapjppbpaaGreatDoorP00
namespace Go.Proofs.YtgcnolapjppbpaaGreatDoor
open Go.RowKit _root_.Go.Proofs.Tryz
set_option maxRecDepth 100000
set_option maxHeartbeats 25600000
theorem jiH (d:DiskM)(i:Int)(h:0≤i∧i<d.strs.length):jX d i=LB (d.strs.getD i.toNat ByteArray.empty):=by
 unfold jX DiskM.read;rw [if_pos h]
theorem jhJ (d:DiskM)(i:Int)(h:¬ (0≤i∧i<d.strs.length)):jX d i = []:=by
 unfold jX DiskM.read;rw [if_neg h];rfl
theorem jbD {d:DiskM}(h:d.Wf)(b:Int):(jX d b).length≤9223372036854775807:=by
 have:∀ (l:List (Int × ByteArray)) (s:List ByteArray),(∀ r∈l,r.2.size≤256)→(∀ x∈s,x.size≤256)→∀ x∈yo s l,x.size≤256:=by
  intro l
  induction l with
  | nil=>intro s _ h2;exact h2
  | cons r l ih =>
   intro s h1 h2;have:yo s (r::l)=yo (s.set r.1.toNat r.2) l:=rfl;rw [this];refine ih _ (fun r' hr=>h1 r' (by simp [hr])) fun x hx=>?_
   rcases List.mem_or_eq_of_mem_set hx with h | rfl
   · exact h2 x h
   · exact h1 r (by simp)
 by_cases hb:0≤b∧b<d.strs.length
 ·
  rw [jiH _ _ hb,jkn];have h1:=this d.trail (List.replicate d.strs.length ByteArray.empty) h.short (fun x hx=>by rw [(List.mem_replicate.1 hx).2];exact Nat.zero_le _)
  rw [← h.play] at h1;have:d.strs.getD b.toNat ByteArray.empty∈d.strs:=by
   have hi:b.toNat<d.strs.length:=by omega
   simp [List.getD,hi]
  have:=h1 _ this;omega
 · rw [jhJ _ _ hb];simp
theorem jeD (d:DiskM)(p:Nat)(F:Nat→Prop)(w:World)(h:IsDisk w d p F) :
  Calls prog 19 #[.pointer (some ⟨p,0,none⟩)] w fun e w'=>e=.returned (.int .i64 (d.trail.length:Int))∧w=w':=by
 obtain ⟨bb,tv,pv,q,h1,h2,h3,h4,h5,h6,h7,h8,rfl⟩:=h;obtain ⟨ta,tc,rfl,_,_⟩:=xJ h3;have hc:=h1.cell 1 _ rfl;clear h1 h2 h3 h4 h7 h8;go_enter func19,ntmps19
 go_wp2
 go_ret;exact ⟨rfl,rfl⟩
def vZ:List SesM→List SesM→Bool
 | [],[]=>true
 | a::l,b::m=>xZ a b&&vZ l m
 | _,_=>false
theorem uH:∀ {l m:List SesM},vZ l m=true↔l=m
 | [],[]=>by simp [vZ]
 | [],b::m=>by simp [vZ]
 | a::l,[]=>by simp [vZ]
 | a::l,b::m=>by
  unfold vZ;rw [Bool.and_eq_true,yJ,uH]
  simp
theorem jgu {l m:List SesM}(h:l≠m):vZ l m=false:=by
 cases e:vZ l m
 · rfl
 · exact absurd (uH.1 e) h
def jeE (a b:StM):Bool:=(a.clock==b.clock)&&((a.births==b.births)&&vZ a.l b.l)
theorem jdZ (v v':Value)(l m:List SesM)(w:World)(hv:RdS w v l)(a4:RdS w v' m) :
  Calls prog 44 #[v,v'] w fun e w'=>e=.returned (.bool (vZ l m))∧Below w.heap.size w w':=by
 obtain ⟨a,cap,rfl,a0,a6⟩:=hv.slice;obtain ⟨a2,cap2,rfl,a5,b7⟩:=a4.slice;have HV:=Lib.hid hv;have HV2:=Lib.hid a4;have b2:l.length≤9223372036854775807:=by omega
 have b0:m.length≤9223372036854775807:=by omega
 by_cases hlm:l.length=m.length
 rotate_left
 ·
  have HR:=Lib.hid (jgu (l:=l) (m:=m) (fun e=>hlm (by rw [e])))
  have b3:((l.length:Int) != (m.length:Int))=true:=by rw [bne_iff_ne];omega
  clear hlm hv a4 a0 a5 HV HV2;go_enter func44,ntmps44;go_wp2_with fail;go_ret;rw [HR.out];exact ⟨rfl,Below.refl _ _⟩
 obtain ⟨n,hN⟩:=Nm (l.length);rw [← hlm] at HV2 a5 ⊢;rw [← hN] at HV HV2 a0 a5 b2 ⊢;have HN:=Lib.hid hN;have HLM:=Lib.hid hlm;have b3:((n:Int) != (n:Int))=false:=by rw [bne_eq_false_iff_eq]
 clear hlm hv a4 a0 a5 hN b0;go_enter func44,ntmps44;go_wp2_with fail
 go_loopg [5] n (fun gk iv wr=>∃ k:Nat,gk+k=n∧iv=.int .i64 (k:Int)∧Below w.heap.size w wr∧Hid (l.take k=m.take k))
 case atStart=>exact ⟨0,rfl,rfl,Below.refl _ _,Lib.hid rfl⟩
 case round =>
  obtain ⟨k,a7,rfl,hb,HT⟩:=hrel;have k0:(0:Int)≤(k:Int):=by omega
  have HGK:=Lib.hid a7;have HB:=Lib.hid hb;clear a7;by_cases hk:k<n
  ·
   have k1:(k:Int)<(n:Int):=by omega
   have a8:k<l.length:=by have:=HN.out;omega
   have a9:k<m.length:=by have:=HLM.out;omega
   obtain ⟨s,hs⟩:=Nm (l[k]);obtain ⟨u,hu⟩:=Nm (m[k]);obtain ⟨rb,ro,b4,a1⟩:=(HV.out.below hb).row k a8;subst b4;rw [← hs] at a1;obtain ⟨qb,qo,b5,a3⟩:=(HV2.out.below hb).row k a9;subst b5;rw [← hu] at a3;have HROW:=Lib.hid (show ∀ wq,(∃ n,wq=wr.drewN n)→wq.rangeAt rb (ro+k*12) s.cells.toList from fun wq hq=>by
    obtain ⟨q,rfl⟩:=hq;exact a1)
   have HQOW:=Lib.hid (show ∀ wq,(∃ n,wq=wr.drewN n)→wq.rangeAt qb (qo+k*12) u.cells.toList from fun wq hq=>by
    obtain ⟨q,rfl⟩:=hq;exact a3)
   have HLK:=Lib.hid (show s=l[k]∧u=m[k] from ⟨hs,hu⟩)
   have HK:=Lib.hid hk;clear a1 a3 hs hu hk hb;obtain ⟨r,hr⟩:=Nm (xZ s u);have HR:=Lib.hid hr;have b1:∀ w,(binOp .neq 45 (.agg s.cells) (.agg u.cells)).run prog w=.ok (.bool (!r)) w:=fun w=>by rw [jaV,HR.out]
   clear hr;go_wp2_with fail;refine wp_region_quiet_lit (by kernel_rfl) (by kernel_rfl) ?_
   repeat (go_big_quiet_step (fail))
   refine yW rfl 45 (.tmp 19) rfl rb (ro+k*12) rfl s.cells.toList _ HROW.out underlying45 rfl (by kernel_rfl) ?_
   intro c1 a0;have ec1:c1=s.cells:=by rw [a0.out]
   subst ec1;simp only [Act.put,List.setIfInBounds_toArray,List.set_cons_zero,List.set_cons_succ]
   repeat (go_big_quiet_step (fail))
   refine yW rfl 45 (.tmp 23) rfl qb (qo+k*12) rfl u.cells.toList _ HQOW.out underlying45 rfl (by kernel_rfl) ?_
   intro c2 a6;have ec2:c2=u.cells:=by rw [a6.out]
   subst ec2;simp only [Act.put,List.setIfInBounds_toArray,List.set_cons_zero,List.set_cons_succ]
   repeat (go_big_quiet_step (fail))
   refine wpQuiet_nil ?_;intro wq b6;obtain ⟨nq,rfl⟩:=b6;have HB4:=Lib.hid (HB.out.trans ((jC _ nq).mono HB.out.size));clear b1 a0 a6 HROW HQOW
   cases r
   ·
    have HF:=Lib.hid (jgu (l:=l) (m:=m) (fun e=>by
     obtain ⟨h1,h2⟩:=HLK.out;have h3:=HR.out;rw [h1,h2] at h3;subst e;rw [yJ.2 rfl] at h3
     cases h3))
    clear HB HR HLK;go_wp2_with fail;go_ret;rw [HF.out];exact ⟨rfl,HB4.out⟩
   ·
    have HT2:=Lib.hid (show l.take (k+1)=m.take (k+1) by
     rw [List.take_succ_eq_append_getElem a8,List.take_succ_eq_append_getElem a9,HT.out,← HLK.out.1,← HLK.out.2,yJ.1 HR.out.symm])
    clear HB HR HLK HT;go_wp2_with fail
    go_roundg (n-(k+1))
    case measure=>have:=HGK.out;have:=HK.out;omega
    case rel=>exact ⟨k+1,by have:=HGK.out;have:=HK.out;omega,by go_num,HB4.out,HT2⟩
  ·
   have k1:¬ (k:Int)<(n:Int):=by omega
   have HE:=Lib.hid (show vZ l m=true from uH.2 (by
    have h:=HT.out;rw [List.take_of_length_le (by have:=HN.out;omega),List.take_of_length_le (by have:=HN.out;have:=HLM.out;omega)] at h
    exact h))
   clear hk hb HT;go_wp2_with fail;go_ret;rw [HE.out];exact ⟨rfl,HB.out⟩
theorem jcd (a b:StM)(v v':Value)(w:World)(hv:RdS w v a.l)(a0:RdS w v' b.l) :
  Calls prog 16 #[.agg #[.int .i64 a.clock,.int .i64 a.births,v],.agg #[.int .i64 b.clock,.int .i64 b.births,v']] w fun e w'=>e=.returned (.bool (jeE a b))∧Below w.heap.size w w':=by
 have H:=Hd (fun o o2=>jn w o o2)
 have A:=Hd (fun w' hb=>jdZ v v' a.l b.l w' (hv.below hb) (a0.below hb))
 obtain ⟨xa,xc,rfl,_⟩:=hv.slice;obtain ⟨ya,yc,rfl,_⟩:=a0.slice;unfold jeE;generalize vZ a.l b.l=r at A ⊢;clear hv a0;obtain ⟨c1,b1,l1⟩:=a;obtain ⟨c2,b2,l2⟩:=b;simp only at A ⊢;go_enter func16,ntmps16
 cases e1:(c1==c2)
 ·
  go_wp2_with fail;go_ret;exact ⟨rfl,H.1 _ _⟩
 cases e2:(b1==b2)
 ·
  go_wp2_with fail;go_ret;exact ⟨rfl,H.1 _ _⟩
 go_wp2_with fail;refine (A.1 _ (H.1 _ _)).mono ?_;rintro e w1 ⟨rfl,hb⟩;have B:=Hd ((H.1 _ _).trans (hb.mono (H.1 (.cells #[.int .i64 c1,.int .i64 b1,.slice xa l1.length xc] 30) (.cells #[.int .i64 c2,.int .i64 b2,.slice ya l2.length yc] 30)).size));clear hb A H;go_wp2_with fail;go_ret;exact ⟨rfl,B.1⟩
open Go.RowKit Go.Extern.Stop Go.Stop Go.Extern
theorem jha (t:Addr)(w:World):(ReflectliteValue.unpack (.iface 102 (.pointer (some t)))).run prog w
  = .ok (.agg #[.pointer (some ⟨2,102,none⟩),.pointer (some ⟨w.heap.size,0,none⟩),.int .u64 150]) (w.alloc (.cells #[.pointer (some t)] 102)):=by kernel_rfl
theorem jjw (a : Addr)(w : World) : (ReflectliteValue.methodAny (ReflectliteValue.valueError "reflectlite.Value.Type" 0) (fun t _ _ _ => ReflectliteType.toType t) #[.agg #[.pointer (some ⟨2, 102, none⟩), .pointer (some a), .int .u64 150]]).run prog w
  = .ok (.iface 193 (.agg #[.pointer (some ⟨2,102,none⟩)])) w:=by kernel_rfl
theorem jdA (h : Value)(w : World) : (Go.method 450 193 (.agg #[h]) "Kind").run prog w = .ok (206, h) w := by kernel_rfl
theorem jjD (w:World):((ReflectliteType.abiMethod fun t=>(fun a:Nat=>Value.int IntKind.u8 (a:Int)) <$> Rtype.kind t) #[.pointer (some ⟨2,102,none⟩)]).run prog w=.ok (.int .u8 22) w:=by kernel_rfl
theorem jjK (w:World):((ReflectliteType.abiMethod fun t=>(fun a:Nat=>Value.int IntKind.u8 (a:Int)) <$> Rtype.kind t) #[.pointer (some ⟨2,99,none⟩)]).run prog w=.ok (.int .u8 25) w:=by kernel_rfl
theorem rlm (z:Sem Value)(f:TypeId→Addr→Nat→Nat→Sem Value)(v:Value) :
  ReflectliteValue.method z f #[v]=(do match ← ReflectliteValue.parts v with | none=>z | some (t,a,fl)=>f t a fl (fl % 32)):=rfl
theorem jiy (a:Addr)(w:World):(ReflectliteValue.parts (.agg #[.pointer (some ⟨2,102,none⟩),.pointer (some a),.int .u64 150])).run prog w=.ok (some (102,a,150)) w:=by kernel_rfl
theorem jjp (a p:Addr)(W:World)(ha:W.cell? a=some (.pointer (some p))) :
  (ReflectliteValue.method (ReflectliteValue.valueError "reflectlite.Value.IsNil" 0) ReflectliteValue.isNil #[.agg #[.pointer (some ⟨2, 102, none⟩), .pointer (some a), .int .u64 150]]).run prog W = .ok (.bool false) W := by
 rw [rlm];simp only [Sem.run_bind,jiy,Result.andThen]
 simp [ReflectliteValue.isNil,loadVar,isAgg,underlying,underlying102,ha,Result.andThen]
theorem jdI (h : Value)(w : World) : (Go.method 450 193 (.agg #[h]) "Elem").run prog w = .ok (232, .agg #[h]) w := by kernel_rfl
theorem uR (h : Value)(w : World) : (Go.method 450 193 (.agg #[h]) "Implements").run prog w = .ok (233, .agg #[h]) w := by kernel_rfl
theorem uc (h : Value)(w : World) : (Go.method 450 193 (.agg #[h]) "AssignableTo").run prog w = .ok (230, .agg #[h]) w := by kernel_rfl
theorem jjZ (w:World):(ReflectliteType.method ReflectliteType.elem #[.agg #[.pointer (some ⟨2,102,none⟩)]]).run prog w=.ok (.iface 193 (.agg #[.pointer (some ⟨2,99,none⟩)])) w:=by kernel_rfl
theorem jdQ (w : World) : (ReflectliteType.relation "Implements" ReflectliteType.implements_ #[.agg #[.pointer (some ⟨2, 99, none⟩)], .iface 193 (.agg #[.pointer (some ⟨2, 49, none⟩)])]).run prog w = .ok (.bool true) w := by kernel_rfl
theorem jic (v:Value)(w:World):(ReflectliteType.typeOf #[.iface 91 v]).run prog w=.ok (.iface 193 (.agg #[.pointer (some ⟨2,91,none⟩)])) w:=by kernel_rfl
theorem jdK (w : World) : (ReflectliteType.relation "AssignableTo" ReflectliteType.assignableTo #[.agg #[.pointer (some ⟨2, 91, none⟩)], .iface 193 (.agg #[.pointer (some ⟨2, 99, none⟩)])]).run prog w = .ok (.bool false) w := by kernel_rfl
theorem jjP (v:Value)(xT:TypeId)(w:World):(Instr.typeAssert (.iface 91 v) xT 211 true).run prog w=.ok (.tuple #[.nilIface,.bool false]) w:=run_typeAssert_lacksB underlying211 (by kernel_rfl) (by kernel_rfl) v xT w
def ErrType (w:World):Prop:=w.cell? ⟨0,0,none⟩=some (.iface 193 (.agg #[.pointer (some ⟨2,49,none⟩)]))
theorem ErrType.lt {w:World}(h:ErrType w):0<w.heap.size:=by
 rcases Nat.eq_zero_or_pos w.heap.size with h0 | h1
 · unfold ErrType at h;simp [World.cell?,h0] at h
 · exact h1
theorem ErrType.below {w w':World}(h:ErrType w)(hb:Below w.heap.size w w'):ErrType w':=jf hb h
theorem jjV (n:Int)(t:Addr)(w:World)(hg:ErrType w) :
  Calls prog 43 #[zu n,.iface 102 (.pointer (some t))] w fun ev w'=>ev=.returned (.bool false)∧Below w.heap.size w w':=by
 have h6:=@run_callFunc_extern prog 78 _ (fun args=>ReflectliteValue.unpack (args.getD 0 (.tuple #[]))) func78 (by kernel_rfl) (by kernel_rfl) (by kernel_rfl) (by kernel_rfl)
 have h7 := @run_callFunc_extern prog 79 _ (ReflectliteValue.methodAny (ReflectliteValue.valueError "reflectlite.Value.Type" 0) (fun t _ _ _ => ReflectliteType.toType t)) func79 (by kernel_rfl) (by kernel_rfl) (by kernel_rfl) (by kernel_rfl)
 have h8 := @run_callFunc_extern prog 80 _ (ReflectliteValue.method (ReflectliteValue.valueError "reflectlite.Value.IsNil" 0) ReflectliteValue.isNil) func80 (by kernel_rfl) (by kernel_rfl) (by kernel_rfl) (by kernel_rfl)
 have a1:=@run_callFunc_extern prog 206 _ (ReflectliteType.abiMethod fun t=>do pure (.int .u8 (← Rtype.kind t))) func206 (by kernel_rfl) (by kernel_rfl) (by kernel_rfl) (by kernel_rfl)
 have a2:=@run_callFunc_extern prog 232 _ (ReflectliteType.method ReflectliteType.elem) func232 (by kernel_rfl) (by kernel_rfl) (by kernel_rfl) (by kernel_rfl)
 have a3 := @run_callFunc_extern prog 233 _ (ReflectliteType.relation "Implements" ReflectliteType.implements_) func233 (by kernel_rfl) (by kernel_rfl) (by kernel_rfl) (by kernel_rfl)
 have a4:=@run_callFunc_extern prog 73 _ ReflectliteType.typeOf func73 (by kernel_rfl) (by kernel_rfl) (by kernel_rfl) (by kernel_rfl)
 have a5 := @run_callFunc_extern prog 230 _ (ReflectliteType.relation "AssignableTo" ReflectliteType.assignableTo) func230 (by kernel_rfl) (by kernel_rfl) (by kernel_rfl) (by kernel_rfl)
 have tO:=jic;have mA:=uc;have a25:=jdK;have f6:=jha;have f7:=jjw;have mK:=jdA;have mE:=jdI;have mI:=uR;have k27:=jjD;have k25:=jjK;have e27:=jjZ;have i25:=jdQ;have nA:=jjP;have nU:=jau;have nV:=jae;have n8:=jjp ⟨w.heap.size,0,none⟩ t ((w.alloc (.cells #[.pointer (some t)] 102)).alloc (.cells #[.pointer (some ⟨2,102,none⟩),.pointer (some ⟨w.heap.size,0,none⟩),.int .u64 150] 157)) (by simp)
 have a0:=hg.lt;unfold ErrType at hg;have a6:((w.alloc (.cells #[.pointer (some t)] 102)).alloc (.cells #[.pointer (some ⟨2,102,none⟩),.pointer (some ⟨w.heap.size,0,none⟩),.int .u64 150] 157)).cell? ⟨0,0,none⟩=some (.iface 193 (.agg #[.pointer (some ⟨2,49,none⟩)])):=by
  rw [World.cell?_alloc_lt _ _ ⟨0,0,none⟩ (by simp),World.cell?_alloc_lt _ _ ⟨0,0,none⟩ a0];exact hg
 unfold zu;go_enter func43,ntmps43
 go_wp2
 refine wp_loop_rounds 1 ?_;rw [rounds_succ]
 go_wp2
 go_ret;refine ⟨rfl,?_⟩
 repeat (refine Below.alloc ?_ (by simp <;> omega) _)
 exact Below.refl _ _
theorem jbs (w:World):Calls prog 14 #[.nilIface,.int .i64 0] w fun e w'=>e=.returned (.bool true)∧Below w.heap.size w w':=by
 have hb:=ja w (.cells #[.int .i64 0,.int .i64 0] 99);have H:=Hd hb;clear hb;go_enter func14,ntmps14;go_wp2_with fail;refine (jj5 _).mono ?_;rintro e w' ⟨rfl,rfl⟩;go_wp2_with fail;go_ret;exact ⟨rfl,H.1⟩
theorem jgs (n:Nat)(w:World)(h1:1≤n)(h2:n≤24)(hg:ErrType w):Calls prog 14 #[zu n,.int .i64 (n:Int)] w fun e w'=>e=.returned (.bool true)∧Below w.heap.size w w':=by
 have hb:=ja w (.cells #[.int .i64 0,.int .i64 0] 99);have C:=Hd hb;have H:=Hd (jjV (n:Int) ⟨w.heap.size,0,none⟩ _ (hg.below hb));have A:=Hd (fun w=>jir n w h1 h2)
 clear hb hg;unfold zu at H A ⊢;go_enter func14,ntmps14;go_wp2_with fail;refine (A.1 _).mono ?_;rintro e w' ⟨rfl,rfl⟩;go_wp2_with fail;refine H.1.mono ?_;rintro e w' ⟨rfl,a0⟩;have B:=Hd (jh C.1 a0);clear a0;go_wp2_with fail;go_ret;exact ⟨rfl,B.1⟩
theorem uI (er:Int)(w:World)(h1:0≤er)(h2:er≤24)(hg:ErrType w):Calls prog 14 #[jo er,.int .i64 er] w fun e w'=>e=.returned (.bool true)∧Below w.heap.size w w':=by
 by_cases h0:er=0
 ·
  subst h0;exact jbs w
 ·
  obtain ⟨n,rfl⟩:=Int.eq_ofNat_of_zero_le h1;have e:jo (n:Int)=zu n:=by unfold jo;rw [if_neg h0];rfl
  have:=jgs n w (by omega) (by omega) hg
  rw [← e] at this;exact this
theorem jgb {d:DiskM}(h:d.Wf):∀ s∈d.strs,s.size≤256:=by
 have:∀ (l:List (Int × ByteArray)) (s:List ByteArray),(∀ r∈l,r.2.size≤256)→(∀ x∈s,x.size≤256)→∀ x∈yo s l,x.size≤256:=by
  intro l
  induction l with
  | nil=>intro s _ h2;exact h2
  | cons r l ih =>
   intro s h1 h2;have:yo s (r::l)=yo (s.set r.1.toNat r.2) l:=rfl;rw [this];refine ih _ (fun r' hr=>h1 r' (by simp [hr])) fun x hx=>?_
   rcases List.mem_or_eq_of_mem_set hx with h | rfl
   · exact h2 x h
   · exact h1 r (by simp)
 have h1:=this d.trail (List.replicate d.strs.length ByteArray.empty) h.short (fun x hx=>by rw [(List.mem_replicate.1 hx).2];exact Nat.zero_le _)
 rw [← h.play] at h1;exact h1
theorem jeP (ps pd:Nat)(ep:UInt32)(lv:Value)(b:Bool)(w:World)(h:StoB w ps pd ep lv b):Calls prog 17 #[.pointer (some ⟨ps,0,none⟩)] w fun e w'=>e=.returned (.int .i64 (I32 ep))∧w'=w:=by
 have c1:w.cell? ⟨ps,1,none⟩=some (.int .u32 (I32 ep)):=h.bx.cell 1 _ rfl;obtain ⟨h1,h2⟩:=jiV ep;clear h;go_enter func17,ntmps17;go_wp2_with fail;go_ret;exact ⟨rfl,rfl⟩
theorem jcM (ps pd pl:Nat)(ep:UInt32)(b:Bool)(l:LogM)(w:World)(h:StoB w ps pd ep (.pointer (some ⟨pl,0,none⟩)) b)(hl:xB w l pl pd):Calls prog 18 #[.pointer (some ⟨ps,0,none⟩)] w fun e w'=>e=.returned (.int .i64 (l.records:Int))∧w'=w:=by
 have c2:w.cell? ⟨ps,2,none⟩=some (.pointer (some ⟨pl,0,none⟩)):=h.bx.cell 2 _ rfl;have H:=Hd (jdS l pl pd w hl);clear h hl;go_enter func18,ntmps18;go_wp2_with fail;refine H.1.mono ?_;rintro e w1 ⟨rfl,rfl⟩;go_wp2_with fail;go_ret;exact ⟨rfl,rfl⟩
theorem jdJ (st:StM)(e:EvtM)(v:Value)(w:World)(hv:RdS w v st.l)(hn:st.l.length≤1000000000)(hu:e.s.user.length≤9223372036854775807)(hl:e.s.label.length≤9223372036854775807)(b3:e.s.scopes<2 ^ 64) :
  Calls prog 12 #[.agg #[.int .i64 st.clock,.int .i64 st.births,v],.agg e.cells] w fun ev w'=>∃ o,ev=.returned (.tuple #[.agg #[.int .i64 (jH st e).2.clock,.int .i64 (jH st e).2.births,o],.bool ((jH st e).1==0)])∧OwnS w' w.heap.size o (jH st e).2.l∧Below w.heap.size w w':=by
 have a3:=fun v' w' h=>jbS st e v' w' h hn hu hl b3
 obtain ⟨va,vc,rfl,_⟩:=hv.slice;obtain ⟨D,hD⟩:=Nm (jH st e);rw [← hD] at a3 ⊢;obtain ⟨er,C,B,L⟩:=D;simp only at a3 ⊢;obtain ⟨n,b4⟩:=Nm (st.l.length);rw [← b4] at hv ⊢;obtain ⟨c,hc⟩:=Nm (st.clock);obtain ⟨b,hb⟩:=Nm (st.births);rw [← hc,← hb] at a3 ⊢;have a7:=jn w (.cells #[.int .i64 c,.int .i64 b,.slice va n vc] 30) (.cells e.cells 47);have a8:=a7.trans ((ja ((w.alloc (.cells #[.int .i64 c,.int .i64 b,.slice va n vc] 30)).alloc (.cells e.cells 47)) (.cells #[.int .i64 0,.int .i64 0,.slice none 0 0] 30)).mono a7.size);have a9:=(Box.new (w.alloc (.cells #[.int .i64 c,.int .i64 b,.slice va n vc] 30)) e.cells 47).below (ja _ (.cells #[.int .i64 0,.int .i64 0,.slice none 0 0] 30));have b0:=Box.new ((w.alloc (.cells #[.int .i64 c,.int .i64 b,.slice va n vc] 30)).alloc (.cells e.cells 47)) #[.int .i64 0,.int .i64 0,.slice none 0 0] 30;rw [World.size_alloc] at a9;rw [World.size_alloc,World.size_alloc] at b0;have J:=Hd (yP a9);have A:=Hd b0;have F:=Hd a8;have O:=Hd (hv.below a8);have M:=Hd a3;clear hD hv hn hu hl b3 a3 b4 hc hb a7 a8 a9 b0;go_enter func12,ntmps12
 go_wp2_with ((with_reducible refine je ?b01 47 (.tmp 3) ?b11 (w.heap.size+1) 0 ?b21 e.cells.toList _ J.1 underlying47 ?b31 ?b41 ?b81);(case b11=>rfl);(case b01=>rfl);(case b21=>rfl);(case b31=>rfl);(case b41=>kernel_rfl))
 intro cv b5;have ecv:cv=e.cells:=by rw [b5.out]
 subst ecv;clear b5;go_wp2_with fail;obtain ⟨w1,b6⟩:=Nm (((w.alloc (.cells #[.int .i64 c,.int .i64 b,.slice va n vc] 30)).alloc (.cells e.cells 47)).alloc (.cells #[.int .i64 0,.int .i64 0,.slice none 0 0] 30));rw [← b6] at A F O ⊢;clear b6 J;refine (M.1 _ w1 O.1).mono ?_;rintro ev w2 ⟨o,rfl,ho,hb⟩;obtain ⟨oa,oc,rfl,_⟩:=ho.slice;obtain ⟨m,hm⟩:=Nm (L.length);rw [← hm] at ho ⊢;have a6:=ja w2 (.cells #[.int .i64 C,.int .i64 B,.slice oa m oc] 30);have I:=Hd (Box.new w2 #[.int .i64 C,.int .i64 B,.slice oa m oc] 30);have G:=Hd ((A.1.below hb).below a6);have b1:=F.1.trans (hb.mono F.1.size);have E:=Hd (b1.trans (a6.mono b1.size));have P:=Hd ((ho.below a6).base (base':=w.heap.size) F.1.size);have N:=Hd (show ∀ k,(Value.slice oa m oc).ownBlock=some k→w.heap.size+2<k from fun k hk=>by have:=(ho.lt k hk).1;have:=A.1.lt;omega)
 have Q:=Hd (show w.heap.size+2<w2.heap.size from Nat.lt_of_lt_of_le A.1.lt hb.size)
 clear ho hb a6 b1 hm A F O M;go_wp2_with fail;obtain ⟨wr,b7⟩:=Nm (w2.alloc (.cells #[.int .i64 C,.int .i64 B,.slice oa m oc] 30));rw [← b7] at I G E P ⊢;obtain ⟨q,hq⟩:=Nm (w2.heap.size);rw [← hq] at I Q ⊢;clear b7 hq;by_cases h0:er=0
 ·
  subst h0;rw [show jo 0=.nilIface from rfl]
  refine wp_region_held_drew (S:=fun W=>Box W q #[.int .i64 C,.int .i64 B,.slice oa m oc] 30) (by kernel_rfl) (I.1.below (jd wr)) (fun a0=>?_)
  refine Tk 0 14 ?_ (v:=.agg #[.int .i64 C,.int .i64 B,.slice oa m oc]) (hy:=fun w' b2=>jO 30 (.tmp 6) rfl (q) (0) rfl (#[.int .i64 C,.int .i64 B,.slice oa m oc]).toList _ (js b2) underlying30 rfl (by kernel_rfl))
  refine Tk 1 15 ?_;refine Tk 2 16 ?_;refine Rs 3 30 4 14 fun K hK=>?_
  rw [if_pos (by kernel_rfl)]
  refine xR 30 (.tmp 4) (.tmp 14) rfl (w.heap.size+1+1) 0 [.int .i64 C,.int .i64 B,.slice oa m oc] rfl rfl (G.1.below (jd wr)).there3 (by kernel_rfl) (jh3 _ _ _ _ _) ?_
  obtain ⟨a4,a1⟩:=(G.1.below (jd wr)).set3 (.int .i64 C) (.int .i64 B) (.slice oa m oc);have a2:=E.1.trans ((jd wr).mono E.1.size);refine hK.out _ _ (a0.mod a1 (by have:=Q.1;omega)) (fun a5=>?_)
  have H:=Hd (And.intro a4 (And.intro ((P.1.below (jd wr)).mod a1 (fun k hk e=>by have:=N.1 k hk;omega)) (a2.trans (a1.below a2.size (fun i hi=>by omega)))))
  clear hK K a4 a1 a2;generalize (World.setCells _ _ _ _)=w9 at H a5 ⊢
  try simp only [Act.put]
  refine Tk 4 5 ?_;refine Dn ?_;clear a0 a5;go_wp2_with fail;exact jb rfl rfl (w.heap.size+1+1) 0 rfl [.int .i64 C,.int .i64 B,.slice oa m oc] _ (js H.1.1) underlying30 rfl (by kernel_rfl) _ rfl ⟨_,rfl,H.1.2.1,H.1.2.2⟩
 rw [show jo er=.iface 91 (.int .i64 er) from if_neg h0]
 have R:=Hd (show (er==0)=false by simpa using h0)
 clear h0;refine wp_region_held_drew (S:=fun W=>Box W q #[.int .i64 C,.int .i64 B,.slice oa m oc] 30) (by kernel_rfl) (I.1.below (jd wr)) (fun a0=>?_)
 refine Tk 0 14 ?_ (v:=.agg #[.int .i64 C,.int .i64 B,.slice oa m oc]) (hy:=fun w' b2=>jO 30 (.tmp 6) rfl (q) (0) rfl (#[.int .i64 C,.int .i64 B,.slice oa m oc]).toList _ (js b2) underlying30 rfl (by kernel_rfl))
 refine Tk 1 15 ?_;refine Tk 2 16 ?_;refine Rs 3 30 4 14 fun K hK=>?_
 rw [if_pos (by kernel_rfl)]
 refine xR 30 (.tmp 4) (.tmp 14) rfl (w.heap.size+1+1) 0 [.int .i64 C,.int .i64 B,.slice oa m oc] rfl rfl (G.1.below (jd wr)).there3 (by kernel_rfl) (jh3 _ _ _ _ _) ?_
 obtain ⟨a4,a1⟩:=(G.1.below (jd wr)).set3 (.int .i64 C) (.int .i64 B) (.slice oa m oc);have a2:=E.1.trans ((jd wr).mono E.1.size);refine hK.out _ _ (a0.mod a1 (by have:=Q.1;omega)) (fun a5=>?_)
 have H:=Hd (And.intro a4 (And.intro ((P.1.below (jd wr)).mod a1 (fun k hk e=>by have:=N.1 k hk;omega)) (a2.trans (a1.below a2.size (fun i hi=>by omega)))))
 clear hK K a4 a1 a2;generalize (World.setCells _ _ _ _)=w9 at H a5 ⊢
 try simp only [Act.put]
 refine Tk 4 5 ?_;refine Dn ?_;clear a0 a5;go_wp2_with fail;exact jb rfl rfl (w.heap.size+1+1) 0 rfl [.int .i64 C,.int .i64 B,.slice oa m oc] _ (js H.1.1) underlying30 rfl (by kernel_rfl) _ rfl ⟨_,by rw [R.1];rfl,H.1.2.1,H.1.2.2⟩
theorem jf1 (d:DiskM)(h:d.strs.length≤4096):(jP d).1.trail.length≤d.trail.length+2050:=by
 unfold jP
 split
 · exact Nat.le_add_right _ _
 split
 ·
  split
  · exact zR _ _ _ h
  · exact zR _ _ _ h
 · exact Nat.le_add_right _ _
theorem jfO (ep:UInt32)(d:DiskM)(st:StM):0≤(yS ep d st).2∧(yS ep d st).2≤24:=by
 unfold yS
 split
 ·
  split
  · simp
  · have:=jhC d 0 24 (ep+1).toNat (vj st);omega
 · simp
theorem jia (d:DiskM):0≤(yf d).2.2∧(yf d).2.2≤24:=by
 unfold yf;have:=jbt d 0 24
 repeat' split
 all_goals first | (simp;done) | (show 0≤(jY d 0 24).2.2∧(jY d 0 24).2.2≤24;omega)
theorem jh4 (d:DiskM):0≤(jP d).2.2.2∧(jP d).2.2.2≤24:=by
 unfold jP;have h1:=jia d;have h2:=jfO (yf d).2.1 d (yf d).1
 repeat' split
 all_goals first | (simp;done) | exact h2 | exact h1
theorem jgp (l:LogM)(d:DiskM)(q:List UInt8):0≤(l.append d q).2.2∧(l.append d q).2.2≤24:=by
 unfold LogM.append
 repeat' split
 all_goals simp
theorem jga (t:StoM)(d:DiskM)(e:EvtM)(st:StM):0≤(t.append d e st).2.2∧(t.append d e st).2.2≤24:=by
 unfold StoM.append;have h1:=jfO t.epoch d st;have h2:=fun l d=>jgp l d (evB e)
 repeat' split
 all_goals first | (simp;done) | exact h1 | exact h2 _ _
theorem jiw {d:DiskM}(h:d.Wf):(jP d).1.Wf:=by
 unfold jP;have:=jhn (yf d).2.1 (yf d).1 h
 repeat' split
 all_goals first | exact h | exact this
theorem jhR (d:DiskM):(jP d).1.strs.length=d.strs.length:=by
 unfold jP;have:=uh (yf d).2.1 d (yf d).1
 repeat' split
 all_goals first | rfl | exact this
theorem jgq:∀ (l:List EvtM) (st:StM) {x:SesM},x∈(yE st l).1.l→x∈st.l∨∃ e∈l,x=e.s
 | [],st,x,h=>.inl h
 | e::l,st,x,h=>by
  unfold yE at h
  split at h
  ·
   rcases jgq l (jH st e).2 h with h1 | ⟨e',h1,h2⟩
   ·
    rcases jak h1 with h3 | h3
    · exact .inl h3
    · exact .inr ⟨e,List.mem_cons_self,h3⟩
   · exact .inr ⟨e',List.mem_cons_of_mem _ h1,h2⟩
  · exact .inl h
theorem jhk:∀ (ps:List (List UInt8)),∀ e∈vd ps,EvOk e
 | [],e,h=>by cases h
 | p::l,e,h=>by
  unfold vd at h
  split at h
  ·
   rename_i h0
   rcases List.mem_cons.1 h with rfl | h
   · exact jeO h0
   · exact jhk l e h
  · cases h
theorem jhf:∀ (ps:List (List UInt8)),(vd ps).length≤ps.length
 | []=>Nat.le_refl _
 | p::l=>by
  unfold vd
  split
  · have:=jhf l;simp only [List.length_cons];omega
  · exact Nat.zero_le _
theorem jfy {e:EvtM}(h:EvOk e):SesOk e.s:=⟨Nat.le_trans h.user (by decide),Nat.le_trans h.label (by decide),h.scopes⟩
theorem jiu (ep:UInt32)(d:DiskM):(zU ep (zf d 49 16)).length≤16:=by
 unfold zU
 split
 ·
  rename_i h
  have h1:=(Exists.choose_spec h).len;have h2:(zf d 49 16).length≤16:=by unfold zf;rw [List.length_map,List.length_take];omega
  exact Nat.le_trans h1 h2
 · exact Nat.zero_le _
theorem jev:∀ (l:List EvtM) (st:StM),(yE st l).1.l.length≤st.l.length+l.length
 | [],st=>Nat.le_refl _
 | e::l,st=>by
  unfold yE
  split
  ·
   have h1:=jev l (jH st e).2;have h2:=vy st e;simp only [List.length_cons];omega
  · simp only [List.length_cons];omega
theorem jbA (d:DiskM):∀ x∈(yf d).1.l,SesOk x:=by
 unfold yf
 repeat' split
 all_goals first | (intro x hx;cases hx;done) | skip
 intro x hx
 rcases jgq _ _ hx with h | ⟨e,h,rfl⟩
 · exact jf0 _ x h
 · exact jfy (jhk _ e h)
theorem jhZ (d:DiskM):(yf d).1.l.length≤48:=by
 unfold yf
 split
 · exact Nat.zero_le _
 split
 ·
  split
  ·
   rename_i h0
   have h1:=jev (vd (zU (UInt32.ofNat (jY d 0 24).1) (zf d 49 16))) (vk (jY d 0 24).2.1).2;have h2:=jhf (zU (UInt32.ofNat (jY d 0 24).1) (zf d 49 16));have h3:=jiu (UInt32.ofNat (jY d 0 24).1) d;have h4:(vk (jY d 0 24).2.1).2.l.length≤32:=by
    obtain ⟨D,hD⟩:=Nm (vk (jY d 0 24).2.1);rw [← hD] at h0 ⊢;obtain ⟨er,C,B,L⟩:=D;simp only at h0;subst h0;exact jaq (C:=C) (B:=B) hD.symm
   simp only;omega
  · exact Nat.zero_le _
 · exact Nat.zero_le _
theorem ji7 (d:DiskM):(jP d).2.2.1=(yf d).1∨(jP d).2.2.1=yh:=by
 unfold jP
 repeat' split
 all_goals first | exact .inl rfl | exact .inr rfl
theorem jig (d:DiskM):(∀ x∈(jP d).2.2.1.l,SesOk x)∧(jP d).2.2.1.l.length≤48:=by
 rcases ji7 d with h | h <;> rw [h]
 · exact ⟨jbA d,jhZ d⟩
 · exact ⟨fun x hx=>(by cases hx),Nat.zero_le _⟩
theorem jiL {d:DiskM}(h:(jP d).2.2.2=0):65≤d.strs.length:=by
 unfold jP at h
 split at h
 · cases h
 · omega
structure PlainS (c:Nat)(d:DiskM)(s:Option StoM)(st:StM):Prop where
 wf:d.Wf
 small:d.strs.length≤4096
 trail:d.trail.length≤c*5000
 fit:∀ t,s=some t→65≤d.strs.length∧t.log.base+t.log.n≤d.strs.length∧t.log.used≤t.log.n∧t.log.records≤c
 ok:∀ x∈st.l,SesOk x
 len:st.l.length≤50+c
theorem PlainS.more {c c':Nat}{d:DiskM}{s:Option StoM}{st:StM}(h:PlainS c d s st)(hc:c≤c'):PlainS c' d s st :=
 ⟨h.wf,h.small,Nat.le_trans h.trail (Nat.mul_le_mul_right _ hc),fun t ht=>by obtain ⟨a,b,e,f⟩:=h.fit t ht;exact ⟨a,b,e,by omega⟩,h.ok,by have:=h.len;omega⟩
theorem PlainS.left {c:Nat}{d:DiskM}{s:Option StoM}{st:StM}(h:PlainS c d s st)(o:Option Nat):PlainS c { d with left:=o } s st :=
 ⟨⟨h.wf.inr,h.wf.short,h.wf.play⟩,h.small,h.trail,h.fit,h.ok,h.len⟩
theorem PlainS.write {c:Nat}{d:DiskM}{s:Option StoM}{st:StM}(h:PlainS c d s st)(i:Int)(x:ByteArray):PlainS (c+1) (d.write i x).1 s st:=by
 have h1:=d.write_len i x;have h2:=(d.write_trail i x).1;have h3:=h.trail;exact ⟨h.wf.write i x,by rw [h1];exact h.small,by omega,fun t ht=>by obtain ⟨a,b,e,f⟩:=h.fit t ht;rw [h1];exact ⟨a,b,e,by omega⟩,h.ok,by have:=h.len;omega⟩
theorem PlainS.opens {c:Nat}{d:DiskM}{s:Option StoM}{st:StM}(h:PlainS c d s st):PlainS (c+1) (jP d).1 (uU (jP d)) (jP d).2.2.1:=by
 have h1:=jhR d;have h2:=jf1 d h.small;have h3:=h.trail;obtain ⟨h4,h5⟩:=jig d;refine ⟨jiw h.wf,by rw [h1];exact h.small,by omega,fun t ht=>?_,h4,by omega⟩
 unfold uU at ht
 split at ht
 ·
  rename_i h0
  injection ht with ht
  subst ht;have:=jiL h0;rw [h1];exact ⟨this,by show 49+16≤_;omega,Nat.zero_le _,Nat.zero_le _⟩
 · cases ht
theorem PlainS.append {c:Nat}{d:DiskM}{t:StoM}{st:StM}(h:PlainS c d (some t) st)(e:EvtM)(st':StM):PlainS (c+1) (t.append d e st').2.1 (some (t.append d e st').1) st:=by
 obtain ⟨f1,f2,f3,f4⟩:=h.fit t rfl;have h3:=h.trail;have key:(t.append d e st').2.1.Wf∧(t.append d e st').2.1.strs.length=d.strs.length∧(t.append d e st').2.1.trail.length≤d.trail.length+2054∧(t.append d e st').1.log.base+(t.append d e st').1.log.n≤d.strs.length∧(t.append d e st').1.log.used≤(t.append d e st').1.log.n∧(t.append d e st').1.log.records≤c+1:=by
  unfold StoM.append;have a1:=jcA t.log d (evB e);have a2:=jbN t.log d (evB e);have a3:=jd4 t.log h.wf (evB e);have b1:=uh t.epoch d st';have b2:=zR t.epoch d st' h.small;have b3:=jhn t.epoch st' h.wf;have c1:=jcA (xV (t.epoch+1)) (yS t.epoch d st').1 (evB e);have c2:=jbN (xV (t.epoch+1)) (yS t.epoch d st').1 (evB e);have c3:=jd4 (xV (t.epoch+1)) b3 (evB e);obtain ⟨p1,p2,p3,p4,p5,p6⟩:=a2;obtain ⟨q1,q2,q3,q4,q5,q6⟩:=c2;have n1:(xV (t.epoch+1)).base=49:=rfl;have n2:(xV (t.epoch+1)).n=16:=rfl;have n3:(xV (t.epoch+1)).used=0:=rfl;have n4:(xV (t.epoch+1)).records=0:=rfl
  split
  · exact ⟨h.wf,rfl,by show d.trail.length≤_;omega,f2,f3,by show t.log.records≤_;omega⟩
  split
  ·
   split
   ·
    split
    · exact ⟨c3,c1.1.trans b1,by have:=c1.2;show ((xV (t.epoch+1)).append (yS t.epoch d st').1 (evB e)).2.1.trail.length≤_;omega,by show ((xV (t.epoch+1)).append (yS t.epoch d st').1 (evB e)).1.base+((xV (t.epoch+1)).append (yS t.epoch d st').1 (evB e)).1.n≤_;omega,by have:=q5 (by omega);show ((xV (t.epoch+1)).append (yS t.epoch d st').1 (evB e)).1.used≤((xV (t.epoch+1)).append (yS t.epoch d st').1 (evB e)).1.n;omega,by show ((xV (t.epoch+1)).append (yS t.epoch d st').1 (evB e)).1.records≤_;omega⟩
    · exact ⟨b3,b1,by show (yS t.epoch d st').1.trail.length≤_;omega,f2,f3,by show t.log.records≤_;omega⟩
   · exact ⟨a3,a1.1,by have:=a1.2;show (t.log.append d (evB e)).2.1.trail.length≤_;omega,by show (t.log.append d (evB e)).1.base+(t.log.append d (evB e)).1.n≤_;omega,by have:=p5 f3;show (t.log.append d (evB e)).1.used≤(t.log.append d (evB e)).1.n;omega,by show (t.log.append d (evB e)).1.records≤_;omega⟩
  · exact ⟨h.wf,rfl,by show d.trail.length≤_;omega,f2,f3,by show t.log.records≤_;omega⟩
 obtain ⟨k1,k2,k3,k4,k5,k6⟩:=key;refine ⟨k1,by rw [k2];exact h.small,by omega,fun u hu=>?_,h.ok,by have:=h.len;omega⟩
 injection hu with hu
 subst hu;exact ⟨by omega,by omega,k5,k6⟩
theorem PlainS.put {c:Nat}{d:DiskM}{s:Option StoM}{st st2:StM}(h:PlainS c d s st)(h1:∀ x∈st2.l,SesOk x)(h2:st2.l.length≤50+c):PlainS c d s st2:=⟨h.wf,h.small,h.trail,h.fit,h1,h2⟩
structure PlayS (W:World)(pw p rp c:Nat)(A B:Nat→Prop)(d:DiskM)(s:Option StoM)(st:StM)(sv rv ov:Value)(wr:World):Prop where
 a:SideA wr A p d s sv
 b:SideB wr B rp d s rv
 bx:Box wr pw #[.pointer (some ⟨p,0,none⟩),sv,.pointer (some ⟨rp,0,none⟩),rv,.int .i64 st.clock,.int .i64 st.births,ov] 66
 rs:RdS wr ov st.l
 ab:∀ k,A k→¬ B k
 np:¬ A pw∧¬ B pw∧W.heap.size≤pw
 nv:∀ k,ov.ownBlock=some k→¬ A k∧¬ B k∧k≠pw∧k<wr.heap.size
 lo:∀ k,A k∨B k→W.heap.size≤k
 pl:PlainS c d s st
 bel:Below W.heap.size W wr
theorem PlayS.aside {W:World}{pw p rp c:Nat}{A B G:Nat→Prop}{d:DiskM}{s:Option StoM}{st:StM}{sv rv ov:Value}{wr w2:World}(h:PlayS W pw p rp c A B d s st sv rv ov wr)(hm:Mod G wr w2)(hx:∀ k,A k∨B k∨k=pw∨ov.ownBlock=some k→¬ G k)(hg:∀ k,G k→W.heap.size≤k):PlayS W pw p rp c A B d s st sv rv ov w2 :=
 ⟨h.a.mod hm (fun k hk=>hx k (.inl hk)),h.b.mod hm (fun k hk=>hx k (.inr (.inl hk))),h.bx.mod hm (hx _ (.inr (.inr (.inl rfl)))),h.rs.mod hm (fun k hk=>hx k (.inr (.inr (.inr hk)))),h.ab,h.np,fun k hk=>by obtain ⟨a,b,e,f⟩:=h.nv k hk;exact ⟨a,b,e,Nat.lt_of_lt_of_le f hm.size⟩,h.lo,h.pl,h.bel.trans (hm.below h.bel.size hg)⟩
theorem PlayS.to {W:World}{pw p rp c:Nat}{A B:Nat→Prop}{d:DiskM}{s:Option StoM}{st:StM}{sv rv ov:Value}{wr w2:World}(h:PlayS W pw p rp c A B d s st sv rv ov wr)(hb:Below wr.heap.size wr w2):PlayS W pw p rp c A B d s st sv rv ov w2 :=
 h.aside (Mod.of_below (F:=fun _=>False) hb) (fun _ _ h=>h) (fun _ h=>h.elim)
theorem PlayS.both {W:World}{pw p rp c c':Nat}{A B A' B':Nat→Prop}{d d':DiskM}{s s':Option StoM}{st:StM}{sv rv ov:Value}{wr w1 w1' w2:World}(h:PlayS W pw p rp c A B d s st sv rv ov wr)(ha:SideA w1 A' p d' s' sv)(a2:Mod A wr w1)(hA:∀ k,A' k→A k∨wr.heap.size≤k)(a0:Below w1.heap.size w1 w1')(hb:SideB w2 B' rp d' s' rv)(a1:Mod B w1' w2)(hB:∀ k,B' k→B k∨w1'.heap.size≤k)(hp:PlainS c' d' s' st):PlayS W pw p rp c' A' B' d' s' st sv rv ov w2:=by
 have a4:=h.bel.size;have a6:=a2.size;have a7:=a0.size;have a8:=a1.size;have a3:∀ k,A' k→¬ B k:=fun k hk hb=>by
  rcases hA k hk with g | g
  · exact h.ab k g hb
  · have:=h.b.lt k hb;omega
 have a5:∀ k,A' k→¬ B' k:=fun k hk hb=>by
  rcases hB k hb with g | g
  · exact a3 k hk g
  · have:=ha.lt k hk;omega
 have hn:∀ k,k<wr.heap.size→¬ A k→¬ B k→¬ A' k∧¬ B' k:=fun k hk h1 h2=>⟨fun g=>(hA k g).elim h1 (fun g=>by omega),fun g=>(hB k g).elim h2 (fun g=>by omega)⟩
 have hm:Mod (fun k=>A k∨B k) wr w2:=((a2.mono (fun k hk=>.inl hk)).trans (Mod.of_below a0)).trans (a1.mono (fun k hk=>.inr hk))
 obtain ⟨n1,n2⟩:=hn pw h.bx.lt h.np.1 h.np.2.1;refine ⟨(ha.below a0).mod a1 a3,hb,h.bx.mod hm (fun g=>g.elim h.np.1 h.np.2.1),h.rs.mod hm (fun k hk g=>g.elim (h.nv k hk).1 (h.nv k hk).2.1),a5,⟨n1,n2,h.np.2.2⟩,fun k hk=>?_,fun k hk=>?_,hp,h.bel.trans (hm.below a4 h.lo)⟩
 ·
  obtain ⟨q1,q2,q3,q4⟩:=h.nv k hk;obtain ⟨q5,q6⟩:=hn k q4 q1 q2;exact ⟨q5,q6,q3,Nat.lt_of_lt_of_le q4 hm.size⟩
 ·
  rcases hk with hk | hk
  ·
   rcases hA k hk with g | g
   · exact h.lo k (.inl g)
   · omega
  ·
   rcases hB k hk with g | g
   · exact h.lo k (.inr g)
   · omega
end Go.Proofs.YtgcnolapjppbpaaGreatDoor
