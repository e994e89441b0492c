/-
  Texts of one proof, one behind the other.
-/
import Derived.Test.YtgcnolapjppbpaaGreatDoorP11
import Derived.Test.YtgcnolapjppbpaaGreatDoorP14
import Derived.Test.YtgcnolapjppbpaaGreatDoorP02
import Derived.Test.YtgcnolapjppbpaaGreatDoorP00
namespace Go.Proofs.YtgcnolapjppbpaaGreatDoor
open Go.RowKit _root_.Go.Proofs.Tryz
set_option maxRecDepth 100000
set_option maxHeartbeats 25600000
def jZ (ns:List Int):List UInt8:=ns.flatMap jm
theorem jda (ns:List Int)(n:Int):jZ (ns ++ [n])=jZ ns++jm n:=by simp [jZ]
theorem ux {n:Int}(h:N63 n)(B p:Nat)(v0:Value)(l0:List UInt8)(w:World)(hw:IsW w B p v0 l0)(a0:l0.length≤140737488350000)(hB:B≤w.heap.size) :
  Calls prog 68 #[.pointer (some ⟨p,0,none⟩),.int .u64 n] w fun e w'=>e=.returned (.tuple #[])∧∃ v',IsW w' B p v' (l0++jm n)∧Mod (WF p v0) w w'∧Fresh w v0 v':=by
 obtain ⟨h1,h2⟩:=h;obtain ⟨k,rfl⟩:∃ k:Nat,n=(k:Int):=⟨n.toNat,by omega⟩
 exact zk B p v0 l0 k w hw (by omega) a0 hB
theorem jgg {n:Int}(h:N63 n):n % 18446744073709551616=n:=by obtain ⟨h1,h2⟩:=h;omega
theorem jbp (B p q r:Nat)(v0:Value)(l0:List UInt8)(ns:List Int)(t:TypeId)(w:World)(hw:IsW w B p v0 l0)(hq:Box w q #[.pointer (some ⟨p,0,none⟩)] t)(hr:Box w r (ns.map (fun n=>Value.int .i64 n)).toArray 3)(a2:∀ n∈ns,N63 n)(a3:¬ WF p v0 q)(a4:¬ WF p v0 r)(a5:l0.length≤100000)(hn:ns.length≤100)(hB:B≤w.heap.size) :
  Calls prog 67 #[.slice (some ⟨r,0,none⟩) ns.length ns.length,.pointer (some ⟨q,0,none⟩)] w fun e w'=>e=.returned (.tuple #[])∧∃ v',IsW w' B p v' (l0++jZ ns)∧Mod (WF p v0) w w'∧Fresh w v0 v':=by
 go_enter func67,ntmps67;go_wp2_with fail
 go_loopg [7] ns.length (fun gk iv wr=>∃ (k:Nat) (v1:Value),gk+k=ns.length∧iv=.int .i64 (k:Int)∧IsW wr B p v1 (l0++jZ (ns.take k))∧Mod (WF p v0) w wr∧Fresh w v0 v1)
 case atStart=>exact ⟨0,v0,rfl,rfl,by simpa [jZ] using hw,Mod.refl _ _,Fresh.refl _ _⟩
 case round =>
  obtain ⟨k,v1,a1,rfl,hW,hM,hF⟩:=hrel;have hs:=hM.size;have C:=Hd hW;have D:=Hd hM;have A:=Hd hF;by_cases hk:k<ns.length
  ·
   obtain ⟨n,a0⟩:=Nm (ns[k]);have hz:=jgg (n:=n) (a2 n (by rw [a0];exact List.getElem_mem _))
   have K:=Hd (a2 n (by rw [a0];exact List.getElem_mem _))
   have c0:=(hq.mod hM a3).cell 0 _ rfl;have c1:wr.cell? ⟨r,k,none⟩=some (.int .i64 n):=(hr.mod hM a4).cell k _ (by simp [hk,a0])
   have L:=Hd (show jZ (ns.take (k+1))=jZ (ns.take k)++jm n from by rw [List.take_succ_eq_append_getElem hk,jda,a0])
   have M:=Hd (show (l0++jZ (ns.take k)).length≤140737488350000 from by
    have:∀ l:List Int,(jZ l).length≤10*l.length:=by
     intro l
     induction l with
     | nil=>simp [jZ]
     | cons a l ih=>have:=jw a;simp only [jZ,List.flatMap_cons,List.length_append,List.length_cons] at ih ⊢;omega
    have h1:=this (ns.take k);have h2:(ns.take k).length≤100:=by rw [List.length_take];omega
    rw [List.length_append];omega)
   have k0:(0:Int)≤(k:Int):=by omega
   have k1:(k:Int)<(ns.length:Int):=by omega
   have H:=Hd a1;have E:=Hd hk;clear a1 a0 hW hM hF hk;go_wp2_with fail;refine (ux K.1 B p v1 _ _ C.1 M.1 (by omega)).mono ?_
   rintro e w2 ⟨rfl,v2,s1,s2,s3⟩;have F:=Hd s1;have G:=Hd (WF.then D.1 A.1 s2);have I:=Hd (A.1.trans hs s3);clear s1 s2 s3 c0 c1;go_wp2_with fail
   go_roundg (ns.length-(k+1))
   case measure=>have:=H.1;have:=E.1;omega
   case rel=>exact ⟨k+1,v2,by have:=H.1;have:=E.1;omega,by go_num,by rw [L.1,← List.append_assoc];exact F.1,G.1,I.1⟩
  ·
   have k1:¬ (k:Int)<(ns.length:Int):=by omega
   have ht:ns.take k=ns:=List.take_of_length_le (by omega)
   rw [ht] at hW;have J:=Hd hW;clear a1 hW hM hF ht C;go_wp2_with fail;refine bodyPost_end (results_none rfl _ _ _) rfl ?_;exact ⟨rfl,v1,J.1,D.1,A.1⟩
def jaD (e:EvtM):List UInt8:=if yb e=true then evB e else []
def ue (e:EvtM):Int:=if yb e=true then 0 else 1
structure EncSt (w0 w:World)(p q b:Nat)(cs:Array Value)(t:TypeId)(v:Value)(A:List UInt8):Prop where
 iw:IsW w w0.heap.size p v A
 bq:Box w q #[.pointer (some ⟨p,0,none⟩)] 130
 bb:Box w b cs t
 nq:¬ WF p v q
 nb:¬ WF p v b
 le:w0.heap.size≤p
 bel:Below w0.heap.size w0 w
theorem EncSt.call {w0 w w':World}{p q b:Nat}{cs:Array Value}{t:TypeId}{v v':Value}{A A':List UInt8}(h:EncSt w0 w p q b cs t v A)(hw:IsW w' w0.heap.size p v' A')(hm:Mod (WF p v) w w')(hf:Fresh w v v'):EncSt w0 w' p q b cs t v' A':=by
 have h1:=h.bq.lt;have h2:=h.bb.lt;refine ⟨hw,h.bq.mod hm h.nq,h.bb.mod hm h.nb,?_,?_,h.le,h.bel.trans (hm.below h.bel.size (fun i hi=>?_))⟩
 ·
  rintro (e | e)
  · exact h.nq (.inl e)
  ·
   rcases hf _ e with e | e
   · exact h.nq (.inr e)
   · omega
 ·
  rintro (e | e)
  · exact h.nb (.inl e)
  ·
   rcases hf _ e with e | e
   · exact h.nb (.inr e)
   · omega
 ·
  rcases hi with rfl | e
  · exact h.le
  · exact (h.iw.own.lt i e).1
theorem EncSt.below {w0 w w':World}{p q b:Nat}{cs:Array Value}{t:TypeId}{v:Value}{A:List UInt8}(h:EncSt w0 w p q b cs t v A)(hb:Below w.heap.size w w'):EncSt w0 w' p q b cs t v A :=
 ⟨h.iw.below hb,h.bq.below hb,h.bb.below hb,h.nq,h.nb,h.le,h.bel.trans (hb.mono h.bel.size)⟩
theorem EncSt.row {w0 w:World}{p q b:Nat}{cs:Array Value}{t:TypeId}{v:Value}{A:List UInt8}(h:EncSt w0 w p q b cs t v A):¬ WF p v w.heap.size:=by
 have h1:=h.iw.box.lt;rintro (e | e)
 · omega
 · have:=(h.iw.own.lt _ e).2;omega
theorem EncSt.rebox {w0 w:World}{p q b b':Nat}{cs cs':Array Value}{t t':TypeId}{v:Value}{A:List UInt8}(h:EncSt w0 w p q b cs t v A)(hb:Box w b' cs' t')(hn:¬ WF p v b'):EncSt w0 w p q b' cs' t' v A:=⟨h.iw,h.bq,hb,h.nq,hn,h.le,h.bel⟩
theorem jc6 {e:EvtM}(h:yb e=true)(k0:(e.kind==0)=true):jR e.s=true:=by
 unfold yb at h;rw [k0] at h;simp only [if_true,Bool.and_eq_true] at h;exact h.2.2
theorem jbO {e:EvtM}(h:yb e=true)(k0:(e.kind==0)=false)(k1:(e.kind==1)=true):N63 e.birth:=by
 unfold yb at h;rw [k0,k1] at h;simp only [if_true,Bool.and_eq_true,Bool.false_eq_true,if_false] at h;exact .of h.2.2 (by omega) (by omega)
theorem uJ {e:EvtM}(h:yb e=true)(k0:(e.kind==0)=false)(k1:(e.kind==1)=false):(e.kind==2)=true∧N63 e.ticks:=by
 unfold yb at h;rw [k0,k1] at h
 cases k2:(e.kind==2)
 · rw [k2] at h;simp at h
 ·
  rw [k2] at h;simp only [if_true,Bool.and_eq_true,Bool.false_eq_true,if_false] at h;exact ⟨rfl,.of h.2.2 (by omega) (by omega)⟩
theorem N63.lit {n:Int}(k:Nat)(h:(n==(k:Int))=true)(hk:k<10):N63 n:=by
 have:n=(k:Int):=by simpa using h
 exact ⟨by omega,by omega⟩
theorem jah {p q:Nat}(h:q≠p):¬ WF p (.slice none 0 0) q:=by
 rintro (e | e)
 · exact h e
 · simp [Value.ownBlock] at e
theorem jkG (v:Value)(w:World):(Instr.typeAssert (.iface 135 v) 128 135 true).run prog w=.ok (.tuple #[v,.bool true]) w:=by kernel_rfl
theorem jkZ (v:Value)(w:World):(Instr.typeAssert (.iface 138 v) 128 135 true).run prog w=.ok (.tuple #[.agg #[.int .i64 0,.int .i64 0,.int .i64 0,.int .i64 0,.int .i64 0,.string ⟨#[]⟩,.string ⟨#[]⟩,.int .u64 0,.int .i64 0,.int .i64 0,.int .i64 0,.int .i64 0],.bool false]) w:=by kernel_rfl
theorem jkJ (v:Value)(w:World):(Instr.typeAssert (.iface 138 v) 128 138 true).run prog w=.ok (.tuple #[v,.bool true]) w:=by kernel_rfl
theorem jkL (v:Value)(w:World):(Instr.typeAssert (.iface 140 v) 128 135 true).run prog w=.ok (.tuple #[.agg #[.int .i64 0,.int .i64 0,.int .i64 0,.int .i64 0,.int .i64 0,.string ⟨#[]⟩,.string ⟨#[]⟩,.int .u64 0,.int .i64 0,.int .i64 0,.int .i64 0,.int .i64 0],.bool false]) w:=by kernel_rfl
theorem jkF (v:Value)(w:World):(Instr.typeAssert (.iface 140 v) 128 138 true).run prog w=.ok (.tuple #[.agg #[.int .i64 0],.bool false]) w:=by kernel_rfl
theorem jkK (v:Value)(w:World):(Instr.typeAssert (.iface 140 v) 128 140 true).run prog w=.ok (.tuple #[v,.bool true]) w:=by kernel_rfl
theorem EncSt.numbers {w0 w:World}{p q b r:Nat}{cs:Array Value}{t:TypeId}{v:Value}{A:List UInt8}(h:EncSt w0 w p q b cs t v A)(hr:r=w.heap.size)(ns:List Int)(a0:∀ n∈ns,N63 n)(hA:A.length≤100000)(hn:ns.length≤100) :
  Calls prog 67 #[.slice (some ⟨r,0,none⟩) ns.length ns.length,.pointer (some ⟨q,0,none⟩)] (w.alloc (.cells (ns.map (fun n=>Value.int .i64 n)).toArray 3)) fun ev w'=>ev=.returned (.tuple #[])∧∃ v',EncSt w0 w' p q b cs t v' (A++jZ ns):=by
 subst hr;have h':=h.below (ja w (.cells (ns.map (fun n=>Value.int .i64 n)).toArray 3))
 refine (jbp w0.heap.size p q w.heap.size v A ns _ _ h'.iw h'.bq (Box.new _ _ _) a0 h'.nq h.row hA hn h'.bel.size).mono ?_;rintro ev w' ⟨rfl,v',s1,s2,s3⟩;exact ⟨rfl,v',h'.call s1 s2 s3⟩
theorem jbq (e:EvtM)(w:World)(hu:e.s.user.length≤9223372036854775807)(hl:e.s.label.length≤9223372036854775807)(b5:e.s.scopes<2 ^ 64) :
  Calls prog 38 #[.agg e.cells] w fun ev w'=>∃ o,ev=.returned (.tuple #[o,jo (ue e)])∧OwnM w' w.heap.size 5 o (jaD e).length ((jaD e).map V8)∧Below w.heap.size w w':=by
 have Y:=Hd (show e.cells=#[.int .i64 e.kind,.int .i64 e.s.slot,.int .i64 e.s.birth,.int .i64 e.s.upS,.int .i64 e.s.upB,.int .i64 e.s.kind,.string (SB e.s.user),.string (SB e.s.label),.int .u64 (e.s.scopes:Int),.int .i64 e.s.level,.int .i64 e.s.born,.int .i64 e.s.deadline,.int .i64 e.s.depth,.int .i64 e.birth,.int .i64 e.ticks] from rfl)
 have Q:=Hd (fun w=>jaN e w hu hl)
 have R:=Hd (Box.new w e.cells 47);have V:=Hd (ja w (.cells e.cells 47));have W:=Hd b5;clear hu hl b5;rw [Y.1] at R V Q ⊢;go_enter func38,ntmps38;go_wp2_with fail;refine (Q.1 _).mono ?_;rintro ev w1 ⟨rfl,b1⟩;have F:=Hd (V.1.trans (b1.mono (by simp)))
 have C:=Hd (R.1.below b1);clear b1 Q
 cases hmay:yb e
 ·
  rw [zM hmay];have S:=Hd (show jaD e = [] by unfold jaD;rw [hmay];rfl)
  have T:=Hd (show ue e=1 by unfold ue;rw [hmay];rfl)
  clear hmay;go_wp2_with fail;refine bodyPost_ret (results_tmp2 rfl _ _ _) rfl ?_;rw [S.1,T.1];exact ⟨_,rfl,OwnM.nil _ _ _,F.1⟩
 have T:=Hd (show ue e=0 by unfold ue;rw [hmay];rfl)
 have S:=Hd (show jaD e=evB e by unfold jaD;rw [hmay];rfl)
 have Z:=Hd hmay
 cases k0:(e.kind==0)
 rotate_left
 ·
  have B:=Hd (SesN.of (jc6 hmay k0));have k1:(e.kind==1)=false:=by simp at k0 ⊢;omega
  have k2:(e.kind==2)=false:=by simp at k0 ⊢;omega
  have G:=Hd (show evB e=((((([]++jZ [e.kind])++jZ [e.s.slot,e.s.birth,e.s.upS,e.s.upB,e.s.kind])++yr e.s.user)++yr e.s.label)++yM e.s.scopes)++jZ [e.s.level,e.s.born,e.s.deadline,e.s.depth] by unfold evB yq jZ;rw [k1,k2];simp)
  have A:=Hd (jjG B.1);rw [G.1] at A;have X:=Hd (show e.s.cells=#[.int .i64 e.s.slot,.int .i64 e.s.birth,.int .i64 e.s.upS,.int .i64 e.s.upB,.int .i64 e.s.kind,.string (SB e.s.user),.string (SB e.s.label),.int .u64 (e.s.scopes:Int),.int .i64 e.s.level,.int .i64 e.s.born,.int .i64 e.s.deadline,.int .i64 e.s.depth] from rfl)
  clear k1 k2;have U:=Hd (N63.lit 0 k0 (by omega))
  rw [jel hmay k0,X.1];clear hmay;go_wp2_with fail;refine (uE w1).mono ?_;rintro ev w2 ⟨rfl,a2,a3⟩;have a4:=C.1.below a3;have c0:∀ o,(w2.alloc o).cell? ⟨w.heap.size,0,none⟩=some (.int .i64 e.kind):=fun o=>(a4.below (ja w2 o)).cell 0 _ rfl
  have a5:=F.1.size;have b2:w1.heap.size<w2.heap.size:=a2.box.lt;have b3:w.heap.size<w2.heap.size:=by omega
  have b4:w.heap.size<w1.heap.size:=C.1.lt;have a6:EncSt w (w2.alloc (.cells #[.pointer (some ⟨w1.heap.size,0,none⟩)] 130)) w1.heap.size w2.heap.size w.heap.size _ 47 (.slice none 0 0) [] :=
   ⟨⟨a2.box.below (ja _ _),OwnM.nil _ _ _,by simp [Value.ownBlock]⟩,Box.new _ _ _,a4.below (ja _ _),jah (by omega),jah (by omega),a5,(F.1.trans (a3.mono a5)).trans ((ja _ _).mono (by omega))⟩
  have E:=Hd a6;clear a6 a4 a2 a3 C;go_wp2_with fail;refine (E.1.numbers (r:=w2.heap.size+1) (by simp) [e.kind] (fun n hn=>by rw [List.mem_singleton.1 hn];exact U.1) (by simp) (by simp)).mono ?_
  rintro ev w3 ⟨rfl,v3,a0⟩;have D:=Hd a0;clear a0 c0 E;have hA:EncSt w ((w3.alloc (.cells #[.int .i64 e.s.slot,.int .i64 e.s.birth,.int .i64 e.s.upS,.int .i64 e.s.upB,.int .i64 e.s.kind,.string (SB e.s.user),.string (SB e.s.label),.int .u64 (e.s.scopes:Int),.int .i64 e.s.level,.int .i64 e.s.born,.int .i64 e.s.deadline,.int .i64 e.s.depth] 135)).alloc (.cells #[.int .i64 e.s.slot,.int .i64 e.s.birth,.int .i64 e.s.upS,.int .i64 e.s.upB,.int .i64 e.s.kind,.string (SB e.s.user),.string (SB e.s.label),.int .u64 (e.s.scopes:Int),.int .i64 e.s.level,.int .i64 e.s.born,.int .i64 e.s.deadline,.int .i64 e.s.depth] 45)) w1.heap.size w2.heap.size (w3.heap.size+1) #[.int .i64 e.s.slot,.int .i64 e.s.birth,.int .i64 e.s.upS,.int .i64 e.s.upB,.int .i64 e.s.kind,.string (SB e.s.user),.string (SB e.s.label),.int .u64 (e.s.scopes:Int),.int .i64 e.s.level,.int .i64 e.s.born,.int .i64 e.s.deadline,.int .i64 e.s.depth] 45 v3 ([]++jZ [e.kind]) :=
   (D.1.below (jn _ _ _)).rebox (by have:=Box.new (w3.alloc (.cells #[.int .i64 e.s.slot,.int .i64 e.s.birth,.int .i64 e.s.upS,.int .i64 e.s.upB,.int .i64 e.s.kind,.string (SB e.s.user),.string (SB e.s.label),.int .u64 (e.s.scopes:Int),.int .i64 e.s.level,.int .i64 e.s.born,.int .i64 e.s.deadline,.int .i64 e.s.depth] 135)) #[.int .i64 e.s.slot,.int .i64 e.s.birth,.int .i64 e.s.upS,.int .i64 e.s.upB,.int .i64 e.s.kind,.string (SB e.s.user),.string (SB e.s.label),.int .u64 (e.s.scopes:Int),.int .i64 e.s.level,.int .i64 e.s.born,.int .i64 e.s.deadline,.int .i64 e.s.depth] 45;rw [World.size_alloc] at this;exact this) (by have:=(D.1.below (ja w3 (.cells #[.int .i64 e.s.slot,.int .i64 e.s.birth,.int .i64 e.s.upS,.int .i64 e.s.upB,.int .i64 e.s.kind,.string (SB e.s.user),.string (SB e.s.label),.int .u64 (e.s.scopes:Int),.int .i64 e.s.level,.int .i64 e.s.born,.int .i64 e.s.deadline,.int .i64 e.s.depth] 135))).row;rw [World.size_alloc] at this;exact this)
  have t1:=fun v w=>jkG v w
  have M:=Hd hA;clear hA D;go_wp2_with fail;have b0:∀ n ∈ [e.s.slot,e.s.birth,e.s.upS,e.s.upB,e.s.kind],N63 n:=by
   intro n hn;simp only [List.mem_cons,List.not_mem_nil,or_false] at hn
   rcases hn with rfl | rfl | rfl | rfl | rfl
   · exact B.1.slot
   · exact B.1.birth
   · exact B.1.upS
   · exact B.1.upB
   · exact B.1.kind
  have a1:=A.1;simp only [List.length_append] at a1;refine (M.1.numbers (r:=w3.heap.size+2) (by simp) [e.s.slot,e.s.birth,e.s.upS,e.s.upB,e.s.kind] b0 (by simp only [List.length_append];omega) (by simp)).mono ?_
  rintro ev w4 ⟨rfl,v4,a0⟩;have I:=Hd a0;clear a0 b0 a1 M;have c1:=I.1.bq.cell 0 _ rfl;have c2:=I.1.bb.cell 5 _ rfl;have a1:=A.1;simp only [List.length_append] at a1;have N:=Hd (uA w.heap.size w1.heap.size _ _ e.s.user _ I.1.iw (by have:=B.1.user;omega) (by simp only [List.length_append];have:=B.1.user;omega) I.1.bel.size)
  clear a1;go_wp2_with fail;refine N.1.mono ?_;rintro ev w5 ⟨rfl,v5,s1,s2,s3⟩;have J:=Hd (I.1.call s1 s2 s3);clear s1 s2 s3 c1 c2 N I;have c1:=J.1.bq.cell 0 _ rfl;have c2:=J.1.bb.cell 6 _ rfl;have a1:=A.1;simp only [List.length_append] at a1;have N:=Hd (uA w.heap.size w1.heap.size _ _ e.s.label _ J.1.iw (by have:=B.1.label;omega) (by simp only [List.length_append];have:=B.1.label;omega) J.1.bel.size)
  clear a1;go_wp2_with fail;refine N.1.mono ?_;rintro ev w6 ⟨rfl,v6,s1,s2,s3⟩;have K:=Hd (J.1.call s1 s2 s3);clear s1 s2 s3 c1 c2 N J;have c1:=K.1.bq.cell 0 _ rfl;have c2:=K.1.bb.cell 7 _ rfl;have a1:=A.1;simp only [List.length_append] at a1;have N:=Hd (zk w.heap.size w1.heap.size _ _ e.s.scopes _ K.1.iw W.1 (by simp only [List.length_append];omega) K.1.bel.size)
  clear a1;go_wp2_with fail;refine N.1.mono ?_;rintro ev w7 ⟨rfl,v7,s1,s2,s3⟩;have L:=Hd (K.1.call s1 s2 s3);clear s1 s2 s3 c1 c2 N K;have ca:=L.1.bb.cell 8 _ rfl;have cb:=L.1.bb.cell 9 _ rfl;have cc:=L.1.bb.cell 10 _ rfl;have cd:=L.1.bb.cell 11 _ rfl;go_wp2_with fail;have b0:∀ n ∈ [e.s.level,e.s.born,e.s.deadline,e.s.depth],N63 n:=by
   intro n hn;simp only [List.mem_cons,List.not_mem_nil,or_false] at hn
   rcases hn with rfl | rfl | rfl | rfl
   · exact B.1.level
   · exact B.1.born
   · exact B.1.deadline
   · exact B.1.depth
  have a1:=A.1;simp only [List.length_append] at a1;refine (L.1.numbers (r:=w7.heap.size) (by simp) [e.s.level,e.s.born,e.s.deadline,e.s.depth] b0 (by simp only [List.length_append];omega) (by simp)).mono ?_
  rintro ev w8 ⟨rfl,v8,a0⟩;have H:=Hd a0;clear a0 b0 a1 L;clear ca cb cc cd;have c1:=H.1.bq.cell 0 _ rfl;go_wp2_with fail;refine (zA w.heap.size w1.heap.size _ _ _ H.1.iw (by have:=A.1;omega)).mono ?_
  rintro ev w9 ⟨o9,rfl,a7,a8⟩;have O:=Hd (a7.lower H.1.bel.size);have P:=Hd (H.1.bel.trans (a8.mono H.1.bel.size));clear a7 a8 c1;go_wp2_with fail;refine bodyPost_ret (results_tmp2 rfl _ _ _) rfl ?_;rw [S.1,T.1,G.1];exact ⟨_,rfl,O.1,P.1⟩
 cases k1:(e.kind==1)
 rotate_left
 ·
  have B:=Hd (jbO hmay k0 k1);have G:=Hd (show evB e=([]++jZ [e.kind])++jZ [e.birth] by unfold evB jZ;rw [k1];simp)
  have A:=Hd (show (([]++jZ [e.kind])++jZ [e.birth]).length≤1000 by simp [jZ];have:=jw e.kind;have:=jw e.birth;omega)
  have U:=Hd (N63.lit 1 k1 (by omega))
  rw [jc4 hmay k0 k1];clear hmay;go_wp2_with fail;refine (uE w1).mono ?_;rintro ev w2 ⟨rfl,a2,a3⟩;have a4:=C.1.below a3;have c0:∀ o,(w2.alloc o).cell? ⟨w.heap.size,0,none⟩=some (.int .i64 e.kind):=fun o=>(a4.below (ja w2 o)).cell 0 _ rfl
  have a5:=F.1.size;have b2:w1.heap.size<w2.heap.size:=a2.box.lt;have b3:w.heap.size<w2.heap.size:=by omega
  have b4:w.heap.size<w1.heap.size:=C.1.lt;have a6:EncSt w (w2.alloc (.cells #[.pointer (some ⟨w1.heap.size,0,none⟩)] 130)) w1.heap.size w2.heap.size w.heap.size _ 47 (.slice none 0 0) [] :=
   ⟨⟨a2.box.below (ja _ _),OwnM.nil _ _ _,by simp [Value.ownBlock]⟩,Box.new _ _ _,a4.below (ja _ _),jah (by omega),jah (by omega),a5,(F.1.trans (a3.mono a5)).trans ((ja _ _).mono (by omega))⟩
  have E:=Hd a6;clear a6 a4 a2 a3 C;go_wp2_with fail;refine (E.1.numbers (r:=w2.heap.size+1) (by simp) [e.kind] (fun n hn=>by rw [List.mem_singleton.1 hn];exact U.1) (by simp) (by simp)).mono ?_
  rintro ev w3 ⟨rfl,v3,a0⟩;have D:=Hd a0;clear a0 c0 E;have M:=Hd (D.1.below (ja w3 (.cells #[.int .i64 e.birth] 138)));clear D;have t1:=fun v w=>jkZ v w
  have t2:=fun v w=>jkJ v w
  go_wp2_with fail;refine (M.1.numbers (r:=w3.heap.size+1) (by simp) [e.birth] (fun n hn=>by rw [List.mem_singleton.1 hn];exact B.1) (by have:=A.1;simp only [List.length_append] at this ⊢;omega) (by simp)).mono ?_
  rintro ev w8 ⟨rfl,v8,a9⟩;have H:=Hd a9;clear a9 M;have c1:=H.1.bq.cell 0 _ rfl;go_wp2_with fail;refine (zA w.heap.size w1.heap.size _ _ _ H.1.iw (by have:=A.1;omega)).mono ?_
  rintro ev w9 ⟨o9,rfl,a7,a8⟩;have O:=Hd (a7.lower H.1.bel.size);have P:=Hd (H.1.bel.trans (a8.mono H.1.bel.size));clear a7 a8 c1;go_wp2_with fail;refine bodyPost_ret (results_tmp2 rfl _ _ _) rfl ?_;rw [S.1,T.1,G.1];exact ⟨_,rfl,O.1,P.1⟩
 ·
  have B:=Hd (uJ hmay k0 k1).2;have k2:=(uJ hmay k0 k1).1;have G:=Hd (show evB e=([]++jZ [e.kind])++jZ [e.ticks] by unfold evB jZ;rw [k1,k2];simp)
  have A:=Hd (show (([]++jZ [e.kind])++jZ [e.ticks]).length≤1000 by simp [jZ];have:=jw e.kind;have:=jw e.ticks;omega)
  have U:=Hd (N63.lit 2 k2 (by omega))
  rw [jfI hmay k0 k1];clear hmay;go_wp2_with fail;refine (uE w1).mono ?_;rintro ev w2 ⟨rfl,a2,a3⟩;have a4:=C.1.below a3;have c0:∀ o,(w2.alloc o).cell? ⟨w.heap.size,0,none⟩=some (.int .i64 e.kind):=fun o=>(a4.below (ja w2 o)).cell 0 _ rfl
  have a5:=F.1.size;have b2:w1.heap.size<w2.heap.size:=a2.box.lt;have b3:w.heap.size<w2.heap.size:=by omega
  have b4:w.heap.size<w1.heap.size:=C.1.lt;have a6:EncSt w (w2.alloc (.cells #[.pointer (some ⟨w1.heap.size,0,none⟩)] 130)) w1.heap.size w2.heap.size w.heap.size _ 47 (.slice none 0 0) [] :=
   ⟨⟨a2.box.below (ja _ _),OwnM.nil _ _ _,by simp [Value.ownBlock]⟩,Box.new _ _ _,a4.below (ja _ _),jah (by omega),jah (by omega),a5,(F.1.trans (a3.mono a5)).trans ((ja _ _).mono (by omega))⟩
  have E:=Hd a6;clear a6 a4 a2 a3 C;go_wp2_with fail;refine (E.1.numbers (r:=w2.heap.size+1) (by simp) [e.kind] (fun n hn=>by rw [List.mem_singleton.1 hn];exact U.1) (by simp) (by simp)).mono ?_
  rintro ev w3 ⟨rfl,v3,a0⟩;have D:=Hd a0;clear a0 c0 E;have M:=Hd (D.1.below (ja w3 (.cells #[.int .i64 e.ticks] 140)));clear D;have t1:=fun v w=>jkL v w
  have t2:=fun v w=>jkF v w
  have t3:=fun v w=>jkK v w
  go_wp2_with fail;refine (M.1.numbers (r:=w3.heap.size+1) (by simp) [e.ticks] (fun n hn=>by rw [List.mem_singleton.1 hn];exact B.1) (by have:=A.1;simp only [List.length_append] at this ⊢;omega) (by simp)).mono ?_
  rintro ev w8 ⟨rfl,v8,a9⟩;have H:=Hd a9;clear a9 M;have c1:=H.1.bq.cell 0 _ rfl;go_wp2_with fail;refine (zA w.heap.size w1.heap.size _ _ _ H.1.iw (by have:=A.1;omega)).mono ?_
  rintro ev w9 ⟨o9,rfl,a7,a8⟩;have O:=Hd (a7.lower H.1.bel.size);have P:=Hd (H.1.bel.trans (a8.mono H.1.bel.size));clear a7 a8 c1;go_wp2_with fail;refine bodyPost_ret (results_tmp2 rfl _ _ _) rfl ?_;rw [S.1,T.1,G.1];exact ⟨_,rfl,O.1,P.1⟩
end Go.Proofs.YtgcnolapjppbpaaGreatDoor
