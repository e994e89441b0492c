/-
  Texts of one proof, one behind the other.
-/
import Derived.Test.YtgcnolapjppbpaaGreatDoorP09
import Derived.Lib.SliceRun
import Derived.Test.YtgcnolapjppbpaaGreatDoorP10
import Derived.Test.YtgcnolapjppbpaaGreatDoorP00
namespace Go.Proofs.YtgcnolapjppbpaaGreatDoor
open Go.RowKit _root_.Go.Proofs.Tryz
set_option maxRecDepth 100000
set_option maxHeartbeats 25600000
structure IsW (w:World)(B p:Nat)(v:Value)(l:List UInt8):Prop where
 box:Box w p #[v] 188
 own:OwnM w B 5 v l.length (l.map V8)
 ne:v.ownBlock≠some p
def Fresh (w:World)(v v':Value):Prop:=∀ k,v'.ownBlock=some k→v.ownBlock=some k∨w.heap.size≤k
theorem Fresh.refl (w:World)(v:Value):Fresh w v v:=fun _ h=>.inl h
theorem Fresh.moved {w w':World}{v v' v'':Value}(h:Fresh w v v')(hs:w.heap.size≤w'.heap.size)(hm:xe w' v' v''):Fresh w v v'':=fun k hk=>by
 rcases hm with e | e
 · rw [e] at hk;exact h k hk
 · rw [e] at hk;injection hk with hk;exact .inr (by omega)
theorem Fresh.trans {w w':World}{v v' v'':Value}(h:Fresh w v v')(hs:w.heap.size≤w'.heap.size)(k:Fresh w' v' v''):Fresh w v v'':=fun j hj=>by
 rcases k j hj with e | e
 · exact h j e
 · exact .inr (by omega)
def WF (p:Nat)(v:Value):Nat→Prop:=fun k=>k=p∨v.ownBlock=some k
theorem WF.then {w w1 w2:World}{p:Nat}{v v':Value}(h:Mod (WF p v) w w1)(hf:Fresh w v v')(k:Mod (WF p v') w1 w2):Mod (WF p v) w w2 :=
 h.then k (fun i hi=>by
  rcases hi with rfl | hi
  · exact .inl (.inl rfl)
  ·
   rcases hf i hi with e | e
   · exact .inl (.inr e)
   · exact .inr e)
theorem IsW.below {w w':World}{B p:Nat}{v:Value}{l:List UInt8}(h:IsW w B p v l)(hb:Below w.heap.size w w'):IsW w' B p v l:=⟨h.box.below hb,h.own.below hb,h.ne⟩
theorem IsW.step {w w1:World}{B p:Nat}{v v':Value}{l m:List UInt8}(h:IsW w B p v l)(a1:OwnM w1 B 5 v' (l.length+m.length) (l.map V8++m.map V8))(hg:w.grownBy w1 v.ownBlock)(hm:xe w v v') :
  IsW (w1.setCell ⟨p,0,none⟩ v') B p v' (l++m)∧Mod (WF p v) w (w1.setCell ⟨p,0,none⟩ v')∧Fresh w v v':=by
 have a3:=h.box.lt;have a0:v'.ownBlock≠some p:=by
  rcases hm with e | e
  · rw [e];exact h.ne
  · rw [e];intro e2;injection e2 with e2;omega
 have a2:Box w1 p #[v] 188:=h.box.grown hg h.ne;refine ⟨⟨by have:=a2.set 0 v';exact this,?_,a0⟩,?_,(Fresh.refl w v).moved (Nat.le_refl _) hm⟩
 ·
  rw [List.length_append,List.map_append];exact a1.mod (Mod.set (fun k=>k=p) w1 ⟨p,0,none⟩ v' rfl) (fun k hk e=>a0 (by rw [hk,e]))
 · exact (Mod.of_grown hg (F:=WF p v) (fun k hk=>.inr hk)).trans (Mod.set _ _ _ _ (.inl rfl))
theorem uE (w:World) :
  Calls prog 66 #[] w fun e w'=>e=.returned (.pointer (some ⟨w.heap.size,0,none⟩))∧IsW w' w.heap.size w.heap.size (.slice none 0 0) []∧Below w.heap.size w w':=by
 go_enter func66,ntmps66;go_wp2_with fail;go_ret;exact ⟨rfl,⟨Box.new _ _ _,OwnM.nil _ _ _,by simp [Value.ownBlock]⟩,ja _ _⟩
theorem zk (B p:Nat)(v0:Value)(l0:List UInt8)(n:Nat)(w:World)(hw:IsW w B p v0 l0)(hn:n<2 ^ 64)(b5:l0.length≤140737488350000)(hB:B≤w.heap.size) :
  Calls prog 68 #[.pointer (some ⟨p,0,none⟩),.int .u64 (n:Int)] w fun e w'=>e=.returned (.tuple #[])∧∃ v',IsW w' B p v' (l0++yM n)∧Mod (WF p v0) w w'∧Fresh w v0 v':=by
 go_enter func68,ntmps68;go_wp2_with fail
 go_loopg [1] n (fun gk vv wr=>∃ (i v:Nat) (l:List UInt8) (v1:Value),gk=v∧i≤9∧vv=.int .u64 (v:Int)∧v<2 ^ (70-7*i)∧v<2 ^ 64∧IsW wr B p v1 (l0++l)∧l++vC (10-i) v=yM n∧Mod (WF p v0) w wr∧Fresh w v0 v1)
 case atStart=>exact ⟨0,n,[],v0,rfl,by omega,rfl,by omega,hn,by rw [List.append_nil];exact hw,by simp [yM],Mod.refl _ _,Fresh.refl _ _⟩
 case round =>
  obtain ⟨i,v,l,v1,a7,hi,rfl,hv,a8,hW,hl,hM,hF⟩:=hrel;have hs:=hM.size;have a4:(l0++l).length+1≤140737488355328:=by
   have h5:(l++vC (10-i) v).length=(yM n).length:=by rw [hl]
   have:=xu n;rw [List.length_append] at h5 ⊢;omega
  obtain ⟨L,a9⟩:=Nm (l0++l);rw [← a9] at hW a4;have J:=Hd a9;clear a9;have M:=Hd a4;have hc:=hW.box.cell 0 v1 rfl;have b1:=hW.box.free 0;have hp:=hW.box.lt;obtain ⟨xa,xc,rfl,_⟩:=hW.own.slice;have E:=Hd hW;have N:=Hd hM;have G:=Hd hF;have S:=Hd hl;by_cases hc2:127<v
  ·
   have g1:(127:Int)<(v:Int):=by omega
   have O:=Hd a7;obtain ⟨k,hk⟩:=Nm (v % 128+128);have H:=Hd (je5 k (by omega))
   have b6:bits .or .u8 ((v:Int) % 256) 128=(k:Int):=by
    have:=jki (v % 256) (by omega)
    rw [show ((v:Int) % 256)=((v % 256:Nat):Int) by omega,this];omega
   have b2:i<9:=by
    rcases Nat.lt_or_ge i 9 with h | h
    · exact h
    ·
     have:i=9:=by omega
     subst this;omega
   have R:=Hd b2;have K:=Hd (show v / 128<2 ^ 64 by omega)
   have P:=Hd (show v / 128<2 ^ (70-7*(i+1)) from by
    have e:2 ^ (70-7*i)=2 ^ (70-7*(i+1))*128:=by rw [show 70-7*i=(70-7*(i+1))+7 by omega,Nat.pow_add]
    rw [e] at hv;exact Nat.div_lt_of_lt_mul (by rw [Nat.mul_comm];exact hv))
   have I:=Hd (show (l ++ [UInt8.ofNat k])++vC (10-(i+1)) (v / 128)=yM n from by
    rw [show 10-i=(9-i)+1 by omega] at hl
    unfold vC at hl;rw [if_neg (by omega)] at hl
    rw [← hl,hk,List.append_assoc,show 10-(i+1)=9-i by omega];rfl)
   have b3:(v:Int) / 128=((v / 128:Nat):Int):=by omega
   obtain ⟨q,hq⟩:=Nm (v / 128);rw [← hq] at b3 P K I;have Q:=Hd (show q<v by omega)
   clear hv a8 hl hM hF hi a4 a7 hc2 hk b2 hq hW
   go_wp2_with (at_builtin;refine jec rfl _ _ rfl B _ _ _ rfl (E.1.own.below (ja wr _)) ⟨wr.heap.size,0,none⟩ 1 (.int .u8 (k:Int)) rfl (by exact cell_one_new _ _ _ 0 _ rfl) (by simp [Value.oneCell']) (by have:=M.1;omega) (by simp;omega) ?_)
   intro v' w1 a0 a2 a5 _;obtain ⟨ya,yc,rfl,_⟩:=a0.slice;have a1:=E.1.below (ja wr (.cells #[.int .u8 (k:Int)] 5));have b0:=a1.step (m := [UInt8.ofNat k]) (by rw [List.length_singleton,List.map_singleton,H.1];exact a0) a2 a5
   obtain ⟨s1,s2,s3⟩:=b0;have a3:Box w1 p #[_] _:=a1.box.grown a2 a1.ne;have c1:=a3.cell 0 _ rfl;have f1:=a3.free 0;have a6:=Mod.of_below (F:=WF p (.slice xa L.length xc)) (ja wr (.cells #[.int .u8 (k:Int)] 5));have A:=Hd s1;have C:=Hd (WF.then N.1 G.1 (a6.trans s2));have D:=Hd (G.1.trans hs (Fresh.trans (Fresh.refl wr _) (show wr.heap.size≤(wr.alloc (.cells #[.int .u8 (k:Int)] 5)).heap.size by simp) s3))
   clear s1 s2 s3 a3 a1 a6 a0 a2 a5 hc b1 hp;go_wp2_with fail
   go_roundg q
   case measure=>have:=Q.1;have:=O.1;omega
   case rel=>exact ⟨i+1,q,l ++ [UInt8.ofNat k],_,rfl,by have:=R.1;omega,by go_num,P.1,K.1,by rw [← List.append_assoc,← J.1];exact A.1,I.1,C.1,D.1⟩
  ·
   have g1:¬ (127:Int)<(v:Int):=by omega
   have H:=Hd (je5 v (by omega))
   have b4:(v:Int) % 256=(v:Int):=by omega
   have I:=Hd (show l ++ [UInt8.ofNat v]=yM n from by
    rw [show 10-i=(9-i)+1 by omega] at hl
    unfold vC at hl;rw [if_pos (by omega)] at hl;exact hl)
   clear hv a8 hl hM hF hi a4 a7 hc2 hW
   go_wp2_with (at_builtin;refine jec rfl _ _ rfl B _ _ _ rfl (E.1.own.below (ja wr _)) ⟨wr.heap.size,0,none⟩ 1 (.int .u8 (v:Int)) rfl (by exact cell_one_new _ _ _ 0 _ rfl) (by simp [Value.oneCell']) (by have:=M.1;omega) (by simp;omega) ?_)
   intro v' w1 a0 a2 a5 _;obtain ⟨ya,yc,rfl,_⟩:=a0.slice;have a1:=E.1.below (ja wr (.cells #[.int .u8 (v:Int)] 5));have b0:=a1.step (m := [UInt8.ofNat v]) (by rw [List.length_singleton,List.map_singleton,H.1];exact a0) a2 a5
   obtain ⟨s1,s2,s3⟩:=b0;have a3:Box w1 p #[_] _:=a1.box.grown a2 a1.ne;have c1:=a3.cell 0 _ rfl;have f1:=a3.free 0;have a6:=Mod.of_below (F:=WF p (.slice xa L.length xc)) (ja wr (.cells #[.int .u8 (v:Int)] 5));have A:=Hd s1;have C:=Hd (WF.then N.1 G.1 (a6.trans s2));have D:=Hd (G.1.trans hs (Fresh.trans (Fresh.refl wr _) (show wr.heap.size≤(wr.alloc (.cells #[.int .u8 (v:Int)] 5)).heap.size by simp) s3))
   clear s1 s2 s3 a3 a1 a6 a0 a2 a5 hc b1 hp;go_wp2_with fail;refine bodyPost_end (results_none rfl _ _ _) rfl ?_;refine ⟨rfl,_,?_,C.1,D.1⟩;rw [show l0++yM n=L ++ [UInt8.ofNat v] from by rw [J.1,List.append_assoc,I.1]];exact A.1
theorem uA (B p:Nat)(v0:Value)(l0:List UInt8)(m:List UInt8)(w:World)(hw:IsW w B p v0 l0)(hm:m.length≤140737488340000)(a4:l0.length+m.length≤140737488350000)(hB:B≤w.heap.size) :
  Calls prog 69 #[.pointer (some ⟨p,0,none⟩),.string (SB m)] w fun e w'=>e=.returned (.tuple #[])∧∃ v',IsW w' B p v' (l0++yr m)∧Mod (WF p v0) w w'∧Fresh w v0 v':=by
 have G:=Hd (zk B p v0 l0 m.length w hw (by omega) (by omega) hB)
 have z1:=jav m.length (by omega)
 have a5:(SB m).size=m.length:=SB_size m;go_enter func69,ntmps69;go_wp2_with fail;refine G.1.mono ?_;rintro e w1 ⟨rfl,v1,h1,h2,h3⟩;obtain ⟨L,hL⟩:=Nm (l0++yM m.length);rw [← hL] at h1;have I:=Hd (show L.length+m.length≤140737488355328 from by
  have:=xu m.length;rw [hL,List.length_append];omega)
 have A:=Hd hL;have hs:=h2.size;obtain ⟨xa,xc,rfl,_⟩:=h1.own.slice;have hc:=h1.box.cell 0 _ rfl;have H:=Hd h1;have J:=Hd h2;have C:=Hd h3;clear h1 h2 h3 hL
 go_wp2_with (at_builtin;refine jeA rfl _ _ rfl B _ _ _ rfl H.1.own m rfl (by have:=I.1;omega) (by omega) ?_)
 intro v' w2 a0 a1 a3;obtain ⟨ya,yc,rfl,_⟩:=a0.slice;obtain ⟨s1,s2,s3⟩:=H.1.step a0 a1 a3;have a2:Box w2 p #[_] _:=H.1.box.grown a1 H.1.ne;have c1:=a2.cell 0 _ rfl;have f1:=a2.free 0;have D:=Hd s1;have E:=Hd (WF.then J.1 C.1 s2);have F:=Hd (C.1.trans hs s3);clear s1 s2 s3 a2 a0 a1 a3 hc;go_wp2_with fail;refine bodyPost_end (results_none rfl _ _ _) rfl ?_;refine ⟨rfl,_,?_,E.1,F.1⟩;rw [show l0++yr m=L++m from by rw [A.1,List.append_assoc];rfl];exact D.1
theorem jbZ (v:Value)(l:List UInt8)(w:World)(hv:Rd w v l.length (l.map V8))(hl:l.length≤140737488355000) :
  Calls prog 97 #[v] w fun e w'=>∃ o,e=.returned o∧OwnM w' w.heap.size 5 o l.length (l.map V8)∧Below w.heap.size w w':=by
 have a1:=hv;obtain ⟨a,cap,rfl,h1,h2,h3,h4⟩:=hv
 cases a with
 | none =>
  have h0:l = []:=List.eq_nil_of_length_eq_zero (by have:=h3 rfl;omega)
  subst h0;have a4:cap=0:=h3 rfl;subst a4;clear h4 h3 a1;have a2:=fun w=>Lib.run_eql_slice_nil (P:=prog) w 92 5 none 0 0 0 0 underlying92
  change ∀ w,Sem.run _ _ w=Result.ok (Value.bool true) w at a2
  go_enter func97,ntmps97;go_wp2_with fail;go_ret;exact ⟨_,rfl,OwnM.nil _ _ _,Below.refl _ _⟩
 | some a =>
  have B:=Hd a1;clear h4 h3 a1;have a2:=fun w=>Lib.run_eql_slice_nil (P:=prog) w 92 5 (some a) l.length cap 0 0 underlying92
  change ∀ w,Sem.run _ _ w=Result.ok (Value.bool false) w at a2
  have H:=Hd (show OwnM (w.alloc (.cells #[] 5)) w.heap.size 5 (.slice (some ⟨w.heap.size,0,none⟩) 0 0) 0 [] from ⟨rfl,.inr ⟨w.heap.size,0,#[],(0,0),rfl,Nat.le_refl _,heap_alloc_new w _,.inl rfl,by omega,by unfold maxLen;omega,by simp,rfl⟩⟩)
  go_enter func97,ntmps97
  go_wp2_with (at_builtin;refine yQ rfl _ _ rfl w.heap.size _ _ _ rfl H.1 _ l rfl (B.1.below (ja w _)) (by omega) (by simp) ?_)
  intro v' w2 a0 a3 a5;have C:=Hd ((ja w (.cells #[] 5)).trans (ji a3 (by simp) (fun q hq=>(H.1.lt q hq).1)))
  have A:=Hd a0;clear a0 a3 a5;go_wp2_with fail;go_ret;exact ⟨_,rfl,A.1,C.1⟩
theorem zA (B p:Nat)(v:Value)(l:List UInt8)(w:World)(hw:IsW w B p v l)(hl:l.length≤140737488355000) :
  Calls prog 70 #[.pointer (some ⟨p,0,none⟩)] w fun e w'=>∃ o,e=.returned o∧OwnM w' w.heap.size 5 o l.length (l.map V8)∧Below w.heap.size w w':=by
 obtain ⟨xa,xc,rfl,_⟩:=hw.own.slice;have hc:=hw.box.cell 0 _ rfl;have H:=Hd (jbZ _ l w hw.own.rd hl);clear hw;go_enter func70,ntmps70;go_wp2_with fail;refine H.1.mono ?_;rintro e w1 ⟨o,rfl,h1,h2⟩;have A:=Hd h1;have C:=Hd h2;clear h1 h2;go_wp2_with fail;go_ret;exact ⟨_,rfl,A.1,C.1⟩
theorem jas {w:World}{a b:Addr}(x:Value)(h:a.block≠b.block):(w.setCell b x).cell? a=w.cell? a :=
 World.cell?_of_block (w:=w) (Below.heap_setCell w b x a.block h)
theorem jjB {w w2 w3 w1 w4:World}{r s:Nat}(h2:Below w.heap.size w w2)(h3:Below w2.heap.size w2 w3)(hm:Mod (fun i=>i=r∨i=s) w3 w1)(hs:w.heap.size≤s)(hl:Mod (fun i=>i=r∨w.heap.size≤i) w1 w4):Mod (fun i=>i=r) w w4 :=
 (Mod.of_below (F:=fun i=>i=r) (h2.trans (h3.mono h2.size))).then ((hm.mono (G:=fun i=>i=r∨w.heap.size≤i) (fun i hi=>hi.imp id (fun e=>by omega))).trans hl) (fun _ hi=>hi)
theorem jdR (r k b1 b4:Nat)(v x:Value)(l:List UInt8)(t:TypeId)(w:World)(h:IsR w r v l k)(h1:w.cell? ⟨b1,0,none⟩=some (.pointer (some ⟨r,0,none⟩)))(h4:Box w b4 #[x] t)(a2:b4≠r)(hv:v.ownBlock≠some b4) :
  Calls prog 181 #[.pointer (some ⟨b1,0,none⟩),.pointer (some ⟨b4,0,none⟩)] w fun e w'=>Mod (fun i=>i=r∨i=b4) w w' ∧
   ((e=.returned (.tuple #[])∧((jW (l.drop k)).1=0∧w'.cell? ⟨b4,0,none⟩=some (.int .u64 ((jW (l.drop k)).2.1:Int))∧IsR w' r v l (k+(jW (l.drop k)).2.2)))∨∃ n,e=pan n∧(n=(jW (l.drop k)).1∧(jW (l.drop k)).1≠0)∧∃ j,IsR w' r v l j):=by
 have B:=Hd (ja0 r k v l w h);generalize jW (l.drop k)=N at B ⊢;have C:=Hd h4;clear h h4;go_enter func181,ntmps181;go_wp2_with fail;refine B.1.mono ?_;rintro e w1 ⟨hm,⟨hn,rfl,hi⟩ | ⟨hn,rfl,hj⟩⟩
 ·
  have a0:=C.1.mod hm a2;have c0:=a0.cell 0 _ rfl;have f0:=a0.free 0;have a1:=Mod.set (fun i=>i=b4) w1 ⟨b4,0,none⟩ (.int .u64 (N.2.1:Int)) rfl
  have D:=Hd (hi.mod a1 (fun e=>a2 e.symm) (fun b hb e=>hv (by rw [hb,e])))
  have E:=Hd ((a0.set 0 (.int .u64 (N.2.1:Int))).cell 0 _ rfl);have H:=Hd ((hm.mono (fun i hi=>Or.inl hi:∀ i,i=r→i=r∨i=b4)).trans (a1.mono (fun i hi=>Or.inr hi:∀ i,i=b4→i=r∨i=b4)))
  have A:=Hd hn;clear hm a0 a1 hi hn;go_wp2_with fail;refine bodyPost_end (results_none rfl _ _ _) rfl ?_;exact ⟨H.1,.inl ⟨rfl,A.1,E.1,D.1⟩⟩
 ·
  have H:=Hd (hm.mono (fun i hi=>Or.inl hi:∀ i,i=r→i=r∨i=b4))
  have A:=Hd hn;have F:=Hd hj;clear hm hn hj;unfold pan;go_wp2_with fail;exact ⟨rfl,H.1,.inr ⟨_,rfl,⟨rfl,A.1⟩,F.1⟩⟩
theorem jab (r k:Nat)(v:Value)(l:List UInt8)(w:World)(h:IsR w r v l k)(a4:∀ b,v.ownBlock=some b→b<w.heap.size) :
  Calls prog 161 #[.pointer (some ⟨r,0,none⟩)] w fun e w'=>Mod (fun i=>i=r) w w' ∧
   (((jW (l.drop k)).1=0∧e=.returned (.tuple #[.int .u64 ((jW (l.drop k)).2.1:Int),.nilIface])∧IsR w' r v l (k+(jW (l.drop k)).2.2))∨((jW (l.drop k)).1≠0∧e=.returned (.tuple #[.int .u64 0,.iface 91 (.int .i64 (jW (l.drop k)).1)])∧IsR w' r v l k)):=by
 have b2:∀ (fn:Fn) (first cap:Array Value) (w:World),(Instr.makeFunc fn first cap).run prog w=.ok (.func fn first cap) w:=fun _ _ _ _=>rfl
 have b3:=h.box.lt;obtain ⟨w2,a0⟩:=Nm ((w.alloc (.cells #[.pointer (some ⟨r,0,none⟩)] 235)).alloc (.cells #[.int .u64 0] 42));have a6:w2.heap.size=w.heap.size+2:=by rw [a0,World.size_alloc,World.size_alloc]
 have a3:Below w.heap.size w w2:=by rw [a0];exact (ja w _).trans ((ja _ _).mono (by simp))
 have a2:Below w2.heap.size w2 (xP w2 r k):=by unfold xP;exact ((ja w2 _).trans ((ja _ _).mono (by simp))).trans ((ja _ _).mono (by simp;omega))
 have a7:Box w2 w.heap.size #[.pointer (some ⟨r,0,none⟩)] 235:=by rw [a0];exact (Box.new w _ _).below (ja _ _)
 have a5:Box w2 (w.heap.size+1) #[.int .u64 0] 42:=by
  rw [a0];have:=Box.new (w.alloc (.cells #[.pointer (some ⟨r,0,none⟩)] 235)) #[.int .u64 0] 42;rw [World.size_alloc] at this;exact this
 have a8:=(h.below a3).below a2;have hc:=jgo r k v l ⟨w.heap.size,0,none⟩ ⟨w.heap.size+1,0,none⟩ w2 (h.below a3) _ _ (fun i=>i=r∨i=w.heap.size+1) (fun i hi=>by omega)
  (jdR r k w.heap.size (w.heap.size+1) v _ l 42 (xP w2 r k) a8 ((a7.below a2).cell 0 _ rfl) (a5.below a2) (by omega) (fun e=>by have:=a4 _ e;omega))
 rw [a0] at hc;have H:=Hd hc;rw [← a0] at H;clear hc;have A:=Hd a3;have B:=Hd a2;have I:=Hd a5;have F:=Hd h.le;clear a3 a2 a7 a5 a8 h;generalize jW (l.drop k)=N at H ⊢;go_enter func161,ntmps161;go_wp2_with fail;rw [← a0];clear a0;refine H.1.mono ?_;rintro e w9 (⟨rfl,w1,⟨hn,a9,hi⟩,hm,rfl⟩ | ⟨n,rfl,w1,⟨rfl,hn⟩,hm,⟨j,hj⟩,rfl⟩)
 ·
  have a1:=Mod.set (fun i=>i=w2.heap.size+1) w1 ⟨w2.heap.size+1,0,none⟩ .nilIface rfl
  have c4:=(jas (w:=w1) (a:=⟨w.heap.size+1,0,none⟩) (b:=⟨w2.heap.size+1,0,none⟩) .nilIface (by simp;omega)).trans a9
  have C:=Hd (hi.mod a1 (by omega) (fun b hb e=>by have:=a4 _ hb;omega))
  have D:=Hd (jjB A.1 B.1 hm (by omega) (a1.mono (G:=fun i=>i=r∨w.heap.size≤i) (fun i hi=>.inr (by omega))))
  have E:=Hd hn;clear hn a9 hi hm a1 H a6;go_wp2_with fail;refine bodyPost_ret (results_tmp2 rfl _ _ _) rfl ?_;exact ⟨D.1,.inl ⟨E.1,rfl,C.1⟩⟩
 ·
  obtain ⟨b0,b1⟩:=hj.set k F.1;have a1:=Mod.set (fun i=>i=w2.heap.size+1) (w1.setCell ⟨r,1,none⟩ (.int .i64 (k:Int))) ⟨w2.heap.size+1,0,none⟩ (.iface 91 (.int .i64 N.1)) rfl
  have C:=Hd (b0.mod a1 (by omega) (fun b hb e=>by have:=a4 _ hb;omega))
  have D:=Hd (jjB A.1 B.1 hm (by omega) ((b1.mono (G:=fun i=>i=r∨w.heap.size≤i) (fun i hi=>.inl hi)).trans (a1.mono (G:=fun i=>i=r∨w.heap.size≤i) (fun i hi=>.inr (by omega)))))
  have E:=Hd hn;clear hn hj hm a1 b0 b1 H a6;go_wp2_with fail;refine bodyPost_ret (results_tmp2 rfl _ _ _) rfl ?_;exact ⟨D.1,.inr ⟨E.1,rfl,C.1⟩⟩
theorem jcO (r k:Nat)(v:Value)(l:List UInt8)(w:World)(h:IsR w r v l k) :
  Calls prog 162 #[.pointer (some ⟨r,0,none⟩)] w fun e w'=>e=.returned (.int .i64 ((l.length-k:Nat):Int))∧Below w.heap.size w w'∧IsR w' r v l k:=by
 have hr:=h.rd;obtain ⟨a,cap,rfl,h1,h2,_,_⟩:=hr;have a1:=h.sm;have a2:=h.le;have c0:=h.box.cell 0 _ rfl;have c1:=h.box.cell 1 _ rfl;have A:=Hd h;have z1:IntKind.i64.wrap ((l.length:Int)-(k:Int))=((l.length-k:Nat):Int):=by simp [IntKind.wrap,IntKind.bits,IntKind.signed];omega
 clear h;go_enter func162,ntmps162;go_wp2_with fail
 go_quiet (fail)
 have a0:Below w.heap.size w (w.drewN nq):=⟨rfl,rfl,rfl,Nat.le_refl _,fun _ _=>rfl⟩
 have H:=Hd (A.1.below a0);go_wp2_with fail;go_ret;exact ⟨rfl,a0,H.1⟩
theorem uG (r k:Nat)(v:Value)(l:List UInt8)(w:World)(h:IsR w r v l k) :
  Calls prog 125 #[.pointer (some ⟨r,0,none⟩)] w fun e w'=>e=.returned (jo (if k<l.length then 3 else 0))∧Below w.heap.size w w':=by
 obtain ⟨E,hE⟩:=Nm (jo (if k<l.length then 3 else 0))
 rw [← hE];have H:=Hd (jcO r k v l w h);obtain ⟨d,hd⟩:=Nm (l.length-k);rw [← hd] at H;have a0:=h.le;clear h;go_enter func125,ntmps125;go_wp2_with fail;refine H.1.mono ?_;rintro e w1 ⟨rfl,hb,_⟩;have B:=Hd hb;clear hb H;by_cases hk:k<l.length
 ·
  have A:=Hd (show E=.iface 91 (.int .i64 3) by rw [hE,if_pos hk];rfl)
  have g1:(0:Int)<(d:Int):=by omega
  clear hk hd a0 hE;go_wp2_with fail;go_ret;rw [A.1];exact ⟨rfl,B.1⟩
 ·
  have A:=Hd (show E=.nilIface by rw [hE,if_neg hk];rfl)
  have g1:¬ (0:Int)<(d:Int):=by omega
  clear hk hd a0 hE;go_wp2_with fail;go_ret;rw [A.1];exact ⟨rfl,B.1⟩
theorem jdn (v:Value)(l:List UInt8)(w:World)(h:Rd w v l.length (l.map V8))(hl:l.length≤1000000000000) :
  Calls prog 121 #[v] w fun e w'=>∃ r v',e=.returned (.pointer (some ⟨r,0,none⟩))∧IsR w' r v' l 0∧Below w.heap.size w w'∧w.heap.size≤r∧(∀ b,v'.ownBlock=some b→w.heap.size≤b∧b<w'.heap.size):=by
 have B:=Hd (jbZ v l w h (by omega))
 obtain ⟨a,cap,rfl,_⟩:=h;go_enter func121,ntmps121;go_wp2_with fail;refine B.1.mono ?_;rintro e w1 ⟨o,rfl,ho,hb⟩;obtain ⟨a2,c2,rfl,_⟩:=ho.slice;have H:=Hd ho;have A:=Hd hb;clear ho hb B;go_wp2_with fail;go_ret;have a0:=ja w1 (.cells #[.slice a2 l.length c2,.int .i64 0] 288);refine ⟨w1.heap.size,_,rfl,⟨Box.new _ _ _,H.1.rd.below a0,by omega,fun e=>by have:=(H.1.lt _ e).2;omega,hl⟩,A.1.trans (a0.mono A.1.size),A.1.size,fun b a1=>⟨(H.1.lt b a1).1,by have:=(H.1.lt b a1).2;simp;omega⟩⟩
def jN (l:List UInt8):Int × List UInt8 × Nat :=
 if (jW l).1=0 then (if 32<(jW l).2.1 then (3,[],0) else if l.length-(jW l).2.2<(jW l).2.1 then (2,[],0) else (0,(l.drop (jW l).2.2).take (jW l).2.1,(jW l).2.2+(jW l).2.1)) else ((jW l).1,[],0)
theorem jfK (a:Option Addr)(n cap lo hi:Nat)(h1:lo≤hi)(h2:hi≤cap)(w:World):(Instr.slice 92 (.slice a n cap) (some (.int .i64 (lo:Int))) (some (.int .i64 (hi:Int))) none).run prog w=.ok (xE a hi cap lo) w:=by
 have hx:prog.elem 92=5:=by unfold Program.elem;rw [underlying92]
 have a0:(sizeOf 5).run prog w=.ok 1 w:=by kernel_rfl
 rw [run_slice_lh w 92 a n cap (by rw [hx];exact underlying92) .i64 .i64 (lo:Int) (hi:Int) (by omega) (by omega) (by omega),hx,a0]
 simp [Result.andThen,sliced,xE]
theorem jjQ {w w':World}{v:Value}{n:Nat}{xs:List Value}(h:Rd w v n xs)(hh:w'.heap=w.heap):Rd w' v n xs:=h.keep (fun b _ _=>by rw [hh])
theorem jj8 {w:World}{a:Option Addr}{n cap lo hi:Nat}{l:List UInt8}(h:Rd w (.slice a n cap) n (l.map V8))(h1:lo≤hi)(h2:hi≤n):Rd w (xE a hi cap lo) (hi-lo) (((l.drop lo).take (hi-lo)).map V8):=by
 have hc:hi≤cap:=by obtain ⟨a',cap',e,h5,_⟩:=h;injection e with _ _ e3;omega
 have h3:=h.cut hc hi;have h4:=xD (k:=lo) h3 h1 (by rw [List.length_take];omega)
 rw [← List.map_take,← List.map_drop,List.drop_take] at h4;exact h4
theorem jcl {P:Program}{ops:Array Oper}{rest:List Oper}{op:Oper}{a:Act}{w:World}{Q:Act→Prop}(hw:Region.wanted op (yielded ops a.tmps)=true)(s d:TypeId)(x:Operand)(ho:op.op=.convert s d x)(v r:Value)(hx:a.eval x=v)(hr:(convert s d v).run P w=.ok r w)(h:wpStill P ops w Q rest (a.put op.dst r)):wpStill P ops w Q (op::rest) a:=by
 unfold wpStill;rw [if_pos hw];unfold Oper.still execOp;simp only [ho,hx,Sem.run_bind,Sem.run_pure,Result.andThen_ok,hr];exact ⟨rfl,h⟩
theorem jf9 (r k b1 bm b6:Nat)(v x:Value)(l:List UInt8)(t t2 t3:TypeId)(w:World)(h:IsR w r v l k)(h1:Box w b1 #[.pointer (some ⟨r,0,none⟩)] t2)(hm:Box w bm #[.int .i64 32] t3)(h6:Box w b6 #[x] t)(a6:b6≠r)(b7:b1≠r)(b8:bm≠r)(b9:b1≠b6)(hv:v.ownBlock≠some b6) :
  Calls prog 179 #[.pointer (some ⟨b1,0,none⟩),.pointer (some ⟨bm,0,none⟩),.pointer (some ⟨b6,0,none⟩)] w fun e w'=>Mod (fun i=>i=r∨i=b6) w w' ∧
   ((e=.returned (.tuple #[])∧((jN (l.drop k)).1=0∧w'.cell? ⟨b6,0,none⟩=some (.string (SB (jN (l.drop k)).2.1))∧IsR w' r v l (k+(jN (l.drop k)).2.2)))∨∃ n,e=pan n∧(n=(jN (l.drop k)).1∧(jN (l.drop k)).1≠0)∧∃ j,IsR w' r v l j):=by
 have c4:=h.rd;obtain ⟨a,cap,rfl,c8,c9,d0,_⟩:=c4;have K:=Hd (ja0 r k _ l w h);obtain ⟨R,hR⟩:=Nm (jN (l.drop k));rw [← hR];unfold jN at hR;rw [List.length_drop,List.drop_drop] at hR;generalize jW (l.drop k)=N at K hR;obtain ⟨er,n,u⟩:=N;have c1:=h1.cell 0 _ rfl;have B:=Hd h1;have I:=Hd hm;have C:=Hd h6;have c7:=h.le;have d4:=h.sm;clear h h1 hm h6;go_enter func179,ntmps179;go_wp2_with fail;refine K.1.mono ?_;clear K;rintro e w1 ⟨a2,⟨hn,rfl,hi⟩ | ⟨hn,rfl,hj⟩⟩
 rotate_left
 ·
  have D:=Hd (a2.mono (fun i hi=>Or.inl hi:∀ i,i=r→i=r∨i=b6))
  have A:=Hd (show R=(er,[],0) by rw [hR,if_neg hn])
  have Q:=Hd hn;have S:=Hd hj;clear a2 hn hj hR;unfold pan;go_wp2_with fail;rw [A.1];exact ⟨rfl,D.1,.inr ⟨_,rfl,⟨rfl,Q.1⟩,S.1⟩⟩
 ·
  simp only at hn hi hR ⊢;rw [if_pos hn] at hR;have a0:=B.1.mod a2 b7;have b3:=I.1.mod a2 b8;have a1:=C.1.mod a2 a6;have L:=Hd hi;have D:=Hd (a2.mono (fun i hi=>Or.inl hi:∀ i,i=r→i=r∨i=b6))
  have d1:=a0.cell 0 _ rfl;have dm:=b3.cell 0 _ rfl;have HX1':=Hd a0;have HX6':=Hd a1;clear a0 b3 a1 B I C a2 c1 hi hn;by_cases hbig:32<n
  ·
   have A:=Hd (show R=(3,[],0) by rw [hR,if_pos hbig])
   have g1:(32:Int)<(n:Int):=by omega
   clear hR hbig;go_wp2_with fail;rw [A.1];exact ⟨rfl,D.1,.inr ⟨_,rfl,⟨rfl,by decide⟩,_,L.1⟩⟩
  ·
   rw [if_neg hbig] at hR;have g1:¬ (32:Int)<(n:Int):=by omega
   have E:=Hd hbig;have G:=Hd hR;clear hbig hR;go_wp2_with fail;refine (jcO r (k+u) _ l w1 L.1).mono ?_;rintro e w2 ⟨rfl,a3,a7⟩;obtain ⟨d,hd⟩:=Nm (l.length-(k+u));rw [← hd];have a8:=a7.le;have zd:IntKind.u64.wrap (d:Int)=(d:Int):=jem d (by omega)
   have HR':=G;have H:=Hd a7;have J:=Hd (D.1.trans (Mod.of_below (F:=fun i=>i=r∨i=b6) a3))
   have a0:=HX1'.1.below a3;have a1:=HX6'.1.below a3;have d2:=a0.cell 0 _ rfl;have B:=Hd a0;have C:=Hd a1;clear a7 a3 a0 a1 HX1' HX6' D L d1 dm;by_cases hsh:d<n
   ·
    have A:=Hd (show R=(2,[],0) by have h5:=G.1;rw [show l.length-k-u=d by omega,if_pos hsh] at h5;exact h5)
    have g2:(d:Int)<(n:Int):=by omega
    clear hsh hd a8;go_wp2_with fail;rw [A.1];exact ⟨rfl,J.1,.inr ⟨_,rfl,⟨rfl,by decide⟩,_,H.1⟩⟩
   ·
    have c2:=E.1;obtain ⟨p,hp⟩:=Nm (k+u);rw [← hp] at hd a8 H;obtain ⟨q,hq⟩:=Nm (p+n);obtain ⟨T,hT⟩:=Nm ((l.drop p).take n);have A:=Hd (show R=(0,T,u+n) by have h5:=G.1;rw [show l.length-k-u=d by omega,if_neg hsh,← hp,← hT] at h5;exact h5)
    have g2:¬ (d:Int)<(n:Int):=by omega
    have zn:IntKind.i64.wrap (n:Int)=(n:Int):=by simp [IntKind.wrap,IntKind.bits,IntKind.signed];omega
    have zs:IntKind.i64.wrap ((p:Int)+(n:Int))=(q:Int):=by simp [IntKind.wrap,IntKind.bits,IntKind.signed];omega
    obtain ⟨tv,a9⟩:=Nm (xE a q cap p);have d5:∀ w,(Instr.slice 92 (.slice a l.length cap) (some (.int .i64 (p:Int))) (some (.int .i64 (q:Int))) none).run prog w=.ok tv w:=fun w=>by rw [a9];exact jfK a _ cap p q (by omega) (by omega) w
    have c5:∀ w',w'.heap=w2.heap→(convert 92 9 tv).run prog w'=.ok (.string (SB T)) w':=fun w' c6=>by
     have h5:=jj8 H.1.rd (show p≤q by omega) (by omega)
     rw [show q-p=n by omega,← a9,← hT] at h5
     exact vU T (jjQ h5 c6) (by rw [hT,List.length_take,List.length_drop];omega)
    have c0:w2.cell? ⟨r,0,none⟩=some (.slice a l.length cap):=H.1.box.cell 0 _ rfl;have c1:w2.cell? ⟨r,1,none⟩=some (.int .i64 (p:Int)):=H.1.box.cell 1 _ rfl;have b0:Below w2.heap.size w2 w2.drew:=jd _;have a1:Box w2.drew b6 #[x] t:=C.1;have a0:Box w2.drew b1 #[.pointer (some ⟨r,0,none⟩)] t2:=B.1;have e6:w2.cell? ⟨b6,0,none⟩=some x:=a1.cell 0 _ rfl;have f6:w2.frozen? ⟨b6,0,none⟩=false:=a1.free 0;have a4:=Mod.set (fun i=>i=b6) w2.drew ⟨b6,0,none⟩ (.string (SB T)) rfl
    have a5:=(H.1.below b0).mod a4 (fun e=>a6 e.symm) (fun b hb e=>hv (by rw [hb,e]))
    have b2:=a0.mod a4 b9;have c3:(w2.setCell ⟨b6,0,none⟩ (.string (SB T))).cell? ⟨r,1,none⟩=some (.int .i64 (p:Int)):=a5.box.cell 1 _ rfl;have f3:(w2.setCell ⟨b6,0,none⟩ (.string (SB T))).frozen? ⟨r,1,none⟩=false:=a5.box.free 1;have d3:(w2.setCell ⟨b6,0,none⟩ (.string (SB T))).cell? ⟨b1,0,none⟩=some (.pointer (some ⟨r,0,none⟩)):=b2.cell 0 _ rfl;obtain ⟨b4,b5⟩:=a5.set q (by omega)
    have M:=Hd b4;have O:=Hd ((jas (w:=w2.drew.setCell ⟨b6,0,none⟩ (.string (SB T))) (a:=⟨b6,0,none⟩) (b:=⟨r,1,none⟩) (.int .i64 (q:Int)) a6).trans ((a1.set 0 (.string (SB T))).cell 0 _ rfl));have P:=Hd (((J.1.trans (Mod.of_below b0)).trans (a4.mono (fun i hi=>Or.inr hi:∀ i,i=b6→i=r∨i=b6))).trans (b5.mono (fun i hi=>Or.inl hi:∀ i,i=r→i=r∨i=b6)))
    have U:=Hd (show q=k+(u+n) by omega)
    clear hT a9 hq hp hd hsh a1 a0 a4 a5 b2 b4 b5 b0 a8 G HR' E c2;go_wp2_with fail
    go_still_tail 17,(by kernel_rfl)
    refine jcl rfl 92 9 (.tmp 33) rfl tv _ rfl (c5 _ rfl) ?_;refine wpStill_nil ?_
    change wpList _ _ _ _ _ w2.drew
    go_wp2_with fail;refine bodyPost_end (results_none rfl _ _ _) rfl ?_;rw [A.1];refine ⟨P.1,.inl ⟨rfl,rfl,O.1,?_⟩⟩;show IsR _ r _ l (k+(u+n));rw [← U.1];exact M.1
theorem jb1 (r k:Nat)(v:Value)(l:List UInt8)(w:World)(h:IsR w r v l k)(a4:∀ b,v.ownBlock=some b→b<w.heap.size) :
  Calls prog 160 #[.pointer (some ⟨r,0,none⟩),.int .i64 32] w fun e w'=>Mod (fun i=>i=r) w w' ∧
   (((jN (l.drop k)).1=0∧e=.returned (.tuple #[.string (SB (jN (l.drop k)).2.1),.nilIface])∧IsR w' r v l (k+(jN (l.drop k)).2.2))∨((jN (l.drop k)).1≠0∧e=.returned (.tuple #[.string ⟨#[]⟩,.iface 91 (.int .i64 (jN (l.drop k)).1)])∧IsR w' r v l k)):=by
 have b3:∀ (fn:Fn) (first cap:Array Value) (w:World),(Instr.makeFunc fn first cap).run prog w=.ok (.func fn first cap) w:=fun _ _ _ _=>rfl
 have b4:=h.box.lt;obtain ⟨w2,a0⟩:=Nm (((w.alloc (.cells #[.pointer (some ⟨r,0,none⟩)] 235)).alloc (.cells #[.int .i64 32] 3)).alloc (.cells #[.string ⟨#[]⟩] 9));have a5:w2.heap.size=w.heap.size+3:=by rw [a0,World.size_alloc,World.size_alloc,World.size_alloc]
 have a3:Below w.heap.size w w2:=by rw [a0];exact ((ja w _).trans ((ja _ _).mono (by simp))).trans ((ja _ _).mono (by simp;omega))
 have a2:Below w2.heap.size w2 (xP w2 r k):=by unfold xP;exact ((ja w2 _).trans ((ja _ _).mono (by simp))).trans ((ja _ _).mono (by simp;omega))
 have a6:Box w2 w.heap.size #[.pointer (some ⟨r,0,none⟩)] 235:=by rw [a0];exact ((Box.new w _ _).below (ja _ _)).below (ja _ _)
 have a7:Box w2 (w.heap.size+1) #[.int .i64 32] 3:=by
  rw [a0];have:=(Box.new (w.alloc (.cells #[.pointer (some ⟨r,0,none⟩)] 235)) #[.int .i64 32] 3).below (ja _ (.cells #[.string ⟨#[]⟩] 9));rw [World.size_alloc] at this;exact this
 have a8:Box w2 (w.heap.size+2) #[.string ⟨#[]⟩] 9:=by
  rw [a0];have:=Box.new ((w.alloc (.cells #[.pointer (some ⟨r,0,none⟩)] 235)).alloc (.cells #[.int .i64 32] 3)) #[.string ⟨#[]⟩] 9;rw [World.size_alloc,World.size_alloc] at this;exact this
 have a9:=(h.below a3).below a2;have hc:=jhN r k v l ⟨w.heap.size,0,none⟩ ⟨w.heap.size+1,0,none⟩ ⟨w.heap.size+2,0,none⟩ w2 (h.below a3) _ _ (fun i=>i=r∨i=w.heap.size+2) (fun i hi=>by omega)
  (jf9 r k w.heap.size (w.heap.size+1) (w.heap.size+2) v _ l 9 235 3 (xP w2 r k) a9 (a6.below a2) (a7.below a2) (a8.below a2) (by omega) (by omega) (by omega) (by omega) (fun e=>by have:=a4 _ e;omega))
 rw [a0] at hc;have H:=Hd hc;rw [← a0] at H;clear hc;have A:=Hd a3;have B:=Hd a2;have F:=Hd h.le;clear a3 a2 a6 a7 a8 a9 h;generalize jN (l.drop k)=N at H ⊢;go_enter func160,ntmps160;go_wp2_with fail;rw [← a0];clear a0;refine H.1.mono ?_;rintro e w9 (⟨rfl,w1,⟨hn,b0,hi⟩,hm,rfl⟩ | ⟨n,rfl,w1,⟨rfl,hn⟩,hm,⟨j,hj⟩,rfl⟩)
 ·
  have a1:=Mod.set (fun i=>i=w2.heap.size+1) w1 ⟨w2.heap.size+1,0,none⟩ .nilIface rfl
  have c4:=(jas (w:=w1) (a:=⟨w.heap.size+2,0,none⟩) (b:=⟨w2.heap.size+1,0,none⟩) .nilIface (by simp;omega)).trans b0
  have C:=Hd (hi.mod a1 (by omega) (fun b hb e=>by have:=a4 _ hb;omega))
  have D:=Hd (jjB A.1 B.1 hm (by omega) (a1.mono (G:=fun i=>i=r∨w.heap.size≤i) (fun i hi=>.inr (by omega))))
  have E:=Hd hn;clear hn b0 hi hm a1 H a5;go_wp2_with fail;refine bodyPost_ret (results_tmp2 rfl _ _ _) rfl ?_;exact ⟨D.1,.inl ⟨E.1,rfl,C.1⟩⟩
 ·
  obtain ⟨b1,b2⟩:=hj.set k F.1;have a1:=Mod.set (fun i=>i=w2.heap.size+1) (w1.setCell ⟨r,1,none⟩ (.int .i64 (k:Int))) ⟨w2.heap.size+1,0,none⟩ (.iface 91 (.int .i64 N.1)) rfl
  have C:=Hd (b1.mod a1 (by omega) (fun b hb e=>by have:=a4 _ hb;omega))
  have D:=Hd (jjB A.1 B.1 hm (by omega) ((b2.mono (G:=fun i=>i=r∨w.heap.size≤i) (fun i hi=>.inl hi)).trans (a1.mono (G:=fun i=>i=r∨w.heap.size≤i) (fun i hi=>.inr (by omega)))))
  have E:=Hd hn;clear hn hj hm a1 b1 b2 H a5;go_wp2_with fail;refine bodyPost_ret (results_tmp2 rfl _ _ _) rfl ?_;exact ⟨D.1,.inr ⟨E.1,rfl,C.1⟩⟩
structure TkM where
 l:List UInt8
 k:Nat
 er:Int
 big:Bool
def TkM.rest (s:TkM):List UInt8:=s.l.drop s.k
def TkM.num (s:TkM):Nat × TkM:=if s.er=0 then (if (jW s.rest).1=0 then ((jW s.rest).2.1,⟨s.l,s.k+(jW s.rest).2.2,0,s.big⟩) else (0,⟨s.l,s.k,(jW s.rest).1,s.big⟩)) else (0,s)
def TkM.txt (s:TkM):List UInt8 × TkM:=if s.er=0 then (if (jN s.rest).1=0 then ((jN s.rest).2.1,⟨s.l,s.k+(jN s.rest).2.2,0,s.big⟩) else ([],⟨s.l,s.k,(jN s.rest).1,s.big⟩)) else ([],s)
def yz (n:Nat):Int:=if n≤9223372036854775807 then (n:Int) else (n:Int)-18446744073709551616
def TkM.int (s:TkM):Int × TkM:=(yz s.num.1,⟨s.num.2.l,s.num.2.k,s.num.2.er,s.num.2.big || !(decide (s.num.1≤9223372036854775807))⟩)
structure IsT (w:World)(t r:Nat)(v:Value)(s:TkM):Prop where
 box:Box w t #[.pointer (some ⟨r,0,none⟩),jo s.er,.bool s.big] 247
 rd:IsR w r v s.l s.k
 ne:t≠r
 nv:v.ownBlock≠some t
 vl:∀ b,v.ownBlock=some b→b<w.heap.size
theorem IsT.mod {w w':World}{t r:Nat}{v:Value}{s:TkM}{F:Nat→Prop}(h:IsT w t r v s)(hm:Mod F w w')(h1:¬ F t)(h2:¬ F r)(h3:∀ b,v.ownBlock=some b→¬ F b):IsT w' t r v s :=
 ⟨h.box.mod hm h1,h.rd.mod hm h2 h3,h.ne,h.nv,fun b hb=>Nat.lt_of_lt_of_le (h.vl b hb) hm.size⟩
theorem IsT.below {w w':World}{t r:Nat}{v:Value}{s:TkM}(h:IsT w t r v s)(hb:Below w.heap.size w w'):IsT w' t r v s:=h.mod (Mod.of_below (F:=fun _=>False) hb) (fun h=>h) (fun h=>h) (fun _ _ h=>h)
theorem yj {n:Int}(h:n≠0):jo n=.iface 91 (.int .i64 n):=by unfold jo;rw [if_neg h]
theorem zN (t r:Nat)(v:Value)(s:TkM)(w:World)(h:IsT w t r v s) :
  Calls prog 127 #[.pointer (some ⟨t,0,none⟩)] w fun e w'=>e=.returned (.int .u64 (s.num.1:Int))∧IsT w' t r v s.num.2∧Mod (fun i=>i=r∨i=t) w w':=by
 have HT:=Lib.hid h;have c0:=h.box.cell 0 _ rfl;have c1:w.cell? ⟨t,1,none⟩=some (jo s.er):=h.box.cell 1 _ rfl;by_cases he:s.er=0;rotate_left
 ·
  have HS:=Lib.hid (show s.num=(0,s) by unfold TkM.num;rw [if_neg he])
  rw [yj he] at c1;clear h;go_enter func127,ntmps127;go_wp2_with fail;go_ret;rw [HS.out];exact ⟨rfl,HT.out,Mod.refl _ _⟩
 ·
  obtain ⟨N,hN⟩:=Nm (jW s.rest);have Hc:=Lib.hid (jab r s.k v s.l w h.rd h.vl)
  change Hid (Calls _ _ _ _ fun e w'=>Mod (fun i=>i=r) w w'∧(((jW s.rest).1=0∧e=.returned (.tuple #[.int .u64 ((jW s.rest).2.1:Int),.nilIface])∧IsR w' r v s.l (s.k+(jW s.rest).2.2))∨((jW s.rest).1≠0∧e=.returned (.tuple #[.int .u64 0,.iface 91 (.int .i64 (jW s.rest).1)])∧IsR w' r v s.l s.k))) at Hc
  have HS:=Lib.hid (show s.num=(if N.1=0 then (N.2.1,⟨s.l,s.k+N.2.2,0,s.big⟩) else (0,⟨s.l,s.k,N.1,s.big⟩)) by unfold TkM.num;rw [if_pos he,hN])
  rw [← hN] at Hc;rw [show jo s.er=.nilIface by unfold jo;rw [if_pos he]] at c1
  clear h hN;go_enter func127,ntmps127;go_wp2_with fail;refine Hc.out.mono ?_;rintro e w1 ⟨hm,⟨hn,rfl,hi⟩ | ⟨hn,rfl,hi⟩⟩
  ·
   have a0:=HT.out.box.mod hm HT.out.ne;have HS':=Lib.hid (show s.num=(N.2.1,⟨s.l,s.k+N.2.2,0,s.big⟩) by rw [HS.out,if_pos hn])
   have d1:=a0.cell 1 _ rfl;have f1:=a0.free 1;have a1:=Mod.set (fun i=>i=t) w1 ⟨t,1,none⟩ .nilIface rfl
   have HR:=Lib.hid (show IsT (w1.setCell ⟨t,1,none⟩ .nilIface) t r v ⟨s.l,s.k+N.2.2,0,s.big⟩ from ⟨a0.set 1 .nilIface,hi.mod a1 (fun e=>HT.out.ne e.symm) (fun b hb e=>HT.out.nv (by rw [hb,e])),HT.out.ne,HT.out.nv,fun b hb=>by have:=HT.out.vl b hb;have:=hm.size;simp;omega⟩)
   have HM:=Lib.hid ((hm.mono (fun i hi=>Or.inl hi:∀ i,i=r→i=r∨i=t)).trans (a1.mono (fun i hi=>Or.inr hi:∀ i,i=t→i=r∨i=t)))
   clear hm hn hi a0 a1 HS c0 c1 he;go_wp2_with fail;go_ret;rw [HS'.out];exact ⟨rfl,HR.out,HM.out⟩
  ·
   have a0:=HT.out.box.mod hm HT.out.ne;have HS':=Lib.hid (show s.num=(0,⟨s.l,s.k,N.1,s.big⟩) by rw [HS.out,if_neg hn])
   have d1:=a0.cell 1 _ rfl;have f1:=a0.free 1;have a1:=Mod.set (fun i=>i=t) w1 ⟨t,1,none⟩ (.iface 91 (.int .i64 N.1)) rfl
   have HR:=Lib.hid (show IsT (w1.setCell ⟨t,1,none⟩ (.iface 91 (.int .i64 N.1))) t r v ⟨s.l,s.k,N.1,s.big⟩ from ⟨by rw [yj hn];exact a0.set 1 _,hi.mod a1 (fun e=>HT.out.ne e.symm) (fun b hb e=>HT.out.nv (by rw [hb,e])),HT.out.ne,HT.out.nv,fun b hb=>by have:=HT.out.vl b hb;have:=hm.size;simp;omega⟩)
   have HM:=Lib.hid ((hm.mono (fun i hi=>Or.inl hi:∀ i,i=r→i=r∨i=t)).trans (a1.mono (fun i hi=>Or.inr hi:∀ i,i=t→i=r∨i=t)))
   clear hm hn hi a0 a1 HS c0 c1 he;go_wp2_with fail;go_ret;rw [HS'.out];exact ⟨rfl,HR.out,HM.out⟩
theorem jaQ (t r:Nat)(v:Value)(s:TkM)(w:World)(h:IsT w t r v s) :
  Calls prog 129 #[.pointer (some ⟨t,0,none⟩)] w fun e w'=>e=.returned (.string (SB s.txt.1))∧IsT w' t r v s.txt.2∧Mod (fun i=>i=r∨i=t) w w':=by
 have HT:=Lib.hid h;have c0:=h.box.cell 0 _ rfl;have c1:w.cell? ⟨t,1,none⟩=some (jo s.er):=h.box.cell 1 _ rfl;by_cases he:s.er=0;rotate_left
 ·
  have HS:=Lib.hid (show s.txt=([],s) by unfold TkM.txt;rw [if_neg he])
  rw [yj he] at c1;clear h;go_enter func129,ntmps129;go_wp2_with fail;go_ret;rw [HS.out];exact ⟨rfl,HT.out,Mod.refl _ _⟩
 ·
  obtain ⟨N,hN⟩:=Nm (jN s.rest);have Hc:=Lib.hid (jb1 r s.k v s.l w h.rd h.vl)
  change Hid (Calls _ _ _ _ fun e w'=>Mod (fun i=>i=r) w w'∧(((jN s.rest).1=0∧e=.returned (.tuple #[.string (SB (jN s.rest).2.1),.nilIface])∧IsR w' r v s.l (s.k+(jN s.rest).2.2))∨((jN s.rest).1≠0∧e=.returned (.tuple #[.string ⟨#[]⟩,.iface 91 (.int .i64 (jN s.rest).1)])∧IsR w' r v s.l s.k))) at Hc
  have HS:=Lib.hid (show s.txt=(if N.1=0 then (N.2.1,⟨s.l,s.k+N.2.2,0,s.big⟩) else ([],⟨s.l,s.k,N.1,s.big⟩)) by unfold TkM.txt;rw [if_pos he,hN])
  rw [← hN] at Hc;rw [show jo s.er=.nilIface by unfold jo;rw [if_pos he]] at c1
  clear h hN;go_enter func129,ntmps129;go_wp2_with fail;refine Hc.out.mono ?_;rintro e w1 ⟨hm,⟨hn,rfl,hi⟩ | ⟨hn,rfl,hi⟩⟩
  ·
   have a0:=HT.out.box.mod hm HT.out.ne;have HS':=Lib.hid (show s.txt=(N.2.1,⟨s.l,s.k+N.2.2,0,s.big⟩) by rw [HS.out,if_pos hn])
   have d1:=a0.cell 1 _ rfl;have f1:=a0.free 1;have a1:=Mod.set (fun i=>i=t) w1 ⟨t,1,none⟩ .nilIface rfl
   have HR:=Lib.hid (show IsT (w1.setCell ⟨t,1,none⟩ .nilIface) t r v ⟨s.l,s.k+N.2.2,0,s.big⟩ from ⟨a0.set 1 .nilIface,hi.mod a1 (fun e=>HT.out.ne e.symm) (fun b hb e=>HT.out.nv (by rw [hb,e])),HT.out.ne,HT.out.nv,fun b hb=>by have:=HT.out.vl b hb;have:=hm.size;simp;omega⟩)
   have HM:=Lib.hid ((hm.mono (fun i hi=>Or.inl hi:∀ i,i=r→i=r∨i=t)).trans (a1.mono (fun i hi=>Or.inr hi:∀ i,i=t→i=r∨i=t)))
   clear hm hn hi a0 a1 HS c0 c1 he;go_wp2_with fail;go_ret;rw [HS'.out];exact ⟨rfl,HR.out,HM.out⟩
  ·
   have a0:=HT.out.box.mod hm HT.out.ne;have HS':=Lib.hid (show s.txt=([],⟨s.l,s.k,N.1,s.big⟩) by rw [HS.out,if_neg hn])
   have d1:=a0.cell 1 _ rfl;have f1:=a0.free 1;have a1:=Mod.set (fun i=>i=t) w1 ⟨t,1,none⟩ (.iface 91 (.int .i64 N.1)) rfl
   have HR:=Lib.hid (show IsT (w1.setCell ⟨t,1,none⟩ (.iface 91 (.int .i64 N.1))) t r v ⟨s.l,s.k,N.1,s.big⟩ from ⟨by rw [yj hn];exact a0.set 1 _,hi.mod a1 (fun e=>HT.out.ne e.symm) (fun b hb e=>HT.out.nv (by rw [hb,e])),HT.out.ne,HT.out.nv,fun b hb=>by have:=HT.out.vl b hb;have:=hm.size;simp;omega⟩)
   have HM:=Lib.hid ((hm.mono (fun i hi=>Or.inl hi:∀ i,i=r→i=r∨i=t)).trans (a1.mono (fun i hi=>Or.inr hi:∀ i,i=t→i=r∨i=t)))
   clear hm hn hi a0 a1 HS c0 c1 he;go_wp2_with fail;go_ret;rw [HS'.out];exact ⟨rfl,HR.out,HM.out⟩
end Go.Proofs.YtgcnolapjppbpaaGreatDoor
