/-
  Texts of one proof, one behind the other.
-/
import Derived.Test.YtgcnolapjppbpaaGreatDoorP22
import Derived.Test.YtgcnolapjppbpaaGreatDoorP37
import Derived.Test.YtgcnolapjppbpaaGreatDoorP46
import Derived.Test.YtgcnolapjppbpaaGreatDoorP15
import Derived.Test.YtgcnolapjppbpaaGreatDoorP33
import Derived.Test.YtgcnolapjppbpaaGreatDoorP00
namespace Go.Proofs.YtgcnolapjppbpaaGreatDoor
open Go.RowKit _root_.Go.Proofs.Tryz
set_option maxRecDepth 100000
set_option maxHeartbeats 25600000
structure RStoB (w:World)(ps rp:Nat)(ep:UInt32)(lv:Value)(b:Bool):Prop where
 bx:Box w ps #[.pointer (some ⟨rp,0,none⟩),.int .u32 (I32 ep),lv,.bool b] 115
theorem RStoB.mod {w w':World}{ps rp:Nat}{ep:UInt32}{lv:Value}{b:Bool}{F:Nat→Prop}(h:RStoB w ps rp ep lv b)(hm:Mod F w w')(hn:¬ F ps):RStoB w' ps rp ep lv b:=⟨h.bx.mod hm hn⟩
theorem RStoB.below {w w':World}{ps rp:Nat}{ep:UInt32}{lv:Value}{b:Bool}(h:RStoB w ps rp ep lv b)(hb:Below w.heap.size w w'):RStoB w' ps rp ep lv b:=⟨h.bx.below hb⟩
theorem RStoB.set1 {w:World}{ps rp:Nat}{ep:UInt32}{lv:Value}{b:Bool}(h:RStoB w ps rp ep lv b)(e:UInt32):RStoB (w.setCell ⟨ps,1,none⟩ (.int .u32 (I32 e))) ps rp e lv b:=⟨h.bx.set 1 _⟩
theorem RStoB.set2 {w:World}{ps rp:Nat}{ep:UInt32}{lv:Value}{b:Bool}(h:RStoB w ps rp ep lv b)(v:Value):RStoB (w.setCell ⟨ps,2,none⟩ v) ps rp ep v b:=⟨h.bx.set 2 _⟩
theorem RStoB.set3 {w:World}{ps rp:Nat}{ep:UInt32}{lv:Value}{b:Bool}(h:RStoB w ps rp ep lv b)(c:Bool):RStoB (w.setCell ⟨ps,3,none⟩ (.bool c)) ps rp ep lv c:=⟨h.bx.set 3 _⟩
structure RLaid (w:World)(ps rp:Nat)(ep:UInt32)(lv:Value)(b:Bool)(G:Nat→Prop)(R:DiskM × Int)(w':World):Prop where
 dk:∃ G',IsRef w' R.1 rp G'∧(∀ k,G' k→G k∨w.heap.size≤k)∧(R.2=0→∃ pl',w.heap.size≤pl'∧¬ G' pl'∧RStoB w' ps rp (ep+1) (.pointer (some ⟨pl',0,none⟩)) b∧yX w' (xV (ep+1)) pl' rp)
 no:R.2≠0→RStoB w' ps rp ep lv b
 md:Mod (fun k=>k=ps∨G k) w w'
theorem uv (st:StM)(v:Value)(d:DiskM)(ps rp:Nat)(ep e1:UInt32)(lv:Value)(b:Bool)(G:Nat→Prop)(w:World)(a5:e1=ep+1)(h:RStoB w ps rp ep lv b)(hd:IsRef w d rp G)(b5:¬ G ps)(hr:RdS w v st.l)(ho:∀ s∈st.l,SesOk s)(ht:d.trail.length≤90000000000)(hl:65≤d.strs.length)(b6:d.strs.length≤4096)(a6:(vj st).length≤140737488355000) :
  Calls prog 83 #[.pointer (some ⟨ps,0,none⟩),.agg #[.int .i64 st.clock,.int .i64 st.births,v],.int .u32 (I32 e1)] w fun e w'=>e=.returned (.int .i64 (yS ep d st).2)∧RLaid w ps rp ep lv b G (yS ep d st) w':=by
 obtain ⟨va,vc,rfl,_⟩:=hr.slice;obtain ⟨n,hn⟩:=Nm (st.l.length);rw [← hn] at hr ⊢;obtain ⟨c,hc⟩:=Nm (st.clock);obtain ⟨bi,hb⟩:=Nm (st.births);have a2:=fun w' h=>jcB st (.slice va n vc) w' h ho
 rw [← hc,← hb] at a2 ⊢;obtain ⟨I,hI⟩:=Nm (vj st);obtain ⟨N,hN⟩:=Nm (jbx st);have a1:yS ep d st=if N=0 then (if ep=4294967295 then (d,5) else yv d 0 24 e1.toNat I) else (d,24):=by rw [hI,hN,a5];rfl
 obtain ⟨RL,b7⟩:=Nm (yS ep d st);rw [← b7] at a1 ⊢;have H:=Hd a1;rw [← hI,← hN] at a2;rw [← hI] at a6;have U:=Hd a2;have a0:=ja w (.cells #[.int .i64 c,.int .i64 bi,.slice va n vc] 30);have HR:=Hd (hr.below a0);have HS:=Hd (h.below a0);have HD:=Hd (hd.below a0);have T:=Hd a0;have HT:=Hd ht;have H4:=Hd hl;have V:=Hd b6;have H5:=Hd a6;have HP:=Hd b5;have M:=Hd a5;have H6:=Hd (show ps<w.heap.size from h.bx.lt)
 have H7:=Hd hd.lt;have HX:=Hd (Box.new w #[.int .i64 c,.int .i64 bi,.slice va n vc] 30);clear h hd b5 hr ho ht hl b6 a6 hn hc hb hI hN a2 a0 a1 b7 a5;go_enter func83,ntmps83;go_wp2_with fail;generalize (w.alloc (.cells #[.int .i64 c,.int .i64 bi,.slice va n vc] 30))=w1 at HR HS HD T HX ⊢;refine (U.1 w1 HR.1).mono ?_;rintro e w2 ⟨iv,rfl,ho,hb⟩;have A:=Hd (HS.1.below hb);have F:=Hd (HD.1.below hb);have C:=Hd (T.1.trans (hb.mono T.1.size));have O:=Hd ho.rd;have X:=Hd (show ∀ k,iv.ownBlock=some k→w1.heap.size≤k from fun k hk=>(ho.lt k hk).1)
 obtain ⟨ia,ic,rfl,_⟩:=ho.rd;obtain ⟨m,hm⟩:=Nm (I.length);rw [← hm] at O X ⊢;have HM:=Hd hm;have c0:w2.cell? ⟨ps,0,none⟩=some (.pointer (some ⟨rp,0,none⟩)):=A.1.bx.cell 0 _ rfl;have c1:w2.cell? ⟨ps,1,none⟩=some (.int .u32 (I32 ep)):=A.1.bx.cell 1 _ rfl;clear ho hb U HR HS HD HX hm;by_cases hn:N=0;rotate_left
 ·
  obtain rfl:RL=(d,24):=by rw [H.1,if_neg hn]
  have c6:(N != 0)=true:=by rw [bne_iff_ne];exact hn
  clear c0 c1 H hn;go_wp2_with fail;go_ret;exact ⟨rfl,⟨⟨G,F.1,fun k hk=>.inl hk,fun h=>by cases h⟩,fun _=>A.1,Mod.of_below C.1⟩⟩
 rw [if_pos hn] at H;subst hn;by_cases hep:ep=4294967295
 ·
  obtain rfl:RL=(d,5):=by rw [H.1,if_pos hep]
  have hI:I32 ep=4294967295:=by rw [hep];rfl
  have c1':w2.cell? ⟨ps,1,none⟩=some (.int .u32 4294967295):=by rw [c1,hI]
  clear hep hI c1 H;go_wp2_with fail;go_ret;exact ⟨rfl,⟨⟨G,F.1,fun k hk=>.inl hk,fun h=>by cases h⟩,fun _=>A.1,Mod.of_below C.1⟩⟩
 rw [if_neg hep] at H;have hI:(I32 ep==4294967295)=false:=by
  rw [beq_eq_false_iff_ne];intro e;exact hep (jht (e.trans rfl))
 obtain ⟨R,rfl⟩:=Nm (RL);have hR:=H.1;clear H;have a7:=fun W (hW:IsRef W d rp G) (c4:Rd W (.slice ia m ic) I.length (I.map V8))=>jdM d rp G 0 24 e1 (.slice ia m ic) I W hW V.1 c4 (fun _ k hk hf=>by have:=X.1 k hk;have:=H7.1 k hf;have:=T.1.size;omega) HT.1 ⟨by decide,by decide⟩ ⟨by decide,by decide⟩ H5.1
 rw [← hR] at a7;have Y:=Hd a7;have P:=Hd (show R.1.strs.length=d.strs.length by rw [hR,jbw])
 clear hep hR a7;go_wp2_with fail;refine (Y.1 w2 F.1 (by rw [← HM.1];exact O.1)).mono ?_
 rintro ev w3 ⟨rfl,G',b8,a8,b9⟩;have B:=Hd (A.1.mod a8 HP.1);have J:=Hd b8;have Q:=Hd (show Mod G w w3 from (Mod.of_below C.1).trans a8)
 have K:=Hd (show ∀ k,G' k→G k∨w.heap.size≤k from fun k hk=>by
  rcases b9 k hk with g | g
  · exact .inl g
  · right;exact Nat.le_trans C.1.size g)
 clear b8 a8 b9 Y F O C A c0 c1 hI;obtain ⟨R1,R2⟩:=R;simp only at J P ⊢;by_cases h0:R2=0;rotate_left
 ·
  have H0:=Hd h0;have c7:(R2 != 0)=true:=by rw [bne_iff_ne];exact h0
  clear h0;go_wp2_with fail;go_ret;exact ⟨rfl,⟨⟨G',J.1,K.1,fun h=>absurd h H0.1⟩,fun _=>B.1,Q.1.mono (fun _ h=>.inr h)⟩⟩
 subst h0;have c0:w3.cell? ⟨ps,0,none⟩=some (.pointer (some ⟨rp,0,none⟩)):=B.1.bx.cell 0 _ rfl;have c1:w3.cell? ⟨ps,1,none⟩=some (.int .u32 (I32 ep)):=B.1.bx.cell 1 _ rfl;have f1:=B.1.bx.free 1;have D:=Hd (show RStoB (w3.setCell ⟨ps,1,none⟩ (.int .u32 (I32 e1))) ps rp e1 lv b from B.1.set1 e1)
 have a9:=Mod.set (fun k=>k=ps) w3 ⟨ps,1,none⟩ (.int .u32 (I32 e1)) rfl
 have b0:¬ G' ps:=fun hf=>by
  rcases K.1 ps hf with g | g
  · exact HP.1 g
  · have:=H6.1;omega
 have E:=Hd (J.1.mod a9 (fun k hk e=>b0 (by rw [← e];exact hk)))
 have L:=Hd (show Mod (fun k=>k=ps∨G k) w (w3.setCell ⟨ps,1,none⟩ (.int .u32 (I32 e1))) from (Q.1.mono (fun _ h=>.inr h)).trans (a9.mono (fun _ h=>.inl h)))
 have Z:=Hd b0;clear a9 b0 J B Q;have H1:=Hd (fun W (hW:IsRef W R1 rp G')=>jbT R1 rp G' 49 16 e1 W hW (by rw [P.1];exact V.1) (by decide) (by rw [P.1];exact H4.1))
 obtain ⟨w4,b1⟩:=Nm (w3.setCell ⟨ps,1,none⟩ (.int .u32 (I32 e1)));rw [← b1] at D E L;have c5:=D.1.bx;go_wp2_with fail;rw [← b1];clear c0 c1 f1 c5 b1;refine (show Calls _ _ #[.pointer (some ⟨rp,0,none⟩),.int .i64 49,.int .i64 16,.int .u32 (I32 e1)] _ _ from H1.1 _ E.1).mono ?_
 rintro ev w5 ⟨rfl,b2,b3⟩;have a3:=D.1.below b3;have c2:w5.cell? ⟨ps,2,none⟩=some lv:=a3.bx.cell 2 _ rfl;have f2:=a3.bx.free 2;have H2:=Hd a3;have H3:=Hd b2;have S:=Hd b3;clear a3 b2 b3 H1;have a4:=Mod.set (fun k=>k=ps) w5 ⟨ps,2,none⟩ (.pointer (some ⟨w4.heap.size,0,none⟩)) rfl
 have c3:ps<w4.heap.size:=D.1.bx.lt;have b4:=E.1.lt;have H8:=Hd (show RLaid w ps rp ep lv b G (R1,0) (w5.setCell ⟨ps,2,none⟩ (.pointer (some ⟨w4.heap.size,0,none⟩))) from
  ⟨⟨G',(E.1.below S.1).mod a4 (fun k hk e=>Z.1 (by rw [← e];exact hk)),K.1,fun _=>⟨w4.heap.size,L.1.size,fun hf=>by have:=b4 _ hf;omega,by rw [← M.1];exact H2.1.set2 _,by rw [← M.1];exact Box.mod H3.1 a4 (by omega)⟩⟩,
  fun h=>absurd rfl h,L.1.trans ((Mod.of_below S.1).trans (a4.mono (fun _ h=>.inl h)))⟩)
 clear a4 c3 b4 D E L H2 H3 S K Z M;go_wp2_with fail;go_ret;exact ⟨rfl,H8.1⟩
theorem jkP {e:EvtM}(h:yb e=true)(k1:(e.kind==1)=false)(k2:(e.kind==2)=false):(e.kind==0)=true:=by
 cases k0:(e.kind==0)
 · rw [jgy k0 k1 k2] at h;cases h
 · rfl
theorem evK {e:EvtM}(h:yb e=true):N63 e.kind:=by
 cases k1:(e.kind==1)
 ·
  cases k2:(e.kind==2)
  · exact N63.lit 0 (jkP h k1 k2) (by omega)
  · exact N63.lit 2 k2 (by omega)
 · exact N63.lit 1 k1 (by omega)
theorem jk5 {e:EvtM}(h:yb e=true)(k1:(e.kind==1)=true):N63 e.birth:=jbO h (by simp at k1 ⊢;omega) k1
theorem jk7 {e:EvtM}(h:yb e=true)(k2:(e.kind==2)=true):N63 e.ticks:=(uJ h (by simp at k2 ⊢;omega) (by simp at k2 ⊢;omega)).2
theorem jeS (e:EvtM)(w:World)(hu:e.s.user.length≤9223372036854775807)(hl:e.s.label.length≤9223372036854775807)(a1:e.s.scopes<2 ^ 64) :
  Calls prog 87 #[.agg e.cells] w fun ev w'=>∃ o,ev=.returned (.tuple #[o,.int .i64 (ue e)])∧OwnM w' w.heap.size 5 o (jaD e).length ((jaD e).map V8)∧Below w.heap.size w w':=by
 have G:=Hd (show e.cells=#[.int .i64 e.kind,.int .i64 e.s.slot,.int .i64 e.s.birth,.int .i64 e.s.upS,.int .i64 e.s.upB,.int .i64 e.s.kind,.string (SB e.s.user),.string (SB e.s.label),.int .u64 (e.s.scopes:Int),.int .i64 e.s.level,.int .i64 e.s.born,.int .i64 e.s.deadline,.int .i64 e.s.depth,.int .i64 e.birth,.int .i64 e.ticks] from rfl)
 have H:=Hd (fun w=>xX e w hu hl)
 have B:=Hd (Box.new w e.cells 47);have C:=Hd (ja w (.cells e.cells 47));have I:=Hd a1;clear hu hl a1;rw [G.1] at B C H ⊢;go_enter func87,ntmps87;go_wp2_with fail
 cases hmay:yb e
 ·
  have E:=Hd (show jaD e = [] by unfold jaD;rw [hmay];rfl)
  have F:=Hd (show ue e=1 by unfold ue;rw [hmay];rfl)
  have hc:=H.1;rw [hmay] at hc;refine (hc _).mono ?_;rintro ev w1 ⟨rfl,a0⟩;have A:=Hd (C.1.trans (a0.mono (by simp)))
  clear a0 hc H hmay;go_wp2_with fail;refine bodyPost_ret (results_tmp2 rfl _ _ _) rfl ?_;rw [E.1,F.1];exact ⟨_,rfl,OwnM.nil _ _ _,A.1⟩
 ·
  have E:=Hd (show jaD e=evB e by unfold jaD;rw [hmay];rfl)
  have F:=Hd (show ue e=0 by unfold ue;rw [hmay];rfl)
  have hc:=H.1;rw [hmay] at hc;refine (hc _).mono ?_;rintro ev w1 ⟨rfl,a0⟩;have A:=Hd (C.1.trans (a0.mono (by simp)))
  have K:=Hd ((B.1.below a0).range 0 [.int .i64 e.kind,.int .i64 e.s.slot,.int .i64 e.s.birth,.int .i64 e.s.upS,.int .i64 e.s.upB,.int .i64 e.s.kind,.string (SB e.s.user),.string (SB e.s.label),.int .u64 (e.s.scopes:Int),.int .i64 e.s.level,.int .i64 e.s.born,.int .i64 e.s.deadline,.int .i64 e.s.depth,.int .i64 e.birth,.int .i64 e.ticks] (fun j v hv=>by rw [Nat.zero_add];simpa using hv))
  have D:=Hd (fun w=>jbn e w (evK hmay) (fun k1 k2=>SesN.of (jc6 hmay (jkP hmay k1 k2))) (fun k1=>jk5 hmay k1) (fun k2=>jk7 hmay k2) I.1)
  rw [G.1] at D;clear a0 hc H hmay B
  go_wp2_with (refine je (op:=⟨some 7,.load _ _,_,_,_,_⟩) rfl 47 (.tmp 1) rfl w.heap.size 0 rfl _ _ K.1 underlying47 rfl (by kernel_rfl) ?_)
  intro cv a2;rw [a2.out];clear a2 cv;go_wp2_with fail;refine (D.1 _).mono ?_;rintro ev w2 ⟨o,rfl,ho,hb⟩;have L:=Hd (ho.lower A.1.size);have J:=Hd (A.1.trans (hb.mono A.1.size));clear ho hb;go_wp2_with fail;refine bodyPost_ret (results_tmp2 rfl _ _ _) rfl ?_;rw [E.1,F.1];exact ⟨_,rfl,L.1,J.1⟩
theorem ji9 (ep:UInt32):IntKind.u32.wrap (I32 ep+1)=I32 (ep+1):=by
 have h1:=ep.toNat_lt;have h3:(ep+1).toNat=(ep.toNat+1) % 4294967296:=by rw [UInt32.toNat_add];rfl
 unfold I32;rw [h3]
 simp [IntKind.wrap,IntKind.signed,IntKind.bits]
theorem RdS.mod1 {w w':World}{v:Value}{l:List SesM}{G:Nat→Prop}(h:RdS w v l)(hm:Mod G w w')(hn:0<l.length→∀ k,v.ownBlock=some k→¬ G k):RdS w' v l:=Rd.mod0 h hm (fun hx=>hn (by rw [zb] at hx;omega))
structure RAppd (w:World)(ps pl pd:Nat)(F:Nat→Prop)(R:StoM × DiskM × Int)(w':World):Prop where
 ex:∃ (F':Nat→Prop) (pl':Nat),IsRef w' R.2.1 pd F'∧(∀ k,F' k→F k∨w.heap.size≤k)∧(pl'=pl∨w.heap.size≤pl')∧RStoB w' ps pd R.1.epoch (.pointer (some ⟨pl',0,none⟩)) R.1.dead∧yX w' R.1.log pl' pd∧¬ F' ps∧¬ F' pl'∧ps≠pl'
 md:Mod (fun k=>k=ps∨k=pl∨F k) w w'
theorem jaS (s:StoM)(d:DiskM)(e:EvtM)(st:StM)(v:Value)(ps pl pd:Nat)(F:Nat→Prop)(w:World)(h:RStoB w ps pd s.epoch (.pointer (some ⟨pl,0,none⟩)) s.dead)(c8:yX w s.log pl pd)(hd:IsRef w d pd F)(b0:¬ F ps)(c9:¬ F pl)(e1:ps≠pl)(hr:RdS w v st.l)(d0:0<st.l.length→∀ k,v.ownBlock=some k→¬ F k∧k≠ps∧k≠pl∧k<w.heap.size)(ho:∀ s∈st.l,SesOk s)(hu:e.s.user.length≤9223372036854775807)(e2:e.s.label.length≤9223372036854775807)(e3:e.s.scopes<2 ^ 64)(ht:d.trail.length≤9000000000)(hl:65≤d.strs.length)(h1:s.log.base+s.log.n≤d.strs.length)(h2:s.log.used≤s.log.n)(h3:s.log.records≤1000000000)(a7:d.strs.length≤4096) :
  Calls prog 51 #[.pointer (some ⟨ps,0,none⟩),.agg e.cells,.agg #[.int .i64 st.clock,.int .i64 st.births,v]] w fun r w'=>r=.returned (.int .i64 (s.append d e st).2.2)∧RAppd w ps pl pd F (s.append d e st) w':=by
 obtain ⟨va,vc,rfl,_⟩:=hr.slice;obtain ⟨n,hn⟩:=Nm (st.l.length);rw [← hn] at hr d0 ⊢;obtain ⟨c,hc⟩:=Nm (st.clock);obtain ⟨bi,hb⟩:=Nm (st.births);have d1:=fun (d:DiskM) lv b F w h hd b0 hr ht hl a7=>uv st (.slice va n vc) d ps pd s.epoch (s.epoch+1) lv b F w rfl h hd b0 hr ho ht hl a7 (Nat.le_trans (jcu st) (by decide))
 have c5:=fun w' h4 h5 p0 h7=>vX s.log d (evB e) pl pd F p0 w' h4 h5 c9 h7 (Nat.le_trans ht (by decide)) h1 h2 h3 a7
 have a8:=fun (pl2:Nat) (F2:Nat→Prop) w' h4 h5 h6 p0 h7=>vX (xV (s.epoch+1)) (yS s.epoch d st).1 (evB e) pl2 pd F2 p0 w' h4 h5 h6 h7 (Nat.le_trans (zR _ _ _ a7) (by omega)) (by rw [uh];exact hl) (show 0≤16 by omega) (show 0≤1000000000 by omega) (by rw [uh];exact a7)
 have a4:=fun w'=>jeS e w' hu e2 e3
 have c6:=fun h=>jbQ (l:=s.log) (d:=d) (p:=evB e) h
 rw [← hc,← hb] at d1 ⊢;obtain ⟨RL,d2⟩:=Nm (s.append d e st);have a9:=d2;rw [← d2];unfold StoM.append at a9;clear d2;obtain ⟨bs,e4⟩:=Nm (evB e);unfold jaD ue at a4;rw [← e4] at a4 a9 c5 a8 c6;obtain ⟨A1,e5⟩:=Nm (s.log.append d bs);rw [← e5] at a9 c5 c6;have c1:=fun lv b F w h hd b0 hr=>d1 d lv b F w h hd b0 hr (Nat.le_trans ht (by decide)) hl a7
 obtain ⟨A2,e6⟩:=Nm (yS s.epoch d st);rw [← e6] at a9 c1 a8;obtain ⟨A3,e7⟩:=Nm ((xV (s.epoch+1)).append A2.1 bs);rw [← e7] at a9 a8;have b1:=jn w (.cells e.cells 47) (.cells #[.int .i64 c,.int .i64 bi,.slice va n vc] 30);have O:=Hd b1;have B:=Hd (h.below b1);have J:=Hd (show yX _ s.log pl pd from Box.below c8 b1)
 have Z:=Hd (hd.below b1);have HR:=Hd (hr.below b1);have H1:=Hd ((Box.new w e.cells 47).below (ja _ (.cells #[.int .i64 c,.int .i64 bi,.slice va n vc] 30)));have d3:=Box.new (w.alloc (.cells e.cells 47)) #[.int .i64 c,.int .i64 bi,.slice va n vc] 30;rw [World.size_alloc] at d3;have H2:=Hd d3;have H3:=Hd c1;have H4:=Hd c5;have R:=Hd a8;have U:=Hd c6;have H:=Hd a9;have E:=Hd b0;have V:=Hd c9;have G:=Hd e1;have Hp:=Hd d0;have Hq:=Hd hn;have L:=Hd (show pl<w.heap.size from c8.lt)
 have C:=Hd (show ps<w.heap.size from h.bx.lt)
 have H5:=Hd hd.lt;clear h c8 hd b0 c9 e1 hr d0 ho hu e2 e3 ht hl h1 h2 h3 a7 d1 c1 c5 a8 c6 a9 b1 d3 hn hc hb e5 e6 e7 e4
 cases hdd:s.dead
 rotate_left
 ·
  rw [hdd] at H B;rw [if_pos rfl] at H;have c3:((w.alloc (.cells e.cells 47)).alloc (.cells #[.int .i64 c,.int .i64 bi,.slice va n vc] 30)).cell? ⟨ps,3,none⟩=some (.bool true):=B.1.bx.cell 3 _ rfl;obtain rfl:RL=(s,d,22):=H.1;clear H H4 R H3 a4 U;have M:=Hd (show RStoB ((w.alloc (.cells e.cells 47)).alloc (.cells #[.int .i64 c,.int .i64 bi,.slice va n vc] 30)) ps pd s.epoch (.pointer (some ⟨pl,0,none⟩)) s.dead by rw [hdd];exact B.1)
  clear hdd;go_enter func51,ntmps51;go_wp2_with fail;go_ret;exact ⟨rfl,⟨F,pl,Z.1,fun k hk=>.inl hk,.inl rfl,M.1,J.1,E.1,V.1,G.1⟩,Mod.of_below O.1⟩
 rw [hdd] at H B;rw [if_neg (by simp)] at H
 have c3:((w.alloc (.cells e.cells 47)).alloc (.cells #[.int .i64 c,.int .i64 bi,.slice va n vc] 30)).cell? ⟨ps,3,none⟩=some (.bool false):=B.1.bx.cell 3 _ rfl;have c2:((w.alloc (.cells e.cells 47)).alloc (.cells #[.int .i64 c,.int .i64 bi,.slice va n vc] 30)).cell? ⟨ps,2,none⟩=some (.pointer (some ⟨pl,0,none⟩)):=B.1.bx.cell 2 _ rfl;have Hr:=Hd hdd;clear hdd;by_cases hM:yb e=true;rotate_left
 ·
  rw [if_neg hM] at H;obtain rfl:RL=(s,d,1):=H.1;simp only [if_neg hM] at a4;have X:=Hd a4;clear H H4 R H3 a4 U hM;go_enter func51,ntmps51
  go_wp2_with ((with_reducible refine je ?b01 47 (.tmp 4) ?b11 w.heap.size 0 ?b21 e.cells.toList _ (yP H1.1) underlying47 ?b31 ?b41 ?b81);(case b11=>rfl);(case b01=>rfl);(case b21=>rfl);(case b31=>rfl);(case b41=>kernel_rfl))
  intro cv b5;have ecv:cv=e.cells:=by rw [b5.out]
  subst ecv;clear b5;go_wp2_with fail;refine (X.1 _).mono ?_;rintro ev w2 ⟨bv,rfl,_,a1⟩;obtain ⟨w1,b6⟩:=Nm (((w.alloc (.cells e.cells 47)).alloc (.cells #[.int .i64 c,.int .i64 bi,.slice va n vc] 30)));rw [← b6] at B J Z O a1;have M:=Hd (show RStoB w2 ps pd s.epoch (.pointer (some ⟨pl,0,none⟩)) s.dead by rw [Hr.1];exact B.1.below a1)
  have H6:=Hd (Z.1.below a1);have T:=Hd (show yX w2 s.log pl pd from Box.below J.1 a1)
  have Hc:=Hd (O.1.trans (a1.mono O.1.size));clear a1 b6 B Z J O c3 c2 X H1 H2 HR;go_wp2_with fail;go_ret;exact ⟨rfl,⟨F,pl,H6.1,fun k hk=>.inl hk,.inl rfl,M.1,T.1,E.1,V.1,G.1⟩,Mod.of_below Hc.1⟩
 rw [if_pos hM] at H;simp only [if_pos hM] at a4;have X:=Hd a4;clear a4 hM;go_enter func51,ntmps51
 go_wp2_with ((with_reducible refine je ?d01 47 (.tmp 4) ?d11 w.heap.size 0 ?d21 e.cells.toList _ (yP H1.1) underlying47 ?d31 ?d41 ?d81);(case d11=>rfl);(case d01=>rfl);(case d21=>rfl);(case d31=>rfl);(case d41=>kernel_rfl))
 intro cv b5;have ecv:cv=e.cells:=by rw [b5.out]
 subst ecv;clear b5;go_wp2_with fail;refine (X.1 _).mono ?_;rintro ev w2 ⟨bv,rfl,b2,a1⟩;obtain ⟨w1,b6⟩:=Nm (((w.alloc (.cells e.cells 47)).alloc (.cells #[.int .i64 c,.int .i64 bi,.slice va n vc] 30)));rw [← b6] at B J Z O a1 HR H2 b2;have M:=Hd (B.1.below a1);have H6:=Hd (Z.1.below a1);have T:=Hd (show yX w2 s.log pl pd from Box.below J.1 a1)
 have Hc:=Hd (O.1.trans (a1.mono O.1.size));have Hf:=Hd (HR.1.below a1);have H0:=Hd (H2.1.below a1);have H7:=Hd b2.rd;have He:=Hd (show ∀ k,bv.ownBlock=some k→w.heap.size≤k∧k<w2.heap.size from fun k hk=>⟨Nat.le_trans O.1.size (b2.lt k hk).1,(b2.lt k hk).2⟩)
 obtain ⟨ba,bc,rfl,_⟩:=b2.rd;obtain ⟨m,hm⟩:=Nm (bs.length);have HOB2:=H7;rw [← hm] at H7 He ⊢;have HM:=Hd hm;have A:=Hd (show w.heap.size+1<w2.heap.size from H0.1.lt)
 clear a1 b2 b6 B Z J O X H1 H2 HR c3 c2 hm;have c2:w2.cell? ⟨ps,2,none⟩=some (.pointer (some ⟨pl,0,none⟩)):=M.1.bx.cell 2 _ rfl;go_wp2_with fail;refine (H4.1 w2 T.1 H6.1 (.slice ba m bc) (by rw [HM.1];exact HOB2.1)).mono ?_
 rintro ev w3 ⟨rfl,e8,a0,F3,e9,f0⟩;have P:=Hd (M.1.mod a0 (fun h=>h.elim G.1 E.1))
 have H8:=Hd e9;have H9:=Hd e8;have D:=Hd (show ∀ k,F3 k→F k∨w2.heap.size≤k from f0)
 have Hg:=Hd (RdS.mod1 Hf.1 a0 (fun h0 k hk h=>by have:=Hp.1 (by rw [Hq.1];exact h0) k hk;exact h.elim this.2.2.1 this.1))
 have N:=Hd (H0.1.mod a0 (fun h=>by
  rcases h with h | h
  · have:=L.1;omega
  · have:=H5.1 _ h;omega))
 have Hh:=Hd (Rd.mod0 H7.1 a0 (fun _ k hk h=>by
  have:=He.1 k hk
  rcases h with h | h
  · have:=L.1;omega
  · have:=H5.1 _ h;omega))
 have Ha:=Hd ((Mod.of_below Hc.1).trans a0);have Hb:=Hd (show w2.heap.size≤w3.heap.size from a0.size)
 clear e8 a0 e9 f0 M H6 T Hf H0 H7 HOB2 H4 c2;obtain ⟨X1,d4⟩:=Nm (A1.2.2);rw [← d4] at H U ⊢;have Hu:=Hd d4;clear d4;by_cases h19:X1=19;rotate_left
 ·
  rw [if_neg h19] at H;have g0:(X1==19)=false:=by simpa using h19
  clear h19;obtain rfl:RL=(⟨s.epoch,A1.1,isP X1⟩,A1.2.1,X1):=H.1;have a2:¬ F3 ps:=fun hf=>by
   rcases D.1 ps hf with g | g
   · exact E.1 g
   · have:=C.1;have:=A.1;omega
  have a3:¬ F3 pl:=fun hf=>by
   rcases D.1 pl hf with g | g
   · exact V.1 g
   · have:=L.1;have:=A.1;omega
  have hg:∀ k,F3 k→F k∨w.heap.size≤k:=fun k hk=>by
   rcases D.1 k hk with g | g
   · exact .inl g
   · right;have:=A.1;omega
  have c3:w3.cell? ⟨ps,3,none⟩=some (.bool false):=P.1.bx.cell 3 _ rfl;have f3:=P.1.bx.free 3;have a0:=Mod.set (fun k=>k=ps) w3 ⟨ps,3,none⟩ (.bool (X1==22)) rfl
  have Y:=Hd (show RAppd w ps pl pd F (⟨s.epoch,A1.1,isP X1⟩,A1.2.1,X1) (w3.setCell ⟨ps,3,none⟩ (.bool (X1==22))) from
   ⟨⟨F3,pl,H8.1.mod a0 (fun k hk e=>a2 (by rw [← e];exact hk)),hg,.inl rfl,P.1.set3 (X1==22),Box.mod H9.1 a0 (fun e=>G.1 e.symm),a2,a3,G.1⟩,(Ha.1.mono (fun _ h=>.inr h)).old a0 (fun _ _ h=>.inl h)⟩)
  clear a0 hg a2 a3;go_wp2_with fail;go_ret;exact ⟨rfl,Y.1⟩
 rw [if_pos h19] at H;obtain ⟨y1,y2⟩:=U.1 h19;rw [y1] at H9;rw [y2] at H8;have d5:¬ F3 ps:=fun hf=>by
  rcases D.1 ps hf with g | g
  · exact E.1 g
  · have:=C.1;have:=A.1;omega
 have Hs:=Hd d5;have f7:=h19;clear h19 y1 y2 U d5;obtain rfl:X1=19:=f7;have x0:w3.cell? ⟨w.heap.size+1,0,none⟩=some (.int .i64 c):=N.1.cell 0 _ rfl;have x1:w3.cell? ⟨w.heap.size+1,1,none⟩=some (.int .i64 bi):=N.1.cell 1 _ rfl;have x2:w3.cell? ⟨w.heap.size+1,2,none⟩=some (.slice va n vc):=N.1.cell 2 _ rfl;go_wp2_with fail;refine wp_region_held_drew (S:=fun W=>Box W (w.heap.size+1) #[.int .i64 c,.int .i64 bi,.slice va n vc] 30) (by kernel_rfl) (N.1.below (jd w3)) (fun b4=>?_)
 refine Tk 0 29 ?_;refine Tk 1 30 ?_ (v:=.agg #[.int .i64 c,.int .i64 bi,.slice va n vc]) (hy:=fun w' d6=>jO 30 (.tmp 5) rfl (w.heap.size+1) (0) rfl (#[.int .i64 c,.int .i64 bi,.slice va n vc]).toList _ (js d6) underlying30 rfl (by kernel_rfl))
 refine Tk 2 31 ?_;refine Tk 3 32 ?_;refine Tk 4 33 ?_;refine wpAnyH_ready (rs := [5]) (by kernel_rfl) (by simp) (AllReadyH.cons (o:=⟨some 34,.load _ _,_,_,_,_⟩) rfl (fun K hK=>?_) AllReadyH.nil)
 have u1:(w3.drew).cell? ⟨ps,1,none⟩=some (.int .u32 (I32 s.epoch)):=(P.1.below (jd w3)).bx.cell 1 _ rfl
 go_simp
 refine hK.out _ _ b4 (fun _=>?_)
 clear hK K u1
 try simp only [Nz]
 refine Tk 6 35 ?_ (hy:=by intro w' d6;have u2:=ji9 s.epoch;clear d6;go_simp;try with_reducible rfl)
 refine Rc 7 36 fun K hK=>?_
 go_simp
 refine (H3.1 _ _ F3 w3.drew (P.1.below (jd w3)) (H8.1.below (jd w3)) Hs.1 (Hg.1.below (jd w3))).mono ?_;rintro ev w5 ⟨rfl,b7⟩;refine hK.out _ _ (b4.mod b7.md (fun h=>by
  rcases h with h | h
  · have:=C.1;omega
  ·
   rcases D.1 _ h with g | g
   · have:=H5.1 _ g;omega
   · have:=A.1;omega)) (fun _=>?_)
 clear hK K b4
 try simp only [Nz]
 refine Tk 8 8 ?_;refine Dn ?_;have I:=Hd (show RLaid w3 ps pd s.epoch (.pointer (some ⟨pl,0,none⟩)) false F3 A2 w5 from ⟨b7.dk,b7.no,(Mod.of_below (jd w3)).trans b7.md⟩)
 clear b7 N x0 x1 x2 P Hg H3;by_cases h0:A2.2=0;rotate_left
 ·
  rw [if_neg h0] at H;obtain rfl:RL=(⟨s.epoch,s.log,isP A2.2⟩,A2.1,A2.2):=H.1;have f8:(A2.2==0)=false:=by simpa using h0
  have Hv:=Hd h0;have a5:=I.1.no h0;obtain ⟨F5,b8,b9,_⟩:=I.1.dk;have b3:=Box.mod H9.1 I.1.md (fun h=>h.elim (fun e=>G.1 e.symm) (fun hf=>by
   rcases D.1 pl hf with g | g
   · exact V.1 g
   · have:=L.1;have:=A.1;omega))
  have a6:∀ k,F5 k→F k∨w2.heap.size≤k:=fun k hk=>by
   rcases b9 k hk with g | g
   · exact D.1 k g
   · right;have:=Hb.1;omega
  have a2:¬ F5 ps:=fun hf=>by
   rcases a6 ps hf with g | g
   · exact E.1 g
   · have:=C.1;have:=A.1;omega
  have a3:¬ F5 pl:=fun hf=>by
   rcases a6 pl hf with g | g
   · exact V.1 g
   · have:=L.1;have:=A.1;omega
  have hg:∀ k,F5 k→F k∨w.heap.size≤k:=fun k hk=>by
   rcases a6 k hk with g | g
   · exact .inl g
   · right;have:=A.1;omega
  have c0:=(show Mod (fun k=>k=ps∨k=pl∨F k) w w3 from Ha.1.mono (fun _ h=>.inr h)).old I.1.md (fun i hi g=>g.elim .inl (fun g=>(D.1 i g).elim (fun g=>.inr (.inr g)) (fun g=>by have:=A.1;omega)))
  clear h0;have c3:w5.cell? ⟨ps,3,none⟩=some (.bool false):=a5.bx.cell 3 _ rfl;have f3:=a5.bx.free 3;have a0:=Mod.set (fun k=>k=ps) w5 ⟨ps,3,none⟩ (.bool (A2.2==22)) rfl
  have Y:=Hd (show RAppd w ps pl pd F (⟨s.epoch,s.log,isP A2.2⟩,A2.1,A2.2) (w5.setCell ⟨ps,3,none⟩ (.bool (A2.2==22))) from
   ⟨⟨F5,pl,b8.mod a0 (fun k hk e=>a2 (by rw [← e];exact hk)),hg,.inl rfl,a5.set3 (A2.2==22),Box.mod b3 a0 (fun e=>G.1 e.symm),a2,a3,G.1⟩,(c0).old a0 (fun _ _ h=>.inl h)⟩)
  clear a0 hg a2 a3 a5 b8 b9 b3 a6 c0;go_wp2_with fail;go_ret;exact ⟨rfl,Y.1⟩
 rw [if_pos h0] at H;obtain rfl:RL=(⟨s.epoch+1,A3.1,isP A3.2.2⟩,A3.2.1,A3.2.2):=H.1;have f8:(A2.2==0)=true:=by simpa using h0
 obtain ⟨F5,b8,b9,f1⟩:=I.1.dk;obtain ⟨pl5,f9,f2,a5,b3⟩:=f1 h0;have c2:w5.cell? ⟨ps,2,none⟩=some (.pointer (some ⟨pl5,0,none⟩)):=a5.bx.cell 2 _ rfl;have a6:∀ k,F5 k→F k∨w2.heap.size≤k:=fun k hk=>by
  rcases b9 k hk with g | g
  · exact D.1 k g
  · right;have:=Hb.1;omega
 have f4:¬ F5 ps:=fun hf=>by
  rcases a6 ps hf with g | g
  · exact E.1 g
  · have:=C.1;have:=A.1;omega
 have Hi:=Hd (Rd.mod0 Hh.1 I.1.md (fun _ k hk h=>by
  have h1:=He.1 k hk
  rcases h with h | h
  · have:=C.1;omega
  ·
   rcases D.1 k h with g | g
   · have:=H5.1 _ g;omega
   · omega))
 have d7:=(show Mod (fun k=>k=ps∨k=pl∨F k) w w3 from Ha.1.mono (fun _ h=>.inr h)).old I.1.md (fun i hi g=>g.elim .inl (fun g=>(D.1 i g).elim (fun g=>.inr (.inr g)) (fun g=>by have:=A.1;omega)))
 have Hj:=Hd a5;have Hk:=Hd b3;have Hl:=Hd b8;have Hm:=Hd f2;have Q:=Hd (show w2.heap.size≤pl5∧ps≠pl5∧pl5<w5.heap.size from ⟨by have:=Hb.1;omega,by have:=C.1;have:=Hb.1;have:=A.1;omega,b3.lt⟩)
 have Ht:=Hd f4;have Hn:=Hd a6;have Ho:=Hd d7;clear h0 b8 b9 f1 f9 f2 a5 b3 a6 f4 d7 I H8 H9 Hh Ha;go_wp2_with fail;refine (R.1 pl5 F5 w5 Hk.1 Hl.1 Hm.1 (.slice ba m bc) (by rw [HM.1];exact (show Rd w5 (.slice ba m bc) m (bs.map V8) from Hi.1) |> fun h=>by rw [HM.1] at h;exact h)).mono ?_
 rintro ev w6 ⟨rfl,f5,d8,F6,f6,d9⟩;have c7:=Hj.1.mod d8 (fun h=>h.elim Q.1.2.1 Ht.1)
 have c4:∀ k,F6 k→F k∨w2.heap.size≤k:=fun k hk=>by
  rcases d9 k hk with g | g
  · exact Hn.1 k g
  · right;have:=Q.1;omega
 have a2:¬ F6 ps:=fun hf=>by
  rcases c4 ps hf with g | g
  · exact E.1 g
  · have:=C.1;have:=A.1;omega
 have a3:¬ F6 pl5:=fun hf=>by
  rcases d9 pl5 hf with g | g
  · exact Hm.1 g
  · have:=Q.1;omega
 have hg:∀ k,F6 k→F k∨w.heap.size≤k:=fun k hk=>by
  rcases c4 k hk with g | g
  · exact .inl g
  · right;have:=A.1;omega
 have c0:=Ho.1.old d8 (fun i hi g=>by
  rcases g with g | g
  · have:=Q.1;have:=A.1;omega
  ·
   rcases Hn.1 i g with g | g
   · exact .inr (.inr g)
   · have:=A.1;omega)
 have e0:ps≠pl5:=Q.1.2.1;have g1:w.heap.size≤pl5:=by have:=Q.1;have:=A.1;omega
 clear d8 c4 c2 R Hi Hj Hk Hl;have c3:w6.cell? ⟨ps,3,none⟩=some (.bool false):=c7.bx.cell 3 _ rfl;have f3:=c7.bx.free 3;have a0:=Mod.set (fun k=>k=ps) w6 ⟨ps,3,none⟩ (.bool (A3.2.2==22)) rfl
 have Y:=Hd (show RAppd w ps pl pd F (⟨(s.epoch+1),A3.1,isP A3.2.2⟩,A3.2.1,A3.2.2) (w6.setCell ⟨ps,3,none⟩ (.bool (A3.2.2==22))) from
  ⟨⟨F6,pl5,f6.mod a0 (fun k hk e=>a2 (by rw [← e];exact hk)),hg,(.inr (by omega)),c7.set3 (A3.2.2==22),Box.mod f5 a0 (fun e=>e0 e.symm),a2,a3,e0⟩,(c0).old a0 (fun _ _ h=>.inl h)⟩)
 clear a0 hg a2 a3 c7 f6 d9 f5 c0;go_wp2_with fail;go_ret;exact ⟨rfl,Y.1⟩
end Go.Proofs.YtgcnolapjppbpaaGreatDoor
