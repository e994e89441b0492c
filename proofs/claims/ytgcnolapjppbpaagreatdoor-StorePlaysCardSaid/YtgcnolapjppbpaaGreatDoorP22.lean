/-
  Texts of one proof, one behind the other.
-/
import Derived.Test.YtgcnolapjppbpaaGreatDoorP19
import Derived.Test.YtgcnolapjppbpaaGreatDoorP20
import Derived.Test.YtgcnolapjppbpaaGreatDoorP21
import Derived.Test.YtgcnolapjppbpaaGreatDoorP18
import Derived.Test.YtgcnolapjppbpaaGreatDoorP00
namespace Go.Proofs.YtgcnolapjppbpaaGreatDoor
open Go.RowKit _root_.Go.Proofs.Tryz
set_option maxRecDepth 100000
set_option maxHeartbeats 25600000
theorem jkq (b:Int)(w:World):Calls prog 40 #[.nilIface,zu b] w fun e w'=>e=.returned (.bool false)∧w'=w:=by
 unfold zu;have he:∀ w,(binOp .eql 49 .nilIface (.iface 91 (.int .i64 b))).run prog w=.ok (.bool false) w:=fun w=>by kernel_rfl
 go_enter func40,ntmps40;go_wp2_with fail;go_ret;exact ⟨rfl,rfl⟩
theorem jcY (a b:Int)(hb:b≠0)(w:World):Calls prog 40 #[jo a,.iface 91 (.int .i64 b)] w fun e w'=>e=.returned (.bool (a==b))∧w'=w:=by
 by_cases h:a=0
 ·
  subst h;have e:((0:Int)==b)=false:=by simp;omega
  rw [e];exact jkq b w
 ·
  have e:jo a=zu a:=by unfold jo;rw [if_neg h];rfl
  rw [e];exact jcx a b w
theorem jio {ep:UInt32}(h:ep≠4294967295):IntKind.u32.wrap (I32 ep+1)=I32 (ep+1):=by
 have h1:=ep.toNat_lt;have h2:ep.toNat≠4294967295:=fun e=>h (UInt32.toNat_inj.1 (by rw [e];rfl))
 have h3:(ep+1).toNat=ep.toNat+1:=by rw [UInt32.toNat_add];show (ep.toNat+1) % 4294967296=_;omega
 unfold I32;rw [h3]
 simp [IntKind.wrap,IntKind.signed,IntKind.bits]
 omega
structure StoB (w:World)(ps pd:Nat)(ep:UInt32)(lv:Value)(b:Bool):Prop where
 bx:Box w ps #[.pointer (some ⟨pd,0,none⟩),.int .u32 (I32 ep),lv,.bool b] 90
theorem StoB.mod {w w':World}{ps pd:Nat}{ep:UInt32}{lv:Value}{b:Bool}{F:Nat→Prop}(h:StoB w ps pd ep lv b)(hm:Mod F w w')(hn:¬ F ps):StoB w' ps pd ep lv b:=⟨h.bx.mod hm hn⟩
theorem StoB.below {w w':World}{ps pd:Nat}{ep:UInt32}{lv:Value}{b:Bool}(h:StoB w ps pd ep lv b)(hb:Below w.heap.size w w'):StoB w' ps pd ep lv b:=⟨h.bx.below hb⟩
theorem StoB.set1 {w:World}{ps pd:Nat}{ep:UInt32}{lv:Value}{b:Bool}(h:StoB w ps pd ep lv b)(e:UInt32):StoB (w.setCell ⟨ps,1,none⟩ (.int .u32 (I32 e))) ps pd e lv b:=⟨h.bx.set 1 _⟩
theorem StoB.set2 {w:World}{ps pd:Nat}{ep:UInt32}{lv:Value}{b:Bool}(h:StoB w ps pd ep lv b)(v:Value):StoB (w.setCell ⟨ps,2,none⟩ v) ps pd ep v b:=⟨h.bx.set 2 _⟩
theorem StoB.set3 {w:World}{ps pd:Nat}{ep:UInt32}{lv:Value}{b:Bool}(h:StoB w ps pd ep lv b)(c:Bool):StoB (w.setCell ⟨ps,3,none⟩ (.bool c)) ps pd ep lv c:=⟨h.bx.set 3 _⟩
structure Laid (w:World)(ps pd:Nat)(ep:UInt32)(lv:Value)(b:Bool)(F:Nat→Prop)(R:DiskM × Int)(w':World):Prop where
 dk:∃ F',IsDisk w' R.1 pd F'∧(∀ k,F' k→F k∨w.heap.size≤k)∧(R.2=0→∃ pl',w.heap.size≤pl'∧¬ F' pl'∧StoB w' ps pd (ep+1) (.pointer (some ⟨pl',0,none⟩)) b∧xB w' (xV (ep+1)) pl' pd)
 no:R.2≠0→StoB w' ps pd ep lv b
 md:Mod (fun k=>k=ps∨F k) w w'
theorem jd1 (st:StM)(v:Value)(d:DiskM)(ps pd:Nat)(ep:UInt32)(lv:Value)(b:Bool)(F:Nat→Prop)(w:World)(h:StoB w ps pd ep lv b)(hd:IsDisk w d pd F)(b8:¬ F ps)(hr:RdS w v st.l)(ho:∀ s∈st.l,SesOk s)(ht:d.trail.length≤90000000000)(hl:65≤d.strs.length)(a7:(vj st).length≤140737488355000) :
  Calls prog 41 #[.pointer (some ⟨ps,0,none⟩),.agg #[.int .i64 st.clock,.int .i64 st.births,v]] w fun e w'=>e=.returned (jo (yS ep d st).2)∧Laid w ps pd ep lv b F (yS ep d st) w':=by
 obtain ⟨va,vc,rfl,_⟩:=hr.slice;obtain ⟨n,hn⟩:=Nm (st.l.length);rw [← hn] at hr ⊢;obtain ⟨c,hc⟩:=Nm (st.clock);obtain ⟨bi,hb⟩:=Nm (st.births);have a5:=fun w' h=>jeU st (.slice va n vc) w' h ho
 rw [← hc,← hb] at a5 ⊢;obtain ⟨I,hI⟩:=Nm (vj st);obtain ⟨N,hN⟩:=Nm (jbx st);have a4:yS ep d st=if N=0 then (if ep=4294967295 then (d,5) else yv d 0 24 (ep+1).toNat I) else (d,24):=by rw [hI,hN];rfl
 obtain ⟨RL,b9⟩:=Nm (yS ep d st);rw [← b9] at a4 ⊢;have H:=Hd a4;rw [← hI,← hN] at a5;rw [← hI] at a7;have Y:=Hd a5;have a2:=ja w (.cells #[.int .i64 c,.int .i64 bi,.slice va n vc] 30);have HR:=Hd (hr.below a2);have HS:=Hd (h.below a2);have HD:=Hd (hd.grow a2);have X:=Hd a2;have HT:=Hd ht;have H5:=Hd hl;have H6:=Hd a7;have HP:=Hd b8;have H7:=Hd (show ps<w.heap.size from h.bx.lt)
 have H8:=Hd hd.lt;have HX:=Hd (Box.new w #[.int .i64 c,.int .i64 bi,.slice va n vc] 30);clear h hd b8 hr ho ht hl a7 hn hc hb hI hN a5 a2 a4 b9;go_enter func41,ntmps41;go_wp2_with fail;generalize (w.alloc (.cells #[.int .i64 c,.int .i64 bi,.slice va n vc] 30))=w1 at HR HS HD X HX ⊢;refine (Y.1 w1 HR.1).mono ?_;rintro e w2 ⟨iv,rfl,ho,hb⟩;have A:=Hd (HS.1.below hb);have G:=Hd (HD.1.grow hb);have B:=Hd (X.1.trans (hb.mono X.1.size));have M:=Hd ho.rd;have Z:=Hd (show ∀ k,iv.ownBlock=some k→w1.heap.size≤k from fun k hk=>(ho.lt k hk).1)
 obtain ⟨ia,ic,rfl,_⟩:=ho.rd;obtain ⟨m,hm⟩:=Nm (I.length);rw [← hm] at M Z ⊢;have HM:=Hd hm;have c1:w2.cell? ⟨ps,1,none⟩=some (.int .u32 (I32 ep)):=A.1.bx.cell 1 _ rfl;clear ho hb Y HR HS HD HX hm;by_cases hn:N=0;rotate_left
 ·
  rw [show jo N=.iface 91 (.int .i64 N) from if_neg hn]
  obtain rfl:RL=(d,24):=by rw [H.1,if_neg hn]
  clear hn c1 H;go_wp2_with fail;go_ret;exact ⟨rfl,⟨⟨F,G.1,fun k hk=>.inl hk,fun h=>by cases h⟩,fun _=>A.1,Mod.of_below B.1⟩⟩
 rw [if_pos hn] at H;rw [show jo N=.nilIface from if_pos hn]
 clear hn;by_cases hep:ep=4294967295
 ·
  obtain rfl:RL=(d,5):=by rw [H.1,if_pos hep]
  have hI:I32 ep=4294967295:=by rw [hep];rfl
  have c1':w2.cell? ⟨ps,1,none⟩=some (.int .u32 4294967295):=by rw [c1,hI]
  clear hep hI c1 H;go_wp2_with fail;go_ret;exact ⟨rfl,⟨⟨F,G.1,fun k hk=>.inl hk,fun h=>by cases h⟩,fun _=>A.1,Mod.of_below B.1⟩⟩
 rw [if_neg hep] at H;have hI:(I32 ep==4294967295)=false:=by
  rw [beq_eq_false_iff_ne];intro e;exact hep (jht (e.trans rfl))
 have HW:=Hd (jio hep);have c6:=Hd hep;obtain ⟨e1,a8⟩:=Nm (ep+1);rw [← a8] at HW H;have O:=Hd a8;obtain ⟨R,rfl⟩:=Nm (RL);have hR:=H.1;clear H;have a9:=fun W (hW:IsDisk W d pd F) (c5:Rd W (.slice ia m ic) I.length (I.map V8))=>jhd d pd F 0 24 e1 (.slice ia m ic) I W hW c5 (fun _ k hk hf=>by have:=Z.1 k hk;have:=H8.1 k hf;have:=X.1.size;omega) HT.1 ⟨by decide,by decide⟩ ⟨by decide,by decide⟩ H6.1
 rw [← hR] at a9;have H1:=Hd a9;have H9:=Hd (show R.1.strs.length=d.strs.length by rw [hR,jbw])
 clear hep a8 hR a9;go_wp2_with fail;refine wp_region_held_drew (S:=fun W=>StoB W ps pd ep lv b) (by kernel_rfl) (A.1.below (jd w2)) (fun a1=>?_)
 refine Tk 0 22 ?_;refine Tk 1 23 ?_;refine Tk 2 24 ?_;refine Tk 3 25 ?_ (hy:=by intro w' a0;have u1:=(StoB.bx a0).cell 0 _ rfl;clear a0;go_simp;try with_reducible rfl)
 refine Tk 4 26 ?_;refine Tk 5 27 ?_;refine Tk 6 28 ?_;refine Tk 7 29 ?_ (hy:=by intro w' a0;have u1:=(StoB.bx a0).cell 1 _ rfl;clear a0;go_simp;try with_reducible rfl)
 refine Tk 8 30 ?_ (hy:=by intro w' a0;have u2:=HW.1;clear a0;go_simp;try with_reducible rfl)
 refine Tk 9 31 ?_;refine Rc 10 32 fun K hK=>?_
 go_simp
 refine (H1.1 _ (G.1.grow (jd w2)) (by rw [← HM.1];exact M.1.below (jd w2))).mono ?_
 rintro ev w3 ⟨rfl,F',c0,b0,c3⟩;have b1:=a1.mod b0 HP.1;refine hK.out _ _ b1 (fun _=>?_)
 have C:=Hd b1;have P:=Hd c0;have Q:=Hd (show Mod F w w3 from (Mod.of_below B.1).trans ((Mod.of_below (jd w2)).trans b0))
 have J:=Hd (show ∀ k,F' k→F k∨w.heap.size≤k from fun k hk=>by
  rcases c3 k hk with g | g
  · exact .inl g
  · right;exact Nat.le_trans B.1.size g)
 clear hK K b1 c0 b0 c3 a1 H1 G M B A c1 hI
 try simp only [Nz]
 refine Tk 11 7 ?_;refine Dn ?_;by_cases h0:R.2=0;rotate_left
 ·
  rw [show jo R.2=.iface 91 (.int .i64 R.2) from if_neg h0]
  have T:=Hd h0;clear h0;go_wp2_with fail;go_ret;exact ⟨by rw [show jo R.2=.iface 91 (.int .i64 R.2) from if_neg T.1];rfl,⟨⟨F',P.1,J.1,fun h=>absurd h T.1⟩,fun _=>C.1,Q.1.mono (fun _ h=>.inr h)⟩⟩
 rw [show jo R.2=.nilIface from if_pos h0]
 have T:=Hd h0;clear h0;have c1:w3.cell? ⟨ps,1,none⟩=some (.int .u32 (I32 ep)):=C.1.bx.cell 1 _ rfl;have f1:=C.1.bx.free 1;have uw:=HW.1;have D:=Hd (show StoB (w3.setCell ⟨ps,1,none⟩ (.int .u32 (I32 e1))) ps pd e1 lv b from C.1.set1 e1)
 have b2:=Mod.set (fun k=>k=ps) w3 ⟨ps,1,none⟩ (.int .u32 (I32 e1)) rfl
 have b3:¬ F' ps:=fun hf=>by
  rcases J.1 ps hf with g | g
  · exact HP.1 g
  · have:=H7.1;omega
 have E:=Hd (P.1.mod b2 (fun k hk e=>b3 (by rw [← e];exact hk)))
 have L:=Hd (show Mod (fun k=>k=ps∨F k) w (w3.setCell ⟨ps,1,none⟩ (.int .u32 (I32 e1))) from (Q.1.mono (fun _ h=>.inr h)).trans (b2.mono (fun _ h=>.inl h)))
 have H2:=Hd b3;clear b2 b3 P C Q;go_wp2_with fail;clear c1 f1 uw;generalize w3.setCell ⟨ps,1,none⟩ (.int .u32 (I32 e1))=w4 at D E L ⊢;have H3:=Hd (fun W (hW:IsDisk W R.1 pd F')=>jb7 R.1 pd F' 49 16 e1 W hW (by decide) (by rw [H9.1];exact H5.1))
 refine wp_region_held_drew (S:=fun W=>∃ x,StoB W ps pd e1 x b) (by kernel_rfl) ⟨lv,D.1.below (jd w4)⟩ (fun a1=>?_)
 refine Tk 0 44 ?_;refine Tk 1 45 ?_;refine Tk 2 46 ?_;refine Tk 3 47 ?_;refine Te 4 48 ?_ (hy:=by intro w' a0;obtain ⟨x,hx⟩:=a0;have u1:=hx.bx.cell 0 _ rfl;clear hx;go_simp;try with_reducible rfl)
 refine Tk 5 49 ?_;refine Tk 6 50 ?_;refine Tk 7 51 ?_;refine Te 8 52 ?_ (hy:=by intro w' a0;obtain ⟨x,hx⟩:=a0;have u1:=hx.bx.cell 1 _ rfl;clear hx;go_simp;try with_reducible rfl)
 refine Rc 9 53 fun K hK=>?_
 go_simp
 refine (show Calls _ _ #[.pointer (some ⟨pd,0,none⟩),.int .i64 49,.int .i64 16,.int .u32 (I32 e1)] _ _ from H3.1 _ (E.1.grow (jd w4))).mono ?_
 rintro ev w5 ⟨rfl,b4,b5⟩;have a3:=(D.1.below (jd w4)).below b5;refine hK.out _ _ ⟨lv,a3⟩ (fun _=>?_)
 have c2:w5.cell? ⟨ps,2,none⟩=some lv:=a3.bx.cell 2 _ rfl;have f2:=a3.bx.free 2;have U:=Hd a3;have H4:=Hd b4;have V:=Hd (show Below w4.heap.size w4 w5 from jh (jd w4) b5)
 clear hK K a3 b4 b5 a1 H3
 try simp only [Nz]
 refine Tk 10 43 ?_;refine Tk 11 54 ?_;refine Tk 12 55 ?_;refine Tk 13 56 ?_;refine Tk 14 57 ?_;refine wpAnyH_ready (rs := [15]) (by kernel_rfl) (by simp) (AllReadyH.cons (o:=⟨none,.store _ _ _,_,_,_,_⟩) rfl (fun K hK=>?_) AllReadyH.nil)
 go_simp
 refine hK.out _ _ ⟨_,U.1.set2 (.pointer (some ⟨w4.drew.heap.size,0,none⟩))⟩ (fun _=>?_)
 clear hK K c2 f2
 try simp only [Nz]
 refine Tk 16 6 ?_;refine Dn ?_;have Ha:=Hd (show Below w4.heap.size w4 (w5.setCell ⟨ps,2,none⟩ (.pointer (some ⟨w4.drew.heap.size,0,none⟩)))∨True from .inr trivial)
 clear Ha;have a6:=Mod.set (fun k=>k=ps) w5 ⟨ps,2,none⟩ (.pointer (some ⟨w4.drew.heap.size,0,none⟩)) rfl
 have b6:w4.drew.heap.size=w4.heap.size:=rfl;have c4:ps<w4.heap.size:=D.1.bx.lt;have b7:=E.1.lt;have Hb:=Hd (show Laid w ps pd ep lv b F R (w5.setCell ⟨ps,2,none⟩ (.pointer (some ⟨w4.drew.heap.size,0,none⟩))) from
  ⟨⟨F',(E.1.grow V.1).mod a6 (fun k hk e=>H2.1 (by rw [← e];exact hk)),J.1,fun _=>⟨w4.drew.heap.size,Nat.le_trans L.1.size (Nat.le_of_eq b6.symm),fun hf=>by have:=b7 _ hf;omega,by rw [← O.1];exact U.1.set2 _,by rw [← O.1];exact Box.mod H4.1 a6 (by rw [b6];omega)⟩⟩,
  fun h=>absurd T.1 h,L.1.trans ((Mod.of_below V.1).trans (a6.mono (fun _ h=>.inl h)))⟩)
 clear a6 b6 c4 b7 D E L U H4 V J H2 O;go_wp2_with fail;go_ret;exact ⟨by rw [show jo R.2=.nilIface from if_pos T.1];rfl,Hb.1⟩
theorem IsDisk.grow' {w w':World}{d:DiskM}{p:Nat}{F:Nat→Prop}(h:IsDisk w d p F)(hb:Below w.heap.size w w'):IsDisk w' d p F:=h.grow hb
theorem OwnM.form {w:World}{base:Nat}{e:TypeId}{v:Value}{n:Nat}{xs:List Value}(h:OwnM w base e v n xs):∃ a c,v=.slice a n c:=by
 obtain ⟨a,c,e,_⟩:=h.slice;exact ⟨a,c,e⟩
theorem ja3 (d:DiskM)(b:Int):(d.read b).1=SB (jX d b):=(jkV _).symm
theorem jii (l:List UInt8)(i:Nat):yC (l.drop i) 0=yC l i:=by
 unfold yC;simp only [List.getD,List.getElem?_drop,Nat.add_zero,Nat.zero_add]
theorem jcz (d:DiskM)(f:Nat)(b:Int)(z:Nat)(acc:List UInt8)(h:¬ acc.length<z):yA d f b z acc=some acc:=by
 cases f with
 | zero=>rfl
 | succ f=>rw [yA,if_neg h]
theorem jfq (d:DiskM)(f:Nat)(b:Int)(z:Nat)(acc:List UInt8)(hf:0<f)(h:acc.length<z)(h2:(jX d b).length<min (z-acc.length) 256):yA d f b z acc=none:=by
 obtain ⟨f,rfl⟩:=Nat.exists_eq_succ_of_ne_zero (Nat.pos_iff_ne_zero.1 hf);rw [yA,if_pos h,if_pos h2]
theorem jcE (d:DiskM)(f:Nat)(b:Int)(z:Nat)(acc:List UInt8)(h:acc.length<z)(h2:¬ (jX d b).length<min (z-acc.length) 256):yA d (f+1) b z acc=yA d f (b+1) z (acc++(jX d b).take (min (z-acc.length) 256)):=by
 rw [yA,if_pos h,if_neg h2]
theorem jgQ (d:DiskM)(i:Int):(d.read i).2=0∨(d.read i).2=1:=by
 unfold DiskM.read;split
 · exact .inl rfl
 · exact .inr rfl
theorem jhP {d:DiskM}{i:Int}(h:(d.read i).2=1):jX d i = []:=by
 unfold jX DiskM.read at *
 split at h
 · simp at h
 · rename_i h1;rw [if_neg h1];rfl
def jk2 (W:World)(r:Nat × List UInt8 × Int)(e:Ending)(W':World):Prop :=
 ∃ v,e=.returned (.tuple #[.int .u32 (r.1:Int),v,jo r.2.2])∧OwnM W' W.heap.size 5 v r.2.1.length (r.2.1.map V8)∧Below W.heap.size W W'
theorem jgI (d:DiskM)(p:Nat)(F:Nat→Prop)(at_ n:Int)(w:World)(h:IsDisk w d p F)(ha:I64 at_)(hn:I64 n)(hs:∀ b,(jX d b).length≤9223372036854775807) :
  Calls prog 90 #[.pointer (some ⟨p,0,none⟩),.int .i64 at_,.int .i64 n] w (jk2 w (jY d at_ n)):=by
 have hN:d.strs.length≤4096:=by obtain ⟨bb,tv,pv,q,h1,h2,h3,h4,h5,_⟩:=h;exact h5
 have S:=Hd h;have Hs:=Hd hs;by_cases hm:zt d.strs.length at_ n
 ·
  have N:=Hd (jdt d p F at_ n w h hm);have d2:=hm;unfold zt at d2;obtain ⟨m1,m2,m3⟩:=d2;have f6:n≤4096:=by omega
  have f7:at_≤4096:=by omega
  have c1:(d.read at_).2=0:=by unfold DiskM.read;rw [if_pos (by omega)]
  have c2:jY d at_ n=(if jX d at_ = [] then (0,[],10)
   else if (jX d at_).length=16 then
    if n*256<((yC (jX d at_) 4:Nat):Int) then (0,[],21)
    else match yA d (yC (jX d at_) 4+1) (yL at_ n (yC (jX d at_) 0)) (yC (jX d at_) 4) [] with
     | none=>(0,[],21)
     | some p=>if xw (yC (jX d at_) 0) p=jX d at_ then (yC (jX d at_) 0,p,0) else (0,[],21)
   else (0,[],21):Nat × List UInt8 × Int):=by unfold jY;rw [if_pos hm];rfl
  have b4:=fun w (h:IsDisk w d p F)=>jfu d p F at_ w h
  rw [ja3,c1,show jo 0=.nilIface from rfl] at b4
  obtain ⟨s,c3⟩:=Nm (jX d at_);rw [← c3] at c2 b4;have f8:s.length≤9223372036854775807:=by rw [c3];exact hs at_
  have D:=Hd b4;have B:=Hd c2;clear h hs ha hn hN m3 hm c1 c2 b4 c3;by_cases hs0:s = []
  ·
   have hl:jY d at_ n=(0,[],10):=by rw [B.1,if_pos hs0]
   rw [hl];obtain ⟨st,a0⟩:=Nm (SB s);have e9:st.toList.isEmpty=true:=by rw [a0,jk,hs0];rfl
   rw [← a0] at D;clear a0 hs0 hl B;go_enter func90,ntmps90;go_wp2_with fail;refine N.1.mono ?_;rintro r w1 ⟨rfl,a1⟩;have a2:=jh a1 (ja w1 (.cells #[.int .i64 (at_+1),.int .i64 (at_+1+n)] 205));have E:=Hd a2;have G:=Hd (D.1 _ (S.1.grow a2));clear a1 a2;go_wp2_with fail;refine G.1.mono ?_;rintro r w2 ⟨rfl,rfl⟩;go_wp2_with fail
   go_ret3
   exact ⟨_,rfl,OwnM.nil _ _ _,E.1⟩
  ·
   obtain ⟨st,a0⟩:=Nm (SB s);have e9:st.toList.isEmpty=false:=by
    rw [a0,jk]
    cases s with
    | nil=>exact absurd rfl hs0
    | cons _ _=>rfl
   have c4:st.size=s.length:=by rw [a0,SB_size]
   rw [← a0] at D;by_cases h16:s.length=16
   ·
    have b0:jY d at_ n=(if n*256<((yC s 4:Nat):Int) then (0,[],21)
     else match yA d (yC s 4+1) (yL at_ n (yC s 0)) (yC s 4) [] with
      | none=>(0,[],21)
      | some p=>if xw (yC s 0) p=s then (yC s 0,p,0) else (0,[],21):Nat × List UInt8 × Int):=by rw [B.1,if_neg hs0,if_pos h16]
    obtain ⟨st4,b1⟩:=Nm (SB (s.drop 4));have e5:∀ w,(Instr.slice 9 (.string st) (some (.int .i64 4)) none none).run prog w=.ok (.string st4) w:=fun w=>by rw [a0,b1];exact jbr w s 4 (by omega)
    have a9:=fun w=>jcI s w (by omega) (by omega)
    have b5:=fun w=>jcI (s.drop 4) w (by rw [List.length_drop];omega) (by rw [List.length_drop];omega)
    rw [jii] at b5;obtain ⟨eu,d3⟩:=Nm (UInt32.ofNat (yC s 0));have c5:yC s 0=eu.toNat:=by
     rw [d3];show yC s 0=yC s 0 % 2 ^ 32;have:=ja2 s 0;omega
    obtain ⟨z,hz⟩:=Nm (yC s 4);have b2:z<4294967296:=by rw [hz];exact ja2 s 4
    rw [← a0,c5] at a9;rw [← b1,← hz] at b5;rw [c5,← hz] at b0
    replace a9:∀ w,Calls prog 120 #[.string st] w fun e w'=>e=.returned (.int .u32 (I32 eu))∧∃ k,w'=w.drewN k:=a9
    have f0:IntKind.i64.wrap (z:Int)=(z:Int):=by
     have:=b2
     simp [IntKind.wrap,IntKind.bits,IntKind.signed];omega
    have V:=Hd a9;have W:=Hd b5;have C:=Hd b0;have X:=Hd a0;have H4:=Hd b2;clear a0 hs0 a9 b5 b1 d3 c5 hz b0 B b2;go_enter func90,ntmps90;go_wp2_with fail;refine N.1.mono ?_;rintro r w1 ⟨rfl,a1⟩;have a2:=jh a1 (ja w1 (.cells #[.int .i64 (at_+1),.int .i64 (at_+1+n)] 205));have E:=Hd a2;have G:=Hd (D.1 _ (S.1.grow a2));clear a1 a2;go_wp2_with fail;refine G.1.mono ?_;rintro r w2 ⟨rfl,rfl⟩;go_wp2_with fail
    go_quiet (first | (go_at_call 120;first | with_reducible exact Calls.quiet_of (V.1 _) | with_reducible exact Calls.quiet_of (W.1 _)))
    have d4:Below w.heap.size w ((w1.alloc (.cells #[.int .i64 (at_+1),.int .i64 (at_+1+n)] 205)).drewN nq):=jh E.1 ⟨rfl,rfl,rfl,Nat.le_refl _,fun _ _=>rfl⟩
    have I:=Hd d4;clear d4 V W e5 f0;by_cases hz:n*256<(z:Int)
    ·
     have hl:jY d at_ n=(0,[],21):=by rw [C.1,if_pos hz]
     have J:=Hd hl;clear hl C;go_wp2_with fail
     go_ret3
     rw [J.1];exact ⟨_,rfl,OwnM.nil _ _ _,I.1⟩
    ·
     obtain ⟨fb,b6⟩:=Nm (yL at_ n eu.toNat);have c6:jY d at_ n=(match yA d (z+1) fb z [] with
      | none=>(0,[],21)
      | some p=>if xw eu.toNat p=s then (eu.toNat,p,0) else (0,[],21):Nat × List UInt8 × Int):=by rw [C.1,if_neg hz,b6]
     have f9:decide (n*256<(z:Int))=false:=by simp;omega
     have O:=Hd (show z≤1048576 by omega)
     obtain ⟨r2,c7⟩:=Nm (eu.toNat % 2);have hI:I32 eu=(eu.toNat:Int):=rfl;have g0:(I32 eu).tmod 2=(r2:Int):=by rw [hI,Int.tmod_eq_emod_of_nonneg (by omega)];omega
     have c1:(0:Int)≤(r2:Int):=by omega
     have g1:(r2:Int)<2:=by omega
     have b7:((w1.alloc (.cells #[.int .i64 (at_+1),.int .i64 (at_+1+n)] 205)).drewN nq).cell? ⟨w1.heap.size,r2,none⟩=some (.int .i64 fb):=by
      show (w1.alloc (.cells #[.int .i64 (at_+1),.int .i64 (at_+1+n)] 205)).cell? ⟨w1.heap.size,r2,none⟩=some (.int .i64 fb);refine (Box.new w1 _ _).cell r2 _ ?_;have:r2=0∨r2=1:=by omega
      rw [b6];unfold yL;rw [← c7]
      rcases this with rfl | rfl
      · simp
      · simp
     have a6:0≤fb∧fb≤10000:=by
      rw [b6];unfold yL;rw [← c7];have:r2=0∨r2=1:=by omega
      rcases this with rfl | rfl <;> simp <;> omega
     have e6:=a6.1;have Y:=Hd a6.2;have P:=Hd c6;generalize (w1.alloc (.cells #[.int .i64 (at_+1),.int .i64 (at_+1+n)] 205)).drewN nq=w2 at I b7 ⊢;clear b6 c7 hI a6 c6 C hz;go_wp2_with fail;obtain ⟨wo,d5⟩:∃ wo:World,wo=w2:=⟨_,rfl⟩;rw [← d5] at I ⊢;clear b7 d5
     go_loopg [15,16] z (fun gk dv bv wr=>∃ (acc:List UInt8) (b:Int) (f:Nat),gk=z-acc.length∧bv=.int .i64 b∧OwnM wr w.heap.size 5 dv acc.length (acc.map V8)∧Below w.heap.size w wr∧yA d (z+1) fb z []=yA d f b z acc∧z-acc.length<f∧acc.length≤z∧0≤b∧b≤fb+acc.length)
     case atStart=>exact ⟨[],fb,z+1,rfl,rfl,OwnM.nil _ _ _,I.1,rfl,Nat.lt_succ_self _,Nat.zero_le _,e6,by simp⟩
     case round =>
      clear I;obtain ⟨acc,b,f,d6,rfl,b3,d7,b8,hf,g2,g3,a1⟩:=hrel;obtain ⟨da,dc,rfl⟩:=b3.form;have Z:=Hd d6;have T:=Hd b3;have K:=Hd d7;have Q:=Hd b8;have Hf':=Hd hf;have g4:b<1000000000:=by have:=O.1;have:=Y.1;omega
      clear d6 b3 d7 b8 hf;by_cases hlt:acc.length<z
      ·
       have e7:(acc.length:Int)<(z:Int):=by omega
       have a4:=jfu d p F b wr (S.1.grow' K.1);rw [ja3] at a4;obtain ⟨k,hk⟩:=Nm (min (z-acc.length) 256);have g5:∀ ts t w',(Builtin.min_ ts t #[.int .i64 ((z:Int)-(acc.length:Int)),.int .i64 256]).run prog w'=.ok (.int .i64 (k:Int)) w':=fun ts t w'=>by
        rw [run_min_int2]
        congr 2
        by_cases h:(256:Int)<(z:Int)-(acc.length:Int)
        · rw [if_pos h];omega
        · rw [if_neg h];omega
       obtain ⟨t,ht⟩:=Nm (jX d b);have g6:t.length≤9223372036854775807:=by rw [ht];exact Hs.1 b
       have d8:t.length<k→yA d (z+1) fb z []=none:=fun h=>by
        rw [Q.1];exact jfq d f b z acc (by have:=Hf'.1;omega) hlt (by rw [← ht,← hk];exact h)
       have c8:¬ t.length<k→yA d (z+1) fb z []=yA d (f-1) (b+1) z (acc++t.take k):=fun h=>by
        rw [Q.1];have hf:=Hf'.1;obtain ⟨g,rfl⟩:∃ g,f=g+1:=⟨f-1,by omega⟩
        rw [jcE d g b z acc hlt (by rw [← ht,← hk];exact h),← ht,← hk];rfl
       have d9:=jgQ d b;have a7:(d.read b).2=1→t = []:=fun h=>by rw [ht];exact jhP h
       rw [← ht] at a4;obtain ⟨tx,b9⟩:=Nm (SB t);have f4:tx.size=t.length:=by rw [b9,SB_size]
       rw [← b9] at a4;have f1:0<k:=by omega
       have c9:IntKind.i64.wrap ((z:Int)-(acc.length:Int))=(z:Int)-(acc.length:Int):=by
        have:=O.1
        simp [IntKind.wrap,IntKind.bits,IntKind.signed];omega
       have c0:wrap64 ((z:Int)-(acc.length:Int))=(z:Int)-(acc.length:Int):=by
        have:=O.1;unfold wrap64;omega
       have g7:acc.length+k≤z:=by omega
       have H:=Hd a4;have R:=Hd d8;have L:=Hd c8;have H0:=Hd b9;have H3:=Hd (And.intro c9 c0);have g8:(z:Int)≤1048576:=by have:=O.1;omega
       clear a4 d8 c8 ht b9 c9 c0 hk;by_cases hlk:t.length<k
       ·
        have hl:jY d at_ n=(0,[],21):=by rw [P.1,R.1 hlk]
        have J:=Hd hl;have e8:(t.length:Int)<(k:Int):=by omega
        clear hl R L
        rcases d9 with h0 | h0
        ·
         rw [h0,show jo 0=.nilIface from rfl] at H
         clear a7 h0;go_wp2_with fail;refine H.1.mono ?_;rintro r w3 ⟨rfl,rfl⟩;go_wp2_with fail
         go_ret3
         rw [J.1];exact ⟨_,rfl,OwnM.nil _ _ _,K.1⟩
        ·
         rw [h0,show jo 1=.iface 91 (.int .i64 1) from rfl] at H
         clear a7 h0;go_wp2_with fail;refine H.1.mono ?_;rintro r w3 ⟨rfl,rfl⟩;go_wp2_with fail
         go_ret3
         rw [J.1];exact ⟨_,rfl,OwnM.nil _ _ _,K.1⟩
       ·
        rcases d9 with h0 | h0
        ·
         rw [h0,show jo 0=.nilIface from rfl] at H
         have e8:decide ((t.length:Int)<(k:Int))=false:=by simp;omega
         have a0:=fun w=>je8 w t k (by omega)
         rw [← H0.1] at a0;obtain ⟨tk,d0⟩:=Nm (SB (t.take k));rw [← d0] at a0;have H1:=Hd d0;have Hy:=Hd (L.1 hlk);have d1:(t.take k).length=k:=by rw [List.length_take];omega
         have A:=Hd d1;have c4:=K.1.size;clear a7 h0 d0 d1 L R;go_wp2_with fail;refine H.1.mono ?_;rintro r w3 ⟨rfl,rfl⟩
         go_wp2_with (at_builtin;refine jeA rfl _ _ rfl w.heap.size _ _ _ rfl T.1 (t.take k) (by show Value.string tk=_;rw [H1.1]) (by rw [A.1];have:=O.1;omega) c4 ?_)
         intro v' w4 a8 e0 _;have e2:=K.1.trans (ji e0 c4 (fun q hq=>(T.1.lt q hq).1))
         rw [← List.map_take,← List.map_append,Nat.min_eq_left (by omega)] at a8
         have M:=Hd (And.intro a8 e2);clear a8 e0 e2;go_wp2_with fail
         go_roundg (z-(acc.length+k))
         case measure=>have:=Z.1;omega
         case rel=>exact ⟨acc++t.take k,b+1,f-1,by rw [List.length_append,A.1],by go_num,by rw [List.length_append,A.1];exact M.1.1,M.1.2,Hy.1,by rw [List.length_append,A.1];have:=Hf'.1;omega,by rw [List.length_append,A.1];omega,by omega,by rw [List.length_append,A.1];omega⟩
        ·
         exfalso
         have:=a7 h0;rw [this] at hlk;exact hlk f1
      ·
       have e7:¬ ((acc.length:Int)<(z:Int)):=by omega
       have hl:yA d (z+1) fb z []=some acc:=by rw [Q.1,jcz _ _ _ _ _ hlt]
       have a3:jY d at_ n=if xw eu.toNat acc=s then (eu.toNat,acc,0) else (0,[],21):=by rw [P.1,hl]
       have U:=Hd (jaE eu (.slice da acc.length dc) acc wr T.1.rd);have e3:=zo eu.toNat acc;by_cases he:xw eu.toNat acc=s
       ·
        rw [if_pos he] at a3;rw [he,← X.1] at U;have J:=Hd a3;clear hl a3 he e3;go_wp2_with fail;refine U.1.mono ?_;rintro r w3 ⟨rfl,a5⟩;have M:=Hd (And.intro (T.1.below a5) (jh K.1 a5));have f3:((st.toList==st.toList)=true):=by simp
        clear a5;go_wp2_with fail
        go_ret3
        rw [J.1];exact ⟨_,rfl,M.1.1,M.1.2⟩
       ·
        rw [if_neg he] at a3;have f2:((SB (xw eu.toNat acc)).toList==st.toList)=false:=by rw [X.1,jk,jk,beq_eq_false_iff_ne];exact he
        obtain ⟨hx,e4⟩:=Nm (SB (xw eu.toNat acc));rw [← e4] at U f2;have J:=Hd a3;clear hl a3 he e3 e4;go_wp2_with fail;refine U.1.mono ?_;rintro r w3 ⟨rfl,a5⟩;have M:=Hd (jh K.1 a5);clear a5;go_wp2_with fail
        go_ret3
        rw [J.1];exact ⟨_,rfl,OwnM.nil _ _ _,M.1⟩
   ·
    have hl:jY d at_ n=(0,[],21):=by rw [B.1,if_neg hs0,if_neg h16]
    rw [hl];have f5:¬ ((s.length:Int)=16):=by omega
    clear a0 hs0 hl B;go_enter func90,ntmps90;go_wp2_with fail;refine N.1.mono ?_;rintro r w1 ⟨rfl,a1⟩;have a2:=jh a1 (ja w1 (.cells #[.int .i64 (at_+1),.int .i64 (at_+1+n)] 205));have E:=Hd a2;have G:=Hd (D.1 _ (S.1.grow a2));clear a1 a2;go_wp2_with fail;refine G.1.mono ?_;rintro r w2 ⟨rfl,rfl⟩;go_wp2_with fail
    go_ret3
    exact ⟨_,rfl,OwnM.nil _ _ _,E.1⟩
 ·
  have e1:jY d at_ n=(0,[],1):=by unfold jY;rw [if_neg hm]
  rw [e1];have N:=Hd (jeb d p F at_ n w h hm ha hn);clear h hs ha hn hN hm e1;go_enter func90,ntmps90;go_wp2_with fail;refine N.1.mono ?_;rintro r w1 ⟨rfl,a1⟩;have H2:=Hd a1;clear a1;go_wp2_with fail
  go_ret3
  exact ⟨_,rfl,OwnM.nil _ _ _,jh H2.1 (ja _ _)⟩
end Go.Proofs.YtgcnolapjppbpaaGreatDoor
