/-
  Texts of one proof, one behind the other.
-/
import Derived.Test.YtgcnolapjppbpaaGreatDoorP24
import Derived.Test.YtgcnolapjppbpaaGreatDoorP23
import Derived.Deep.RegionHeld3
import Derived.Test.YtgcnolapjppbpaaGreatDoorP01
import Derived.Deep.RegionHeld
import Derived.Test.YtgcnolapjppbpaaGreatDoorP00
namespace Go.Proofs.YtgcnolapjppbpaaGreatDoor
open Go.RowKit _root_.Go.Proofs.Tryz
set_option maxRecDepth 100000
set_option maxHeartbeats 25600000
def zS:SesM:=⟨0,0,0,0,0,[],[],0,0,0,0,0⟩
theorem jjb (w:World):(zeroValue 45).run prog w=.ok (.agg zS.cells) w:=by kernel_rfl
theorem uO (b:Int):∀ (m:List SesM) (x:SesM),yd b (m ++ [x])=(yd b m).or (if x.birth=b then some x else none)
 | [],x=>rfl
 | y::m,x=>by
  show (if y.birth=b then some y else yd b (m ++ [x]))=(if y.birth=b then some y else yd b m).or _
  split
  · rfl
  · exact uO b m x
theorem jba (k:Int):∀ m:List SesM,uQ k (m.map (fun x=>(x.birth,Value.agg x.cells)))=(yd k m).map (fun x=>.agg x.cells)
 | []=>rfl
 | x::m=>by
  simp only [List.map_cons,uQ,yd]
  split
  · rfl
  · exact jba k m
def IsK (w:World)(b:Nat)(m:List SesM):Prop:=∃ es:List SesM,IsMap w b (es.map (fun x=>(x.birth,Value.agg x.cells)))∧∀ k,yd k es=yd k m
theorem IsK.below {w w':World}{b:Nat}{m:List SesM}(h:IsK w b m)(hb:Below w.heap.size w w'):IsK w' b m:=by
 obtain ⟨es,h1,h2⟩:=h;exact ⟨es,h1.below hb,h2⟩
theorem IsK.new (w:World):IsK (w.alloc (.map #[] 0)) w.heap.size []:=⟨[],IsMap.new w,fun _=>rfl⟩
theorem IsK.same {w:World}{b:Nat}{m:List SesM}(h:IsK w b m){x:SesM}(hx:(yd x.birth m).isSome=true):IsK w b (m ++ [x]):=by
 obtain ⟨es,h1,h2⟩:=h;refine ⟨es,h1,fun k=>?_⟩
 rw [h2,uO];by_cases hk:x.birth=k
 ·
  subst hk
  cases e:yd x.birth m with
  | none=>rw [e] at hx;cases hx
  | some y=>rfl
 · rw [if_neg hk,Option.or_none]
structure LkR (k:Int)(l:List SesM) where
 y:SesM
 ok:Bool
 hy:Hid ((yd k l).getD zS=y)
 hok:Hid ((yd k l).isSome=ok)
theorem jaH {w:World}{ops:Array Oper}{rest:List Oper}{o:Oper}{a:Act}{Q:Exit→Act→World→Prop}(hg:o.guard=none)(m x:Operand)(a0:o.op=Op.lookup 181 m x true)(b:Nat)(l:List SesM)(hm:a.eval m=.map (some b))(h:IsK w b l)(k:Int)(hx:a.eval x=.int .i64 k)(hn:∀ r:LkR k l,wpList prog ops Q rest (a.put o.dst (.tuple #[.agg r.y.cells,.bool r.ok])) w):wpList prog ops Q (o::rest) a w:=by
 obtain ⟨es,h1,h2⟩:=h;have e:=jba k es;rw [h2] at e;refine uY hg m x _ a0 _ _ .i64 underlying181 underlying3 (.agg zS.cells) (jjb w) b _ hm h1 k hx _ _ ?_ ?_ (hn ⟨_,_,Lib.hid rfl,Lib.hid rfl⟩)
 ·
  show _=Value.agg ((yd k l).getD zS).cells;rw [e];cases yd k l <;> rfl
 ·
  show _=(yd k l).isSome;rw [e];cases yd k l <;> rfl
theorem jfE {w:World}{ops:Array Oper}{rest:List Oper}{o:Oper}{a:Act}{Q:Exit→Act→World→Prop}(hg:o.guard=none)(m x y:Operand)(a0:o.op=Op.mapUpdate 181 m x y)(b:Nat)(l:List SesM)(hm:a.eval m=.map (some b))(h:IsK w b l)(s:SesM)(hx:a.eval x=.int .i64 s.birth)(hk:(yd s.birth l).isSome=false)(hy:a.eval y=.agg s.cells)(hn:∀ w',IsK w' b (l ++ [s])→Mod (fun i=>i=b) w w'→wpList prog ops Q rest (a.put o.dst undef) w'):wpList prog ops Q (o::rest) a w:=by
 obtain ⟨es,h1,h2⟩:=h;have e:=jba s.birth es;rw [h2] at e;have e0:yd s.birth l=none:=by
  cases h:yd s.birth l with
  | none=>rfl
  | some v=>rw [h] at hk;cases hk
 rw [e0] at e;refine jaI hg m x y _ a0 _ _ .i64 underlying181 underlying3 b _ hm h1 s.birth hx e _ hy (fun w' h3 h4=>hn w' ⟨es ++ [s],by simpa using h3,fun k=>?_⟩ h4)
 rw [uO,uO,h2]
structure RfS (w0 w:World)(p:Nat)(c b:Int)(v:Value)(s:SesM)(m:List SesM):Prop where
 bx:Box w p #[.int .i64 c,.int .i64 b,v] 30
 bs:Box w (p+1) s.cells 45
 mp:IsK w (p+2) m
 bel:Below p w0 w
 e:p=w0.heap.size
theorem RfS.below {w0 w w':World}{p:Nat}{c b:Int}{v:Value}{s:SesM}{m:List SesM}(h:RfS w0 w p c b v s m)(hb:Below w.heap.size w w'):RfS w0 w' p c b v s m :=
 ⟨h.bx.below hb,h.bs.below hb,h.mp.below hb,h.bel.trans (hb.mono (by have:=h.bx.lt;omega)),h.e⟩
theorem RfS.put {w0 w w':World}{p:Nat}{c b:Int}{v:Value}{s:SesM}{m m':List SesM}(h:RfS w0 w p c b v s m)(hm:Mod (fun i=>i=p+2) w w')(hg:IsK w' (p+2) m'):RfS w0 w' p c b v s m' :=
 ⟨h.bx.mod hm (by omega),h.bs.mod hm (by omega),hg,h.bel.trans (hm.below (by have:=h.bx.lt;omega) (fun i hi=>by omega)),h.e⟩
theorem RfS.self {w0 w:World}{p:Nat}{c b:Int}{v:Value}{s:SesM}{m:List SesM}(h:RfS w0 w p c b v s m):Below w0.heap.size w0 w:=by have:=h.bel;rwa [h.e] at this
theorem jgf {s:SesM}{l:List SesM}{k:Nat}{x:SesM}(hk:k<l.length)(hx:x=l[k]):(l.take (k+1)).any (fun y=>y.slot==s.slot)=((l.take k).any (fun y=>y.slot==s.slot) || (x.slot==s.slot)):=by
 rw [jfV hk,hx]
theorem jdH (st:StM)(s:SesM)(v:Value)(w:World)(hv:RdS w v st.l) :
  Calls prog 58 #[.agg #[.int .i64 st.clock,.int .i64 st.births,v],.agg s.cells] w fun e w'=>e=.returned (jo (jaJ st s))∧Below w.heap.size w w':=by
 obtain ⟨E,hE⟩:=Nm (jaJ st s);rw [← hE];unfold jaJ at hE;obtain ⟨c,b,l⟩:=st;simp only at hv hE ⊢;obtain ⟨a,cap,rfl,b5,c6⟩:=hv.slice;have HV:=Lib.hid hv;have c4:l.length≤9223372036854775807:=by omega
 obtain ⟨n,hN⟩:=Nm (l.length);rw [← hN] at c4 HV b5 hE ⊢;have HN:=Lib.hid hN;obtain ⟨W,hW⟩:∃ W,IntKind.i64.wrap (b+1)=W:=⟨_,rfl⟩;rw [hW] at hE;have HE:=Lib.hid hE;have hmm:=@run_makeMap prog;have HB2:=Lib.hid (jn w (.cells #[.int .i64 c,.int .i64 b,.slice a n cap] 30) (.cells s.cells 45));have b6:=(Box.new w #[.int .i64 c,.int .i64 b,.slice a n cap] 30).below (ja _ (.cells s.cells 45));have b3:=Box.new (w.alloc (.cells #[.int .i64 c,.int .i64 b,.slice a n cap] 30)) s.cells 45;rw [World.size_alloc] at b3;have HX0:=Lib.hid b6;have HX1:=Lib.hid b3;clear hv b5 hN hE b6 b3;have HSC:=Lib.hid s.cellsE;rw [HSC.out] at HB2 HX0 HX1 ⊢;go_enter func58,ntmps58;by_cases h1:s.birth=W;rotate_left
 ·
  have H1:=Lib.hid h1;have n1:(s.birth != W)=true:=by rw [bne_iff_ne];exact h1
  clear h1;go_wp2_with fail;go_ret;exact ⟨by rw [HE.out,if_neg H1.out];rfl,HB2.out⟩
 have n1:(s.birth != W)=false:=by rw [bne_eq_false_iff_eq];exact h1
 have HE1:=Lib.hid (HE.out.trans (if_pos h1));clear h1 HE;by_cases h2:s.born=c;rotate_left
 ·
  have H2:=Lib.hid h2;have n2:(s.born != c)=true:=by rw [bne_iff_ne];exact h2
  clear h2;go_wp2_with fail;go_ret;exact ⟨by rw [HE1.out,if_neg H2.out];rfl,HB2.out⟩
 have n2:(s.born != c)=false:=by rw [bne_eq_false_iff_eq];exact h2
 have HE2:=Lib.hid (HE1.out.trans (if_pos h2));clear h2 HE1;by_cases h3:32≤n
 ·
  have H3:=Lib.hid h3;have n3:(32:Int)≤(n:Int):=by omega
  clear h3;go_wp2_with fail;go_ret;exact ⟨by rw [HE2.out,if_pos H3.out];rfl,HB2.out⟩
 have n3:¬ (32:Int)≤(n:Int):=by omega
 have HE3:=Lib.hid (HE2.out.trans (if_neg h3));clear h3 HE2;go_wp2_with fail;clear n1 n2 n3 hW;have b7:RfS w (((w.alloc (.cells #[.int .i64 c,.int .i64 b,.slice a n cap] 30)).alloc (.cells #[.int .i64 s.slot,.int .i64 s.birth,.int .i64 s.upS,.int .i64 s.upB,.int .i64 s.kind,.string (SB s.user),.string (SB s.label),.int .u64 (s.scopes:Int),.int .i64 s.level,.int .i64 s.born,.int .i64 s.deadline,.int .i64 s.depth] 45)).alloc (.map #[] 0)) w.heap.size c b (.slice a n cap) s []:=by
  have h3:=IsK.new ((w.alloc (.cells #[.int .i64 c,.int .i64 b,.slice a n cap] 30)).alloc (.cells #[.int .i64 s.slot,.int .i64 s.birth,.int .i64 s.upS,.int .i64 s.upB,.int .i64 s.kind,.string (SB s.user),.string (SB s.label),.int .u64 (s.scopes:Int),.int .i64 s.level,.int .i64 s.born,.int .i64 s.deadline,.int .i64 s.depth] 45));rw [World.size_alloc,World.size_alloc] at h3;exact ⟨HX0.out.below (ja _ _),by rw [HSC.out];exact HX1.out.below (ja _ _),h3,HB2.out.trans ((ja _ _).mono HB2.out.size),rfl⟩
 have HR0:=Lib.hid b7;clear b7 HX0 HX1 HB2 HSC;generalize ((w.alloc _).alloc _).alloc _=wi at HR0 ⊢;obtain ⟨p,hp⟩:=Nm (w.heap.size);rw [← hp] at HR0 ⊢;clear hp hmm
 go_loopg [38] n (fun gk iv wr=>∃ k:Nat,gk+k=n∧iv=.int .i64 (k:Int)∧RfS w wr p c b (.slice a n cap) s (l.take k)∧Hid ((l.take k).any (fun y=>y.slot==s.slot)=false))
 case atStart=>exact ⟨0,rfl,rfl,HR0.out,Lib.hid rfl⟩
 case round =>
  clear HR0;obtain ⟨k,b8,rfl,b4,HAN⟩:=hrel;have k0:(0:Int)≤(k:Int):=by omega
  have HGK:=Lib.hid b8;have HRF:=Lib.hid b4;have hb:=b4.self;clear b8 b4;by_cases hk:k<n
  ·
   have k1:(k:Int)<(n:Int):=by omega
   have b1:k<l.length:=by have:=HN.out;omega
   obtain ⟨x,hx⟩:=Nm (l[k]);obtain ⟨rb,ro,c5,b0⟩:=(HV.out.below hb).row k b1;subst c5;rw [← hx] at b0;have HROW:=Lib.hid b0;have HST:=Lib.hid (jgf (s:=s) b1 hx);have HTK:=Lib.hid (show l.take (k+1)=l.take k ++ [x] by rw [List.take_succ_eq_append_getElem b1,hx])
   have HSA:=Lib.hid (show (x.slot==s.slot)=true→l.any (fun y=>y.slot==s.slot)=true from fun h=>by rw [List.any_eq_true];exact ⟨x,by rw [hx];exact List.getElem_mem _,h⟩)
   have HK:=Lib.hid hk;clear b0 hx hk hb b1
   go_wp2_with ((with_reducible refine je ?L1a 45 (.tmp 40) ?L1b rb (ro+k*12) ?L1c x.cells.toList _ HROW.out underlying45 ?L1d ?L1e ?L1f);(case L1b=>rfl);(case L1a=>rfl);(case L1c=>rfl);(case L1d=>rfl);(case L1e=>kernel_rfl))
   intro cv a9;have ecv:cv=x.cells:=by rw [a9.out]
   subst ecv;clear a9
   go_wp2_with ((with_reducible refine jc ?S2a 45 (.tmp 7) (.tmp 41) ?S2b wr.heap.size 0 x.cells.toList ?S2c x.cells ?S2d (SesM.listS _) ?S2e ?S2f ?S2g ?S2h);(case S2b=>rfl);(case S2a=>rfl);(case S2c=>rfl);(case S2d=>rfl);(case S2e=>exact xf _ _);(case S2f=>kernel_rfl);(case S2g=>exact SesM.oneS _))
   intro w2 b9;obtain ⟨b2,c0⟩:=vE b9;have HR2:=Lib.hid (HRF.out.below c0);have HPX:=Lib.hid b2;have q0:w2.cell? ⟨wr.heap.size,0,none⟩=some (.int .i64 x.slot):=b2.cell 0 _ rfl;have q1:w2.cell? ⟨wr.heap.size,1,none⟩=some (.int .i64 x.birth):=b2.cell 1 _ rfl;have s0:w2.cell? ⟨p+1,0,none⟩=some (.int .i64 s.slot):=HR2.out.bs.cell 0 _ rfl;clear b9 b2 c0 HROW HRF;generalize wr.heap.size=q at *
   cases hsl:(x.slot==s.slot)
   rotate_left
   ·
    have HT:=Lib.hid (HSA.out hsl);clear HST HSA HTK;go_wp2_with fail;go_ret;exact ⟨by rw [HE3.out,if_pos HT.out];rfl,HR2.out.self⟩
   have HA2:=Lib.hid (show (l.take (k+1)).any (fun y=>y.slot==s.slot)=false by rw [HST.out,HAN.out,hsl];rfl)
   clear HST HSA HAN
   go_wp2_with (at_lookup;refine jaH rfl _ _ rfl _ _ rfl HR2.out.mp x.birth rfl ?_)
   intro lr;obtain ⟨y,ok,_,HOK⟩:=lr;simp only
   go_wp2_with ((with_reducible refine jc ?S3a 45 (.tmp 8) (.tmp 53) ?S3b w2.heap.size 0 y.cells.toList ?S3c y.cells ?S3d (SesM.listS _) ?S3e ?S3f ?S3g ?S3h);(case S3b=>rfl);(case S3a=>rfl);(case S3c=>rfl);(case S3d=>rfl);(case S3e=>exact xf _ _);(case S3f=>kernel_rfl);(case S3g=>exact SesM.oneS _))
   intro w3 a5;obtain ⟨a1,a4⟩:=vE a5;have HR3:=Lib.hid (HR2.out.below a4);have HPX3:=Lib.hid (HPX.out.below a4);have HRG:=Lib.hid (Box.rangeS HPX3.out);have r1:w3.cell? ⟨q,1,none⟩=some (.int .i64 x.birth):=HPX3.out.cell 1 _ rfl;clear a5 a1 a4 HR2 HPX q0 q1 s0;generalize w2.heap.size=q2 at *
   cases ok
   rotate_left
   ·
    have HRN:=Lib.hid (show IsK w3 (p+2) (l.take (k+1)) by rw [HTK.out];exact HR3.out.mp.same HOK.out)
    have HRF:=Lib.hid (show RfS w w3 p c b (.slice (some ⟨rb,ro,none⟩) n cap) s (l.take (k+1)) from ⟨HR3.out.bx,HR3.out.bs,HRN.out,HR3.out.bel,HR3.out.e⟩)
    clear HRN HR3 HTK HOK;go_wp2_with fail
    go_roundg (n-(k+1))
    case measure=>have:=HGK.out;have:=HK.out;omega
    case rel=>exact ⟨k+1,by have:=HGK.out;have:=HK.out;omega,by go_num,HRF.out,HA2⟩
   go_wp2_with ((with_reducible refine je ?L4a 45 (.tmp 7) ?L4b q (0) ?L4c x.cells.toList _ HRG.out underlying45 ?L4d ?L4e ?L4f);(case L4b=>rfl);(case L4a=>rfl);(case L4c=>rfl);(case L4d=>rfl);(case L4e=>kernel_rfl))
   intro cv a9;have ecv:cv=x.cells:=by rw [a9.out]
   subst ecv;clear a9
   go_wp2_with (at_mapUpdate;refine jfE rfl _ _ _ rfl _ _ rfl HR3.out.mp x rfl HOK.out rfl ?_)
   intro w4 c1 c2;have HRF:=Lib.hid (show RfS w w4 p c b (.slice (some ⟨rb,ro,none⟩) n cap) s (l.take (k+1)) by rw [HTK.out];exact HR3.out.put c2 c1)
   clear c1 c2 HR3 HTK HOK;go_wp2_with fail
   go_roundg (n-(k+1))
   case measure=>have:=HGK.out;have:=HK.out;omega
   case rel=>exact ⟨k+1,by have:=HGK.out;have:=HK.out;omega,by go_num,HRF.out,HA2⟩
  ·
   have k1:¬ (k:Int)<(n:Int):=by omega
   have a7:l.take k=l:=List.take_of_length_le (by have:=HN.out;omega)
   have HRL:=Lib.hid (show RfS w wr p c b (.slice a n cap) s l by have h:=HRF.out;rwa [a7] at h)
   have HE4:=Lib.hid (show E=upM s l by
    have h:=HAN.out;rw [a7] at h;rw [HE3.out,if_neg (by rw [h];decide)])
   have s3:wr.cell? ⟨p+1,3,none⟩=some (.int .i64 s.upB):=HRL.out.bs.cell 3 _ rfl;clear hk hb a7 HRF HAN HE3 HGK
   cases h0:(s.upB==0)
   rotate_left
   ·
    have H0:=Lib.hid (show s.upB=0 from beq_iff_eq.1 h0)
    go_wp2_with fail;go_ret;exact ⟨by rw [HE4.out];unfold upM;rw [if_pos H0.out];rfl,HRL.out.self⟩
   have HE5:=Lib.hid (show E=(match yd s.upB l with | none=>16 | some p=>if p.slot=s.upS then (if vf s p=true then 0 else 24) else 16) by
    rw [HE4.out];unfold upM;rw [if_neg (fun e=>by rw [e] at h0;cases h0)];rfl)
   clear HE4
   go_wp2_with (at_lookup;refine jaH rfl _ _ rfl _ _ rfl HRL.out.mp s.upB rfl ?_)
   intro lr;obtain ⟨y,ok,hy,a8⟩:=lr;simp only;clear s3 h0
   cases hf:yd s.upB l with
   | none =>
    rw [hf] at HE5 a8;have HE6:=HE5;obtain rfl:false=ok:=a8.out;clear hy hf HE5 a8
    go_wp2_with ((with_reducible refine jc ?S5a 45 (.tmp 10) (.tmp 72) ?S5b wr.heap.size 0 y.cells.toList ?S5c y.cells ?S5d (SesM.listS _) ?S5e ?S5f ?S5g ?S5h);(case S5b=>rfl);(case S5a=>rfl);(case S5c=>rfl);(case S5d=>rfl);(case S5e=>exact xf _ _);(case S5f=>kernel_rfl);(case S5g=>exact SesM.oneS _))
    intro w3 a5;obtain ⟨a1,a4⟩:=vE a5;have HR3:=Lib.hid (HRL.out.below a4);clear a5 a1 a4 HRL;go_wp2_with fail;go_ret;exact ⟨by rw [HE6.out];rfl,HR3.out.self⟩
   | some y2 =>
    rw [hf] at HE5 a8 hy;obtain rfl:true=ok:=a8.out;obtain rfl:y2=y:=hy.out;have HE6:=Lib.hid (show E=(if y2.slot=s.upS then (if vf s y2=true then 0 else 24) else 16) from HE5.out)
    clear hf HE5 a8 hy;obtain ⟨y,c3⟩:=Nm (y2);rw [← c3] at HE6 ⊢;clear c3
    go_wp2_with ((with_reducible refine jc ?S6a 45 (.tmp 10) (.tmp 72) ?S6b wr.heap.size 0 y.cells.toList ?S6c y.cells ?S6d (SesM.listS _) ?S6e ?S6f ?S6g ?S6h);(case S6b=>rfl);(case S6a=>rfl);(case S6c=>rfl);(case S6d=>rfl);(case S6e=>exact xf _ _);(case S6f=>kernel_rfl);(case S6g=>exact SesM.oneS _))
    intro w3 a5;obtain ⟨a1,a4⟩:=vE a5;have HR3:=Lib.hid (HRL.out.below a4);have y0:w3.cell? ⟨wr.heap.size,0,none⟩=some (.int .i64 y.slot):=a1.cell 0 _ rfl;have y5:w3.cell? ⟨wr.heap.size,5,none⟩=some (.string (SB y.user)):=a1.cell 5 _ rfl;have y7:w3.cell? ⟨wr.heap.size,7,none⟩=some (.int .u64 (y.scopes:Int)):=a1.cell 7 _ rfl;have y8:w3.cell? ⟨wr.heap.size,8,none⟩=some (.int .i64 y.level):=a1.cell 8 _ rfl;have y10:w3.cell? ⟨wr.heap.size,10,none⟩=some (.int .i64 y.deadline):=a1.cell 10 _ rfl;have y11:w3.cell? ⟨wr.heap.size,11,none⟩=some (.int .i64 y.depth):=a1.cell 11 _ rfl;have s2:w3.cell? ⟨p+1,2,none⟩=some (.int .i64 s.upS):=HR3.out.bs.cell 2 _ rfl;have s4:w3.cell? ⟨p+1,4,none⟩=some (.int .i64 s.kind):=HR3.out.bs.cell 4 _ rfl;have s5:w3.cell? ⟨p+1,5,none⟩=some (.string (SB s.user)):=HR3.out.bs.cell 5 _ rfl;have s7:w3.cell? ⟨p+1,7,none⟩=some (.int .u64 (s.scopes:Int)):=HR3.out.bs.cell 7 _ rfl;have s8:w3.cell? ⟨p+1,8,none⟩=some (.int .i64 s.level):=HR3.out.bs.cell 8 _ rfl;have s10:w3.cell? ⟨p+1,10,none⟩=some (.int .i64 s.deadline):=HR3.out.bs.cell 10 _ rfl;have s11:w3.cell? ⟨p+1,11,none⟩=some (.int .i64 s.depth):=HR3.out.bs.cell 11 _ rfl;clear a5 a1 a4 HRL;generalize wr.heap.size=q at *;by_cases h1:y.slot=s.upS;rotate_left
    ·
     have H1:=Lib.hid h1;have n1:(y.slot != s.upS)=true:=by rw [bne_iff_ne];exact h1
     clear h1;go_wp2_with fail;go_ret;exact ⟨by rw [HE6.out,if_neg H1.out];rfl,HR3.out.self⟩
    have n1:(y.slot != s.upS)=false:=by rw [bne_eq_false_iff_eq];exact h1
    have HE7:=Lib.hid (HE6.out.trans (if_pos h1));clear h1 HE6;obtain ⟨D,hD⟩:∃ D,IntKind.i64.wrap (y.depth+1)=D:=⟨_,rfl⟩;obtain ⟨lv,a2⟩:=Nm ((if s.kind=2 then decide (y.level<s.level) else s.level==y.level))
    have HFT:=Lib.hid (show vf s y=((s.depth==D)&&((s.user==y.user)&&(zT s.scopes y.scopes&&(decide (s.deadline≤y.deadline)&&lv)))) by unfold vf;rw [hD,a2])
    have HWI:=Lib.hid (fun w=>jfk s.scopes y.scopes w)
    generalize vf s y=ft at HE7 HFT
    cases hk2:(s.kind==2)
    ·
     have HK2:=Lib.hid (show ¬ s.kind=2 from fun e=>by rw [e] at hk2;cases hk2)
     rw [if_neg HK2.out] at a2
     cases hle:(s.level==y.level)
     ·
      have HLV:=Lib.hid (show lv=false by rw [a2,hle])
      clear a2
      cases h2:(s.depth==D)
      ·
       have a6:(s.depth != D)=true:=by rw [bne,h2];rfl
       go_wp2_with fail;go_ret;exact ⟨by rw [HE7.out,HFT.out,h2];rfl,HR3.out.self⟩
      have a6:(s.depth != D)=false:=by rw [bne,h2];rfl
      cases h3:(s.user==y.user)
      ·
       have a0:((SB s.user).toList==(SB y.user).toList)=false:=by rw [jk,jk];exact h3
       have a3:((SB s.user).toList != (SB y.user).toList)=true:=by rw [bne,a0];rfl
       go_wp2_with fail;go_ret;exact ⟨by rw [HE7.out,HFT.out,h2,h3];rfl,HR3.out.self⟩
      have a0:((SB s.user).toList==(SB y.user).toList)=true:=by rw [jk,jk];exact h3
      have a3:((SB s.user).toList != (SB y.user).toList)=false:=by rw [bne,a0];rfl
      go_wp2_with fail;refine (HWI.out _).mono ?_;rintro e w4 ⟨rfl,rfl⟩;have H23:=Lib.hid (And.intro h2 h3);clear h2 h3 HWI;generalize zT s.scopes y.scopes=sc at HFT ⊢
      cases sc
      ·
       go_wp2_with fail;go_ret;exact ⟨by rw [HE7.out,HFT.out,H23.out.1,H23.out.2];rfl,HR3.out.self⟩
      by_cases h4:s.deadline≤y.deadline
      rotate_left
      ·
       have n4:y.deadline<s.deadline:=by omega
       have H4:=Lib.hid (decide_eq_false h4);clear h4;go_wp2_with fail;go_ret;exact ⟨by rw [HE7.out,HFT.out,H23.out.1,H23.out.2,H4.out];rfl,HR3.out.self⟩
      have n4:¬ y.deadline<s.deadline:=by omega
      have H4:=Lib.hid (decide_eq_true h4);clear h4;go_wp2_with fail;go_ret;exact ⟨by rw [HE7.out,HFT.out,H23.out.1,H23.out.2,H4.out,HLV.out];rfl,HR3.out.self⟩
     have HLV:=Lib.hid (show lv=true by rw [a2,hle])
     clear a2
     cases h2:(s.depth==D)
     ·
      have a6:(s.depth != D)=true:=by rw [bne,h2];rfl
      go_wp2_with fail;go_ret;exact ⟨by rw [HE7.out,HFT.out,h2];rfl,HR3.out.self⟩
     have a6:(s.depth != D)=false:=by rw [bne,h2];rfl
     cases h3:(s.user==y.user)
     ·
      have a0:((SB s.user).toList==(SB y.user).toList)=false:=by rw [jk,jk];exact h3
      have a3:((SB s.user).toList != (SB y.user).toList)=true:=by rw [bne,a0];rfl
      go_wp2_with fail;go_ret;exact ⟨by rw [HE7.out,HFT.out,h2,h3];rfl,HR3.out.self⟩
     have a0:((SB s.user).toList==(SB y.user).toList)=true:=by rw [jk,jk];exact h3
     have a3:((SB s.user).toList != (SB y.user).toList)=false:=by rw [bne,a0];rfl
     go_wp2_with fail;refine (HWI.out _).mono ?_;rintro e w4 ⟨rfl,rfl⟩;have H23:=Lib.hid (And.intro h2 h3);clear h2 h3 HWI;generalize zT s.scopes y.scopes=sc at HFT ⊢
     cases sc
     ·
      go_wp2_with fail;go_ret;exact ⟨by rw [HE7.out,HFT.out,H23.out.1,H23.out.2];rfl,HR3.out.self⟩
     by_cases h4:s.deadline≤y.deadline
     rotate_left
     ·
      have n4:y.deadline<s.deadline:=by omega
      have H4:=Lib.hid (decide_eq_false h4);clear h4;go_wp2_with fail;go_ret;exact ⟨by rw [HE7.out,HFT.out,H23.out.1,H23.out.2,H4.out];rfl,HR3.out.self⟩
     have n4:¬ y.deadline<s.deadline:=by omega
     have H4:=Lib.hid (decide_eq_true h4);clear h4;go_wp2_with fail;go_ret;exact ⟨by rw [HE7.out,HFT.out,H23.out.1,H23.out.2,H4.out,HLV.out];rfl,HR3.out.self⟩
    have HK2:=Lib.hid (show s.kind=2 from beq_iff_eq.1 hk2)
    rw [if_pos HK2.out] at a2;by_cases a7:y.level<s.level;rotate_left
    ·
     have HLV:=Lib.hid (show lv=false by rw [a2,decide_eq_false a7])
     clear a2
     cases h2:(s.depth==D)
     ·
      have a6:(s.depth != D)=true:=by rw [bne,h2];rfl
      go_wp2_with fail;go_ret;exact ⟨by rw [HE7.out,HFT.out,h2];rfl,HR3.out.self⟩
     have a6:(s.depth != D)=false:=by rw [bne,h2];rfl
     cases h3:(s.user==y.user)
     ·
      have a0:((SB s.user).toList==(SB y.user).toList)=false:=by rw [jk,jk];exact h3
      have a3:((SB s.user).toList != (SB y.user).toList)=true:=by rw [bne,a0];rfl
      go_wp2_with fail;go_ret;exact ⟨by rw [HE7.out,HFT.out,h2,h3];rfl,HR3.out.self⟩
     have a0:((SB s.user).toList==(SB y.user).toList)=true:=by rw [jk,jk];exact h3
     have a3:((SB s.user).toList != (SB y.user).toList)=false:=by rw [bne,a0];rfl
     go_wp2_with fail;refine (HWI.out _).mono ?_;rintro e w4 ⟨rfl,rfl⟩;have H23:=Lib.hid (And.intro h2 h3);clear h2 h3 HWI;generalize zT s.scopes y.scopes=sc at HFT ⊢
     cases sc
     ·
      go_wp2_with fail;go_ret;exact ⟨by rw [HE7.out,HFT.out,H23.out.1,H23.out.2];rfl,HR3.out.self⟩
     by_cases h4:s.deadline≤y.deadline
     rotate_left
     ·
      have n4:y.deadline<s.deadline:=by omega
      have H4:=Lib.hid (decide_eq_false h4);clear h4;go_wp2_with fail;go_ret;exact ⟨by rw [HE7.out,HFT.out,H23.out.1,H23.out.2,H4.out];rfl,HR3.out.self⟩
     have n4:¬ y.deadline<s.deadline:=by omega
     have H4:=Lib.hid (decide_eq_true h4);clear h4;go_wp2_with fail;go_ret;exact ⟨by rw [HE7.out,HFT.out,H23.out.1,H23.out.2,H4.out,HLV.out];rfl,HR3.out.self⟩
    have HLV:=Lib.hid (show lv=true by rw [a2,decide_eq_true a7])
    clear a2
    cases h2:(s.depth==D)
    ·
     have a6:(s.depth != D)=true:=by rw [bne,h2];rfl
     go_wp2_with fail;go_ret;exact ⟨by rw [HE7.out,HFT.out,h2];rfl,HR3.out.self⟩
    have a6:(s.depth != D)=false:=by rw [bne,h2];rfl
    cases h3:(s.user==y.user)
    ·
     have a0:((SB s.user).toList==(SB y.user).toList)=false:=by rw [jk,jk];exact h3
     have a3:((SB s.user).toList != (SB y.user).toList)=true:=by rw [bne,a0];rfl
     go_wp2_with fail;go_ret;exact ⟨by rw [HE7.out,HFT.out,h2,h3];rfl,HR3.out.self⟩
    have a0:((SB s.user).toList==(SB y.user).toList)=true:=by rw [jk,jk];exact h3
    have a3:((SB s.user).toList != (SB y.user).toList)=false:=by rw [bne,a0];rfl
    go_wp2_with fail;refine (HWI.out _).mono ?_;rintro e w4 ⟨rfl,rfl⟩;have H23:=Lib.hid (And.intro h2 h3);clear h2 h3 HWI;generalize zT s.scopes y.scopes=sc at HFT ⊢
    cases sc
    ·
     go_wp2_with fail;go_ret;exact ⟨by rw [HE7.out,HFT.out,H23.out.1,H23.out.2];rfl,HR3.out.self⟩
    by_cases h4:s.deadline≤y.deadline
    rotate_left
    ·
     have n4:y.deadline<s.deadline:=by omega
     have H4:=Lib.hid (decide_eq_false h4);clear h4;go_wp2_with fail;go_ret;exact ⟨by rw [HE7.out,HFT.out,H23.out.1,H23.out.2,H4.out];rfl,HR3.out.self⟩
    have n4:¬ y.deadline<s.deadline:=by omega
    have H4:=Lib.hid (decide_eq_true h4);clear h4;go_wp2_with fail;go_ret;exact ⟨by rw [HE7.out,HFT.out,H23.out.1,H23.out.2,H4.out,HLV.out];rfl,HR3.out.self⟩
theorem jO {P:Program}{a:Act}{w:World}{op:Oper}(ty:TypeId)(x:Operand)(ho:op.op=.load ty x)(b o:Nat)(hx:a.eval x=.pointer (some ⟨b,o,none⟩))(cs:List Value)(d:TypeDesc)(hc:w.rangeAt b o cs)(hu:P.underlying ty=some d)(hd:d.isRow=true)(hi:(P.info? ty).map (·.size)=some cs.length):(execOp a.eval op).run P w=.ok (.value (.agg cs.toArray)) w:=by
 unfold execOp;simp only [ho,hx,Instr.loadAt,Instr.sureAddr,Sem.run_bind,Sem.run_pure,Result.andThen_ok,run_loadVar_mid w b o ty cs d hc hu hd hi]
theorem uk {op:Oper}{a:Act}{w:World}{K:Act→World→Prop}{Q:Exit→Act→World→Prop}(x:Operand)(ho:op.op=.buildSlice 28 1 #[(0,x)])(s:SesM)(hx:a.eval x=.agg s.cells)(h:K (a.put op.dst (.slice (some ⟨w.heap.size,0,none⟩) 1 1)) (w.alloc (.cells s.cells 45))):op.wp prog a w K Q:=by
 have hr:=zJ s w;unfold Oper.wp execOp;simp only [ho,Sem.run_bind,List.map_toArray,List.map_cons,List.map_nil,hx,hr,Result.andThen_ok,Sem.run_pure];exact h
theorem jbd {op:Oper}{a:Act}{w:World}{K:Act→World→Prop}{Q:Exit→Act→World→Prop}(s x:Operand)(ho:op.op=.call { callee:=.builtin .append,args:=#[s,x],argTypes:=#[28,28] })(base:Nat)(v:Value)(l:List SesM)(hs:a.eval s=v)(a1:OwnS w base v l)(ad:Addr)(c:Nat)(y:SesM)(hx:a.eval x=.slice (some ad) 1 c)(hy:∀ j u,y.cells.toList[j]?=some u→w.cell? (ad.add j)=some u)(a5:l.length+1≤1256584717458)(a0:base≤w.heap.size)(h:∀ v' w',OwnS w' base v' (l ++ [y])→w.grownBy w' v.ownBlock→xe w v v'→K (a.put op.dst v') w'):op.wp prog a w K Q:=by
 obtain ⟨i0,hi,a2,a3,a4⟩:=info_parts jaW;obtain ⟨v',w',hr,h2,h3,h4⟩:=xM (P:=prog) w base 28 op.type 45 i0 _ 12 112 underlying28 hi a2 a3 a4 rfl (by decide) v l.length (yN l) a1 ad 1 c y.cells.toList rfl hy y.oneS (by unfold maxLen;omega) (by omega) a0
 unfold Oper.wp execOp;simp only [ho,resolve,invoke,builtin,Sem.run_bind,Sem.run_pure,Result.andThen_ok,List.map_toArray,List.map_cons,List.map_nil,hs,hx,hr];refine h v' w' ?_ h3 h4;unfold OwnS;rw [vA,jek,List.length_append];exact h2
theorem jhe (l:List SesM):∀ u∈yN l,u.oneCell'=true:=by
 intro u hu;unfold yN at hu;obtain ⟨s,_,hs⟩:=List.mem_flatMap.1 hu;exact s.oneS u hs
theorem RdS.news {w:World}{a:Addr}{n cap:Nat}{l:List SesM}(h:RdS w (.slice (some a) n cap) l):∀ j u,(yN l)[j]?=some u→w.cell? (a.add j)=some u:=by
 obtain ⟨a',cap',e,_,_,_,h4⟩:=h;injection e with e1 e2 e3
 intro j u hu;obtain ⟨hj,a0⟩:=List.getElem?_eq_some_iff.1 hu;obtain ⟨b,off,e4,h5⟩:=h4 j hj;rw [← e1] at e4;injection e4 with e4
 subst e4;rw [Go.WideShapes.add_plain,h5,List.getD,hu];rfl
theorem vO (v:Value)(l:List SesM)(w:World)(hv:RdS w v l)(hl:l.length≤1256584717457) :
  Calls prog 59 #[v] w fun e w'=>∃ o,e=.returned o∧OwnS w' w.heap.size o l∧Below w.heap.size w w':=by
 have a1:=hv;obtain ⟨a,cap,rfl,h1,h2,h3,h4⟩:=hv
 cases a with
 | none =>
  have h0:l = []:=List.eq_nil_of_length_eq_zero (by have:=h3 rfl;omega)
  subst h0;have a7:cap=0:=h3 rfl;subst a7;clear h4 h3 a1;have a2:=fun w=>Lib.run_eql_slice_nil (P:=prog) w 28 45 none 0 0 0 0 underlying28
  change ∀ w,Sem.run _ _ w=Result.ok (Value.bool true) w at a2
  go_enter func59,ntmps59;go_wp2_with fail;go_ret;exact ⟨_,rfl,OwnS.nil _ _,Below.refl _ _⟩
 | some a =>
  have D:=Hd (a1.below (ja w (.cells #[] 45)));clear h4 h3 a1;have a2:=fun w=>Lib.run_eql_slice_nil (P:=prog) w 28 45 (some a) l.length cap 0 0 underlying28
  change ∀ w,Sem.run _ _ w=Result.ok (Value.bool false) w at a2
  have B:=Hd (show OwnS (w.alloc (.cells #[] 45)) w.heap.size (.slice (some ⟨w.heap.size,0,none⟩) 0 0) [] from ⟨rfl,.inr ⟨w.heap.size,0,#[],rfl,Nat.le_refl _,heap_alloc_new w _,Nat.le_refl _,by unfold maxLen;omega,by simp,rfl⟩⟩)
  have A:=Hd hl;obtain ⟨i0,hi,a3,a4,a5⟩:=info_parts jaW;have H:=Hd (And.intro hi (And.intro a3 (And.intro a4 a5)));clear hi a3 a4 a5 hl;go_enter func59,ntmps59
  go_wp2_with (at_builtin;refine ye rfl _ _ 28 rfl w.heap.size 45 i0 _ 12 112 underlying28 H.1.1 H.1.2.1 H.1.2.2.1 H.1.2.2.2 rfl (by decide) _ 0 (yN []) rfl B.1 a l.length cap (yN l) rfl (zb l) (D.1.news) (jhe l) (by have:=A.1;unfold maxLen;omega) (by have:=A.1;omega) (by simp) ?_)
  intro v' w2 a0 a6 a8;have E:=Hd ((ja w (.cells #[] 45)).trans (ji a6 (by simp) (fun q hq=>(B.1.lt q hq).1)))
  have C:=Hd (show OwnS w2 w.heap.size v' l by
   unfold OwnS;rw [jip,List.nil_append] at a0;exact a0)
  clear a0 a6 a8;go_wp2_with fail;go_ret;exact ⟨_,rfl,C.1,E.1⟩
section
variable {P : Program} {ops : Array Oper} {Q : Exit → Act → World → Prop} {md : Region.Mode} {F : World → Prop} {t : Nat}
def zy (P:Program)(md:Region.Mode)(ops:Array Oper)(Q:Exit→Act→World→Prop)(F:World→Prop)(t:Nat):Nat→Array Bool→Act→World→Prop
 | 0,listed,a,w=>Region.ready md ops listed = []∧Q .normal a w
 | fuel+1,listed,a,w =>
  (Region.ready md ops listed = []→Q .normal a w) ∧
  ∀ i∈Region.ready md ops listed,wpOp P ops Q i (fun a' w'=>(i=t∨F w')∧zy P md ops Q F t fuel (listed.setIfInBounds i true) a' w') a w
theorem uW:∀ (fuel:Nat) (listed:Array Bool) (a:Act) (w:World),zy P md ops Q F t fuel listed a w→wpAny P md ops Q fuel listed a w
 | 0,_,_,_,h=>h
 | fuel+1,_,_,_,h=>⟨h.1,fun i hi=>wpOp_mono (fun a' w' h'=>uW fuel _ a' w' h'.2) (h.2 i hi)⟩
def jaX (md:Region.Mode)(ops:Array Oper)(t i:Nat):Bool:=match ops[t]? with
 | some o=>o.after.toList.any (fun e=>Region.binds md e&&e.on==i)
 | none=>false
theorem jgR {i:Nat}(h:jaX md ops t i=true){listed:Array Bool}(hi:i∈Region.ready md ops listed):t ∉ Region.ready md ops listed:=fun ht=>by
 obtain ⟨_,ot,a1,a0⟩:=mem_ready.1 ht;unfold jaX at h;rw [a1] at h;obtain ⟨e,he,h2⟩:=List.any_eq_true.1 h;rw [Bool.and_eq_true,beq_iff_eq] at h2;have h1:=a0 e (Array.mem_toList_iff.1 he) h2.1;have h0:=(mem_ready.1 hi).1;rw [h2.2] at h1
 rcases Nat.lt_or_ge i listed.size with h' | h'
 · simp [h'] at h0 h1;rw [h0] at h1;cases h1
 · simp [Array.getElem?_eq_none h'] at h1
theorem jeG {i:Nat}{oi:Oper}{v:Value}(hi:ops[i]?=some oi)(a1:∀ (j:Nat) (o:Oper) cs b,ops[j]?=some o→o.op≠.select cs b)(hQ:∀ c a w,Q (.panic c) (a.put oi.dst v) w→Q (.panic c) a w)(a8:jaX md ops t i=true) :
  ∀ (fuel:Nat) (listed:Array Bool) (a:Act) (w:World),
   (∀ j oj,ops[j]?=some oj→j≠i→listed.getD j true=false→(∀ e∈oj.after,Region.binds md e=true→e.on≠i)→oi.apart ops oj=true) →
   i∈Region.ready md ops listed→YieldsIf P ops F oi v a→F w →
   zy P md ops Q F t fuel (listed.setIfInBounds i true) (a.put oi.dst v) w→zy P md ops Q F t (fuel+1) listed a w:=by
 intro fuel
 induction fuel with
 | zero =>
  intro listed a w _ hr hy hS H;refine ⟨fun h=>(by rw [h] at hr;cases hr),fun j hj=>?_⟩
  by_cases hji:j=i
  · subst hji;exact hy.wpOp hi hS ⟨.inr hS,H⟩
  ·
   have:=ready_mono hj hji;rw [H.1] at this
   cases this
 | succ fuel ih =>
  intro listed a w a0 hr hy hS H;refine ⟨fun h=>(by rw [h] at hr;cases hr),fun j hj=>?_⟩
  by_cases hji:j=i
  · subst hji;exact hy.wpOp hi hS ⟨.inr hS,H⟩
  ·
   have a9:j≠t:=fun e=>jgR a8 hr (e ▸ hj)
   have h1:=H.2 j (ready_mono hj hji);obtain ⟨a2,oj,a3,a6⟩:=mem_ready.1 hj;have a7:∀ e∈oj.after,Region.binds md e=true→e.on≠i:=fun e he hb b0=>by
    have h1:=a6 e he hb;have h0:=(mem_ready.1 hr).1;rw [b0] at h1
    rcases Nat.lt_or_ge i listed.size with h' | h'
    · simp [h'] at h0 h1;rw [h0] at h1;cases h1
    · simp [Array.getElem?_eq_none h'] at h1
   have h2:=wpOp_putIf a3 (a0 j oj a3 hji a2 a7) (fun cs b=>a1 i oi cs b hi) (fun cs b=>a1 j oj cs b a3) hQ hy h1
   have a4:∀ k ok,ops[k]?=some ok→k≠i→(listed.setIfInBounds j true).getD k true=false →
     (∀ e∈ok.after,Region.binds md e=true→e.on≠i)→oi.apart ops ok=true:=fun k ok hk b1 a5 b2=>by
    refine a0 k ok hk b1 ?_ b2;by_cases hjk:j=k
    · subst hjk;exact a2
    · rw [getD_set_ne true hjk] at a5;exact a5
   refine wpOp_mono (fun a' w' h3=>?_) h2
   have hF:F w':=h3.2.1.resolve_left a9;refine ⟨.inr hF,ih (listed.setIfInBounds j true) a' w' a4 (ready_mono hr (Ne.symm hji)) h3.1 hF ?_⟩;rw [Array.setIfInBounds_comm _ _ hji];exact h3.2.2
theorem jkb {i:Nat}{oi:Oper}{v:Value}{fuel:Nat}{listed:Array Bool}{a:Act}{w:World}(hi:ops[i]?=some oi)(hs:Region.noSelect ops=true)(hf:Region.free md ops listed i=true)(hr:(Region.ready md ops listed).contains i=true)(a0:jaX md ops t i=true)(hQ:∀ c a w,Q (.panic c) (a.put oi.dst v) w→Q (.panic c) a w)(hy:YieldsIf P ops F oi v a)(hS:F w)(h:zy P md ops Q F t fuel (listed.setIfInBounds i true) (a.put oi.dst v) w):zy P md ops Q F t (fuel+1) listed a w :=
 jeG hi (Region.noSelect_spec hs) hQ a0 fuel listed a w (Region.free_spec hi hf) (by simpa using hr) hy hS h
def AllReadyL (P:Program)(md:Region.Mode)(ops:Array Oper)(Q:Exit→Act→World→Prop)(F:World→Prop)(t:Nat)(fuel:Nat)(listed:Array Bool)(a:Act)(w:World)(rs:List Nat):Prop :=
 ∀ i∈rs,wpOp P ops Q i (fun a' w'=>(i=t∨F w')∧zy P md ops Q F t fuel (listed.setIfInBounds i true) a' w') a w
theorem AllReadyL.nil {fuel:Nat}{listed:Array Bool}{a:Act}{w:World}:AllReadyL P md ops Q F t fuel listed a w []:=fun _ h=>by cases h
theorem AllReadyL.cons {fuel:Nat}{listed:Array Bool}{a:Act}{w:World}{i:Nat}{o:Oper}{rs:List Nat}(ho:ops[i]?=some o)(h:∀ K':Act→World→Prop,Shut (∀ a w,F w→(F w→zy P md ops Q F t fuel (listed.setIfInBounds i true) a w)→K' a w)→if Region.wanted o (yielded ops a.tmps)=true then Oper.wp P o a w K' Q else K' (a.put o.dst undef) w)(hs:AllReadyL P md ops Q F t fuel listed a w rs):AllReadyL P md ops Q F t fuel listed a w (i::rs):=fun j hj=>by
 rcases List.mem_cons.1 hj with rfl | hj
 · exact wpOp_step ho (fun K' hK=>h K' (fun a w hS hW=>hK a w ⟨.inr hS,hW hS⟩))
 · exact hs j hj
theorem AllReadyL.last {fuel:Nat}{listed:Array Bool}{a:Act}{w:World}{i:Nat}{o:Oper}(a0:i=t)(ho:ops[i]?=some o)(h:∀ K':Act→World→Prop,Shut (∀ a w,zy P md ops Q F t fuel (listed.setIfInBounds i true) a w→K' a w)→if Region.wanted o (yielded ops a.tmps)=true then Oper.wp P o a w K' Q else K' (a.put o.dst undef) w):AllReadyL P md ops Q F t fuel listed a w [i]:=fun j hj=>by
 rw [List.mem_singleton] at hj;subst hj;exact wpOp_step ho (fun K' hK=>h K' (fun a w hW=>hK a w ⟨.inl a0,hW⟩))
theorem jM {rs:List Nat}{fuel:Nat}{listed:Array Bool}{a:Act}{w:World}(hr:Region.ready md ops listed=rs)(a0:rs ≠ [])(h:AllReadyL P md ops Q F t fuel listed a w rs):zy P md ops Q F t (fuel+1) listed a w:=⟨fun h0=>absurd (hr ▸ h0) a0,hr ▸ h⟩
theorem yR {listed:Array Bool}{a:Act}{w:World}(hr:Region.ready md ops listed = [])(h:Q .normal a w):∀ fuel,zy P md ops Q F t fuel listed a w
 | 0=>⟨hr,h⟩
 | _+1=>⟨fun _=>h,by rw [hr];simp⟩
theorem yy (t:Nat){id:Nat}{a:Act}{w:World}(hm:P.follows .mixedOrders=true)(hS:F w.drew)(h:F w.drew→zy P .any ops Q F t ops.size (Array.replicate ops.size false) a w.drew):(Code.region id ops true).wp P Q a w :=
 wp_region_any hm (uW _ _ _ _ (h hS))
end
theorem Tl {P:Program}{ops:Array Oper}{Q:Exit→Act→World→Prop}{md:Region.Mode}{S:World→Prop}{t:Nat}(i d:Nat){x1:Op}{x2:TypeId}{x3:String}{x4:Array Edge}{x5:Option (Nat × Bool)}{v:Value}{fuel:Nat}{listed:Array Bool}{a a':Act}{w:World}(h:zy P md ops Q S t fuel (listed.setIfInBounds i true) a' w)(hi:ops[i]?=some ⟨some d,x1,x2,x3,x4,x5⟩:=by rfl)(hs:Region.noSelect ops=true:=by kernel_rfl)(hf:Region.free md ops listed i=true:=by kernel_rfl)(hr:(Region.ready md ops listed).contains i=true:=by kernel_rfl)(hwt:jaX md ops t i=true:=by kernel_rfl)(hQ:∀ c a w,Q (.panic c) (a.put (some d) v) w→Q (.panic c) a w:=by exact fun _ _ _ h=>h)(hw:Region.wanted ⟨some d,x1,x2,x3,x4,x5⟩ (yielded ops a.tmps)=true:=by kernel_rfl)(hy:∀ w',S w'→(execOp a.eval ⟨some d,x1,x2,x3,x4,x5⟩).run P w'=.ok (.value v) w':=by (intro w' hw';clear hw';go_simp;try with_reducible rfl))(hS:S w:=by assumption)(ha:a.put (some d) v=a':=by (simp only [Act.put,List.setIfInBounds_toArray,List.set_cons_zero,List.set_cons_succ];try rfl)):zy P md ops Q S t (fuel+1) listed a w :=
  jkb (v:=v) hi hs hf hr hwt hQ (Or.inl ⟨hw,hy⟩) hS (ha ▸ h)
theorem Tf {P:Program}{ops:Array Oper}{Q:Exit→Act→World→Prop}{md:Region.Mode}{S:World→Prop}{t:Nat}(i d:Nat){x1:Op}{x2:TypeId}{x3:String}{x4:Array Edge}{x5:Option (Nat × Bool)}{v:Value}{fuel:Nat}{listed:Array Bool}{a a':Act}{w:World}(h:zy P md ops Q S t fuel (listed.setIfInBounds i true) a' w)(hi:ops[i]?=some ⟨some d,x1,x2,x3,x4,x5⟩:=by rfl)(hs:Region.noSelect ops=true:=by kernel_rfl)(hf:Region.free md ops listed i=true:=by kernel_rfl)(hr:(Region.ready md ops listed).contains i=true:=by kernel_rfl)(hwt:jaX md ops t i=true:=by kernel_rfl)(hQ:∀ c a w,Q (.panic c) (a.put (some d) v) w→Q (.panic c) a w:=by exact fun _ _ _ h=>h)(hw:Region.wanted ⟨some d,x1,x2,x3,x4,x5⟩ (yielded ops a.tmps)=true:=by kernel_rfl)(hy:∀ w',S w'→(execOp a.eval ⟨some d,x1,x2,x3,x4,x5⟩).run P w'=.ok (.value v) w':=by (intro w' hw';go_simp;try with_reducible rfl))(hS:S w:=by assumption)(ha:a.put (some d) v=a':=by (simp only [Act.put,List.setIfInBounds_toArray,List.set_cons_zero,List.set_cons_succ];try rfl)):zy P md ops Q S t (fuel+1) listed a w :=
  jkb (v:=v) hi hs hf hr hwt hQ (Or.inl ⟨hw,hy⟩) hS (ha ▸ h)
theorem Tm {P:Program}{ops:Array Oper}{Q:Exit→Act→World→Prop}{md:Region.Mode}{S:World→Prop}{t:Nat}(i d:Nat){x1:Op}{x2:TypeId}{x3:String}{x4:Array Edge}{x5:Option (Nat × Bool)}{fuel:Nat}{listed:Array Bool}{a a':Act}{w:World}(h:zy P md ops Q S t fuel (listed.setIfInBounds i true) a' w)(hi:ops[i]?=some ⟨some d,x1,x2,x3,x4,x5⟩:=by rfl)(hs:Region.noSelect ops=true:=by kernel_rfl)(hf:Region.free md ops listed i=true:=by kernel_rfl)(hr:(Region.ready md ops listed).contains i=true:=by kernel_rfl)(hwt:jaX md ops t i=true:=by kernel_rfl)(hQ:∀ c a w,Q (.panic c) (a.put (some d) undef) w→Q (.panic c) a w:=by exact fun _ _ _ h=>h)(hw:Region.wanted ⟨some d,x1,x2,x3,x4,x5⟩ (yielded ops a.tmps)=false:=by kernel_rfl)(hS:S w:=by assumption)(ha:a.put (some d) undef=a':=by (simp only [Act.put,List.setIfInBounds_toArray,List.set_cons_zero,List.set_cons_succ];try rfl)):zy P md ops Q S t (fuel+1) listed a w :=
  jkb (v:=undef) hi hs hf hr hwt hQ (Or.inr ⟨hw,rfl⟩) hS (ha ▸ h)
end Go.Proofs.YtgcnolapjppbpaaGreatDoor
