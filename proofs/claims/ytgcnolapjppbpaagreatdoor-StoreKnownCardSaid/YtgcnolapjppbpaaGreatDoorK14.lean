/- Texts of one proof. -/
import Derived.Test.YtgcnolapjppbpaaGreatDoorK11
namespace Go.Proofs.YtgcnolapjppbpaaGreatDoor
open Go.RowKit _root_.Go.Proofs.Tryz
set_option maxRecDepth 100000
set_option maxHeartbeats 25600000
variable {w w' w0:World}{m:List SesM}{p:Nat}{c b:Int}{v:Value}{s:SesM}
def uC:SesM:=⟨0,0,0,0,0,[],[],0,0,0,0,0⟩
theorem jld (w:World):(zeroValue 45).run prog w=.ok (.agg uC.cells) w:=by kernel_rfl
theorem jau (b:Int):∀ (m:List SesM) (x:SesM),yh b (m ++ [x])=(yh b m).or (if x.birth=b then some x else none)
 | [],x=>rfl
 | y::m,x=>by
  show (if y.birth=b then some y else yh b (m ++ [x]))=(if y.birth=b then some y else yh b m).or _
  split
  . rfl
  . exact jau b m x
theorem jce (k:Int):∀ m:List SesM,jaJ k (m.map (fun x=>(x.birth,Value.agg x.cells)))=(yh k m).map (fun x=>.agg x.cells)
 | []=>rfl
 | x::m=>by
  simp only [wK,jaJ,yh]
  split
  . rfl
  . exact jce k m
def IsK (w:World)(b:Nat)(m:List SesM):Prop:=∃ es:List SesM,IsMap w b (es.map (fun x=>(x.birth,Value.agg x.cells)))/\∀ k,yh k es=yh k m
theorem IsK.below {b:Nat}(h:IsK w b m)(hb:Below w.heap.size w w'):IsK w' b m:=by
 obtain ⟨es,h1,h2⟩:=h;exact ⟨es,h1.below hb,h2⟩
theorem IsK.new (w:World):IsK (w.alloc (.map #[] 0)) w.heap.size []:=⟨[],IsMap.new w,fun _=>rfl⟩
theorem IsK.same {b:Nat}(h:IsK w b m){x:SesM}(hx:(yh x.birth m).isSome=true):IsK w b (m ++ [x]):=by
 obtain ⟨es,h1,h2⟩:=h;refine ⟨es,h1,fun k=>?_⟩
 rw [h2,jau];by_cases hk:x.birth=k
 .
  subst hk
  cases e:yh x.birth m with
  | none=>rw [e] at hx;cases hx
  | some y=>rfl
 . rw [qh hk,Option.or_none]
structure LkR (k:Int)(l:List SesM) where
 y:SesM
 ok:Bool
 hy:Hid ((yh k l).getD uC=y)
 hok:Hid ((yh k l).isSome=ok)
theorem jbr {ops:Array Oper}{rest:List Oper}{o:Oper}{a:Act}{Q:Exit->Act->World->Prop}(hg:o.guard=none)(m x:Operand)(a0:o.op=Op.lookup 181 m x true)(b:Nat)(l:List SesM)(hm:a.eval m=.map (some b))(h:IsK w b l)(k:Int)(hx:a.eval x=.int .i64 k)(hn:∀ r:LkR k l,wpList prog ops Q rest (a.put o.dst (.tuple #[.agg r.y.cells,.bool r.ok])) w):wpList prog ops Q (o::rest) a w:=by
 obtain ⟨es,h1,h2⟩:=h;have e:=jce k es;rw [h2] at e;refine jaT hg m x _ a0 _ _ .i64 underlying181 underlying3 (.agg uC.cells) (jld w) b _ hm h1 k hx _ _ ?_ ?_ (hn ⟨_,_,qe rfl,qe rfl⟩)
 .
  show _=Value.agg ((yh k l).getD uC).cells;rw [e];cases yh k l <;> rfl
 .
  show _=(yh k l).isSome;rw [e];cases yh k l <;> rfl
theorem jhu {ops:Array Oper}{rest:List Oper}{o:Oper}{a:Act}{Q:Exit->Act->World->Prop}(hg:o.guard=none)(m x y:Operand)(a0:o.op=Op.mapUpdate 181 m x y)(b:Nat)(l:List SesM)(hm:a.eval m=.map (some b))(h:IsK w b l)(s:SesM)(hx:a.eval x=.int .i64 s.birth)(hk:(yh s.birth l).isSome=false)(hy:a.eval y=.agg s.cells)(hn:∀ w',IsK w' b (l ++ [s])->Mod (fun i=>i=b) w w'->wpList prog ops Q rest (a.put o.dst undef) w'):wpList prog ops Q (o::rest) a w:=by
 obtain ⟨es,h1,h2⟩:=h;have e:=jce s.birth es;rw [h2] at e;have e0:yh s.birth l=none:=by
  cases h:yh s.birth l with
  | none=>rfl
  | some v=>rw [h] at hk;cases hk
 rw [e0] at e;refine jbK hg m x y _ a0 _ _ .i64 underlying181 underlying3 b _ hm h1 s.birth hx e _ hy (fun w' h3 h4=>hn w' ⟨es ++ [s],by simpa using h3,fun k=>?_⟩ h4)
 rw [jau,jau,h2]
structure RfS (w0 w:World)(p:Nat)(c b:Int)(v:Value)(s:SesM)(m:List SesM):Prop where
 bx:Box w p #[c,b,v] 30
 bs:Box w (p+1) s.cells 45
 mp:IsK w (p+2) m
 bel:Below p w0 w
 e:p=w0.heap.size
theorem RfS.below (h:RfS w0 w p c b v s m)(hb:Below w.heap.size w w'):RfS w0 w' p c b v s m :=
 ⟨h.bx.below hb,h.bs.below hb,h.mp.below hb,h.bel.trans (hb.mono (by have:=h.bx.lt;omega)),h.e⟩
theorem RfS.put {m':List SesM}(h:RfS w0 w p c b v s m)(hm:Mod (fun i=>i=p+2) w w')(hg:IsK w' (p+2) m'):RfS w0 w' p c b v s m' :=
 ⟨h.bx.mod hm (by omega),h.bs.mod hm (by omega),hg,h.bel.trans (hm.below (by have:=h.bx.lt;omega) (fun i hi=>by omega)),h.e⟩
theorem RfS.self (h:RfS w0 w p c b v s m):Below w0.heap.size w0 w:=by have:=h.bel;rwa [h.e] at this
theorem jgP {l:List SesM}{k:Nat}{x:SesM}(hk:k<l.length)(hx:x=l[k]):(l.take (k+1)).any (fun y=>y.slot==s.slot)=((l.take k).any (fun y=>y.slot==s.slot) || (x.slot==s.slot)):=by
 rw [jgU hk,hx]
theorem jeO (st:StM)(s:SesM)(v:Value)(w:World)(hv:RdS w v st.l) :
  Calls prog 58 #[.agg #[st.clock,st.births,v],.agg s.cells] w fun e w'=>e=.returned (jm (uR st s))/\Below w.heap.size w w':=by
 obtain ⟨E,hE⟩:=Nm (uR st s);rw [<- hE];unfold uR at hE;obtain ⟨c,b,l⟩:=st;simp only at hv hE |-;obtain ⟨a,cap,rfl,b5,c6⟩:=hv.slice;have HV:=qe hv;have c4:l.length<=9223372036854775807:=by omega
 obtain ⟨n,hN⟩:=Nm (l.length);rw [<- hN] at c4 HV b5 hE |-;have HN:=qe hN;obtain ⟨W,hW⟩:∃ W,IntKind.i64.wrap (b+1)=W:=⟨_,rfl⟩;rw [hW] at hE;have HE:=qe hE;have hmm:=@run_makeMap prog;have HB2:=qe (jl w (.cells #[c,b,.slice a n cap] 30) (.cells s.cells 45));have b6:=(Box.new w #[c,b,.slice a n cap] 30).below (ja _ (.cells s.cells 45));have b3:=Box.new (w.alloc (.cells #[c,b,.slice a n cap] 30)) s.cells 45;rw [qj] at b3;have HX0:=qe b6;have HX1:=qe b3;clear hv b5 hN hE b6 b3;have HSC:=qe s.cellsE;rw [HSC.out] at HB2 HX0 HX1 |-;go_enter func58,ntmps58;by_cases h1:s.birth=W;rotate_left
 .
  have H1:=qe h1;have n1:(s.birth != W)=true:=by rw [wl];exact h1
  clear h1;go_wp2;go_ret;exact ⟨by rw [HE.out,qh H1.out];rfl,HB2.out⟩
 have n1:(s.birth != W)=false:=by rw [wL];exact h1
 have HE1:=qe (HE.out.trans (qf h1));clear h1 HE;by_cases h2:s.born=c;rotate_left
 .
  have H2:=qe h2;have n2:(s.born != c)=true:=by rw [wl];exact h2
  clear h2;go_wp2;go_ret;exact ⟨by rw [HE1.out,qh H2.out];rfl,HB2.out⟩
 have n2:(s.born != c)=false:=by rw [wL];exact h2
 have HE2:=qe (HE1.out.trans (qf h2));clear h2 HE1;by_cases h3:32<=n
 .
  have H3:=qe h3;have n3:(32:Int)<=(n:Int):=by omega
  clear h3;go_wp2;go_ret;exact ⟨by rw [HE2.out,qf H3.out];rfl,HB2.out⟩
 have n3:¬ (32:Int)<=(n:Int):=by omega
 have HE3:=qe (HE2.out.trans (qh h3));clear h3 HE2;go_wp2_with fail;clear n1 n2 n3 hW;have b7:RfS w (((w.alloc (.cells #[c,b,.slice a n cap] 30)).alloc (.cells #[s.slot,s.birth,s.upS,s.upB,s.kind,.string (SB s.user),.string (SB s.label),.int .u64 (s.scopes:Int),s.level,s.born,s.deadline,s.depth] 45)).alloc (.map #[] 0)) w.heap.size c b (.slice a n cap) s []:=by
  have h3:=IsK.new ((w.alloc (.cells #[c,b,.slice a n cap] 30)).alloc (.cells #[s.slot,s.birth,s.upS,s.upB,s.kind,.string (SB s.user),.string (SB s.label),.int .u64 (s.scopes:Int),s.level,s.born,s.deadline,s.depth] 45));rw [qj,qj] at h3;exact ⟨HX0.out.below (ja _ _),by rw [HSC.out];exact HX1.out.below (ja _ _),h3,HB2.out.trans ((ja _ _).mono HB2.out.size),rfl⟩
 have HR0:=qe b7;clear b7 HX0 HX1 HB2 HSC;generalize ((w.alloc _).alloc _).alloc _=wi at HR0 |-;obtain ⟨p,hp⟩:=Nm (w.heap.size);rw [<- hp] at HR0 |-;clear hp hmm
 go_loopg [38] n (fun gk iv wr=>∃ k:Nat,gk+k=n/\iv=.int .i64 (k:Int)/\RfS w wr p c b (.slice a n cap) s (l.take k)/\Hid ((l.take k).any (fun y=>y.slot==s.slot)=false))
 case atStart=>exact ⟨0,rfl,rfl,HR0.out,qe rfl⟩
 case round =>
  clear HR0;obtain ⟨k,b8,rfl,b4,HAN⟩:=hrel;have k0:(0:Int)<=(k:Int):=by omega
  have HGK:=qe b8;have HRF:=qe b4;have hb:=b4.self;clear b8 b4;by_cases hk:k<n
  .
   have k1:(k:Int)<(n:Int):=by omega
   have b1:k<l.length:=by have:=HN.out;omega
   obtain ⟨x,hx⟩:=Nm (l[k]);obtain ⟨rb,ro,c5,b0⟩:=(HV.out.below hb).row k b1;subst c5;rw [<- hx] at b0;have HROW:=qe b0;have HST:=qe (jgP (s:=s) b1 hx);have HTK:=qe (show l.take (k+1)=l.take k ++ [x] by rw [qk b1,hx])
   have HSA:=qe (show (x.slot==s.slot)=true->l.any (fun y=>y.slot==s.slot)=true from fun h=>by rw [kl];exact ⟨x,by rw [hx];exact qy _,h⟩)
   have HK:=qe hk;clear b0 hx hk hb b1
   go_wp2_with (with_reducible refine Lk HROW.out underlying45 ?_)
   intro cv a9;have ecv:cv=x.cells:=by rw [a9.out]
   subst ecv;clear a9
   go_wp2_with (with_reducible refine Sz x.cells.toList (SesM.listS _) (SesM.oneS _) ?_)
   intro w2 b9;obtain ⟨b2,c0⟩:=uQ b9;have HR2:=qe (HRF.out.below c0);have HPX:=qe b2;have q0:w2.cell? ⟨wr.heap.size,0,none⟩=some (.int .i64 x.slot):=b2.cell 0 _ rfl;have q1:w2.cell? ⟨wr.heap.size,1,none⟩=some (.int .i64 x.birth):=b2.cell 1 _ rfl;have s0:w2.cell? ⟨p+1,0,none⟩=some (.int .i64 s.slot):=HR2.out.bs.cell 0 _ rfl;clear b9 b2 c0 HROW HRF;generalize wr.heap.size=q at *
   cases hsl:(x.slot==s.slot)
   rotate_left
   .
    have HT:=qe (HSA.out hsl);clear HST HSA HTK;go_wp2;go_ret;exact ⟨by rw [HE3.out,qf HT.out];rfl,HR2.out.self⟩
   have HA2:=qe (show (l.take (k+1)).any (fun y=>y.slot==s.slot)=false by rw [HST.out,HAN.out,hsl];rfl)
   clear HST HSA HAN
   go_wp2_with (at_lookup;refine jbr rfl _ _ rfl _ _ rfl HR2.out.mp x.birth rfl ?_)
   intro lr;obtain ⟨y,ok,_,HOK⟩:=lr;simp only
   go_wp2_with (with_reducible refine Sz y.cells.toList (SesM.listS _) (SesM.oneS _) ?_)
   intro w3 a5;obtain ⟨a1,a4⟩:=uQ a5;have HR3:=qe (HR2.out.below a4);have HPX3:=qe (HPX.out.below a4);have HRG:=qe (Box.rangeS HPX3.out);have r1:w3.cell? ⟨q,1,none⟩=some (.int .i64 x.birth):=HPX3.out.cell 1 _ rfl;clear a5 a1 a4 HR2 HPX q0 q1 s0;generalize w2.heap.size=q2 at *
   cases ok
   rotate_left
   .
    have HRN:=qe (show IsK w3 (p+2) (l.take (k+1)) by rw [HTK.out];exact HR3.out.mp.same HOK.out)
    have HRF:=qe (show RfS w w3 p c b (.slice (some ⟨rb,ro,none⟩) n cap) s (l.take (k+1)) from ⟨HR3.out.bx,HR3.out.bs,HRN.out,HR3.out.bel,HR3.out.e⟩)
    clear HRN HR3 HTK HOK;go_wp2
    go_roundg (n-(k+1))
    case measure=>have:=HGK.out;have:=HK.out;omega
    case rel=>exact ⟨k+1,by have:=HGK.out;have:=HK.out;omega,by go_num,HRF.out,HA2⟩
   go_wp2_with (with_reducible refine Lk HRG.out underlying45 ?_)
   intro cv a9;have ecv:cv=x.cells:=by rw [a9.out]
   subst ecv;clear a9
   go_wp2_with (at_mapUpdate;refine jhu rfl _ _ _ rfl _ _ rfl HR3.out.mp x rfl HOK.out rfl ?_)
   intro w4 c1 c2;have HRF:=qe (show RfS w w4 p c b (.slice (some ⟨rb,ro,none⟩) n cap) s (l.take (k+1)) by rw [HTK.out];exact HR3.out.put c2 c1)
   clear c1 c2 HR3 HTK HOK;go_wp2
   go_roundg (n-(k+1))
   case measure=>have:=HGK.out;have:=HK.out;omega
   case rel=>exact ⟨k+1,by have:=HGK.out;have:=HK.out;omega,by go_num,HRF.out,HA2⟩
  .
   have k1:¬ (k:Int)<(n:Int):=by omega
   have a7:l.take k=l:=ql (by have:=HN.out;omega)
   have HRL:=qe (show RfS w wr p c b (.slice a n cap) s l by have h:=HRF.out;rwa [a7] at h)
   have HE4:=qe (show E=upM s l by
    have h:=HAN.out;rw [a7] at h;rw [HE3.out,qh (by rw [h];decide)])
   have s3:wr.cell? ⟨p+1,3,none⟩=some (.int .i64 s.upB):=HRL.out.bs.cell 3 _ rfl;clear hk hb a7 HRF HAN HE3 HGK
   cases h0:(s.upB==0)
   rotate_left
   .
    have H0:=qe (show s.upB=0 from qK.1 h0)
    go_wp2;go_ret;exact ⟨by rw [HE4.out];unfold upM;rw [qf H0.out];rfl,HRL.out.self⟩
   have HE5:=qe (show E=(match yh s.upB l with | none=>16 | some p=>if p.slot=s.upS then (if zI s p=true then 0 else 24) else 16) by
    rw [HE4.out];unfold upM;rw [qh (fun e=>by rw [e] at h0;cases h0)];rfl)
   clear HE4
   go_wp2_with (at_lookup;refine jbr rfl _ _ rfl _ _ rfl HRL.out.mp s.upB rfl ?_)
   intro lr;obtain ⟨y,ok,hy,a8⟩:=lr;simp only;clear s3 h0
   cases hf:yh s.upB l with
   | none =>
    rw [hf] at HE5 a8;have HE6:=HE5;obtain rfl:false=ok:=a8.out;clear hy hf HE5 a8
    go_wp2_with (with_reducible refine Sz y.cells.toList (SesM.listS _) (SesM.oneS _) ?_)
    intro w3 a5;obtain ⟨a1,a4⟩:=uQ a5;have HR3:=qe (HRL.out.below a4);clear a5 a1 a4 HRL;go_wp2;go_ret;exact ⟨by rw [HE6.out];rfl,HR3.out.self⟩
   | some y2 =>
    rw [hf] at HE5 a8 hy;obtain rfl:true=ok:=a8.out;obtain rfl:y2=y:=hy.out;have HE6:=qe (show E=(if y2.slot=s.upS then (if zI s y2=true then 0 else 24) else 16) from HE5.out)
    clear hf HE5 a8 hy;obtain ⟨y,c3⟩:=Nm (y2);rw [<- c3] at HE6 |-;clear c3
    go_wp2_with (with_reducible refine Sz y.cells.toList (SesM.listS _) (SesM.oneS _) ?_)
    intro w3 a5;obtain ⟨a1,a4⟩:=uQ a5;have HR3:=qe (HRL.out.below a4);have y0:w3.cell? ⟨wr.heap.size,0,none⟩=some (.int .i64 y.slot):=a1.cell 0 _ rfl;have y5:w3.cell? ⟨wr.heap.size,5,none⟩=some (.string (SB y.user)):=a1.cell 5 _ rfl;have y7:w3.cell? ⟨wr.heap.size,7,none⟩=some (.int .u64 (y.scopes:Int)):=a1.cell 7 _ rfl;have y8:w3.cell? ⟨wr.heap.size,8,none⟩=some (.int .i64 y.level):=a1.cell 8 _ rfl;have y10:w3.cell? ⟨wr.heap.size,10,none⟩=some (.int .i64 y.deadline):=a1.cell 10 _ rfl;have y11:w3.cell? ⟨wr.heap.size,11,none⟩=some (.int .i64 y.depth):=a1.cell 11 _ rfl;have s2:w3.cell? ⟨p+1,2,none⟩=some (.int .i64 s.upS):=HR3.out.bs.cell 2 _ rfl;have s4:w3.cell? ⟨p+1,4,none⟩=some (.int .i64 s.kind):=HR3.out.bs.cell 4 _ rfl;have s5:w3.cell? ⟨p+1,5,none⟩=some (.string (SB s.user)):=HR3.out.bs.cell 5 _ rfl;have s7:w3.cell? ⟨p+1,7,none⟩=some (.int .u64 (s.scopes:Int)):=HR3.out.bs.cell 7 _ rfl;have s8:w3.cell? ⟨p+1,8,none⟩=some (.int .i64 s.level):=HR3.out.bs.cell 8 _ rfl;have s10:w3.cell? ⟨p+1,10,none⟩=some (.int .i64 s.deadline):=HR3.out.bs.cell 10 _ rfl;have s11:w3.cell? ⟨p+1,11,none⟩=some (.int .i64 s.depth):=HR3.out.bs.cell 11 _ rfl;clear a5 a1 a4 HRL;generalize wr.heap.size=q at *;by_cases h1:y.slot=s.upS;rotate_left
    .
     have H1:=qe h1;have n1:(y.slot != s.upS)=true:=by rw [wl];exact h1
     clear h1;go_wp2;go_ret;exact ⟨by rw [HE6.out,qh H1.out];rfl,HR3.out.self⟩
    have n1:(y.slot != s.upS)=false:=by rw [wL];exact h1
    have HE7:=qe (HE6.out.trans (qf h1));clear h1 HE6;obtain ⟨D,hD⟩:∃ D,IntKind.i64.wrap (y.depth+1)=D:=⟨_,rfl⟩;obtain ⟨lv,a2⟩:=Nm ((if s.kind=2 then decide (y.level<s.level) else s.level==y.level))
    have HFT:=qe (show zI s y=((s.depth==D)&&((s.user==y.user)&&(vh s.scopes y.scopes&&(decide (s.deadline<=y.deadline)&&lv)))) by unfold zI;rw [hD,a2])
    have HWI:=qe (fun w=>jgi s.scopes y.scopes w)
    generalize zI s y=ft at HE7 HFT
    cases hk2:(s.kind==2)
    .
     have HK2:=qe (show ¬ s.kind=2 from fun e=>by rw [e] at hk2;cases hk2)
     rw [qh HK2.out] at a2
     cases hle:(s.level==y.level)
     .
      have HLV:=qe (show lv=false by rw [a2,hle])
      clear a2
      cases h2:(s.depth==D)
      .
       have a6:(s.depth != D)=true:=by rw [bne,h2];rfl
       go_wp2;go_ret;exact ⟨by rw [HE7.out,HFT.out,h2];rfl,HR3.out.self⟩
      have a6:(s.depth != D)=false:=by rw [bne,h2];rfl
      cases h3:(s.user==y.user)
      .
       have a0:((SB s.user).toList==(SB y.user).toList)=false:=by rw [jh,jh];exact h3
       have a3:((SB s.user).toList != (SB y.user).toList)=true:=by rw [bne,a0];rfl
       go_wp2;go_ret;exact ⟨by rw [HE7.out,HFT.out,h2,h3];rfl,HR3.out.self⟩
      have a0:((SB s.user).toList==(SB y.user).toList)=true:=by rw [jh,jh];exact h3
      have a3:((SB s.user).toList != (SB y.user).toList)=false:=by rw [bne,a0];rfl
      go_wp2_with fail;refine (HWI.out _).mono ?_;rintro e w4 ⟨rfl,rfl⟩;have H23:=qe (And.intro h2 h3);clear h2 h3 HWI;generalize vh s.scopes y.scopes=sc at HFT |-
      cases sc
      .
       go_wp2;go_ret;exact ⟨by rw [HE7.out,HFT.out,H23.out.1,H23.out.2];rfl,HR3.out.self⟩
      by_cases h4:s.deadline<=y.deadline
      rotate_left
      .
       have n4:y.deadline<s.deadline:=by omega
       have H4:=qe (qv h4);clear h4;go_wp2;go_ret;exact ⟨by rw [HE7.out,HFT.out,H23.out.1,H23.out.2,H4.out];rfl,HR3.out.self⟩
      have n4:¬ y.deadline<s.deadline:=by omega
      have H4:=qe (qz h4);clear h4;go_wp2;go_ret;exact ⟨by rw [HE7.out,HFT.out,H23.out.1,H23.out.2,H4.out,HLV.out];rfl,HR3.out.self⟩
     have HLV:=qe (show lv=true by rw [a2,hle])
     clear a2
     cases h2:(s.depth==D)
     .
      have a6:(s.depth != D)=true:=by rw [bne,h2];rfl
      go_wp2;go_ret;exact ⟨by rw [HE7.out,HFT.out,h2];rfl,HR3.out.self⟩
     have a6:(s.depth != D)=false:=by rw [bne,h2];rfl
     cases h3:(s.user==y.user)
     .
      have a0:((SB s.user).toList==(SB y.user).toList)=false:=by rw [jh,jh];exact h3
      have a3:((SB s.user).toList != (SB y.user).toList)=true:=by rw [bne,a0];rfl
      go_wp2;go_ret;exact ⟨by rw [HE7.out,HFT.out,h2,h3];rfl,HR3.out.self⟩
     have a0:((SB s.user).toList==(SB y.user).toList)=true:=by rw [jh,jh];exact h3
     have a3:((SB s.user).toList != (SB y.user).toList)=false:=by rw [bne,a0];rfl
     go_wp2_with fail;refine (HWI.out _).mono ?_;rintro e w4 ⟨rfl,rfl⟩;have H23:=qe (And.intro h2 h3);clear h2 h3 HWI;generalize vh s.scopes y.scopes=sc at HFT |-
     cases sc
     .
      go_wp2;go_ret;exact ⟨by rw [HE7.out,HFT.out,H23.out.1,H23.out.2];rfl,HR3.out.self⟩
     by_cases h4:s.deadline<=y.deadline
     rotate_left
     .
      have n4:y.deadline<s.deadline:=by omega
      have H4:=qe (qv h4);clear h4;go_wp2;go_ret;exact ⟨by rw [HE7.out,HFT.out,H23.out.1,H23.out.2,H4.out];rfl,HR3.out.self⟩
     have n4:¬ y.deadline<s.deadline:=by omega
     have H4:=qe (qz h4);clear h4;go_wp2;go_ret;exact ⟨by rw [HE7.out,HFT.out,H23.out.1,H23.out.2,H4.out,HLV.out];rfl,HR3.out.self⟩
    have HK2:=qe (show s.kind=2 from qK.1 hk2)
    rw [qf HK2.out] at a2;by_cases a7:y.level<s.level;rotate_left
    .
     have HLV:=qe (show lv=false by rw [a2,qv a7])
     clear a2
     cases h2:(s.depth==D)
     .
      have a6:(s.depth != D)=true:=by rw [bne,h2];rfl
      go_wp2;go_ret;exact ⟨by rw [HE7.out,HFT.out,h2];rfl,HR3.out.self⟩
     have a6:(s.depth != D)=false:=by rw [bne,h2];rfl
     cases h3:(s.user==y.user)
     .
      have a0:((SB s.user).toList==(SB y.user).toList)=false:=by rw [jh,jh];exact h3
      have a3:((SB s.user).toList != (SB y.user).toList)=true:=by rw [bne,a0];rfl
      go_wp2;go_ret;exact ⟨by rw [HE7.out,HFT.out,h2,h3];rfl,HR3.out.self⟩
     have a0:((SB s.user).toList==(SB y.user).toList)=true:=by rw [jh,jh];exact h3
     have a3:((SB s.user).toList != (SB y.user).toList)=false:=by rw [bne,a0];rfl
     go_wp2_with fail;refine (HWI.out _).mono ?_;rintro e w4 ⟨rfl,rfl⟩;have H23:=qe (And.intro h2 h3);clear h2 h3 HWI;generalize vh s.scopes y.scopes=sc at HFT |-
     cases sc
     .
      go_wp2;go_ret;exact ⟨by rw [HE7.out,HFT.out,H23.out.1,H23.out.2];rfl,HR3.out.self⟩
     by_cases h4:s.deadline<=y.deadline
     rotate_left
     .
      have n4:y.deadline<s.deadline:=by omega
      have H4:=qe (qv h4);clear h4;go_wp2;go_ret;exact ⟨by rw [HE7.out,HFT.out,H23.out.1,H23.out.2,H4.out];rfl,HR3.out.self⟩
     have n4:¬ y.deadline<s.deadline:=by omega
     have H4:=qe (qz h4);clear h4;go_wp2;go_ret;exact ⟨by rw [HE7.out,HFT.out,H23.out.1,H23.out.2,H4.out,HLV.out];rfl,HR3.out.self⟩
    have HLV:=qe (show lv=true by rw [a2,qz a7])
    clear a2
    cases h2:(s.depth==D)
    .
     have a6:(s.depth != D)=true:=by rw [bne,h2];rfl
     go_wp2;go_ret;exact ⟨by rw [HE7.out,HFT.out,h2];rfl,HR3.out.self⟩
    have a6:(s.depth != D)=false:=by rw [bne,h2];rfl
    cases h3:(s.user==y.user)
    .
     have a0:((SB s.user).toList==(SB y.user).toList)=false:=by rw [jh,jh];exact h3
     have a3:((SB s.user).toList != (SB y.user).toList)=true:=by rw [bne,a0];rfl
     go_wp2;go_ret;exact ⟨by rw [HE7.out,HFT.out,h2,h3];rfl,HR3.out.self⟩
    have a0:((SB s.user).toList==(SB y.user).toList)=true:=by rw [jh,jh];exact h3
    have a3:((SB s.user).toList != (SB y.user).toList)=false:=by rw [bne,a0];rfl
    go_wp2_with fail;refine (HWI.out _).mono ?_;rintro e w4 ⟨rfl,rfl⟩;have H23:=qe (And.intro h2 h3);clear h2 h3 HWI;generalize vh s.scopes y.scopes=sc at HFT |-
    cases sc
    .
     go_wp2;go_ret;exact ⟨by rw [HE7.out,HFT.out,H23.out.1,H23.out.2];rfl,HR3.out.self⟩
    by_cases h4:s.deadline<=y.deadline
    rotate_left
    .
     have n4:y.deadline<s.deadline:=by omega
     have H4:=qe (qv h4);clear h4;go_wp2;go_ret;exact ⟨by rw [HE7.out,HFT.out,H23.out.1,H23.out.2,H4.out];rfl,HR3.out.self⟩
    have n4:¬ y.deadline<s.deadline:=by omega
    have H4:=qe (qz h4);clear h4;go_wp2;go_ret;exact ⟨by rw [HE7.out,HFT.out,H23.out.1,H23.out.2,H4.out,HLV.out];rfl,HR3.out.self⟩
end Go.Proofs.YtgcnolapjppbpaaGreatDoor
