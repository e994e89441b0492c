/- Texts of one proof. -/
import Derived.Test.YtgcnolapjppbpaaGreatDoorK11
namespace Go.Proofs.YtgcnolapjppbpaaGreatDoor
open Go.RowKit _root_.Go.Proofs.Tryz
set_option maxRecDepth 100000
set_option maxHeartbeats 25600000
variable {w w' w0:World}{b p:Nat}{G:List Int}{c:Int}{v:Value}{g:SesM->Bool}{s:SesM}{l:List SesM}
theorem jlh (w:World):(zeroValue 3).run prog w=.ok (0:Int) w:=by kernel_rfl
def IsG (w:World)(b:Nat)(G:List Int):Prop:=∃ es:List (Int × Int),IsMap w b (es.map (fun p=>(p.1,Value.int .i64 p.2)))/\es.map Prod.fst=G
theorem IsG.mod {F:Nat->Prop}(h:IsG w b G)(hm:Mod F w w')(hb:¬ F b):IsG w' b G:=by
 obtain ⟨es,h1,h2⟩:=h;exact ⟨es,h1.mod hm hb,h2⟩
theorem IsG.below (h:IsG w b G)(hb:Below w.heap.size w w'):IsG w' b G:=by
 obtain ⟨es,h1,h2⟩:=h;exact ⟨es,h1.below hb,h2⟩
theorem IsG.lt (h:IsG w b G):b<w.heap.size:=by obtain ⟨_,h1,_⟩:=h;exact h1.lt
theorem IsG.new (w:World):IsG (w.alloc (.map #[] 0)) w.heap.size []:=⟨[],IsMap.new w,rfl⟩
theorem jb6 (k:Int):∀ es:List (Int × Int),(jaJ k (es.map (fun p=>(p.1,Value.int .i64 p.2)))).isSome=(es.map Prod.fst).contains k/\∃ x:Int,(jaJ k (es.map (fun p=>(p.1,Value.int .i64 p.2)))).getD (0:Int)=.int .i64 x
 | []=>⟨rfl,0,rfl⟩
 | p::es=>by
  obtain ⟨h1,h2⟩:=jb6 k es;simp only [wK,jaJ];by_cases h:p.1=k
  .
   rw [qf h];exact ⟨by simp [h],p.2,rfl⟩
  .
   rw [qh h];refine ⟨?_,h2⟩;rw [h1,List.contains_cons];have:(k==p.1)=false:=by rw [qD];exact fun e=>h e.symm
   rw [this,pZ]
def jjK (G:List Int)(k:Int):Bool:=G.contains k
theorem uj {ops:Array Oper}{rest:List Oper}{o:Oper}{a:Act}{Q:Exit->Act->World->Prop}(hg:o.guard=none)(m x:Operand)(a0:o.op=Op.lookup 185 m x true)(b:Nat)(G:List Int)(hm:a.eval m=.map (some b))(h:IsG w b G)(k:Int)(hx:a.eval x=.int .i64 k)(hn:∀ x:Int,wpList prog ops Q rest (a.put o.dst (.tuple #[x,.bool (jjK G k)])) w):wpList prog ops Q (o::rest) a w:=by
 obtain ⟨es,h1,rfl⟩:=h;obtain ⟨g1,xv,g2⟩:=jb6 k es;exact jaT hg m x _ a0 _ _ .i64 underlying185 underlying3 (0:Int) (jlh w) b _ hm h1 k hx _ _ g2 g1 (hn xv)
theorem jcC {ops:Array Oper}{rest:List Oper}{o:Oper}{a:Act}{Q:Exit->Act->World->Prop}(hg:o.guard=none)(m x y:Operand)(a0:o.op=Op.mapUpdate 185 m x y)(b:Nat)(G:List Int)(hm:a.eval m=.map (some b))(h:IsG w b G)(k:Int)(hx:a.eval x=.int .i64 k)(hk:G.contains k=false)(v:Int)(hy:a.eval y=.int .i64 v)(hn:∀ w',IsG w' b (G ++ [k])->Mod (fun i=>i=b) w w'->wpList prog ops Q rest (a.put o.dst undef) w'):wpList prog ops Q (o::rest) a w:=by
 obtain ⟨es,h1,rfl⟩:=h;have g1:=(jb6 k es).1;rw [hk] at g1;refine jbK hg m x y _ a0 _ _ .i64 underlying185 underlying3 b _ hm h1 k hx (by simpa using g1) _ hy (fun w' h2 h3=>hn w' ⟨es ++ [(k,v)],by simpa using h2,by simp⟩ h3)
structure WoS (w0 w:World)(p:Nat)(c b:Int)(v:Value)(G:List Int):Prop where
 bx:Box w p #[c,b,v] 30
 bz:Box w (p+1) #[(0:Int),(0:Int),.slice none 0 0] 30
 mp:IsG w (p+2) G
 bel:Below p w0 w
 e:p=w0.heap.size
theorem WoS.below {b:Int}(h:WoS w0 w p c b v G)(hb:Below w.heap.size w w'):WoS w0 w' p c b v G :=
 ⟨h.bx.below hb,h.bz.below hb,h.mp.below hb,h.bel.trans (hb.mono (by have:=h.bx.lt;omega)),h.e⟩
theorem WoS.put {b:Int}{G':List Int}(h:WoS w0 w p c b v G)(hm:Mod (fun i=>i=p+2) w w')(hg:IsG w' (p+2) G'):WoS w0 w' p c b v G' :=
 ⟨h.bx.mod hm (by omega),h.bz.mod hm (by omega),hg,h.bel.trans (hm.below (by have:=h.bx.lt;omega) (fun i hi=>by omega)),h.e⟩
theorem WoS.self {b:Int}(h:WoS w0 w p c b v G):Below w0.heap.size w0 w:=by have:=h.bel;rwa [h.e] at this
theorem jf1 (h:G.contains s.birth=true\/(g s=false/\xK G s=false)):xS g G s=G:=by
 unfold xS
 rcases h with h | ⟨h1,h2⟩
 . rw [h];rfl
 . rw [h1,h2,Bool.or_self,Bool.and_false];rfl
theorem jhh (h:G.contains s.birth=false)(h2:g s=true\/xK G s=true):xS g G s=G ++ [s.birth]:=by
 unfold xS
 rcases h2 with h2 | h2
 . rw [h,h2];rfl
 . rw [h,h2,Bool.or_true];rfl
theorem jj4 {k:Nat}(hk:k<l.length)(hs:s=l[k]):yE g G (l.take (k+1))=xS g (yE g G (l.take k)) s:=by
 rw [qk hk,jis,hs]
theorem jcZ {f:SesM->Bool}{k:Nat}(hk:k<l.length)(hs:s=l[k]):(l.take (k+1)).filter f=(l.take k).filter f++(if f s=true then [s] else []):=by
 rw [qk hk,List.filter_append,<- hs,List.filter_cons]
 rfl
theorem jjy {j:Nat}(h1:G=xE g l j)(h2:yE g G l=G):G=zu g l:=by
 subst h1;exact jgJ h2
theorem jaS (f:FuncId)(ca:Addr)(g:SesM->Bool)(st:StM)(v:Value)(w:World)(hv:RdS w v st.l)(hn:st.l.length<=1000000000)(hf:TestF f ca g w) :
  Calls prog 62 #[.agg #[st.clock,st.births,v],.func (.func f) #[] #[.pointer (some ca)]] w fun e w'=>∃ o,e=.returned (.agg #[st.clock,st.births,o])/\OwnS w' w.heap.size o (jB g st.l)/\Below w.heap.size w w':=by
 obtain ⟨c,b,l⟩:=st;simp only at hv hn |-;obtain ⟨a,cap,rfl,c7,d7⟩:=hv.slice;have HV:=qe hv;have HF:=qe hf;have d4:l.length<=9223372036854775807:=by omega
 obtain ⟨n,hN⟩:=Nm (l.length);rw [<- hN] at d4 HV c7 hn |-;have HN:=qe hN;have HNN:=qe hn;have hmm:=@run_makeMap prog;obtain ⟨p,hp⟩:=Nm (w.heap.size);have c8:WoS w (((w.alloc (.cells #[c,b,.slice a n cap] 30)).alloc (.cells #[(0:Int),(0:Int),.slice none 0 0] 30)).alloc (.map #[] 0)) p c b (.slice a n cap) []:=by
  have h1:=Box.new w #[c,b,.slice a n cap] 30;have h2:=Box.new (w.alloc (.cells #[c,b,.slice a n cap] 30)) #[(0:Int),(0:Int),.slice none 0 0] 30;have h3:=IsG.new ((w.alloc (.cells #[c,b,.slice a n cap] 30)).alloc (.cells #[(0:Int),(0:Int),.slice none 0 0] 30));rw [qj] at h2;rw [qj,qj] at h3;rw [<- hp] at h1 h2 h3;exact ⟨(h1.below (ja _ _)).below (ja _ _),h2.below (ja _ _),h3,by rw [hp];exact (jl w _ _).trans ((ja _ _).mono (jl w _ _).size),hp⟩
 have HW0:=qe c8;clear hv hf c7 hN hn c8;go_enter func62,ntmps62;go_wp2_with fail;generalize ((w.alloc (.cells #[c,b,.slice a n cap] 30)).alloc (.cells #[(0:Int),(0:Int),.slice none 0 0] 30)).alloc (.map #[] 0)=wi at HW0 |-;rw [<- hp];have HP:=qe hp;clear hp hmm
 go_loopg [6] (n+1) (fun gk mv wr=>∃ (G:List Int) (j:Nat) (more:Bool),mv=.bool more/\WoS w wr p c b (.slice a n cap) G/\Hid (G=xE g l j/\(if more=true then gk+G.length=n+1 else gk=0/\yE g G l=G)))
 case atStart=>exact ⟨[],0,true,rfl,HW0.out,qe ⟨rfl,rfl⟩⟩
 case round =>
  clear HW0;obtain ⟨G,j,more,rfl,a0,HG⟩:=hrel
  cases more
  rotate_left
  .
   obtain ⟨b3,a8⟩:=HG.out;rw [qf rfl] at a8;have c2:wr.cell? ⟨p,2,none⟩=some (.slice a n cap):=a0.bx.cell 2 _ rfl;have HWO:=qe a0;have HG1:=qe b3;have HG2:=qe a8;have HGO:=qe (show GoodG l G by rw [b3];exact GoodG.iter g l j)
   clear a0 b3 a8 HG;go_wp2_with fail;clear c2;obtain ⟨wo,a0⟩:∃ wo:World,wo=wr:=⟨_,rfl⟩;rw [<- a0] at HWO |-;clear a0
   go_loopg [6,23] n (fun gi mv iv wr=>∃ (k:Nat) (G':List Int) (m:Bool),gi+k=n/\mv=.bool m/\iv=.int .i64 (k:Int)/\WoS w wr p c b (.slice a n cap) G'/\Hid (G'=yE g G (l.take k)/\m=decide (G.length<G'.length)))
   case atStart=>exact ⟨0,G,false,rfl,rfl,rfl,HWO.out,qe ⟨rfl,(qv (Nat.lt_irrefl _)).symm⟩⟩
   case round =>
    clear HWO;obtain ⟨k,G',m,b5,rfl,rfl,a0,HGP⟩:=hrel;have k0:(0:Int)<=(k:Int):=by omega
    have HGI:=qe b5;have HB:=qe a0.self;have HWO:=qe a0;have hb:=a0.self;clear b5 a0;by_cases hk:k<n
    .
     have k1:(k:Int)<(n:Int):=by omega
     have a9:k<l.length:=by have:=HN.out;omega
     obtain ⟨s,hs⟩:=Nm (l[k]);obtain ⟨rb,ro,c3,a5⟩:=(HV.out.below hb).row k a9;subst c3;rw [<- hs] at a5;have HROW:=qe a5;have HST:=qe (jj4 (g:=g) (G:=G) a9 hs);have HK:=qe hk;have HGL:=qe (show G.length<=G'.length by rw [HGP.out.1];exact jhL _ _ _)
     clear a5 hs hk hb a9
     go_wp2_with (with_reducible refine Lk HROW.out underlying45 ?_)
     intro cv a1;have ecv:cv=s.cells:=by rw [a1.out]
     subst ecv;clear a1
     go_wp2_with (with_reducible refine Sz s.cells.toList (SesM.listS _) (SesM.oneS _) ?_)
     intro w2 b6;obtain ⟨a2,b0⟩:=uQ b6;have HWO2:=qe (HWO.out.below b0);have HPX:=qe a2;have d5:wr.heap.size<w2.heap.size:=a2.lt;have HQ:=qe (HWO.out.mp.lt:p+2<wr.heap.size);have q0:w2.cell? ⟨wr.heap.size,0,none⟩=some (.int .i64 s.slot):=a2.cell 0 _ rfl;have q1:w2.cell? ⟨wr.heap.size,1,none⟩=some (.int .i64 s.birth):=a2.cell 1 _ rfl;have q3:w2.cell? ⟨wr.heap.size,3,none⟩=some (.int .i64 s.upB):=a2.cell 3 _ rfl;have HRG:=qe (Box.rangeS a2);clear b6 a2 b0 d5 HB HROW HWO;generalize wr.heap.size=q at *
     go_wp2_with (at_lookup;refine uj rfl _ _ rfl _ _ rfl HWO2.out.mp s.upB rfl ?_)
     intro x1;have HUI:=qe (show xK G' s=(jjK G' s.upB&&s.upB != 0) from rfl)
     generalize jjK G' s.upB=u at HUI |-
     go_wp2_with (at_lookup;refine uj rfl _ _ rfl _ _ rfl HWO2.out.mp s.birth rfl ?_)
     intro x2;obtain ⟨th,c4⟩:=Nm (jjK G' s.birth);rw [<- c4];have HTH:=qe c4.symm;clear c4
     cases th
     rotate_left
     .
      have HTT:=qe (show G'.contains s.birth=true from HTH.out)
      have HNX:=qe (show yE g G (l.take (k+1))=G' by rw [HST.out,<- HGP.out.1];exact jf1 (.inl HTT.out))
      have HWF:=qe HWO2.out;clear HST HRG HPX;go_wp2
      go_roundg (n-(k+1))
      case measure=>have:=HGI.out;have:=HK.out;omega
      case rel=>exact ⟨k+1,G',m,by have:=HGI.out;have:=HK.out;omega,rfl,by go_num,HWF.out,qe ⟨HNX.out.symm,HGP.out.2⟩⟩
     go_wp2_with (with_reducible refine Lw HRG.out underlying45 ?_)
     intro cv a1;have ecv:cv=s.cells:=by rw [a1.out]
     subst ecv;clear a1;go_wp2_with fail;rw [HF.out.run,Oper.upon_enter];refine (HF.out.tells s w2 HWO2.out.self).mono ?_;rintro e w3 ⟨rfl,a3⟩;have HWO3:=qe (HWO2.out.below a3);have r0:w3.cell? ⟨q,0,none⟩=some (.int .i64 s.slot):=jc a3 q0;have r1:w3.cell? ⟨q,1,none⟩=some (.int .i64 s.birth):=jc a3 q1;have r3:w3.cell? ⟨q,3,none⟩=some (.int .i64 s.upB):=jc a3 q3;obtain ⟨r,hr⟩:=Nm (g s);rw [<- hr];have HGS:=qe hr.symm;clear hr;clear a3 q0 q1 q3 HWO2
     cases r
     rotate_left
     .
      have HGT:=qe (show g s=true from HGS.out)
      have HNX:=qe (show yE g G (l.take (k+1))=G' ++ [s.birth] by rw [HST.out,<- HGP.out.1];exact jhh HTH.out (.inl HGT.out))
      go_wp2_with (at_mapUpdate;refine jcC rfl _ _ _ rfl _ _ rfl HWO3.out.mp s.birth rfl HTH.out s.slot rfl ?_)
      intro w4 b7 b8;have HWF:=qe (HWO3.out.put b8 b7);clear b7 b8 HST;go_wp2
      go_roundg (n-(k+1))
      case measure=>have:=HGI.out;have:=HK.out;omega
      case rel=>exact ⟨k+1,G' ++ [s.birth],true,by have:=HGI.out;have:=HK.out;omega,rfl,by go_num,HWF.out,qe ⟨HNX.out.symm,(qz (by have:=HGL.out;rw [qd,qx];omega)).symm⟩⟩
     cases u
     .
      have HUF:=qe (show xK G' s=false by rw [HUI.out];rfl)
      have HNX:=qe (show yE g G (l.take (k+1))=G' by rw [HST.out,<- HGP.out.1];exact jf1 (.inr ⟨HGS.out,HUF.out⟩))
      have HWF:=qe HWO3.out;clear HST HRG HPX;go_wp2
      go_roundg (n-(k+1))
      case measure=>have:=HGI.out;have:=HK.out;omega
      case rel=>exact ⟨k+1,G',m,by have:=HGI.out;have:=HK.out;omega,rfl,by go_num,HWF.out,qe ⟨HNX.out.symm,HGP.out.2⟩⟩
     cases hz:(s.upB==0)
     rotate_left
     .
      have b1:(s.upB != 0)=false:=by rw [bne,hz];rfl
      have HUF:=qe (show xK G' s=false by rw [HUI.out,b1];rfl)
      have HNX:=qe (show yE g G (l.take (k+1))=G' by rw [HST.out,<- HGP.out.1];exact jf1 (.inr ⟨HGS.out,HUF.out⟩))
      have HWF:=qe HWO3.out;clear HST HRG HPX;go_wp2
      go_roundg (n-(k+1))
      case measure=>have:=HGI.out;have:=HK.out;omega
      case rel=>exact ⟨k+1,G',m,by have:=HGI.out;have:=HK.out;omega,rfl,by go_num,HWF.out,qe ⟨HNX.out.symm,HGP.out.2⟩⟩
     have b1:(s.upB != 0)=true:=by rw [bne,hz];rfl
     have HUF:=qe (show xK G' s=true by rw [HUI.out,b1];rfl)
     have HNX:=qe (show yE g G (l.take (k+1))=G' ++ [s.birth] by rw [HST.out,<- HGP.out.1];exact jhh HTH.out (.inr HUF.out))
     go_wp2_with (at_mapUpdate;refine jcC rfl _ _ _ rfl _ _ rfl HWO3.out.mp s.birth rfl HTH.out s.slot rfl ?_)
     intro w4 b7 b8;have HWF:=qe (HWO3.out.put b8 b7);clear b7 b8 HST;go_wp2
     go_roundg (n-(k+1))
     case measure=>have:=HGI.out;have:=HK.out;omega
     case rel=>exact ⟨k+1,G' ++ [s.birth],true,by have:=HGI.out;have:=HK.out;omega,rfl,by go_num,HWF.out,qe ⟨HNX.out.symm,(qz (by have:=HGL.out;rw [qd,qx];omega)).symm⟩⟩
    .
     have k1:¬ (k:Int)<(n:Int):=by omega
     have HGE:=qe (show G'=yE g G l/\m=decide (G.length<G'.length) by
      have h:=HGP.out;rw [ql (by have:=HN.out;omega)] at h
      exact h)
     have HLE:=qe (show G'.length<=n by
      have h1:=HGO.out.pass (goes:=g) (m:=l) (fun _ h=>h)
      have h2:=h1.le;rw [<- HGE.out.1] at h2;have:=HN.out;omega)
     have HLG:=qe (show G.length<=n by have:=HGO.out.le;have:=HN.out;omega)
     clear hk hb HB HGP HGI;go_wp2_with fail
     cases m
     .
      have HFX:=qe (show yE g G' l=G'/\G'=xE g l j by
       obtain ⟨h1,h2⟩:=HGE.out;have h3:G'=G:=by
        rcases ve g l G with h | h
        . rw [h1,h]
        . rw [<- h1] at h;exact absurd h (of_decide_eq_false h2.symm)
       rw [h3];rw [h3] at h1;exact ⟨h1.symm,HG1.out⟩)
      go_roundg 0
      case measure=>have:=HG2.out;have:=HLG.out;omega
      case rel=>exact ⟨G',j,false,rfl,HWO.out,qe ⟨HFX.out.2,by rw [qh (by decide)];exact ⟨rfl,HFX.out.1⟩⟩⟩
     .
      have HFX:=qe (show G.length<G'.length/\G'=xE g l (j+1) by
       obtain ⟨h1,h2⟩:=HGE.out;exact ⟨kz h2.symm,by rw [h1,HG1.out];rfl⟩)
      go_roundg (n+1-G'.length)
      case measure=>have:=HG2.out;have:=HLE.out;have:=HFX.out.1;omega
      case rel=>exact ⟨G',j+1,true,rfl,HWO.out,qe ⟨HFX.out.2,by rw [qf rfl];have:=HLE.out;omega⟩⟩
  obtain ⟨b3,a8⟩:=HG.out;rw [qh (by decide)] at a8
  have HCL:=qe (jjy b3 a8.2);have c2:wr.cell? ⟨p,2,none⟩=some (.slice a n cap):=a0.bx.cell 2 _ rfl;have HWO:=qe a0;have HWM:=qe (show jB g l=l.filter (fun s => !g s && !xK G s) by rw [HCL.out];rfl)
  clear a0 b3 a8 HG HCL;go_wp2_with fail;clear c2;obtain ⟨wo,a0⟩:∃ wo:World,wo=wr:=⟨_,rfl⟩;rw [<- a0] at HWO |-;clear a0;have HPW:=qe (show p+3<=wo.heap.size by have:=HWO.out.mp.lt;omega)
  go_loopg [13,67] n (fun gi ov iv wr=>∃ k:Nat,gi+k=n/\iv=.int .i64 (k:Int)/\OwnS wr (p+3) ov ((l.take k).filter (fun s => !g s && !xK G s))/\Below (p+3) wo wr)
  case atStart=>exact ⟨0,rfl,rfl,OwnS.nil _ _,qG _ _⟩
  case round =>
   obtain ⟨k,b5,rfl,c5,a7⟩:=hrel;have k0:(0:Int)<=(k:Int):=by omega
   have HGI:=qe b5;have hm:Mod (fun i=>p+3<=i) wo wr:=⟨a7.os,a7.tape,a7.output,a7.size,fun i _ hn=>a7.block i (by omega)⟩
   have c6:WoS w wr p c b (.slice a n cap) G:=⟨HWO.out.bx.mod hm (by omega),HWO.out.bz.mod hm (by omega),HWO.out.mp.mod hm (by omega),HWO.out.bel.trans (a7.mono (by omega)),HWO.out.e⟩
   have hb:=c6.self;have HWK:=qe c6;have HO:=qe c5;have HBL:=qe a7;clear b5 hm c6 c5 a7;by_cases hk:k<n
   .
    have k1:(k:Int)<(n:Int):=by omega
    have a9:k<l.length:=by have:=HN.out;omega
    obtain ⟨s,hs⟩:=Nm (l[k]);obtain ⟨rb,ro,c3,a5⟩:=(HV.out.below hb).row k a9;subst c3;rw [<- hs] at a5;have HROW:=qe a5;have HST:=qe (jcZ (f:=fun s => !g s && !xK G s) a9 hs)
    have HK:=qe hk;have HLK:=qe (show ((l.take k).filter (fun s => !g s && !xK G s)).length+1<=1256584717458 by
     have h1:=List.length_filter_le (fun s => !g s && !xK G s) (l.take k)
     rw [qr] at h1;have:=HNN.out;omega)
    clear a5 hs hk hb a9
    go_wp2_with (with_reducible refine Lk HROW.out underlying45 ?_)
    intro cv a1;have ecv:cv=s.cells:=by rw [a1.out]
    subst ecv;clear a1
    go_wp2_with (with_reducible refine Sz s.cells.toList (SesM.listS _) (SesM.oneS _) ?_)
    intro w2 b6;obtain ⟨a2,b0⟩:=uQ b6;have HWO2:=qe (HWK.out.below b0);have HO2:=qe (HO.out.below b0);have HBL2:=qe (HBL.out.trans (b0.mono (qi HPW.out HBL.out.size)));have q3:w2.cell? ⟨wr.heap.size,3,none⟩=some (.int .i64 s.upB):=a2.cell 3 _ rfl;have HRG:=qe (Box.rangeS a2);clear b6 a2 b0 HROW HWK HO HBL;generalize wr.heap.size=q at *
    go_wp2_with (at_lookup;refine uj rfl _ _ rfl _ _ rfl HWO2.out.mp s.upB rfl ?_)
    intro x1;have HUI:=qe (show xK G s=(jjK G s.upB&&s.upB != 0) from rfl)
    generalize jjK G s.upB=u at HUI |-
    go_wp2_with (with_reducible refine Lk HRG.out underlying45 ?_)
    intro cv a1;have ecv:cv=s.cells:=by rw [a1.out]
    subst ecv;clear a1;go_wp2_with fail;rw [HF.out.run,Oper.upon_enter];refine (HF.out.tells s w2 HWO2.out.self).mono ?_;rintro e w3 ⟨rfl,a3⟩;have HO3:=qe (HO2.out.below a3);have HPW2:=qe (qi HPW.out HBL2.out.size);have HBL3:=qe (HBL2.out.trans (a3.mono HPW2.out));have r3:w3.cell? ⟨q,3,none⟩=some (.int .i64 s.upB):=jc a3 q3;have HRG3:=qe (show w3.rangeAt q 0 s.cells.toList from fun j v hv=>jc a3 (HRG.out j v hv))
    obtain ⟨r,hr⟩:=Nm (g s);rw [<- hr];have HGS:=qe hr.symm;clear hr a3 q3 HWO2 HO2 HBL2 HRG
    cases r
    rotate_left
    .
     have HGT:=qe (show g s=true from HGS.out)
     have HNX:=qe (show (l.take (k+1)).filter (fun s => !g s && !xK G s)=(l.take k).filter (fun s => !g s && !xK G s) by rw [HST.out];rw [qh (by rw [HGT.out];simp)];exact qF _)
     clear HST;go_wp2
     go_roundg (n-(k+1))
     case measure=>have:=HGI.out;have:=HK.out;omega
     case rel=>exact ⟨k+1,by have:=HGI.out;have:=HK.out;omega,by go_num,by rw [HNX.out];exact HO3.out,HBL3.out⟩
    cases u
    .
     have HUF:=qe (show xK G s=false by rw [HUI.out];rfl)
     have HNX:=qe (show (l.take (k+1)).filter (fun s => !g s && !xK G s)=(l.take k).filter (fun s => !g s && !xK G s) ++ [s] by rw [HST.out];rw [qf (by rw [HGS.out,HUF.out];rfl)])
     clear HST;generalize (l.take k).filter (fun s => !g s && !xK G s)=L at HO3 HNX HLK
     go_wp2_with (with_reducible refine Lk HRG3.out underlying45 ?_)
     intro cv a1;have ecv:cv=s.cells:=by rw [a1.out]
     subst ecv;clear a1
     go_wp2_with (refine Bs (vL s w3) ?_)
     intro w4 b2;have a4:Below w3.heap.size w3 w4:=by rw [b2.out];exact ja _ _
     have HC4:=qe (show ∀ j u,s.cells.toList[j]?=some u->w4.cell? ((⟨w3.heap.size,0,none⟩:Addr).add j)=some u by rw [b2.out];exact xu w3 s _)
     have HO4:=qe (HO3.out.below a4);have HP3:=qe (show p+3<=w3.heap.size from qi HPW.out HBL3.out.size)
     have HBL4:=qe (HBL3.out.trans (a4.mono HP3.out));have HP4:=qe (qi HP3.out a4.size);clear b2 a4 HO3 HRG3
     go_wp2_with (at_builtin;refine jag rfl _ _ rfl (p+3) _ L rfl HO4.out ⟨w3.heap.size,0,none⟩ 1 s rfl HC4.out HLK.out HP4.out ?_)
     intro v' w5 a6 b9 _;have HBL5:=qe (HBL4.out.trans (je b9 HP4.out (fun q hq=>(HO4.out.lt q hq).1)))
     have HO5:=qe a6;clear b9 a6 HO4 HBL4 HC4;go_wp2
     go_roundg (n-(k+1))
     case measure=>have:=HGI.out;have:=HK.out;omega
     case rel=>exact ⟨k+1,by have:=HGI.out;have:=HK.out;omega,by go_num,by rw [HNX.out];exact HO5.out,HBL5.out⟩
    cases hz:(s.upB==0)
    rotate_left
    .
     have b1:(s.upB != 0)=false:=by rw [bne,hz];rfl
     have HUF:=qe (show xK G s=false by rw [HUI.out,b1];rfl)
     have HNX:=qe (show (l.take (k+1)).filter (fun s => !g s && !xK G s)=(l.take k).filter (fun s => !g s && !xK G s) ++ [s] by rw [HST.out];rw [qf (by rw [HGS.out,HUF.out];rfl)])
     clear HST;generalize (l.take k).filter (fun s => !g s && !xK G s)=L at HO3 HNX HLK
     go_wp2_with (with_reducible refine Lk HRG3.out underlying45 ?_)
     intro cv a1;have ecv:cv=s.cells:=by rw [a1.out]
     subst ecv;clear a1
     go_wp2_with (refine Bs (vL s w3) ?_)
     intro w4 b2;have a4:Below w3.heap.size w3 w4:=by rw [b2.out];exact ja _ _
     have HC4:=qe (show ∀ j u,s.cells.toList[j]?=some u->w4.cell? ((⟨w3.heap.size,0,none⟩:Addr).add j)=some u by rw [b2.out];exact xu w3 s _)
     have HO4:=qe (HO3.out.below a4);have HP3:=qe (show p+3<=w3.heap.size from qi HPW.out HBL3.out.size)
     have HBL4:=qe (HBL3.out.trans (a4.mono HP3.out));have HP4:=qe (qi HP3.out a4.size);clear b2 a4 HO3 HRG3
     go_wp2_with (at_builtin;refine jag rfl _ _ rfl (p+3) _ L rfl HO4.out ⟨w3.heap.size,0,none⟩ 1 s rfl HC4.out HLK.out HP4.out ?_)
     intro v' w5 a6 b9 _;have HBL5:=qe (HBL4.out.trans (je b9 HP4.out (fun q hq=>(HO4.out.lt q hq).1)))
     have HO5:=qe a6;clear b9 a6 HO4 HBL4 HC4;go_wp2
     go_roundg (n-(k+1))
     case measure=>have:=HGI.out;have:=HK.out;omega
     case rel=>exact ⟨k+1,by have:=HGI.out;have:=HK.out;omega,by go_num,by rw [HNX.out];exact HO5.out,HBL5.out⟩
    have b1:(s.upB != 0)=true:=by rw [bne,hz];rfl
    have HUF:=qe (show xK G s=true by rw [HUI.out,b1];rfl)
    have HNX:=qe (show (l.take (k+1)).filter (fun s => !g s && !xK G s)=(l.take k).filter (fun s => !g s && !xK G s) by rw [HST.out];rw [qh (by rw [HUF.out];simp)];exact qF _)
    clear HST;go_wp2
    go_roundg (n-(k+1))
    case measure=>have:=HGI.out;have:=HK.out;omega
    case rel=>exact ⟨k+1,by have:=HGI.out;have:=HK.out;omega,by go_num,by rw [HNX.out];exact HO3.out,HBL3.out⟩
   .
    have k1:¬ (k:Int)<(n:Int):=by omega
    have HOE:=qe (show OwnS wr (p+3) u13 (jB g l) by
     have h:=HO.out;rw [ql (by have:=HN.out;omega)] at h
     rw [HWM.out];exact h)
    obtain ⟨oa,oc,rfl,_⟩:=HOE.out.slice;have hx:=HWK.out.bx;have hz:=HWK.out.bz;obtain ⟨c0,c1,c2⟩:=C3 hx;have f2:=hx.free 2;obtain ⟨d0,g0,d1,g1,d2,g2⟩:=B3 hz;have HX:=qe hx;have HZ:=qe hz;have HB:=qe hb;have HPP:=qe (show p+3<=wr.heap.size by have:=HWK.out.mp.lt;omega)
    clear hk hb hx hz HO HGI;go_wp2_with fail;have d6:∀ (W:World),Mod (fun q=>q=p+1\/q=p) wr W->OwnS W w.heap.size (.slice oa (jB g l).length oc) (jB g l)/\Below w.heap.size w W:=fun W hm=>by
     have hp:=HP.out;refine ⟨(HOE.out.base (by omega)).mod hm (fun q hq e=>?_),HB.out.trans (hm.below HB.out.size (fun i hi=>by omega))⟩
     have:=(HOE.out.lt q hq).1;omega
    have b4:∀ (W:World) (q o:Nat) (v:Value),Mod (fun q=>q=p+1\/q=p) wr W->(q=p+1\/q=p)->Mod (fun q=>q=p+1\/q=p) wr (W.setCell ⟨q,o,none⟩ v):=fun W q o v h hq=>h.trans (Mod.set _ _ _ _ hq)
    have d3:=d6 ((((wr.setCell ⟨p,2,none⟩ (.slice oa (jB g l).length oc)).setCell ⟨p+1,0,none⟩ c).setCell ⟨p+1,1,none⟩ b).setCell ⟨p+1,2,none⟩ (.slice oa (jB g l).length oc)) (b4 _ _ _ _ (b4 _ _ _ _ (b4 _ _ _ _ (b4 _ _ _ _ (Mod.refl _ _) (.inr rfl)) (.inl rfl)) (.inl rfl)) (.inl rfl));refine Jc ?_ underlying30 ⟨_,rfl,d3⟩ (cs := [.int .i64 c,.int .i64 b,.slice oa (jB g l).length oc]);have a4:Box ((((wr.setCell ⟨p,2,none⟩ (.slice oa (jB g l).length oc)).setCell ⟨p+1,0,none⟩ c).setCell ⟨p+1,1,none⟩ b).setCell ⟨p+1,2,none⟩ (.slice oa (jB g l).length oc)) (p+1) #[c,b,.slice oa (jB g l).length oc] 30:=by
     have h:=(((HZ.out.set_other (p:=⟨p,2,none⟩) (by simp) (.slice oa (jB g l).length oc)).set 0 c).set 1 b).set 2 (.slice oa (jB g l).length oc)
     exact h
    intro j v hv;rw [qA];exact a4.cell j v (by simpa using hv)
end Go.Proofs.YtgcnolapjppbpaaGreatDoor
