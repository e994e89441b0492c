/- Texts of one proof. -/
import Derived.Test.YtgcnolapjppbpaaGreatDoorK16
import Derived.Test.YtgcnolapjppbpaaGreatDoorK21
import Derived.Test.YtgcnolapjppbpaaGreatDoorK18
namespace Go.Proofs.YtgcnolapjppbpaaGreatDoor
open Go.RowKit _root_.Go.Proofs.Tryz
set_option maxRecDepth 100000
set_option maxHeartbeats 25600000
variable {l:List SesM}{k:Int}
theorem jbe (k:Int):∀ a b:List SesM,yh k (a++b)=(yh k a).or (yh k b)
 | [],b=>rfl
 | y::a,b=>by
  show (if y.birth=k then some y else yh k (a++b))=(if y.birth=k then some y else yh k a).or _
  split
  . rfl
  . exact jbe k a b
theorem jkO {i:Nat}(hi:i<l.length)(h:yh k (l.take i)=none)(hk:l[i].birth=k):yh k l=some l[i]:=by
 have e:l=l.take i++(l[i]::l.drop (i+1)):=by rw [List.getElem_cons_drop,qU]
 have e2:yh k l=yh k (l.take i++(l[i]::l.drop (i+1))):=congrArg _ e;rw [e2,jbe,h,Option.none_or];simp only [yh];rw [qf hk]
theorem jiJ {i:Nat}(hi:i<l.length)(h:yh k (l.take i)=none)(hk:l[i].birth≠k):yh k (l.take (i+1))=none:=by
 rw [qk hi,jbe,h,Option.none_or];simp only [yh];rw [qh hk]
theorem jfp :∀ {l:List SesM} {p:SesM},yh k l=some p->p∈l/\p.birth=k
 | [],p,h=>by cases h
 | x::l,p,h=>by
  unfold yh at h
  split at h
  .
   rename_i hx
   injection h with h;subst h;exact ⟨by simp,hx⟩
  . obtain ⟨h1,h2⟩:=jfp h;exact ⟨by simp [h1],h2⟩
theorem jj2:Hid (uC.cells=uC.cells.toList.toArray):=qe rfl
theorem jaM (c b:Int)(v:Value)(l:List SesM)(kk:Int)(w:World)(hv:RdS w v l) :
  Calls prog 150 #[.agg #[c,b,v],kk] w fun e w'=>e=.returned (.tuple #[.agg ((yh kk l).getD uC).cells,.bool (yh kk l).isSome])/\Below w.heap.size w w':=by
 obtain ⟨a,cap,rfl,a5,b0⟩:=hv.slice;have a8:l.length<=9223372036854775807:=by omega
 obtain ⟨n,hN⟩:=Nm (l.length);have HB:=qe (jl w (.cells #[c,b,.slice a n cap] 30) (.cells #[(0:Int),(0:Int),(0:Int),(0:Int),(0:Int),.string ⟨#[]⟩,.string ⟨#[]⟩,.int .u64 0,(0:Int),(0:Int),(0:Int),(0:Int)] 45));have HX0:=qe ((Box.new w #[c,b,.slice a n cap] 30).below (ja _ (.cells #[(0:Int),(0:Int),(0:Int),(0:Int),(0:Int),.string ⟨#[]⟩,.string ⟨#[]⟩,.int .u64 0,(0:Int),(0:Int),(0:Int),(0:Int)] 45)));have hz:=Box.new (w.alloc (.cells #[c,b,.slice a n cap] 30)) uC.cells 45;rw [qj,show uC.cells=#[.int .i64 0,.int .i64 0,.int .i64 0,.int .i64 0,.int .i64 0,.string ⟨#[]⟩,.string ⟨#[]⟩,.int .u64 0,.int .i64 0,.int .i64 0,.int .i64 0,.int .i64 0] from rfl] at hz
 have HZ:=qe hz;rw [<- hN] at a8 hv a5 |-;have HN:=qe hN;have HV:=qe (hv.below HB.out);clear hv a5 hN hz;go_enter func150,ntmps150;go_wp2_with fail;generalize hw1:World.alloc _ _=w1 at HB HX0 HZ HV |-;clear hw1;obtain ⟨p,hp⟩:=Nm (w.heap.size);rw [<- hp] at HX0 HZ |-;have HP:=qe hp;clear hp
 go_loopg [6] n (fun gk iv wr=>∃ k:Nat,gk+k=n/\iv=.int .i64 (k:Int)/\wr=w1/\Hid (yh kk (l.take k)=none))
 case atStart=>exact ⟨0,rfl,rfl,rfl,qe rfl⟩
 case round =>
  obtain ⟨k,a6,rfl,rfl,HT⟩:=hrel;have k0:(0:Int)<=(k:Int):=by omega
  have HGK:=qe a6;have c2:wr.cell? ⟨p,2,none⟩=some (.slice a n cap):=HX0.out.cell 2 _ rfl;clear a6;by_cases hk:k<n
  .
   have k1:(k:Int)<(n:Int):=by omega
   have a3:k<l.length:=by have:=HN.out;omega
   obtain ⟨s,hs⟩:=Nm (l[k]);obtain ⟨rb,ro,a9,a2⟩:=HV.out.row k a3;subst a9;rw [<- hs] at a2;have HROW:=qe a2;have r1:wr.cell? ⟨rb,ro+k*12+1,none⟩=some (.int .i64 s.birth):=a2 1 _ rfl;have HK:=qe hk;clear a2 hk
   cases e1:(s.birth==kk)
   .
    have HT2:=qe (jiJ a3 HT.out (fun e=>by rw [<- hs] at e;rw [e] at e1;simp at e1))
    clear HT hs a3;go_wp2
    go_roundg (n-(k+1))
    case measure=>have:=HGK.out;have:=HK.out;omega
    case rel=>exact ⟨k+1,by have:=HGK.out;have:=HK.out;omega,by go_num,rfl,HT2⟩
   .
    have HF:=qe (show yh kk l=some s by rw [hs];exact jkO a3 HT.out (by rw [<- hs];exact qK.1 e1))
    obtain ⟨a0,a4⟩:=(show Box wr (p+1) uC.cells 45 from HZ.out).setAllS rfl s
    have HSE:=qe a0;have HTH:=qe a4;clear HT hs a3 a0 a4
    go_wp2_with (with_reducible refine Lk HROW.out underlying45 ?_)
    intro cv a7
    go_wp2_with (with_reducible refine Sk s.cells.toList a7 HTH.out (SesM.oneS _) ?_)
    intro w2 a1;rw [<- a1.out] at HSE;have HB2:=qe (show Below w.heap.size w w2 by
     rw [a1.out];generalize s.cells.toList=L;exact HB.out.trans ((Mod.setCells (fun q=>q=p+1) (p+1) rfl L 0 wr).below HB.out.size (fun i hi=>by have:=HP.out;omega)))
    clear a1 a7 HTH HB HX0 HZ HV HROW r1 c2 e1;go_wp2;exact Jt (Box.rangeS HSE.out) underlying45 ⟨by rw [HF.out] <;> rfl,HB2.out⟩
  .
   have k1:¬ (k:Int)<(n:Int):=by omega
   have HF:=qe (show yh kk l=none by
    have h:=HT.out
    rwa [ql (by have:=HN.out;omega)] at h)
   obtain ⟨a0,a4⟩:=(show Box wr (p+1) uC.cells 45 from HZ.out).setAllS rfl uC
   have HSE:=qe a0;have HTH:=qe a4;clear HT hk a0 a4
   go_wp2_with (with_reducible refine Sk uC.cells.toList jj2 HTH.out (SesM.oneS _) ?_)
   intro w2 a1;rw [<- a1.out] at HSE;have HB2:=qe (show Below w.heap.size w w2 by
    rw [a1.out];generalize uC.cells.toList=L;exact HB.out.trans ((Mod.setCells (fun q=>q=p+1) (p+1) rfl L 0 wr).below HB.out.size (fun i hi=>by have:=HP.out;omega)))
   clear a1 HTH HB HX0 HZ HV c2;go_wp2;exact Jt (Box.rangeS HSE.out) underlying45 ⟨by rw [HF.out] <;> rfl,HB2.out⟩
theorem jeL (s p:SesM)(w:World)(hk:s.kind=1\/s.kind=2)(a3:s.scopes<2 ^ 64)(a4:p.scopes<2 ^ 64) :
  Calls prog 173 #[.agg s.cells,.agg p.cells] w fun e w'=>e=.returned (.bool (zI s p))/\Below w.heap.size w w':=by
 have B:=Hd (fun o o2=>jl w o o2)
 obtain ⟨D,hD⟩:∃ D,IntKind.i64.wrap (p.depth+1)=D:=⟨_,rfl⟩;obtain ⟨lv,a0⟩:=Nm ((if s.kind=2 then decide (p.level<s.level) else s.level==p.level))
 have A:=Hd (show zI s p=((s.depth==D)&&((s.user==p.user)&&(vh s.scopes p.scopes&&(decide (s.deadline<=p.deadline)&&lv)))) by unfold zI;rw [hD,a0])
 have I:=Hd (fun w=>jdd s.scopes p.scopes w a3 a4)
 have E:=Hd a0;have L:=Hd hk;clear a0 hk a3 a4;generalize zI s p=ft at A |-;have J:=Hd s.cellsE;have K:=Hd p.cellsE;rw [J.1,K.1];clear J K;go_enter func173,ntmps173
 cases h2:(s.depth==D)
 .
  have a6:(s.depth != D)=true:=by rw [bne,h2];rfl
  go_wp2;go_ret;exact ⟨by rw [A.1,h2];rfl,B.1 _ _⟩
 have a6:(s.depth != D)=false:=by rw [bne,h2];rfl
 cases h3:(s.user==p.user)
 .
  have a1:((SB s.user).toList==(SB p.user).toList)=false:=by rw [jh,jh];exact h3
  have a5:((SB s.user).toList != (SB p.user).toList)=true:=by rw [bne,a1];rfl
  go_wp2;go_ret;exact ⟨by rw [A.1,h2,h3];rfl,B.1 _ _⟩
 have a1:((SB s.user).toList==(SB p.user).toList)=true:=by rw [jh,jh];exact h3
 have a5:((SB s.user).toList != (SB p.user).toList)=false:=by rw [bne,a1];rfl
 go_wp2_with fail;refine (I.1 _).mono ?_;rintro e w4 ⟨rfl,rfl⟩;have H:=Hd (And.intro h2 h3);clear h2 h3 I;generalize vh s.scopes p.scopes=sc at A |-
 cases sc
 .
  go_wp2;go_ret;exact ⟨by rw [A.1,H.1.1,H.1.2];rfl,B.1 _ _⟩
 by_cases h4:s.deadline<=p.deadline
 rotate_left
 .
  have n4:p.deadline<s.deadline:=by omega
  have F:=Hd (qv h4);clear h4;go_wp2;go_ret;exact ⟨by rw [A.1,H.1.1,H.1.2,F.1];rfl,B.1 _ _⟩
 have n4:¬ p.deadline<s.deadline:=by omega
 have F:=Hd (qz h4);clear h4
 cases hk1:(s.kind==1)
 rotate_left
 .
  have a2:(s.kind==2)=false:=by rw [qK.1 hk1];rfl
  cases hle:(s.level==p.level)
  .
   have C:=Hd (show lv=false by rw [E.1,qh (by rw [qK.1 hk1];decide)];exact hle)
   go_wp2;go_ret;exact ⟨by rw [A.1,H.1.1,H.1.2,F.1,C.1];rfl,B.1 _ _⟩
  .
   have C:=Hd (show lv=true by rw [E.1,qh (by rw [qK.1 hk1];decide)];exact hle)
   go_wp2;go_ret;exact ⟨by rw [A.1,H.1.1,H.1.2,F.1,C.1];rfl,B.1 _ _⟩
 have a2:(s.kind==2)=true:=by
  rcases L.1 with e | e
  . rw [e] at hk1;cases hk1
  . rw [e];rfl
 by_cases hlt:p.level<s.level
 .
  have C:=Hd (show lv=true by rw [E.1,qf (qK.1 a2)];exact qz hlt)
  have G:=Hd (qz hlt);go_wp2;go_ret;exact ⟨by rw [A.1,H.1.1,H.1.2,F.1,C.1];first | rfl | (show Ending.returned (Value.bool (decide (p.level<s.level)))=_;rw [G.1];rfl),B.1 _ _⟩
 .
  have C:=Hd (show lv=false by rw [E.1,qf (qK.1 a2)];exact qv hlt)
  have G:=Hd (qv hlt);go_wp2;go_ret;exact ⟨by rw [A.1,H.1.1,H.1.2,F.1,C.1];first | rfl | (show Ending.returned (Value.bool (decide (p.level<s.level)))=_;rw [G.1];rfl),B.1 _ _⟩
theorem jke {s:SesM}(h:jG s=true)(hu:s.upB≠0):s.kind=1\/s.kind=2:=by
 unfold jG at h;simp only [qq] at h;obtain ⟨h1,h2,h3,h4,h5,h6,h7⟩:=h
 split at h7
 .
  unfold jE at h7;simp only [qq,qK] at h7;exact absurd h7.2.1 hu
 split at h7
 . rename_i hk;left;simpa using hk
 split at h7
 . rename_i hk;right;simpa using hk
 . cases h7
theorem jc3 (st:StM)(s:SesM)(v:Value)(w:World)(hv:RdS w v st.l)(hs:jG s=true)(a9:s.scopes<2 ^ 64)(ho:∀ x∈st.l,x.scopes<2 ^ 64) :
  Calls prog 149 #[.agg #[st.clock,st.births,v],.agg s.cells] w fun e w'=>e=.returned (uR st s)/\Below w.heap.size w w':=by
 obtain ⟨E,hE⟩:=Nm (uR st s);rw [<- hE];unfold uR at hE;obtain ⟨c,b,l⟩:=st;simp only at hv hE ho |-;have HKD:=qe (fun hu=>jke hs hu)
 have HSS:=qe a9;have HOS:=qe ho;obtain ⟨a,cap,rfl,b0,b6⟩:=hv.slice;have b4:l.length<=9223372036854775807:=by omega
 have HFI:=qe (fun w' hb=>jaM c b (.slice a l.length cap) l s.upB w' (hv.below hb))
 obtain ⟨n,hN⟩:=Nm (l.length);rw [<- hN] at b4 hv b0 hE HFI |-;have HN:=qe hN;obtain ⟨W,hW⟩:∃ W,IntKind.i64.wrap (b+1)=W:=⟨_,rfl⟩;rw [hW] at hE;have HE:=qe hE;have HB:=qe (jl w (.cells #[c,b,.slice a n cap] 30) (.cells s.cells 45));have HX0:=qe ((Box.new w #[c,b,.slice a n cap] 30).below (ja _ (.cells s.cells 45)));have a4:=Box.new (w.alloc (.cells #[c,b,.slice a n cap] 30)) s.cells 45;rw [qj] at a4;have HX1:=qe a4;have HV:=qe (hv.below HB.out);clear hv b0 hN hE a4 hs a9 ho;rw [s.cellsE];rw [show ((w.alloc (.cells #[c,b,.slice a n cap] 30)).alloc (.cells s.cells 45))=((w.alloc (.cells #[c,b,.slice a n cap] 30)).alloc (.cells #[s.slot,s.birth,s.upS,s.upB,s.kind,.string (SB s.user),.string (SB s.label),.int .u64 (s.scopes:Int),s.level,s.born,s.deadline,s.depth] 45)) from rfl] at HB HX0 HX1 HV
 go_enter func149,ntmps149;by_cases h1:s.birth=W;rotate_left
 .
  have H1:=qe h1;have n1:(s.birth != W)=true:=by rw [wl];exact h1
  clear h1;go_wp2;go_ret;exact ⟨by rw [HE.out,qh H1.out];rfl,HB.out⟩
 have n1:(s.birth != W)=false:=by rw [wL];exact h1
 have HE1:=qe (HE.out.trans (qf h1));clear h1 HE;by_cases h2:s.born=c;rotate_left
 .
  have H2:=qe h2;have n2:(s.born != c)=true:=by rw [wl];exact h2
  clear h2;go_wp2;go_ret;exact ⟨by rw [HE1.out,qh H2.out];rfl,HB.out⟩
 have n2:(s.born != c)=false:=by rw [wL];exact h2
 have HE2:=qe (HE1.out.trans (qf h2));clear h2 HE1;by_cases h3:32<=n
 .
  have H3:=qe h3;have n3:(32:Int)<=(n:Int):=by omega
  clear h3;go_wp2;go_ret;exact ⟨by rw [HE2.out,qf H3.out];rfl,HB.out⟩
 have n3:¬ (32:Int)<=(n:Int):=by omega
 have HE3:=qe (HE2.out.trans (qh h3));clear h3 HE2;go_wp2_with fail;clear n1 n2 n3 hW;generalize hw1:World.alloc _ _=w1 at HB HX0 HX1 HV |-;clear hw1;obtain ⟨p,hp⟩:=Nm (w.heap.size);rw [<- hp] at HX0 HX1 |-;have HP:=qe hp;clear hp
 go_loopg [5] n (fun gk iv wr=>∃ k:Nat,gk+k=n/\iv=.int .i64 (k:Int)/\Below w1.heap.size w1 wr/\Hid ((l.take k).any (fun y=>y.slot==s.slot)=false))
 case atStart=>exact ⟨0,rfl,rfl,qG _ _,qe rfl⟩
 case round =>
  obtain ⟨k,b1,rfl,a5,HAN⟩:=hrel;have k0:(0:Int)<=(k:Int):=by omega
  have HGK:=qe b1;have HBL:=qe a5;have c2:wr.cell? ⟨p,2,none⟩=some (.slice a n cap):=(HX0.out.below a5).cell 2 _ rfl;clear b1 a5;by_cases hk:k<n
  .
   have k1:(k:Int)<(n:Int):=by omega
   have a6:k<l.length:=by have:=HN.out;omega
   obtain ⟨x,hx⟩:=Nm (l[k]);obtain ⟨rb,ro,b5,a3⟩:=(HV.out.below HBL.out).row k a6;subst b5;rw [<- hx] at a3;have r0:wr.cell? ⟨rb,ro+k*12,none⟩=some (.int .i64 x.slot):=a3 0 _ rfl;have s0:wr.cell? ⟨p+1,0,none⟩=some (.int .i64 s.slot):=(HX1.out.below HBL.out).cell 0 _ rfl;have HST:=qe (jgP (s:=s) a6 hx);have HSA:=qe (show (x.slot==s.slot)=true->l.any (fun y=>y.slot==s.slot)=true from fun h=>by rw [kl];exact ⟨x,by rw [hx];exact qy _,h⟩)
   have HK:=qe hk;clear a3 hx hk a6;go_wp2
   go_quiet (fail)
   have HB2:=qe (HBL.out.trans ((jD wr nq).mono HBL.out.size))
   cases hsl:(x.slot==s.slot)
   rotate_left
   .
    have HT:=qe (HSA.out hsl);clear HST HSA r0 s0 c2;go_wp2;go_ret;exact ⟨by rw [HE3.out,qf HT.out];rfl,HB.out.trans (HB2.out.mono HB.out.size)⟩
   have HA2:=qe (show (l.take (k+1)).any (fun y=>y.slot==s.slot)=false by rw [HST.out,HAN.out,hsl];rfl)
   clear HST HSA HAN r0 s0 c2;go_wp2
   go_roundg (n-(k+1))
   case measure=>have:=HGK.out;have:=HK.out;omega
   case rel=>exact ⟨k+1,by have:=HGK.out;have:=HK.out;omega,by go_num,HB2.out,HA2⟩
  .
   have k1:¬ (k:Int)<(n:Int):=by omega
   have b2:l.take k=l:=ql (by have:=HN.out;omega)
   have HE4:=qe (show E=upM s l by
    have h:=HAN.out;rw [b2] at h;rw [HE3.out,qh (by rw [h];decide)])
   have HX0:=qe (HX0.out.below HBL.out);have HX1:=qe (HX1.out.below HBL.out);have HBW:=qe (HB.out.trans (HBL.out.mono HB.out.size));have s3:wr.cell? ⟨p+1,3,none⟩=some (.int .i64 s.upB):=HX1.out.cell 3 _ rfl;have c0:wr.cell? ⟨p,0,none⟩=some (.int .i64 c):=HX0.out.cell 0 _ rfl;have c1:wr.cell? ⟨p,1,none⟩=some (.int .i64 b):=HX0.out.cell 1 _ rfl;clear hk b2 HAN HE3 HGK HB HBL
   cases h0:(s.upB==0)
   rotate_left
   .
    have H0:=qe (show s.upB=0 from qK.1 h0)
    go_wp2;go_ret;exact ⟨by rw [HE4.out];unfold upM;rw [qf H0.out];rfl,HBW.out⟩
   have HE5:=qe (show E=(match yh s.upB l with | none=>16 | some p=>if p.slot=s.upS then (if zI s p=true then 0 else 24) else 16) by
    rw [HE4.out];unfold upM;rw [qh (fun e=>by rw [e] at h0;cases h0)];rfl)
   have HKK:=qe (HKD.out (fun e=>by rw [e] at h0;cases h0))
   clear HE4 HKD;go_wp2_with fail;refine (HFI.out _ HBW.out).mono ?_;rintro ev w3 ⟨rfl,a7⟩;have HX3:=qe (HX1.out.below a7);have HBW3:=qe (HBW.out.trans (a7.mono HBW.out.size));clear a7 HX0 HX1 HBW s3 c0 c1 c2 h0 HFI
   cases hf:yh s.upB l with
    | none =>
     rw [hf] at HE5;have HE6:=HE5;rw [show ((none:Option SesM).getD uC)=uC from rfl,show (none:Option SesM).isSome=false from rfl]
     clear hf HE5
     go_wp2_with (with_reducible refine Sz uC.cells.toList (SesM.listS _) (SesM.oneS _) ?_)
     intro w4 a1;obtain ⟨_,a0⟩:=uQ a1;have HBW4:=qe (HBW3.out.trans (a0.mono HBW3.out.size));clear a1 a0 HBW3;go_wp2;go_ret;exact ⟨by rw [HE6.out];rfl,HBW4.out⟩
    | some y =>
     rw [hf] at HE5;have HE6:=qe (show E=(if y.slot=s.upS then (if zI s y=true then 0 else 24) else 16) from HE5.out)
     have HYS:=qe (HOS.out y (jfp hf).1);rw [show ((some y:Option SesM).getD uC)=y from rfl,show (some y:Option SesM).isSome=true from rfl]
     clear hf HE5
     go_wp2_with (with_reducible refine Sz y.cells.toList (SesM.listS _) (SesM.oneS _) ?_)
     intro w4 a1;obtain ⟨a8,a0⟩:=uQ a1;have HX4:=qe (HX3.out.below a0);have HBW4:=qe (HBW3.out.trans (a0.mono HBW3.out.size));have y0:w4.cell? ⟨w3.heap.size,0,none⟩=some (.int .i64 y.slot):=a8.cell 0 _ rfl;have s2:w4.cell? ⟨p+1,2,none⟩=some (.int .i64 s.upS):=HX4.out.cell 2 _ rfl;have HRY:=qe (Box.rangeS a8);have HRS:=qe (Box.rangeS HX4.out);clear a1 a8 a0 HX3 HBW3;by_cases h1:y.slot=s.upS;rotate_left
     .
      have H1:=qe h1;have n1:(y.slot != s.upS)=true:=by rw [wl];exact h1
      clear h1;go_wp2;go_ret;exact ⟨by rw [HE6.out,qh H1.out];rfl,HBW4.out⟩
     have n1:(y.slot != s.upS)=false:=by rw [wL];exact h1
     have HE7:=qe (HE6.out.trans (qf h1));have HFT:=qe (fun w=>jeL s y w HKK.out HSS.out HYS.out)
     clear h1 HE6
     go_wp2_with (with_reducible refine Lk HRS.out underlying45 ?_)
     intro cv a2;have ecv:cv=s.cells:=by rw [a2.out]
     subst ecv;clear a2
     go_wp2_with (with_reducible refine Lk HRY.out underlying45 ?_)
     intro cv a2;have ecv:cv=y.cells:=by rw [a2.out]
     subst ecv;clear a2;go_wp2_with fail;refine (HFT.out _).mono ?_;rintro ev w5 ⟨rfl,b3⟩;have HBW5:=qe (HBW4.out.trans (b3.mono HBW4.out.size));generalize zI s y=ft at HE7 |-;clear b3 HFT HBW4 y0 s2 HRY HRS HX4
     cases ft
     .
      go_wp2;go_ret;exact ⟨by rw [HE7.out];rfl,HBW5.out⟩
     .
      go_wp2;go_ret;exact ⟨by rw [HE7.out];rfl,HBW5.out⟩
theorem jic:(prog.info? 4).map (fun i=>(i.zero,i.size,i.bytes))=some (some (.bool false),1,1):=by kernel_rfl
theorem ji9 {op:Oper}{a:Act}{w:World}{K:Act->World->Prop}{Q:Exit->Act->World->Prop}(s x:Operand)(ho:op.op=.call { callee:=.builtin .append,args:=#[s,x],argTypes:=#[277,277] })(base:Nat)(v:Value)(g:List Bool)(hs:a.eval s=v)(a1:OwnB w base v g)(nb c:Nat)(y:Bool)(hx:a.eval x=.slice (some ⟨nb,0,none⟩) 1 c)(hy:w.cell? ⟨nb,0,none⟩=some (.bool y))(a5:g.length+1<=1256584717458)(a0:base<=w.heap.size)(h:∀ v' w',OwnB w' base v' (g ++ [y])->w.grownBy w' v.ownBlock->K (a.put op.dst v') w'):op.wp prog a w K Q:=by
 obtain ⟨i0,hi,a2,a3,a4⟩:=wI jic;obtain ⟨v',w',hr,h2,h3,_⟩:=xX (P:=prog) w base 277 op.type 4 i0 _ 1 1 underlying277 hi a2 a3 a4 rfl (by decide) v g.length (g.map Value.bool) a1 ⟨nb,0,none⟩ 1 c [.bool y] rfl (fun j u hj=>by
  cases j with
  | zero=>simp at hj;subst hj;exact hy
  | succ j=>simp at hj) (by simp [Value.oneCell']) (by unfold maxLen;omega) (by omega) a0
 unfold Oper.wp execOp;simp only [ho,resolve,invoke,builtin,wu,wB,qR,wV,wK,pF,hs,hx,hr];refine h v' w' ?_ h3;unfold OwnB;rw [qd,qM];exact h2
theorem OwnB.nil (w:World)(base:Nat):OwnB w base (.slice none 0 0) []:=⟨rfl,.inl ⟨rfl,rfl⟩⟩
theorem jh3 {goes:SesM->Bool}:WInv goes l (l.map goes):=by
 have a0:∀ i (hi:i<l.length),gat (l.map goes) i=goes l[i]:=fun i hi=>by
  unfold gat;rw [List.getD,List.getElem?_map,List.getElem?_eq_getElem hi];rfl
 exact ⟨qE _,fun i hi h=>by rw [a0 i hi];exact h,fun i hi h=>.one (qy _) (by rw [<- a0 i hi];exact h)⟩
theorem jhZ {goes:SesM->Bool}{k:Nat}(hk:k<l.length):(l.take (k+1)).map goes=(l.take k).map goes ++ [goes l[k]]:=by
 rw [qk hk,qM];rfl
theorem jhC (k:Int):∀ l:List SesM,(yh k l).isSome=l.any (fun s=>s.birth==k)
 | []=>rfl
 | x::l=>by
  simp only [yh,List.any_cons];by_cases h:x.birth=k
  . rw [qf h];simp [h]
  .
   rw [qh h,jhC k l];have:(x.birth==k)=false:=by rw [qD];exact h
   rw [this,pZ]
theorem jig {e:EvtM}(h:jM e=true)(k0:(e.kind==0)=false)(k1:(e.kind==1)=false):1<=e.ticks/\e.ticks<=1073741824:=by
 unfold jM at h;rw [k0,k1] at h
 cases k2:(e.kind==2)
 . rw [k2] at h;simp at h
 .
  rw [k2] at h;simp only [pB,qq,wH,ks] at h;exact jV h.2.2
theorem ApS.mod3 {w0 w w':World}{p:Nat}{c b:Int}{v:Value}{e:EvtM}(h:ApS w0 w p c b v e l)(hm:Mod (fun i=>p+3<=i) w w')(a1:RdS w0 v l):ApS w0 w' p c b v e l:=by
 have a0:=h.bel.trans (hm.below (by have:=h.bx.lt;omega) (fun i hi=>by omega))
 exact ⟨h.bx.mod hm (by omega),h.be.mod hm (by omega),h.bz.mod hm (by omega),a1.below (by have h2:=a0;rw [h.e0] at h2;exact h2),a0,h.e0⟩
theorem jd7 (st:StM)(e:EvtM)(v:Value)(w:World)(hv:RdS w v st.l)(hn:st.l.length<=1000000000)(hu:e.s.user.length<=9223372036854775807)(hl:e.s.label.length<=9223372036854775807)(e6:e.s.scopes<2 ^ 64)(ho:∀ x∈st.l,x.scopes<2 ^ 64) :
  Calls prog 109 #[.agg #[st.clock,st.births,v],.agg e.cells] w fun ev w'=>∃ o,ev=.returned (.tuple #[.agg #[.int .i64 (jt st e).2.clock,.int .i64 (jt st e).2.births,o],.int .i64 (jt st e).1])/\OwnS w' w.heap.size o (jt st e).2.l/\Below w.heap.size w w':=by
 have Hq:=Hd (fun w=>uz e w hu hl)
 obtain ⟨D,hD⟩:=Nm (jt st e);rw [<- hD];unfold jt at hD;have H4:=Hd (fun v' w' h hs=>jc3 st e.s v' w' h hs e6 ho)
 have Hc:=Hd (fun goes v' gv g base w' h1 h2 h3 h4=>jcm goes st v' gv g base w' h1 h2 h3 h4 hn)
 have H5:=Hd hn;obtain ⟨c,b,l⟩:=st;simp only at hv hD H4 H5 Hc |-;have N:=Hd hv;have He:=Hd (fun v' w' h=>jaM c b v' l e.birth w' h)
 have e7:l.length<=1256584717457:=by have:=H5.1;omega
 have Hf:=Hd (fun v' w' h=>uH c b v' l w' h e7)
 obtain ⟨a,cap,rfl,f8,g2⟩:=hv.slice;have f9:l.length<=9223372036854775807:=by omega
 have HD:=Hd hD;clear hD f8 hn hu hl e6 ho e7;have Hr:=Hd e.cellsE;have d6:ApS w (((w.alloc (.cells #[c,b,.slice a l.length cap] 30)).alloc (.cells e.cells 47)).alloc (.cells #[(0:Int),(0:Int),.slice none 0 0] 30)) w.heap.size c b (.slice a l.length cap) e l:=by
  have h1:=Box.new w #[c,b,.slice a l.length cap] 30;have h2:=Box.new (w.alloc (.cells #[c,b,.slice a l.length cap] 30)) e.cells 47;have h3:=Box.new ((w.alloc (.cells #[c,b,.slice a l.length cap] 30)).alloc (.cells e.cells 47)) #[(0:Int),(0:Int),.slice none 0 0] 30;rw [qj] at h2;rw [qj,qj] at h3;have a7:=(jl w (.cells #[c,b,.slice a l.length cap] 30) (.cells e.cells 47)).trans ((ja ((w.alloc (.cells #[c,b,.slice a l.length cap] 30)).alloc (.cells e.cells 47)) (.cells #[(0:Int),(0:Int),.slice none 0 0] 30)).mono (jl w _ _).size);exact ⟨(h1.below (ja _ _)).below (ja _ _),h2.below (ja _ _),h3,hv.below a7,a7,rfl⟩
 obtain ⟨n,hN⟩:=Nm (l.length);rw [<- hN] at f9 d6 N |-;have HN:=Hd hN;have Hi:=Hd d6.be.rangeV;have O:=Hd d6;clear hv hN d6;rw [Hr.1];rw [show (((w.alloc (.cells #[c,b,.slice a n cap] 30)).alloc (.cells e.cells 47)).alloc (.cells #[(0:Int),(0:Int),.slice none 0 0] 30))=((w.alloc (.cells #[c,b,.slice a n cap] 30)).alloc (.cells #[e.kind,e.s.slot,e.s.birth,e.s.upS,e.s.upB,e.s.kind,.string (SB e.s.user),.string (SB e.s.label),.int .u64 (e.s.scopes:Int),e.s.level,e.s.born,e.s.deadline,e.s.depth,e.birth,e.ticks] 47)).alloc (.cells #[(0:Int),(0:Int),.slice none 0 0] 30) from rfl] at O Hi
 go_enter func109,ntmps109
 go_wp2_with (with_reducible refine Lk Hi.1 underlying47 ?_)
 intro cv a8;have ecv:cv=e.cells:=by rw [a8.out]
 subst ecv;clear a8 Hi Hr;generalize hw1:World.alloc _ _=w1 at O |-;clear hw1;obtain ⟨p,hp⟩:=Nm (w.heap.size);rw [<- hp] at O |-;have HP:=Hd hp;clear hp;go_wp2_with fail;refine (Hq.1 _).mono ?_;rintro ev w2 ⟨rfl,e8⟩;have H:=Hd (O.1.below e8);clear e8 O Hq
 cases hmay:jM e
 .
  have Hs:=Hd (show D=(1,jI) by rw [HD.1,hmay];rfl)
  clear HD hmay;obtain ⟨z0,y0,z1,y1,z2,y2⟩:=B3 H.1.bz;have P:=Hd (H.1.fill 0 0 (.slice none 0 0));clear H;go_wp2;exact Jt (jj P.1.1) underlying30 ⟨_,by rw [Hs.1] <;> rfl,by rw [Hs.1];exact OwnS.nil _ _,P.1.2.1⟩
 have H3:=Hd (HD.1.trans (by rw [hmay,qf rfl]))
 have T:=Hd hmay;clear hmay HD;have k0:w2.cell? ⟨p+1,0,none⟩=some (.int .i64 e.kind):=H.1.be.cell 0 _ rfl
 cases hk0:(e.kind==0)
 rotate_left
 .
  have E:=Hd (H3.1.trans (qf (qK.1 hk0)));have Ht:=Hd (jap T.1 hk0);clear H3 T Hc He;have H6:=Hd H.1.be.rangeB;obtain ⟨c0,c1,c2⟩:=C3 H.1.bx
  go_wp2_with (with_reducible refine Lk H6.1 underlying45 ?_)
  intro cv a8;have ecv:cv=e.s.cells:=by rw [a8.out]
  subst ecv;clear a8;go_wp2_with fail;refine (H4.1 _ _ H.1.rs Ht.1).mono ?_;rintro ev w3 ⟨rfl,a7⟩;have F:=Hd (H.1.below a7);clear a7 H H6 H4 c0 c1 c2 k0 hk0 Ht
  cases hr:(uR ⟨c,b,l⟩ e.s==0)
  .
   have e9:(uR ⟨c,b,l⟩ e.s != 0)=true:=by rw [bne,hr];rfl
   have B:=Hd (E.1.trans (qh (fun h=>by rw [h] at hr;cases hr)))
   generalize uR ⟨c,b,l⟩ e.s=er at *;clear hr E;obtain ⟨z0,y0,z1,y1,z2,y2⟩:=B3 F.1.bz;have P:=Hd (F.1.fill 0 0 (.slice none 0 0));clear F;go_wp2;exact Jt (jj P.1.1) underlying30 ⟨_,by rw [B.1] <;> rfl,by rw [B.1];exact OwnS.nil _ _,P.1.2.1⟩
  have e9:(uR ⟨c,b,l⟩ e.s != 0)=false:=by rw [bne,hr];rfl
  have B:=Hd (E.1.trans (qf (qK.1 hr)));obtain ⟨W,hW⟩:∃ W,IntKind.i64.wrap (b+1)=W:=⟨_,rfl⟩;rw [hW] at B;have Hz:=Hd (show l.length+1<=1256584717458 by have:=H5.1;omega)
  clear hr E;obtain ⟨c0,c1,c2⟩:=C3 F.1.bx;go_wp2_with fail;refine (Hf.1 _ _ F.1.rs).mono ?_;rintro ev w4 ⟨o,rfl,d7,b1⟩;have G:=Hd ((F.1.below b1));obtain ⟨oa,oc,rfl,_⟩:=d7.slice;have b2:=Box.new w4 #[c,b,.slice oa l.length oc] 30;have c6:=ja w4 (.cells #[c,b,.slice oa l.length oc] 30);have Hj:=Hd (show p+1+1<w3.heap.size from F.1.bz.lt)
  have Hu:=Hd (qu Hj.1 b1.size);have HQ:=Hd (show p+1+1<w4.heap.size/\w3.heap.size<=w4.heap.size by have:=Hu.1;have:=b1.size;omega)
  have c1:(w4.alloc (.cells #[c,b,.slice oa l.length oc] 30)).cell? ⟨p,1,none⟩=some (.int .i64 b):=(G.1.below c6).bx.cell 1 _ rfl;have q1:(w4.alloc (.cells #[c,b,.slice oa l.length oc] 30)).cell? ⟨w4.heap.size,1,none⟩=some (.int .i64 b):=b2.cell 1 _ rfl;have f1:=b2.free 1;have a6:=ja w4 (.cells #[c,W,.slice oa l.length oc] 30);have U:=Hd (d7.below a6);have I:=Hd (G.1.below a6);have Hg:=Hd (Box.new w4 #[c,W,.slice oa l.length oc] 30);have Hk:=Hd (fun k hk=>(d7.lt k hk))
  have H6:=Hd I.1.be.rangeB;have q2:(w4.alloc (.cells #[c,W,.slice oa l.length oc] 30)).cell? ⟨w4.heap.size,2,none⟩=some (.slice oa l.length oc):=Hg.1.cell 2 _ rfl;have HS3X:=Hj;clear d7 b1 c6 a6 b2 G Hu Hj Hf e9 F
  go_wp2_with (with_reducible refine Lk H6.1 underlying45 ?_)
  intro cv a8;have ecv:cv=e.s.cells:=by rw [a8.out]
  subst ecv;clear a8 H6;generalize w4.alloc (.cells #[c,W,.slice oa l.length oc] 30)=wb at U I Hg q2 |-;clear c1 q1 f1
  go_wp2_with (refine Bs (vL e.s wb) ?_)
  intro w7 d9;have d8:Below wb.heap.size wb w7:=by rw [d9.out];exact ja _ _
  have Hv:=Hd (show ∀ j u,e.s.cells.toList[j]?=some u->w7.cell? ((⟨wb.heap.size,0,none⟩:Addr).add j)=some u by rw [d9.out];exact xu wb e.s _)
  have V:=Hd ((U.1.below d8));have Hw:=Hd (I.1.below d8);have Hh:=Hd (Hg.1.below d8);have Hl:=Hd (show w3.heap.size<=w7.heap.size by have:=Hh.1.lt;have:=HQ.1;omega)
  clear d9 d8 U I Hg q2
  go_wp2_with (at_builtin;refine jag rfl _ _ rfl w3.heap.size _ l rfl V.1 ⟨wb.heap.size,0,none⟩ 1 e.s rfl Hv.1 Hz.1 Hl.1 ?_)
  intro v8 w8 c8 e1 f3;obtain ⟨va,vc,a9,_⟩:=c8.slice;rw [qd,qx] at a9;subst a9;have d0:=Hh.1.grown e1 (fun e=>by have:=(Hk.1 _ e).2;omega)
  have f4:=zS e1 (fun k hk=>(V.1.lt k hk).1) Hl.1
  have g3:p+3<=w3.heap.size:=by have:=HS3X.1;omega
  have b0:=Hw.1.mod3 (f4.mono (fun i hi=>by omega)) N.1
  have f5:∀ k,(Value.slice va (l.length+1) vc).ownBlock=some k->k≠w4.heap.size:=fun k hk e=>by
   have hl:=Hh.1.lt
   rcases f3 with h | h
   . rw [h] at hk;have:=(Hk.1 k hk).2;omega
   . rw [h] at hk;injection hk with hk;omega
  obtain ⟨x0,x1,x2⟩:=C3 d0;have f2:=d0.free 2;have e2:=Mod.set (fun i=>i=w4.heap.size) w8 ⟨w4.heap.size,2,none⟩ (.slice va (l.length+1) vc) rfl
  have c7:=b0.mod3 (e2.mono (fun i hi=>by have:=HQ.1;omega)) N.1
  have e3:=c8.mod e2 (fun k hk e=>f5 k hk e)
  have A1:=Hd c7;have a3:=c7.fill c W (.slice va (l.length+1) vc);have f6:=(e3.mod a3.2.2 (fun k hk e=>by have:=(e3.lt k hk).1;omega)).base (base':=w.heap.size) (by have:=c7.e0;omega)
  have X:=Hd (And.intro a3.1 (And.intro f6 a3.2.1));obtain ⟨z0,y0,z1,y1,z2,y2⟩:=B3 b0.bz;have z22:(w8.setCell ⟨w4.heap.size,2,none⟩ (.slice va (l.length+1) vc)).cell? ⟨p+1+1,2,none⟩=some (.slice none 0 0):=c7.bz.cell 2 _ rfl;have y22:=c7.bz.free 2;clear d0 f4 b0 f5 e2 c7 e3 a3 f6 c8 e1 f3 V Hh Hw Hk Hv Hl;go_wp2;exact Jt (jj X.1.1) underlying30 ⟨_,by rw [B.1] <;> rfl,by rw [B.1];exact X.1.2.1,X.1.2.2⟩
 cases a5:(e.kind==1)
 rotate_left
 .
  have E:=Hd ((H3.1.trans (qh (fun h=>by rw [h] at hk0;cases hk0))).trans (qf (qK.1 a5)))
  clear H3 T H4 Hf;obtain ⟨c0,c1,c2⟩:=C3 H.1.bx;have k13:w2.cell? ⟨p+1,13,none⟩=some (.int .i64 e.birth):=H.1.be.cell 13 _ rfl;have e4:=jhC e.birth l;go_wp2_with fail;refine (He.1 _ _ H.1.rs).mono ?_;rintro ev w3 ⟨rfl,a7⟩;have F:=Hd (H.1.below a7);rw [e4];obtain ⟨r,hr⟩:=Nm (l.any (fun s=>s.birth==e.birth))
  rw [<- hr] at E |-;generalize (yh e.birth l).getD uC=y;clear hr e4 a7 H c0 c1 c2 k13 k0 hk0 a5 He
  go_wp2_with (with_reducible refine Sz y.cells.toList (SesM.listS _) (SesM.oneS _) ?_)
  intro w4 f7;obtain ⟨_,b1⟩:=uQ f7;have G:=Hd (F.1.below b1);clear f7 b1 F
  cases r
  .
   have B:=Hd (show D=(16,jI) from E.1)
   clear E;obtain ⟨z0,y0,z1,y1,z2,y2⟩:=B3 G.1.bz;have P:=Hd (G.1.fill 0 0 (.slice none 0 0));clear G;go_wp2;exact Jt (jj P.1.1) underlying30 ⟨_,by rw [B.1] <;> rfl,by rw [B.1];exact OwnS.nil _ _,P.1.2.1⟩
  have B:=Hd (show D=(0,⟨c,b,jB (fun s=>s.birth==e.birth) l⟩) from E.1)
  clear E;have A0:=Hd (show p+3<=w4.heap.size from G.1.bz.lt)
  go_wp2
  go_loopg [6,11] n (fun gk ov iv wr=>∃ (k:Nat) (gl:List Bool),gk+k=n/\iv=.int .i64 (k:Int)/\((l.take k).map (fun s=>s.birth==e.birth)=gl/\gl.length=k/\(k=0->ov=.slice none 0 0))/\OwnB wr (p+3) ov gl/\Mod (fun i=>p+3<=i) w4 wr)
  case atStart=>exact ⟨0,[],qT _,rfl,⟨rfl,rfl,fun _=>rfl⟩,OwnB.nil _ _,Mod.refl _ _⟩
  case round =>
   obtain ⟨k,gl,d1,rfl,d2,b3,b4⟩:=hrel;have M:=Hd d2;have k0:(0:Int)<=(k:Int):=by omega
   have R:=Hd d1;have A:=Hd (G.1.mod3 b4 N.1);have Y:=Hd b4;have Z:=Hd b3;have H7:=Hd (show p+3<=wr.heap.size from A.1.bz.lt)
   have c2:wr.cell? ⟨p,2,none⟩=some (.slice a n cap):=A.1.bx.cell 2 _ rfl;clear d1 b4 b3 d2;by_cases hk:k<n
   .
    have k1:(k:Int)<(n:Int):=by omega
    have b5:k<l.length:=by have:=HN.1;omega
    obtain ⟨s,hs⟩:=Nm (l[k]);obtain ⟨rb,ro,b6,a0⟩:=N.1.row k b5;subst b6;rw [<- hs] at a0;have b7:rb<p:=by rw [HP.1];exact World.block_lt_of_cell? w _ (a0 0 _ rfl)
    have Hm:=Hd (show (l.take (k+1)).map (fun s=>s.birth==e.birth)=gl ++ [(fun s=>s.birth==e.birth) s] by rw [hs,<- M.1.1];exact jhZ b5)
    have HR:=Hd (And.intro (jc A.1.self (a0 1 _ rfl)) b7);have H8:=Hd c2;have Hn:=Hd (show wr.cell? ⟨p+1,13,none⟩=some (.int .i64 e.birth) from A.1.be.cell 13 _ rfl)
    have HK:=Hd hk;have Ho:=Hd (show gl.length+1<=1256584717458 by have:=H5.1;have:=M.1.2.1;omega)
    obtain ⟨ga,gc,rfl,_⟩:=Z.1.slice;clear a0 b7 hs hk b5;go_wp2_with fail;clear c2;refine qt (S:=fun W=>Mod (fun i=>p+3<=i) wr W) (by kernel_rfl) (Mod.drew _ wr) (fun c9=>?_)
    refine Tk 0 63 ?_;refine Tk 1 64 ?_;refine Tk 2 65 ?_ (hy:=by intro w' a1;have u1:=za a1 H8.1 (fun h=>by have h3:p+3<=p:=h;omega);clear a1;go_simp;try with_reducible rfl)
    refine Tk 3 66 ?_;refine Tk 4 67 ?_;refine Tk 5 68 ?_;refine Tk 6 69 ?_ (hy:=by intro w' a1;have u1:=za a1 HR.1.1 (fun h=>by have h3:p+3<=rb:=h;have:=HR.1.2;omega);clear a1;go_simp;try with_reducible rfl)
    refine Tk 7 70 ?_;refine Tk 8 71 ?_ (hy:=by intro w' a1;have u1:=za a1 Hn.1 (fun h=>by have h3:p+3<=p+1:=h;omega);clear a1;go_simp;try with_reducible rfl)
    refine Tk 9 72 ?_;refine pD (rs := [10]) (by kernel_rfl) (by simp) (wJ (o:=⟨some 73,.buildSlice _ 1 _,_,_,_,_⟩) rfl (fun K hK=>?_) px)
    go_simp
    have b8:=(ja wr (.cells #[.bool (s.birth==e.birth)] 4)).trans ((jb (wr.alloc (.cells #[.bool (s.birth==e.birth)] 4))).mono (ja wr _).size);refine hK.out _ _ (Mod.of_below b8) (fun a2=>?_)
    have H0:=Hd (Z.1.below b8);have H9:=Hd (show (wr.alloc (.cells #[.bool (s.birth==e.birth)] 4)).drew.cell? ⟨wr.heap.size,0,none⟩=some (.bool (s.birth==e.birth)) from (Box.new wr #[.bool (s.birth==e.birth)] 4).cell 0 _ rfl)
    have H1:=Hd (qi H7.1 a2.size);clear hK K c9 b8
    try simp only [Nz]
    refine Rc 11 74 fun K hK=>?_
    rw [qf (by kernel_rfl)]
    refine ji9 (.tmp 63) (.tmp 73) rfl (p+3) _ _ rfl H0.1 wr.heap.size 1 (s.birth==e.birth) rfl H9.1 Ho.1 H1.1 ?_;intro v' w7 a4 d3;have b9:=a2.trans (zS d3 (fun k hk=>(H0.1.lt k hk).1) H1.1)
    refine hK.out _ _ b9 (fun c3=>?_)
    have V:=Hd a4;have Hp:=Hd (Y.1.trans b9);obtain ⟨ga2,gc2,a9,_⟩:=a4.slice;rw [qd,qx] at a9;subst a9;clear hK K a4 d3 b9 H0 H9 a2
    try simp only [Nz]
    refine Tk 12 6 ?_;refine Dn ?_;clear c3 A Y Z HR H8 H1;go_wp2
    go_roundg (n-(k+1))
    case measure=>have:=R.1;have:=HK.1;omega
    case rel=>exact ⟨k+1,_,by have:=R.1;have:=HK.1;omega,by go_num,⟨Hm.1,by rw [qd,qx,M.1.2.1],fun h=>by cases h⟩,V.1,Hp.1⟩
   .
    have k1:¬ (k:Int)<(n:Int):=by omega
    have Ha:=Hd (show gl=l.map (fun s=>s.birth==e.birth) by
     have h:=M.1.1;rw [ql (by have:=HN.1;omega)] at h
     exact h.symm)
    have Q:=Hd Z.1;have c0:wr.cell? ⟨p,0,none⟩=some (.int .i64 c):=A.1.bx.cell 0 _ rfl;have c1:wr.cell? ⟨p,1,none⟩=some (.int .i64 b):=A.1.bx.cell 1 _ rfl;have O:=Hd (show ∀ k,(Value.slice a n cap).ownBlock=some k->(u6:Value).ownBlock≠some k from fun k1 a5 c4=>by
     have h3:=(Q.1.lt k1 c4).1;by_cases h0:0<l.length
     .
      obtain ⟨rb,ro,b6,a0⟩:=N.1.row 0 h0;have b7:rb<p:=by rw [HP.1];exact World.block_lt_of_cell? w _ (a0 0 _ rfl)
      rw [b6] at a5;have e:rb=k1:=by injection a5
      omega
     .
      rw [M.1.2.2 (by have:=HN.1;have:=R.1;omega)] at c4
      cases c4)
    obtain ⟨ga,gc,rfl,_⟩:=Q.1.slice;have Hb:=Hd (Hc.1 (fun s=>s.birth==e.birth) (.slice a n cap) _ _ (p+3) wr A.1.rs Q.1 (by rw [Ha.1];exact jh3) O.1)
    clear hk R Y Z H7 M;go_wp2_with fail;refine Hb.1.mono ?_;rintro ev w5 ⟨o,rfl,ho,d4⟩;have c5:Mod (fun i=>p+3<=i) wr w5:=d4.mono (fun i hi=>by
     rcases hi with h | h
     . have:=A.1.bz.lt;omega
     . exact (Q.1.lt i h).1)
    have J:=Hd (A.1.mod3 c5 N.1);obtain ⟨va,vc,rfl,_⟩:=ho.slice;have H2:=Hd (ho.base (base':=p+3) (show p+3<=wr.heap.size from A.1.bz.lt))
    clear ho d4 c5 Hb A c0 c1 c2 Q O Ha;obtain ⟨z0,y0,z1,y1,z2,y2⟩:=B3 J.1.bz;have a3:=J.1.fill c b (.slice va (jB (fun s=>s.birth==e.birth) l).length vc)
    have d5:=(H2.1.mod a3.2.2 (fun k hk e=>by have:=(H2.1.lt k hk).1;omega)).base (base':=w.heap.size) (by have:=J.1.e0;omega)
    have X:=Hd (And.intro a3.1 (And.intro d5 a3.2.1));clear a3 d5 H2 J;go_wp2;exact Jt (jj X.1.1) underlying30 ⟨_,by rw [B.1] <;> rfl,by rw [B.1];exact X.1.2.1,X.1.2.2⟩
 obtain ⟨g0,g1⟩:=jig T.1 hk0 a5;have E:=Hd ((H3.1.trans (qh (fun h=>by rw [h] at hk0;cases hk0))).trans (qh (fun h=>by rw [h] at a5;cases a5)))
 clear H3 T H4 Hf He;obtain ⟨c0,c1,c2⟩:=C3 H.1.bx;have e14:w2.cell? ⟨p+1,14,none⟩=some (.int .i64 e.ticks):=H.1.be.cell 14 _ rfl;by_cases h1:c<0
 .
  have B:=Hd (show D=(12,jI) from E.1.trans (qf (.inl h1)))
  clear E;obtain ⟨z0,y0,z1,y1,z2,y2⟩:=B3 H.1.bz;have P:=Hd (H.1.fill 0 0 (.slice none 0 0));clear H;go_wp2;exact Jt (jj P.1.1) underlying30 ⟨_,by rw [B.1] <;> rfl,by rw [B.1];exact OwnS.nil _ _,P.1.2.1⟩
 by_cases h2:1099511627776<c
 .
  have B:=Hd (show D=(12,jI) from E.1.trans (qf (.inr (by omega))))
  clear E;obtain ⟨z0,y0,z1,y1,z2,y2⟩:=B3 H.1.bz;have P:=Hd (H.1.fill 0 0 (.slice none 0 0));clear H;go_wp2;exact Jt (jj P.1.1) underlying30 ⟨_,by rw [B.1] <;> rfl,by rw [B.1];exact OwnS.nil _ _,P.1.2.1⟩
 obtain ⟨C,hC⟩:=Nm (c+e.ticks);have e5:IntKind.i64.wrap (c+e.ticks)=C:=by rw [hC];simp [IntKind.wrap,IntKind.bits,IntKind.signed];omega
 have HC:=Hd hC;have Hx:=Hd e5;clear hC;by_cases h3:1099511627776<C
 .
  have B:=Hd (show D=(12,jI) from E.1.trans (qf (.inr (by have:=HC.1;omega))))
  clear E;obtain ⟨z0,y0,z1,y1,z2,y2⟩:=B3 H.1.bz;have P:=Hd (H.1.fill 0 0 (.slice none 0 0));clear H;go_wp2;exact Jt (jj P.1.1) underlying30 ⟨_,by rw [B.1] <;> rfl,by rw [B.1];exact OwnS.nil _ _,P.1.2.1⟩
 have B:=Hd (show D=(0,⟨C,b,jB (fun s=>decide (s.deadline<=C)) l⟩) by
  rw [HC.1];exact E.1.trans (qh (fun h=>by have:=HC.1;omega)))
 clear E g0 g1;have A0:=Hd (show p+3<=w2.heap.size from H.1.bz.lt)
 go_wp2_with fail;clear e5 h3 h1 h2 e14 c0 c1 c2 k0 hk0 a5
 go_loopg [6,12] n (fun gk ov iv wr=>∃ (k:Nat) (gl:List Bool),gk+k=n/\iv=.int .i64 (k:Int)/\((l.take k).map (fun s=>decide (s.deadline<=C))=gl/\gl.length=k/\(k=0->ov=.slice none 0 0))/\OwnB wr (p+3) ov gl/\Mod (fun i=>p+3<=i) w2 wr)
 case atStart=>exact ⟨0,[],qT _,rfl,⟨rfl,rfl,fun _=>rfl⟩,OwnB.nil _ _,Mod.refl _ _⟩
 case round =>
  obtain ⟨k,gl,d1,rfl,d2,b3,b4⟩:=hrel;have M:=Hd d2;have k0:(0:Int)<=(k:Int):=by omega
  have R:=Hd d1;have A:=Hd (H.1.mod3 b4 N.1);have Y:=Hd b4;have Z:=Hd b3;have H7:=Hd (show p+3<=wr.heap.size from A.1.bz.lt)
  have c2:wr.cell? ⟨p,2,none⟩=some (.slice a n cap):=A.1.bx.cell 2 _ rfl;clear d1 b4 b3 d2;by_cases hk:k<n
  .
   have k1:(k:Int)<(n:Int):=by omega
   have b5:k<l.length:=by have:=HN.1;omega
   obtain ⟨s,hs⟩:=Nm (l[k]);obtain ⟨rb,ro,b6,a0⟩:=N.1.row k b5;subst b6;rw [<- hs] at a0;have b7:rb<p:=by rw [HP.1];exact World.block_lt_of_cell? w _ (a0 0 _ rfl)
   have Hm:=Hd (show (l.take (k+1)).map (fun s=>decide (s.deadline<=C))=gl ++ [(fun s=>decide (s.deadline<=C)) s] by rw [hs,<- M.1.1];exact jhZ b5)
   have HR:=Hd (And.intro (jc A.1.self (a0 10 _ rfl)) b7);have H8:=Hd c2;have Hn:=Hd (show wr.cell? ⟨p,0,none⟩=some (.int .i64 c) from A.1.bx.cell 0 _ rfl)
   have Hy:=Hd (show wr.cell? ⟨p+1,14,none⟩=some (.int .i64 e.ticks) from A.1.be.cell 14 _ rfl)
   have HK:=Hd hk;have Ho:=Hd (show gl.length+1<=1256584717458 by have:=H5.1;have:=M.1.2.1;omega)
   obtain ⟨ga,gc,rfl,_⟩:=Z.1.slice;clear a0 b7 hs hk b5;go_wp2_with fail;clear c2;refine qt (S:=fun W=>Mod (fun i=>p+3<=i) wr W) (by kernel_rfl) (Mod.drew _ wr) (fun c9=>?_)
   refine Tk 0 102 ?_;refine Tk 1 103 ?_;refine Tk 2 104 ?_ (hy:=by intro w' a1;have u1:=za a1 H8.1 (fun h=>by have h3:p+3<=p:=h;omega);clear a1;go_simp;try with_reducible rfl)
   refine Tk 3 105 ?_;refine Tk 4 106 ?_;refine Tk 5 107 ?_;refine Tk 6 108 ?_ (hy:=by intro w' a1;have u1:=za a1 HR.1.1 (fun h=>by have h3:p+3<=rb:=h;have:=HR.1.2;omega);clear a1;go_simp;try with_reducible rfl)
   refine Tk 7 109 ?_;refine Tk 8 110 ?_ (hy:=by intro w' a1;have u1:=za a1 Hn.1 (fun h=>by have h3:p+3<=p+0:=h;omega);clear a1;go_simp;try with_reducible rfl)
   refine Tk 9 111 ?_;refine Tk 10 112 ?_ (hy:=by intro w' a1;have u1:=za a1 Hy.1 (fun h=>by have h3:p+3<=p+1:=h;omega);clear a1;go_simp;try with_reducible rfl)
   refine Tk 11 113 ?_ (hy:=by intro w' a1;have u1:=Hx.1;clear a1;go_simp;try with_reducible rfl)
   refine Tk 12 114 ?_;refine pD (rs := [13]) (by kernel_rfl) (by simp) (wJ (o:=⟨some 115,.buildSlice _ 1 _,_,_,_,_⟩) rfl (fun K hK=>?_) px)
   go_simp
   have b8:=(ja wr (.cells #[.bool (decide (s.deadline<=C))] 4)).trans ((jb (wr.alloc (.cells #[.bool (decide (s.deadline<=C))] 4))).mono (ja wr _).size);refine hK.out _ _ (Mod.of_below b8) (fun a2=>?_)
   have H0:=Hd (Z.1.below b8);have H9:=Hd (show (wr.alloc (.cells #[.bool (decide (s.deadline<=C))] 4)).drew.cell? ⟨wr.heap.size,0,none⟩=some (.bool (decide (s.deadline<=C))) from (Box.new wr #[.bool (decide (s.deadline<=C))] 4).cell 0 _ rfl)
   have H1:=Hd (qi H7.1 a2.size);clear hK K c9 b8
   try simp only [Nz]
   refine Rc 14 116 fun K hK=>?_
   rw [qf (by kernel_rfl)]
   refine ji9 (.tmp 102) (.tmp 115) rfl (p+3) _ _ rfl H0.1 wr.heap.size 1 (decide (s.deadline<=C)) rfl H9.1 Ho.1 H1.1 ?_;intro v' w7 a4 d3;have b9:=a2.trans (zS d3 (fun k hk=>(H0.1.lt k hk).1) H1.1)
   refine hK.out _ _ b9 (fun c3=>?_)
   have V:=Hd a4;have Hp:=Hd (Y.1.trans b9);obtain ⟨ga2,gc2,a9,_⟩:=a4.slice;rw [qd,qx] at a9;subst a9;clear hK K a4 d3 b9 H0 H9 a2
   try simp only [Nz]
   refine Tk 15 6 ?_;refine Dn ?_;clear c3 A Y Z HR H8 H1;go_wp2
   go_roundg (n-(k+1))
   case measure=>have:=R.1;have:=HK.1;omega
   case rel=>exact ⟨k+1,_,by have:=R.1;have:=HK.1;omega,by go_num,⟨Hm.1,by rw [qd,qx,M.1.2.1],fun h=>by cases h⟩,V.1,Hp.1⟩
  .
   have k1:¬ (k:Int)<(n:Int):=by omega
   have Ha:=Hd (show gl=l.map (fun s=>decide (s.deadline<=C)) by
    have h:=M.1.1;rw [ql (by have:=HN.1;omega)] at h
    exact h.symm)
   have Q:=Hd Z.1;have c0:wr.cell? ⟨p,0,none⟩=some (.int .i64 c):=A.1.bx.cell 0 _ rfl;have c1:wr.cell? ⟨p,1,none⟩=some (.int .i64 b):=A.1.bx.cell 1 _ rfl;have O:=Hd (show ∀ k,(Value.slice a n cap).ownBlock=some k->(u6:Value).ownBlock≠some k from fun k1 a5 c4=>by
    have h3:=(Q.1.lt k1 c4).1;by_cases h0:0<l.length
    .
     obtain ⟨rb,ro,b6,a0⟩:=N.1.row 0 h0;have b7:rb<p:=by rw [HP.1];exact World.block_lt_of_cell? w _ (a0 0 _ rfl)
     rw [b6] at a5;have e:rb=k1:=by injection a5
     omega
    .
     rw [M.1.2.2 (by have:=HN.1;have:=R.1;omega)] at c4
     cases c4)
   obtain ⟨ga,gc,rfl,_⟩:=Q.1.slice;have Hb:=Hd (Hc.1 (fun s=>decide (s.deadline<=C)) (.slice a n cap) _ _ (p+3) wr A.1.rs Q.1 (by rw [Ha.1];exact jh3) O.1)
   clear hk R Y Z H7 M;go_wp2_with fail;refine Hb.1.mono ?_;rintro ev w5 ⟨o,rfl,ho,d4⟩;have c5:Mod (fun i=>p+3<=i) wr w5:=d4.mono (fun i hi=>by
    rcases hi with h | h
    . have:=A.1.bz.lt;omega
    . exact (Q.1.lt i h).1)
   have J:=Hd (A.1.mod3 c5 N.1);obtain ⟨va,vc,rfl,_⟩:=ho.slice;have H2:=Hd (ho.base (base':=p+3) (show p+3<=wr.heap.size from A.1.bz.lt))
   clear ho d4 c5 Hb A c0 c1 c2 Q O Ha;obtain ⟨L,hL⟩:=Nm ((jB (fun s=>decide (s.deadline<=C)) l).length)
   rw [<- hL] at H2 |-;have b2:=Box.new w5 #[c,b,.slice va L vc] 30;have c6:=ja w5 (.cells #[c,b,.slice va L vc] 30);have a6:=ja w5 (.cells #[C,b,.slice va L vc] 30);have c0:(w5.alloc (.cells #[c,b,.slice va L vc] 30)).cell? ⟨p,0,none⟩=some (.int .i64 c):=(J.1.below c6).bx.cell 0 _ rfl;have e14:(w5.alloc (.cells #[c,b,.slice va L vc] 30)).cell? ⟨p+1,14,none⟩=some (.int .i64 e.ticks):=(J.1.below c6).be.cell 14 _ rfl;have q0:(w5.alloc (.cells #[c,b,.slice va L vc] 30)).cell? ⟨w5.heap.size,0,none⟩=some (.int .i64 c):=b2.cell 0 _ rfl;have f0:=b2.free 0;have hX:=Box.new w5 #[C,b,.slice va L vc] 30;have I:=Hd (J.1.below a6);have U:=Hd (H2.1.below a6);obtain ⟨x0,x1,x2⟩:=C3 hX;obtain ⟨z0,y0,z1,y1,z2,y2⟩:=B3 I.1.bz;have e5:=Hx.1;have a3:=I.1.fill C b (.slice va L vc);have d5:=(U.1.mod a3.2.2 (fun k hk e=>by have:=(U.1.lt k hk).1;omega)).base (base':=w.heap.size) (by have:=I.1.e0;omega)
   have X:=Hd (And.intro a3.1 (And.intro d5 a3.2.1));have HL:=Hd hL;clear a3 d5 H2 J U I b2 c6 a6 hX hL;go_wp2;exact Jt (jj X.1.1) underlying30 ⟨_,by rw [B.1] <;> rfl,by rw [B.1];exact X.1.2.1,X.1.2.2⟩
theorem jO {n:Int}(h:N63 n)(w:World) :
  Calls prog 152 #[n] w fun e w'=>∃ o,e=.returned o/\OwnM w' w.heap.size 5 o (ji n).length ((ji n).map V8)/\Below w.heap.size w w':=by
 obtain ⟨h1,h2⟩:=h;obtain ⟨k,rfl⟩:∃ k:Nat,n=(k:Int):=⟨n.toNat,by omega⟩
 have H:=Hd (xw k w (by omega))
 have z1:=jbJ k (by omega)
 go_enter func152,ntmps152;go_wp2_with fail;refine H.1.mono ?_;rintro e w1 ⟨o,rfl,ho,hb⟩;have A:=Hd ho;have B:=Hd hb;clear ho hb;go_wp2;go_ret;exact ⟨_,rfl,A.1,B.1⟩
theorem jdN (s:SesM)(w:World)(hs:SesN s)(a6:s.scopes<2 ^ 64) :
  Calls prog 153 #[.agg s.cells] w fun ev w'=>∃ o,ev=.returned o/\OwnM w' w.heap.size 5 o (yf [] s).length ((yf [] s).map V8)/\Below w.heap.size w w':=by
 have D:=Hd hs;have H7:=Hd a6;have F:=Hd (Box.new w s.cells 45);have S:=Hd (ja w (.cells s.cells 45));have HE:=Hd (show s.cells=#[.int .i64 s.slot,.int .i64 s.birth,.int .i64 s.upS,.int .i64 s.upB,.int .i64 s.kind,.string (SB s.user),.string (SB s.label),.int .u64 (s.scopes:Int),.int .i64 s.level,.int .i64 s.born,.int .i64 s.deadline,.int .i64 s.depth] from rfl)
 have HQ:=Hd (show yf [] s=_ from by unfold yf;rw [wt])
 rw [HE.1] at F S |-;have Hk:=Hd (jO hs.slot);clear hs a6;go_enter func153,ntmps153;go_wp2_with fail;refine (Hk.1 _).mono ?_;rintro ev w1 ⟨v0,rfl,ho,hb⟩;have hp:PutSt w w1 w.heap.size #[s.slot,s.birth,s.upS,s.upB,s.kind,.string (SB s.user),.string (SB s.label),.int .u64 (s.scopes:Int),s.level,s.born,s.deadline,s.depth] 45 v0 (ji s.slot):=⟨F.1.below hb,ho.lower (by simp),fun e2=>by have:=(ho.lt _ e2).1;simp at this;omega,S.1.trans (hb.mono (by simp))⟩
 obtain ⟨A0,a5⟩:=Nm (ji s.slot);have I:=Hd (jy s.slot);rw [<- a5] at hp I;have T:=Hd hp;have H8:=Hd a5;clear hp ho hb F S a5;have B:=Hd (jO D.1.birth);have hd:(ji s.birth).length<=10:=jy _;have c1:=T.1.bx.cell 1 _ rfl;have C:=Hd (show A0.length+(ji s.birth).length<=140737488355328 by have:=I.1;omega)
 have J:=Hd (show (A0++ji s.birth).length<=20 by have:=I.1;rw [qd];omega)
 clear hd;go_wp2_with fail;refine (B.1 _).mono ?_;rintro ev x0 ⟨o0,rfl,a1,a2⟩;have H:=Hd (T.1.call a2);have A:=Hd a1;clear a1 a2 c1 B T I
 go_wp2_with (at_builtin;refine yX rfl _ _ rfl w.heap.size _ _ _ rfl H.1.own _ (ji s.birth) rfl A.1.rd C.1 H.1.bel.size ?_)
 intro v1 y1 a0 a3 a4;have hP:=H.1.app a0 a3 a4;obtain ⟨A1,hA⟩:=Nm (A0++ji s.birth);rw [<- hA] at hP J;have U:=Hd hP;have H9:=Hd hA;clear hP hA a0 a3 a4 H A C;have B:=Hd (jO D.1.upS);have hd:(ji s.upS).length<=10:=jy _;have c1:=U.1.bx.cell 2 _ rfl;have C:=Hd (show A1.length+(ji s.upS).length<=140737488355328 by have:=J.1;omega)
 have K:=Hd (show (A1++ji s.upS).length<=30 by have:=J.1;rw [qd];omega)
 clear hd;go_wp2_with fail;refine (B.1 _).mono ?_;rintro ev x1 ⟨o1,rfl,a1,a2⟩;have H:=Hd (U.1.call a2);have A:=Hd a1;clear a1 a2 c1 B U J
 go_wp2_with (at_builtin;refine yX rfl _ _ rfl w.heap.size _ _ _ rfl H.1.own _ (ji s.upS) rfl A.1.rd C.1 H.1.bel.size ?_)
 intro v2 y2 a0 a3 a4;have hP:=H.1.app a0 a3 a4;obtain ⟨A2,hA⟩:=Nm (A1++ji s.upS);rw [<- hA] at hP K;have V:=Hd hP;have Ha:=Hd hA;clear hP hA a0 a3 a4 H A C;have B:=Hd (jO D.1.upB);have hd:(ji s.upB).length<=10:=jy _;have c1:=V.1.bx.cell 3 _ rfl;have C:=Hd (show A2.length+(ji s.upB).length<=140737488355328 by have:=K.1;omega)
 have L:=Hd (show (A2++ji s.upB).length<=40 by have:=K.1;rw [qd];omega)
 clear hd;go_wp2_with fail;refine (B.1 _).mono ?_;rintro ev x2 ⟨o2,rfl,a1,a2⟩;have H:=Hd (V.1.call a2);have A:=Hd a1;clear a1 a2 c1 B V K
 go_wp2_with (at_builtin;refine yX rfl _ _ rfl w.heap.size _ _ _ rfl H.1.own _ (ji s.upB) rfl A.1.rd C.1 H.1.bel.size ?_)
 intro v3 y3 a0 a3 a4;have hP:=H.1.app a0 a3 a4;obtain ⟨A3,hA⟩:=Nm (A2++ji s.upB);rw [<- hA] at hP L;have W:=Hd hP;have Hb:=Hd hA;clear hP hA a0 a3 a4 H A C;have B:=Hd (jO D.1.kind);have hd:(ji s.kind).length<=10:=jy _;have c1:=W.1.bx.cell 4 _ rfl;have C:=Hd (show A3.length+(ji s.kind).length<=140737488355328 by have:=L.1;omega)
 have M:=Hd (show (A3++ji s.kind).length<=50 by have:=L.1;rw [qd];omega)
 clear hd;go_wp2_with fail;refine (B.1 _).mono ?_;rintro ev x3 ⟨o3,rfl,a1,a2⟩;have H:=Hd (W.1.call a2);have A:=Hd a1;clear a1 a2 c1 B W L
 go_wp2_with (at_builtin;refine yX rfl _ _ rfl w.heap.size _ _ _ rfl H.1.own _ (ji s.kind) rfl A.1.rd C.1 H.1.bel.size ?_)
 intro v4 y4 a0 a3 a4;have hP:=H.1.app a0 a3 a4;obtain ⟨A4,hA⟩:=Nm (A3++ji s.kind);rw [<- hA] at hP M;have X:=Hd hP;have Hc:=Hd hA;clear hP hA a0 a3 a4 H A C;have B:=Hd (fun w=>zC s.user w (by have:=D.1.user;omega))
 have hd:(yj s.user).length<=42:=yU D.1.user;have c1:=X.1.bx.cell 5 _ rfl;have C:=Hd (show A4.length+(yj s.user).length<=140737488355328 by have:=M.1;omega)
 have N:=Hd (show (A4++yj s.user).length<=92 by have:=M.1;rw [qd];omega)
 clear hd;go_wp2_with fail;refine (B.1 _).mono ?_;rintro ev x4 ⟨o4,rfl,a1,a2⟩;have H:=Hd (X.1.call a2);have A:=Hd a1;clear a1 a2 c1 B X M
 go_wp2_with (at_builtin;refine yX rfl _ _ rfl w.heap.size _ _ _ rfl H.1.own _ (yj s.user) rfl A.1.rd C.1 H.1.bel.size ?_)
 intro v5 y5 a0 a3 a4;have hP:=H.1.app a0 a3 a4;obtain ⟨A5,hA⟩:=Nm (A4++yj s.user);rw [<- hA] at hP N;have Y:=Hd hP;have He:=Hd hA;clear hP hA a0 a3 a4 H A C;have B:=Hd (fun w=>zC s.label w (by have:=D.1.label;omega))
 have hd:(yj s.label).length<=42:=yU D.1.label;have c1:=Y.1.bx.cell 6 _ rfl;have C:=Hd (show A5.length+(yj s.label).length<=140737488355328 by have:=N.1;omega)
 have O:=Hd (show (A5++yj s.label).length<=134 by have:=N.1;rw [qd];omega)
 clear hd;go_wp2_with fail;refine (B.1 _).mono ?_;rintro ev x5 ⟨o5,rfl,a1,a2⟩;have H:=Hd (Y.1.call a2);have A:=Hd a1;clear a1 a2 c1 B Y N
 go_wp2_with (at_builtin;refine yX rfl _ _ rfl w.heap.size _ _ _ rfl H.1.own _ (yj s.label) rfl A.1.rd C.1 H.1.bel.size ?_)
 intro v6 y6 a0 a3 a4;have hP:=H.1.app a0 a3 a4;obtain ⟨A6,hA⟩:=Nm (A5++yj s.label);rw [<- hA] at hP O;have Z:=Hd hP;have Hf:=Hd hA;clear hP hA a0 a3 a4 H A C;have B:=Hd (fun w=>xw s.scopes w H7.1)
 have hd:(yo s.scopes).length<=10:=xy _;have c1:=Z.1.bx.cell 7 _ rfl;have C:=Hd (show A6.length+(yo s.scopes).length<=140737488355328 by have:=O.1;omega)
 have P:=Hd (show (A6++yo s.scopes).length<=144 by have:=O.1;rw [qd];omega)
 clear hd;go_wp2_with fail;refine (B.1 _).mono ?_;rintro ev x6 ⟨o6,rfl,a1,a2⟩;have H:=Hd (Z.1.call a2);have A:=Hd a1;clear a1 a2 c1 B Z O
 go_wp2_with (at_builtin;refine yX rfl _ _ rfl w.heap.size _ _ _ rfl H.1.own _ (yo s.scopes) rfl A.1.rd C.1 H.1.bel.size ?_)
 intro v7 y7 a0 a3 a4;have hP:=H.1.app a0 a3 a4;obtain ⟨A7,hA⟩:=Nm (A6++yo s.scopes);rw [<- hA] at hP P;have H0:=Hd hP;have Hg:=Hd hA;clear hP hA a0 a3 a4 H A C;have B:=Hd (jO D.1.level);have hd:(ji s.level).length<=10:=jy _;have c1:=H0.1.bx.cell 8 _ rfl;have C:=Hd (show A7.length+(ji s.level).length<=140737488355328 by have:=P.1;omega)
 have Q:=Hd (show (A7++ji s.level).length<=154 by have:=P.1;rw [qd];omega)
 clear hd;go_wp2_with fail;refine (B.1 _).mono ?_;rintro ev x7 ⟨o7,rfl,a1,a2⟩;have H:=Hd (H0.1.call a2);have A:=Hd a1;clear a1 a2 c1 B H0 P
 go_wp2_with (at_builtin;refine yX rfl _ _ rfl w.heap.size _ _ _ rfl H.1.own _ (ji s.level) rfl A.1.rd C.1 H.1.bel.size ?_)
 intro v8 y8 a0 a3 a4;have hP:=H.1.app a0 a3 a4;obtain ⟨A8,hA⟩:=Nm (A7++ji s.level);rw [<- hA] at hP Q;have H1:=Hd hP;have Hh:=Hd hA;clear hP hA a0 a3 a4 H A C;have B:=Hd (jO D.1.born);have hd:(ji s.born).length<=10:=jy _;have c1:=H1.1.bx.cell 9 _ rfl;have C:=Hd (show A8.length+(ji s.born).length<=140737488355328 by have:=Q.1;omega)
 have R:=Hd (show (A8++ji s.born).length<=164 by have:=Q.1;rw [qd];omega)
 clear hd;go_wp2_with fail;refine (B.1 _).mono ?_;rintro ev x8 ⟨o8,rfl,a1,a2⟩;have H:=Hd (H1.1.call a2);have A:=Hd a1;clear a1 a2 c1 B H1 Q
 go_wp2_with (at_builtin;refine yX rfl _ _ rfl w.heap.size _ _ _ rfl H.1.own _ (ji s.born) rfl A.1.rd C.1 H.1.bel.size ?_)
 intro v9 y9 a0 a3 a4;have hP:=H.1.app a0 a3 a4;obtain ⟨A9,hA⟩:=Nm (A8++ji s.born);rw [<- hA] at hP R;have H2:=Hd hP;have Hi:=Hd hA;clear hP hA a0 a3 a4 H A C;have B:=Hd (jO D.1.deadline);have hd:(ji s.deadline).length<=10:=jy _;have c1:=H2.1.bx.cell 10 _ rfl;have C:=Hd (show A9.length+(ji s.deadline).length<=140737488355328 by have:=R.1;omega)
 have E:=Hd (show (A9++ji s.deadline).length<=174 by have:=R.1;rw [qd];omega)
 clear hd;go_wp2_with fail;refine (B.1 _).mono ?_;rintro ev x9 ⟨o9,rfl,a1,a2⟩;have H:=Hd (H2.1.call a2);have A:=Hd a1;clear a1 a2 c1 B H2 R
 go_wp2_with (at_builtin;refine yX rfl _ _ rfl w.heap.size _ _ _ rfl H.1.own _ (ji s.deadline) rfl A.1.rd C.1 H.1.bel.size ?_)
 intro v10 y10 a0 a3 a4;have hP:=H.1.app a0 a3 a4;obtain ⟨A10,hA⟩:=Nm (A9++ji s.deadline);rw [<- hA] at hP E;have G:=Hd hP;have H4:=Hd hA;clear hP hA a0 a3 a4 H A C;have B:=Hd (jO D.1.depth);have hd:(ji s.depth).length<=10:=jy _;have c1:=G.1.bx.cell 11 _ rfl;have C:=Hd (show A10.length+(ji s.depth).length<=140737488355328 by have:=E.1;omega)
 have H5:=Hd (show (A10++ji s.depth).length<=184 by have:=E.1;rw [qd];omega)
 clear hd;go_wp2_with fail;refine (B.1 _).mono ?_;rintro ev x10 ⟨o10,rfl,a1,a2⟩;have H:=Hd (G.1.call a2);have A:=Hd a1;clear a1 a2 c1 B G E
 go_wp2_with (at_builtin;refine yX rfl _ _ rfl w.heap.size _ _ _ rfl H.1.own _ (ji s.depth) rfl A.1.rd C.1 H.1.bel.size ?_)
 intro v11 y11 a0 a3 a4;have hP:=H.1.app a0 a3 a4;obtain ⟨A11,hA⟩:=Nm (A10++ji s.depth);rw [<- hA] at hP H5;have H3:=Hd hP;have H6:=Hd hA;clear hP hA a0 a3 a4 H A C;go_wp2;go_ret;rw [HQ.1,<- H8.1,<- H9.1,<- Ha.1,<- Hb.1,<- Hc.1,<- He.1,<- Hf.1,<- Hg.1,<- Hh.1,<- Hi.1,<- H4.1,<- H6.1];exact ⟨_,rfl,H3.1.own,H3.1.bel⟩
theorem jer (st:StM)(v:Value)(w:World)(hr:RdS w v st.l)(ho:∀ s∈st.l,SesOk s) :
  Calls prog 110 #[.agg #[st.clock,st.births,v]] w fun ev w'=>∃ o,ev=.returned (.tuple #[o,(ja3 st)])/\OwnM w' w.heap.size 5 o (vz st).length ((vz st).map V8)/\Below w.heap.size w w':=by
 obtain ⟨a,cap,rfl,b5,b8⟩:=hr.slice;have N:=Hd (fun w' hb=>uW st (.slice a st.l.length cap) w' (hr.below hb) ho)
 have Z:=Hd hr;have HO:=Hd ho;have O:=Hd (Box.new w #[st.clock,st.births,.slice a st.l.length cap] 30);have M:=Hd (ja w (.cells #[st.clock,st.births,.slice a st.l.length cap] 30));have b6:st.l.length<=9223372036854775807:=by omega
 clear hr ho b5;go_enter func110,ntmps110;go_wp2_with fail;refine (N.1 _ M.1).mono ?_;rintro ev w1 ⟨rfl,a1⟩;have D:=Hd (M.1.trans (a1.mono M.1.size));have F:=Hd (O.1.below a1);clear a1 M O N
 cases hck:yr st with
 | some n =>
  have X:=Hd (show vz st = [] by unfold vz;rw [hck];rfl)
  have Y:=Hd (show ja3 st=24 by unfold ja3;rw [hck];rfl)
  rw [show (jdA (some n)).1=24 from rfl,show (jdA (some n)).2=n from rfl]
  clear hck;go_wp2;refine qP (wj rfl _ _ _) rfl ?_;rw [X.1,Y.1];exact ⟨_,rfl,OwnM.nil _ _ _,D.1⟩
 | none =>
 have X:=Hd (show vz st=yW st by unfold vz;rw [hck];rfl)
 have Y:=Hd (show ja3 st=0 by unfold ja3;rw [hck];rfl)
 have B:=Hd (zJ hck);have H5:=Hd (jh8 hck);rw [show (jdA none).1=0 from rfl,show (jdA none).2=0 from rfl]
 clear hck;have n3:N63 (st.l.length:Int):=⟨by omega,by have:=B.1.2.2.1;omega⟩
 have H6:=Hd n3;have P:=Hd (jO B.1.1);have Q:=Hd (jO B.1.2.1);have R:=Hd (jO n3);have c0:w1.cell? ⟨w.heap.size,0,none⟩=some (.int .i64 st.clock):=F.1.cell 0 _ rfl;clear n3;go_wp2_with fail;refine (P.1 _).mono ?_;rintro ev w2 ⟨v0,rfl,a9,b0⟩;have J:=Hd (show PutSt w w2 w.heap.size #[st.clock,st.births,.slice a st.l.length cap] 30 v0 (ji st.clock) from ⟨F.1.below b0,a9.lower D.1.size,fun e2=>by have:=(a9.lt _ e2).1;have:=F.1.lt;omega,D.1.trans (b0.mono D.1.size)⟩)
 clear a9 b0 c0 F D P;have c1:w2.cell? ⟨w.heap.size,1,none⟩=some (.int .i64 st.births):=J.1.bx.cell 1 _ rfl;go_wp2_with fail;refine (Q.1 _).mono ?_;rintro ev w3 ⟨o1,rfl,a2,a1⟩;have H:=Hd (J.1.call a1);have A:=Hd a2;have E:=Hd (show (ji st.clock).length+(ji st.births).length<=140737488355328 by have:=jy st.clock;have:=jy st.births;omega)
 clear a2 a1 c1 Q J
 go_wp2_with (at_builtin;refine yX rfl _ _ rfl w.heap.size _ _ _ rfl H.1.own _ (ji st.births) rfl A.1.rd E.1 H.1.bel.size ?_)
 intro v1 y1 a0 a3 a4;have G:=Hd (H.1.app a0 a3 a4);clear a0 a3 a4 H A E;obtain ⟨A1,a7⟩:=Nm (ji st.clock++ji st.births);have S:=Hd (show A1.length<=20 by rw [a7,qd];have:=jy st.clock;have:=jy st.births;omega)
 rw [<- a7] at G;have H0:=Hd a7;clear a7;have c2:y1.cell? ⟨w.heap.size,2,none⟩=some (.slice a st.l.length cap):=G.1.bx.cell 2 _ rfl;go_wp2_with fail;refine (R.1 _).mono ?_;rintro ev w4 ⟨o2,rfl,a2,a1⟩;have H:=Hd (G.1.call a1);have A:=Hd a2;have E:=Hd (show A1.length+(ji (st.l.length:Int)).length<=140737488355328 by have:=S.1;have:=jy (st.l.length:Int);omega)
 clear a2 a1 c2 R G
 go_wp2_with (at_builtin;refine yX rfl _ _ rfl w.heap.size _ _ _ rfl H.1.own _ (ji (st.l.length:Int)) rfl A.1.rd E.1 H.1.bel.size ?_)
 intro v2 y2 a0 a3 a4;have I:=Hd (H.1.app a0 a3 a4);clear a0 a3 a4 H A E;obtain ⟨A0,a8⟩:∃ A0,A0=A1++ji (st.l.length:Int):=⟨_,rfl⟩;rw [<- a8] at I;have H3:=Hd (show yW st=A0++st.l.flatMap (yf []) by unfold yW yg;rw [a8,H0.1];simp)
 have HA:=Hd (show A0.length<=30 by rw [a8,qd];have:=S.1;have:=jy (st.l.length:Int);omega)
 have H4:=Hd (fun k=>show (A0++(st.l.take k).flatMap (yf [])).length<=7000 by
  have h1:=HA.1;have h2:=ud (l:=st.l.take k) (fun s hs=>B.1.2.2.2 s (km hs))
  have h3:=B.1.2.2.1;rw [qr] at h2;rw [qd];omega)
 obtain ⟨n,hn⟩:=Nm (st.l.length);have HN:=Hd hn;have b9:n<=9223372036854775807:=by omega
 rw [<- hn] at I |-;clear a8 hn b6;go_wp2
 go_loopg [6,7] n (fun gk ov iv wr=>∃ (k:Nat),gk+k=n/\iv=.int .i64 (k:Int)/\PutSt w wr w.heap.size #[st.clock,st.births,.slice a n cap] 30 ov (A0++(st.l.take k).flatMap (yf [])))
 case atStart=>exact ⟨0,by omega,rfl,by have:=I.1;simpa using this⟩
 case round =>
  obtain ⟨k,b3,rfl,b1⟩:=hrel;have C:=Hd b1;have T:=Hd b3;have k0:(0:Int)<=(k:Int):=by omega
  have c2:wr.cell? ⟨w.heap.size,2,none⟩=some (.slice a n cap):=b1.bx.cell 2 _ rfl;clear b1 b3 I;by_cases hk:k<n;rotate_left
  .
   have k1:¬ (k:Int)<(n:Int):=by omega
   have hT:=C.1;rw [ql (by have:=HN.1;omega),<- H3.1] at hT
   have HT:=Hd hT;clear hk hT C;go_wp2;refine qP (wj rfl _ _ _) rfl ?_;rw [X.1,Y.1];exact ⟨_,rfl,HT.1.own,HT.1.bel⟩
  have k1:(k:Int)<(n:Int):=by omega
  have a5:k<st.l.length:=by have:=HN.1;omega
  have U:=Hd (Z.1.below C.1.bel);obtain ⟨s,hs⟩:=Nm (st.l[k]);obtain ⟨rb,ro,b7,a6⟩:=U.1.row k a5;subst b7;rw [<- hs] at a6;have V:=Hd (fun w=>jdN s w (SesN.of (B.1.2.2.2 s (by rw [hs];exact qy a5))) (HO.1 s (by rw [hs];exact qy a5)).scopes)
  have K:=Hd (show A0++(st.l.take (k+1)).flatMap (yf [])=(A0++(st.l.take k).flatMap (yf []))++yf [] s by
   rw [qk a5,pg,<- hs];simp only [qV,kC,qF,qB])
  have b2:=H4.1 (k+1);rw [K.1,qd] at b2;generalize A0++(st.l.take k).flatMap (yf [])=Ak at C K b2;have E:=Hd (show Ak.length+(yf [] s).length<=140737488355328 by omega)
  have L:=Hd a6;have HK:=Hd hk;clear hk a5 hs a6 b2
  go_wp2_with (with_reducible refine Lk L.1 underlying45 ?_)
  intro cv b4;have ecv:cv=s.cells:=by rw [b4.out]
  subst ecv;clear b4 c2 L U;go_wp2_with fail;refine (V.1 _).mono ?_;rintro ev w6 ⟨o6,rfl,a2,a1⟩;have H:=Hd (C.1.call a1);have A:=Hd a2;clear a2 a1 C V
  go_wp2_with (at_builtin;refine yX rfl _ _ rfl w.heap.size _ _ _ rfl H.1.own _ (yf [] s) rfl A.1.rd E.1 H.1.bel.size ?_)
  intro v3 y3 a0 a3 a4;have W:=Hd (H.1.app a0 a3 a4);clear a0 a3 a4 H A E;rw [<- K.1] at W;go_wp2
  go_roundg (n-(k+1))
  case measure=>have:=T.1;have:=HK.1;omega
  case rel=>exact ⟨k+1,by have:=T.1;have:=HK.1;omega,by go_num,W.1⟩
end Go.Proofs.YtgcnolapjppbpaaGreatDoor
