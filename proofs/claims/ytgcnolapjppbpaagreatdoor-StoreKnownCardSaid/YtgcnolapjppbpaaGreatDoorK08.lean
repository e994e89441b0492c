/- Texts of one proof. -/
import Derived.Test.YtgcnolapjppbpaaGreatDoorK06
import Derived.Test.YtgcnolapjppbpaaGreatDoorK07
namespace Go.Proofs.YtgcnolapjppbpaaGreatDoor
open Go.RowKit _root_.Go.Proofs.Tryz
set_option maxRecDepth 100000
set_option maxHeartbeats 25600000
variable {w w' w0:World}{t r b2 b:Nat}{v:Value}{e:EvtM}{a:Act}{Q:Exit->Act->World->Prop}{l:List SesM}
structure TkM where
 l:List UInt8
 k:Nat
 er:Int
 big:Bool
def TkM.rest (s:TkM):List UInt8:=s.l.drop s.k
def TkM.num (s:TkM):Nat × TkM:=if s.er=0 then (if (jX s.rest).1=0 then ((jX s.rest).2.1,⟨s.l,s.k+(jX s.rest).2.2,0,s.big⟩) else (0,⟨s.l,s.k,(jX s.rest).1,s.big⟩)) else (0,s)
def TkM.txt (s:TkM):List UInt8 × TkM:=if s.er=0 then (if (jL s.rest).1=0 then ((jL s.rest).2.1,⟨s.l,s.k+(jL s.rest).2.2,0,s.big⟩) else ([],⟨s.l,s.k,(jL s.rest).1,s.big⟩)) else ([],s)
def yC (n:Nat):Int:=if n<=9223372036854775807 then (n:Int) else (n:Int)-18446744073709551616
def TkM.int (s:TkM):Int × TkM:=(yC s.num.1,⟨s.num.2.l,s.num.2.k,s.num.2.er,s.num.2.big || !(decide (s.num.1<=9223372036854775807))⟩)
structure IsT (w:World)(t r:Nat)(v:Value)(s:TkM):Prop where
 box:Box w t #[.pointer (some ⟨r,0,none⟩),jm s.er,.bool s.big] 247
 rd:IsR w r v s.l s.k
 ne:t≠r
 nv:v.ownBlock≠some t
 vl:∀ b,v.ownBlock=some b->b<w.heap.size
theorem IsT.mod {s:TkM}{F:Nat->Prop}(h:IsT w t r v s)(hm:Mod F w w')(h1:¬ F t)(h2:¬ F r)(h3:∀ b,v.ownBlock=some b->¬ F b):IsT w' t r v s :=
 ⟨h.box.mod hm h1,h.rd.mod hm h2 h3,h.ne,h.nv,fun b hb=>qu (h.vl b hb) hm.size⟩
theorem IsT.below {s:TkM}(h:IsT w t r v s)(hb:Below w.heap.size w w'):IsT w' t r v s:=h.mod (Mod.of_below (F:=fun _=>False) hb) (fun h=>h) (fun h=>h) (fun _ _ h=>h)
theorem yJ {n:Int}(h:n≠0):jm n=.iface 91 n:=by unfold jm;rw [qh h]
theorem vi (t r:Nat)(v:Value)(s:TkM)(w:World)(h:IsT w t r v s) :
  Calls prog 127 #[.pointer (some ⟨t,0,none⟩)] w fun e w'=>e=.returned (.int .u64 (s.num.1:Int))/\IsT w' t r v s.num.2/\Mod (fun i=>i=r\/i=t) w w':=by
 have HT:=qe h;have c0:=h.box.cell 0 _ rfl;have c1:w.cell? ⟨t,1,none⟩=some (jm s.er):=h.box.cell 1 _ rfl;by_cases he:s.er=0;rotate_left
 .
  have HS:=qe (show s.num=(0,s) by unfold TkM.num;rw [qh he])
  rw [yJ he] at c1;clear h;go_enter func127,ntmps127;go_wp2;go_ret;rw [HS.out];exact ⟨rfl,HT.out,Mod.refl _ _⟩
 .
  obtain ⟨N,hN⟩:=Nm (jX s.rest);have Hc:=qe (jaP r s.k v s.l w h.rd h.vl)
  change Hid (Calls _ _ _ _ fun e w'=>Mod (fun i=>i=r) w w'/\(((jX s.rest).1=0/\e=.returned (.tuple #[.int .u64 ((jX s.rest).2.1:Int),.nilIface])/\IsR w' r v s.l (s.k+(jX s.rest).2.2))\/((jX s.rest).1≠0/\e=.returned (.tuple #[.int .u64 0,.iface 91 (.int .i64 (jX s.rest).1)])/\IsR w' r v s.l s.k))) at Hc
  have HS:=qe (show s.num=(if N.1=0 then (N.2.1,⟨s.l,s.k+N.2.2,0,s.big⟩) else (0,⟨s.l,s.k,N.1,s.big⟩)) by unfold TkM.num;rw [qf he,hN])
  rw [<- hN] at Hc;rw [show jm s.er=.nilIface by unfold jm;rw [qf he]] at c1
  clear h hN;go_enter func127,ntmps127;go_wp2_with fail;refine Hc.out.mono ?_;rintro e w1 ⟨hm,⟨hn,rfl,hi⟩ | ⟨hn,rfl,hi⟩⟩
  .
   have a0:=HT.out.box.mod hm HT.out.ne;have HS':=qe (show s.num=(N.2.1,⟨s.l,s.k+N.2.2,0,s.big⟩) by rw [HS.out,qf hn])
   have d1:=a0.cell 1 _ rfl;have f1:=a0.free 1;have a1:=Mod.set (fun i=>i=t) w1 ⟨t,1,none⟩ .nilIface rfl
   have HR:=qe (show IsT (w1.setCell ⟨t,1,none⟩ .nilIface) t r v ⟨s.l,s.k+N.2.2,0,s.big⟩ from ⟨a0.set 1 .nilIface,hi.mod a1 (fun e=>HT.out.ne e.symm) (fun b hb e=>HT.out.nv (by rw [hb,e])),HT.out.ne,HT.out.nv,fun b hb=>by have:=HT.out.vl b hb;have:=hm.size;simp;omega⟩)
   have HM:=qe ((hm.mono (fun i hi=>Or.inl hi:∀ i,i=r->i=r\/i=t)).trans (a1.mono (fun i hi=>Or.inr hi:∀ i,i=t->i=r\/i=t)))
   clear hm hn hi a0 a1 HS c0 c1 he;go_wp2;go_ret;rw [HS'.out];exact ⟨rfl,HR.out,HM.out⟩
  .
   have a0:=HT.out.box.mod hm HT.out.ne;have HS':=qe (show s.num=(0,⟨s.l,s.k,N.1,s.big⟩) by rw [HS.out,qh hn])
   have d1:=a0.cell 1 _ rfl;have f1:=a0.free 1;have a1:=Mod.set (fun i=>i=t) w1 ⟨t,1,none⟩ (.iface 91 N.1) rfl
   have HR:=qe (show IsT (w1.setCell ⟨t,1,none⟩ (.iface 91 N.1)) t r v ⟨s.l,s.k,N.1,s.big⟩ from ⟨by rw [yJ hn];exact a0.set 1 _,hi.mod a1 (fun e=>HT.out.ne e.symm) (fun b hb e=>HT.out.nv (by rw [hb,e])),HT.out.ne,HT.out.nv,fun b hb=>by have:=HT.out.vl b hb;have:=hm.size;simp;omega⟩)
   have HM:=qe ((hm.mono (fun i hi=>Or.inl hi:∀ i,i=r->i=r\/i=t)).trans (a1.mono (fun i hi=>Or.inr hi:∀ i,i=t->i=r\/i=t)))
   clear hm hn hi a0 a1 HS c0 c1 he;go_wp2;go_ret;rw [HS'.out];exact ⟨rfl,HR.out,HM.out⟩
theorem jbB (t r:Nat)(v:Value)(s:TkM)(w:World)(h:IsT w t r v s) :
  Calls prog 129 #[.pointer (some ⟨t,0,none⟩)] w fun e w'=>e=.returned (.string (SB s.txt.1))/\IsT w' t r v s.txt.2/\Mod (fun i=>i=r\/i=t) w w':=by
 have HT:=qe h;have c0:=h.box.cell 0 _ rfl;have c1:w.cell? ⟨t,1,none⟩=some (jm s.er):=h.box.cell 1 _ rfl;by_cases he:s.er=0;rotate_left
 .
  have HS:=qe (show s.txt=([],s) by unfold TkM.txt;rw [qh he])
  rw [yJ he] at c1;clear h;go_enter func129,ntmps129;go_wp2;go_ret;rw [HS.out];exact ⟨rfl,HT.out,Mod.refl _ _⟩
 .
  obtain ⟨N,hN⟩:=Nm (jL s.rest);have Hc:=qe (jcO r s.k v s.l w h.rd h.vl)
  change Hid (Calls _ _ _ _ fun e w'=>Mod (fun i=>i=r) w w'/\(((jL s.rest).1=0/\e=.returned (.tuple #[.string (SB (jL s.rest).2.1),.nilIface])/\IsR w' r v s.l (s.k+(jL s.rest).2.2))\/((jL s.rest).1≠0/\e=.returned (.tuple #[.string ⟨#[]⟩,.iface 91 (.int .i64 (jL s.rest).1)])/\IsR w' r v s.l s.k))) at Hc
  have HS:=qe (show s.txt=(if N.1=0 then (N.2.1,⟨s.l,s.k+N.2.2,0,s.big⟩) else ([],⟨s.l,s.k,N.1,s.big⟩)) by unfold TkM.txt;rw [qf he,hN])
  rw [<- hN] at Hc;rw [show jm s.er=.nilIface by unfold jm;rw [qf he]] at c1
  clear h hN;go_enter func129,ntmps129;go_wp2_with fail;refine Hc.out.mono ?_;rintro e w1 ⟨hm,⟨hn,rfl,hi⟩ | ⟨hn,rfl,hi⟩⟩
  .
   have a0:=HT.out.box.mod hm HT.out.ne;have HS':=qe (show s.txt=(N.2.1,⟨s.l,s.k+N.2.2,0,s.big⟩) by rw [HS.out,qf hn])
   have d1:=a0.cell 1 _ rfl;have f1:=a0.free 1;have a1:=Mod.set (fun i=>i=t) w1 ⟨t,1,none⟩ .nilIface rfl
   have HR:=qe (show IsT (w1.setCell ⟨t,1,none⟩ .nilIface) t r v ⟨s.l,s.k+N.2.2,0,s.big⟩ from ⟨a0.set 1 .nilIface,hi.mod a1 (fun e=>HT.out.ne e.symm) (fun b hb e=>HT.out.nv (by rw [hb,e])),HT.out.ne,HT.out.nv,fun b hb=>by have:=HT.out.vl b hb;have:=hm.size;simp;omega⟩)
   have HM:=qe ((hm.mono (fun i hi=>Or.inl hi:∀ i,i=r->i=r\/i=t)).trans (a1.mono (fun i hi=>Or.inr hi:∀ i,i=t->i=r\/i=t)))
   clear hm hn hi a0 a1 HS c0 c1 he;go_wp2;go_ret;rw [HS'.out];exact ⟨rfl,HR.out,HM.out⟩
  .
   have a0:=HT.out.box.mod hm HT.out.ne;have HS':=qe (show s.txt=([],⟨s.l,s.k,N.1,s.big⟩) by rw [HS.out,qh hn])
   have d1:=a0.cell 1 _ rfl;have f1:=a0.free 1;have a1:=Mod.set (fun i=>i=t) w1 ⟨t,1,none⟩ (.iface 91 N.1) rfl
   have HR:=qe (show IsT (w1.setCell ⟨t,1,none⟩ (.iface 91 N.1)) t r v ⟨s.l,s.k,N.1,s.big⟩ from ⟨by rw [yJ hn];exact a0.set 1 _,hi.mod a1 (fun e=>HT.out.ne e.symm) (fun b hb e=>HT.out.nv (by rw [hb,e])),HT.out.ne,HT.out.nv,fun b hb=>by have:=HT.out.vl b hb;have:=hm.size;simp;omega⟩)
   have HM:=qe ((hm.mono (fun i hi=>Or.inl hi:∀ i,i=r->i=r\/i=t)).trans (a1.mono (fun i hi=>Or.inr hi:∀ i,i=t->i=r\/i=t)))
   clear hm hn hi a0 a1 HS c0 c1 he;go_wp2;go_ret;rw [HS'.out];exact ⟨rfl,HR.out,HM.out⟩
theorem jgE:∀ (l:List UInt8) (i u:Nat),i<=9->u<2 ^ (7*i)->(yT i u l).2.1<2 ^ 64
 | [],i,u,_,_=>by unfold yT;exact (show (0:Nat)<2 ^ 64 by decide)
 | c::l,i,u,hi,hu=>by
  unfold yT
  split
  . exact (show (0:Nat)<2 ^ 64 by decide)
  .
   rename_i hf
   have hc:=c.toNat_lt;have h2:(2:Nat) ^ (7*i)<=2 ^ 63:=Nat.pow_le_pow_right (by omega) (by omega)
   split
   .
    have h1:=(jlc (m:=c.toNat) (i:=i) (by omega) hi (by omega)).1
    show u+c.toNat*2 ^ (7*i)<2 ^ 64;omega
   .
    refine jgE l (i+1) _ (by omega) ?_
    rw [show 7*(i+1)=7*i+7 by omega,pO]
    have:(c.toNat-128+1)*2 ^ (7*i)<=128*2 ^ (7*i):=qQ _ (by omega)
    rw [pf] at this;rw [wS (2 ^ (7*i)) (2 ^ 7)];omega
theorem jml (l:List UInt8):(jX l).2.1<2 ^ 64:=jgE l 0 0 (by omega) (by omega)
theorem TkM.num_lt (s:TkM):s.num.1<2 ^ 64:=by
 unfold TkM.num
 split
 .
  split
  . exact jml _
  . exact (show (0:Nat)<2 ^ 64 by decide)
 . exact (show (0:Nat)<2 ^ 64 by decide)
theorem ja6 (n:Nat)(h:n<2 ^ 64):IntKind.i64.wrap (n:Int)=yC n:=by
 unfold yC;by_cases h2:n<=9223372036854775807
 . rw [qf h2];simp [IntKind.wrap,IntKind.bits,IntKind.signed];omega
 . rw [qh h2];simp [IntKind.wrap,IntKind.bits,IntKind.signed];omega
def xG (s:TkM)(cs:Array Value)(offs:List Nat):TkM × Array Value:=offs.foldl (fun p o=>(p.1.int.2,p.2.setIfInBounds o p.1.int.1)) (s,cs)
theorem jez (s:TkM)(cs:Array Value)(offs:List Nat)(o:Nat):xG s cs (offs ++ [o])=((xG s cs offs).1.int.2,(xG s cs offs).2.setIfInBounds o (.int .i64 (xG s cs offs).1.int.1)):=by simp [xG]
theorem jex (s:TkM)(cs:Array Value):∀ offs:List Nat,(xG s cs offs).2.size=cs.size:=by
 intro offs;unfold xG;have:∀ (offs:List Nat) (p:TkM × Array Value),(offs.foldl (fun p o=>(p.1.int.2,p.2.setIfInBounds o p.1.int.1)) p).2.size=p.2.size:=by
  intro offs
  induction offs with
  | nil=>intro p;rfl
  | cons o offs ih=>intro p;rw [List.foldl_cons,ih];simp
 exact this offs (s,cs)
theorem zX (t r eb sb:Nat)(v:Value)(s:TkM)(offs:List Nat)(cs:Array Value)(T Ts:TypeId)(w:World)(h:IsT w t r v s)(hb:Box w eb cs T)(hs:Box w sb (offs.map (fun o=>Value.pointer (some ⟨eb,o,none⟩))).toArray Ts)(ho:∀ o∈offs,o<cs.size)(h1:eb≠t)(h2:eb≠r)(h3:sb≠t)(h4:sb≠r)(h5:sb≠eb)(h6:v.ownBlock≠some eb)(hn:offs.length<=100) :
  Calls prog 128 #[.pointer (some ⟨t,0,none⟩),.slice (some ⟨sb,0,none⟩) offs.length offs.length] w fun e w'=>e=.returned (.tuple #[])/\IsT w' t r v (xG s cs offs).1/\Box w' eb (xG s cs offs).2 T/\Mod (fun i=>i=r\/i=t\/i=eb) w w':=by
 go_enter func128,ntmps128;go_wp2
 go_loopg [9] offs.length (fun gk iv wr=>∃ j:Nat,gk+j=offs.length/\iv=.int .i64 (j:Int)/\IsT wr t r v (xG s cs (offs.take j)).1/\Box wr eb (xG s cs (offs.take j)).2 T/\Mod (fun i=>i=r\/i=t\/i=eb) w wr)
 case atStart=>exact ⟨0,rfl,rfl,h,hb,Mod.refl _ _⟩
 case round =>
  obtain ⟨j,b0,rfl,hT,hB,hM⟩:=hrel;by_cases hj:j<offs.length
  .
   obtain ⟨o,a8⟩:=Nm (offs[j]);have b3:o<cs.size:=ho o (by rw [a8];exact qy _)
   have b2:offs.take (j+1)=offs.take j ++ [o]:=by rw [qk hj,a8]
   have b1:=jex s cs (offs.take j);have H:=Hd (jez s cs (offs.take j) o);rw [<- b2] at H;generalize xG s cs (offs.take j)=p at hT hB H b1;obtain ⟨s1,cs1⟩:=p;simp only at hT hB H b1;have c0:wr.cell? ⟨sb,j,none⟩=some (.pointer (some ⟨eb,o,none⟩)):=(hs.mod hM (by rintro (e | e | e) <;> contradiction)).cell j _ (by simp [hj,a8])
   have J:=Hd (vi t r v s1 wr hT);have a9:=s1.num_lt;have A:=Hd (show s1.int=(yC s1.num.1,⟨s1.num.2.l,s1.num.2.k,s1.num.2.er,s1.num.2.big || !(decide (s1.num.1<=9223372036854775807))⟩) from rfl)
   generalize s1.num=q at J a9 A;obtain ⟨x,s2⟩:=q;simp only at J a9 A;have zx:=ja6 x a9;have K:=Hd hB;have I:=Hd hM;have F:=Hd b0;have G:=Hd hj;have k0:(0:Int)<=(j:Int):=by omega
   have k1:(j:Int)<(offs.length:Int):=by omega
   have L:=Hd (show o<cs1.size by omega)
   clear hT hB hM b0 hj a9 b1 b2 a8 b3;go_wp2_with fail;refine J.1.mono ?_;rintro e w1 ⟨rfl,a0,a6⟩;have a7:=K.1.mod a6 (by rintro (e | e) <;> contradiction)
   have d2:=a0.box.cell 2 _ rfl;have f2:=a0.box.free 2
   cases hbg:s2.big
   rotate_left
   .
    rw [hbg] at d2;have a4:=a0.box.set 2 (.bool true);have a2:=Mod.set (fun i=>i=t) w1 ⟨t,2,none⟩ (.bool true) rfl
    have a3:=a7.mod a2 h1;have e0:=a3.cell o _ (Array.getElem?_eq_getElem L.1);have f0:=a3.free o;have a1:=Mod.set (fun i=>i=eb) (w1.setCell ⟨t,2,none⟩ (.bool true)) ⟨eb,o,none⟩ (yC x) rfl
    have B:=Hd (a3.set o (yC x));have a5:IsT ((w1.setCell ⟨t,2,none⟩ (.bool true)).setCell ⟨eb,o,none⟩ (yC x)) t r v ⟨s2.l,s2.k,s2.er,true⟩ :=
     ⟨a4.mod a1 (fun e=>h1 e.symm),(a0.rd.mod a2 (fun e=>a0.ne e.symm) (fun b hb e=>a0.nv (by rw [hb,e]))).mod a1 (fun e=>h2 e.symm) (fun b hb e=>h6 (by rw [hb,e])),a0.ne,a0.nv,fun b hb=>by have:=a0.vl b hb;simp;omega⟩
    have C:=Hd a5;have D:=Hd (((I.1.trans (a6.mono (fun i hi=>hi.elim (fun e=>Or.inl e) (fun e=>Or.inr (Or.inl e))))).trans (a2.mono (fun i hi=>.inr (.inl hi)))).trans (a1.mono (fun i hi=>.inr (.inr hi))))
    have E:=Hd (show xG s cs (offs.take (j+1))=(⟨s2.l,s2.k,s2.er,true⟩,cs1.setIfInBounds o (yC x)) by rw [H.1,A.1];simp only [hbg,Bool.true_or])
    clear a4 a2 a3 a1 a5 a0 a7 a6 H A hbg;go_wp2
    go_roundg (offs.length-(j+1))
    case measure=>have:=F.1;have:=G.1;omega
    case rel=>exact ⟨j+1,by have:=F.1;have:=G.1;omega,by go_num,by rw [E.1];exact C.1,by rw [E.1];exact B.1,D.1⟩
   .
    rw [hbg] at d2;by_cases hx:(9223372036854775807:Int)<(x:Int)
    .
     have hd:decide (x<=9223372036854775807)=false:=qv (by omega)
     have a4:=a0.box.set 2 (.bool true);have a2:=Mod.set (fun i=>i=t) w1 ⟨t,2,none⟩ (.bool true) rfl
     have a3:=a7.mod a2 h1;have e0:=a3.cell o _ (Array.getElem?_eq_getElem L.1);have f0:=a3.free o;have a1:=Mod.set (fun i=>i=eb) (w1.setCell ⟨t,2,none⟩ (.bool true)) ⟨eb,o,none⟩ (yC x) rfl
     have B:=Hd (a3.set o (yC x));have a5:IsT ((w1.setCell ⟨t,2,none⟩ (.bool true)).setCell ⟨eb,o,none⟩ (yC x)) t r v ⟨s2.l,s2.k,s2.er,true⟩ :=
      ⟨a4.mod a1 (fun e=>h1 e.symm),(a0.rd.mod a2 (fun e=>a0.ne e.symm) (fun b hb e=>a0.nv (by rw [hb,e]))).mod a1 (fun e=>h2 e.symm) (fun b hb e=>h6 (by rw [hb,e])),a0.ne,a0.nv,fun b hb=>by have:=a0.vl b hb;simp;omega⟩
     have C:=Hd a5;have D:=Hd (((I.1.trans (a6.mono (fun i hi=>hi.elim (fun e=>Or.inl e) (fun e=>Or.inr (Or.inl e))))).trans (a2.mono (fun i hi=>.inr (.inl hi)))).trans (a1.mono (fun i hi=>.inr (.inr hi))))
     have E:=Hd (show xG s cs (offs.take (j+1))=(⟨s2.l,s2.k,s2.er,true⟩,cs1.setIfInBounds o (yC x)) by rw [H.1,A.1];simp only [hbg,hd,pZ,Bool.not_false])
     clear a4 a2 a3 a1 a5 a0 a7 a6 H A hbg hd;go_wp2
     go_roundg (offs.length-(j+1))
     case measure=>have:=F.1;have:=G.1;omega
     case rel=>exact ⟨j+1,by have:=F.1;have:=G.1;omega,by go_num,by rw [E.1];exact C.1,by rw [E.1];exact B.1,D.1⟩
    .
     have hd:decide (x<=9223372036854775807)=true:=qz (by omega)
     have b4:decide ((9223372036854775807:Int)<(x:Int))=false:=qv hx;clear hx;have a4:=a0.box.set 2 (.bool false);have a2:=Mod.set (fun i=>i=t) w1 ⟨t,2,none⟩ (.bool false) rfl
     have a3:=a7.mod a2 h1;have e0:=a3.cell o _ (Array.getElem?_eq_getElem L.1);have f0:=a3.free o;have a1:=Mod.set (fun i=>i=eb) (w1.setCell ⟨t,2,none⟩ (.bool false)) ⟨eb,o,none⟩ (yC x) rfl
     have B:=Hd (a3.set o (yC x));have a5:IsT ((w1.setCell ⟨t,2,none⟩ (.bool false)).setCell ⟨eb,o,none⟩ (yC x)) t r v ⟨s2.l,s2.k,s2.er,false⟩ :=
      ⟨a4.mod a1 (fun e=>h1 e.symm),(a0.rd.mod a2 (fun e=>a0.ne e.symm) (fun b hb e=>a0.nv (by rw [hb,e]))).mod a1 (fun e=>h2 e.symm) (fun b hb e=>h6 (by rw [hb,e])),a0.ne,a0.nv,fun b hb=>by have:=a0.vl b hb;simp;omega⟩
     have C:=Hd a5;have D:=Hd (((I.1.trans (a6.mono (fun i hi=>hi.elim (fun e=>Or.inl e) (fun e=>Or.inr (Or.inl e))))).trans (a2.mono (fun i hi=>.inr (.inl hi)))).trans (a1.mono (fun i hi=>.inr (.inr hi))))
     have E:=Hd (show xG s cs (offs.take (j+1))=(⟨s2.l,s2.k,s2.er,false⟩,cs1.setIfInBounds o (yC x)) by rw [H.1,A.1];simp only [hbg,hd,pZ,Bool.not_true])
     clear a4 a2 a3 a1 a5 a0 a7 a6 H A hbg hd;go_wp2
     go_roundg (offs.length-(j+1))
     case measure=>have:=F.1;have:=G.1;omega
     case rel=>exact ⟨j+1,by have:=F.1;have:=G.1;omega,by go_num,by rw [E.1];exact C.1,by rw [E.1];exact B.1,D.1⟩
  .
   have ht:offs.take j=offs:=ql (by omega)
   rw [ht] at hT hB;have k1:¬ (j:Int)<(offs.length:Int):=by omega
   have M:=Hd hT;have K:=Hd hB;have I:=Hd hM;clear hT hB hM b0 ht hj;go_wp2;refine pE (wZ rfl _ _ _) rfl ?_;exact ⟨rfl,M.1,K.1,I.1⟩
def jW:EvtM:=⟨0,ju,0,0⟩
def jY (s:TkM):SesM × TkM :=
 let a:=s.int
 let b:=a.2.int
 let c:=b.2.int
 let d:=c.2.int
 let f:=d.2.int
 let u:=f.2.txt
 let l:=u.2.txt
 let sc:=l.2.num
 let g:=sc.2.int
 let h:=g.2.int
 let i:=h.2.int
 let j:=i.2.int
 (⟨a.1,b.1,c.1,d.1,f.1,u.1,l.1,sc.1,g.1,h.1,i.1,j.1⟩,j.2)
def vI (s:TkM)(e:EvtM):Int × EvtM:=if s.er=0 then (if s.k<s.l.length then (3,jW) else if s.big=true then (1,jW) else if jM e=true then (0,e) else (1,jW)) else (s.er,jW)
def vT (l:List UInt8):Int × EvtM :=
 let p:=(⟨l,0,0,false⟩:TkM).num
 if p.2.er=0 then (if 2<p.1 then (1,jW) else if p.1=0 then vI (jY p.2).2 ⟨0,(jY p.2).1,0,0⟩
  else if p.1=1 then vI p.2.int.2 ⟨1,ju,p.2.int.1,0⟩ else vI p.2.int.2 ⟨2,ju,0,p.2.int.1⟩) else (p.2.er,jW)
structure DecSt (w0 w:World)(t r b2:Nat)(v:Value)(s:TkM):Prop where
 it:IsT w t r v s
 bz:Box w b2 jW.cells 47
 bel:Below w0.heap.size w0 w
 n1:b2≠t
 n2:b2≠r
 nv:v.ownBlock≠some b2
 g1:w0.heap.size<=t
 g2:w0.heap.size<=r
 g3:w0.heap.size<=b2
theorem DecSt.below {s:TkM}(h:DecSt w0 w t r b2 v s)(hb:Below w.heap.size w w'):DecSt w0 w' t r b2 v s :=
 ⟨h.it.below hb,h.bz.below hb,h.bel.trans (hb.mono h.bel.size),h.n1,h.n2,h.nv,h.g1,h.g2,h.g3⟩
theorem DecSt.step {s s':TkM}(h:DecSt w0 w t r b2 v s)(hi:IsT w' t r v s')(hm:Mod (fun i=>i=r\/i=t) w w'):DecSt w0 w' t r b2 v s' :=
 ⟨hi,h.bz.mod hm (fun e=>e.elim h.n2 h.n1),h.bel.trans (hm.below h.bel.size (fun _ hi=>hi.elim (fun e=>e ▸ h.g2) (fun e=>e ▸ h.g1))),h.n1,h.n2,h.nv,h.g1,h.g2,h.g3⟩
theorem DecSt.mod {eb:Nat}{s:TkM}(h:DecSt w0 w t r b2 v s)(hm:Mod (fun i=>i=eb) w w')(h1:eb≠t)(h2:eb≠r)(h3:eb≠b2)(h4:v.ownBlock≠some eb)(h5:w0.heap.size<=eb):DecSt w0 w' t r b2 v s :=
 ⟨h.it.mod hm (fun e=>h1 e.symm) (fun e=>h2 e.symm) (fun b hb e=>h4 (by rw [hb,e])),h.bz.mod hm (fun e=>h3 e.symm),h.bel.trans (hm.below h.bel.size (fun i hi=>by rw [hi];exact h5)),h.n1,h.n2,h.nv,h.g1,h.g2,h.g3⟩
theorem DecSt.ints {eb:Nat}{s s':TkM}(h:DecSt w0 w t r b2 v s)(hi:IsT w' t r v s')(hm:Mod (fun i=>i=r\/i=t\/i=eb) w w')(h3:eb≠b2)(h5:w0.heap.size<=eb):DecSt w0 w' t r b2 v s' :=
 ⟨hi,h.bz.mod hm (fun e=>e.elim h.n2 (fun e=>e.elim h.n1 (fun e=>h3 e.symm))),h.bel.trans (hm.below h.bel.size (fun _ hi=>hi.elim (fun e=>e ▸ h.g2) (fun e=>e.elim (fun e=>e ▸ h.g1) (fun e=>e ▸ h5)))),h.n1,h.n2,h.nv,h.g1,h.g2,h.g3⟩
theorem EvtM.one (e:EvtM):∀ v∈e.cells.toList,v.oneCell'=true:=by
 intro v hv;unfold EvtM.cells at hv;simp only [qH,qO,wM] at hv
 rcases hv with rfl | rfl | rfl | rfl | rfl | rfl | rfl | rfl | rfl | rfl | rfl | rfl | rfl | rfl | rfl <;> rfl
theorem Box.thereE {t:TypeId}(h:Box w b e.cells t):w.there b 0 e.cells.toList.length:=h.there 0 15 (by show 0+15<=15;decide)
theorem Box.thereF {t:TypeId}(h:Box w b e.cells t)(f:EvtM):w.there b 0 f.cells.toList.length:=h.there 0 15 (by show 0+15<=15;decide)
theorem Box.rangeE {t:TypeId}(h:Box w b e.cells t):w.rangeAt b 0 e.cells.toList:=h.range 0 _ (fun j v hv=>by rw [qA];simpa using hv)
theorem Box.setAll {cs:Array Value}{t:TypeId}(h:Box w b cs t)(vs:List Value)(hs:vs.length=cs.size):Box (w.setCells b 0 vs) b vs.toArray t:=by
 obtain ⟨cs',h1,h2,h3,_⟩:=Box.setCells vs 0 h (by omega)
 have e1:cs'=vs.toArray:=by
  apply Array.ext_getElem?
  intro j;by_cases hj:j<vs.length
  .
   have:=h3 j _ (List.getElem?_eq_getElem hj);rw [qA] at this;rw [this,List.getElem?_toArray,List.getElem?_eq_getElem hj]
  . rw [Array.getElem?_eq_none (by omega),Array.getElem?_eq_none (by simp;omega)]
 rw [<- e1];exact h1
theorem Box.setE {t:TypeId}(h:Box w b e.cells t)(f:EvtM):Box (w.setCells b 0 f.cells.toList) b f.cells t:=by
 have:=h.setAll f.cells.toList rfl
 rwa [Array.toArray_toList] at this
theorem zb {P:Program}{op:Oper}{K:Act->World->Prop}(ty:TypeId)(x y:Operand)(ho:op.op=.store ty x y)(b o:Nat)(cs:List Value)(hx:a.eval x=.pointer (some ⟨b,o,none⟩))(hy:a.eval y=.agg cs.toArray)(ht:w.there b o cs.length)(hi:(P.info? ty).map (·.size)=some cs.length)(h1:∀ v∈cs,v.oneCell'=true)(h:K (a.put op.dst undef) (w.setCells b o cs)):op.wp P a w K Q:=by
 refine wp_store_mid ty x y ho b o cs.toArray hx hy ?_ ?_ (pV h1) ?_
 . rw [wF];exact ht
 . rw [wF];exact hi
 . exact h
theorem DecSt.out {s:TkM}(h:DecSt w0 w t r b2 v s)(f:EvtM):Box (w.setCells b2 0 f.cells.toList) b2 f.cells 47/\Below w0.heap.size w0 (w.setCells b2 0 f.cells.toList):=by
 have hb:=h.bz.setE f;have hg:=h.g3;generalize f.cells.toList=L at hb |-;have hm:=Mod.setCells (fun k=>k=b2) b2 rfl L 0 w
 exact ⟨hb,h.bel.trans (hm.below h.bel.size (fun _ hi=>hi ▸ hg))⟩
theorem jjH (h:jM e=true):∃ t u,ofV e=.iface t u:=by
 unfold ofV;rw [qf h]
 split
 . exact ⟨_,_,rfl⟩
 split
 . exact ⟨_,_,rfl⟩
 . exact ⟨_,_,rfl⟩
theorem jjE (l:List UInt8):(jL l).2.1.length<=32:=by
 unfold jL
 split
 .
  split
  . simp
  .
   split
   . simp
   . rw [qr];omega
 . simp
theorem TkM.txt_len (s:TkM):s.txt.1.length<=32:=by
 unfold TkM.txt
 split
 .
  split
  . exact jjE _
  . simp
 . simp
theorem xF:Hid (jW.cells=jW.cells.toList.toArray):=qe rfl
structure ExS (w0:World)(t b2:Nat)(er:Value)(w':World):Prop where
 ce:w'.cell? ⟨t,1,none⟩=some er
 bz:Box w' b2 jW.cells 47
 bel:Below w0.heap.size w0 w'
 ne:b2≠t
 ge:w0.heap.size<=b2
theorem ExS.drew {er:Value}(h:ExS w0 t b2 er w):ExS w0 t b2 er w.drew:=⟨h.ce,h.bz,h.bel.drew,h.ne,h.ge⟩
theorem ExS.store {er:Value}(h:ExS w0 t b2 er w):ExS w0 t b2 er (w.setCells b2 0 jW.cells.toList):=by
 have hb:=h.bz.setE jW;generalize jW.cells.toList=L at hb |-;have hm:=Mod.setCells (fun k=>k=b2) b2 rfl L 0 w
 have a0:t<w.heap.size:=World.block_lt_of_cell? w _ h.ce;exact ⟨by rw [World.cell?_of_block (w:=w) (hm.block t a0 (fun e=>h.ne e.symm))];exact h.ce,hb,h.bel.trans (hm.below h.bel.size (fun _ hi=>hi ▸ h.ge)),h.ne,h.ge⟩
theorem jbH:(prog.info? 45).map (fun i=>(i.zero,i.size,i.bytes))=some (some (.agg #[(0:Int),(0:Int),(0:Int),(0:Int),(0:Int),.string ⟨#[]⟩,.string ⟨#[]⟩,.int .u64 0,(0:Int),(0:Int),(0:Int),(0:Int)]),12,112):=by kernel_rfl
def OwnS (w:World)(base:Nat)(v:Value)(l:List SesM):Prop:=w.ownsRow base 45 12 v l.length (yS l)
theorem OwnS.nil (w:World)(base:Nat):OwnS w base (.slice none 0 0) []:=⟨rfl,.inl ⟨rfl,rfl⟩⟩
theorem OwnS.rd {base:Nat}(h:OwnS w base v l):RdS w v l:=js h
theorem OwnS.below {base:Nat}(h:OwnS w base v l)(hb:Below w.heap.size w w'):OwnS w' base v l:=jq h hb
theorem OwnS.slice {base:Nat}(h:OwnS w base v l):∃ a cap,v=.slice a l.length cap/\l.length<=cap:=by
 obtain ⟨a,cap,h1,h2,_⟩:=h.rd.slice;exact ⟨a,cap,h1,h2⟩
theorem OwnS.lt {base:Nat}(h:OwnS w base v l):∀ k,v.ownBlock=some k->base<=k/\k<w.heap.size:=jbX h
theorem OwnS.mod {base:Nat}{F:Nat->Prop}(h:OwnS w base v l)(hm:Mod F w w')(hb:∀ k,v.ownBlock=some k->¬ F k):OwnS w' base v l:=yG h hm hb
theorem OwnS.base {base base':Nat}(h:OwnS w base v l)(hb:base'<=base):OwnS w base' v l:=jdy h hb
theorem xh {P:Program}{ops:Array Oper}{rest:List Oper}{op:Oper}(hw:Region.wanted op (yielded ops a.tmps)=true)(t:TypeId)(n:Nat)(parts:Array (Nat × Operand))(ho:op.op=.buildSlice t n parts)(vals:Array (Nat × Value))(hv:(parts.map fun (i,x)=>(i,a.eval x))=vals)(cs:Array Value)(e:TypeId)(hr:(Instr.buildSlice t n vals).run P w=.ok (.slice (some ⟨w.heap.size,0,none⟩) n n) (w.alloc (.cells cs e)))(h:∀ w',Hid (w'=w.alloc (.cells cs e))->wpList P ops Q rest (a.put op.dst (.slice (some ⟨w.heap.size,0,none⟩) n n)) w'):wpList P ops Q (op::rest) a w:=by
 rw [wpList,qf hw];refine .inl ?_;unfold Oper.wp execOp;simp only [ho,wu,hv,hr,qR,wB];exact h _ (qe rfl)
theorem vL (s:SesM)(w:World):(Instr.buildSlice 28 1 #[(0,.agg s.cells)]).run prog w=.ok (.slice (some ⟨w.heap.size,0,none⟩) 1 1) (w.alloc (.cells s.cells 45)):=by kernel_rfl
theorem jag {ops:Array Oper}{rest:List Oper}{o:Oper}(a2:o.guard=none)(s x:Operand)(ho:o.op=.call { callee:=.builtin .append,args:=#[s,x],argTypes:=#[28,28] })(base:Nat)(v:Value)(l:List SesM)(hs:a.eval s=v)(a1:OwnS w base v l)(ad:Addr)(c:Nat)(y:SesM)(hx:a.eval x=.slice (some ad) 1 c)(hy:∀ j u,y.cells.toList[j]?=some u->w.cell? (ad.add j)=some u)(a6:l.length+1<=1256584717458)(a0:base<=w.heap.size)(h:∀ v' w',OwnS w' base v' (l ++ [y])->w.grownBy w' v.ownBlock->xj w v v'->wpList prog ops Q rest (a.put o.dst v') w'):wpList prog ops Q (o::rest) a w:=by
 obtain ⟨i0,hi,a3,a4,a5⟩:=wI jbH;refine yb a2 s x 28 ho base 45 i0 _ 12 112 underlying28 hi a3 a4 a5 rfl (by decide) v l.length (yS l) hs a1 ad 1 c y.cells.toList hx rfl hy y.oneS (by unfold maxLen;omega) (by omega) a0 (fun v' w' h1 h2 h3=>h v' w' ?_ h2 h3)
 unfold OwnS;rw [uf,jfw,qd];exact h1
theorem xu (w:World)(s:SesM)(t:TypeId):∀ j u,s.cells.toList[j]?=some u->(w.alloc (.cells s.cells t)).cell? ((⟨w.heap.size,0,none⟩:Addr).add j)=some u:=fun j u hj=>World.news_of_block (ww w (.cells s.cells t)) j u hj
theorem jeK (v:Value)(l:List SesM)(w:World)(hv:RdS w v l)(hn:l.length<=1256584717457) :
  Calls prog 84 #[v] w fun e w'=>∃ o,e=.returned o/\OwnS w' w.heap.size o l/\Below w.heap.size w w':=by
 obtain ⟨a,cap,rfl,a6,b2⟩:=hv.slice;have G:=Hd hv;have b0:l.length<=9223372036854775807:=by omega
 obtain ⟨n,hN⟩:=Nm (l.length);rw [<- hN] at b0 hn G a6 |-;have I:=Hd hN;have J:=Hd hn;clear hv a6 hN hn;go_enter func84,ntmps84;go_wp2
 go_loopg [3,4] n (fun gk o iv wr=>∃ k:Nat,gk+k=n/\iv=.int .i64 (k:Int)/\OwnS wr w.heap.size o (l.take k)/\Below w.heap.size w wr)
 case atStart=>exact ⟨0,rfl,rfl,OwnS.nil _ _,qG _ _⟩
 case round =>
  obtain ⟨k,a7,rfl,a0,hb⟩:=hrel;have k0:(0:Int)<=(k:Int):=by omega
  have D:=Hd a7;have C:=Hd a0;have F:=Hd hb;clear a7;by_cases hk:k<n
  .
   have k1:(k:Int)<(n:Int):=by omega
   have a3:k<l.length:=by have:=I.1;omega
   obtain ⟨s,hs⟩:=Nm (l[k]);have hV:=(G.1.below hb);obtain ⟨rb,ro,b1,a1⟩:=hV.row k a3;subst b1;rw [<- hs] at a1;have O:=Hd (show l.take (k+1)=l.take k ++ [s] by rw [qk a3,hs])
   have A:=Hd a1;have K:=Hd hk;have L:=Hd (show (l.take k).length+1<=1256584717458 by rw [qr];have:=J.1;omega)
   have P:=Hd hb.size;clear a3 hs a1 hV hb a0 hk
   go_wp2_with (with_reducible refine Lk A.1 underlying45 ?_)
   intro cv a8;have ecv:cv=s.cells:=by rw [a8.out]
   subst ecv;clear a8
   go_wp2_with (refine Bs (vL s wr) ?_)
   intro w2 a4;have a5:Below wr.heap.size wr w2:=by rw [a4.out];exact ja _ _
   have E:=Hd (show ∀ j u,s.cells.toList[j]?=some u->w2.cell? ((⟨wr.heap.size,0,none⟩:Addr).add j)=some u by rw [a4.out];exact xu wr s _)
   have B:=Hd (C.1.below a5);have H:=Hd (F.1.trans (a5.mono F.1.size));clear a4 a5 C A
   go_wp2_with (at_builtin;refine jag rfl _ _ rfl w.heap.size _ (l.take k) rfl B.1 ⟨wr.heap.size,0,none⟩ 1 s rfl E.1 L.1 (by have:=H.1.size;omega) ?_)
   intro v' w3 a2 a9 _;have M:=Hd (H.1.trans (je a9 H.1.size (fun q hq=>(B.1.lt q hq).1)))
   have N:=Hd a2;clear a9 a2 B H E;go_wp2
   go_roundg (n-(k+1))
   case measure=>have:=D.1;have:=K.1;omega
   case rel=>exact ⟨k+1,by have:=D.1;have:=K.1;omega,by go_num,by rw [O.1];exact N.1,M.1⟩
  .
   have k1:¬ (k:Int)<(n:Int):=by omega
   rw [ql (by have:=I.1;omega)] at C
   clear hk a0 hb;go_wp2;go_ret;exact ⟨_,rfl,C.1,F.1⟩
theorem uH (c b:Int)(v:Value)(l:List SesM)(w:World)(hv:RdS w v l)(hn:l.length<=1256584717457) :
  Calls prog 47 #[.agg #[c,b,v]] w fun e w'=>∃ o,e=.returned (.agg #[c,b,o])/\OwnS w' w.heap.size o l/\Below w.heap.size w w':=by
 have A:=Hd hv;have H:=Hd (fun o o2 o3=>((ja w o).trans ((ja (w.alloc o) o2).mono (ja w o).size)).trans ((ja ((w.alloc o).alloc o2) o3).mono (qi (ja w o).size (ja _ o2).size)))
 obtain ⟨a,cap,rfl,_,_⟩:=hv.slice;clear hv;go_enter func47,ntmps47;go_wp2_with fail;refine (jeK _ l _ (A.1.below (H.1 _ _ _)) hn).mono ?_;rintro ev w1 ⟨o,rfl,a3,hb⟩;have B:=Hd a3;have C:=Hd ((H.1 _ _ _).trans (hb.mono (H.1 (.cells #[c,b,.slice a l.length cap] 30) (.cells #[(0:Int),(0:Int),.slice none 0 0] 30) (.cells #[c,b,.slice a l.length cap] 30)).size));have a0:Box w1 (w.heap.size+1) #[(0:Int),(0:Int),.slice none 0 0] 30:=by
  have h:=(Box.new (w.alloc (.cells #[c,b,.slice a l.length cap] 30)) #[(0:Int),(0:Int),.slice none 0 0] 30).below (ja _ (.cells #[c,b,.slice a l.length cap] 30));rw [qj] at h;exact h.below hb
 have a1:Box w1 (w.heap.size+1+1) #[c,b,.slice a l.length cap] 30:=by
  have h:=Box.new ((w.alloc (.cells #[c,b,.slice a l.length cap] 30)).alloc (.cells #[(0:Int),(0:Int),.slice none 0 0] 30)) #[c,b,.slice a l.length cap] 30;rw [qj,qj] at h;exact h.below hb
 have D:=Hd a0;have F:=Hd a1;obtain ⟨c0,c1,c2⟩:=C3 a1;have f2:=a1.free 2;obtain ⟨d0,g0,d1,g1,d2,g2⟩:=B3 a0;have E:=Hd (fun q hq=>(a3.lt q hq).1)
 clear a3 hb a0 a1 H A;obtain ⟨oa,oc,rfl,_⟩:=B.1.slice;go_wp2_with fail;have hm:∀ (W:World),Mod (fun q=>q=w.heap.size+1\/q=w.heap.size+1+1) w1 W->OwnS W w.heap.size (.slice oa l.length oc) l/\Below w.heap.size w W:=fun W hm=>by
  refine ⟨(B.1.base (by simp;omega)).mod hm (fun q hq e=>?_),C.1.trans (hm.below C.1.size (fun i hi=>by omega))⟩
  have:=E.1 q hq
  simp at this
  omega
 have a2:∀ (W:World) (q o:Nat) (v:Value),Mod (fun q=>q=w.heap.size+1\/q=w.heap.size+1+1) w1 W->(q=w.heap.size+1\/q=w.heap.size+1+1)->Mod (fun q=>q=w.heap.size+1\/q=w.heap.size+1+1) w1 (W.setCell ⟨q,o,none⟩ v):=fun W q o v h hq=>h.trans (Mod.set _ _ _ _ hq)
 refine Jc ?_ underlying30 ⟨_,rfl,hm _ (by
  refine a2 _ _ _ _ (a2 _ _ _ _ (a2 _ _ _ _ (a2 _ _ _ _ (Mod.refl _ _) ?_) ?_) ?_) ?_ <;> simp)⟩ (cs := [.int .i64 c,.int .i64 b,.slice oa l.length oc])
 have a4:Box ((((w1.setCell ⟨w.heap.size+1+1,2,none⟩ (.slice oa l.length oc)).setCell ⟨w.heap.size+1,0,none⟩ c).setCell ⟨w.heap.size+1,1,none⟩ b).setCell ⟨w.heap.size+1,2,none⟩ (.slice oa l.length oc)) (w.heap.size+1) #[c,b,.slice oa l.length oc] 30:=by
  have h:=(((D.1.set_other (p:=⟨w.heap.size+1+1,2,none⟩) (by simp) (.slice oa l.length oc)).set 0 c).set 1 b).set 2 (.slice oa l.length oc)
  exact h
 intro j v hv;rw [qA];exact a4.cell j v (by simpa using hv)
end Go.Proofs.YtgcnolapjppbpaaGreatDoor
