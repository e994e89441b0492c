/-
  Texts of one proof, one behind the other.
-/
import Derived.Test.YtgcnolapjppbpaaGreatDoorP37
import Derived.Test.YtgcnolapjppbpaaGreatDoorP12
import Derived.Test.YtgcnolapjppbpaaGreatDoorP16
import Derived.Test.YtgcnolapjppbpaaGreatDoorP17
import Derived.Deep.DeepCutAuto
import Derived.Deep.RegionHeld3
import Derived.Test.YtgcnolapjppbpaaGreatDoorP00
namespace Go.Proofs.YtgcnolapjppbpaaGreatDoor
open Go.RowKit _root_.Go.Proofs.Tryz
set_option maxRecDepth 100000
set_option maxHeartbeats 25600000
theorem jdo (v:Value)(l:List UInt8)(w:World)(h:Rd w v l.length (l.map V8))(a2:l.length≤1000000000000) :
  Calls prog 184 #[v,.int .i64 32] w fun e w'=>e=.returned (.tuple #[.string (SB (jN l).2.1),.int .i64 ((jN l).2.2:Int),.int .i64 (jN l).1])∧w'=w:=by
 have A:=Hd (vI v l w h a2);obtain ⟨R,hR⟩:=Nm (jN l);rw [← hR];unfold jN at hR;have a0:=ja6 l;generalize jW l=N at A hR a0;obtain ⟨er,n,u⟩:=N;simp only at A hR a0;have a3:=h;obtain ⟨a,cap,rfl,h1,h2,h3,_⟩:=a3;have B:=Hd h;clear h h3;go_enter func184,ntmps184;go_wp2_with fail;refine A.1.mono ?_;rintro e w1 ⟨rfl,rfl⟩;by_cases he:er=0;rotate_left
 ·
  have H:=Hd (show R=(er,[],0) by rw [hR,if_neg he])
  have g1:(er != 0)=true:=by simp [he]
  clear hR a0 he;go_wp2_with fail
  go_ret3
  rw [H.1];exact ⟨rfl,rfl⟩
 ·
  have hu:=a0 he;rw [if_pos he] at hR;subst he;by_cases hb:32<n
  ·
   have H:=Hd (show R=(3,[],0) by rw [hR,if_pos hb])
   have g1:(32:Int)<(n:Int):=by omega
   clear hR a0 hb hu;go_wp2_with fail
   go_ret3
   rw [H.1];exact ⟨rfl,rfl⟩
  ·
   rw [if_neg hb] at hR;obtain ⟨d,hd⟩:=Nm (l.length-u);have g1:¬ (32:Int)<(n:Int):=by omega
   have zd:IntKind.i64.wrap ((l.length:Int)-(u:Int))=(d:Int):=by simp [IntKind.wrap,IntKind.bits,IntKind.signed];omega
   have zd2:IntKind.u64.wrap (d:Int)=(d:Int):=jem d (by omega)
   have zd3:(l.length:Int)-(u:Int)=(d:Int):=by omega
   rw [← hd] at hR;by_cases hs:d<n
   ·
    have H:=Hd (show R=(2,[],0) by rw [hR,if_pos hs])
    have g2:(d:Int)<(n:Int):=by omega
    clear hR a0 hb hs hu hd;go_wp2_with fail
    go_ret3
    rw [H.1];exact ⟨rfl,rfl⟩
   ·
    obtain ⟨q,hq⟩:=Nm (u+n);obtain ⟨T,hT⟩:=Nm ((l.drop u).take n);have H:=Hd (show R=(0,T,q) by rw [hR,if_neg hs,hT,hq])
    have g2:¬ (d:Int)<(n:Int):=by omega
    have zn:IntKind.i64.wrap (n:Int)=(n:Int):=by simp [IntKind.wrap,IntKind.bits,IntKind.signed];omega
    have zs:IntKind.i64.wrap ((u:Int)+(n:Int))=(q:Int):=by simp [IntKind.wrap,IntKind.bits,IntKind.signed];omega
    have zs2:(u:Int)+(n:Int)=(q:Int):=by omega
    obtain ⟨tv,a1⟩:=Nm (xE a q cap u);have a4:∀ w,(Instr.slice 92 (.slice a l.length cap) (some (.int .i64 (u:Int))) (some (.int .i64 (q:Int))) none).run prog w=.ok tv w:=fun w=>by rw [a1];exact jfK a _ cap u q (by omega) (by omega) w
    have a5:(convert 92 9 tv).run prog w1=.ok (.string (SB T)) w1:=by
     have h5:=jj8 B.1 (show u≤q by omega) (by omega)
     rw [show q-u=n by omega,← a1,← hT] at h5
     exact vU T h5 (by rw [hT,List.length_take,List.length_drop];omega)
    clear hR a0 hb hs hu hd hq hT a1;go_wp2_with fail
    go_ret3
    rw [H.1];exact ⟨rfl,rfl⟩
structure IsRK (w:World)(t:Nat)(v:Value)(s:TkM):Prop where
 box:Box w t #[v,.int .i64 s.er,.bool s.big] 271
 rd:Rd w v s.rest.length (s.rest.map V8)
 ne:v.ownBlock≠some t
 sm:s.rest.length≤1000000000000
theorem IsRK.mod {w w':World}{t:Nat}{v:Value}{s:TkM}{F:Nat→Prop}(h:IsRK w t v s)(hm:Mod F w w')(h1:¬ F t)(h2:∀ b,v.ownBlock=some b→¬ F b):IsRK w' t v s :=
 ⟨h.box.mod hm h1,h.rd.keep (fun b hb hl=>hm.block b hl (h2 b hb)),h.ne,h.sm⟩
theorem IsRK.below {w w':World}{t:Nat}{v:Value}{s:TkM}(h:IsRK w t v s)(hb:Below w.heap.size w w'):IsRK w' t v s:=h.mod (Mod.of_below (F:=fun _=>False) hb) (fun h=>h) (fun _ _ h=>h)
theorem jeB (a:Option Addr)(n cap k:Nat):(xE a n cap k).ownBlock=(Value.slice a n cap).ownBlock:=by
 unfold xE;by_cases hc:cap=k
 · rw [if_pos hc];cases a <;> rfl
 ·
  rw [if_neg hc];cases a with
  | none=>rfl
  | some a=>simp only [Value.ownBlock,Option.map];unfold Addr.add;split <;> rfl
theorem jgE (l:List UInt8)(h:(jN l).1=0):(jN l).2.2≤l.length:=by
 unfold jN at h ⊢;by_cases h0:(jW l).1=0
 ·
  have hu:=ja6 l h0;rw [if_pos h0] at h ⊢
  split at h
  · exact absurd h (by decide)
  ·
   rename_i h32
   rw [if_neg h32]
   split at h
   · exact absurd h (by decide)
   ·
    rename_i hs
    rw [if_neg hs];show (jW l).2.2+(jW l).2.1≤l.length;omega
 · rw [if_neg h0] at h;exact absurd h h0
theorem xm (t:Nat)(v:Value)(s:TkM)(w:World)(h:IsRK w t v s) :
  Calls prog 145 #[.pointer (some ⟨t,0,none⟩)] w fun e w'=>e=.returned (.int .u64 (s.num.1:Int))∧(∃ v',IsRK w' t v' s.num.2∧v'.ownBlock=v.ownBlock)∧Mod (fun i=>i=t) w w':=by
 have a6:=h.rd;obtain ⟨a,cap,rfl,h1,h2,h3,_⟩:=a6;have H:=Hd h;have a8:=h.sm;have c0:=h.box.cell 0 _ rfl;have c1:w.cell? ⟨t,1,none⟩=some (.int .i64 s.er):=h.box.cell 1 _ rfl;have f0:=h.box.free 0;have f1:=h.box.free 1;by_cases he:s.er=0;rotate_left
 ·
  have A:=Hd (show s.num=(0,s) by unfold TkM.num;rw [if_neg he])
  have g1:(s.er != 0)=true:=by simp [he]
  clear h he;go_enter func145,ntmps145;go_wp2_with fail;go_ret;rw [A.1];exact ⟨rfl,⟨_,H.1,rfl⟩,Mod.refl _ _⟩
 ·
  have B:=Hd (vI _ s.rest w h.rd h.sm);have a1:=ja6 s.rest;have A:=Hd (show s.num=(if (jW s.rest).1=0 then ((jW s.rest).2.1,⟨s.l,s.k+(jW s.rest).2.2,0,s.big⟩) else (0,⟨s.l,s.k,(jW s.rest).1,s.big⟩)) by unfold TkM.num;rw [if_pos he])
  have E:=Hd (show ∀ u,({ l:=s.l,k:=s.k+u,er:=0,big:=s.big }:TkM).rest=s.rest.drop u from fun u=>by unfold TkM.rest;rw [List.drop_drop])
  have G:=Hd (show ∀ e,({ l:=s.l,k:=s.k,er:=e,big:=s.big }:TkM).rest=s.rest from fun e=>rfl)
  rw [he] at c1;generalize jW s.rest=N at B a1 A;obtain ⟨er,n,u⟩:=N;simp only at B a1 A;clear h;go_enter func145,ntmps145;go_wp2_with fail;refine B.1.mono ?_;rintro e w1 ⟨rfl,rfl⟩;by_cases hn:er=0
  ·
   have hu:=a1 hn;have HS':=Hd (show s.num=(n,⟨s.l,s.k+u,0,s.big⟩) by rw [A.1,if_pos hn])
   subst hn;have a7:=jfQ a s.rest.length cap u hu;have a3:=xD (k:=u) H.1.rd hu (by simp)
   rw [← List.map_drop] at a3;obtain ⟨tv,a4⟩:=Nm (xE a s.rest.length cap u);have a5:tv.ownBlock=(Value.slice a s.rest.length cap).ownBlock:=by rw [a4];exact jeB _ _ _ _
   rw [← a4] at a7 a3;have a0:=Mod.set (fun i=>i=t) w1 ⟨t,0,none⟩ tv rfl
   have a2:IsRK (w1.setCell ⟨t,0,none⟩ tv) t tv ⟨s.l,s.k+u,0,s.big⟩:=by
    refine ⟨?_,?_,by rw [a5];exact H.1.ne,by rw [E.1,List.length_drop];omega⟩
    ·
     have:=H.1.box.set 0 tv;rw [he] at this;exact this
    ·
     rw [E.1,List.length_drop];exact a3.keep (fun b hb hl=>a0.block b hl (fun e=>H.1.ne (by rw [← a5,hb,e])))
   obtain ⟨ta,tn,tc,rfl⟩:∃ ta tn tc,tv=.slice ta tn tc:=⟨_,_,_,a4⟩;have C:=Hd a2;have D:=Hd a0;have F:=Hd a5;clear a2 a0 a5 a3 a4 hu a1 A he;go_wp2_with fail;go_ret;rw [HS'.1];exact ⟨rfl,⟨_,C.1,F.1⟩,D.1⟩
  ·
   have HS':=Hd (show s.num=(0,⟨s.l,s.k,er,s.big⟩) by rw [A.1,if_neg hn])
   have g1:(er != 0)=true:=by simp [hn]
   have a0:=Mod.set (fun i=>i=t) w1 ⟨t,1,none⟩ (.int .i64 er) rfl
   have a2:IsRK (w1.setCell ⟨t,1,none⟩ (.int .i64 er)) t (.slice a s.rest.length cap) ⟨s.l,s.k,er,s.big⟩ :=
    ⟨H.1.box.set 1 _,H.1.rd.keep (fun b hb hl=>a0.block b hl (fun e=>H.1.ne (by rw [hb,e]))),H.1.ne,H.1.sm⟩
   have C:=Hd a2;have D:=Hd a0;clear a2 a0 a1 A he hn;go_wp2_with fail;go_ret;rw [HS'.1];exact ⟨rfl,⟨_,C.1,rfl⟩,D.1⟩
theorem vW (t:Nat)(v:Value)(s:TkM)(w:World)(h:IsRK w t v s) :
  Calls prog 170 #[.pointer (some ⟨t,0,none⟩)] w fun e w'=>e=.returned (.string (SB s.txt.1))∧(∃ v',IsRK w' t v' s.txt.2∧v'.ownBlock=v.ownBlock)∧Mod (fun i=>i=t) w w':=by
 have a6:=h.rd;obtain ⟨a,cap,rfl,h1,h2,h3,_⟩:=a6;have H:=Hd h;have a8:=h.sm;have c0:=h.box.cell 0 _ rfl;have c1:w.cell? ⟨t,1,none⟩=some (.int .i64 s.er):=h.box.cell 1 _ rfl;have f0:=h.box.free 0;have f1:=h.box.free 1;by_cases he:s.er=0;rotate_left
 ·
  have A:=Hd (show s.txt=([],s) by unfold TkM.txt;rw [if_neg he])
  have g1:(s.er != 0)=true:=by simp [he]
  clear h he;go_enter func170,ntmps170;go_wp2_with fail;go_ret;rw [A.1];exact ⟨rfl,⟨_,H.1,rfl⟩,Mod.refl _ _⟩
 ·
  have B:=Hd (jdo _ s.rest w h.rd h.sm);have a1:=jgE s.rest;have A:=Hd (show s.txt=(if (jN s.rest).1=0 then ((jN s.rest).2.1,⟨s.l,s.k+(jN s.rest).2.2,0,s.big⟩) else ([],⟨s.l,s.k,(jN s.rest).1,s.big⟩)) by unfold TkM.txt;rw [if_pos he])
  have E:=Hd (show ∀ u,({ l:=s.l,k:=s.k+u,er:=0,big:=s.big }:TkM).rest=s.rest.drop u from fun u=>by unfold TkM.rest;rw [List.drop_drop])
  have G:=Hd (show ∀ e,({ l:=s.l,k:=s.k,er:=e,big:=s.big }:TkM).rest=s.rest from fun e=>rfl)
  rw [he] at c1;generalize jN s.rest=N at B a1 A;obtain ⟨er,n,u⟩:=N;simp only at B a1 A;clear h;go_enter func170,ntmps170;go_wp2_with fail;refine B.1.mono ?_;rintro e w1 ⟨rfl,rfl⟩;by_cases hn:er=0
  ·
   have hu:=a1 hn;have HS':=Hd (show s.txt=(n,⟨s.l,s.k+u,0,s.big⟩) by rw [A.1,if_pos hn])
   subst hn;have a7:=jfQ a s.rest.length cap u hu;have a3:=xD (k:=u) H.1.rd hu (by simp)
   rw [← List.map_drop] at a3;obtain ⟨tv,a4⟩:=Nm (xE a s.rest.length cap u);have a5:tv.ownBlock=(Value.slice a s.rest.length cap).ownBlock:=by rw [a4];exact jeB _ _ _ _
   rw [← a4] at a7 a3;have a0:=Mod.set (fun i=>i=t) w1 ⟨t,0,none⟩ tv rfl
   have a2:IsRK (w1.setCell ⟨t,0,none⟩ tv) t tv ⟨s.l,s.k+u,0,s.big⟩:=by
    refine ⟨?_,?_,by rw [a5];exact H.1.ne,by rw [E.1,List.length_drop];omega⟩
    ·
     have:=H.1.box.set 0 tv;rw [he] at this;exact this
    ·
     rw [E.1,List.length_drop];exact a3.keep (fun b hb hl=>a0.block b hl (fun e=>H.1.ne (by rw [← a5,hb,e])))
   obtain ⟨ta,tn,tc,rfl⟩:∃ ta tn tc,tv=.slice ta tn tc:=⟨_,_,_,a4⟩;have C:=Hd a2;have D:=Hd a0;have F:=Hd a5;clear a2 a0 a5 a3 a4 hu a1 A he;go_wp2_with fail;go_ret;rw [HS'.1];exact ⟨rfl,⟨_,C.1,F.1⟩,D.1⟩
  ·
   have HS':=Hd (show s.txt=([],⟨s.l,s.k,er,s.big⟩) by rw [A.1,if_neg hn])
   have g1:(er != 0)=true:=by simp [hn]
   have a0:=Mod.set (fun i=>i=t) w1 ⟨t,1,none⟩ (.int .i64 er) rfl
   have a2:IsRK (w1.setCell ⟨t,1,none⟩ (.int .i64 er)) t (.slice a s.rest.length cap) ⟨s.l,s.k,er,s.big⟩ :=
    ⟨H.1.box.set 1 _,H.1.rd.keep (fun b hb hl=>a0.block b hl (fun e=>H.1.ne (by rw [hb,e]))),H.1.ne,H.1.sm⟩
   have C:=Hd a2;have D:=Hd a0;clear a2 a0 a1 A he hn;go_wp2_with fail;go_ret;rw [HS'.1];exact ⟨rfl,⟨_,C.1,rfl⟩,D.1⟩
def rAs (n:Nat):Int:=if n≤9223372036854775807 then (n:Int) else 0
def TkM.rint (s:TkM):Int × TkM:=(rAs s.num.1,s.int.2)
theorem jU (t:Nat)(v:Value)(s:TkM)(w:World)(h:IsRK w t v s) :
  Calls prog 144 #[.pointer (some ⟨t,0,none⟩)] w fun e w'=>e=.returned (.int .i64 s.rint.1)∧(∃ v',IsRK w' t v' s.rint.2∧v'.ownBlock=v.ownBlock)∧Mod (fun i=>i=t) w w':=by
 have B:=Hd (xm t v s w h);have a0:=s.num_lt;have H:=Hd (show s.rint=(rAs s.num.1,⟨s.num.2.l,s.num.2.k,s.num.2.er,s.num.2.big || !(decide (s.num.1≤9223372036854775807))⟩) from rfl)
 generalize s.num=q at B a0 H;obtain ⟨x,s2⟩:=q;simp only at B a0 H;clear h;go_enter func144,ntmps144;go_wp2_with fail;refine B.1.mono ?_;rintro e w1 ⟨rfl,⟨v',hK,hv⟩,hm⟩;by_cases hx:(9223372036854775807:Int)<(x:Int)
 ·
  have hd:decide (x≤9223372036854775807)=false:=decide_eq_false (by omega)
  have A:=Hd (show s.rint=(0,⟨s2.l,s2.k,s2.er,true⟩) by rw [H.1,hd];unfold rAs;rw [if_neg (by omega)];simp)
  have c2:=hK.box.cell 2 _ rfl;have f2:=hK.box.free 2;have a1:=Mod.set (fun i=>i=t) w1 ⟨t,2,none⟩ (.bool true) rfl
  have a2:IsRK (w1.setCell ⟨t,2,none⟩ (.bool true)) t v' ⟨s2.l,s2.k,s2.er,true⟩:=⟨hK.box.set 2 _,hK.rd.keep (fun b hb hl=>a1.block b hl (fun e=>hK.ne (by rw [hb,e]))),hK.ne,hK.sm⟩
  have C:=Hd a2;have D:=Hd (hm.trans a1);have E:=Hd hv;clear a2 a1 hm hv hK hd H a0;go_wp2_with fail;go_ret;rw [A.1];exact ⟨rfl,⟨_,C.1,E.1⟩,D.1⟩
 ·
  have hd:decide (x≤9223372036854775807)=true:=decide_eq_true (by omega)
  have a3:decide ((9223372036854775807:Int)<(x:Int))=false:=decide_eq_false hx;have A:=Hd (show s.rint=((x:Int),⟨s2.l,s2.k,s2.er,s2.big⟩) by rw [H.1,hd];unfold rAs;rw [if_pos (by omega)];simp)
  have zx:IntKind.i64.wrap (x:Int)=(x:Int):=by rw [jai x a0];unfold yz;rw [if_pos (by omega)]
  have C:=Hd hK;have D:=Hd hm;have E:=Hd hv;clear hm hv hK hd H a0 hx;go_wp2_with fail;go_ret;rw [A.1];exact ⟨rfl,⟨_,C.1,E.1⟩,D.1⟩
def yH (s:TkM):SesM × TkM :=
 let a:=s.rint
 let b:=a.2.rint
 let c:=b.2.rint
 let d:=c.2.rint
 let f:=d.2.rint
 let u:=f.2.txt
 let l:=u.2.txt
 let sc:=l.2.num
 let g:=sc.2.rint
 let h:=g.2.rint
 let i:=h.2.rint
 let j:=i.2.rint
 (⟨a.1,b.1,c.1,d.1,f.1,u.1,l.1,sc.1,g.1,h.1,i.1,j.1⟩,j.2)
structure BorSt (w0 w:World)(t:Nat)(v0 v:Value)(s:TkM)(E:SesM):Prop where
 k:IsRK w t v s
 vo:v.ownBlock=v0.ownBlock
 bx:Box w (w0.heap.size+1) E.cells 45
 bz:Box w w0.heap.size ju.cells 45
 md:Mod (fun i=>i=t) w0 w
 lt:t<w0.heap.size
 vl:∀ b,v0.ownBlock=some b→b<w0.heap.size
theorem BorSt.call {w0 w w':World}{t:Nat}{v0 v v':Value}{s s':TkM}{E:SesM}(h:BorSt w0 w t v0 v s E)(hk:IsRK w' t v' s')(hv:v'.ownBlock=v.ownBlock)(hm:Mod (fun i=>i=t) w w'):BorSt w0 w' t v0 v' s' E:=by
 have hl:=h.lt;exact ⟨hk,hv.trans h.vo,h.bx.mod hm (fun e=>by omega),h.bz.mod hm (fun e=>by omega),h.md.trans hm,h.lt,h.vl⟩
theorem BorSt.set {w0 w:World}{t:Nat}{v0 v:Value}{s:TkM}{E:SesM}(h:BorSt w0 w t v0 v s E)(j:Nat)(x:Value)(E':SesM)(he:E.cells.setIfInBounds j x=E'.cells):BorSt w0 (w.setCell ⟨w0.heap.size+1,j,none⟩ x) t v0 v s E':=by
 have hl:=h.lt;have a0:=Mod.set (fun i=>i=w0.heap.size+1) w ⟨w0.heap.size+1,j,none⟩ x rfl
 refine ⟨h.k.mod a0 (fun e=>by omega) (fun b hb e=>by have:=h.vl b (by rw [← h.vo];exact hb);omega),h.vo,?_,h.bz.mod a0 (fun e=>by omega),h.md.then a0 (fun i hi=>.inr (by omega)),h.lt,h.vl⟩
 have:=h.bx.set j x;rw [he] at this;exact this
theorem ve (t:Nat)(v:Value)(s:TkM)(w:World)(h:IsRK w t v s)(a5:∀ b,v.ownBlock=some b→b<w.heap.size) :
  Calls prog 146 #[.pointer (some ⟨t,0,none⟩)] w fun e w'=>e=.returned (.agg (yH s).1.cells)∧(∃ v',IsRK w' t v' (yH s).2∧v'.ownBlock=v.ownBlock)∧Mod (fun i=>i=t) w w':=by
 have a0:BorSt w ((w.alloc (.cells #[.int .i64 0,.int .i64 0,.int .i64 0,.int .i64 0,.int .i64 0,.string ⟨#[]⟩,.string ⟨#[]⟩,.int .u64 0,.int .i64 0,.int .i64 0,.int .i64 0,.int .i64 0] 45)).alloc (.cells #[.int .i64 0,.int .i64 0,.int .i64 0,.int .i64 0,.int .i64 0,.string ⟨#[]⟩,.string ⟨#[]⟩,.int .u64 0,.int .i64 0,.int .i64 0,.int .i64 0,.int .i64 0] 45)) t v v s ju:=⟨h.below (jn _ _ _),rfl,by have:=Box.new (w.alloc (.cells #[.int .i64 0,.int .i64 0,.int .i64 0,.int .i64 0,.int .i64 0,.string ⟨#[]⟩,.string ⟨#[]⟩,.int .u64 0,.int .i64 0,.int .i64 0,.int .i64 0,.int .i64 0] 45)) ju.cells 45;rw [World.size_alloc] at this;exact this,(Box.new w ju.cells 45).below (ja _ _),Mod.of_below (jn _ _ _),h.box.lt,a5⟩
 obtain ⟨B,hB⟩:=Nm (yH s);rw [← hB];unfold yH at hB;simp only at hB;have D:=Hd a0;have a1:=a0.lt;clear a0 h a5 a1;go_enter func146,ntmps146;go_wp2_with fail;refine (jU t _ s _ D.1.k).mono ?_;rintro e w1 ⟨rfl,⟨v1,hk,hv⟩,hm⟩;have hc:=D.1.call hk hv hm;clear hk hv hm D;generalize s.rint=p at hc hB ⊢;obtain ⟨n0,s1⟩:=p;simp only at hc hB ⊢;have x0:=hc.bx.cell 0 _ rfl;have y0:=hc.bx.free 0;have E:=Hd (hc.set 0 (.int .i64 n0) ⟨n0,0,0,0,0,[],[],0,0,0,0,0⟩ rfl);clear hc;go_wp2_with fail;refine (jU t _ s1 _ E.1.k).mono ?_;rintro e w2 ⟨rfl,⟨v2,hk,hv⟩,hm⟩;have hc:=E.1.call hk hv hm;clear hk hv hm E;clear x0 y0;generalize s1.rint=p at hc hB ⊢;obtain ⟨n1,s2⟩:=p;simp only at hc hB ⊢;have x1:=hc.bx.cell 1 _ rfl;have y1:=hc.bx.free 1;have F:=Hd (hc.set 1 (.int .i64 n1) ⟨n0,n1,0,0,0,[],[],0,0,0,0,0⟩ rfl);clear hc;go_wp2_with fail;refine (jU t _ s2 _ F.1.k).mono ?_;rintro e w3 ⟨rfl,⟨v3,hk,hv⟩,hm⟩;have hc:=F.1.call hk hv hm;clear hk hv hm F;clear x1 y1;generalize s2.rint=p at hc hB ⊢;obtain ⟨n2,s3⟩:=p;simp only at hc hB ⊢;have x2:=hc.bx.cell 2 _ rfl;have y2:=hc.bx.free 2;have G:=Hd (hc.set 2 (.int .i64 n2) ⟨n0,n1,n2,0,0,[],[],0,0,0,0,0⟩ rfl);clear hc;go_wp2_with fail;refine (jU t _ s3 _ G.1.k).mono ?_;rintro e w4 ⟨rfl,⟨v4,hk,hv⟩,hm⟩;have hc:=G.1.call hk hv hm;clear hk hv hm G;clear x2 y2;generalize s3.rint=p at hc hB ⊢;obtain ⟨n3,s4⟩:=p;simp only at hc hB ⊢;have x3:=hc.bx.cell 3 _ rfl;have y3:=hc.bx.free 3;have I:=Hd (hc.set 3 (.int .i64 n3) ⟨n0,n1,n2,n3,0,[],[],0,0,0,0,0⟩ rfl);clear hc;go_wp2_with fail;refine (jU t _ s4 _ I.1.k).mono ?_;rintro e w5 ⟨rfl,⟨v5,hk,hv⟩,hm⟩;have hc:=I.1.call hk hv hm;clear hk hv hm I;clear x3 y3;generalize s4.rint=p at hc hB ⊢;obtain ⟨n4,s5⟩:=p;simp only at hc hB ⊢;have x4:=hc.bx.cell 4 _ rfl;have y4:=hc.bx.free 4;have J:=Hd (hc.set 4 (.int .i64 n4) ⟨n0,n1,n2,n3,n4,[],[],0,0,0,0,0⟩ rfl);clear hc;go_wp2_with fail;refine (vW t _ s5 _ J.1.k).mono ?_;rintro e w6 ⟨rfl,⟨v6,hk,hv⟩,hm⟩;have hc:=J.1.call hk hv hm;clear hk hv hm J;clear x4 y4;generalize s5.txt=p at hc hB ⊢;obtain ⟨n5,s6⟩:=p;simp only at hc hB ⊢;have x5:=hc.bx.cell 5 _ rfl;have y5:=hc.bx.free 5;have K:=Hd (hc.set 5 (.string (SB n5)) ⟨n0,n1,n2,n3,n4,n5,[],0,0,0,0,0⟩ rfl);clear hc;go_wp2_with fail;refine (vW t _ s6 _ K.1.k).mono ?_;rintro e w7 ⟨rfl,⟨v7,hk,hv⟩,hm⟩;have hc:=K.1.call hk hv hm;clear hk hv hm K;clear x5 y5;generalize s6.txt=p at hc hB ⊢;obtain ⟨n6,s7⟩:=p;simp only at hc hB ⊢;have x6:=hc.bx.cell 6 _ rfl;have y6:=hc.bx.free 6;have L:=Hd (hc.set 6 (.string (SB n6)) ⟨n0,n1,n2,n3,n4,n5,n6,0,0,0,0,0⟩ rfl);clear hc;go_wp2_with fail;refine (xm t _ s7 _ L.1.k).mono ?_;rintro e w8 ⟨rfl,⟨v8,hk,hv⟩,hm⟩;have hc:=L.1.call hk hv hm;clear hk hv hm L;clear x6 y6;generalize s7.num=p at hc hB ⊢;obtain ⟨n7,s8⟩:=p;simp only at hc hB ⊢;have x7:=hc.bx.cell 7 _ rfl;have y7:=hc.bx.free 7;have M:=Hd (hc.set 7 (.int .u64 (n7:Int)) ⟨n0,n1,n2,n3,n4,n5,n6,n7,0,0,0,0⟩ rfl);clear hc;go_wp2_with fail;refine (jU t _ s8 _ M.1.k).mono ?_;rintro e w9 ⟨rfl,⟨v9,hk,hv⟩,hm⟩;have hc:=M.1.call hk hv hm;clear hk hv hm M;clear x7 y7;generalize s8.rint=p at hc hB ⊢;obtain ⟨n8,s9⟩:=p;simp only at hc hB ⊢;have x8:=hc.bx.cell 8 _ rfl;have y8:=hc.bx.free 8;have N:=Hd (hc.set 8 (.int .i64 n8) ⟨n0,n1,n2,n3,n4,n5,n6,n7,n8,0,0,0⟩ rfl);clear hc;go_wp2_with fail;refine (jU t _ s9 _ N.1.k).mono ?_;rintro e w10 ⟨rfl,⟨v10,hk,hv⟩,hm⟩;have hc:=N.1.call hk hv hm;clear hk hv hm N;clear x8 y8;generalize s9.rint=p at hc hB ⊢;obtain ⟨n9,s10⟩:=p;simp only at hc hB ⊢;have x9:=hc.bx.cell 9 _ rfl;have y9:=hc.bx.free 9;have A:=Hd (hc.set 9 (.int .i64 n9) ⟨n0,n1,n2,n3,n4,n5,n6,n7,n8,n9,0,0⟩ rfl);clear hc
 go_wp2_with fail;refine (jU t _ s10 _ A.1.k).mono ?_;rintro e w11 ⟨rfl,⟨v11,hk,hv⟩,hm⟩;have hc:=A.1.call hk hv hm;clear hk hv hm A;clear x9 y9;generalize s10.rint=p at hc hB ⊢;obtain ⟨n10,s11⟩:=p;simp only at hc hB ⊢;have x10:=hc.bx.cell 10 _ rfl;have y10:=hc.bx.free 10;have C:=Hd (hc.set 10 (.int .i64 n10) ⟨n0,n1,n2,n3,n4,n5,n6,n7,n8,n9,n10,0⟩ rfl);clear hc;go_wp2_with fail;refine (jU t _ s11 _ C.1.k).mono ?_;rintro e w12 ⟨rfl,⟨v12,hk,hv⟩,hm⟩;have hc:=C.1.call hk hv hm;clear hk hv hm C;clear x10 y10;generalize s11.rint=p at hc hB ⊢;obtain ⟨n11,s12⟩:=p;simp only at hc hB ⊢;have x11:=hc.bx.cell 11 _ rfl;have y11:=hc.bx.free 11;have H:=Hd (hc.set 11 (.int .i64 n11) ⟨n0,n1,n2,n3,n4,n5,n6,n7,n8,n9,n10,n11⟩ rfl);clear hc;have S:=Hd (H.1.bx.range 0 [.int .i64 n0,.int .i64 n1,.int .i64 n2,.int .i64 n3,.int .i64 n4,.string (SB n5),.string (SB n6),.int .u64 (n7:Int),.int .i64 n8,.int .i64 n9,.int .i64 n10,.int .i64 n11] (fun j v hv=>by rw [Nat.zero_add,← Array.getElem?_toList];exact hv))
 have O:=Hd (H.1.bz.there 0 12 (by show 0+12≤12;decide))
 have P:=Hd hB;clear hB
 go_wp2_with ((with_reducible refine je ?qa_0 45 (.tmp 3) ?qa_1 (w.heap.size+1) 0 ?qa_2 [.int .i64 n0,.int .i64 n1,.int .i64 n2,.int .i64 n3,.int .i64 n4,.string (SB n5),.string (SB n6),.int .u64 (n7:Int),.int .i64 n8,.int .i64 n9,.int .i64 n10,.int .i64 n11] _ S.1 underlying45 ?qa_3 ?qa_4 ?qa_8);(case qa_1=>rfl);(case qa_0=>rfl);(case qa_2=>rfl);(case qa_3=>rfl);(case qa_4=>kernel_rfl))
 intro cv a6;clear x11 y11
 go_wp2_with ((with_reducible refine jc ?qb_0 45 (.tmp 2) (.tmp 43) ?qb_1 w.heap.size 0 [.int .i64 n0,.int .i64 n1,.int .i64 n2,.int .i64 n3,.int .i64 n4,.string (SB n5),.string (SB n6),.int .u64 (n7:Int),.int .i64 n8,.int .i64 n9,.int .i64 n10,.int .i64 n11] ?qb_2 cv ?qb_3 a6 ?qb_6 ?qb_4 ?qb_5 ?qb_8);(case qb_6=>exact O.1);(case qb_1=>rfl);(case qb_0=>rfl);(case qb_2=>rfl);(case qb_3=>rfl);(case qb_4=>kernel_rfl);(case qb_5=>exact SesM.one ⟨n0,n1,n2,n3,n4,n5,n6,n7,n8,n9,n10,n11⟩))
 intro wz a2;have a3:=H.1.bz.setAll [.int .i64 n0,.int .i64 n1,.int .i64 n2,.int .i64 n3,.int .i64 n4,.string (SB n5),.string (SB n6),.int .u64 (n7:Int),.int .i64 n8,.int .i64 n9,.int .i64 n10,.int .i64 n11] rfl;have a1:=H.1.lt;rw [← a2.out] at a3;have a4:Mod (fun i=>i=w.heap.size) (w12.setCell ⟨w.heap.size+1,11,none⟩ (.int .i64 n11)) wz:=by rw [a2.out];exact Mod.setCells (fun i=>i=w.heap.size) w.heap.size rfl [.int .i64 n0,.int .i64 n1,.int .i64 n2,.int .i64 n3,.int .i64 n4,.string (SB n5),.string (SB n6),.int .u64 (n7:Int),.int .i64 n8,.int .i64 n9,.int .i64 n10,.int .i64 n11] 0 _
 have T:=Hd a3;have U:=Hd (H.1.k.mod a4 (fun e=>by omega) (fun b hb e=>by have:=H.1.vl b (by rw [← H.1.vo];exact hb);omega))
 have Q:=Hd (H.1.md.then a4 (fun i hi=>.inr (by omega)))
 have R:=Hd H.1.vo;clear a3 a4 a2 a6 a1;go_wp2_with fail;refine vq rfl rfl w.heap.size 0 rfl [.int .i64 n0,.int .i64 n1,.int .i64 n2,.int .i64 n3,.int .i64 n4,.string (SB n5),.string (SB n6),.int .u64 (n7:Int),.int .i64 n8,.int .i64 n9,.int .i64 n10,.int .i64 n11] _ (T.1.range 0 _ (fun j v hv=>by rw [Nat.zero_add,← Array.getElem?_toList];exact hv)) underlying45 rfl (by kernel_rfl) ?_
 rw [P.1];exact ⟨rfl,⟨_,U.1,R.1⟩,Q.1⟩
theorem jdr (s p:SesM)(w:World)(hd:0≤p.depth∧p.depth≤6) :
  Calls prog 186 #[.agg s.cells,.agg p.cells] w fun ev w'=>ev=.returned (.bool (yG s p))∧Below w.heap.size w w':=by
 have a2:∀ o o2,Below w.heap.size w ((w.alloc o).alloc o2):=fun o o2=>jn w o o2
 have A:=Hd a2;have B:=Hd (show ∀ b,yG s p=b→b=yG s p from fun _ h=>h.symm)
 obtain ⟨d0,d6⟩:=hd;have hz:=(show IntKind.i64.wrap (p.depth+1)=p.depth+1 by simp [IntKind.wrap,IntKind.bits,IntKind.signed];omega)
 unfold SesM.cells;clear a2;go_enter func186,ntmps186
 cases h1:(s.depth==p.depth+1)
 ·
  have a5:(s.depth != p.depth+1)=true:=by rw [bne,h1];rfl
  go_wp2_with fail;go_ret;exact ⟨jj (congrArg Value.bool (B.1 _ (by unfold yG;rw [h1];rfl))),A.1 _ _⟩
 have a5:(s.depth != p.depth+1)=false:=by rw [bne,h1];rfl
 cases h2:(s.user==p.user)
 ·
  have a1:((SB s.user).toList==(SB p.user).toList)=false:=by rw [jk,jk];exact h2
  have a3:((SB s.user).toList != (SB p.user).toList)=true:=by rw [bne,a1];rfl
  go_wp2_with fail;go_ret;exact ⟨jj (congrArg Value.bool (B.1 _ (by unfold yG;rw [h1,h2];rfl))),A.1 _ _⟩
 have a1:((SB s.user).toList==(SB p.user).toList)=true:=by rw [jk,jk];exact h2
 have a3:((SB s.user).toList != (SB p.user).toList)=false:=by rw [bne,a1];rfl
 by_cases h3:s.deadline≤p.deadline
 rotate_left
 ·
  have a6:p.deadline<s.deadline:=by omega
  have C:=Hd h3;clear h3;go_wp2_with fail;go_ret;exact ⟨jj (congrArg Value.bool (B.1 _ (by unfold yG;rw [h1,h2,decide_eq_false (show ¬ s.deadline≤p.deadline from by have:=C.1;omega)];rfl))),A.1 _ _⟩
 have a6:¬ p.deadline<s.deadline:=by omega
 have C:=Hd h3;clear h3
 cases h4:zT s.scopes p.scopes
 ·
  have a0:=h4;unfold zT at a0;have a4:(bits .andNot .u64 (s.scopes:Int) (p.scopes:Int) != 0)=true:=by rw [bne,a0];rfl
  go_wp2_with fail;go_ret;exact ⟨jj (congrArg Value.bool (B.1 _ (by unfold yG;rw [h1,h2,decide_eq_true (show s.deadline≤p.deadline from by have:=C.1;omega),h4];rfl))),A.1 _ _⟩
 have a0:=h4;unfold zT at a0;have a4:(bits .andNot .u64 (s.scopes:Int) (p.scopes:Int) != 0)=false:=by rw [bne,a0];rfl
 have H:=Hd (show yG s p=(decide (p.level<s.level)==(s.kind==2)) by unfold yG;rw [h1,h2,decide_eq_true (show s.deadline≤p.deadline from by have:=C.1;omega),h4];rfl)
 cases h5:(s.kind==2)
 ·
  rw [h5] at H;go_wp2_with fail;go_ret;refine ⟨jj (congrArg Value.bool ?_),A.1 _ _⟩;rw [H.1];by_cases h:p.level<s.level
  · rw [decide_eq_true h,decide_eq_false (by omega)];rfl
  · rw [decide_eq_false h,decide_eq_true (by omega)];rfl
 ·
  rw [h5] at H;go_wp2_with fail;go_ret;refine ⟨jj (congrArg Value.bool ?_),A.1 _ _⟩;rw [H.1];by_cases h:p.level<s.level
  · rw [decide_eq_true h];rfl
  · rw [decide_eq_false h];rfl
def jbC (s:SesM):List SesM→Int→Int
 | [],_ => -1
 | p::ps,i=>if p.birth=s.upB∧p.slot=s.upS then i else jbC s ps (i+1)
theorem jcb (a:Option Addr)(n cap k:Nat)(l:List SesM)(w:World)(hn:n=l.length)(hr:RdS w (.slice a n cap) l)(hk:k<l.length) :
  Calls prog 185 #[.slice a n cap,.int .i64 (k:Int)] w fun ev w'=>ev=.returned (.int .i64 (jbC l[k] (l.take k) 0))∧∃ m,w'=w.drewN m:=by
 obtain ⟨R,hR⟩:=Nm (jbC l[k] (l.take k) 0);rw [← hR];have C:=Hd hR;have E:=Hd hr;have G:=Hd hn;have a4:n≤9223372036854775807:=by obtain ⟨_,_,e,h5,h6,_⟩:=hr;omega
 obtain ⟨s,hs⟩:=Nm (l[k]);obtain ⟨rb,ro,a1,a0⟩:=hr.row k hk;subst a1;rw [← hs] at a0 C;have s2:w.cell? ⟨rb,ro+k*12+2,none⟩=some (.int .i64 s.upS):=a0 2 _ rfl;have s3:w.cell? ⟨rb,ro+k*12+3,none⟩=some (.int .i64 s.upB):=a0 3 _ rfl;have s3':w.cell? ⟨rb,ro+k*12+2+1,none⟩=some (.int .i64 s.upB):=s3;have k0:(0:Int)≤(k:Int):=by omega
 have kn:(k:Int)<(n:Int):=by omega
 have F:=Hd hk;clear hs a0 hR hn hr hk;go_enter func185,ntmps185;go_wp2_with fail
 go_loopg [5] k (fun gk iv wr=>∃ j:Nat,gk+j=k∧iv=.int .i64 (j:Int)∧jbC s ((l.take k).drop j) (j:Int)=R∧∃ m,wr=w.drewN m)
 case atStart=>exact ⟨0,rfl,rfl,C.1.symm,0,rfl⟩
 case round =>
  obtain ⟨j,a2,rfl,hP,m,rfl⟩:=hrel;have j0:(0:Int)≤(j:Int):=by omega
  have A:=Hd a2;have D:=Hd hP;clear a2 hP;by_cases hj:j<k
  ·
   have j1:(j:Int)<(k:Int):=by omega
   have j2:(j:Int)<(n:Int):=by omega
   have a3:j<l.length:=by have:=F.1;omega
   obtain ⟨p,hp⟩:=Nm (l[j]);obtain ⟨rb',ro',a1,a0⟩:=E.1.row j a3;injection a1 with a1
   injection a1 with e5 e6
   subst e5;subst e6;rw [← hp] at a0;have r0:w.cell? ⟨rb,ro+j*12,none⟩=some (.int .i64 p.slot):=a0 0 _ rfl;have r1:w.cell? ⟨rb,ro+j*12+1,none⟩=some (.int .i64 p.birth):=a0 1 _ rfl;have H:=Hd (show (if p.birth=s.upB∧p.slot=s.upS then (j:Int) else jbC s ((l.take k).drop (j+1)) ((j:Int)+1))=R from by
    rw [← D.1];have e:(l.take k).drop j=p::(l.take k).drop (j+1):=by
     rw [List.drop_eq_getElem_cons (by rw [List.length_take];omega),List.getElem_take,hp]
    rw [e];rfl)
   have B:=Hd hj;clear hj a3 hp a0 D
   cases t1:(p.birth==s.upB)
   ·
    rw [if_neg (by rintro ⟨h,_⟩;rw [h] at t1;simp at t1)] at H
    go_wp2_with fail
    go_quiet (fail)
    go_wp2_with fail
    go_roundg (k-(j+1))
    case measure=>have:=A.1;have:=B.1;omega
    case rel=>exact ⟨j+1,by have:=A.1;have:=B.1;omega,by go_num,H.1,_,rfl⟩
   cases t2:(p.slot==s.upS)
   ·
    rw [if_neg (by rintro ⟨_,h⟩;rw [h] at t2;simp at t2)] at H
    go_wp2_with fail
    go_quiet (fail)
    go_wp2_with fail
    go_roundg (k-(j+1))
    case measure=>have:=A.1;have:=B.1;omega
    case rel=>exact ⟨j+1,by have:=A.1;have:=B.1;omega,by go_num,H.1,_,rfl⟩
   rw [if_pos ⟨by simpa using t1,by simpa using t2⟩] at H
   go_wp2_with fail
   go_quiet (fail)
   go_wp2_with fail;go_ret;rw [← H.1];exact ⟨rfl,_,by first | rfl | exact World.drewN_drewN _ _ _⟩
  ·
   have j1:¬ (j:Int)<(k:Int):=by omega
   have H:=Hd (show R = -1 by
    have e:=D.1;rw [List.drop_of_length_le (by rw [List.length_take];omega)] at e
    exact e.symm)
   clear hj;go_wp2_with fail;go_ret;rw [H.1];exact ⟨rfl,_,by first | rfl | exact World.drewN_drewN _ _ _⟩
def zv (s p:SesM):Bool:=(p.birth==s.upB)&&(p.slot==s.upS)
def jeH (s:SesM)(a:List SesM):Bool:=a.any (fun p=>p.slot==s.slot)
theorem xO {s p:SesM}:zv s p=true↔(s.upS=p.slot∧s.upB=p.birth):=by
 unfold zv;rw [Bool.and_eq_true,beq_iff_eq,beq_iff_eq];exact ⟨fun h=>⟨h.2.symm,h.1.symm⟩,fun h=>⟨h.2.symm,h.1.symm⟩⟩
theorem jbc {s:SesM}:∀ (a:List SesM) (h:Bool),jeH s a=false→(a.Pairwise (fun p q=>p.birth<q.birth))→za s a h=some (match a.find? (zv s) with | none=>h | some p=>yG s p)
 | [],h,_,_=>rfl
 | p::ps,h,hd,hp=>by
  unfold jeH at hd;rw [List.any_cons,Bool.or_eq_false_iff] at hd;have a0:=List.pairwise_cons.1 hp;unfold za;rw [if_neg (by intro e;rw [e] at hd;simp at hd),jbc ps _ hd.2 a0.2,List.find?_cons]
  cases hm:zv s p
  · rw [if_neg (fun hh=>by rw [xO.2 hh] at hm;cases hm)]
  ·
   rw [if_pos (xO.1 hm)];have hn:ps.find? (zv s)=none:=by
    rw [List.find?_eq_none];intro q hq a1;have h1:=a0.1 q hq;have h2:=(xO.1 hm).2;have h3:=(xO.1 a1).2;omega
   rw [hn]
theorem jfn {s:SesM}:∀ (a:List SesM) (h:Bool),jeH s a=true→za s a h=none
 | [],h,hd=>by simp [jeH] at hd
 | p::ps,h,hd=>by
  unfold jeH at hd;rw [List.any_cons,Bool.or_eq_true] at hd;unfold za
  split
  · rfl
  ·
   rename_i hne
   refine jfn ps _ (hd.resolve_left (fun e=>hne (by simpa using e)))
theorem jfv (s:SesM):∀ (a:List SesM) (i:Int),(jbC s a i = -1∧a.find? (zv s)=none)∨∃ (j:Nat) (hj:j<a.length),jbC s a i=i+(j:Int)∧a.find? (zv s)=some a[j]
 | [],i=>.inl ⟨rfl,rfl⟩
 | p::ps,i=>by
  unfold jbC;rw [List.find?_cons]
  cases hm:zv s p
  ·
   rw [if_neg (fun hh=>by have:zv s p=true:=xO.2 ⟨hh.2.symm,hh.1.symm⟩;rw [this] at hm;cases hm)]
   rcases jfv s ps (i+1) with h | ⟨j,hj,h1,h2⟩
   · exact .inl h
   · exact .inr ⟨j+1,by simpa using hj,by rw [h1];push_cast;omega,by simpa using h2⟩
  ·
   have h:=xO.1 hm;rw [if_pos ⟨h.2.symm,h.1.symm⟩];exact .inr ⟨0,by simp,by simp,rfl⟩
def jf8 (c b:Int)(s:SesM)(a:List SesM):Bool:=jR s&&(!(!a.isEmpty&&decide (s.birth≤jbF a))&&(decide (s.birth≤b)&&(decide (s.born≤c)&&decide (c<s.deadline))))
theorem jef (c b:Int)(s:SesM)(a:List SesM):zw c b s a=(jf8 c b s a&&(za s a (jce s)==some true)):=by
 unfold zw jf8;simp only [Bool.and_assoc]
theorem jj2 {s:SesM}{a:List SesM}(hu:jce s=true)(ha:∀ p∈a,jR p=true):a.find? (zv s)=none:=by
 rw [List.find?_eq_none];intro p hp hm;have h1:=(xO.1 hm).2;unfold jce at hu;rw [Bool.and_eq_true,beq_iff_eq,beq_iff_eq] at hu;have h2:=ha p hp;unfold jR at h2;simp only [Bool.and_eq_true] at h2;have h3:=yp h2.2.1;omega
end Go.Proofs.YtgcnolapjppbpaaGreatDoor
