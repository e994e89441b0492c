/-
  Texts of one proof, one behind the other.
-/
import Derived.Test.YtgcnolapjppbpaaGreatDoorP12
import Derived.Test.YtgcnolapjppbpaaGreatDoorP16
import Derived.Test.YtgcnolapjppbpaaGreatDoorP23
import Derived.Test.YtgcnolapjppbpaaGreatDoorP00
namespace Go.Proofs.YtgcnolapjppbpaaGreatDoor
open Go.RowKit _root_.Go.Proofs.Tryz
set_option maxRecDepth 100000
set_option maxHeartbeats 25600000
structure IsTI (w:World)(t r:Nat)(v:Value)(s:TkM):Prop where
 box:Box w t #[.pointer (some ⟨r,0,none⟩),jo s.er,.bool s.big] 238
 rd:IsR w r v s.l s.k
 ne:t≠r
 nv:v.ownBlock≠some t
 vl:∀ b,v.ownBlock=some b→b<w.heap.size
theorem IsTI.mod {w w':World}{t r:Nat}{v:Value}{s:TkM}{F:Nat→Prop}(h:IsTI w t r v s)(hm:Mod F w w')(h1:¬ F t)(h2:¬ F r)(h3:∀ b,v.ownBlock=some b→¬ F b):IsTI w' t r v s :=
 ⟨h.box.mod hm h1,h.rd.mod hm h2 h3,h.ne,h.nv,fun b hb=>Nat.lt_of_lt_of_le (h.vl b hb) hm.size⟩
theorem IsTI.below {w w':World}{t r:Nat}{v:Value}{s:TkM}(h:IsTI w t r v s)(hb:Below w.heap.size w w'):IsTI w' t r v s:=h.mod (Mod.of_below (F:=fun _=>False) hb) (fun h=>h) (fun h=>h) (fun _ _ h=>h)
theorem zK (t r:Nat)(v:Value)(s:TkM)(w:World)(h:IsTI w t r v s) :
  Calls prog 124 #[.pointer (some ⟨t,0,none⟩)] w fun e w'=>e=.returned (.int .u64 (s.num.1:Int))∧IsTI w' t r v s.num.2∧Mod (fun i=>i=r∨i=t) w w':=by
 have HT:=Lib.hid h;have c0:=h.box.cell 0 _ rfl;have c1:w.cell? ⟨t,1,none⟩=some (jo s.er):=h.box.cell 1 _ rfl;by_cases he:s.er=0;rotate_left
 ·
  have HS:=Lib.hid (show s.num=(0,s) by unfold TkM.num;rw [if_neg he])
  rw [yj he] at c1;clear h;go_enter func124,ntmps124;go_wp2_with fail;go_ret;rw [HS.out];exact ⟨rfl,HT.out,Mod.refl _ _⟩
 ·
  obtain ⟨N,hN⟩:=Nm (jW s.rest);have Hc:=Lib.hid (jab r s.k v s.l w h.rd h.vl)
  change Hid (Calls _ _ _ _ fun e w'=>Mod (fun i=>i=r) w w'∧(((jW s.rest).1=0∧e=.returned (.tuple #[.int .u64 ((jW s.rest).2.1:Int),.nilIface])∧IsR w' r v s.l (s.k+(jW s.rest).2.2))∨((jW s.rest).1≠0∧e=.returned (.tuple #[.int .u64 0,.iface 91 (.int .i64 (jW s.rest).1)])∧IsR w' r v s.l s.k))) at Hc
  have HS:=Lib.hid (show s.num=(if N.1=0 then (N.2.1,⟨s.l,s.k+N.2.2,0,s.big⟩) else (0,⟨s.l,s.k,N.1,s.big⟩)) by unfold TkM.num;rw [if_pos he,hN])
  rw [← hN] at Hc;rw [show jo s.er=.nilIface by unfold jo;rw [if_pos he]] at c1
  clear h hN;go_enter func124,ntmps124;go_wp2_with fail;refine Hc.out.mono ?_;rintro e w1 ⟨hm,⟨hn,rfl,hi⟩ | ⟨hn,rfl,hi⟩⟩
  ·
   have a0:=HT.out.box.mod hm HT.out.ne;have HS':=Lib.hid (show s.num=(N.2.1,⟨s.l,s.k+N.2.2,0,s.big⟩) by rw [HS.out,if_pos hn])
   have d1:=a0.cell 1 _ rfl;have f1:=a0.free 1;have a1:=Mod.set (fun i=>i=t) w1 ⟨t,1,none⟩ .nilIface rfl
   have HR:=Lib.hid (show IsTI (w1.setCell ⟨t,1,none⟩ .nilIface) t r v ⟨s.l,s.k+N.2.2,0,s.big⟩ from ⟨a0.set 1 .nilIface,hi.mod a1 (fun e=>HT.out.ne e.symm) (fun b hb e=>HT.out.nv (by rw [hb,e])),HT.out.ne,HT.out.nv,fun b hb=>by have:=HT.out.vl b hb;have:=hm.size;simp;omega⟩)
   have HM:=Lib.hid ((hm.mono (fun i hi=>Or.inl hi:∀ i,i=r→i=r∨i=t)).trans (a1.mono (fun i hi=>Or.inr hi:∀ i,i=t→i=r∨i=t)))
   clear hm hn hi a0 a1 HS c0 c1 he;go_wp2_with fail;go_ret;rw [HS'.out];exact ⟨rfl,HR.out,HM.out⟩
  ·
   have a0:=HT.out.box.mod hm HT.out.ne;have HS':=Lib.hid (show s.num=(0,⟨s.l,s.k,N.1,s.big⟩) by rw [HS.out,if_neg hn])
   have d1:=a0.cell 1 _ rfl;have f1:=a0.free 1;have a1:=Mod.set (fun i=>i=t) w1 ⟨t,1,none⟩ (.iface 91 (.int .i64 N.1)) rfl
   have HR:=Lib.hid (show IsTI (w1.setCell ⟨t,1,none⟩ (.iface 91 (.int .i64 N.1))) t r v ⟨s.l,s.k,N.1,s.big⟩ from ⟨by rw [yj hn];exact a0.set 1 _,hi.mod a1 (fun e=>HT.out.ne e.symm) (fun b hb e=>HT.out.nv (by rw [hb,e])),HT.out.ne,HT.out.nv,fun b hb=>by have:=HT.out.vl b hb;have:=hm.size;simp;omega⟩)
   have HM:=Lib.hid ((hm.mono (fun i hi=>Or.inl hi:∀ i,i=r→i=r∨i=t)).trans (a1.mono (fun i hi=>Or.inr hi:∀ i,i=t→i=r∨i=t)))
   clear hm hn hi a0 a1 HS c0 c1 he;go_wp2_with fail;go_ret;rw [HS'.out];exact ⟨rfl,HR.out,HM.out⟩
theorem jaA (t r:Nat)(v:Value)(s:TkM)(w:World)(h:IsTI w t r v s) :
  Calls prog 123 #[.pointer (some ⟨t,0,none⟩)] w fun e w'=>e=.returned (.string (SB s.txt.1))∧IsTI w' t r v s.txt.2∧Mod (fun i=>i=r∨i=t) w w':=by
 have HT:=Lib.hid h;have c0:=h.box.cell 0 _ rfl;have c1:w.cell? ⟨t,1,none⟩=some (jo s.er):=h.box.cell 1 _ rfl;by_cases he:s.er=0;rotate_left
 ·
  have HS:=Lib.hid (show s.txt=([],s) by unfold TkM.txt;rw [if_neg he])
  rw [yj he] at c1;clear h;go_enter func123,ntmps123;go_wp2_with fail;go_ret;rw [HS.out];exact ⟨rfl,HT.out,Mod.refl _ _⟩
 ·
  obtain ⟨N,hN⟩:=Nm (jN s.rest);have Hc:=Lib.hid (jb1 r s.k v s.l w h.rd h.vl)
  change Hid (Calls _ _ _ _ fun e w'=>Mod (fun i=>i=r) w w'∧(((jN s.rest).1=0∧e=.returned (.tuple #[.string (SB (jN s.rest).2.1),.nilIface])∧IsR w' r v s.l (s.k+(jN s.rest).2.2))∨((jN s.rest).1≠0∧e=.returned (.tuple #[.string ⟨#[]⟩,.iface 91 (.int .i64 (jN s.rest).1)])∧IsR w' r v s.l s.k))) at Hc
  have HS:=Lib.hid (show s.txt=(if N.1=0 then (N.2.1,⟨s.l,s.k+N.2.2,0,s.big⟩) else ([],⟨s.l,s.k,N.1,s.big⟩)) by unfold TkM.txt;rw [if_pos he,hN])
  rw [← hN] at Hc;rw [show jo s.er=.nilIface by unfold jo;rw [if_pos he]] at c1
  clear h hN;go_enter func123,ntmps123;go_wp2_with fail;refine Hc.out.mono ?_;rintro e w1 ⟨hm,⟨hn,rfl,hi⟩ | ⟨hn,rfl,hi⟩⟩
  ·
   have a0:=HT.out.box.mod hm HT.out.ne;have HS':=Lib.hid (show s.txt=(N.2.1,⟨s.l,s.k+N.2.2,0,s.big⟩) by rw [HS.out,if_pos hn])
   have d1:=a0.cell 1 _ rfl;have f1:=a0.free 1;have a1:=Mod.set (fun i=>i=t) w1 ⟨t,1,none⟩ .nilIface rfl
   have HR:=Lib.hid (show IsTI (w1.setCell ⟨t,1,none⟩ .nilIface) t r v ⟨s.l,s.k+N.2.2,0,s.big⟩ from ⟨a0.set 1 .nilIface,hi.mod a1 (fun e=>HT.out.ne e.symm) (fun b hb e=>HT.out.nv (by rw [hb,e])),HT.out.ne,HT.out.nv,fun b hb=>by have:=HT.out.vl b hb;have:=hm.size;simp;omega⟩)
   have HM:=Lib.hid ((hm.mono (fun i hi=>Or.inl hi:∀ i,i=r→i=r∨i=t)).trans (a1.mono (fun i hi=>Or.inr hi:∀ i,i=t→i=r∨i=t)))
   clear hm hn hi a0 a1 HS c0 c1 he;go_wp2_with fail;go_ret;rw [HS'.out];exact ⟨rfl,HR.out,HM.out⟩
  ·
   have a0:=HT.out.box.mod hm HT.out.ne;have HS':=Lib.hid (show s.txt=([],⟨s.l,s.k,N.1,s.big⟩) by rw [HS.out,if_neg hn])
   have d1:=a0.cell 1 _ rfl;have f1:=a0.free 1;have a1:=Mod.set (fun i=>i=t) w1 ⟨t,1,none⟩ (.iface 91 (.int .i64 N.1)) rfl
   have HR:=Lib.hid (show IsTI (w1.setCell ⟨t,1,none⟩ (.iface 91 (.int .i64 N.1))) t r v ⟨s.l,s.k,N.1,s.big⟩ from ⟨by rw [yj hn];exact a0.set 1 _,hi.mod a1 (fun e=>HT.out.ne e.symm) (fun b hb e=>HT.out.nv (by rw [hb,e])),HT.out.ne,HT.out.nv,fun b hb=>by have:=HT.out.vl b hb;have:=hm.size;simp;omega⟩)
   have HM:=Lib.hid ((hm.mono (fun i hi=>Or.inl hi:∀ i,i=r→i=r∨i=t)).trans (a1.mono (fun i hi=>Or.inr hi:∀ i,i=t→i=r∨i=t)))
   clear hm hn hi a0 a1 HS c0 c1 he;go_wp2_with fail;go_ret;rw [HS'.out];exact ⟨rfl,HR.out,HM.out⟩
theorem vK (t r eb sb:Nat)(v:Value)(s:TkM)(offs:List Nat)(cs:Array Value)(T Ts:TypeId)(w:World)(h:IsTI w t r v s)(hb:Box w eb cs T)(hs:Box w sb (offs.map (fun o=>Value.pointer (some ⟨eb,o,none⟩))).toArray Ts)(ho:∀ o∈offs,o<cs.size)(h1:eb≠t)(h2:eb≠r)(h3:sb≠t)(h4:sb≠r)(h5:sb≠eb)(h6:v.ownBlock≠some eb)(hn:offs.length≤100) :
  Calls prog 122 #[.pointer (some ⟨t,0,none⟩),.slice (some ⟨sb,0,none⟩) offs.length offs.length] w fun e w'=>e=.returned (.tuple #[])∧IsTI w' t r v (xt s cs offs).1∧Box w' eb (xt s cs offs).2 T∧Mod (fun i=>i=r∨i=t∨i=eb) w w':=by
 go_enter func122,ntmps122;go_wp2_with fail
 go_loopg [9] offs.length (fun gk iv wr=>∃ j:Nat,gk+j=offs.length∧iv=.int .i64 (j:Int)∧IsTI wr t r v (xt s cs (offs.take j)).1∧Box wr eb (xt s cs (offs.take j)).2 T∧Mod (fun i=>i=r∨i=t∨i=eb) w wr)
 case atStart=>exact ⟨0,rfl,rfl,h,hb,Mod.refl _ _⟩
 case round =>
  obtain ⟨j,b0,rfl,hT,hB,hM⟩:=hrel;by_cases hj:j<offs.length
  ·
   obtain ⟨o,a8⟩:=Nm (offs[j]);have b3:o<cs.size:=ho o (by rw [a8];exact List.getElem_mem _)
   have b2:offs.take (j+1)=offs.take j ++ [o]:=by rw [List.take_succ_eq_append_getElem hj,a8]
   have b1:=jcS s cs (offs.take j);have H:=Hd (jdk s cs (offs.take j) o);rw [← b2] at H;generalize xt s cs (offs.take j)=p at hT hB H b1;obtain ⟨s1,cs1⟩:=p;simp only at hT hB H b1;have c0:wr.cell? ⟨sb,j,none⟩=some (.pointer (some ⟨eb,o,none⟩)):=(hs.mod hM (by rintro (e | e | e) <;> contradiction)).cell j _ (by simp [hj,a8])
   have J:=Hd (zK t r v s1 wr hT);have a9:=s1.num_lt;have A:=Hd (show s1.int=(yz s1.num.1,⟨s1.num.2.l,s1.num.2.k,s1.num.2.er,s1.num.2.big || !(decide (s1.num.1≤9223372036854775807))⟩) from rfl)
   generalize s1.num=q at J a9 A;obtain ⟨x,s2⟩:=q;simp only at J a9 A;have zx:=jai x a9;have K:=Hd hB;have I:=Hd hM;have F:=Hd b0;have G:=Hd hj;have k0:(0:Int)≤(j:Int):=by omega
   have k1:(j:Int)<(offs.length:Int):=by omega
   have L:=Hd (show o<cs1.size by omega)
   clear hT hB hM b0 hj a9 b1 b2 a8 b3;go_wp2_with fail;refine J.1.mono ?_;rintro e w1 ⟨rfl,a0,a6⟩;have a7:=K.1.mod a6 (by rintro (e | e) <;> contradiction)
   have d2:=a0.box.cell 2 _ rfl;have f2:=a0.box.free 2
   cases hbg:s2.big
   rotate_left
   ·
    rw [hbg] at d2;have a4:=a0.box.set 2 (.bool true);have a2:=Mod.set (fun i=>i=t) w1 ⟨t,2,none⟩ (.bool true) rfl
    have a3:=a7.mod a2 h1;have e0:=a3.cell o _ (Array.getElem?_eq_getElem L.1);have f0:=a3.free o;have a1:=Mod.set (fun i=>i=eb) (w1.setCell ⟨t,2,none⟩ (.bool true)) ⟨eb,o,none⟩ (.int .i64 (yz x)) rfl
    have B:=Hd (a3.set o (.int .i64 (yz x)));have a5:IsTI ((w1.setCell ⟨t,2,none⟩ (.bool true)).setCell ⟨eb,o,none⟩ (.int .i64 (yz x))) t r v ⟨s2.l,s2.k,s2.er,true⟩ :=
     ⟨a4.mod a1 (fun e=>h1 e.symm),(a0.rd.mod a2 (fun e=>a0.ne e.symm) (fun b hb e=>a0.nv (by rw [hb,e]))).mod a1 (fun e=>h2 e.symm) (fun b hb e=>h6 (by rw [hb,e])),a0.ne,a0.nv,fun b hb=>by have:=a0.vl b hb;simp;omega⟩
    have C:=Hd a5;have D:=Hd (((I.1.trans (a6.mono (fun i hi=>hi.elim (fun e=>Or.inl e) (fun e=>Or.inr (Or.inl e))))).trans (a2.mono (fun i hi=>.inr (.inl hi)))).trans (a1.mono (fun i hi=>.inr (.inr hi))))
    have E:=Hd (show xt s cs (offs.take (j+1))=(⟨s2.l,s2.k,s2.er,true⟩,cs1.setIfInBounds o (.int .i64 (yz x))) by rw [H.1,A.1];simp only [hbg,Bool.true_or])
    clear a4 a2 a3 a1 a5 a0 a7 a6 H A hbg;go_wp2_with fail
    go_roundg (offs.length-(j+1))
    case measure=>have:=F.1;have:=G.1;omega
    case rel=>exact ⟨j+1,by have:=F.1;have:=G.1;omega,by go_num,by rw [E.1];exact C.1,by rw [E.1];exact B.1,D.1⟩
   ·
    rw [hbg] at d2;by_cases hx:(9223372036854775807:Int)<(x:Int)
    ·
     have hd:decide (x≤9223372036854775807)=false:=decide_eq_false (by omega)
     have a4:=a0.box.set 2 (.bool true);have a2:=Mod.set (fun i=>i=t) w1 ⟨t,2,none⟩ (.bool true) rfl
     have a3:=a7.mod a2 h1;have e0:=a3.cell o _ (Array.getElem?_eq_getElem L.1);have f0:=a3.free o;have a1:=Mod.set (fun i=>i=eb) (w1.setCell ⟨t,2,none⟩ (.bool true)) ⟨eb,o,none⟩ (.int .i64 (yz x)) rfl
     have B:=Hd (a3.set o (.int .i64 (yz x)));have a5:IsTI ((w1.setCell ⟨t,2,none⟩ (.bool true)).setCell ⟨eb,o,none⟩ (.int .i64 (yz x))) t r v ⟨s2.l,s2.k,s2.er,true⟩ :=
      ⟨a4.mod a1 (fun e=>h1 e.symm),(a0.rd.mod a2 (fun e=>a0.ne e.symm) (fun b hb e=>a0.nv (by rw [hb,e]))).mod a1 (fun e=>h2 e.symm) (fun b hb e=>h6 (by rw [hb,e])),a0.ne,a0.nv,fun b hb=>by have:=a0.vl b hb;simp;omega⟩
     have C:=Hd a5;have D:=Hd (((I.1.trans (a6.mono (fun i hi=>hi.elim (fun e=>Or.inl e) (fun e=>Or.inr (Or.inl e))))).trans (a2.mono (fun i hi=>.inr (.inl hi)))).trans (a1.mono (fun i hi=>.inr (.inr hi))))
     have E:=Hd (show xt s cs (offs.take (j+1))=(⟨s2.l,s2.k,s2.er,true⟩,cs1.setIfInBounds o (.int .i64 (yz x))) by rw [H.1,A.1];simp only [hbg,hd,Bool.false_or,Bool.not_false])
     clear a4 a2 a3 a1 a5 a0 a7 a6 H A hbg hd;go_wp2_with fail
     go_roundg (offs.length-(j+1))
     case measure=>have:=F.1;have:=G.1;omega
     case rel=>exact ⟨j+1,by have:=F.1;have:=G.1;omega,by go_num,by rw [E.1];exact C.1,by rw [E.1];exact B.1,D.1⟩
    ·
     have hd:decide (x≤9223372036854775807)=true:=decide_eq_true (by omega)
     have b4:decide ((9223372036854775807:Int)<(x:Int))=false:=decide_eq_false hx;clear hx;have a4:=a0.box.set 2 (.bool false);have a2:=Mod.set (fun i=>i=t) w1 ⟨t,2,none⟩ (.bool false) rfl
     have a3:=a7.mod a2 h1;have e0:=a3.cell o _ (Array.getElem?_eq_getElem L.1);have f0:=a3.free o;have a1:=Mod.set (fun i=>i=eb) (w1.setCell ⟨t,2,none⟩ (.bool false)) ⟨eb,o,none⟩ (.int .i64 (yz x)) rfl
     have B:=Hd (a3.set o (.int .i64 (yz x)));have a5:IsTI ((w1.setCell ⟨t,2,none⟩ (.bool false)).setCell ⟨eb,o,none⟩ (.int .i64 (yz x))) t r v ⟨s2.l,s2.k,s2.er,false⟩ :=
      ⟨a4.mod a1 (fun e=>h1 e.symm),(a0.rd.mod a2 (fun e=>a0.ne e.symm) (fun b hb e=>a0.nv (by rw [hb,e]))).mod a1 (fun e=>h2 e.symm) (fun b hb e=>h6 (by rw [hb,e])),a0.ne,a0.nv,fun b hb=>by have:=a0.vl b hb;simp;omega⟩
     have C:=Hd a5;have D:=Hd (((I.1.trans (a6.mono (fun i hi=>hi.elim (fun e=>Or.inl e) (fun e=>Or.inr (Or.inl e))))).trans (a2.mono (fun i hi=>.inr (.inl hi)))).trans (a1.mono (fun i hi=>.inr (.inr hi))))
     have E:=Hd (show xt s cs (offs.take (j+1))=(⟨s2.l,s2.k,s2.er,false⟩,cs1.setIfInBounds o (.int .i64 (yz x))) by rw [H.1,A.1];simp only [hbg,hd,Bool.false_or,Bool.not_true])
     clear a4 a2 a3 a1 a5 a0 a7 a6 H A hbg hd;go_wp2_with fail
     go_roundg (offs.length-(j+1))
     case measure=>have:=F.1;have:=G.1;omega
     case rel=>exact ⟨j+1,by have:=F.1;have:=G.1;omega,by go_num,by rw [E.1];exact C.1,by rw [E.1];exact B.1,D.1⟩
  ·
   have ht:offs.take j=offs:=List.take_of_length_le (by omega)
   rw [ht] at hT hB;have k1:¬ (j:Int)<(offs.length:Int):=by omega
   have M:=Hd hT;have K:=Hd hB;have I:=Hd hM;clear hT hB hM b0 ht hj;go_wp2_with fail;refine bodyPost_end (results_none rfl _ _ _) rfl ?_;exact ⟨rfl,M.1,K.1,I.1⟩
structure ImSt (w0 w:World)(t r b2 b8:Nat)(v:Value)(s:TkM)(c b:Int)(x:Value)(l:List SesM):Prop where
 it:IsTI w t r v s
 bz:Box w b2 #[.int .i64 0,.int .i64 0,.slice none 0 0] 30
 bs:Box w b8 #[.int .i64 c,.int .i64 b,x] 30
 own:OwnS w (b8+1) x l
 bel:Below w0.heap.size w0 w
 g:w0.heap.size≤b2
 o1:b2<r
 o2:r<t
 o3:t<b8
 ov:∀ k,v.ownBlock=some k→b2<k∧k<t
theorem ImSt.below {w0 w w':World}{t r b2 b8:Nat}{v x:Value}{s:TkM}{c b:Int}{l:List SesM}(h:ImSt w0 w t r b2 b8 v s c b x l)(hb:Below w.heap.size w w'):ImSt w0 w' t r b2 b8 v s c b x l :=
 ⟨h.it.below hb,h.bz.below hb,h.bs.below hb,h.own.below hb,h.bel.trans (hb.mono h.bel.size),h.g,h.o1,h.o2,h.o3,h.ov⟩
theorem ImSt.step {w0 w w':World}{t r b2 b8:Nat}{v x:Value}{s s':TkM}{c b:Int}{l:List SesM}(h:ImSt w0 w t r b2 b8 v s c b x l)(hi:IsTI w' t r v s')(hm:Mod (fun i=>i=r∨i=t) w w'):ImSt w0 w' t r b2 b8 v s' c b x l:=by
 have:=h.g;have:=h.o1;have:=h.o2;have:=h.o3;exact ⟨hi,h.bz.mod hm (by rintro (e | e) <;> omega),h.bs.mod hm (by rintro (e | e) <;> omega),h.own.mod hm (fun k hk=>by have:=(h.own.lt k hk).1;rintro (e | e) <;> omega),h.bel.trans (hm.below h.bel.size (fun i hi=>by rcases hi with e | e <;> omega)),h.g,h.o1,h.o2,h.o3,h.ov⟩
theorem ImSt.ints {w0 w w':World}{t r b2 b8 eb:Nat}{v x:Value}{s s':TkM}{c b:Int}{l:List SesM}(h:ImSt w0 w t r b2 b8 v s c b x l)(hi:IsTI w' t r v s')(hm:Mod (fun i=>i=r∨i=t∨i=eb) w w')(he:b8<eb)(hx:x.ownBlock≠some eb):ImSt w0 w' t r b2 b8 v s' c b x l:=by
 have:=h.g;have:=h.o1;have:=h.o2;have:=h.o3;exact ⟨hi,h.bz.mod hm (by rintro (e | e | e) <;> omega),h.bs.mod hm (by rintro (e | e | e) <;> omega),h.own.mod hm (fun k hk=>by have:=(h.own.lt k hk).1;rintro (e | e | e);omega;omega;exact hx (by rw [hk,e])),h.bel.trans (hm.below h.bel.size (fun i hi=>by rcases hi with e | e | e <;> omega)),h.g,h.o1,h.o2,h.o3,h.ov⟩
theorem ImSt.mod {w0 w w':World}{t r b2 b8 eb:Nat}{v x:Value}{s:TkM}{c b:Int}{l:List SesM}(h:ImSt w0 w t r b2 b8 v s c b x l)(hm:Mod (fun i=>i=eb) w w')(he:b8<eb)(hx:x.ownBlock≠some eb):ImSt w0 w' t r b2 b8 v s c b x l :=
 h.ints (h.it.mod hm (by have:=h.o3;omega) (by have:=h.o2;have:=h.o3;omega) (fun k hk=>by have:=(h.ov k hk).2;have:=h.o3;omega)) (hm.mono (fun _ e=>.inr (.inr e))) he hx
theorem ImSt.clocks {w0 w w':World}{t r b2 b8:Nat}{v x:Value}{s s':TkM}{c b c' b':Int}{l:List SesM}(h:ImSt w0 w t r b2 b8 v s c b x l)(hi:IsTI w' t r v s')(hb:Box w' b8 #[.int .i64 c',.int .i64 b',x] 30)(hm:Mod (fun i=>i=r∨i=t∨i=b8) w w'):ImSt w0 w' t r b2 b8 v s' c' b' x l:=by
 have:=h.g;have:=h.o1;have:=h.o2;have:=h.o3;exact ⟨hi,h.bz.mod hm (by rintro (e | e | e) <;> omega),hb,h.own.mod hm (fun k hk=>by have:=(h.own.lt k hk).1;rintro (e | e | e) <;> omega),h.bel.trans (hm.below h.bel.size (fun i hi=>by rcases hi with e | e | e <;> omega)),h.g,h.o1,h.o2,h.o3,h.ov⟩
theorem ImSt.grown {w0 w w':World}{t r b2 b8:Nat}{v x:Value}{s:TkM}{c b:Int}{l:List SesM}(h:ImSt w0 w t r b2 b8 v s c b x l)(hg:w.grownBy w' x.ownBlock):Below (b8+1) w w' :=
 ji hg h.bs.lt (fun q hq=>(h.own.lt q hq).1)
theorem ImSt.put {w0 w w':World}{t r b2 b8:Nat}{v x x':Value}{s:TkM}{c b:Int}{l l':List SesM}(h:ImSt w0 w t r b2 b8 v s c b x l)(hb:Below (b8+1) w w')(ho:OwnS w' (b8+1) x' l'):ImSt w0 (w'.setCell ⟨b8,2,none⟩ x') t r b2 b8 v s c b x' l':=by
 have:=h.g;have:=h.o1;have:=h.o2;have:=h.o3;have hm:Mod (fun i=>b8+1≤i) w w':=⟨hb.os,hb.tape,hb.output,hb.size,fun i _ hn=>hb.block i (by omega)⟩
 have a0:=Mod.set (fun i=>i=b8) w' ⟨b8,2,none⟩ x' rfl
 have a1:IsTI w' t r v s:=h.it.mod hm (by omega) (by omega) (fun k hk=>by have:=(h.ov k hk).2;omega)
 have a2:Box w' b8 #[.int .i64 c,.int .i64 b,x] 30:=h.bs.mod hm (by omega)
 exact ⟨a1.mod a0 (by omega) (by omega) (fun k hk=>by have:=(h.ov k hk).2;omega),(h.bz.mod hm (by omega)).mod a0 (by omega),a2.set 2 x',ho.mod a0 (fun k hk=>by have:=(ho.lt k hk).1;omega),(h.bel.trans (hb.mono (by omega))).trans (a0.below (Nat.le_trans h.bel.size hb.size) (fun i hi=>by omega)),h.g,h.o1,h.o2,h.o3,h.ov⟩
theorem jhi:∀ v ∈ [Value.int .i64 0,.int .i64 0,.slice none 0 0],v.oneCell'=true:=by
 intro v hv;simp only [List.mem_cons,List.not_mem_nil,or_false] at hv
 rcases hv with rfl | rfl | rfl <;> rfl
structure ExI (w0:World)(t b2:Nat)(er:Value)(w':World):Prop where
 ce:w'.cell? ⟨t,1,none⟩=some er
 bz:Box w' b2 #[.int .i64 0,.int .i64 0,.slice none 0 0] 30
 bel:Below w0.heap.size w0 w'
 ne:b2≠t
 ge:w0.heap.size≤b2
theorem ExI.drew {w0:World}{t b2:Nat}{er:Value}{w:World}(h:ExI w0 t b2 er w):ExI w0 t b2 er w.drew:=⟨h.ce,h.bz,h.bel.drew,h.ne,h.ge⟩
theorem ExI.store {w0:World}{t b2:Nat}{er:Value}{w:World}(h:ExI w0 t b2 er w):ExI w0 t b2 er (w.setCells b2 0 [.int .i64 0,.int .i64 0,.slice none 0 0]):=by
 have hb:=h.bz.setAll [.int .i64 0,.int .i64 0,.slice none 0 0] rfl;have hm:=Mod.setCells (fun k=>k=b2) b2 rfl [.int .i64 0,.int .i64 0,.slice none 0 0] 0 w
 have a0:t<w.heap.size:=World.block_lt_of_cell? w _ h.ce;exact ⟨by rw [World.cell?_of_block (w:=w) (hm.block t a0 (fun e=>h.ne e.symm))];exact h.ce,hb,h.bel.trans (hm.below h.bel.size (fun _ hi=>hi ▸ h.ge)),h.ne,h.ge⟩
end Go.Proofs.YtgcnolapjppbpaaGreatDoor
