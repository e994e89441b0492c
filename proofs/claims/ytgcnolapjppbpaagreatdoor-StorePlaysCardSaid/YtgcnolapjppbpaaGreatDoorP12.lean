/-
  Texts of one proof, one behind the other.
-/
import Derived.Test.YtgcnolapjppbpaaGreatDoorP11
import Derived.Test.YtgcnolapjppbpaaGreatDoorP05
import Derived.Deep.LoopGhost
import Derived.Outline
import Derived.Lib.OthersKept
import Derived.Lib.Bytealg
import Derived.Lib.Strings
import Derived.Laws.Runes
import Derived.BigQuiet
import Derived.Test.YtgcnolapjppbpaaGreatDoorP00
namespace Go.Proofs.YtgcnolapjppbpaaGreatDoor
open Go.RowKit _root_.Go.Proofs.Tryz
set_option maxRecDepth 100000
set_option maxHeartbeats 25600000
theorem jfp:∀ (l:List UInt8) (i u:Nat),i≤9→u<2 ^ (7*i)→(xi i u l).2.1<2 ^ 64
 | [],i,u,_,_=>by unfold xi;exact (show (0:Nat)<2 ^ 64 by decide)
 | c::l,i,u,hi,hu=>by
  unfold xi
  split
  · exact (show (0:Nat)<2 ^ 64 by decide)
  ·
   rename_i hf
   have hc:=c.toNat_lt;have h2:(2:Nat) ^ (7*i)≤2 ^ 63:=Nat.pow_le_pow_right (by omega) (by omega)
   split
   ·
    have h1:=(jiG (m:=c.toNat) (i:=i) (by omega) hi (by omega)).1
    show u+c.toNat*2 ^ (7*i)<2 ^ 64;omega
   ·
    refine jfp l (i+1) _ (by omega) ?_
    rw [show 7*(i+1)=7*i+7 by omega,Nat.pow_add]
    have:(c.toNat-128+1)*2 ^ (7*i)≤128*2 ^ (7*i):=Nat.mul_le_mul_right _ (by omega)
    rw [Nat.add_mul] at this;rw [Nat.mul_comm (2 ^ (7*i)) (2 ^ 7)];omega
theorem jjM (l:List UInt8):(jW l).2.1<2 ^ 64:=jfp l 0 0 (by omega) (by omega)
theorem TkM.num_lt (s:TkM):s.num.1<2 ^ 64:=by
 unfold TkM.num
 split
 ·
  split
  · exact jjM _
  · exact (show (0:Nat)<2 ^ 64 by decide)
 · exact (show (0:Nat)<2 ^ 64 by decide)
theorem jai (n:Nat)(h:n<2 ^ 64):IntKind.i64.wrap (n:Int)=yz n:=by
 unfold yz;by_cases h2:n≤9223372036854775807
 · rw [if_pos h2];simp [IntKind.wrap,IntKind.bits,IntKind.signed];omega
 · rw [if_neg h2];simp [IntKind.wrap,IntKind.bits,IntKind.signed];omega
def xt (s:TkM)(cs:Array Value)(offs:List Nat):TkM × Array Value:=offs.foldl (fun p o=>(p.1.int.2,p.2.setIfInBounds o (.int .i64 p.1.int.1))) (s,cs)
theorem jdk (s:TkM)(cs:Array Value)(offs:List Nat)(o:Nat):xt s cs (offs ++ [o])=((xt s cs offs).1.int.2,(xt s cs offs).2.setIfInBounds o (.int .i64 (xt s cs offs).1.int.1)):=by simp [xt]
theorem jcS (s:TkM)(cs:Array Value):∀ offs:List Nat,(xt s cs offs).2.size=cs.size:=by
 intro offs;unfold xt;have:∀ (offs:List Nat) (p:TkM × Array Value),(offs.foldl (fun p o=>(p.1.int.2,p.2.setIfInBounds o (.int .i64 p.1.int.1))) p).2.size=p.2.size:=by
  intro offs
  induction offs with
  | nil=>intro p;rfl
  | cons o offs ih=>intro p;rw [List.foldl_cons,ih];simp
 exact this offs (s,cs)
theorem zE (t r eb sb:Nat)(v:Value)(s:TkM)(offs:List Nat)(cs:Array Value)(T Ts:TypeId)(w:World)(h:IsT w t r v s)(hb:Box w eb cs T)(hs:Box w sb (offs.map (fun o=>Value.pointer (some ⟨eb,o,none⟩))).toArray Ts)(ho:∀ o∈offs,o<cs.size)(h1:eb≠t)(h2:eb≠r)(h3:sb≠t)(h4:sb≠r)(h5:sb≠eb)(h6:v.ownBlock≠some eb)(hn:offs.length≤100) :
  Calls prog 128 #[.pointer (some ⟨t,0,none⟩),.slice (some ⟨sb,0,none⟩) offs.length offs.length] w fun e w'=>e=.returned (.tuple #[])∧IsT w' t r v (xt s cs offs).1∧Box w' eb (xt s cs offs).2 T∧Mod (fun i=>i=r∨i=t∨i=eb) w w':=by
 go_enter func128,ntmps128;go_wp2_with fail
 go_loopg [9] offs.length (fun gk iv wr=>∃ j:Nat,gk+j=offs.length∧iv=.int .i64 (j:Int)∧IsT wr t r v (xt s cs (offs.take j)).1∧Box wr eb (xt s cs (offs.take j)).2 T∧Mod (fun i=>i=r∨i=t∨i=eb) w wr)
 case atStart=>exact ⟨0,rfl,rfl,h,hb,Mod.refl _ _⟩
 case round =>
  obtain ⟨j,b0,rfl,hT,hB,hM⟩:=hrel;by_cases hj:j<offs.length
  ·
   obtain ⟨o,a8⟩:=Nm (offs[j]);have b3:o<cs.size:=ho o (by rw [a8];exact List.getElem_mem _)
   have b2:offs.take (j+1)=offs.take j ++ [o]:=by rw [List.take_succ_eq_append_getElem hj,a8]
   have b1:=jcS s cs (offs.take j);have H:=Hd (jdk s cs (offs.take j) o);rw [← b2] at H;generalize xt s cs (offs.take j)=p at hT hB H b1;obtain ⟨s1,cs1⟩:=p;simp only at hT hB H b1;have c0:wr.cell? ⟨sb,j,none⟩=some (.pointer (some ⟨eb,o,none⟩)):=(hs.mod hM (by rintro (e | e | e) <;> contradiction)).cell j _ (by simp [hj,a8])
   have J:=Hd (zN t r v s1 wr hT);have a9:=s1.num_lt;have A:=Hd (show s1.int=(yz s1.num.1,⟨s1.num.2.l,s1.num.2.k,s1.num.2.er,s1.num.2.big || !(decide (s1.num.1≤9223372036854775807))⟩) from rfl)
   generalize s1.num=q at J a9 A;obtain ⟨x,s2⟩:=q;simp only at J a9 A;have zx:=jai x a9;have K:=Hd hB;have I:=Hd hM;have F:=Hd b0;have G:=Hd hj;have k0:(0:Int)≤(j:Int):=by omega
   have k1:(j:Int)<(offs.length:Int):=by omega
   have L:=Hd (show o<cs1.size by omega)
   clear hT hB hM b0 hj a9 b1 b2 a8 b3;go_wp2_with fail;refine J.1.mono ?_;rintro e w1 ⟨rfl,a0,a6⟩;have a7:=K.1.mod a6 (by rintro (e | e) <;> contradiction)
   have d2:=a0.box.cell 2 _ rfl;have f2:=a0.box.free 2
   cases hbg:s2.big
   rotate_left
   ·
    rw [hbg] at d2;have a4:=a0.box.set 2 (.bool true);have a2:=Mod.set (fun i=>i=t) w1 ⟨t,2,none⟩ (.bool true) rfl
    have a3:=a7.mod a2 h1;have e0:=a3.cell o _ (Array.getElem?_eq_getElem L.1);have f0:=a3.free o;have a1:=Mod.set (fun i=>i=eb) (w1.setCell ⟨t,2,none⟩ (.bool true)) ⟨eb,o,none⟩ (.int .i64 (yz x)) rfl
    have B:=Hd (a3.set o (.int .i64 (yz x)));have a5:IsT ((w1.setCell ⟨t,2,none⟩ (.bool true)).setCell ⟨eb,o,none⟩ (.int .i64 (yz x))) t r v ⟨s2.l,s2.k,s2.er,true⟩ :=
     ⟨a4.mod a1 (fun e=>h1 e.symm),(a0.rd.mod a2 (fun e=>a0.ne e.symm) (fun b hb e=>a0.nv (by rw [hb,e]))).mod a1 (fun e=>h2 e.symm) (fun b hb e=>h6 (by rw [hb,e])),a0.ne,a0.nv,fun b hb=>by have:=a0.vl b hb;simp;omega⟩
    have C:=Hd a5;have D:=Hd (((I.1.trans (a6.mono (fun i hi=>hi.elim (fun e=>Or.inl e) (fun e=>Or.inr (Or.inl e))))).trans (a2.mono (fun i hi=>.inr (.inl hi)))).trans (a1.mono (fun i hi=>.inr (.inr hi))))
    have E:=Hd (show xt s cs (offs.take (j+1))=(⟨s2.l,s2.k,s2.er,true⟩,cs1.setIfInBounds o (.int .i64 (yz x))) by rw [H.1,A.1];simp only [hbg,Bool.true_or])
    clear a4 a2 a3 a1 a5 a0 a7 a6 H A hbg;go_wp2_with fail
    go_roundg (offs.length-(j+1))
    case measure=>have:=F.1;have:=G.1;omega
    case rel=>exact ⟨j+1,by have:=F.1;have:=G.1;omega,by go_num,by rw [E.1];exact C.1,by rw [E.1];exact B.1,D.1⟩
   ·
    rw [hbg] at d2;by_cases hx:(9223372036854775807:Int)<(x:Int)
    ·
     have hd:decide (x≤9223372036854775807)=false:=decide_eq_false (by omega)
     have a4:=a0.box.set 2 (.bool true);have a2:=Mod.set (fun i=>i=t) w1 ⟨t,2,none⟩ (.bool true) rfl
     have a3:=a7.mod a2 h1;have e0:=a3.cell o _ (Array.getElem?_eq_getElem L.1);have f0:=a3.free o;have a1:=Mod.set (fun i=>i=eb) (w1.setCell ⟨t,2,none⟩ (.bool true)) ⟨eb,o,none⟩ (.int .i64 (yz x)) rfl
     have B:=Hd (a3.set o (.int .i64 (yz x)));have a5:IsT ((w1.setCell ⟨t,2,none⟩ (.bool true)).setCell ⟨eb,o,none⟩ (.int .i64 (yz x))) t r v ⟨s2.l,s2.k,s2.er,true⟩ :=
      ⟨a4.mod a1 (fun e=>h1 e.symm),(a0.rd.mod a2 (fun e=>a0.ne e.symm) (fun b hb e=>a0.nv (by rw [hb,e]))).mod a1 (fun e=>h2 e.symm) (fun b hb e=>h6 (by rw [hb,e])),a0.ne,a0.nv,fun b hb=>by have:=a0.vl b hb;simp;omega⟩
     have C:=Hd a5;have D:=Hd (((I.1.trans (a6.mono (fun i hi=>hi.elim (fun e=>Or.inl e) (fun e=>Or.inr (Or.inl e))))).trans (a2.mono (fun i hi=>.inr (.inl hi)))).trans (a1.mono (fun i hi=>.inr (.inr hi))))
     have E:=Hd (show xt s cs (offs.take (j+1))=(⟨s2.l,s2.k,s2.er,true⟩,cs1.setIfInBounds o (.int .i64 (yz x))) by rw [H.1,A.1];simp only [hbg,hd,Bool.false_or,Bool.not_false])
     clear a4 a2 a3 a1 a5 a0 a7 a6 H A hbg hd;go_wp2_with fail
     go_roundg (offs.length-(j+1))
     case measure=>have:=F.1;have:=G.1;omega
     case rel=>exact ⟨j+1,by have:=F.1;have:=G.1;omega,by go_num,by rw [E.1];exact C.1,by rw [E.1];exact B.1,D.1⟩
    ·
     have hd:decide (x≤9223372036854775807)=true:=decide_eq_true (by omega)
     have b4:decide ((9223372036854775807:Int)<(x:Int))=false:=decide_eq_false hx;clear hx;have a4:=a0.box.set 2 (.bool false);have a2:=Mod.set (fun i=>i=t) w1 ⟨t,2,none⟩ (.bool false) rfl
     have a3:=a7.mod a2 h1;have e0:=a3.cell o _ (Array.getElem?_eq_getElem L.1);have f0:=a3.free o;have a1:=Mod.set (fun i=>i=eb) (w1.setCell ⟨t,2,none⟩ (.bool false)) ⟨eb,o,none⟩ (.int .i64 (yz x)) rfl
     have B:=Hd (a3.set o (.int .i64 (yz x)));have a5:IsT ((w1.setCell ⟨t,2,none⟩ (.bool false)).setCell ⟨eb,o,none⟩ (.int .i64 (yz x))) t r v ⟨s2.l,s2.k,s2.er,false⟩ :=
      ⟨a4.mod a1 (fun e=>h1 e.symm),(a0.rd.mod a2 (fun e=>a0.ne e.symm) (fun b hb e=>a0.nv (by rw [hb,e]))).mod a1 (fun e=>h2 e.symm) (fun b hb e=>h6 (by rw [hb,e])),a0.ne,a0.nv,fun b hb=>by have:=a0.vl b hb;simp;omega⟩
     have C:=Hd a5;have D:=Hd (((I.1.trans (a6.mono (fun i hi=>hi.elim (fun e=>Or.inl e) (fun e=>Or.inr (Or.inl e))))).trans (a2.mono (fun i hi=>.inr (.inl hi)))).trans (a1.mono (fun i hi=>.inr (.inr hi))))
     have E:=Hd (show xt s cs (offs.take (j+1))=(⟨s2.l,s2.k,s2.er,false⟩,cs1.setIfInBounds o (.int .i64 (yz x))) by rw [H.1,A.1];simp only [hbg,hd,Bool.false_or,Bool.not_true])
     clear a4 a2 a3 a1 a5 a0 a7 a6 H A hbg hd;go_wp2_with fail
     go_roundg (offs.length-(j+1))
     case measure=>have:=F.1;have:=G.1;omega
     case rel=>exact ⟨j+1,by have:=F.1;have:=G.1;omega,by go_num,by rw [E.1];exact C.1,by rw [E.1];exact B.1,D.1⟩
  ·
   have ht:offs.take j=offs:=List.take_of_length_le (by omega)
   rw [ht] at hT hB;have k1:¬ (j:Int)<(offs.length:Int):=by omega
   have M:=Hd hT;have K:=Hd hB;have I:=Hd hM;clear hT hB hM b0 ht hj;go_wp2_with fail;refine bodyPost_end (results_none rfl _ _ _) rfl ?_;exact ⟨rfl,M.1,K.1,I.1⟩
def zr (c:Nat):Bool:=decide (97≤c∧c≤122)
def xH (c:Nat):Bool:=decide (48≤c∧c≤57∨c=45∨c=95)
def zZ (l:List UInt8)(i:Nat):Bool:=zr (l.getD i 0).toNat || (decide (i≠0)&&xH (l.getD i 0).toNat)
def xS (l:List UInt8):Bool:=decide (1≤l.length∧l.length≤32∧∀ i,i<l.length→zZ l i=true)
theorem xG {l:List UInt8}{i:Nat}(h:i<l.length)(hn:zZ l i=false):xS l=false:=by
 unfold xS;rw [decide_eq_false_iff_not];intro ⟨_,_,h3⟩;rw [h3 i h] at hn;cases hn
theorem jeC {l:List UInt8}(h1:1≤l.length)(h2:l.length≤32)(h:∀ i,i<l.length→zZ l i=true):xS l=true:=by
 unfold xS;rw [decide_eq_true_iff];exact ⟨h1,h2,h⟩
theorem uN {l:List UInt8}(h:¬ (1≤l.length∧l.length≤32)):xS l=false:=by
 unfold xS;rw [decide_eq_false_iff_not];intro ⟨h1,h2,_⟩;exact h ⟨h1,h2⟩
theorem yk {l:List UInt8}{k c:Nat}{b:Bool}(hc:c=(l.getD k 0).toNat)(h:(zr c || (decide (k≠0)&&xH c))=b):zZ l k=b:=by
 unfold zZ;rw [← hc];exact h
theorem xp {l:List UInt8}{k:Nat}(h:∀ i,i<k→zZ l i=true)(hk:zZ l k=true):∀ i,i<k+1→zZ l i=true:=fun i hi=>by
 rcases Nat.lt_or_ge i k with h1 | h1
 · exact h i h1
 ·
  obtain rfl:i=k:=by omega
  exact hk
theorem jdP (l:List UInt8)(w:World)(hl:l.length≤9223372036854775807) :
  Calls prog 175 #[.string (SB l)] w fun e w'=>e=.returned (.bool (xS l))∧w'=w:=by
 have a5:(SB l).size=l.length:=SB_size l;by_cases h1:l.length<1
 ·
  have e1:=uN (l:=l) (by omega)
  have a1:((l.length:Nat):Int)<1:=by omega
  have E1:=Hd e1;clear e1;go_enter func175,ntmps175;go_wp2_with fail;go_ret;rw [E1.1];exact ⟨rfl,rfl⟩
 by_cases h2:32<l.length
 ·
  have e1:=uN (l:=l) (by omega)
  have a1:¬ ((l.length:Nat):Int)<1:=by omega
  have a2:(32:Int)<((l.length:Nat):Int):=by omega
  have E1:=Hd e1;clear e1;go_enter func175,ntmps175;go_wp2_with fail;go_ret;rw [E1.1];exact ⟨rfl,rfl⟩
 have a1:¬ ((l.length:Nat):Int)<1:=by omega
 have a2:¬ (32:Int)<((l.length:Nat):Int):=by omega
 go_enter func175,ntmps175;go_wp2_with fail
 go_loopg [3] l.length (fun gk iv wr=>∃ k:Nat,gk+k=l.length∧iv=.int .i64 (k:Int)∧wr=w∧∀ i,i<k→zZ l i=true)
 case atStart=>exact ⟨0,rfl,rfl,rfl,fun i hi=>by omega⟩
 case round =>
  obtain ⟨k,a0,rfl,rfl,hI⟩:=hrel;have A:=Hd a0;have B:=Hd hI;by_cases hk:k<l.length
  ·
   have a6:(0:Int)≤(k:Int):=by omega
   have a3:(k:Int)<(l.length:Int):=by omega
   have a4:=xC wr l k hk;obtain ⟨c,hc⟩:=Nm ((l.getD k 0).toNat);rw [← hc] at a4
   -- ROUND
   rcases (show (97≤c∧c≤122)∨(c<97∧k=0)∨(122<c∧k=0)∨(48≤c∧c≤57∧k≠0)∨(c=45∧k≠0)∨(c=95∧k≠0)∨(c<48∧c≠45∧k≠0)∨(57<c∧c<97∧c≠95∧k≠0)∨(122<c∧k≠0) by omega) with hcs | hcs | hcs | hcs | hcs | hcs | hcs | hcs | hcs
   ·
    have f0:(97:Int)≤(c:Int):=by omega
    have f1:(c:Int)≤122:=by omega
    have H:=Hd (xp (l:=l) (k:=k) B.1 (yk hc (by unfold zr xH;simp;omega)))
    clear hcs hI a0 hc hk;go_wp2_with fail
    go_roundg (l.length-(k+1))
    case measure=>have:=A.1;omega
    case rel=>exact ⟨k+1,by have:=A.1;omega,by go_num,rfl,H.1⟩
   ·
    have f0:¬ (97:Int)≤(c:Int):=by omega
    have f1:((k:Int)==0)=true:=by simp;omega
    have H:=Hd (xG hk (yk hc (by unfold zr xH;simp;omega)))
    clear hcs hI a0 hc hk;go_wp2_with fail;go_ret;rw [H.1];exact ⟨rfl,rfl⟩
   ·
    have f0:(97:Int)≤(c:Int):=by omega
    have f1:¬ (c:Int)≤122:=by omega
    have f2:((k:Int)==0)=true:=by simp;omega
    have H:=Hd (xG hk (yk hc (by unfold zr xH;simp;omega)))
    clear hcs hI a0 hc hk;go_wp2_with fail;go_ret;rw [H.1];exact ⟨rfl,rfl⟩
   ·
    have f0:¬ (97:Int)≤(c:Int):=by omega
    have f1:((k:Int)==0)=false:=by simp;omega
    have f2:¬ (c:Int)<48:=by omega
    have f3:¬ (57:Int)<(c:Int):=by omega
    have H:=Hd (xp (l:=l) (k:=k) B.1 (yk hc (by unfold zr xH;simp;omega)))
    clear hcs hI a0 hc hk;go_wp2_with fail
    go_roundg (l.length-(k+1))
    case measure=>have:=A.1;omega
    case rel=>exact ⟨k+1,by have:=A.1;omega,by go_num,rfl,H.1⟩
   ·
    have f0:((k:Int)==0)=false:=by simp;omega
    have f1:(c:Int)=45:=by omega
    have H:=Hd (xp (l:=l) (k:=k) B.1 (yk hc (by unfold zr xH;simp;omega)))
    clear hcs hI a0 hc hk;go_wp2_with fail
    go_roundg (l.length-(k+1))
    case measure=>have:=A.1;omega
    case rel=>exact ⟨k+1,by have:=A.1;omega,by go_num,rfl,H.1⟩
   ·
    have f0:((k:Int)==0)=false:=by simp;omega
    have f1:(c:Int)=95:=by omega
    have H:=Hd (xp (l:=l) (k:=k) B.1 (yk hc (by unfold zr xH;simp;omega)))
    clear hcs hI a0 hc hk;go_wp2_with fail
    go_roundg (l.length-(k+1))
    case measure=>have:=A.1;omega
    case rel=>exact ⟨k+1,by have:=A.1;omega,by go_num,rfl,H.1⟩
   ·
    have f0:¬ (97:Int)≤(c:Int):=by omega
    have f1:((k:Int)==0)=false:=by simp;omega
    have f2:(c:Int)<48:=by omega
    have f3:((c:Int) != 45)=true:=by simp;omega
    have f4:((c:Int) != 95)=true:=by simp;omega
    have H:=Hd (xG hk (yk hc (by unfold zr xH;simp;omega)))
    clear hcs hI a0 hc hk;go_wp2_with fail;go_ret;rw [H.1];exact ⟨rfl,rfl⟩
   ·
    have f0:¬ (97:Int)≤(c:Int):=by omega
    have f1:((k:Int)==0)=false:=by simp;omega
    have f2:¬ (c:Int)<48:=by omega
    have f3:(57:Int)<(c:Int):=by omega
    have f4:((c:Int) != 45)=true:=by simp;omega
    have f5:((c:Int) != 95)=true:=by simp;omega
    have H:=Hd (xG hk (yk hc (by unfold zr xH;simp;omega)))
    clear hcs hI a0 hc hk;go_wp2_with fail;go_ret;rw [H.1];exact ⟨rfl,rfl⟩
   ·
    have f0:(97:Int)≤(c:Int):=by omega
    have f1:¬ (c:Int)≤122:=by omega
    have f2:((k:Int)==0)=false:=by simp;omega
    have f3:¬ (c:Int)<48:=by omega
    have f4:(57:Int)<(c:Int):=by omega
    have f5:((c:Int) != 45)=true:=by simp;omega
    have f6:((c:Int) != 95)=true:=by simp;omega
    have H:=Hd (xG hk (yk hc (by unfold zr xH;simp;omega)))
    clear hcs hI a0 hc hk;go_wp2_with fail;go_ret;rw [H.1];exact ⟨rfl,rfl⟩
  ·
   have e1:=jeC (l:=l) (by omega) (by omega) (fun i hi=>hI i (by omega))
   have a3:¬ (k:Int)<(l.length:Int):=by omega
   have E1:=Hd e1;clear hI a0 e1;go_wp2_with fail;go_ret;rw [E1.1];exact ⟨rfl,rfl⟩
theorem jbz (s:ByteArray)(c:Int)(w:World) :
  Calls prog 222 #[.string s,.int .u8 c] w fun e w'=>e=.returned (.int .i64 (Lib.indexByte s.data.toList c.toNat.toUInt8))∧w'=w:=by
 go_enter func222,ntmps222
 go_wp2
 rw [run_callFunc_extern func223 (by kernel_rfl) (by kernel_rfl) (by kernel_rfl) (e:=Extern.BytealgIndexByte.indexByte) (by kernel_rfl),Lib.run_indexByteString]
 simp only [Result.andThen];rw [Oper.upon_value]
 go_wp2
 go_ret;exact ⟨rfl,rfl⟩
theorem vS (s:ByteArray)(c:Int)(w:World) :
  Calls prog 218 #[.string s,.int .u8 c] w fun e w'=>e=.returned (.int .i64 (Lib.indexByte s.data.toList c.toNat.toUInt8))∧w'=w:=by
 go_enter func218,ntmps218;go_wp2_with fail;refine (jbz s c w).mono ?_;rintro r w1 ⟨rfl,rfl⟩;go_wp2_with fail;go_ret;exact ⟨rfl,rfl⟩
def DG:ByteArray:=⟨#[48,49,50,51,52,53,54,55,56,57,45,95]⟩
theorem jkN:∀ c,c<128→decide (0≤Lib.indexByte DG.data.toList (Nat.toUInt8 c))=xH c:=by decide +kernel
theorem jck (r:Int)(w:World) :
  Calls prog 219 #[.int .i32 r] w fun e w'=>(e=.returned (.bool true)∨e=.returned (.bool false))∧w'=w:=by
 go_enter func219,ntmps219;go_wp2_with fail
 all_goals (go_ret;first | exact ⟨.inl rfl,rfl⟩ | exact ⟨.inr rfl,rfl⟩)
theorem jgh (c:Nat)(w:World)(hc:c<128) :
  Calls prog 216 #[.string DG,.int .i32 (c:Int)] w fun e w'=>e=.returned (.bool (xH c))∧w'=w:=by
 have h0:(0:Int)≤(c:Int):=by omega
 have h1:(c:Int)<128:=by omega
 have h2:IntKind.u8.wrap (c:Int)=(c:Int):=by simp [IntKind.wrap,IntKind.bits,IntKind.signed];omega
 have h3:=jkN c hc;go_enter func216,ntmps216;go_wp2_with fail
 go_in
 go_wp2_with fail;refine (vS _ _ w).mono ?_;rintro r w1 ⟨rfl,rfl⟩;go_wp2_with fail;go_ret;rw [← h3];exact ⟨rfl,rfl⟩
theorem jks (r:Int)(h:128≤r):∃ bs:List UInt8,Utf8.encode r=SB bs∧2≤bs.length∧bs.length≤4∧∀ b∈bs,128≤b.toNat:=by
 unfold Utf8.encode;obtain ⟨c,hc⟩:=Nm ((if Utf8.valid r then r.toNat else Utf8.runeError))
 have h1:128≤c∧c≤1114111:=by
  rw [hc];unfold Utf8.valid Utf8.runeError
  split
  · rename_i hv;simp at hv;omega
  · omega
 simp only [← hc];have hb:∀ n:Nat,128≤n→n<256→128≤(UInt8.ofNat n).toNat:=fun n h1 h2=>by
  have:(UInt8.ofNat n).toNat=n % 256:=rfl;omega
 rw [if_neg (by omega)]
 split
 ·
  refine ⟨[_,_],rfl,by simp,by simp,fun b h=>?_⟩
  simp only [List.mem_cons,List.not_mem_nil,or_false] at h
  rcases h with rfl | rfl <;> exact hb _ (by omega) (by omega)
 split
 ·
  refine ⟨[_,_,_],rfl,by simp,by simp,fun b h=>?_⟩
  simp only [List.mem_cons,List.not_mem_nil,or_false] at h
  rcases h with rfl | rfl | rfl <;> exact hb _ (by omega) (by omega)
 ·
  refine ⟨[_,_,_,_],rfl,by simp,by simp,fun b h=>?_⟩
  simp only [List.mem_cons,List.not_mem_nil,or_false] at h
  rcases h with rfl | rfl | rfl | rfl <;> exact hb _ (by omega) (by omega)
theorem uu:∀ (l:List UInt8) (c:UInt8),(∀ b∈l,b≠c)→Lib.indexByte l c = -1
 | [],_,_=>rfl
 | b::l,c,h=>by
  have ih:=uu l c (fun x hx=>h x (List.mem_cons_of_mem _ hx))
  unfold Lib.indexByte;rw [ih];have:=h b (List.mem_cons_self ..)
  simp [this]
theorem jfX (r:Int)(w:World)(h1:128≤r)(h2:r≤2147483647) :
  Calls prog 216 #[.string DG,.int .i32 r] w fun e w'=>e=.returned (.bool false)∧Below w.heap.size w w':=by
 have a0:(0:Int)≤r:=by omega
 have a1:¬ r<128:=by omega
 by_cases h3:r=65533
 ·
  subst h3;go_enter func216,ntmps216;go_wp2_with fail
  go_in
  go_wp2_with fail
  go_loopg [] 12 (fun gk wr=>∃ pos,gk+pos=12∧wr.heap[w.heap.size]?=some (.stringIter DG pos)∧Below w.heap.size w wr)
  case atStart=>exact ⟨0,rfl,World.iter_heap w DG 0,(Below.refl _ w).alloc (Nat.le_refl _) _⟩
  case round =>
   obtain ⟨pos,c2,a6,a8⟩:=hrel;by_cases hp:pos<12
   ·
    have a3:pos<DG.size:=hp;have b4:(DG[pos]'a3).toNat<128:=by
     have:∀ i (h:i<DG.size),(DG[i]'h).toNat<128:=by decide +kernel
     exact this pos a3
    have b5:∀ ty,(Instr.next (.pointer (some ⟨w.heap.size,0,none⟩)) true ty).run prog wr=_:=fun ty=>Lib.run_next_ascii_at wr w.heap.size DG pos ty a6 a3 b4
    have b1:=Lib.iterAt_heap wr w.heap.size DG pos (pos+1) a6;have b2:=Lib.below_iterAt a8 (k:=w.heap.size) (by omega) DG (pos+1)
    have b6:(((DG[pos]'a3).toNat:Int)==65533)=false:=by simp;omega
    go_wp2_with fail
    go_roundg (12-(pos+1))
    case measure=>omega
    case rel=>exact ⟨pos+1,by omega,b1,b2⟩
   ·
    have a3:¬ pos<DG.size:=hp;have b5:∀ ty,(Instr.next (.pointer (some ⟨w.heap.size,0,none⟩)) true ty).run prog wr=_:=fun ty=>Lib.run_next_end_at wr w.heap.size DG pos ty a6 a3
    go_wp2_with fail;go_ret;exact ⟨rfl,a8⟩
 ·
  have a2:(r==65533)=false:=by simp;omega
  obtain ⟨bs,e1,e2,e3,e4⟩:=jks r h1;go_enter func216,ntmps216;go_wp2_with fail
  go_in
  go_wp2_with fail;refine (jck r w).mono ?_;rintro e w1 ⟨rfl | rfl,rfl⟩
  rotate_left
  ·
   go_wp2_with fail;go_ret;exact ⟨rfl,Below.refl _ _⟩
  ·
   have b7:=fun w=>run_convert_int_string (P:=prog) w 21 9 .i32 r (by kernel_rfl) underlying9
   rw [e1] at b7;obtain ⟨k,hk⟩:∃ k,bs.length=k+1:=⟨bs.length-1,by omega⟩
   obtain ⟨y,hy⟩:=Nm ((bs.getD k 0).toNat);have c3:128≤y:=by
    rw [hy];refine e4 _ ?_;rw [List.getD,List.getElem?_eq_getElem (by omega)];exact List.getElem_mem _
   have c4:y<256:=by rw [hy];exact (bs.getD k 0).toNat_lt
   have b8:=fun w=>xC w bs k (by omega)
   have a9:=fun w=>xC w [48,49,50,51,52,53,54,55,56,57,45,95] k (by simp;omega)
   obtain ⟨z,hz⟩:∃ z,z=(([48,49,50,51,52,53,54,55,56,57,45,95]:List UInt8).getD k 0).toNat:=⟨_,rfl⟩;have c5:z<128:=by
    have:∀ i,i<12→(([48,49,50,51,52,53,54,55,56,57,45,95]:List UInt8).getD i 0).toNat<128:=by decide +kernel
    rw [hz];exact this k (by omega)
   rw [← hy] at b8;rw [← hz] at a9
   change ∀ w,(Instr.index 9 (.string DG) (.int .i64 (k:Int))).run prog w=_ at a9
   have b0:=fun w=>jbr w [48,49,50,51,52,53,54,55,56,57,45,95] (k+1) (by simp;omega)
   change ∀ w,(Instr.slice 9 (.string DG) (some (.int .i64 ((k+1:Nat):Int))) none none).run prog w=_ at b0
   rw [show ((k+1:Nat):Int)=(k:Int)+1 by omega] at b0
   have c0:(k:Int)<12:=by omega
   have c6:(0:Int)≤(k:Int):=by omega
   have b6:((z:Int) != (y:Int))=true:=by simp;omega
   have c7:(SB bs).size=k+1:=by rw [SB_size,hk]
   have c8:((k+1:Nat):Int)-1=(k:Int):=by omega
   have c1:DG.size=12:=rfl;have a4:Lib.indexByte ((SB (([48,49,50,51,52,53,54,55,56,57,45,95]:List UInt8).drop (k+1))).data.toList) ((y:Int)).toNat.toUInt8 = -1:=by
    rw [jhw];refine uu _ _ (fun b hb e=>?_)
    have a5:=List.mem_of_mem_drop hb;have:∀ x∈([48,49,50,51,52,53,54,55,56,57,45,95]:List UInt8),x.toNat<128:=by decide +kernel
    have h5:=this b a5;rw [e] at h5;have h6:(((y:Int)).toNat.toUInt8).toNat=y % 256:=rfl;omega
   change Lib.indexByte ((SB (([49,50,51,52,53,54,55,56,57,45,95]:List UInt8).drop k)).data.toList) ((y:Int)).toNat.toUInt8 = -1 at a4
   have a7:=fun w=>vS (SB (([49,50,51,52,53,54,55,56,57,45,95]:List UInt8).drop k)) (y:Int) w
   rw [a4] at a7;have H:=Hd a7;clear a4 a7 hk e2 e3 e4 e1 hy hz;go_wp2_with fail
   go_step3
   go_wp2_with fail
   go_loopg [9,10] 1 (fun gk iv fv wr=>gk=1∧iv=.int .i64 (k:Int)∧fv=.int .i64 0∧wr=w1)
   case atStart=>exact ⟨rfl,rfl,rfl,rfl⟩
   case round =>
    obtain ⟨rfl,rfl,rfl,rfl⟩:=hrel;go_wp2_with fail
    go_step3
    go_wp2_with fail
    go_quiet (fail)
    go_wp2_with fail;have b3:=H.1;have z1:IntKind.i64.wrap ((k:Int)+1)=(k:Int)+1:=by simp [IntKind.wrap,IntKind.bits,IntKind.signed];omega
    have a5:Below wr.heap.size wr (wr.drewN nq):=⟨rfl,rfl,rfl,Nat.le_refl _,fun _ _=>rfl⟩
    generalize wr.drewN nq=w2 at a5 ⊢
    go_quiet ((go_at_call 218;exact Calls.quiet_of_same (b3 _)))
    have b9:Below wr.heap.size wr (w2.drewN nq):=a5.trans ⟨rfl,rfl,rfl,Nat.le_refl _,fun _ _=>rfl⟩
    go_wp2_with fail;rw [Exit.noGoto_ret]
    go_simp
    go_wp2_with fail;go_ret;exact ⟨rfl,b9⟩
theorem jfZ (l:List UInt8)(w:World)(hl:l.length≤9223372036854775807) :
  Calls prog 215 #[.string (SB l)] w fun e w'=>e=.returned (.bool (xS l))∧Below w.heap.size w w':=by
 have b1:(SB l).size=l.length:=SB_size l;have b2:(SB l).toList=l:=jk l;by_cases h1:l.length<1
 ·
  have e1:=uN (l:=l) (by omega)
  obtain rfl:l = []:=List.eq_nil_of_length_eq_zero (by omega)
  have E1:=Hd e1;clear e1;go_enter func215,ntmps215;go_wp2_with fail;go_ret;rw [E1.1];exact ⟨rfl,Below.refl _ _⟩
 have h0:l.isEmpty=false:=by
  cases l with
  | nil=>simp at h1
  | cons a l=>rfl
 by_cases h2:32<l.length
 ·
  have e1:=uN (l:=l) (by omega)
  have b0:(32:Int)<((l.length:Nat):Int):=by omega
  have E1:=Hd e1;clear e1;go_enter func215,ntmps215;go_wp2_with fail;go_ret;rw [E1.1];exact ⟨rfl,Below.refl _ _⟩
 have b0:¬ (32:Int)<((l.length:Nat):Int):=by omega
 go_enter func215,ntmps215;go_wp2_with fail
 go_loopg [] l.length (fun gk wr=>∃ pos,gk+pos=l.length∧wr.heap[w.heap.size]?=some (.stringIter (SB l) pos)∧Below w.heap.size w wr∧∀ i,i<pos→zZ l i=true)
 case atStart=>exact ⟨0,rfl,World.iter_heap w (SB l) 0,(Below.refl _ w).alloc (Nat.le_refl _) _,fun i hi=>by omega⟩
 case round =>
  obtain ⟨pos,a1,a2,a3,hI⟩:=hrel;have C:=Hd a1;have E:=Hd hI;by_cases hp:pos<l.length
  ·
   have D:=Hd hp;have a0:pos<(SB l).size:=by omega
   have hg:((SB l)[pos]'a0).toNat=(l.getD pos 0).toNat:=by rw [jiB]
   obtain ⟨c,hc⟩:=Nm ((l.getD pos 0).toNat);rw [← hc] at hg;by_cases hlo:c<128
   ·
    have a7:((SB l)[pos]'a0).toNat<128:=by rw [hg];omega
    have a4:∀ ty,(Instr.next (.pointer (some ⟨w.heap.size,0,none⟩)) true ty).run prog wr=_:=fun ty=>Lib.run_next_ascii_at wr w.heap.size (SB l) pos ty a2 a0 a7
    rw [hg] at a4;have a6:=Lib.iterAt_heap wr w.heap.size (SB l) pos (pos+1) a2;have H:=Hd (Lib.below_iterAt a3 (k:=w.heap.size) (by omega) (SB l) (pos+1))
    have A:=Hd (fun w=>jgh c w hlo)
    clear hg a7 a2 a3
    rcases (show (97≤c∧c≤122)∨(c<97∧pos=0)∨(122<c∧pos=0)∨(c<97∧pos≠0)∨(122<c∧pos≠0) by omega) with hcs | hcs | hcs | hcs | hcs
    ·
     have f0:(97:Int)≤(c:Int):=by omega
     have f1:(c:Int)≤122:=by omega
     have B:=Hd (xp (l:=l) (k:=pos) E.1 (yk hc (by unfold zr xH;simp;omega)))
     clear hcs hI a1 hc hp a0 A;go_wp2_with fail
     go_roundg (l.length-(pos+1))
     case measure=>have:=C.1;have:=D.1;omega
     case rel=>exact ⟨pos+1,by have:=C.1;have:=D.1;omega,a6,H.1,B.1⟩
    ·
     have f0:¬ (97:Int)≤(c:Int):=by omega
     have f1:((pos:Int)==0)=true:=by simp;omega
     have B:=Hd (xG hp (yk hc (by unfold zr xH;simp;omega)))
     clear hcs hI a1 hc hp a0 A;go_wp2_with fail;go_ret;rw [B.1];exact ⟨rfl,H.1⟩
    ·
     have f0:(97:Int)≤(c:Int):=by omega
     have f1:¬ (c:Int)≤122:=by omega
     have f2:((pos:Int)==0)=true:=by simp;omega
     have B:=Hd (xG hp (yk hc (by unfold zr xH;simp;omega)))
     clear hcs hI a1 hc hp a0 A;go_wp2_with fail;go_ret;rw [B.1];exact ⟨rfl,H.1⟩
    ·
     have f0:¬ (97:Int)≤(c:Int):=by omega
     have f1:((pos:Int)==0)=false:=by simp;omega
     by_cases hd:xH c=true
     ·
      have B:=Hd (xp (l:=l) (k:=pos) E.1 (yk hc (by rw [hd];simp;omega)))
      have Hc2:=A.1;rw [hd] at Hc2;clear hcs hI a1 hc hp a0 A;go_wp2_with fail;refine (Hc2 _).mono ?_;rintro e w1 ⟨rfl,rfl⟩;go_wp2_with fail
      go_roundg (l.length-(pos+1))
      case measure=>have:=C.1;have:=D.1;omega
      case rel=>exact ⟨pos+1,by have:=C.1;have:=D.1;omega,a6,H.1,B.1⟩
     ·
      have a5:xH c=false:=by simpa using hd
      have B:=Hd (xG hp (yk hc (by rw [a5];unfold zr;simp;omega)))
      have Hc2:=A.1;rw [a5] at Hc2;clear hcs hI a1 hc hp a0 A;go_wp2_with fail;refine (Hc2 _).mono ?_;rintro e w1 ⟨rfl,rfl⟩;go_wp2_with fail;go_ret;rw [B.1];exact ⟨rfl,H.1⟩
    ·
     have f0:(97:Int)≤(c:Int):=by omega
     have f1:¬ (c:Int)≤122:=by omega
     have f2:((pos:Int)==0)=false:=by simp;omega
     by_cases hd:xH c=true
     ·
      have B:=Hd (xp (l:=l) (k:=pos) E.1 (yk hc (by rw [hd];simp;omega)))
      have Hc2:=A.1;rw [hd] at Hc2;clear hcs hI a1 hc hp a0 A;go_wp2_with fail;refine (Hc2 _).mono ?_;rintro e w1 ⟨rfl,rfl⟩;go_wp2_with fail
      go_roundg (l.length-(pos+1))
      case measure=>have:=C.1;have:=D.1;omega
      case rel=>exact ⟨pos+1,by have:=C.1;have:=D.1;omega,a6,H.1,B.1⟩
     ·
      have a5:xH c=false:=by simpa using hd
      have B:=Hd (xG hp (yk hc (by rw [a5];unfold zr;simp;omega)))
      have Hc2:=A.1;rw [a5] at Hc2;clear hcs hI a1 hc hp a0 A;go_wp2_with fail;refine (Hc2 _).mono ?_;rintro e w1 ⟨rfl,rfl⟩;go_wp2_with fail;go_ret;rw [B.1];exact ⟨rfl,H.1⟩
   ·
    have a8:128≤((SB l)[pos]'a0).toNat:=by rw [hg];omega
    obtain ⟨d1,d2⟩:=decode_high (SB l) pos a0 a8;have d3:=decode_le (SB l) pos;have a4:∀ ty,(Instr.next (.pointer (some ⟨w.heap.size,0,none⟩)) true ty).run prog wr=_:=fun ty=>Lib.run_next_any_at wr w.heap.size (SB l) pos ty a2 a0
    obtain ⟨r,hr⟩:=Nm ((Utf8.decode (SB l) pos).1);obtain ⟨q,hq⟩:=Nm ((Utf8.decode (SB l) pos).2);rw [← hr] at a4 d1 d3;rw [← hq] at a4;have H:=Hd (Lib.below_iterAt a3 (k:=w.heap.size) (by omega) (SB l) (pos+q))
    have B:=Hd (xG hp (yk hc (b:=false) (by unfold zr xH;simp;omega)))
    have A:=Hd (jfX (r:Int) (wr.iterAt w.heap.size (SB l) (pos+q)) (by omega) (by omega))
    have f0:(97:Int)≤(r:Int):=by omega
    have f1:¬ (r:Int)≤122:=by omega
    have b3:=a3.size;clear hg a8 a2 a3 hr hq d1 d2 d3 hc hlo hI a1;by_cases hp0:pos=0
    ·
     have f2:((pos:Int)==0)=true:=by simp;omega
     clear A hp0;go_wp2_with fail;go_ret;rw [B.1];exact ⟨rfl,H.1⟩
    ·
     have f2:((pos:Int)==0)=false:=by simp;omega
     go_wp2_with fail;refine A.1.mono ?_;rintro e w1 ⟨rfl,a9⟩;have F:=Hd (H.1.trans (a9.mono H.1.size));clear a9 H;go_wp2_with fail;go_ret;rw [B.1];exact ⟨rfl,F.1⟩
  ·
   have a0:¬ pos<(SB l).size:=by omega
   have a4:∀ ty,(Instr.next (.pointer (some ⟨w.heap.size,0,none⟩)) true ty).run prog wr=_:=fun ty=>Lib.run_next_end_at wr w.heap.size (SB l) pos ty a2 a0
   have E1:=Hd (jeC (l:=l) (by omega) (by omega) (fun i hi=>hI i (by omega)))
   clear hI a1;go_wp2_with fail;go_ret;rw [E1.1];exact ⟨rfl,a3⟩
end Go.Proofs.YtgcnolapjppbpaaGreatDoor
