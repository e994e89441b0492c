/-
  Texts of one proof, one behind the other.
-/
import Derived.Test.YtgcnolapjppbpaaGreatDoorP38
import Derived.Test.YtgcnolapjppbpaaGreatDoorP16
import Derived.Test.YtgcnolapjppbpaaGreatDoorP39
import Derived.Test.YtgcnolapjppbpaaGreatDoorP23
import Derived.Test.YtgcnolapjppbpaaGreatDoorP00
namespace Go.Proofs.YtgcnolapjppbpaaGreatDoor
open Go.RowKit _root_.Go.Proofs.Tryz
set_option maxRecDepth 100000
set_option maxHeartbeats 25600000
def yO:Nat→TkM→List SesM × TkM
 | 0,s=>([],s)
 | n+1,s=>if s.er=0 then ((yH s).1::(yO n (yH s).2).1,(yO n (yH s).2).2) else ([],s)
def jaj (s:TkM)(st:StM):Int × StM:=if s.er=0 then (if 0<s.rest.length then (3,yh) else if s.big=true then (24,yh) else if yu st=none then (0,st) else (24,yh)) else (s.er,yh)
def zX (l:List UInt8):Int × StM :=
 let c:=(⟨l,0,0,false⟩:TkM).rint
 let b:=c.2.rint
 let p:=b.2.num
 if p.2.er=0∧32<p.1 then (24,yh) else jaj (yO p.1 p.2).2 ⟨c.1,b.1,(yO p.1 p.2).1⟩
theorem jaG {s:TkM}(h:s.er≠0):∀ n,yO n s=([],s)
 | 0=>rfl
 | n+1=>by unfold yO;rw [if_neg h]
theorem jbk:∀ (n:Nat) (s:TkM),(yO n s).2.er=0→yO (n+1) s=((yO n s).1 ++ [(yH (yO n s).2).1],(yH (yO n s).2).2)
 | 0,s,h=>by
  have h:s.er=0:=h;unfold yO;rw [if_pos h];rfl
 | n+1,s,h=>by
  by_cases h0:s.er=0
  ·
   have e1:yO (n+1) s=((yH s).1::(yO n (yH s).2).1,(yO n (yH s).2).2):=by rw [yO,if_pos h0]
   rw [e1] at h ⊢;have ih:=jbk n (yH s).2 h;rw [yO,if_pos h0,ih];rfl
  · rw [jaG h0] at h;exact absurd h h0
theorem jep {n m:Nat}{s:TkM}(a0:n≤m)(h:(yO n s).2.er≠0):yO m s=yO n s:=by
 induction n generalizing m s with
 | zero=>exact jaG h m
 | succ n ih =>
  by_cases h0:s.er=0
  ·
   obtain ⟨m',rfl⟩:∃ m',m=m'+1:=⟨m-1,by omega⟩
   have e1:yO (n+1) s=((yH s).1::(yO n (yH s).2).1,(yO n (yH s).2).2):=by rw [yO,if_pos h0]
   rw [e1] at h ⊢;rw [yO,if_pos h0,ih (by omega) h]
  · rw [jaG h0,jaG h0]
theorem jcZ:∀ (n:Nat) (s:TkM),(yO n s).1.length≤n
 | 0,_=>Nat.le_refl _
 | n+1,s=>by
  unfold yO
  split
  · have:=jcZ n (yH s).2;simp only [List.length_cons];omega
  · simp
theorem jkc {s:TkM}(h:¬ (s.num.2.er=0∧32<s.num.1)):s.num.1≤32:=by
 by_cases he:s.num.2.er=0
 ·
  rcases Nat.lt_or_ge 32 s.num.1 with h1 | h1
  · exact absurd ⟨he,h1⟩ h
  · exact h1
 ·
  unfold TkM.num at he ⊢
  split
  ·
   rename_i h0
   rw [if_pos h0] at he
   split
   · rename_i h1;rw [if_pos h1] at he;exact absurd rfl he
   · exact Nat.zero_le _
  · exact Nat.zero_le _
structure RkSt (w0 w:World)(t b8:Nat)(v:Value)(s:TkM)(c b:Int)(x:Value)(l:List SesM):Prop where
 it:IsRK w t v s
 bz:Box w w0.heap.size #[.int .i64 0,.int .i64 0,.slice none 0 0] 30
 bs:Box w b8 #[.int .i64 c,.int .i64 b,x] 30
 own:OwnS w (b8+1) x l
 bel:Below w0.heap.size w0 w
 o1:w0.heap.size<t
 o2:t<b8
 ov:∀ k,v.ownBlock=some k→k<w0.heap.size
theorem RkSt.below {w0 w w':World}{t b8:Nat}{v x:Value}{s:TkM}{c b:Int}{l:List SesM}(h:RkSt w0 w t b8 v s c b x l)(hb:Below w.heap.size w w'):RkSt w0 w' t b8 v s c b x l :=
 ⟨h.it.below hb,h.bz.below hb,h.bs.below hb,h.own.below hb,h.bel.trans (hb.mono h.bel.size),h.o1,h.o2,h.ov⟩
theorem RkSt.step {w0 w w':World}{t b8:Nat}{v v' x:Value}{s s':TkM}{c b:Int}{l:List SesM}(h:RkSt w0 w t b8 v s c b x l)(hi:IsRK w' t v' s')(hv:v'.ownBlock=v.ownBlock)(hm:Mod (fun i=>i=t) w w'):RkSt w0 w' t b8 v' s' c b x l:=by
 have:=h.o1;have:=h.o2;exact ⟨hi,h.bz.mod hm (by omega),h.bs.mod hm (by omega),h.own.mod hm (fun k hk=>by have:=(h.own.lt k hk).1;omega),h.bel.trans (hm.below h.bel.size (fun i hi=>by omega)),h.o1,h.o2,fun k hk=>h.ov k (hv ▸ hk)⟩
theorem RkSt.clock {w0 w:World}{t b8:Nat}{v x:Value}{s:TkM}{c b:Int}{l:List SesM}(h:RkSt w0 w t b8 v s c b x l)(c':Int):RkSt w0 (w.setCell ⟨b8,0,none⟩ (.int .i64 c')) t b8 v s c' b x l:=by
 have:=h.o1;have:=h.o2;have hm:=Mod.set (fun i=>i=b8) w ⟨b8,0,none⟩ (.int .i64 c') rfl
 exact ⟨h.it.mod hm (by omega) (fun k hk e=>by have:=h.ov k hk;omega),h.bz.mod hm (by omega),h.bs.set 0 _,h.own.mod hm (fun k hk e=>by have:=(h.own.lt k hk).1;omega),h.bel.trans (hm.below h.bel.size (fun i hi=>by omega)),h.o1,h.o2,h.ov⟩
theorem RkSt.birth {w0 w:World}{t b8:Nat}{v x:Value}{s:TkM}{c b:Int}{l:List SesM}(h:RkSt w0 w t b8 v s c b x l)(b':Int):RkSt w0 (w.setCell ⟨b8,1,none⟩ (.int .i64 b')) t b8 v s c b' x l:=by
 have:=h.o1;have:=h.o2;have hm:=Mod.set (fun i=>i=b8) w ⟨b8,1,none⟩ (.int .i64 b') rfl
 exact ⟨h.it.mod hm (by omega) (fun k hk e=>by have:=h.ov k hk;omega),h.bz.mod hm (by omega),h.bs.set 1 _,h.own.mod hm (fun k hk e=>by have:=(h.own.lt k hk).1;omega),h.bel.trans (hm.below h.bel.size (fun i hi=>by omega)),h.o1,h.o2,h.ov⟩
theorem RkSt.put {w0 w w':World}{t b8:Nat}{v x x':Value}{s:TkM}{c b:Int}{l l':List SesM}(h:RkSt w0 w t b8 v s c b x l)(hg:w.grownBy w' x.ownBlock)(ho:OwnS w' (b8+1) x' l'):RkSt w0 (w'.setCell ⟨b8,2,none⟩ x') t b8 v s c b x' l':=by
 have:=h.o1;have:=h.o2;have hm:Mod (fun i=>b8+1≤i) w w':=Mod.of_grown hg (fun k hk=>(h.own.lt k hk).1)
 have a0:=Mod.set (fun i=>i=b8) w' ⟨b8,2,none⟩ x' rfl
 exact ⟨(h.it.mod hm (by omega) (fun k hk e=>by have:=h.ov k hk;omega)).mod a0 (by omega) (fun k hk e=>by have:=h.ov k hk;omega),(h.bz.mod hm (by omega)).mod a0 (by omega),(h.bs.mod hm (by omega)).set 2 x',ho.mod a0 (fun k hk e=>by have:=(ho.lt k hk).1;omega),(h.bel.trans (hm.below h.bel.size (fun i hi=>by omega))).trans (a0.below (Nat.le_trans h.bel.size hm.size) (fun i hi=>by omega)),h.o1,h.o2,h.ov⟩
theorem RkSt.fill {w0 w:World}{t b8:Nat}{v x:Value}{s:TkM}{c b:Int}{l:List SesM}(h:RkSt w0 w t b8 v s c b x l)(c' b':Int)(y:Value) :
  Box (((w.setCell ⟨w0.heap.size,0,none⟩ (.int .i64 c')).setCell ⟨w0.heap.size,1,none⟩ (.int .i64 b')).setCell ⟨w0.heap.size,2,none⟩ y) w0.heap.size #[.int .i64 c',.int .i64 b',y] 30∧OwnS (((w.setCell ⟨w0.heap.size,0,none⟩ (.int .i64 c')).setCell ⟨w0.heap.size,1,none⟩ (.int .i64 b')).setCell ⟨w0.heap.size,2,none⟩ y) w0.heap.size x l∧Below w0.heap.size w0 (((w.setCell ⟨w0.heap.size,0,none⟩ (.int .i64 c')).setCell ⟨w0.heap.size,1,none⟩ (.int .i64 b')).setCell ⟨w0.heap.size,2,none⟩ y):=by
 have:=h.o1;have:=h.o2;have hm:=(Mod.set (fun i=>i=w0.heap.size) w ⟨w0.heap.size,0,none⟩ (.int .i64 c') rfl).trans ((Mod.set (fun i=>i=w0.heap.size) _ ⟨w0.heap.size,1,none⟩ (.int .i64 b') rfl).trans (Mod.set (fun i=>i=w0.heap.size) _ ⟨w0.heap.size,2,none⟩ y rfl))
 exact ⟨((h.bz.set 0 _).set 1 _).set 2 y,(h.own.mod hm (fun k hk e=>by have:=(h.own.lt k hk).1;omega)).base (by omega),h.bel.trans (hm.below h.bel.size (fun i hi=>by omega))⟩
theorem xA {w:World}{b:Nat}{c d:Int}{x:Value}{t:TypeId}(h:Box w b #[.int .i64 c,.int .i64 d,x] t):w.rangeAt b 0 [.int .i64 c,.int .i64 d,x]:=h.range 0 _ (fun j v hv=>by rw [Nat.zero_add];simpa using hv)
theorem jjs (s:TkM):SesOk (yH s).1:=⟨Nat.le_trans (TkM.txt_len _) (by decide),Nat.le_trans (TkM.txt_len _) (by decide),TkM.num_lt _⟩
theorem jff:∀ (n:Nat) (s:TkM),∀ x∈(yO n s).1,SesOk x
 | 0,_,_,h=>by cases h
 | n+1,s,x,h=>by
  unfold yO at h
  split at h
  ·
   rcases List.mem_cons.1 h with rfl | h
   · exact jjs s
   · exact jff n _ x h
  · cases h
theorem jdT (l:List UInt8)(v:Value)(w:World)(h:Rd w v l.length (l.map V8))(d4:l.length≤1000000000000)(d0:∀ b,v.ownBlock=some b→b<w.heap.size) :
  Calls prog 106 #[v] w fun e w'=>∃ o,e=.returned (.tuple #[.agg #[.int .i64 (zX l).2.clock,.int .i64 (zX l).2.births,o],.int .i64 (zX l).1])∧OwnS w' w.heap.size o (zX l).2.l∧Below w.heap.size w w':=by
 have e4:=h;obtain ⟨va,vcap,rfl,_⟩:=e4;generalize hvn:(Value.slice va l.length vcap)=v at h d0;have e3:=hvn;obtain ⟨vn,d5⟩:=Nm (l.length);rw [← d5] at hvn;subst hvn;clear e3 d5;have d1:Below w.heap.size w (((w.alloc (.cells #[.int .i64 0,.int .i64 0,.slice none 0 0] 30)).alloc (.cells #[.slice va vn vcap,.int .i64 0,.bool false] 271)).alloc (.cells #[.int .i64 0,.int .i64 0,.slice none 0 0] 30)):=(jn w (.cells #[.int .i64 0,.int .i64 0,.slice none 0 0] 30) (.cells #[.slice va vn vcap,.int .i64 0,.bool false] 271)).trans ((ja ((w.alloc (.cells #[.int .i64 0,.int .i64 0,.slice none 0 0] 30)).alloc (.cells #[.slice va vn vcap,.int .i64 0,.bool false] 271)) (.cells #[.int .i64 0,.int .i64 0,.slice none 0 0] 30)).mono (jn w _ _).size);have d3:RkSt w (((w.alloc (.cells #[.int .i64 0,.int .i64 0,.slice none 0 0] 30)).alloc (.cells #[.slice va vn vcap,.int .i64 0,.bool false] 271)).alloc (.cells #[.int .i64 0,.int .i64 0,.slice none 0 0] 30)) (w.heap.size+1) (w.heap.size+1+1) (.slice va vn vcap) ⟨l,0,0,false⟩ 0 0 (.slice none 0 0) []:=by
  have h1:=Box.new w #[.int .i64 0,.int .i64 0,.slice none 0 0] 30;have h2:=Box.new (w.alloc (.cells #[.int .i64 0,.int .i64 0,.slice none 0 0] 30)) #[.slice va vn vcap,.int .i64 0,.bool false] 271;have h3:=Box.new ((w.alloc (.cells #[.int .i64 0,.int .i64 0,.slice none 0 0] 30)).alloc (.cells #[.slice va vn vcap,.int .i64 0,.bool false] 271)) #[.int .i64 0,.int .i64 0,.slice none 0 0] 30;rw [World.size_alloc] at h2;rw [World.size_alloc,World.size_alloc] at h3;exact ⟨⟨h2.below (ja _ _),h.below d1,fun e=>by have:=d0 _ e;omega,d4⟩,(h1.below (ja _ _)).below (ja _ _),h3,OwnS.nil _ _,d1,by omega,by omega,d0⟩
 obtain ⟨D,hD⟩:=Nm (zX l);rw [← hD];unfold zX at hD;simp only at hD;obtain ⟨s0,d6⟩:∃ s0:TkM,s0=⟨l,0,0,false⟩:=⟨_,rfl⟩;rw [← d6] at d3 hD;have HD:=Hd hD;have H:=Hd d3;clear d3 hD h d4 d0 d1 d6;go_enter func106,ntmps106;go_wp2_with fail;generalize hw1:World.alloc _ _=w1 at H ⊢;clear hw1;obtain ⟨p,hp⟩:=Nm (w.heap.size);generalize ht:w.heap.size+1=t at H ⊢;generalize hb8:t+1=b8 at H ⊢;clear ht hb8;refine (jU t (.slice va vn vcap) s0 w1 H.1.it).mono ?_;rintro e w2 ⟨rfl,⟨v2,hk,d7⟩,hm⟩;have H1:=Hd (H.1.step hk d7 hm);obtain ⟨cc,d8⟩:=Nm (s0.rint);rw [← d8] at H1 HD ⊢;have c0:w2.cell? ⟨b8,0,none⟩=some (.int .i64 0):=H1.1.bs.cell 0 _ rfl;have f0:=H1.1.bs.free 0;have H5:=Hd (H1.1.clock cc.1);clear hk d7 hm H H1 d8;go_wp2_with fail;generalize (w2.setCell ⟨b8,0,none⟩ (.int .i64 cc.1))=w3 at H5 ⊢;clear c0 f0;refine (jU t v2 cc.2 w3 H5.1.it).mono ?_;rintro e w4 ⟨rfl,⟨v4,hk,d9⟩,hm⟩;have H2:=Hd (H5.1.step hk d9 hm);obtain ⟨bb,e0⟩:=Nm (cc.2.rint);rw [← e0] at H2 HD ⊢;have c1:w4.cell? ⟨b8,1,none⟩=some (.int .i64 0):=H2.1.bs.cell 1 _ rfl;have f1:=H2.1.bs.free 1;have H6:=Hd (H2.1.birth bb.1);clear hk d9 hm H5 H2 e0;go_wp2_with fail;generalize (w4.setCell ⟨b8,1,none⟩ (.int .i64 bb.1))=w5 at H6 ⊢;clear c1 f1;refine (xm t v4 bb.2 w5 H6.1.it).mono ?_;rintro e w6 ⟨rfl,⟨v6,hk,e1⟩,hm⟩;have G:=Hd (H6.1.step hk e1 hm);have c9:=@jkc bb.2;obtain ⟨q,hq⟩:=Nm (bb.2.num);rw [← hq] at G HD c9 ⊢;have H7:=Hd c9;clear hk e1 hm H6 hq c9;obtain ⟨n,s⟩:=q;simp only at G HD H7 ⊢;have k1:w6.cell? ⟨t,1,none⟩=some (.int .i64 s.er):=G.1.it.box.cell 1 _ rfl;by_cases a9:s.er=0∧32<n
 ·
  have J:=Hd (show D=(24,yh) by rw [HD.1,if_pos a9])
  have t1:(s.er==0)=true:=by rw [a9.1];rfl
  have t2:decide ((32:Int)<(n:Int))=true:=by simp;omega
  have t2':decide (32<n)=true:=by simp;omega
  have z0:(w6).cell? ⟨w.heap.size,0,none⟩=some (.int .i64 0):=G.1.bz.cell 0 _ rfl;have y0:=G.1.bz.free 0;have z1:(w6).cell? ⟨w.heap.size,1,none⟩=some (.int .i64 0):=G.1.bz.cell 1 _ rfl;have y1:=G.1.bz.free 1;have z2:(w6).cell? ⟨w.heap.size,2,none⟩=some (.slice none 0 0):=G.1.bz.cell 2 _ rfl;have y2:=G.1.bz.free 2;have C:=Hd (G.1.fill 0 0 (.slice none 0 0));clear G H7 a9 HD;go_wp2_with fail;exact jb rfl rfl w.heap.size 0 rfl [.int .i64 0,.int .i64 0,.slice none 0 0] _ (xA C.1.1) underlying30 rfl (by kernel_rfl) _ rfl ⟨_,by rw [J.1];rfl,by rw [J.1];exact OwnS.nil _ _,C.1.2.2⟩
 have hn:=H7.1 a9;have F:=Hd (show D=jaj (yO n s).2 ⟨cc.1,bb.1,(yO n s).1⟩ by rw [HD.1,if_neg a9])
 have hz:IntKind.i64.wrap (n:Int)=(n:Int):=by simp [IntKind.wrap,IntKind.bits,IntKind.signed];omega
 have Ha:=Hd hn;have t4:decide ((32:Int)<(n:Int))=false:=by simp;omega
 have t4':decide (32<n)=false:=by simp;omega
 cases t3:(s.er==0)
 ·
  have a9:=a9;go_wp2_with fail;clear t3 t4 t4'
  go_loopg [7] n (fun gk iv wr=>∃ (i:Nat) (v' x:Value),gk+i=n∧iv=.int .i64 (i:Int)∧RkSt w wr t b8 v' (yO i s).2 cc.1 bb.1 x (yO i s).1)
  case atStart=>exact ⟨0,_,_,Nat.add_zero _,rfl,G.1⟩
  case round =>
   clear G k1;obtain ⟨i,v',x,b4,rfl,hS⟩:=hrel;have i0:(0:Int)≤(i:Int):=by omega
   have Z:=Hd b4;have V:=Hd (jcZ i s);have H0:=Hd (jff i s);have M:=Hd (jbk i s);have N:=Hd (fun h1 h2=>@jep i n s h1 h2)
   obtain ⟨R,hR⟩:=Nm (yO i s);have Y:=Hd hR;rw [← hR] at hS V H0 M N;clear hR b4;obtain ⟨L,S⟩:=R;simp only at hS V H0 M N;have H:=Hd hS;clear hS;have k1:wr.cell? ⟨t,1,none⟩=some (.int .i64 S.er):=H.1.it.box.cell 1 _ rfl;by_cases hi:i<n
   ·
    have i1:(i:Int)<(n:Int):=by omega
    by_cases he:S.er=0
    rotate_left
    ·
     have I:=Hd (show D=jaj S ⟨cc.1,bb.1,L⟩ by rw [F.1,N.1 (by omega) he])
     have t0:(S.er==0)=false:=by rw [beq_eq_false_iff_ne];exact he
     clear hi M N Y;have A:=Hd (show D=(S.er,yh) by rw [I.1];unfold jaj;rw [if_neg he])
     have t1:(S.er != 0)=true:=by rw [bne_iff_ne];exact he
     have t1':(S.er==0)=false:=by rw [beq_eq_false_iff_ne];exact he
     clear he I;go_wp2_with fail;clear k1 t1 t1';have a5:=H.1.it.box.cell 1 _ rfl;have Q:=Hd a5;have T:=Hd (And.intro H.1.o1 H.1.bel.size);clear a5;refine wp_region_held_drew (S:=fun W=>Mod (fun i=>i=w.heap.size) wr W) (by kernel_rfl) (Mod.drew _ wr) (fun a0=>?_)
     refine Tk 0 59 ?_;refine Tk 1 60 ?_;refine Tk 2 61 ?_;refine Tk 3 62 ?_;refine Tk 4 63 ?_ (hy:=by intro w' a6;have u1:=jaT a6 Q.1 (fun e=>by have h1:t=w.heap.size:=e;have:=T.1.1;omega);clear a6;go_simp;try with_reducible rfl)
     refine Rs 5 30 2 59 fun K hK=>?_
     rw [if_pos (by kernel_rfl)]
     refine uD 30 (.tmp 2) (.tmp 59) rfl w.heap.size 0 [.int .i64 0,.int .i64 0,.slice none 0 0] rfl rfl (show Box wr.drew w.heap.size #[.int .i64 0,.int .i64 0,.slice none 0 0] 30 from H.1.bz).thereG3 (by kernel_rfl) (jhs _ _ _ _ _) ?_
     obtain ⟨a7,a3⟩:=(show Box wr.drew w.heap.size #[.int .i64 0,.int .i64 0,.slice none 0 0] 30 from H.1.bz).setG3 (.int .i64 0) (.int .i64 0) (.slice none 0 0)
     have a1:=(H.1.bel.drew).trans (a3.below (B:=w.heap.size) T.1.2 (fun i hi=>Nat.le_of_eq hi.symm))
     refine hK.out _ _ (a0.trans a3) (fun a4=>?_)
     have C:=Hd (And.intro a7 a1);clear hK K a7 a3 a1
     try simp only [Act.put]
     refine Tk 6 3 ?_;refine Dn ?_;clear a0 a4 H Q F;generalize (World.setCells _ _ _ _)=w9 at C ⊢;go_wp2_with fail;exact jb rfl rfl w.heap.size 0 rfl [.int .i64 0,.int .i64 0,.slice none 0 0] _ (xA C.1.1) underlying30 rfl (by kernel_rfl) _ rfl ⟨_,by rw [A.1];rfl,by rw [A.1];exact OwnS.nil _ _,C.1.2⟩
    have t0:(S.er==0)=true:=by rw [he];rfl
    have X:=Hd (M.1 he);have HI:=Hd hi;clear hi he M N Y;go_wp2_with fail;refine (ve t v' S wr H.1.it (fun k hk=>by have:=H.1.ov k hk;have:=H.1.bel.size;omega)).mono ?_
    rintro e w7 ⟨rfl,⟨v7,hk,b5⟩,hm⟩;have E:=Hd (H.1.step hk b5 hm);obtain ⟨BR,b6⟩:=Nm (yH S);rw [← b6] at E X ⊢;clear hk b5 hm H b6 k1 t0;obtain ⟨bs,S'⟩:=BR;simp only at E X ⊢
    go_wp2_with ((with_reducible refine jc ?S1a 45 (.tmp 8) (.tmp 47) ?S1b (w7.heap.size) (0) bs.cells.toList ?S1c bs.cells ?S1d (SesM.listS _) ?S1e ?S1f ?S1g ?S1h);(case S1b=>rfl);(case S1a=>rfl);(case S1c=>rfl);(case S1d=>rfl);(case S1e=>exact xf _ _);(case S1f=>kernel_rfl);(case S1g=>exact SesM.oneS _))
    intro w8 b7;obtain ⟨b9,b0⟩:=vE b7;have H3:=Hd b9.rangeS;have U:=Hd (E.1.below b0);obtain ⟨xa,xc,rfl,_⟩:=U.1.own.slice;obtain ⟨xn,a8⟩:=Nm (L.length);rw [← a8] at U;have c2:w8.cell? ⟨b8,2,none⟩=some (.slice xa xn xc):=U.1.bs.cell 2 _ rfl;clear b7 b9 b0 E a8
    go_wp2_with ((with_reducible refine je ?L2a 45 (.tmp 8) ?L2b (w7.heap.size) (0) ?L2c bs.cells.toList _ (H3.1) underlying45 ?L2d ?L2e ?L2f);(case L2b=>rfl);(case L2a=>rfl);(case L2c=>rfl);(case L2d=>rfl);(case L2e=>kernel_rfl))
    intro cv c3;have ecv:cv=bs.cells:=by rw [c3.out]
    subst ecv;clear c3 H3
    go_wp2_with (refine jD (op:=⟨some 51,_,_,_,_,_⟩) (by rfl) 28 1 #[(0,.tmp 50)] rfl #[(0,.agg bs.cells)] (by kernel_rfl) _ _ (zJ bs w8) ?_)
    intro w9 b1;have a1:Below w8.heap.size w8 w9:=by rw [b1.out];exact ja _ _
    have H4:=Hd (show ∀ j u,bs.cells.toList[j]?=some u→w9.cell? ((⟨w8.heap.size,0,none⟩:Addr).add j)=some u by rw [b1.out];exact yY w8 bs _)
    have O:=Hd (U.1.below a1);have H8:=Hd (show L.length+1≤1256584717458 by have:=V.1;have:=Ha.1;have:=HI.1;omega)
    clear b1 a1 U c2
    go_wp2_with (at_builtin;refine vP rfl _ _ rfl (b8+1) _ L rfl O.1.own ⟨w8.heap.size,0,none⟩ 1 bs rfl H4.1 H8.1 (by have:=O.1.bs.lt;omega) ?_)
    intro y wa a2 b2 _;obtain ⟨ya,yc,rfl,_⟩:=a2.slice;obtain ⟨yn,c4⟩:=Nm ((L ++ [bs]).length);rw [← c4] at a2 ⊢;clear c4;have H9:=Hd (O.1.put b2 a2);have b3:Box wa b8 #[.int .i64 cc.1,.int .i64 bb.1,.slice xa xn xc] 30:=O.1.bs.grown b2 (fun e=>by have:=(O.1.own.lt _ e).1;omega)
    have d2:wa.cell? ⟨b8,2,none⟩=some (.slice xa xn xc):=b3.cell 2 _ rfl;have e2:=b3.free 2;clear b2 a2 O H4 b3;go_wp2_with fail
    go_roundg (n-(i+1))
    case measure=>have:=Z.1;have:=HI.1;omega
    case rel=>exact ⟨i+1,_,_,by have:=Z.1;have:=HI.1;omega,by go_num,by rw [X.1];exact H9.1⟩
   have i1:¬ (i:Int)<(n:Int):=by omega
   have I:=Hd (show D=jaj S ⟨cc.1,bb.1,L⟩ by
    have:i=n:=by have:=Z.1;omega
    rw [F.1,← this,← Y.1])
   clear hi M N Y;by_cases he:S.er=0;rotate_left
   ·
    have A:=Hd (show D=(S.er,yh) by rw [I.1];unfold jaj;rw [if_neg he])
    have t1:(S.er != 0)=true:=by rw [bne_iff_ne];exact he
    have t1':(S.er==0)=false:=by rw [beq_eq_false_iff_ne];exact he
    clear he I;go_wp2_with fail;clear k1 t1 t1';have a5:=H.1.it.box.cell 1 _ rfl;have Q:=Hd a5;have T:=Hd (And.intro H.1.o1 H.1.bel.size);clear a5;refine wp_region_held_drew (S:=fun W=>Mod (fun i=>i=w.heap.size) wr W) (by kernel_rfl) (Mod.drew _ wr) (fun a0=>?_)
    refine Tk 0 59 ?_;refine Tk 1 60 ?_;refine Tk 2 61 ?_;refine Tk 3 62 ?_;refine Tk 4 63 ?_ (hy:=by intro w' a6;have u1:=jaT a6 Q.1 (fun e=>by have h1:t=w.heap.size:=e;have:=T.1.1;omega);clear a6;go_simp;try with_reducible rfl)
    refine Rs 5 30 2 59 fun K hK=>?_
    rw [if_pos (by kernel_rfl)]
    refine uD 30 (.tmp 2) (.tmp 59) rfl w.heap.size 0 [.int .i64 0,.int .i64 0,.slice none 0 0] rfl rfl (show Box wr.drew w.heap.size #[.int .i64 0,.int .i64 0,.slice none 0 0] 30 from H.1.bz).thereG3 (by kernel_rfl) (jhs _ _ _ _ _) ?_
    obtain ⟨a7,a3⟩:=(show Box wr.drew w.heap.size #[.int .i64 0,.int .i64 0,.slice none 0 0] 30 from H.1.bz).setG3 (.int .i64 0) (.int .i64 0) (.slice none 0 0)
    have a1:=(H.1.bel.drew).trans (a3.below (B:=w.heap.size) T.1.2 (fun i hi=>Nat.le_of_eq hi.symm))
    refine hK.out _ _ (a0.trans a3) (fun a4=>?_)
    have C:=Hd (And.intro a7 a1);clear hK K a7 a3 a1
    try simp only [Act.put]
    refine Tk 6 3 ?_;refine Dn ?_;clear a0 a4 H Q F;generalize (World.setCells _ _ _ _)=w9 at C ⊢;go_wp2_with fail;exact jb rfl rfl w.heap.size 0 rfl [.int .i64 0,.int .i64 0,.slice none 0 0] _ (xA C.1.1) underlying30 rfl (by kernel_rfl) _ rfl ⟨_,by rw [A.1];rfl,by rw [A.1];exact OwnS.nil _ _,C.1.2⟩
   have t1:(S.er != 0)=false:=by rw [he];rfl
   have J:=Hd (show D=(if 0<S.rest.length then (3,yh) else if S.big=true then (24,yh) else if yu ⟨cc.1,bb.1,L⟩=none then (0,⟨cc.1,bb.1,L⟩) else (24,yh)) by rw [I.1];unfold jaj;rw [if_pos he])
   obtain ⟨ra,rc,c5,_⟩:=H.1.it.rd;obtain ⟨rn,c6⟩:=Nm (S.rest.length);rw [← c6] at c5 J;subst c5;have g0:wr.cell? ⟨t,0,none⟩=some (.slice ra rn rc):=H.1.it.box.cell 0 _ rfl;clear he I c6;by_cases hr:0<rn
   ·
    have A:=Hd (show D=(3,yh) by rw [J.1,if_pos hr])
    have t2:decide ((0:Int)<(rn:Int))=true:=by simp;omega
    have t2':decide (0<rn)=true:=by simp;omega
    clear hr J;have z0:(wr).cell? ⟨w.heap.size,0,none⟩=some (.int .i64 0):=H.1.bz.cell 0 _ rfl;have y0:=H.1.bz.free 0;have z1:(wr).cell? ⟨w.heap.size,1,none⟩=some (.int .i64 0):=H.1.bz.cell 1 _ rfl;have y1:=H.1.bz.free 1;have z2:(wr).cell? ⟨w.heap.size,2,none⟩=some (.slice none 0 0):=H.1.bz.cell 2 _ rfl;have y2:=H.1.bz.free 2;have C:=Hd (H.1.fill 0 0 (.slice none 0 0));clear H F;go_wp2_with fail;exact jb rfl rfl w.heap.size 0 rfl [.int .i64 0,.int .i64 0,.slice none 0 0] _ (xA C.1.1) underlying30 rfl (by kernel_rfl) _ rfl ⟨_,by rw [A.1];rfl,by rw [A.1];exact OwnS.nil _ _,C.1.2.2⟩
   have P:=Hd (J.1.trans (if_neg hr));have t2:decide ((0:Int)<(rn:Int))=false:=by simp;omega
   have t2':decide (0<rn)=false:=by simp;omega
   obtain ⟨xa,xc,rfl,_⟩:=H.1.own.slice;obtain ⟨xn,a8⟩:=Nm (L.length);rw [← a8] at H;clear hr J a8;have c0:(wr).cell? ⟨b8,0,none⟩=some (.int .i64 cc.1):=H.1.bs.cell 0 _ rfl;have c1:(wr).cell? ⟨b8,1,none⟩=some (.int .i64 bb.1):=H.1.bs.cell 1 _ rfl;have c2:(wr).cell? ⟨b8,2,none⟩=some (.slice xa xn xc):=H.1.bs.cell 2 _ rfl;go_wp2_with fail;refine (zP ⟨cc.1,bb.1,L⟩ _ wr H.1.own.rd H0.1).mono ?_;rintro e7 w7 ⟨rfl,c7⟩;have E:=Hd (H.1.below c7);clear c7 H k1 g0 c0 c1 c2 t1 t2 t2';obtain ⟨wr,c8⟩:=Nm (w7);rw [← c8] at E ⊢;clear c8;have H:=E;clear E;have g2:wr.cell? ⟨t,2,none⟩=some (.bool S.big):=H.1.it.box.cell 2 _ rfl
   cases hbg:S.big
   rotate_left
   ·
    have A:=Hd (show D=(24,yh) by rw [P.1,if_pos hbg])
    rw [hbg] at g2;clear hbg P;generalize (uP (yu ⟨cc.1,bb.1,L⟩))=ck;have z0:(wr).cell? ⟨w.heap.size,0,none⟩=some (.int .i64 0):=H.1.bz.cell 0 _ rfl;have y0:=H.1.bz.free 0;have z1:(wr).cell? ⟨w.heap.size,1,none⟩=some (.int .i64 0):=H.1.bz.cell 1 _ rfl;have y1:=H.1.bz.free 1;have z2:(wr).cell? ⟨w.heap.size,2,none⟩=some (.slice none 0 0):=H.1.bz.cell 2 _ rfl;have y2:=H.1.bz.free 2;have C:=Hd (H.1.fill 0 0 (.slice none 0 0));clear H F;go_wp2_with fail;exact jb rfl rfl w.heap.size 0 rfl [.int .i64 0,.int .i64 0,.slice none 0 0] _ (xA C.1.1) underlying30 rfl (by kernel_rfl) _ rfl ⟨_,by rw [A.1];rfl,by rw [A.1];exact OwnS.nil _ _,C.1.2.2⟩
   rw [hbg] at g2
   cases hck:yu ⟨cc.1,bb.1,L⟩ with
   | some m =>
    have A:=Hd (show D=(24,yh) by rw [P.1,if_neg (by rw [hbg];decide),if_neg (by rw [hck];intro h;cases h)])
    rw [show (uP (some m)).1=24 from rfl,show (uP (some m)).2=m from rfl]
    clear hbg P hck;have z0:(wr).cell? ⟨w.heap.size,0,none⟩=some (.int .i64 0):=H.1.bz.cell 0 _ rfl;have y0:=H.1.bz.free 0;have z1:(wr).cell? ⟨w.heap.size,1,none⟩=some (.int .i64 0):=H.1.bz.cell 1 _ rfl;have y1:=H.1.bz.free 1;have z2:(wr).cell? ⟨w.heap.size,2,none⟩=some (.slice none 0 0):=H.1.bz.cell 2 _ rfl;have y2:=H.1.bz.free 2;have C:=Hd (H.1.fill 0 0 (.slice none 0 0));clear H F;go_wp2_with fail;exact jb rfl rfl w.heap.size 0 rfl [.int .i64 0,.int .i64 0,.slice none 0 0] _ (xA C.1.1) underlying30 rfl (by kernel_rfl) _ rfl ⟨_,by rw [A.1];rfl,by rw [A.1];exact OwnS.nil _ _,C.1.2.2⟩
   | none =>
   have A:=Hd (show D=(0,⟨cc.1,bb.1,L⟩) by rw [P.1,if_neg (by rw [hbg];decide),if_pos hck])
   rw [show (uP none).1=0 from rfl,show (uP none).2=0 from rfl]
   clear hbg P hck;have c0:(wr).cell? ⟨b8,0,none⟩=some (.int .i64 cc.1):=H.1.bs.cell 0 _ rfl;have c1:(wr).cell? ⟨b8,1,none⟩=some (.int .i64 bb.1):=H.1.bs.cell 1 _ rfl;have c2:(wr).cell? ⟨b8,2,none⟩=some (.slice xa xn xc):=H.1.bs.cell 2 _ rfl;have z0:(wr).cell? ⟨w.heap.size,0,none⟩=some (.int .i64 0):=H.1.bz.cell 0 _ rfl;have y0:=H.1.bz.free 0;have z1:(wr).cell? ⟨w.heap.size,1,none⟩=some (.int .i64 0):=H.1.bz.cell 1 _ rfl;have y1:=H.1.bz.free 1;have z2:(wr).cell? ⟨w.heap.size,2,none⟩=some (.slice none 0 0):=H.1.bz.cell 2 _ rfl;have y2:=H.1.bz.free 2;have C:=Hd (H.1.fill cc.1 bb.1 (.slice xa xn xc));clear H F;go_wp2_with fail;exact jb rfl rfl w.heap.size 0 rfl [.int .i64 cc.1,.int .i64 bb.1,.slice xa xn xc] _ (xA C.1.1) underlying30 rfl (by kernel_rfl) _ rfl ⟨_,by rw [A.1];rfl,by rw [A.1];exact C.1.2.1,C.1.2.2⟩
 go_wp2_with fail;clear t3 t4 t4'
 go_loopg [7] n (fun gk iv wr=>∃ (i:Nat) (v' x:Value),gk+i=n∧iv=.int .i64 (i:Int)∧RkSt w wr t b8 v' (yO i s).2 cc.1 bb.1 x (yO i s).1)
 case atStart=>exact ⟨0,_,_,Nat.add_zero _,rfl,G.1⟩
 case round =>
  clear G k1;obtain ⟨i,v',x,b4,rfl,hS⟩:=hrel;have i0:(0:Int)≤(i:Int):=by omega
  have Z:=Hd b4;have V:=Hd (jcZ i s);have H0:=Hd (jff i s);have M:=Hd (jbk i s);have N:=Hd (fun h1 h2=>@jep i n s h1 h2)
  obtain ⟨R,hR⟩:=Nm (yO i s);have Y:=Hd hR;rw [← hR] at hS V H0 M N;clear hR b4;obtain ⟨L,S⟩:=R;simp only at hS V H0 M N;have H:=Hd hS;clear hS;have k1:wr.cell? ⟨t,1,none⟩=some (.int .i64 S.er):=H.1.it.box.cell 1 _ rfl;by_cases hi:i<n
  ·
   have i1:(i:Int)<(n:Int):=by omega
   by_cases he:S.er=0
   rotate_left
   ·
    have I:=Hd (show D=jaj S ⟨cc.1,bb.1,L⟩ by rw [F.1,N.1 (by omega) he])
    have t0:(S.er==0)=false:=by rw [beq_eq_false_iff_ne];exact he
    clear hi M N Y;have A:=Hd (show D=(S.er,yh) by rw [I.1];unfold jaj;rw [if_neg he])
    have t1:(S.er != 0)=true:=by rw [bne_iff_ne];exact he
    have t1':(S.er==0)=false:=by rw [beq_eq_false_iff_ne];exact he
    clear he I;go_wp2_with fail;clear k1 t1 t1';have a5:=H.1.it.box.cell 1 _ rfl;have Q:=Hd a5;have T:=Hd (And.intro H.1.o1 H.1.bel.size);clear a5;refine wp_region_held_drew (S:=fun W=>Mod (fun i=>i=w.heap.size) wr W) (by kernel_rfl) (Mod.drew _ wr) (fun a0=>?_)
    refine Tk 0 59 ?_;refine Tk 1 60 ?_;refine Tk 2 61 ?_;refine Tk 3 62 ?_;refine Tk 4 63 ?_ (hy:=by intro w' a6;have u1:=jaT a6 Q.1 (fun e=>by have h1:t=w.heap.size:=e;have:=T.1.1;omega);clear a6;go_simp;try with_reducible rfl)
    refine Rs 5 30 2 59 fun K hK=>?_
    rw [if_pos (by kernel_rfl)]
    refine uD 30 (.tmp 2) (.tmp 59) rfl w.heap.size 0 [.int .i64 0,.int .i64 0,.slice none 0 0] rfl rfl (show Box wr.drew w.heap.size #[.int .i64 0,.int .i64 0,.slice none 0 0] 30 from H.1.bz).thereG3 (by kernel_rfl) (jhs _ _ _ _ _) ?_
    obtain ⟨a7,a3⟩:=(show Box wr.drew w.heap.size #[.int .i64 0,.int .i64 0,.slice none 0 0] 30 from H.1.bz).setG3 (.int .i64 0) (.int .i64 0) (.slice none 0 0)
    have a1:=(H.1.bel.drew).trans (a3.below (B:=w.heap.size) T.1.2 (fun i hi=>Nat.le_of_eq hi.symm))
    refine hK.out _ _ (a0.trans a3) (fun a4=>?_)
    have C:=Hd (And.intro a7 a1);clear hK K a7 a3 a1
    try simp only [Act.put]
    refine Tk 6 3 ?_;refine Dn ?_;clear a0 a4 H Q F;generalize (World.setCells _ _ _ _)=w9 at C ⊢;go_wp2_with fail;exact jb rfl rfl w.heap.size 0 rfl [.int .i64 0,.int .i64 0,.slice none 0 0] _ (xA C.1.1) underlying30 rfl (by kernel_rfl) _ rfl ⟨_,by rw [A.1];rfl,by rw [A.1];exact OwnS.nil _ _,C.1.2⟩
   have t0:(S.er==0)=true:=by rw [he];rfl
   have X:=Hd (M.1 he);have HI:=Hd hi;clear hi he M N Y;go_wp2_with fail;refine (ve t v' S wr H.1.it (fun k hk=>by have:=H.1.ov k hk;have:=H.1.bel.size;omega)).mono ?_
   rintro e w7 ⟨rfl,⟨v7,hk,b5⟩,hm⟩;have E:=Hd (H.1.step hk b5 hm);obtain ⟨BR,b6⟩:=Nm (yH S);rw [← b6] at E X ⊢;clear hk b5 hm H b6 k1 t0;obtain ⟨bs,S'⟩:=BR;simp only at E X ⊢
   go_wp2_with ((with_reducible refine jc ?S3a 45 (.tmp 8) (.tmp 47) ?S3b (w7.heap.size) (0) bs.cells.toList ?S3c bs.cells ?S3d (SesM.listS _) ?S3e ?S3f ?S3g ?S3h);(case S3b=>rfl);(case S3a=>rfl);(case S3c=>rfl);(case S3d=>rfl);(case S3e=>exact xf _ _);(case S3f=>kernel_rfl);(case S3g=>exact SesM.oneS _))
   intro w8 b7;obtain ⟨b9,b0⟩:=vE b7;have H3:=Hd b9.rangeS;have U:=Hd (E.1.below b0);obtain ⟨xa,xc,rfl,_⟩:=U.1.own.slice;obtain ⟨xn,a8⟩:=Nm (L.length);rw [← a8] at U;have c2:w8.cell? ⟨b8,2,none⟩=some (.slice xa xn xc):=U.1.bs.cell 2 _ rfl;clear b7 b9 b0 E a8
   go_wp2_with ((with_reducible refine je ?L4a 45 (.tmp 8) ?L4b (w7.heap.size) (0) ?L4c bs.cells.toList _ (H3.1) underlying45 ?L4d ?L4e ?L4f);(case L4b=>rfl);(case L4a=>rfl);(case L4c=>rfl);(case L4d=>rfl);(case L4e=>kernel_rfl))
   intro cv c3;have ecv:cv=bs.cells:=by rw [c3.out]
   subst ecv;clear c3 H3
   go_wp2_with (refine jD (op:=⟨some 51,_,_,_,_,_⟩) (by rfl) 28 1 #[(0,.tmp 50)] rfl #[(0,.agg bs.cells)] (by kernel_rfl) _ _ (zJ bs w8) ?_)
   intro w9 b1;have a1:Below w8.heap.size w8 w9:=by rw [b1.out];exact ja _ _
   have H4:=Hd (show ∀ j u,bs.cells.toList[j]?=some u→w9.cell? ((⟨w8.heap.size,0,none⟩:Addr).add j)=some u by rw [b1.out];exact yY w8 bs _)
   have O:=Hd (U.1.below a1);have H8:=Hd (show L.length+1≤1256584717458 by have:=V.1;have:=Ha.1;have:=HI.1;omega)
   clear b1 a1 U c2
   go_wp2_with (at_builtin;refine vP rfl _ _ rfl (b8+1) _ L rfl O.1.own ⟨w8.heap.size,0,none⟩ 1 bs rfl H4.1 H8.1 (by have:=O.1.bs.lt;omega) ?_)
   intro y wa a2 b2 _;obtain ⟨ya,yc,rfl,_⟩:=a2.slice;obtain ⟨yn,c4⟩:=Nm ((L ++ [bs]).length);rw [← c4] at a2 ⊢;clear c4;have H9:=Hd (O.1.put b2 a2);have b3:Box wa b8 #[.int .i64 cc.1,.int .i64 bb.1,.slice xa xn xc] 30:=O.1.bs.grown b2 (fun e=>by have:=(O.1.own.lt _ e).1;omega)
   have d2:wa.cell? ⟨b8,2,none⟩=some (.slice xa xn xc):=b3.cell 2 _ rfl;have e2:=b3.free 2;clear b2 a2 O H4 b3;go_wp2_with fail
   go_roundg (n-(i+1))
   case measure=>have:=Z.1;have:=HI.1;omega
   case rel=>exact ⟨i+1,_,_,by have:=Z.1;have:=HI.1;omega,by go_num,by rw [X.1];exact H9.1⟩
  have i1:¬ (i:Int)<(n:Int):=by omega
  have I:=Hd (show D=jaj S ⟨cc.1,bb.1,L⟩ by
   have:i=n:=by have:=Z.1;omega
   rw [F.1,← this,← Y.1])
  clear hi M N Y;by_cases he:S.er=0;rotate_left
  ·
   have A:=Hd (show D=(S.er,yh) by rw [I.1];unfold jaj;rw [if_neg he])
   have t1:(S.er != 0)=true:=by rw [bne_iff_ne];exact he
   have t1':(S.er==0)=false:=by rw [beq_eq_false_iff_ne];exact he
   clear he I;go_wp2_with fail;clear k1 t1 t1';have a5:=H.1.it.box.cell 1 _ rfl;have Q:=Hd a5;have T:=Hd (And.intro H.1.o1 H.1.bel.size);clear a5;refine wp_region_held_drew (S:=fun W=>Mod (fun i=>i=w.heap.size) wr W) (by kernel_rfl) (Mod.drew _ wr) (fun a0=>?_)
   refine Tk 0 59 ?_;refine Tk 1 60 ?_;refine Tk 2 61 ?_;refine Tk 3 62 ?_;refine Tk 4 63 ?_ (hy:=by intro w' a6;have u1:=jaT a6 Q.1 (fun e=>by have h1:t=w.heap.size:=e;have:=T.1.1;omega);clear a6;go_simp;try with_reducible rfl)
   refine Rs 5 30 2 59 fun K hK=>?_
   rw [if_pos (by kernel_rfl)]
   refine uD 30 (.tmp 2) (.tmp 59) rfl w.heap.size 0 [.int .i64 0,.int .i64 0,.slice none 0 0] rfl rfl (show Box wr.drew w.heap.size #[.int .i64 0,.int .i64 0,.slice none 0 0] 30 from H.1.bz).thereG3 (by kernel_rfl) (jhs _ _ _ _ _) ?_
   obtain ⟨a7,a3⟩:=(show Box wr.drew w.heap.size #[.int .i64 0,.int .i64 0,.slice none 0 0] 30 from H.1.bz).setG3 (.int .i64 0) (.int .i64 0) (.slice none 0 0)
   have a1:=(H.1.bel.drew).trans (a3.below (B:=w.heap.size) T.1.2 (fun i hi=>Nat.le_of_eq hi.symm))
   refine hK.out _ _ (a0.trans a3) (fun a4=>?_)
   have C:=Hd (And.intro a7 a1);clear hK K a7 a3 a1
   try simp only [Act.put]
   refine Tk 6 3 ?_;refine Dn ?_;clear a0 a4 H Q F;generalize (World.setCells _ _ _ _)=w9 at C ⊢;go_wp2_with fail;exact jb rfl rfl w.heap.size 0 rfl [.int .i64 0,.int .i64 0,.slice none 0 0] _ (xA C.1.1) underlying30 rfl (by kernel_rfl) _ rfl ⟨_,by rw [A.1];rfl,by rw [A.1];exact OwnS.nil _ _,C.1.2⟩
  have t1:(S.er != 0)=false:=by rw [he];rfl
  have J:=Hd (show D=(if 0<S.rest.length then (3,yh) else if S.big=true then (24,yh) else if yu ⟨cc.1,bb.1,L⟩=none then (0,⟨cc.1,bb.1,L⟩) else (24,yh)) by rw [I.1];unfold jaj;rw [if_pos he])
  obtain ⟨ra,rc,c5,_⟩:=H.1.it.rd;obtain ⟨rn,c6⟩:=Nm (S.rest.length);rw [← c6] at c5 J;subst c5;have g0:wr.cell? ⟨t,0,none⟩=some (.slice ra rn rc):=H.1.it.box.cell 0 _ rfl;clear he I c6;by_cases hr:0<rn
  ·
   have A:=Hd (show D=(3,yh) by rw [J.1,if_pos hr])
   have t2:decide ((0:Int)<(rn:Int))=true:=by simp;omega
   have t2':decide (0<rn)=true:=by simp;omega
   clear hr J;have z0:(wr).cell? ⟨w.heap.size,0,none⟩=some (.int .i64 0):=H.1.bz.cell 0 _ rfl;have y0:=H.1.bz.free 0;have z1:(wr).cell? ⟨w.heap.size,1,none⟩=some (.int .i64 0):=H.1.bz.cell 1 _ rfl;have y1:=H.1.bz.free 1;have z2:(wr).cell? ⟨w.heap.size,2,none⟩=some (.slice none 0 0):=H.1.bz.cell 2 _ rfl;have y2:=H.1.bz.free 2;have C:=Hd (H.1.fill 0 0 (.slice none 0 0));clear H F;go_wp2_with fail;exact jb rfl rfl w.heap.size 0 rfl [.int .i64 0,.int .i64 0,.slice none 0 0] _ (xA C.1.1) underlying30 rfl (by kernel_rfl) _ rfl ⟨_,by rw [A.1];rfl,by rw [A.1];exact OwnS.nil _ _,C.1.2.2⟩
  have P:=Hd (J.1.trans (if_neg hr));have t2:decide ((0:Int)<(rn:Int))=false:=by simp;omega
  have t2':decide (0<rn)=false:=by simp;omega
  obtain ⟨xa,xc,rfl,_⟩:=H.1.own.slice;obtain ⟨xn,a8⟩:=Nm (L.length);rw [← a8] at H;clear hr J a8;have c0:(wr).cell? ⟨b8,0,none⟩=some (.int .i64 cc.1):=H.1.bs.cell 0 _ rfl;have c1:(wr).cell? ⟨b8,1,none⟩=some (.int .i64 bb.1):=H.1.bs.cell 1 _ rfl;have c2:(wr).cell? ⟨b8,2,none⟩=some (.slice xa xn xc):=H.1.bs.cell 2 _ rfl;go_wp2_with fail;refine (zP ⟨cc.1,bb.1,L⟩ _ wr H.1.own.rd H0.1).mono ?_;rintro e7 w7 ⟨rfl,c7⟩;have E:=Hd (H.1.below c7);clear c7 H k1 g0 c0 c1 c2 t1 t2 t2';obtain ⟨wr,c8⟩:=Nm (w7);rw [← c8] at E ⊢;clear c8;have H:=E;clear E;have g2:wr.cell? ⟨t,2,none⟩=some (.bool S.big):=H.1.it.box.cell 2 _ rfl
  cases hbg:S.big
  rotate_left
  ·
   have A:=Hd (show D=(24,yh) by rw [P.1,if_pos hbg])
   rw [hbg] at g2;clear hbg P;generalize (uP (yu ⟨cc.1,bb.1,L⟩))=ck;have z0:(wr).cell? ⟨w.heap.size,0,none⟩=some (.int .i64 0):=H.1.bz.cell 0 _ rfl;have y0:=H.1.bz.free 0;have z1:(wr).cell? ⟨w.heap.size,1,none⟩=some (.int .i64 0):=H.1.bz.cell 1 _ rfl;have y1:=H.1.bz.free 1;have z2:(wr).cell? ⟨w.heap.size,2,none⟩=some (.slice none 0 0):=H.1.bz.cell 2 _ rfl;have y2:=H.1.bz.free 2;have C:=Hd (H.1.fill 0 0 (.slice none 0 0));clear H F;go_wp2_with fail;exact jb rfl rfl w.heap.size 0 rfl [.int .i64 0,.int .i64 0,.slice none 0 0] _ (xA C.1.1) underlying30 rfl (by kernel_rfl) _ rfl ⟨_,by rw [A.1];rfl,by rw [A.1];exact OwnS.nil _ _,C.1.2.2⟩
  rw [hbg] at g2
  cases hck:yu ⟨cc.1,bb.1,L⟩ with
  | some m =>
   have A:=Hd (show D=(24,yh) by rw [P.1,if_neg (by rw [hbg];decide),if_neg (by rw [hck];intro h;cases h)])
   rw [show (uP (some m)).1=24 from rfl,show (uP (some m)).2=m from rfl]
   clear hbg P hck;have z0:(wr).cell? ⟨w.heap.size,0,none⟩=some (.int .i64 0):=H.1.bz.cell 0 _ rfl;have y0:=H.1.bz.free 0;have z1:(wr).cell? ⟨w.heap.size,1,none⟩=some (.int .i64 0):=H.1.bz.cell 1 _ rfl;have y1:=H.1.bz.free 1;have z2:(wr).cell? ⟨w.heap.size,2,none⟩=some (.slice none 0 0):=H.1.bz.cell 2 _ rfl;have y2:=H.1.bz.free 2;have C:=Hd (H.1.fill 0 0 (.slice none 0 0));clear H F;go_wp2_with fail;exact jb rfl rfl w.heap.size 0 rfl [.int .i64 0,.int .i64 0,.slice none 0 0] _ (xA C.1.1) underlying30 rfl (by kernel_rfl) _ rfl ⟨_,by rw [A.1];rfl,by rw [A.1];exact OwnS.nil _ _,C.1.2.2⟩
  | none =>
  have A:=Hd (show D=(0,⟨cc.1,bb.1,L⟩) by rw [P.1,if_neg (by rw [hbg];decide),if_pos hck])
  rw [show (uP none).1=0 from rfl,show (uP none).2=0 from rfl]
  clear hbg P hck;have c0:(wr).cell? ⟨b8,0,none⟩=some (.int .i64 cc.1):=H.1.bs.cell 0 _ rfl;have c1:(wr).cell? ⟨b8,1,none⟩=some (.int .i64 bb.1):=H.1.bs.cell 1 _ rfl;have c2:(wr).cell? ⟨b8,2,none⟩=some (.slice xa xn xc):=H.1.bs.cell 2 _ rfl;have z0:(wr).cell? ⟨w.heap.size,0,none⟩=some (.int .i64 0):=H.1.bz.cell 0 _ rfl;have y0:=H.1.bz.free 0;have z1:(wr).cell? ⟨w.heap.size,1,none⟩=some (.int .i64 0):=H.1.bz.cell 1 _ rfl;have y1:=H.1.bz.free 1;have z2:(wr).cell? ⟨w.heap.size,2,none⟩=some (.slice none 0 0):=H.1.bz.cell 2 _ rfl;have y2:=H.1.bz.free 2;have C:=Hd (H.1.fill cc.1 bb.1 (.slice xa xn xc));clear H F;go_wp2_with fail;exact jb rfl rfl w.heap.size 0 rfl [.int .i64 cc.1,.int .i64 bb.1,.slice xa xn xc] _ (xA C.1.1) underlying30 rfl (by kernel_rfl) _ rfl ⟨_,by rw [A.1];rfl,by rw [A.1];exact C.1.2.1,C.1.2.2⟩
end Go.Proofs.YtgcnolapjppbpaaGreatDoor
