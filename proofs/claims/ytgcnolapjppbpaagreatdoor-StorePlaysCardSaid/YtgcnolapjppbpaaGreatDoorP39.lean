/-
  Texts of one proof, one behind the other.
-/
import Derived.Test.YtgcnolapjppbpaaGreatDoorP38
import Derived.Test.YtgcnolapjppbpaaGreatDoorP17
import Derived.Test.YtgcnolapjppbpaaGreatDoorP13
import Derived.Deep.MidRow
import Derived.Test.YtgcnolapjppbpaaGreatDoorP00
namespace Go.Proofs.YtgcnolapjppbpaaGreatDoor
open Go.RowKit _root_.Go.Proofs.Tryz
set_option maxRecDepth 100000
set_option maxHeartbeats 25600000
theorem yI {P:Program}{a:Act}{w:World}{op:Oper}(ty:TypeId)(x:Operand)(ho:op.op=.load ty x)(b o:Nat)(hx:a.eval x=.pointer (some ⟨b,o,none⟩))(cs:List Value)(d:TypeDesc)(hc:w.rangeAt b o cs)(hu:P.underlying ty=some d)(hd:d.isRow=true)(hi:(P.info? ty).map (·.size)=some cs.length):(execOp a.eval op).run P w=.ok (.value (.agg cs.toArray)) w:=by
 unfold execOp;simp only [ho,hx,Instr.loadAt,Instr.sureAddr,Sem.run_bind,Sem.run_pure,Result.andThen_ok,run_loadVar_mid w b o ty cs d hc hu hd hi]
theorem xI {a b:Bool}(h:a=b):Value.bool a=.bool b:=by rw [h]
structure OneW (w0:World)(rb ro m n sb:Nat)(c b bl:Int)(a:Option Addr)(cap:Nat)(s:SesM)(W:World):Prop where
 rg:W.rangeAt sb 0 s.cells.toList
 b1:W.cell? ⟨sb,1,none⟩=some (.int .i64 s.birth)
 b9:W.cell? ⟨sb,9,none⟩=some (.int .i64 s.born)
 b10:W.cell? ⟨sb,10,none⟩=some (.int .i64 s.deadline)
 x0:W.cell? ⟨w0.heap.size,0,none⟩=some (.int .i64 c)
 x1:W.cell? ⟨w0.heap.size,1,none⟩=some (.int .i64 b)
 x2:W.cell? ⟨w0.heap.size,2,none⟩=some (.slice (some ⟨rb,ro,none⟩) n cap)
 la:0<m→W.cell? ⟨rb,ro+(m-1)*12+1,none⟩=some (.int .i64 bl)
 bs:Box W sb s.cells 45
 bx:Box W w0.heap.size #[.int .i64 c,.int .i64 b,.slice (some ⟨rb,ro,none⟩) n cap] 30
 bel:Below w0.heap.size w0 W
theorem OneW.below {w0:World}{rb ro m n sb:Nat}{c b bl:Int}{a:Option Addr}{cap:Nat}{s:SesM}{W W':World}(h:OneW w0 rb ro m n sb c b bl a cap s W)(hb:Below W.heap.size W W'):OneW w0 rb ro m n sb c b bl a cap s W' :=
 ⟨fun j v hv=>jf hb (h.rg j v hv),jf hb h.b1,jf hb h.b9,jf hb h.b10,jf hb h.x0,jf hb h.x1,jf hb h.x2,fun hm=>jf hb (h.la hm),h.bs.below hb,h.bx.below hb,h.bel.trans (hb.mono h.bel.size)⟩
theorem jfc (c b:Int)(n cap m:Nat)(a:Option Addr)(l:List SesM)(w:World)(hn:n=l.length)(hr:RdS w (.slice a n cap) l)(hm:m<l.length)(c5:SesOk l[m])(hp:∀ p∈l.take m,jR p=true)(c8:(l.take m).Pairwise (fun p q=>p.birth<q.birth)) :
  Calls prog 171 #[.agg #[.int .i64 c,.int .i64 b,.slice a n cap],.int .i64 (m:Int)] w fun ev w'=>ev=.returned (.bool (zw c b l[m] (l.take m)))∧Below w.heap.size w w':=by
 obtain ⟨s,hs⟩:=Nm (l[m]);rw [← hs] at c5 ⊢;obtain ⟨al,c9⟩:=Nm (l.take m);rw [← c9] at hp c8 ⊢;have f3:n≤9223372036854775807:=by obtain ⟨_,_,e,h5,h6,_⟩:=hr;omega
 obtain ⟨rb,ro,b9,b7⟩:=hr.row m hm;subst b9;rw [← hs] at b7;have m0:(0:Int)≤(m:Int):=by omega
 have m1:(m:Int)<(n:Int):=by omega
 have HR:=Hd hr;have HN:=Hd hn;have T:=Hd hm;have HP:=Hd hp;have H0:=Hd c8;have L:=Hd c9;have H6:=Hd (show ∀ h:m<l.length,s=l[m]'h from fun _=>hs)
 have I:=Hd b7;have B:=Hd (fun w=>vw s w c5.user c5.label)
 have M:=Hd (Box.new w #[.int .i64 c,.int .i64 b,.slice (some ⟨rb,ro,none⟩) n cap] 30);have N:=Hd (ja w (.cells #[.int .i64 c,.int .i64 b,.slice (some ⟨rb,ro,none⟩) n cap] 30));clear hs c9 hp c8 b7 hr hn c5 hm;go_enter func171,ntmps171
 go_upto_region 1 with (fail)
 generalize hw1:World.alloc w _=w1 at M N ⊢;clear hw1;have c2:w1.cell? ⟨w.heap.size,2,none⟩=some (.slice (some ⟨rb,ro,none⟩) n cap):=M.1.cell 2 _ rfl;have Q:=Hd (show w1.rangeAt rb (ro+m*12) s.cells.toList from fun j v hv=>jf N.1 (I.1 j v hv))
 clear I
 go_wp2_with ((with_reducible refine je ?b0 45 (.tmp 11) ?b1 rb (ro+m*12) ?b2 s.cells.toList _ Q.1 underlying45 ?b3 ?b4 ?b8);(case b1=>rfl);(case b0=>rfl);(case b2=>rfl);(case b3=>rfl);(case b4=>kernel_rfl))
 intro cv d8
 go_wp2_with ((with_reducible refine jc ?a0 45 (.tmp 5) (.tmp 12) ?a1 w1.heap.size 0 s.cells.toList ?a2 cv ?a3 d8 ?a5 ?a6 ?a7 ?a8);(case a1=>rfl);(case a0=>rfl);(case a2=>rfl);(case a3=>rfl);(case a5=>exact xf _ _);(case a6=>kernel_rfl);(case a7=>exact SesM.oneS _))
 intro w3 d9;obtain ⟨c1,d1⟩:=vE d9;have e4:w.heap.size<w1.heap.size:=M.1.lt;obtain ⟨bl,d2⟩:=Nm (jbF al);have D:=Hd (show OneW w rb ro m n w1.heap.size c b bl none cap s w3.drew from by
  have c6:=M.1.below d1;have d3:=N.1.trans (d1.mono N.1.size);refine ⟨fun j v hv=>by rw [Nat.zero_add];exact c1.cell j v (by simpa using hv),c1.cell 1 _ rfl,c1.cell 9 _ rfl,c1.cell 10 _ rfl,c6.cell 0 _ rfl,c6.cell 1 _ rfl,c6.cell 2 _ rfl,fun c3=>?_,c1.drew,c6.drew,d3.drew⟩
  have e7:m-1<l.length:=by have:=T.1;omega
  obtain ⟨rb',ro',b9,b7⟩:=(HR.1.below d3).row (m-1) e7;injection b9 with b9
  injection b9 with e5 e6
  subst e5;subst e6;have h:=b7 1 _ rfl;rw [d2,L.1,show l.take m=l.take (m-1) ++ [l[m-1]] from by rw [← List.take_succ_eq_append_getElem e7];congr 1;omega,jat]
  exact h)
 have H7:=Hd (show w.heap.size<w1.heap.size from e4)
 clear c2 d8 d9 c1 d1 M N Q e4;generalize w1.heap.size=sb at D H7 ⊢;have H1:=Hd (show al.isEmpty=decide (m=0) from by
  have e:al.length=m:=by rw [L.1,List.length_take];have:=T.1;omega
  rw [Bool.eq_iff_iff,List.isEmpty_iff,decide_eq_true_iff];exact ⟨fun h=>by rw [h] at e;exact e.symm,fun h=>List.eq_nil_of_length_eq_zero (by omega)⟩)
 have H:=Hd (show jf8 c b s al=(jR s&&(!(!decide (m=0)&&decide (s.birth≤bl))&&(decide (s.birth≤b)&&(decide (s.born≤c)&&decide (c<s.deadline))))) from by unfold jf8;rw [H1.1,← d2])
 clear d2 H1;obtain ⟨CB,d4⟩:=Nm (jf8 c b s al);rw [← d4] at H;have U:=Hd d4;clear d4
 go_upto_region 2 with (fail)
 go_cut [52] (fun s52 wx=>s52=.bool (!CB)∧OneW w rb ro m n sb c b bl none cap s wx)
 case first =>
  cases hms:jR s
  ·
   have A:=Hd (show true = !CB by rw [H.1,hms];rfl)
   rw [hms] at B;clear hms;refine wp_region_held_drew (S:=OneW w rb ro m n sb c b bl none cap s) (by kernel_rfl) D.1 (fun a9=>?_)
   refine Tk 0 13 ?_ (v:=.agg s.cells) (hy:=fun w' b6=>yI 45 (.tmp 5) rfl sb 0 rfl s.cells.toList _ b6.rg underlying45 rfl (by kernel_rfl))
   refine Rc 1 14 fun K hK=>?_
   go_simp
   refine (B.1 _).mono ?_;rintro ev w4 ⟨rfl,b5⟩;refine hK.out _ _ (a9.below b5) (fun a4=>?_)
   clear hK K b5 a9
   try simp only [Nz]
   refine Tc 2 15 ?_;refine Tc 3 16 ?_;refine Tn 4 17 ?_;refine Tn 5 18 ?_;refine Tn 6 19 ?_;refine Tn 7 20 ?_;refine Tn 8 21 ?_;refine Tn 9 22 ?_;refine Tn 10 23 ?_;refine Tn 11 24 ?_;refine Tn 12 25 ?_;refine Tn 13 26 ?_;refine Tn 14 27 ?_;refine Tn 15 28 ?_;refine Tn 16 29 ?_;refine Tn 17 30 ?_;refine Tc 18 31 ?_;refine Tc 19 32 ?_;refine Tn 20 33 ?_;refine Tn 21 34 ?_;refine Tn 22 35 ?_;refine Tn 23 36 ?_;refine Tn 24 37 ?_;refine Tc 25 38 ?_;refine Tc 26 39 ?_;refine Tn 27 40 ?_;refine Tn 28 41 ?_;refine Tn 29 42 ?_;refine Tn 30 43 ?_;refine Tn 31 44 ?_;refine Tc 32 45 ?_;refine Tc 33 46 ?_;refine Tn 34 47 ?_;refine Tn 35 48 ?_;refine Tn 36 49 ?_;refine Tn 37 50 ?_;refine Tn 38 51 ?_;refine Tc 39 52 ?_;refine Dn ?_;have C:=Hd a4;clear a4;go_wp2_with fail;go_meet;exact ⟨xI A.1,C.1⟩
  rw [hms,Bool.true_and] at H;rw [hms] at B;clear hms;by_cases c3:m=0
  ·
   have d0:decide ((0:Int)<(m:Int))=false:=by rw [decide_eq_false_iff_not];omega
   have d0n:decide (0<m)=false:=by rw [decide_eq_false_iff_not];omega
   rw [decide_eq_true c3,show (!(!true&&decide (s.birth≤bl)))=true from rfl,Bool.true_and] at H
   clear c3;by_cases n1:s.birth≤b;rotate_left
   ·
    have e1:decide (b<s.birth)=true:=by rw [decide_eq_true_iff];omega
    have A:=Hd (show true = !CB by rw [H.1,decide_eq_false n1];rfl)
    clear n1;refine wp_region_held_drew (S:=OneW w rb ro m n sb c b bl none cap s) (by kernel_rfl) D.1 (fun a9=>?_)
    refine Tk 0 13 ?_ (v:=.agg s.cells) (hy:=fun w' b6=>yI 45 (.tmp 5) rfl sb 0 rfl s.cells.toList _ b6.rg underlying45 rfl (by kernel_rfl))
    refine Rc 1 14 fun K hK=>?_
    go_simp
    refine (B.1 _).mono ?_;rintro ev w4 ⟨rfl,b5⟩;refine hK.out _ _ (a9.below b5) (fun a4=>?_)
    clear hK K b5 a9
    try simp only [Nz]
    refine Tc 2 15 ?_;refine Tc 3 16 ?_;refine Tc 4 17 ?_;refine Tc 5 18 ?_;refine Tc 6 19 ?_;refine Tn 7 20 ?_;refine Tn 8 21 ?_;refine Tn 9 22 ?_;refine Tn 10 23 ?_;refine Tn 11 24 ?_;refine Tn 12 25 ?_;refine Tn 13 26 ?_;refine Tn 14 27 ?_;refine Tn 15 28 ?_;refine Tn 16 29 ?_;refine Tc 17 30 ?_;refine Tc 18 31 ?_;refine Tc 19 32 ?_;refine Tc 20 33 ?_;refine Tc 21 34 ?_;refine Tc 22 35 ?_;refine Tc 23 36 ?_;refine Tc 24 37 ?_;refine Tc 25 38 ?_;refine Tc 26 39 ?_;refine Tn 27 40 ?_;refine Tn 28 41 ?_;refine Tn 29 42 ?_;refine Tn 30 43 ?_;refine Tn 31 44 ?_;refine Tc 32 45 ?_;refine Tc 33 46 ?_;refine Tn 34 47 ?_;refine Tn 35 48 ?_;refine Tn 36 49 ?_;refine Tn 37 50 ?_;refine Tn 38 51 ?_;refine Tc 39 52 ?_;refine Dn ?_;have C:=Hd a4;clear a4;go_wp2_with fail;go_meet;exact ⟨xI A.1,C.1⟩
   have e1:decide (b<s.birth)=false:=by rw [decide_eq_false_iff_not];omega
   rw [decide_eq_true n1,Bool.true_and] at H;clear n1;by_cases n2:s.born≤c;rotate_left
   ·
    have e2:decide (c<s.born)=true:=by rw [decide_eq_true_iff];omega
    have A:=Hd (show true = !CB by rw [H.1,decide_eq_false n2];rfl)
    clear n2;refine wp_region_held_drew (S:=OneW w rb ro m n sb c b bl none cap s) (by kernel_rfl) D.1 (fun a9=>?_)
    refine Tk 0 13 ?_ (v:=.agg s.cells) (hy:=fun w' b6=>yI 45 (.tmp 5) rfl sb 0 rfl s.cells.toList _ b6.rg underlying45 rfl (by kernel_rfl))
    refine Rc 1 14 fun K hK=>?_
    go_simp
    refine (B.1 _).mono ?_;rintro ev w4 ⟨rfl,b5⟩;refine hK.out _ _ (a9.below b5) (fun a4=>?_)
    clear hK K b5 a9
    try simp only [Nz]
    refine Tc 2 15 ?_;refine Tc 3 16 ?_;refine Tc 4 17 ?_;refine Tc 5 18 ?_;refine Tc 6 19 ?_;refine Tn 7 20 ?_;refine Tn 8 21 ?_;refine Tn 9 22 ?_;refine Tn 10 23 ?_;refine Tn 11 24 ?_;refine Tn 12 25 ?_;refine Tn 13 26 ?_;refine Tn 14 27 ?_;refine Tn 15 28 ?_;refine Tn 16 29 ?_;refine Tc 17 30 ?_;refine Tc 18 31 ?_;refine Tc 19 32 ?_;refine Tc 20 33 ?_;refine Tc 21 34 ?_;refine Tc 22 35 ?_;refine Tc 23 36 ?_;refine Tc 24 37 ?_;refine Tc 25 38 ?_;refine Tc 26 39 ?_;refine Tc 27 40 ?_;refine Tc 28 41 ?_;refine Tc 29 42 ?_;refine Tc 30 43 ?_;refine Tc 31 44 ?_;refine Tc 32 45 ?_;refine Tc 33 46 ?_;refine Tn 34 47 ?_;refine Tn 35 48 ?_;refine Tn 36 49 ?_;refine Tn 37 50 ?_;refine Tn 38 51 ?_;refine Tc 39 52 ?_;refine Dn ?_;have C:=Hd a4;clear a4;go_wp2_with fail;go_meet;exact ⟨xI A.1,C.1⟩
   have e2:decide (c<s.born)=false:=by rw [decide_eq_false_iff_not];omega
   rw [decide_eq_true n2,Bool.true_and] at H;clear n2;by_cases n3:c<s.deadline;rotate_left
   ·
    have e3:decide (s.deadline≤c)=true:=by rw [decide_eq_true_iff];omega
    have A:=Hd (show true = !CB by rw [H.1,decide_eq_false n3];rfl)
    clear n3;refine wp_region_held_drew (S:=OneW w rb ro m n sb c b bl none cap s) (by kernel_rfl) D.1 (fun a9=>?_)
    refine Tk 0 13 ?_ (v:=.agg s.cells) (hy:=fun w' b6=>yI 45 (.tmp 5) rfl sb 0 rfl s.cells.toList _ b6.rg underlying45 rfl (by kernel_rfl))
    refine Rc 1 14 fun K hK=>?_
    go_simp
    refine (B.1 _).mono ?_;rintro ev w4 ⟨rfl,b5⟩;refine hK.out _ _ (a9.below b5) (fun a4=>?_)
    clear hK K b5 a9
    try simp only [Nz]
    refine Tc 2 15 ?_;refine Tc 3 16 ?_;refine Tc 4 17 ?_;refine Tc 5 18 ?_;refine Tc 6 19 ?_;refine Tn 7 20 ?_;refine Tn 8 21 ?_;refine Tn 9 22 ?_;refine Tn 10 23 ?_;refine Tn 11 24 ?_;refine Tn 12 25 ?_;refine Tn 13 26 ?_;refine Tn 14 27 ?_;refine Tn 15 28 ?_;refine Tn 16 29 ?_;refine Tc 17 30 ?_;refine Tc 18 31 ?_;refine Tc 19 32 ?_;refine Tc 20 33 ?_;refine Tc 21 34 ?_;refine Tc 22 35 ?_;refine Tc 23 36 ?_;refine Tc 24 37 ?_;refine Tc 25 38 ?_;refine Tc 26 39 ?_;refine Tc 27 40 ?_;refine Tc 28 41 ?_;refine Tc 29 42 ?_;refine Tc 30 43 ?_;refine Tc 31 44 ?_;refine Tc 32 45 ?_;refine Tc 33 46 ?_;refine Tc 34 47 ?_;refine Tc 35 48 ?_;refine Tc 36 49 ?_;refine Tc 37 50 ?_;refine Tc 38 51 ?_;refine Tc 39 52 ?_;refine Dn ?_;have C:=Hd a4;clear a4;go_wp2_with fail;go_meet;exact ⟨xI A.1,C.1⟩
   have e3:decide (s.deadline≤c)=false:=by rw [decide_eq_false_iff_not];omega
   have A:=Hd (show false = !CB by rw [H.1,decide_eq_true n3];rfl)
   clear n3;refine wp_region_held_drew (S:=OneW w rb ro m n sb c b bl none cap s) (by kernel_rfl) D.1 (fun a9=>?_)
   refine Tk 0 13 ?_ (v:=.agg s.cells) (hy:=fun w' b6=>yI 45 (.tmp 5) rfl sb 0 rfl s.cells.toList _ b6.rg underlying45 rfl (by kernel_rfl))
   refine Rc 1 14 fun K hK=>?_
   go_simp
   refine (B.1 _).mono ?_;rintro ev w4 ⟨rfl,b5⟩;refine hK.out _ _ (a9.below b5) (fun a4=>?_)
   clear hK K b5 a9
   try simp only [Nz]
   refine Tc 2 15 ?_;refine Tc 3 16 ?_;refine Tc 4 17 ?_;refine Tc 5 18 ?_;refine Tc 6 19 ?_;refine Tn 7 20 ?_;refine Tn 8 21 ?_;refine Tn 9 22 ?_;refine Tn 10 23 ?_;refine Tn 11 24 ?_;refine Tn 12 25 ?_;refine Tn 13 26 ?_;refine Tn 14 27 ?_;refine Tn 15 28 ?_;refine Tn 16 29 ?_;refine Tc 17 30 ?_;refine Tc 18 31 ?_;refine Tc 19 32 ?_;refine Tc 20 33 ?_;refine Tc 21 34 ?_;refine Tc 22 35 ?_;refine Tc 23 36 ?_;refine Tc 24 37 ?_;refine Tc 25 38 ?_;refine Tc 26 39 ?_;refine Tc 27 40 ?_;refine Tc 28 41 ?_;refine Tc 29 42 ?_;refine Tc 30 43 ?_;refine Tc 31 44 ?_;refine Tc 32 45 ?_;refine Tc 33 46 ?_;refine Tc 34 47 ?_;refine Tc 35 48 ?_;refine Tc 36 49 ?_;refine Tc 37 50 ?_;refine Tc 38 51 ?_;refine Tc 39 52 ?_;refine Dn ?_;have C:=Hd a4;clear a4;go_wp2_with fail;go_meet;exact ⟨xI A.1,C.1⟩
  have hmp:0<m:=by omega
  obtain ⟨m',hmm⟩:∃ m',m-1=m':=⟨_,rfl⟩;have d0:decide ((0:Int)<(m:Int))=true:=by rw [decide_eq_true_iff];omega
  have d0n:decide (0<m)=true:=by rw [decide_eq_true_iff];omega
  have zm:IntKind.i64.wrap ((m:Int)-1)=(m':Int):=by
   rw [show (m:Int)-1=(m':Int) by omega];simp [IntKind.wrap,IntKind.bits,IntKind.signed];omega
  have p0:(0:Int)≤(m':Int):=by omega
  have p1:(m':Int)<(n:Int):=by omega
  rw [decide_eq_false c3] at H;clear c3;by_cases hlt:s.birth≤bl
  ·
   have e0:decide (s.birth≤bl)=true:=decide_eq_true hlt;have A:=Hd (show true = !CB by rw [H.1,e0];rfl)
   clear hlt;refine wp_region_held_drew (S:=OneW w rb ro m n sb c b bl none cap s) (by kernel_rfl) D.1 (fun a9=>?_)
   refine Tk 0 13 ?_ (v:=.agg s.cells) (hy:=fun w' b6=>yI 45 (.tmp 5) rfl sb 0 rfl s.cells.toList _ b6.rg underlying45 rfl (by kernel_rfl))
   refine Rc 1 14 fun K hK=>?_
   go_simp
   refine (B.1 _).mono ?_;rintro ev w4 ⟨rfl,b5⟩;refine hK.out _ _ (a9.below b5) (fun a4=>?_)
   clear hK K b5 a9
   try simp only [Nz]
   refine Td 2 15 ?_;refine Td 3 16 ?_;refine Td 4 17 ?_;refine Td 5 18 ?_;refine Td 6 19 ?_;refine Td 7 20 ?_;refine Td 8 21 ?_;refine Td 9 22 ?_;refine Td 10 23 ?_;refine Td 11 24 ?_;refine Td 12 25 ?_;refine Td 13 26 ?_;refine Td 14 27 ?_;refine Td 15 28 ?_;refine Td 16 29 ?_;refine Td 17 30 ?_;refine Td 18 31 ?_;refine Td 19 32 ?_;refine Tn 20 33 ?_;refine Tn 21 34 ?_;refine Tn 22 35 ?_;refine Tn 23 36 ?_;refine Tn 24 37 ?_;refine Td 25 38 ?_;refine Td 26 39 ?_;refine Tn 27 40 ?_;refine Tn 28 41 ?_;refine Tn 29 42 ?_;refine Tn 30 43 ?_;refine Tn 31 44 ?_;refine Td 32 45 ?_;refine Td 33 46 ?_;refine Tn 34 47 ?_;refine Tn 35 48 ?_;refine Tn 36 49 ?_;refine Tn 37 50 ?_;refine Tn 38 51 ?_;refine Td 39 52 ?_;refine Dn ?_;have C:=Hd a4;clear a4;go_wp2_with fail;go_meet;exact ⟨xI A.1,C.1⟩
  have e0:decide (s.birth≤bl)=false:=decide_eq_false hlt;rw [e0,show (!(!false&&false))=true from rfl,Bool.true_and] at H
  clear hlt;by_cases n1:s.birth≤b;rotate_left
  ·
   have e1:decide (b<s.birth)=true:=by rw [decide_eq_true_iff];omega
   have A:=Hd (show true = !CB by rw [H.1,decide_eq_false n1];rfl)
   clear n1;refine wp_region_held_drew (S:=OneW w rb ro m n sb c b bl none cap s) (by kernel_rfl) D.1 (fun a9=>?_)
   refine Tk 0 13 ?_ (v:=.agg s.cells) (hy:=fun w' b6=>yI 45 (.tmp 5) rfl sb 0 rfl s.cells.toList _ b6.rg underlying45 rfl (by kernel_rfl))
   refine Rc 1 14 fun K hK=>?_
   go_simp
   refine (B.1 _).mono ?_;rintro ev w4 ⟨rfl,b5⟩;refine hK.out _ _ (a9.below b5) (fun a4=>?_)
   clear hK K b5 a9
   try simp only [Nz]
   refine Td 2 15 ?_;refine Td 3 16 ?_;refine Td 4 17 ?_;refine Td 5 18 ?_;refine Td 6 19 ?_;refine Td 7 20 ?_;refine Td 8 21 ?_;refine Td 9 22 ?_;refine Td 10 23 ?_;refine Td 11 24 ?_;refine Td 12 25 ?_;refine Td 13 26 ?_;refine Td 14 27 ?_;refine Td 15 28 ?_;refine Td 16 29 ?_;refine Td 17 30 ?_;refine Td 18 31 ?_;refine Td 19 32 ?_;refine Td 20 33 ?_;refine Td 21 34 ?_;refine Td 22 35 ?_;refine Td 23 36 ?_;refine Td 24 37 ?_;refine Td 25 38 ?_;refine Td 26 39 ?_;refine Tn 27 40 ?_;refine Tn 28 41 ?_;refine Tn 29 42 ?_;refine Tn 30 43 ?_;refine Tn 31 44 ?_;refine Td 32 45 ?_;refine Td 33 46 ?_;refine Tn 34 47 ?_;refine Tn 35 48 ?_;refine Tn 36 49 ?_;refine Tn 37 50 ?_;refine Tn 38 51 ?_;refine Td 39 52 ?_;refine Dn ?_;have C:=Hd a4;clear a4;go_wp2_with fail;go_meet;exact ⟨xI A.1,C.1⟩
  have e1:decide (b<s.birth)=false:=by rw [decide_eq_false_iff_not];omega
  rw [decide_eq_true n1,Bool.true_and] at H;clear n1;by_cases n2:s.born≤c;rotate_left
  ·
   have e2:decide (c<s.born)=true:=by rw [decide_eq_true_iff];omega
   have A:=Hd (show true = !CB by rw [H.1,decide_eq_false n2];rfl)
   clear n2;refine wp_region_held_drew (S:=OneW w rb ro m n sb c b bl none cap s) (by kernel_rfl) D.1 (fun a9=>?_)
   refine Tk 0 13 ?_ (v:=.agg s.cells) (hy:=fun w' b6=>yI 45 (.tmp 5) rfl sb 0 rfl s.cells.toList _ b6.rg underlying45 rfl (by kernel_rfl))
   refine Rc 1 14 fun K hK=>?_
   go_simp
   refine (B.1 _).mono ?_;rintro ev w4 ⟨rfl,b5⟩;refine hK.out _ _ (a9.below b5) (fun a4=>?_)
   clear hK K b5 a9
   try simp only [Nz]
   refine Td 2 15 ?_;refine Td 3 16 ?_;refine Td 4 17 ?_;refine Td 5 18 ?_;refine Td 6 19 ?_;refine Td 7 20 ?_;refine Td 8 21 ?_;refine Td 9 22 ?_;refine Td 10 23 ?_;refine Td 11 24 ?_;refine Td 12 25 ?_;refine Td 13 26 ?_;refine Td 14 27 ?_;refine Td 15 28 ?_;refine Td 16 29 ?_;refine Td 17 30 ?_;refine Td 18 31 ?_;refine Td 19 32 ?_;refine Td 20 33 ?_;refine Td 21 34 ?_;refine Td 22 35 ?_;refine Td 23 36 ?_;refine Td 24 37 ?_;refine Td 25 38 ?_;refine Td 26 39 ?_;refine Td 27 40 ?_;refine Td 28 41 ?_;refine Td 29 42 ?_;refine Td 30 43 ?_;refine Td 31 44 ?_;refine Td 32 45 ?_;refine Td 33 46 ?_;refine Tn 34 47 ?_;refine Tn 35 48 ?_;refine Tn 36 49 ?_;refine Tn 37 50 ?_;refine Tn 38 51 ?_;refine Td 39 52 ?_;refine Dn ?_;have C:=Hd a4;clear a4;go_wp2_with fail;go_meet;exact ⟨xI A.1,C.1⟩
  have e2:decide (c<s.born)=false:=by rw [decide_eq_false_iff_not];omega
  rw [decide_eq_true n2,Bool.true_and] at H;clear n2;by_cases n3:c<s.deadline;rotate_left
  ·
   have e3:decide (s.deadline≤c)=true:=by rw [decide_eq_true_iff];omega
   have A:=Hd (show true = !CB by rw [H.1,decide_eq_false n3];rfl)
   clear n3;refine wp_region_held_drew (S:=OneW w rb ro m n sb c b bl none cap s) (by kernel_rfl) D.1 (fun a9=>?_)
   refine Tk 0 13 ?_ (v:=.agg s.cells) (hy:=fun w' b6=>yI 45 (.tmp 5) rfl sb 0 rfl s.cells.toList _ b6.rg underlying45 rfl (by kernel_rfl))
   refine Rc 1 14 fun K hK=>?_
   go_simp
   refine (B.1 _).mono ?_;rintro ev w4 ⟨rfl,b5⟩;refine hK.out _ _ (a9.below b5) (fun a4=>?_)
   clear hK K b5 a9
   try simp only [Nz]
   refine Td 2 15 ?_;refine Td 3 16 ?_;refine Td 4 17 ?_;refine Td 5 18 ?_;refine Td 6 19 ?_;refine Td 7 20 ?_;refine Td 8 21 ?_;refine Td 9 22 ?_;refine Td 10 23 ?_;refine Td 11 24 ?_;refine Td 12 25 ?_;refine Td 13 26 ?_;refine Td 14 27 ?_;refine Td 15 28 ?_;refine Td 16 29 ?_;refine Td 17 30 ?_;refine Td 18 31 ?_;refine Td 19 32 ?_;refine Td 20 33 ?_;refine Td 21 34 ?_;refine Td 22 35 ?_;refine Td 23 36 ?_;refine Td 24 37 ?_;refine Td 25 38 ?_;refine Td 26 39 ?_;refine Td 27 40 ?_;refine Td 28 41 ?_;refine Td 29 42 ?_;refine Td 30 43 ?_;refine Td 31 44 ?_;refine Td 32 45 ?_;refine Td 33 46 ?_;refine Td 34 47 ?_;refine Td 35 48 ?_;refine Td 36 49 ?_;refine Td 37 50 ?_;refine Td 38 51 ?_;refine Td 39 52 ?_;refine Dn ?_;have C:=Hd a4;clear a4;go_wp2_with fail;go_meet;exact ⟨xI A.1,C.1⟩
  have e3:decide (s.deadline≤c)=false:=by rw [decide_eq_false_iff_not];omega
  have A:=Hd (show false = !CB by rw [H.1,decide_eq_true n3];rfl)
  clear n3;refine wp_region_held_drew (S:=OneW w rb ro m n sb c b bl none cap s) (by kernel_rfl) D.1 (fun a9=>?_)
  refine Tk 0 13 ?_ (v:=.agg s.cells) (hy:=fun w' b6=>yI 45 (.tmp 5) rfl sb 0 rfl s.cells.toList _ b6.rg underlying45 rfl (by kernel_rfl))
  refine Rc 1 14 fun K hK=>?_
  go_simp
  refine (B.1 _).mono ?_;rintro ev w4 ⟨rfl,b5⟩;refine hK.out _ _ (a9.below b5) (fun a4=>?_)
  clear hK K b5 a9
  try simp only [Nz]
  refine Td 2 15 ?_;refine Td 3 16 ?_;refine Td 4 17 ?_;refine Td 5 18 ?_;refine Td 6 19 ?_;refine Td 7 20 ?_;refine Td 8 21 ?_;refine Td 9 22 ?_;refine Td 10 23 ?_;refine Td 11 24 ?_;refine Td 12 25 ?_;refine Td 13 26 ?_;refine Td 14 27 ?_;refine Td 15 28 ?_;refine Td 16 29 ?_;refine Td 17 30 ?_;refine Td 18 31 ?_;refine Td 19 32 ?_;refine Td 20 33 ?_;refine Td 21 34 ?_;refine Td 22 35 ?_;refine Td 23 36 ?_;refine Td 24 37 ?_;refine Td 25 38 ?_;refine Td 26 39 ?_;refine Td 27 40 ?_;refine Td 28 41 ?_;refine Td 29 42 ?_;refine Td 30 43 ?_;refine Td 31 44 ?_;refine Td 32 45 ?_;refine Td 33 46 ?_;refine Td 34 47 ?_;refine Td 35 48 ?_;refine Td 36 49 ?_;refine Td 37 50 ?_;refine Td 38 51 ?_;refine Td 39 52 ?_;refine Dn ?_;have C:=Hd a4;clear a4;go_wp2_with fail;go_meet;exact ⟨xI A.1,C.1⟩
 case rest =>
  obtain ⟨rfl,d5⟩:=hcut;have O:=Hd d5;have V:=Hd (HR.1.below d5.bel);have P:=Hd (show al.length=m by rw [L.1,List.length_take];have:=T.1;omega)
  have W:=Hd (show ∀ j (hj:j<al.length),∃ hl:j<l.length,al[j]=l[j] from fun j hj=>by
   have e:=P.1;have e2:=T.1;refine ⟨by omega,?_⟩
   have e3:=L.1;subst e3;rw [List.getElem_take])
  clear d5 D H B
  cases CB
  ·
   have J:=Hd (show false=zw c b s al by rw [jef,← U.1];rfl)
   go_wp2_with fail;go_ret;exact ⟨jj (congrArg Value.bool J.1),O.1.bel⟩
  have HI:=Hd (show zw c b s al=(za s al (jce s)==some true) by rw [jef,← U.1,Bool.true_and])
  clear U;go_wp2_with fail
  go_loopg [6] m (fun gk iv wr=>∃ (j k:Nat),gk+j=m∧iv=.int .i64 (j:Int)∧jeH s (al.take j)=false∧wr=wc.drewN k)
  case atStart=>exact ⟨0,0,rfl,rfl,rfl,rfl⟩
  case round =>
   obtain ⟨j,k,e9,rfl,hd,rfl⟩:=hrel;have j0:(0:Int)≤(j:Int):=by omega
   have H2:=Hd e9;have HD:=Hd hd;clear e9 hd;by_cases hj:j<m
   ·
    have j1:(j:Int)<(m:Int):=by omega
    have j2:(j:Int)<(n:Int):=by omega
    have c7:j<al.length:=by have:=P.1;omega
    obtain ⟨c4,c0⟩:=W.1 j c7;obtain ⟨p,hp⟩:=Nm (l[j]);obtain ⟨rb',ro',b9,b7⟩:=V.1.row j c4;injection b9 with b9
    injection b9 with e5 e6
    subst e5;subst e6;rw [← hp] at b7 c0;have r0:wc.cell? ⟨rb,ro+j*12,none⟩=some (.int .i64 p.slot):=b7 0 _ rfl;have s0:wc.cell? ⟨sb,0,none⟩=some (.int .i64 s.slot):=O.1.bs.cell 0 _ rfl;have x2:wc.cell? ⟨w.heap.size,2,none⟩=some (.slice (some ⟨rb,ro,none⟩) n cap):=O.1.x2;have HT:=Hd (show al.take (j+1)=al.take j ++ [p] by rw [List.take_succ_eq_append_getElem c7,c0])
    have H8:=Hd (show p∈al from c0 ▸ List.getElem_mem c7)
    have HJ:=Hd hj;clear hj c7 c4 c0 hp b7
    cases t1:(p.slot==s.slot)
    ·
     have H9:=Hd (show jeH s (al.take (j+1))=false by
      have h:=HD.1;rw [HT.1];unfold jeH at h ⊢;rw [List.any_append,h];simp only [List.any_cons,List.any_nil,Bool.or_false,Bool.false_or];exact t1)
     go_wp2_with fail
     go_quiet (fail)
     go_wp2_with fail
     go_roundg (m-(j+1))
     case measure=>have:=H2.1;have:=HJ.1;omega
     case rel=>exact ⟨j+1,_,by have:=H2.1;have:=HJ.1;omega,by go_num,H9.1,rfl⟩
    ·
     have J:=Hd (show false=zw c b s al by
      rw [HI.1,jfn al _ (by unfold jeH;rw [List.any_eq_true];exact ⟨p,H8.1,t1⟩)];rfl)
     go_wp2_with fail
     go_quiet (fail)
     have E:=Hd (fun q=>O.1.bel.trans ((jC wc q).mono O.1.bel.size))
     go_wp2_with fail;go_ret;exact ⟨jj (congrArg Value.bool J.1),by first | exact E.1 _ | (rw [World.drewN_drewN];exact E.1 _)⟩
   have j1:¬ (j:Int)<(m:Int):=by omega
   have d6:=HD.1;rw [List.take_of_length_le (by have:=P.1;omega)] at d6
   have H3:=Hd d6;have F:=Hd (O.1.below (jC wc k));have R:=Hd (V.1.below (jC wc k));clear d6 hj HD;generalize hwd:World.drewN wc k=wd at F R ⊢;clear hwd O V;have s2:wd.cell? ⟨sb,2,none⟩=some (.int .i64 s.upS):=F.1.bs.cell 2 _ rfl;have s3:wd.cell? ⟨sb,3,none⟩=some (.int .i64 s.upB):=F.1.bs.cell 3 _ rfl;have x2:wd.cell? ⟨w.heap.size,2,none⟩=some (.slice (some ⟨rb,ro,none⟩) n cap):=F.1.x2;have e8:∀ w,(binOp .eql 41 (.agg #[.int .i64 s.upS,.int .i64 s.upB]) (.agg #[.int .i64 0,.int .i64 0])).run prog w=.ok (.bool (jce s)) w:=fun w=>ut _ _ _ _ w
   cases hu:jce s
   rotate_left
   ·
    have J:=Hd (show true=zw c b s al by rw [HI.1,jbc al _ H3.1 H0.1,jj2 hu HP.1,hu];rfl)
    rw [hu] at e8;clear hu;go_wp2_with fail;go_ret;exact ⟨jj (congrArg Value.bool J.1),F.1.bel⟩
   have X:=Hd (show zw c b s al=(match al.find? (zv s) with | none=>false | some p=>yG s p) by
    rw [HI.1,jbc al _ H3.1 H0.1,hu]
    cases al.find? (zv s) with
    | none=>rfl
    | some p=>simp only;cases yG s p <;> rfl)
   rw [hu] at e8;have Y:=Hd (jcb (some ⟨rb,ro,none⟩) n cap m l wd HN.1 R.1 T.1);rw [← H6.1 T.1,← L.1] at Y;clear hu HI;go_wp2_with fail;refine Y.1.mono ?_;rintro ev wp ⟨rfl,kp,rfl⟩;have G:=Hd (F.1.below (jC wd kp));have Z:=Hd (R.1.below (jC wd kp));clear s2 s3 x2 e8 Y;generalize hwp:World.drewN wd kp=wp at G Z ⊢;clear hwp F R
   rcases jfv s al 0 with ⟨h1,h2⟩ | ⟨jp,c0,h1,h2⟩
   ·
    have J:=Hd (show false=zw c b s al by rw [X.1,h2])
    have E:=Hd (fun q=>G.1.bel.trans ((jC wp q).mono G.1.bel.size))
    rw [h1];clear h1 h2;go_wp2_with fail
    go_quiet (fail)
    go_wp2_with fail;go_ret;exact ⟨jj (congrArg Value.bool J.1),E.1 _⟩
   obtain ⟨c4,d7⟩:=W.1 jp c0;obtain ⟨p,hp⟩:=Nm (al[jp]);rw [← hp] at d7 h2;have J:=Hd (show yG s p=zw c b s al by rw [X.1,h2])
   have H4:=Hd (jaf (HP.1 p (by rw [hp];exact List.getElem_mem c0)))
   obtain ⟨rb',ro',b9,b7⟩:=Z.1.row jp c4;injection b9 with b9
   injection b9 with e5 e6
   subst e5;subst e6;rw [← d7] at b7;have I:=Hd (show wp.drew.rangeAt rb (ro+jp*12) p.cells.toList from b7)
   have Ha:=Hd (show wp.drew.rangeAt sb 0 s.cells.toList from G.1.rg)
   have x2:wp.cell? ⟨w.heap.size,2,none⟩=some (.slice (some ⟨rb,ro,none⟩) n cap):=G.1.x2;have q0:(0:Int)≤(jp:Int):=by omega
   have q1:decide ((0:Int)≤(jp:Int))=true:=by rw [decide_eq_true_iff];omega
   have q2:(jp:Int)<(n:Int):=by have:=HN.1;omega
   have Hb:=Hd (jdr s p wp.drew H4.1);have E:=Hd (show Below w.heap.size w wp.drew from G.1.bel.drew)
   rw [h1,Int.zero_add];clear c4 d7 hp h1 h2 b7 c0 Z G H4 X;go_wp2_with fail
   go_still_tail 9,(by kernel_rfl)
   refine yZ rfl 45 (.tmp 5) rfl sb 0 rfl _ _ Ha.1 underlying45 rfl (by kernel_rfl) ?_
   intro cs f0;have ecs:cs=s.cells:=by rw [f0.out]
   subst ecs;clear f0
   repeat still_step
   refine yZ rfl 45 (.tmp 82) rfl rb (ro+jp*12) rfl _ _ I.1 underlying45 rfl (by kernel_rfl) ?_
   intro cp f1;have ecp:cp=p.cells:=by rw [f1.out]
   subst ecp;clear f1
   repeat still_step
   refine wpStill_nil ?_
   change wpList _ _ _ _ _ wp.drew
   go_wp2_with (go_at_call 186;refine Hb.1.mono ?_;rintro ev w9 ⟨rfl,f2⟩)
   have H5:=Hd (E.1.trans (f2.mono E.1.size));clear f2;go_wp2_with fail;go_ret;exact ⟨jj (congrArg Value.bool J.1),H5.1⟩
def uP:Option Int→Int × Int
 | none=>(0,0)
 | some n=>(24,n)
def PreOk (c b:Int)(l:List SesM)(k:Nat):Prop:=∀ i (_:i<k) (hl:i<l.length),MayI c b l[i] (l.take i)
theorem PreOk.may {c b:Int}{l:List SesM}{k:Nat}(h:PreOk c b l k)(hk:k≤l.length):∀ p∈l.take k,jR p=true:=by
 intro p hp;obtain ⟨i,hi,rfl⟩:=List.getElem_of_mem hp;rw [List.length_take] at hi;rw [List.getElem_take];exact (h i (by omega) (by omega)).may
theorem PreOk.asc {c b:Int}{l:List SesM}{k:Nat}(h:PreOk c b l k)(hk:k≤l.length):(l.take k).Pairwise (fun p q=>p.birth<q.birth):=by
 have ha:=jku (c:=c) (b:=b) (l:=l.take k) (fun i hi=>by
  have a0:i<k∧i<l.length:=by rw [List.length_take] at hi;omega
  have g:=h i a0.1 a0.2;simp only [List.getElem_take,List.take_take];rw [Nat.min_eq_left (by omega)]
  exact g)
 rw [List.pairwise_iff_getElem];intro i j hi hj a1;exact ha j hj i a1
theorem zP (st:StM)(v:Value)(w:World)(hr:RdS w v st.l)(ho:∀ s∈st.l,SesOk s) :
  Calls prog 147 #[.agg #[.int .i64 st.clock,.int .i64 st.births,v]] w fun ev w'=>ev=.returned (.tuple #[.int .i64 (uP (yu st)).1,.int .i64 (uP (yu st)).2])∧Below w.heap.size w w':=by
 obtain ⟨a,cap,rfl,a2,a4⟩:=hr.slice;obtain ⟨R,hR⟩:=Nm (yu st);rw [← hR];have O:=Hd hr;have P:=Hd ho;have D:=Hd (Box.new w #[.int .i64 st.clock,.int .i64 st.births,.slice a st.l.length cap] 30);have A:=Hd (ja w (.cells #[.int .i64 st.clock,.int .i64 st.births,.slice a st.l.length cap] 30));have a5:zC st=decide (0≤st.clock∧st.clock≤1099511627776∧0≤st.births∧st.births≤1048576∧st.l.length≤32):=by
  unfold zC jV;rw [Bool.eq_iff_iff];simp [and_assoc]
 unfold yu at hR;rw [a5] at hR;have H:=Hd hR;clear a5 hR hr ho;obtain ⟨c,b,l⟩:=st;simp only at O P D A H a2 a4 ⊢;obtain ⟨n,hn⟩:=Nm (l.length);rw [← hn] at D A H a2 ⊢;have I:=Hd hn;have V:=Hd a2;have a7:n≤9223372036854775807:=by omega
 clear hn a2 a4;go_enter func147,ntmps147;by_cases g1:c<0
 ·
  have B:=Hd (show R=some (-1) by rw [H.1,decide_eq_false (by omega)];rfl)
  go_wp2_with fail;refine bodyPost_ret (results_tmp2 rfl _ _ _) rfl ?_;rw [B.1];exact ⟨rfl,A.1⟩
 by_cases g2:1099511627776<c
 ·
  have B:=Hd (show R=some (-1) by rw [H.1,decide_eq_false (by omega)];rfl)
  go_wp2_with fail;refine bodyPost_ret (results_tmp2 rfl _ _ _) rfl ?_;rw [B.1];exact ⟨rfl,A.1⟩
 by_cases g3:b<0
 ·
  have B:=Hd (show R=some (-1) by rw [H.1,decide_eq_false (by omega)];rfl)
  go_wp2_with fail;refine bodyPost_ret (results_tmp2 rfl _ _ _) rfl ?_;rw [B.1];exact ⟨rfl,A.1⟩
 by_cases g4:1048576<b
 ·
  have B:=Hd (show R=some (-1) by rw [H.1,decide_eq_false (by omega)];rfl)
  go_wp2_with fail;refine bodyPost_ret (results_tmp2 rfl _ _ _) rfl ?_;rw [B.1];exact ⟨rfl,A.1⟩
 by_cases g5:(32:Int)<(n:Int)
 ·
  have B:=Hd (show R=some (-1) by rw [H.1,decide_eq_false (by omega)];rfl)
  go_wp2_with fail;refine bodyPost_ret (results_tmp2 rfl _ _ _) rfl ?_;rw [B.1];exact ⟨rfl,A.1⟩
 have B:=Hd (show xy c b [] 0 l=R by rw [H.1,decide_eq_true (by omega),if_pos rfl])
 clear H;go_wp2_with fail;clear g1 g2 g3 g4 g5;generalize hw1:World.alloc w _=w1 at D A ⊢;clear hw1
 go_loopg [4] n (fun gk iv wr=>∃ (k:Nat),gk+k=n∧iv=.int .i64 (k:Int)∧xy c b (l.take k) (k:Int) (l.drop k)=R∧PreOk c b l k∧Below w1.heap.size w1 wr)
 case atStart=>exact ⟨0,rfl,rfl,B.1,fun i hi _=>by omega,Below.refl _ _⟩
 case round =>
  obtain ⟨k,a6,rfl,hC,hP,hb⟩:=hrel;have C:=Hd hb;have M:=Hd hC;have N:=Hd hP;have K:=Hd a6;have a3:=D.1.below hb;have x0:wr.cell? ⟨w.heap.size,0,none⟩=some (.int .i64 c):=a3.cell 0 _ rfl;have x1:wr.cell? ⟨w.heap.size,1,none⟩=some (.int .i64 b):=a3.cell 1 _ rfl;have x2:wr.cell? ⟨w.heap.size,2,none⟩=some (.slice a n cap):=a3.cell 2 _ rfl;have k0:(0:Int)≤(k:Int):=by omega
  clear hb hC hP a6 a3;by_cases hk:k<n;rotate_left
  ·
   have k1:¬ (k:Int)<(n:Int):=by omega
   have Q:=Hd (show R=none by
    have e:=M.1;rw [List.drop_of_length_le (by have:=I.1;omega)] at e
    exact e.symm)
   have F:=Hd (A.1.trans (C.1.mono A.1.size));clear hk;go_wp2_with fail;refine bodyPost_ret (results_tmp2 rfl _ _ _) rfl ?_;rw [Q.1];exact ⟨rfl,F.1⟩
  have k1:(k:Int)<(n:Int):=by omega
  have a0:k<l.length:=by have:=I.1;omega
  have L:=Hd ((O.1.below A.1).below C.1);have G:=Hd (fun hr=>jfc c b n cap k a l wr I.1 hr a0 (P.1 _ (List.getElem_mem a0)) (N.1.may (by omega)) (N.1.asc (by omega)))
  obtain ⟨s,hs⟩:=Nm (l[k]);rw [← hs] at G;have J:=Hd (show (if zw c b s (l.take k)=true then xy c b (l.take (k+1)) ((k:Int)+1) (l.drop (k+1)) else some (k:Int))=R by
   rw [← M.1,List.drop_eq_getElem_cons a0,← hs]
   conv=>rhs;unfold xy
   rw [List.take_succ_eq_append_getElem a0,← hs])
  have W:=Hd (show zw c b s (l.take k)=true→PreOk c b l (k+1) from fun hm i hi hl=>by
   rcases Nat.lt_or_ge i k with h | h
   · exact N.1 i h hl
   ·
    obtain rfl:i=k:=by omega
    rw [← hs];exact jcy.1 hm)
  have S:=Hd hk;have E:=Hd (G.1 (by rw [I.1];exact L.1))
  clear hk a0 hs M L G
  cases hm:zw c b s (l.take k)
  ·
   rw [hm,if_neg (by decide)] at J
   rw [hm] at E;clear hm;go_wp2_with fail;refine E.1.mono ?_;rintro ev w4 ⟨rfl,a1⟩;have F:=Hd (A.1.trans ((C.1.trans (a1.mono C.1.size)).mono A.1.size));clear a1;go_wp2_with fail;refine bodyPost_ret (results_tmp2 rfl _ _ _) rfl ?_;rw [← J.1];exact ⟨rfl,F.1⟩
  ·
   rw [hm,if_pos rfl] at J;have T:=Hd (W.1 hm);rw [hm] at E;clear hm;go_wp2_with fail;refine E.1.mono ?_;rintro ev w4 ⟨rfl,a1⟩;have U:=Hd (C.1.trans (a1.mono C.1.size));clear a1;go_wp2_with fail
   go_roundg (n-(k+1))
   case measure=>have:=K.1;have:=S.1;omega
   case rel=>exact ⟨k+1,by have:=K.1;have:=S.1;omega,by go_num,J.1,T.1,U.1⟩
theorem Mod.setG3 (b:Nat)(w:World)(x y z:Value):Mod (fun i=>i=b) w (((w.setCell ⟨b,0,none⟩ x).setCell ⟨b,1,none⟩ y).setCell ⟨b,2,none⟩ z) :=
 ((Mod.set (fun i=>i=b) w ⟨b,0,none⟩ x rfl).trans (Mod.set (fun i=>i=b) _ ⟨b,1,none⟩ y rfl)).trans (Mod.set (fun i=>i=b) _ ⟨b,2,none⟩ z rfl)
theorem jaT {w w':World}{F:Nat→Prop}{a:Addr}{x:Value}(hm:Mod F w w')(hc:w.cell? a=some x)(hn:¬ F a.block):w'.cell? a=some x:=by
 rw [World.cell?_of_block (w:=w) (hm.block a.block (World.block_lt_of_cell? w _ hc) hn)];exact hc
theorem uD {P:Program}{op:Oper}{a:Act}{w:World}{K:Act→World→Prop}{Q:Exit→Act→World→Prop}(ty:TypeId)(x y:Operand)(ho:op.op=.store ty x y)(b o:Nat)(cs:List Value)(hx:a.eval x=.pointer (some ⟨b,o,none⟩))(hy:a.eval y=.agg cs.toArray)(ht:w.there b o cs.length)(hi:(P.info? ty).map (·.size)=some cs.length)(h1:∀ v∈cs,v.oneCell'=true)(h:K (a.put op.dst undef) (w.setCells b o cs)):op.wp P a w K Q:=by
 refine wp_store_mid ty x y ho b o cs.toArray hx hy ?_ ?_ (all_oneCell_toArray h1) ?_
 · rw [List.size_toArray];exact ht
 · rw [List.size_toArray];exact hi
 · exact h
theorem Box.thereG3 {w:World}{b:Nat}{x y z:Value}{t:TypeId}(h:Box w b #[x,y,z] t):w.there b 0 3:=by
 intro j hj;rw [Nat.zero_add]
 match j,hj with
 | 0,_=>exact ⟨by rw [h.cell 0 _ rfl];rfl,h.free _⟩
 | 1,_=>exact ⟨by rw [h.cell 1 _ rfl];rfl,h.free _⟩
 | 2,_=>exact ⟨by rw [h.cell 2 _ rfl];rfl,h.free _⟩
theorem Box.setG3 {w:World}{b:Nat}{x y z:Value}{t:TypeId}(h:Box w b #[x,y,z] t)(x' y' z':Value):Box (w.setCells b 0 [x',y',z']) b #[x',y',z'] t∧Mod (fun i=>i=b) w (w.setCells b 0 [x',y',z']) :=
 ⟨((h.set 0 x').set 1 y').set 2 z',Mod.setG3 b w x' y' z'⟩
theorem jhs (x y:Int)(a:Option Addr)(n c:Nat):∀ v ∈ [Value.int .i64 x,Value.int .i64 y,Value.slice a n c],v.oneCell'=true:=by
 intro v hv;simp only [List.mem_cons,List.not_mem_nil,or_false] at hv
 rcases hv with rfl | rfl | rfl <;> rfl
end Go.Proofs.YtgcnolapjppbpaaGreatDoor
