/- Texts of one proof. -/
import Derived.Test.YtgcnolapjppbpaaGreatDoorK02
import Derived.Test.YtgcnolapjppbpaaGreatDoorK03
namespace Go.Proofs.YtgcnolapjppbpaaGreatDoor
open Go.RowKit _root_.Go.Proofs.Tryz
set_option maxRecDepth 100000
set_option maxHeartbeats 25600000
variable {w w' w0:World}{v lsv gsv g:Value}{n cap b base sz k i:Nat}{xs gl:List Value}{a:Option Addr}{P:Program}{ops:Array Oper}{rest:List Oper}{l:List SesM}{t K E e:TypeId}{q:IntKind}
def zg (w:World)(r k:Nat):World:=((w.alloc (.cells #[.pointer (some ⟨r,0,none⟩)] 235)).alloc (.cells #[.nilIface] 49)).alloc (.cells #[(k:Int)] 3)
theorem jeq (p q s:Addr)(w:World) :
  CallsD prog 189 #[.pointer (some p),.pointer (some q),.pointer (some s)] .returning w fun e u' w'=>e=.returned (.tuple #[])/\u'=.returning/\w'=w:=by
 refine callsD_of_wpS func189 rfl fun c₀ cs hu=>?_
 apply wpS_seq
 apply wpS_region
 simp [wpOpsS,go_sem,recoverD,hu,ntmps189,Exit.thenS]
 apply wpS_seq
 apply wpS_region
 simp [wpOpsS,go_sem,Exit.thenS]
 refine wpS_cond (t:=false) (by simp [Act.eval,Array.replicate]) ?_
 simp only [wH,ks];refine wpS_of_wp (wp_skip ?_)
 cases c₀
 simp_all [bodyPostS,results,Tryz.results189]
theorem jmx (v:Value)(w:World):(Instr.typeAssert (.iface 91 v) 20 91 true).run prog w=.ok (.tuple #[v,.bool true]) w:=by kernel_rfl
theorem jcD (p q s:Addr)(n k:Int)(r:Nat)(x y:Value)(older:List PanicEntry)(w:World)(hp:w.cell? p=some (.int .i64 k))(hq:w.cell? q=some (.pointer (some ⟨r,0,none⟩)))(c1:w.cell? ⟨r,1,none⟩=some x)(f1:w.frozen? ⟨r,1,none⟩=false)(hs:(w.setCell ⟨r,1,none⟩ k).cell? s=some y)(fs:(w.setCell ⟨r,1,none⟩ k).frozen? s=false) :
  CallsD prog 189 #[.pointer (some p),.pointer (some q),.pointer (some s)] (.panicking ({ v:=.iface 91 n,recovered:=false }::older)) w fun e u' w' =>
   e=.returned (.tuple #[])/\u'=.panicking ({ v:=.iface 91 n,recovered:=true }::older)/\w'=(w.setCell ⟨r,1,none⟩ k).setCell s (.iface 91 n):=by
 have ht:=fun w=>jmx n w
 refine callsD_of_wpS func189 rfl fun c₀ cs hu=>?_
 apply wpS_seq
 apply wpS_region
 simp [wpOpsS,go_sem,recoverD,hu,ntmps189,Exit.thenS]
 apply wpS_seq
 apply wpS_region
 simp [wpOpsS,go_sem,Exit.thenS]
 refine wpS_cond (t:=true) (by simp [Act.eval,Array.replicate]) ?_
 simp only [pB];refine wpS_of_wp ?_;simp only [Array.replicate,List.replicate];go_wp2_with fail
 simp [bodyPostS,results,Tryz.results189]
theorem jhn (r k:Nat)(v:Value)(l:List UInt8)(p q:Addr)(w:World)(h:IsR w r v l k)(A:World->Prop)(B:Int->World->Prop)(F:Nat->Prop)(hF:∀ i,F i->i<w.heap.size)(hc:Calls prog 181 #[.pointer (some p),.pointer (some q)] (zg w r k) fun e w'=>Mod F (zg w r k) w'/\((e=.returned (.tuple #[])/\A w')\/∃ n,e=pan n/\B n w'/\∃ j,IsR w' r v l j)) :
  Calls prog 178 #[.pointer (some ⟨r,0,none⟩),.func (.func 181) #[] #[.pointer (some p),.pointer (some q)]] w fun e w' =>
   (e=.returned .nilIface/\∃ w1,A w1/\Mod F (zg w r k) w1/\w'=w1.setCell ⟨w.heap.size+1,0,none⟩ .nilIface) \/
   ∃ n,e=.returned (.iface 91 (.int .i64 n))/\∃ w1,B n w1/\Mod F (zg w r k) w1/\(∃ j,IsR w1 r v l j)/\w'=(w1.setCell ⟨r,1,none⟩ (.int .i64 (k:Int))).setCell ⟨w.heap.size+1,0,none⟩ (.iface 91 (.int .i64 n)):=by
 have a9:∀ (fn:Fn) (first cap:Array Value) (w:World),(Instr.makeFunc fn first cap).run prog w=.ok (.func fn first cap) w:=fun _ _ _ _=>rfl
 have a1:Box (zg w r k) w.heap.size #[.pointer (some ⟨r,0,none⟩)] 235:=((Box.new w #[.pointer (some ⟨r,0,none⟩)] _).below (ja _ _)).below (ja _ _);have a2:Box (zg w r k) (w.heap.size+1) #[.nilIface] 49:=by
  have:=(Box.new (w.alloc (.cells #[.pointer (some ⟨r,0,none⟩)] 235)) #[.nilIface] 49).below (ja _ (.cells #[.int .i64 (k:Int)] 3));rw [qj] at this;exact this
 have a3:Box (zg w r k) (w.heap.size+2) #[.int .i64 (k:Int)] 3:=by
  have:=Box.new ((w.alloc (.cells #[.pointer (some ⟨r,0,none⟩)] 235)).alloc (.cells #[.nilIface] 49)) #[.int .i64 (k:Int)] 3;rw [qj,qj] at this;exact this
 have a8:∀ o o2,((w.alloc o).alloc o2).cell? ⟨r,1,none⟩=some (.int .i64 (k:Int)):=fun o o2=>((h.box.below (ja _ _)).below (ja _ _)).cell 1 _ rfl
 have G:=Hd hc;have H:=Hd a1;have C:=Hd a2;have D:=Hd a3;have L:=Hd h.le;have b0:=h.box.lt;clear hc h a1 a2 a3
 go_enter_defers func178,ntmps178
 go_wp2_with fail;refine G.1.mono ?_;rintro e w1 ⟨hm,a7⟩;have E:=Hd hm;have a4:=H.1.mod hm (fun hf=>by have:=hF _ hf;omega)
 have a0:=C.1.mod hm (fun hf=>by have:=hF _ hf;omega)
 have a5:=D.1.mod hm (fun hf=>by have:=hF _ hf;omega)
 rcases a7 with ⟨rfl,hA⟩ | ⟨n,rfl,hB,j,hj⟩
 .
  have I:=Hd hA;have d0:=a0.cell 0 _ rfl;have d1:=a0.free 0;have d2:=(a0.set 0 .nilIface).cell 0 _ rfl;clear hA hm a4 a0 a5 a8;go_wp2_with fail;refine leaves_cons (f:=189) (args:=#[.pointer (some ⟨w.heap.size+1+1,0,none⟩),.pointer (some ⟨w.heap.size,0,none⟩),.pointer (some ⟨w.heap.size+1,0,none⟩)]) (by simp) (by simp [go_sem]) ?_
  refine (jeq _ _ _ _).mono ?_;rintro e u' w'' ⟨rfl,rfl,rfl⟩;refine ⟨_,?_,.inl ⟨rfl,w1,I.1,E.1,rfl⟩⟩
  simp [results,Tryz.results178,go_sem,d2]
 .
  have J:=Hd hB;have c0:=a5.cell 0 _ rfl;have c1:=a4.cell 0 _ rfl;have c2:=hj.box.cell 1 _ rfl;have c3:=hj.box.free 1;have a6:Box (w1.setCell ⟨r,1,none⟩ (.int .i64 (k:Int))) (w.heap.size+1) #[.nilIface] 49:=a0.set_other (by show r≠w.heap.size+1;omega) _
  have c4:=a6.cell 0 _ rfl;have c5:=a6.free 0;have d2:=(a6.set 0 (.iface 91 (.int .i64 n))).cell 0 _ rfl;have K:=Hd (show ∃ j,IsR w1 r v l j from ⟨j,hj⟩)
  clear hB hm a4 a0 a5 a8 hj;unfold pan;go_wp2_with fail;refine leaves_cons (f:=189) (args:=#[.pointer (some ⟨w.heap.size+1+1,0,none⟩),.pointer (some ⟨w.heap.size,0,none⟩),.pointer (some ⟨w.heap.size+1,0,none⟩)]) (by simp) (by simp [go_sem]) ?_
  refine (jcD _ _ _ n (k:Int) r _ _ [] _ c0 c1 c2 c3 c4 c5).mono ?_;rintro e u' w'' ⟨rfl,rfl,rfl⟩;refine ⟨_,?_,.inr ⟨n,rfl,w1,J.1,E.1,K.1,rfl⟩⟩
  simp [results,Tryz.results178,go_sem,d2]
theorem jj3 (r k:Nat)(v:Value)(l:List UInt8)(p q s:Addr)(w:World)(h:IsR w r v l k)(A:World->Prop)(B:Int->World->Prop)(F:Nat->Prop)(hF:∀ i,F i->i<w.heap.size)(hc:Calls prog 179 #[.pointer (some p),.pointer (some q),.pointer (some s)] (zg w r k) fun e w'=>Mod F (zg w r k) w'/\((e=.returned (.tuple #[])/\A w')\/∃ n,e=pan n/\B n w'/\∃ j,IsR w' r v l j)) :
  Calls prog 178 #[.pointer (some ⟨r,0,none⟩),.func (.func 179) #[] #[.pointer (some p),.pointer (some q),.pointer (some s)]] w fun e w' =>
   (e=.returned .nilIface/\∃ w1,A w1/\Mod F (zg w r k) w1/\w'=w1.setCell ⟨w.heap.size+1,0,none⟩ .nilIface) \/
   ∃ n,e=.returned (.iface 91 (.int .i64 n))/\∃ w1,B n w1/\Mod F (zg w r k) w1/\(∃ j,IsR w1 r v l j)/\w'=(w1.setCell ⟨r,1,none⟩ (.int .i64 (k:Int))).setCell ⟨w.heap.size+1,0,none⟩ (.iface 91 (.int .i64 n)):=by
 have a9:∀ (fn:Fn) (first cap:Array Value) (w:World),(Instr.makeFunc fn first cap).run prog w=.ok (.func fn first cap) w:=fun _ _ _ _=>rfl
 have a1:Box (zg w r k) w.heap.size #[.pointer (some ⟨r,0,none⟩)] 235:=((Box.new w #[.pointer (some ⟨r,0,none⟩)] _).below (ja _ _)).below (ja _ _);have a2:Box (zg w r k) (w.heap.size+1) #[.nilIface] 49:=by
  have:=(Box.new (w.alloc (.cells #[.pointer (some ⟨r,0,none⟩)] 235)) #[.nilIface] 49).below (ja _ (.cells #[.int .i64 (k:Int)] 3));rw [qj] at this;exact this
 have a3:Box (zg w r k) (w.heap.size+2) #[.int .i64 (k:Int)] 3:=by
  have:=Box.new ((w.alloc (.cells #[.pointer (some ⟨r,0,none⟩)] 235)).alloc (.cells #[.nilIface] 49)) #[.int .i64 (k:Int)] 3;rw [qj,qj] at this;exact this
 have a8:∀ o o2,((w.alloc o).alloc o2).cell? ⟨r,1,none⟩=some (.int .i64 (k:Int)):=fun o o2=>((h.box.below (ja _ _)).below (ja _ _)).cell 1 _ rfl
 have G:=Hd hc;have H:=Hd a1;have C:=Hd a2;have D:=Hd a3;have L:=Hd h.le;have b0:=h.box.lt;clear hc h a1 a2 a3
 go_enter_defers func178,ntmps178
 go_wp2_with fail;refine G.1.mono ?_;rintro e w1 ⟨hm,a7⟩;have E:=Hd hm;have a4:=H.1.mod hm (fun hf=>by have:=hF _ hf;omega)
 have a0:=C.1.mod hm (fun hf=>by have:=hF _ hf;omega)
 have a5:=D.1.mod hm (fun hf=>by have:=hF _ hf;omega)
 rcases a7 with ⟨rfl,hA⟩ | ⟨n,rfl,hB,j,hj⟩
 .
  have I:=Hd hA;have d0:=a0.cell 0 _ rfl;have d1:=a0.free 0;have d2:=(a0.set 0 .nilIface).cell 0 _ rfl;clear hA hm a4 a0 a5 a8;go_wp2_with fail;refine leaves_cons (f:=189) (args:=#[.pointer (some ⟨w.heap.size+1+1,0,none⟩),.pointer (some ⟨w.heap.size,0,none⟩),.pointer (some ⟨w.heap.size+1,0,none⟩)]) (by simp) (by simp [go_sem]) ?_
  refine (jeq _ _ _ _).mono ?_;rintro e u' w'' ⟨rfl,rfl,rfl⟩;refine ⟨_,?_,.inl ⟨rfl,w1,I.1,E.1,rfl⟩⟩
  simp [results,Tryz.results178,go_sem,d2]
 .
  have J:=Hd hB;have c0:=a5.cell 0 _ rfl;have c1:=a4.cell 0 _ rfl;have c2:=hj.box.cell 1 _ rfl;have c3:=hj.box.free 1;have a6:Box (w1.setCell ⟨r,1,none⟩ (.int .i64 (k:Int))) (w.heap.size+1) #[.nilIface] 49:=a0.set_other (by show r≠w.heap.size+1;omega) _
  have c4:=a6.cell 0 _ rfl;have c5:=a6.free 0;have d2:=(a6.set 0 (.iface 91 (.int .i64 n))).cell 0 _ rfl;have K:=Hd (show ∃ j,IsR w1 r v l j from ⟨j,hj⟩)
  clear hB hm a4 a0 a5 a8 hj;unfold pan;go_wp2_with fail;refine leaves_cons (f:=189) (args:=#[.pointer (some ⟨w.heap.size+1+1,0,none⟩),.pointer (some ⟨w.heap.size,0,none⟩),.pointer (some ⟨w.heap.size+1,0,none⟩)]) (by simp) (by simp [go_sem]) ?_
  refine (jcD _ _ _ n (k:Int) r _ _ [] _ c0 c1 c2 c3 c4 c5).mono ?_;rintro e u' w'' ⟨rfl,rfl,rfl⟩;refine ⟨_,?_,.inr ⟨n,rfl,w1,J.1,E.1,K.1,rfl⟩⟩
  simp [results,Tryz.results178,go_sem,d2]
theorem jbc {a b:Addr}(x:Value)(h:a.block≠b.block):(w.setCell b x).cell? a=w.cell? a :=
 World.cell?_of_block (w:=w) (Below.heap_setCell w b x a.block h)
theorem jlA {w2 w3 w1 w4:World}{r s:Nat}(h2:Below w.heap.size w w2)(h3:Below w2.heap.size w2 w3)(hm:Mod (fun i=>i=r\/i=s) w3 w1)(hs:w.heap.size<=s)(hl:Mod (fun i=>i=r\/w.heap.size<=i) w1 w4):Mod (fun i=>i=r) w w4 :=
 (Mod.of_below (F:=fun i=>i=r) (h2.trans (h3.mono h2.size))).then ((hm.mono (G:=fun i=>i=r\/w.heap.size<=i) (fun i hi=>hi.imp id (fun e=>by omega))).trans hl) (fun _ hi=>hi)
theorem je0 (r k b1 b4:Nat)(v x:Value)(l:List UInt8)(t:TypeId)(w:World)(h:IsR w r v l k)(h1:w.cell? ⟨b1,0,none⟩=some (.pointer (some ⟨r,0,none⟩)))(h4:Box w b4 #[x] t)(a2:b4≠r)(hv:v.ownBlock≠some b4) :
  Calls prog 181 #[.pointer (some ⟨b1,0,none⟩),.pointer (some ⟨b4,0,none⟩)] w fun e w'=>Mod (fun i=>i=r\/i=b4) w w' /\
   ((e=.returned (.tuple #[])/\((jX (l.drop k)).1=0/\w'.cell? ⟨b4,0,none⟩=some (.int .u64 ((jX (l.drop k)).2.1:Int))/\IsR w' r v l (k+(jX (l.drop k)).2.2)))\/∃ n,e=pan n/\(n=(jX (l.drop k)).1/\(jX (l.drop k)).1≠0)/\∃ j,IsR w' r v l j):=by
 have B:=Hd (jbM r k v l w h);generalize jX (l.drop k)=N at B |-;have C:=Hd h4;clear h h4;go_enter func181,ntmps181;go_wp2_with fail;refine B.1.mono ?_;rintro e w1 ⟨hm,⟨hn,rfl,hi⟩ | ⟨hn,rfl,hj⟩⟩
 .
  have a0:=C.1.mod hm a2;have c0:=a0.cell 0 _ rfl;have f0:=a0.free 0;have a1:=Mod.set (fun i=>i=b4) w1 ⟨b4,0,none⟩ (.int .u64 (N.2.1:Int)) rfl
  have D:=Hd (hi.mod a1 (fun e=>a2 e.symm) (fun b hb e=>hv (by rw [hb,e])))
  have E:=Hd ((a0.set 0 (.int .u64 (N.2.1:Int))).cell 0 _ rfl);have H:=Hd ((hm.mono (fun i hi=>Or.inl hi:∀ i,i=r->i=r\/i=b4)).trans (a1.mono (fun i hi=>Or.inr hi:∀ i,i=b4->i=r\/i=b4)))
  have A:=Hd hn;clear hm a0 a1 hi hn;go_wp2;refine pE (wZ rfl _ _ _) rfl ?_;exact ⟨H.1,.inl ⟨rfl,A.1,E.1,D.1⟩⟩
 .
  have H:=Hd (hm.mono (fun i hi=>Or.inl hi:∀ i,i=r->i=r\/i=b4))
  have A:=Hd hn;have F:=Hd hj;clear hm hn hj;unfold pan;go_wp2_with fail;exact ⟨rfl,H.1,.inr ⟨_,rfl,⟨rfl,A.1⟩,F.1⟩⟩
theorem jaP (r k:Nat)(v:Value)(l:List UInt8)(w:World)(h:IsR w r v l k)(a4:∀ b,v.ownBlock=some b->b<w.heap.size) :
  Calls prog 161 #[.pointer (some ⟨r,0,none⟩)] w fun e w'=>Mod (fun i=>i=r) w w' /\
   (((jX (l.drop k)).1=0/\e=.returned (.tuple #[.int .u64 ((jX (l.drop k)).2.1:Int),.nilIface])/\IsR w' r v l (k+(jX (l.drop k)).2.2))\/((jX (l.drop k)).1≠0/\e=.returned (.tuple #[.int .u64 0,.iface 91 (.int .i64 (jX (l.drop k)).1)])/\IsR w' r v l k)):=by
 have b2:∀ (fn:Fn) (first cap:Array Value) (w:World),(Instr.makeFunc fn first cap).run prog w=.ok (.func fn first cap) w:=fun _ _ _ _=>rfl
 have b3:=h.box.lt;obtain ⟨w2,a0⟩:=Nm ((w.alloc (.cells #[.pointer (some ⟨r,0,none⟩)] 235)).alloc (.cells #[.int .u64 0] 42));have a6:w2.heap.size=w.heap.size+2:=by rw [a0,qj,qj]
 have a3:Below w.heap.size w w2:=by rw [a0];exact (ja w _).trans ((ja _ _).mono (by simp))
 have a2:Below w2.heap.size w2 (zg w2 r k):=by unfold zg;exact ((ja w2 _).trans ((ja _ _).mono (by simp))).trans ((ja _ _).mono (by simp;omega))
 have a7:Box w2 w.heap.size #[.pointer (some ⟨r,0,none⟩)] 235:=by rw [a0];exact (Box.new w _ _).below (ja _ _)
 have a5:Box w2 (w.heap.size+1) #[.int .u64 0] 42:=by
  rw [a0];have:=Box.new (w.alloc (.cells #[.pointer (some ⟨r,0,none⟩)] 235)) #[.int .u64 0] 42;rw [qj] at this;exact this
 have a8:=(h.below a3).below a2;have hc:=jhn r k v l ⟨w.heap.size,0,none⟩ ⟨w.heap.size+1,0,none⟩ w2 (h.below a3) _ _ (fun i=>i=r\/i=w.heap.size+1) (fun i hi=>by omega)
  (je0 r k w.heap.size (w.heap.size+1) v _ l 42 (zg w2 r k) a8 ((a7.below a2).cell 0 _ rfl) (a5.below a2) (by omega) (fun e=>by have:=a4 _ e;omega))
 rw [a0] at hc;have H:=Hd hc;rw [<- a0] at H;clear hc;have A:=Hd a3;have B:=Hd a2;have I:=Hd a5;have F:=Hd h.le;clear a3 a2 a7 a5 a8 h;generalize jX (l.drop k)=N at H |-;go_enter func161,ntmps161;go_wp2_with fail;rw [<- a0];clear a0;refine H.1.mono ?_;rintro e w9 (⟨rfl,w1,⟨hn,a9,hi⟩,hm,rfl⟩ | ⟨n,rfl,w1,⟨rfl,hn⟩,hm,⟨j,hj⟩,rfl⟩)
 .
  have a1:=Mod.set (fun i=>i=w2.heap.size+1) w1 ⟨w2.heap.size+1,0,none⟩ .nilIface rfl
  have c4:=(jbc (w:=w1) (a:=⟨w.heap.size+1,0,none⟩) (b:=⟨w2.heap.size+1,0,none⟩) .nilIface (by simp;omega)).trans a9
  have C:=Hd (hi.mod a1 (by omega) (fun b hb e=>by have:=a4 _ hb;omega))
  have D:=Hd (jlA A.1 B.1 hm (by omega) (a1.mono (G:=fun i=>i=r\/w.heap.size<=i) (fun i hi=>.inr (by omega))))
  have E:=Hd hn;clear hn a9 hi hm a1 H a6;go_wp2;refine qP (wj rfl _ _ _) rfl ?_;exact ⟨D.1,.inl ⟨E.1,rfl,C.1⟩⟩
 .
  obtain ⟨b0,b1⟩:=hj.set k F.1;have a1:=Mod.set (fun i=>i=w2.heap.size+1) (w1.setCell ⟨r,1,none⟩ (k:Int)) ⟨w2.heap.size+1,0,none⟩ (.iface 91 N.1) rfl
  have C:=Hd (b0.mod a1 (by omega) (fun b hb e=>by have:=a4 _ hb;omega))
  have D:=Hd (jlA A.1 B.1 hm (by omega) ((b1.mono (G:=fun i=>i=r\/w.heap.size<=i) (fun i hi=>.inl hi)).trans (a1.mono (G:=fun i=>i=r\/w.heap.size<=i) (fun i hi=>.inr (by omega)))))
  have E:=Hd hn;clear hn hj hm a1 b0 b1 H a6;go_wp2;refine qP (wj rfl _ _ _) rfl ?_;exact ⟨D.1,.inr ⟨E.1,rfl,C.1⟩⟩
theorem jeh (r k:Nat)(v:Value)(l:List UInt8)(w:World)(h:IsR w r v l k) :
  Calls prog 162 #[.pointer (some ⟨r,0,none⟩)] w fun e w'=>e=.returned ((l.length-k:Nat):Int)/\Below w.heap.size w w'/\IsR w' r v l k:=by
 have hr:=h.rd;obtain ⟨a,cap,rfl,h1,h2,_,_⟩:=hr;have a1:=h.sm;have a2:=h.le;have c0:=h.box.cell 0 _ rfl;have c1:=h.box.cell 1 _ rfl;have A:=Hd h;have z1:IntKind.i64.wrap ((l.length:Int)-(k:Int))=((l.length-k:Nat):Int):=by simp [IntKind.wrap,IntKind.bits,IntKind.signed];omega
 clear h;go_enter func162,ntmps162;go_wp2
 go_quiet (fail)
 have a0:Below w.heap.size w (w.drewN nq):=⟨rfl,rfl,rfl,qm _,fun _ _=>rfl⟩
 have H:=Hd (A.1.below a0);go_wp2;go_ret;exact ⟨rfl,a0,H.1⟩
theorem jfD (r k:Nat)(v:Value)(l:List UInt8)(w:World)(h:IsR w r v l k) :
  Calls prog 125 #[.pointer (some ⟨r,0,none⟩)] w fun e w'=>e=.returned (jm (if k<l.length then 3 else 0))/\Below w.heap.size w w':=by
 obtain ⟨E,hE⟩:=Nm (jm (if k<l.length then 3 else 0))
 rw [<- hE];have H:=Hd (jeh r k v l w h);obtain ⟨d,hd⟩:=Nm (l.length-k);rw [<- hd] at H;have a0:=h.le;clear h;go_enter func125,ntmps125;go_wp2_with fail;refine H.1.mono ?_;rintro e w1 ⟨rfl,hb,_⟩;have B:=Hd hb;clear hb H;by_cases hk:k<l.length
 .
  have A:=Hd (show E=.iface 91 (3:Int) by rw [hE,qf hk];rfl)
  have g1:(0:Int)<(d:Int):=by omega
  clear hk hd a0 hE;go_wp2;go_ret;rw [A.1];exact ⟨rfl,B.1⟩
 .
  have A:=Hd (show E=.nilIface by rw [hE,qh hk];rfl)
  have g1:¬ (0:Int)<(d:Int):=by omega
  clear hk hd a0 hE;go_wp2;go_ret;rw [A.1];exact ⟨rfl,B.1⟩
theorem jdV (v:Value)(l:List UInt8)(w:World)(h:Rd w v l.length (l.map V8))(hl:l.length<=1000000000000) :
  Calls prog 121 #[v] w fun e w'=>∃ r v',e=.returned (.pointer (some ⟨r,0,none⟩))/\IsR w' r v' l 0/\Below w.heap.size w w'/\w.heap.size<=r/\(∀ b,v'.ownBlock=some b->w.heap.size<=b/\b<w'.heap.size):=by
 have B:=Hd (jcx v l w h (by omega))
 obtain ⟨a,cap,rfl,_⟩:=h;go_enter func121,ntmps121;go_wp2_with fail;refine B.1.mono ?_;rintro e w1 ⟨o,rfl,ho,hb⟩;obtain ⟨a2,c2,rfl,_⟩:=ho.slice;have H:=Hd ho;have A:=Hd hb;clear ho hb B;go_wp2;go_ret;have a0:=ja w1 (.cells #[.slice a2 l.length c2,(0:Int)] 288);refine ⟨w1.heap.size,_,rfl,⟨Box.new _ _ _,H.1.rd.below a0,by omega,fun e=>by have:=(H.1.lt _ e).2;omega,hl⟩,A.1.trans (a0.mono A.1.size),A.1.size,fun b a1=>⟨(H.1.lt b a1).1,by have:=(H.1.lt b a1).2;simp;omega⟩⟩
def jL (l:List UInt8):Int × List UInt8 × Nat :=
 if (jX l).1=0 then (if 32<(jX l).2.1 then (3,[],0) else if l.length-(jX l).2.2<(jX l).2.1 then (2,[],0) else (0,(l.drop (jX l).2.2).take (jX l).2.1,(jX l).2.2+(jX l).2.1)) else ((jX l).1,[],0)
theorem jh6 (a:Option Addr)(n cap lo hi:Nat)(h1:lo<=hi)(h2:hi<=cap)(w:World):(Instr.slice 92 (.slice a n cap) (some (.int .i64 (lo:Int))) (some (.int .i64 (hi:Int))) none).run prog w=.ok (xP a hi cap lo) w:=by
 have hx:prog.elem 92=5:=by unfold Program.elem;rw [underlying92]
 have a0:(sizeOf 5).run prog w=.ok 1 w:=by kernel_rfl
 rw [run_slice_lh w 92 a n cap (by rw [hx];exact underlying92) .i64 .i64 (lo:Int) (hi:Int) (by omega) (by omega) (by omega),hx,a0]
 simp [Result.andThen,sliced,xP]
theorem jma (h:Rd w v n xs)(hh:w'.heap=w.heap):Rd w' v n xs:=h.keep (fun b _ _=>by rw [hh])
theorem jmt {lo hi:Nat}{l:List UInt8}(h:Rd w (.slice a n cap) n (l.map V8))(h1:lo<=hi)(h2:hi<=n):Rd w (xP a hi cap lo) (hi-lo) (((l.drop lo).take (hi-lo)).map V8):=by
 have hc:hi<=cap:=by obtain ⟨a',cap',e,h5,_⟩:=h;injection e with _ _ e3;omega
 have h3:=h.cut hc hi;have h4:=xR (k:=lo) h3 h1 (by rw [qr];omega)
 rw [<- pu,<- wW,List.drop_take] at h4;exact h4
theorem jdi {op:Oper}{a:Act}{Q:Act->Prop}(hw:Region.wanted op (yielded ops a.tmps)=true)(s d:TypeId)(x:Operand)(ho:op.op=.convert s d x)(v r:Value)(hx:a.eval x=v)(hr:(convert s d v).run P w=.ok r w)(h:wpStill P ops w Q rest (a.put op.dst r)):wpStill P ops w Q (op::rest) a:=by
 unfold wpStill;rw [qf hw];unfold Oper.still execOp;simp only [ho,hx,wu,wB,qR,hr];exact ⟨rfl,h⟩
theorem jhI (r k b1 bm b6:Nat)(v x:Value)(l:List UInt8)(t t2 t3:TypeId)(w:World)(h:IsR w r v l k)(h1:Box w b1 #[.pointer (some ⟨r,0,none⟩)] t2)(hm:Box w bm #[(32:Int)] t3)(h6:Box w b6 #[x] t)(a6:b6≠r)(b7:b1≠r)(b8:bm≠r)(b9:b1≠b6)(hv:v.ownBlock≠some b6) :
  Calls prog 179 #[.pointer (some ⟨b1,0,none⟩),.pointer (some ⟨bm,0,none⟩),.pointer (some ⟨b6,0,none⟩)] w fun e w'=>Mod (fun i=>i=r\/i=b6) w w' /\
   ((e=.returned (.tuple #[])/\((jL (l.drop k)).1=0/\w'.cell? ⟨b6,0,none⟩=some (.string (SB (jL (l.drop k)).2.1))/\IsR w' r v l (k+(jL (l.drop k)).2.2)))\/∃ n,e=pan n/\(n=(jL (l.drop k)).1/\(jL (l.drop k)).1≠0)/\∃ j,IsR w' r v l j):=by
 have c4:=h.rd;obtain ⟨a,cap,rfl,c8,c9,d0,_⟩:=c4;have K:=Hd (jbM r k _ l w h);obtain ⟨R,hR⟩:=Nm (jL (l.drop k));rw [<- hR];unfold jL at hR;rw [qn,wR] at hR;generalize jX (l.drop k)=N at K hR;obtain ⟨er,n,u⟩:=N;have c1:=h1.cell 0 _ rfl;have B:=Hd h1;have I:=Hd hm;have C:=Hd h6;have c7:=h.le;have d4:=h.sm;clear h h1 hm h6;go_enter func179,ntmps179;go_wp2_with fail;refine K.1.mono ?_;clear K;rintro e w1 ⟨a2,⟨hn,rfl,hi⟩ | ⟨hn,rfl,hj⟩⟩
 rotate_left
 .
  have D:=Hd (a2.mono (fun i hi=>Or.inl hi:∀ i,i=r->i=r\/i=b6))
  have A:=Hd (show R=(er,[],0) by rw [hR,qh hn])
  have Q:=Hd hn;have S:=Hd hj;clear a2 hn hj hR;unfold pan;go_wp2_with fail;rw [A.1];exact ⟨rfl,D.1,.inr ⟨_,rfl,⟨rfl,Q.1⟩,S.1⟩⟩
 .
  simp only at hn hi hR |-;rw [qf hn] at hR;have a0:=B.1.mod a2 b7;have b3:=I.1.mod a2 b8;have a1:=C.1.mod a2 a6;have L:=Hd hi;have D:=Hd (a2.mono (fun i hi=>Or.inl hi:∀ i,i=r->i=r\/i=b6))
  have d1:=a0.cell 0 _ rfl;have dm:=b3.cell 0 _ rfl;have HX1':=Hd a0;have HX6':=Hd a1;clear a0 b3 a1 B I C a2 c1 hi hn;by_cases hbig:32<n
  .
   have A:=Hd (show R=(3,[],0) by rw [hR,qf hbig])
   have g1:(32:Int)<(n:Int):=by omega
   clear hR hbig;go_wp2_with fail;rw [A.1];exact ⟨rfl,D.1,.inr ⟨_,rfl,⟨rfl,by decide⟩,_,L.1⟩⟩
  .
   rw [qh hbig] at hR;have g1:¬ (32:Int)<(n:Int):=by omega
   have E:=Hd hbig;have G:=Hd hR;clear hbig hR;go_wp2_with fail;refine (jeh r (k+u) _ l w1 L.1).mono ?_;rintro e w2 ⟨rfl,a3,a7⟩;obtain ⟨d,hd⟩:=Nm (l.length-(k+u));rw [<- hd];have a8:=a7.le;have zd:IntKind.u64.wrap (d:Int)=(d:Int):=jfg d (by omega)
   have HR':=G;have H:=Hd a7;have J:=Hd (D.1.trans (Mod.of_below (F:=fun i=>i=r\/i=b6) a3))
   have a0:=HX1'.1.below a3;have C:=Hd (HX6'.1.below a3);have d2:=a0.cell 0 _ rfl;have B:=Hd a0;clear a7 a3 a0 HX1' HX6' D L d1 dm;by_cases hsh:d<n
   .
    have A:=Hd (show R=(2,[],0) by have h5:=G.1;rw [show l.length-k-u=d by omega,qf hsh] at h5;exact h5)
    have g2:(d:Int)<(n:Int):=by omega
    clear hsh hd a8;go_wp2_with fail;rw [A.1];exact ⟨rfl,J.1,.inr ⟨_,rfl,⟨rfl,by decide⟩,_,H.1⟩⟩
   .
    have c2:=E.1;obtain ⟨p,hp⟩:=Nm (k+u);rw [<- hp] at hd a8 H;obtain ⟨q,hq⟩:=Nm (p+n);obtain ⟨T,hT⟩:=Nm ((l.drop p).take n);have A:=Hd (show R=(0,T,u+n) by have h5:=G.1;rw [show l.length-k-u=d by omega,qh hsh,<- hp,<- hT] at h5;exact h5)
    have g2:¬ (d:Int)<(n:Int):=by omega
    have zn:IntKind.i64.wrap (n:Int)=(n:Int):=by simp [IntKind.wrap,IntKind.bits,IntKind.signed];omega
    have zs:IntKind.i64.wrap ((p:Int)+(n:Int))=(q:Int):=by simp [IntKind.wrap,IntKind.bits,IntKind.signed];omega
    obtain ⟨tv,a9⟩:=Nm (xP a q cap p);have d5:∀ w,(Instr.slice 92 (.slice a l.length cap) (some (.int .i64 (p:Int))) (some (.int .i64 (q:Int))) none).run prog w=.ok tv w:=fun w=>by rw [a9];exact jh6 a _ cap p q (by omega) (by omega) w
    have c5:∀ w',w'.heap=w2.heap->(convert 92 9 tv).run prog w'=.ok (.string (SB T)) w':=fun w' c6=>by
     have h5:=jmt H.1.rd (show p<=q by omega) (by omega)
     rw [show q-p=n by omega,<- a9,<- hT] at h5
     exact uP T (jma h5 c6) (by rw [hT,qr,qn];omega)
    have c0:w2.cell? ⟨r,0,none⟩=some (.slice a l.length cap):=H.1.box.cell 0 _ rfl;have c1:w2.cell? ⟨r,1,none⟩=some (.int .i64 (p:Int)):=H.1.box.cell 1 _ rfl;have b0:Below w2.heap.size w2 w2.drew:=jb _;have a1:Box w2.drew b6 #[x] t:=C.1;have a0:Box w2.drew b1 #[.pointer (some ⟨r,0,none⟩)] t2:=B.1;have e6:w2.cell? ⟨b6,0,none⟩=some x:=a1.cell 0 _ rfl;have f6:w2.frozen? ⟨b6,0,none⟩=false:=a1.free 0;have a4:=Mod.set (fun i=>i=b6) w2.drew ⟨b6,0,none⟩ (.string (SB T)) rfl
    have a5:=(H.1.below b0).mod a4 (fun e=>a6 e.symm) (fun b hb e=>hv (by rw [hb,e]))
    have b2:=a0.mod a4 b9;have c3:(w2.setCell ⟨b6,0,none⟩ (.string (SB T))).cell? ⟨r,1,none⟩=some (.int .i64 (p:Int)):=a5.box.cell 1 _ rfl;have f3:(w2.setCell ⟨b6,0,none⟩ (.string (SB T))).frozen? ⟨r,1,none⟩=false:=a5.box.free 1;have d3:(w2.setCell ⟨b6,0,none⟩ (.string (SB T))).cell? ⟨b1,0,none⟩=some (.pointer (some ⟨r,0,none⟩)):=b2.cell 0 _ rfl;obtain ⟨b4,b5⟩:=a5.set q (by omega)
    have M:=Hd b4;have O:=Hd ((jbc (w:=w2.drew.setCell ⟨b6,0,none⟩ (.string (SB T))) (a:=⟨b6,0,none⟩) (b:=⟨r,1,none⟩) (q:Int) a6).trans ((a1.set 0 (.string (SB T))).cell 0 _ rfl));have P:=Hd (((J.1.trans (Mod.of_below b0)).trans (a4.mono (fun i hi=>Or.inr hi:∀ i,i=b6->i=r\/i=b6))).trans (b5.mono (fun i hi=>Or.inl hi:∀ i,i=r->i=r\/i=b6)))
    have U:=Hd (show q=k+(u+n) by omega)
    clear hT a9 hq hp hd hsh a1 a0 a4 a5 b2 b4 b5 b0 a8 G HR' E c2;go_wp2
    go_still_tail 17,(by kernel_rfl)
    refine jdi rfl 92 9 (.tmp 33) rfl tv _ rfl (c5 _ rfl) ?_;refine wpStill_nil ?_
    change wpList _ _ _ _ _ w2.drew
    go_wp2;refine pE (wZ rfl _ _ _) rfl ?_;rw [A.1];refine ⟨P.1,.inl ⟨rfl,rfl,O.1,?_⟩⟩;show IsR _ r _ l (k+(u+n));rw [<- U.1];exact M.1
theorem jcO (r k:Nat)(v:Value)(l:List UInt8)(w:World)(h:IsR w r v l k)(a4:∀ b,v.ownBlock=some b->b<w.heap.size) :
  Calls prog 160 #[.pointer (some ⟨r,0,none⟩),(32:Int)] w fun e w'=>Mod (fun i=>i=r) w w' /\
   (((jL (l.drop k)).1=0/\e=.returned (.tuple #[.string (SB (jL (l.drop k)).2.1),.nilIface])/\IsR w' r v l (k+(jL (l.drop k)).2.2))\/((jL (l.drop k)).1≠0/\e=.returned (.tuple #[.string ⟨#[]⟩,.iface 91 (.int .i64 (jL (l.drop k)).1)])/\IsR w' r v l k)):=by
 have b3:∀ (fn:Fn) (first cap:Array Value) (w:World),(Instr.makeFunc fn first cap).run prog w=.ok (.func fn first cap) w:=fun _ _ _ _=>rfl
 have b4:=h.box.lt;obtain ⟨w2,a0⟩:=Nm (((w.alloc (.cells #[.pointer (some ⟨r,0,none⟩)] 235)).alloc (.cells #[(32:Int)] 3)).alloc (.cells #[.string ⟨#[]⟩] 9));have a5:w2.heap.size=w.heap.size+3:=by rw [a0,qj,qj,qj]
 have a3:Below w.heap.size w w2:=by rw [a0];exact ((ja w _).trans ((ja _ _).mono (by simp))).trans ((ja _ _).mono (by simp;omega))
 have a2:Below w2.heap.size w2 (zg w2 r k):=by unfold zg;exact ((ja w2 _).trans ((ja _ _).mono (by simp))).trans ((ja _ _).mono (by simp;omega))
 have a6:Box w2 w.heap.size #[.pointer (some ⟨r,0,none⟩)] 235:=by rw [a0];exact ((Box.new w _ _).below (ja _ _)).below (ja _ _)
 have a7:Box w2 (w.heap.size+1) #[(32:Int)] 3:=by
  rw [a0];have:=(Box.new (w.alloc (.cells #[.pointer (some ⟨r,0,none⟩)] 235)) #[(32:Int)] 3).below (ja _ (.cells #[.string ⟨#[]⟩] 9));rw [qj] at this;exact this
 have a8:Box w2 (w.heap.size+2) #[.string ⟨#[]⟩] 9:=by
  rw [a0];have:=Box.new ((w.alloc (.cells #[.pointer (some ⟨r,0,none⟩)] 235)).alloc (.cells #[(32:Int)] 3)) #[.string ⟨#[]⟩] 9;rw [qj,qj] at this;exact this
 have a9:=(h.below a3).below a2;have hc:=jj3 r k v l ⟨w.heap.size,0,none⟩ ⟨w.heap.size+1,0,none⟩ ⟨w.heap.size+2,0,none⟩ w2 (h.below a3) _ _ (fun i=>i=r\/i=w.heap.size+2) (fun i hi=>by omega)
  (jhI r k w.heap.size (w.heap.size+1) (w.heap.size+2) v _ l 9 235 3 (zg w2 r k) a9 (a6.below a2) (a7.below a2) (a8.below a2) (by omega) (by omega) (by omega) (by omega) (fun e=>by have:=a4 _ e;omega))
 rw [a0] at hc;have H:=Hd hc;rw [<- a0] at H;clear hc;have A:=Hd a3;have B:=Hd a2;have F:=Hd h.le;clear a3 a2 a6 a7 a8 a9 h;generalize jL (l.drop k)=N at H |-;go_enter func160,ntmps160;go_wp2_with fail;rw [<- a0];clear a0;refine H.1.mono ?_;rintro e w9 (⟨rfl,w1,⟨hn,b0,hi⟩,hm,rfl⟩ | ⟨n,rfl,w1,⟨rfl,hn⟩,hm,⟨j,hj⟩,rfl⟩)
 .
  have a1:=Mod.set (fun i=>i=w2.heap.size+1) w1 ⟨w2.heap.size+1,0,none⟩ .nilIface rfl
  have c4:=(jbc (w:=w1) (a:=⟨w.heap.size+2,0,none⟩) (b:=⟨w2.heap.size+1,0,none⟩) .nilIface (by simp;omega)).trans b0
  have C:=Hd (hi.mod a1 (by omega) (fun b hb e=>by have:=a4 _ hb;omega))
  have D:=Hd (jlA A.1 B.1 hm (by omega) (a1.mono (G:=fun i=>i=r\/w.heap.size<=i) (fun i hi=>.inr (by omega))))
  have E:=Hd hn;clear hn b0 hi hm a1 H a5;go_wp2;refine qP (wj rfl _ _ _) rfl ?_;exact ⟨D.1,.inl ⟨E.1,rfl,C.1⟩⟩
 .
  obtain ⟨b1,b2⟩:=hj.set k F.1;have a1:=Mod.set (fun i=>i=w2.heap.size+1) (w1.setCell ⟨r,1,none⟩ (k:Int)) ⟨w2.heap.size+1,0,none⟩ (.iface 91 N.1) rfl
  have C:=Hd (b1.mod a1 (by omega) (fun b hb e=>by have:=a4 _ hb;omega))
  have D:=Hd (jlA A.1 B.1 hm (by omega) ((b2.mono (G:=fun i=>i=r\/w.heap.size<=i) (fun i hi=>.inl hi)).trans (a1.mono (G:=fun i=>i=r\/w.heap.size<=i) (fun i hi=>.inr (by omega)))))
  have E:=Hd hn;clear hn hj hm a1 b1 b2 H a5;go_wp2;refine qP (wj rfl _ _ _) rfl ?_;exact ⟨D.1,.inr ⟨E.1,rfl,C.1⟩⟩
structure SesOk (s:SesM):Prop where
 user:s.user.length<=9223372036854775807
 label:s.label.length<=9223372036854775807
 scopes:s.scopes<2 ^ 64
def yS (l:List SesM):List Value:=l.flatMap (fun s=>s.cells.toList)
theorem jj5:yS [] = []:=rfl
theorem zq (l:List SesM):(yS l).length=l.length*12:=by
 induction l with
 | nil=>rfl
 | cons s l ih =>
  have:(yS (s::l)).length=12+(yS l).length:=by unfold yS;rw [qV,qd];rfl
  rw [this,ih,qp];omega
theorem uf (a b:List SesM):yS (a++b)=yS a++yS b:=by unfold yS;rw [pg]
theorem jfw (s:SesM):yS [s]=s.cells.toList:=by unfold yS;simp
theorem jhd:∀ (l:List SesM) (k j:Nat),j<12->(yS l)[k*12+j]?=l[k]?.bind (fun s=>s.cells.toList[j]?)
 | [],_,_,_=>by simp [yS]
 | e::l,k,j,hj=>by
  have a0:e.cells.toList.length=12:=rfl;unfold yS;rw [qV]
  cases k with
  | zero =>
   rw [List.getElem?_append_left (by omega)]
   simp
  | succ k =>
   rw [List.getElem?_append_right (by omega),a0,show (k+1)*12+j-12=k*12+j by omega]
   have:=jhd l k j hj;unfold yS at this;rw [this]
   simp
def RdS (w:World)(v:Value)(l:List SesM):Prop:=Rd w v l.length (yS l)
theorem RdS.below (h:RdS w v l)(hb:Below w.heap.size w w'):RdS w' v l:=Rd.below h hb
theorem RdS.slice (h:RdS w v l):∃ a cap,v=.slice a l.length cap/\l.length<=cap/\cap<=9223372036854775807:=by
 obtain ⟨a,cap,h1,h2,h3,_⟩:=h;exact ⟨a,cap,h1,h2,h3⟩
theorem RdS.row (h:RdS w (.slice a n cap) l)(k:Nat)(hk:k<l.length):∃ b off,a=some ⟨b,off,none⟩/\w.rangeAt b (off+k*12) (l[k]).cells.toList:=by
 obtain ⟨a',cap',e,h1,h2,_,h3⟩:=h;injection e with e1 e2 e3
 subst e1;have hl:=zq l;obtain ⟨b,off,rfl,_⟩:=h3 (k*12) (by omega)
 refine ⟨b,off,rfl,fun j v hv=>?_⟩
 have hj:j<12:=(List.getElem?_eq_some_iff.1 hv).1;obtain ⟨b',off',e',h4⟩:=h3 (k*12+j) (by omega)
 injection e' with e';injection e' with e5 e6
 subst e5;subst e6;rw [wC,h4];have h5:=jhd l k j hj;rw [List.getElem?_eq_getElem hk] at h5;rw [List.getD,h5];show some ((l[k].cells.toList[j]?).getD undef)=some v;rw [hv];rfl
theorem RdS.cut (h:RdS w (.slice a l.length cap) l)(k:Nat)(hk:k<=l.length):RdS w (.slice a k cap) (l.take k):=by
 have hc:l.length<=cap:=by obtain ⟨_,_,e,h5,_⟩:=h;injection e with _ _ e3;omega
 have:=Rd.cut (m:=k) h (by omega) (k*12)
 unfold RdS;have e:yS (l.take k)=(yS l).take (k*12):=by
  have h1:yS l=yS (l.take k)++yS (l.drop k):=by rw [<- uf,qU]
  rw [h1,List.take_left' (by rw [zq,qr];omega)]
 rw [e,qr,wD hk];exact this
theorem SesM.oneS (s:SesM):∀ v∈s.cells.toList,v.oneCell'=true:=by
 intro v hv;unfold SesM.cells at hv;simp only [qH,qO,wM] at hv
 rcases hv with rfl | rfl | rfl | rfl | rfl | rfl | rfl | rfl | rfl | rfl | rfl | rfl <;> rfl
theorem SesM.listS (s:SesM):Hid (s.cells=s.cells.toList.toArray):=qe rfl
theorem jnt (w:World)(s:SesM):(w.alloc (.cells #[(0:Int),(0:Int),(0:Int),(0:Int),(0:Int),.string ⟨#[]⟩,.string ⟨#[]⟩,.int .u64 0,(0:Int),(0:Int),(0:Int),(0:Int)] 45)).there w.heap.size 0 s.cells.toList.length:=by
 intro j hj;have hj:j<12:=hj;have hb:=Box.new w #[(0:Int),(0:Int),(0:Int),(0:Int),(0:Int),.string ⟨#[]⟩,.string ⟨#[]⟩,.int .u64 0,(0:Int),(0:Int),(0:Int),(0:Int)] 45;obtain ⟨v,hv⟩:∃ v,(#[(0:Int),(0:Int),(0:Int),(0:Int),(0:Int),.string ⟨#[]⟩,.string ⟨#[]⟩,.int .u64 0,(0:Int),(0:Int),(0:Int),(0:Int)]:Array Value)[j]?=some v:=⟨_,Array.getElem?_eq_getElem (show j<12 from hj)⟩
 rw [qA];exact ⟨by rw [hb.cell _ v hv];rfl,hb.free _⟩
theorem jfz (w:World)(o:Obj)(L:List Value):Below w.heap.size w ((w.alloc o).setCells w.heap.size 0 L):=by
 have h:=Mod.setCells (fun k=>k=w.heap.size) w.heap.size rfl L 0 (w.alloc o)
 exact (ja w o).trans (h.below (ja w o).size (fun _ hi=>qS hi.symm))
theorem uQ {s:SesM}(h:Hid (w'=(w.alloc (.cells #[(0:Int),(0:Int),(0:Int),(0:Int),(0:Int),.string ⟨#[]⟩,.string ⟨#[]⟩,.int .u64 0,(0:Int),(0:Int),(0:Int),(0:Int)] 45)).setCells w.heap.size 0 s.cells.toList)):Box w' w.heap.size s.cells 45/\Below w.heap.size w w':=by
 rw [h.out];have hb:=Box.new w #[(0:Int),(0:Int),(0:Int),(0:Int),(0:Int),.string ⟨#[]⟩,.string ⟨#[]⟩,.int .u64 0,(0:Int),(0:Int),(0:Int),(0:Int)] 45;obtain ⟨cs',h1,h2,h3,_⟩:=Box.setCells s.cells.toList 0 hb (by show 0+12<=12;decide)
 have e1:cs'=s.cells:=by
  apply Array.ext_getElem?
  intro j;by_cases hj:j<12
  .
   have:=h3 j _ (List.getElem?_eq_getElem (show j<s.cells.toList.length from hj))
   rw [qA] at this;rw [this,<- Array.getElem?_toList,List.getElem?_eq_getElem (show j<s.cells.toList.length from hj)]
  . rw [Array.getElem?_eq_none (by rw [h2];show 12<=j;omega),Array.getElem?_eq_none (by show 12<=j;omega)]
 rw [e1] at h1;exact ⟨h1,jfz w _ _⟩
theorem Box.rangeS {s:SesM}(h:Box w b s.cells t):w.rangeAt b 0 s.cells.toList:=fun j v hv=>by rw [qA];exact h.cell j v (by simpa using hv)
def jaJ (k:Int):List (Int × Value)->Option Value
 | []=>none
 | p::l=>if p.1=k then some p.2 else jaJ k l
def IsMap (w:World)(b:Nat)(es:List (Int × Value)):Prop:=∃ (arr:Array MapEntry) (clock:Nat),w.heap[b]?=some (.map arr clock)/\arr.toList.map (fun e=>(e.key,e.val))=es.map (fun p=>(Value.int .i64 p.1,p.2))
theorem IsMap.lt {es:List (Int × Value)}(h:IsMap w b es):b<w.heap.size:=by
 obtain ⟨arr,clock,h1,_⟩:=h
 rcases qX b w.heap.size with h2 | h2
 . exact h2
 . rw [Array.getElem?_eq_none h2] at h1;cases h1
theorem IsMap.new (w:World):IsMap (w.alloc (.map #[] 0)) w.heap.size []:=⟨#[],0,ww w _,rfl⟩
theorem IsMap.mod {es:List (Int × Value)}{F:Nat->Prop}(h:IsMap w b es)(hm:Mod F w w')(hb:¬ F b):IsMap w' b es:=by
 have hl:=h.lt;obtain ⟨arr,clock,h1,h2⟩:=h;exact ⟨arr,clock,by rw [hm.block b hl hb];exact h1,h2⟩
theorem IsMap.below {es:List (Int × Value)}(h:IsMap w b es)(hb:Below w.heap.size w w'):IsMap w' b es:=h.mod (Mod.of_below (F:=fun _=>False) hb) (fun h=>h)
theorem jbY (q:IntKind)(k:Int):∀ (l:List MapEntry) (es:List (Int × Value)) (i:Nat),l.map (fun e=>(e.key,e.val))=es.map (fun p=>(Value.int .i64 p.1,p.2)) ->
  (jaJ k es=none->Instr.findNow (.int q) k l i=some none)/\∀ v,jaJ k es=some v->∃ j,Instr.findNow (.int q) k l i=some (some (j,v))
 | [],[],i,_=>⟨fun _=>rfl,fun v h=>by cases h⟩
 | [],_::_,i,h=>by simp at h
 | _::_,[],i,h=>by simp at h
 | e::l,p::es,i,h=>by
  simp only [wK,List.cons.injEq,Prod.mk.injEq] at h;obtain ⟨⟨h1,h2⟩,h3⟩:=h;have ih:=jbY q k l es (i+1) h3;unfold Instr.findNow jaJ;rw [h1];by_cases hk:p.1=k
  .
   subst hk
   simp [Instr.sameNow,h2]
  .
   have hb:(k==p.1)=false:=by rw [qD];exact fun e=>hk e.symm
   simp only [Instr.sameNow,pB,hb,qh hk];exact ih
theorem uh (hK:P.underlying K=some (.int q))(em:Bool)(k:Int)(w:World):(Instr.checkKey em 10000 K k).run P w=.ok () w:=by
 rw [show (10000:Nat)=9999+1 from rfl,Instr.checkKey]
 simp [run_underlying hK,Result.andThen]
theorem uZ (hK:P.underlying K=some (.int q)){k:Int}{l:List MapEntry}{r:Option (Nat × Value)}(h:Instr.findNow (.int q) k l 0=some r)(w:World):(Instr.findKey K k l).run P w=.ok r w:=by
 simp [Instr.findKey,run_underlying hK,h,Result.andThen]
theorem IsMap.look {es:List (Int × Value)}(h:IsMap w b es)(ht:P.underlying t=some (.map K E))(hK:P.underlying K=some (.int q)){z:Value}(hz:(zeroValue E).run P w=.ok z w)(k:Int) :
  (Instr.lookup t (.map (some b)) k true).run P w=.ok (.tuple #[(jaJ k es).getD z,.bool (jaJ k es).isSome]) w:=by
 obtain ⟨arr,clock,hb,he⟩:=h;obtain ⟨h1,h2⟩:=jbY q k arr.toList es 0 he
 cases hg:jaJ k es with
 | none =>
  have hf:=fun w=>uZ hK (h1 hg) w
  simp [Instr.lookup,run_underlying ht,MapKept.run_getObj_map hb,uh hK,hf,hz,Result.andThen]
 | some v =>
  obtain ⟨j,hj⟩:=h2 v hg;have hf:=fun w=>uZ hK hj w
  simp [Instr.lookup,run_underlying ht,MapKept.run_getObj_map hb,uh hK,hf,Result.andThen]
theorem IsMap.put {es:List (Int × Value)}(h:IsMap w b es)(ht:P.underlying t=some (.map K E))(hK:P.underlying K=some (.int q)){k:Int}(hn:jaJ k es=none)(v:Value) :
  ∃ w',(Instr.mapUpdate t (.map (some b)) k v).run P w=.ok () w'/\IsMap w' b (es ++ [(k,v)])/\Mod (fun i=>i=b) w w':=by
 have hl:=h.lt;obtain ⟨arr,clock,hb,he⟩:=h;have h1:=(jbY q k arr.toList es 0 he).1 hn;have hf:=fun w=>uZ hK h1 w
 refine ⟨{ w with heap:=w.heap.setIfInBounds b (.map (arr.push ⟨.int .i64 k,v,clock⟩) (clock+1)) },?_,⟨arr.push ⟨.int .i64 k,v,clock⟩,clock+1,?_,?_⟩,?_⟩
 . simp [Instr.mapUpdate,run_underlying ht,MapKept.run_getObj_map hb,uh hK,hf,MapKept.run_setObj_map _ hb,Result.andThen]
 .
  show (w.heap.setIfInBounds b _)[b]?=_;rw [Array.getElem?_setIfInBounds_self_of_lt hl]
 . simp [he]
 .
  refine ⟨rfl,rfl,rfl,by show w.heap.size<=(w.heap.setIfInBounds b _).size;rw [Array.size_setIfInBounds];exact qm _,fun i _ hi=>?_⟩
  show (w.heap.setIfInBounds b _)[i]?=_;rw [Array.getElem?_setIfInBounds_ne (fun e=>hi e.symm)]
theorem jaT {o:Oper}{a:Act}{Q:Exit->Act->World->Prop}(hg:o.guard=none)(m x:Operand)(t:TypeId)(a1:o.op=Op.lookup t m x true)(K E:TypeId)(q:IntKind)(ht:P.underlying t=some (.map K E))(hK:P.underlying K=some (.int q))(z:Value)(hz:(zeroValue E).run P w=.ok z w)(b:Nat)(es:List (Int × Value))(hm:a.eval m=.map (some b))(h:IsMap w b es)(k:Int)(hx:a.eval x=.int .i64 k)(v:Value)(ok:Bool)(hv:(jaJ k es).getD z=v)(a2:(jaJ k es).isSome=ok)(hn:wpList P ops Q rest (a.put o.dst (.tuple #[v,.bool ok])) w):wpList P ops Q (o::rest) a w:=by
 refine pX hg fun K' a3=>?_
 have a0:=h.look ht hK hz k;rw [hv,a2] at a0;unfold Oper.wp
 simp [execOp,a1,hm,hx,a0,Result.andThen]
 exact a3 _ _ hn
theorem jbK {o:Oper}{a:Act}{Q:Exit->Act->World->Prop}(hg:o.guard=none)(m x y:Operand)(t:TypeId)(a1:o.op=Op.mapUpdate t m x y)(K E:TypeId)(q:IntKind)(ht:P.underlying t=some (.map K E))(hK:P.underlying K=some (.int q))(b:Nat)(es:List (Int × Value))(hm:a.eval m=.map (some b))(h:IsMap w b es)(k:Int)(hx:a.eval x=.int .i64 k)(hk:jaJ k es=none)(v:Value)(hy:a.eval y=v)(hn:∀ w',IsMap w' b (es ++ [(k,v)])->Mod (fun i=>i=b) w w'->wpList P ops Q rest (a.put o.dst undef) w'):wpList P ops Q (o::rest) a w:=by
 refine pX hg fun K' a2=>?_
 obtain ⟨w',a0,r1,r2⟩:=h.put ht hK hk v;unfold Oper.wp
 simp [execOp,a1,hm,hx,hy,a0,Result.andThen]
 exact a2 _ _ (hn w' r1 r2)
def xr (mk:Nat->Nat->List Value)(k n:Nat):List Value:=(List.range n).flatMap (mk k)
theorem vB (mk:Nat->Nat->List Value)(k n:Nat):xr mk k (n+1)=xr mk k n++mk k n:=by simp [xr,List.range_succ]
theorem xz (mk:Nat->Nat->List Value)(sz:Nat)(h:∀ k i,(mk k i).length=sz)(k n:Nat):(xr mk k n).length=n*sz:=by
 induction n with
 | zero=>simp [xr]
 | succ n ih=>rw [vB,qd,ih,h,Nat.succ_mul]
theorem ja7 (mk:Nat->Nat->List Value)(sz:Nat)(h:∀ k i,(mk k i).length=sz)(k:Nat):∀ (n i j:Nat),i<n->j<sz->(xr mk k n).getD (i*sz+j) undef=(mk k i).getD j undef
 | 0,_,_,hi,_=>by omega
 | n+1,i,j,hi,hj=>by
  have hl:=xz mk sz h k n;rw [vB];by_cases e:i=n
  .
   subst e;rw [List.getD,List.getElem?_append_right (by omega),hl,Nat.add_sub_cancel_left];rfl
  .
   have:=qQ sz (show i+1<=n by omega)
   rw [Nat.succ_mul] at this;rw [List.getD,List.getElem?_append_left (by omega)]
   exact ja7 mk sz h k n i j (by omega) hj
theorem jgK (h:w.ownsRow base e sz v n xs):xs.length=n*sz:=h.1
theorem jkL (h:w.ownsRow base e sz v n xs)(i:Nat)(hi:i<n)(ys:List Value)(hy:ys.length=sz) :
  ∃ g cap,v=.slice (some ⟨g,0,none⟩) n cap/\base<=g/\w.there g (i*sz) sz/\∃ xs',(w.setCells g (i*sz) ys).ownsRow base e sz v n xs'/\xs'.take ((i+1)*sz)=xs.take (i*sz)++ys:=by
 rcases h.2 with ⟨rfl,rfl⟩ | ⟨g,cap,cur,rfl,a1,hg,a2,a3,a4,a0⟩
 . omega
 .
  have hB:Box w g cur e:=hg;have h1:=qQ sz (show i+1<=n by omega)
  have h2:=qQ sz a2;rw [Nat.succ_mul] at h1;obtain ⟨cur',b1,b2,b3,b4⟩:=Box.setCells ys (i*sz) hB (by omega)
  refine ⟨g,cap,rfl,a1,fun j hj=>⟨?_,hB.free _⟩,cur'.toList.take (n*sz),⟨by rw [qr,ph,b2];omega,.inr ⟨g,cap,cur',rfl,a1,b1,a2,a3,by rw [b2];exact a4,rfl⟩⟩,?_⟩
  . rw [hB.cell (i*sz+j) cur[i*sz+j] (by simp [show i*sz+j<cur.size by omega])];rfl
  .
   rw [List.take_take,Nat.succ_mul,show min (i*sz+sz) (n*sz)=i*sz+sz by omega]
   refine List.ext_getElem? fun q=>?_
   rw [List.getElem?_take];by_cases hq:q<i*sz
   . rw [qf (by omega),List.getElem?_append_left (by rw [qr,<- a0,qr,ph];omega),List.getElem?_take,qf hq,<- a0,List.getElem?_take,qf (by omega),Array.getElem?_toList,Array.getElem?_toList,b4 q (.inl hq)]
   .
    have a5:(xs.take (i*sz)).length=i*sz:=by rw [qr,<- a0,qr,ph];omega
    rw [List.getElem?_append_right (by omega),a5]
    by_cases hq2:q<i*sz+sz
    .
     rw [qf hq2,Array.getElem?_toList];have:=b3 (q-i*sz) ys[q-i*sz] (by simp [show q-i*sz<ys.length by omega])
     rw [show i*sz+(q-i*sz)=q by omega] at this
     rw [this];simp [show q-i*sz<ys.length by omega]
    . rw [qh hq2,List.getElem?_eq_none (by omega)]
theorem Twin.appendS {u v':Value}{m:Nat}{ys x:List Value}(h:Twin u v n m)(hr:Rd w u n ys)(hy:ys.length=n*sz)(a1:w.ownsRow base e sz v m xs)(a3:w'.ownsRow base e sz v' (m+1) (xs++x))(hg:w.grownBy w' v.ownBlock)(a4:jiL w w' v v' m)(hu:∀ k,u.ownBlock=some k->k<w.heap.size):Twin u v' n (m+1)/\Rd w' u n ys:=by
 rcases a4 with ⟨b,c,rfl,rfl⟩ | ⟨hn,hb⟩
 .
  rcases h with h | ⟨b',c1,c2,rfl,e2,a5⟩
  . refine ⟨.inl (fun k hk=>by have:=h k hk;simpa [Value.ownBlock] using this),hr.keep (fun k hk hl=>hg.block k hl (fun e=>h k hk e.symm))⟩
  .
   injection e2 with e3 e4 e5
   injection e3 with e3
   injection e3 with e3
   subst e3;refine ⟨.inr ⟨_,c1,c,rfl,rfl,by omega⟩,?_⟩
   obtain ⟨a0,cap0,h0,h1,h2,h3,h4⟩:=hr;injection h0 with g1 g2 g3
   subst g1;subst g3;refine ⟨_,_,rfl,h1,h2,h3,fun j hj=>?_⟩
   obtain ⟨b2,o2,g4,g5⟩:=h4 j hj;injection g4 with g4
   injection g4 with g4 g6
   subst g4;subst g6;refine ⟨_,0,rfl,?_⟩;have hl:xs.length=m*sz:=a1.1;have a2:j<xs.length:=by have:=qQ sz a5;omega
   have q1:=a1.cells (g:=_) rfl j xs[j] (by simp [a2])
   have q2:=a3.cells (g:=_) rfl j xs[j] (by rw [List.getElem?_append_left a2];simp [a2])
   rw [wY] at q1 q2;rw [q2,<- q1,g5]
 . exact ⟨.inl (fun k hk e=>by have:=hu k hk;rw [hn] at e;injection e with e;omega),hr.below hb⟩
structure RowsS where
 N:Nat
 vs:Nat->Value
 ns:Nat->Nat
 B:Nat
 e:TypeId
 sz:Nat
 hsz:0<sz
 mark:Nat->Nat->List Value
 hmk:∀ k i,(mark k i).length=sz
 hmk1:∀ k i,∀ u∈mark k i,u.oneCell'=true
def RowsS.blk (R:RowsS):Nat->Prop:=fun b=>∃ j,j<R.N/\(R.vs j).ownBlock=some b
structure Turn1S (R:RowsS)(lsv:Value)(w0:World)(k i:Nat)(w:World):Prop where
 own:∃ xs:Nat->List Value,(∀ j,j<R.N->w.ownsRow R.B R.e R.sz (R.vs j) (R.ns j) (xs j))/\(∀ j,j<k->j<R.N->xs j=xr R.mark j (R.ns j))/\(k<R.N->(xs k).take (i*R.sz)=xr R.mark k i)
 apart:∀ j j',j<R.N->j'<R.N->j≠j'->Apart (R.vs j) (R.vs j')
 ls:Rd w lsv R.N ((List.range R.N).map R.vs)
 lsa:∀ j,j<R.N->Apart lsv (R.vs j)
 mod:Mod R.blk w0 w
theorem Turn1S.row {R:RowsS}(h:Turn1S R lsv w0 k i w)(hk:k<R.N)(hi:i<R.ns k) :
  ∃ g cap,R.vs k=.slice (some ⟨g,0,none⟩) (R.ns k) cap/\w.there g (i*R.sz) R.sz/\Turn1S R lsv w0 k (i+1) (w.setCells g (i*R.sz) (R.mark k i)):=by
 obtain ⟨⟨xs,h1,h2,h3⟩,h4,h5,h6,h7⟩:=h;obtain ⟨g,cap,e1,hb,hy,xs',hs,hx⟩:=jkL (h1 k hk) i hi (R.mark k i) (R.hmk k i);have hm:Mod (fun b=>b=g) w (w.setCells g (i*R.sz) (R.mark k i)):=Mod.setCells (fun b=>b=g) g rfl _ _ _
 have hl:=jgK (h1 k hk);refine ⟨g,cap,e1,hy,⟨fun j=>if j=k then xs' else xs j,fun j hj=>?_,fun j hj a0=>?_,fun _=>?_⟩,h4,?_,h6,h7.trans (hm.mono (fun _ hi=>by subst hi;exact ⟨k,hk,by rw [e1];rfl⟩))⟩
 .
  dsimp only
  by_cases e:j=k
  . subst e;rw [qf rfl];exact hs
  . rw [qh e];exact yG (h1 j hj) hm (fun b hb e2=>h4 j k hj hk e b hb (by rw [e1,e2];rfl))
 .
  dsimp only
  rw [qh (by omega)];exact h2 j hj a0
 .
  dsimp only
  rw [qf rfl,vB,<- h3 hk];exact hx
 . exact h5.mod hm (fun b hb e2=>h6 k hk b hb (by rw [e1,e2];rfl))
theorem Turn1S.next {R:RowsS}(h:Turn1S R lsv w0 k (R.ns k) w)(hk:k<R.N):Turn1S R lsv w0 (k+1) 0 w:=by
 obtain ⟨⟨xs,h1,h2,h3⟩,h4,h5,h6,h7⟩:=h;refine ⟨⟨xs,h1,fun j hj a0=>?_,fun _=>by simp [xr]⟩,h4,h5,h6,h7⟩
 by_cases e:j=k
 .
  subst e;have:=h3 hk;rw [ql (qS (jgK (h1 j hk)))] at this;exact this
 . exact h2 j (by omega) a0
structure Turn2S (R:RowsS)(lsv:Value)(w0:World)(E:TypeId)(k:Nat)(gsv:Value)(gl:List Value)(g:Value)(i:Nat)(w:World):Prop where
 own:∃ gv:Nat->Value,(∀ j,j<k->j<R.N->w.ownsRow R.B R.e R.sz (gv j) (R.ns j+64) (xr R.mark j (R.ns j+64)))/\(∀ j,k<j->j<R.N->gv j=R.vs j/\w.ownsRow R.B R.e R.sz (gv j) (R.ns j) (xr R.mark j (R.ns j))) /\
  (k<R.N->gv k=g/\w.ownsRow R.B R.e R.sz g (R.ns k+i) (xr R.mark k (R.ns k+i))/\Twin (R.vs k) g (R.ns k) (R.ns k+i))/\(∀ j j',j<R.N->j'<R.N->j≠j'->Apart (gv j) (gv j')/\Apart (R.vs j) (gv j')) /\
  (∀ j,j<R.N->Apart lsv (gv j)/\Apart gsv (gv j))/\gl=(List.range (min k R.N)).map gv
 rd:∀ j,j<R.N->Rd w (R.vs j) (R.ns j) (xr R.mark j (R.ns j))
 lt:∀ j,j<R.N->∀ b,(R.vs j).ownBlock=some b->b<w.heap.size
 ls:Rd w lsv R.N ((List.range R.N).map R.vs)
 lsl:∀ b,lsv.ownBlock=some b->b<w.heap.size
 gs:w.ownsRow R.B E 1 gsv (min k R.N) gl
 gsa:Apart lsv gsv/\∀ j,j<R.N->Apart (R.vs j) gsv
 mod:Mod R.blk w0 w
 le:R.B<=w.heap.size
 new:(k<R.N->∀ b,g.ownBlock=some b->R.blk b\/w0.heap.size<=b)/\∀ b,gsv.ownBlock=some b->w0.heap.size<=b
theorem Turn1S.two {R:RowsS}(h:Turn1S R lsv w0 R.N 0 w)(hl:∀ b,lsv.ownBlock=some b->b<w.heap.size)(hB:R.B<=w.heap.size) :
  Turn2S R lsv w0 E 0 (.slice none 0 0) [] (R.vs 0) 0 w:=by
 obtain ⟨⟨xs,h1,h2,h3⟩,h4,h5,h6,h7⟩:=h;have ho:∀ j,j<R.N->w.ownsRow R.B R.e R.sz (R.vs j) (R.ns j) (xr R.mark j (R.ns j)):=fun j hj=>by
  have:=h1 j hj
  rwa [h2 j hj hj] at this
 refine ⟨⟨R.vs,fun j hj _=>by omega,fun j _ hj=>⟨rfl,ho j hj⟩,fun h0=>⟨rfl,ho 0 h0,?_⟩,fun j j' hj a0 a1=>⟨h4 j j' hj a0 a1,h4 j j' hj a0 a1⟩,fun j hj=>⟨h6 j hj,jcp _⟩,by simp⟩,
  fun j hj=>js (ho j hj),fun j hj b hb=>((ho j hj).lt b hb).2,h5,hl,?_,⟨jfv _,fun j _=>jfv _⟩,h7,hB,fun h0 b hb=>.inl ⟨0,h0,hb⟩,fun b hb=>by simp [Value.ownBlock] at hb⟩
 .
  rcases (ho 0 h0).2 with ⟨e,_⟩ | ⟨g,cap,cur,e,_⟩
  . rw [e];exact .inl (jcp _)
  . rw [e];exact .inr ⟨g,cap,cap,rfl,rfl,by omega⟩
 . rw [Nat.zero_min];exact ws _ _ _ _
theorem Turn2S.below {R:RowsS}(h:Turn2S R lsv w0 E k gsv gl g i w)(hb:Below w.heap.size w w'):Turn2S R lsv w0 E k gsv gl g i w':=by
 obtain ⟨⟨gv,h1,h2,h3,h4,h5,h6⟩,k1,k2,k3,k4,k5,k6,k7,k8,k9⟩:=h;exact ⟨⟨gv,fun j a b=>jq (h1 j a b) hb,fun j a b=>⟨(h2 j a b).1,jq (h2 j a b).2 hb⟩,fun a=>⟨(h3 a).1,jq (h3 a).2.1 hb,(h3 a).2.2⟩,h4,h5,h6⟩,fun j hj=>(k1 j hj).below hb,
  fun j hj b a0=>qu (k2 j hj b a0) hb.size,k3.below hb,fun b a0=>qu (k4 b a0) hb.size,jq k5 hb,k6,k7.then (Mod.of_below (F:=fun _=>False) hb) (fun _ h=>h.elim),qi k8 hb.size,k9⟩
theorem Turn2S.step {R:RowsS}{g':Value}(h:Turn2S R lsv w0 E k gsv gl g i w)(hk:k<R.N)(a0:w'.ownsRow R.B R.e R.sz g' (R.ns k+i+1) (xr R.mark k (R.ns k+i)++R.mark k (R.ns k+i)))(hg:w.grownBy w' g.ownBlock)(hm:xj w g g')(a4:jiL w w' g g' (R.ns k+i)):Turn2S R lsv w0 E k gsv gl g' (i+1) w':=by
 obtain ⟨⟨gv,h1,h2,h3,h4,h5,h6⟩,k1,k2,k3,k4,k5,k6,k7,k8,k9⟩:=h;obtain ⟨e0,ho,ht⟩:=h3 hk;have a2:=fun j (hj:j<R.N) (a5:j≠k)=>(show ∀ b,(gv j).ownBlock=some b->b<w.heap.size from fun b hb=>by
  rcases Nat.lt_or_gt_of_ne a5 with hlt | hlt
  . exact ((h1 j hlt hj).lt b hb).2
  . exact ((h2 j hlt hj).2.lt b hb).2)
 have hT:=ht.appendS (k1 k hk) (xz _ _ R.hmk _ _) ho a0 hg a4 (k2 k hk);rw [<- vB] at a0;refine ⟨⟨fun j=>if j=k then g' else gv j,fun j a b=>?_,fun j a b=>?_,fun a=>⟨qf rfl,a0,hT.1⟩,fun j j' hj a1 a3=>?_,fun j hj=>?_,?_⟩,fun j hj=>?_,fun j hj b hb=>qu (k2 j hj b hb) hg.size,
  k3.keep (fun b hb hl=>hg.block b hl (fun e=>(h5 k hk).1 b hb (by rw [e0];exact e.symm))),fun b hb=>qu (k4 b hb) hg.size,xi k5 hg (by rw [<- e0];exact (h5 k hk).2),k6,
  k7.then (Mod.of_grown hg (F:=fun b=>R.blk b\/w0.heap.size<=b) (fun b hb=>k9.1 hk b hb)) (fun b hb=>hb),qi k8 hg.size,fun _ b hb=>?_,k9.2⟩
 .
  show w'.ownsRow R.B R.e R.sz (if j=k then g' else gv j) _ _
  rw [qh (by omega)];exact xi (h1 j a b) hg (by rw [<- e0];exact (h4 j k b hk (by omega)).1)
 .
  show (if j=k then g' else gv j)=_/\w'.ownsRow R.B R.e R.sz (if j=k then g' else gv j) _ _
  rw [qh (by omega)];exact ⟨(h2 j a b).1,xi (h2 j a b).2 hg (by rw [<- e0];exact (h4 j k b hk (by omega)).1)⟩
 .
  show Apart (if j=k then g' else gv j) (if j'=k then g' else gv j')/\Apart (R.vs j) (if j'=k then g' else gv j')
  by_cases ej:j=k
  .
   subst ej;rw [qf rfl,qh (by omega)]
   have h:=h4 j j' hj a1 a3;refine ⟨?_,h.2⟩;have h':=h.1.symm;rw [e0] at h';exact (h'.moved hm (a2 j' a1 (by omega))).symm
  .
   rw [qh ej];by_cases ej':j'=k
   .
    subst ej';rw [qf rfl];have h:=h4 j j' hj a1 a3;rw [e0] at h;exact ⟨h.1.moved hm (a2 j hj ej),h.2.moved hm (k2 j hj)⟩
   . rw [qh ej'];exact h4 j j' hj a1 a3
 .
  show Apart lsv (if j=k then g' else gv j)/\Apart gsv (if j=k then g' else gv j)
  by_cases ej:j=k
  .
   subst ej;rw [qf rfl];have h:=h5 j hj;rw [e0] at h;exact ⟨h.1.moved hm k4,h.2.moved hm (fun b hb=>(k5.lt b hb).2)⟩
  . rw [qh ej];exact h5 j hj
 .
  rw [h6];refine List.map_congr_left fun j hj=>?_
  simp only [List.mem_range] at hj;rw [qh (by omega)]
 .
  by_cases ej:j=k
  . subst ej;exact hT.2
  . exact (k1 j hj).keep (fun b hb hl=>hg.block b hl (fun e=>(h4 j k hj hk ej).2 b hb (by rw [e0];exact e.symm)))
 .
  rcases hm with e | e
  . rw [e] at hb;exact k9.1 hk b hb
  . rw [e] at hb;injection hb with hb;right;rw [<- hb];exact k7.size
theorem Turn2S.next {R:RowsS}{gsv':Value}(h:Turn2S R lsv w0 E k gsv gl g 64 w)(hk:k<R.N)(a0:w'.ownsRow R.B E 1 gsv' (k+1) (gl ++ [g]))(hg:w.grownBy w' gsv.ownBlock)(hm:xj w gsv gsv'):Turn2S R lsv w0 E (k+1) gsv' (gl ++ [g]) (R.vs (k+1)) 0 w':=by
 obtain ⟨⟨gv,h1,h2,h3,h4,h5,h6⟩,k1,k2,k3,k4,k5,k6,k7,k8,k9⟩:=h;obtain ⟨e0,ho,ht⟩:=h3 hk;have a1:=fun j (hj:j<R.N)=>(show ∀ b,(gv j).ownBlock=some b->b<w.heap.size from fun b hb=>by
  rcases kB j k with hlt | rfl | hlt
  . exact ((h1 j hlt hj).lt b hb).2
  . rw [e0] at hb;exact (ho.lt b hb).2
  . exact ((h2 j hlt hj).2.lt b hb).2)
 refine ⟨⟨gv,fun j a b=>?_,fun j a b=>⟨(h2 j (by omega) b).1,xi (h2 j (by omega) b).2 hg (h5 j b).2.symm⟩,fun a=>⟨(h2 _ (by omega) a).1,?_,?_⟩,h4,fun j hj=>⟨(h5 j hj).1,((h5 j hj).2.symm.moved hm (a1 j hj)).symm⟩,?_⟩,
  fun j hj=>(k1 j hj).keep (fun b hb hl=>hg.block b hl (fun e=>k6.2 j hj b hb e.symm)),fun j hj b hb=>qu (k2 j hj b hb) hg.size,
  k3.keep (fun b hb hl=>hg.block b hl (fun e=>k6.1 b hb e.symm)),fun b hb=>qu (k4 b hb) hg.size,by rw [show min (k+1) R.N=k+1 by omega];exact a0,⟨k6.1.moved hm k4,fun j hj=>(k6.2 j hj).moved hm (k2 j hj)⟩,
  k7.then (Mod.of_grown hg (F:=fun b=>w0.heap.size<=b) (fun b hb=>k9.2 b hb)) (fun b hb=>.inr hb),qi k8 hg.size,fun a b hb=>.inl ⟨k+1,a,hb⟩,fun b hb=>?_⟩
 .
  by_cases ej:j=k
  . subst ej;rw [e0];exact xi ho hg (by rw [<- e0];exact (h5 j b).2.symm)
  . exact xi (h1 j (by omega) b) hg (h5 j b).2.symm
 .
  have h:=h2 (k+1) (by omega) a
  rw [h.1] at h;exact xi h.2 hg (by have:=(h5 (k+1) a).2.symm;rwa [(h2 (k+1) (by omega) a).1] at this)
 .
  have h:=h2 (k+1) (by omega) a
  rw [h.1] at h
  rcases h.2.2 with ⟨e,_⟩ | ⟨g,cap,cur,e,_⟩
  . rw [e];exact .inl (jcp _)
  . rw [e];exact .inr ⟨g,cap,cap,rfl,rfl,by omega⟩
 . rw [h6,show min k R.N=k by omega,show min (k+1) R.N=k+1 by omega,List.range_succ,qM];simp [e0]
 .
  rcases hm with e | e
  . rw [e] at hb;exact k9.2 b hb
  . rw [e] at hb;injection hb with hb;rw [<- hb];exact k7.size
structure Turn3S (R:RowsS)(lsv gsv:Value)(gl:List Value)(w:World):Prop where
 ls:Rd w lsv R.N ((List.range R.N).map R.vs)
 gs:Rd w gsv R.N gl
 len:gl.length=R.N
 rd:∀ j,j<R.N->Rd w (R.vs j) (R.ns j) (xr R.mark j (R.ns j))
 gd:∀ j,j<R.N->Rd w (gl.getD j undef) (R.ns j+64) (xr R.mark j (R.ns j+64))
theorem Turn2S.three {R:RowsS}(h:Turn2S R lsv w0 E R.N gsv gl g i w):Turn3S R lsv gsv gl w:=by
 obtain ⟨⟨gv,h1,h2,h3,h4,h5,h6⟩,k1,k2,k3,k4,k5,k6,k7⟩:=h;rw [Nat.min_self] at h6 k5;refine ⟨k3,js k5,by rw [h6];simp,k1,fun j hj=>?_⟩
 have:gl.getD j undef=gv j:=by rw [h6];simp [List.getD,hj]
 rw [this];exact js (h1 j hj hj)
theorem Turn3S.below {R:RowsS}(h:Turn3S R lsv gsv gl w)(hb:Below w.heap.size w w'):Turn3S R lsv gsv gl w' :=
 ⟨h.ls.below hb,h.gs.below hb,h.len,fun j hj=>(h.rd j hj).below hb,fun j hj=>(h.gd j hj).below hb⟩
end Go.Proofs.YtgcnolapjppbpaaGreatDoor
