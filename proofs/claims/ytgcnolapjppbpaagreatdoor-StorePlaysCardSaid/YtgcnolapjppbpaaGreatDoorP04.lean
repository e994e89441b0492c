/-
  Texts of one proof, one behind the other.
-/
import Derived.Test.YtgcnolapjppbpaaGreatDoorP01
import Derived.Lib.ConvBytes
import Derived.Lib.AppendStr
import Derived.Test.YtgcnolapjppbpaaGreatDoorP00
namespace Go.Proofs.YtgcnolapjppbpaaGreatDoor
open Go.RowKit _root_.Go.Proofs.Tryz
set_option maxRecDepth 100000
set_option maxHeartbeats 25600000
def jg2 (w w':World)(v v':Value)(n:Nat):Prop :=
 (∃ b c,v=.slice (some ⟨b,0,none⟩) n c∧v'=.slice (some ⟨b,0,none⟩) (n+1) c)∨(v'.ownBlock=some w.heap.size∧Below w.heap.size w w')
theorem jci {P:Program}(w:World)(base:Nat)(t ty e:TypeId)(i:TypeInfo)(z:Value)(size bytes:Nat)(ht:P.underlying t=some (.slice e))(hi:P.info? e=some i)(hz:i.zero=some z)(a0:i.size=size)(a5:i.bytes=bytes)(a8:z.cells.size=size)(a9:0<size)(v:Value)(n:Nat)(xs:List Value)(a3:w.ownsRow base e size v n xs)(a:Addr)(c:Nat)(news:List Value)(hl:news.length=size)(a1:∀ j u,news[j]?=some u→w.cell? (a.add j)=some u)(h1:∀ u∈news,u.oneCell'=true)(a7:n+1≤maxLen)(a2:(n+1)*bytes≤140737488355328)(a6:base≤w.heap.size) :
  ∃ v' w',(Builtin.append_ #[t,t] ty #[v,.slice (some a) 1 c]).run P w=.ok v' w'∧w'.ownsRow base e size v' (n+1) (xs++news)∧w.grownBy w' v.ownBlock∧xe w v v'∧jg2 w w' v v' n:=by
 obtain ⟨v',w',hr,h2,h3,h4⟩:=xM (P:=P) w base t ty e i z size bytes ht hi hz a0 a5 a8 a9 v n xs a3 a 1 c news (by omega) a1 h1 a7 a2 a6
 refine ⟨v',w',hr,h2,h3,h4,?_⟩;have b0:n+1≤9223372036854775807:=by simp only [maxLen] at a7;omega
 rcases a3.2 with ⟨rfl,rfl⟩ | ⟨g,cap,cur,rfl,b3,hg,b4,b5,b1,b2⟩
 ·
  subst a0;subst a5;have a4:=run_append_nil (P:=P) w t ty e i z ht hi hz a 1 c news (by omega) a1 (by omega) (by omega) (by have hb:=a2;simp only [Nat.zero_add] at hb;omega)
  rw [a4] at hr;injection hr with e1 e2
  subst e1;subst e2;exact .inr ⟨rfl,(jd w).trans ((Below.refl _ _).alloc (by simp) _)⟩
 ·
  by_cases hroom:n+1≤cap
  ·
   subst a0;have a4:=run_append_room (P:=P) w t ty e i ht hi g n cap cur hg a 1 c news (by omega) a1 h1 hroom (by rw [hl,b1];have:=Nat.mul_le_mul_right i.size hroom;rw [Nat.add_mul] at this;omega)
   rw [a4] at hr;injection hr with e1 e2
   subst e1;exact .inl ⟨g,cap,rfl,rfl⟩
  ·
   subst a0;subst a5;have a4:=run_append_grow (P:=P) w t ty e i z ht hi hz ⟨g,0,none⟩ n cap xs a3.1 (a3.cells (g:=g) rfl) a 1 c news (by omega) a1 (by omega) (by omega) (growslice_fits (by omega) a2)
   rw [a4] at hr;injection hr with e1 e2
   subst e1;subst e2;exact .inr ⟨rfl,(jd w).trans ((Below.refl _ _).alloc (by simp) _)⟩
theorem jao {P:Program}{w:World}{ops:Array Oper}{rest:List Oper}{o:Oper}{a:Act}{Q:Exit→Act→World→Prop}(a5:o.guard=none)(s x:Operand)(t:TypeId)(ho:o.op=.call { callee:=.builtin .append,args:=#[s,x],argTypes:=#[t,t] })(base:Nat)(e:TypeId)(i:TypeInfo)(z:Value)(size bytes:Nat)(ht:P.underlying t=some (.slice e))(hi:P.info? e=some i)(hz:i.zero=some z)(a1:i.size=size)(a6:i.bytes=bytes)(a7:z.cells.size=size)(a8:0<size)(v:Value)(n:Nat)(xs:List Value)(hs:a.eval s=v)(a4:w.ownsRow base e size v n xs)(ad:Addr)(c:Nat)(news:List Value)(hx:a.eval x=.slice (some ad) 1 c)(hl:news.length=size)(a2:∀ j u,news[j]?=some u→w.cell? (ad.add j)=some u)(h1:∀ u∈news,u.oneCell'=true)(a9:n+1≤maxLen)(a0:(n+1)*bytes≤140737488355328)(a3:base≤w.heap.size)(h:∀ v' w',w'.ownsRow base e size v' (n+1) (xs++news)→w.grownBy w' v.ownBlock→xe w v v'→jg2 w w' v v' n→wpList P ops Q rest (a.put o.dst v') w'):wpList P ops Q (o::rest) a w:=by
 refine wpList_plain a5 fun _ hK=>?_
 obtain ⟨v',w',hr,h2,h3,h4,h5⟩:=jci (P:=P) w base t o.type e i z size bytes ht hi hz a1 a6 a7 a8 v n xs a4 ad c news hl a2 h1 a9 a0 a3;unfold Oper.wp execOp;simp only [ho,resolve,invoke,builtin,Sem.run_bind,Sem.run_pure,Result.andThen_ok,List.map_toArray,List.map_cons,List.map_nil,hs,hx,hr];exact hK _ _ (h v' w' h2 h3 h4 h5)
def Twin (u g:Value)(n m:Nat):Prop:=Apart u g∨∃ b c c',u=.slice (some ⟨b,0,none⟩) n c∧g=.slice (some ⟨b,0,none⟩) m c'∧n≤m
theorem jho {w:World}{base:Nat}{e:TypeId}{v:Value}{n:Nat}{xs:List Value}(h:w.ownsRow base e 1 v n xs)(i:Nat)(hi:i<n)(x:Value) :
  ∃ g cap,v=.slice (some ⟨g,0,none⟩) n cap∧base≤g∧(∃ y,w.cell? ⟨g,i,none⟩=some y)∧w.frozen? ⟨g,i,none⟩=false∧(w.setCell ⟨g,i,none⟩ x).ownsRow base e 1 v n (xs.set i x):=by
 rcases h.2 with ⟨rfl,rfl⟩ | ⟨g,cap,cur,rfl,a1,hg,a2,a3,a4,a0⟩
 · omega
 ·
  have hB:Box w g cur e:=hg;have a5:i<cur.size:=by omega
  refine ⟨g,cap,rfl,a1,⟨cur[i],hB.cell i _ (by simp [a5])⟩,hB.free i,?_,.inr ⟨g,cap,cur.setIfInBounds i x,rfl,a1,hB.set i x,a2,a3,by simpa using a4,?_⟩⟩
  · simpa using h.1
  · rw [Array.toList_setIfInBounds,← a0,List.take_set]
theorem jj6 {w:World}{base:Nat}{e:TypeId}{v:Value}{n:Nat}{xs:List Value}(h:w.ownsRow base e 1 v n xs):xs.length=n:=by have:=h.1;omega
theorem jK {w:World}{base:Nat}{e:TypeId}{size:Nat}{v:Value}{n:Nat}{xs:List Value}(h:w.ownsRow base e size v n xs):∃ a c,v=.slice a n c∧n≤9223372036854775807:=by
 rcases h.2 with ⟨rfl,rfl⟩ | ⟨g,cap,cur,rfl,a2,hg,a3,a0,a4,a1⟩
 · exact ⟨_,_,rfl,by omega⟩
 · exact ⟨_,_,rfl,by unfold maxLen at a0;omega⟩
theorem Rd.at {w:World}{v:Value}{n:Nat}{xs:List Value}(h:Rd w v n xs)(i:Nat)(hi:i<xs.length):∃ b off cap,v=.slice (some ⟨b,off,none⟩) n cap∧w.cell? ⟨b,off+i,none⟩=some (xs.getD i undef):=by
 obtain ⟨a,cap,rfl,h1,h2,h3,h4⟩:=h;obtain ⟨b,off,rfl,h5⟩:=h4 i hi;exact ⟨b,off,cap,rfl,h5⟩
def OwnM (w:World)(base:Nat)(e:TypeId)(v:Value)(n:Nat)(xs:List Value):Prop :=
 xs.length=n∧((v=.slice none 0 0∧n=0) ∨
 ∃ g cap cur fz,v=.slice (some ⟨g,0,none⟩) n cap∧base≤g∧w.heap[g]?=some (.cells cur e fz)∧(fz=(0,0)∨cur.size≤fz.1)∧n≤cap∧cap≤maxLen∧cap≤cur.size∧cur.toList.take n=xs)
section
variable {w : World} {base : Nat} {e : TypeId} {v : Value} {n : Nat} {xs : List Value}
theorem OwnM.nil (w:World)(base:Nat)(e:TypeId):OwnM w base e (.slice none 0 0) 0 []:=⟨rfl,.inl ⟨rfl,rfl⟩⟩
theorem OwnM.lt (h:OwnM w base e v n xs):∀ k,v.ownBlock=some k→base≤k∧k<w.heap.size:=by
 intro k hk
 rcases h.2 with ⟨rfl,_⟩ | ⟨g,cap,cur,fz,rfl,hb,hg,_⟩
 · simp [Value.ownBlock] at hk
 ·
  simp [Value.ownBlock] at hk
  subst hk;exact ⟨hb,(Array.getElem?_eq_some_iff.1 hg).1⟩
theorem OwnM.keep {w':World}(h:OwnM w base e v n xs)(hb:∀ k,v.ownBlock=some k→k<w.heap.size→w'.heap[k]?=w.heap[k]?):OwnM w' base e v n xs:=by
 refine ⟨h.1,?_⟩
 rcases h.2 with hn | ⟨g,cap,cur,fz,rfl,a0,hg,rest⟩
 · exact .inl hn
 · exact .inr ⟨g,cap,cur,fz,rfl,a0,by rw [hb g rfl (Array.getElem?_eq_some_iff.1 hg).1];exact hg,rest⟩
theorem OwnM.below {w':World}(h:OwnM w base e v n xs)(hb:Below w.heap.size w w'):OwnM w' base e v n xs:=h.keep (fun k _ hl=>hb.block k hl)
theorem OwnM.lower {base':Nat}(h:OwnM w base e v n xs)(hb:base'≤base):OwnM w base' e v n xs:=by
 refine ⟨h.1,?_⟩
 rcases h.2 with hn | ⟨g,cap,cur,fz,rfl,a0,rest⟩
 · exact .inl hn
 · exact .inr ⟨g,cap,cur,fz,rfl,by omega,rest⟩
theorem OwnM.other {w':World}{u:Value}(h:OwnM w base e v n xs)(hg:w.grownBy w' u.ownBlock)(ha:Apart v u):OwnM w' base e v n xs :=
 h.keep (fun k hk hl=>hg.block k hl (fun e=>ha k hk e.symm))
theorem OwnM.mod {w':World}{F:Nat→Prop}(h:OwnM w base e v n xs)(hm:Mod F w w')(hb:∀ k,v.ownBlock=some k→¬ F k):OwnM w' base e v n xs :=
 h.keep (fun k hk hl=>hm.block k hl (hb k hk))
theorem OwnM.rd (h:OwnM w base e v n xs):Rd w v n xs:=by
 obtain ⟨h0,h⟩:=h
 rcases h with ⟨rfl,rfl⟩ | ⟨g,cap,cur,fz,rfl,hb,hg,hf,hn,hc,hs,ht⟩
 ·
  have:xs = []:=List.eq_nil_of_length_eq_zero h0;subst this;exact Rd.nil w
 ·
  refine ⟨_,cap,rfl,hn,by unfold maxLen at hc;omega,(fun h=>by cases h),fun j hj=>⟨g,0,rfl,?_⟩⟩
  have a0:w.cell? ⟨g,0+j,none⟩=cur[0+j]?:=cell_of_row w g (0+j) cur e fz hg;rw [a0,Nat.zero_add,← ht,List.getD,List.getElem?_take,if_pos (by omega)]
  have:j<cur.size:=by omega
  simp [Array.getElem?_eq_getElem this]
theorem OwnM.slice (h:OwnM w base e v n xs):∃ a c,v=.slice a n c∧n≤9223372036854775807:=by
 rcases h.2 with ⟨rfl,rfl⟩ | ⟨g,cap,cur,fz,rfl,a2,hg,hf,a3,a0,a4,a1⟩
 · exact ⟨_,_,rfl,by omega⟩
 · exact ⟨_,_,rfl,by unfold maxLen at a0;omega⟩
theorem OwnM.cells (h:OwnM w base e v n xs){g:Nat}(hg:v.ownBlock=some g):∀ j u,xs[j]?=some u→w.cell? ((⟨g,0,none⟩:Addr).add j)=some u:=by
 intro j u hu
 rcases h.2 with ⟨rfl,_⟩ | ⟨g',cap,cur,fz,rfl,_,a2,_,_,_,_,a0⟩
 · simp [Value.ownBlock] at hg
 ·
  simp [Value.ownBlock] at hg
  subst hg;have a1:(⟨g',0,none⟩:Addr).add j=⟨g',j,none⟩:=by unfold Addr.add;split <;> simp_all
  rw [a1,cell_of_row w g' j cur e fz a2];rw [← a0,List.getElem?_take] at hu
  split at hu
  · simpa using hu
  · cases hu
theorem jjn {w:World}{g:Nat}{cur:Array Value}{e:TypeId}{fz:Nat × Nat}(hg:w.heap[g]?=some (.cells cur e fz))(hf:fz=(0,0)∨cur.size≤fz.1)(j:Nat)(hj:j<cur.size):w.frozen? ⟨g,j,none⟩=false:=by
 obtain ⟨lo,hi⟩:=fz;simp only [World.frozen?,hg,Bool.and_eq_false_iff,decide_eq_false_iff_not]
 rcases hf with hf | hf
 · simp only [Prod.mk.injEq] at hf;obtain ⟨rfl,rfl⟩:=hf;right;omega
 · left;simp only at hf;omega
theorem jk4 (w:World)(g i:Nat)(cur:Array Value)(e:TypeId)(fz:Nat × Nat)(x:Value)(hg:w.heap[g]?=some (.cells cur e fz)):(w.setCell ⟨g,i,none⟩ x).heap[g]?=some (.cells (cur.setIfInBounds i x) e fz):=by
 simp only [World.setCell,Array.getElem?_modify,if_true,hg];rfl
theorem jer (g:Nat)(e:TypeId)(fz:Nat × Nat):∀ (vs:List Value) (o:Nat) (w:World) (cur:Array Value),w.heap[g]?=some (.cells cur e fz)→o+vs.length≤cur.size →
  ∃ cur',(w.setCells g o vs).heap[g]?=some (.cells cur' e fz)∧cur'.size=cur.size∧(∀ j v,vs[j]?=some v→cur'[o+j]?=some v)∧∀ j,j<o∨o+vs.length≤j→cur'[j]?=cur[j]?
 | [],o,w,cur,h,hl=>⟨cur,h,rfl,fun j v hv=>by simp at hv,fun _ _=>rfl⟩
 | x::r,o,w,cur,h,hl=>by
  simp only [List.length_cons] at hl;obtain ⟨cur',h1,h2,h3,h4⟩:=jer g e fz r (o+1) (w.setCell ⟨g,o,none⟩ x) (cur.setIfInBounds o x) (jk4 w g o cur e fz x h) (by simp;omega)
  rw [World.setCells];refine ⟨cur',h1,by simpa using h2,fun j v hv=>?_,fun j hj=>?_⟩
  ·
   cases j with
   | zero =>
    rw [Nat.add_zero,h4 o (by omega)]
    simp at hv
    subst hv
    simp [show o<cur.size by omega]
   | succ j =>
    have:=h3 j v (by simpa using hv)
    rw [show o+(j+1)=o+1+j by omega];exact this
  ·
   simp only [List.length_cons] at hj;rw [h4 j (by omega)]
   simp [show o≠j by omega]
theorem jgA (F:Nat→Prop)(b:Nat)(hb:F b):∀ (vs:List Value) (o:Nat) (w:World),Mod F w (w.setCells b o vs)
 | [],_,_=>Mod.refl _ _
 | v::r,o,w=>(Mod.set F w ⟨b,o,none⟩ v hb).trans (jgA F b hb r (o+1) _)
end
def jkW (w w':World)(v v':Value)(n m:Nat):Prop :=
 (∃ b c,v=.slice (some ⟨b,0,none⟩) n c∧v'=.slice (some ⟨b,0,none⟩) (n+m) c)∨(v'.ownBlock=some w.heap.size∧Below w.heap.size w w')∨(v'=v∧w'=w)
theorem vz {P:Program}(w:World)(base:Nat)(t t2 ty e:TypeId)(d:TypeDesc)(i:TypeInfo)(z:Value)(bytes:Nat)(ht:P.underlying t=some (.slice e))(a8:P.underlying t2=some d)(hd:(∃ e2,d=.slice e2)∨d=.string)(hi:P.info? e=some i)(hz:i.zero=some z)(a1:i.size=1)(b3:i.bytes=bytes)(b4:z.cells.size=1)(v:Value)(n:Nat)(xs:List Value)(a0:OwnM w base e v n xs)(x:Value)(m:Nat)(news:List Value)(hl:news.length=m)(a3:∀ w:World,(Builtin.lenOf x).run P w=.ok m w)(b5:∀ wd:World,(∀ a,wd.cell? a=w.cell? a)→(Builtin.firstCells 1 m x).run P wd=.ok news.toArray wd)(h1:∀ u∈news,u.oneCell'=true)(b0:n+m≤maxLen)(a5:(n+m)*bytes≤140737488355328)(a9:base≤w.heap.size) :
  ∃ v' w',(Builtin.append_ #[t,t2] ty #[v,x]).run P w=.ok v' w'∧OwnM w' base e v' (n+m) (xs++news)∧w.grownBy w' v.ownBlock∧xe w v v'∧jkW w w' v v' n m:=by
 rcases hd with ⟨e2,rfl⟩ | rfl
 all_goals
  have c1:n+m≤9223372036854775807:=by simp only [maxLen] at b0;omega
  have b6:=b5 w (fun _=>rfl)
  have b7:=b5 w.drew (fun _=>rfl)
  have c9:=grownCap_ge w (n+m)
  rcases a0.2 with ⟨rfl,rfl⟩ | ⟨g,cap,cur,fz,rfl,c2,hg,hf,d0,c3,d1,b1⟩
  ·
   have c4:xs = []:=List.eq_nil_of_length_eq_zero a0.1;subst c4;by_cases hm:m=0
   ·
    subst hm;have c5:news = []:=List.eq_nil_of_length_eq_zero hl;subst c5;refine ⟨.slice none 0 0,w,?_,OwnM.nil _ _ _,jg6 _ _,.inl rfl,.inr (.inr ⟨rfl,rfl⟩)⟩
    simp [Builtin.append_,run_underlying ht,run_underlying a8,sizeOf,typeInfo,hi,a1,a3,b6]
   ·
    have hn:¬ (m=0):=hm;have a6:¬ (9223372036854775807<(m:Int)):=by omega
    have a7:¬ (281474976710656<Builtin.nextslicecap m 0*bytes):=by rw [nextslicecap_zero (by omega)];simp only [Nat.zero_add] at a5;omega
    have hr:(Builtin.append_ #[t,t2] ty #[.slice none 0 0,x]).run P w=.ok (.slice (some ⟨w.heap.size,0,none⟩) m (grownCap w m 0 e)) (w.drew.alloc (.cells (news.toArray++Builtin.zeroCells z.cells (grownCap w m 0 e-m)) e)):=by
     simp [Builtin.append_,run_underlying ht,run_underlying a8,sizeOf,typeInfo,zeroValue,hi,hz,a1,b3,a3,hn,a6,a7,Question.forced,run_firstCells_none,b7,newRow,grownCap]
    have hc:=grownCap_le_maxLen w m 0 e (by simpa using b0)
    have b8:=grownCap_ge w m 0 e;refine ⟨_,_,hr,⟨by simpa using hl,.inr ⟨w.heap.size,_,_,(0,0),by rw [Nat.zero_add],a9,heap_alloc_new w.drew _,.inl rfl,by omega,hc,?_,?_⟩⟩,⟨rfl,rfl,rfl,by simp,fun k hk _=>Below.heap_alloc w.drew _ k hk⟩,.inr rfl,.inr (.inl ⟨rfl,(jd w).trans ((Below.refl _ _).alloc (by simp) _)⟩)⟩
    · simp only [Array.size_append,List.size_toArray,size_zeroCells,b4,hl];omega
    · rw [Array.toList_append,Nat.zero_add,List.nil_append,← hl];exact List.take_left
  ·
   by_cases a4:n+m≤cap
   ·
    have b9:=run_storeCells_cells (P:=P) g n news 0 w (fun j hj=>by rw [Nat.add_zero,cell_of_row w g (n+j) cur e fz hg];simp;omega) (fun j hj=>by rw [Nat.add_zero];exact jjn hg hf (n+j) (by omega)) h1
    simp only [Nat.add_zero] at b9;have hr:(Builtin.append_ #[t,t2] ty #[.slice (some ⟨g,0,none⟩) n cap,x]).run P w=.ok (.slice (some ⟨g,0,none⟩) (n+m) cap) (w.setCells g n news):=by
     simp [Builtin.append_,run_underlying ht,run_underlying a8,sizeOf,typeInfo,hi,a1,a3,a4,b6,Addr.add_lit,b9]
    obtain ⟨cur',k1,k2,k3,k4⟩:=jer g e fz news n w cur hg (by omega)
    have a2:=jgA (fun q=>q=g) g rfl news n w
    refine ⟨_,_,hr,⟨by rw [List.length_append,a0.1,hl],.inr ⟨g,cap,cur',fz,rfl,c2,k1,by rw [k2];exact hf,a4,c3,by omega,?_⟩⟩,⟨a2.os,a2.tape,a2.output,a2.size,fun k hk c6=>a2.block k hk (fun e=>c6 (by rw [e];rfl))⟩,.inl rfl,.inl ⟨g,cap,rfl,rfl⟩⟩
    apply List.ext_getElem?
    intro j;rw [List.getElem?_take];by_cases hj:j<n+m
    ·
     rw [if_pos hj,Array.getElem?_toList];by_cases hjn:j<n
     · rw [k4 j (.inl hjn),List.getElem?_append_left (by rw [a0.1];exact hjn),← b1,List.getElem?_take,if_pos hjn,Array.getElem?_toList]
     ·
      have c0:j-n<news.length:=by omega
      have:=k3 (j-n) news[j-n] (by simp [c0])
      rw [show n+(j-n)=j by omega] at this
      rw [this,List.getElem?_append_right (by rw [a0.1];omega),a0.1];simp [c0]
    · rw [if_neg hj,List.getElem?_eq_none (by rw [List.length_append,a0.1];omega)]
   ·
    have b2:∀ j u,xs[j]?=some u→w.cell? ((⟨g,0,none⟩:Addr).add j)=some u:=a0.cells (g:=g) rfl;have c7:=run_firstCells_some (P:=P) w.drew 1 n ⟨g,0,none⟩ n cap xs (by rw [a0.1];omega) (by simpa using b2)
    have a6:¬ (9223372036854775807<((n:Int)+(m:Int))):=by omega
    have a7:¬ (281474976710656<Builtin.nextslicecap (n+m) cap*bytes):=by have:=growslice_fits (need:=n+m) (old:=cap) (bytes:=bytes) (by omega) a5;omega
    have hr:(Builtin.append_ #[t,t2] ty #[.slice (some ⟨g,0,none⟩) n cap,x]).run P w=.ok (.slice (some ⟨w.heap.size,0,none⟩) (n+m) (grownCap w (n+m) cap e)) (w.drew.alloc (.cells (xs.toArray++news.toArray++Builtin.zeroCells z.cells (grownCap w (n+m) cap e-(n+m))) e)):=by
     simp [Builtin.append_,run_underlying ht,run_underlying a8,sizeOf,typeInfo,zeroValue,hi,hz,a1,b3,a3,a4,a6,a7,Question.forced,b7,c7,newRow,grownCap]
     congr 2
     apply Array.ext'
     simp [List.append_assoc]
    have hc:=grownCap_le_maxLen w (n+m) cap e b0;have b8:=grownCap_ge w (n+m) cap e;refine ⟨_,_,hr,⟨by rw [List.length_append,a0.1,hl],.inr ⟨w.heap.size,_,_,(0,0),rfl,a9,heap_alloc_new w.drew _,.inl rfl,b8,hc,?_,?_⟩⟩,⟨rfl,rfl,rfl,by simp,fun k hk _=>Below.heap_alloc w.drew _ k hk⟩,.inr rfl,.inr (.inl ⟨rfl,(jd w).trans ((Below.refl _ _).alloc (by simp) _)⟩)⟩
    · simp only [Array.size_append,List.size_toArray,size_zeroCells,b4,hl,a0.1];omega
    ·
     have c8:(xs++news).length=n+m:=by rw [List.length_append,a0.1,hl]
     rw [Array.toList_append,Array.toList_append,← c8];exact List.take_left
end Go.Proofs.YtgcnolapjppbpaaGreatDoor
