/-
  Texts of one proof, one behind the other.
-/
import Derived.Test.YtgcnolapjppbpaaGreatDoorP12
import Derived.Test.YtgcnolapjppbpaaGreatDoorP15
import Derived.Test.YtgcnolapjppbpaaGreatDoorP14
import Derived.Test.YtgcnolapjppbpaaGreatDoorP13
import Derived.Test.YtgcnolapjppbpaaGreatDoorP05
import Derived.Test.YtgcnolapjppbpaaGreatDoorP00
namespace Go.Proofs.YtgcnolapjppbpaaGreatDoor
open Go.RowKit _root_.Go.Proofs.Tryz
set_option maxRecDepth 100000
set_option maxHeartbeats 25600000
def jg:EvtM:=⟨0,ju,0,0⟩
def yg (s:TkM):SesM × TkM :=
 let a:=s.int
 let b:=a.2.int
 let c:=b.2.int
 let d:=c.2.int
 let f:=d.2.int
 let u:=f.2.txt
 let l:=u.2.txt
 let sc:=l.2.num
 let g:=sc.2.int
 let h:=g.2.int
 let i:=h.2.int
 let j:=i.2.int
 (⟨a.1,b.1,c.1,d.1,f.1,u.1,l.1,sc.1,g.1,h.1,i.1,j.1⟩,j.2)
def zI (s:TkM)(e:EvtM):Int × EvtM:=if s.er=0 then (if s.k<s.l.length then (3,jg) else if s.big=true then (1,jg) else if yb e=true then (0,e) else (1,jg)) else (s.er,jg)
def ud (l:List UInt8):Int × EvtM :=
 let p:=(⟨l,0,0,false⟩:TkM).num
 if p.2.er=0 then (if 2<p.1 then (1,jg) else if p.1=0 then zI (yg p.2).2 ⟨0,(yg p.2).1,0,0⟩
  else if p.1=1 then zI p.2.int.2 ⟨1,ju,p.2.int.1,0⟩ else zI p.2.int.2 ⟨2,ju,0,p.2.int.1⟩) else (p.2.er,jg)
structure DecSt (w0 w:World)(t r b2:Nat)(v:Value)(s:TkM):Prop where
 it:IsT w t r v s
 bz:Box w b2 jg.cells 47
 bel:Below w0.heap.size w0 w
 n1:b2≠t
 n2:b2≠r
 nv:v.ownBlock≠some b2
 g1:w0.heap.size≤t
 g2:w0.heap.size≤r
 g3:w0.heap.size≤b2
theorem DecSt.below {w0 w w':World}{t r b2:Nat}{v:Value}{s:TkM}(h:DecSt w0 w t r b2 v s)(hb:Below w.heap.size w w'):DecSt w0 w' t r b2 v s :=
 ⟨h.it.below hb,h.bz.below hb,h.bel.trans (hb.mono h.bel.size),h.n1,h.n2,h.nv,h.g1,h.g2,h.g3⟩
theorem DecSt.step {w0 w w':World}{t r b2:Nat}{v:Value}{s s':TkM}(h:DecSt w0 w t r b2 v s)(hi:IsT w' t r v s')(hm:Mod (fun i=>i=r∨i=t) w w'):DecSt w0 w' t r b2 v s' :=
 ⟨hi,h.bz.mod hm (fun e=>e.elim h.n2 h.n1),h.bel.trans (hm.below h.bel.size (fun _ hi=>hi.elim (fun e=>e ▸ h.g2) (fun e=>e ▸ h.g1))),h.n1,h.n2,h.nv,h.g1,h.g2,h.g3⟩
theorem DecSt.mod {w0 w w':World}{t r b2 eb:Nat}{v:Value}{s:TkM}(h:DecSt w0 w t r b2 v s)(hm:Mod (fun i=>i=eb) w w')(h1:eb≠t)(h2:eb≠r)(h3:eb≠b2)(h4:v.ownBlock≠some eb)(h5:w0.heap.size≤eb):DecSt w0 w' t r b2 v s :=
 ⟨h.it.mod hm (fun e=>h1 e.symm) (fun e=>h2 e.symm) (fun b hb e=>h4 (by rw [hb,e])),h.bz.mod hm (fun e=>h3 e.symm),h.bel.trans (hm.below h.bel.size (fun i hi=>by rw [hi];exact h5)),h.n1,h.n2,h.nv,h.g1,h.g2,h.g3⟩
theorem DecSt.ints {w0 w w':World}{t r b2 eb:Nat}{v:Value}{s s':TkM}(h:DecSt w0 w t r b2 v s)(hi:IsT w' t r v s')(hm:Mod (fun i=>i=r∨i=t∨i=eb) w w')(h3:eb≠b2)(h5:w0.heap.size≤eb):DecSt w0 w' t r b2 v s' :=
 ⟨hi,h.bz.mod hm (fun e=>e.elim h.n2 (fun e=>e.elim h.n1 (fun e=>h3 e.symm))),h.bel.trans (hm.below h.bel.size (fun _ hi=>hi.elim (fun e=>e ▸ h.g2) (fun e=>e.elim (fun e=>e ▸ h.g1) (fun e=>e ▸ h5)))),h.n1,h.n2,h.nv,h.g1,h.g2,h.g3⟩
theorem EvtM.one (e:EvtM):∀ v∈e.cells.toList,v.oneCell'=true:=by
 intro v hv;unfold EvtM.cells at hv;simp only [List.mem_cons,List.not_mem_nil,or_false] at hv
 rcases hv with rfl | rfl | rfl | rfl | rfl | rfl | rfl | rfl | rfl | rfl | rfl | rfl | rfl | rfl | rfl <;> rfl
theorem Box.thereE {w:World}{b:Nat}{e:EvtM}{t:TypeId}(h:Box w b e.cells t):w.there b 0 e.cells.toList.length:=h.there 0 15 (by show 0+15≤15;decide)
theorem Box.thereF {w:World}{b:Nat}{e:EvtM}{t:TypeId}(h:Box w b e.cells t)(f:EvtM):w.there b 0 f.cells.toList.length:=h.there 0 15 (by show 0+15≤15;decide)
theorem Box.rangeE {w:World}{b:Nat}{e:EvtM}{t:TypeId}(h:Box w b e.cells t):w.rangeAt b 0 e.cells.toList:=h.range 0 _ (fun j v hv=>by rw [Nat.zero_add];simpa using hv)
theorem Box.setAll {w:World}{b:Nat}{cs:Array Value}{t:TypeId}(h:Box w b cs t)(vs:List Value)(hs:vs.length=cs.size):Box (w.setCells b 0 vs) b vs.toArray t:=by
 obtain ⟨cs',h1,h2,h3,_⟩:=Box.setCells vs 0 h (by omega)
 have e1:cs'=vs.toArray:=by
  apply Array.ext_getElem?
  intro j;by_cases hj:j<vs.length
  ·
   have:=h3 j _ (List.getElem?_eq_getElem hj);rw [Nat.zero_add] at this;rw [this,List.getElem?_toArray,List.getElem?_eq_getElem hj]
  · rw [Array.getElem?_eq_none (by omega),Array.getElem?_eq_none (by simp;omega)]
 rw [← e1];exact h1
theorem Box.setE {w:World}{b:Nat}{e:EvtM}{t:TypeId}(h:Box w b e.cells t)(f:EvtM):Box (w.setCells b 0 f.cells.toList) b f.cells t:=by
 have:=h.setAll f.cells.toList rfl
 rwa [Array.toArray_toList] at this
theorem yK {P:Program}{op:Oper}{a:Act}{w:World}{K:Act→World→Prop}{Q:Exit→Act→World→Prop}(ty:TypeId)(x y:Operand)(ho:op.op=.store ty x y)(b o:Nat)(cs:List Value)(hx:a.eval x=.pointer (some ⟨b,o,none⟩))(hy:a.eval y=.agg cs.toArray)(ht:w.there b o cs.length)(hi:(P.info? ty).map (·.size)=some cs.length)(h1:∀ v∈cs,v.oneCell'=true)(h:K (a.put op.dst undef) (w.setCells b o cs)):op.wp P a w K Q:=by
 refine wp_store_mid ty x y ho b o cs.toArray hx hy ?_ ?_ (all_oneCell_toArray h1) ?_
 · rw [List.size_toArray];exact ht
 · rw [List.size_toArray];exact hi
 · exact h
theorem DecSt.out {w0 w:World}{t r b2:Nat}{v:Value}{s:TkM}(h:DecSt w0 w t r b2 v s)(f:EvtM):Box (w.setCells b2 0 f.cells.toList) b2 f.cells 47∧Below w0.heap.size w0 (w.setCells b2 0 f.cells.toList):=by
 have hb:=h.bz.setE f;have hg:=h.g3;generalize f.cells.toList=L at hb ⊢;have hm:=Mod.setCells (fun k=>k=b2) b2 rfl L 0 w
 exact ⟨hb,h.bel.trans (hm.below h.bel.size (fun _ hi=>hi ▸ hg))⟩
theorem jbf {e:EvtM}(h:yb e=true):∃ t u,ofV e=.iface t u:=by
 unfold ofV;rw [if_pos h]
 split
 · exact ⟨_,_,rfl⟩
 split
 · exact ⟨_,_,rfl⟩
 · exact ⟨_,_,rfl⟩
theorem jim (l:List UInt8):(jN l).2.1.length≤32:=by
 unfold jN
 split
 ·
  split
  · simp
  ·
   split
   · simp
   · rw [List.length_take];omega
 · simp
theorem TkM.txt_len (s:TkM):s.txt.1.length≤32:=by
 unfold TkM.txt
 split
 ·
  split
  · exact jim _
  · simp
 · simp
theorem jT:Hid (jg.cells=jg.cells.toList.toArray):=Lib.hid rfl
structure ExS (w0:World)(t b2:Nat)(er:Value)(w':World):Prop where
 ce:w'.cell? ⟨t,1,none⟩=some er
 bz:Box w' b2 jg.cells 47
 bel:Below w0.heap.size w0 w'
 ne:b2≠t
 ge:w0.heap.size≤b2
theorem ExS.drew {w0:World}{t b2:Nat}{er:Value}{w:World}(h:ExS w0 t b2 er w):ExS w0 t b2 er w.drew:=⟨h.ce,h.bz,h.bel.drew,h.ne,h.ge⟩
theorem ExS.store {w0:World}{t b2:Nat}{er:Value}{w:World}(h:ExS w0 t b2 er w):ExS w0 t b2 er (w.setCells b2 0 jg.cells.toList):=by
 have hb:=h.bz.setE jg;generalize jg.cells.toList=L at hb ⊢;have hm:=Mod.setCells (fun k=>k=b2) b2 rfl L 0 w
 have a0:t<w.heap.size:=World.block_lt_of_cell? w _ h.ce;exact ⟨by rw [World.cell?_of_block (w:=w) (hm.block t a0 (fun e=>h.ne e.symm))];exact h.ce,hb,h.bel.trans (hm.below h.bel.size (fun _ hi=>hi ▸ h.ge)),h.ne,h.ge⟩
structure StM where
 clock:Int
 births:Int
 l:List SesM
def yh:StM:=⟨0,0,[]⟩
def zT (a b:Nat):Bool:=bits .andNot .u64 (a:Int) (b:Int)==0
def yG (s p:SesM):Bool:=(s.depth==p.depth+1)&&((s.user==p.user)&&(decide (s.deadline≤p.deadline)&&(zT s.scopes p.scopes&&(decide (p.level<s.level)==(s.kind==2)))))
def za (s:SesM):List SesM→Bool→Option Bool
 | [],h=>some h
 | p::ps,h=>if p.slot=s.slot then none else za s ps (if s.upS=p.slot∧s.upB=p.birth then yG s p else h)
def jbF:List SesM→Int
 | []=>0
 | [p]=>p.birth
 | _::p::ps=>jbF (p::ps)
def jce (s:SesM):Bool:=(s.upS==0)&&(s.upB==0)
def zw (c b:Int)(s:SesM)(a:List SesM):Bool:=jR s&&(!(!a.isEmpty&&decide (s.birth≤jbF a))&&(decide (s.birth≤b)&&(decide (s.born≤c)&&(decide (c<s.deadline)&&(za s a (jce s)==some true)))))
def xy (c b:Int)(a:List SesM)(k:Int):List SesM→Option Int
 | []=>none
 | s::r=>if zw c b s a=true then xy c b (a ++ [s]) (k+1) r else some k
def zC (st:StM):Bool:=jV st.clock 0 1099511627776&&(jV st.births 0 1048576&&decide (st.l.length≤32))
def yu (st:StM):Option Int:=if zC st=true then xy st.clock st.births [] 0 st.l else some (-1)
theorem jat (a:List SesM)(s:SesM):jbF (a ++ [s])=s.birth:=by
 induction a with
 | nil=>rfl
 | cons p a ih =>
  cases a with
  | nil=>rfl
  | cons q a=>exact ih
theorem ja1 {c b:Int}:∀ {r a:List SesM} {k:Int},xy c b a k r=none↔∀ i (h:i<r.length),zw c b r[i] (a++r.take i)=true
 | [],a,k=>by simp [xy]
 | s::r,a,k=>by
  unfold xy;by_cases h:zw c b s a=true
  ·
   rw [if_pos h,ja1]
   constructor
   ·
    intro g i hi
    cases i with
    | zero=>simpa using h
    | succ i =>
     have:=g i (by simpa using hi)
     simpa using this
   ·
    intro g i hi;have:=g (i+1) (by simpa using hi)
    simpa using this
  ·
   rw [if_neg h]
   constructor
   · intro g;cases g
   ·
    intro g;exact absurd (by have:=g 0 (by simp);rw [List.take_zero,List.append_nil] at this;exact this) h
theorem jbH {st:StM}:yu st=none↔zC st=true∧∀ i (h:i<st.l.length),zw st.clock st.births st.l[i] (st.l.take i)=true:=by
 unfold yu;by_cases h:zC st=true
 · rw [if_pos h,ja1];simp [h]
 · rw [if_neg h];simp [h]
structure MayI (c b:Int)(s:SesM)(a:List SesM):Prop where
 may:jR s=true
 asc:a ≠ []→jbF a<s.birth
 births:s.birth≤b
 born:s.born≤c
 dead:c<s.deadline
 hang:za s a (jce s)=some true
theorem jcy {c b:Int}{s:SesM}{a:List SesM}:zw c b s a=true↔MayI c b s a:=by
 unfold zw;simp only [Bool.and_eq_true,decide_eq_true_eq,beq_iff_eq,Bool.not_eq_true',Bool.and_eq_false_iff,Bool.not_eq_false',decide_eq_false_iff_not,Int.not_le]
 constructor
 ·
  rintro ⟨h1,h2,h3,h4,h5,h6⟩;exact ⟨h1,fun h=>h2.elim (fun g=>absurd (List.isEmpty_iff.1 g) h) id,h3,h4,h5,h6⟩
 ·
  rintro ⟨h1,h2,h3,h4,h5,h6⟩;refine ⟨h1,?_,h3,h4,h5,h6⟩
  cases a with
  | nil=>exact .inl rfl
  | cons p a=>exact .inr (h2 (by simp))
theorem jku {c b:Int}{l:List SesM}(h:∀ i (h:i<l.length),MayI c b l[i] (l.take i)):∀ j (hj:j<l.length) i (hi:i<j),(l[i]'(by omega)).birth<l[j].birth:=by
 intro j
 induction j with
 | zero=>intro _ i hi;omega
 | succ j ih =>
  intro hj i hi;have h1:=(h (j+1) hj).asc (by simp;intro hh;rw [hh] at hj;simp at hj)
  rw [List.take_succ_eq_append_getElem (by omega),jat] at h1
  rcases Nat.lt_or_ge i j with h2 | h2
  · have:=ih (by omega) i h2;omega
  ·
   obtain rfl:i=j:=by omega
   exact h1
def sesTs:Nat→TkM→List SesM × TkM
 | 0,s=>([],s)
 | n+1,s=>((yg s).1::(sesTs n (yg s).2).1,(sesTs n (yg s).2).2)
def jfb (s:TkM)(st:StM):Int × StM:=if s.er=0 then (if s.k<s.l.length then (3,yh) else if s.big=true then (24,yh) else if yu st=none then (0,st) else (24,yh)) else (s.er,yh)
def vk (l:List UInt8):Int × StM :=
 let c:=(⟨l,0,0,false⟩:TkM).int
 let b:=c.2.int
 let p:=b.2.num
 if p.2.er=0∧32<p.1 then (24,yh) else jfb (sesTs p.1 p.2).2 ⟨c.1,b.1,(sesTs p.1 p.2).1⟩
theorem jdm:∀ (n:Nat) (s:TkM),sesTs (n+1) s=((sesTs n s).1 ++ [(yg (sesTs n s).2).1],(yg (sesTs n s).2).2)
 | 0,s=>rfl
 | n+1,s=>by
  have ih:=jdm n (yg s).2;show ((yg s).1::(sesTs (n+1) (yg s).2).1,(sesTs (n+1) (yg s).2).2)=_;rw [ih]
  rfl
theorem jbg:∀ (n:Nat) (s:TkM),(sesTs n s).1.length=n
 | 0,_=>rfl
 | n+1,s=>by show ((sesTs n (yg s).2).1).length+1=n+1;rw [jbg n]
theorem jhh {s:TkM}(h:s.er≠0):s.num=(0,s):=by unfold TkM.num;rw [if_neg h]
def yd (b:Int):List SesM→Option SesM
 | []=>none
 | s::l=>if s.birth=b then some s else yd b l
def vf (s p:SesM):Bool:=(s.depth==IntKind.i64.wrap (p.depth+1))&&((s.user==p.user)&&(zT s.scopes p.scopes&&(decide (s.deadline≤p.deadline)&&(if s.kind=2 then decide (p.level<s.level) else s.level==p.level))))
def upM (s:SesM)(l:List SesM):Int :=
 if s.upB=0 then 0 else match yd s.upB l with
  | none=>16
  | some p=>if p.slot=s.upS then (if vf s p=true then 0 else 24) else 16
def jaJ (st:StM)(s:SesM):Int :=
 if s.birth=IntKind.i64.wrap (st.births+1) then (if s.born=st.clock then (if 32≤st.l.length then 19 else if st.l.any (fun x=>x.slot==s.slot)=true then 9 else upM s st.l) else 12) else 18
def xx (G:List Int)(s:SesM):Bool:=G.contains s.upB&&s.upB != 0
def xF (goes:SesM→Bool)(G:List Int)(s:SesM):List Int:=if (!G.contains s.birth&&(goes s || xx G s))=true then G ++ [s.birth] else G
def yw (goes:SesM→Bool)(G:List Int)(l:List SesM):List Int:=l.foldl (xF goes) G
def xo (goes:SesM→Bool)(l:List SesM):Nat→List Int
 | 0 => []
 | n+1=>yw goes (xo goes l n) l
def zh (goes:SesM→Bool)(l:List SesM):List Int:=xo goes l l.length
def jx (goes:SesM→Bool)(l:List SesM):List SesM:=l.filter (fun s => !goes s && !xx (zh goes l) s)
def jH (st:StM)(e:EvtM):Int × StM :=
 if yb e=true then
  (if e.kind=0 then (if jaJ st e.s=0 then (0,⟨st.clock,IntKind.i64.wrap (st.births+1),st.l ++ [e.s]⟩) else (jaJ st e.s,yh))
  else if e.kind=1 then (if st.l.any (fun s=>s.birth==e.birth)=true then (0,⟨st.clock,st.births,jx (fun s=>s.birth==e.birth) st.l⟩) else (16,yh))
  else if st.clock<0∨1099511627776-e.ticks<st.clock then (12,yh) else (0,⟨st.clock+e.ticks,st.births,jx (fun s=>decide (s.deadline≤st.clock+e.ticks)) st.l⟩))
 else (1,yh)
def yE:StM→List EvtM→StM × Nat
 | st,[]=>(st,0)
 | st,e::l=>if (jH st e).1=0 then ((yE (jH st e).2 l).1,(yE (jH st e).2 l).2+1) else (st,0)
theorem jgS (goes:SesM→Bool)(G:List Int)(l:List SesM)(s:SesM):yw goes G (l ++ [s])=xF goes (yw goes G l) s:=by simp [yw]
theorem jeo (goes:SesM→Bool)(G:List Int)(s:SesM):xF goes G s=G∨xF goes G s=G ++ [s.birth]:=by
 unfold xF;split <;> simp
structure GoodG (l:List SesM)(G:List Int):Prop where
 nd:G.Nodup
 sub:∀ b∈G,∃ s∈l,s.birth=b
theorem GoodG.nil (l:List SesM):GoodG l []:=⟨List.nodup_nil,fun _ h=>by cases h⟩
theorem GoodG.step {goes:SesM→Bool}{l:List SesM}{G:List Int}(h:GoodG l G){s:SesM}(hs:s∈l):GoodG l (xF goes G s):=by
 unfold xF
 split
 ·
  rename_i hc
  rw [Bool.and_eq_true,Bool.not_eq_true'] at hc;have hn:s.birth ∉ G:=fun hm=>by have:=List.contains_iff_mem.2 hm;rw [this] at hc;cases hc.1
  refine ⟨?_,fun b hb=>?_⟩
  ·
   rw [List.nodup_append];exact ⟨h.nd,by simp,fun a ha b hb e=>hn (by rw [List.mem_singleton.1 hb] at e;exact e ▸ ha)⟩
  ·
   rcases List.mem_append.1 hb with hb | hb
   · exact h.sub b hb
   · exact ⟨s,hs,(List.mem_singleton.1 hb).symm⟩
 · exact h
theorem GoodG.pass {goes:SesM→Bool}{l:List SesM}:∀ {m:List SesM} {G:List Int},GoodG l G→(∀ s∈m,s∈l)→GoodG l (yw goes G m)
 | [],_,h,_=>h
 | s::m,_,h,hm=>GoodG.pass (m:=m) (h.step (hm s (by simp))) (fun x hx=>hm x (by simp [hx]))
theorem GoodG.iter (goes:SesM→Bool)(l:List SesM):∀ n,GoodG l (xo goes l n)
 | 0=>GoodG.nil l
 | n+1=>(GoodG.iter goes l n).pass (fun _ h=>h)
theorem jfW:∀ {G B:List Int},G.Nodup→(∀ b∈G,b∈B)→G.length≤B.length
 | [],_,_,_=>Nat.zero_le _
 | g::G,B,h,hs=>by
  have hg:=hs g (by simp)
  rw [List.nodup_cons] at h;have:=jfW (G:=G) (B:=B.erase g) h.2 (fun b hb=>(List.mem_erase_of_ne (fun e:b=g=>h.1 (by rw [← e];exact hb))).2 (hs b (by simp [hb])))
  rw [List.length_erase_of_mem hg] at this;have:0<B.length:=List.length_pos_of_mem hg;rw [List.length_cons];omega
theorem GoodG.le {l:List SesM}{G:List Int}(h:GoodG l G):G.length≤l.length:=by
 have:=jfW (B:=l.map (·.birth)) h.nd (fun b hb=>by obtain ⟨s,hs,e⟩:=h.sub b hb;exact List.mem_map.2 ⟨s,hs,e⟩)
 rwa [List.length_map] at this
theorem zF (goes:SesM→Bool):∀ (l:List SesM) (G:List Int),yw goes G l=G∨G.length<(yw goes G l).length
 | [],_=>.inl rfl
 | s::l,G=>by
  show yw goes (xF goes G s) l=G∨G.length<(yw goes (xF goes G s) l).length
  rcases jeo goes G s with e | e <;> rw [e]
  · exact zF goes l G
  ·
   rcases zF goes l (G ++ [s.birth]) with h | h
   · rw [h];right;simp
   · right;rw [List.length_append] at h;simp at h;omega
theorem jgv (goes:SesM→Bool)(l:List SesM)(G:List Int):G.length≤(yw goes G l).length:=by
 rcases zF goes l G with h | h
 · rw [h];exact Nat.le_refl _
 · omega
theorem jd3 {goes:SesM→Bool}:∀ {l:List SesM} {G:List Int},yw goes G l=G→∀ s∈l,xF goes G s=G
 | [],_,_,_,h=>by cases h
 | s::l,G,h,x,hx=>by
  have h1:yw goes (xF goes G s) l=G:=h;have h2:xF goes G s=G:=by
   rcases jeo goes G s with e | e
   · exact e
   ·
    have:=jgv goes l (xF goes G s);rw [h1,e,List.length_append] at this
    simp at this
    omega
  rw [h2] at h1
  rcases List.mem_cons.1 hx with rfl | hx
  · exact h2
  · exact jd3 h1 x hx
theorem jd6 (goes:SesM→Bool)(l:List SesM):∀ n,yw goes (xo goes l n) l=xo goes l n∨n≤(xo goes l n).length
 | 0=>.inr (Nat.zero_le _)
 | n+1=>by
  show yw goes (yw goes (xo goes l n) l) l=yw goes (xo goes l n) l∨n+1≤(yw goes (xo goes l n) l).length
  rcases jd6 goes l n with h | h
  · rw [h];exact .inl h
  ·
   rcases zF goes l (xo goes l n) with h1 | h1
   · rw [h1];exact .inl h1
   · exact .inr (by omega)
theorem jiE {goes:SesM→Bool}{l:List SesM}{G:List Int}(h:GoodG l G)(hl:l.length≤G.length):yw goes G l=G:=by
 rcases zF goes l G with h1 | h1
 · exact h1
 · have:=(h.pass (goes:=goes) (m:=l) (fun _ h=>h)).le;omega
theorem jcK (goes:SesM→Bool)(l:List SesM):yw goes (zh goes l) l=zh goes l:=by
 rcases jd6 goes l l.length with h | h
 · exact h
 · exact jiE (GoodG.iter goes l _) h
theorem jar {goes:SesM→Bool}{l:List SesM}{n:Nat}(h:yw goes (xo goes l n) l=xo goes l n):∀ k,xo goes l (n+k)=xo goes l n
 | 0=>rfl
 | k+1=>by
  show yw goes (xo goes l (n+k)) l=_;rw [jar h k];exact h
theorem jfx {goes:SesM→Bool}{l:List SesM}{n:Nat}(h:yw goes (xo goes l n) l=xo goes l n):xo goes l n=zh goes l:=by
 rcases Nat.le_total n l.length with h1 | h1
 ·
  have:=jar h (l.length-n);rw [show n+(l.length-n)=l.length by omega] at this
  exact this.symm
 ·
  have:=jar (jcK goes l) (n-l.length);rw [show l.length+(n-l.length)=n by omega] at this
  exact this
inductive Dies (goes:SesM→Bool) (l:List SesM):SesM→Prop
 | one {s:SesM}:s∈l→goes s=true→Dies goes l s
 | up {s p:SesM}:s∈l→Dies goes l p→s.upB=p.birth→s.upB≠0→Dies goes l s
theorem Dies.mem {goes:SesM→Bool}{l:List SesM}{s:SesM}(h:Dies goes l s):s∈l:=by cases h <;> assumption
theorem jaR {G:List Int}{s:SesM}:xx G s=true↔s.upB∈G∧s.upB≠0:=by
 unfold xx;rw [Bool.and_eq_true,List.contains_iff_mem];simp
theorem jfA {goes:SesM→Bool}{l:List SesM}{G:List Int}(h:∀ b∈G,∃ s,Dies goes l s∧s.birth=b){s:SesM}(hs:s∈l):∀ b∈xF goes G s,∃ s,Dies goes l s∧s.birth=b:=by
 intro b hb;unfold xF at hb
 split at hb
 ·
  rename_i hc
  rcases List.mem_append.1 hb with hb | hb
  · exact h b hb
  ·
   rw [Bool.and_eq_true,Bool.or_eq_true] at hc;rw [List.mem_singleton.1 hb]
   rcases hc.2 with hg | hu
   · exact ⟨s,.one hs hg,rfl⟩
   ·
    obtain ⟨h1,h2⟩:=jaR.1 hu;obtain ⟨p,h3,h4⟩:=h _ h1;exact ⟨s,.up hs h3 h4.symm h2,rfl⟩
 · exact h b hb
theorem jb4 {goes:SesM→Bool}{l:List SesM}:∀ {m:List SesM} {G:List Int},(∀ b∈G,∃ s,Dies goes l s∧s.birth=b)→(∀ s∈m,s∈l)→∀ b∈yw goes G m,∃ s,Dies goes l s∧s.birth=b
 | [],_,h,_=>h
 | s::m,_,h,hm=>jb4 (m:=m) (jfA h (hm s (by simp))) (fun x hx=>hm x (by simp [hx]))
theorem jb0 (goes:SesM→Bool)(l:List SesM):∀ n,∀ b∈xo goes l n,∃ s,Dies goes l s∧s.birth=b
 | 0=>fun _ h=>by cases h
 | n+1=>jb4 (jb0 goes l n) (fun _ h=>h)
theorem jgC {goes:SesM→Bool}{l:List SesM}{s:SesM}(h:Dies goes l s):s.birth∈zh goes l:=by
 have hf:∀ s∈l,(goes s || xx (zh goes l) s)=true→s.birth∈zh goes l:=fun s hs hg=>by
  have h1:=jd3 (jcK goes l) s hs
  rcases Bool.eq_false_or_eq_true ((zh goes l).contains s.birth) with h2 | h2
  · exact List.contains_iff_mem.1 h2
  ·
   unfold xF at h1;rw [h2,hg] at h1;have:=congrArg List.length h1
   simp at this
 induction h with
 | one hs hg=>exact hf _ hs (by rw [hg];rfl)
 | up hs _ he hn ih=>exact hf _ hs (by rw [Bool.or_eq_true];right;exact jaR.2 ⟨by rw [he];exact ih,hn⟩)
theorem jaw {goes:SesM→Bool}{l:List SesM}{s:SesM}(hs:s∈l):(goes s=true∨xx (zh goes l) s=true)↔Dies goes l s:=by
 constructor
 ·
  rintro (h | h)
  · exact .one hs h
  ·
   obtain ⟨h1,h2⟩:=jaR.1 h;obtain ⟨p,h3,h4⟩:=jb0 goes l _ _ h1;exact .up hs h3 h4.symm h2
 ·
  intro h
  cases h with
  | one _ hg=>exact .inl hg
  | up _ hp he hn=>exact .inr (jaR.2 ⟨by rw [he];exact jgC hp,hn⟩)
theorem jfH {goes:SesM→Bool}{l:List SesM}{s:SesM}:s∈jx goes l↔s∈l∧¬ Dies goes l s:=by
 unfold jx;rw [List.mem_filter]
 constructor
 ·
  rintro ⟨h1,h2⟩;refine ⟨h1,fun h=>?_⟩
  rw [Bool.and_eq_true,Bool.not_eq_true',Bool.not_eq_true'] at h2
  rcases (jaw h1).2 h with h3 | h3
  · rw [h3] at h2;cases h2.1
  · rw [h3] at h2;cases h2.2
 ·
  rintro ⟨h1,h2⟩;refine ⟨h1,?_⟩;rw [Bool.and_eq_true,Bool.not_eq_true',Bool.not_eq_true']
  constructor
  ·
   cases e:goes s
   · rfl
   · exact absurd ((jaw h1).1 (.inl e)) h2
  ·
   cases e:xx (zh goes l) s
   · rfl
   · exact absurd ((jaw h1).1 (.inr e)) h2
structure SesOk (s:SesM):Prop where
 user:s.user.length≤9223372036854775807
 label:s.label.length≤9223372036854775807
 scopes:s.scopes<2 ^ 64
def yN (l:List SesM):List Value:=l.flatMap (fun s=>s.cells.toList)
theorem jip:yN [] = []:=rfl
theorem zb (l:List SesM):(yN l).length=l.length*12:=by
 induction l with
 | nil=>rfl
 | cons s l ih =>
  have:(yN (s::l)).length=12+(yN l).length:=by unfold yN;rw [List.flatMap_cons,List.length_append];rfl
  rw [this,ih,List.length_cons];omega
theorem vA (a b:List SesM):yN (a++b)=yN a++yN b:=by unfold yN;rw [List.flatMap_append]
theorem jek (s:SesM):yN [s]=s.cells.toList:=by unfold yN;simp
theorem jfr:∀ (l:List SesM) (k j:Nat),j<12→(yN l)[k*12+j]?=l[k]?.bind (fun s=>s.cells.toList[j]?)
 | [],_,_,_=>by simp [yN]
 | e::l,k,j,hj=>by
  have a0:e.cells.toList.length=12:=rfl;unfold yN;rw [List.flatMap_cons]
  cases k with
  | zero =>
   rw [List.getElem?_append_left (by omega)]
   simp
  | succ k =>
   rw [List.getElem?_append_right (by omega),a0,show (k+1)*12+j-12=k*12+j by omega]
   have:=jfr l k j hj;unfold yN at this;rw [this]
   simp
def RdS (w:World)(v:Value)(l:List SesM):Prop:=Rd w v l.length (yN l)
theorem RdS.below {w w':World}{v:Value}{l:List SesM}(h:RdS w v l)(hb:Below w.heap.size w w'):RdS w' v l:=Rd.below h hb
theorem RdS.slice {w:World}{v:Value}{l:List SesM}(h:RdS w v l):∃ a cap,v=.slice a l.length cap∧l.length≤cap∧cap≤9223372036854775807:=by
 obtain ⟨a,cap,h1,h2,h3,_⟩:=h;exact ⟨a,cap,h1,h2,h3⟩
theorem RdS.row {w:World}{a:Option Addr}{n cap:Nat}{l:List SesM}(h:RdS w (.slice a n cap) l)(k:Nat)(hk:k<l.length):∃ b off,a=some ⟨b,off,none⟩∧w.rangeAt b (off+k*12) (l[k]).cells.toList:=by
 obtain ⟨a',cap',e,h1,h2,_,h3⟩:=h;injection e with e1 e2 e3
 subst e1;have hl:=zb l;obtain ⟨b,off,rfl,_⟩:=h3 (k*12) (by omega)
 refine ⟨b,off,rfl,fun j v hv=>?_⟩
 have hj:j<12:=(List.getElem?_eq_some_iff.1 hv).1;obtain ⟨b',off',e',h4⟩:=h3 (k*12+j) (by omega)
 injection e' with e';injection e' with e5 e6
 subst e5;subst e6;rw [Nat.add_assoc,h4];have h5:=jfr l k j hj;rw [List.getElem?_eq_getElem hk] at h5;rw [List.getD,h5];show some ((l[k].cells.toList[j]?).getD undef)=some v;rw [hv];rfl
theorem RdS.cut {w:World}{a:Option Addr}{cap:Nat}{l:List SesM}(h:RdS w (.slice a l.length cap) l)(k:Nat)(hk:k≤l.length):RdS w (.slice a k cap) (l.take k):=by
 have hc:l.length≤cap:=by obtain ⟨_,_,e,h5,_⟩:=h;injection e with _ _ e3;omega
 have:=Rd.cut (m:=k) h (by omega) (k*12)
 unfold RdS;have e:yN (l.take k)=(yN l).take (k*12):=by
  have h1:yN l=yN (l.take k)++yN (l.drop k):=by rw [← vA,List.take_append_drop]
  rw [h1,List.take_left' (by rw [zb,List.length_take];omega)]
 rw [e,List.length_take,Nat.min_eq_left hk];exact this
theorem SesM.oneS (s:SesM):∀ v∈s.cells.toList,v.oneCell'=true:=by
 intro v hv;unfold SesM.cells at hv;simp only [List.mem_cons,List.not_mem_nil,or_false] at hv
 rcases hv with rfl | rfl | rfl | rfl | rfl | rfl | rfl | rfl | rfl | rfl | rfl | rfl <;> rfl
theorem SesM.listS (s:SesM):Hid (s.cells=s.cells.toList.toArray):=Lib.hid rfl
theorem xf (w:World)(s:SesM):(w.alloc (.cells #[.int .i64 0,.int .i64 0,.int .i64 0,.int .i64 0,.int .i64 0,.string ⟨#[]⟩,.string ⟨#[]⟩,.int .u64 0,.int .i64 0,.int .i64 0,.int .i64 0,.int .i64 0] 45)).there w.heap.size 0 s.cells.toList.length:=by
 intro j hj;have hj:j<12:=hj;have hb:=Box.new w #[.int .i64 0,.int .i64 0,.int .i64 0,.int .i64 0,.int .i64 0,.string ⟨#[]⟩,.string ⟨#[]⟩,.int .u64 0,.int .i64 0,.int .i64 0,.int .i64 0,.int .i64 0] 45;obtain ⟨v,hv⟩:∃ v,(#[.int .i64 0,.int .i64 0,.int .i64 0,.int .i64 0,.int .i64 0,.string ⟨#[]⟩,.string ⟨#[]⟩,.int .u64 0,.int .i64 0,.int .i64 0,.int .i64 0,.int .i64 0]:Array Value)[j]?=some v:=⟨_,Array.getElem?_eq_getElem (show j<12 from hj)⟩
 rw [Nat.zero_add];exact ⟨by rw [hb.cell _ v hv];rfl,hb.free _⟩
theorem jd2 (w:World)(o:Obj)(L:List Value):Below w.heap.size w ((w.alloc o).setCells w.heap.size 0 L):=by
 have h:=Mod.setCells (fun k=>k=w.heap.size) w.heap.size rfl L 0 (w.alloc o)
 exact (ja w o).trans (h.below (ja w o).size (fun _ hi=>Nat.le_of_eq hi.symm))
theorem vE {w w':World}{s:SesM}(h:Hid (w'=(w.alloc (.cells #[.int .i64 0,.int .i64 0,.int .i64 0,.int .i64 0,.int .i64 0,.string ⟨#[]⟩,.string ⟨#[]⟩,.int .u64 0,.int .i64 0,.int .i64 0,.int .i64 0,.int .i64 0] 45)).setCells w.heap.size 0 s.cells.toList)):Box w' w.heap.size s.cells 45∧Below w.heap.size w w':=by
 rw [h.out];have hb:=Box.new w #[.int .i64 0,.int .i64 0,.int .i64 0,.int .i64 0,.int .i64 0,.string ⟨#[]⟩,.string ⟨#[]⟩,.int .u64 0,.int .i64 0,.int .i64 0,.int .i64 0,.int .i64 0] 45;obtain ⟨cs',h1,h2,h3,_⟩:=Box.setCells s.cells.toList 0 hb (by show 0+12≤12;decide)
 have e1:cs'=s.cells:=by
  apply Array.ext_getElem?
  intro j;by_cases hj:j<12
  ·
   have:=h3 j _ (List.getElem?_eq_getElem (show j<s.cells.toList.length from hj))
   rw [Nat.zero_add] at this;rw [this,← Array.getElem?_toList,List.getElem?_eq_getElem (show j<s.cells.toList.length from hj)]
  · rw [Array.getElem?_eq_none (by rw [h2];show 12≤j;omega),Array.getElem?_eq_none (by show 12≤j;omega)]
 rw [e1] at h1;exact ⟨h1,jd2 w _ _⟩
theorem Box.rangeS {w:World}{b:Nat}{s:SesM}{t:TypeId}(h:Box w b s.cells t):w.rangeAt b 0 s.cells.toList:=fun j v hv=>by rw [Nat.zero_add];exact h.cell j v (by simpa using hv)
theorem jC (w:World)(k:Nat):Below w.heap.size w (w.drewN k):=⟨rfl,rfl,rfl,Nat.le_refl _,fun _ _=>rfl⟩
end Go.Proofs.YtgcnolapjppbpaaGreatDoor
