/- Texts of one proof. -/
import Derived.Test.YtgcnolapjppbpaaGreatDoorK12
import Derived.Test.YtgcnolapjppbpaaGreatDoorK16
import Derived.Test.YtgcnolapjppbpaaGreatDoorK17
import Derived.Test.YtgcnolapjppbpaaGreatDoorK18
namespace Go.Proofs.YtgcnolapjppbpaaGreatDoor
open Go.RowKit _root_.Go.Proofs.Tryz
set_option maxRecDepth 100000
set_option maxHeartbeats 25600000
variable {w w' w0:World}{v x:Value}{t r b2 b8:Nat}{s s':TkM}{c b:Int}{l:List SesM}
def xW (d:DiskM)(base n:Nat):List (List UInt8):=((d.strs.drop base).take n).map (fun s=>s.data.toList)
def IsPays (e:UInt32)(bl:List (List UInt8))(ps:List (List UInt8)):Prop:=yN e bl ps.length=none/\∀ i (h:i<ps.length),∃ k,yN e bl i=some (ps[i],k)
theorem IsPays.uniq {e:UInt32}{bl ps qs:List (List UInt8)}(h:IsPays e bl ps)(g:IsPays e bl qs):ps=qs:=by
 have hl:ps.length=qs.length:=by
  rcases kB ps.length qs.length with h1 | h1 | h1
  .
   obtain ⟨k,h2⟩:=g.2 _ h1;rw [h.1] at h2;cases h2
  . exact h1
  .
   obtain ⟨k,h2⟩:=h.2 _ h1;rw [g.1] at h2;cases h2
 refine kD hl (fun i h1 h2=>?_)
 obtain ⟨k,e1⟩:=h.2 i h1;obtain ⟨m,e2⟩:=g.2 i h2;rw [e1] at e2;injection e2 with e2
 exact congrArg Prod.fst e2
open Classical in
noncomputable def vD (e:UInt32) (bl:List (List UInt8)):List (List UInt8):=if h:∃ ps,IsPays e bl ps then h.choose else []
theorem IsPays.eq {e:UInt32}{bl ps:List (List UInt8)}(h:IsPays e bl ps):vD e bl=ps:=by
 unfold vD;rw [dif_pos ⟨ps,h⟩];exact (Exists.choose_spec (⟨ps,h⟩:∃ ps,IsPays e bl ps)).uniq h
def vm:List (List UInt8)->List EvtM
 | [] => []
 | p::l=>if (vT p).1=0 then (vT p).2::vm l else []
noncomputable def yi (d:DiskM):StM × UInt32 × Int :=
 if (jZ d 0 24).2.2=10 then (jI,0,0)
 else if (jZ d 0 24).2.2=0 then
  (if (vy (jZ d 0 24).2.1).1=0 then ((yy (vy (jZ d 0 24).2.1).2 (vm (vD (UInt32.ofNat (jZ d 0 24).1) (xW d 49 16)))).1,UInt32.ofNat (jZ d 0 24).1,0) else (jI,0,24))
 else (jI,0,(jZ d 0 24).2.2)
def yu (ep:UInt32)(d:DiskM)(st:StM):DiskM × Int :=
 if ja3 st=0 then (if ep=4294967295 then (d,5) else jR d 0 24 (ep+1).toNat (vz st)) else (d,24)
def yt (ep:UInt32):LogM:=⟨49,16,ep,0,0,false⟩
structure StoM where
 epoch:UInt32
 log:LogM
 dead:Bool
noncomputable def jw (d:DiskM):DiskM × UInt32 × StM × Int :=
 if d.strs.length<65 then (d,0,jI,1)
 else if (yi d).2.2=0 then
  (if (yu (yi d).2.1 d (yi d).1).2=0 then ((yu (yi d).2.1 d (yi d).1).1,(yi d).2.1+1,(yi d).1,0)
  else ((yu (yi d).2.1 d (yi d).1).1,0,jI,(yu (yi d).2.1 d (yi d).1).2))
 else (d,0,jI,(yi d).2.2)
theorem jgZ (d:DiskM)(hl:65<=d.strs.length)(j:Nat)(hj:j<16):d.strs[49+j]?=some (SB ((xW d 49 16).getD j [])):=by
 have h3:49+j<d.strs.length:=by omega
 have e:(xW d 49 16).getD j []=d.strs[49+j].data.toList:=by
  unfold xW
  simp [List.getD,hj,h3]
 rw [e,List.getElem?_eq_getElem h3]
 congr 1
theorem jjl (d:DiskM)(hl:65<=d.strs.length)(bl:List (List UInt8))(h1:bl.length=16)(h2:∀ j,j<16->d.strs[49+j]?=some (SB (bl.getD j []))):bl=xW d 49 16:=by
 have h3:(xW d 49 16).length=16:=by unfold xW;rw [qE,qr,qn];omega
 refine kD (by omega) (fun j g1 g2=>?_)
 have e1:=h2 j (by omega)
 rw [jgZ d hl j (by omega)] at e1
 injection e1 with e1
 have e2:=jkS e1;rw [List.getD,List.getD,List.getElem?_eq_getElem g1,List.getElem?_eq_getElem g2] at e2;exact e2.symm
theorem jg0 (d:DiskM):∀ (f:Nat) (b:Int) (z:Nat) (acc p:List UInt8),acc.length<=z->yx d f b z acc=some p->p.length<=z
 | 0,_,z,acc,p,h,e=>by
  rw [yx] at e;injection e with e
  rw [<- e];exact h
 | f+1,b,z,acc,p,h,e=>by
  rw [yx] at e
  split at e
  .
   split at e
   . cases e
   .
    refine jg0 d f (b+1) z _ p ?_ e;rw [qd,qr];omega
  .
   injection e with e
   rw [<- e];exact h
theorem jfx (d:DiskM):(jZ d 0 24).2.1.length<=6144:=by
 unfold jZ
 split
 .
  split
  . exact qJ _
  split
  .
   split
   . exact qJ _
   rename_i h2
   split
   . exact qJ _
   .
    rename_i p hp
    have:=jg0 d _ _ _ _ _ (qJ _) hp
    split
    . show p.length<=6144;omega
    . exact qJ _
  . exact qJ _
 . exact qJ _
def isP (n:Int):Bool:=n==22
def StoM.append (s:StoM)(d:DiskM)(e:EvtM)(st:StM):StoM × DiskM × Int :=
 if s.dead=true then (s,d,22)
 else if jM e=true then
  (if (s.log.append d (evB e)).2.2=19 then
   (if (yu s.epoch d st).2=0 then
    (⟨s.epoch+1,((yt (s.epoch+1)).append (yu s.epoch d st).1 (evB e)).1,isP ((yt (s.epoch+1)).append (yu s.epoch d st).1 (evB e)).2.2⟩,
     ((yt (s.epoch+1)).append (yu s.epoch d st).1 (evB e)).2.1,((yt (s.epoch+1)).append (yu s.epoch d st).1 (evB e)).2.2)
   else (⟨s.epoch,s.log,isP (yu s.epoch d st).2⟩,(yu s.epoch d st).1,(yu s.epoch d st).2))
  else (⟨s.epoch,(s.log.append d (evB e)).1,isP (s.log.append d (evB e)).2.2⟩,(s.log.append d (evB e)).2.1,(s.log.append d (evB e)).2.2))
 else (s,d,1)
theorem jkm:(prog.info? 47).map (fun i=>(i.zero,i.size,i.bytes))=some (some (.agg #[(0:Int),(0:Int),(0:Int),(0:Int),(0:Int),(0:Int),.string ⟨#[]⟩,.string ⟨#[]⟩,.int .u64 0,(0:Int),(0:Int),(0:Int),(0:Int),(0:Int),(0:Int)]),15,136):=by kernel_rfl
theorem EvtM.listE (s:EvtM):Hid (s.cells=s.cells.toList.toArray):=qe rfl
theorem OwnE.slice {base:Nat}{l:List EvtM}(h:OwnE w base v l):∃ a cap,v=.slice a l.length cap/\l.length<=cap:=by
 obtain ⟨a,cap,h1,h2,_⟩:=h.rd.slice;exact ⟨a,cap,h1,h2⟩
theorem OwnE.lt {base:Nat}{l:List EvtM}(h:OwnE w base v l):∀ k,v.ownBlock=some k->base<=k/\k<w.heap.size:=jbX h
theorem jgD (w:World)(s:EvtM):(w.alloc (.cells #[(0:Int),(0:Int),(0:Int),(0:Int),(0:Int),(0:Int),.string ⟨#[]⟩,.string ⟨#[]⟩,.int .u64 0,(0:Int),(0:Int),(0:Int),(0:Int),(0:Int),(0:Int)] 47)).there w.heap.size 0 s.cells.toList.length:=by
 intro j hj;have hj:j<15:=hj;have hb:=Box.new w #[(0:Int),(0:Int),(0:Int),(0:Int),(0:Int),(0:Int),.string ⟨#[]⟩,.string ⟨#[]⟩,.int .u64 0,(0:Int),(0:Int),(0:Int),(0:Int),(0:Int),(0:Int)] 47;obtain ⟨v,hv⟩:∃ v,(#[(0:Int),(0:Int),(0:Int),(0:Int),(0:Int),(0:Int),.string ⟨#[]⟩,.string ⟨#[]⟩,.int .u64 0,(0:Int),(0:Int),(0:Int),(0:Int),(0:Int),(0:Int)]:Array Value)[j]?=some v:=⟨_,Array.getElem?_eq_getElem (show j<15 from hj)⟩
 rw [qA];exact ⟨by rw [hb.cell _ v hv];rfl,hb.free _⟩
theorem jkn {s:EvtM}(h:Hid (w'=(w.alloc (.cells #[(0:Int),(0:Int),(0:Int),(0:Int),(0:Int),(0:Int),.string ⟨#[]⟩,.string ⟨#[]⟩,.int .u64 0,(0:Int),(0:Int),(0:Int),(0:Int),(0:Int),(0:Int)] 47)).setCells w.heap.size 0 s.cells.toList)):Box w' w.heap.size s.cells 47/\Below w.heap.size w w':=by
 rw [h.out];have hb:=Box.new w #[(0:Int),(0:Int),(0:Int),(0:Int),(0:Int),(0:Int),.string ⟨#[]⟩,.string ⟨#[]⟩,.int .u64 0,(0:Int),(0:Int),(0:Int),(0:Int),(0:Int),(0:Int)] 47;obtain ⟨cs',h1,h2,h3,_⟩:=Box.setCells s.cells.toList 0 hb (by show 0+15<=15;decide)
 have e1:cs'=s.cells:=by
  apply Array.ext_getElem?
  intro j;by_cases hj:j<15
  .
   have:=h3 j _ (List.getElem?_eq_getElem (show j<s.cells.toList.length from hj))
   rw [qA] at this;rw [this,<- Array.getElem?_toList,List.getElem?_eq_getElem (show j<s.cells.toList.length from hj)]
  . rw [Array.getElem?_eq_none (by rw [h2];show 15<=j;omega),Array.getElem?_eq_none (by show 15<=j;omega)]
 rw [e1] at h1;exact ⟨h1,jfz w _ _⟩
theorem jls (s:EvtM)(w:World):(Instr.buildSlice 22 1 #[(0,.agg s.cells)]).run prog w=.ok (.slice (some ⟨w.heap.size,0,none⟩) 1 1) (w.alloc (.cells s.cells 47)):=by kernel_rfl
theorem jli {ops:Array Oper}{rest:List Oper}{o:Oper}{a:Act}{Q:Exit->Act->World->Prop}(a2:o.guard=none)(s x:Operand)(ho:o.op=.call { callee:=.builtin .append,args:=#[s,x],argTypes:=#[22,22] })(base:Nat)(v:Value)(l:List EvtM)(hs:a.eval s=v)(a1:OwnE w base v l)(ad:Addr)(c:Nat)(y:EvtM)(hx:a.eval x=.slice (some ad) 1 c)(hy:∀ j u,y.cells.toList[j]?=some u->w.cell? (ad.add j)=some u)(a6:l.length+1<=1034834473200)(a0:base<=w.heap.size)(h:∀ v' w',OwnE w' base v' (l ++ [y])->w.grownBy w' v.ownBlock->xj w v v'->wpList prog ops Q rest (a.put o.dst v') w'):wpList prog ops Q (o::rest) a w:=by
 obtain ⟨i0,hi,a3,a4,a5⟩:=wI jkm;refine yb a2 s x 22 ho base 47 i0 _ 15 136 underlying22 hi a3 a4 a5 rfl (by decide) v l.length (zK l) hs a1 ad 1 c y.cells.toList hx rfl hy y.oneE (by unfold maxLen;omega) (by omega) a0 (fun v' w' h1 h2 h3=>h v' w' ?_ h2 h3)
 unfold OwnE;rw [jgg,jjN,qd];exact h1
theorem jfO (w:World)(s:EvtM)(t:TypeId):∀ j u,s.cells.toList[j]?=some u->(w.alloc (.cells s.cells t)).cell? ((⟨w.heap.size,0,none⟩:Addr).add j)=some u:=fun j u hj=>World.news_of_block (ww w (.cells s.cells t)) j u hj
theorem Box.setAllE {b:Nat}{cs:Array Value}{t:TypeId}(h:Box w b cs t)(hs:cs.size=15)(s:EvtM):Box (w.setCells b 0 s.cells.toList) b s.cells t/\w.there b 0 s.cells.toList.length:=by
 constructor
 .
  obtain ⟨cs',h1,h2,h3,_⟩:=Box.setCells s.cells.toList 0 h (by show 0+15<=cs.size;omega)
  have e1:cs'=s.cells:=by
   apply Array.ext_getElem?
   intro j;by_cases hj:j<15
   .
    have:=h3 j _ (List.getElem?_eq_getElem (show j<s.cells.toList.length from hj))
    rw [qA] at this;rw [this,<- Array.getElem?_toList,List.getElem?_eq_getElem (show j<s.cells.toList.length from hj)]
   . rw [Array.getElem?_eq_none (by omega),Array.getElem?_eq_none (by show 15<=j;omega)]
  rw [e1] at h1;exact h1
 .
  intro j hj;have hj:j<15:=hj;obtain ⟨v,hv⟩:∃ v,cs[j]?=some v:=⟨_,Array.getElem?_eq_getElem (by omega)⟩
  rw [qA];exact ⟨by rw [h.cell _ v hv];rfl,h.free _⟩
structure EvOk (e:EvtM):Prop where
 user:e.s.user.length<=140737488351232
 label:e.s.label.length<=140737488351232
 scopes:e.s.scopes<2 ^ 64
 kind:I64 e.kind
 birth:I64 e.birth
 ticks:I64 e.ticks
 sSlot:I64 e.s.slot
 sBirth:I64 e.s.birth
 sUpS:I64 e.s.upS
 sUpB:I64 e.s.upB
 sKind:I64 e.s.kind
 sLevel:I64 e.s.level
 sBorn:I64 e.s.born
 sDeadline:I64 e.s.deadline
 sDepth:I64 e.s.depth
theorem jbI (f:SesM->Bool)(l:List SesM):(jB f l).length<=l.length:=List.length_filter_le _ _
theorem uq (st:StM)(e:EvtM):(jt st e).2.l.length<=st.l.length+1:=by
 have h1:=jbI (fun s=>s.birth==e.birth) st.l
 have h2:=jbI (fun s=>decide (s.deadline<=st.clock+e.ticks)) st.l
 unfold jt
 repeat' split
 all_goals simp [jI] <;> omega
structure ImSt (w0 w:World)(t r b2 b8:Nat)(v:Value)(s:TkM)(c b:Int)(x:Value)(l:List SesM):Prop where
 it:IsTI w t r v s
 bz:Box w b2 #[(0:Int),(0:Int),.slice none 0 0] 30
 bs:Box w b8 #[c,b,x] 30
 own:OwnS w (b8+1) x l
 bel:Below w0.heap.size w0 w
 g:w0.heap.size<=b2
 o1:b2<r
 o2:r<t
 o3:t<b8
 ov:∀ k,v.ownBlock=some k->b2<k/\k<t
theorem ImSt.below (h:ImSt w0 w t r b2 b8 v s c b x l)(hb:Below w.heap.size w w'):ImSt w0 w' t r b2 b8 v s c b x l :=
 ⟨h.it.below hb,h.bz.below hb,h.bs.below hb,h.own.below hb,h.bel.trans (hb.mono h.bel.size),h.g,h.o1,h.o2,h.o3,h.ov⟩
theorem ImSt.step (h:ImSt w0 w t r b2 b8 v s c b x l)(hi:IsTI w' t r v s')(hm:Mod (fun i=>i=r\/i=t) w w'):ImSt w0 w' t r b2 b8 v s' c b x l:=by
 have:=h.g;have:=h.o1;have:=h.o2;have:=h.o3;exact ⟨hi,h.bz.mod hm (by rintro (e | e) <;> omega),h.bs.mod hm (by rintro (e | e) <;> omega),h.own.mod hm (fun k hk=>by have:=(h.own.lt k hk).1;rintro (e | e) <;> omega),h.bel.trans (hm.below h.bel.size (fun i hi=>by rcases hi with e | e <;> omega)),h.g,h.o1,h.o2,h.o3,h.ov⟩
theorem ImSt.ints {eb:Nat}(h:ImSt w0 w t r b2 b8 v s c b x l)(hi:IsTI w' t r v s')(hm:Mod (fun i=>i=r\/i=t\/i=eb) w w')(he:b8<eb)(hx:x.ownBlock≠some eb):ImSt w0 w' t r b2 b8 v s' c b x l:=by
 have:=h.g;have:=h.o1;have:=h.o2;have:=h.o3;exact ⟨hi,h.bz.mod hm (by rintro (e | e | e) <;> omega),h.bs.mod hm (by rintro (e | e | e) <;> omega),h.own.mod hm (fun k hk=>by have:=(h.own.lt k hk).1;rintro (e | e | e);omega;omega;exact hx (by rw [hk,e])),h.bel.trans (hm.below h.bel.size (fun i hi=>by rcases hi with e | e | e <;> omega)),h.g,h.o1,h.o2,h.o3,h.ov⟩
theorem ImSt.mod {eb:Nat}(h:ImSt w0 w t r b2 b8 v s c b x l)(hm:Mod (fun i=>i=eb) w w')(he:b8<eb)(hx:x.ownBlock≠some eb):ImSt w0 w' t r b2 b8 v s c b x l :=
 h.ints (h.it.mod hm (by have:=h.o3;omega) (by have:=h.o2;have:=h.o3;omega) (fun k hk=>by have:=(h.ov k hk).2;have:=h.o3;omega)) (hm.mono (fun _ e=>.inr (.inr e))) he hx
theorem ImSt.clocks {c' b':Int}(h:ImSt w0 w t r b2 b8 v s c b x l)(hi:IsTI w' t r v s')(hb:Box w' b8 #[c',b',x] 30)(hm:Mod (fun i=>i=r\/i=t\/i=b8) w w'):ImSt w0 w' t r b2 b8 v s' c' b' x l:=by
 have:=h.g;have:=h.o1;have:=h.o2;have:=h.o3;exact ⟨hi,h.bz.mod hm (by rintro (e | e | e) <;> omega),hb,h.own.mod hm (fun k hk=>by have:=(h.own.lt k hk).1;rintro (e | e | e) <;> omega),h.bel.trans (hm.below h.bel.size (fun i hi=>by rcases hi with e | e | e <;> omega)),h.g,h.o1,h.o2,h.o3,h.ov⟩
theorem ImSt.grown (h:ImSt w0 w t r b2 b8 v s c b x l)(hg:w.grownBy w' x.ownBlock):Below (b8+1) w w' :=
 je hg h.bs.lt (fun q hq=>(h.own.lt q hq).1)
theorem ImSt.put {x':Value}{l':List SesM}(h:ImSt w0 w t r b2 b8 v s c b x l)(hb:Below (b8+1) w w')(ho:OwnS w' (b8+1) x' l'):ImSt w0 (w'.setCell ⟨b8,2,none⟩ x') t r b2 b8 v s c b x' l':=by
 have:=h.g;have:=h.o1;have:=h.o2;have:=h.o3;have hm:Mod (fun i=>b8+1<=i) w w':=⟨hb.os,hb.tape,hb.output,hb.size,fun i _ hn=>hb.block i (by omega)⟩
 have a0:=Mod.set (fun i=>i=b8) w' ⟨b8,2,none⟩ x' rfl
 have a1:IsTI w' t r v s:=h.it.mod hm (by omega) (by omega) (fun k hk=>by have:=(h.ov k hk).2;omega)
 have a2:Box w' b8 #[c,b,x] 30:=h.bs.mod hm (by omega)
 exact ⟨a1.mod a0 (by omega) (by omega) (fun k hk=>by have:=(h.ov k hk).2;omega),(h.bz.mod hm (by omega)).mod a0 (by omega),a2.set 2 x',ho.mod a0 (fun k hk=>by have:=(ho.lt k hk).1;omega),(h.bel.trans (hb.mono (by omega))).trans (a0.below (qi h.bel.size hb.size) (fun i hi=>by omega)),h.g,h.o1,h.o2,h.o3,h.ov⟩
theorem jiX:∀ v ∈ [Value.int .i64 0,(0:Int),.slice none 0 0],v.oneCell'=true:=by
 intro v hv;simp only [qH,qO,wM] at hv
 rcases hv with rfl | rfl | rfl <;> rfl
structure ExI (w0:World)(t b2:Nat)(er:Value)(w':World):Prop where
 ce:w'.cell? ⟨t,1,none⟩=some er
 bz:Box w' b2 #[(0:Int),(0:Int),.slice none 0 0] 30
 bel:Below w0.heap.size w0 w'
 ne:b2≠t
 ge:w0.heap.size<=b2
theorem ExI.drew {er:Value}(h:ExI w0 t b2 er w):ExI w0 t b2 er w.drew:=⟨h.ce,h.bz,h.bel.drew,h.ne,h.ge⟩
theorem ExI.store {er:Value}(h:ExI w0 t b2 er w):ExI w0 t b2 er (w.setCells b2 0 [(0:Int),(0:Int),.slice none 0 0]):=by
 have hb:=h.bz.setAll [(0:Int),(0:Int),.slice none 0 0] rfl;have hm:=Mod.setCells (fun k=>k=b2) b2 rfl [(0:Int),(0:Int),.slice none 0 0] 0 w
 have a0:t<w.heap.size:=World.block_lt_of_cell? w _ h.ce;exact ⟨by rw [World.cell?_of_block (w:=w) (hm.block t a0 (fun e=>h.ne e.symm))];exact h.ce,hb,h.bel.trans (hm.below h.bel.size (fun _ hi=>hi ▸ h.ge)),h.ne,h.ge⟩
theorem zW (d:DiskM)(p:Nat)(F:Nat->Prop)(w:World)(h:IsDisk w d p F) :
  Calls prog 19 #[.pointer (some ⟨p,0,none⟩)] w fun e w'=>e=.returned (d.trail.length:Int)/\w=w':=by
 obtain ⟨bb,tv,pv,q,h1,h2,h3,h4,h5,h6,h7,h8,rfl⟩:=h;obtain ⟨ta,tc,rfl,_,_⟩:=xQ h3;have hc:=h1.cell 1 _ rfl;clear h1 h2 h3 h4 h7 h8;go_enter func19,ntmps19
 go_wp2
 go_ret;exact ⟨rfl,rfl⟩
theorem xI (er:Int)(w:World)(h1:0<=er)(h2:er<=24)(hg:ErrType w):Calls prog 14 #[jm er,er] w fun e w'=>e=.returned (.bool true)/\Below w.heap.size w w':=by
 by_cases h0:er=0
 .
  subst h0;exact jcu w
 .
  obtain ⟨n,rfl⟩:=wX h1;have e:jm (n:Int)=zL n:=by unfold jm;rw [qh h0];rfl
  have:=jh1 n w (by omega) (by omega) hg
  rw [<- e] at this;exact this
end Go.Proofs.YtgcnolapjppbpaaGreatDoor
