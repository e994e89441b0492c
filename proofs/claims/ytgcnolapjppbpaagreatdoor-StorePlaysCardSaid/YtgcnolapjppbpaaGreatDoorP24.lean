/-
  Texts of one proof, one behind the other.
-/
import Derived.Test.YtgcnolapjppbpaaGreatDoorP16
import Derived.Test.YtgcnolapjppbpaaGreatDoorP23
import Derived.Test.YtgcnolapjppbpaaGreatDoorP01
import Derived.Maps.OwnSet
import Derived.Test.YtgcnolapjppbpaaGreatDoorP00
namespace Go.Proofs.YtgcnolapjppbpaaGreatDoor
open Go.RowKit _root_.Go.Proofs.Tryz
set_option maxRecDepth 100000
set_option maxHeartbeats 25600000
theorem jfk (a b:Nat)(w:World) :
  Calls prog 95 #[.int .u64 (a:Int),.int .u64 (b:Int)] w fun e w'=>e=.returned (.bool (zT a b))∧w=w':=by
 go_enter func95,ntmps95;go_wp2_with fail;go_ret;exact ⟨rfl,rfl⟩
theorem SesM.cellsE (s:SesM):s.cells=#[.int .i64 s.slot,.int .i64 s.birth,.int .i64 s.upS,.int .i64 s.upB,.int .i64 s.kind,.string (SB s.user),.string (SB s.label),.int .u64 (s.scopes:Int),.int .i64 s.level,.int .i64 s.born,.int .i64 s.deadline,.int .i64 s.depth]:=rfl
theorem jeF (s:SesM)(eb:Nat)(b:Int)(w:World)(hc:w.cell? ⟨eb,13,none⟩=some (.int .i64 b)) :
  Calls prog 61 #[.agg s.cells,.pointer (some ⟨eb,0,none⟩)] w fun e w'=>e=.returned (.bool (s.birth==b))∧Below w.heap.size w w':=by
 have H:=Hd (ja w (.cells s.cells 45));have hx:=(Box.new w s.cells 45).cell 1 (.int .i64 s.birth) rfl;have h2:=jf (ja w (.cells s.cells 45)) hc;rw [s.cellsE] at H hx h2 ⊢;clear hc;go_enter func61,ntmps61;go_wp2_with fail;go_ret;exact ⟨rfl,H.1⟩
theorem jeW (s:SesM)(eb:Nat)(b:Int)(w:World)(hc:w.cell? ⟨eb,13,none⟩=some (.int .i64 b)) :
  Calls prog 63 #[.agg s.cells,.pointer (some ⟨eb,0,none⟩)] w fun e w'=>e=.returned (.bool (s.birth==b))∧Below w.heap.size w w':=by
 have H:=Hd (ja w (.cells s.cells 45));have hx:=(Box.new w s.cells 45).cell 1 (.int .i64 s.birth) rfl;have h2:=jf (ja w (.cells s.cells 45)) hc;rw [s.cellsE] at H hx h2 ⊢;clear hc;go_enter func63,ntmps63;go_wp2_with fail;go_ret;exact ⟨rfl,H.1⟩
theorem jeT (s:SesM)(eb:Nat)(b:Int)(w:World)(hc:w.cell? ⟨eb,0,none⟩=some (.int .i64 b)) :
  Calls prog 64 #[.agg s.cells,.pointer (some ⟨eb,0,none⟩)] w fun e w'=>e=.returned (.bool (decide (s.deadline≤b)))∧Below w.heap.size w w':=by
 have H:=Hd (ja w (.cells s.cells 45));have hx:=(Box.new w s.cells 45).cell 10 (.int .i64 s.deadline) rfl;have h2:=jf (ja w (.cells s.cells 45)) hc;rw [s.cellsE] at H hx h2 ⊢;clear hc;go_enter func64,ntmps64;go_wp2_with fail;go_ret;exact ⟨rfl,H.1⟩
structure TestF (f:FuncId)(ca:Addr)(g:SesM→Bool)(w:World):Prop where
 run:∀ (args:Array Value) (w':World),(callFunc f args).run prog w'=.ok (.enter f args) w'
 tells:∀ (s:SesM) (w':World),Below w.heap.size w w'→Calls prog f #[.agg s.cells,.pointer (some ca)] w' fun e w''=>e=.returned (.bool (g s))∧Below w'.heap.size w' w''
theorem jfV {g:SesM→Bool}{l:List SesM}{k:Nat}(hk:k<l.length):(l.take (k+1)).any g=((l.take k).any g || g l[k]):=by
 rw [List.take_succ_eq_append_getElem hk,List.any_append];simp
theorem jeJ (f:FuncId)(ca:Addr)(g:SesM→Bool)(v:Value)(l:List SesM)(w:World)(hv:RdS w v l)(hf:TestF f ca g w) :
  Calls prog 96 #[v,.func (.func f) #[] #[.pointer (some ca)]] w fun e w'=>∃ r:Int,e=.returned (.int .i64 r)∧decide (0≤r)=l.any g∧Below w.heap.size w w':=by
 obtain ⟨a,cap,rfl,a1,a8⟩:=hv.slice;have HV:=Lib.hid hv;have HF:=Lib.hid hf;have a6:l.length≤9223372036854775807:=by omega
 obtain ⟨n,hN⟩:=Nm (l.length);rw [← hN] at a6 HV a1 ⊢;have HN:=Lib.hid hN;clear hv hf a1 hN;go_enter func96,ntmps96;go_wp2_with fail
 go_loopg [8] n (fun gk iv wr=>∃ k:Nat,gk+k=n∧iv=.int .i64 (k:Int)∧Below w.heap.size w wr∧Hid ((l.take k).any g=false))
 case atStart=>exact ⟨0,rfl,rfl,Below.refl _ _,Lib.hid rfl⟩
 case round =>
  obtain ⟨k,a2,rfl,hb,HT⟩:=hrel;have k0:(0:Int)≤(k:Int):=by omega
  have HGK:=Lib.hid a2;have HB:=Lib.hid hb;clear a2;by_cases hk:k<n
  ·
   have k1:(k:Int)<(n:Int):=by omega
   have a3:k<l.length:=by have:=HN.out;omega
   obtain ⟨s,hs⟩:=Nm (l[k]);obtain ⟨rb,ro,a7,a0⟩:=(HV.out.below hb).row k a3;subst a7;rw [← hs] at a0;have HROW:=Lib.hid a0;have HAT:=Lib.hid (show (l.take (k+1)).any g=((l.take k).any g || g s) by rw [jfV a3,hs])
   have HAL:=Lib.hid (show g s=true→l.any g=true from fun h=>by rw [List.any_eq_true];exact ⟨s,by rw [hs];exact List.getElem_mem _,h⟩)
   have HK:=Lib.hid hk;clear a0 hs hk hb
   go_wp2_with ((with_reducible refine je ?b01 45 (.tmp 14) ?b11 rb (ro+k*12) ?b21 s.cells.toList _ HROW.out underlying45 ?b31 ?b41 ?b81);(case b11=>rfl);(case b01=>rfl);(case b21=>rfl);(case b31=>rfl);(case b41=>kernel_rfl))
   intro cv a4;have ecv:cv=s.cells:=by rw [a4.out]
   subst ecv;clear a4;go_wp2_with fail;rw [HF.out.run,Oper.upon_enter];refine (HF.out.tells s wr HB.out).mono ?_;rintro e w1 ⟨rfl,a5⟩;have HB1:=Lib.hid (HB.out.trans (a5.mono HB.out.size));generalize g s=r at HAT HAL ⊢;clear a5 HB HROW
   cases r
   ·
    have HT2:=Lib.hid (show (l.take (k+1)).any g=false by rw [HAT.out,HT.out];rfl)
    clear HT HAT HAL;go_wp2_with fail
    go_roundg (n-(k+1))
    case measure=>have:=HGK.out;have:=HK.out;omega
    case rel=>exact ⟨k+1,by have:=HGK.out;have:=HK.out;omega,by go_num,HB1.out,HT2⟩
   ·
    have HE:=Lib.hid (HAL.out rfl);clear HT HAT HAL;go_wp2_with fail;go_ret;exact ⟨_,rfl,by rw [HE.out];exact decide_eq_true (by omega),HB1.out⟩
  ·
   have k1:¬ (k:Int)<(n:Int):=by omega
   have HE:=Lib.hid (show l.any g=false by
    have h:=HT.out
    rwa [List.take_of_length_le (by have:=HN.out;omega)] at h)
   clear hk hb HT;go_wp2_with fail;go_ret;exact ⟨_,rfl,by rw [HE.out];rfl,HB.out⟩
theorem jch (f:FuncId)(ca:Addr)(g:SesM→Bool)(v:Value)(l:List SesM)(w:World)(hv:RdS w v l)(hf:TestF f ca g w) :
  Calls prog 60 #[v,.func (.func f) #[] #[.pointer (some ca)]] w fun e w'=>e=.returned (.bool (l.any g))∧Below w.heap.size w w':=by
 have H:=Hd (jeJ f ca g v l w hv hf);obtain ⟨a,cap,rfl,_⟩:=hv.slice;clear hv hf;go_enter func60,ntmps60;go_wp2_with fail;refine H.1.mono ?_;rintro e w1 ⟨r,rfl,hr,hb⟩;have A:=Hd hb;have B:=Hd hr;clear hb hr H;go_wp2_with fail;go_ret;rw [← B.1];exact ⟨rfl,A.1⟩
def uQ (k:Int):List (Int × Value)→Option Value
 | []=>none
 | p::l=>if p.1=k then some p.2 else uQ k l
def IsMap (w:World)(b:Nat)(es:List (Int × Value)):Prop:=∃ (arr:Array MapEntry) (clock:Nat),w.heap[b]?=some (.map arr clock)∧arr.toList.map (fun e=>(e.key,e.val))=es.map (fun p=>(Value.int .i64 p.1,p.2))
theorem IsMap.lt {w:World}{b:Nat}{es:List (Int × Value)}(h:IsMap w b es):b<w.heap.size:=by
 obtain ⟨arr,clock,h1,_⟩:=h
 rcases Nat.lt_or_ge b w.heap.size with h2 | h2
 · exact h2
 · rw [Array.getElem?_eq_none h2] at h1;cases h1
theorem IsMap.new (w:World):IsMap (w.alloc (.map #[] 0)) w.heap.size []:=⟨#[],0,heap_alloc_new w _,rfl⟩
theorem IsMap.mod {w w':World}{b:Nat}{es:List (Int × Value)}{F:Nat→Prop}(h:IsMap w b es)(hm:Mod F w w')(hb:¬ F b):IsMap w' b es:=by
 have hl:=h.lt;obtain ⟨arr,clock,h1,h2⟩:=h;exact ⟨arr,clock,by rw [hm.block b hl hb];exact h1,h2⟩
theorem IsMap.below {w w':World}{b:Nat}{es:List (Int × Value)}(h:IsMap w b es)(hb:Below w.heap.size w w'):IsMap w' b es:=h.mod (Mod.of_below (F:=fun _=>False) hb) (fun h=>h)
theorem jbl (q:IntKind)(k:Int):∀ (l:List MapEntry) (es:List (Int × Value)) (i:Nat),l.map (fun e=>(e.key,e.val))=es.map (fun p=>(Value.int .i64 p.1,p.2)) →
  (uQ k es=none→Instr.findNow (.int q) (.int .i64 k) l i=some none)∧∀ v,uQ k es=some v→∃ j,Instr.findNow (.int q) (.int .i64 k) l i=some (some (j,v))
 | [],[],i,_=>⟨fun _=>rfl,fun v h=>by cases h⟩
 | [],_::_,i,h=>by simp at h
 | _::_,[],i,h=>by simp at h
 | e::l,p::es,i,h=>by
  simp only [List.map_cons,List.cons.injEq,Prod.mk.injEq] at h;obtain ⟨⟨h1,h2⟩,h3⟩:=h;have ih:=jbl q k l es (i+1) h3;unfold Instr.findNow uQ;rw [h1];by_cases hk:p.1=k
  ·
   subst hk
   simp [Instr.sameNow,h2]
  ·
   have hb:(k==p.1)=false:=by rw [beq_eq_false_iff_ne];exact fun e=>hk e.symm
   simp only [Instr.sameNow,if_true,hb,if_neg hk];exact ih
theorem vB {P:Program}{K:TypeId}{q:IntKind}(hK:P.underlying K=some (.int q))(em:Bool)(k:Int)(w:World):(Instr.checkKey em 10000 K (.int .i64 k)).run P w=.ok () w:=by
 rw [show (10000:Nat)=9999+1 from rfl,Instr.checkKey]
 simp [run_underlying hK,Result.andThen]
theorem us {P:Program}{K:TypeId}{q:IntKind}(hK:P.underlying K=some (.int q)){k:Int}{l:List MapEntry}{r:Option (Nat × Value)}(h:Instr.findNow (.int q) (.int .i64 k) l 0=some r)(w:World):(Instr.findKey K (.int .i64 k) l).run P w=.ok r w:=by
 simp [Instr.findKey,run_underlying hK,h,Result.andThen]
theorem IsMap.look {P:Program}{w:World}{b:Nat}{es:List (Int × Value)}(h:IsMap w b es){t K E:TypeId}{q:IntKind}(ht:P.underlying t=some (.map K E))(hK:P.underlying K=some (.int q)){z:Value}(hz:(zeroValue E).run P w=.ok z w)(k:Int) :
  (Instr.lookup t (.map (some b)) (.int .i64 k) true).run P w=.ok (.tuple #[(uQ k es).getD z,.bool (uQ k es).isSome]) w:=by
 obtain ⟨arr,clock,hb,he⟩:=h;obtain ⟨h1,h2⟩:=jbl q k arr.toList es 0 he
 cases hg:uQ k es with
 | none =>
  have hf:=fun w=>us hK (h1 hg) w
  simp [Instr.lookup,run_underlying ht,MapKept.run_getObj_map hb,vB hK,hf,hz,Result.andThen]
 | some v =>
  obtain ⟨j,hj⟩:=h2 v hg;have hf:=fun w=>us hK hj w
  simp [Instr.lookup,run_underlying ht,MapKept.run_getObj_map hb,vB hK,hf,Result.andThen]
theorem IsMap.put {P:Program}{w:World}{b:Nat}{es:List (Int × Value)}(h:IsMap w b es){t K E:TypeId}{q:IntKind}(ht:P.underlying t=some (.map K E))(hK:P.underlying K=some (.int q)){k:Int}(hn:uQ k es=none)(v:Value) :
  ∃ w',(Instr.mapUpdate t (.map (some b)) (.int .i64 k) v).run P w=.ok () w'∧IsMap w' b (es ++ [(k,v)])∧Mod (fun i=>i=b) w w':=by
 have hl:=h.lt;obtain ⟨arr,clock,hb,he⟩:=h;have h1:=(jbl q k arr.toList es 0 he).1 hn;have hf:=fun w=>us hK h1 w
 refine ⟨{ w with heap:=w.heap.setIfInBounds b (.map (arr.push ⟨.int .i64 k,v,clock⟩) (clock+1)) },?_,⟨arr.push ⟨.int .i64 k,v,clock⟩,clock+1,?_,?_⟩,?_⟩
 · simp [Instr.mapUpdate,run_underlying ht,MapKept.run_getObj_map hb,vB hK,hf,MapKept.run_setObj_map _ hb,Result.andThen]
 ·
  show (w.heap.setIfInBounds b _)[b]?=_;rw [Array.getElem?_setIfInBounds_self_of_lt hl]
 · simp [he]
 ·
  refine ⟨rfl,rfl,rfl,by show w.heap.size≤(w.heap.setIfInBounds b _).size;rw [Array.size_setIfInBounds];exact Nat.le_refl _,fun i _ hi=>?_⟩
  show (w.heap.setIfInBounds b _)[i]?=_;rw [Array.getElem?_setIfInBounds_ne (fun e=>hi e.symm)]
theorem uY {P:Program}{w:World}{ops:Array Oper}{rest:List Oper}{o:Oper}{a:Act}{Q:Exit→Act→World→Prop}(hg:o.guard=none)(m x:Operand)(t:TypeId)(a1:o.op=Op.lookup t m x true)(K E:TypeId)(q:IntKind)(ht:P.underlying t=some (.map K E))(hK:P.underlying K=some (.int q))(z:Value)(hz:(zeroValue E).run P w=.ok z w)(b:Nat)(es:List (Int × Value))(hm:a.eval m=.map (some b))(h:IsMap w b es)(k:Int)(hx:a.eval x=.int .i64 k)(v:Value)(ok:Bool)(hv:(uQ k es).getD z=v)(a2:(uQ k es).isSome=ok)(hn:wpList P ops Q rest (a.put o.dst (.tuple #[v,.bool ok])) w):wpList P ops Q (o::rest) a w:=by
 refine wpList_plain hg fun K' a3=>?_
 have a0:=h.look ht hK hz k;rw [hv,a2] at a0;unfold Oper.wp
 simp [execOp,a1,hm,hx,a0,Result.andThen]
 exact a3 _ _ hn
theorem jaI {P:Program}{w:World}{ops:Array Oper}{rest:List Oper}{o:Oper}{a:Act}{Q:Exit→Act→World→Prop}(hg:o.guard=none)(m x y:Operand)(t:TypeId)(a1:o.op=Op.mapUpdate t m x y)(K E:TypeId)(q:IntKind)(ht:P.underlying t=some (.map K E))(hK:P.underlying K=some (.int q))(b:Nat)(es:List (Int × Value))(hm:a.eval m=.map (some b))(h:IsMap w b es)(k:Int)(hx:a.eval x=.int .i64 k)(hk:uQ k es=none)(v:Value)(hy:a.eval y=v)(hn:∀ w',IsMap w' b (es ++ [(k,v)])→Mod (fun i=>i=b) w w'→wpList P ops Q rest (a.put o.dst undef) w'):wpList P ops Q (o::rest) a w:=by
 refine wpList_plain hg fun K' a2=>?_
 obtain ⟨w',a0,r1,r2⟩:=h.put ht hK hk v;unfold Oper.wp
 simp [execOp,a1,hm,hx,hy,a0,Result.andThen]
 exact a2 _ _ (hn w' r1 r2)
theorem jiF (w:World):(zeroValue 3).run prog w=.ok (.int .i64 0) w:=by kernel_rfl
def IsG (w:World)(b:Nat)(G:List Int):Prop:=∃ es:List (Int × Int),IsMap w b (es.map (fun p=>(p.1,Value.int .i64 p.2)))∧es.map Prod.fst=G
theorem IsG.mod {w w':World}{b:Nat}{G:List Int}{F:Nat→Prop}(h:IsG w b G)(hm:Mod F w w')(hb:¬ F b):IsG w' b G:=by
 obtain ⟨es,h1,h2⟩:=h;exact ⟨es,h1.mod hm hb,h2⟩
theorem IsG.below {w w':World}{b:Nat}{G:List Int}(h:IsG w b G)(hb:Below w.heap.size w w'):IsG w' b G:=by
 obtain ⟨es,h1,h2⟩:=h;exact ⟨es,h1.below hb,h2⟩
theorem IsG.lt {w:World}{b:Nat}{G:List Int}(h:IsG w b G):b<w.heap.size:=by obtain ⟨_,h1,_⟩:=h;exact h1.lt
theorem IsG.new (w:World):IsG (w.alloc (.map #[] 0)) w.heap.size []:=⟨[],IsMap.new w,rfl⟩
theorem jby (k:Int):∀ es:List (Int × Int),(uQ k (es.map (fun p=>(p.1,Value.int .i64 p.2)))).isSome=(es.map Prod.fst).contains k∧∃ x:Int,(uQ k (es.map (fun p=>(p.1,Value.int .i64 p.2)))).getD (.int .i64 0)=.int .i64 x
 | []=>⟨rfl,0,rfl⟩
 | p::es=>by
  obtain ⟨h1,h2⟩:=jby k es;simp only [List.map_cons,uQ];by_cases h:p.1=k
  ·
   rw [if_pos h];exact ⟨by simp [h],p.2,rfl⟩
  ·
   rw [if_neg h];refine ⟨?_,h2⟩;rw [h1,List.contains_cons];have:(k==p.1)=false:=by rw [beq_eq_false_iff_ne];exact fun e=>h e.symm
   rw [this,Bool.false_or]
def jh0 (G:List Int)(k:Int):Bool:=G.contains k
theorem vR {w:World}{ops:Array Oper}{rest:List Oper}{o:Oper}{a:Act}{Q:Exit→Act→World→Prop}(hg:o.guard=none)(m x:Operand)(a0:o.op=Op.lookup 185 m x true)(b:Nat)(G:List Int)(hm:a.eval m=.map (some b))(h:IsG w b G)(k:Int)(hx:a.eval x=.int .i64 k)(hn:∀ x:Int,wpList prog ops Q rest (a.put o.dst (.tuple #[.int .i64 x,.bool (jh0 G k)])) w):wpList prog ops Q (o::rest) a w:=by
 obtain ⟨es,h1,rfl⟩:=h;obtain ⟨g1,xv,g2⟩:=jby k es;exact uY hg m x _ a0 _ _ .i64 underlying185 underlying3 (.int .i64 0) (jiF w) b _ hm h1 k hx _ _ g2 g1 (hn xv)
theorem jbJ {w:World}{ops:Array Oper}{rest:List Oper}{o:Oper}{a:Act}{Q:Exit→Act→World→Prop}(hg:o.guard=none)(m x y:Operand)(a0:o.op=Op.mapUpdate 185 m x y)(b:Nat)(G:List Int)(hm:a.eval m=.map (some b))(h:IsG w b G)(k:Int)(hx:a.eval x=.int .i64 k)(hk:G.contains k=false)(v:Int)(hy:a.eval y=.int .i64 v)(hn:∀ w',IsG w' b (G ++ [k])→Mod (fun i=>i=b) w w'→wpList prog ops Q rest (a.put o.dst undef) w'):wpList prog ops Q (o::rest) a w:=by
 obtain ⟨es,h1,rfl⟩:=h;have g1:=(jby k es).1;rw [hk] at g1;refine jaI hg m x y _ a0 _ _ .i64 underlying185 underlying3 b _ hm h1 k hx (by simpa using g1) _ hy (fun w' h2 h3=>hn w' ⟨es ++ [(k,v)],by simpa using h2,by simp⟩ h3)
structure WoS (w0 w:World)(p:Nat)(c b:Int)(v:Value)(G:List Int):Prop where
 bx:Box w p #[.int .i64 c,.int .i64 b,v] 30
 bz:Box w (p+1) #[.int .i64 0,.int .i64 0,.slice none 0 0] 30
 mp:IsG w (p+2) G
 bel:Below p w0 w
 e:p=w0.heap.size
theorem WoS.below {w0 w w':World}{p:Nat}{c b:Int}{v:Value}{G:List Int}(h:WoS w0 w p c b v G)(hb:Below w.heap.size w w'):WoS w0 w' p c b v G :=
 ⟨h.bx.below hb,h.bz.below hb,h.mp.below hb,h.bel.trans (hb.mono (by have:=h.bx.lt;omega)),h.e⟩
theorem WoS.put {w0 w w':World}{p:Nat}{c b:Int}{v:Value}{G G':List Int}(h:WoS w0 w p c b v G)(hm:Mod (fun i=>i=p+2) w w')(hg:IsG w' (p+2) G'):WoS w0 w' p c b v G' :=
 ⟨h.bx.mod hm (by omega),h.bz.mod hm (by omega),hg,h.bel.trans (hm.below (by have:=h.bx.lt;omega) (fun i hi=>by omega)),h.e⟩
theorem WoS.self {w0 w:World}{p:Nat}{c b:Int}{v:Value}{G:List Int}(h:WoS w0 w p c b v G):Below w0.heap.size w0 w:=by have:=h.bel;rwa [h.e] at this
theorem jeN {g:SesM→Bool}{G:List Int}{s:SesM}(h:G.contains s.birth=true∨(g s=false∧xx G s=false)):xF g G s=G:=by
 unfold xF
 rcases h with h | ⟨h1,h2⟩
 · rw [h];rfl
 · rw [h1,h2,Bool.or_self,Bool.and_false];rfl
theorem jfU {g:SesM→Bool}{G:List Int}{s:SesM}(h:G.contains s.birth=false)(h2:g s=true∨xx G s=true):xF g G s=G ++ [s.birth]:=by
 unfold xF
 rcases h2 with h2 | h2
 · rw [h,h2];rfl
 · rw [h,h2,Bool.or_true];rfl
theorem jhI {g:SesM→Bool}{G:List Int}{l:List SesM}{k:Nat}{s:SesM}(hk:k<l.length)(hs:s=l[k]):yw g G (l.take (k+1))=xF g (yw g G (l.take k)) s:=by
 rw [List.take_succ_eq_append_getElem hk,jgS,hs]
theorem jbW {f:SesM→Bool}{l:List SesM}{k:Nat}{s:SesM}(hk:k<l.length)(hs:s=l[k]):(l.take (k+1)).filter f=(l.take k).filter f++(if f s=true then [s] else []):=by
 rw [List.take_succ_eq_append_getElem hk,List.filter_append,← hs,List.filter_cons]
 rfl
theorem jhX {g:SesM→Bool}{l:List SesM}{G:List Int}{j:Nat}(h1:G=xo g l j)(h2:yw g G l=G):G=zh g l:=by
 subst h1;exact jfx h2
theorem uV (f:FuncId)(ca:Addr)(g:SesM→Bool)(st:StM)(v:Value)(w:World)(hv:RdS w v st.l)(hn:st.l.length≤1000000000)(hf:TestF f ca g w) :
  Calls prog 62 #[.agg #[.int .i64 st.clock,.int .i64 st.births,v],.func (.func f) #[] #[.pointer (some ca)]] w fun e w'=>∃ o,e=.returned (.agg #[.int .i64 st.clock,.int .i64 st.births,o])∧OwnS w' w.heap.size o (jx g st.l)∧Below w.heap.size w w':=by
 obtain ⟨c,b,l⟩:=st;simp only at hv hn ⊢;obtain ⟨a,cap,rfl,c7,d7⟩:=hv.slice;have HV:=Lib.hid hv;have HF:=Lib.hid hf;have d4:l.length≤9223372036854775807:=by omega
 obtain ⟨n,hN⟩:=Nm (l.length);rw [← hN] at d4 HV c7 hn ⊢;have HN:=Lib.hid hN;have HNN:=Lib.hid hn;have hmm:=@run_makeMap prog;obtain ⟨p,hp⟩:=Nm (w.heap.size);have c8:WoS w (((w.alloc (.cells #[.int .i64 c,.int .i64 b,.slice a n cap] 30)).alloc (.cells #[.int .i64 0,.int .i64 0,.slice none 0 0] 30)).alloc (.map #[] 0)) p c b (.slice a n cap) []:=by
  have h1:=Box.new w #[.int .i64 c,.int .i64 b,.slice a n cap] 30;have h2:=Box.new (w.alloc (.cells #[.int .i64 c,.int .i64 b,.slice a n cap] 30)) #[.int .i64 0,.int .i64 0,.slice none 0 0] 30;have h3:=IsG.new ((w.alloc (.cells #[.int .i64 c,.int .i64 b,.slice a n cap] 30)).alloc (.cells #[.int .i64 0,.int .i64 0,.slice none 0 0] 30));rw [World.size_alloc] at h2;rw [World.size_alloc,World.size_alloc] at h3;rw [← hp] at h1 h2 h3;exact ⟨(h1.below (ja _ _)).below (ja _ _),h2.below (ja _ _),h3,by rw [hp];exact (jn w _ _).trans ((ja _ _).mono (jn w _ _).size),hp⟩
 have HW0:=Lib.hid c8;clear hv hf c7 hN hn c8;go_enter func62,ntmps62;go_wp2_with fail;generalize ((w.alloc (.cells #[.int .i64 c,.int .i64 b,.slice a n cap] 30)).alloc (.cells #[.int .i64 0,.int .i64 0,.slice none 0 0] 30)).alloc (.map #[] 0)=wi at HW0 ⊢;rw [← hp];have HP:=Lib.hid hp;clear hp hmm
 go_loopg [6] (n+1) (fun gk mv wr=>∃ (G:List Int) (j:Nat) (more:Bool),mv=.bool more∧WoS w wr p c b (.slice a n cap) G∧Hid (G=xo g l j∧(if more=true then gk+G.length=n+1 else gk=0∧yw g G l=G)))
 case atStart=>exact ⟨[],0,true,rfl,HW0.out,Lib.hid ⟨rfl,rfl⟩⟩
 case round =>
  clear HW0;obtain ⟨G,j,more,rfl,a0,HG⟩:=hrel
  cases more
  rotate_left
  ·
   obtain ⟨b3,a8⟩:=HG.out;rw [if_pos rfl] at a8;have c2:wr.cell? ⟨p,2,none⟩=some (.slice a n cap):=a0.bx.cell 2 _ rfl;have HWO:=Lib.hid a0;have HG1:=Lib.hid b3;have HG2:=Lib.hid a8;have HGO:=Lib.hid (show GoodG l G by rw [b3];exact GoodG.iter g l j)
   clear a0 b3 a8 HG;go_wp2_with fail;clear c2;obtain ⟨wo,a0⟩:∃ wo:World,wo=wr:=⟨_,rfl⟩;rw [← a0] at HWO ⊢;clear a0
   go_loopg [6,23] n (fun gi mv iv wr=>∃ (k:Nat) (G':List Int) (m:Bool),gi+k=n∧mv=.bool m∧iv=.int .i64 (k:Int)∧WoS w wr p c b (.slice a n cap) G'∧Hid (G'=yw g G (l.take k)∧m=decide (G.length<G'.length)))
   case atStart=>exact ⟨0,G,false,rfl,rfl,rfl,HWO.out,Lib.hid ⟨rfl,(decide_eq_false (Nat.lt_irrefl _)).symm⟩⟩
   case round =>
    clear HWO;obtain ⟨k,G',m,b5,rfl,rfl,a0,HGP⟩:=hrel;have k0:(0:Int)≤(k:Int):=by omega
    have HGI:=Lib.hid b5;have HB:=Lib.hid a0.self;have HWO:=Lib.hid a0;have hb:=a0.self;clear b5 a0;by_cases hk:k<n
    ·
     have k1:(k:Int)<(n:Int):=by omega
     have a9:k<l.length:=by have:=HN.out;omega
     obtain ⟨s,hs⟩:=Nm (l[k]);obtain ⟨rb,ro,c3,a5⟩:=(HV.out.below hb).row k a9;subst c3;rw [← hs] at a5;have HROW:=Lib.hid a5;have HST:=Lib.hid (jhI (g:=g) (G:=G) a9 hs);have HK:=Lib.hid hk;have HGL:=Lib.hid (show G.length≤G'.length by rw [HGP.out.1];exact jgv _ _ _)
     clear a5 hs hk hb a9
     go_wp2_with ((with_reducible refine je ?L1a 45 (.tmp 25) ?L1b rb (ro+k*12) ?L1c s.cells.toList _ HROW.out underlying45 ?L1d ?L1e ?L1f);(case L1b=>rfl);(case L1a=>rfl);(case L1c=>rfl);(case L1d=>rfl);(case L1e=>kernel_rfl))
     intro cv a1;have ecv:cv=s.cells:=by rw [a1.out]
     subst ecv;clear a1
     go_wp2_with ((with_reducible refine jc ?S2a 45 (.tmp 8) (.tmp 26) ?S2b wr.heap.size 0 s.cells.toList ?S2c s.cells ?S2d (SesM.listS _) ?S2e ?S2f ?S2g ?S2h);(case S2b=>rfl);(case S2a=>rfl);(case S2c=>rfl);(case S2d=>rfl);(case S2e=>exact xf _ _);(case S2f=>kernel_rfl);(case S2g=>exact SesM.oneS _))
     intro w2 b6;obtain ⟨a2,b0⟩:=vE b6;have HWO2:=Lib.hid (HWO.out.below b0);have HPX:=Lib.hid a2;have d5:wr.heap.size<w2.heap.size:=a2.lt;have c9:p+2<wr.heap.size:=HWO.out.mp.lt;have HQ:=Lib.hid c9;have q0:w2.cell? ⟨wr.heap.size,0,none⟩=some (.int .i64 s.slot):=a2.cell 0 _ rfl;have q1:w2.cell? ⟨wr.heap.size,1,none⟩=some (.int .i64 s.birth):=a2.cell 1 _ rfl;have q3:w2.cell? ⟨wr.heap.size,3,none⟩=some (.int .i64 s.upB):=a2.cell 3 _ rfl;have HRG:=Lib.hid (Box.rangeS a2);clear b6 a2 b0 d5 c9 HB HROW HWO;generalize wr.heap.size=q at *
     go_wp2_with (at_lookup;refine vR rfl _ _ rfl _ _ rfl HWO2.out.mp s.upB rfl ?_)
     intro x1;have HUI:=Lib.hid (show xx G' s=(jh0 G' s.upB&&s.upB != 0) from rfl)
     generalize jh0 G' s.upB=u at HUI ⊢
     go_wp2_with (at_lookup;refine vR rfl _ _ rfl _ _ rfl HWO2.out.mp s.birth rfl ?_)
     intro x2;obtain ⟨th,c4⟩:=Nm (jh0 G' s.birth);rw [← c4];have HTH:=Lib.hid c4.symm;clear c4
     cases th
     rotate_left
     ·
      have HTT:=Lib.hid (show G'.contains s.birth=true from HTH.out)
      have HNX:=Lib.hid (show yw g G (l.take (k+1))=G' by rw [HST.out,← HGP.out.1];exact jeN (.inl HTT.out))
      have HWF:=Lib.hid HWO2.out;clear HST HRG HPX;go_wp2_with fail
      go_roundg (n-(k+1))
      case measure=>have:=HGI.out;have:=HK.out;omega
      case rel=>exact ⟨k+1,G',m,by have:=HGI.out;have:=HK.out;omega,rfl,by go_num,HWF.out,Lib.hid ⟨HNX.out.symm,HGP.out.2⟩⟩
     go_wp2_with ((with_reducible refine jy ?L3a 45 (.tmp 8) ?L3b q (0) ?L3c s.cells.toList _ HRG.out underlying45 ?L3d ?L3e ?L3f);(case L3b=>rfl);(case L3a=>rfl);(case L3c=>rfl);(case L3d=>rfl);(case L3e=>kernel_rfl))
     intro cv a1;have ecv:cv=s.cells:=by rw [a1.out]
     subst ecv;clear a1;go_wp2_with fail;rw [HF.out.run,Oper.upon_enter];refine (HF.out.tells s w2 HWO2.out.self).mono ?_;rintro e w3 ⟨rfl,a3⟩;have HWO3:=Lib.hid (HWO2.out.below a3);have r0:w3.cell? ⟨q,0,none⟩=some (.int .i64 s.slot):=jf a3 q0;have r1:w3.cell? ⟨q,1,none⟩=some (.int .i64 s.birth):=jf a3 q1;have r3:w3.cell? ⟨q,3,none⟩=some (.int .i64 s.upB):=jf a3 q3;obtain ⟨r,hr⟩:=Nm (g s);rw [← hr];have HGS:=Lib.hid hr.symm;clear hr;clear a3 q0 q1 q3 HWO2
     cases r
     rotate_left
     ·
      have HGT:=Lib.hid (show g s=true from HGS.out)
      have HNX:=Lib.hid (show yw g G (l.take (k+1))=G' ++ [s.birth] by rw [HST.out,← HGP.out.1];exact jfU HTH.out (.inl HGT.out))
      go_wp2_with (at_mapUpdate;refine jbJ rfl _ _ _ rfl _ _ rfl HWO3.out.mp s.birth rfl HTH.out s.slot rfl ?_)
      intro w4 b7 b8;have HWF:=Lib.hid (HWO3.out.put b8 b7);clear b7 b8 HST;go_wp2_with fail
      go_roundg (n-(k+1))
      case measure=>have:=HGI.out;have:=HK.out;omega
      case rel=>exact ⟨k+1,G' ++ [s.birth],true,by have:=HGI.out;have:=HK.out;omega,rfl,by go_num,HWF.out,Lib.hid ⟨HNX.out.symm,(decide_eq_true (by have:=HGL.out;rw [List.length_append,List.length_singleton];omega)).symm⟩⟩
     cases u
     ·
      have HUF:=Lib.hid (show xx G' s=false by rw [HUI.out];rfl)
      have HNX:=Lib.hid (show yw g G (l.take (k+1))=G' by rw [HST.out,← HGP.out.1];exact jeN (.inr ⟨HGS.out,HUF.out⟩))
      have HWF:=Lib.hid HWO3.out;clear HST HRG HPX;go_wp2_with fail
      go_roundg (n-(k+1))
      case measure=>have:=HGI.out;have:=HK.out;omega
      case rel=>exact ⟨k+1,G',m,by have:=HGI.out;have:=HK.out;omega,rfl,by go_num,HWF.out,Lib.hid ⟨HNX.out.symm,HGP.out.2⟩⟩
     cases hz:(s.upB==0)
     rotate_left
     ·
      have b1:(s.upB != 0)=false:=by rw [bne,hz];rfl
      have HUF:=Lib.hid (show xx G' s=false by rw [HUI.out,b1];rfl)
      have HNX:=Lib.hid (show yw g G (l.take (k+1))=G' by rw [HST.out,← HGP.out.1];exact jeN (.inr ⟨HGS.out,HUF.out⟩))
      have HWF:=Lib.hid HWO3.out;clear HST HRG HPX;go_wp2_with fail
      go_roundg (n-(k+1))
      case measure=>have:=HGI.out;have:=HK.out;omega
      case rel=>exact ⟨k+1,G',m,by have:=HGI.out;have:=HK.out;omega,rfl,by go_num,HWF.out,Lib.hid ⟨HNX.out.symm,HGP.out.2⟩⟩
     have b1:(s.upB != 0)=true:=by rw [bne,hz];rfl
     have HUF:=Lib.hid (show xx G' s=true by rw [HUI.out,b1];rfl)
     have HNX:=Lib.hid (show yw g G (l.take (k+1))=G' ++ [s.birth] by rw [HST.out,← HGP.out.1];exact jfU HTH.out (.inr HUF.out))
     go_wp2_with (at_mapUpdate;refine jbJ rfl _ _ _ rfl _ _ rfl HWO3.out.mp s.birth rfl HTH.out s.slot rfl ?_)
     intro w4 b7 b8;have HWF:=Lib.hid (HWO3.out.put b8 b7);clear b7 b8 HST;go_wp2_with fail
     go_roundg (n-(k+1))
     case measure=>have:=HGI.out;have:=HK.out;omega
     case rel=>exact ⟨k+1,G' ++ [s.birth],true,by have:=HGI.out;have:=HK.out;omega,rfl,by go_num,HWF.out,Lib.hid ⟨HNX.out.symm,(decide_eq_true (by have:=HGL.out;rw [List.length_append,List.length_singleton];omega)).symm⟩⟩
    ·
     have k1:¬ (k:Int)<(n:Int):=by omega
     have HGE:=Lib.hid (show G'=yw g G l∧m=decide (G.length<G'.length) by
      have h:=HGP.out;rw [List.take_of_length_le (by have:=HN.out;omega)] at h
      exact h)
     have HLE:=Lib.hid (show G'.length≤n by
      have h1:=HGO.out.pass (goes:=g) (m:=l) (fun _ h=>h)
      have h2:=h1.le;rw [← HGE.out.1] at h2;have:=HN.out;omega)
     have HLG:=Lib.hid (show G.length≤n by have:=HGO.out.le;have:=HN.out;omega)
     clear hk hb HB HGP HGI;go_wp2_with fail
     cases m
     ·
      have HFX:=Lib.hid (show yw g G' l=G'∧G'=xo g l j by
       obtain ⟨h1,h2⟩:=HGE.out;have h3:G'=G:=by
        rcases zF g l G with h | h
        · rw [h1,h]
        · rw [← h1] at h;exact absurd h (of_decide_eq_false h2.symm)
       rw [h3];rw [h3] at h1;exact ⟨h1.symm,HG1.out⟩)
      go_roundg 0
      case measure=>have:=HG2.out;have:=HLG.out;omega
      case rel=>exact ⟨G',j,false,rfl,HWO.out,Lib.hid ⟨HFX.out.2,by rw [if_neg (by decide)];exact ⟨rfl,HFX.out.1⟩⟩⟩
     ·
      have HFX:=Lib.hid (show G.length<G'.length∧G'=xo g l (j+1) by
       obtain ⟨h1,h2⟩:=HGE.out;exact ⟨of_decide_eq_true h2.symm,by rw [h1,HG1.out];rfl⟩)
      go_roundg (n+1-G'.length)
      case measure=>have:=HG2.out;have:=HLE.out;have:=HFX.out.1;omega
      case rel=>exact ⟨G',j+1,true,rfl,HWO.out,Lib.hid ⟨HFX.out.2,by rw [if_pos rfl];have:=HLE.out;omega⟩⟩
  obtain ⟨b3,a8⟩:=HG.out;rw [if_neg (by decide)] at a8
  have HCL:=Lib.hid (jhX b3 a8.2);have c2:wr.cell? ⟨p,2,none⟩=some (.slice a n cap):=a0.bx.cell 2 _ rfl;have HWO:=Lib.hid a0;have HWM:=Lib.hid (show jx g l=l.filter (fun s => !g s && !xx G s) by rw [HCL.out];rfl)
  clear a0 b3 a8 HG HCL;go_wp2_with fail;clear c2;obtain ⟨wo,a0⟩:∃ wo:World,wo=wr:=⟨_,rfl⟩;rw [← a0] at HWO ⊢;clear a0;have HPW:=Lib.hid (show p+3≤wo.heap.size by have:=HWO.out.mp.lt;omega)
  go_loopg [13,67] n (fun gi ov iv wr=>∃ k:Nat,gi+k=n∧iv=.int .i64 (k:Int)∧OwnS wr (p+3) ov ((l.take k).filter (fun s => !g s && !xx G s))∧Below (p+3) wo wr)
  case atStart=>exact ⟨0,rfl,rfl,OwnS.nil _ _,Below.refl _ _⟩
  case round =>
   obtain ⟨k,b5,rfl,c5,a7⟩:=hrel;have k0:(0:Int)≤(k:Int):=by omega
   have HGI:=Lib.hid b5;have hm:Mod (fun i=>p+3≤i) wo wr:=⟨a7.os,a7.tape,a7.output,a7.size,fun i _ hn=>a7.block i (by omega)⟩
   have c6:WoS w wr p c b (.slice a n cap) G:=⟨HWO.out.bx.mod hm (by omega),HWO.out.bz.mod hm (by omega),HWO.out.mp.mod hm (by omega),HWO.out.bel.trans (a7.mono (by omega)),HWO.out.e⟩
   have hb:=c6.self;have HWK:=Lib.hid c6;have HO:=Lib.hid c5;have HBL:=Lib.hid a7;clear b5 hm c6 c5 a7;by_cases hk:k<n
   ·
    have k1:(k:Int)<(n:Int):=by omega
    have a9:k<l.length:=by have:=HN.out;omega
    obtain ⟨s,hs⟩:=Nm (l[k]);obtain ⟨rb,ro,c3,a5⟩:=(HV.out.below hb).row k a9;subst c3;rw [← hs] at a5;have HROW:=Lib.hid a5;have HST:=Lib.hid (jbW (f:=fun s => !g s && !xx G s) a9 hs)
    have HK:=Lib.hid hk;have HLK:=Lib.hid (show ((l.take k).filter (fun s => !g s && !xx G s)).length+1≤1256584717458 by
     have h1:=List.length_filter_le (fun s => !g s && !xx G s) (l.take k)
     rw [List.length_take] at h1;have:=HNN.out;omega)
    clear a5 hs hk hb a9
    go_wp2_with ((with_reducible refine je ?L4a 45 (.tmp 69) ?L4b rb (ro+k*12) ?L4c s.cells.toList _ HROW.out underlying45 ?L4d ?L4e ?L4f);(case L4b=>rfl);(case L4a=>rfl);(case L4c=>rfl);(case L4d=>rfl);(case L4e=>kernel_rfl))
    intro cv a1;have ecv:cv=s.cells:=by rw [a1.out]
    subst ecv;clear a1
    go_wp2_with ((with_reducible refine jc ?S5a 45 (.tmp 15) (.tmp 70) ?S5b wr.heap.size 0 s.cells.toList ?S5c s.cells ?S5d (SesM.listS _) ?S5e ?S5f ?S5g ?S5h);(case S5b=>rfl);(case S5a=>rfl);(case S5c=>rfl);(case S5d=>rfl);(case S5e=>exact xf _ _);(case S5f=>kernel_rfl);(case S5g=>exact SesM.oneS _))
    intro w2 b6;obtain ⟨a2,b0⟩:=vE b6;have HWO2:=Lib.hid (HWK.out.below b0);have HO2:=Lib.hid (HO.out.below b0);have HBL2:=Lib.hid (HBL.out.trans (b0.mono (Nat.le_trans HPW.out HBL.out.size)));have q3:w2.cell? ⟨wr.heap.size,3,none⟩=some (.int .i64 s.upB):=a2.cell 3 _ rfl;have HRG:=Lib.hid (Box.rangeS a2);clear b6 a2 b0 HROW HWK HO HBL;generalize wr.heap.size=q at *
    go_wp2_with (at_lookup;refine vR rfl _ _ rfl _ _ rfl HWO2.out.mp s.upB rfl ?_)
    intro x1;have HUI:=Lib.hid (show xx G s=(jh0 G s.upB&&s.upB != 0) from rfl)
    generalize jh0 G s.upB=u at HUI ⊢
    go_wp2_with ((with_reducible refine je ?L6a 45 (.tmp 15) ?L6b q (0) ?L6c s.cells.toList _ HRG.out underlying45 ?L6d ?L6e ?L6f);(case L6b=>rfl);(case L6a=>rfl);(case L6c=>rfl);(case L6d=>rfl);(case L6e=>kernel_rfl))
    intro cv a1;have ecv:cv=s.cells:=by rw [a1.out]
    subst ecv;clear a1;go_wp2_with fail;rw [HF.out.run,Oper.upon_enter];refine (HF.out.tells s w2 HWO2.out.self).mono ?_;rintro e w3 ⟨rfl,a3⟩;have HO3:=Lib.hid (HO2.out.below a3);have HPW2:=Lib.hid (Nat.le_trans HPW.out HBL2.out.size);have HBL3:=Lib.hid (HBL2.out.trans (a3.mono HPW2.out));have r3:w3.cell? ⟨q,3,none⟩=some (.int .i64 s.upB):=jf a3 q3;have HRG3:=Lib.hid (show w3.rangeAt q 0 s.cells.toList from fun j v hv=>jf a3 (HRG.out j v hv))
    obtain ⟨r,hr⟩:=Nm (g s);rw [← hr];have HGS:=Lib.hid hr.symm;clear hr a3 q3 HWO2 HO2 HBL2 HRG
    cases r
    rotate_left
    ·
     have HGT:=Lib.hid (show g s=true from HGS.out)
     have HNX:=Lib.hid (show (l.take (k+1)).filter (fun s => !g s && !xx G s)=(l.take k).filter (fun s => !g s && !xx G s) by rw [HST.out];rw [if_neg (by rw [HGT.out];simp)];exact List.append_nil _)
     clear HST;go_wp2_with fail
     go_roundg (n-(k+1))
     case measure=>have:=HGI.out;have:=HK.out;omega
     case rel=>exact ⟨k+1,by have:=HGI.out;have:=HK.out;omega,by go_num,by rw [HNX.out];exact HO3.out,HBL3.out⟩
    cases u
    ·
     have HUF:=Lib.hid (show xx G s=false by rw [HUI.out];rfl)
     have HNX:=Lib.hid (show (l.take (k+1)).filter (fun s => !g s && !xx G s)=(l.take k).filter (fun s => !g s && !xx G s) ++ [s] by rw [HST.out];rw [if_pos (by rw [HGS.out,HUF.out];rfl)])
     clear HST;generalize (l.take k).filter (fun s => !g s && !xx G s)=L at HO3 HNX HLK
     go_wp2_with ((with_reducible refine je ?L7a 45 (.tmp 15) ?L7b q (0) ?L7c s.cells.toList _ HRG3.out underlying45 ?L7d ?L7e ?L7f);(case L7b=>rfl);(case L7a=>rfl);(case L7c=>rfl);(case L7d=>rfl);(case L7e=>kernel_rfl))
     intro cv a1;have ecv:cv=s.cells:=by rw [a1.out]
     subst ecv;clear a1
     go_wp2_with (refine jD (op:=⟨some 95,_,_,_,_,_⟩) (by rfl) 28 1 #[(0,.tmp 94)] rfl #[(0,.agg s.cells)] (by kernel_rfl) _ _ (zJ s w3) ?_)
     intro w4 b2;have a4:Below w3.heap.size w3 w4:=by rw [b2.out];exact ja _ _
     have HC4:=Lib.hid (show ∀ j u,s.cells.toList[j]?=some u→w4.cell? ((⟨w3.heap.size,0,none⟩:Addr).add j)=some u by rw [b2.out];exact yY w3 s _)
     have HO4:=Lib.hid (HO3.out.below a4);have HP3:=Lib.hid (show p+3≤w3.heap.size from Nat.le_trans HPW.out HBL3.out.size)
     have HBL4:=Lib.hid (HBL3.out.trans (a4.mono HP3.out));have HP4:=Lib.hid (Nat.le_trans HP3.out a4.size);clear b2 a4 HO3 HRG3
     go_wp2_with (at_builtin;refine vP rfl _ _ rfl (p+3) _ L rfl HO4.out ⟨w3.heap.size,0,none⟩ 1 s rfl HC4.out HLK.out HP4.out ?_)
     intro v' w5 a6 b9 _;have HBL5:=Lib.hid (HBL4.out.trans (ji b9 HP4.out (fun q hq=>(HO4.out.lt q hq).1)))
     have HO5:=Lib.hid a6;clear b9 a6 HO4 HBL4 HC4;go_wp2_with fail
     go_roundg (n-(k+1))
     case measure=>have:=HGI.out;have:=HK.out;omega
     case rel=>exact ⟨k+1,by have:=HGI.out;have:=HK.out;omega,by go_num,by rw [HNX.out];exact HO5.out,HBL5.out⟩
    cases hz:(s.upB==0)
    rotate_left
    ·
     have b1:(s.upB != 0)=false:=by rw [bne,hz];rfl
     have HUF:=Lib.hid (show xx G s=false by rw [HUI.out,b1];rfl)
     have HNX:=Lib.hid (show (l.take (k+1)).filter (fun s => !g s && !xx G s)=(l.take k).filter (fun s => !g s && !xx G s) ++ [s] by rw [HST.out];rw [if_pos (by rw [HGS.out,HUF.out];rfl)])
     clear HST;generalize (l.take k).filter (fun s => !g s && !xx G s)=L at HO3 HNX HLK
     go_wp2_with ((with_reducible refine je ?L8a 45 (.tmp 15) ?L8b q (0) ?L8c s.cells.toList _ HRG3.out underlying45 ?L8d ?L8e ?L8f);(case L8b=>rfl);(case L8a=>rfl);(case L8c=>rfl);(case L8d=>rfl);(case L8e=>kernel_rfl))
     intro cv a1;have ecv:cv=s.cells:=by rw [a1.out]
     subst ecv;clear a1
     go_wp2_with (refine jD (op:=⟨some 95,_,_,_,_,_⟩) (by rfl) 28 1 #[(0,.tmp 94)] rfl #[(0,.agg s.cells)] (by kernel_rfl) _ _ (zJ s w3) ?_)
     intro w4 b2;have a4:Below w3.heap.size w3 w4:=by rw [b2.out];exact ja _ _
     have HC4:=Lib.hid (show ∀ j u,s.cells.toList[j]?=some u→w4.cell? ((⟨w3.heap.size,0,none⟩:Addr).add j)=some u by rw [b2.out];exact yY w3 s _)
     have HO4:=Lib.hid (HO3.out.below a4);have HP3:=Lib.hid (show p+3≤w3.heap.size from Nat.le_trans HPW.out HBL3.out.size)
     have HBL4:=Lib.hid (HBL3.out.trans (a4.mono HP3.out));have HP4:=Lib.hid (Nat.le_trans HP3.out a4.size);clear b2 a4 HO3 HRG3
     go_wp2_with (at_builtin;refine vP rfl _ _ rfl (p+3) _ L rfl HO4.out ⟨w3.heap.size,0,none⟩ 1 s rfl HC4.out HLK.out HP4.out ?_)
     intro v' w5 a6 b9 _;have HBL5:=Lib.hid (HBL4.out.trans (ji b9 HP4.out (fun q hq=>(HO4.out.lt q hq).1)))
     have HO5:=Lib.hid a6;clear b9 a6 HO4 HBL4 HC4;go_wp2_with fail
     go_roundg (n-(k+1))
     case measure=>have:=HGI.out;have:=HK.out;omega
     case rel=>exact ⟨k+1,by have:=HGI.out;have:=HK.out;omega,by go_num,by rw [HNX.out];exact HO5.out,HBL5.out⟩
    have b1:(s.upB != 0)=true:=by rw [bne,hz];rfl
    have HUF:=Lib.hid (show xx G s=true by rw [HUI.out,b1];rfl)
    have HNX:=Lib.hid (show (l.take (k+1)).filter (fun s => !g s && !xx G s)=(l.take k).filter (fun s => !g s && !xx G s) by rw [HST.out];rw [if_neg (by rw [HUF.out];simp)];exact List.append_nil _)
    clear HST;go_wp2_with fail
    go_roundg (n-(k+1))
    case measure=>have:=HGI.out;have:=HK.out;omega
    case rel=>exact ⟨k+1,by have:=HGI.out;have:=HK.out;omega,by go_num,by rw [HNX.out];exact HO3.out,HBL3.out⟩
   ·
    have k1:¬ (k:Int)<(n:Int):=by omega
    have HOE:=Lib.hid (show OwnS wr (p+3) u13 (jx g l) by
     have h:=HO.out;rw [List.take_of_length_le (by have:=HN.out;omega)] at h
     rw [HWM.out];exact h)
    obtain ⟨oa,oc,rfl,_⟩:=HOE.out.slice;have hx:=HWK.out.bx;have hz:=HWK.out.bz;have c0:wr.cell? ⟨p,0,none⟩=some (.int .i64 c):=hx.cell 0 _ rfl;have c1:wr.cell? ⟨p,1,none⟩=some (.int .i64 b):=hx.cell 1 _ rfl;have c2:wr.cell? ⟨p,2,none⟩=some (.slice a n cap):=hx.cell 2 _ rfl;have f2:=hx.free 2;have d0:wr.cell? ⟨p+1,0,none⟩=some (.int .i64 0):=hz.cell 0 _ rfl;have d1:wr.cell? ⟨p+1,1,none⟩=some (.int .i64 0):=hz.cell 1 _ rfl;have d2:wr.cell? ⟨p+1,2,none⟩=some (.slice none 0 0):=hz.cell 2 _ rfl;have g0:=hz.free 0;have g1:=hz.free 1;have g2:=hz.free 2;have HX:=Lib.hid hx;have HZ:=Lib.hid hz;have HB:=Lib.hid hb;have HPP:=Lib.hid (show p+3≤wr.heap.size by have:=HWK.out.mp.lt;omega)
    clear hk hb hx hz HO HGI;go_wp2_with fail;have d6:∀ (W:World),Mod (fun q=>q=p+1∨q=p) wr W→OwnS W w.heap.size (.slice oa (jx g l).length oc) (jx g l)∧Below w.heap.size w W:=fun W hm=>by
     have hp:=HP.out;refine ⟨(HOE.out.base (by omega)).mod hm (fun q hq e=>?_),HB.out.trans (hm.below HB.out.size (fun i hi=>by omega))⟩
     have:=(HOE.out.lt q hq).1;omega
    have b4:∀ (W:World) (q o:Nat) (v:Value),Mod (fun q=>q=p+1∨q=p) wr W→(q=p+1∨q=p)→Mod (fun q=>q=p+1∨q=p) wr (W.setCell ⟨q,o,none⟩ v):=fun W q o v h hq=>h.trans (Mod.set _ _ _ _ hq)
    have d3:=d6 ((((wr.setCell ⟨p,2,none⟩ (.slice oa (jx g l).length oc)).setCell ⟨p+1,0,none⟩ (.int .i64 c)).setCell ⟨p+1,1,none⟩ (.int .i64 b)).setCell ⟨p+1,2,none⟩ (.slice oa (jx g l).length oc)) (b4 _ _ _ _ (b4 _ _ _ _ (b4 _ _ _ _ (b4 _ _ _ _ (Mod.refl _ _) (.inr rfl)) (.inl rfl)) (.inl rfl)) (.inl rfl));refine vq rfl rfl (p+1) 0 rfl [.int .i64 c,.int .i64 b,.slice oa (jx g l).length oc] _ ?_ underlying30 rfl (by kernel_rfl) ⟨_,rfl,d3⟩
    have a4:Box ((((wr.setCell ⟨p,2,none⟩ (.slice oa (jx g l).length oc)).setCell ⟨p+1,0,none⟩ (.int .i64 c)).setCell ⟨p+1,1,none⟩ (.int .i64 b)).setCell ⟨p+1,2,none⟩ (.slice oa (jx g l).length oc)) (p+1) #[.int .i64 c,.int .i64 b,.slice oa (jx g l).length oc] 30:=by
     have h:=(((HZ.out.set_other (p:=⟨p,2,none⟩) (by simp) (.slice oa (jx g l).length oc)).set 0 (.int .i64 c)).set 1 (.int .i64 b)).set 2 (.slice oa (jx g l).length oc)
     exact h
    intro j v hv;rw [Nat.zero_add];exact a4.cell j v (by simpa using hv)
end Go.Proofs.YtgcnolapjppbpaaGreatDoor
