/-
  Texts of one proof, one behind the other.
-/
import Derived.Test.YtgcnolapjppbpaaGreatDoorP05
import Derived.Test.YtgcnolapjppbpaaGreatDoorP09
import Derived.Test.YtgcnolapjppbpaaGreatDoorP07
import Derived.Test.YtgcnolapjppbpaaGreatDoorP16
import Derived.Test.YtgcnolapjppbpaaGreatDoorP18
import Derived.Test.YtgcnolapjppbpaaGreatDoorP15
import Derived.Test.YtgcnolapjppbpaaGreatDoorRows
import Derived.WalkKit
import Derived.ProofKit
import Derived.SizedLaws
import Derived.JoinedCond
import Derived.Test.YtgcnolapjppbpaaGreatDoorP01
import Derived.Test.YtgcnolapjppbpaaGreatDoorP00
namespace Go.Proofs.YtgcnolapjppbpaaGreatDoor
open Go.RowKit _root_.Go.Proofs.Tryz
set_option maxRecDepth 100000
set_option maxHeartbeats 25600000
def zf (d:DiskM)(base n:Nat):List (List UInt8):=((d.strs.drop base).take n).map (fun s=>s.data.toList)
def IsPays (e:UInt32)(bl:List (List UInt8))(ps:List (List UInt8)):Prop:=yU e bl ps.length=none∧∀ i (h:i<ps.length),∃ k,yU e bl i=some (ps[i],k)
theorem IsPays.uniq {e:UInt32}{bl ps qs:List (List UInt8)}(h:IsPays e bl ps)(g:IsPays e bl qs):ps=qs:=by
 have hl:ps.length=qs.length:=by
  rcases Nat.lt_trichotomy ps.length qs.length with h1 | h1 | h1
  ·
   obtain ⟨k,h2⟩:=g.2 _ h1;rw [h.1] at h2;cases h2
  · exact h1
  ·
   obtain ⟨k,h2⟩:=h.2 _ h1;rw [g.1] at h2;cases h2
 refine List.ext_getElem hl (fun i h1 h2=>?_)
 obtain ⟨k,e1⟩:=h.2 i h1;obtain ⟨m,e2⟩:=g.2 i h2;rw [e1] at e2;injection e2 with e2
 exact congrArg Prod.fst e2
open Classical in
noncomputable def zU (e:UInt32) (bl:List (List UInt8)):List (List UInt8):=if h:∃ ps,IsPays e bl ps then h.choose else []
theorem IsPays.eq {e:UInt32}{bl ps:List (List UInt8)}(h:IsPays e bl ps):zU e bl=ps:=by
 unfold zU;rw [dif_pos ⟨ps,h⟩];exact (Exists.choose_spec (⟨ps,h⟩:∃ ps,IsPays e bl ps)).uniq h
def vd:List (List UInt8)→List EvtM
 | [] => []
 | p::l=>if (ud p).1=0 then (ud p).2::vd l else []
noncomputable def yf (d:DiskM):StM × UInt32 × Int :=
 if (jY d 0 24).2.2=10 then (yh,0,0)
 else if (jY d 0 24).2.2=0 then
  (if (vk (jY d 0 24).2.1).1=0 then ((yE (vk (jY d 0 24).2.1).2 (vd (zU (UInt32.ofNat (jY d 0 24).1) (zf d 49 16)))).1,UInt32.ofNat (jY d 0 24).1,0) else (yh,0,24))
 else (yh,0,(jY d 0 24).2.2)
def yS (ep:UInt32)(d:DiskM)(st:StM):DiskM × Int :=
 if jbx st=0 then (if ep=4294967295 then (d,5) else yv d 0 24 (ep+1).toNat (vj st)) else (d,24)
def xV (ep:UInt32):LogM:=⟨49,16,ep,0,0,false⟩
structure StoM where
 epoch:UInt32
 log:LogM
 dead:Bool
noncomputable def jP (d:DiskM):DiskM × UInt32 × StM × Int :=
 if d.strs.length<65 then (d,0,yh,1)
 else if (yf d).2.2=0 then
  (if (yS (yf d).2.1 d (yf d).1).2=0 then ((yS (yf d).2.1 d (yf d).1).1,(yf d).2.1+1,(yf d).1,0)
  else ((yS (yf d).2.1 d (yf d).1).1,0,yh,(yS (yf d).2.1 d (yf d).1).2))
 else (d,0,yh,(yf d).2.2)
theorem ji6 (d:DiskM)(hl:65≤d.strs.length)(j:Nat)(hj:j<16):d.strs[49+j]?=some (SB ((zf d 49 16).getD j [])):=by
 have h3:49+j<d.strs.length:=by omega
 have e:(zf d 49 16).getD j []=d.strs[49+j].data.toList:=by
  unfold zf
  simp [List.getD,hj,h3]
 rw [e,List.getElem?_eq_getElem h3]
 congr 1
theorem jhK (d:DiskM)(hl:65≤d.strs.length)(bl:List (List UInt8))(h1:bl.length=16)(h2:∀ j,j<16→d.strs[49+j]?=some (SB (bl.getD j []))):bl=zf d 49 16:=by
 have h3:(zf d 49 16).length=16:=by unfold zf;rw [List.length_map,List.length_take,List.length_drop];omega
 refine List.ext_getElem (by omega) (fun j g1 g2=>?_)
 have e1:=h2 j (by omega)
 rw [ji6 d hl j (by omega)] at e1
 injection e1 with e1
 have e2:=jkf e1;rw [List.getD,List.getD,List.getElem?_eq_getElem g1,List.getElem?_eq_getElem g2] at e2;exact e2.symm
theorem jfB (d:DiskM):∀ (f:Nat) (b:Int) (z:Nat) (acc p:List UInt8),acc.length≤z→yA d f b z acc=some p→p.length≤z
 | 0,_,z,acc,p,h,e=>by
  rw [yA] at e;injection e with e
  rw [← e];exact h
 | f+1,b,z,acc,p,h,e=>by
  rw [yA] at e
  split at e
  ·
   split at e
   · cases e
   ·
    refine jfB d f (b+1) z _ p ?_ e;rw [List.length_append,List.length_take];omega
  ·
   injection e with e
   rw [← e];exact h
theorem jeh (d:DiskM):(jY d 0 24).2.1.length≤6144:=by
 unfold jY
 split
 ·
  split
  · exact Nat.zero_le _
  split
  ·
   split
   · exact Nat.zero_le _
   rename_i h2
   split
   · exact Nat.zero_le _
   ·
    rename_i p hp
    have:=jfB d _ _ _ _ _ (Nat.zero_le _) hp
    split
    · show p.length≤6144;omega
    · exact Nat.zero_le _
  · exact Nat.zero_le _
 · exact Nat.zero_le _
def isP (n:Int):Bool:=n==22
def StoM.append (s:StoM)(d:DiskM)(e:EvtM)(st:StM):StoM × DiskM × Int :=
 if s.dead=true then (s,d,22)
 else if yb e=true then
  (if (s.log.append d (evB e)).2.2=19 then
   (if (yS s.epoch d st).2=0 then
    (⟨s.epoch+1,((xV (s.epoch+1)).append (yS s.epoch d st).1 (evB e)).1,isP ((xV (s.epoch+1)).append (yS s.epoch d st).1 (evB e)).2.2⟩,
     ((xV (s.epoch+1)).append (yS s.epoch d st).1 (evB e)).2.1,((xV (s.epoch+1)).append (yS s.epoch d st).1 (evB e)).2.2)
   else (⟨s.epoch,s.log,isP (yS s.epoch d st).2⟩,(yS s.epoch d st).1,(yS s.epoch d st).2))
  else (⟨s.epoch,(s.log.append d (evB e)).1,isP (s.log.append d (evB e)).2.2⟩,(s.log.append d (evB e)).2.1,(s.log.append d (evB e)).2.2))
 else (s,d,1)
theorem jfD (x:UInt32)(h:x &&& 1=1):bits .and .u32 (I32 x) 1=1:=by
 rw [show (1:Int)=I32 1 from rfl,I32_and,h]
theorem je3 (x:UInt32)(h:x &&& 1=0):bits .and .u32 (I32 x) 1=0:=by
 rw [show (1:Int)=I32 1 from rfl,I32_and,h];rfl
theorem jdz (r:UInt32)(c:UInt8)(w:World) :
  Calls prog 183 #[.int .u32 (I32 r),.int .u8 (c.toNat:Int)] w fun e w'=>e=.returned (.int .u32 (I32 (jeX r c)))∧w=w':=by
 go_enter func183,ntmps183
 go_wp2
 go_loop [0,5] (fun x i=>∃ j:Nat,j≤8∧i=.int .i64 j∧x=.int .u32 (I32 (uz j (r ^^^ c.toUInt32)))) (fun _ i=>8-(intOf i).toNat)
 case atStart=>exact ⟨0,by omega,rfl,rfl⟩
 case round =>
  obtain ⟨j,hj,rfl,rfl⟩:=hrel;by_cases hlt:j<8
  ·
   rcases jh2 (uz j (r ^^^ c.toUInt32)) with hb | hb
   ·
    have e1:=je3 _ hb;have e2:=Hd (je4 hb);clear hb
    go_wp2
    go_round
    case rel=>exact ⟨j+1,by omega,by go_num,by rw [jcR,← e2.1];rfl⟩
    case measure=>simp [intOf];omega
   ·
    have e1:=jfD _ hb;have e2:=Hd (jfz hb);clear hb
    go_wp2
    go_round
    case rel=>exact ⟨j+1,by omega,by go_num,by rw [jcR,show (3988292384:Int)=I32 0xedb88320 from rfl,I32_xor,← e2.1];rfl⟩
    case measure=>simp [intOf];omega
  ·
   obtain rfl:j=8:=by omega
   go_wp2
   go_ret;exact ⟨rfl,rfl⟩
theorem uy (v:Value)(l:List UInt8)(w:World)(hv:Rd w v l.length (l.map V8)) :
  Calls prog 168 #[v] w fun e w'=>e=.returned (.int .u32 (I32 (crc l)))∧w=w':=by
 have hm:=hv.len;obtain ⟨a,cap,rfl,a3,a4,_,hc⟩:=hv;have H:=Hd hc;clear hc;go_enter func168,ntmps168
 go_wp2
 go_loop [3,4] (fun x i=>∃ k:Nat,k≤l.length∧i=.int .i64 k∧x=.int .u32 (I32 (xW 0xffffffff (l.take k)))) (fun _ i=>l.length-(intOf i).toNat)
 case atStart=>exact ⟨0,by omega,rfl,rfl⟩
 case round =>
  obtain ⟨k,hk,rfl,rfl⟩:=hrel;by_cases hlt:k<l.length
  ·
   obtain ⟨b,off,rfl,a0⟩:=H.1 k (by simpa using hlt)
   have a2:w.cell? ⟨b,off+k,none⟩=some (.int .u8 (l[k].toNat:Int)):=by rw [a0];simp [hlt,V8]
   clear H a0;have a1:=Hd (jb2 0xffffffff l k hlt);go_wp2_with fail;refine (jdz _ _ _).mono ?_;rintro e w' ⟨rfl,rfl⟩
   go_wp2
   go_round
   case rel=>exact ⟨k+1,by omega,by go_num,by rw [a1.1]⟩
   case measure=>simp [intOf];omega
  ·
   obtain rfl:k=l.length:=by omega
   go_wp2
   go_ret;exact ⟨rfl,rfl⟩
theorem jaO (v:Value)(l:List UInt8)(w:World)(hv:Rd w v l.length (l.map V8)) :
  Calls prog 137 #[v] w fun e w'=>e=.returned (.int .u32 (I32 (crc l)))∧Below w.heap.size w w':=by
 go_enter func137,ntmps137;go_wp2_with fail;refine (jaL _).mono ?_;rintro e w' ⟨rfl,rfl⟩;go_wp2_with fail;refine (ja7 _ 0 v l _ (by simp [go_sem]) (by simp [go_sem]) (hv.below (ja _ _))).mono ?_
 rintro e w' ⟨rfl,rfl⟩;go_wp2_with fail;refine (jb5 _ (.int .u32 (I32 (crc l))) _ (by simp [go_sem];rfl)).mono ?_
 rintro e w' ⟨rfl,rfl⟩
 go_wp2
 go_ret;exact ⟨rfl,by go_grown⟩
open Go.ChangeShapes Go.WideShapes Go.ChangeAt Go.RowKit
theorem L.own:ownKnob prog.godebug=none:=by kernel_rfl
theorem L.laidOut:laidOutB prog=true:=by kernel_rfl
def zL (up:Bool)(N:Nat)(t:TypeId){H:Type}(d:DataW H):Prop :=
 match up with | true=>Rows.uptoBulk d≤N | false=>(DataW.weights prog t d).all (·≤reachBytes)=true
def ArgC (up:Bool)(N:Nat)(t:TypeId)(W:World)(cs:List Value):Prop :=
 ∃ (H:Type) (enc:TypeId × Value→H) (d:DataW H) (ps:List MemPlace) (fuel:Nat),DataW.trod enc prog W 0 (fun _=>true) true fuel t cs=some (d,ps)∧zL up N t d
def Arg (up:Bool)(t:TypeId)(W:World)(v:Value):Prop :=
 ArgC up 1048576 t W v.cells.toList∧∃ base,Value.okWide prog W .any base t v
def jdc (up:Bool)(W:World):List TypeId→List Value→Prop
 | [],[]=>True
 | t::ts,v::vs=>Arg up t W v∧jdc up W ts vs
 | _,_=>False
set_option maxRecDepth 100000 in
theorem jeg {up:Bool}{H:Type}{enc:TypeId × Value→H}{W:World}{base:Nat}:∀ {ts:List TypeId} {vs:List Value} {ds:List (DataW H)} {ps:List MemPlace},
  DataW.TrodAll enc prog W 0 (fun _=>true) true ts vs ds ps→(∀ (j:Nat) t v,ts[j]?=some t→vs[j]?=some v→Value.okWide prog W .any base t v) →
  (match up with | true=>Rows.uptoBulkAll ds≤1048576 | false=>(DataW.weightsEach prog ts ds).all (·≤reachBytes)=true)→jdc up W ts vs
 | [],[],[],_,_,_,_=>trivial
 | t::ts,v::vs,d::ds,ps,h,hv,hs=>by
  obtain ⟨p,q,h1,h2,rfl⟩:=h;refine ⟨⟨⟨H,enc,d,p,h1.choose,h1.choose_spec,?_⟩,base,hv 0 t v rfl rfl⟩,jeg (base:=base) h2 (fun j t v ht a0=>hv (j+1) t v (by simpa using ht) (by simpa using a0)) ?_⟩
  ·
   cases up with
   | true=>simp only [Rows.uptoBulkAll] at hs;show Rows.uptoBulk d≤1048576;omega
   | false=>simp only [DataW.weightsEach,List.all_append,Bool.and_eq_true] at hs;exact hs.1
  ·
   cases up with
   | true=>simp only [Rows.uptoBulkAll] at hs ⊢;omega
   | false=>simp only [DataW.weightsEach,List.all_append,Bool.and_eq_true] at hs;exact hs.2
 | [],[],_::_,_,h,_,_=>h.elim
 | [],_::_,_,_,h,_,_=>h.elim
 | _::_,[],_,_,h,_,_=>h.elim
 | _::_,_::_,[],_,h,_,_=>h.elim
theorem uX {H:Type}{enc:TypeId × Value→H}{W W':World}(hb:Below W.heap.size W W'):∀ {ts:List TypeId} {vs:List Value} {ds:List (DataW H)} {ps:List MemPlace},
  (∀ t∈ts,prog.readableRec t=true∧t<prog.types.size)→DataW.TrodAll enc prog W 0 (fun _=>true) true ts vs ds ps→(∀ x∈ps,x.block<W.heap.size) →
  DataW.TrodAll enc prog W' 0 (fun b=>decide (b<W.heap.size)) true ts vs ds ps
 | [],[],[],_,_,h,_=>h
 | t::ts,v::vs,d::ds,ps,hr,h,hlt=>by
  obtain ⟨p,q,h1,h2,rfl⟩:=h;refine ⟨p,q,Below.trod L.laidOut (hr t (by simp)).1 (hr t (by simp)).2 h1 hb (fun x hx=>hlt x (by simp [hx])),uX hb (fun t ht=>hr t (by simp [ht])) h2 (fun x hx=>hlt x (by simp [hx])),rfl⟩
 | [],[],_::_,_,_,h,_=>h.elim
 | [],_::_,_,_,_,h,_=>h.elim
 | _::_,[],_,_,_,h,_=>h.elim
 | _::_,_::_,[],_,_,h,_=>h.elim
theorem ArgC.int {up:Bool}{N:Nat}{t:TypeId}{W:World}{cs:List Value}{k:IntKind}(ht:prog.underlying t=some (.int k))(h:ArgC up N t W cs):∃ n,cs = [.int k n]∧(Lit.int k n).wf=true:=by
 obtain ⟨H,enc,d,ps,fuel,h,_⟩:=h;obtain ⟨n,h1,_,h2⟩:=DataW.trod_int ht h;exact ⟨n,h1,h2⟩
theorem ArgC.bool {up:Bool}{N:Nat}{t:TypeId}{W:World}{cs:List Value}(ht:prog.underlying t=some .bool)(h:ArgC up N t W cs):∃ b,cs = [.bool b]:=by
 obtain ⟨H,enc,d,ps,fuel,h,_⟩:=h;obtain ⟨n,h1,_⟩:=DataW.trod_bool ht h;exact ⟨n,h1⟩
theorem ArgC.string {up:Bool}{N:Nat}{t:TypeId}{W:World}{cs:List Value}(ht:prog.underlying t=some .string)(h:ArgC up N t W cs):∃ s:ByteArray,cs = [.string s]∧s.size≤9223372036854775807∧(up=true→s.size+1≤N)∧(up=false→s.size≤140737488351232):=by
 obtain ⟨H,enc,d,ps,fuel,h,hs⟩:=h;obtain ⟨s,h1,h2,h3⟩:=DataW.trod_string ht h;simp only [Prod.mk.injEq] at h2;obtain ⟨rfl,rfl⟩:=h2;have e:s.data.toList.length=s.size:=by rw [Array.length_toList];rfl
 refine ⟨s,h1,h3,fun hu=>?_,fun hu=>?_⟩
 · subst hu;simp only [zL,Rows.uptoBulk] at hs;omega
 · subst hu;simp only [zL,DataW.weights,List.all_cons,List.all_nil,Bool.and_true,reachBytes] at hs;have:=of_decide_eq_true hs;omega
theorem ArgC.struct {up:Bool}{N:Nat}{t:TypeId}{W:World}{cs:List Value}{fs:Array Field}(ht:prog.underlying t=some (.struct fs))(h:ArgC up N t W cs) :
  cs.length=prog.cellsOf t∧∃ Ns:List Nat,Ns.length=fs.size∧(up=true→Ns.sum+1≤N)∧∀ (i:Nat) (f:Field),fs[i]?=some f→ArgC up (Ns.getD i 0) f.type W ((cs.drop f.offset).take (prog.cellsOf f.type)):=by
 obtain ⟨H,enc,d,ps,fuel,h,hs⟩:=h;obtain ⟨xs,n,rfl,h1,h2,h3,h4⟩:=DataW.trod_struct ht h;simp only [Prod.mk.injEq] at h1;obtain ⟨rfl,rfl⟩:=h1;refine ⟨h2,xs.map (fun x=>Rows.uptoBulk x.1),by simpa using h3,fun hu=>?_,fun i f hf=>?_⟩
 ·
  subst hu;simp only [zL,Rows.uptoBulk] at hs;have:∀ l:List (DataW H × List MemPlace),(l.map (fun x=>Rows.uptoBulk x.1)).sum=Rows.uptoBulkAll (l.map (·.1)):=by
   intro l;induction l with
   | nil=>rfl
   | cons a l ih=>simp [Rows.uptoBulkAll,ih]
  rw [this];omega
 ·
  have hi:i<xs.length:=by rw [h3];exact (Array.getElem?_eq_some_iff.1 hf).1
  have h5:=h4 i f hf;rw [List.getElem?_eq_getElem hi] at h5;refine ⟨H,enc,xs[i].1,xs[i].2,n,h5,?_⟩
  cases up with
  | true=>simp only [zL];rw [List.getD,List.getElem?_map,List.getElem?_eq_getElem hi];exact Nat.le_refl _
  | false =>
   simp only [zL,DataW.weights,ht] at hs ⊢;refine List.all_eq_true.2 fun m hm=>List.all_eq_true.1 hs m ?_
   exact DataW.weights_mem_each (j:=i) (t:=f.type) (d:=xs[i].1) (by simpa using (congrArg (Option.map (·.type)) hf)) (by simp [List.getElem?_eq_getElem hi]) m hm
theorem jfw {w:World}{a:Addr}{n:Nat}{cs:List Value}(h:w.cells? 0 a n=some cs):cs.length=n∧∀ j,j<n→w.cell? (a.add j)=some (cs.getD j undef):=by
 unfold World.cells? at h;rw [if_pos (Nat.zero_le _)] at h;have h1:=mapM_some_length h
 simp at h1
 refine ⟨h1,fun j hj=>?_⟩
 have:=mapM_some_get h j j (by simp [hj])
 rw [this,List.getD,List.getElem?_eq_getElem (by omega)];rfl
theorem ArgC.slice {up:Bool}{N:Nat}{t e:TypeId}{W:World}{cs:List Value}{size:Nat}(ht:prog.underlying t=some (.slice e))(a1:prog.cellsOf e=size)(a8:0<size)(h:ArgC up N t W cs) :
  ∃ a n cap,cs = [.slice a n cap]∧n≤cap∧cap≤9223372036854775807∧(a=none→cap=0)∧(up=false→cap*prog.bytesOf e≤140737488351232) ∧
   ∃ Ns:List Nat,Ns.length=n∧(up=true→Ns.sum+1≤N∧n+1≤N) ∧
   ∀ i,i<n→∃ b off cs',a=some ⟨b,off,none⟩∧cs'.length=size∧(∀ j,j<size→W.cell? ⟨b,off+(i*size+j),none⟩=some (cs'.getD j undef))∧ArgC up (Ns.getD i 0) e W cs':=by
 obtain ⟨H,enc,d,ps,fuel,h,hs⟩:=h
 rcases DataW.trod_slice ht h with ⟨h1,h2⟩ | ⟨a,len,cap,elems,rest,n,rfl,h1,h2,_,h3,h4,h5,h6,h7,_⟩
 ·
  subst h1;simp only [Prod.mk.injEq] at h2;obtain ⟨rfl,rfl⟩:=h2;refine ⟨none,0,0,rfl,by omega,by omega,fun _=>rfl,fun _=>by omega,[],rfl,fun hu=>?_,fun i hi=>by omega⟩
  subst hu;simp only [zL,Rows.uptoBulk] at hs;simp;omega
 ·
  subst h1;simp only [Prod.mk.injEq] at h2;obtain ⟨rfl,rfl⟩:=h2;obtain ⟨h7,_⟩:=h7 rfl;refine ⟨some a,len,cap,rfl,h3,by unfold maxLen at h4;omega,fun h=>by (cases h),fun hu=>?_,elems.map (fun x=>Rows.uptoBulk x.1),by simpa using h5,fun hu=>?_,fun i hi=>?_⟩
  ·
   subst hu;simp only [zL,DataW.weights,ht,List.all_cons,Bool.and_eq_true,List.length_map,reachBytes] at hs;have:elems.length+rest.length=cap:=by omega
   rw [this] at hs;exact of_decide_eq_true hs.1
  ·
   subst hu;simp only [zL,Rows.uptoBulk] at hs;have hb:∀ l:List (DataW H × List MemPlace),(l.map (fun x=>Rows.uptoBulk x.1)).sum=Rows.uptoBulkAll (l.map (·.1))∧l.length≤Rows.uptoBulkAll (l.map (·.1)):=by
    intro l;induction l with
    | nil=>exact ⟨rfl,by simp⟩
    | cons a l ih =>
     have h1:1≤Rows.uptoBulk a.1:=by
      cases a.1 with
      | lit l=>cases l <;> simp [Rows.uptoBulk]
      | _=>simp [Rows.uptoBulk]
     simp only [List.map_cons,List.sum_cons,Rows.uptoBulkAll,List.length_cons,ih.1,true_and];omega
   have:=hb elems;rw [this.1];omega
  ·
   have a2:i<elems.length:=by omega
   have h8:=h6 i hi;rw [List.getElem?_eq_getElem a2] at h8;simp only [Option.bind_eq_some_iff] at h8;obtain ⟨cs',a5,a6⟩:=h8;obtain ⟨hl,a3⟩:=jfw a5;rw [a1] at hl;have a0:a.spot=none:=by
    have h0:=h6 0 (by omega)
    rw [List.getElem?_eq_getElem (by omega),Nat.zero_mul] at h0
    simp only [Option.bind_eq_some_iff] at h0;obtain ⟨cs0,a7,_⟩:=h0;have h9:=(jfw a7).2 0 (by rw [a1];omega)
    simpa [Addr.add] using World.cell?_spot h9
   obtain ⟨b,off,spot⟩:=a;simp only at a0;subst a0;refine ⟨b,off,cs',rfl,hl,fun j hj=>?_,H,enc,elems[i].1,elems[i].2,n,a6,?_⟩
   ·
    have:=a3 j (by omega)
    rw [a1] at this;rw [add_plain,add_plain,Nat.add_assoc] at this;exact this
   ·
    cases up with
    | true=>simp only [zL];rw [List.getD,List.getElem?_map,List.getElem?_eq_getElem a2];exact Nat.le_refl _
    | false =>
     simp only [zL,DataW.weights,ht,List.all_cons,Bool.and_eq_true,List.all_append] at hs ⊢;have a4:∀ (l:List (DataW H)) (d:DataW H),d∈l→(DataW.weightsAll prog e l).all (·≤reachBytes)=true→(DataW.weights prog e d).all (·≤reachBytes)=true:=by
      intro l d hd
      induction l with
      | nil=>cases hd
      | cons x l ih =>
       intro hw;simp only [DataW.weightsAll,List.all_append,Bool.and_eq_true] at hw
       cases List.mem_cons.1 hd with
       | inl e=>subst e;exact hw.1
       | inr e=>exact ih e hw.2
     exact a4 (elems.map (·.1)) _ (List.mem_map.2 ⟨_,List.getElem_mem a2,rfl⟩) hs.2.1
theorem jhy {α:Type}(z : α)(Q:Nat → α→Prop):∀ n:Nat,(∀ i,i<n→∃ x,Q i x)→∃ l:List α,l.length=n∧∀ i,i<n→Q i (l.getD i z)
 | 0,_=>⟨[],rfl,fun i h=>by omega⟩
 | n+1,h=>by
  obtain ⟨l,h1,h2⟩:=jhy z Q n (fun i hi=>h i (by omega))
  obtain ⟨x,hx⟩:=h n (by omega)
  refine ⟨l ++ [x],by simp [h1],fun i hi=>?_⟩
  by_cases hin:i<n
  · rw [List.getD,List.getElem?_append_left (by omega)];exact h2 i hin
  ·
   obtain rfl:i=n:=by omega
   rw [List.getD,List.getElem?_append_right (by omega),h1];simpa using hx
theorem ug {α:Type}(f : α→List Value)(size:Nat)(hs:∀ x,(f x).length=size)(hp:0<size)(z : α):∀ (l:List α) (i j:Nat),i<l.length→j<size→(l.flatMap f).getD (i*size+j) undef=(f (l.getD i z)).getD j undef
 | [],i,j,hi,_=>by simp at hi
 | a::l,0,j,_,hj=>by
  rw [List.flatMap_cons,List.getD,List.getElem?_append_left (by rw [hs];omega)];simp
 | a::l,i+1,j,hi,hj=>by
  have:=ug f size hs hp z l i j (by simpa using hi) hj
  rw [List.flatMap_cons,List.getD,List.getElem?_append_right (by rw [hs,Nat.add_mul];omega),hs,show (i+1)*size+j-size=i*size+j by rw [Nat.add_mul];omega]
  simpa [List.getD] using this
theorem ui {α:Type}(f : α→List Value)(size:Nat)(hs:∀ x,(f x).length=size):∀ l:List α,(l.flatMap f).length=l.length*size
 | []=>by simp
 | a::l=>by rw [List.flatMap_cons,List.length_append,hs,ui f size hs l,List.length_cons,Nat.add_mul];omega
theorem ArgC.flat {up:Bool}{N:Nat}{t e:TypeId}{W:World}{v:Value}{size:Nat}{α:Type}(z : α)(f : α→List Value)(hf:∀ x,(f x).length=size)(hp:0<size)(R:Nat → α→Prop)(ht:prog.underlying t=some (.slice e))(a1:prog.cellsOf e=size)(h:ArgC up N t W [v])(a2:∀ N cs,cs.length=size→ArgC up N e W cs→∃ x,cs=f x∧R N x) :
  ∃ l:List α,Rd W v l.length (l.flatMap f)∧(up=false→l.length*prog.bytesOf e≤140737488351232)∧∃ Ns:List Nat,Ns.length=l.length∧(up=true→Ns.sum+1≤N∧l.length+1≤N)∧∀ i,i<l.length→R (Ns.getD i 0) (l.getD i z):=by
 obtain ⟨a,n,cap,h1,h2,h3,h4,h5,Ns,h6,h7,h8⟩:=h.slice ht a1 hp;simp only [List.cons.injEq,and_true] at h1;subst h1;obtain ⟨l,hl,hv⟩:=jhy z (fun i x=>∃ b off,a=some ⟨b,off,none⟩∧(∀ j,j<size→W.cell? ⟨b,off+(i*size+j),none⟩=some ((f x).getD j undef))∧R (Ns.getD i 0) x) n (fun i hi=>by
  obtain ⟨b,off,cs',g1,g2,g3,g4⟩:=h8 i hi;obtain ⟨x,rfl,hx⟩:=a2 _ cs' g2 g4;exact ⟨x,b,off,g1,g3,hx⟩)
 subst hl;refine ⟨l,⟨a,cap,rfl,h2,h3,h4,fun j hj=>?_⟩,fun hu=>Nat.le_trans (Nat.mul_le_mul_right _ h2) (h5 hu),Ns,h6,h7,fun i hi=>?_⟩
 ·
  rw [ui f size hf] at hj;have hq:j / size<l.length:=(Nat.div_lt_iff_lt_mul hp).2 hj;obtain ⟨b,off,g1,g2,_⟩:=hv (j / size) hq;have hr:j % size<size:=Nat.mod_lt _ hp;have a0:j / size*size+j % size=j:=by rw [Nat.mul_comm];exact Nat.div_add_mod j size
  refine ⟨b,off,g1,?_⟩;have g3:=g2 (j % size) hr;rw [a0] at g3;rw [g3,← ug f size hf hp z l (j / size) (j % size) hq hr,a0]
 ·
  obtain ⟨_,_,_,_,g3⟩:=hv i hi;exact g3
theorem jQ {n:Int}(h:(Lit.int .i64 n).wf=true) : -9223372036854775808≤n∧n≤9223372036854775807:=by
 simp [Lit.wf,IntKind.min,IntKind.max,IntKind.signed,IntKind.bits] at h;omega
theorem Arg.slice {up:Bool}{t e:TypeId}{W:World}{v:Value}(ht:prog.underlying t=some (.slice e))(h:Arg up t W v):ArgC up 1048576 t W [v]:=by
 obtain ⟨h,base,ho⟩:=h;obtain ⟨a,n,c,rfl⟩:=Go.WideShapes.okWide_slice ht ho;exact h
theorem Arg.int {up:Bool}{t:TypeId}{k:IntKind}{W:World}{v:Value}(ht:prog.underlying t=some (.int k))(h:Arg up t W v):∃ n,v=.int k n∧(Lit.int k n).wf=true:=by
 obtain ⟨h,base,ho⟩:=h;obtain ⟨n,rfl⟩:=Go.WideShapes.okWide_int ht ho;obtain ⟨m,h1,h2⟩:=h.int ht
 simp [Value.cells] at h1
 subst h1;exact ⟨n,rfl,h2⟩
theorem jdD {cs:List Value}{o:Nat}{c:Value}(h:cs[o]?=some c):(cs.drop o).take 1 = [c]:=by
 have ho:=(List.getElem?_eq_some_iff.1 h).1;have hc:=(List.getElem?_eq_some_iff.1 h).2;rw [List.drop_eq_getElem_cons ho,hc];rfl
theorem ArgC.fcell {up:Bool}{N:Nat}{t:TypeId}{fs:Array Field}{W:World}{cs:List Value}(h:ArgC up N t W cs)(ht:prog.underlying t=some (.struct fs))(i:Nat)(f:Field)(hf:fs[i]?=some f)(hc:prog.cellsOf f.type=1)(c:Value)(a0:cs[f.offset]?=some c) :
  ∃ M,M≤N+(if up then 0 else M)∧ArgC up M f.type W [c]:=by
 obtain ⟨_,Ns,h1,h2,h3⟩:=h.struct ht;have g:=h3 i f hf;rw [hc,jdD a0] at g;refine ⟨_,?_,g⟩
 cases up with
 | false=>simp
 | true =>
  have:=h2 rfl;have a1:∀ (l:List Nat) (i:Nat),l.getD i 0≤l.sum:=by
   intro l
   induction l with
   | nil=>intro i;simp
   | cons a l ih =>
    intro i
    cases i with
    | zero=>simp
    | succ i=>have:=ih i;simp at this ⊢;omega
  have:=a1 Ns i;rw [if_pos rfl];omega
theorem ArgC.fint {up:Bool}{N:Nat}{t:TypeId}{fs:Array Field}{W:World}{cs:List Value}(h:ArgC up N t W cs)(ht:prog.underlying t=some (.struct fs))(i:Nat)(f:Field)(hf:fs[i]?=some f)(hc:prog.cellsOf f.type=1)(c:Value)(a0:cs[f.offset]?=some c)(k:IntKind)(hk:prog.underlying f.type=some (.int k)):∃ n,c=.int k n∧(Lit.int k n).wf=true:=by
 obtain ⟨M,_,g⟩:=h.fcell ht i f hf hc c a0;obtain ⟨n,e,hw⟩:=g.int (k:=k) hk;simp only [List.cons.injEq,and_true] at e;exact ⟨n,e,hw⟩
theorem ArgC.fbool {up:Bool}{N:Nat}{t:TypeId}{fs:Array Field}{W:World}{cs:List Value}(h:ArgC up N t W cs)(ht:prog.underlying t=some (.struct fs))(i:Nat)(f:Field)(hf:fs[i]?=some f)(hc:prog.cellsOf f.type=1)(c:Value)(a0:cs[f.offset]?=some c)(hk:prog.underlying f.type=some .bool):∃ b,c=.bool b:=by
 obtain ⟨M,_,g⟩:=h.fcell ht i f hf hc c a0;obtain ⟨n,e⟩:=g.bool hk;simp only [List.cons.injEq,and_true] at e;exact ⟨n,e⟩
theorem ArgC.fstring {up:Bool}{N:Nat}{t:TypeId}{fs:Array Field}{W:World}{cs:List Value}(h:ArgC up N t W cs)(ht:prog.underlying t=some (.struct fs))(i:Nat)(f:Field)(hf:fs[i]?=some f)(hc:prog.cellsOf f.type=1)(c:Value)(a0:cs[f.offset]?=some c)(hk:prog.underlying f.type=some .string):∃ s:ByteArray,c=.string s∧s.size≤9223372036854775807∧(up=true→s.size+1≤N)∧(up=false→s.size≤140737488351232):=by
 obtain ⟨M,hM,g⟩:=h.fcell ht i f hf hc c a0;obtain ⟨s,e,h1,h2,h3⟩:=g.string hk;simp only [List.cons.injEq,and_true] at e;refine ⟨s,e,h1,fun hu=>?_,h3⟩
 have:=h2 hu;subst hu
 simp at hM;omega
theorem ArgC.fstruct {up:Bool}{N:Nat}{t:TypeId}{fs:Array Field}{W:World}{cs:List Value}(h:ArgC up N t W cs)(ht:prog.underlying t=some (.struct fs))(i:Nat)(f:Field)(hf:fs[i]?=some f)(t':TypeId)(o n:Nat)(e1:f.type=t')(e2:f.offset=o)(e3:prog.cellsOf t'=n):∃ M,M≤N+(if up then 0 else M)∧ArgC up M t' W ((cs.drop o).take n):=by
 subst e1;subst e2;subst e3;obtain ⟨_,Ns,h1,h2,h3⟩:=h.struct ht;refine ⟨_,?_,h3 i f hf⟩
 cases up with
 | false=>simp
 | true =>
  have:=h2 rfl;have a0:∀ (l:List Nat) (i:Nat),l.getD i 0≤l.sum:=by
   intro l
   induction l with
   | nil=>intro i;simp
   | cons a l ih =>
    intro i
    cases i with
    | zero=>simp
    | succ i=>have:=ih i;simp at this ⊢;omega
  have:=a0 Ns i;rw [if_pos rfl];omega
def I64 (n:Int):Prop := -9223372036854775808≤n∧n≤9223372036854775807
end Go.Proofs.YtgcnolapjppbpaaGreatDoor
