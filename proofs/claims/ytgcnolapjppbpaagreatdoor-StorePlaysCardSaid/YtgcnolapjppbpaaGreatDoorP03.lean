/-
  Texts of one proof, one behind the other.
-/
import Derived.Test.YtgcnolapjppbpaaGreatDoorP02
import Derived.Deep.LoopGhost
import Derived.Test.YtgcnolapjppbpaaGreatDoorP00
namespace Go.Proofs.YtgcnolapjppbpaaGreatDoor
open Go.RowKit _root_.Go.Proofs.Tryz
set_option maxRecDepth 100000
set_option maxHeartbeats 25600000
theorem jkr (n:Int)(w:World)(h:n<1∨4096<n):Calls prog 20 #[.int .i64 n] w fun e w'=>e=.returned (.tuple #[.pointer none,jo 1])∧w=w':=by
 by_cases h1:n<1
 ·
  go_enter func20,ntmps20
  go_wp2
  go_ret2
  exact ⟨rfl,rfl⟩
 ·
  have h2:4096<n:=by omega
  go_enter func20,ntmps20
  go_wp2
  go_ret2
  exact ⟨rfl,rfl⟩
theorem jdE (n:Nat):((List.replicate n ByteArray.empty).map Value.string).toArray=madeCells #[.string ByteArray.empty] n:=by
 rw [List.map_replicate,← toList_madeCells_one,Array.toArray_toList]
theorem jjr (n:Nat)(hn:n≤4096)(w:World):(Instr.makeSlice 81 (.int .i64 (n:Int)) (.int .i64 (n:Int))).run prog w =
  .ok (.slice (some ⟨w.heap.size,0,none⟩) n n) (w.alloc (.cells (madeCells #[.string ByteArray.empty] n) 9)):=by
 obtain ⟨i0,hi,a0,a1,a2⟩:=info_parts jc9;have h:=run_make (P:=prog) w 81 9 i0 (.string ByteArray.empty) underlying81 hi a0 .i64 .i64 (n:Int) (n:Int) (by omega) (Int.le_refl _) (by rw [a2];omega) (by omega)
 simpa [a1,Value.cells] using h
theorem jjR (n:Nat)(w:World)(h1:1≤n)(h2:n≤4096):Calls prog 20 #[.int .i64 (n:Int)] w fun e w'=>∃ p F,e=.returned (.tuple #[.pointer (some ⟨p,0,none⟩),jo 0]) ∧
  IsDisk w' { strs:=List.replicate n ByteArray.empty,trail := [],left:=none } p F∧Below w.heap.size w w'∧∀ k,F k→w.heap.size≤k:=by
 have a0:=jjr n h2;go_enter func20,ntmps20
 go_wp2
 go_ret2
 refine ⟨w.heap.size+1,_,rfl,⟨w.heap.size,.slice none 0 0,_,none,?_,?_,World.ownsRow_nil _ _ _ _,⟨rfl,rfl⟩,by simpa using h2,by simp,fun k hk=>by simp [Value.ownBlock] at hk,fun k hk=>by simp at hk,rfl⟩,by go_grown,?_⟩
 ·
  have:=Box.new (w.alloc (.cells (madeCells #[.string ByteArray.empty] n) 9)) #[.slice (some ⟨w.heap.size,0,none⟩) n n,.slice none 0 0,.func (.func 35) #[] #[]] 83
  simpa using this
 ·
  have:=(Box.new w (madeCells #[.string ByteArray.empty] n) 9);rw [jdE];exact this.below (ja _ _)
 ·
  rintro k (h | h | h | h)
  · omega
  · omega
  · simp [Value.ownBlock] at h
  · cases h
theorem IsDisk.power {w:World}{d:DiskM}{p:Nat}{F:Nat→Prop}(h:IsDisk w d p F)(pv:Value)(left:Option Nat)(q:Option Nat)(hP:PowerAt w pv left q)(hq:∀ k,q=some k→¬ F k) :
  ∃ F',IsDisk (w.setCell ⟨p,2,none⟩ pv) { d with left:=left } p F'∧Mod F w (w.setCell ⟨p,2,none⟩ pv)∧∀ k,F' k→F k∨q=some k:=by
 obtain ⟨bb,tv,pv0,q0,h1,h2,h3,h4,h5,h6,h7,h8,rfl⟩:=h;refine ⟨jhu p bb tv q,⟨bb,tv,pv,q,by simpa using h1.set 2 pv,h2.set_other (fun e=>h6 e.symm) pv,yB h3 (Mod.set (fun k=>k=p) w ⟨p,2,none⟩ pv rfl) (fun k hk e=>(h7 k hk).1 e),hP.mod (Mod.set (fun k=>k=p) w ⟨p,2,none⟩ pv rfl) (fun k hk e=>hq k hk (.inl e)),h5,h6,h7,fun k hk=>⟨fun e=>hq k hk (.inl e),fun e=>hq k hk (.inr (.inl e)),fun e=>hq k hk (.inr (.inr (.inl e)))⟩,rfl⟩,Mod.set _ _ _ _ (.inl rfl),?_⟩
 rintro k (h | h | h | h)
 · exact .inl (.inl h)
 · exact .inl (.inr (.inl h))
 · exact .inl (.inr (.inr (.inl h)))
 · exact .inr h
theorem IsDisk.cells {w:World}{d:DiskM}{p:Nat}{F:Nat→Prop}(h:IsDisk w d p F):F p∧∃ c0 c1 c2,Box w p #[c0,c1,c2] 83:=by
 obtain ⟨bb,tv,pv0,q0,h1,h2,h3,h4,h5,h6,h7,h8,rfl⟩:=h;exact ⟨.inl rfl,_,_,_,h1⟩
theorem jdV (n:Nat)(w:World):Calls prog 36 #[.int .i64 (n:Int)] w fun e w'=>e=.returned (.func (.func 57) #[] #[.pointer (some ⟨w.heap.size,0,none⟩)])∧w'=w.alloc (.cells #[.int .i64 (n:Int)] 3):=by
 have a0:∀ (fn:Fn) (first cap:Array Value) (w:World),(Instr.makeFunc fn first cap).run prog w=.ok (.func fn first cap) w:=fun _ _ _ _=>rfl
 go_enter func36,ntmps36
 go_wp2
 go_ret;exact ⟨rfl,rfl⟩
theorem jhM (d:DiskM)(p:Nat)(F:Nat→Prop)(n:Int)(w:World)(h:IsDisk w d p F)(hn:n≤9223372036854775807) :
  Calls prog 11 #[.pointer (some ⟨p,0,none⟩),.int .i64 n] w fun e w'=>e=.returned (.tuple #[])∧∃ F',IsDisk w' { d with left:=if n<0 then none else some n.toNat } p F'∧Mod F w w'∧∀ k,F' k→F k∨w.heap.size≤k:=by
 obtain ⟨F1,g1,g2,g3⟩:=h.power (.func (.func 35) #[] #[]) none none ⟨rfl,rfl⟩ (fun k hk=>by cases hk)
 obtain ⟨_,c0,c1,c2,hb⟩:=h.cells;have hc:=hb.cell 2 _ rfl;have hf:=hb.free 2;have a5:=h.lt;clear h hb;by_cases h0:n<0
 ·
  go_enter func11,ntmps11
  go_wp2
  go_end0
  refine ⟨rfl,F1,by simpa [h0] using g1,g2,fun k hk=>?_⟩
  rcases g3 k hk with h | h
  · exact .inl h
  · cases h
 ·
  obtain ⟨m,rfl⟩:=Int.eq_ofNat_of_zero_le (show 0≤n by omega)
  go_enter func11,ntmps11;go_wp2_with fail;refine (jdV m _).mono ?_;rintro e w' ⟨rfl,rfl⟩;have a0:(w.setCell ⟨p,2,none⟩ (.func (.func 35) #[] #[])).heap.size=w.heap.size:=by simp
  have a1:=Box.new (w.setCell ⟨p,2,none⟩ (.func (.func 35) #[] #[])) #[.int .i64 (m:Int)] 3;have g4:=g1.mod (Mod.alloc (fun _=>False) _ (.cells #[.int .i64 (m:Int)] 3)) (fun _ _ h=>h)
  obtain ⟨F2,k1,k2,k3⟩:=g4.power (.func (.func 57) #[] #[.pointer (some ⟨w.heap.size,0,none⟩)]) (some m) (some w.heap.size) ⟨w.heap.size,rfl,rfl,by rw [← a0];exact a1,by omega⟩ (fun k hk hF=>by
   injection hk with hk;subst hk
   rcases g3 _ hF with h | h
   · have:=a5 _ h;omega
   · cases h)
  obtain ⟨_,d0,d1,d2,a2⟩:=g4.cells;have hd:=a2.cell 2 _ rfl;have a6:=a2.free 2;have a3:((w.setCell ⟨p,2,none⟩ (.func (.func 35) #[] #[])).alloc (.cells #[.int .i64 (m:Int)] 3)).heap.size=w.heap.size+1:=by simp
  have m1:Mod F w ((w.setCell ⟨p,2,none⟩ (.func (.func 35) #[] #[])).alloc (.cells #[.int .i64 (m:Int)] 3)):=g2.trans (Mod.alloc _ _ _);have G1:=Hd g1;clear g1 g4 a1 a2 hc hf;rw [a0];clear a0;obtain ⟨w2,a4⟩:∃ w2,w2=(w.setCell ⟨p,2,none⟩ (.func (.func 35) #[] #[])).alloc (.cells #[.int .i64 (m:Int)] 3):=⟨_,rfl⟩;rw [← a4] at k1 k2 hd a6 a3 m1 ⊢;clear a4;have a7:w.heap.size≤w2.heap.size:=by omega
  clear a3
  go_wp2
  go_end0
  refine ⟨rfl,F2,by simpa [h0] using k1,?_,fun k hk=>?_⟩
  ·
   refine m1.then k2 (fun i hi=>?_)
   rcases g3 i hi with h | h
   · exact .inl h
   · cases h
  ·
   rcases k3 k hk with h | h
   ·
    rcases g3 k h with h | h
    · exact .inl h
    · cases h
   · injection h with h;right;omega
theorem jcL (src:Value)(n:Nat)(xs:List Value)(w:World)(a1:Rd w src n xs)(hl:xs.length=n*2)(h1:∀ u∈xs,u.oneCell'=true)(hn:n≤1000000000000) :
  Calls prog 53 #[src] w fun e w'=>∃ a c,e=.returned (.slice a n c)∧w'.ownsRow w.heap.size 111 2 (.slice a n c) n xs∧Below w.heap.size w w':=by
 have a4:=a1;obtain ⟨a,cap,rfl,a8,a9,a0,_⟩:=a1;have hq:=fun w=>Lib.run_eql_slice_nil (P:=prog) w 72 111 a n cap 0 0 underlying72
 cases a with
 | none =>
  have a5:=a0 rfl;have a6:n=0:=by omega
  subst a6;subst a5;have:xs = []:=List.eq_nil_of_length_eq_zero (by simpa using hl)
  subst this;clear a0;go_enter func53,ntmps53
  go_wp2
  go_ret;exact ⟨_,_,rfl,World.ownsRow_nil _ _ _ _,Below.refl _ _⟩
 | some a =>
  have a2:(w.alloc (.cells #[] 111)).ownsRow w.heap.size 111 2 (.slice (some ⟨w.heap.size,0,none⟩) 0 0) 0 []:=World.ownsRow_made w #[] 0 (Nat.le_refl _) (by decide) rfl
  have H:=Hd a2;clear a2 a0;go_enter func53,ntmps53
  go_wp2_with (at_builtin;go_loud (refine ji8 rfl _ _ rfl w.heap.size _ _ _ rfl H.1 _ n xs rfl (a4.below (ja _ _)) hl h1 (by omega) (by simp) ?_))
  intro v' w1 a3 a7 _;obtain ⟨va,vc,rfl,_,_⟩:=xJ a3
  go_wp2
  go_ret;exact ⟨va,vc,by simp,by simpa using a3,(ja _ _).trans (ur a7 (B:=w.heap.size) (by simp) (fun k hk=>(H.1.lt k hk).1))⟩
theorem jfh (l:List (Int × ByteArray)):∀ u∈jF l,u.oneCell'=true:=by
 intro u hu;obtain ⟨r,_,hr⟩:=List.mem_flatMap.1 hu
 simp at hr
 rcases hr with rfl | rfl <;> simp [Value.oneCell']
theorem jgz (d:DiskM)(p:Nat)(F:Nat→Prop)(w:World)(h:IsDisk w d p F)(hn:d.trail.length≤1000000000000) :
  Calls prog 29 #[.pointer (some ⟨p,0,none⟩)] w fun e w'=>∃ a c,e=.returned (.slice a d.trail.length c)∧w'.ownsRow w.heap.size 111 2 (.slice a d.trail.length c) d.trail.length (jF d.trail)∧Below w.heap.size w w':=by
 obtain ⟨bb,tv,pv,q,h1,h2,h3,h4,h5,h6,h7,h8,rfl⟩:=h;have a1:=jq h3;obtain ⟨ta,tc,rfl,_,_⟩:=xJ h3;have hc:=h1.cell 1 _ rfl;clear h1 h2 h3 h4 h7 h8;go_enter func29,ntmps29;go_wp2_with fail;refine (jcL _ _ _ _ a1 (yD _) (jfh _) hn).mono ?_;rintro e w' ⟨oa,oc,rfl,a0,hb⟩
 go_wp2
 go_ret;exact ⟨_,_,rfl,a0,hb⟩
theorem jcc (l:List (Int × ByteArray)):∀ strs:List ByteArray,(l.foldl (fun s r=>s.set r.1.toNat r.2) strs).length=strs.length:=by
 induction l with
 | nil=>intro _;rfl
 | cons a l ih=>intro strs;rw [List.foldl_cons,ih];simp
theorem jaM (l:List (Int × ByteArray))(k:Nat)(h:k<l.length):(jF l)[k*2]?=some (.int .i64 l[k].1)∧(jF l)[k*2+1]?=some (.string l[k].2):=by
 induction l generalizing k with
 | nil=>simp at h
 | cons a l ih =>
  cases k with
  | zero=>simp [jF]
  | succ k =>
   have:=ih k (by simpa using h)
   have e:jF (a::l)=.int .i64 a.1::.string a.2::jF l:=by simp [jF]
   rw [e,show (k+1)*2=k*2+1+1 by omega,show (k*2+1+1)+1=(k*2+1)+1+1 by omega]
   simpa using this
theorem jkd (l:List (Int × ByteArray))(k:Nat)(h:k<l.length):∃ (b:Int) (s:ByteArray),l.take (k+1)=l.take k ++ [(b,s)]∧(jF l)[k*2]?=some (.int .i64 b)∧(jF l)[k*2+1]?=some (.string s)∧(b,s)∈l:=by
 obtain ⟨h1,h2⟩:=jaM l k h;exact ⟨l[k].1,l[k].2,by rw [List.take_succ_eq_append_getElem h],h1,h2,List.getElem_mem h⟩
def yo (strs:List ByteArray)(l:List (Int × ByteArray)):List ByteArray:=l.foldl (fun s r=>s.set r.1.toNat r.2) strs
structure DiskM.Wf (d:DiskM):Prop where
 inr:∀ r∈d.trail,0≤r.1∧r.1<d.strs.length
 short:∀ r∈d.trail,r.2.size≤256
 play:d.strs=yo (List.replicate d.strs.length ByteArray.empty) d.trail
theorem uT (s:List ByteArray)(l:List (Int × ByteArray))(r:Int × ByteArray):yo s (l ++ [r])=(yo s l).set r.1.toNat r.2:=by simp [yo]
theorem jfj (s:List ByteArray)(l:List (Int × ByteArray)):(yo s l).length=s.length:=jcc l s
theorem DiskM.write_len (d:DiskM)(i:Int)(s:ByteArray):(d.write i s).1.strs.length=d.strs.length:=by
 unfold DiskM.write;split
 · rfl
 split
 · rfl
 split
 · rfl
 · simp
theorem DiskM.Wf.write {d:DiskM}(h:d.Wf)(i:Int)(s:ByteArray):(d.write i s).1.Wf:=by
 unfold DiskM.write;split
 · exact h
 rename_i h1
 split
 · exact h
 rename_i h2
 split
 · exact h
 refine ⟨fun r hr=>?_,fun r hr=>?_,?_⟩
 ·
  simp only [List.mem_append,List.mem_singleton,List.length_set] at hr ⊢
  rcases hr with hr | rfl
  · exact h.inr r hr
  · simp only;omega
 ·
  simp only [List.mem_append,List.mem_singleton] at hr
  rcases hr with hr | rfl
  · exact h.short r hr
  · simp only;omega
 ·
  simp only [List.length_set];rw [uT,← h.play]
theorem DiskM.Wf.new (n:Nat)(left:Option Nat):({ strs:=List.replicate n ByteArray.empty,trail := [],left:=left }:DiskM).Wf :=
 ⟨fun r hr=>by simp at hr,fun r hr=>by simp at hr,by simp [yo]⟩
theorem DiskM.write_trail (d:DiskM)(i:Int)(s:ByteArray):(d.write i s).1.trail.length≤d.trail.length+1∧d.trail.length≤(d.write i s).1.trail.length:=by
 unfold DiskM.write
 split
 · exact ⟨Nat.le_succ _,Nat.le_refl _⟩
 split
 · exact ⟨Nat.le_succ _,Nat.le_refl _⟩
 split
 · exact ⟨Nat.le_succ _,Nat.le_refl _⟩
 · simp
theorem uK (d:DiskM)(p:Nat)(F:Nat→Prop)(i:Int)(s:ByteArray)(w:World)(h:IsDisk w d p F)(ht:d.trail.length≤100000000000)(hs:s.size≤9223372036854775807) :
  Calls prog 25 #[.pointer (some ⟨p,0,none⟩),.int .i64 i,.string s] w fun e w'=>e=.returned (jo (d.write i s).2) ∧
   ∃ F',IsDisk w' (d.write i s).1 p F'∧Mod F w w'∧∀ k,F' k→F k∨w.heap.size≤k:=by
 unfold DiskM.write;by_cases h1:0≤i∧i<d.strs.length
 ·
  rw [if_neg (by simpa using h1)]
  by_cases h2:256<s.size
  ·
   rw [if_pos h2];refine (jgY d p F i s w h h1 h2).mono ?_;rintro e w' ⟨rfl,rfl⟩;exact ⟨rfl,F,h,Mod.refl _ _,fun k hk=>.inl hk⟩
  ·
   rw [if_neg h2];by_cases h3:d.left=some 0
   ·
    rw [if_pos h3];refine (jf2 d p F i s w h h1 (by omega) h3).mono ?_
    rintro e w' ⟨rfl,rfl⟩;exact ⟨rfl,F,h,Mod.refl _ _,fun k hk=>.inl hk⟩
   ·
    rw [if_neg h3];obtain ⟨n,rfl⟩:=Int.eq_ofNat_of_zero_le h1.1;exact jiC d p F n s w h (by omega) (by omega) h3 ht
 ·
  rw [if_pos h1];refine (jhS d p F i s w h h1).mono ?_;rintro e w' ⟨rfl,rfl⟩;exact ⟨rfl,F,h,Mod.refl _ _,fun k hk=>.inl hk⟩
theorem jfJ (l:List (Int × ByteArray))(k:Nat)(h:k<l.length):(jF l).getD (k*2) undef=.int .i64 (l.getD k (0,ByteArray.empty)).1∧(jF l).getD (k*2+1) undef=.string (l.getD k (0,ByteArray.empty)).2:=by
 obtain ⟨h1,h2⟩:=jaM l k h;exact ⟨by rw [List.getD,h1];simp [h],by rw [List.getD,h2];simp [h]⟩
def zY:Option Nat→Int
 | none => -1
 | some n=>(n:Int)
def IsRef (w:World)(d:DiskM)(rp:Nat)(G:Nat→Prop):Prop :=
 ∃ tv:Value,Box w rp #[.int .i64 (d.strs.length:Int),tv,.int .i64 (zY d.left)] 74∧w.ownsRow 0 111 2 tv d.trail.length (jF d.trail)∧(∀ k,tv.ownBlock=some k→k≠rp)∧(∀ n,d.left=some n→n≤9223372036854775807)∧G=fun k=>k=rp∨tv.ownBlock=some k
theorem IsRef.mod {w w':World}{d:DiskM}{rp:Nat}{G F:Nat→Prop}(h:IsRef w d rp G)(hm:Mod F w w')(hg:∀ k,G k→¬ F k):IsRef w' d rp G:=by
 obtain ⟨tv,h1,h2,h3,a0,rfl⟩:=h;exact ⟨tv,h1.mod hm (hg rp (.inl rfl)),yB h2 hm (fun k hk=>hg k (.inr hk)),h3,a0,rfl⟩
theorem IsRef.lt {w:World}{d:DiskM}{rp:Nat}{G:Nat→Prop}(h:IsRef w d rp G):∀ k,G k→k<w.heap.size:=by
 obtain ⟨tv,h1,h2,h3,a0,rfl⟩:=h;rintro k (rfl | hk)
 · exact h1.lt
 · exact (h2.lt k hk).2
theorem IsRef.below {w w':World}{d:DiskM}{rp:Nat}{G:Nat→Prop}(h:IsRef w d rp G)(hb:Below w.heap.size w w'):IsRef w' d rp G:=h.mod (Mod.of_below (F:=fun _=>False) hb) (fun _ _ h=>h)
def DiskM.read (d:DiskM)(i:Int):ByteArray × Int:=if 0≤i∧i<d.strs.length then (d.strs.getD i.toNat ByteArray.empty,0) else (ByteArray.empty,1)
theorem jfu (d:DiskM)(p:Nat)(F:Nat→Prop)(i:Int)(w:World)(h:IsDisk w d p F) :
  Calls prog 119 #[.pointer (some ⟨p,0,none⟩),.int .i64 i] w fun e w'=>e=.returned (.tuple #[.string (d.read i).1,jo (d.read i).2])∧w=w':=by
 unfold DiskM.read;by_cases hi:0≤i∧i<d.strs.length
 ·
  rw [if_pos hi];obtain ⟨n,rfl⟩:=Int.eq_ofNat_of_zero_le hi.1;exact jgk d p F n w h (by omega)
 ·
  rw [if_neg hi];exact jjX d p F i w h hi
theorem jh1 (n:Int)(w:World)(h:n<1∨4096<n):Calls prog 21 #[.int .i64 n] w fun e w'=>e=.returned (.tuple #[.pointer none,.int .i64 1])∧w'=w:=by
 by_cases h1:n<1
 ·
  go_enter func21,ntmps21;go_wp2_with fail
  go_ret2
  exact ⟨rfl,rfl⟩
 ·
  have h2:4096<n:=by omega
  go_enter func21,ntmps21;go_wp2_with fail
  go_ret2
  exact ⟨rfl,rfl⟩
theorem jgT (n:Nat)(w:World)(h1:1≤n)(h2:n≤4096):Calls prog 21 #[.int .i64 (n:Int)] w fun e w'=>e=.returned (.tuple #[.pointer (some ⟨w.heap.size,0,none⟩),.int .i64 0]) ∧
  ∃ G,IsRef w' { strs:=List.replicate n ByteArray.empty,trail := [],left:=none } w.heap.size G∧Below w.heap.size w w'∧∀ k,G k→w.heap.size≤k:=by
 have c1:¬ (n:Int)<1:=by omega
 have c2:¬ (4096:Int)<(n:Int):=by omega
 go_enter func21,ntmps21;go_wp2_with fail
 go_ret2
 refine ⟨rfl,_,⟨.slice none 0 0,?_,World.ownsRow_nil _ _ _ _,fun k hk=>(by simp [Value.ownBlock] at hk),fun m hm=>(by cases hm),rfl⟩,ja _ _,fun k hk=>?_⟩
 ·
  simp only [List.length_replicate];exact Box.new _ _ _
 ·
  rcases hk with rfl | hk
  · exact Nat.le_refl _
  · simp [Value.ownBlock] at hk
theorem jeQ (d:DiskM)(rp:Nat)(G:Nat→Prop)(n:Int)(w:World)(h:IsRef w d rp G)(hn:n≤9223372036854775807) :
  Calls prog 23 #[.pointer (some ⟨rp,0,none⟩),.int .i64 n] w fun e w'=>e=.returned (.tuple #[])∧IsRef w' { d with left:=if n<0 then none else some n.toNat } rp G∧Mod G w w':=by
 obtain ⟨tv,h1,h2,h3,a3,rfl⟩:=h;have a2:∀ ts t w',(Builtin.max_ ts t #[.int .i64 n,.int .i64 (-1)]).run prog w'=.ok (.int .i64 (zY (if n<0 then none else some n.toNat))) w':=fun ts t w'=>by
  rw [run_max_int2];have:(if (-1:Int) > n then (-1:Int) else n)=zY (if n<0 then none else some n.toNat):=by
   by_cases h:n<0
   · rw [if_pos h];simp only [zY];split <;> omega
   · rw [if_neg h];simp only [zY];split <;> omega
  rw [this]
 have c2:=h1.cell 2 _ rfl;have f2:=h1.free 2;obtain ⟨lf,a1⟩:∃ lf:Option Nat,lf=if n<0 then none else some n.toNat:=⟨_,rfl⟩
 rw [← a1] at a2 ⊢;have B:=Hd h1;have C:=Hd h2;have H:=Hd h3;have A:=Hd a1;clear h1 h2 h3 a1;go_enter func23,ntmps23;go_wp2_with fail;refine bodyPost_end (results_none rfl _ _ _) rfl ?_;have hm:=Mod.set (fun b=>b=rp) w ⟨rp,2,none⟩ (.int .i64 (zY lf)) rfl
 exact ⟨rfl,⟨tv,B.1.set 2 _,yB C.1 hm (fun k hk e=>H.1 k hk e),H.1,fun m a0=>by
  rw [A.1] at a0
  split at a0
  · cases a0
  · injection a0 with a0;omega,rfl⟩,hm.mono (fun b hb=>.inl hb)⟩
theorem jdq {o:Option Nat}:zY o=0↔o=some 0:=by
 cases o with
 | none=>simp [zY]
 | some n=>simp [zY]
theorem zD (d:DiskM)(rp:Nat)(G:Nat→Prop)(i:Int)(s:ByteArray)(w:World)(h:IsRef w d rp G)(ht:d.trail.length≤100000000000)(hs:s.size≤9223372036854775807) :
  Calls prog 26 #[.pointer (some ⟨rp,0,none⟩),.int .i64 i,.string s] w fun e w'=>e=.returned (.int .i64 (d.write i s).2) ∧
   ∃ G',IsRef w' (d.write i s).1 rp G'∧Mod G w w'∧∀ k,G' k→G k∨w.heap.size≤k:=by
 obtain ⟨tv,h1,h2,h3,a0,rfl⟩:=h;have c0:=h1.cell 0 _ rfl;have B:=Hd h1;have L:=Hd h2;have A:=Hd h3;by_cases hi:0≤i∧i<d.strs.length
 ·
  have b8:¬ i<0:=by omega
  have b9:¬ (d.strs.length:Int)≤i:=by omega
  by_cases h256:256<s.size
  ·
   have ew:d.write i s=(d,3):=by unfold DiskM.write;rw [if_neg (by omega),if_pos h256]
   have Ew:=Hd ew;have b5:(256:Int)<(s.size:Int):=by omega
   clear h1 h2 h3 ew;go_enter func26,ntmps26;go_wp2_with fail;go_ret;rw [Ew.1];exact ⟨rfl,_,⟨tv,B.1,L.1,A.1,a0,rfl⟩,Mod.refl _ _,fun k hk=>.inl hk⟩
  ·
   have b5:¬ (256:Int)<(s.size:Int):=by omega
   have c3:decide (256<s.size)=false:=by simp;omega
   have c2:=h1.cell 2 _ rfl;by_cases h0:d.left=some 0
   ·
    have ew:d.write i s=(d,22):=by unfold DiskM.write;rw [if_neg (by omega),if_neg h256,if_pos h0]
    have Ew:=Hd ew;rw [show zY d.left=0 from jdq.2 h0] at c2
    clear h1 h2 h3 ew;go_enter func26,ntmps26;go_wp2_with fail;go_ret;rw [Ew.1];exact ⟨rfl,_,⟨tv,B.1,L.1,A.1,a0,rfl⟩,Mod.refl _ _,fun k hk=>.inl hk⟩
   ·
    have ew:d.write i s=({ strs:=d.strs.set i.toNat s,trail:=d.trail ++ [(i,s)],left:=d.left.map (· - 1) },0):=by unfold DiskM.write;rw [if_neg (by omega),if_neg h256,if_neg h0]
    have Ew:=Hd ew;obtain ⟨ta,tc,rfl,_,_⟩:=xJ h2;obtain ⟨lf,a1⟩:∃ lf:Int,lf=zY d.left:=⟨_,rfl⟩;rw [← a1] at c2;have b3:lf≠0:=by rw [a1];exact fun e=>h0 (jdq.1 e)
    clear b3
    cases hcl:d.left with
    | none =>
     have a9:lf = -1:=by rw [a1,hcl];rfl
     subst a9;rw [hcl] at Ew;have k1:Box w rp #[.int .i64 (d.strs.length:Int),.slice ta d.trail.length tc,.int .i64 (-1)] 74:=by rw [a1];exact h1
     have k2:=h2;have mm:=Mod.refl (fun b=>b=rp) w
     clear h1 h2 h3 a1 ew h0 hcl;have k1':=k1.below (ja (w) (.cells #[.int .i64 i,.string s] 111));have c1':=k1'.cell 1 _ rfl;have c1:=k1.cell 1 _ rfl;have C:=Hd k1';have D:=Hd k2;have E:=Hd mm;have a2:w.heap.size≤(w).heap.size:=mm.size;clear k1 k1' k2 mm c1';go_enter func26,ntmps26
     go_wp2_with (at_builtin;refine ji8 rfl _ _ rfl 0 _ _ _ rfl (D.1.alloc _) _ 1 [.int .i64 i,.string s] rfl (jct _ _ _ _ (by simp)) rfl (jaU _ _) (by omega) (Nat.zero_le _) ?_)
     intro v' w3 a3 a5 a6;obtain ⟨na,nc,rfl,_,_⟩:=xJ a3;have m4:=Mod.of_grown (F:=fun k=>(Value.slice ta d.trail.length tc).ownBlock=some k) a5 (fun _ h=>h)
     have l1:=Box.mod C.1 m4 (fun e=>A.1 rp e rfl)
     have a4:∀ k,(Value.slice na (d.trail.length+1) nc).ownBlock=some k→(Value.slice ta d.trail.length tc).ownBlock=some k∨(w).heap.size≤k:=fun k hk=>by
      rcases a6 with e | e
      · left;rw [← e];exact hk
      · right;rw [e] at hk;injection hk with hk;rw [← hk];simp
     have b4:rp<(w).heap.size:=Nat.lt_of_lt_of_le B.1.lt a2;have f1:=l1.free 1;have c1':=l1.cell 1 _ rfl;have b0:jF (d.trail ++ [(i,s)])=jF d.trail ++ [.int .i64 i,.string s]:=by rw [xK];rfl
     have I:=Hd (l1.set 1 (.slice na (d.trail.length+1) nc));have J:=Hd a3;have K:=Hd m4;have H:=Hd a4;clear l1 a3 a5 a6 m4 a4 c0 c2 c1;go_wp2_with fail;go_ret;rw [Ew.1];have a7:=Mod.set (fun b=>b=rp) w3 ⟨rp,1,none⟩ (.slice na (d.trail.length+1) nc) rfl
     have a8:∀ k,(Value.slice na (d.trail.length+1) nc).ownBlock=some k→k≠rp:=fun k hk e=>by
      rcases H.1 k hk with h | h
      · exact A.1 k h e
      · omega
     refine ⟨rfl,_,⟨.slice na (d.trail.length+1) nc,?_,?_,a8,fun m b1=>by simp at b1,rfl⟩,?_,fun k hk=>?_⟩
     ·
      simp only [List.length_set];exact I.1
     ·
      simp only [List.length_append,List.length_singleton];rw [b0];exact yB J.1 a7 (fun k hk e=>a8 k hk e)
     · exact ((E.1.mono (fun b hb=>.inl hb)).trans (((Mod.alloc (fun b=>(Value.slice ta d.trail.length tc).ownBlock=some b) (w) (.cells #[.int .i64 i,.string s] 111)).trans K.1).mono (fun b hb=>.inr hb))).trans (a7.mono (fun b hb=>.inl hb))
     ·
      rcases hk with rfl | hk
      · exact .inl (.inl rfl)
      ·
       rcases H.1 k hk with h | h
       · exact .inl (.inr h)
       · exact .inr (Nat.le_trans a2 h)
    | some n =>
     obtain ⟨m,rfl⟩:∃ m,n=m+1:=⟨n-1,by
      rcases Nat.eq_zero_or_pos n with h | h
      · rw [h] at hcl;exact absurd hcl h0
      · omega⟩
     have a9:lf=(m:Int)+1:=by rw [a1,hcl];simp [zY]
     have b6:0<lf:=by omega
     have b7:lf≤9223372036854775807:=by have:=a0 (m+1) hcl;omega
     have b2:(m:Int)=lf-1:=by omega
     rw [hcl] at Ew;have k1:Box (w.setCell ⟨rp,2,none⟩ (.int .i64 (lf-1))) rp #[.int .i64 (d.strs.length:Int),.slice ta d.trail.length tc,.int .i64 (lf-1)] 74:=h1.set 2 _;have mm:=Mod.set (fun b=>b=rp) w ⟨rp,2,none⟩ (.int .i64 (lf-1)) rfl
     have k2:=yB h2 mm (fun k hk e=>h3 k hk e)
     have f2:=h1.free 2;have c1:=h1.cell 1 _ rfl;have M:=Hd b2;have N:=Hd (a0 (m+1) hcl);clear h1 h2 h3 a1 ew h0 hcl a9 b2 a0;have k1':=k1.below (ja (w.setCell ⟨rp,2,none⟩ (.int .i64 (lf-1))) (.cells #[.int .i64 i,.string s] 111));have c1':=k1'.cell 1 _ rfl;have C:=Hd k1';have D:=Hd k2;have E:=Hd mm;have a2:w.heap.size≤(w.setCell ⟨rp,2,none⟩ (.int .i64 (lf-1))).heap.size:=mm.size;clear k1 k1' k2 mm c1';go_enter func26,ntmps26
     go_wp2_with (at_builtin;refine ji8 rfl _ _ rfl 0 _ _ _ rfl (D.1.alloc _) _ 1 [.int .i64 i,.string s] rfl (jct _ _ _ _ (by simp)) rfl (jaU _ _) (by omega) (Nat.zero_le _) ?_)
     intro v' w3 a3 a5 a6;obtain ⟨na,nc,rfl,_,_⟩:=xJ a3;have m4:=Mod.of_grown (F:=fun k=>(Value.slice ta d.trail.length tc).ownBlock=some k) a5 (fun _ h=>h)
     have l1:=Box.mod C.1 m4 (fun e=>A.1 rp e rfl)
     have a4:∀ k,(Value.slice na (d.trail.length+1) nc).ownBlock=some k→(Value.slice ta d.trail.length tc).ownBlock=some k∨(w.setCell ⟨rp,2,none⟩ (.int .i64 (lf-1))).heap.size≤k:=fun k hk=>by
      rcases a6 with e | e
      · left;rw [← e];exact hk
      · right;rw [e] at hk;injection hk with hk;rw [← hk];simp
     have b4:rp<(w.setCell ⟨rp,2,none⟩ (.int .i64 (lf-1))).heap.size:=Nat.lt_of_lt_of_le B.1.lt a2;have f1:=l1.free 1;have c1':=l1.cell 1 _ rfl;have b0:jF (d.trail ++ [(i,s)])=jF d.trail ++ [.int .i64 i,.string s]:=by rw [xK];rfl
     have I:=Hd (l1.set 1 (.slice na (d.trail.length+1) nc));have J:=Hd a3;have K:=Hd m4;have H:=Hd a4;clear l1 a3 a5 a6 m4 a4 c0 c2 c1;go_wp2_with fail;go_ret;rw [Ew.1];have a7:=Mod.set (fun b=>b=rp) w3 ⟨rp,1,none⟩ (.slice na (d.trail.length+1) nc) rfl
     have a8:∀ k,(Value.slice na (d.trail.length+1) nc).ownBlock=some k→k≠rp:=fun k hk e=>by
      rcases H.1 k hk with h | h
      · exact A.1 k h e
      · omega
     refine ⟨rfl,_,⟨.slice na (d.trail.length+1) nc,?_,?_,a8,fun m b1=>by have:=N.1;simp at b1;omega,rfl⟩,?_,fun k hk=>?_⟩
     ·
      simp only [List.length_set];have e:zY ((some (m+1)).map (· - 1))=lf-1:=by simp only [Option.map_some,Nat.add_sub_cancel,zY];exact M.1
      rw [e];exact I.1
     ·
      simp only [List.length_append,List.length_singleton];rw [b0];exact yB J.1 a7 (fun k hk e=>a8 k hk e)
     · exact ((E.1.mono (fun b hb=>.inl hb)).trans (((Mod.alloc (fun b=>(Value.slice ta d.trail.length tc).ownBlock=some b) (w.setCell ⟨rp,2,none⟩ (.int .i64 (lf-1))) (.cells #[.int .i64 i,.string s] 111)).trans K.1).mono (fun b hb=>.inr hb))).trans (a7.mono (fun b hb=>.inl hb))
     ·
      rcases hk with rfl | hk
      · exact .inl (.inl rfl)
      ·
       rcases H.1 k hk with h | h
       · exact .inl (.inr h)
       · exact .inr (Nat.le_trans a2 h)
 ·
  have ew:d.write i s=(d,1):=by unfold DiskM.write;rw [if_pos hi]
  have Ew:=Hd ew;clear h1 h2 h3 ew;by_cases hneg:i<0
  ·
   go_enter func26,ntmps26;go_wp2_with fail;go_ret;rw [Ew.1];exact ⟨rfl,_,⟨tv,B.1,L.1,A.1,a0,rfl⟩,Mod.refl _ _,fun k hk=>.inl hk⟩
  ·
   have c4:(d.strs.length:Int)≤i:=by omega
   go_enter func26,ntmps26;go_wp2_with fail;go_ret;rw [Ew.1];exact ⟨rfl,_,⟨tv,B.1,L.1,A.1,a0,rfl⟩,Mod.refl _ _,fun k hk=>.inl hk⟩
theorem jez (i:Nat):∀ (l:List (Int × ByteArray)) (s:List ByteArray),(∀ r∈l,0≤r.1∧r.1≠(i:Int))→(yo s l).getD i ByteArray.empty=s.getD i ByteArray.empty
 | [],_,_=>rfl
 | r::l,s,h=>by
  have ih:=jez i l (s.set r.1.toNat r.2) (fun x hx=>h x (List.mem_cons_of_mem _ hx))
  have h0:=h r (List.mem_cons_self ..);show (yo (s.set r.1.toNat r.2) l).getD i ByteArray.empty=_;rw [ih,List.getD,List.getD,List.getElem?_set_ne (by omega)]
theorem jb8 (s:List ByteArray)(l m:List (Int × ByteArray)):yo s (l++m)=yo (yo s l) m:=by simp [yo]
theorem DiskM.Wf.find {d:DiskM}(h:d.Wf)(i k:Nat)(hi:i<d.strs.length)(hk:k≤d.trail.length)(hn:∀ r∈d.trail.drop k,r.1≠(i:Int)) :
  d.strs.getD i ByteArray.empty=if k=0 then ByteArray.empty else (if (d.trail.getD (k-1) (0,ByteArray.empty)).1=(i:Int) then (d.trail.getD (k-1) (0,ByteArray.empty)).2 else d.strs.getD i ByteArray.empty):=by
 have e1:d.strs.getD i ByteArray.empty=(yo (List.replicate d.strs.length ByteArray.empty) (d.trail.take k)).getD i ByteArray.empty:=by
  conv=>lhs;rw [h.play]
  conv=>lhs;rw [← List.take_append_drop k d.trail,jb8]
  exact jez i _ _ (fun r hr=>⟨(h.inr r (List.mem_of_mem_drop hr)).1,hn r hr⟩)
 by_cases h0:k=0
 ·
  rw [if_pos h0,e1,h0]
  simp [yo,List.getD,hi]
 ·
  rw [if_neg h0];by_cases hc:(d.trail.getD (k-1) (0,ByteArray.empty)).1=(i:Int)
  ·
   rw [if_pos hc,e1];obtain ⟨m,rfl⟩:∃ m,k=m+1:=⟨k-1,by omega⟩
   have hm:m<d.trail.length:=by omega
   rw [Nat.add_sub_cancel] at hc ⊢;have e2:d.trail.getD m (0,ByteArray.empty)=d.trail[m]:=by simp [List.getD,hm]
   rw [e2] at hc ⊢;rw [List.take_succ_eq_append_getElem hm,uT,hc,Int.toNat_natCast,List.getD,List.getElem?_set_self (by rw [jfj,List.length_replicate];exact hi)]
   rfl
  · rw [if_neg hc]
theorem uj (d:DiskM)(rp:Nat)(G:Nat→Prop)(i:Int)(w:World)(h:IsRef w d rp G)(hw:d.Wf)(ht:d.trail.length≤100000000000) :
  Calls prog 139 #[.pointer (some ⟨rp,0,none⟩),.int .i64 i] w fun e w'=>e=.returned (.tuple #[.string (d.read i).1,.int .i64 (d.read i).2])∧w'=w:=by
 obtain ⟨tv,h1,h2,h3,a5,rfl⟩:=h;have c0:=h1.cell 0 _ rfl;have c1:=h1.cell 1 _ rfl;by_cases hi:0≤i∧i<d.strs.length
 ·
  have er:d.read i=(d.strs.getD i.toNat ByteArray.empty,0):=by unfold DiskM.read;rw [if_pos hi]
  obtain ⟨n,rfl⟩:=Int.eq_ofNat_of_zero_le hi.1;rw [er,Int.toNat_natCast];obtain ⟨sv,a2⟩:=Nm (d.strs.getD n ByteArray.empty);rw [← a2];have a7:n<d.strs.length:=by omega
  have a9:¬ (n:Int)<0:=by omega
  have b0:¬ (d.strs.length:Int)≤(n:Int):=by omega
  have b1:decide (d.strs.length≤n)=false:=by simp;omega
  obtain ⟨ta,tc,rfl,_,_⟩:=xJ h2;have HRd:=Lib.hid (jq h2);have HFd:=Lib.hid (fun k hk hn=>a2.trans (hw.find n k a7 hk hn))
  have Hsv:=Lib.hid a2;clear h1 h2 h3 a5 er hw hi a2;go_enter func139,ntmps139;go_wp2_with fail
  go_loopg [6] d.trail.length (fun gk iv wr=>∃ k:Nat,gk=k∧iv=.int .i64 ((k:Int)-1)∧k≤d.trail.length∧wr=w∧Hid (∀ r∈d.trail.drop k,r.1≠(n:Int)))
  case atStart=>exact ⟨_,rfl,rfl,Nat.le_refl _,rfl,Lib.hid (by rw [List.drop_length];intro r hr;cases hr)⟩
  case round =>
   obtain ⟨k,a8,rfl,hk,rfl,a3⟩:=hrel;have a1:=HFd.out k hk a3.out;by_cases h0:k=0
   ·
    subst h0;rw [if_pos rfl] at a1;have Hf:=Lib.hid a1;have a6:¬ (0:Int)≤((0:Nat):Int)-1:=by omega
    clear a1;go_wp2_with fail
    go_ret2
    rw [Hf.out];exact ⟨rfl,rfl⟩
   ·
    obtain ⟨m,rfl⟩:∃ m,k=m+1:=⟨k-1,by omega⟩
    rw [if_neg h0,Nat.add_sub_cancel] at a1;have hm:m<d.trail.length:=by omega
    have ek:(((m+1:Nat):Int)-1)=(m:Int):=by omega
    rw [ek];obtain ⟨rb,rs,e1,e2,e3,_⟩:=jkd d.trail m hm;have a4:d.trail.getD m (0,ByteArray.empty)=(rb,rs):=by
     have h4:=congrArg (fun l=>l.getD m (0,ByteArray.empty)) e1
     rw [List.getD,List.getD,List.getElem?_append_right (by rw [List.length_take];omega),List.length_take,show min m d.trail.length=m by omega,Nat.sub_self] at h4
     rw [List.getD,List.getElem?_eq_getElem hm];rw [List.getElem?_take_of_lt (by omega),List.getElem?_eq_getElem hm] at h4
     exact h4
    rw [a4] at a1;obtain ⟨a0,cap0,g1,_,_,_,g2⟩:=HRd.out;injection g1 with g1 _ g3
    subst g1;subst g3;obtain ⟨b,off,f1,f2⟩:=g2 (m*2) (by rw [yD];omega)
    obtain ⟨b',off',f3,f4⟩:=g2 (m*2+1) (by rw [yD];omega)
    subst f1;injection f3 with f3;injection f3 with f6 f7
    subst f6;subst f7;clear g2;rw [List.getD,e2] at f2;rw [List.getD,e3,← Nat.add_assoc] at f4;have f2:wr.cell? ⟨b,off+m*2,none⟩=some (.int .i64 rb):=f2;have f4:wr.cell? ⟨b,off+m*2+1,none⟩=some (.string rs):=f4;have b2:(0:Int)≤(m:Int):=by omega
    have b3:(m:Int)<(d.trail.length:Int):=by omega
    have Hfd:=Lib.hid a1;have Hgd:=Lib.hid a4;clear a1 a4 e1 e2 e3;by_cases hc:rb=(n:Int)
    ·
     go_wp2_with fail
     go_ret2
     have:=Hfd.out;rw [if_pos hc] at this;rw [this];exact ⟨rfl,rfl⟩
    ·
     go_wp2_with fail
     go_roundg m
     case measure=>have:=a8;omega
     case rel =>
      refine ⟨m,rfl,rfl,by omega,rfl,Lib.hid (fun r hr=>?_)⟩
      rw [List.drop_eq_getElem_cons hm] at hr
      rcases List.mem_cons.1 hr with rfl | hr
      ·
       have:=Hgd.out
       simp [List.getD,hm] at this
       rw [this];exact hc
      · exact a3.out r hr
 ·
  have er:d.read i=(ByteArray.empty,1):=by unfold DiskM.read;rw [if_neg hi]
  rw [er];clear h1 h2 h3 a5 er hw;by_cases a6:i<0
  ·
   go_enter func139,ntmps139;go_wp2_with fail
   go_ret2
   exact ⟨rfl,rfl⟩
  ·
   have b4:(d.strs.length:Int)≤i:=by omega
   go_enter func139,ntmps139;go_wp2_with fail
   go_ret2
   exact ⟨rfl,rfl⟩
end Go.Proofs.YtgcnolapjppbpaaGreatDoor
