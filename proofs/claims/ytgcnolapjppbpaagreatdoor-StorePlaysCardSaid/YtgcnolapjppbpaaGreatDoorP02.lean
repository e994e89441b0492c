/-
  Texts of one proof, one behind the other.
-/
import Derived.Test.YtgcnolapjppbpaaGreatDoorP01
import Derived.Test.YtgcnolapjppbpaaGreatDoorP00
namespace Go.Proofs.YtgcnolapjppbpaaGreatDoor
open Go.RowKit _root_.Go.Proofs.Tryz
set_option maxRecDepth 100000
set_option maxHeartbeats 25600000
def jo (n:Int):Value:=if n=0 then .nilIface else .iface 91 (.int .i64 n)
theorem jis:(prog.info? 111).map (fun i=>(i.zero,i.size,i.bytes))=some (some (.agg #[.int .i64 0,.string ByteArray.empty]),2,24):=by kernel_rfl
theorem jc9:(prog.info? 9).map (fun i=>(i.zero,i.size,i.bytes))=some (some (.string ByteArray.empty),1,16):=by kernel_rfl
def jF (l:List (Int × ByteArray)):List Value:=l.flatMap fun r => [.int .i64 r.1,.string r.2]
theorem yD (l:List (Int × ByteArray)):(jF l).length=l.length*2:=by
 induction l with
 | nil=>rfl
 | cons a l ih=>simp only [jF,List.flatMap_cons,List.length_append] at ih ⊢;simp [ih];omega
theorem xK (l m:List (Int × ByteArray)):jF (l++m)=jF l++jF m:=by simp [jF]
structure DiskM where
 strs:List ByteArray
 trail:List (Int × ByteArray)
 left:Option Nat
def PowerAt (w:World)(pv:Value)(left:Option Nat)(q:Option Nat):Prop :=
 match left with
 | none=>pv=.func (.func 35) #[] #[]∧q=none
 | some k=>∃ b,q=some b∧pv=.func (.func 57) #[] #[.pointer (some ⟨b,0,none⟩)]∧Box w b #[.int .i64 (k:Int)] 3∧k≤9223372036854775807
def jhu (p bb:Nat)(tv:Value)(q:Option Nat):Nat→Prop:=fun k=>k=p∨k=bb∨tv.ownBlock=some k∨q=some k
def IsDisk (w:World)(d:DiskM)(p:Nat)(F:Nat→Prop):Prop :=
 ∃ (bb:Nat) (tv pv:Value) (q:Option Nat),Box w p #[.slice (some ⟨bb,0,none⟩) d.strs.length d.strs.length,tv,pv] 83∧Box w bb (d.strs.map Value.string).toArray 9 ∧
  w.ownsRow 0 111 2 tv d.trail.length (jF d.trail)∧PowerAt w pv d.left q∧d.strs.length≤4096∧bb≠p∧(∀ k,tv.ownBlock=some k→k≠p∧k≠bb)∧(∀ k,q=some k→k≠p∧k≠bb∧tv.ownBlock≠some k)∧F=jhu p bb tv q
theorem PowerAt.mod {w w':World}{pv:Value}{left:Option Nat}{q:Option Nat}{G:Nat→Prop}(h:PowerAt w pv left q)(hm:Mod G w w')(hg:∀ k,q=some k→¬ G k):PowerAt w' pv left q:=by
 cases left with
 | none=>exact h
 | some k=>obtain ⟨b,rfl,h1,h2,h3⟩:=h;exact ⟨b,rfl,h1,h2.mod hm (hg b rfl),h3⟩
theorem IsDisk.mod {w w':World}{d:DiskM}{p:Nat}{F G:Nat→Prop}(h:IsDisk w d p F)(hm:Mod G w w')(hg:∀ k,F k→¬ G k):IsDisk w' d p F:=by
 obtain ⟨bb,tv,pv,q,h1,h2,h3,h4,h5,h6,h7,h8,rfl⟩:=h;exact ⟨bb,tv,pv,q,h1.mod hm (hg p (.inl rfl)),h2.mod hm (hg bb (.inr (.inl rfl))),yB h3 hm (fun k hk=>hg k (.inr (.inr (.inl hk)))),h4.mod hm (fun k hk=>hg k (.inr (.inr (.inr hk)))),h5,h6,h7,h8,rfl⟩
theorem IsDisk.lt {w:World}{d:DiskM}{p:Nat}{F:Nat→Prop}(h:IsDisk w d p F):∀ k,F k→k<w.heap.size:=by
 obtain ⟨bb,tv,pv,q,h1,h2,h3,h4,h5,h6,h7,h8,rfl⟩:=h;rintro k (rfl | rfl | hk | hk)
 · exact h1.lt
 · exact h2.lt
 · exact (h3.lt k hk).2
 ·
  cases hl:d.left with
  | none=>rw [hl] at h4;obtain ⟨_,e⟩:=h4;rw [e] at hk;cases hk
  | some n=>rw [hl] at h4;obtain ⟨b,rfl,_,h,_⟩:=h4;injection hk with hk;subst hk;exact h.lt
theorem jfg (w:World):Calls prog 35 #[] w fun e w'=>e=.returned (.bool true)∧w=w':=by
 go_enter func35,ntmps35
 go_wp2
 go_ret;exact ⟨rfl,rfl⟩
theorem jfo (b:Nat)(w:World)(h:Box w b #[.int .i64 0] 3):Calls prog 57 #[.pointer (some ⟨b,0,none⟩)] w fun e w'=>e=.returned (.bool false)∧w=w':=by
 have hc:=h.cell 0 _ rfl;go_enter func57,ntmps57
 go_wp2
 go_ret;exact ⟨rfl,rfl⟩
theorem jeK (b k:Nat)(w:World)(h:Box w b #[.int .i64 ((k:Int)+1)] 3)(hk:k<9223372036854775807):Calls prog 57 #[.pointer (some ⟨b,0,none⟩)] w fun e w'=>e=.returned (.bool true)∧w'=w.setCell ⟨b,0,none⟩ (.int .i64 (k:Int)):=by
 have hc:=h.cell 0 _ rfl;have hf:=h.free 0;have h0:(((k:Int)+1)==0)=false:=by simp;omega
 clear h;go_enter func57,ntmps57
 go_wp2
 go_ret;exact ⟨rfl,rfl⟩
theorem xQ (d:DiskM)(p:Nat)(F:Nat→Prop)(i:Int)(w:World)(h:IsDisk w d p F) :
  Calls prog 49 #[.pointer (some ⟨p,0,none⟩),.int .i64 i] w fun e w'=>e=.returned (.bool (decide (0≤i∧i<d.strs.length)))∧w=w':=by
 obtain ⟨bb,tv,pv,q,h1,h2,h3,h4,h5,h6,h7,h8,rfl⟩:=h;have hc:=h1.cell 0 _ rfl;clear h1 h2 h3 h4 h7 h8;by_cases h0:0≤i
 ·
  go_enter func49,ntmps49
  go_wp2
  go_ret;exact ⟨by simp [h0],rfl⟩
 ·
  go_enter func49,ntmps49
  go_wp2
  go_ret;exact ⟨by simp;omega,rfl⟩
theorem zc (d:DiskM)(p:Nat)(F:Nat→Prop)(w:World)(h:IsDisk w d p F) :
  Calls prog 55 #[.pointer (some ⟨p,0,none⟩)] w fun e w'=>e=.returned (.int .i64 (d.strs.length:Int))∧w=w':=by
 obtain ⟨bb,tv,pv,q,h1,h2,h3,h4,h5,h6,h7,h8,rfl⟩:=h;have hc:=h1.cell 0 _ rfl;clear h1 h2 h3 h4 h7 h8;go_enter func55,ntmps55
 go_wp2
 go_ret;exact ⟨rfl,rfl⟩
theorem xJ {w:World}{base:Nat}{e:TypeId}{size n:Nat}{v:Value}{xs:List Value}(h:w.ownsRow base e size v n xs):∃ a cap,v=.slice a n cap∧n≤cap∧cap≤9223372036854775807:=by
 obtain ⟨a,cap,rfl,h1,h2,_⟩:=jq h;exact ⟨a,cap,rfl,h1,h2⟩
theorem jjX (d:DiskM)(p:Nat)(F:Nat→Prop)(i:Int)(w:World)(h:IsDisk w d p F)(hi:¬ (0≤i∧i<d.strs.length)) :
  Calls prog 119 #[.pointer (some ⟨p,0,none⟩),.int .i64 i] w fun e w'=>e=.returned (.tuple #[.string ByteArray.empty,jo 1])∧w=w':=by
 have hd:decide (0≤i∧i<d.strs.length)=false:=by simpa using hi
 go_enter func119,ntmps119;go_wp2_with fail;refine (xQ d p F i w h).mono ?_;rw [hd];rintro e w' ⟨rfl,rfl⟩
 go_wp2
 go_ret2
 exact ⟨rfl,rfl⟩
theorem jgk (d:DiskM)(p:Nat)(F:Nat→Prop)(i:Nat)(w:World)(h:IsDisk w d p F)(hi:i<d.strs.length) :
  Calls prog 119 #[.pointer (some ⟨p,0,none⟩),.int .i64 (i:Int)] w fun e w'=>e=.returned (.tuple #[.string (d.strs.getD i ByteArray.empty),jo 0])∧w=w':=by
 have hd:decide (0≤(i:Int)∧(i:Int)<d.strs.length)=true:=by simpa using hi
 go_enter func119,ntmps119;go_wp2_with fail;refine (xQ d p F i w h).mono ?_;rw [hd];rintro e w' ⟨rfl,rfl⟩;obtain ⟨bb,tv,pv,q,h1,h2,h3,h4,h5,h6,h7,h8,rfl⟩:=h;have hc:=h1.cell 0 _ rfl;obtain ⟨s,hs⟩:=Nm (d.strs.getD i ByteArray.empty);have hb:=h2.cell i (.string s) (by rw [hs];simp [hi])
 have H:=Hd hs;clear h1 h2 h3 h4 h7 h8 hd hs
 go_wp2
 go_ret2
 exact ⟨by rw [← H.1];rfl,rfl⟩
def DiskM.write (d:DiskM)(i:Int)(s:ByteArray):DiskM × Int :=
 if ¬ (0≤i∧i<d.strs.length) then (d,1)
 else if 256<s.size then (d,3)
 else if d.left=some 0 then (d,22)
 else ({ strs:=d.strs.set i.toNat s,trail:=d.trail ++ [(i,s)],left:=d.left.map (· - 1) },0)
theorem jhS (d:DiskM)(p:Nat)(F:Nat→Prop)(i:Int)(s:ByteArray)(w:World)(h:IsDisk w d p F)(hi:¬ (0≤i∧i<d.strs.length)) :
  Calls prog 25 #[.pointer (some ⟨p,0,none⟩),.int .i64 i,.string s] w fun e w'=>e=.returned (jo 1)∧w=w':=by
 have hd:decide (0≤i∧i<d.strs.length)=false:=by simpa using hi
 go_enter func25,ntmps25;go_wp2_with fail;refine (xQ d p F i w h).mono ?_;rw [hd];rintro e w' ⟨rfl,rfl⟩
 go_wp2
 go_ret;exact ⟨rfl,rfl⟩
theorem jgY (d:DiskM)(p:Nat)(F:Nat→Prop)(i:Int)(s:ByteArray)(w:World)(h:IsDisk w d p F)(hi:0≤i∧i<d.strs.length)(hs:256<s.size) :
  Calls prog 25 #[.pointer (some ⟨p,0,none⟩),.int .i64 i,.string s] w fun e w'=>e=.returned (jo 3)∧w=w':=by
 have hd:decide (0≤i∧i<d.strs.length)=true:=by simpa using hi
 go_enter func25,ntmps25;go_wp2_with fail;refine (xQ d p F i w h).mono ?_;rw [hd];rintro e w' ⟨rfl,rfl⟩
 go_wp2
 go_ret;exact ⟨rfl,rfl⟩
theorem jf2 (d:DiskM)(p:Nat)(F:Nat→Prop)(i:Int)(s:ByteArray)(w:World)(h:IsDisk w d p F)(hi:0≤i∧i<d.strs.length)(hs:s.size≤256)(hl:d.left=some 0) :
  Calls prog 25 #[.pointer (some ⟨p,0,none⟩),.int .i64 i,.string s] w fun e w'=>e=.returned (jo 22)∧w=w':=by
 have hd:decide (0≤i∧i<d.strs.length)=true:=by simpa using hi
 go_enter func25,ntmps25;go_wp2_with fail;refine (xQ d p F i w h).mono ?_;rw [hd];rintro e w' ⟨rfl,rfl⟩;obtain ⟨bb,tv,pv,q,h1,h2,h3,h4,h5,h6,h7,h8,rfl⟩:=h;rw [hl] at h4;obtain ⟨b,rfl,rfl,a0,_⟩:=h4;have hc:=h1.cell 2 _ rfl;clear h1 h2 h3 h7 h8 hd hl;go_wp2_with fail;refine (jfo b _ a0).mono ?_;rintro e w' ⟨rfl,rfl⟩
 go_wp2
 go_ret;exact ⟨rfl,rfl⟩
theorem ji8 {w:World}{ops:Array Oper}{rest:List Oper}{o:Oper}{a:Act}{Q:Exit→Act→World→Prop}(a3:o.guard=none)(s x:Operand)(ho:o.op=.call { callee:=.builtin .append,args:=#[s,x],argTypes:=#[72,72] })(base:Nat)(v:Value)(n:Nat)(xs:List Value)(hs:a.eval s=v)(a1:w.ownsRow base 111 2 v n xs)(src:Value)(m:Nat)(news:List Value)(hx:a.eval x=src)(a2:Rd w src m news)(hl:news.length=m*2)(h1:∀ u∈news,u.oneCell'=true)(a7:n+m≤1000000000000)(a0:base≤w.heap.size)(h:∀ v' w',w'.ownsRow base 111 2 v' (n+m) (xs++news)→w.grownBy w' v.ownBlock→xe w v v'→wpList prog ops Q rest (a.put o.dst v') w'):wpList prog ops Q (o::rest) a w:=by
 obtain ⟨i0,hi,a4,a5,a6⟩:=info_parts jis;exact xY a3 s x 72 ho base 111 i0 _ 2 24 underlying72 hi a4 a5 a6 rfl (by decide) v n xs hs a1 src m news hx a2 hl h1 (by unfold maxLen;omega) (by omega) a0 h
theorem jkh (w:World)(cs:Array Value)(T:TypeId):Rd (w.alloc (.cells cs T)) (.slice (some ⟨w.heap.size,0,none⟩) 1 1) 1 cs.toList:=by
 refine ⟨_,_,rfl,Nat.le_refl _,by omega,(fun h=>by cases h),fun j hj=>⟨w.heap.size,0,rfl,?_⟩⟩
 rw [Nat.zero_add];refine (Box.new w cs T).cell j _ ?_;rw [← Array.getElem?_toList,List.getD,List.getElem?_eq_getElem hj];rfl
theorem jct (w:World)(cs:Array Value)(T:TypeId)(b:Nat)(hb:w.heap.size=b):Rd (w.alloc (.cells cs T)) (.slice (some ⟨b,0,none⟩) 1 1) 1 cs.toList:=by
 subst hb;exact jkh w cs T
theorem jaU (i:Int)(s:ByteArray):∀ u ∈ [Value.int .i64 i,.string s],u.oneCell'=true:=by simp [Value.oneCell']
theorem jiC (d:DiskM)(p:Nat)(F:Nat→Prop)(i:Nat)(s:ByteArray)(w:World)(h:IsDisk w d p F)(hi:i<d.strs.length)(hs:s.size≤256)(hl:d.left≠some 0)(ht:d.trail.length≤100000000000) :
  Calls prog 25 #[.pointer (some ⟨p,0,none⟩),.int .i64 (i:Int),.string s] w fun e w'=>e=.returned (jo 0) ∧
   ∃ F',IsDisk w' { strs:=d.strs.set i s,trail:=d.trail ++ [((i:Int),s)],left:=d.left.map (· - 1) } p F'∧Mod F w w'∧∀ k,F' k→F k∨w.heap.size≤k:=by
 have hd:decide (0≤(i:Int)∧(i:Int)<d.strs.length)=true:=by simpa using hi
 go_enter func25,ntmps25;go_wp2_with fail;refine (xQ d p F i w h).mono ?_;rw [hd];rintro e w' ⟨rfl,rfl⟩;clear hd;have a2:=h.lt;obtain ⟨bb,tv,pv,q,h1,h2,h3,h4,h5,h6,h7,h8,rfl⟩:=h;have b9:=h1.cell 2 _ rfl;have c3:∃ left',left'=d.left.map (· - 1):=⟨_,rfl⟩
 obtain ⟨left',a5⟩:=c3;have B:=Hd a5;have c1:(∃ w1,w1=w∧pv=.func (.func 35) #[] #[]∧q=none∧PowerAt w1 pv left' q∧Mod (fun k=>q=some k) w w1) ∨
   (∃ (b n:Nat),q=some b∧pv=.func (.func 57) #[] #[.pointer (some ⟨b,0,none⟩)]∧Box w b #[.int .i64 ((n:Int)+1)] 3∧n<9223372036854775807∧PowerAt (w.setCell ⟨b,0,none⟩ (.int .i64 (n:Int))) pv left' q∧Mod (fun k=>q=some k) w (w.setCell ⟨b,0,none⟩ (.int .i64 (n:Int)))):=by
  rw [a5]
  cases hlf:d.left with
  | none =>
   rw [hlf] at h4;obtain ⟨rfl,rfl⟩:=h4;exact .inl ⟨w,rfl,rfl,rfl,⟨rfl,rfl⟩,Mod.refl _ _⟩
  | some n =>
   rw [hlf] at h4;obtain ⟨b,rfl,rfl,a6,hn⟩:=h4
   cases n with
   | zero=>exact absurd hlf hl
   | succ n =>
    exact .inr ⟨b,n,rfl,rfl,by simpa using a6,by omega,⟨b,rfl,rfl,by simpa using a6.set 0 (.int .i64 (n:Int)),by simp;omega⟩,Mod.set _ _ _ _ rfl⟩
 clear h4 hl a5;have b2:∀ w1,PowerAt w1 pv left' q→Mod (fun k=>q=some k) w w1→Box w1 p #[.slice (some ⟨bb,0,none⟩) d.strs.length d.strs.length,tv,pv] 83∧Box w1 bb (d.strs.map Value.string).toArray 9∧w1.ownsRow 0 111 2 tv d.trail.length (jF d.trail):=fun w1 _ hm =>
  ⟨h1.mod hm (fun e=>(h8 p e).1 rfl),h2.mod hm (fun e=>(h8 bb e).2.1 rfl),yB h3 hm (fun k hk e=>(h8 k e).2.2 hk)⟩
 have H:=Hd b2;clear b2
 rcases c1 with ⟨w1,rfl,rfl,rfl,a3,a0⟩ | ⟨b,n,rfl,rfl,a6,hn,a3,a0⟩
 ·
  go_wp2_with fail;refine (jfg _).mono ?_;rintro e w2 ⟨rfl,rfl⟩;obtain ⟨k1,k2,k3⟩:=H.1 _ a3 a0;clear h1 h2 h3 H b9;have b3:=k1.cell 0 _ rfl;have b4:=k1.cell 1 _ rfl;have b5:=k1.free 1;have b1:=k2.cell i (.string (d.strs.getD i ByteArray.empty)) (by simp [hi])
  have b6:=k2.free i;have m2:Mod (fun k=>k=bb) w1 (w1.setCell ⟨bb,i,none⟩ (.string s)):=Mod.set _ _ _ _ rfl
  have k1':=k1.mod m2 (fun e=>h6 e.symm)
  have k2':=k2.set i (.string s);have k3':=yB k3 m2 (fun k hk e=>(h7 k hk).2 e)
  have a7:=a3.mod m2 (fun k hk e=>(h8 k hk).2.1 e)
  have m3:Mod (fun k=>k=bb) w1 ((w1.setCell ⟨bb,i,none⟩ (.string s)).alloc (.cells #[.int .i64 (i:Int),.string s] 111)):=m2.trans (Mod.alloc _ _ _)
  have k1'':=k1'.below (ja _ (.cells #[.int .i64 (i:Int),.string s] 111));have k2'':=k2'.below (ja _ (.cells #[.int .i64 (i:Int),.string s] 111));have a8:=a7.mod (Mod.alloc (fun _=>False) _ (.cells #[.int .i64 (i:Int),.string s] 111)) (fun _ _ h=>h)
  have A:=Hd k3';have c4:w1.heap.size≤((w1.setCell ⟨bb,i,none⟩ (.string s)).alloc (.cells #[.int .i64 (i:Int),.string s] 111)).heap.size:=by simp
  clear k1 k2 k3 k3' k1' k2' a3 a7 m2
  go_wp2_with (at_builtin;refine ji8 rfl _ _ rfl 0 _ _ _ rfl (A.1.alloc _) _ 1 [.int .i64 (i:Int),.string s] rfl (jct _ _ _ _ (by simp)) rfl (jaU _ _) (by omega) (Nat.zero_le _) ?_)
  intro v' w3 a9 a4 b0;have b7:∀ k,tv.ownBlock=some k→tv.ownBlock=some k:=fun _ h=>h
  have m4:=Mod.of_grown (F:=fun k=>tv.ownBlock=some k) a4 b7
  have l1:=k1''.mod m4 (fun e=>(h7 p e).1 rfl)
  have l2:=k2''.mod m4 (fun e=>(h7 bb e).2 rfl)
  have l4:=a8.mod m4 (fun k hk e=>(h8 k hk).2.2 e)
  have a1:∀ k,v'.ownBlock=some k→tv.ownBlock=some k∨w1.heap.size≤k:=fun k hk=>by
   rcases b0 with e | e
   · left;rw [← e];exact hk
   · right;rw [e] at hk;injection hk with hk;omega
  have c2:=a4.size;have c5:p<w1.heap.size∧bb<w1.heap.size:=⟨Nat.lt_of_lt_of_le (a2 p (.inl rfl)) a0.size,Nat.lt_of_lt_of_le (a2 bb (.inr (.inl rfl))) a0.size⟩;have c6:=l1.cell 1 _ rfl;have c7:=l1.free 1;clear b3 b4 b5 b1 b6 k1'' k2'' a8 a4 b0 A;obtain ⟨va,vc,b8,_,_⟩:=xJ a9;subst b8
  go_wp2
  go_ret;refine ⟨rfl,jhu p bb _ none,⟨bb,_,_,none,by simpa using l1.set 1 (.slice va (d.trail.length+1) vc),?_,?_,?_,by simpa using h5,h6,?_,?_,rfl⟩,?_,?_⟩
  ·
   have:=l2.set_other (p:=⟨p,1,none⟩) (fun e=>h6 e.symm) (.slice va (d.trail.length+1) vc)
   simpa [List.map_set] using this
  ·
   have:=yB a9 (Mod.set (fun k=>k=p) w3 ⟨p,1,none⟩ (.slice va (d.trail.length+1) vc) rfl) (fun k hk e=>by
    rcases a1 k hk with h | h
    · exact (h7 k h).1 e
    · omega)
   rw [xK]
   simpa [jF] using this
  ·
   rw [← B.1];exact l4.mod (Mod.set (fun k=>k=p) w3 ⟨p,1,none⟩ (.slice va (d.trail.length+1) vc) rfl) (fun k hk e=>(h8 k hk).1 e)
  ·
   intro k hk
   rcases a1 k hk with h | h
   · exact h7 k h
   · exact ⟨by omega,by omega⟩
  ·
   intro k hk;refine ⟨(h8 k hk).1,(h8 k hk).2.1,fun e=>?_⟩
   rcases a1 k e with h | h
   · exact (h8 k hk).2.2 h
   ·
    have:=Nat.lt_of_lt_of_le (a2 k (.inr (.inr (.inr hk)))) a0.size;omega
  · refine (a0.mono (fun k hk=>.inr (.inr (.inr hk)))).trans ((m3.mono (fun k hk=>.inr (.inl hk))).trans ((m4.mono (fun k hk=>.inr (.inr (.inl hk)))).trans (Mod.set _ _ _ _ (.inl rfl))))
  ·
   rintro k (h | h | h | h)
   · exact .inl (.inl h)
   · exact .inl (.inr (.inl h))
   ·
    rcases a1 k h with h' | h'
    · exact .inl (.inr (.inr (.inl h')))
    · exact .inr (Nat.le_trans a0.size h')
   · exact .inl (.inr (.inr (.inr h)))
 ·
  go_wp2_with fail;refine (jeK b n _ a6 hn).mono ?_;rintro e w2 ⟨rfl,rfl⟩;obtain ⟨k1,k2,k3⟩:=H.1 _ a3 a0;clear h1 h2 h3 H b9 a6;obtain ⟨w1,c0⟩:∃ w1,w1=w.setCell ⟨b,0,none⟩ (.int .i64 (n:Int)):=⟨_,rfl⟩;rw [← c0] at a3 a0 k1 k2 k3 ⊢;clear c0;have b3:=k1.cell 0 _ rfl;have b4:=k1.cell 1 _ rfl;have b5:=k1.free 1;have b1:=k2.cell i (.string (d.strs.getD i ByteArray.empty)) (by simp [hi])
  have b6:=k2.free i;have m2:Mod (fun k=>k=bb) w1 (w1.setCell ⟨bb,i,none⟩ (.string s)):=Mod.set _ _ _ _ rfl
  have k1':=k1.mod m2 (fun e=>h6 e.symm)
  have k2':=k2.set i (.string s);have k3':=yB k3 m2 (fun k hk e=>(h7 k hk).2 e)
  have a7:=a3.mod m2 (fun k hk e=>(h8 k hk).2.1 e)
  have m3:Mod (fun k=>k=bb) w1 ((w1.setCell ⟨bb,i,none⟩ (.string s)).alloc (.cells #[.int .i64 (i:Int),.string s] 111)):=m2.trans (Mod.alloc _ _ _)
  have k1'':=k1'.below (ja _ (.cells #[.int .i64 (i:Int),.string s] 111));have k2'':=k2'.below (ja _ (.cells #[.int .i64 (i:Int),.string s] 111));have a8:=a7.mod (Mod.alloc (fun _=>False) _ (.cells #[.int .i64 (i:Int),.string s] 111)) (fun _ _ h=>h)
  have A:=Hd k3';have c4:w1.heap.size≤((w1.setCell ⟨bb,i,none⟩ (.string s)).alloc (.cells #[.int .i64 (i:Int),.string s] 111)).heap.size:=by simp
  clear k1 k2 k3 k3' k1' k2' a3 a7 m2
  go_wp2_with (at_builtin;refine ji8 rfl _ _ rfl 0 _ _ _ rfl (A.1.alloc _) _ 1 [.int .i64 (i:Int),.string s] rfl (jct _ _ _ _ (by simp)) rfl (jaU _ _) (by omega) (Nat.zero_le _) ?_)
  intro v' w3 a9 a4 b0;have b7:∀ k,tv.ownBlock=some k→tv.ownBlock=some k:=fun _ h=>h
  have m4:=Mod.of_grown (F:=fun k=>tv.ownBlock=some k) a4 b7
  have l1:=k1''.mod m4 (fun e=>(h7 p e).1 rfl)
  have l2:=k2''.mod m4 (fun e=>(h7 bb e).2 rfl)
  have l4:=a8.mod m4 (fun k hk e=>(h8 k hk).2.2 e)
  have a1:∀ k,v'.ownBlock=some k→tv.ownBlock=some k∨w1.heap.size≤k:=fun k hk=>by
   rcases b0 with e | e
   · left;rw [← e];exact hk
   · right;rw [e] at hk;injection hk with hk;omega
  have c2:=a4.size;have c5:p<w1.heap.size∧bb<w1.heap.size:=⟨Nat.lt_of_lt_of_le (a2 p (.inl rfl)) a0.size,Nat.lt_of_lt_of_le (a2 bb (.inr (.inl rfl))) a0.size⟩;have c6:=l1.cell 1 _ rfl;have c7:=l1.free 1;clear b3 b4 b5 b1 b6 k1'' k2'' a8 a4 b0 A;obtain ⟨va,vc,b8,_,_⟩:=xJ a9;subst b8
  go_wp2
  go_ret;refine ⟨rfl,jhu p bb _ (some b),⟨bb,_,_,some b,by simpa using l1.set 1 (.slice va (d.trail.length+1) vc),?_,?_,?_,by simpa using h5,h6,?_,?_,rfl⟩,?_,?_⟩
  ·
   have:=l2.set_other (p:=⟨p,1,none⟩) (fun e=>h6 e.symm) (.slice va (d.trail.length+1) vc)
   simpa [List.map_set] using this
  ·
   have:=yB a9 (Mod.set (fun k=>k=p) w3 ⟨p,1,none⟩ (.slice va (d.trail.length+1) vc) rfl) (fun k hk e=>by
    rcases a1 k hk with h | h
    · exact (h7 k h).1 e
    · omega)
   rw [xK]
   simpa [jF] using this
  ·
   rw [← B.1];exact l4.mod (Mod.set (fun k=>k=p) w3 ⟨p,1,none⟩ (.slice va (d.trail.length+1) vc) rfl) (fun k hk e=>(h8 k hk).1 e)
  ·
   intro k hk
   rcases a1 k hk with h | h
   · exact h7 k h
   · exact ⟨by omega,by omega⟩
  ·
   intro k hk;refine ⟨(h8 k hk).1,(h8 k hk).2.1,fun e=>?_⟩
   rcases a1 k e with h | h
   · exact (h8 k hk).2.2 h
   ·
    have:=Nat.lt_of_lt_of_le (a2 k (.inr (.inr (.inr hk)))) a0.size;omega
  · refine (a0.mono (fun k hk=>.inr (.inr (.inr hk)))).trans ((m3.mono (fun k hk=>.inr (.inl hk))).trans ((m4.mono (fun k hk=>.inr (.inr (.inl hk)))).trans (Mod.set _ _ _ _ (.inl rfl))))
  ·
   rintro k (h | h | h | h)
   · exact .inl (.inl h)
   · exact .inl (.inr (.inl h))
   ·
    rcases a1 k h with h' | h'
    · exact .inl (.inr (.inr (.inl h')))
    · exact .inr (Nat.le_trans a0.size h')
   · exact .inl (.inr (.inr (.inr h)))
end Go.Proofs.YtgcnolapjppbpaaGreatDoor
