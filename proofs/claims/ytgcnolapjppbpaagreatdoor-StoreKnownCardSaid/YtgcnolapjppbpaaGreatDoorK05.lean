/- Texts of one proof. -/
import Derived.Test.YtgcnolapjppbpaaGreatDoorK04
namespace Go.Proofs.YtgcnolapjppbpaaGreatDoor
open Go.RowKit _root_.Go.Proofs.Tryz
set_option maxRecDepth 100000
set_option maxHeartbeats 25600000
variable {w w':World}{G F:Nat->Prop}{p rp i k:Nat}{e:UInt32}{st:StM}{s:SesM}{l:List SesM}{g g0:List Bool}{goes:SesM->Bool}
theorem jkr:(prog.info? 111).map (fun i=>(i.zero,i.size,i.bytes))=some (some (.agg #[(0:Int),.string ByteArray.empty]),2,24):=by kernel_rfl
theorem jd4:(prog.info? 9).map (fun i=>(i.zero,i.size,i.bytes))=some (some (.string ByteArray.empty),1,16):=by kernel_rfl
def jJ (l:List (Int × ByteArray)):List Value:=l.flatMap fun r => [r.1,.string r.2]
theorem yH (l:List (Int × ByteArray)):(jJ l).length=l.length*2:=by
 induction l with
 | nil=>rfl
 | cons a l ih=>simp only [jJ,qV,qd] at ih |-;simp [ih];omega
theorem xZ (l m:List (Int × ByteArray)):jJ (l++m)=jJ l++jJ m:=by simp [jJ]
structure DiskM where
 strs:List ByteArray
 trail:List (Int × ByteArray)
 left:Option Nat
def PowerAt (w:World)(pv:Value)(left:Option Nat)(q:Option Nat):Prop :=
 match left with
 | none=>pv=.func (.func 35) #[] #[]/\q=none
 | some k=>∃ b,q=some b/\pv=.func (.func 57) #[] #[.pointer (some ⟨b,0,none⟩)]/\Box w b #[(k:Int)] 3/\k<=9223372036854775807
def jiV (p bb:Nat)(tv:Value)(q:Option Nat):Nat->Prop:=fun k=>k=p\/k=bb\/tv.ownBlock=some k\/q=some k
def IsDisk (w:World)(d:DiskM)(p:Nat)(F:Nat->Prop):Prop :=
 ∃ (bb:Nat) (tv pv:Value) (q:Option Nat),Box w p #[.slice (some ⟨bb,0,none⟩) d.strs.length d.strs.length,tv,pv] 83/\Box w bb (d.strs.map Value.string).toArray 9 /\
  w.ownsRow 0 111 2 tv d.trail.length (jJ d.trail)/\PowerAt w pv d.left q/\d.strs.length<=4096/\bb≠p/\(∀ k,tv.ownBlock=some k->k≠p/\k≠bb)/\(∀ k,q=some k->k≠p/\k≠bb/\tv.ownBlock≠some k)/\F=jiV p bb tv q
theorem PowerAt.mod {pv:Value}{left:Option Nat}{q:Option Nat}(h:PowerAt w pv left q)(hm:Mod G w w')(hg:∀ k,q=some k->¬ G k):PowerAt w' pv left q:=by
 cases left with
 | none=>exact h
 | some k=>obtain ⟨b,rfl,h1,h2,h3⟩:=h;exact ⟨b,rfl,h1,h2.mod hm (hg b rfl),h3⟩
theorem IsDisk.mod {d:DiskM}(h:IsDisk w d p F)(hm:Mod G w w')(hg:∀ k,F k->¬ G k):IsDisk w' d p F:=by
 obtain ⟨bb,tv,pv,q,h1,h2,h3,h4,h5,h6,h7,h8,rfl⟩:=h;exact ⟨bb,tv,pv,q,h1.mod hm (hg p (.inl rfl)),h2.mod hm (hg bb (.inr (.inl rfl))),yG h3 hm (fun k hk=>hg k (.inr (.inr (.inl hk)))),h4.mod hm (fun k hk=>hg k (.inr (.inr (.inr hk)))),h5,h6,h7,h8,rfl⟩
theorem IsDisk.lt {d:DiskM}(h:IsDisk w d p F):∀ k,F k->k<w.heap.size:=by
 obtain ⟨bb,tv,pv,q,h1,h2,h3,h4,h5,h6,h7,h8,rfl⟩:=h;rintro k (rfl | rfl | hk | hk)
 . exact h1.lt
 . exact h2.lt
 . exact (h3.lt k hk).2
 .
  cases hl:d.left with
  | none=>rw [hl] at h4;obtain ⟨_,e⟩:=h4;rw [e] at hk;cases hk
  | some n=>rw [hl] at h4;obtain ⟨b,rfl,_,h,_⟩:=h4;injection hk with hk;subst hk;exact h.lt
theorem jf0 (w:World):Calls prog 35 #[] w fun e w'=>e=.returned (.bool true)/\w=w':=by
 go_enter func35,ntmps35
 go_wp2
 go_ret;exact ⟨rfl,rfl⟩
theorem jg6 (b:Nat)(w:World)(h:Box w b #[(0:Int)] 3):Calls prog 57 #[.pointer (some ⟨b,0,none⟩)] w fun e w'=>e=.returned (.bool false)/\w=w':=by
 have hc:=h.cell 0 _ rfl;go_enter func57,ntmps57
 go_wp2
 go_ret;exact ⟨rfl,rfl⟩
theorem jgl (b k:Nat)(w:World)(h:Box w b #[((k:Int)+1:Int)] 3)(hk:k<9223372036854775807):Calls prog 57 #[.pointer (some ⟨b,0,none⟩)] w fun e w'=>e=.returned (.bool true)/\w'=w.setCell ⟨b,0,none⟩ (k:Int):=by
 have hc:=h.cell 0 _ rfl;have hf:=h.free 0;have h0:(((k:Int)+1)==0)=false:=by simp;omega
 clear h;go_enter func57,ntmps57
 go_wp2
 go_ret;exact ⟨rfl,rfl⟩
theorem zj (d:DiskM)(p:Nat)(F:Nat->Prop)(i:Int)(w:World)(h:IsDisk w d p F) :
  Calls prog 49 #[.pointer (some ⟨p,0,none⟩),i] w fun e w'=>e=.returned (.bool (decide (0<=i/\i<d.strs.length)))/\w=w':=by
 obtain ⟨bb,tv,pv,q,h1,h2,h3,h4,h5,h6,h7,h8,rfl⟩:=h;have hc:=h1.cell 0 _ rfl;clear h1 h2 h3 h4 h7 h8;by_cases h0:0<=i
 .
  go_enter func49,ntmps49
  go_wp2
  go_ret;exact ⟨by simp [h0],rfl⟩
 .
  go_enter func49,ntmps49
  go_wp2
  go_ret;exact ⟨by simp;omega,rfl⟩
theorem zp (d:DiskM)(p:Nat)(F:Nat->Prop)(w:World)(h:IsDisk w d p F) :
  Calls prog 55 #[.pointer (some ⟨p,0,none⟩)] w fun e w'=>e=.returned (d.strs.length:Int)/\w=w':=by
 obtain ⟨bb,tv,pv,q,h1,h2,h3,h4,h5,h6,h7,h8,rfl⟩:=h;have hc:=h1.cell 0 _ rfl;clear h1 h2 h3 h4 h7 h8;go_enter func55,ntmps55
 go_wp2
 go_ret;exact ⟨rfl,rfl⟩
theorem xQ {base:Nat}{e:TypeId}{size n:Nat}{v:Value}{xs:List Value}(h:w.ownsRow base e size v n xs):∃ a cap,v=.slice a n cap/\n<=cap/\cap<=9223372036854775807:=by
 obtain ⟨a,cap,rfl,h1,h2,_⟩:=js h;exact ⟨a,cap,rfl,h1,h2⟩
theorem jl6 (d:DiskM)(p:Nat)(F:Nat->Prop)(i:Int)(w:World)(h:IsDisk w d p F)(hi:¬ (0<=i/\i<d.strs.length)) :
  Calls prog 119 #[.pointer (some ⟨p,0,none⟩),i] w fun e w'=>e=.returned (.tuple #[.string ByteArray.empty,jm 1])/\w=w':=by
 have hd:decide (0<=i/\i<d.strs.length)=false:=by simpa using hi
 go_enter func119,ntmps119;go_wp2_with fail;refine (zj d p F i w h).mono ?_;rw [hd];rintro e w' ⟨rfl,rfl⟩
 go_wp2
 go_ret2
 exact ⟨rfl,rfl⟩
theorem jhU (d:DiskM)(p:Nat)(F:Nat->Prop)(i:Nat)(w:World)(h:IsDisk w d p F)(hi:i<d.strs.length) :
  Calls prog 119 #[.pointer (some ⟨p,0,none⟩),(i:Int)] w fun e w'=>e=.returned (.tuple #[.string (d.strs.getD i ByteArray.empty),jm 0])/\w=w':=by
 have hd:decide (0<=(i:Int)/\(i:Int)<d.strs.length)=true:=by simpa using hi
 go_enter func119,ntmps119;go_wp2_with fail;refine (zj d p F i w h).mono ?_;rw [hd];rintro e w' ⟨rfl,rfl⟩;obtain ⟨bb,tv,pv,q,h1,h2,h3,h4,h5,h6,h7,h8,rfl⟩:=h;have hc:=h1.cell 0 _ rfl;obtain ⟨s,hs⟩:=Nm (d.strs.getD i ByteArray.empty);have hb:=h2.cell i (.string s) (by rw [hs];simp [hi])
 have H:=Hd hs;clear h1 h2 h3 h4 h7 h8 hd hs
 go_wp2
 go_ret2
 exact ⟨by rw [<- H.1];rfl,rfl⟩
def DiskM.write (d:DiskM)(i:Int)(s:ByteArray):DiskM × Int :=
 if ¬ (0<=i/\i<d.strs.length) then (d,1)
 else if 256<s.size then (d,3)
 else if d.left=some 0 then (d,22)
 else ({ strs:=d.strs.set i.toNat s,trail:=d.trail ++ [(i,s)],left:=d.left.map (· - 1) },0)
theorem jj6 (d:DiskM)(p:Nat)(F:Nat->Prop)(i:Int)(s:ByteArray)(w:World)(h:IsDisk w d p F)(hi:¬ (0<=i/\i<d.strs.length)) :
  Calls prog 25 #[.pointer (some ⟨p,0,none⟩),i,.string s] w fun e w'=>e=.returned (jm 1)/\w=w':=by
 have hd:decide (0<=i/\i<d.strs.length)=false:=by simpa using hi
 go_enter func25,ntmps25;go_wp2_with fail;refine (zj d p F i w h).mono ?_;rw [hd];rintro e w' ⟨rfl,rfl⟩
 go_wp2
 go_ret;exact ⟨rfl,rfl⟩
theorem jiR (d:DiskM)(p:Nat)(F:Nat->Prop)(i:Int)(s:ByteArray)(w:World)(h:IsDisk w d p F)(hi:0<=i/\i<d.strs.length)(hs:256<s.size) :
  Calls prog 25 #[.pointer (some ⟨p,0,none⟩),i,.string s] w fun e w'=>e=.returned (jm 3)/\w=w':=by
 have hd:decide (0<=i/\i<d.strs.length)=true:=by simpa using hi
 go_enter func25,ntmps25;go_wp2_with fail;refine (zj d p F i w h).mono ?_;rw [hd];rintro e w' ⟨rfl,rfl⟩
 go_wp2
 go_ret;exact ⟨rfl,rfl⟩
theorem jhR (d:DiskM)(p:Nat)(F:Nat->Prop)(i:Int)(s:ByteArray)(w:World)(h:IsDisk w d p F)(hi:0<=i/\i<d.strs.length)(hs:s.size<=256)(hl:d.left=some 0) :
  Calls prog 25 #[.pointer (some ⟨p,0,none⟩),i,.string s] w fun e w'=>e=.returned (jm 22)/\w=w':=by
 have hd:decide (0<=i/\i<d.strs.length)=true:=by simpa using hi
 go_enter func25,ntmps25;go_wp2_with fail;refine (zj d p F i w h).mono ?_;rw [hd];rintro e w' ⟨rfl,rfl⟩;obtain ⟨bb,tv,pv,q,h1,h2,h3,h4,h5,h6,h7,h8,rfl⟩:=h;rw [hl] at h4;obtain ⟨b,rfl,rfl,a0,_⟩:=h4;have hc:=h1.cell 2 _ rfl;clear h1 h2 h3 h7 h8 hd hl;go_wp2_with fail;refine (jg6 b _ a0).mono ?_;rintro e w' ⟨rfl,rfl⟩
 go_wp2
 go_ret;exact ⟨rfl,rfl⟩
theorem appR {ops:Array Oper}{rest:List Oper}{o:Oper}{a:Act}{Q:Exit->Act->World->Prop}(a3:o.guard=none)(s x:Operand)(ho:o.op=.call { callee:=.builtin .append,args:=#[s,x],argTypes:=#[72,72] })(base:Nat)(v:Value)(n:Nat)(xs:List Value)(hs:a.eval s=v)(a1:w.ownsRow base 111 2 v n xs)(src:Value)(m:Nat)(news:List Value)(hx:a.eval x=src)(a2:Rd w src m news)(hl:news.length=m*2)(h1:∀ u∈news,u.oneCell'=true)(a7:n+m<=1000000000000)(a0:base<=w.heap.size)(h:∀ v' w',w'.ownsRow base 111 2 v' (n+m) (xs++news)->w.grownBy w' v.ownBlock->xj w v v'->wpList prog ops Q rest (a.put o.dst v') w'):wpList prog ops Q (o::rest) a w:=by
 obtain ⟨i0,hi,a4,a5,a6⟩:=wI jkr;exact zo a3 s x 72 ho base 111 i0 _ 2 24 underlying72 hi a4 a5 a6 rfl (by decide) v n xs hs a1 src m news hx a2 hl h1 (by unfold maxLen;omega) (by omega) a0 h
theorem jmS (w:World)(cs:Array Value)(T:TypeId):Rd (w.alloc (.cells cs T)) (.slice (some ⟨w.heap.size,0,none⟩) 1 1) 1 cs.toList:=by
 refine ⟨_,_,rfl,qm _,by omega,(fun h=>by cases h),fun j hj=>⟨w.heap.size,0,rfl,?_⟩⟩
 rw [qA];refine (Box.new w cs T).cell j _ ?_;rw [<- Array.getElem?_toList,List.getD,List.getElem?_eq_getElem hj];rfl
theorem jdn (w:World)(cs:Array Value)(T:TypeId)(b:Nat)(hb:w.heap.size=b):Rd (w.alloc (.cells cs T)) (.slice (some ⟨b,0,none⟩) 1 1) 1 cs.toList:=by
 subst hb;exact jmS w cs T
theorem jbu (i:Int)(s:ByteArray):∀ u ∈ [Value.int .i64 i,.string s],u.oneCell'=true:=by simp [Value.oneCell']
theorem jkl (d:DiskM)(p:Nat)(F:Nat->Prop)(i:Nat)(s:ByteArray)(w:World)(h:IsDisk w d p F)(hi:i<d.strs.length)(hs:s.size<=256)(hl:d.left≠some 0)(ht:d.trail.length<=100000000000) :
  Calls prog 25 #[.pointer (some ⟨p,0,none⟩),(i:Int),.string s] w fun e w'=>e=.returned (jm 0) /\
   ∃ F',IsDisk w' { strs:=d.strs.set i s,trail:=d.trail ++ [((i:Int),s)],left:=d.left.map (· - 1) } p F'/\Mod F w w'/\∀ k,F' k->F k\/w.heap.size<=k:=by
 have hd:decide (0<=(i:Int)/\(i:Int)<d.strs.length)=true:=by simpa using hi
 go_enter func25,ntmps25;go_wp2_with fail;refine (zj d p F i w h).mono ?_;rw [hd];rintro e w' ⟨rfl,rfl⟩;clear hd;have a2:=h.lt;obtain ⟨bb,tv,pv,q,h1,h2,h3,h4,h5,h6,h7,h8,rfl⟩:=h;have b9:=h1.cell 2 _ rfl;have c3:∃ left',left'=d.left.map (· - 1):=⟨_,rfl⟩
 obtain ⟨left',a5⟩:=c3;have B:=Hd a5;have c1:(∃ w1,w1=w/\pv=.func (.func 35) #[] #[]/\q=none/\PowerAt w1 pv left' q/\Mod (fun k=>q=some k) w w1) \/
   (∃ (b n:Nat),q=some b/\pv=.func (.func 57) #[] #[.pointer (some ⟨b,0,none⟩)]/\Box w b #[((n:Int)+1:Int)] 3/\n<9223372036854775807/\PowerAt (w.setCell ⟨b,0,none⟩ (n:Int)) pv left' q/\Mod (fun k=>q=some k) w (w.setCell ⟨b,0,none⟩ (n:Int))):=by
  rw [a5]
  cases hlf:d.left with
  | none =>
   rw [hlf] at h4;obtain ⟨rfl,rfl⟩:=h4;exact .inl ⟨w,rfl,rfl,rfl,⟨rfl,rfl⟩,Mod.refl _ _⟩
  | some n =>
   rw [hlf] at h4;obtain ⟨b,rfl,rfl,a6,hn⟩:=h4
   cases n with
   | zero=>exact absurd hlf hl
   | succ n =>
    exact .inr ⟨b,n,rfl,rfl,by simpa using a6,by omega,⟨b,rfl,rfl,by simpa using a6.set 0 (n:Int),by simp;omega⟩,Mod.set _ _ _ _ rfl⟩
 clear h4 hl a5;have b2:∀ w1,PowerAt w1 pv left' q->Mod (fun k=>q=some k) w w1->Box w1 p #[.slice (some ⟨bb,0,none⟩) d.strs.length d.strs.length,tv,pv] 83/\Box w1 bb (d.strs.map Value.string).toArray 9/\w1.ownsRow 0 111 2 tv d.trail.length (jJ d.trail):=fun w1 _ hm =>
  ⟨h1.mod hm (fun e=>(h8 p e).1 rfl),h2.mod hm (fun e=>(h8 bb e).2.1 rfl),yG h3 hm (fun k hk e=>(h8 k e).2.2 hk)⟩
 have H:=Hd b2;clear b2
 rcases c1 with ⟨w1,rfl,rfl,rfl,a3,a0⟩ | ⟨b,n,rfl,rfl,a6,hn,a3,a0⟩
 .
  go_wp2_with fail;refine (jf0 _).mono ?_;rintro e w2 ⟨rfl,rfl⟩;obtain ⟨k1,k2,k3⟩:=H.1 _ a3 a0;clear h1 h2 h3 H b9;have b3:=k1.cell 0 _ rfl;have b4:=k1.cell 1 _ rfl;have b5:=k1.free 1;have b1:=k2.cell i (.string (d.strs.getD i ByteArray.empty)) (by simp [hi])
  have b6:=k2.free i;have m2:Mod (fun k=>k=bb) w1 (w1.setCell ⟨bb,i,none⟩ (.string s)):=Mod.set _ _ _ _ rfl
  have k1':=k1.mod m2 (fun e=>h6 e.symm)
  have k2':=k2.set i (.string s);have k3':=yG k3 m2 (fun k hk e=>(h7 k hk).2 e)
  have a7:=a3.mod m2 (fun k hk e=>(h8 k hk).2.1 e)
  have m3:Mod (fun k=>k=bb) w1 ((w1.setCell ⟨bb,i,none⟩ (.string s)).alloc (.cells #[(i:Int),.string s] 111)):=m2.trans (Mod.alloc _ _ _)
  have k1'':=k1'.below (ja _ (.cells #[(i:Int),.string s] 111));have k2'':=k2'.below (ja _ (.cells #[(i:Int),.string s] 111));have a8:=a7.mod (Mod.alloc (fun _=>False) _ (.cells #[(i:Int),.string s] 111)) (fun _ _ h=>h)
  have A:=Hd k3';have c4:w1.heap.size<=((w1.setCell ⟨bb,i,none⟩ (.string s)).alloc (.cells #[(i:Int),.string s] 111)).heap.size:=by simp
  clear k1 k2 k3 k3' k1' k2' a3 a7 m2
  go_wp2_with (at_builtin;refine appR rfl _ _ rfl 0 _ _ _ rfl (A.1.alloc _) _ 1 [(i:Int),.string s] rfl (jdn _ _ _ _ (by simp)) rfl (jbu _ _) (by omega) (qJ _) ?_)
  intro v' w3 a9 a4 b0;have b7:∀ k,tv.ownBlock=some k->tv.ownBlock=some k:=fun _ h=>h
  have m4:=Mod.of_grown (F:=fun k=>tv.ownBlock=some k) a4 b7
  have l1:=k1''.mod m4 (fun e=>(h7 p e).1 rfl)
  have l2:=k2''.mod m4 (fun e=>(h7 bb e).2 rfl)
  have l4:=a8.mod m4 (fun k hk e=>(h8 k hk).2.2 e)
  have a1:∀ k,v'.ownBlock=some k->tv.ownBlock=some k\/w1.heap.size<=k:=fun k hk=>by
   rcases b0 with e | e
   . left;rw [<- e];exact hk
   . right;rw [e] at hk;injection hk with hk;omega
  have c2:=a4.size;have c5:p<w1.heap.size/\bb<w1.heap.size:=⟨qu (a2 p (.inl rfl)) a0.size,qu (a2 bb (.inr (.inl rfl))) a0.size⟩;have c6:=l1.cell 1 _ rfl;have c7:=l1.free 1;clear b3 b4 b5 b1 b6 k1'' k2'' a8 a4 b0 A;obtain ⟨va,vc,b8,_,_⟩:=xQ a9;subst b8
  go_wp2
  go_ret;refine ⟨rfl,jiV p bb _ none,⟨bb,_,_,none,by simpa using l1.set 1 (.slice va (d.trail.length+1) vc),?_,?_,?_,by simpa using h5,h6,?_,?_,rfl⟩,?_,?_⟩
  .
   have:=l2.set_other (p:=⟨p,1,none⟩) (fun e=>h6 e.symm) (.slice va (d.trail.length+1) vc)
   simpa [List.map_set] using this
  .
   have:=yG a9 (Mod.set (fun k=>k=p) w3 ⟨p,1,none⟩ (.slice va (d.trail.length+1) vc) rfl) (fun k hk e=>by
    rcases a1 k hk with h | h
    . exact (h7 k h).1 e
    . omega)
   rw [xZ]
   simpa [jJ] using this
  .
   rw [<- B.1];exact l4.mod (Mod.set (fun k=>k=p) w3 ⟨p,1,none⟩ (.slice va (d.trail.length+1) vc) rfl) (fun k hk e=>(h8 k hk).1 e)
  .
   intro k hk
   rcases a1 k hk with h | h
   . exact h7 k h
   . exact ⟨by omega,by omega⟩
  .
   intro k hk;refine ⟨(h8 k hk).1,(h8 k hk).2.1,fun e=>?_⟩
   rcases a1 k e with h | h
   . exact (h8 k hk).2.2 h
   .
    have:=qu (a2 k (.inr (.inr (.inr hk)))) a0.size;omega
  . refine (a0.mono (fun k hk=>.inr (.inr (.inr hk)))).trans ((m3.mono (fun k hk=>.inr (.inl hk))).trans ((m4.mono (fun k hk=>.inr (.inr (.inl hk)))).trans (Mod.set _ _ _ _ (.inl rfl))))
  .
   rintro k (h | h | h | h)
   . exact .inl (.inl h)
   . exact .inl (.inr (.inl h))
   .
    rcases a1 k h with h' | h'
    . exact .inl (.inr (.inr (.inl h')))
    . exact .inr (qi a0.size h')
   . exact .inl (.inr (.inr (.inr h)))
 .
  go_wp2_with fail;refine (jgl b n _ a6 hn).mono ?_;rintro e w2 ⟨rfl,rfl⟩;obtain ⟨k1,k2,k3⟩:=H.1 _ a3 a0;clear h1 h2 h3 H b9 a6;obtain ⟨w1,c0⟩:∃ w1,w1=w.setCell ⟨b,0,none⟩ (n:Int):=⟨_,rfl⟩;rw [<- c0] at a3 a0 k1 k2 k3 |-;clear c0;have b3:=k1.cell 0 _ rfl;have b4:=k1.cell 1 _ rfl;have b5:=k1.free 1;have b1:=k2.cell i (.string (d.strs.getD i ByteArray.empty)) (by simp [hi])
  have b6:=k2.free i;have m2:Mod (fun k=>k=bb) w1 (w1.setCell ⟨bb,i,none⟩ (.string s)):=Mod.set _ _ _ _ rfl
  have k1':=k1.mod m2 (fun e=>h6 e.symm)
  have k2':=k2.set i (.string s);have k3':=yG k3 m2 (fun k hk e=>(h7 k hk).2 e)
  have a7:=a3.mod m2 (fun k hk e=>(h8 k hk).2.1 e)
  have m3:Mod (fun k=>k=bb) w1 ((w1.setCell ⟨bb,i,none⟩ (.string s)).alloc (.cells #[(i:Int),.string s] 111)):=m2.trans (Mod.alloc _ _ _)
  have k1'':=k1'.below (ja _ (.cells #[(i:Int),.string s] 111));have k2'':=k2'.below (ja _ (.cells #[(i:Int),.string s] 111));have a8:=a7.mod (Mod.alloc (fun _=>False) _ (.cells #[(i:Int),.string s] 111)) (fun _ _ h=>h)
  have A:=Hd k3';have c4:w1.heap.size<=((w1.setCell ⟨bb,i,none⟩ (.string s)).alloc (.cells #[(i:Int),.string s] 111)).heap.size:=by simp
  clear k1 k2 k3 k3' k1' k2' a3 a7 m2
  go_wp2_with (at_builtin;refine appR rfl _ _ rfl 0 _ _ _ rfl (A.1.alloc _) _ 1 [(i:Int),.string s] rfl (jdn _ _ _ _ (by simp)) rfl (jbu _ _) (by omega) (qJ _) ?_)
  intro v' w3 a9 a4 b0;have b7:∀ k,tv.ownBlock=some k->tv.ownBlock=some k:=fun _ h=>h
  have m4:=Mod.of_grown (F:=fun k=>tv.ownBlock=some k) a4 b7
  have l1:=k1''.mod m4 (fun e=>(h7 p e).1 rfl)
  have l2:=k2''.mod m4 (fun e=>(h7 bb e).2 rfl)
  have l4:=a8.mod m4 (fun k hk e=>(h8 k hk).2.2 e)
  have a1:∀ k,v'.ownBlock=some k->tv.ownBlock=some k\/w1.heap.size<=k:=fun k hk=>by
   rcases b0 with e | e
   . left;rw [<- e];exact hk
   . right;rw [e] at hk;injection hk with hk;omega
  have c2:=a4.size;have c5:p<w1.heap.size/\bb<w1.heap.size:=⟨qu (a2 p (.inl rfl)) a0.size,qu (a2 bb (.inr (.inl rfl))) a0.size⟩;have c6:=l1.cell 1 _ rfl;have c7:=l1.free 1;clear b3 b4 b5 b1 b6 k1'' k2'' a8 a4 b0 A;obtain ⟨va,vc,b8,_,_⟩:=xQ a9;subst b8
  go_wp2
  go_ret;refine ⟨rfl,jiV p bb _ (some b),⟨bb,_,_,some b,by simpa using l1.set 1 (.slice va (d.trail.length+1) vc),?_,?_,?_,by simpa using h5,h6,?_,?_,rfl⟩,?_,?_⟩
  .
   have:=l2.set_other (p:=⟨p,1,none⟩) (fun e=>h6 e.symm) (.slice va (d.trail.length+1) vc)
   simpa [List.map_set] using this
  .
   have:=yG a9 (Mod.set (fun k=>k=p) w3 ⟨p,1,none⟩ (.slice va (d.trail.length+1) vc) rfl) (fun k hk e=>by
    rcases a1 k hk with h | h
    . exact (h7 k h).1 e
    . omega)
   rw [xZ]
   simpa [jJ] using this
  .
   rw [<- B.1];exact l4.mod (Mod.set (fun k=>k=p) w3 ⟨p,1,none⟩ (.slice va (d.trail.length+1) vc) rfl) (fun k hk e=>(h8 k hk).1 e)
  .
   intro k hk
   rcases a1 k hk with h | h
   . exact h7 k h
   . exact ⟨by omega,by omega⟩
  .
   intro k hk;refine ⟨(h8 k hk).1,(h8 k hk).2.1,fun e=>?_⟩
   rcases a1 k e with h | h
   . exact (h8 k hk).2.2 h
   .
    have:=qu (a2 k (.inr (.inr (.inr hk)))) a0.size;omega
  . refine (a0.mono (fun k hk=>.inr (.inr (.inr hk)))).trans ((m3.mono (fun k hk=>.inr (.inl hk))).trans ((m4.mono (fun k hk=>.inr (.inr (.inl hk)))).trans (Mod.set _ _ _ _ (.inl rfl))))
  .
   rintro k (h | h | h | h)
   . exact .inl (.inl h)
   . exact .inl (.inr (.inl h))
   .
    rcases a1 k h with h' | h'
    . exact .inl (.inr (.inr (.inl h')))
    . exact .inr (qi a0.size h')
   . exact .inl (.inr (.inr (.inr h)))
theorem jmN (n:Int)(w:World)(h:n<1\/4096<n):Calls prog 20 #[n] w fun e w'=>e=.returned (.tuple #[.pointer none,jm 1])/\w=w':=by
 by_cases h1:n<1
 .
  go_enter func20,ntmps20
  go_wp2
  go_ret2
  exact ⟨rfl,rfl⟩
 .
  have h2:4096<n:=by omega
  go_enter func20,ntmps20
  go_wp2
  go_ret2
  exact ⟨rfl,rfl⟩
theorem jeS (n:Nat):((List.replicate n ByteArray.empty).map Value.string).toArray=madeCells #[.string ByteArray.empty] n:=by
 rw [List.map_replicate,<- toList_madeCells_one,Array.toArray_toList]
theorem jlt (n:Nat)(hn:n<=4096)(w:World):(Instr.makeSlice 81 (n:Int) (n:Int)).run prog w =
  .ok (.slice (some ⟨w.heap.size,0,none⟩) n n) (w.alloc (.cells (madeCells #[.string ByteArray.empty] n) 9)):=by
 obtain ⟨i0,hi,a0,a1,a2⟩:=wI jd4;have h:=run_make (P:=prog) w 81 9 i0 (.string ByteArray.empty) underlying81 hi a0 .i64 .i64 (n:Int) (n:Int) (by omega) (Int.le_refl _) (by rw [a2];omega) (by omega)
 simpa [a1,Value.cells] using h
theorem jgn (n:Nat)(w:World)(h1:1<=n)(h2:n<=4096):Calls prog 20 #[(n:Int)] w fun e w'=>∃ p F,e=.returned (.tuple #[.pointer (some ⟨p,0,none⟩),jm 0]) /\
  IsDisk w' { strs:=List.replicate n ByteArray.empty,trail := [],left:=none } p F/\Below w.heap.size w w'/\∀ k,F k->w.heap.size<=k:=by
 have a0:=jlt n h2;go_enter func20,ntmps20
 go_wp2
 go_ret2
 refine ⟨w.heap.size+1,_,rfl,⟨w.heap.size,.slice none 0 0,_,none,?_,?_,ws _ _ _ _,⟨rfl,rfl⟩,by simpa using h2,by simp,fun k hk=>by simp [Value.ownBlock] at hk,fun k hk=>by simp at hk,rfl⟩,by go_grown,?_⟩
 .
  have:=Box.new (w.alloc (.cells (madeCells #[.string ByteArray.empty] n) 9)) #[.slice (some ⟨w.heap.size,0,none⟩) n n,.slice none 0 0,.func (.func 35) #[] #[]] 83
  simpa using this
 .
  have:=(Box.new w (madeCells #[.string ByteArray.empty] n) 9);rw [jeS];exact this.below (ja _ _)
 .
  rintro k (h | h | h | h)
  . omega
  . omega
  . simp [Value.ownBlock] at h
  . cases h
theorem IsDisk.power {d:DiskM}(h:IsDisk w d p F)(pv:Value)(left:Option Nat)(q:Option Nat)(hP:PowerAt w pv left q)(hq:∀ k,q=some k->¬ F k) :
  ∃ F',IsDisk (w.setCell ⟨p,2,none⟩ pv) { d with left:=left } p F'/\Mod F w (w.setCell ⟨p,2,none⟩ pv)/\∀ k,F' k->F k\/q=some k:=by
 obtain ⟨bb,tv,pv0,q0,h1,h2,h3,h4,h5,h6,h7,h8,rfl⟩:=h;refine ⟨jiV p bb tv q,⟨bb,tv,pv,q,by simpa using h1.set 2 pv,h2.set_other (fun e=>h6 e.symm) pv,yG h3 (Mod.set (fun k=>k=p) w ⟨p,2,none⟩ pv rfl) (fun k hk e=>(h7 k hk).1 e),hP.mod (Mod.set (fun k=>k=p) w ⟨p,2,none⟩ pv rfl) (fun k hk e=>hq k hk (.inl e)),h5,h6,h7,fun k hk=>⟨fun e=>hq k hk (.inl e),fun e=>hq k hk (.inr (.inl e)),fun e=>hq k hk (.inr (.inr (.inl e)))⟩,rfl⟩,Mod.set _ _ _ _ (.inl rfl),?_⟩
 rintro k (h | h | h | h)
 . exact .inl (.inl h)
 . exact .inl (.inr (.inl h))
 . exact .inl (.inr (.inr (.inl h)))
 . exact .inr h
theorem IsDisk.cells {d:DiskM}(h:IsDisk w d p F):F p/\∃ c0 c1 c2,Box w p #[c0,c1,c2] 83:=by
 obtain ⟨bb,tv,pv0,q0,h1,h2,h3,h4,h5,h6,h7,h8,rfl⟩:=h;exact ⟨.inl rfl,_,_,_,h1⟩
theorem je1 (n:Nat)(w:World):Calls prog 36 #[(n:Int)] w fun e w'=>e=.returned (.func (.func 57) #[] #[.pointer (some ⟨w.heap.size,0,none⟩)])/\w'=w.alloc (.cells #[(n:Int)] 3):=by
 have a0:∀ (fn:Fn) (first cap:Array Value) (w:World),(Instr.makeFunc fn first cap).run prog w=.ok (.func fn first cap) w:=fun _ _ _ _=>rfl
 go_enter func36,ntmps36
 go_wp2
 go_ret;exact ⟨rfl,rfl⟩
theorem jca (d:DiskM)(p:Nat)(F:Nat->Prop)(n:Int)(w:World)(h:IsDisk w d p F)(hn:n<=9223372036854775807) :
  Calls prog 11 #[.pointer (some ⟨p,0,none⟩),n] w fun e w'=>e=.returned (.tuple #[])/\∃ F',IsDisk w' { d with left:=if n<0 then none else some n.toNat } p F'/\Mod F w w'/\∀ k,F' k->F k\/w.heap.size<=k:=by
 obtain ⟨F1,g1,g2,g3⟩:=h.power (.func (.func 35) #[] #[]) none none ⟨rfl,rfl⟩ (fun k hk=>by cases hk)
 obtain ⟨_,c0,c1,c2,hb⟩:=h.cells;have hc:=hb.cell 2 _ rfl;have hf:=hb.free 2;have a5:=h.lt;clear h hb;by_cases h0:n<0
 .
  go_enter func11,ntmps11
  go_wp2
  go_end0
  refine ⟨rfl,F1,by simpa [h0] using g1,g2,fun k hk=>?_⟩
  rcases g3 k hk with h | h
  . exact .inl h
  . cases h
 .
  obtain ⟨m,rfl⟩:=wX (show 0<=n by omega)
  go_enter func11,ntmps11;go_wp2_with fail;refine (je1 m _).mono ?_;rintro e w' ⟨rfl,rfl⟩;have a0:(w.setCell ⟨p,2,none⟩ (.func (.func 35) #[] #[])).heap.size=w.heap.size:=by simp
  have a1:=Box.new (w.setCell ⟨p,2,none⟩ (.func (.func 35) #[] #[])) #[(m:Int)] 3;have g4:=g1.mod (Mod.alloc (fun _=>False) _ (.cells #[(m:Int)] 3)) (fun _ _ h=>h)
  obtain ⟨F2,k1,k2,k3⟩:=g4.power (.func (.func 57) #[] #[.pointer (some ⟨w.heap.size,0,none⟩)]) (some m) (some w.heap.size) ⟨w.heap.size,rfl,rfl,by rw [<- a0];exact a1,by omega⟩ (fun k hk hF=>by
   injection hk with hk;subst hk
   rcases g3 _ hF with h | h
   . have:=a5 _ h;omega
   . cases h)
  obtain ⟨_,d0,d1,d2,a2⟩:=g4.cells;have hd:=a2.cell 2 _ rfl;have a6:=a2.free 2;have a3:((w.setCell ⟨p,2,none⟩ (.func (.func 35) #[] #[])).alloc (.cells #[(m:Int)] 3)).heap.size=w.heap.size+1:=by simp
  have m1:Mod F w ((w.setCell ⟨p,2,none⟩ (.func (.func 35) #[] #[])).alloc (.cells #[(m:Int)] 3)):=g2.trans (Mod.alloc _ _ _);have G1:=Hd g1;clear g1 g4 a1 a2 hc hf;rw [a0];clear a0;obtain ⟨w2,a4⟩:∃ w2,w2=(w.setCell ⟨p,2,none⟩ (.func (.func 35) #[] #[])).alloc (.cells #[(m:Int)] 3):=⟨_,rfl⟩;rw [<- a4] at k1 k2 hd a6 a3 m1 |-;clear a4;have a7:w.heap.size<=w2.heap.size:=by omega
  clear a3
  go_wp2
  go_end0
  refine ⟨rfl,F2,by simpa [h0] using k1,?_,fun k hk=>?_⟩
  .
   refine m1.then k2 (fun i hi=>?_)
   rcases g3 i hi with h | h
   . exact .inl h
   . cases h
  .
   rcases k3 k hk with h | h
   .
    rcases g3 k h with h | h
    . exact .inl h
    . cases h
   . injection h with h;right;omega
theorem jdq (src:Value)(n:Nat)(xs:List Value)(w:World)(a1:Rd w src n xs)(hl:xs.length=n*2)(h1:∀ u∈xs,u.oneCell'=true)(hn:n<=1000000000000) :
  Calls prog 53 #[src] w fun e w'=>∃ a c,e=.returned (.slice a n c)/\w'.ownsRow w.heap.size 111 2 (.slice a n c) n xs/\Below w.heap.size w w':=by
 have a4:=a1;obtain ⟨a,cap,rfl,a8,a9,a0,_⟩:=a1;have hq:=fun w=>pQ (P:=prog) w 72 111 a n cap 0 0 underlying72
 cases a with
 | none =>
  have a5:=a0 rfl;have a6:n=0:=by omega
  subst a6;subst a5;have:xs = []:=qw (by simpa using hl)
  subst this;clear a0;go_enter func53,ntmps53
  go_wp2
  go_ret;exact ⟨_,_,rfl,ws _ _ _ _,qG _ _⟩
 | some a =>
  have H:=Hd (World.ownsRow_made w #[] 0 (qm _) (by decide) rfl:(w.alloc (.cells #[] 111)).ownsRow w.heap.size 111 2 (.slice (some ⟨w.heap.size,0,none⟩) 0 0) 0 [])
  clear a0;go_enter func53,ntmps53
  go_wp2_with (at_builtin;go_loud (refine appR rfl _ _ rfl w.heap.size _ _ _ rfl H.1 _ n xs rfl (a4.below (ja _ _)) hl h1 (by omega) (by simp) ?_))
  intro v' w1 a3 a7 _;obtain ⟨va,vc,rfl,_,_⟩:=xQ a3
  go_wp2
  go_ret;exact ⟨va,vc,by simp,by simpa using a3,(ja _ _).trans (jam a7 (B:=w.heap.size) (by simp) (fun k hk=>(H.1.lt k hk).1))⟩
theorem jgy (l:List (Int × ByteArray)):∀ u∈jJ l,u.oneCell'=true:=by
 intro u hu;obtain ⟨r,_,hr⟩:=List.mem_flatMap.1 hu
 simp at hr
 rcases hr with rfl | rfl <;> simp [Value.oneCell']
theorem jhY (d:DiskM)(p:Nat)(F:Nat->Prop)(w:World)(h:IsDisk w d p F)(hn:d.trail.length<=1000000000000) :
  Calls prog 29 #[.pointer (some ⟨p,0,none⟩)] w fun e w'=>∃ a c,e=.returned (.slice a d.trail.length c)/\w'.ownsRow w.heap.size 111 2 (.slice a d.trail.length c) d.trail.length (jJ d.trail)/\Below w.heap.size w w':=by
 obtain ⟨bb,tv,pv,q,h1,h2,h3,h4,h5,h6,h7,h8,rfl⟩:=h;have a1:=js h3;obtain ⟨ta,tc,rfl,_,_⟩:=xQ h3;have hc:=h1.cell 1 _ rfl;clear h1 h2 h3 h4 h7 h8;go_enter func29,ntmps29;go_wp2_with fail;refine (jdq _ _ _ _ a1 (yH _) (jgy _) hn).mono ?_;rintro e w' ⟨oa,oc,rfl,a0,hb⟩
 go_wp2
 go_ret;exact ⟨_,_,rfl,a0,hb⟩
theorem jdh (l:List (Int × ByteArray)):∀ strs:List ByteArray,(l.foldl (fun s r=>s.set r.1.toNat r.2) strs).length=strs.length:=by
 induction l with
 | nil=>intro _;rfl
 | cons a l ih=>intro strs;rw [List.foldl_cons,ih];simp
theorem jbo (l:List (Int × ByteArray))(k:Nat)(h:k<l.length):(jJ l)[k*2]?=some (.int .i64 l[k].1)/\(jJ l)[k*2+1]?=some (.string l[k].2):=by
 induction l generalizing k with
 | nil=>simp at h
 | cons a l ih =>
  cases k with
  | zero=>simp [jJ]
  | succ k =>
   have:=ih k (by simpa using h)
   have e:jJ (a::l)=.int .i64 a.1::.string a.2::jJ l:=by simp [jJ]
   rw [e,show (k+1)*2=k*2+1+1 by omega,show (k*2+1+1)+1=(k*2+1)+1+1 by omega]
   simpa using this
theorem jmR (l:List (Int × ByteArray))(k:Nat)(h:k<l.length):∃ (b:Int) (s:ByteArray),l.take (k+1)=l.take k ++ [(b,s)]/\(jJ l)[k*2]?=some (.int .i64 b)/\(jJ l)[k*2+1]?=some (.string s)/\(b,s)∈l:=by
 obtain ⟨h1,h2⟩:=jbo l k h;exact ⟨l[k].1,l[k].2,by rw [qk h],h1,h2,qy h⟩
def yq (strs:List ByteArray)(l:List (Int × ByteArray)):List ByteArray:=l.foldl (fun s r=>s.set r.1.toNat r.2) strs
structure DiskM.Wf (d:DiskM):Prop where
 inr:∀ r∈d.trail,0<=r.1/\r.1<d.strs.length
 short:∀ r∈d.trail,r.2.size<=256
 play:d.strs=yq (List.replicate d.strs.length ByteArray.empty) d.trail
theorem jaV (s:List ByteArray)(l:List (Int × ByteArray))(r:Int × ByteArray):yq s (l ++ [r])=(yq s l).set r.1.toNat r.2:=by simp [yq]
theorem jgB (s:List ByteArray)(l:List (Int × ByteArray)):(yq s l).length=s.length:=jdh l s
theorem DiskM.write_len (d:DiskM)(i:Int)(s:ByteArray):(d.write i s).1.strs.length=d.strs.length:=by
 unfold DiskM.write;split
 . rfl
 split
 . rfl
 split
 . rfl
 . simp
theorem DiskM.Wf.write {d:DiskM}(h:d.Wf)(i:Int)(s:ByteArray):(d.write i s).1.Wf:=by
 unfold DiskM.write;split
 . exact h
 rename_i h1
 split
 . exact h
 rename_i h2
 split
 . exact h
 refine ⟨fun r hr=>?_,fun r hr=>?_,?_⟩
 .
  simp only [qW,qC,pP] at hr |-
  rcases hr with hr | rfl
  . exact h.inr r hr
  . simp only;omega
 .
  simp only [qW,qC] at hr
  rcases hr with hr | rfl
  . exact h.short r hr
  . simp only;omega
 .
  simp only [pP];rw [jaV,<- h.play]
theorem DiskM.Wf.new (n:Nat)(left:Option Nat):({ strs:=List.replicate n ByteArray.empty,trail := [],left:=left }:DiskM).Wf :=
 ⟨fun r hr=>by simp at hr,fun r hr=>by simp at hr,by simp [yq]⟩
theorem DiskM.write_trail (d:DiskM)(i:Int)(s:ByteArray):(d.write i s).1.trail.length<=d.trail.length+1/\d.trail.length<=(d.write i s).1.trail.length:=by
 unfold DiskM.write
 split
 . exact ⟨wE _,qm _⟩
 split
 . exact ⟨wE _,qm _⟩
 split
 . exact ⟨wE _,qm _⟩
 . simp
theorem jaw (d:DiskM)(p:Nat)(F:Nat->Prop)(i:Int)(s:ByteArray)(w:World)(h:IsDisk w d p F)(ht:d.trail.length<=100000000000)(hs:s.size<=9223372036854775807) :
  Calls prog 25 #[.pointer (some ⟨p,0,none⟩),i,.string s] w fun e w'=>e=.returned (jm (d.write i s).2) /\
   ∃ F',IsDisk w' (d.write i s).1 p F'/\Mod F w w'/\∀ k,F' k->F k\/w.heap.size<=k:=by
 unfold DiskM.write;by_cases h1:0<=i/\i<d.strs.length
 .
  rw [qh (by simpa using h1)]
  by_cases h2:256<s.size
  .
   rw [qf h2];refine (jiR d p F i s w h h1 h2).mono ?_;rintro e w' ⟨rfl,rfl⟩;exact ⟨rfl,F,h,Mod.refl _ _,fun k hk=>.inl hk⟩
  .
   rw [qh h2];by_cases h3:d.left=some 0
   .
    rw [qf h3];refine (jhR d p F i s w h h1 (by omega) h3).mono ?_
    rintro e w' ⟨rfl,rfl⟩;exact ⟨rfl,F,h,Mod.refl _ _,fun k hk=>.inl hk⟩
   .
    rw [qh h3];obtain ⟨n,rfl⟩:=wX h1.1;exact jkl d p F n s w h (by omega) (by omega) h3 ht
 .
  rw [qf h1];refine (jj6 d p F i s w h h1).mono ?_;rintro e w' ⟨rfl,rfl⟩;exact ⟨rfl,F,h,Mod.refl _ _,fun k hk=>.inl hk⟩
theorem DiskM.write_left {d:DiskM}(h:d.left=none)(i:Int)(s:ByteArray):(d.write i s).1.left=none:=by
 unfold DiskM.write
 split
 . exact h
 split
 . exact h
 split
 . exact h
 . simp [h]
theorem jhD (l:List (Int × ByteArray))(k:Nat)(h:k<l.length):(jJ l).getD (k*2) undef=.int .i64 (l.getD k (0,ByteArray.empty)).1/\(jJ l).getD (k*2+1) undef=.string (l.getD k (0,ByteArray.empty)).2:=by
 obtain ⟨h1,h2⟩:=jbo l k h;exact ⟨by rw [List.getD,h1];simp [h],by rw [List.getD,h2];simp [h]⟩
def vF:Option Nat->Int
 | none => -1
 | some n=>(n:Int)
def IsRef (w:World)(d:DiskM)(rp:Nat)(G:Nat->Prop):Prop :=
 ∃ tv:Value,Box w rp #[(d.strs.length:Int),tv,(vF d.left)] 74/\w.ownsRow 0 111 2 tv d.trail.length (jJ d.trail)/\(∀ k,tv.ownBlock=some k->k≠rp)/\(∀ n,d.left=some n->n<=9223372036854775807)/\G=fun k=>k=rp\/tv.ownBlock=some k
theorem IsRef.mod {d:DiskM}(h:IsRef w d rp G)(hm:Mod F w w')(hg:∀ k,G k->¬ F k):IsRef w' d rp G:=by
 obtain ⟨tv,h1,h2,h3,a0,rfl⟩:=h;exact ⟨tv,h1.mod hm (hg rp (.inl rfl)),yG h2 hm (fun k hk=>hg k (.inr hk)),h3,a0,rfl⟩
theorem IsRef.lt {d:DiskM}(h:IsRef w d rp G):∀ k,G k->k<w.heap.size:=by
 obtain ⟨tv,h1,h2,h3,a0,rfl⟩:=h;rintro k (rfl | hk)
 . exact h1.lt
 . exact (h2.lt k hk).2
theorem IsRef.below {d:DiskM}(h:IsRef w d rp G)(hb:Below w.heap.size w w'):IsRef w' d rp G:=h.mod (Mod.of_below (F:=fun _=>False) hb) (fun _ _ h=>h)
def DiskM.read (d:DiskM)(i:Int):ByteArray × Int:=if 0<=i/\i<d.strs.length then (d.strs.getD i.toNat ByteArray.empty,0) else (ByteArray.empty,1)
theorem jhM (d:DiskM)(p:Nat)(F:Nat->Prop)(i:Int)(w:World)(h:IsDisk w d p F) :
  Calls prog 119 #[.pointer (some ⟨p,0,none⟩),i] w fun e w'=>e=.returned (.tuple #[.string (d.read i).1,jm (d.read i).2])/\w=w':=by
 unfold DiskM.read;by_cases hi:0<=i/\i<d.strs.length
 .
  rw [qf hi];obtain ⟨n,rfl⟩:=wX hi.1;exact jhU d p F n w h (by omega)
 .
  rw [qh hi];exact jl6 d p F i w h hi
theorem jjR (n:Int)(w:World)(h:n<1\/4096<n):Calls prog 21 #[n] w fun e w'=>e=.returned (.tuple #[.pointer none,(1:Int)])/\w'=w:=by
 by_cases h1:n<1
 .
  go_enter func21,ntmps21;go_wp2
  go_ret2
  exact ⟨rfl,rfl⟩
 .
  have h2:4096<n:=by omega
  go_enter func21,ntmps21;go_wp2
  go_ret2
  exact ⟨rfl,rfl⟩
theorem jij (n:Nat)(w:World)(h1:1<=n)(h2:n<=4096):Calls prog 21 #[(n:Int)] w fun e w'=>e=.returned (.tuple #[.pointer (some ⟨w.heap.size,0,none⟩),(0:Int)]) /\
  ∃ G,IsRef w' { strs:=List.replicate n ByteArray.empty,trail := [],left:=none } w.heap.size G/\Below w.heap.size w w'/\∀ k,G k->w.heap.size<=k:=by
 have c1:¬ (n:Int)<1:=by omega
 have c2:¬ (4096:Int)<(n:Int):=by omega
 go_enter func21,ntmps21;go_wp2
 go_ret2
 refine ⟨rfl,_,⟨.slice none 0 0,?_,ws _ _ _ _,fun k hk=>(by simp [Value.ownBlock] at hk),fun m hm=>(by cases hm),rfl⟩,ja _ _,fun k hk=>?_⟩
 .
  simp only [List.length_replicate];exact Box.new _ _ _
 .
  rcases hk with rfl | hk
  . exact qm _
  . simp [Value.ownBlock] at hk
theorem jf8 (d:DiskM)(rp:Nat)(G:Nat->Prop)(n:Int)(w:World)(h:IsRef w d rp G)(hn:n<=9223372036854775807) :
  Calls prog 23 #[.pointer (some ⟨rp,0,none⟩),n] w fun e w'=>e=.returned (.tuple #[])/\IsRef w' { d with left:=if n<0 then none else some n.toNat } rp G/\Mod G w w':=by
 obtain ⟨tv,h1,h2,h3,a3,rfl⟩:=h;have a2:∀ ts t w',(Builtin.max_ ts t #[n,(-1:Int)]).run prog w'=.ok (vF (if n<0 then none else some n.toNat):Int) w':=fun ts t w'=>by
  rw [run_max_int2];have:(if (-1:Int) > n then (-1:Int) else n)=vF (if n<0 then none else some n.toNat):=by
   by_cases h:n<0
   . rw [qf h];simp only [vF];split <;> omega
   . rw [qh h];simp only [vF];split <;> omega
  rw [this]
 have c2:=h1.cell 2 _ rfl;have f2:=h1.free 2;obtain ⟨lf,a1⟩:∃ lf:Option Nat,lf=if n<0 then none else some n.toNat:=⟨_,rfl⟩
 rw [<- a1] at a2 |-;have B:=Hd h1;have C:=Hd h2;have H:=Hd h3;have A:=Hd a1;clear h1 h2 h3 a1;go_enter func23,ntmps23;go_wp2;refine pE (wZ rfl _ _ _) rfl ?_;have hm:=Mod.set (fun b=>b=rp) w ⟨rp,2,none⟩ (vF lf) rfl
 exact ⟨rfl,⟨tv,B.1.set 2 _,yG C.1 hm (fun k hk e=>H.1 k hk e),H.1,fun m a0=>by
  rw [A.1] at a0
  split at a0
  . cases a0
  . injection a0 with a0;omega,rfl⟩,hm.mono (fun b hb=>.inl hb)⟩
theorem jec {o:Option Nat}:vF o=0↔o=some 0:=by
 cases o with
 | none=>simp [vF]
 | some n=>simp [vF]
theorem vb (d:DiskM)(rp:Nat)(G:Nat->Prop)(i:Int)(s:ByteArray)(w:World)(h:IsRef w d rp G)(ht:d.trail.length<=100000000000)(hs:s.size<=9223372036854775807) :
  Calls prog 26 #[.pointer (some ⟨rp,0,none⟩),i,.string s] w fun e w'=>e=.returned (.int .i64 (d.write i s).2) /\
   ∃ G',IsRef w' (d.write i s).1 rp G'/\Mod G w w'/\∀ k,G' k->G k\/w.heap.size<=k:=by
 obtain ⟨tv,h1,h2,h3,a0,rfl⟩:=h;have c0:=h1.cell 0 _ rfl;have B:=Hd h1;have L:=Hd h2;have A:=Hd h3;by_cases hi:0<=i/\i<d.strs.length
 .
  have b8:¬ i<0:=by omega
  have b9:¬ (d.strs.length:Int)<=i:=by omega
  by_cases h256:256<s.size
  .
   have ew:d.write i s=(d,3):=by unfold DiskM.write;rw [qh (by omega),qf h256]
   have Ew:=Hd ew;have b5:(256:Int)<(s.size:Int):=by omega
   clear h1 h2 h3 ew;go_enter func26,ntmps26;go_wp2;go_ret;rw [Ew.1];exact ⟨rfl,_,⟨tv,B.1,L.1,A.1,a0,rfl⟩,Mod.refl _ _,fun k hk=>.inl hk⟩
  .
   have b5:¬ (256:Int)<(s.size:Int):=by omega
   have c3:decide (256<s.size)=false:=by simp;omega
   have c2:=h1.cell 2 _ rfl;by_cases h0:d.left=some 0
   .
    have Ew:=Hd (by unfold DiskM.write;rw [qh (by omega),qh h256,qf h0]:d.write i s=(d,22))
    rw [show vF d.left=0 from jec.2 h0] at c2
    clear h1 h2 h3;go_enter func26,ntmps26;go_wp2;go_ret;rw [Ew.1];exact ⟨rfl,_,⟨tv,B.1,L.1,A.1,a0,rfl⟩,Mod.refl _ _,fun k hk=>.inl hk⟩
   .
    have ew:d.write i s=({ strs:=d.strs.set i.toNat s,trail:=d.trail ++ [(i,s)],left:=d.left.map (· - 1) },0):=by unfold DiskM.write;rw [qh (by omega),qh h256,qh h0]
    have Ew:=Hd ew;obtain ⟨ta,tc,rfl,_,_⟩:=xQ h2;obtain ⟨lf,a1⟩:∃ lf:Int,lf=vF d.left:=⟨_,rfl⟩;rw [<- a1] at c2;have b3:lf≠0:=by rw [a1];exact fun e=>h0 (jec.1 e)
    clear b3
    cases hcl:d.left with
    | none =>
     have a9:lf = -1:=by rw [a1,hcl];rfl
     subst a9;rw [hcl] at Ew;have k1:Box w rp #[(d.strs.length:Int),.slice ta d.trail.length tc,(-1:Int)] 74:=by rw [a1];exact h1
     have D:=Hd h2;have mm:=Mod.refl (fun b=>b=rp) w
     clear h1 h2 h3 a1 ew h0 hcl;have k1':=k1.below (ja (w) (.cells #[i,.string s] 111));have c1':=k1'.cell 1 _ rfl;have c1:=k1.cell 1 _ rfl;have C:=Hd k1';have E:=Hd mm;have a2:w.heap.size<=(w).heap.size:=mm.size;clear k1 k1' mm c1';go_enter func26,ntmps26
     go_wp2_with (at_builtin;refine appR rfl _ _ rfl 0 _ _ _ rfl (D.1.alloc _) _ 1 [i,.string s] rfl (jdn _ _ _ _ (by simp)) rfl (jbu _ _) (by omega) (qJ _) ?_)
     intro v' w3 a3 a5 a6;obtain ⟨na,nc,rfl,_,_⟩:=xQ a3;have m4:=Mod.of_grown (F:=fun k=>(Value.slice ta d.trail.length tc).ownBlock=some k) a5 (fun _ h=>h)
     have l1:=Box.mod C.1 m4 (fun e=>A.1 rp e rfl)
     have a4:∀ k,(Value.slice na (d.trail.length+1) nc).ownBlock=some k->(Value.slice ta d.trail.length tc).ownBlock=some k\/(w).heap.size<=k:=fun k hk=>by
      rcases a6 with e | e
      . left;rw [<- e];exact hk
      . right;rw [e] at hk;injection hk with hk;rw [<- hk];simp
     have b4:rp<(w).heap.size:=qu B.1.lt a2;have f1:=l1.free 1;have c1':=l1.cell 1 _ rfl;have b0:jJ (d.trail ++ [(i,s)])=jJ d.trail ++ [.int .i64 i,.string s]:=by rw [xZ];rfl
     have I:=Hd (l1.set 1 (.slice na (d.trail.length+1) nc));have J:=Hd a3;have K:=Hd m4;have H:=Hd a4;clear l1 a3 a5 a6 m4 a4 c0 c2 c1;go_wp2;go_ret;rw [Ew.1];have a7:=Mod.set (fun b=>b=rp) w3 ⟨rp,1,none⟩ (.slice na (d.trail.length+1) nc) rfl
     have a8:∀ k,(Value.slice na (d.trail.length+1) nc).ownBlock=some k->k≠rp:=fun k hk e=>by
      rcases H.1 k hk with h | h
      . exact A.1 k h e
      . omega
     refine ⟨rfl,_,⟨.slice na (d.trail.length+1) nc,?_,?_,a8,fun m b1=>by simp at b1,rfl⟩,?_,fun k hk=>?_⟩
     .
      simp only [pP];exact I.1
     .
      simp only [qd,qx];rw [b0];exact yG J.1 a7 (fun k hk e=>a8 k hk e)
     . exact ((E.1.mono (fun b hb=>.inl hb)).trans (((Mod.alloc (fun b=>(Value.slice ta d.trail.length tc).ownBlock=some b) (w) (.cells #[i,.string s] 111)).trans K.1).mono (fun b hb=>.inr hb))).trans (a7.mono (fun b hb=>.inl hb))
     .
      rcases hk with rfl | hk
      . exact .inl (.inl rfl)
      .
       rcases H.1 k hk with h | h
       . exact .inl (.inr h)
       . exact .inr (qi a2 h)
    | some n =>
     obtain ⟨m,rfl⟩:∃ m,n=m+1:=⟨n-1,by
      rcases ky n with h | h
      . rw [h] at hcl;exact absurd hcl h0
      . omega⟩
     have a9:lf=(m:Int)+1:=by rw [a1,hcl];simp [vF]
     have b6:0<lf:=by omega
     have b7:lf<=9223372036854775807:=by have:=a0 (m+1) hcl;omega
     have M:=Hd (by omega:(m:Int)=lf-1)
     rw [hcl] at Ew;have k1:Box (w.setCell ⟨rp,2,none⟩ (lf-1:Int)) rp #[(d.strs.length:Int),.slice ta d.trail.length tc,(lf-1:Int)] 74:=h1.set 2 _;have mm:=Mod.set (fun b=>b=rp) w ⟨rp,2,none⟩ (lf-1:Int) rfl
     have D:=Hd (yG h2 mm (fun k hk e=>h3 k hk e))
     have f2:=h1.free 2;have c1:=h1.cell 1 _ rfl;have N:=Hd (a0 (m+1) hcl);clear h1 h2 h3 a1 ew h0 hcl a9 a0;have k1':=k1.below (ja (w.setCell ⟨rp,2,none⟩ (lf-1:Int)) (.cells #[i,.string s] 111));have c1':=k1'.cell 1 _ rfl;have C:=Hd k1';have E:=Hd mm;have a2:w.heap.size<=(w.setCell ⟨rp,2,none⟩ (lf-1:Int)).heap.size:=mm.size;clear k1 k1' mm c1';go_enter func26,ntmps26
     go_wp2_with (at_builtin;refine appR rfl _ _ rfl 0 _ _ _ rfl (D.1.alloc _) _ 1 [i,.string s] rfl (jdn _ _ _ _ (by simp)) rfl (jbu _ _) (by omega) (qJ _) ?_)
     intro v' w3 a3 a5 a6;obtain ⟨na,nc,rfl,_,_⟩:=xQ a3;have m4:=Mod.of_grown (F:=fun k=>(Value.slice ta d.trail.length tc).ownBlock=some k) a5 (fun _ h=>h)
     have l1:=Box.mod C.1 m4 (fun e=>A.1 rp e rfl)
     have a4:∀ k,(Value.slice na (d.trail.length+1) nc).ownBlock=some k->(Value.slice ta d.trail.length tc).ownBlock=some k\/(w.setCell ⟨rp,2,none⟩ (lf-1:Int)).heap.size<=k:=fun k hk=>by
      rcases a6 with e | e
      . left;rw [<- e];exact hk
      . right;rw [e] at hk;injection hk with hk;rw [<- hk];simp
     have b4:rp<(w.setCell ⟨rp,2,none⟩ (lf-1:Int)).heap.size:=qu B.1.lt a2;have f1:=l1.free 1;have c1':=l1.cell 1 _ rfl;have b0:jJ (d.trail ++ [(i,s)])=jJ d.trail ++ [.int .i64 i,.string s]:=by rw [xZ];rfl
     have I:=Hd (l1.set 1 (.slice na (d.trail.length+1) nc));have J:=Hd a3;have K:=Hd m4;have H:=Hd a4;clear l1 a3 a5 a6 m4 a4 c0 c2 c1;go_wp2;go_ret;rw [Ew.1];have a7:=Mod.set (fun b=>b=rp) w3 ⟨rp,1,none⟩ (.slice na (d.trail.length+1) nc) rfl
     have a8:∀ k,(Value.slice na (d.trail.length+1) nc).ownBlock=some k->k≠rp:=fun k hk e=>by
      rcases H.1 k hk with h | h
      . exact A.1 k h e
      . omega
     refine ⟨rfl,_,⟨.slice na (d.trail.length+1) nc,?_,?_,a8,fun m b1=>by have:=N.1;simp at b1;omega,rfl⟩,?_,fun k hk=>?_⟩
     .
      simp only [pP];have e:vF ((some (m+1)).map (· - 1))=lf-1:=by simp only [pN,Nat.add_sub_cancel,vF];exact M.1
      rw [e];exact I.1
     .
      simp only [qd,qx];rw [b0];exact yG J.1 a7 (fun k hk e=>a8 k hk e)
     . exact ((E.1.mono (fun b hb=>.inl hb)).trans (((Mod.alloc (fun b=>(Value.slice ta d.trail.length tc).ownBlock=some b) (w.setCell ⟨rp,2,none⟩ (lf-1:Int)) (.cells #[i,.string s] 111)).trans K.1).mono (fun b hb=>.inr hb))).trans (a7.mono (fun b hb=>.inl hb))
     .
      rcases hk with rfl | hk
      . exact .inl (.inl rfl)
      .
       rcases H.1 k hk with h | h
       . exact .inl (.inr h)
       . exact .inr (qi a2 h)
 .
  have Ew:=Hd (by unfold DiskM.write;rw [qf hi]:d.write i s=(d,1))
  clear h1 h2 h3;by_cases hneg:i<0
  .
   go_enter func26,ntmps26;go_wp2;go_ret;rw [Ew.1];exact ⟨rfl,_,⟨tv,B.1,L.1,A.1,a0,rfl⟩,Mod.refl _ _,fun k hk=>.inl hk⟩
  .
   have c4:(d.strs.length:Int)<=i:=by omega
   go_enter func26,ntmps26;go_wp2;go_ret;rw [Ew.1];exact ⟨rfl,_,⟨tv,B.1,L.1,A.1,a0,rfl⟩,Mod.refl _ _,fun k hk=>.inl hk⟩
theorem jfe (i:Nat):∀ (l:List (Int × ByteArray)) (s:List ByteArray),(∀ r∈l,0<=r.1/\r.1≠(i:Int))->(yq s l).getD i ByteArray.empty=s.getD i ByteArray.empty
 | [],_,_=>rfl
 | r::l,s,h=>by
  have ih:=jfe i l (s.set r.1.toNat r.2) (fun x hx=>h x (pz _ hx))
  have h0:=h r (pJ ..);show (yq (s.set r.1.toNat r.2) l).getD i ByteArray.empty=_;rw [ih,List.getD,List.getD,List.getElem?_set_ne (by omega)]
theorem jc7 (s:List ByteArray)(l m:List (Int × ByteArray)):yq s (l++m)=yq (yq s l) m:=by simp [yq]
theorem DiskM.Wf.find {d:DiskM}(h:d.Wf)(i k:Nat)(hi:i<d.strs.length)(hk:k<=d.trail.length)(hn:∀ r∈d.trail.drop k,r.1≠(i:Int)) :
  d.strs.getD i ByteArray.empty=if k=0 then ByteArray.empty else (if (d.trail.getD (k-1) (0,ByteArray.empty)).1=(i:Int) then (d.trail.getD (k-1) (0,ByteArray.empty)).2 else d.strs.getD i ByteArray.empty):=by
 have e1:d.strs.getD i ByteArray.empty=(yq (List.replicate d.strs.length ByteArray.empty) (d.trail.take k)).getD i ByteArray.empty:=by
  conv=>lhs;rw [h.play]
  conv=>lhs;rw [<- qU k d.trail,jc7]
  exact jfe i _ _ (fun r hr=>⟨(h.inr r (wO hr)).1,hn r hr⟩)
 by_cases h0:k=0
 .
  rw [qf h0,e1,h0]
  simp [yq,List.getD,hi]
 .
  rw [qh h0];by_cases hc:(d.trail.getD (k-1) (0,ByteArray.empty)).1=(i:Int)
  .
   rw [qf hc,e1];obtain ⟨m,rfl⟩:∃ m,k=m+1:=⟨k-1,by omega⟩
   have hm:m<d.trail.length:=by omega
   rw [Nat.add_sub_cancel] at hc |-;have e2:d.trail.getD m (0,ByteArray.empty)=d.trail[m]:=by simp [List.getD,hm]
   rw [e2] at hc |-;rw [qk hm,jaV,hc,p9,List.getD,List.getElem?_set_self (by rw [jgB,List.length_replicate];exact hi)]
   rfl
  . rw [qh hc]
theorem uU (d:DiskM)(rp:Nat)(G:Nat->Prop)(i:Int)(w:World)(h:IsRef w d rp G)(hw:d.Wf)(ht:d.trail.length<=100000000000) :
  Calls prog 139 #[.pointer (some ⟨rp,0,none⟩),i] w fun e w'=>e=.returned (.tuple #[.string (d.read i).1,.int .i64 (d.read i).2])/\w'=w:=by
 obtain ⟨tv,h1,h2,h3,a5,rfl⟩:=h;have c0:=h1.cell 0 _ rfl;have c1:=h1.cell 1 _ rfl;by_cases hi:0<=i/\i<d.strs.length
 .
  have er:d.read i=(d.strs.getD i.toNat ByteArray.empty,0):=by unfold DiskM.read;rw [qf hi]
  obtain ⟨n,rfl⟩:=wX hi.1;rw [er,p9];obtain ⟨sv,a2⟩:=Nm (d.strs.getD n ByteArray.empty);rw [<- a2];have a7:n<d.strs.length:=by omega
  have a9:¬ (n:Int)<0:=by omega
  have b0:¬ (d.strs.length:Int)<=(n:Int):=by omega
  have b1:decide (d.strs.length<=n)=false:=by simp;omega
  obtain ⟨ta,tc,rfl,_,_⟩:=xQ h2;have HRd:=qe (js h2);have HFd:=qe (fun k hk hn=>a2.trans (hw.find n k a7 hk hn))
  have Hsv:=qe a2;clear h1 h2 h3 a5 er hw hi a2;go_enter func139,ntmps139;go_wp2
  go_loopg [6] d.trail.length (fun gk iv wr=>∃ k:Nat,gk=k/\iv=.int .i64 ((k:Int)-1)/\k<=d.trail.length/\wr=w/\Hid (∀ r∈d.trail.drop k,r.1≠(n:Int)))
  case atStart=>exact ⟨_,rfl,rfl,qm _,rfl,qe (by rw [kj];intro r hr;cases hr)⟩
  case round =>
   obtain ⟨k,a8,rfl,hk,rfl,a3⟩:=hrel;have a1:=HFd.out k hk a3.out;by_cases h0:k=0
   .
    subst h0;rw [qf rfl] at a1;have Hf:=qe a1;have a6:¬ (0:Int)<=((0:Nat):Int)-1:=by omega
    clear a1;go_wp2
    go_ret2
    rw [Hf.out];exact ⟨rfl,rfl⟩
   .
    obtain ⟨m,rfl⟩:∃ m,k=m+1:=⟨k-1,by omega⟩
    rw [qh h0,Nat.add_sub_cancel] at a1;have hm:m<d.trail.length:=by omega
    have ek:(((m+1:Nat):Int)-1)=(m:Int):=by omega
    rw [ek];obtain ⟨rb,rs,e1,e2,e3,_⟩:=jmR d.trail m hm;have a4:d.trail.getD m (0,ByteArray.empty)=(rb,rs):=by
     have h4:=congrArg (fun l=>l.getD m (0,ByteArray.empty)) e1
     rw [List.getD,List.getD,List.getElem?_append_right (by rw [qr];omega),qr,show min m d.trail.length=m by omega,Nat.sub_self] at h4
     rw [List.getD,List.getElem?_eq_getElem hm];rw [List.getElem?_take_of_lt (by omega),List.getElem?_eq_getElem hm] at h4
     exact h4
    rw [a4] at a1;obtain ⟨a0,cap0,g1,_,_,_,g2⟩:=HRd.out;injection g1 with g1 _ g3
    subst g1;subst g3;obtain ⟨b,off,f1,f2⟩:=g2 (m*2) (by rw [yH];omega)
    obtain ⟨b',off',f3,f4⟩:=g2 (m*2+1) (by rw [yH];omega)
    subst f1;injection f3 with f3;injection f3 with f6 f7
    subst f6;subst f7;clear g2;rw [List.getD,e2] at f2;rw [List.getD,e3,<- wC] at f4;have f2:wr.cell? ⟨b,off+m*2,none⟩=some (.int .i64 rb):=f2;have f4:wr.cell? ⟨b,off+m*2+1,none⟩=some (.string rs):=f4;have b2:(0:Int)<=(m:Int):=by omega
    have b3:(m:Int)<(d.trail.length:Int):=by omega
    have Hfd:=qe a1;have Hgd:=qe a4;clear a1 a4 e1 e2 e3;by_cases hc:rb=(n:Int)
    .
     go_wp2
     go_ret2
     have:=Hfd.out;rw [qf hc] at this;rw [this];exact ⟨rfl,rfl⟩
    .
     go_wp2
     go_roundg m
     case measure=>have:=a8;omega
     case rel =>
      refine ⟨m,rfl,rfl,by omega,rfl,qe (fun r hr=>?_)⟩
      rw [qL hm] at hr
      rcases qH.1 hr with rfl | hr
      .
       have:=Hgd.out
       simp [List.getD,hm] at this
       rw [this];exact hc
      . exact a3.out r hr
 .
  have er:d.read i=(ByteArray.empty,1):=by unfold DiskM.read;rw [qh hi]
  rw [er];clear h1 h2 h3 a5 er hw;by_cases a6:i<0
  .
   go_enter func139,ntmps139;go_wp2
   go_ret2
   exact ⟨rfl,rfl⟩
  .
   have b4:(d.strs.length:Int)<=i:=by omega
   go_enter func139,ntmps139;go_wp2
   go_ret2
   exact ⟨rfl,rfl⟩
def LB (s:ByteArray):List UInt8:=s.data.toList
theorem jmn (l:List UInt8):LB (SB l)=l:=jaF l
theorem jmY (s:ByteArray):SB (LB s)=s:=by apply jkR;simp [SB,LB]
theorem jmy (s:ByteArray):(LB s).length=s.size:=by show s.data.toList.length=s.data.size;simp
def xp (N at_ n:Int):Prop:=0<=at_/\1<=n/\at_+1+2*n<=N
instance (N at_ n:Int):Decidable (xp N at_ n):=by unfold xp;exact inferInstance
def jF (at_ n:Int)(e:Nat):Int:=at_+1+((e % 2:Nat):Int)*n
def vP (e:Nat)(p:List UInt8):List UInt8:=le e 4++le p.length 4++le (crc p).toNat 4
def yR (e:Nat)(p:List UInt8):List UInt8:=vP e p++le (crc (vP e p)).toNat 4
theorem xD (e:Nat)(p:List UInt8):(vP e p).length=12:=by simp [vP,jC]
theorem yY (e:Nat)(p:List UInt8):(yR e p).length=16:=by simp [yR,xD,jC]
def jk:Nat->List UInt8->List (List UInt8)
 | 0,_ => []
 | f+1,p=>if p = [] then [] else p.take 256::jk f (p.drop 256)
def jr (d:DiskM)(b:Int):List (List UInt8)->DiskM × Int
 | []=>(d,0)
 | c::r=>if (d.write b (SB c)).2=0 then jr (d.write b (SB c)).1 (b+1) r else d.write b (SB c)
def jR (d:DiskM)(at_ n:Int)(e:Nat)(p:List UInt8):DiskM × Int :=
 if xp d.strs.length at_ n then
  if n*256<(p.length:Int) then (d,3)
  else if (jr d (jF at_ n e) (jk p.length p)).2=0 then (jr d (jF at_ n e) (jk p.length p)).1.write at_ (SB (yR e p)) else jr d (jF at_ n e) (jk p.length p)
 else (d,1)
def yA (l:List UInt8)(i:Nat):Nat:=(l.getD i 0).toNat+256*(l.getD (i+1) 0).toNat+65536*(l.getD (i+2) 0).toNat+16777216*(l.getD (i+3) 0).toNat
theorem jbQ (l:List UInt8)(i:Nat):yA l i<4294967296:=by
 have h1:=(l.getD i 0).toNat_lt;have h2:=(l.getD (i+1) 0).toNat_lt;have h3:=(l.getD (i+2) 0).toNat_lt;have h4:=(l.getD (i+3) 0).toNat_lt;unfold yA;omega
def jH (d:DiskM)(b:Int):List UInt8:=LB (d.read b).1
def yx (d:DiskM):Nat->Int->Nat->List UInt8->Option (List UInt8)
 | 0,_,_,acc=>some acc
 | f+1,b,size,acc =>
  if acc.length<size then
   if (jH d b).length<min (size-acc.length) 256 then none else yx d f (b+1) size (acc++(jH d b).take (min (size-acc.length) 256))
  else some acc
def jZ (d:DiskM)(at_ n:Int):Nat × List UInt8 × Int :=
 if xp d.strs.length at_ n then
  if jH d at_ = [] then (0,[],10)
  else if (jH d at_).length=16 then
   if n*256<((yA (jH d at_) 4:Nat):Int) then (0,[],21)
   else match yx d (yA (jH d at_) 4+1) (jF at_ n (yA (jH d at_) 0)) (yA (jH d at_) 4) [] with
    | none=>(0,[],21)
    | some p=>if yR (yA (jH d at_) 0) p=jH d at_ then (yA (jH d at_) 0,p,0) else (0,[],21)
  else (0,[],21)
 else (0,[],1)
theorem jlS {a b c d a' b' c' d':Int}(h1:a=a')(h2:b=b')(h3:c=c')(h4:d=d'):[Value.int .u8 a,.int .u8 b,.int .u8 c,.int .u8 d] = [Value.int .u8 a',.int .u8 b',.int .u8 c',.int .u8 d']:=by subst h1;subst h2;subst h3;subst h4;rfl
theorem jhA (m:Nat):(le m 4).map V8 = [.int .u8 ((m:Int) % 256),.int .u8 ((m:Int) / 256 % 256),.int .u8 ((m:Int) / 65536 % 256),.int .u8 ((m:Int) / 16777216 % 256)]:=by
 have h:∀ k:Nat,((UInt8.ofNat k).toNat:Int)=(k:Int) % 256:=fun k=>by
  have:(UInt8.ofNat k).toNat=k % 256:=by show k % 2 ^ 8=_;rfl
  rw [this];omega
 have e1:((m / 256:Nat):Int) % 256=(m:Int) / 256 % 256:=by omega
 have e2:((m / 256 / 256:Nat):Int) % 256=(m:Int) / 65536 % 256:=by omega
 have e3:((m / 256 / 256 / 256:Nat):Int) % 256=(m:Int) / 16777216 % 256:=by omega
 exact jlS (h _) ((h _).trans e1) ((h _).trans e2) ((h _).trans e3)
theorem uB (d:DiskM)(b:Int)(l:List (List UInt8)):(jr d b l).1.strs.length=d.strs.length:=by
 induction l generalizing d b with
 | nil=>rfl
 | cons c r ih =>
  rw [jr];split
  . rw [ih,DiskM.write_len]
  . rw [DiskM.write_len]
theorem jfQ {d:DiskM}(h:d.Wf)(b:Int)(l:List (List UInt8)):(jr d b l).1.Wf:=by
 induction l generalizing d b with
 | nil=>exact h
 | cons c r ih =>
  rw [jr];split
  . exact ih (h.write _ _) _
  . exact h.write _ _
theorem jfX (d:DiskM)(b:Int)(l:List (List UInt8)):(jr d b l).1.trail.length<=d.trail.length+l.length:=by
 induction l generalizing d b with
 | nil=>exact qm _
 | cons c r ih =>
  have:=(d.write_trail b (SB c)).1;rw [jr,qp];split
  . have:=ih (d.write b (SB c)).1 (b+1);omega
  . omega
theorem jaR:∀ (f:Nat) (p:List UInt8),p.length<=f->(jk f p).length*256<p.length+256
 | 0,p,h=>by simp [jk]
 | f+1,p,h=>by
  rw [jk]
  split
  . simp
  .
   rename_i h1
   have hp:0<p.length:=pW.2 h1;have:=jaR f (p.drop 256) (by rw [qn];omega)
   rw [qp];rw [qn] at this;generalize (jk f (p.drop 256)).length=c at this |-;clear h1 h;generalize p.length=m at this hp |-;omega
theorem jek {d:DiskM}(h:d.Wf)(at_ n:Int)(e:Nat)(p:List UInt8):(jR d at_ n e p).1.Wf:=by
 unfold jR
 split
 .
  split
  . exact h
  split
  . exact (jfQ h _ _).write _ _
  . exact jfQ h _ _
 . exact h
theorem vU (d:DiskM)(at_ n:Int)(e:Nat)(p:List UInt8):(jR d at_ n e p).1.strs.length=d.strs.length:=by
 unfold jR
 split
 .
  split
  . rfl
  split
  . rw [DiskM.write_len,uB]
  . rw [uB]
 . rfl
theorem jhK (d:DiskM)(at_ n:Int)(e:Nat)(p:List UInt8)(hd:d.strs.length<=4096):(jR d at_ n e p).1.trail.length<=d.trail.length+2050:=by
 unfold jR
 split
 .
  rename_i h1
  split
  . exact wn _ _
  .
   rename_i h2
   have hc:=jaR p.length p (qm _);have ht:=jfX d (jF at_ n e) (jk p.length p);unfold xp at h1
   split
   .
    have:=((jr d (jF at_ n e) (jk p.length p)).1.write_trail at_ (SB (yR e p))).1;omega
   . omega
 . exact wn _ _
theorem vQ (d:DiskM)(i:Int)(s:ByteArray):(d.write i s).2=0\/(d.write i s).2=1\/(d.write i s).2=3\/(d.write i s).2=22:=by
 unfold DiskM.write
 split
 . simp
 split
 . simp
 split
 . simp
 . simp
theorem jiO (d:DiskM)(b:Int)(l:List (List UInt8)):(jr d b l).2=0\/(jr d b l).2=1\/(jr d b l).2=3\/(jr d b l).2=22:=by
 induction l generalizing d b with
 | nil=>exact .inl rfl
 | cons c r ih =>
  rw [jr];split
  . exact ih _ _
  . exact vQ _ _ _
theorem jjh (d:DiskM)(at_ n:Int)(e:Nat)(p:List UInt8):(jR d at_ n e p).2=0\/(jR d at_ n e p).2=1\/(jR d at_ n e p).2=3\/(jR d at_ n e p).2=22:=by
 unfold jR
 split
 .
  split
  . simp
  split
  . exact vQ _ _ _
  . exact jiO _ _ _
 . simp
theorem jct (d:DiskM)(at_ n:Int):(jZ d at_ n).2.2=0\/(jZ d at_ n).2.2=1\/(jZ d at_ n).2.2=10\/(jZ d at_ n).2.2=21:=by
 unfold jZ
 split
 .
  split
  . simp
  split
  .
   split
   . simp
   split
   . simp
   . split <;> simp
  . simp
 . simp
theorem jhv (d:DiskM)(at_ n:Int):(jZ d at_ n).1<4294967296:=by
 unfold jZ
 split
 .
  split
  . simp
  split
  .
   split
   . simp
   split
   . simp
   .
    split
    . exact jbQ _ _
    . simp
  . simp
 . simp
theorem jla {ops:Array Oper}{rest:List Oper}{o:Oper}{a:Act}{Q:Exit->Act->World->Prop}(a3:o.guard=none)(s x:Operand)(ho:o.op=.call { callee:=.builtin .append,args:=#[s,x],argTypes:=#[81,81] })(base:Nat)(v:Value)(n:Nat)(xs:List Value)(hs:a.eval s=v)(a1:w.ownsRow base 9 1 v n xs)(src:Value)(l:List (List UInt8))(hx:a.eval x=src)(a2:Rd w src l.length (l.map SV))(a7:n+l.length<=8796093022208)(a0:base<=w.heap.size)(h:∀ v' w',w'.ownsRow base 9 1 v' (n+l.length) (xs++l.map SV)->w.grownBy w' v.ownBlock->xj w v v'->wpList prog ops Q rest (a.put o.dst v') w'):wpList prog ops Q (o::rest) a w:=by
 obtain ⟨i0,hi,a4,a5,a6⟩:=wI jd4;exact zo a3 s x 81 ho base 9 i0 (.string ByteArray.empty) 1 16 underlying81 hi a4 a5 a6 rfl (by decide) v n xs hs a1 src l.length (l.map SV) hx a2 (by simp) (by
  intro u hu;obtain ⟨c,_,rfl⟩:=pY.1 hu
  simp [SV,Value.oneCell']) (by unfold maxLen;omega) (by omega) a0 h
theorem um (w:World)(l:List UInt8)(t:TypeId):Rd (w.alloc (.cells #[.string (SB l)] t)) (.slice (some ⟨w.heap.size,0,none⟩) 1 1) 1 [SV l]:=by
 refine ⟨_,1,rfl,qm _,by omega,(fun h=>by cases h),fun j hj=>⟨w.heap.size,0,rfl,?_⟩⟩
 have:j=0:=by simpa using hj
 subst this;exact (Box.new w #[.string (SB l)] t).cell 0 _ rfl
theorem jm7 (w:World)(t:List UInt8)(h:t.length<=1000):(Op.stringOp .add ⟨#[99]⟩ (SB t)).run prog w=.ok (.string (SB (99::t))) w:=by
 have:=run_string_add_sum (P:=prog) w (SB [99]) (SB t) (by rw [SB_size,SB_size];simp;omega)
 rw [jmM] at this;exact this
set_option maxRecDepth 100000 in
theorem jhe (v:Value)(e:UInt32)(p:List UInt8)(w:World)(hv:Rd w v p.length (p.map V8)) :
  Calls prog 71 #[.int .u32 (e.toNat:Int),v] w fun r w'=>(512<p.length/\r=.returned (.tuple #[.slice none 0 0,.iface 91 (3:Int)])/\w'=w) \/
   (p.length<=512/\∃ lv,r=.returned (.tuple #[lv,.nilIface])/\w'.ownsRow w.heap.size 9 1 lv (jf e p).length ((jf e p).map SV)/\Below w.heap.size w w'):=by
 have e9:=hv.len;obtain ⟨va,vc,rfl,f0⟩:∃ a c,v=.slice a p.length c/\p.length<=c:=by obtain ⟨a,c,h,h1,_⟩:=hv;exact ⟨a,c,h,h1⟩
 have T:=Hd hv;clear hv;by_cases d6:512<p.length
 .
  have h:(512:Int)<(p.length:Int):=by omega
  go_enter func71,ntmps71;go_wp2
  go_ret2
  exact .inl ⟨d6,rfl,rfl⟩
 .
  have h:decide ((512:Int)<(p.length:Int))=false:=by simp;omega
  obtain ⟨k,hk⟩:=Nm (min p.length 245);have d8:∀ ts t w',(Builtin.min_ ts t #[(p.length:Int),(245:Int)]).run prog w'=.ok (k:Int) w':=fun ts t w'=>by
   rw [pL]
   congr 2
   by_cases h:(245:Int)<(p.length:Int)
   . rw [qf h];omega
   . rw [qh h];omega
  have c2:k<=p.length:=by omega
  have F:=Hd hk;have d9:=ji2 va p.length vc k (by omega)
  have c3:=jhT va p.length vc k c2;have J:=Hd (jea (.slice va p.length vc) e p w T.1 (by omega))
  clear hk;go_enter func71,ntmps71;go_wp2_with fail;refine J.1.mono ?_;rintro r w1 ⟨b1,rfl,a5,b2⟩;have H:=Hd a5;have B:=Hd b2;have b5:=T.1.below b2;have b6:Rd w1 (.slice va k vc) (p.take 245).length ((p.take 245).map V8):=by
   have:=b5.cut (m:=k) (by omega) k
   rw [<- pu] at this;have e1:p.take k=p.take 245:=by
    rw [F.1];by_cases hc:p.length<=245
    . rw [wD hc,ql (qm _),ql hc]
    . rw [pj (by omega)]
   rw [e1] at this;rw [show (p.take 245).length=k by rw [qr,F.1];omega];exact this
  have W:=Hd b5;have A:=Hd b6;have X:=Hd (xq e p);have D:=Hd b2.size;have K:=Hd (show 11+(p.take 245).length<=140737488355328 by have:=List.length_take_le 245 p;omega)
  clear a5 b2 b5 b6 J;obtain ⟨pt,b7⟩:=Nm (p.take 245);obtain ⟨hm,b8⟩:=Nm (xt e p);rw [<- b7] at A K;rw [<- b8] at H X;have Y:=Hd b7;have Z:=Hd b8;clear b7 b8
  go_wp2_with (at_builtin;refine jcV rfl _ _ rfl w.heap.size _ _ _ rfl H.1 _ pt rfl A.1 K.1 D.1 ?_)
  intro v2 w2 b3 c4 _;obtain ⟨F0,b4⟩:=Nm (hm++pt);rw [<- qM,<- b4] at b3;have c5:11+pt.length=F0.length:=by rw [b4,qd,X.1]
  rw [c5] at b3;have kc:=uP F0 (js b3) rfl;have a2:=B.1.trans (je c4 D.1 (fun q hq=>(H.1.lt q hq).1))
  have H0:=Hd a2;have H1:=Hd b4;have H2:=Hd a2.size;have c6:(w2.alloc (.cells #[.string (SB F0)] 9)).ownsRow w.heap.size 9 1 (.slice (some ⟨w2.heap.size,0,none⟩) 1 1) 1 [SV F0] :=
   ⟨rfl,.inr ⟨w2.heap.size,1,_,rfl,a2.size,ww w2 _,qm _,by unfold maxLen;omega,rfl,rfl⟩⟩
  have L:=Hd c6;have M:=Hd (a2.trans ((ja w2 (.cells #[.string (SB F0)] 9)).mono a2.size));have a6:=xR T.1 (k:=k) c2 (by simp)
  rw [<- wW] at a6;have a3:p.drop k=p.drop 245:=by
   rw [F.1];by_cases hc:p.length<=245
   . rw [wD hc,qN (qm _),qN hc]
   . rw [pj (by omega)]
  obtain ⟨q0,a0⟩:=Nm (p.drop 245);have b9:p.length-k=q0.length:=by rw [a0,qn,F.1];omega
  rw [a3,b9,<- a0] at a6;obtain ⟨ta,tc,a7,a8⟩:∃ a c,xP va p.length vc k=.slice a q0.length c/\q0.length<=c:=by
   obtain ⟨a,h⟩:=jak va p.length vc k;exact ⟨a,vc-k,by rw [h,b9],by omega⟩
  rw [a7] at a6 c3;have HT:=Hd a6;have N:=Hd (show q0.length<=255*3 by rw [a0,qn];omega)
  have O:=Hd (show [F0]++yl 3 q0=jf e p by rw [H1.1,Z.1,Y.1,a0];rfl)
  have C:=Hd a8;clear b3 c5 a2 c4 c6 a6 a8 W A a3 a7 H B D b4 b9 a0;go_wp2_with fail;clear kc d9 c3 d8
  go_loopg [1,7,8] 3 (fun gk pv kv lv wr=>∃ (q:List UInt8) (bs:List (List UInt8)) (a:Option Addr) (c:Nat),q.length<=255*gk/\pv=.slice a q.length c/\q.length<=c/\Rd w pv q.length (q.map V8)/\wr.ownsRow w.heap.size 9 1 lv bs.length (bs.map SV)/\Below w.heap.size w wr/\bs.length+gk<=10/\bs++yl gk q=jf e p)
  case atStart=>exact ⟨q0,[F0],ta,tc,N.1,rfl,C.1,HT.1,L.1,M.1,by simp,O.1⟩
  case round =>
   clear L M HT N O C H0 H2;obtain ⟨q,bs,a,c,c7,rfl,f1,c8,a9,hb,c9,d0⟩:=hrel;have P:=Hd c8;have U:=Hd a9;have G:=Hd hb;have Q:=Hd d0;have R:=Hd c7;have S:=Hd c9;obtain ⟨ra,rc,e0⟩:∃ a c,u8=.slice a bs.length c:=by
    obtain ⟨a,c,h,_⟩:=js a9;exact ⟨a,c,h⟩
   subst e0;clear c8 a9 hb d0 c7 c9;by_cases a0:q.length=0
   .
    have e2:decide ((0:Int)<(q.length:Int))=false:=by rw [qI];omega
    go_wp2
    go_ret2
    refine .inr ⟨by omega,_,rfl,?_,G.1⟩
    have e3:q = []:=qw a0;have:=Q.1;rw [e3] at this;have e4:yl gk ([]:List UInt8) = []:=by cases gk <;> simp [yl]
    rw [e4,qF] at this;rw [<- this];exact U.1
   .
    have e2:(0:Int)<(q.length:Int):=by omega
    obtain ⟨kq,a3⟩:=Nm (min q.length 255);have e7:∀ ts t w',(Builtin.min_ ts t #[(q.length:Int),(255:Int)]).run prog w'=.ok (kq:Int) w':=fun ts t w'=>by
     rw [pL]
     congr 2
     by_cases h:(255:Int)<(q.length:Int)
     . rw [qf h];omega
     . rw [qh h];omega
    have c0:kq<=q.length:=by omega
    have e8:=ji2 a q.length c kq (by omega)
    have d7:=jhT a q.length c kq c0;obtain ⟨t,ht⟩:=Nm (q.take kq);have d1:t.length=kq:=by rw [ht,qr];omega
    have d2:Rd wr (.slice a kq c) t.length (t.map V8):=by
     have:=(Rd.below P.1 G.1).cut (m:=kq) (by omega) kq
     rw [<- pu,<- ht] at this;rw [d1];exact this
    have kc:=uP t d2 rfl;have ha:=fun w'=>jm7 w' t (by omega)
    have d3:=um wr (99::t) 9;have H3:=Hd d3;have H4:=Hd (U.1.alloc (.cells #[.string (SB (99::t))] 9));have E:=Hd (G.1.trans ((ja wr (.cells #[.string (SB (99::t))] 9)).mono G.1.size));have I:=Hd (show bs.length+[99::t].length<=8796093022208 by have:=S.1;simp only [qp,wN];omega)
    obtain ⟨q1,a4⟩:=Nm (q.drop 255);have b0:q1.length=q.length-kq:=by rw [a4,qn];omega
    have e5:∃ g,gk=g+1:=by
     cases gk with
     | zero=>have:=R.1;omega
     | succ g=>exact ⟨g,rfl⟩
    obtain ⟨g,rfl⟩:=e5;have c1:bs ++ [99::t]++yl g q1=jf e p:=by
     have e6:t=q.take 255:=by
      rw [ht,a3];by_cases hc:q.length<=255
      . rw [wD hc,ql (qm _),ql hc]
      . rw [pj (by omega)]
     rw [<- Q.1,yl,qh a0,qB,List.singleton_append,<- a4,e6]
    have a1:=xR P.1 (k:=kq) c0 (by simp)
    rw [<- wW] at a1;have d4:q.drop kq=q1:=by
     rw [a4,a3];by_cases hc:q.length<=255
     . rw [wD hc,qN (qm _),qN hc]
     . rw [pj (by omega)]
    rw [d4,<- b0] at a1;obtain ⟨ta,tc,a7,a8⟩:∃ a' c',xP a q.length c kq=.slice a' q1.length c'/\q1.length<=c':=by
     obtain ⟨a',h⟩:=jak a q.length c kq;exact ⟨a',c-kq,by rw [h,b0],by omega⟩
    rw [a7] at a1 d7;have H5:=Hd a1;have V:=Hd c1;have C:=Hd a8;have H6:=Hd (show q1.length<=255*g by have:=R.1;omega)
    clear a1 c1 a8 d4 d3 ht d1 d2 a4 b0 a7 a3
    go_wp2_with (at_builtin;refine jla rfl _ _ rfl w.heap.size _ _ _ rfl H4.1 _ [99::t] rfl H3.1 I.1 E.1.size ?_)
    intro v' w1 a5 d5 _;have H:=Hd a5;have B:=Hd (E.1.trans (je d5 E.1.size (fun q hq=>(U.1.lt q hq).1)))
    clear a5 d5;go_wp2
    go_roundg g
    case measure=>omega
    case rel=>exact ⟨q1,bs ++ [99::t],ta,tc,H6.1,rfl,C.1,H5.1,by rw [qd,qM];exact H.1,B.1,by rw [qd];have:=S.1;simp only [qp,wN];omega,V.1⟩
structure AllAt (n₀:Nat)(e:UInt32)(bl:List (List UInt8))(E B:Nat)(w:World):Prop where
 lo:n₀<=E/\n₀<=B
 ec:w.cell? ⟨E,0,none⟩=some (.int .u32 (e.toNat:Int))
 bc:∃ bv,w.cell? ⟨B,0,none⟩=some bv/\Rd w bv bl.length (bl.map SV)/\∀ k,bv.ownBlock=some k->n₀<=k
theorem jgR (hm:Mod F w w'){a:Addr}{x:Value}(h:w.cell? a=some x)(hF:¬ F a.block):w'.cell? a=some x:=by
 rw [World.cell?_of_block (hm.block a.block (jaE h) hF)];exact h
theorem AllAt.kept {n₀:Nat}{bl:List (List UInt8)}{E B:Nat}(h:AllAt n₀ e bl E B w)(hm:Mod (fun b=>b<n₀\/w.heap.size<=b) w w'):AllAt n₀ e bl E B w':=by
 obtain ⟨bv,h1,h2,h3⟩:=h.bc;have hE:=jaE h.ec;have hB:=jaE h1;obtain ⟨l1,l2⟩:=h.lo;refine ⟨h.lo,jgR hm h.ec (by simp only at hE |-;omega),bv,jgR hm h1 (by simp only at hB |-;omega),h2.keep (fun k hk hl=>hm.block k hl (by have:=h3 k hk;omega)),h3⟩
theorem jjS (e:UInt32)(lv:Value)(bl:List (List UInt8))(w:World)(hl:Rd w lv bl.length (bl.map SV))(hn:bl.length<=8796093022208) :
  Calls prog 163 #[.int .u32 (e.toNat:Int),lv] w fun r w'=>∃ E B,r=.returned (.func (.func 182) #[] #[.pointer (some ⟨E,0,none⟩),.pointer (some ⟨B,0,none⟩)])/\AllAt w.heap.size e bl E B w'/\Below w.heap.size w w':=by
 obtain ⟨la,lc,rfl⟩:∃ a c,lv=.slice a bl.length c:=by obtain ⟨a,c,h,_⟩:=hl;exact ⟨a,c,h⟩
 have a1:=ja w (.cells #[.int .u32 (e.toNat:Int)] 87);have H:=Hd a1;have C:=Hd (Box.new w #[.int .u32 (e.toNat:Int)] 87);have D:=Hd (hl.below a1);have J:=Hd (show 0+bl.length<=8796093022208 by omega)
 clear hl a1;go_enter func163,ntmps163
 go_wp2_with (at_builtin;refine jla rfl _ _ rfl w.heap.size _ 0 [] rfl (ws _ _ _ _) _ bl rfl D.1 J.1 H.1.size ?_)
 intro v' w2 a0 a3 _;obtain ⟨ra,rc,rfl⟩:∃ a c,v'=.slice a bl.length c:=by
  obtain ⟨a,c,h,_⟩:=jP a0;exact ⟨a,c,by simpa using h⟩
 have a2:Below (w.alloc (.cells #[.int .u32 (e.toNat:Int)] 87)).heap.size (w.alloc (.cells #[.int .u32 (e.toNat:Int)] 87)) w2:=jam a3 (qm _) (fun k h=>by simp [Value.ownBlock] at h)
 have A:=Hd (H.1.trans (a2.mono H.1.size));have F:=Hd (C.1.below a2);have G:=Hd (js a0);have I:=Hd (fun k hk=>(a0.lt k hk).1)
 clear a2 a0 a3 C D H;go_wp2;go_ret;have hm:=ja w2 (.cells #[.slice ra bl.length rc] 81);refine ⟨_,_,rfl,⟨⟨qm _,A.1.size⟩,(F.1.below hm).cell 0 _ rfl,_,(Box.new w2 #[.slice ra bl.length rc] 81).cell 0 _ rfl,?_,I.1⟩,A.1.trans (hm.mono A.1.size)⟩;have:=G.1.below hm
 simpa using this
open Go.RowKit Go.Shelf
attribute [local go_sem] Oper.semAt_some
def yQ (e:UInt32)(bl:List (List UInt8)):Nat->Nat
 | 0=>0
 | i+1=>match zH e (bl.drop (yQ e bl i)) with
  | none=>yQ e bl i
  | some g=>yQ e bl i+g.2
def yN (e:UInt32)(bl:List (List UInt8))(i:Nat):Option (List UInt8 × Nat):=zH e (bl.drop (yQ e bl i))
theorem ze {bl:List (List UInt8)}{p:List UInt8}(h:yN e bl i=some (p,k)):yQ e bl (i+1)=yQ e bl i+k:=by
 unfold yN at h;rw [yQ,h]
theorem jax (e:UInt32)(bl:List (List UInt8)):∀ i,yQ e bl i<=bl.length
 | 0=>qJ _
 | i+1=>by
  have ih:=jax e bl i;rw [yQ]
  cases h:zH e (bl.drop (yQ e bl i)) with
  | none=>exact ih
  | some g =>
   have:=vY (p:=g.1) (k:=g.2) h;rw [qn] at this;show yQ e bl i+g.2<=_;omega
def NextR (n₀:Nat)(e:UInt32)(bl:List (List UInt8))(pre:List (Nat × Value))(x:Nat × Value)(W:World):Prop :=
 x.1=yQ e bl pre.length/\(∃ p k,yN e bl pre.length=some (p,k)/\OwnM W n₀ 5 x.2 p.length (p.map V8))/\∀ y∈pre,Apart y.2 x.2
structure AllK (e:UInt32)(E B n:Nat)(ba:Option Addr)(bc:Nat)(wr w':World):Prop where
 ec:w'.cell? ⟨E,0,none⟩=some (.int .u32 (e.toNat:Int))
 bc:w'.cell? ⟨B,0,none⟩=some (.slice ba n bc)
 below:Below wr.heap.size wr w'
theorem AllK.keep {E B n:Nat}{ba:Option Addr}{bc:Nat}{wr w1 w2:World}(h:AllK e E B n ba bc wr w1)(hb:Below w1.heap.size w1 w2):AllK e E B n ba bc wr w2:=⟨jc hb h.ec,jc hb h.bc,h.below.trans (hb.mono h.below.size)⟩
set_option maxRecDepth 100000 in
theorem jm5 (e:UInt32)(bl:List (List UInt8))(a6:∀ b∈bl,b.length<=9223372036854775807)(E B n₀:Nat)(w:World)(hA:AllAt n₀ e bl E B w)(n:Nat)(hn:1<=n) :
  jnf Fence.wide n prog 182 #[.pointer (some ⟨E,0,none⟩),.pointer (some ⟨B,0,none⟩)] (fun x:Nat × Value=>#[(x.1:Int),x.2]) (fun b=>b<n₀\/w.heap.size<=b) (NextR w.heap.size e bl) (fun xs=>yN e bl xs.length=none) (fun _=>True) w:=by
 intro l J Jx W hW hJ b1 hY h0;refine callsIn_of_wp func182 rfl trivial ?_ rfl;simp only [ntmps182,wF,qp,wN,Nat.reduceAdd,Nat.reduceSub,Array.replicate_succ,Array.replicate_zero,List.push_toArray,List.append_toArray,wt,po];refine wpIn_wide.2 ?_;have X:=Hd hY;have Y:=Hd hJ;have H0:=Hd b1;have Z:=Hd hA;have HW:=Hd hW;have N:=Hd a6;clear hY hJ b1 hA hW a6;go_wp2
 go_loopg [4,5,6] bl.length (fun gk s4 s5 s6 wr=>∃ pre:List (Nat × Value),gk+yQ e bl pre.length=bl.length/\s4=.int .i64 ((yQ e bl pre.length:Nat):Int)/\J pre wr/\Mod (fun b=>b<n₀\/w.heap.size<=b) w wr/\∀ y∈pre,∀ b,y.2.ownBlock=some b->b<wr.heap.size)
 case atStart=>exact ⟨[],by simp [yQ],rfl,h0,HW.1,fun y hy=>by simp at hy⟩
 case round =>
  obtain ⟨pre,a7,rfl,hj,hb,b2⟩:=hrel;obtain ⟨at_,a8⟩:=Nm (yQ e bl pre.length);rw [<- a8] at a7 |-;have H:=Hd a8;have Q:=Hd a7;have D:=Hd hj;have O:=Hd hb;have G:=Hd b2;have a9:=Z.1.kept O.1;have b3:=a9.ec;obtain ⟨bv,b4,a4,_⟩:=a9.bc;obtain ⟨ba,bc,rfl⟩:∃ a c,bv=.slice a bl.length c:=by obtain ⟨a,c,h,_⟩:=a4;exact ⟨a,c,h⟩
  have b5:at_<=bl.length:=by omega
  have d1:=a4.len;have b6:=jd8 (P:=prog) (t:=81) underlying81 (by kernel_rfl) ba bl.length bc at_ b5
  have a5:=xR a4 (k:=at_) b5 (by simp)
  rw [<- wW,<- qn] at a5;obtain ⟨tv,b7⟩:=Nm (xP ba bl.length bc at_);rw [<- b7] at b6 a5;have A:=Hd (fun (w':World) (h:Below wr.heap.size wr w')=>je9 e tv (bl.drop at_) w' (a5.below h) (fun b hb=>N.1 b (wO hb)))
  clear a9 a4 a5 hj hb b2 b7 a8 a7;go_wp2;refine qt (S:=AllK e E B bl.length ba bc wr) (by kernel_rfl) ⟨jc (jb _) b3,jc (jb _) b4,jb _⟩ (fun a1=>?_)
  have c7:∀ w',AllK e E B bl.length ba bc wr w'->w'.cell? ⟨E,0,none⟩=some (.int .u32 (e.toNat:Int)):=fun w' h=>h.ec
  have b8:∀ w',AllK e E B bl.length ba bc wr w'->w'.cell? ⟨B,0,none⟩=some (.slice ba bl.length bc):=fun w' h=>h.bc
  refine Te 0 8 ?_;refine Te 1 9 ?_;refine Te 2 10 ?_;refine Te 3 11 ?_;refine Rc 4 12 fun K hK=>?_
  try rw [qf (by kernel_rfl)]
  go_simp
  refine (A.1 _ a1.below).mono ?_;rintro rr w4 ⟨b9,b0⟩;obtain ⟨pv,kk,rfl,c0⟩:∃ (pv:Value) (kk:Nat),rr=.returned (.tuple #[pv,(kk:Int)])/\((yN e bl pre.length=none/\kk=0)\/∃ p,yN e bl pre.length=some (p,kk)/\OwnM w4 wr.heap.size 5 pv p.length (p.map V8)):=by
   rcases b0 with ⟨h1,h2⟩ | ⟨p,k,v,h1,h2,h3⟩
   . exact ⟨_,0,h2,.inl ⟨by unfold yN;rw [<- H.1];exact h1,rfl⟩⟩
   . exact ⟨v,k,h2,.inr ⟨p,by unfold yN;rw [<- H.1];exact h1,h3.lower a1.below.size⟩⟩
  refine hK.out _ _ (a1.keep b9) (fun a0=>?_)
  clear hK K b0 a1;have I:=Hd c0;clear c0
  try simp only [Nz]
  refine Te 5 7 ?_;refine Te 6 13 ?_;refine Te 7 14 ?_;refine Te 8 5 ?_;refine Te 9 6 ?_;refine Dn ?_;have L:=Hd (Y.1 pre wr w4 D.1 a0.below);have R:=Hd (O.1.trans (Mod.of_below (F:=fun b=>b<n₀\/w.heap.size<=b) a0.below))
  have d2:=a0.below.size;clear a0 c7 b8 b3 b4 b6 A D b9;by_cases h0k:kk=0
  .
   have c3:yN e bl pre.length=none:=by
    rcases I.1 with h | ⟨p,h,_⟩
    . exact h.1
    . have:=vY h;omega
   have T:=Hd c3;clear c3;subst h0k;have hz:(((0:Nat):Int)==0)=true:=rfl;go_wp2;refine qP (wZ rfl _ _ _) rfl ?_;exact ⟨⟨_,rfl⟩,.inl ⟨pre,T.1,L.1⟩⟩
  .
   obtain ⟨p,hp,a2⟩:∃ p,yN e bl pre.length=some (p,kk)/\OwnM w4 wr.heap.size 5 pv p.length (p.map V8):=by
    rcases I.1 with h | h
    . exact absurd h.2 h0k
    . exact h
   have hz:((kk:Int)==0)=false:=by rw [qD];omega
   obtain ⟨fn,tmps,assign,body,hy,hR⟩:=X.1 pre (at_,pv) w4 L.1 ⟨H.1,⟨p,kk,hp,a2.lower O.1.size⟩,fun y hy k hk c8=>by have h1:=G.1 y hy k hk;have h2:=(a2.lt k c8).1;omega⟩
   have U:=Hd hp;have HO:=Hd a2;clear hp a2
   go_upto_region 2 with (fail)
   refine (wpIn_wide (n:=n)).1 ?_
   gi_wp2
   refine hR.mono ?_;rintro rr w5 (⟨rfl,c4,c5⟩ | ⟨rfl,c6⟩)
   .
    have a3:yQ e bl (pre ++ [(at_,pv)]).length=at_+kk:=by
     rw [qd,qx,ze U.1,<- H.1]
    have c9:=jax e bl (pre ++ [(at_,pv)]).length;rw [a3] at c9;have b8:=(vY U.1).1;have V:=Hd c4;have M:=Hd c5;have C:=Hd a3;clear c4 c5 a3 hR hy;have d3:wrap64 ((at_:Int)+(kk:Int))=(at_:Int)+(kk:Int):=by unfold wrap64;omega
    try gi_wp2
    go_wp2
    go_roundg (bl.length-(at_+kk))
    case measure=>have:=Q.1;omega
    case rel=>exact ⟨pre ++ [(at_,pv)],by rw [C.1];omega,by rw [C.1];go_num,V.1,R.1.trans M.1,fun y hy b hb=>by
     have d4:=M.1.size
     rcases qW.1 hy with hy | hy
     . have:=G.1 y hy b hb;omega
     .
      have d0:y=(at_,pv):=by simpa using hy
      subst d0;have:=(HO.1.lt b hb).2
      omega⟩
   .
    try gi_wp2
    go_wp2;refine qP (wZ rfl _ _ _) rfl ?_;exact ⟨⟨_,rfl⟩,.inr ⟨_,trivial,c6⟩⟩
theorem jbm:∀ (l m:List EvtM) (st:StM),(yy st l).2=l.length->yy st (l++m)=((yy (yy st l).1 m).1,l.length+(yy (yy st l).1 m).2)
 | [],m,st,_=>by simp [yy]
 | e::l,m,st,h=>by
  unfold yy at h;by_cases h0:(jt st e).1=0
  .
   rw [qf h0] at h;have h1:(yy (jt st e).2 l).2=l.length:=by simp only [qp] at h;omega
   have ih:=jbm l m (jt st e).2 h1;have e1:yy st (e::l)=((yy (jt st e).2 l).1,(yy (jt st e).2 l).2+1):=by rw [yy,qf h0]
   rw [po,yy,qf h0,ih,e1];simp only [qp]
   congr 1;omega
  . rw [qh h0] at h;simp at h
structure Snd (st:StM):Prop where
 len:st.l.length<=32
 clock:0<=st.clock/\st.clock<=1099511627776
 births:0<=st.births/\st.births<=1048576
 pos:∀ s∈st.l,1<=s.birth/\s.birth<=st.births
 inc:st.l.Pairwise (fun s t=>s.birth<t.birth)
 slots:st.l.Pairwise (fun s t=>s.slot≠t.slot)
 dead:∀ s∈st.l,st.clock<s.deadline
 born:∀ s∈st.l,s.born<=st.clock
 may:∀ s∈st.l,jG s=true
 par:∀ s∈st.l,s.upB≠0->∃ p∈st.l,p.birth=s.upB/\p.slot=s.upS/\p.birth<s.birth/\zI s p=true
theorem Snd.zero:Snd jI:=⟨by decide,by decide,by decide,by simp [jI],by simp [jI],by simp [jI],by simp [jI],by simp [jI],by simp [jI],by simp [jI]⟩
theorem Snd.without (h:Snd st)(goes:SesM->Bool)(C:Int)(h1:st.clock<=C)(h2:C<=1099511627776)(hd:∀ s∈st.l,goes s=false->C<s.deadline):Snd ⟨C,st.births,jB goes st.l⟩:=by
 have a0:List.Sublist (jB goes st.l) st.l:=List.filter_sublist;have hm:∀ s∈jB goes st.l,s∈st.l/\¬ Dies goes st.l s:=fun s hs=>jal.1 hs
 refine ⟨qi a0.length_le h.len,⟨by have:=h.clock.1;show 0<=C;omega,h2⟩,h.births,fun s hs=>h.pos s (hm s hs).1,h.inc.sublist a0,h.slots.sublist a0,fun s hs=>hd s (hm s hs).1 ?_,fun s hs=>by have:=h.born s (hm s hs).1;show s.born<=C;omega,fun s hs=>h.may s (hm s hs).1,fun s hs hu=>?_⟩
 .
  cases hg:goes s
  . rfl
  . exact absurd (Dies.one (hm s hs).1 hg) (hm s hs).2
 .
  obtain ⟨p,hp,e1,e2,e3,e4⟩:=h.par s (hm s hs).1 hu;exact ⟨p,jal.2 ⟨hp,fun a1=>(hm s hs).2 (.up (hm s hs).1 a1 e1.symm hu)⟩,e1,e2,e3,e4⟩
theorem jh9 (b:Int):∀ {l:List SesM} {p:SesM},yh b l=some p->p∈l/\p.birth=b
 | [],_,h=>by cases h
 | x::l,p,h=>by
  unfold yh at h
  split at h
  . rename_i hx;injection h with h;subst h;exact ⟨pJ,hx⟩
  . have:=jh9 b h;exact ⟨pz _ this.1,this.2⟩
theorem jjT (h:jG s=true):(1<=s.birth/\s.birth<=1048576)/\s.born+1<=s.deadline/\(0<=s.slot/\s.slot<=31):=by
 unfold jG at h;simp only [qq] at h;exact ⟨jV h.2.1,(jV h.2.2.2.2.2.1).1,jV h.1⟩
theorem jkA (h:uR st s=0):s.birth=IntKind.i64.wrap (st.births+1)/\s.born=st.clock/\st.l.length<32/\st.l.any (fun x=>x.slot==s.slot)=false/\upM s st.l=0:=by
 unfold uR at h
 split at h
 .
  split at h
  .
   split at h
   . cases h
   .
    split at h
    . cases h
    .
     rename_i h1 h2 h3 h4
     exact ⟨h1,h2,by omega,by simpa using h4,h⟩
  . cases h
 . cases h
theorem Snd.birth (h:Snd st)(hr:uR st s=0)(hs:jG s=true):Snd ⟨st.clock,IntKind.i64.wrap (st.births+1),st.l ++ [s]⟩:=by
 obtain ⟨r1,r2,r3,r4,r5⟩:=jkA hr;obtain ⟨m1,m2,_⟩:=jjT hs;have hw:IntKind.i64.wrap (st.births+1)=st.births+1:=by
  have:=h.births;simp [IntKind.wrap,IntKind.bits,IntKind.signed];omega
 rw [hw] at r1 |-;have a0:∀ (P:SesM->Prop),(∀ x∈st.l,P x)->P s->∀ x∈st.l ++ [s],P x:=fun P h1 h2 x hx=>by
  rcases qW.1 hx with hx | hx
  . exact h1 x hx
  . rw [qC.1 hx];exact h2
 refine ⟨by simp only [qd,qx];omega,h.clock,by have:=h.births;show 0<=st.births+1/\st.births+1<=1048576;omega,?_,?_,?_,?_,?_,?_,?_⟩
 . exact a0 _ (fun x hx=>by have:=h.pos x hx;show 1<=x.birth/\x.birth<=st.births+1;omega) (by show 1<=s.birth/\s.birth<=st.births+1;omega)
 .
  refine List.pairwise_append.2 ⟨h.inc,List.pairwise_singleton _ _,fun x hx y hy=>?_⟩
  rw [qC.1 hy];have:=h.pos x hx;omega
 .
  refine List.pairwise_append.2 ⟨h.slots,List.pairwise_singleton _ _,fun x hx y hy he=>?_⟩
  rw [qC.1 hy] at he;have:=List.any_eq_false.1 r4 x hx;exact this (by simpa using he)
 . exact a0 _ (fun x hx=>h.dead x hx) (by show st.clock<s.deadline;omega)
 . exact a0 _ (fun x hx=>h.born x hx) (by show s.born<=st.clock;omega)
 . exact a0 _ (fun x hx=>h.may x hx) hs
 .
  refine a0 _ (fun x hx hu=>?_) (fun hu=>?_)
  .
   obtain ⟨p,hp,e⟩:=h.par x hx hu;exact ⟨p,List.mem_append_left _ hp,e⟩
  .
   unfold upM at r5;rw [qh hu] at r5
   split at r5
   . cases r5
   .
    rename_i p hp
    obtain ⟨p1,p2⟩:=jh9 _ hp
    split at r5
    .
     rename_i a1
     split at r5
     .
      rename_i hf
      exact ⟨p,List.mem_append_left _ p1,p2,a1,by have:=h.pos p p1;omega,hf⟩
     . cases r5
    . cases r5
theorem jgO {e:EvtM}(h:jM e=true)(k:e.kind=0):jG e.s=true:=by
 unfold jM at h;rw [qf (by simpa using k)] at h
 simp only [qq] at h;exact h.2.2
theorem jif {e:EvtM}(h:jM e=true)(k0:e.kind≠0)(k1:e.kind≠1):1<=e.ticks/\e.ticks<=1073741824:=by
 unfold jM at h;rw [qh (by simpa using k0),qh (by simpa using k1)] at h
 split at h
 .
  simp only [qq] at h;exact jV h.2.2
 . cases h
theorem Snd.apply (h:Snd st){e:EvtM}(he:(jt st e).1=0):Snd (jt st e).2:=by
 unfold jt at he |-;by_cases hm:jM e=true
 .
  rw [qf hm] at he |-;by_cases k0:e.kind=0
  .
   rw [qf k0] at he |-;by_cases hr:uR st e.s=0
   . rw [qf hr];exact h.birth hr (jgO hm k0)
   . rw [qh hr] at he;exact absurd he hr
  .
   rw [qh k0] at he |-;by_cases k1:e.kind=1
   .
    rw [qf k1] at he |-;by_cases ha:st.l.any (fun s=>s.birth==e.birth)=true
    . rw [qf ha];exact h.without _ st.clock (Int.le_refl _) h.clock.2 (fun s hs _=>h.dead s hs)
    . rw [qh ha] at he;cases he
   .
    rw [qh k1] at he |-;have ht:=jif hm k0 k1;by_cases hc:st.clock<0\/1099511627776-e.ticks<st.clock
    . rw [qf hc] at he;cases he
    . rw [qh hc];exact h.without _ _ (by omega) (by omega) (fun s _ hg=>by simpa using hg)
 . rw [qh hm] at he;cases he
theorem Snd.all (h:Snd st):∀ (l:List EvtM),Snd (yy st l).1:=by
 intro l
 induction l generalizing st with
 | nil=>exact h
 | cons e l ih =>
  unfold yy
  split
  . rename_i h0;exact ih (h.apply h0)
  . exact h
theorem Snd.uniq (h:Snd st){a b:SesM}(ha:a∈st.l)(hb:b∈st.l)(e:a.birth=b.birth):a=b:=by
 obtain ⟨i,hi,rfl⟩:=wP ha;obtain ⟨j,hj,rfl⟩:=wP hb;have hp:=pT.1 h.inc
 rcases kB i j with h1 | h1 | h1
 . have:=hp i j hi hj h1;omega
 . subst h1;rfl
 . have:=hp j i hj hi h1;omega
theorem jdM (h:jG s=true)(hu:s.upB=0):s.kind=0/\s.depth=0:=by
 unfold jG at h;simp only [qq] at h;have hc:=h.2.2.2.2.2.2;have a0:jx s=false:=by
  cases hcc:jx s
  . rfl
  .
   unfold jx at hcc;simp only [qq] at hcc;have:=(jV hcc.2.1).1;omega
 rw [a0] at hc;by_cases k0:s.kind=0
 .
  rw [qf (by simpa using k0)] at hc
  unfold jE at hc;simp only [qq,qK] at hc;exact ⟨k0,hc.2.2.2⟩
 .
  rw [qh (by simpa using k0)] at hc
  split at hc
  . cases hc
  .
   split at hc
   . simp at hc
   . cases hc
theorem jcS (h:jG s=true)(hu:s.upB≠0):(s.kind=1\/(s.kind=2/\s.deadline<=s.born+300))/\jx s=true:=by
 unfold jG at h;simp only [qq] at h;have hc:=h.2.2.2.2.2.2;by_cases k0:s.kind=0
 .
  rw [qf (by simpa using k0)] at hc
  unfold jE at hc;simp only [qq,qK] at hc;exact absurd hc.2.1 hu
 .
  rw [qh (by simpa using k0)] at hc
  split at hc
  . rename_i k1;exact ⟨.inl (by simpa using k1),hc⟩
  .
   split at hc
   .
    rename_i k2
    simp only [qq,pC] at hc;exact ⟨.inr ⟨by simpa using k2,hc.2⟩,hc.1⟩
   . cases hc
theorem jjr {p:SesM}(h:jG s=true)(hu:s.upB≠0)(hf:zI s p=true) :
  vh s.scopes p.scopes=true/\s.deadline<=p.deadline/\s.depth=IntKind.i64.wrap (p.depth+1)/\s.user=p.user/\(s.level<=p.level->s.level=p.level/\s.kind=1)/\(p.level<s.level->s.kind=2/\s.deadline<=s.born+300):=by
 have hk:=(jcS h hu).1;unfold zI at hf;simp only [qq,qK,pC] at hf;obtain ⟨f1,f2,f3,f4,f5⟩:=hf;refine ⟨f3,f4,f1,f2,fun hl=>?_,fun hl=>?_⟩
 .
  rcases hk with k | ⟨k,_⟩
  .
   rw [qh (by omega)] at f5
   exact ⟨by simpa using f5,k⟩
  .
   rw [qf k] at f5;have:p.level<s.level:=by simpa using f5
   omega
 .
  rcases hk with k | ⟨k,kd⟩
  .
   rw [qh (by omega)] at f5
   have:s.level=p.level:=by simpa using f5
   omega
  . exact ⟨k,kd⟩
theorem jln (h:jG s=true):0<=s.depth/\s.depth<=6:=by
 by_cases hu:s.upB=0
 . have:=(jdM h hu).2;omega
 .
  have hc:=(jcS h hu).2;unfold jx at hc;simp only [qq] at hc;have:=jV hc.2.2.2;omega
def jgW (l:List SesM)(i k:Nat):Bool:=match l[i]?,l[k]? with
 | some s,some p=>s.upB != 0&&(s.upB==p.birth)
 | _,_=>false
theorem jgo (hi:i<l.length)(hk:k<l.length):jgW l i k=(l[i].upB != 0&&(l[i].upB==l[k].birth)):=by
 unfold jgW;rw [List.getElem?_eq_getElem hi,List.getElem?_eq_getElem hk]
abbrev gat (g:List Bool)(i:Nat):Bool:=g.getD i false
theorem jl2 {j:Nat}{v:Bool}(hi:i<g.length):gat (g.set i v) j=if j=i then v else gat g j:=by
 unfold gat;rw [List.getD,List.getD,List.getElem?_set];by_cases h:j=i
 . subst h;rw [qf rfl,qf hi,qf rfl];rfl
 . rw [qh (fun e=>h e.symm),qh h]
theorem ji3 {h:List Bool}(hl:g.length=h.length)(he:∀ i,gat g i=gat h i):g=h:=by
 refine kD hl fun i h1 h2=>?_
 have:=he i;unfold gat at this;rw [List.getD,List.getD,List.getElem?_eq_getElem h1,List.getElem?_eq_getElem h2] at this;exact this
def vj (l:List SesM)(g:List Bool)(i k:Nat):List Bool:=g.set i (gat g i || (gat g k&&jgW l i k))
structure WInv (goes:SesM->Bool)(l:List SesM)(g:List Bool):Prop where
 len:g.length=l.length
 one:∀ i (hi:i<l.length),goes l[i]=true->gat g i=true
 sound:∀ i (hi:i<l.length),gat g i=true->Dies goes l l[i]
def Clo (l:List SesM)(g:List Bool):Prop:=∀ i k,i<l.length->k<l.length->gat g k=true->jgW l i k=true->gat g i=true
structure TurnR (goes:SesM->Bool)(l:List SesM)(g0 g:List Bool)(i k:Nat):Prop where
 inv:WInv goes l g
 len0:g0.length=l.length
 ext:∀ j,gat g0 j=true->gat g j=true
 stay:Clo l g0->g=g0
 chk:g=g0->∀ i' k',(i'<i\/(i'=i/\k'<k))->i'<l.length->k'<l.length->gat g0 k'=true->jgW l i' k'=true->gat g0 i'=true
theorem TurnR.start (h:WInv goes l g):TurnR goes l g g 0 0 :=
 ⟨h,h.len,fun _ h=>h,fun _=>rfl,fun _ i' k' hh=>by omega⟩
theorem TurnR.next (h:TurnR goes l g0 g i k)(hi:i<l.length)(hk:k<l.length):TurnR goes l g0 (vj l g i k) i (k+1):=by
 have a4:i<g.length:=by rw [h.inv.len];exact hi
 have a0:∀ j,gat (vj l g i k) j=if j=i then (gat g i || (gat g k&&jgW l i k)) else gat g j:=fun j=>jl2 a4
 have a1:∀ j,gat g j=true->gat (vj l g i k) j=true:=fun j hj=>by
  rw [a0];by_cases e:j=i
  . subst e;rw [qf rfl,hj];rfl
  . rw [qh e];exact hj
 refine ⟨⟨by unfold vj;rw [pP];exact h.inv.len,fun j hj hg=>a1 j (h.inv.one j hj hg),fun j hj hg=>?_⟩,h.len0,fun j hj=>a1 j (h.ext j hj),fun hc=>?_,fun he=>?_⟩
 .
  rw [a0] at hg;by_cases e:j=i
  .
   subst e;rw [qf rfl,Bool.or_eq_true,qq] at hg
   rcases hg with hg | ⟨h1,h2⟩
   . exact h.inv.sound j hj hg
   .
    rw [jgo hj hk,qq,wl,qK] at h2;exact .up (qy _) (h.inv.sound k hk h1) h2.2 h2.1
  . rw [qh e] at hg;exact h.inv.sound j hj hg
 .
  have e0:=h.stay hc;subst e0;refine ji3 (by unfold vj;rw [pP]) fun j=>?_
  rw [a0];by_cases e:j=i
  .
   subst e;rw [qf rfl]
   cases hg:gat g j
   .
    cases hk2:gat g k&&jgW l j k
    . rfl
    .
     rw [qq] at hk2;have:=hc j k hi hk hk2.1 hk2.2;rw [hg] at this;cases this
   . rfl
  . rw [qh e]
 .
  have e0:g=g0:=ji3 (by rw [h.inv.len,h.len0]) fun j=>by
   cases h1:gat g j
   .
    cases h2:gat g0 j
    . rfl
    . have:=h.ext j h2;rw [h1] at this;cases this
   . rw [<- he];exact (a1 j h1).symm
  intro i' k' hh a2 a3 h1 h2
  rcases hh with hh | ⟨rfl,hh⟩
  . exact h.chk e0 i' k' (.inl hh) a2 a3 h1 h2
  .
   by_cases e:k'=k
   .
    subst e;have h3:=a0 i';rw [qf rfl,he,e0,h1,h2] at h3;rw [h3];simp
   . exact h.chk e0 i' k' (.inr ⟨rfl,by omega⟩) a2 a3 h1 h2
theorem TurnR.row (h:TurnR goes l g0 g i l.length):TurnR goes l g0 g (i+1) 0 :=
 ⟨h.inv,h.len0,h.ext,h.stay,fun he i' k' hh a0 a1=>h.chk he i' k' (by omega) a0 a1⟩
theorem jhx:∀ {g h:List Bool},g.length=h.length->(∀ i,gat g i=true->gat h i=true)->g≠h->g.count true<h.count true
 | [],[],_,_,hne=>absurd rfl hne
 | [],_::_,hl,_,_=>by simp at hl
 | _::_,[],hl,_,_=>by simp at hl
 | a::g,b::h,hl,hs,hne=>by
  have a0:g.length=h.length:=by simpa using hl
  have a1:∀ i,gat g i=true->gat h i=true:=fun i hi=>hs (i+1) hi
  have h0:a=true->b=true:=fun e=>hs 0 e
  have a3:∀ {g h:List Bool},g.length=h.length->(∀ i,gat g i=true->gat h i=true)->g.count true<=h.count true:=by
   intro g
   induction g with
   | nil=>intro h _ _;simp
   | cons x g ih =>
    intro h hl hs
    cases h with
    | nil=>simp at hl
    | cons y h =>
     have:=ih (h:=h) (by simpa using hl) (fun i hi=>hs (i+1) hi)
     have a2:x=true->y=true:=fun e=>hs 0 e
     rw [List.count_cons,List.count_cons]
     cases x <;> cases y
     . simpa using this
     . simp;omega
     . cases a2 rfl
     . simpa using this
  rw [List.count_cons,List.count_cons];by_cases e:g=h
  .
   subst e
   cases a <;> cases b
   . exact absurd rfl hne
   . simp
   . cases h0 rfl
   . exact absurd rfl hne
  .
   have:=jhx a0 a1 e
   cases a <;> cases b
   . simpa using this
   . simp;omega
   . cases h0 rfl
   . simpa using this
def Prog (l:List SesM)(t:Nat)(g:List Bool):Prop:=Clo l g\/t<=g.count true
theorem Prog.zero (l:List SesM)(g:List Bool):Prog l 0 g:=.inr (qJ _)
theorem TurnR.done {t:Nat}(h:TurnR goes l g0 g l.length 0)(hp:Prog l t g0):Prog l (t+1) g:=by
 by_cases e:g=g0
 .
  left
  intro i k hi hk h1 h2;rw [e] at h1 |-;exact h.chk e i k (.inl hi) hi hk h1 h2
 .
  right
  rcases hp with hp | hp
  . exact absurd (h.stay hp) e
  .
   have:=jhx (by rw [h.inv.len,h.len0]) h.ext (fun e2=>e e2.symm)
   omega
theorem jlI (hl:g.length=l.length)(h:Prog l l.length g):Clo l g:=by
 rcases h with h | h
 . exact h
 .
  intro i k hi hk _ _;have h1:g.count true=g.length:=Nat.le_antisymm List.count_le_length (by omega)
  have h2:=List.count_eq_length.1 h1;unfold gat;rw [List.getD,List.getElem?_eq_getElem (by omega)]
  exact (h2 _ (qy _)).symm
theorem jkZ (h:WInv goes l g)(hc:Clo l g):∀ i (hi:i<l.length),gat g i=true↔Dies goes l l[i]:=by
 have hd:∀ s,Dies goes l s->∀ i (hi:i<l.length),l[i]=s->gat g i=true:=by
  intro s hs
  induction hs with
  | one hm hg=>intro i hi e;exact h.one i hi (by rw [e];exact hg)
  | up hm hp he hn ih =>
   intro i hi e;obtain ⟨k,hk,ek⟩:=wP hp.mem;refine hc i k hi hk (ih k hk ek) ?_;rw [jgo hi hk,e,ek,qq,wl,qK];exact ⟨hn,he⟩
 exact fun i hi=>⟨h.sound i hi,fun hs=>hd _ hs i hi rfl⟩
theorem vH (d:DiskM)(p:Nat)(F:Nat->Prop)(w:World)(h:IsDisk w d p F) :
  Calls prog 24 #[.pointer (some ⟨p,0,none⟩)] w fun e w'=>e=.returned (.tuple #[])/\∃ F',IsDisk w' { d with left:=none } p F'/\Mod F w w'/\∀ k,F' k->F k:=by
 obtain ⟨F',g1,g2,g3⟩:=h.power (.func (.func 35) #[] #[]) none none ⟨rfl,rfl⟩ (fun k hk=>by cases hk)
 obtain ⟨_,c0,c1,c2,hb⟩:=h.cells;have hc:=hb.cell 2 _ rfl;have hf:=hb.free 2;clear h hb;go_enter func24,ntmps24
 go_wp2
 go_end0
 refine ⟨rfl,F',g1,g2,fun k hk=>?_⟩
 rcases g3 k hk with h | h
 . exact h
 . cases h
theorem jhj :∀ {a:List SesM} {h:Bool},(∀ p∈a,p.slot≠s.slot)->(∀ p∈a,s.upS=p.slot/\s.upB=p.birth->yz s p=true)->(h=true\/∃ p∈a,s.upS=p.slot/\s.upB=p.birth)->xO s a h=some true
 | [],h,_,_,h3=>by
  rcases h3 with h3 | ⟨p,hp,_⟩
  . rw [h3];rfl
  . cases hp
 | p::ps,h,h1,h2,h3=>by
  unfold xO;rw [qh (h1 p (by simp))]
  refine jhj (fun q hq=>h1 q (by simp [hq])) (fun q hq=>h2 q (by simp [hq])) ?_
  by_cases hu:s.upS=p.slot/\s.upB=p.birth
  . rw [qf hu];exact .inl (h2 p (by simp) hu)
  .
   rw [qh hu]
   rcases h3 with h3 | ⟨q,hq,h4⟩
   . exact .inl h3
   .
    rcases qH.1 hq with rfl | hq
    . exact absurd h4 hu
    . exact .inr ⟨q,hq,h4⟩
theorem jii {n:Int}(h1:0<=n)(h2:n<=6):IntKind.i64.wrap (n+1)=n+1:=by
 have h:n=0\/n=1\/n=2\/n=3\/n=4\/n=5\/n=6:=by omega
 rcases h with rfl | rfl | rfl | rfl | rfl | rfl | rfl <;> rfl
theorem jeM {p:SesM}(hu:s.upB≠0)(hs:jG s=true)(hp:jG p=true)(h:zI s p=true):yz s p=true:=by
 obtain ⟨d1,d2⟩:=jln hp;obtain ⟨h1,h2,h3,h4,h5,h6⟩:=jjr hs hu h;rw [jii d1 d2] at h3;unfold yz;simp only [qq,qK,pC];refine ⟨h3,h4,h2,h1,?_⟩;by_cases hl:p.level<s.level
 . rw [(h6 hl).1];simp [hl]
 .
  have:=(h5 (by omega)).2
  rw [this];simp [hl]
theorem jl8 (h:jG s=true)(hu:s.upB=0):s.upS=0:=by
 have hk:=(jdM h hu).1;unfold jG at h;simp only [qq] at h;have hc:=h.2.2.2.2.2.2;rw [qf (by simpa using hk)] at hc
 unfold jE at hc;simp only [qq,qK] at hc;exact hc.1
theorem Snd.check (h:Snd st):yr st=none:=by
 refine jac.2 ⟨?_,fun i hi=>jbw.2 ?_⟩
 .
  unfold zA jT;have h1:=h.clock;have h2:=h.births;have h3:=h.len;simp only [qq,pC];exact ⟨h1,h2,h3⟩
 .
  have hm:=qy hi;have a1:=h.may _ hm;have a2:=pT.1 h.inc;have a6:=pT.1 h.slots;have a4:∀ p∈st.l.take i,∃ j,∃ hj:j<st.l.length,j<i/\p=st.l[j]:=fun p hp=>by
   obtain ⟨j,hj,rfl⟩:=wP hp;rw [qr] at hj;exact ⟨j,by omega,by omega,p8⟩
  refine ⟨a1,fun a0=>?_,(h.pos _ hm).2,h.born _ hm,h.dead _ hm,?_⟩
  .
   cases i with
   | zero=>exact absurd rfl a0
   | succ j =>
    rw [qk (by omega),uk]
    exact a2 j (j+1) (by omega) hi (by omega)
  .
   refine jhj (fun p hp=>?_) (fun p hp a7=>?_) ?_
   .
    obtain ⟨j,hj,a3,rfl⟩:=a4 p hp;exact a6 j i hj hi a3
   .
    obtain ⟨j,hj,a3,rfl⟩:=a4 p hp;have a5:=qy hj;have a8:=(h.pos _ a5).1;have a0:st.l[i].upB≠0:=by omega
    obtain ⟨q,hq,e1,e2,e3,e4⟩:=h.par _ hm a0;have e:q=st.l[j]:=h.uniq hq a5 (by omega)
    rw [<- e];exact jeM a0 a1 (h.may _ hq) e4
   .
    by_cases hu:st.l[i].upB=0
    . left;unfold jcl;rw [hu,jl8 a1 hu];rfl
    .
     obtain ⟨q,hq,e1,e2,e3,e4⟩:=h.par _ hm hu;obtain ⟨j,hj,rfl⟩:=wP hq;have a3:j<i:=by
      rcases qX j i with g | g
      . exact g
      .
       rcases qX i j with g2 | g2
       . have:=a2 i j hi hj g2;omega
       .
        obtain rfl:j=i:=by omega
        omega
     exact .inr ⟨_,List.mem_take_iff_getElem.2 ⟨j,by omega,rfl⟩,e2.symm,e1.symm⟩
structure DR (W:World)(p rp c:Nat)(d:DiskM)(F G:Nat->Prop)(wr:World):Prop where
 disk:IsDisk wr d p F
 ref:IsRef wr d rp G
 wf:d.Wf
 small:d.strs.length<=4096
 trail:d.trail.length<=c
 fg:∀ k,F k->¬ G k
 lo:∀ k,F k\/G k->W.heap.size<=k
 below:Below W.heap.size W wr
theorem DR.to {W:World}{c:Nat}{d:DiskM}{wr w2:World}(h:DR W p rp c d F G wr)(hb:Below wr.heap.size wr w2):DR W p rp c d F G w2 :=
 ⟨h.disk.mod (Mod.of_below (F:=fun _=>False) hb) (fun _ _ h=>h),h.ref.below hb,h.wf,h.small,h.trail,h.fg,h.lo,h.below.trans (hb.mono h.below.size)⟩
end Go.Proofs.YtgcnolapjppbpaaGreatDoor
