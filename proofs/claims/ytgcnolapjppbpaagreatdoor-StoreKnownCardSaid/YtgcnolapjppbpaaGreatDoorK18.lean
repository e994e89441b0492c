/- Texts of one proof. -/
import Derived.Test.YtgcnolapjppbpaaGreatDoorK10
import Derived.Test.YtgcnolapjppbpaaGreatDoorK15
namespace Go.Proofs.YtgcnolapjppbpaaGreatDoor
open Go.RowKit _root_.Go.Proofs.Tryz
set_option maxRecDepth 100000
set_option maxHeartbeats 25600000
variable {s:TkM}{r b A:List UInt8}{e:EvtM}{w:World}
open Go.RowKit Go.Extern.Stop Go.Stop Go.Extern
def zL (n:Int):Value:=.iface 91 n
theorem jiQ:(prog.info? 91).map (·.comparable)=some true:=by kernel_rfl
theorem jhN (w:World)(d:Nat)(a b:Int):(Op.equalIn (d+2) 49 (zL a) (zL b)).run prog w=.ok (a==b) w:=by
 obtain ⟨i,hi,hc⟩:=Option.map_eq_some_iff.1 jiQ;unfold zL
 simp [Op.equalIn,run_underlying underlying49,run_underlying underlying91,typeInfo,hi,hc]
theorem jlZ (w:World)(a b:Int):(binOp .eql 49 (zL a) (zL b)).run prog w=.ok (.bool (a==b)) w:=by
 have h:=jhN w 9998 a b;unfold zL at h |-;simp only [binOp]
 simp [Op.equal,Op.maxDepth,h]
theorem jix (v:Value)(w:World):(Extern.ReflectliteType.typeOf #[.iface 91 v]).run prog w=.ok (.iface 193 (.agg #[.pointer (some ⟨2,91,none⟩)])) w:=by kernel_rfl
def jnm : Array Value -> Sem Value := Extern.ReflectliteType.method fun t => do Extern.Rtype.noPackHeld "Comparable" t; pure (.bool (<- typeInfo t).comparable)
theorem jel (w:World):(jnm #[.agg #[.pointer (some ⟨2,91,none⟩)]]).run prog w=.ok (.bool true) w:=by kernel_rfl
theorem jk6 (v:Value)(xT:TypeId)(w:World):(Instr.typeAssert (.iface 91 v) xT 195 true).run prog w=.ok (.tuple #[.nilIface,.bool false]) w:=kf underlying195 (by kernel_rfl) (by kernel_rfl) v xT w
theorem jbN (v:Value)(xT:TypeId)(w:World):(Instr.typeAssert (.iface 91 v) xT 198 true).run prog w=.ok (.tuple #[.nilIface,.bool false]) w:=kf underlying198 (by kernel_rfl) (by kernel_rfl) v xT w
theorem jaO (v:Value)(xT:TypeId)(w:World):(Instr.typeAssert (.iface 91 v) xT 200 true).run prog w=.ok (.tuple #[.nilIface,.bool false]) w:=kf underlying200 (by kernel_rfl) (by kernel_rfl) v xT w
theorem jjJ (a b:Int)(w:World):Calls prog 74 #[zL a,zL b,.bool true] w fun e w'=>e=.returned (.bool (a==b))/\w'=w:=by
 have nI:=jk6;have nU:=jbN;have nV:=jaO;have a0:=jlZ w a b;unfold zL at a0 |-
 cases hab:(a==b) with
 | true =>
  rw [hab] at a0;clear hab;go_enter func74,ntmps74
  go_wp2
  refine wp_loop_rounds 1 ?_;rw [rounds_succ]
  go_wp2
  go_ret;exact ⟨rfl,rfl⟩
 | false =>
  rw [hab] at a0;clear hab;go_enter func74,ntmps74
  go_wp2
  refine wp_loop_rounds 1 ?_;rw [rounds_succ]
  go_wp2
  go_ret;exact ⟨rfl,rfl⟩
theorem jdJ (a b:Int)(w:World):Calls prog 40 #[zL a,zL b] w fun e w'=>e=.returned (.bool (a==b))/\w'=w:=by
 have h8:=@run_callFunc_extern prog 73 _ Extern.ReflectliteType.typeOf func73 (by kernel_rfl) (by kernel_rfl) (by kernel_rfl) (by kernel_rfl)
 have a1:=@run_callFunc_extern prog 231 _ jnm func231 (by kernel_rfl) (by kernel_rfl) (by kernel_rfl) (by kernel_rfl)
 have tT:=jix;have cT:=jel;have a0:=jjJ a b w;unfold zL at a0 |-;have H:=Hd a0;clear a0;go_enter func40,ntmps40;go_wp2_with fail;refine H.1.mono ?_;rintro e w' ⟨rfl,rfl⟩;go_wp2;go_ret;exact ⟨rfl,rfl⟩
theorem jlK (w:World):Calls prog 42 #[.nilIface] w fun e w'=>e=.returned (0:Int)/\w'=w:=by
 go_enter func42,ntmps42;go_wp2;go_ret;exact ⟨rfl,rfl⟩
theorem jjF (n:Nat)(w:World)(h1:1<=n)(h2:n<=24):Calls prog 42 #[zL n] w fun e w'=>e=.returned (n:Int)/\w'=w:=by
 have hi:=fun b=>jdJ (n:Int) b w
 unfold zL at hi |-;have H:=Hd hi;clear hi;go_enter func42,ntmps42;go_wp2_with fail
 go_loop [3,4] (fun f i=>∃ k:Nat,1<=k/\k<=25/\i=.int .i64 k/\((n<k/\f=.int .i64 n)\/(k<=n/\f=.int .i64 0))) (fun _ i=>25-(intOf i).toNat)
 case atStart=>exact ⟨1,by omega,by omega,rfl,.inr ⟨h1,rfl⟩⟩
 case round =>
  obtain ⟨k,a1,a2,rfl,hf⟩:=hrel;by_cases hk:k<25
  .
   have a0:k<=24:=by omega
   have hc:(n<k/\((n:Int)==(k:Int))=false)\/(n=k)\/(k<n/\((n:Int)==(k:Int))=false):=by
    rcases kB n k with h | h | h
    . exact .inl ⟨h,by rw [qD];omega⟩
    . exact .inr (.inl h)
    . exact .inr (.inr ⟨h,by rw [qD];omega⟩)
   rcases hc with ⟨a3,hb⟩ | rfl | ⟨a4,hb⟩
   .
    rcases hf with ⟨_,rfl⟩ | ⟨h,rfl⟩
    .
     go_wp2_with fail;refine (H.1 (k:Int)).mono ?_;rintro e w' ⟨rfl,rfl⟩;go_wp2_with fail
     go_round
     case rel=>exact ⟨k+1,by omega,by omega,by go_num,.inl ⟨by omega,rfl⟩⟩
     case measure=>simp [intOf];omega
    . omega
   .
    rcases hf with ⟨h,rfl⟩ | ⟨_,rfl⟩
    . omega
    .
     have hb:((n:Int)==(n:Int))=true:=by rw [qK]
     go_wp2_with fail;refine (H.1 (n:Int)).mono ?_;rintro e w' ⟨rfl,rfl⟩;go_wp2_with fail
     go_round
     case rel=>exact ⟨n+1,by omega,by omega,by go_num,.inl ⟨by omega,rfl⟩⟩
     case measure=>simp [intOf];omega
   .
    rcases hf with ⟨h,rfl⟩ | ⟨_,rfl⟩
    . omega
    .
     go_wp2_with fail;refine (H.1 (k:Int)).mono ?_;rintro e w' ⟨rfl,rfl⟩;go_wp2_with fail
     go_round
     case rel=>exact ⟨k+1,by omega,by omega,by go_num,.inr ⟨by omega,rfl⟩⟩
     case measure=>simp [intOf];omega
  .
   obtain rfl:k=25:=by omega
   rcases hf with ⟨_,rfl⟩ | ⟨h,rfl⟩
   .
    have a5:((n:Int)==0)=false:=by rw [qD];omega
    have a6:(n==0)=false:=by rw [qD];omega
    go_wp2_with fail;refine (H.1 0).mono ?_;rintro e w' ⟨rfl,rfl⟩;go_wp2;go_ret;exact ⟨rfl,rfl⟩
   . omega
theorem jfl:∀ (k n i u:Nat) (r:List UInt8),1<=k->k+i=10->n*2 ^ (7*i)<2 ^ 64->(0<i->0<n)->yT i u (zY k n++r)=(0,u+n*2 ^ (7*i),i+(zY k n).length)
 | 0,_,_,_,_,h,_,_,_=>by omega
 | k+1,n,i,u,r,_,hk,hn,hz=>by
  have h9:i=9->n<=1:=fun e=>by subst e;simp only [Nat.reduceMul,Nat.reducePow] at hn;omega
  unfold zY;by_cases h:n<128
  .
   rw [qf h];have hb:(UInt8.ofNat n).toNat=n:=by
    have:(UInt8.ofNat n).toNat=n % 256:=rfl;omega
   show yT i u (UInt8.ofNat n::r)=_;unfold yT;rw [hb,qh (by
    rintro (⟨h1,h2⟩ | ⟨h1,h2⟩);· have:=h9 h1;omega
    . have:=hz h1;omega),qf h]
   rfl
  .
   rw [qh h];have hb:(UInt8.ofNat (n % 128+128)).toNat=n % 128+128:=by
    have:(UInt8.ofNat (n % 128+128)).toNat=(n % 128+128) % 256:=rfl;omega
   show yT i u (UInt8.ofNat (n % 128+128)::(zY k (n / 128)++r))=_;unfold yT;have hi:i<9:=by
    rcases qX i 9 with h1 | h1
    . exact h1
    . have:=h9 (by omega);omega
   have hp:2 ^ (7*(i+1))=2 ^ (7*i)*128:=by rw [show 7*(i+1)=7*i+7 by omega,pO]
   have a0:n / 128*128+n % 128=n:=by omega
   have a1:n / 128*2 ^ (7*(i+1))+n % 128*2 ^ (7*i)=n*2 ^ (7*i):=by
    rw [hp,wS (2 ^ (7*i)) 128,<- Nat.mul_assoc,<- pf,a0]
   rw [hb,qh (by omega),qh (by omega),jfl k (n / 128) (i+1) _ r (by omega) (by omega) (by omega) (fun _=>by omega)]
   rw [show n % 128+128-128=n % 128 by omega,qp,<- a1]
   simp only [Prod.mk.injEq,true_and];exact ⟨by omega,by omega⟩
theorem jgT (n:Nat)(r:List UInt8)(h:n<2 ^ 64):jX (yo n++r)=(0,n,(yo n).length):=by
 unfold jX yo;rw [jfl 10 n 0 0 r (by omega) (by omega) (by simpa using h) (fun h=>by omega)]
 simp
theorem jin (m r:List UInt8)(h:m.length<=32):jL (yj m++r)=(0,m,(yj m).length):=by
 unfold yj jL;rw [qB,jgT m.length (m++r) (by omega)]
 simp only [pB];rw [qh (by omega),qh (by rw [qd,qd];omega),py,kb,qd]
structure At (s:TkM)(A:List UInt8):Prop where
 rest:s.rest=A
 er:s.er=0
 big:s.big=false
 le:s.k<=s.l.length
theorem At.num {n:Nat}(h:At s (yo n++r))(hn:n<2 ^ 64):s.num.1=n/\At s.num.2 r:=by
 have h1:s.num=(n,⟨s.l,s.k+(yo n).length,0,s.big⟩):=by
  unfold TkM.num;rw [qf h.er,h.rest,jgT n r hn];rfl
 have hl:s.l.length-s.k=(yo n).length+r.length:=by
  have:=congrArg List.length h.rest;unfold TkM.rest at this
  rwa [qn,qd] at this
 have a0:=h.le;rw [h1];refine ⟨rfl,?_,rfl,h.big,by show s.k+(yo n).length<=s.l.length;omega⟩
 show s.l.drop (s.k+(yo n).length)=r;rw [<- wR];have:=h.rest;unfold TkM.rest at this;rw [this,py]
theorem At.txt {m:List UInt8}(h:At s (yj m++r))(hm:m.length<=32):s.txt.1=m/\At s.txt.2 r:=by
 have h1:s.txt=(m,⟨s.l,s.k+(yj m).length,0,s.big⟩):=by
  unfold TkM.txt;rw [qf h.er,h.rest,jin m r hm];rfl
 have hl:s.l.length-s.k=(yj m).length+r.length:=by
  have:=congrArg List.length h.rest;unfold TkM.rest at this
  rwa [qn,qd] at this
 have a0:=h.le;rw [h1];refine ⟨rfl,?_,rfl,h.big,by show s.k+(yj m).length<=s.l.length;omega⟩
 show s.l.drop (s.k+(yj m).length)=r;rw [<- wR];have:=h.rest;unfold TkM.rest at this;rw [this,py]
theorem At.int {n:Int}(h:At s (ji n++r))(hn:N63 n):s.int.1=n/\At s.int.2 r:=by
 obtain ⟨n1,n2⟩:=hn;obtain ⟨k,rfl⟩:∃ k:Nat,n=(k:Int):=⟨n.toNat,by omega⟩
 obtain ⟨h1,h2⟩:=At.num (n:=k) h (by omega)
 unfold TkM.int;rw [h1];refine ⟨by show yC k=_;unfold yC;rw [qf (by omega)],h2.rest,h2.er,?_,h2.le⟩
 show (s.num.2.big || !(decide (k<=9223372036854775807)))=false
 rw [h2.big,qz (by omega)];rfl
theorem At.end (h:At s [])(hm:jM e=true):vI s e=(0,e):=by
 have hk:¬ s.k<s.l.length:=by
  have:=congrArg List.length h.rest;unfold TkM.rest at this;rw [qn] at this
  simp at this;omega
 unfold vI;rw [qf h.er,qh hk,h.big,qh (by decide),qf hm]
theorem At.born {q:SesM}(h:At s (yf [] q))(hq:SesN q)(a0:q.scopes<2 ^ 64):(jY s).1=q/\At (jY s).2 []:=by
 unfold yf at h;simp only [qB,wt] at h;obtain ⟨a1,a2⟩:=h.int hq.slot;obtain ⟨b1,b2⟩:=a2.int hq.birth;obtain ⟨c1,c2⟩:=b2.int hq.upS;obtain ⟨d1,d2⟩:=c2.int hq.upB;obtain ⟨f1,f2⟩:=d2.int hq.kind;obtain ⟨u1,u2⟩:=f2.txt hq.user;obtain ⟨l1,l2⟩:=u2.txt hq.label;obtain ⟨s1,s2⟩:=l2.num a0;obtain ⟨g1,g2⟩:=s2.int hq.level;obtain ⟨h1,h2⟩:=g2.int hq.born;obtain ⟨i1,i2⟩:=h2.int hq.deadline;obtain ⟨j1,j2⟩:=At.int (r := []) (by rw [qF];exact i2) hq.depth
 exact ⟨by unfold jY;simp only [a1,b1,c1,d1,f1,u1,l1,s1,g1,h1,i1,j1],j2⟩
theorem jfr (A:List UInt8)(q:SesM):yf A q=A++yf [] q:=by unfold yf;simp only [qB,wt]
theorem jkH (hm:jM e=true)(a1:e.s.scopes<2 ^ 64):vT (evB e)=(0,e):=by
 have h0:At ⟨evB e,0,0,false⟩ (evB e):=⟨rfl,rfl,rfl,qJ _⟩;unfold vT;simp only
 cases k1:(e.kind==1)
 .
  cases k2:(e.kind==2)
  .
   have k0:(e.kind==0)=true:=by
    cases k0:(e.kind==0)
    . rw [jbp k0 k1 k2] at hm;cases hm
    . rfl
   have hk:e.kind=0:=by simpa using k0
   have he:evB e=yo 0++yf [] e.s:=by
    unfold evB;rw [k1,k2];show yf (ji e.kind) e.s=_;rw [jfr,hk];rfl
   have hh:At ⟨evB e,0,0,false⟩ (yo 0++yf [] e.s):=⟨he,rfl,rfl,qJ _⟩;obtain ⟨p1,p2⟩:=hh.num (by omega)
   obtain ⟨q1,q2⟩:=p2.born (SesN.of (jap hm k0)) a1;rw [qf p2.er,p1,qh (by omega),qf rfl,q1]
   have a0:(⟨0,e.s,0,0⟩:EvtM)=e:=by
    unfold jM at hm;rw [k0] at hm;simp only [pB,qq,qK] at hm
    cases e;simp_all
   rw [a0];exact q2.end hm
  .
   have hk:e.kind=2:=by simpa using k2
   have k0:(e.kind==0)=false:=by rw [hk];rfl
   have he:evB e=yo 2++ji e.ticks:=by
    unfold evB;rw [k1,k2];show ji e.kind++ji e.ticks=_;rw [hk];rfl
   have hh:At ⟨evB e,0,0,false⟩ (yo 2++ji e.ticks):=⟨he,rfl,rfl,qJ _⟩;obtain ⟨p1,p2⟩:=hh.num (by omega)
   obtain ⟨q1,q2⟩:=At.int (r := []) (by rw [qF];exact p2) (vV hm k0 k1).2
   rw [qf p2.er,p1,qh (by omega),qh (by omega),qh (by omega),q1]
   have a0:(⟨2,ju,0,e.ticks⟩:EvtM)=e:=by
    unfold jM at hm;rw [k0,k1,k2] at hm;simp only [pB,qq,qK,wH,ks,yB] at hm
    cases e;simp_all
   rw [a0];exact q2.end hm
 .
  have hk:e.kind=1:=by simpa using k1
  have k0:(e.kind==0)=false:=by rw [hk];rfl
  have he:evB e=yo 1++ji e.birth:=by
   unfold evB;rw [k1];show ji e.kind++ji e.birth=_;rw [hk];rfl
  have hh:At ⟨evB e,0,0,false⟩ (yo 1++ji e.birth):=⟨he,rfl,rfl,qJ _⟩;obtain ⟨p1,p2⟩:=hh.num (by omega)
  obtain ⟨q1,q2⟩:=At.int (r := []) (by rw [qF];exact p2) (jad hm k0 k1)
  rw [qf p2.er,p1,qh (by omega),qh (by omega),qf rfl,q1]
  have a0:(⟨1,ju,e.birth,0⟩:EvtM)=e:=by
   unfold jM at hm;rw [k0,k1] at hm;simp only [pB,qq,qK,wH,ks,yB] at hm
   cases e;simp_all
  rw [a0];exact q2.end hm
theorem jbx (c:UInt8):UInt8.ofNat c.toNat=c:=by
 apply UInt8.toNat.inj
 have:=c.toNat_lt;show c.toNat % 256=c.toNat;omega
theorem jfh:∀ (l:List UInt8) (i u v j:Nat),i<=9->yT i u l=(0,v,j)->∃ n,v=u+n*2 ^ (7*i)/\i<j/\l.take (j-i)=zY (10-i) n/\n*2 ^ (7*i)<2 ^ 64/\(0<i->0<n)
 | [],i,u,v,j,_,h=>by simp [yT] at h
 | c::l,i,u,v,j,hi,h=>by
  have hc:=c.toNat_lt;unfold yT at h
  split at h
  . simp at h
  .
   rename_i hf
   split at h
   .
    rename_i h8
    simp only [Prod.mk.injEq,true_and] at h;obtain ⟨rfl,rfl⟩:=h;refine ⟨c.toNat,rfl,by omega,?_,?_,by omega⟩
    .
     rw [show i+1-i=1 by omega,show 10-i=(9-i)+1 by omega]
     unfold zY;rw [qf h8,jbx];rfl
    .
     rcases qX i 9 with h9 | h9
     .
      have:c.toNat*2 ^ (7*i)<=127*2 ^ 56:=Nat.mul_le_mul (by omega) (Nat.pow_le_pow_right (by omega) (by omega))
      omega
     .
      obtain rfl:i=9:=by omega
      have:c.toNat*2 ^ (7*9)<=1*2 ^ (7*9):=qQ _ (by omega)
      omega
   .
    rename_i h8
    have h9:i<9:=by
     rcases qX i 9 with h1 | h1
     . exact h1
     . exact absurd (.inl ⟨by omega,by omega⟩) hf
    obtain ⟨n,h1,h2,h3,h4,h5⟩:=jfh l (i+1) _ v j (by omega) h
    have hp:2 ^ (7*(i+1))=2 ^ (7*i)*128:=by rw [show 7*(i+1)=7*i+7 by omega,pO]
    have hn:=h5 (by omega)
    have a0:n*2 ^ (7*(i+1))+(c.toNat-128)*2 ^ (7*i)=(n*128+(c.toNat-128))*2 ^ (7*i):=by
     rw [hp,wS (2 ^ (7*i)) 128,<- Nat.mul_assoc,<- pf]
    refine ⟨n*128+(c.toNat-128),by omega,by omega,?_,?_,by omega⟩
    .
     rw [show j-i=(j-(i+1))+1 by omega,pH,h3,show 10-i=(10-(i+1))+1 by omega]
     conv=>rhs;unfold zY
     rw [qh (by omega),show (n*128+(c.toNat-128)) % 128+128=c.toNat by omega,show (n*128+(c.toNat-128)) / 128=n by omega,jbx]
    .
     rw [<- a0]
     -- the number's upper part is below 2^64,so is the whole
     have hq:n*2 ^ (7*(i+1))<2 ^ 64:=h4;have hm:2 ^ (7*(i+1))*2 ^ (64-7*(i+1))=2 ^ 64:=by rw [<- pO];congr 1;omega
     have a1:n<2 ^ (64-7*(i+1)):=by
      rcases qX n (2 ^ (64-7*(i+1))) with h | h
      . exact h
      .
       have:=qQ (2 ^ (7*(i+1))) h;rw [wS (2 ^ (64-7*(i+1)))] at this;omega
     have h6:(n+1)*2 ^ (7*(i+1))<=2 ^ (64-7*(i+1))*2 ^ (7*(i+1)):=qQ _ a1;rw [wS (2 ^ (64-7*(i+1))),hm,pf] at h6;have h7:(c.toNat-128)*2 ^ (7*i)<128*2 ^ (7*i):=Nat.mul_lt_mul_of_pos_right (by omega) (Nat.pow_pos (by omega))
     rw [wS 128,<- hp] at h7;omega
theorem jfa:∀ (l:List UInt8) (i u:Nat),(yT i u l).1=0->(yT i u l).2.2<=i+l.length
 | [],i,u=>by intro h;unfold yT at h;exact absurd h (by decide)
 | c::l,i,u=>by
  intro h;unfold yT at h |-
  split at h
  . exact absurd h (by decide)
  .
   rename_i hf
   rw [qh hf]
   split at h
   .
    rename_i h8
    rw [qf h8];simp only [qp];omega
   .
    rename_i h8
    rw [qh h8];have:=jfa l (i+1) _ h;simp only [qp];omega
theorem jew (l:List UInt8)(h:(jX l).1=0):(jX l).2.2<=l.length:=by
 have:=jfa l 0 0 h;unfold jX;omega
theorem jg4 {l:List UInt8}(h:(jX l).1=0):(jX l).2.1<2 ^ 64/\l=yo (jX l).2.1++l.drop (jX l).2.2:=by
 obtain ⟨v,j,hv⟩:∃ v j,jX l=(0,v,j):=⟨(jX l).2.1,(jX l).2.2,by rw [<- h]⟩
 rw [hv];obtain ⟨n,h1,h2,h3,h4,_⟩:=jfh l 0 0 v j (by omega) hv
 simp only [Nat.mul_zero,Nat.pow_zero,Nat.mul_one,qA,Nat.sub_zero] at h1 h3 h4;subst h1;refine ⟨h4,?_⟩;show l=yo v++l.drop j;unfold yo;rw [<- h3,qU]
theorem jjC {l:List UInt8}(h:(jL l).1=0):l=yj (jL l).2.1++l.drop (jL l).2.2:=by
 unfold jL at h |-
 split at h
 .
  rename_i h0
  rw [qf h0]
  split at h
  . simp at h
  .
   rename_i h1
   rw [qh h1]
   split at h
   . simp at h
   .
    rename_i h2
    rw [qh h2];have h3:=(jg4 h0).2;have h4:=jew l h0;unfold yj;simp only;rw [qr,qn,wD (by omega),qB,<- wR,qU]
    exact h3
 . rename_i h0;exact absurd h h0
structure Got (b:List UInt8)(s:TkM)(A:List UInt8):Prop where
 eq:b=A++s.rest
 le:s.k<=s.l.length
theorem jdW (h:s.num.2.er=0):s.er=0:=by
 unfold TkM.num at h
 split at h
 . assumption
 . exact h
theorem jem (h:s.txt.2.er=0):s.er=0:=by
 unfold TkM.txt at h
 split at h
 . assumption
 . exact h
theorem xA (h:s.int.2.er=0):s.er=0:=jdW h
theorem jdo (s:TkM):s.num.2.big=s.big:=by
 unfold TkM.num
 split
 . split <;> rfl
 . rfl
theorem jdl (s:TkM):s.txt.2.big=s.big:=by
 unfold TkM.txt
 split
 . split <;> rfl
 . rfl
theorem yK (h:s.int.2.big=false):s.big=false/\s.num.1<=9223372036854775807:=by
 have h1:(s.num.2.big || !(decide (s.num.1<=9223372036854775807)))=false:=h
 rw [Bool.or_eq_false_iff] at h1;rw [jdo] at h1;exact ⟨h1.1,by simpa using h1.2⟩
theorem Got.num (h:Got b s A)(he:s.num.2.er=0):Got b s.num.2 (A++yo s.num.1)/\s.num.1<2 ^ 64:=by
 have h0:=jdW he;have hn:(jX s.rest).1=0:=by
  unfold TkM.num at he;rw [qf h0] at he
  split at he
  . assumption
  . exact he
 have h1:s.num=((jX s.rest).2.1,⟨s.l,s.k+(jX s.rest).2.2,0,s.big⟩):=by
  unfold TkM.num;rw [qf h0,qf hn]
 obtain ⟨h2,h3⟩:=jg4 hn;have h4:=jew _ hn;rw [h1];refine ⟨⟨?_,?_⟩,h2⟩
 .
  show b=(A++yo (jX s.rest).2.1)++s.l.drop (s.k+(jX s.rest).2.2);have e:s.l.drop (s.k+(jX s.rest).2.2)=s.rest.drop (jX s.rest).2.2:=by unfold TkM.rest;rw [wR]
  rw [e,qB,<- h3];exact h.eq
 .
  show s.k+(jX s.rest).2.2<=s.l.length;have:s.rest.length=s.l.length-s.k:=by unfold TkM.rest;rw [qn]
  have:=h.le;omega
theorem jiE (l:List UInt8)(h:(jL l).1=0):(jL l).2.2<=l.length:=by
 unfold jL at h |-
 split at h
 .
  rename_i h0
  rw [qf h0]
  split at h
  . simp at h
  .
   rename_i h1
   rw [qh h1]
   split at h
   . simp at h
   .
    rename_i h2
    rw [qh h2];have:=jew l h0;show (jX l).2.2+(jX l).2.1<=l.length;omega
 . rename_i h0;exact absurd h h0
theorem Got.txt (h:Got b s A)(he:s.txt.2.er=0):Got b s.txt.2 (A++yj s.txt.1):=by
 have h0:=jem he;have hn:(jL s.rest).1=0:=by
  unfold TkM.txt at he;rw [qf h0] at he
  split at he
  . assumption
  . exact he
 have h1:s.txt=((jL s.rest).2.1,⟨s.l,s.k+(jL s.rest).2.2,0,s.big⟩):=by
  unfold TkM.txt;rw [qf h0,qf hn]
 have h3:=jjC hn;have h4:=jiE _ hn;rw [h1];refine ⟨?_,?_⟩
 .
  show b=(A++yj (jL s.rest).2.1)++s.l.drop (s.k+(jL s.rest).2.2);have e:s.l.drop (s.k+(jL s.rest).2.2)=s.rest.drop (jL s.rest).2.2:=by unfold TkM.rest;rw [wR]
  rw [e,qB,<- h3];exact h.eq
 .
  show s.k+(jL s.rest).2.2<=s.l.length;have:s.rest.length=s.l.length-s.k:=by unfold TkM.rest;rw [qn]
  have:=h.le;omega
theorem Got.int (h:Got b s A)(he:s.int.2.er=0)(hb:s.int.2.big=false):Got b s.int.2 (A++ji s.int.1):=by
 obtain ⟨h1,_⟩:=h.num he;obtain ⟨_,h2⟩:=yK hb;have e:s.int.1=(s.num.1:Int):=by show yC s.num.1=_;unfold yC;rw [qf h2]
 rw [e];exact ⟨h1.eq,h1.le⟩
theorem Got.born (h:Got b s A)(he:(jY s).2.er=0)(hb:(jY s).2.big=false):Got b (jY s).2 (yf A (jY s).1)/\(jY s).1.scopes<2 ^ 64:=by
 unfold jY at he hb |-;simp only at he hb |-;have e11:=xA he;have e10:=xA e11;have e9:=xA e10;have e8:=xA e9;have e7:=jdW e8;have e6:=jem e7;have e5:=jem e6;have e4:=xA e5;have e3:=xA e4;have e2:=xA e3;have e1:=xA e2;have b11:=(yK hb).1;have b10:=(yK b11).1;have b9:=(yK b10).1;have b8:=(yK b9).1;have b5:s.int.2.int.2.int.2.int.2.int.2.big=false:=by rw [<- jdl,<- jdl,<- jdo];exact b8
 have b4:=(yK b5).1;have b3:=(yK b4).1;have b2:=(yK b3).1;have b1:=(yK b2).1;have g1:=h.int e1 b1;have g2:=g1.int e2 b2;have g3:=g2.int e3 b3;have g4:=g3.int e4 b4;have g5:=g4.int e5 b5;have g6:=g5.txt e6;have g7:=g6.txt e7;have g8:=(g7.num e8).1;have g9:=g8.int e9 b9;have g10:=g9.int e10 b10;have g11:=g10.int e11 b11;have g12:=g11.int he hb;exact ⟨g12,(g7.num e8).2⟩
theorem jdx {f:EvtM}(h:vI s e=(0,f)):s.er=0/\¬ s.k<s.l.length/\s.big=false/\jM e=true/\e=f:=by
 unfold vI at h
 split at h
 .
  rename_i h0
  split at h
  . simp at h
  .
   rename_i h1
   split at h
   . simp at h
   .
    rename_i h2
    split at h
    .
     rename_i h3
     simp only [Prod.mk.injEq,true_and] at h;exact ⟨h0,h1,by simpa using h2,h3,h⟩
    . simp at h
 .
  rename_i h0
  simp only [Prod.mk.injEq] at h;exact absurd h.1 h0
theorem Got.all (h:Got b s A)(hk:¬ s.k<s.l.length):b=A:=by
 have:=h.eq;rw [show s.rest = [] from by unfold TkM.rest;exact qZ (by omega),qF] at this
 exact this
theorem jjW (q:SesM):evB ⟨0,q,0,0⟩=yf (yo 0) q:=rfl
theorem jih (n:Int):evB ⟨1,ju,n,0⟩=yo 1++ji n:=rfl
theorem jkY (n:Int):evB ⟨2,ju,0,n⟩=yo 2++ji n:=rfl
theorem jkM (h:vT b=(0,e)):jM e=true/\e.s.scopes<2 ^ 64/\evB e=b:=by
 have h0:Got b ⟨b,0,0,false⟩ []:=⟨rfl,qJ _⟩;have g1:=fun he=>(h0.num he).1
 unfold vT at h;simp only at h;generalize TkM.num ⟨b,0,0,false⟩=p at h g1;clear h0
 split at h
 .
  rename_i he
  have g1:=g1 he;rw [wt] at g1
  split at h
  . simp at h
  split at h
  .
   rename_i _ hk
   obtain ⟨h1,h2,h3,h4,h5⟩:=jdx h;obtain ⟨g2,g3⟩:=g1.born h1 h3;rw [hk] at g2;have g4:=g2.all h2;generalize (jY p.2).1=q at h4 h5 g3 g4;subst h5;exact ⟨h4,g3,(jjW q).trans g4.symm⟩
  split at h
  .
   rename_i _ _ hk
   obtain ⟨h1,h2,h3,h4,h5⟩:=jdx h;have g2:=g1.int h1 h3;rw [hk] at g2;have g4:=g2.all h2;generalize p.2.int.1=q at h4 h5 g4;subst h5;exact ⟨h4,show ju.scopes<2 ^ 64 by decide,(jih q).trans g4.symm⟩
  .
   rename_i h5 h6 h7
   obtain ⟨h1,h2,h3,h4,h5⟩:=jdx h;have g2:=g1.int h1 h3;rw [show p.1=2 by omega] at g2
   have g4:=g2.all h2;generalize p.2.int.1=q at h4 h5 g4;subst h5;exact ⟨h4,show ju.scopes<2 ^ 64 by decide,(jkY q).trans g4.symm⟩
 .
  rename_i he
  simp only [Prod.mk.injEq] at h;exact absurd h.1 he
theorem jfI (hm:jM e=true):(evB e).length<=245:=by
 unfold evB;have h1:=fun n=>jy n
 split
 . rw [qd];have:=h1 e.kind;have:=h1 e.birth;omega
 split
 . rw [qd];have:=h1 e.kind;have:=h1 e.ticks;omega
 .
  rename_i k1 k2
  have k0:(e.kind==0)=true:=by
   cases k0:(e.kind==0)
   . rw [jbp k0 (by simpa using k1) (by simpa using k2)] at hm;cases hm
   . rfl
  have hs:=SesN.of (jap hm k0);unfold yf;have h2:=fun n=>xy n
  have h3:=yU hs.user;have h4:=yU hs.label;simp only [qd];have:=h1 e.kind;have:=h1 e.s.slot;have:=h1 e.s.birth;have:=h1 e.s.upS;have:=h1 e.s.upB;have:=h1 e.s.kind;have:=h2 e.s.scopes;have:=h1 e.s.level;have:=h1 e.s.born;have:=h1 e.s.deadline;have:=h1 e.s.depth;omega
def yO (s:TkM):SesM × TkM :=
 let a:=s.rint
 let b:=a.2.rint
 let c:=b.2.rint
 let d:=c.2.rint
 let f:=d.2.rint
 let u:=f.2.txt
 let l:=u.2.txt
 let sc:=l.2.num
 let g:=sc.2.rint
 let h:=g.2.rint
 let i:=h.2.rint
 let j:=i.2.rint
 (⟨a.1,b.1,c.1,d.1,f.1,u.1,l.1,sc.1,g.1,h.1,i.1,j.1⟩,j.2)
structure BorSt (w0 w:World)(t:Nat)(v0 v:Value)(s:TkM)(E:SesM):Prop where
 k:IsRK w t v s
 vo:v.ownBlock=v0.ownBlock
 bx:Box w (w0.heap.size+1) E.cells 45
 bz:Box w w0.heap.size ju.cells 45
 md:Mod (fun i=>i=t) w0 w
 lt:t<w0.heap.size
 vl:∀ b,v0.ownBlock=some b->b<w0.heap.size
theorem BorSt.call {w0 w':World}{t:Nat}{v0 v v':Value}{s':TkM}{E:SesM}(h:BorSt w0 w t v0 v s E)(hk:IsRK w' t v' s')(hv:v'.ownBlock=v.ownBlock)(hm:Mod (fun i=>i=t) w w'):BorSt w0 w' t v0 v' s' E:=by
 have hl:=h.lt;exact ⟨hk,hv.trans h.vo,h.bx.mod hm (fun e=>by omega),h.bz.mod hm (fun e=>by omega),h.md.trans hm,h.lt,h.vl⟩
theorem BorSt.set {w0:World}{t:Nat}{v0 v:Value}{E:SesM}(h:BorSt w0 w t v0 v s E)(j:Nat)(x:Value)(E':SesM)(he:E.cells.setIfInBounds j x=E'.cells):BorSt w0 (w.setCell ⟨w0.heap.size+1,j,none⟩ x) t v0 v s E':=by
 have hl:=h.lt;have a0:=Mod.set (fun i=>i=w0.heap.size+1) w ⟨w0.heap.size+1,j,none⟩ x rfl
 refine ⟨h.k.mod a0 (fun e=>by omega) (fun b hb e=>by have:=h.vl b (by rw [<- h.vo];exact hb);omega),h.vo,?_,h.bz.mod a0 (fun e=>by omega),h.md.then a0 (fun i hi=>.inr (by omega)),h.lt,h.vl⟩
 have:=h.bx.set j x;rw [he] at this;exact this
theorem jaQ (t:Nat)(v:Value)(s:TkM)(w:World)(h:IsRK w t v s)(a5:∀ b,v.ownBlock=some b->b<w.heap.size) :
  Calls prog 146 #[.pointer (some ⟨t,0,none⟩)] w fun e w'=>e=.returned (.agg (yO s).1.cells)/\(∃ v',IsRK w' t v' (yO s).2/\v'.ownBlock=v.ownBlock)/\Mod (fun i=>i=t) w w':=by
 have a0:BorSt w ((w.alloc (.cells #[(0:Int),(0:Int),(0:Int),(0:Int),(0:Int),.string ⟨#[]⟩,.string ⟨#[]⟩,.int .u64 0,(0:Int),(0:Int),(0:Int),(0:Int)] 45)).alloc (.cells #[(0:Int),(0:Int),(0:Int),(0:Int),(0:Int),.string ⟨#[]⟩,.string ⟨#[]⟩,.int .u64 0,(0:Int),(0:Int),(0:Int),(0:Int)] 45)) t v v s ju:=⟨h.below (jl _ _ _),rfl,by have:=Box.new (w.alloc (.cells #[(0:Int),(0:Int),(0:Int),(0:Int),(0:Int),.string ⟨#[]⟩,.string ⟨#[]⟩,.int .u64 0,(0:Int),(0:Int),(0:Int),(0:Int)] 45)) ju.cells 45;rw [qj] at this;exact this,(Box.new w ju.cells 45).below (ja _ _),Mod.of_below (jl _ _ _),h.box.lt,a5⟩
 obtain ⟨B,hB⟩:=Nm (yO s);rw [<- hB];unfold yO at hB;simp only at hB;have D:=Hd a0;have a1:=a0.lt;clear a0 h a5 a1;go_enter func146,ntmps146;go_wp2_with fail;refine (jU t _ s _ D.1.k).mono ?_;rintro e w1 ⟨rfl,⟨v1,hk,hv⟩,hm⟩;have hc:=D.1.call hk hv hm;clear hk hv hm D;generalize s.rint=p at hc hB |-;obtain ⟨n0,s1⟩:=p;simp only at hc hB |-;have x0:=hc.bx.cell 0 _ rfl;have y0:=hc.bx.free 0;have E:=Hd (hc.set 0 n0 ⟨n0,0,0,0,0,[],[],0,0,0,0,0⟩ rfl);clear hc;go_wp2_with fail;refine (jU t _ s1 _ E.1.k).mono ?_;rintro e w2 ⟨rfl,⟨v2,hk,hv⟩,hm⟩;have hc:=E.1.call hk hv hm;clear hk hv hm E;clear x0 y0;generalize s1.rint=p at hc hB |-;obtain ⟨n1,s2⟩:=p;simp only at hc hB |-;have x1:=hc.bx.cell 1 _ rfl;have y1:=hc.bx.free 1;have F:=Hd (hc.set 1 n1 ⟨n0,n1,0,0,0,[],[],0,0,0,0,0⟩ rfl);clear hc;go_wp2_with fail;refine (jU t _ s2 _ F.1.k).mono ?_;rintro e w3 ⟨rfl,⟨v3,hk,hv⟩,hm⟩;have hc:=F.1.call hk hv hm;clear hk hv hm F;clear x1 y1;generalize s2.rint=p at hc hB |-;obtain ⟨n2,s3⟩:=p;simp only at hc hB |-;have x2:=hc.bx.cell 2 _ rfl;have y2:=hc.bx.free 2;have G:=Hd (hc.set 2 n2 ⟨n0,n1,n2,0,0,[],[],0,0,0,0,0⟩ rfl);clear hc;go_wp2_with fail;refine (jU t _ s3 _ G.1.k).mono ?_;rintro e w4 ⟨rfl,⟨v4,hk,hv⟩,hm⟩;have hc:=G.1.call hk hv hm;clear hk hv hm G;clear x2 y2;generalize s3.rint=p at hc hB |-;obtain ⟨n3,s4⟩:=p;simp only at hc hB |-;have x3:=hc.bx.cell 3 _ rfl;have y3:=hc.bx.free 3;have I:=Hd (hc.set 3 n3 ⟨n0,n1,n2,n3,0,[],[],0,0,0,0,0⟩ rfl);clear hc;go_wp2_with fail;refine (jU t _ s4 _ I.1.k).mono ?_;rintro e w5 ⟨rfl,⟨v5,hk,hv⟩,hm⟩;have hc:=I.1.call hk hv hm;clear hk hv hm I;clear x3 y3;generalize s4.rint=p at hc hB |-;obtain ⟨n4,s5⟩:=p;simp only at hc hB |-;have x4:=hc.bx.cell 4 _ rfl;have y4:=hc.bx.free 4;have J:=Hd (hc.set 4 n4 ⟨n0,n1,n2,n3,n4,[],[],0,0,0,0,0⟩ rfl);clear hc;go_wp2_with fail;refine (uO t _ s5 _ J.1.k).mono ?_;rintro e w6 ⟨rfl,⟨v6,hk,hv⟩,hm⟩;have hc:=J.1.call hk hv hm;clear hk hv hm J;clear x4 y4;generalize s5.txt=p at hc hB |-;obtain ⟨n5,s6⟩:=p;simp only at hc hB |-;have x5:=hc.bx.cell 5 _ rfl;have y5:=hc.bx.free 5;have K:=Hd (hc.set 5 (.string (SB n5)) ⟨n0,n1,n2,n3,n4,n5,[],0,0,0,0,0⟩ rfl);clear hc;go_wp2_with fail;refine (uO t _ s6 _ K.1.k).mono ?_;rintro e w7 ⟨rfl,⟨v7,hk,hv⟩,hm⟩;have hc:=K.1.call hk hv hm;clear hk hv hm K;clear x5 y5;generalize s6.txt=p at hc hB |-;obtain ⟨n6,s7⟩:=p;simp only at hc hB |-;have x6:=hc.bx.cell 6 _ rfl;have y6:=hc.bx.free 6;have L:=Hd (hc.set 6 (.string (SB n6)) ⟨n0,n1,n2,n3,n4,n5,n6,0,0,0,0,0⟩ rfl);clear hc;go_wp2_with fail;refine (xB t _ s7 _ L.1.k).mono ?_;rintro e w8 ⟨rfl,⟨v8,hk,hv⟩,hm⟩;have hc:=L.1.call hk hv hm;clear hk hv hm L;clear x6 y6;generalize s7.num=p at hc hB |-;obtain ⟨n7,s8⟩:=p;simp only at hc hB |-;have x7:=hc.bx.cell 7 _ rfl;have y7:=hc.bx.free 7;have M:=Hd (hc.set 7 (.int .u64 (n7:Int)) ⟨n0,n1,n2,n3,n4,n5,n6,n7,0,0,0,0⟩ rfl);clear hc;go_wp2_with fail;refine (jU t _ s8 _ M.1.k).mono ?_;rintro e w9 ⟨rfl,⟨v9,hk,hv⟩,hm⟩;have hc:=M.1.call hk hv hm;clear hk hv hm M;clear x7 y7;generalize s8.rint=p at hc hB |-;obtain ⟨n8,s9⟩:=p;simp only at hc hB |-;have x8:=hc.bx.cell 8 _ rfl;have y8:=hc.bx.free 8;have N:=Hd (hc.set 8 n8 ⟨n0,n1,n2,n3,n4,n5,n6,n7,n8,0,0,0⟩ rfl);clear hc;go_wp2_with fail;refine (jU t _ s9 _ N.1.k).mono ?_;rintro e w10 ⟨rfl,⟨v10,hk,hv⟩,hm⟩;have hc:=N.1.call hk hv hm;clear hk hv hm N;clear x8 y8;generalize s9.rint=p at hc hB |-;obtain ⟨n9,s10⟩:=p;simp only at hc hB |-;have x9:=hc.bx.cell 9 _ rfl;have y9:=hc.bx.free 9;have A:=Hd (hc.set 9 n9 ⟨n0,n1,n2,n3,n4,n5,n6,n7,n8,n9,0,0⟩ rfl);clear hc
 go_wp2_with fail;refine (jU t _ s10 _ A.1.k).mono ?_;rintro e w11 ⟨rfl,⟨v11,hk,hv⟩,hm⟩;have hc:=A.1.call hk hv hm;clear hk hv hm A;clear x9 y9;generalize s10.rint=p at hc hB |-;obtain ⟨n10,s11⟩:=p;simp only at hc hB |-;have x10:=hc.bx.cell 10 _ rfl;have y10:=hc.bx.free 10;have C:=Hd (hc.set 10 n10 ⟨n0,n1,n2,n3,n4,n5,n6,n7,n8,n9,n10,0⟩ rfl);clear hc;go_wp2_with fail;refine (jU t _ s11 _ C.1.k).mono ?_;rintro e w12 ⟨rfl,⟨v12,hk,hv⟩,hm⟩;have hc:=C.1.call hk hv hm;clear hk hv hm C;clear x10 y10;generalize s11.rint=p at hc hB |-;obtain ⟨n11,s12⟩:=p;simp only at hc hB |-;have x11:=hc.bx.cell 11 _ rfl;have y11:=hc.bx.free 11;have H:=Hd (hc.set 11 n11 ⟨n0,n1,n2,n3,n4,n5,n6,n7,n8,n9,n10,n11⟩ rfl);clear hc;have S:=Hd (H.1.bx.range 0 [n0,n1,n2,n3,n4,.string (SB n5),.string (SB n6),.int .u64 (n7:Int),n8,n9,n10,n11] (fun j v hv=>by rw [qA,<- Array.getElem?_toList];exact hv))
 have O:=Hd (H.1.bz.there 0 12 (by show 0+12<=12;decide))
 have P:=Hd hB;clear hB
 go_wp2_with (with_reducible refine Lk S.1 underlying45 ?_)
 intro cv a6;clear x11 y11
 go_wp2_with (with_reducible refine Sk [n0,n1,n2,n3,n4,.string (SB n5),.string (SB n6),.int .u64 (n7:Int),n8,n9,n10,n11] a6 O.1 (SesM.one ⟨n0,n1,n2,n3,n4,n5,n6,n7,n8,n9,n10,n11⟩) ?_)
 intro wz a2;have a3:=H.1.bz.setAll [n0,n1,n2,n3,n4,.string (SB n5),.string (SB n6),.int .u64 (n7:Int),n8,n9,n10,n11] rfl;have a1:=H.1.lt;rw [<- a2.out] at a3;have a4:Mod (fun i=>i=w.heap.size) (w12.setCell ⟨w.heap.size+1,11,none⟩ n11) wz:=by rw [a2.out];exact Mod.setCells (fun i=>i=w.heap.size) w.heap.size rfl [n0,n1,n2,n3,n4,.string (SB n5),.string (SB n6),.int .u64 (n7:Int),n8,n9,n10,n11] 0 _
 have T:=Hd a3;have U:=Hd (H.1.k.mod a4 (fun e=>by omega) (fun b hb e=>by have:=H.1.vl b (by rw [<- H.1.vo];exact hb);omega))
 have Q:=Hd (H.1.md.then a4 (fun i hi=>.inr (by omega)))
 have R:=Hd H.1.vo;clear a3 a4 a2 a6 a1;go_wp2_with fail;refine Jc (T.1.range 0 _ (fun j v hv=>by rw [qA,<- Array.getElem?_toList];exact hv)) underlying45 ?_ (cs := [.int .i64 n0,.int .i64 n1,.int .i64 n2,.int .i64 n3,.int .i64 n4,.string (SB n5),.string (SB n6),.int .u64 (n7:Int),.int .i64 n8,.int .i64 n9,.int .i64 n10,.int .i64 n11])
 rw [P.1];exact ⟨rfl,⟨_,U.1,R.1⟩,Q.1⟩
def jdA:Option Int->Int × Int
 | none=>(0,0)
 | some n=>(24,n)
def PreOk (c b:Int)(l:List SesM)(k:Nat):Prop:=∀ i (_:i<k) (hl:i<l.length),MayI c b l[i] (l.take i)
theorem PreOk.may {c b:Int}{l:List SesM}{k:Nat}(h:PreOk c b l k)(hk:k<=l.length):∀ p∈l.take k,jG p=true:=by
 intro p hp;obtain ⟨i,hi,rfl⟩:=wP hp;rw [qr] at hi;rw [p8];exact (h i (by omega) (by omega)).may
theorem PreOk.asc {c b:Int}{l:List SesM}{k:Nat}(h:PreOk c b l k)(hk:k<=l.length):(l.take k).Pairwise (fun p q=>p.birth<q.birth):=by
 have ha:=jmG (c:=c) (b:=b) (l:=l.take k) (fun i hi=>by
  have a0:i<k/\i<l.length:=by rw [qr] at hi;omega
  have g:=h i a0.1 a0.2;simp only [p8,List.take_take];rw [wD (by omega)]
  exact g)
 rw [pT];intro i j hi hj a1;exact ha j hj i a1
theorem uW (st:StM)(v:Value)(w:World)(hr:RdS w v st.l)(ho:∀ s∈st.l,SesOk s) :
  Calls prog 147 #[.agg #[st.clock,st.births,v]] w fun ev w'=>ev=.returned (.tuple #[.int .i64 (jdA (yr st)).1,.int .i64 (jdA (yr st)).2])/\Below w.heap.size w w':=by
 obtain ⟨a,cap,rfl,a2,a4⟩:=hr.slice;obtain ⟨R,hR⟩:=Nm (yr st);rw [<- hR];have O:=Hd hr;have P:=Hd ho;have D:=Hd (Box.new w #[st.clock,st.births,.slice a st.l.length cap] 30);have A:=Hd (ja w (.cells #[st.clock,st.births,.slice a st.l.length cap] 30));have a5:zA st=decide (0<=st.clock/\st.clock<=1099511627776/\0<=st.births/\st.births<=1048576/\st.l.length<=32):=by
  unfold zA jT;rw [Bool.eq_iff_iff];simp [and_assoc]
 unfold yr at hR;rw [a5] at hR;have H:=Hd hR;clear a5 hR hr ho;obtain ⟨c,b,l⟩:=st;simp only at O P D A H a2 a4 |-;obtain ⟨n,hn⟩:=Nm (l.length);rw [<- hn] at D A H a2 |-;have I:=Hd hn;have V:=Hd a2;have a7:n<=9223372036854775807:=by omega
 clear hn a2 a4;go_enter func147,ntmps147;by_cases g1:c<0
 .
  have B:=Hd (show R=some (-1) by rw [H.1,qv (by omega)];rfl)
  go_wp2;refine qP (wj rfl _ _ _) rfl ?_;rw [B.1];exact ⟨rfl,A.1⟩
 by_cases g2:1099511627776<c
 .
  have B:=Hd (show R=some (-1) by rw [H.1,qv (by omega)];rfl)
  go_wp2;refine qP (wj rfl _ _ _) rfl ?_;rw [B.1];exact ⟨rfl,A.1⟩
 by_cases g3:b<0
 .
  have B:=Hd (show R=some (-1) by rw [H.1,qv (by omega)];rfl)
  go_wp2;refine qP (wj rfl _ _ _) rfl ?_;rw [B.1];exact ⟨rfl,A.1⟩
 by_cases g4:1048576<b
 .
  have B:=Hd (show R=some (-1) by rw [H.1,qv (by omega)];rfl)
  go_wp2;refine qP (wj rfl _ _ _) rfl ?_;rw [B.1];exact ⟨rfl,A.1⟩
 by_cases g5:(32:Int)<(n:Int)
 .
  have B:=Hd (show R=some (-1) by rw [H.1,qv (by omega)];rfl)
  go_wp2;refine qP (wj rfl _ _ _) rfl ?_;rw [B.1];exact ⟨rfl,A.1⟩
 have B:=Hd (show xJ c b [] 0 l=R by rw [H.1,qz (by omega),qf rfl])
 clear H;go_wp2_with fail;clear g1 g2 g3 g4 g5;generalize hw1:World.alloc w _=w1 at D A |-;clear hw1
 go_loopg [4] n (fun gk iv wr=>∃ (k:Nat),gk+k=n/\iv=.int .i64 (k:Int)/\xJ c b (l.take k) (k:Int) (l.drop k)=R/\PreOk c b l k/\Below w1.heap.size w1 wr)
 case atStart=>exact ⟨0,rfl,rfl,B.1,fun i hi _=>by omega,qG _ _⟩
 case round =>
  obtain ⟨k,a6,rfl,hC,hP,hb⟩:=hrel;have C:=Hd hb;have M:=Hd hC;have N:=Hd hP;have K:=Hd a6;have a3:=D.1.below hb;obtain ⟨x0,x1,x2⟩:=C3 a3;have k0:(0:Int)<=(k:Int):=by omega
  clear hb hC hP a6 a3;by_cases hk:k<n;rotate_left
  .
   have k1:¬ (k:Int)<(n:Int):=by omega
   have Q:=Hd (show R=none by
    have e:=M.1;rw [qZ (by have:=I.1;omega)] at e
    exact e.symm)
   have F:=Hd (A.1.trans (C.1.mono A.1.size));clear hk;go_wp2;refine qP (wj rfl _ _ _) rfl ?_;rw [Q.1];exact ⟨rfl,F.1⟩
  have k1:(k:Int)<(n:Int):=by omega
  have a0:k<l.length:=by have:=I.1;omega
  have L:=Hd ((O.1.below A.1).below C.1);have G:=Hd (fun hr=>jgc c b n cap k a l wr I.1 hr a0 (P.1 _ (qy a0)) (N.1.may (by omega)) (N.1.asc (by omega)))
  obtain ⟨s,hs⟩:=Nm (l[k]);rw [<- hs] at G;have J:=Hd (show (if zM c b s (l.take k)=true then xJ c b (l.take (k+1)) ((k:Int)+1) (l.drop (k+1)) else some (k:Int))=R by
   rw [<- M.1,qL a0,<- hs]
   conv=>rhs;unfold xJ
   rw [qk a0,<- hs])
  have W:=Hd (show zM c b s (l.take k)=true->PreOk c b l (k+1) from fun hm i hi hl=>by
   rcases qX i k with h | h
   . exact N.1 i h hl
   .
    obtain rfl:i=k:=by omega
    rw [<- hs];exact jbw.1 hm)
  have S:=Hd hk;have E:=Hd (G.1 (by rw [I.1];exact L.1))
  clear hk a0 hs M L G
  cases hm:zM c b s (l.take k)
  .
   rw [hm,qh (by decide)] at J
   rw [hm] at E;clear hm;go_wp2_with fail;refine E.1.mono ?_;rintro ev w4 ⟨rfl,a1⟩;have F:=Hd (A.1.trans ((C.1.trans (a1.mono C.1.size)).mono A.1.size));clear a1;go_wp2;refine qP (wj rfl _ _ _) rfl ?_;rw [<- J.1];exact ⟨rfl,F.1⟩
  .
   rw [hm,qf rfl] at J;have T:=Hd (W.1 hm);rw [hm] at E;clear hm;go_wp2_with fail;refine E.1.mono ?_;rintro ev w4 ⟨rfl,a1⟩;have U:=Hd (C.1.trans (a1.mono C.1.size));clear a1;go_wp2
   go_roundg (n-(k+1))
   case measure=>have:=K.1;have:=S.1;omega
   case rel=>exact ⟨k+1,by have:=K.1;have:=S.1;omega,by go_num,J.1,T.1,U.1⟩
theorem jiD (t:Addr)(w:World):(ReflectliteValue.unpack (.iface 102 (.pointer (some t)))).run prog w
  = .ok (.agg #[.pointer (some ⟨2,102,none⟩),.pointer (some ⟨w.heap.size,0,none⟩),.int .u64 150]) (w.alloc (.cells #[.pointer (some t)] 102)):=by kernel_rfl
theorem jlW (a : Addr)(w : World) : (ReflectliteValue.methodAny (ReflectliteValue.valueError "reflectlite.Value.Type" 0) (fun t _ _ _ => ReflectliteType.toType t) #[.agg #[.pointer (some ⟨2, 102, none⟩), .pointer (some a), .int .u64 150]]).run prog w
  = .ok (.iface 193 (.agg #[.pointer (some ⟨2,102,none⟩)])) w:=by kernel_rfl
theorem jeZ (h : Value)(w : World) : (Go.method 450 193 (.agg #[h]) "Kind").run prog w = .ok (206, h) w := by kernel_rfl
theorem jl7 (w:World):((ReflectliteType.abiMethod fun t=>(fun a:Nat=>Value.int IntKind.u8 (a:Int)) <$> Rtype.kind t) #[.pointer (some ⟨2,102,none⟩)]).run prog w=.ok (.int .u8 22) w:=by kernel_rfl
theorem jme (w:World):((ReflectliteType.abiMethod fun t=>(fun a:Nat=>Value.int IntKind.u8 (a:Int)) <$> Rtype.kind t) #[.pointer (some ⟨2,99,none⟩)]).run prog w=.ok (.int .u8 25) w:=by kernel_rfl
theorem rlm (z:Sem Value)(f:TypeId->Addr->Nat->Nat->Sem Value)(v:Value) :
  ReflectliteValue.method z f #[v]=(do match <- ReflectliteValue.parts v with | none=>z | some (t,a,fl)=>f t a fl (fl % 32)):=rfl
theorem jk4 (a:Addr)(w:World):(ReflectliteValue.parts (.agg #[.pointer (some ⟨2,102,none⟩),.pointer (some a),.int .u64 150])).run prog w=.ok (some (102,a,150)) w:=by kernel_rfl
theorem jlm (a p:Addr)(W:World)(ha:W.cell? a=some (.pointer (some p))) :
  (ReflectliteValue.method (ReflectliteValue.valueError "reflectlite.Value.IsNil" 0) ReflectliteValue.isNil #[.agg #[.pointer (some ⟨2, 102, none⟩), .pointer (some a), .int .u64 150]]).run prog W = .ok (.bool false) W := by
 rw [rlm];simp only [wu,jk4,Result.andThen]
 simp [ReflectliteValue.isNil,loadVar,isAgg,underlying,underlying102,ha,Result.andThen]
theorem jeT (h : Value)(w : World) : (Go.method 450 193 (.agg #[h]) "Elem").run prog w = .ok (232, .agg #[h]) w := by kernel_rfl
theorem jaK (h : Value)(w : World) : (Go.method 450 193 (.agg #[h]) "Implements").run prog w = .ok (233, .agg #[h]) w := by kernel_rfl
theorem uT (h : Value)(w : World) : (Go.method 450 193 (.agg #[h]) "AssignableTo").run prog w = .ok (230, .agg #[h]) w := by kernel_rfl
theorem jmh (w:World):(ReflectliteType.method ReflectliteType.elem #[.agg #[.pointer (some ⟨2,102,none⟩)]]).run prog w=.ok (.iface 193 (.agg #[.pointer (some ⟨2,99,none⟩)])) w:=by kernel_rfl
theorem jeV (w : World) : (ReflectliteType.relation "Implements" ReflectliteType.implements_ #[.agg #[.pointer (some ⟨2, 99, none⟩)], .iface 193 (.agg #[.pointer (some ⟨2, 49, none⟩)])]).run prog w = .ok (.bool true) w := by kernel_rfl
theorem jjz (v:Value)(w:World):(ReflectliteType.typeOf #[.iface 91 v]).run prog w=.ok (.iface 193 (.agg #[.pointer (some ⟨2,91,none⟩)])) w:=by kernel_rfl
theorem jeY (w : World) : (ReflectliteType.relation "AssignableTo" ReflectliteType.assignableTo #[.agg #[.pointer (some ⟨2, 91, none⟩)], .iface 193 (.agg #[.pointer (some ⟨2, 99, none⟩)])]).run prog w = .ok (.bool false) w := by kernel_rfl
theorem jlN (v:Value)(xT:TypeId)(w:World):(Instr.typeAssert (.iface 91 v) xT 211 true).run prog w=.ok (.tuple #[.nilIface,.bool false]) w:=kf underlying211 (by kernel_rfl) (by kernel_rfl) v xT w
def ErrType (w:World):Prop:=w.cell? ⟨0,0,none⟩=some (.iface 193 (.agg #[.pointer (some ⟨2,49,none⟩)]))
theorem ErrType.lt (h:ErrType w):0<w.heap.size:=by
 rcases ky w.heap.size with h0 | h1
 . unfold ErrType at h;simp [World.cell?,h0] at h
 . exact h1
theorem ErrType.below {w':World}(h:ErrType w)(hb:Below w.heap.size w w'):ErrType w':=jc hb h
theorem jlM (n:Int)(t:Addr)(w:World)(hg:ErrType w) :
  Calls prog 43 #[zL n,.iface 102 (.pointer (some t))] w fun ev w'=>ev=.returned (.bool false)/\Below w.heap.size w w':=by
 have h6:=@run_callFunc_extern prog 78 _ (fun args=>ReflectliteValue.unpack (args.getD 0 (.tuple #[]))) func78 (by kernel_rfl) (by kernel_rfl) (by kernel_rfl) (by kernel_rfl)
 have h7 := @run_callFunc_extern prog 79 _ (ReflectliteValue.methodAny (ReflectliteValue.valueError "reflectlite.Value.Type" 0) (fun t _ _ _ => ReflectliteType.toType t)) func79 (by kernel_rfl) (by kernel_rfl) (by kernel_rfl) (by kernel_rfl)
 have h8 := @run_callFunc_extern prog 80 _ (ReflectliteValue.method (ReflectliteValue.valueError "reflectlite.Value.IsNil" 0) ReflectliteValue.isNil) func80 (by kernel_rfl) (by kernel_rfl) (by kernel_rfl) (by kernel_rfl)
 have a1:=@run_callFunc_extern prog 206 _ (ReflectliteType.abiMethod fun t=>do pure (.int .u8 (<- Rtype.kind t))) func206 (by kernel_rfl) (by kernel_rfl) (by kernel_rfl) (by kernel_rfl)
 have a2:=@run_callFunc_extern prog 232 _ (ReflectliteType.method ReflectliteType.elem) func232 (by kernel_rfl) (by kernel_rfl) (by kernel_rfl) (by kernel_rfl)
 have a3 := @run_callFunc_extern prog 233 _ (ReflectliteType.relation "Implements" ReflectliteType.implements_) func233 (by kernel_rfl) (by kernel_rfl) (by kernel_rfl) (by kernel_rfl)
 have a4:=@run_callFunc_extern prog 73 _ ReflectliteType.typeOf func73 (by kernel_rfl) (by kernel_rfl) (by kernel_rfl) (by kernel_rfl)
 have a5 := @run_callFunc_extern prog 230 _ (ReflectliteType.relation "AssignableTo" ReflectliteType.assignableTo) func230 (by kernel_rfl) (by kernel_rfl) (by kernel_rfl) (by kernel_rfl)
 have tO:=jjz;have mA:=uT;have a25:=jeY;have f6:=jiD;have f7:=jlW;have mK:=jeZ;have mE:=jeT;have mI:=jaK;have k27:=jl7;have k25:=jme;have e27:=jmh;have i25:=jeV;have nA:=jlN;have nU:=jbN;have nV:=jaO;have n8:=jlm ⟨w.heap.size,0,none⟩ t ((w.alloc (.cells #[.pointer (some t)] 102)).alloc (.cells #[.pointer (some ⟨2,102,none⟩),.pointer (some ⟨w.heap.size,0,none⟩),.int .u64 150] 157)) (by simp)
 have a0:=hg.lt;unfold ErrType at hg;have a6:((w.alloc (.cells #[.pointer (some t)] 102)).alloc (.cells #[.pointer (some ⟨2,102,none⟩),.pointer (some ⟨w.heap.size,0,none⟩),.int .u64 150] 157)).cell? ⟨0,0,none⟩=some (.iface 193 (.agg #[.pointer (some ⟨2,49,none⟩)])):=by
  rw [World.cell?_alloc_lt _ _ ⟨0,0,none⟩ (by simp),World.cell?_alloc_lt _ _ ⟨0,0,none⟩ a0];exact hg
 unfold zL;go_enter func43,ntmps43
 go_wp2
 refine wp_loop_rounds 1 ?_;rw [rounds_succ]
 go_wp2
 go_ret;refine ⟨rfl,?_⟩
 repeat (refine Below.alloc ?_ (by simp <;> omega) _)
 exact qG _ _
theorem jcu (w:World):Calls prog 14 #[.nilIface,(0:Int)] w fun e w'=>e=.returned (.bool true)/\Below w.heap.size w w':=by
 have H:=Hd (ja w (.cells #[(0:Int),(0:Int)] 99));go_enter func14,ntmps14;go_wp2_with fail;refine (jlK _).mono ?_;rintro e w' ⟨rfl,rfl⟩;go_wp2;go_ret;exact ⟨rfl,H.1⟩
theorem jh1 (n:Nat)(w:World)(h1:1<=n)(h2:n<=24)(hg:ErrType w):Calls prog 14 #[zL n,(n:Int)] w fun e w'=>e=.returned (.bool true)/\Below w.heap.size w w':=by
 have hb:=ja w (.cells #[(0:Int),(0:Int)] 99);have C:=Hd hb;have H:=Hd (jlM (n:Int) ⟨w.heap.size,0,none⟩ _ (hg.below hb));have A:=Hd (fun w=>jjF n w h1 h2)
 clear hb hg;unfold zL at H A |-;go_enter func14,ntmps14;go_wp2_with fail;refine (A.1 _).mono ?_;rintro e w' ⟨rfl,rfl⟩;go_wp2_with fail;refine H.1.mono ?_;rintro e w' ⟨rfl,a0⟩;have B:=Hd (jd C.1 a0);clear a0;go_wp2;go_ret;exact ⟨rfl,B.1⟩
end Go.Proofs.YtgcnolapjppbpaaGreatDoor
