/- Texts of one proof. -/
import Derived.Test.YtgcnolapjppbpaaGreatDoorK30
import Derived.Test.YtgcnolapjppbpaaGreatDoorK26
namespace Go.Proofs.YtgcnolapjppbpaaGreatDoor
open Go.RowKit _root_.Go.Proofs.Tryz
set_option maxRecDepth 100000
set_option maxHeartbeats 25600000
variable {s:TkM}
theorem jev (v:Value)(e:UInt32)(p:List UInt8)(w:World)(hv:Rd w v p.length (p.map V8)) :
  Calls prog 117 #[.int .u32 (e.toNat:Int),v] w fun r w'=>(512<p.length/\r=.returned (.tuple #[.slice none 0 0,(3:Int)])/\w'=w) \/
   (p.length<=512/\∃ lv,r=.returned (.tuple #[lv,(0:Int)])/\w'.ownsRow w.heap.size 9 1 lv (jf e p).length ((jf e p).map SV)/\Below w.heap.size w w'):=by
 obtain ⟨va,vc,rfl⟩:∃ a c,v=.slice a p.length c:=by obtain ⟨a,c,h,_⟩:=hv;exact ⟨a,c,h⟩
 by_cases a0:512<p.length
 .
  have h:(512:Int)<(p.length:Int):=by omega
  go_enter func117,ntmps117;go_wp2
  go_ret2
  exact .inl ⟨a0,rfl,rfl⟩
 .
  have h:decide ((512:Int)<(p.length:Int))=false:=by simp;omega
  have H:=Hd (uI (.slice va p.length vc) e p w hv (by omega))
  clear hv;go_enter func117,ntmps117;go_wp2_with fail;refine H.1.mono ?_;rintro r w1 ⟨lv,rfl,ho,hb⟩;have A:=Hd (And.intro ho hb);clear ho hb;go_wp2
  go_ret2
  exact .inr ⟨by omega,lv,rfl,A.1⟩
def xm (w:World)(l:LogM)(pm rp:Nat):Prop :=
 Box w pm #[.pointer (some ⟨rp,0,none⟩),(l.base:Int),(l.n:Int),.int .u32 (l.epoch.toNat:Int),(l.used:Int),(l.records:Int),.bool l.dead] 117
theorem jfC (x:Int)(h1 : -9223372036854775808<=x)(h2:x<=9223372036854775807):IntKind.i64.wrap x=x:=by
 simp only [IntKind.wrap,IntKind.signed,IntKind.bits]
 simp
 omega
theorem jcF (d:DiskM)(rp:Nat)(G:Nat->Prop)(base n:Nat)(e:UInt32)(w:World)(h:IsRef w d rp G)(hl:d.strs.length<=4096)(h1:1<=n)(h2:base+n<=d.strs.length) :
  Calls prog 112 #[.pointer (some ⟨rp,0,none⟩),(base:Int),(n:Int),.int .u32 (e.toNat:Int)] w fun r w'=>r=.returned (.tuple #[.pointer (some ⟨w.heap.size,0,none⟩),(0:Int)]) /\
   xm w' ⟨base,n,e,0,0,false⟩ w.heap.size rp/\Below w.heap.size w w':=by
 obtain ⟨tv,b,_⟩:=h;have c0:=b.cell 0 _ rfl;have a0:¬ (n:Int)<1:=by omega
 have a1:¬ (base:Int)<0:=by omega
 have a2:¬ (d.strs.length:Int)<(base:Int):=by omega
 have a3:¬ ((d.strs.length:Int)-(base:Int))<(n:Int):=by omega
 clear b;go_enter func112,ntmps112;go_wp2
 go_ret2
 exact ⟨rfl,Box.new _ _ _,ja _ _⟩
theorem jlC (h:s.er≠0):s.int.2=s:=by
 show (⟨s.num.2.l,s.num.2.k,s.num.2.er,s.num.2.big || !(decide (s.num.1<=9223372036854775807))⟩:TkM)=s
 rw [ji6 h]
 cases s;simp
theorem jlG (h:s.er≠0):s.txt.2=s:=by unfold TkM.txt;rw [qh h]
theorem jmi (h:s.er≠0):s.num.2=s:=by rw [ji6 h]
theorem jkC (h:s.er≠0):(jY s).2=s:=by
 show (((((((((((s).int.2).int.2).int.2).int.2).int.2).txt.2).txt.2).num.2).int.2).int.2).int.2.int.2=s;simp only [jlC h,jlG h,jmi h]
theorem jlb (s:TkM):(yO s).2=(jY s).2:=rfl
theorem jd6 (h:s.er≠0):∀ n,(sesTs n s).2=s
 | 0=>rfl
 | n+1=>by show (sesTs n (jY s).2).2=s;rw [jkC h];exact jd6 h n
theorem jkE:∀ (n:Nat) (s:TkM),(xg n s).2=(sesTs n s).2
 | 0,_=>rfl
 | n+1,s=>by
  by_cases h:s.er=0
  .
   rw [xg,qf h];show (xg n (yO s).2).2=(sesTs n (jY s).2).2;rw [jlb,jkE n]
  . rw [jbD h,jd6 h]
theorem jk7 (h:(jY s).2.big=false):s.big=false:=by
 have a0:=xf (s:=(((((((((((s).int.2).int.2).int.2).int.2).int.2).txt.2).txt.2).num.2).int.2).int.2).int.2) h;have a1:=xf (s:=((((((((((s).int.2).int.2).int.2).int.2).int.2).txt.2).txt.2).num.2).int.2).int.2) a0.1;have h9:=xf (s:=(((((((((s).int.2).int.2).int.2).int.2).int.2).txt.2).txt.2).num.2).int.2) a1.1;have h8:=xf (s:=((((((((s).int.2).int.2).int.2).int.2).int.2).txt.2).txt.2).num.2) h9.1;have h7:((((((((s).int.2).int.2).int.2).int.2).int.2).txt.2).txt.2).big=false:=by rw [<- jbC];exact h8.1
 have h6:(((((((s).int.2).int.2).int.2).int.2).int.2).txt.2).big=false:=by rw [<- jbE];exact h7
 have h5:((((((s).int.2).int.2).int.2).int.2).int.2).big=false:=by rw [<- jbE];exact h6
 have h4:=xf (s:=((((s).int.2).int.2).int.2).int.2) h5;have h3:=xf (s:=(((s).int.2).int.2).int.2) h4.1;have h2:=xf (s:=((s).int.2).int.2) h3.1;have h1:=xf (s:=(s).int.2) h2.1;exact (xf (s:=s) h1.1).1
theorem jf5:∀ (n:Nat) {s:TkM},(sesTs n s).2.big=false->s.big=false
 | 0,_,h=>h
 | n+1,_,h=>jk7 (jf5 n h)
theorem jkX:∀ (n:Nat) (s:TkM),(sesTs n s).2.er=0->(sesTs n s).2.big=false->(xg n s).1=(sesTs n s).1
 | 0,_,_,_=>rfl
 | n+1,s,he,hb=>by
  by_cases h:s.er=0
  .
   rw [xg,qf h];have h1:=jjg s (jf5 n hb);show (yO s).1::(xg n (yO s).2).1=(jY s).1::(sesTs n (jY s).2).1;rw [h1,jkX n _ he hb]
  . rw [jd6 h] at he;exact absurd he h
theorem jmQ {S:TkM}{a b:StM}(h:S.er=0->S.big=false->a=b):je5 S a=jdf S b:=by
 unfold je5 jdf;by_cases he:S.er=0
 .
  rw [qf he,qf he];have hr:(0<S.rest.length)=(S.k<S.l.length):=by
   unfold TkM.rest;rw [qn];simp only [eq_iff_iff];omega
  simp only [hr];by_cases hk:S.k<S.l.length
  . rw [qf hk,qf hk]
  .
   rw [qh hk,qh hk];by_cases hb:S.big=true
   . rw [qf hb,qf hb]
   . rw [qh hb,qh hb,h he (by simpa using hb)]
 . rw [qh he,qh he]
theorem jiG (l:List UInt8):vG l=vy l:=by
 unfold vG vy;simp only;generalize hs:(⟨l,0,0,false⟩:TkM)=s;show (if s.int.2.int.2.num.2.er=0/\32<s.int.2.int.2.num.1 then ((24:Int),jI) else je5 (xg s.int.2.int.2.num.1 s.int.2.int.2.num.2).2 ⟨s.rint.1,s.int.2.rint.1,(xg s.int.2.int.2.num.1 s.int.2.int.2.num.2).1⟩)=_
 by_cases hc:s.int.2.int.2.num.2.er=0/\32<s.int.2.int.2.num.1
 . rw [qf hc,qf hc]
 .
  rw [qh hc,qh hc,jkE];refine jmQ fun he hb=>?_
  have h1:=jf5 _ hb;rw [jbC] at h1;have h2:=xf h1;have h3:=xf h2.1;rw [h2.2,h3.2,jkX _ _ he hb]
theorem vA {d:DiskM}(h:d.Wf)(b:Int):(jH d b).length<=9223372036854775807:=by
 have:∀ (l:List (Int × ByteArray)) (s:List ByteArray),(∀ r∈l,r.2.size<=256)->(∀ x∈s,x.size<=256)->∀ x∈yq s l,x.size<=256:=by
  intro l
  induction l with
  | nil=>intro s _ h2;exact h2
  | cons r l ih =>
   intro s h1 h2;have:yq s (r::l)=yq (s.set r.1.toNat r.2) l:=rfl;rw [this];refine ih _ (fun r' hr=>h1 r' (by simp [hr])) fun x hx=>?_
   rcases List.mem_or_eq_of_mem_set hx with h | rfl
   . exact h2 x h
   . exact h1 r (by simp)
 by_cases hb:0<=b/\b<d.strs.length
 .
  rw [jbi _ _ hb,jmy];have h1:=this d.trail (List.replicate d.strs.length ByteArray.empty) h.short (fun x hx=>by rw [(List.mem_replicate.1 hx).2];exact qJ _)
  rw [<- h.play] at h1;have:d.strs.getD b.toNat ByteArray.empty∈d.strs:=by
   have hi:b.toNat<d.strs.length:=by omega
   simp [List.getD,hi]
  have:=h1 _ this;omega
 . rw [jb9 _ _ hb];simp
theorem jd0 (v v':Value)(l:List (Int × ByteArray))(w:World)(hv:Rd w v l.length (jJ l))(a4:Rd w v' l.length (jJ l)) :
  Calls prog 28 #[v,v'] w fun e w'=>e=.returned (.bool true)/\∃ k,w'=w.drewN k:=by
 have a5:=hv.len;obtain ⟨a,cap,rfl,a6,a7,_,hc⟩:=hv;obtain ⟨a',cap',rfl,a8,a9,_,hd⟩:=a4;have H:=Hd hc;have Hd:=Hd hd;clear hc hd;go_enter func28,ntmps28
 go_wp2
 go_loopw [5] (fun i wr=>∃ k:Nat,k<=l.length/\i=.int .i64 k/\∃ m,wr=w.drewN m) (fun i _=>l.length-(intOf i).toNat)
 case atStart=>exact ⟨0,by omega,rfl,0,rfl⟩
 case round =>
  obtain ⟨k,hk,rfl,m,rfl⟩:=hrel;by_cases hlt:k<l.length
  .
   obtain ⟨fa,fb⟩:=jhD l k hlt;obtain ⟨b,off,rfl,a2⟩:=H.1 (k*2) (by rw [yH];omega)
   obtain ⟨b2,off2,e3,a0⟩:=H.1 (k*2+1) (by rw [yH];omega)
   injection e3 with e3
   injection e3 with e4 e5
   subst e4;subst e5;obtain ⟨c,ofc,rfl,a3⟩:=Hd.1 (k*2) (by rw [yH];omega)
   obtain ⟨c2,ofc2,e3,a1⟩:=Hd.1 (k*2+1) (by rw [yH];omega)
   injection e3 with e3
   injection e3 with e4 e5
   subst e4;subst e5;rw [fa] at a2 a3;rw [fb] at a0 a1;generalize l.getD k (0,ByteArray.empty)=r at *;obtain ⟨ri,rs⟩:=r;simp only at a2 a0 a3 a1;rw [<- wC] at a0 a1;have h1:(0:Int)<=(k:Int):=by omega
   have h2:(k:Int)<(l.length:Int):=by omega
   clear H Hd fa fb
   go_wp2
   go_quiet (fail)
   go_wp2
   go_roundw
   case rel=>exact ⟨k+1,by omega,by go_num,_,rfl⟩
   case measure=>simp [intOf];omega
  .
   obtain rfl:k=l.length:=by omega
   clear H Hd
   go_wp2
   go_ret;exact ⟨rfl,m,rfl⟩
open Go.ChangeShapes Go.WideShapes Go.ChangeAt Go.RowKit
def jfL : List (String × DataW Unit) := [("errors.errorType", Rows.laid_errors_errorType)]
theorem L.et : prog.globalNamed "errors.errorType" = some 0 := by kernel_rfl
theorem L.rt : (prog.cutTypes.find? (·.1 == "internal/reflectlite.rtype")).map (·.2) = some 193 := by kernel_rfl
theorem L.oneRow:((List.range 350).filter fun t=>prog.rowNamed t [101,114,114,111,114]) = [49]:=by kernel_rfl
theorem L.size:prog.types.size=350:=by kernel_rfl
theorem jc2 {W:World}(h:laidMetH prog jfL W):ErrType W:=by
 have h':laidMet prog [] W/\handlesMet prog jfL W:=h;obtain ⟨name,u,ty,e1,e2,e3,e4,e5⟩:=h'.2 _ (qC.2 rfl);have en:name = [101,114,114,111,114]:=(Option.some.inj e1).symm;subst en;obtain rfl:=Option.some.inj (L.rt.symm.trans e2);have hm:ty∈(List.range 350).filter fun t=>prog.rowNamed t [101,114,114,111,114]:=List.mem_filter.2 ⟨List.mem_range.2 (by rw [<- L.size];exact e3),e4⟩
 rw [L.oneRow] at hm;obtain rfl:=qC.1 hm;have hh:typeHandle prog 49=.pointer (some ⟨2,49,none⟩):=by kernel_rfl
 rw [hh] at e5;have:=World.var?_cell L.et e5 0;unfold ErrType
 simpa using this
noncomputable def jfU (os:Os):World :=
 let w0:=World.holding prog os ⟨#[],#[],[]⟩
 { w0 with heap:=w0.heap.modify 0 fun
   | .cells _ t frozen=>.cells #[.iface 193 (.agg #[.pointer (some ⟨2,49,none⟩)])] t frozen
   | o=>o }
theorem jeX (os:Os)(args:Array Value):laidMetH prog jfL ((jfU os).forCall (fun _ _=>0) ⟨#[],args,[]⟩).memory :=
 laidMetH_of_parts (laidMet_nil _ _) (by kernel_rfl)
theorem jc9 {up:Bool}{vt:List TypeId}(a8:vt = []){f:FuncId}{fn:Func}{s:ChangeSpec}{ts:List TypeId}(hp:fn.params.toList=ts)(a4:fn.resultTypes=#[4])(a0:s.vars = [])(hr:∀ t∈ts,prog.readableRec t=true/\t<prog.types.size)(hs:∀ (H:Type) (ds:List (DataW H)),ds.length=ts.length->(s.fn H ds).results = [.lit (.bool true)]/\(s.fn H ds).args=ds/\(s.fn H ds).vars = [])(H:Type)(enc:TypeId × Value->H)(W:World)(base:Nat)(args:Array Value)(ds gs:List (DataW H))(before:List MemPlace)(a5:∀ (j:Nat) t v,fn.params[j]?=some t->args[j]?=some v->Value.okWide prog W .any base t v)(hW:DataW.Whole enc prog fn.params.toList s.vars false W args.toList ds gs before)(a2:match up with | true=>Rows.uptoSmall H (ds++gs)=true | false=>(DataW.weightsEach prog (fn.params.toList++vt) (ds++gs)).all (·<=reachBytes)=true)(walkAt:jd1 up W ts args.toList->Calls prog f args W fun e W'=>e=.returned (.bool true)/\Below W.heap.size W W') :
  Calls prog f args W fun e W'=>∃ v,e=.returned v/\s.post enc prog fn false true false false W args v W':=by
 have a3:=hW;obtain ⟨p,q,hA,hV,rfl,_,_⟩:=hW;rw [a0] at hV;have hg:gs = []/\q = []:=by
  cases gs with
  | nil=>exact ⟨rfl,hV⟩
  | cons g gs=>exact hV.elim
 obtain ⟨rfl,rfl⟩:=hg;have a9:∀ x∈p,x.block<W.heap.size:=fun x hx=>by simpa using a3.lt x (by simpa using hx)
 have a6:ds.length=ts.length:=by
  have:∀ {ts:List TypeId} {vs:List Value} {ds:List (DataW H)} {ps:List MemPlace},DataW.TrodAll enc prog W 0 (fun _=>true) true ts vs ds ps->ds.length=ts.length:=by
   intro ts
   induction ts with
   | nil=>intro vs ds ps h;cases vs with
    | nil=>cases ds with
     | nil=>rfl
     | cons _ _=>exact h.elim
    | cons _ _=>exact h.elim
   | cons t ts ih=>intro vs ds ps h;cases vs with
    | nil=>exact h.elim
    | cons v vs=>cases ds with
     | nil=>exact h.elim
     | cons d ds=>obtain ⟨_,_,_,h2,_⟩:=h;simp [ih h2]
  rw [hp] at hA;exact this hA
 have a7:jd1 up W ts args.toList:=by
  rw [<- hp];refine jfH (base:=base) hA (fun j t v ht hv=>a5 j t v (by simpa using ht) (by simpa using hv)) ?_
  cases up with
  | true =>
   have h:Rows.uptoBulkAll (ds ++ [])<=1048576:=kz a2
   simpa using h
  | false=>subst a8;simpa using a2
 have a1:=walkAt a7;refine a1.mono fun e W' ⟨he,hb⟩=>?_
 obtain ⟨s1,s2,s3⟩:=hs H (ds ++ []) (by simpa using a6)
 refine ⟨_,he,_,_,_,[],p,[],a3,?_,?_,?_,hb.frame _,fun h=>by cases h⟩
 . rw [s1,a4];exact ⟨[],[],shut_bool (by kernel_rfl) true,rfl,rfl⟩
 . rw [s2,qF];exact jaN hb (by rw [hp];exact hr) hA a9
 . rw [s3,a0];rfl
end Go.Proofs.YtgcnolapjppbpaaGreatDoor
