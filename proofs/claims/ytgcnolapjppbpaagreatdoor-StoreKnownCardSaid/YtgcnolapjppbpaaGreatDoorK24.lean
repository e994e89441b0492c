/- Texts of one proof. -/
import Derived.Test.YtgcnolapjppbpaaGreatDoorK22
import Derived.Test.YtgcnolapjppbpaaGreatDoorK23
namespace Go.Proofs.YtgcnolapjppbpaaGreatDoor
open Go.RowKit _root_.Go.Proofs.Tryz
set_option maxRecDepth 100000
set_option maxHeartbeats 25600000
variable {w:World}{st:StM}{d:DiskM}{s:StoM}
theorem jhp (x:UInt32)(h:x &&& 1=1):bits .and .u32 (I32 x) 1=1:=by
 rw [show (1:Int)=I32 1 from rfl,I32_and,h]
theorem jgr (x:UInt32)(h:x &&& 1=0):bits .and .u32 (I32 x) 1=0:=by
 rw [show (1:Int)=I32 1 from rfl,I32_and,h];rfl
theorem jeC (r:UInt32)(c:UInt8)(w:World) :
  Calls prog 183 #[.int .u32 (I32 r),.int .u8 (c.toNat:Int)] w fun e w'=>e=.returned (.int .u32 (I32 (jgm r c)))/\w=w':=by
 go_enter func183,ntmps183
 go_wp2
 go_loop [0,5] (fun x i=>∃ j:Nat,j<=8/\i=.int .i64 j/\x=.int .u32 (I32 (uX j (r ^^^ c.toUInt32)))) (fun _ i=>8-(intOf i).toNat)
 case atStart=>exact ⟨0,by omega,rfl,rfl⟩
 case round =>
  obtain ⟨j,hj,rfl,rfl⟩:=hrel;by_cases hlt:j<8
  .
   rcases jkc (uX j (r ^^^ c.toUInt32)) with hb | hb
   .
    have e1:=jgr _ hb;have e2:=Hd (jf3 hb);clear hb
    go_wp2
    go_round
    case rel=>exact ⟨j+1,by omega,by go_num,by rw [jdK,<- e2.1];rfl⟩
    case measure=>simp [intOf];omega
   .
    have e1:=jhp _ hb;have e2:=Hd (jgN hb);clear hb
    go_wp2
    go_round
    case rel=>exact ⟨j+1,by omega,by go_num,by rw [jdK,show (3988292384:Int)=I32 0xedb88320 from rfl,I32_xor,<- e2.1];rfl⟩
    case measure=>simp [intOf];omega
  .
   obtain rfl:j=8:=by omega
   go_wp2
   go_ret;exact ⟨rfl,rfl⟩
theorem jao (v:Value)(l:List UInt8)(w:World)(hv:Rd w v l.length (l.map V8)) :
  Calls prog 168 #[v] w fun e w'=>e=.returned (.int .u32 (I32 (crc l)))/\w=w':=by
 have hm:=hv.len;obtain ⟨a,cap,rfl,a3,a4,_,hc⟩:=hv;have H:=Hd hc;clear hc;go_enter func168,ntmps168
 go_wp2
 go_loop [3,4] (fun x i=>∃ k:Nat,k<=l.length/\i=.int .i64 k/\x=.int .u32 (I32 (zr 0xffffffff (l.take k)))) (fun _ i=>l.length-(intOf i).toNat)
 case atStart=>exact ⟨0,by omega,rfl,rfl⟩
 case round =>
  obtain ⟨k,hk,rfl,rfl⟩:=hrel;by_cases hlt:k<l.length
  .
   obtain ⟨b,off,rfl,a0⟩:=H.1 k (by simpa using hlt)
   have a2:w.cell? ⟨b,off+k,none⟩=some (.int .u8 (l[k].toNat:Int)):=by rw [a0];simp [hlt,V8]
   clear H a0;have a1:=Hd (jcU 0xffffffff l k hlt);go_wp2_with fail;refine (jeC _ _ _).mono ?_;rintro e w' ⟨rfl,rfl⟩
   go_wp2
   go_round
   case rel=>exact ⟨k+1,by omega,by go_num,by rw [a1.1]⟩
   case measure=>simp [intOf];omega
  .
   obtain rfl:k=l.length:=by omega
   go_wp2
   go_ret;exact ⟨rfl,rfl⟩
theorem jbv (v:Value)(l:List UInt8)(w:World)(hv:Rd w v l.length (l.map V8)) :
  Calls prog 137 #[v] w fun e w'=>e=.returned (.int .u32 (I32 (crc l)))/\Below w.heap.size w w':=by
 go_enter func137,ntmps137;go_wp2_with fail;refine (jbs _).mono ?_;rintro e w' ⟨rfl,rfl⟩;go_wp2_with fail;refine (jcn _ 0 v l _ (by simp [go_sem]) (by simp [go_sem]) (hv.below (ja _ _))).mono ?_
 rintro e w' ⟨rfl,rfl⟩;go_wp2_with fail;refine (jcP _ (.int .u32 (I32 (crc l))) _ (by simp [go_sem];rfl)).mono ?_
 rintro e w' ⟨rfl,rfl⟩
 go_wp2
 go_ret;exact ⟨rfl,by go_grown⟩
theorem yw {P:Program}{op:Oper}{a:Act}{K:Act->World->Prop}{Q:Exit->Act->World->Prop}(ty:TypeId)(x y:Operand)(ho:op.op=.store ty x y)(b o:Nat)(cs:List Value)(hx:a.eval x=.pointer (some ⟨b,o,none⟩))(hy:a.eval y=.agg cs.toArray)(ht:w.there b o cs.length)(hi:(P.info? ty).map (·.size)=some cs.length)(h1:∀ v∈cs,v.oneCell'=true)(h:K (a.put op.dst undef) (w.setCells b o cs)):op.wp P a w K Q:=by
 refine wp_store_mid ty x y ho b o cs.toArray hx hy ?_ ?_ (pV h1) ?_
 . rw [wF];exact ht
 . rw [wF];exact hi
 . exact h
theorem Box.there3 {b:Nat}{x y z:Value}{t:TypeId}(h:Box w b #[x,y,z] t):w.there b 0 3:=by
 intro j hj;rw [qA]
 match j,hj with
 | 0,_=>exact ⟨by rw [h.cell 0 _ rfl];rfl,h.free _⟩
 | 1,_=>exact ⟨by rw [h.cell 1 _ rfl];rfl,h.free _⟩
 | 2,_=>exact ⟨by rw [h.cell 2 _ rfl];rfl,h.free _⟩
theorem Box.set3 {b:Nat}{x y z:Value}{t:TypeId}(h:Box w b #[x,y,z] t)(x' y' z':Value):Box (w.setCells b 0 [x',y',z']) b #[x',y',z'] t/\Mod (fun i=>i=b) w (w.setCells b 0 [x',y',z']) :=
 ⟨((h.set 0 x').set 1 y').set 2 z',Mod.set3 b w x' y' z'⟩
theorem jc5 (x y:Int)(a:Option Addr)(n c:Nat):∀ v ∈ [Value.int .i64 x,Value.int .i64 y,Value.slice a n c],v.oneCell'=true:=by
 intro v hv;simp only [qH,qO,wM] at hv
 rcases hv with rfl | rfl | rfl <;> rfl
theorem jbf {e:EvtM}{x:SesM}(h:x∈(jt st e).2.l):x∈st.l\/x=e.s:=by
 have hw:∀ (f:SesM->Bool) (l:List SesM),x∈jB f l->x∈l:=fun f l hx=>(jal.1 hx).1
 unfold jt at h
 split at h
 .
  split at h
  .
   split at h
   .
    rcases qW.1 h with h | h
    . exact .inl h
    . exact .inr (qC.1 h)
   . cases h
  .
   split at h
   .
    split at h
    . exact .inl (hw _ _ h)
    . cases h
   .
    split at h
    . cases h
    . exact .inl (hw _ _ h)
 . cases h
def jmo (d:DiskM)(s:StoM)(r:StoM × DiskM × Int):Prop :=
 (r.1.epoch=s.epoch/\r.1.log.records=s.log.records+1/\r.2.1.trail.length=d.trail.length+1) \/
 (r.1.epoch.toNat=s.epoch.toNat+1/\s.log.records=16/\r.1.log.records=1/\∃ m,1<=m/\m<=24/\r.2.1.trail.length=d.trail.length+(m+2))
theorem ul {next:StM}{e:EvtM}(h:StoI d s st)(hd:s.dead=false)(a2:s.log.dead=false)(a0:s.epoch.toNat<4294967295)(ha:jt st e=(0,next))(hm:jM e=true)(a1:e.s.scopes<2 ^ 64) :
  ((s.append d e st).2.2=0/\(s.append d e st).1.dead=false/\(s.append d e st).1.log.dead=false/\StoI (s.append d e st).2.1 (s.append d e st).1 next/\(s.append d e st).1.epoch.toNat<=s.epoch.toNat+1/\jmo d s (s.append d e st)) \/
  ((s.append d e st).2.2=22/\d.left≠none/\(s.append d e st).1.dead=true/\∃ ep':UInt32,ep'.toNat<=s.epoch.toNat+1/\KeptI (s.append d e st).2.1 st ep'):=by
 obtain ⟨st0,evs,hi⟩:=h.img;obtain ⟨n1,n2⟩:=zy a0;unfold jmo StoM.append;rw [qh (by rw [hd];simp),qf hm]
 rcases je8 hi h.wf h.len h.later a2 ha hm a1 with ⟨h0,h1,h2,h3,h4⟩ | ⟨h0,h1,h2⟩ | ⟨h0,h1⟩
 .
  rw [qh (by rw [h0];decide)]
  have hp:isP (s.log.append d (evB e)).2.2=false:=by rw [h0];rfl
  exact .inl ⟨h0,hp,h1,by simp only [hp];exact h2,wE _,.inl ⟨rfl,h3,h4⟩⟩
 .
  rw [qh (by rw [h0];decide)]
  exact .inr ⟨h0,h1,by simp only;rw [h0];rfl,s.epoch,wE _,h2⟩
 .
  rw [qf h0]
  rcases ji1 h.kept a0 with ⟨g0,g1,g2⟩ | ⟨g0,g1,g2⟩
  .
   rw [qf g0];obtain ⟨st1,evs1,hj⟩:=g1.img
   rcases je8 hj g1.wf g1.len g1.later rfl ha hm a1 with ⟨k0,k1,k2,k3,k4⟩ | ⟨k0,k1,k2⟩ | ⟨k0,k1⟩
   .
    have hp:isP ((yt (s.epoch+1)).append (yu s.epoch d st).1 (evB e)).2.2=false:=by rw [k0];rfl
    have hb:=jdH h.kept.d.snd.1.check;refine .inl ⟨k0,hp,k1,by simp only [hp];exact k2,by simp only;omega,.inr ⟨n1,h1,k3,_,hb.1,hb.2,?_⟩⟩
    simp only;have k4':((yt (s.epoch+1)).append (yu s.epoch d st).1 (evB e)).2.1.trail.length=(yu s.epoch d st).1.trail.length+1:=k4;omega
   .
    refine .inr ⟨k0,fun hn=>?_,by simp only;rw [show ((yt (s.epoch+1)).append (yu s.epoch d st).1 (evB e)).2.2=22 from k0];rfl,s.epoch+1,by omega,k2⟩
    exact k1 (jiI h.kept.d a0 hn).2.2.1
   .
    have k2:(yt (s.epoch+1)).records=16:=k1
    cases k2
  .
   rw [qh (by rw [g0];decide)]
   exact .inr ⟨g0,g1,by simp only;rw [g0];rfl,s.epoch,wE _,g2⟩
theorem jd5 (e:EvtM)(h:StoI d s st)(a0:s.epoch.toNat<4294967295)(hn:d.left=none):(s.append d e st).2.1.left=none:=by
 obtain ⟨st0,evs,hi⟩:=h.img;have hl:∀ {d:DiskM} {l:LogM} {st st0:StM} {ep:UInt32} {evs:List EvtM},Img d l st ep st0 evs->d.left=none->(l.append d (evB e)).2.1.left=none:=fun hi hn=>jhW _ hn (by rw [hi.log.same.1,hi.log.same.2.1];exact hi.log.len) hi.log.le2 _
 have h1:=jiI h.kept.d a0 hn;unfold StoM.append
 split
 . exact hn
 split
 .
  split
  .
   split
   .
    obtain ⟨st1,evs1,hj⟩:=h1.2.1.img;exact hl hj h1.2.2.1
   . exact h1.2.2.1
  . exact hl hi hn
 . exact hn
theorem jkN {ep:UInt32}(h:KeptI d st ep)(a0:ep.toNat<4294967295) :
  ((jw d).2.2.2=0/\(jw d).2.2.1=st/\(jw d).2.1=ep+1/\StoI (jw d).1 ⟨ep+1,yt (ep+1),false⟩ st)\/((jw d).2.2.2=22/\KeptI (jw d).1 st ep):=by
 unfold jw;rw [qh (by have:=h.len;omega),h.d.kept]
 simp only [pB]
 rcases ji1 h a0 with ⟨g0,g1,_⟩ | ⟨g0,_,g2⟩
 . rw [qf g0];exact .inl ⟨rfl,rfl,rfl,g1⟩
 . rw [qh (by rw [g0];decide)];exact .inr ⟨g0,g2⟩
theorem jgf {ep:UInt32}(h:KeptD d st ep)(a0:ep.toNat<4294967295)(hn:d.left=none) :
  (jw d).2.2.2=0/\(jw d).2.2.1=st/\(jw d).2.1=ep+1/\StoI (jw d).1 ⟨ep+1,yt (ep+1),false⟩ st/\(jw d).1.left=none/\(jw d).1.trail.length=d.trail.length+(yd (yW st).length+1):=by
 obtain ⟨g0,g1,g2,g3⟩:=jiI h a0 hn;unfold jw;rw [qh (by have:=h.len;omega),h.kept]
 simp only [pB];rw [qf g0];exact ⟨rfl,rfl,rfl,g1,g2,g3⟩
theorem ur:KeptD ⟨List.replicate 65 ByteArray.empty,[],none⟩ jI 0:=by
 refine ⟨DiskM.Wf.new 65 none,by simp,fun e _ j s _ _ hs=>jlH e 65 j s hs,.inl ⟨?_,rfl,rfl⟩⟩
 unfold jH DiskM.read LB
 simp
def zt:EvtM:=⟨2,ju,0,2⟩
theorem jfq:jM zt=true:=by decide +kernel
theorem jht (i:Nat)(hi:i<17):jt ⟨2*(i:Int),0,[]⟩ zt=(0,⟨2*((i+1:Nat):Int),0,[]⟩):=by
 unfold jt;have h:¬ ((2*(i:Int))<0\/1099511627776-zt.ticks<2*(i:Int)):=by
  show ¬ ((2*(i:Int))<0\/1099511627776-2<2*(i:Int));omega
 rw [qf jfq,qh (show ¬ zt.kind=0 by decide),qh (show ¬ zt.kind=1 by decide)]
 simp only;rw [qh h];have e:2*(i:Int)+zt.ticks=2*((i+1:Nat):Int):=by show 2*(i:Int)+2=_;omega
 rw [e];rfl
structure TickI (d:DiskM)(s:StoM)(i:Nat):Prop where
 si:StoI d s ⟨2*(i:Int),0,[]⟩
 al:s.dead=false/\s.log.dead=false
 lf:d.left=none
 lo:i<=16->s.epoch.toNat=1/\s.log.records=i
 hi:i=17->s.epoch.toNat=2/\s.log.records=1
theorem StoI.recs (h:StoI d s st):s.log.records<=16:=by
 obtain ⟨st0,evs,hi⟩:=h.img;rw [<- hi.used];have h1:=hi.log.le2;rw [hi.log.same.2.1] at h1;exact h1
theorem TickI.next {i:Nat}(h:TickI d s i)(hi:i<17):(s.append d zt ⟨2*(i:Int),0,[]⟩).2.2=0/\TickI (s.append d zt ⟨2*(i:Int),0,[]⟩).2.1 (s.append d zt ⟨2*(i:Int),0,[]⟩).1 (i+1):=by
 obtain ⟨e1,e2⟩:=h.lo (by omega)
 have a6:=jd5 zt h.si (by omega) h.lf
 rcases ul h.si h.al.1 h.al.2 (by omega) (jht i hi) jfq (by decide) with ⟨a0,a1,a2,a3,a4,a5⟩ | ⟨_,b1,_⟩
 .
  have hr:=a3.recs;refine ⟨a0,a3,⟨a1,a2⟩,a6,fun a7=>?_,fun a8=>?_⟩
  .
   rcases a5 with ⟨c1,c2,_⟩ | ⟨_,c2,_⟩
   . exact ⟨by rw [c1];exact e1,by omega⟩
   . omega
  .
   rcases a5 with ⟨c1,c2,_⟩ | ⟨c1,_,c3,_⟩
   . omega
   . exact ⟨by omega,c3⟩
 . exact absurd h.lf b1
end Go.Proofs.YtgcnolapjppbpaaGreatDoor
