/- Texts of one proof. -/
import Derived.Test.YtgcnolapjppbpaaGreatDoorK01
namespace Go.Proofs.YtgcnolapjppbpaaGreatDoor
open Go.RowKit _root_.Go.Proofs.Tryz
set_option maxRecDepth 100000
set_option maxHeartbeats 25600000
variable {l:List UInt8}{b:Bool}{n lo hi:Int}{w:World}{t:TypeId}
def zF (c:Nat):Bool:=decide (97<=c/\c<=122)
def xU (c:Nat):Bool:=decide (48<=c/\c<=57\/c=45\/c=95)
def vK (l:List UInt8)(i:Nat):Bool:=zF (l.getD i 0).toNat || (decide (i≠0)&&xU (l.getD i 0).toNat)
def zi (l:List UInt8):Bool:=decide (1<=l.length/\l.length<=32/\∀ i,i<l.length->vK l i=true)
theorem xM {i:Nat}(h:i<l.length)(hn:vK l i=false):zi l=false:=by
 unfold zi;rw [qI];intro ⟨_,_,h3⟩;rw [h3 i h] at hn;cases hn
theorem jfA (h1:1<=l.length)(h2:l.length<=32)(h:∀ i,i<l.length->vK l i=true):zi l=true:=by
 unfold zi;rw [qY];exact ⟨h1,h2,h⟩
theorem jav (h:¬ (1<=l.length/\l.length<=32)):zi l=false:=by
 unfold zi;rw [qI];intro ⟨h1,h2,_⟩;exact h ⟨h1,h2⟩
theorem yp {k c:Nat}(hc:c=(l.getD k 0).toNat)(h:(zF c || (decide (k≠0)&&xU c))=b):vK l k=b:=by
 unfold vK;rw [<- hc];exact h
theorem xC {k:Nat}(h:∀ i,i<k->vK l i=true)(hk:vK l k=true):∀ i,i<k+1->vK l i=true:=fun i hi=>by
 rcases qX i k with h1 | h1
 . exact h i h1
 .
  obtain rfl:i=k:=by omega
  exact hk
theorem jeU (l:List UInt8)(w:World)(hl:l.length<=9223372036854775807) :
  Calls prog 175 #[.string (SB l)] w fun e w'=>e=.returned (.bool (zi l))/\w'=w:=by
 have a5:(SB l).size=l.length:=SB_size l;by_cases h1:l.length<1
 .
  have e1:=jav (l:=l) (by omega)
  have a1:((l.length:Nat):Int)<1:=by omega
  have E1:=Hd e1;clear e1;go_enter func175,ntmps175;go_wp2;go_ret;rw [E1.1];exact ⟨rfl,rfl⟩
 by_cases h2:32<l.length
 .
  have e1:=jav (l:=l) (by omega)
  have a1:¬ ((l.length:Nat):Int)<1:=by omega
  have a2:(32:Int)<((l.length:Nat):Int):=by omega
  have E1:=Hd e1;clear e1;go_enter func175,ntmps175;go_wp2;go_ret;rw [E1.1];exact ⟨rfl,rfl⟩
 have a1:¬ ((l.length:Nat):Int)<1:=by omega
 have a2:¬ (32:Int)<((l.length:Nat):Int):=by omega
 go_enter func175,ntmps175;go_wp2
 go_loopg [3] l.length (fun gk iv wr=>∃ k:Nat,gk+k=l.length/\iv=.int .i64 (k:Int)/\wr=w/\∀ i,i<k->vK l i=true)
 case atStart=>exact ⟨0,rfl,rfl,rfl,fun i hi=>by omega⟩
 case round =>
  obtain ⟨k,a0,rfl,rfl,hI⟩:=hrel;have A:=Hd a0;have B:=Hd hI;by_cases hk:k<l.length
  .
   have a6:(0:Int)<=(k:Int):=by omega
   have a3:(k:Int)<(l.length:Int):=by omega
   have a4:=xL wr l k hk;obtain ⟨c,hc⟩:=Nm ((l.getD k 0).toNat);rw [<- hc] at a4
   -- ROUND
   rcases (show (97<=c/\c<=122)\/(c<97/\k=0)\/(122<c/\k=0)\/(48<=c/\c<=57/\k≠0)\/(c=45/\k≠0)\/(c=95/\k≠0)\/(c<48/\c≠45/\k≠0)\/(57<c/\c<97/\c≠95/\k≠0)\/(122<c/\k≠0) by omega) with hcs | hcs | hcs | hcs | hcs | hcs | hcs | hcs | hcs
   .
    have f0:(97:Int)<=(c:Int):=by omega
    have f1:(c:Int)<=122:=by omega
    have H:=Hd (xC (l:=l) (k:=k) B.1 (yp hc (by unfold zF xU;simp;omega)))
    clear hcs hI a0 hc hk;go_wp2
    go_roundg (l.length-(k+1))
    case measure=>have:=A.1;omega
    case rel=>exact ⟨k+1,by have:=A.1;omega,by go_num,rfl,H.1⟩
   .
    have f0:¬ (97:Int)<=(c:Int):=by omega
    have f1:((k:Int)==0)=true:=by simp;omega
    have H:=Hd (xM hk (yp hc (by unfold zF xU;simp;omega)))
    clear hcs hI a0 hc hk;go_wp2;go_ret;rw [H.1];exact ⟨rfl,rfl⟩
   .
    have f0:(97:Int)<=(c:Int):=by omega
    have f1:¬ (c:Int)<=122:=by omega
    have f2:((k:Int)==0)=true:=by simp;omega
    have H:=Hd (xM hk (yp hc (by unfold zF xU;simp;omega)))
    clear hcs hI a0 hc hk;go_wp2;go_ret;rw [H.1];exact ⟨rfl,rfl⟩
   .
    have f0:¬ (97:Int)<=(c:Int):=by omega
    have f1:((k:Int)==0)=false:=by simp;omega
    have f2:¬ (c:Int)<48:=by omega
    have f3:¬ (57:Int)<(c:Int):=by omega
    have H:=Hd (xC (l:=l) (k:=k) B.1 (yp hc (by unfold zF xU;simp;omega)))
    clear hcs hI a0 hc hk;go_wp2
    go_roundg (l.length-(k+1))
    case measure=>have:=A.1;omega
    case rel=>exact ⟨k+1,by have:=A.1;omega,by go_num,rfl,H.1⟩
   .
    have f0:((k:Int)==0)=false:=by simp;omega
    have f1:(c:Int)=45:=by omega
    have H:=Hd (xC (l:=l) (k:=k) B.1 (yp hc (by unfold zF xU;simp;omega)))
    clear hcs hI a0 hc hk;go_wp2
    go_roundg (l.length-(k+1))
    case measure=>have:=A.1;omega
    case rel=>exact ⟨k+1,by have:=A.1;omega,by go_num,rfl,H.1⟩
   .
    have f0:((k:Int)==0)=false:=by simp;omega
    have f1:(c:Int)=95:=by omega
    have H:=Hd (xC (l:=l) (k:=k) B.1 (yp hc (by unfold zF xU;simp;omega)))
    clear hcs hI a0 hc hk;go_wp2
    go_roundg (l.length-(k+1))
    case measure=>have:=A.1;omega
    case rel=>exact ⟨k+1,by have:=A.1;omega,by go_num,rfl,H.1⟩
   .
    have f0:¬ (97:Int)<=(c:Int):=by omega
    have f1:((k:Int)==0)=false:=by simp;omega
    have f2:(c:Int)<48:=by omega
    have f3:((c:Int) != 45)=true:=by simp;omega
    have f4:((c:Int) != 95)=true:=by simp;omega
    have H:=Hd (xM hk (yp hc (by unfold zF xU;simp;omega)))
    clear hcs hI a0 hc hk;go_wp2;go_ret;rw [H.1];exact ⟨rfl,rfl⟩
   .
    have f0:¬ (97:Int)<=(c:Int):=by omega
    have f1:((k:Int)==0)=false:=by simp;omega
    have f2:¬ (c:Int)<48:=by omega
    have f3:(57:Int)<(c:Int):=by omega
    have f4:((c:Int) != 45)=true:=by simp;omega
    have f5:((c:Int) != 95)=true:=by simp;omega
    have H:=Hd (xM hk (yp hc (by unfold zF xU;simp;omega)))
    clear hcs hI a0 hc hk;go_wp2;go_ret;rw [H.1];exact ⟨rfl,rfl⟩
   .
    have f0:(97:Int)<=(c:Int):=by omega
    have f1:¬ (c:Int)<=122:=by omega
    have f2:((k:Int)==0)=false:=by simp;omega
    have f3:¬ (c:Int)<48:=by omega
    have f4:(57:Int)<(c:Int):=by omega
    have f5:((c:Int) != 45)=true:=by simp;omega
    have f6:((c:Int) != 95)=true:=by simp;omega
    have H:=Hd (xM hk (yp hc (by unfold zF xU;simp;omega)))
    clear hcs hI a0 hc hk;go_wp2;go_ret;rw [H.1];exact ⟨rfl,rfl⟩
  .
   have e1:=jfA (l:=l) (by omega) (by omega) (fun i hi=>hI i (by omega))
   have a3:¬ (k:Int)<(l.length:Int):=by omega
   have E1:=Hd e1;clear hI a0 e1;go_wp2;go_ret;rw [E1.1];exact ⟨rfl,rfl⟩
theorem jb7 (s:ByteArray)(c:Int)(w:World) :
  Calls prog 222 #[.string s,.int .u8 c] w fun e w'=>e=.returned (Lib.indexByte s.data.toList c.toNat.toUInt8)/\w'=w:=by
 go_enter func222,ntmps222
 go_wp2
 rw [run_callFunc_extern func223 (by kernel_rfl) (by kernel_rfl) (by kernel_rfl) (e:=Extern.BytealgIndexByte.indexByte) (by kernel_rfl),Lib.run_indexByteString]
 simp only [Result.andThen];rw [Oper.upon_value]
 go_wp2
 go_ret;exact ⟨rfl,rfl⟩
theorem uK (s:ByteArray)(c:Int)(w:World) :
  Calls prog 218 #[.string s,.int .u8 c] w fun e w'=>e=.returned (Lib.indexByte s.data.toList c.toNat.toUInt8)/\w'=w:=by
 go_enter func218,ntmps218;go_wp2_with fail;refine (jb7 s c w).mono ?_;rintro r w1 ⟨rfl,rfl⟩;go_wp2;go_ret;exact ⟨rfl,rfl⟩
def DG:ByteArray:=⟨#[48,49,50,51,52,53,54,55,56,57,45,95]⟩
theorem jmX:∀ c,c<128->decide (0<=Lib.indexByte DG.data.toList (Nat.toUInt8 c))=xU c:=by decide +kernel
theorem jdc (r:Int)(w:World) :
  Calls prog 219 #[.int .i32 r] w fun e w'=>(e=.returned (.bool true)\/e=.returned (.bool false))/\w'=w:=by
 go_enter func219,ntmps219;go_wp2_with fail
 all_goals (go_ret;first | exact ⟨.inl rfl,rfl⟩ | exact ⟨.inr rfl,rfl⟩)
theorem jg8 (c:Nat)(w:World)(hc:c<128) :
  Calls prog 216 #[.string DG,.int .i32 (c:Int)] w fun e w'=>e=.returned (.bool (xU c))/\w'=w:=by
 have h0:(0:Int)<=(c:Int):=by omega
 have h1:(c:Int)<128:=by omega
 have h2:IntKind.u8.wrap (c:Int)=(c:Int):=by simp [IntKind.wrap,IntKind.bits,IntKind.signed];omega
 have h3:=jmX c hc;go_enter func216,ntmps216;go_wp2_with fail
 go_in
 go_wp2_with fail;refine (uK _ _ w).mono ?_;rintro r w1 ⟨rfl,rfl⟩;go_wp2;go_ret;rw [<- h3];exact ⟨rfl,rfl⟩
theorem jmw (r:Int)(h:128<=r):∃ bs:List UInt8,Utf8.encode r=SB bs/\2<=bs.length/\bs.length<=4/\∀ b∈bs,128<=b.toNat:=by
 unfold Utf8.encode;obtain ⟨c,hc⟩:=Nm ((if Utf8.valid r then r.toNat else Utf8.runeError))
 have h1:128<=c/\c<=1114111:=by
  rw [hc];unfold Utf8.valid Utf8.runeError
  split
  . rename_i hv;simp at hv;omega
  . omega
 simp only [<- hc];have hb:∀ n:Nat,128<=n->n<256->128<=(UInt8.ofNat n).toNat:=fun n h1 h2=>by
  have:(UInt8.ofNat n).toNat=n % 256:=rfl;omega
 rw [qh (by omega)]
 split
 .
  refine ⟨[_,_],rfl,by simp,by simp,fun b h=>?_⟩
  simp only [qH,qO,wM] at h
  rcases h with rfl | rfl <;> exact hb _ (by omega) (by omega)
 split
 .
  refine ⟨[_,_,_],rfl,by simp,by simp,fun b h=>?_⟩
  simp only [qH,qO,wM] at h
  rcases h with rfl | rfl | rfl <;> exact hb _ (by omega) (by omega)
 .
  refine ⟨[_,_,_,_],rfl,by simp,by simp,fun b h=>?_⟩
  simp only [qH,qO,wM] at h
  rcases h with rfl | rfl | rfl | rfl <;> exact hb _ (by omega) (by omega)
theorem jaa:∀ (l:List UInt8) (c:UInt8),(∀ b∈l,b≠c)->Lib.indexByte l c = -1
 | [],_,_=>rfl
 | b::l,c,h=>by
  have ih:=jaa l c (fun x hx=>h x (pz _ hx))
  unfold Lib.indexByte;rw [ih];have:=h b (pJ ..)
  simp [this]
theorem jgV (r:Int)(w:World)(h1:128<=r)(h2:r<=2147483647) :
  Calls prog 216 #[.string DG,.int .i32 r] w fun e w'=>e=.returned (.bool false)/\Below w.heap.size w w':=by
 have a0:(0:Int)<=r:=by omega
 have a1:¬ r<128:=by omega
 by_cases h3:r=65533
 .
  subst h3;go_enter func216,ntmps216;go_wp2_with fail
  go_in
  go_wp2
  go_loopg [] 12 (fun gk wr=>∃ pos,gk+pos=12/\wr.heap[w.heap.size]?=some (.stringIter DG pos)/\Below w.heap.size w wr)
  case atStart=>exact ⟨0,rfl,World.iter_heap w DG 0,(qG _ w).alloc (qm _) _⟩
  case round =>
   obtain ⟨pos,c2,a6,a8⟩:=hrel;by_cases hp:pos<12
   .
    have a3:pos<DG.size:=hp;have b4:(DG[pos]'a3).toNat<128:=by
     have:∀ i (h:i<DG.size),(DG[i]'h).toNat<128:=by decide +kernel
     exact this pos a3
    have b5:∀ ty,(Instr.next (.pointer (some ⟨w.heap.size,0,none⟩)) true ty).run prog wr=_:=fun ty=>Lib.run_next_ascii_at wr w.heap.size DG pos ty a6 a3 b4
    have b1:=Lib.iterAt_heap wr w.heap.size DG pos (pos+1) a6;have b2:=Lib.below_iterAt a8 (k:=w.heap.size) (by omega) DG (pos+1)
    have b6:(((DG[pos]'a3).toNat:Int)==65533)=false:=by simp;omega
    go_wp2
    go_roundg (12-(pos+1))
    case measure=>omega
    case rel=>exact ⟨pos+1,by omega,b1,b2⟩
   .
    have a3:¬ pos<DG.size:=hp;have b5:∀ ty,(Instr.next (.pointer (some ⟨w.heap.size,0,none⟩)) true ty).run prog wr=_:=fun ty=>Lib.run_next_end_at wr w.heap.size DG pos ty a6 a3
    go_wp2;go_ret;exact ⟨rfl,a8⟩
 .
  have a2:(r==65533)=false:=by simp;omega
  obtain ⟨bs,e1,e2,e3,e4⟩:=jmw r h1;go_enter func216,ntmps216;go_wp2_with fail
  go_in
  go_wp2_with fail;refine (jdc r w).mono ?_;rintro e w1 ⟨rfl | rfl,rfl⟩
  rotate_left
  .
   go_wp2;go_ret;exact ⟨rfl,qG _ _⟩
  .
   have b7:=fun w=>run_convert_int_string (P:=prog) w 21 9 .i32 r (by kernel_rfl) underlying9
   rw [e1] at b7;obtain ⟨k,hk⟩:∃ k,bs.length=k+1:=⟨bs.length-1,by omega⟩
   obtain ⟨y,hy⟩:=Nm ((bs.getD k 0).toNat);have c3:128<=y:=by
    rw [hy];refine e4 _ ?_;rw [List.getD,List.getElem?_eq_getElem (by omega)];exact qy _
   have c4:y<256:=by rw [hy];exact (bs.getD k 0).toNat_lt
   have b8:=fun w=>xL w bs k (by omega)
   have a9:=fun w=>xL w [48,49,50,51,52,53,54,55,56,57,45,95] k (by simp;omega)
   obtain ⟨z,hz⟩:∃ z,z=(([48,49,50,51,52,53,54,55,56,57,45,95]:List UInt8).getD k 0).toNat:=⟨_,rfl⟩;have c5:z<128:=by
    have:∀ i,i<12->(([48,49,50,51,52,53,54,55,56,57,45,95]:List UInt8).getD i 0).toNat<128:=by decide +kernel
    rw [hz];exact this k (by omega)
   rw [<- hy] at b8;rw [<- hz] at a9
   change ∀ w,(Instr.index 9 (.string DG) (k:Int)).run prog w=_ at a9
   have b0:=fun w=>jbU w [48,49,50,51,52,53,54,55,56,57,45,95] (k+1) (by simp;omega)
   change ∀ w,(Instr.slice 9 (.string DG) (some (.int .i64 ((k+1:Nat):Int))) none none).run prog w=_ at b0
   rw [show ((k+1:Nat):Int)=(k:Int)+1 by omega] at b0
   have c0:(k:Int)<12:=by omega
   have c6:(0:Int)<=(k:Int):=by omega
   have b6:((z:Int) != (y:Int))=true:=by simp;omega
   have c7:(SB bs).size=k+1:=by rw [SB_size,hk]
   have c8:((k+1:Nat):Int)-1=(k:Int):=by omega
   have c1:DG.size=12:=rfl;have a4:Lib.indexByte ((SB (([48,49,50,51,52,53,54,55,56,57,45,95]:List UInt8).drop (k+1))).data.toList) ((y:Int)).toNat.toUInt8 = -1:=by
    rw [jaF];refine jaa _ _ (fun b hb e=>?_)
    have a5:=wO hb;have:∀ x∈([48,49,50,51,52,53,54,55,56,57,45,95]:List UInt8),x.toNat<128:=by decide +kernel
    have h5:=this b a5;rw [e] at h5;have h6:(((y:Int)).toNat.toUInt8).toNat=y % 256:=rfl;omega
   change Lib.indexByte ((SB (([49,50,51,52,53,54,55,56,57,45,95]:List UInt8).drop k)).data.toList) ((y:Int)).toNat.toUInt8 = -1 at a4
   have a7:=fun w=>uK (SB (([49,50,51,52,53,54,55,56,57,45,95]:List UInt8).drop k)) (y:Int) w
   rw [a4] at a7;have H:=Hd a7;clear a4 a7 hk e2 e3 e4 e1 hy hz;go_wp2
   go_step3
   go_wp2
   go_loopg [9,10] 1 (fun gk iv fv wr=>gk=1/\iv=.int .i64 (k:Int)/\fv=.int .i64 0/\wr=w1)
   case atStart=>exact ⟨rfl,rfl,rfl,rfl⟩
   case round =>
    obtain ⟨rfl,rfl,rfl,rfl⟩:=hrel;go_wp2
    go_step3
    go_wp2
    go_quiet (fail)
    go_wp2_with fail;have b3:=H.1;have z1:IntKind.i64.wrap ((k:Int)+1)=(k:Int)+1:=by simp [IntKind.wrap,IntKind.bits,IntKind.signed];omega
    have a5:Below wr.heap.size wr (wr.drewN nq):=⟨rfl,rfl,rfl,qm _,fun _ _=>rfl⟩
    generalize wr.drewN nq=w2 at a5 |-
    go_quiet ((go_at_call 218;exact ku (b3 _)))
    have b9:Below wr.heap.size wr (w2.drewN nq):=a5.trans ⟨rfl,rfl,rfl,qm _,fun _ _=>rfl⟩
    go_wp2_with fail;rw [wT]
    go_simp
    go_wp2;go_ret;exact ⟨rfl,b9⟩
theorem jgX (l:List UInt8)(w:World)(hl:l.length<=9223372036854775807) :
  Calls prog 215 #[.string (SB l)] w fun e w'=>e=.returned (.bool (zi l))/\Below w.heap.size w w':=by
 have b1:(SB l).size=l.length:=SB_size l;have b2:(SB l).toList=l:=jh l;by_cases h1:l.length<1
 .
  have e1:=jav (l:=l) (by omega)
  obtain rfl:l = []:=qw (by omega)
  have E1:=Hd e1;clear e1;go_enter func215,ntmps215;go_wp2;go_ret;rw [E1.1];exact ⟨rfl,qG _ _⟩
 have h0:l.isEmpty=false:=by
  cases l with
  | nil=>simp at h1
  | cons a l=>rfl
 by_cases h2:32<l.length
 .
  have e1:=jav (l:=l) (by omega)
  have b0:(32:Int)<((l.length:Nat):Int):=by omega
  have E1:=Hd e1;clear e1;go_enter func215,ntmps215;go_wp2;go_ret;rw [E1.1];exact ⟨rfl,qG _ _⟩
 have b0:¬ (32:Int)<((l.length:Nat):Int):=by omega
 go_enter func215,ntmps215;go_wp2
 go_loopg [] l.length (fun gk wr=>∃ pos,gk+pos=l.length/\wr.heap[w.heap.size]?=some (.stringIter (SB l) pos)/\Below w.heap.size w wr/\∀ i,i<pos->vK l i=true)
 case atStart=>exact ⟨0,rfl,World.iter_heap w (SB l) 0,(qG _ w).alloc (qm _) _,fun i hi=>by omega⟩
 case round =>
  obtain ⟨pos,a1,a2,a3,hI⟩:=hrel;have C:=Hd a1;have E:=Hd hI;by_cases hp:pos<l.length
  .
   have D:=Hd hp;have a0:pos<(SB l).size:=by omega
   have hg:((SB l)[pos]'a0).toNat=(l.getD pos 0).toNat:=by rw [jkj]
   obtain ⟨c,hc⟩:=Nm ((l.getD pos 0).toNat);rw [<- hc] at hg;by_cases hlo:c<128
   .
    have a7:((SB l)[pos]'a0).toNat<128:=by rw [hg];omega
    have a4:∀ ty,(Instr.next (.pointer (some ⟨w.heap.size,0,none⟩)) true ty).run prog wr=_:=fun ty=>Lib.run_next_ascii_at wr w.heap.size (SB l) pos ty a2 a0 a7
    rw [hg] at a4;have a6:=Lib.iterAt_heap wr w.heap.size (SB l) pos (pos+1) a2;have H:=Hd (Lib.below_iterAt a3 (k:=w.heap.size) (by omega) (SB l) (pos+1))
    have A:=Hd (fun w=>jg8 c w hlo)
    clear hg a7 a2 a3
    rcases (show (97<=c/\c<=122)\/(c<97/\pos=0)\/(122<c/\pos=0)\/(c<97/\pos≠0)\/(122<c/\pos≠0) by omega) with hcs | hcs | hcs | hcs | hcs
    .
     have f0:(97:Int)<=(c:Int):=by omega
     have f1:(c:Int)<=122:=by omega
     have B:=Hd (xC (l:=l) (k:=pos) E.1 (yp hc (by unfold zF xU;simp;omega)))
     clear hcs hI a1 hc hp a0 A;go_wp2
     go_roundg (l.length-(pos+1))
     case measure=>have:=C.1;have:=D.1;omega
     case rel=>exact ⟨pos+1,by have:=C.1;have:=D.1;omega,a6,H.1,B.1⟩
    .
     have f0:¬ (97:Int)<=(c:Int):=by omega
     have f1:((pos:Int)==0)=true:=by simp;omega
     have B:=Hd (xM hp (yp hc (by unfold zF xU;simp;omega)))
     clear hcs hI a1 hc hp a0 A;go_wp2;go_ret;rw [B.1];exact ⟨rfl,H.1⟩
    .
     have f0:(97:Int)<=(c:Int):=by omega
     have f1:¬ (c:Int)<=122:=by omega
     have f2:((pos:Int)==0)=true:=by simp;omega
     have B:=Hd (xM hp (yp hc (by unfold zF xU;simp;omega)))
     clear hcs hI a1 hc hp a0 A;go_wp2;go_ret;rw [B.1];exact ⟨rfl,H.1⟩
    .
     have f0:¬ (97:Int)<=(c:Int):=by omega
     have f1:((pos:Int)==0)=false:=by simp;omega
     by_cases hd:xU c=true
     .
      have B:=Hd (xC (l:=l) (k:=pos) E.1 (yp hc (by rw [hd];simp;omega)))
      have Hc2:=A.1;rw [hd] at Hc2;clear hcs hI a1 hc hp a0 A;go_wp2_with fail;refine (Hc2 _).mono ?_;rintro e w1 ⟨rfl,rfl⟩;go_wp2
      go_roundg (l.length-(pos+1))
      case measure=>have:=C.1;have:=D.1;omega
      case rel=>exact ⟨pos+1,by have:=C.1;have:=D.1;omega,a6,H.1,B.1⟩
     .
      have a5:xU c=false:=by simpa using hd
      have B:=Hd (xM hp (yp hc (by rw [a5];unfold zF;simp;omega)))
      have Hc2:=A.1;rw [a5] at Hc2;clear hcs hI a1 hc hp a0 A;go_wp2_with fail;refine (Hc2 _).mono ?_;rintro e w1 ⟨rfl,rfl⟩;go_wp2;go_ret;rw [B.1];exact ⟨rfl,H.1⟩
    .
     have f0:(97:Int)<=(c:Int):=by omega
     have f1:¬ (c:Int)<=122:=by omega
     have f2:((pos:Int)==0)=false:=by simp;omega
     by_cases hd:xU c=true
     .
      have B:=Hd (xC (l:=l) (k:=pos) E.1 (yp hc (by rw [hd];simp;omega)))
      have Hc2:=A.1;rw [hd] at Hc2;clear hcs hI a1 hc hp a0 A;go_wp2_with fail;refine (Hc2 _).mono ?_;rintro e w1 ⟨rfl,rfl⟩;go_wp2
      go_roundg (l.length-(pos+1))
      case measure=>have:=C.1;have:=D.1;omega
      case rel=>exact ⟨pos+1,by have:=C.1;have:=D.1;omega,a6,H.1,B.1⟩
     .
      have a5:xU c=false:=by simpa using hd
      have B:=Hd (xM hp (yp hc (by rw [a5];unfold zF;simp;omega)))
      have Hc2:=A.1;rw [a5] at Hc2;clear hcs hI a1 hc hp a0 A;go_wp2_with fail;refine (Hc2 _).mono ?_;rintro e w1 ⟨rfl,rfl⟩;go_wp2;go_ret;rw [B.1];exact ⟨rfl,H.1⟩
   .
    have a8:128<=((SB l)[pos]'a0).toNat:=by rw [hg];omega
    obtain ⟨d1,d2⟩:=decode_high (SB l) pos a0 a8;have d3:=decode_le (SB l) pos;have a4:∀ ty,(Instr.next (.pointer (some ⟨w.heap.size,0,none⟩)) true ty).run prog wr=_:=fun ty=>Lib.run_next_any_at wr w.heap.size (SB l) pos ty a2 a0
    obtain ⟨r,hr⟩:=Nm ((Utf8.decode (SB l) pos).1);obtain ⟨q,hq⟩:=Nm ((Utf8.decode (SB l) pos).2);rw [<- hr] at a4 d1 d3;rw [<- hq] at a4;have H:=Hd (Lib.below_iterAt a3 (k:=w.heap.size) (by omega) (SB l) (pos+q))
    have B:=Hd (xM hp (yp hc (b:=false) (by unfold zF xU;simp;omega)))
    have A:=Hd (jgV (r:Int) (wr.iterAt w.heap.size (SB l) (pos+q)) (by omega) (by omega))
    have f0:(97:Int)<=(r:Int):=by omega
    have f1:¬ (r:Int)<=122:=by omega
    have b3:=a3.size;clear hg a8 a2 a3 hr hq d1 d2 d3 hc hlo hI a1;by_cases hp0:pos=0
    .
     have f2:((pos:Int)==0)=true:=by simp;omega
     clear A hp0;go_wp2;go_ret;rw [B.1];exact ⟨rfl,H.1⟩
    .
     have f2:((pos:Int)==0)=false:=by simp;omega
     go_wp2_with fail;refine A.1.mono ?_;rintro e w1 ⟨rfl,a9⟩;have F:=Hd (H.1.trans (a9.mono H.1.size));clear a9 H;go_wp2;go_ret;rw [B.1];exact ⟨rfl,F.1⟩
  .
   have a0:¬ pos<(SB l).size:=by omega
   have a4:∀ ty,(Instr.next (.pointer (some ⟨w.heap.size,0,none⟩)) true ty).run prog wr=_:=fun ty=>Lib.run_next_end_at wr w.heap.size (SB l) pos ty a2 a0
   have E1:=Hd (jfA (l:=l) (by omega) (by omega) (fun i hi=>hI i (by omega)))
   clear hI a1;go_wp2;go_ret;rw [E1.1];exact ⟨rfl,a3⟩
structure SesM where
 slot:Int
 birth:Int
 upS:Int
 upB:Int
 kind:Int
 user:List UInt8
 label:List UInt8
 scopes:Nat
 level:Int
 born:Int
 deadline:Int
 depth:Int
def SesM.cells (s:SesM):Array Value:=#[.int .i64 s.slot,.int .i64 s.birth,.int .i64 s.upS,.int .i64 s.upB,.int .i64 s.kind,.string (SB s.user),.string (SB s.label),.int .u64 (s.scopes:Int),.int .i64 s.level,.int .i64 s.born,.int .i64 s.deadline,.int .i64 s.depth]
def jT (n lo hi:Int):Bool:=decide (lo<=n)&&decide (n<=hi)
theorem jV (h:jT n lo hi=true):lo<=n/\n<=hi:=by simpa [jT] using h
def jE (s:SesM):Bool:=(s.upS==0)&&((s.upB==0)&&(s.label.isEmpty&&(s.depth==0)))
def jx (s:SesM):Bool:=jT s.upS 0 31&&(jT s.upB 1 (s.birth-1)&&(zi s.label&&jT s.depth 1 6))
def jG (s:SesM):Bool:=jT s.slot 0 31&&(jT s.birth 1 1048576&&(zi s.user&&(jT s.level 0 2&&(jT s.born 0 1099511627776&&(jT s.deadline (s.born+1) 1099511627776 &&
 (if (s.kind==0)=true then jE s else if (s.kind==1)=true then jx s else if (s.kind==2)=true then (jx s&&decide (s.deadline<=s.born+300)) else false))))))
theorem jhB (h:l.isEmpty=false):¬ (SB l).toList = []:=by
 rw [jh];cases l with
 | nil=>simp at h
 | cons a l=>simp
theorem jfE (h:l.isEmpty=true):(SB l).toList = []:=by
 rw [jh];exact pU.1 h
theorem jfN {b:Int}(h:jT b 0 1099511627776=true):IntKind.i64.wrap (b+1)=b+1:=by
 have:=jV h;simp [IntKind.wrap,IntKind.bits,IntKind.signed];omega
theorem jjY {b:Int}(h:jT b 0 1099511627776=true):IntKind.i64.wrap (b+300)=b+300:=by
 have:=jV h;simp [IntKind.wrap,IntKind.bits,IntKind.signed];omega
theorem jbb {b:Int}(h:jT b 1 1048576=true):IntKind.i64.wrap (b-1)=b-1:=by
 have:=jV h;simp [IntKind.wrap,IntKind.bits,IntKind.signed];omega
theorem jjA {b d:Int}(h:jT b 0 1099511627776=true)(h2:jT d (b+1) 1099511627776=true):IntKind.i64.wrap (d-b)=d-b:=by
 have:=jV h;have:=jV h2;simp [IntKind.wrap,IntKind.bits,IntKind.signed];omega
theorem jo (h:jT n lo hi=b)(w:World) :
  Calls prog 155 #[n,lo,hi] w fun e w'=>e=.returned (.bool b)/\w'=w:=by
 subst h;unfold jT;go_enter func155,ntmps155;by_cases h1:lo<=n
 .
  by_cases h2:n<=hi
  .
   go_wp2;go_ret
   simp [h1,h2]
  .
   go_wp2;go_ret
   simp [h2]
 .
  go_wp2;go_ret
  simp;intro h;omega
theorem zz (h:zi l=b)(hl:l.length<=9223372036854775807)(w:World) :
  Calls prog 175 #[.string (SB l)] w fun e w'=>e=.returned (.bool b)/\w'=w:=h ▸ jeU l w hl
theorem vX (s:SesM)(w:World)(hu:s.user.length<=9223372036854775807)(hl:s.label.length<=9223372036854775807) :
  Calls prog 154 #[.agg s.cells] w fun e w'=>e=.returned (.bool (jG s))/\Below w.heap.size w w':=by
 unfold SesM.cells;have H:=Hd (fun o=>ja w o)
 have A:=Hd (show ∀ b,jG s=b->(b=jG s) from fun _ h=>h.symm)
 go_enter func154,ntmps154;go_wp2_with fail
 cases h1:jT s.slot 0 31
 .
  refine (jo h1 _).mono ?_;rintro e w1 ⟨rfl,rfl⟩;go_wp2;go_ret;exact ⟨jg (congrArg Value.bool (A.1 _ (by unfold jG jE jx;rw [h1];first | done | rfl))),H.1 _⟩
 refine (jo h1 _).mono ?_;rintro e w1 ⟨rfl,rfl⟩;go_wp2_with fail
 cases h2:jT s.birth 1 1048576
 .
  refine (jo h2 _).mono ?_;rintro e w1 ⟨rfl,rfl⟩;go_wp2;go_ret;exact ⟨jg (congrArg Value.bool (A.1 _ (by unfold jG jE jx;rw [h1,h2];first | done | rfl))),H.1 _⟩
 refine (jo h2 _).mono ?_;rintro e w1 ⟨rfl,rfl⟩;go_wp2_with fail
 cases h3:zi s.user
 .
  refine (zz h3 hu _).mono ?_;rintro e w1 ⟨rfl,rfl⟩;go_wp2;go_ret;exact ⟨jg (congrArg Value.bool (A.1 _ (by unfold jG jE jx;rw [h1,h2,h3];first | done | rfl))),H.1 _⟩
 refine (zz h3 hu _).mono ?_;rintro e w1 ⟨rfl,rfl⟩;go_wp2_with fail
 cases h4:jT s.level 0 2
 .
  refine (jo h4 _).mono ?_;rintro e w1 ⟨rfl,rfl⟩;go_wp2;go_ret;exact ⟨jg (congrArg Value.bool (A.1 _ (by unfold jG jE jx;rw [h1,h2,h3,h4];first | done | rfl))),H.1 _⟩
 refine (jo h4 _).mono ?_;rintro e w1 ⟨rfl,rfl⟩;go_wp2_with fail
 cases h5:jT s.born 0 1099511627776
 .
  refine (jo h5 _).mono ?_;rintro e w1 ⟨rfl,rfl⟩;go_wp2;go_ret;exact ⟨jg (congrArg Value.bool (A.1 _ (by unfold jG jE jx;rw [h1,h2,h3,h4,h5];first | done | rfl))),H.1 _⟩
 refine (jo h5 _).mono ?_;rintro e w1 ⟨rfl,rfl⟩;have z1:=jfN h5;go_wp2_with fail
 cases h6:jT s.deadline (s.born+1) 1099511627776
 .
  refine (jo h6 _).mono ?_;rintro e w1 ⟨rfl,rfl⟩;go_wp2;go_ret;exact ⟨jg (congrArg Value.bool (A.1 _ (by unfold jG jE jx;rw [h1,h2,h3,h4,h5,h6];first | done | rfl))),H.1 _⟩
 refine (jo h6 _).mono ?_;rintro e w1 ⟨rfl,rfl⟩
 cases k0:(s.kind==0)
 rotate_left
 .
  cases u1:(s.upS==0)
  .
   go_wp2;go_ret;exact ⟨jg (congrArg Value.bool (A.1 _ (by unfold jG jE jx;rw [h1,h2,h3,h4,h5,h6,k0,u1];first | done | rfl))),H.1 _⟩
  cases u2:(s.upB==0)
  .
   go_wp2;go_ret;exact ⟨jg (congrArg Value.bool (A.1 _ (by unfold jG jE jx;rw [h1,h2,h3,h4,h5,h6,k0,u1,u2];first | done | rfl))),H.1 _⟩
  cases u3:s.label.isEmpty
  .
   have u5:¬ (SB s.label).toList = []:=jhB u3;go_wp2;go_ret;exact ⟨jg (congrArg Value.bool (A.1 _ (by unfold jG jE jx;rw [h1,h2,h3,h4,h5,h6,k0,u1,u2,u3];first | done | rfl))),H.1 _⟩
  have u5:(SB s.label).toList = []:=jfE u3
  cases u4:(s.depth==0)
  .
   go_wp2;go_ret;exact ⟨jg (congrArg Value.bool (A.1 _ (by unfold jG jE jx;rw [h1,h2,h3,h4,h5,h6,k0,u1,u2,u3,u4];first | done | rfl))),H.1 _⟩
  go_wp2;go_ret;exact ⟨jg (congrArg Value.bool (A.1 _ (by unfold jG jE jx;rw [h1,h2,h3,h4,h5,h6,k0,u1,u2,u3,u4];first | done | rfl))),H.1 _⟩
 cases k1:(s.kind==1)
 rotate_left
 .
  skip
  have z2:=jbb h2;go_wp2_with fail
  cases c1:jT s.upS 0 31
  .
   refine (jo c1 _).mono ?_;rintro e w1 ⟨rfl,rfl⟩;go_wp2;go_ret;exact ⟨jg (congrArg Value.bool (A.1 _ (by unfold jG jE jx;rw [h1,h2,h3,h4,h5,h6,k0,k1,c1];first | done | rfl))),H.1 _⟩
  refine (jo c1 _).mono ?_;rintro e w1 ⟨rfl,rfl⟩;go_wp2_with fail
  cases c2:jT s.upB 1 (s.birth-1)
  .
   refine (jo c2 _).mono ?_;rintro e w1 ⟨rfl,rfl⟩;go_wp2;go_ret;exact ⟨jg (congrArg Value.bool (A.1 _ (by unfold jG jE jx;rw [h1,h2,h3,h4,h5,h6,k0,k1,c1,c2];first | done | rfl))),H.1 _⟩
  refine (jo c2 _).mono ?_;rintro e w1 ⟨rfl,rfl⟩;go_wp2_with fail
  cases c3:zi s.label
  .
   refine (zz c3 hl _).mono ?_;rintro e w1 ⟨rfl,rfl⟩;go_wp2;go_ret;exact ⟨jg (congrArg Value.bool (A.1 _ (by unfold jG jE jx;rw [h1,h2,h3,h4,h5,h6,k0,k1,c1,c2,c3];first | done | rfl))),H.1 _⟩
  refine (zz c3 hl _).mono ?_;rintro e w1 ⟨rfl,rfl⟩;go_wp2_with fail
  cases c4:jT s.depth 1 6
  .
   refine (jo c4 _).mono ?_;rintro e w1 ⟨rfl,rfl⟩;go_wp2;go_ret;exact ⟨jg (congrArg Value.bool (A.1 _ (by unfold jG jE jx;rw [h1,h2,h3,h4,h5,h6,k0,k1,c1,c2,c3,c4];first | done | rfl))),H.1 _⟩
  refine (jo c4 _).mono ?_;rintro e w1 ⟨rfl,rfl⟩;go_wp2;go_ret;exact ⟨jg (congrArg Value.bool (A.1 _ (by unfold jG jE jx;rw [h1,h2,h3,h4,h5,h6,k0,k1,c1,c2,c3,c4];first | done | rfl))),H.1 _⟩
 cases k2:(s.kind==2)
 rotate_left
 .
  skip
  have z2:=jbb h2;go_wp2_with fail
  cases c1:jT s.upS 0 31
  .
   refine (jo c1 _).mono ?_;rintro e w1 ⟨rfl,rfl⟩;go_wp2;go_ret;exact ⟨jg (congrArg Value.bool (A.1 _ (by unfold jG jE jx;rw [h1,h2,h3,h4,h5,h6,k0,k1,k2,c1];first | done | rfl))),H.1 _⟩
  refine (jo c1 _).mono ?_;rintro e w1 ⟨rfl,rfl⟩;go_wp2_with fail
  cases c2:jT s.upB 1 (s.birth-1)
  .
   refine (jo c2 _).mono ?_;rintro e w1 ⟨rfl,rfl⟩;go_wp2;go_ret;exact ⟨jg (congrArg Value.bool (A.1 _ (by unfold jG jE jx;rw [h1,h2,h3,h4,h5,h6,k0,k1,k2,c1,c2];first | done | rfl))),H.1 _⟩
  refine (jo c2 _).mono ?_;rintro e w1 ⟨rfl,rfl⟩;go_wp2_with fail
  cases c3:zi s.label
  .
   refine (zz c3 hl _).mono ?_;rintro e w1 ⟨rfl,rfl⟩;go_wp2;go_ret;exact ⟨jg (congrArg Value.bool (A.1 _ (by unfold jG jE jx;rw [h1,h2,h3,h4,h5,h6,k0,k1,k2,c1,c2,c3];first | done | rfl))),H.1 _⟩
  refine (zz c3 hl _).mono ?_;rintro e w1 ⟨rfl,rfl⟩;go_wp2_with fail
  cases c4:jT s.depth 1 6
  .
   refine (jo c4 _).mono ?_;rintro e w1 ⟨rfl,rfl⟩;go_wp2;go_ret;exact ⟨jg (congrArg Value.bool (A.1 _ (by unfold jG jE jx;rw [h1,h2,h3,h4,h5,h6,k0,k1,k2,c1,c2,c3,c4];first | done | rfl))),H.1 _⟩
  refine (jo c4 _).mono ?_;rintro e w1 ⟨rfl,rfl⟩;have z3:=jjY h5;by_cases c5:s.deadline<=s.born+300
  .
   have c6:decide (s.deadline<=s.born+300)=true:=qz c5;go_wp2;go_ret;exact ⟨jg (congrArg Value.bool (A.1 _ (by unfold jG jE jx;rw [h1,h2,h3,h4,h5,h6,k0,k1,k2,c1,c2,c3,c4,c6];first | done | rfl))),H.1 _⟩
  .
   have c6:decide (s.deadline<=s.born+300)=false:=qv c5;go_wp2;go_ret;exact ⟨jg (congrArg Value.bool (A.1 _ (by unfold jG jE jx;rw [h1,h2,h3,h4,h5,h6,k0,k1,k2,c1,c2,c3,c4,c6];first | done | rfl))),H.1 _⟩
 go_wp2;go_ret;exact ⟨jg (congrArg Value.bool (A.1 _ (by unfold jG jE jx;rw [h1,h2,h3,h4,h5,h6,k0,k1,k2];first | done | rfl))),H.1 _⟩
structure EvtM where
 kind:Int
 s:SesM
 birth:Int
 ticks:Int
def EvtM.cells (e:EvtM):Array Value:=#[.int .i64 e.kind,.int .i64 e.s.slot,.int .i64 e.s.birth,.int .i64 e.s.upS,.int .i64 e.s.upB,.int .i64 e.s.kind,.string (SB e.s.user),.string (SB e.s.label),.int .u64 (e.s.scopes:Int),.int .i64 e.s.level,.int .i64 e.s.born,.int .i64 e.s.deadline,.int .i64 e.s.depth,.int .i64 e.birth,.int .i64 e.ticks]
def ju:SesM:=⟨0,0,0,0,0,[],[],0,0,0,0,0⟩
def zk (s t:SesM):Bool:=(s.slot==t.slot)&&((s.birth==t.birth)&&((s.upS==t.upS)&&((s.upB==t.upB)&&((s.kind==t.kind)&&((s.user==t.user)&&((s.label==t.label)&&(((s.scopes:Int)==(t.scopes:Int))&&((s.level==t.level)&&((s.born==t.born)&&((s.deadline==t.deadline)&&(s.depth==t.depth)))))))))))
def jaq (e f:EvtM):Bool:=(e.kind==f.kind)&&(zk e.s f.s&&((e.birth==f.birth)&&(e.ticks==f.ticks)))
theorem yB {s t:SesM}:zk s t=true↔s=t:=by
 unfold zk
 constructor
 .
  intro h;simp only [qq,qK] at h;obtain ⟨h1,h2,h3,h4,h5,h6,h7,h8,h9,a0,a1,a2⟩:=h;have a3:s.scopes=t.scopes:=by omega
  cases s;cases t;simp_all
 . rintro rfl;simp
theorem vd {e f:EvtM}:jaq e f=true↔e=f:=by
 unfold jaq
 constructor
 .
  intro h;simp only [qq,qK,yB] at h;obtain ⟨h1,h2,h3,h4⟩:=h
  cases e;cases f;simp_all
 . rintro rfl;simp [yB]
theorem xl {α:Type}[DecidableEq α][BEq α][LawfulBEq α]{a b : α}:(a==b)=decide (a=b):=by rw [Bool.eq_iff_iff];simp
theorem jz {α:Type}(g:Bool -> α){p:Prop}[Decidable p]{c:Bool}{X:Result α}{z : α}(h:c=decide p)(hz:z=g false)(hx:X=Result.ok (g b) w) :
  (if p then X else Result.ok z w)=Result.ok (g (c&&b)) w:=by
 subst h;subst hz;subst hx;by_cases hp:p
 . rw [qf hp,qz hp];rfl
 . rw [qh hp,qv hp];rfl
theorem jbT {α:Type}(g:Bool -> α){p:Prop}[Decidable p]{c:Bool}{y z : α}(h:c=decide p)(hz:z=g false)(hy:y=g true) :
  (if p then Result.ok y w else Result.ok z w)=Result.ok (g c) w:=by
 subst h;subst hz;subst hy;by_cases hp:p
 . rw [qf hp,qz hp]
 . rw [qh hp,qv hp]
theorem jk0 (s t:SesM)(w:World):(binOp .eql 45 (.agg s.cells) (.agg t.cells)).run prog w=.ok (.bool (zk s t)) w:=by
 unfold SesM.cells zk
 go_simp
 simp only [jh];refine jz (Value.bool) xl rfl ?_;refine jz (Value.bool) xl rfl ?_;refine jz (Value.bool) xl rfl ?_;refine jz (Value.bool) xl rfl ?_;refine jz (Value.bool) xl rfl ?_;refine jz (Value.bool) xl rfl ?_;refine jz (Value.bool) xl rfl ?_;refine jz (Value.bool) xl rfl ?_;refine jz (Value.bool) xl rfl ?_;refine jz (Value.bool) xl rfl ?_;refine jz (Value.bool) xl rfl ?_;exact jbT (Value.bool) xl rfl rfl
theorem jdB (e f:EvtM)(w:World):(binOp .neq 47 (.agg e.cells) (.agg f.cells)).run prog w=.ok (.bool (!(jaq e f))) w:=by
 obtain ⟨r,hr⟩:=Nm (jaq e f);rw [<- hr];unfold EvtM.cells
 go_simp
 subst hr;unfold jaq zk;simp only [jh,Bool.and_assoc];refine jz (fun b=>Value.bool (!b)) xl rfl ?_
 refine jz (fun b=>Value.bool (!b)) xl rfl ?_
 refine jz (fun b=>Value.bool (!b)) xl rfl ?_
 refine jz (fun b=>Value.bool (!b)) xl rfl ?_
 refine jz (fun b=>Value.bool (!b)) xl rfl ?_
 refine jz (fun b=>Value.bool (!b)) xl rfl ?_
 refine jz (fun b=>Value.bool (!b)) xl rfl ?_
 refine jz (fun b=>Value.bool (!b)) xl rfl ?_
 refine jz (fun b=>Value.bool (!b)) xl rfl ?_
 refine jz (fun b=>Value.bool (!b)) xl rfl ?_
 refine jz (fun b=>Value.bool (!b)) xl rfl ?_
 refine jz (fun b=>Value.bool (!b)) xl rfl ?_
 refine jz (fun b=>Value.bool (!b)) xl rfl ?_
 refine jz (fun b=>Value.bool (!b)) xl rfl ?_
 refine jbT (fun b=>Value.bool (!b)) ?_ rfl rfl
 exact xl
def jM (e:EvtM):Bool:=if (e.kind==0)=true then (e.birth==0)&&((e.ticks==0)&&jG e.s)
 else if (e.kind==1)=true then zk e.s ju&&((e.ticks==0)&&jT e.birth 1 1048576)
 else if (e.kind==2)=true then zk e.s ju&&((e.birth==0)&&jT e.ticks 1 1073741824) else false
theorem jl (w:World)(o o':Obj):Below w.heap.size w ((w.alloc o).alloc o'):=(ja w o).trans ((ja _ o').mono (by simp))
theorem uz (e:EvtM)(w:World)(hu:e.s.user.length<=9223372036854775807)(hl:e.s.label.length<=9223372036854775807) :
  Calls prog 115 #[.agg e.cells] w fun ev w'=>ev=.returned (.bool (jM e))/\Below w.heap.size w w':=by
 have a0:=fun w=>jk0 e.s ju w
 unfold SesM.cells at a0
 change ∀ w,(binOp .eql 45 (.agg _) (.agg #[(0:Int),(0:Int),(0:Int),(0:Int),(0:Int),.string ⟨#[]⟩,.string ⟨#[]⟩,.int .u64 0,(0:Int),(0:Int),(0:Int),(0:Int)])).run prog w=_ at a0
 have A:=Hd a0;have H:=Hd (show ∀ b,jM e=b->(b=jM e) from fun _ h=>h.symm)
 clear a0;unfold EvtM.cells;go_enter func115,ntmps115
 cases k0:(e.kind==0)
 rotate_left
 .
  cases b1:(e.birth==0)
  .
   go_wp2;go_ret;exact ⟨jg (congrArg Value.bool (H.1 _ (by unfold jM;rw [k0,b1];first | done | rfl))),(jl w _ _)⟩
  cases b2:(e.ticks==0)
  .
   go_wp2;go_ret;exact ⟨jg (congrArg Value.bool (H.1 _ (by unfold jM;rw [k0,b1,b2];first | done | rfl))),(jl w _ _)⟩
  go_wp2_with fail;refine (vX e.s _ hu hl).mono ?_;rintro ev w1 ⟨rfl,a2⟩;have B:=Hd ((jl w _ _).trans (a2.mono (by simp;omega)))
  clear a2;go_wp2;go_ret;exact ⟨jg (congrArg Value.bool (H.1 _ (by unfold jM;rw [k0,b1,b2];first | done | rfl))),B.1⟩
 cases k1:(e.kind==1)
 rotate_left
 .
  skip
  have a0:=A.1
  cases s1:zk e.s ju
  .
   rw [s1] at a0;go_wp2;go_ret;exact ⟨jg (congrArg Value.bool (H.1 _ (by unfold jM;rw [k0,k1,s1];first | done | rfl))),(jl w _ _)⟩
  rw [s1] at a0
  cases b1:(e.ticks==0)
  .
   go_wp2;go_ret;exact ⟨jg (congrArg Value.bool (H.1 _ (by unfold jM;rw [k0,k1,s1,b1];first | done | rfl))),(jl w _ _)⟩
  go_wp2_with fail;refine (jo rfl _).mono ?_;rintro ev w1 ⟨rfl,rfl⟩;go_wp2;go_ret;exact ⟨jg (congrArg Value.bool (H.1 _ (by unfold jM;rw [k0,k1,s1,b1];first | done | rfl))),(jl w _ _)⟩
 cases k2:(e.kind==2)
 rotate_left
 .
  skip
  have a0:=A.1
  cases s1:zk e.s ju
  .
   rw [s1] at a0;go_wp2;go_ret;exact ⟨jg (congrArg Value.bool (H.1 _ (by unfold jM;rw [k0,k1,k2,s1];first | done | rfl))),(jl w _ _)⟩
  rw [s1] at a0
  cases b1:(e.birth==0)
  .
   go_wp2;go_ret;exact ⟨jg (congrArg Value.bool (H.1 _ (by unfold jM;rw [k0,k1,k2,s1,b1];first | done | rfl))),(jl w _ _)⟩
  go_wp2_with fail;refine (jo rfl _).mono ?_;rintro ev w1 ⟨rfl,rfl⟩;go_wp2;go_ret;exact ⟨jg (congrArg Value.bool (H.1 _ (by unfold jM;rw [k0,k1,k2,s1,b1];first | done | rfl))),(jl w _ _)⟩
 go_wp2;go_ret;exact ⟨jg (congrArg Value.bool (H.1 _ (by unfold jM;rw [k0,k1,k2];first | done | rfl))),(jl w _ _)⟩
theorem ub (h:zi l=b)(hl:l.length<=9223372036854775807)(w:World) :
  Calls prog 215 #[.string (SB l)] w fun e w'=>e=.returned (.bool b)/\Below w.heap.size w w':=h ▸ jgX l w hl
theorem jA (h:jT n lo hi=b)(w:World) :
  Calls prog 214 #[n,lo,hi] w fun e w'=>e=.returned (.bool b)/\w'=w:=by
 subst h;unfold jT;go_enter func214,ntmps214;by_cases h1:lo<=n
 .
  by_cases h2:n<=hi
  .
   go_wp2;go_ret
   simp [h1,h2]
  .
   go_wp2;go_ret
   simp [h2]
 .
  go_wp2;go_ret
  simp;intro h;omega
theorem jaf (s:SesM)(w:World)(hu:s.user.length<=9223372036854775807)(hl:s.label.length<=9223372036854775807) :
  Calls prog 213 #[.agg s.cells] w fun e w'=>e=.returned (.bool (jG s))/\Below w.heap.size w w':=by
 have A:=Hd (show ∀ b,jG s=b->(b=jG s) from fun _ h=>h.symm)
 have E:=Hd (fun o=>Box.new (w.alloc o) s.cells 45)
 unfold SesM.cells at E |-;have D:=Hd (fun o o2=>jl w o o2)
 go_enter func213,ntmps213;go_wp2_with fail
 cases h1:jT s.slot 0 31
 .
  refine (jA h1 _).mono ?_;rintro e w1 ⟨rfl,rfl⟩;go_wp2;go_ret;exact ⟨jg (congrArg Value.bool (A.1 _ (by unfold jG jE jx;rw [h1];first | done | rfl))),D.1 _ _⟩
 refine (jA h1 _).mono ?_;rintro e w1 ⟨rfl,rfl⟩;go_wp2_with fail
 cases h2:jT s.birth 1 1048576
 .
  refine (jA h2 _).mono ?_;rintro e w1 ⟨rfl,rfl⟩;go_wp2;go_ret;exact ⟨jg (congrArg Value.bool (A.1 _ (by unfold jG jE jx;rw [h1,h2];first | done | rfl))),D.1 _ _⟩
 refine (jA h2 _).mono ?_;rintro e w1 ⟨rfl,rfl⟩;go_wp2_with fail
 cases h3:zi s.user
 .
  refine (ub h3 hu _).mono ?_;rintro e w1 ⟨rfl,a2⟩;have H:=Hd ((D.1 _ _).trans (a2.mono (by simp;omega)))
  clear a2;go_wp2;go_ret;exact ⟨jg (congrArg Value.bool (A.1 _ (by unfold jG jE jx;rw [h1,h2,h3];first | done | rfl))),H.1⟩
 refine (ub h3 hu _).mono ?_;rintro e w1 ⟨rfl,a2⟩;have H:=Hd ((D.1 _ _).trans (a2.mono (by simp;omega)))
 have a0:=(E.1 _).below a2;rw [qj] at a0;have C:=Hd a0;clear a2;have x0:=a0.cell 0 _ rfl;have x1:=a0.cell 1 _ rfl;have x2:=a0.cell 2 _ rfl;have x3:=a0.cell 3 _ rfl;have x4:=a0.cell 4 _ rfl;have x6:=a0.cell 6 _ rfl;have x8:=a0.cell 8 _ rfl;have x9:=a0.cell 9 _ rfl;have x10:=a0.cell 10 _ rfl;have x11:=a0.cell 11 _ rfl;clear a0;go_wp2_with fail
 cases h4:jT s.level 0 2
 .
  refine (jA h4 _).mono ?_;rintro e w1 ⟨rfl,rfl⟩;go_wp2;go_ret;exact ⟨jg (congrArg Value.bool (A.1 _ (by unfold jG jE jx;rw [h1,h2,h3,h4];first | done | rfl))),H.1⟩
 refine (jA h4 _).mono ?_;rintro e w1 ⟨rfl,rfl⟩;go_wp2_with fail
 cases h5:jT s.born 0 1099511627776
 .
  refine (jA h5 _).mono ?_;rintro e w1 ⟨rfl,rfl⟩;go_wp2;go_ret;exact ⟨jg (congrArg Value.bool (A.1 _ (by unfold jG jE jx;rw [h1,h2,h3,h4,h5];first | done | rfl))),H.1⟩
 refine (jA h5 _).mono ?_;rintro e w1 ⟨rfl,rfl⟩;have z1:=jfN h5;go_wp2_with fail
 cases h6:jT s.deadline (s.born+1) 1099511627776
 .
  refine (jA h6 _).mono ?_;rintro e w1 ⟨rfl,rfl⟩;go_wp2;go_ret;exact ⟨jg (congrArg Value.bool (A.1 _ (by unfold jG jE jx;rw [h1,h2,h3,h4,h5,h6];first | done | rfl))),H.1⟩
 refine (jA h6 _).mono ?_;rintro e w1 ⟨rfl,rfl⟩;have z2:=jbb h2;have z3:=jjA h5 h6
 cases k0:(s.kind==0)
 rotate_left
 .
  cases u1:(s.upS==0)
  .
   go_wp2;go_ret;exact ⟨jg (congrArg Value.bool (A.1 _ (by unfold jG jE jx;rw [h1,h2,h3,h4,h5,h6,k0,u1];first | done | rfl))),H.1⟩
  cases u2:(s.upB==0)
  .
   go_wp2;go_ret;exact ⟨jg (congrArg Value.bool (A.1 _ (by unfold jG jE jx;rw [h1,h2,h3,h4,h5,h6,k0,u1,u2];first | done | rfl))),H.1⟩
  cases u3:s.label.isEmpty
  .
   have u5:¬ (SB s.label).toList = []:=jhB u3;go_wp2;go_ret;exact ⟨jg (congrArg Value.bool (A.1 _ (by unfold jG jE jx;rw [h1,h2,h3,h4,h5,h6,k0,u1,u2,u3];first | done | rfl))),H.1⟩
  have u5:(SB s.label).toList = []:=jfE u3
  cases u4:(s.depth==0)
  .
   go_wp2;go_ret;exact ⟨jg (congrArg Value.bool (A.1 _ (by unfold jG jE jx;rw [h1,h2,h3,h4,h5,h6,k0,u1,u2,u3,u4];first | done | rfl))),H.1⟩
  go_wp2;go_ret;exact ⟨jg (congrArg Value.bool (A.1 _ (by unfold jG jE jx;rw [h1,h2,h3,h4,h5,h6,k0,u1,u2,u3,u4];first | done | rfl))),H.1⟩
 cases k1:(s.kind==1)
 rotate_left
 .
  have k2:(s.kind==2)=false:=by simp at k1 |-;omega
  have k3:(s.kind != 1)=false:=by simp at k1 |-;omega
  go_wp2_with fail
  cases c1:jT s.upS 0 31
  .
   refine (jA c1 _).mono ?_;rintro e w1 ⟨rfl,rfl⟩;go_wp2;go_ret;exact ⟨jg (congrArg Value.bool (A.1 _ (by unfold jG jE jx;rw [h1,h2,h3,h4,h5,h6,k0,k1,c1];first | done | rfl))),H.1⟩
  refine (jA c1 _).mono ?_;rintro e w1 ⟨rfl,rfl⟩;go_wp2_with fail
  cases c2:jT s.upB 1 (s.birth-1)
  .
   refine (jA c2 _).mono ?_;rintro e w1 ⟨rfl,rfl⟩;go_wp2;go_ret;exact ⟨jg (congrArg Value.bool (A.1 _ (by unfold jG jE jx;rw [h1,h2,h3,h4,h5,h6,k0,k1,c1,c2];first | done | rfl))),H.1⟩
  refine (jA c2 _).mono ?_;rintro e w1 ⟨rfl,rfl⟩;go_wp2_with fail
  cases c3:zi s.label
  .
   refine (ub c3 hl _).mono ?_;rintro e w2 ⟨rfl,a1⟩;have B:=Hd (H.1.trans (a1.mono H.1.size));clear a1;go_wp2;go_ret;exact ⟨jg (congrArg Value.bool (A.1 _ (by unfold jG jE jx;rw [h1,h2,h3,h4,h5,h6,k0,k1,c1,c2,c3];first | done | rfl))),B.1⟩
  refine (ub c3 hl _).mono ?_;rintro e w2 ⟨rfl,a1⟩;have B:=Hd (H.1.trans (a1.mono H.1.size));have d11:=(C.1.below a1).cell 11 _ rfl;clear a1;go_wp2_with fail
  cases d4:jT s.depth 1 6
  .
   refine (jA d4 _).mono ?_;rintro e w1 ⟨rfl,rfl⟩;go_wp2;go_ret;exact ⟨jg (congrArg Value.bool (A.1 _ (by unfold jG jE jx;rw [h1,h2,h3,h4,h5,h6,k0,k1,c1,c2,c3,d4];first | done | rfl))),B.1⟩
  refine (jA d4 _).mono ?_;rintro e w1 ⟨rfl,rfl⟩;go_wp2;go_ret;exact ⟨jg (congrArg Value.bool (A.1 _ (by unfold jG jE jx;rw [h1,h2,h3,h4,h5,h6,k0,k1,c1,c2,c3,d4];first | done | rfl))),B.1⟩
 have k3:(s.kind != 1)=true:=by simp at k1 |-;omega
 cases k2:(s.kind==2)
 .
  have k4:(s.kind != 2)=true:=by simp at k2 |-;omega
  go_wp2;go_ret;exact ⟨jg (congrArg Value.bool (A.1 _ (by unfold jG jE jx;rw [h1,h2,h3,h4,h5,h6,k0,k1,k2];first | done | rfl))),H.1⟩
 have k4:(s.kind != 2)=false:=by simp at k2 |-;omega
 by_cases c5:s.deadline<=s.born+300
 .
  have c6:decide (s.deadline<=s.born+300)=true:=qz c5;have c7:¬ (300:Int)<s.deadline-s.born:=by omega
  clear c5;go_wp2_with fail
  cases c1:jT s.upS 0 31
  .
   refine (jA c1 _).mono ?_;rintro e w1 ⟨rfl,rfl⟩;go_wp2;go_ret;exact ⟨jg (congrArg Value.bool (A.1 _ (by unfold jG jE jx;rw [h1,h2,h3,h4,h5,h6,k0,k1,k2,c6,c1];first | done | rfl))),H.1⟩
  refine (jA c1 _).mono ?_;rintro e w1 ⟨rfl,rfl⟩;go_wp2_with fail
  cases c2:jT s.upB 1 (s.birth-1)
  .
   refine (jA c2 _).mono ?_;rintro e w1 ⟨rfl,rfl⟩;go_wp2;go_ret;exact ⟨jg (congrArg Value.bool (A.1 _ (by unfold jG jE jx;rw [h1,h2,h3,h4,h5,h6,k0,k1,k2,c6,c1,c2];first | done | rfl))),H.1⟩
  refine (jA c2 _).mono ?_;rintro e w1 ⟨rfl,rfl⟩;go_wp2_with fail
  cases c3:zi s.label
  .
   refine (ub c3 hl _).mono ?_;rintro e w2 ⟨rfl,a1⟩;have B:=Hd (H.1.trans (a1.mono H.1.size));clear a1;go_wp2;go_ret;exact ⟨jg (congrArg Value.bool (A.1 _ (by unfold jG jE jx;rw [h1,h2,h3,h4,h5,h6,k0,k1,k2,c6,c1,c2,c3];first | done | rfl))),B.1⟩
  refine (ub c3 hl _).mono ?_;rintro e w2 ⟨rfl,a1⟩;have B:=Hd (H.1.trans (a1.mono H.1.size));have d11:=(C.1.below a1).cell 11 _ rfl;clear a1;go_wp2_with fail
  cases d4:jT s.depth 1 6
  .
   refine (jA d4 _).mono ?_;rintro e w1 ⟨rfl,rfl⟩;go_wp2;go_ret;exact ⟨jg (congrArg Value.bool (A.1 _ (by unfold jG jE jx;rw [h1,h2,h3,h4,h5,h6,k0,k1,k2,c6,c1,c2,c3,d4];first | done | rfl))),B.1⟩
  refine (jA d4 _).mono ?_;rintro e w1 ⟨rfl,rfl⟩;go_wp2;go_ret;exact ⟨jg (congrArg Value.bool (A.1 _ (by unfold jG jE jx;rw [h1,h2,h3,h4,h5,h6,k0,k1,k2,c6,c1,c2,c3,d4];first | done | rfl))),B.1⟩
 have c6:decide (s.deadline<=s.born+300)=false:=qv c5;have c7:(300:Int)<s.deadline-s.born:=by omega
 clear c5;go_wp2;go_ret;exact ⟨jg (congrArg Value.bool (A.1 _ (by unfold jG;rw [h1,h2,h3,h4,h5,h6,k0,k1,k2,c6];first | done | simp))),H.1⟩
theorem uF (n:Int)(w:World) :
  Calls prog 224 #[.agg #[n]] w fun e w'=>e=.returned (.bool (jT n 1 1048576))/\Below w.heap.size w w':=by
 have H:=Hd (fun o=>ja w o)
 go_enter func224,ntmps224;go_wp2_with fail;refine (jA rfl _).mono ?_;rintro e w1 ⟨rfl,rfl⟩;go_wp2;go_ret;exact ⟨rfl,H.1 _⟩
theorem jaU (n:Int)(w:World) :
  Calls prog 225 #[.agg #[n]] w fun e w'=>e=.returned (.bool (jT n 1 1073741824))/\Below w.heap.size w w':=by
 have H:=Hd (fun o=>ja w o)
 go_enter func225,ntmps225;go_wp2_with fail;refine (jA rfl _).mono ?_;rintro e w1 ⟨rfl,rfl⟩;go_wp2;go_ret;exact ⟨rfl,H.1 _⟩
theorem yk {P:Program}{ops:Array Oper}{rest:List Oper}{op:Oper}{a:Act}{Q:Exit->Act->World->Prop}(hw:Region.wanted op (yielded ops a.tmps)=true)(ty:TypeId)(x:Operand)(ho:op.op=.load ty x)(b o:Nat)(hx:a.eval x=.pointer (some ⟨b,o,none⟩))(cs:List Value)(d:TypeDesc)(hc:w.rangeAt b o cs)(hu:P.underlying ty=some d)(hd:d.isRow=true)(hi:(P.info? ty).map (·.size)=some cs.length)(h:∀ c,Hid (c=cs.toArray)->wpList P ops Q rest (a.put op.dst (.agg c)) w):wpList P ops Q (op::rest) a w:=by
 rw [wpList,qf hw];exact .inl (wp_load_mid ty x ho b o hx cs d hc hu hd hi (h _ (qe rfl)))
theorem Box.range {b:Nat}{cs:Array Value}(h:Box w b cs t)(o:Nat)(vs:List Value)(a0:∀ j v,vs[j]?=some v->cs[o+j]?=some v):w.rangeAt b o vs:=fun j v hv=>h.cell _ v (a0 j v hv)
theorem Box.there {b:Nat}{cs:Array Value}(h:Box w b cs t)(o n:Nat)(hn:o+n<=cs.size):w.there b o n:=fun j hj=>by
 obtain ⟨v,hv⟩:∃ v,cs[o+j]?=some v:=⟨cs[o+j]'(by omega),Array.getElem?_eq_getElem _⟩
 exact ⟨by rw [h.cell _ v hv];rfl,h.free _⟩
theorem EvtM.sub (e:EvtM):∀ j v,e.s.cells.toList[j]?=some v->e.cells[1+j]?=some v:=by
 intro j v hv;have hj:j<12:=(List.getElem?_eq_some_iff.1 hv).1;have h:j=0\/j=1\/j=2\/j=3\/j=4\/j=5\/j=6\/j=7\/j=8\/j=9\/j=10\/j=11:=by omega
 rcases h with rfl | rfl | rfl | rfl | rfl | rfl | rfl | rfl | rfl | rfl | rfl | rfl <;> exact hv
theorem Box.setSes {b:Nat}(e:EvtM)(s:SesM)(h:Box w b e.cells t):Box (w.setCells b 1 s.cells.toList) b (EvtM.cells ⟨e.kind,s,e.birth,e.ticks⟩) t:=by
 obtain ⟨cs',h1,h2,h3,h4⟩:=Box.setCells s.cells.toList 1 h (by show 1+12<=15;decide)
 have e1:cs'=EvtM.cells ⟨e.kind,s,e.birth,e.ticks⟩:=by
  apply Array.ext_getElem?
  intro j;by_cases hj:j<15
  .
   have hh:j=0\/j=1\/j=2\/j=3\/j=4\/j=5\/j=6\/j=7\/j=8\/j=9\/j=10\/j=11\/j=12\/j=13\/j=14:=by omega
   rcases hh with rfl | rfl | rfl | rfl | rfl | rfl | rfl | rfl | rfl | rfl | rfl | rfl | rfl | rfl | rfl
   . rw [h4 0 (.inl (by omega))];rfl
   . exact h3 0 _ rfl
   . exact h3 1 _ rfl
   . exact h3 2 _ rfl
   . exact h3 3 _ rfl
   . exact h3 4 _ rfl
   . exact h3 5 _ rfl
   . exact h3 6 _ rfl
   . exact h3 7 _ rfl
   . exact h3 8 _ rfl
   . exact h3 9 _ rfl
   . exact h3 10 _ rfl
   . exact h3 11 _ rfl
   . rw [h4 13 (.inr (by show 1+12<=13;decide))];rfl
   . rw [h4 14 (.inr (by show 1+12<=14;decide))];rfl
  .
   have a0:cs'.size=15:=by rw [h2];rfl
   rw [Array.getElem?_eq_none (by omega),Array.getElem?_eq_none (by show 15<=j;omega)]
 rw [<- e1];exact h1
def ofV (e:EvtM):Value:=if jM e=true then (if (e.kind==0)=true then .iface 135 (.agg e.s.cells) else if (e.kind==1)=true then .iface 138 (.agg #[e.birth]) else .iface 140 (.agg #[e.ticks])) else .nilIface
theorem uo {e:EvtM}(h:jM e=false):ofV e=.nilIface:=by unfold ofV;rw [h];rfl
theorem jfk {e:EvtM}(h:jM e=true)(k:(e.kind==0)=true):ofV e=.iface 135 (.agg e.s.cells):=by unfold ofV;rw [h,k];rfl
theorem jdL {e:EvtM}(h:jM e=true)(k0:(e.kind==0)=false)(k:(e.kind==1)=true):ofV e=.iface 138 (.agg #[e.birth]):=by unfold ofV;rw [h,k0,k];rfl
theorem jhS {e:EvtM}(h:jM e=true)(k0:(e.kind==0)=false)(k:(e.kind==1)=false):ofV e=.iface 140 (.agg #[e.ticks]):=by unfold ofV;rw [h,k0,k];rfl
theorem SesM.one (s:SesM):∀ v∈s.cells.toList,v.oneCell'=true:=by
 intro v hv;unfold SesM.cells at hv;simp only [qH,qO,wM] at hv
 rcases hv with rfl | rfl | rfl | rfl | rfl | rfl | rfl | rfl | rfl | rfl | rfl | rfl <;> rfl
theorem jft {e:EvtM}(k0:(e.kind==0)=true)(h:e=⟨e.kind,e.s,0,0⟩):jM e=jG e.s:=by
 have h1:e.birth=0:=by rw [h]
 have h2:e.ticks=0:=by rw [h]
 unfold jM;rw [k0,h1,h2];rfl
theorem jku {e:EvtM}(k0:(e.kind==0)=true)(h:jaq e ⟨e.kind,e.s,0,0⟩=false):jM e=false:=by
 cases hm:jM e
 . rfl
 .
  exfalso
  unfold jM at hm;rw [k0] at hm;simp only [pB,qq,qK] at hm;obtain ⟨h1,h2,_⟩:=hm;have:e=⟨e.kind,e.s,0,0⟩:=by cases e;simp_all
  rw [vd.2 this] at h;cases h
theorem jdP {e:EvtM}(k0:(e.kind==0)=false)(k1:(e.kind==1)=true)(h:e=⟨e.kind,ju,e.birth,0⟩):jM e=jT e.birth 1 1048576:=by
 have h1:e.s=ju:=by rw [h]
 have h2:e.ticks=0:=by rw [h]
 have h3:zk e.s ju=true:=yB.2 h1;unfold jM;rw [k0,k1,h3,h2];rfl
theorem jjs {e:EvtM}(k0:(e.kind==0)=false)(k1:(e.kind==1)=true)(h:jaq e ⟨e.kind,ju,e.birth,0⟩=false):jM e=false:=by
 cases hm:jM e
 . rfl
 .
  exfalso
  unfold jM at hm;rw [k0,k1] at hm;simp only [pB,qq,qK,wH,ks,yB] at hm;obtain ⟨h1,h2,_⟩:=hm;have:e=⟨e.kind,ju,e.birth,0⟩:=by cases e;simp_all
  rw [vd.2 this] at h;cases h
theorem jgI {e:EvtM}(k0:(e.kind==0)=false)(k1:(e.kind==1)=false)(k2:(e.kind==2)=true)(h:e=⟨e.kind,ju,0,e.ticks⟩):jM e=jT e.ticks 1 1073741824:=by
 have h1:e.s=ju:=by rw [h]
 have h2:e.birth=0:=by rw [h]
 have h3:zk e.s ju=true:=yB.2 h1;unfold jM;rw [k0,k1,k2,h3,h2];rfl
theorem jlJ {e:EvtM}(k0:(e.kind==0)=false)(k1:(e.kind==1)=false)(k2:(e.kind==2)=true)(h:jaq e ⟨e.kind,ju,0,e.ticks⟩=false):jM e=false:=by
 cases hm:jM e
 . rfl
 .
  exfalso
  unfold jM at hm;rw [k0,k1,k2] at hm;simp only [pB,qq,qK,wH,ks,yB] at hm;obtain ⟨h1,h2,_⟩:=hm;have:e=⟨e.kind,ju,0,e.ticks⟩:=by cases e;simp_all
  rw [vd.2 this] at h;cases h
theorem jbp {e:EvtM}(k0:(e.kind==0)=false)(k1:(e.kind==1)=false)(k2:(e.kind==2)=false):jM e=false:=by
 unfold jM;rw [k0,k1,k2];rfl
theorem jhE (e:EvtM)(w:World)(hu:e.s.user.length<=9223372036854775807)(hl:e.s.label.length<=9223372036854775807) :
  Calls prog 65 #[.agg e.cells] w fun ev w'=>ev=.returned (ofV e)/\Below w.heap.size w w':=by
 have L:=Hd (show e.cells=#[.int .i64 e.kind,.int .i64 e.s.slot,.int .i64 e.s.birth,.int .i64 e.s.upS,.int .i64 e.s.upB,.int .i64 e.s.kind,.string (SB e.s.user),.string (SB e.s.label),.int .u64 (e.s.scopes:Int),.int .i64 e.s.level,.int .i64 e.s.born,.int .i64 e.s.deadline,.int .i64 e.s.depth,.int .i64 e.birth,.int .i64 e.ticks] from rfl)
 have I:=Hd (jl w);have E:=Hd (fun o=>(Box.new w e.cells 47).below (ja (w.alloc (.cells e.cells 47)) o))
 have G:=Hd (fun o=>Box.new (w.alloc o) (EvtM.cells ⟨e.kind,ju,0,0⟩) 47)
 rw [L.1] at E |-;go_enter func65,ntmps65
 cases k0:(e.kind==0)
 rotate_left
 .
  skip
  go_wp2_with fail;generalize hw1:World.alloc (World.alloc w _) _=w1;have a4:Box w1 w.heap.size e.cells 47:=by rw [<- hw1];exact E.1 _
  have a5:Box w1 (w.heap.size+1) (EvtM.cells ⟨e.kind,ju,0,0⟩) 47:=by rw [<- hw1];have:=G.1 (.cells e.cells 47);rw [qj] at this;exact this
  have a9:Below w.heap.size w w1:=by rw [<- hw1];exact I.1 _ _
  have B:=Hd (show Box w1.drew w.heap.size e.cells 47 from a4)
  have A:=Hd (show Box w1.drew (w.heap.size+1) (EvtM.cells ⟨e.kind,ju,0,0⟩) 47 from a5)
  have H:=Hd (a9.drew);clear hw1 a4 a5 a9 E G I;have J:=Hd (B.1.range 1 e.s.cells.toList (EvtM.sub e));have K:=Hd (A.1.there 1 12 (by show 1+12<=15;decide))
  go_still_tail 8,(by kernel_rfl)
  refine xk rfl 45 (.tmp 12) rfl w.heap.size 1 rfl [e.s.slot,e.s.birth,e.s.upS,e.s.upB,e.s.kind,.string (SB e.s.user),.string (SB e.s.label),.int .u64 (e.s.scopes:Int),e.s.level,e.s.born,e.s.deadline,e.s.depth] _ J.1 underlying45 rfl (by kernel_rfl) ?_
  intro cv a3;rw [a3.out];clear a3 cv
  repeat still_step
  refine xk rfl 45 (.tmp 16) rfl w.heap.size 1 rfl [e.s.slot,e.s.birth,e.s.upS,e.s.upB,e.s.kind,.string (SB e.s.user),.string (SB e.s.label),.int .u64 (e.s.scopes:Int),e.s.level,e.s.born,e.s.deadline,e.s.depth] _ J.1 underlying45 rfl (by kernel_rfl) ?_
  intro cv2 a1
  repeat still_step
  refine wpStill_nil ?_
  change wpList _ _ _ _ _ w1.drew
  go_wp2_with (refine jar (op:=⟨none,.store _ _ _,_,_,_,_⟩) rfl 45 (.tmp 18) (.tmp 17) rfl (w.heap.size+1) 1 [e.s.slot,e.s.birth,e.s.upS,e.s.upB,e.s.kind,.string (SB e.s.user),.string (SB e.s.label),.int .u64 (e.s.scopes:Int),e.s.level,e.s.born,e.s.deadline,e.s.depth] rfl cv2 rfl a1 K.1 (by kernel_rfl) e.s.one ?_)
  intro w2 b1;have a4:Box w2 w.heap.size e.cells 47:=by rw [b1.out];exact B.1.mod (F:=fun k=>k=w.heap.size+1) (Mod.setCells (fun k=>k=w.heap.size+1) _ rfl _ _ _) (by omega)
  have a5:Box w2 (w.heap.size+1) (EvtM.cells ⟨e.kind,e.s,0,0⟩) 47:=by rw [b1.out];exact Box.setSes ⟨e.kind,ju,0,0⟩ e.s A.1
  have b0:Below w.heap.size w w2:=by rw [b1.out];exact H.1.trans (Mod.below (F:=fun k=>k=w.heap.size+1) (Mod.setCells (fun k=>k=w.heap.size+1) _ rfl _ _ _) H.1.size (fun i hi=>by omega))
  clear b1 B A H;have B:=Hd a4;have A:=Hd a5;have H:=Hd b0;clear a4 a5 b0;clear J K a1;have C:=Hd (fun w=>jdB e ⟨e.kind,e.s,0,0⟩ w)
  cases hsame:jaq e ⟨e.kind,e.s,0,0⟩
  .
   have a2:jM e=false:=jku k0 hsame;have a6:=C.1;rw [hsame] at a6;clear C
   go_wp2_with (refine yk (op:=⟨some 40,.load _ _,_,_,_,_⟩) (by rfl) 47 (.tmp 1) rfl w.heap.size 0 rfl e.cells.toList _ (B.1.range 0 _ (fun j v hv=>by rw [qA];simpa using hv)) underlying47 rfl (by kernel_rfl) ?_)
   intro cv a3
   go_wp2_with (refine yk (op:=⟨some 41,.load _ _,_,_,_,_⟩) (by rfl) 47 (.tmp 4) rfl (w.heap.size+1) 0 rfl (EvtM.cells ⟨e.kind,e.s,0,0⟩).toList _ (A.1.range 0 _ (fun j v hv=>by rw [qA];simpa using hv)) underlying47 rfl (by kernel_rfl) ?_)
   intro cv2 a1;have e1:cv=e.cells:=by rw [a3.out]
   have e2:cv2=EvtM.cells ⟨e.kind,e.s,0,0⟩:=by rw [a1.out]
   rw [<- e1,<- e2] at a6;clear e1 e2 a3 a1;go_wp2;go_ret;rw [uo a2];exact ⟨rfl,H.1⟩
  have a6:=C.1;rw [hsame] at a6;clear C
  go_wp2_with (refine yk (op:=⟨some 40,.load _ _,_,_,_,_⟩) (by rfl) 47 (.tmp 1) rfl w.heap.size 0 rfl e.cells.toList _ (B.1.range 0 _ (fun j v hv=>by rw [qA];simpa using hv)) underlying47 rfl (by kernel_rfl) ?_)
  intro cv a3
  go_wp2_with (refine yk (op:=⟨some 41,.load _ _,_,_,_,_⟩) (by rfl) 47 (.tmp 4) rfl (w.heap.size+1) 0 rfl (EvtM.cells ⟨e.kind,e.s,0,0⟩).toList _ (A.1.range 0 _ (fun j v hv=>by rw [qA];simpa using hv)) underlying47 rfl (by kernel_rfl) ?_)
  intro cv2 a1;have e1:cv=e.cells:=by rw [a3.out]
  have e2:cv2=EvtM.cells ⟨e.kind,e.s,0,0⟩:=by rw [a1.out]
  rw [<- e1,<- e2] at a6;clear e1 e2 a3 a1;go_wp2_with fail;have a8:=vd.1 hsame
  cases hm:jG e.s
  .
   have a2:=(jft k0 a8).trans hm;have a0:=fun w=>jaf e.s w hu hl
   rw [hm] at a0;refine (a0 _).mono ?_;rintro ev w5 ⟨rfl,a7⟩;have D:=Hd (H.1.trans (a7.mono H.1.size));clear a7 a0 a8;go_wp2;go_ret;rw [uo a2];exact ⟨rfl,D.1⟩
  have a2:=(jft k0 a8).trans hm;have a0:=fun w=>jaf e.s w hu hl
  rw [hm] at a0;refine (a0 _).mono ?_;rintro ev w5 ⟨rfl,a7⟩;have D:=Hd (H.1.trans (a7.mono H.1.size));clear a7 a0 a8;go_wp2;go_ret;rw [jfk a2 k0];exact ⟨rfl,D.1⟩
 cases k1:(e.kind==1)
 rotate_left
 .
  skip
  go_wp2_with fail;generalize hw1:World.alloc (World.alloc w _) _=w1;have a4:Box w1 w.heap.size e.cells 47:=by rw [<- hw1];exact E.1 _
  have a5:Box w1 (w.heap.size+1) (EvtM.cells ⟨e.kind,ju,0,0⟩) 47:=by rw [<- hw1];have:=G.1 (.cells e.cells 47);rw [qj] at this;exact this
  have a9:Below w.heap.size w w1:=by rw [<- hw1];exact I.1 _ _
  have B:=Hd (show Box w1.drew w.heap.size e.cells 47 from a4)
  have A:=Hd (show Box w1.drew (w.heap.size+1) (EvtM.cells ⟨e.kind,ju,0,0⟩) 47 from a5)
  have H:=Hd (a9.drew);clear hw1 a4 a5 a9 E G I;have c0:w1.cell? ⟨w.heap.size,13,none⟩=some (.int .i64 e.birth):=B.1.cell 13 _ rfl;have c1:=A.1.cell 13 _ rfl;have f1:=A.1.free 13
  go_still_tail 8,(by kernel_rfl)
  change wpList _ _ _ _ _ w1.drew
  have a4:Box (w1.drew.setCell ⟨w.heap.size+1,13,none⟩ e.birth) w.heap.size e.cells 47:=B.1.set_other (by simp) _
  have a5:Box (w1.drew.setCell ⟨w.heap.size+1,13,none⟩ e.birth) (w.heap.size+1) (EvtM.cells ⟨e.kind,ju,e.birth,0⟩) 47:=A.1.set 13 _;have b0:Below w.heap.size w (w1.drew.setCell ⟨w.heap.size+1,13,none⟩ e.birth):=H.1.trans (Mod.below (F:=fun k=>k=w.heap.size+1) (Mod.set _ _ _ _ rfl) H.1.size (fun i hi=>by omega))
  clear B A H;have B:=Hd a4;have A:=Hd a5;have H:=Hd b0;clear a4 a5 b0;have C:=Hd (fun w=>jdB e ⟨e.kind,ju,e.birth,0⟩ w)
  cases hsame:jaq e ⟨e.kind,ju,e.birth,0⟩
  .
   have a2:jM e=false:=jjs k0 k1 hsame;have a6:=C.1;rw [hsame] at a6;clear C
   go_wp2_with (refine yk (op:=⟨some 40,.load _ _,_,_,_,_⟩) (by rfl) 47 (.tmp 1) rfl w.heap.size 0 rfl e.cells.toList _ (B.1.range 0 _ (fun j v hv=>by rw [qA];simpa using hv)) underlying47 rfl (by kernel_rfl) ?_)
   intro cv a3
   go_wp2_with (refine yk (op:=⟨some 41,.load _ _,_,_,_,_⟩) (by rfl) 47 (.tmp 4) rfl (w.heap.size+1) 0 rfl (EvtM.cells ⟨e.kind,ju,e.birth,0⟩).toList _ (A.1.range 0 _ (fun j v hv=>by rw [qA];simpa using hv)) underlying47 rfl (by kernel_rfl) ?_)
   intro cv2 a1;have e1:cv=e.cells:=by rw [a3.out]
   have e2:cv2=EvtM.cells ⟨e.kind,ju,e.birth,0⟩:=by rw [a1.out]
   rw [<- e1,<- e2] at a6;clear e1 e2 a3 a1;go_wp2;go_ret;rw [uo a2];exact ⟨rfl,H.1⟩
  have a6:=C.1;rw [hsame] at a6;clear C
  go_wp2_with (refine yk (op:=⟨some 40,.load _ _,_,_,_,_⟩) (by rfl) 47 (.tmp 1) rfl w.heap.size 0 rfl e.cells.toList _ (B.1.range 0 _ (fun j v hv=>by rw [qA];simpa using hv)) underlying47 rfl (by kernel_rfl) ?_)
  intro cv a3
  go_wp2_with (refine yk (op:=⟨some 41,.load _ _,_,_,_,_⟩) (by rfl) 47 (.tmp 4) rfl (w.heap.size+1) 0 rfl (EvtM.cells ⟨e.kind,ju,e.birth,0⟩).toList _ (A.1.range 0 _ (fun j v hv=>by rw [qA];simpa using hv)) underlying47 rfl (by kernel_rfl) ?_)
  intro cv2 a1;have e1:cv=e.cells:=by rw [a3.out]
  have e2:cv2=EvtM.cells ⟨e.kind,ju,e.birth,0⟩:=by rw [a1.out]
  rw [<- e1,<- e2] at a6;clear e1 e2 a3 a1;go_wp2_with fail;have a8:=vd.1 hsame
  cases hm:jT e.birth 1 1048576
  .
   have a2:=(jdP k0 k1 a8).trans hm;have a0:=fun w=>uF e.birth w
   rw [hm] at a0;refine (a0 _).mono ?_;rintro ev w5 ⟨rfl,a7⟩;have D:=Hd (H.1.trans (a7.mono H.1.size));clear a7 a0 a8;go_wp2;go_ret;rw [uo a2];exact ⟨rfl,D.1⟩
  have a2:=(jdP k0 k1 a8).trans hm;have a0:=fun w=>uF e.birth w
  rw [hm] at a0;refine (a0 _).mono ?_;rintro ev w5 ⟨rfl,a7⟩;have D:=Hd (H.1.trans (a7.mono H.1.size));clear a7 a0 a8;go_wp2;go_ret;rw [jdL a2 k0 k1];exact ⟨rfl,D.1⟩
 cases k2:(e.kind==2)
 rotate_left
 .
  skip
  go_wp2_with fail;generalize hw1:World.alloc (World.alloc w _) _=w1;have a4:Box w1 w.heap.size e.cells 47:=by rw [<- hw1];exact E.1 _
  have a5:Box w1 (w.heap.size+1) (EvtM.cells ⟨e.kind,ju,0,0⟩) 47:=by rw [<- hw1];have:=G.1 (.cells e.cells 47);rw [qj] at this;exact this
  have a9:Below w.heap.size w w1:=by rw [<- hw1];exact I.1 _ _
  have B:=Hd (show Box w1.drew w.heap.size e.cells 47 from a4)
  have A:=Hd (show Box w1.drew (w.heap.size+1) (EvtM.cells ⟨e.kind,ju,0,0⟩) 47 from a5)
  have H:=Hd (a9.drew);clear hw1 a4 a5 a9 E G I;have c0:w1.cell? ⟨w.heap.size,14,none⟩=some (.int .i64 e.ticks):=B.1.cell 14 _ rfl;have c1:=A.1.cell 14 _ rfl;have f1:=A.1.free 14
  go_still_tail 8,(by kernel_rfl)
  change wpList _ _ _ _ _ w1.drew
  have a4:Box (w1.drew.setCell ⟨w.heap.size+1,14,none⟩ e.ticks) w.heap.size e.cells 47:=B.1.set_other (by simp) _
  have a5:Box (w1.drew.setCell ⟨w.heap.size+1,14,none⟩ e.ticks) (w.heap.size+1) (EvtM.cells ⟨e.kind,ju,0,e.ticks⟩) 47:=A.1.set 14 _;have b0:Below w.heap.size w (w1.drew.setCell ⟨w.heap.size+1,14,none⟩ e.ticks):=H.1.trans (Mod.below (F:=fun k=>k=w.heap.size+1) (Mod.set _ _ _ _ rfl) H.1.size (fun i hi=>by omega))
  clear B A H;have B:=Hd a4;have A:=Hd a5;have H:=Hd b0;clear a4 a5 b0;have C:=Hd (fun w=>jdB e ⟨e.kind,ju,0,e.ticks⟩ w)
  cases hsame:jaq e ⟨e.kind,ju,0,e.ticks⟩
  .
   have a2:jM e=false:=jlJ k0 k1 k2 hsame;have a6:=C.1;rw [hsame] at a6;clear C
   go_wp2_with (refine yk (op:=⟨some 40,.load _ _,_,_,_,_⟩) (by rfl) 47 (.tmp 1) rfl w.heap.size 0 rfl e.cells.toList _ (B.1.range 0 _ (fun j v hv=>by rw [qA];simpa using hv)) underlying47 rfl (by kernel_rfl) ?_)
   intro cv a3
   go_wp2_with (refine yk (op:=⟨some 41,.load _ _,_,_,_,_⟩) (by rfl) 47 (.tmp 4) rfl (w.heap.size+1) 0 rfl (EvtM.cells ⟨e.kind,ju,0,e.ticks⟩).toList _ (A.1.range 0 _ (fun j v hv=>by rw [qA];simpa using hv)) underlying47 rfl (by kernel_rfl) ?_)
   intro cv2 a1;have e1:cv=e.cells:=by rw [a3.out]
   have e2:cv2=EvtM.cells ⟨e.kind,ju,0,e.ticks⟩:=by rw [a1.out]
   rw [<- e1,<- e2] at a6;clear e1 e2 a3 a1;go_wp2;go_ret;rw [uo a2];exact ⟨rfl,H.1⟩
  have a6:=C.1;rw [hsame] at a6;clear C
  go_wp2_with (refine yk (op:=⟨some 40,.load _ _,_,_,_,_⟩) (by rfl) 47 (.tmp 1) rfl w.heap.size 0 rfl e.cells.toList _ (B.1.range 0 _ (fun j v hv=>by rw [qA];simpa using hv)) underlying47 rfl (by kernel_rfl) ?_)
  intro cv a3
  go_wp2_with (refine yk (op:=⟨some 41,.load _ _,_,_,_,_⟩) (by rfl) 47 (.tmp 4) rfl (w.heap.size+1) 0 rfl (EvtM.cells ⟨e.kind,ju,0,e.ticks⟩).toList _ (A.1.range 0 _ (fun j v hv=>by rw [qA];simpa using hv)) underlying47 rfl (by kernel_rfl) ?_)
  intro cv2 a1;have e1:cv=e.cells:=by rw [a3.out]
  have e2:cv2=EvtM.cells ⟨e.kind,ju,0,e.ticks⟩:=by rw [a1.out]
  rw [<- e1,<- e2] at a6;clear e1 e2 a3 a1;go_wp2_with fail;have a8:=vd.1 hsame
  cases hm:jT e.ticks 1 1073741824
  .
   have a2:=(jgI k0 k1 k2 a8).trans hm;have a0:=fun w=>jaU e.ticks w
   rw [hm] at a0;refine (a0 _).mono ?_;rintro ev w5 ⟨rfl,a7⟩;have D:=Hd (H.1.trans (a7.mono H.1.size));clear a7 a0 a8;go_wp2;go_ret;rw [uo a2];exact ⟨rfl,D.1⟩
  have a2:=(jgI k0 k1 k2 a8).trans hm;have a0:=fun w=>jaU e.ticks w
  rw [hm] at a0;refine (a0 _).mono ?_;rintro ev w5 ⟨rfl,a7⟩;have D:=Hd (H.1.trans (a7.mono H.1.size));clear a7 a0 a8;go_wp2;go_ret;rw [jhS a2 k0 k1];exact ⟨rfl,D.1⟩
 go_wp2;go_ret;rw [uo (jbp k0 k1 k2)];exact ⟨rfl,I.1 _ _⟩
end Go.Proofs.YtgcnolapjppbpaaGreatDoor
