/- Texts of one proof. -/
import Derived.Test.YtgcnolapjppbpaaGreatDoorK05
import Derived.Test.YtgcnolapjppbpaaGreatDoorK10
namespace Go.Proofs.YtgcnolapjppbpaaGreatDoor
open Go.RowKit _root_.Go.Proofs.Tryz
set_option maxRecDepth 100000
set_option maxHeartbeats 25600000
def yM (e:UInt32)(ps:List (List UInt8)):List (List UInt8):=ps.flatMap (jf e)
theorem jgH (e:UInt32)(ps:List (List UInt8))(t:List (List UInt8))(hp:∀ p∈ps,p.length<=512):∀ i,i<=ps.length->yQ e (yM e ps++t) i=(yM e (ps.take i)).length/\(∀ h:i<ps.length,yN e (yM e ps++t) i=some (ps[i],(jf e ps[i]).length)):=by
 have a1:∀ i,i<=ps.length->(yM e ps++t).drop (yM e (ps.take i)).length=yM e (ps.drop i)++t:=by
  intro i hi;have h1:yM e ps=yM e (ps.take i)++yM e (ps.drop i):=by
   unfold yM;rw [<- pg,qU]
  rw [h1,qB,py]
 have a0:∀ i (h:i<ps.length),yQ e (yM e ps++t) i=(yM e (ps.take i)).length->yN e (yM e ps++t) i=some (ps[i],(jf e ps[i]).length):=by
  intro i h a2;unfold yN;rw [a2,a1 i (kh h),qL h];show zH e ((jf e ps[i]++yM e (ps.drop (i+1)))++t)=_;rw [qB];exact jdE e _ _ (hp _ (qy h))
 intro i
 induction i with
 | zero =>
  intro hi;exact ⟨rfl,fun h=>a0 0 h rfl⟩
 | succ i ih =>
  intro hi;obtain ⟨h1,h2⟩:=ih (by omega)
  have h3:yQ e (yM e ps++t) (i+1)=(yM e (ps.take (i+1))).length:=by
   rw [ze (h2 (by omega)),h1]
   have h4:ps.take (i+1)=ps.take i ++ [ps[i]]:=by rw [List.take_add_one,List.getElem?_eq_getElem (by omega)];rfl
   rw [h4];unfold yM;rw [pg,qd];simp
  exact ⟨h3,fun h=>a0 (i+1) h h3⟩
theorem jlu (e:UInt32)(ps:List (List UInt8))(t:List (List UInt8))(hp:∀ p∈ps,p.length<=512)(ht:zH e t=none):yQ e (yM e ps++t) ps.length=(yM e ps).length/\yN e (yM e ps++t) ps.length=none:=by
 have h:=(jgH e ps t hp ps.length (qm _)).1;rw [List.take_length] at h;refine ⟨h,?_⟩;unfold yN;rw [h,py];exact ht
theorem jiq (e:UInt32)(b:List UInt8)(r:List (List UInt8))(h:¬ b.take 5=104::le e.toNat 4):zH e (b::r)=none:=by
 rw [zH];by_cases h1:b.length<11
 . rw [qf h1]
 rw [qh h1];by_cases h2:jK b > 512\/b.length≠11+min (jK b) 245
 . rw [qf h2]
 rw [qh h2];simp only;rw [qf]
 right
 intro h3
 apply h
 have h4:=congrArg (List.take 5) h3;rw [List.take_take] at h4;rw [show min 5 11=5 from rfl] at h4
 rw [<- h4]
 simp [xt,pre,le]
theorem jgi (a b:Nat)(w:World) :
  Calls prog 95 #[.int .u64 (a:Int),.int .u64 (b:Int)] w fun e w'=>e=.returned (.bool (vh a b))/\w=w':=by
 go_enter func95,ntmps95;go_wp2;go_ret;exact ⟨rfl,rfl⟩
theorem SesM.cellsE (s:SesM):s.cells=#[.int .i64 s.slot,.int .i64 s.birth,.int .i64 s.upS,.int .i64 s.upB,.int .i64 s.kind,.string (SB s.user),.string (SB s.label),.int .u64 (s.scopes:Int),.int .i64 s.level,.int .i64 s.born,.int .i64 s.deadline,.int .i64 s.depth]:=rfl
theorem jfZ (s:SesM)(eb:Nat)(b:Int)(w:World)(hc:w.cell? ⟨eb,13,none⟩=some (.int .i64 b)) :
  Calls prog 61 #[.agg s.cells,.pointer (some ⟨eb,0,none⟩)] w fun e w'=>e=.returned (.bool (s.birth==b))/\Below w.heap.size w w':=by
 have H:=Hd (ja w (.cells s.cells 45));have hx:=(Box.new w s.cells 45).cell 1 s.birth rfl;have h2:=jc (ja w (.cells s.cells 45)) hc;rw [s.cellsE] at H hx h2 |-;clear hc;go_enter func61,ntmps61;go_wp2;go_ret;exact ⟨rfl,H.1⟩
theorem jfY (s:SesM)(eb:Nat)(b:Int)(w:World)(hc:w.cell? ⟨eb,13,none⟩=some (.int .i64 b)) :
  Calls prog 63 #[.agg s.cells,.pointer (some ⟨eb,0,none⟩)] w fun e w'=>e=.returned (.bool (s.birth==b))/\Below w.heap.size w w':=by
 have H:=Hd (ja w (.cells s.cells 45));have hx:=(Box.new w s.cells 45).cell 1 s.birth rfl;have h2:=jc (ja w (.cells s.cells 45)) hc;rw [s.cellsE] at H hx h2 |-;clear hc;go_enter func63,ntmps63;go_wp2;go_ret;exact ⟨rfl,H.1⟩
theorem jgz (s:SesM)(eb:Nat)(b:Int)(w:World)(hc:w.cell? ⟨eb,0,none⟩=some (.int .i64 b)) :
  Calls prog 64 #[.agg s.cells,.pointer (some ⟨eb,0,none⟩)] w fun e w'=>e=.returned (.bool (decide (s.deadline<=b)))/\Below w.heap.size w w':=by
 have H:=Hd (ja w (.cells s.cells 45));have hx:=(Box.new w s.cells 45).cell 10 s.deadline rfl;have h2:=jc (ja w (.cells s.cells 45)) hc;rw [s.cellsE] at H hx h2 |-;clear hc;go_enter func64,ntmps64;go_wp2;go_ret;exact ⟨rfl,H.1⟩
structure TestF (f:FuncId)(ca:Addr)(g:SesM->Bool)(w:World):Prop where
 run:∀ (args:Array Value) (w':World),(callFunc f args).run prog w'=.ok (.enter f args) w'
 tells:∀ (s:SesM) (w':World),Below w.heap.size w w'->Calls prog f #[.agg s.cells,.pointer (some ca)] w' fun e w''=>e=.returned (.bool (g s))/\Below w'.heap.size w' w''
theorem jgU {g:SesM->Bool}{l:List SesM}{k:Nat}(hk:k<l.length):(l.take (k+1)).any g=((l.take k).any g || g l[k]):=by
 rw [qk hk,List.any_append];simp
theorem jfV (f:FuncId)(ca:Addr)(g:SesM->Bool)(v:Value)(l:List SesM)(w:World)(hv:RdS w v l)(hf:TestF f ca g w) :
  Calls prog 96 #[v,.func (.func f) #[] #[.pointer (some ca)]] w fun e w'=>∃ r:Int,e=.returned (r:Int)/\decide (0<=r)=l.any g/\Below w.heap.size w w':=by
 obtain ⟨a,cap,rfl,a1,a8⟩:=hv.slice;have HV:=qe hv;have HF:=qe hf;have a6:l.length<=9223372036854775807:=by omega
 obtain ⟨n,hN⟩:=Nm (l.length);rw [<- hN] at a6 HV a1 |-;have HN:=qe hN;clear hv hf a1 hN;go_enter func96,ntmps96;go_wp2
 go_loopg [8] n (fun gk iv wr=>∃ k:Nat,gk+k=n/\iv=.int .i64 (k:Int)/\Below w.heap.size w wr/\Hid ((l.take k).any g=false))
 case atStart=>exact ⟨0,rfl,rfl,qG _ _,qe rfl⟩
 case round =>
  obtain ⟨k,a2,rfl,hb,HT⟩:=hrel;have k0:(0:Int)<=(k:Int):=by omega
  have HGK:=qe a2;have HB:=qe hb;clear a2;by_cases hk:k<n
  .
   have k1:(k:Int)<(n:Int):=by omega
   have a3:k<l.length:=by have:=HN.out;omega
   obtain ⟨s,hs⟩:=Nm (l[k]);obtain ⟨rb,ro,a7,a0⟩:=(HV.out.below hb).row k a3;subst a7;rw [<- hs] at a0;have HROW:=qe a0;have HAT:=qe (show (l.take (k+1)).any g=((l.take k).any g || g s) by rw [jgU a3,hs])
   have HAL:=qe (show g s=true->l.any g=true from fun h=>by rw [kl];exact ⟨s,by rw [hs];exact qy _,h⟩)
   have HK:=qe hk;clear a0 hs hk hb
   go_wp2_with (with_reducible refine Lk HROW.out underlying45 ?_)
   intro cv a4;have ecv:cv=s.cells:=by rw [a4.out]
   subst ecv;clear a4;go_wp2_with fail;rw [HF.out.run,Oper.upon_enter];refine (HF.out.tells s wr HB.out).mono ?_;rintro e w1 ⟨rfl,a5⟩;have HB1:=qe (HB.out.trans (a5.mono HB.out.size));generalize g s=r at HAT HAL |-;clear a5 HB HROW
   cases r
   .
    have HT2:=qe (show (l.take (k+1)).any g=false by rw [HAT.out,HT.out];rfl)
    clear HT HAT HAL;go_wp2
    go_roundg (n-(k+1))
    case measure=>have:=HGK.out;have:=HK.out;omega
    case rel=>exact ⟨k+1,by have:=HGK.out;have:=HK.out;omega,by go_num,HB1.out,HT2⟩
   .
    have HE:=qe (HAL.out rfl);clear HT HAT HAL;go_wp2;go_ret;exact ⟨_,rfl,by rw [HE.out];exact qz (by omega),HB1.out⟩
  .
   have k1:¬ (k:Int)<(n:Int):=by omega
   have HE:=qe (show l.any g=false by
    have h:=HT.out
    rwa [ql (by have:=HN.out;omega)] at h)
   clear hk hb HT;go_wp2;go_ret;exact ⟨_,rfl,by rw [HE.out];rfl,HB.out⟩
theorem jdj (f:FuncId)(ca:Addr)(g:SesM->Bool)(v:Value)(l:List SesM)(w:World)(hv:RdS w v l)(hf:TestF f ca g w) :
  Calls prog 60 #[v,.func (.func f) #[] #[.pointer (some ca)]] w fun e w'=>e=.returned (.bool (l.any g))/\Below w.heap.size w w':=by
 have H:=Hd (jfV f ca g v l w hv hf);obtain ⟨a,cap,rfl,_⟩:=hv.slice;clear hv hf;go_enter func60,ntmps60;go_wp2_with fail;refine H.1.mono ?_;rintro e w1 ⟨r,rfl,hr,hb⟩;have A:=Hd hb;have B:=Hd hr;clear hb hr H;go_wp2;go_ret;rw [<- B.1];exact ⟨rfl,A.1⟩
theorem jcr {W:World}{b b':Nat}{e e':TypeId}{s s' n n':Nat}{v v':Value}{xs xs':List Value}(h:W.ownsRow b e s v n xs)(h':W.ownsRow b' e' s' v' n' xs')(a2:e≠e'):Apart v v':=by
 intro k hk a0
 rcases h.2 with ⟨rfl,_⟩ | ⟨g,cap,cur,rfl,_,hg,_⟩
 . simp [Value.ownBlock] at hk
 .
  rcases h'.2 with ⟨rfl,_⟩ | ⟨g',cap',cur',rfl,_,a1,_⟩
  . simp [Value.ownBlock] at a0
  .
   simp [Value.ownBlock] at hk a0
   subst hk;subst a0;rw [hg] at a1;injection a1 with h1;injection h1 with h2 h3 h4
   exact a2 h3
theorem jj1:(prog.info? 92).map (fun i=>(i.zero,i.size,i.bytes))=some (some (.slice none 0 0),1,24):=by kernel_rfl
theorem jmC {w:World}{ops:Array Oper}{rest:List Oper}{o:Oper}{a:Act}{Q:Exit->Act->World->Prop}(a2:o.guard=none)(s x:Operand)(ho:o.op=.call { callee:=.builtin .append,args:=#[s,x],argTypes:=#[174,174] })(base:Nat)(v:Value)(n:Nat)(xs:List Value)(hs:a.eval s=v)(a1:w.ownsRow base 92 1 v n xs)(ad:Addr)(c:Nat)(y:Value)(hx:a.eval x=.slice (some ad) 1 c)(hy:w.cell? ad=some y)(h1:y.oneCell'=true)(a6:n+1<=4398046511104)(a0:base<=w.heap.size)(h:∀ v' w',w'.ownsRow base 92 1 v' (n+1) (xs ++ [y])->w.grownBy w' v.ownBlock->xj w v v'->wpList prog ops Q rest (a.put o.dst v') w'):wpList prog ops Q (o::rest) a w:=by
 obtain ⟨i0,hi,a3,a4,a5⟩:=wI jj1;refine yb a2 s x 174 ho base 92 i0 (.slice none 0 0) 1 24 underlying174 hi a3 a4 a5 rfl (by decide) v n xs hs a1 ad 1 c [y] hx rfl (fun j u hj=>?_) (by simpa using h1) (by unfold maxLen;omega) (by omega) a0 h
 cases j with
 | zero=>simp at hj;subst hj;rw [show ad.add 0=ad from by cases ad with | mk b o s=>cases s <;> rfl];exact hy
 | succ j=>simp at hj
end Go.Proofs.YtgcnolapjppbpaaGreatDoor
