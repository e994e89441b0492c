/- Texts of one proof. -/
import Derived.Test.YtgcnolapjppbpaaGreatDoorK29
import Derived.Test.YtgcnolapjppbpaaGreatDoorK33
namespace Go.Proofs.YtgcnolapjppbpaaGreatDoor
open Go.RowKit _root_.Go.Proofs.Tryz
set_option maxRecDepth 100000
set_option maxHeartbeats 25600000
variable {w:World}{st:StM}
theorem ye {P:Program}{fn:Func}{R:Ending->World->Prop}{a:Act}{p u v:Tmp}{ty:TypeId}(h:fn.results=#[.tmp u,.cell p ty,.tmp v])(a0:a.defers = [])(b o:Nat)(hp:a.tmps.getD p undef=.pointer (some ⟨b,o,none⟩))(cs:List Value)(d:TypeDesc)(hc:w.rangeAt b o cs)(hu:P.underlying ty=some d)(hd:d.isRow=true)(hi:(P.info? ty).map (·.size)=some cs.length)(x y:Value)(hx:a.tmps.getD u undef=x)(hy:a.tmps.getD v undef=y)(hR:R (.returned (.tuple #[x,.agg cs.toArray,y])) w):bodyPost P fn R .ret a w:=by
 refine qP (v:=.tuple #[x,.agg cs.toArray,y]) ?_ a0 hR;have a1:a.tmps[p]?.getD undef=.pointer (some ⟨b,o,none⟩):=by simpa using hp
 have a2:a.tmps[u]?.getD undef=x:=by simpa using hx
 have a3:a.tmps[v]?.getD undef=y:=by simpa using hy
 simp only [results,h]
 simp [a1,a2,a3,asAddr,Result.andThen,run_loadVar_mid w b o ty cs d hc hu hd hi]
structure Opnd (w:World)(pd:Nat)(F:Nat->Prop)(R:DiskM × UInt32 × StM × Int)(pv o:Value)(w':World):Prop where
 ex:∃ F',IsDisk w' R.1 pd F'/\(∀ k,F' k->F k\/w.heap.size<=k)/\(∀ k,o.ownBlock=some k->w.heap.size<=k/\¬ F' k)/\(R.2.2.2=0->∃ ps pl,pv=.pointer (some ⟨ps,0,none⟩)/\w.heap.size<=ps/\w.heap.size<=pl/\¬ F' ps/\¬ F' pl/\ps≠pl/\StoB w' ps pd R.2.1 (.pointer (some ⟨pl,0,none⟩)) false/\yI w' (yt R.2.1) pl pd/\(∀ k,o.ownBlock=some k->k≠ps/\k≠pl))
 no:R.2.2.2≠0->pv=.pointer none
 ow:OwnS w' w.heap.size o R.2.2.1.l
 md:Mod F w w'
theorem vM (d:DiskM)(pd:Nat)(F:Nat->Prop)(w:World)(hd:IsDisk w d pd F)(b4:∀ s∈d.strs,s.size<=256)(ht:d.trail.length<=9000000000)(hs:∀ b,(jH d b).length<=9223372036854775807)(a9:∀ s∈(yi d).1.l,SesOk s) :
  Calls prog 33 #[.pointer (some ⟨pd,0,none⟩)] w fun e w'=>∃ pv o,e=.returned (.tuple #[pv,.agg #[.int .i64 (jw d).2.2.1.clock,.int .i64 (jw d).2.2.1.births,o],jm (jw d).2.2.2])/\Opnd w pd F (jw d) pv o w':=by
 have b0:d.strs.length<=4096:=by obtain ⟨_,_,_,_,_,_,_,_,h5,_⟩:=hd;exact h5
 obtain ⟨R,hR⟩:=Nm (jw d);rw [<- hR];unfold jw at hR;have a4:=fun W (hW:IsDisk W d pd F) (hl:65<=d.strs.length)=>jit d pd F W hW b4 hl hs
 obtain ⟨K,hK⟩:=Nm (yi d);rw [<- hK] at a4 a9 hR;have b1:=fun (v:Value) ps lv w' (h4:StoB w' ps pd K.2.1 lv false) (h5:IsDisk w' d pd F) h6 h7 hl=>jfB K.1 v d ps pd K.2.1 lv false F w' h4 h5 h6 h7 a9 (qi ht (by decide)) hl (qi (jdm K.1) (by decide))
 have Z:=Hd (fun W (hW:IsDisk W d pd F)=>zp d pd F W hW)
 have a0:=ja w (.cells #[(0:Int),(0:Int),.slice none 0 0] 30);have M:=Hd (Box.new w #[(0:Int),(0:Int),.slice none 0 0] 30);have O:=Hd a0;have Y:=Hd (hd.grow a0);have D:=Hd hd.lt;obtain ⟨N,hN⟩:=Nm (d.strs.length);rw [<- hN] at Z b0 hR a4;have HN:=Hd hN;clear hd b4 ht hs a0 hN a9 hK;by_cases h65:N<65
 .
  rw [qf h65] at hR;obtain rfl:R=(d,0,jI,1):=hR;have hn:(N:Int)<65:=by omega
  clear a4 b1 b0;go_enter func33,ntmps33;go_wp2_with fail;refine (Z.1 _ Y.1).mono ?_;rintro ev w2 ⟨rfl,rfl⟩;obtain ⟨z0,z1,z2⟩:=C3 M.1;go_wp2_with fail;exact ye rfl rfl w.heap.size 0 rfl [(0:Int),(0:Int),.slice none 0 0] _ (jj M.1) underlying30 rfl (by kernel_rfl) _ _ rfl rfl ⟨_,_,rfl,⟨F,Y.1,fun k hk=>.inl hk,(fun k hk=>by cases hk),fun h=>by cases h⟩,fun _=>rfl,OwnS.nil _ _,Mod.of_below O.1⟩
 rw [qh h65] at hR;have hn:¬ (N:Int)<65:=by omega
 have H3:=Hd (fun W hW=>a4 W hW (by omega))
 have P:=Hd (fun v ps lv w' h4 h5 h6 h7=>b1 v ps lv w' h4 h5 h6 h7 (by rw [<- HN.1];omega))
 obtain ⟨⟨KC,KB,KL⟩,ke,kr⟩:=K;simp only at H3 P hR;have G:=Hd hR;clear a4 b1 hR h65 b0;go_enter func33,ntmps33;go_wp2_with fail;obtain ⟨w1,b5⟩:=Nm ((w.alloc (.cells #[(0:Int),(0:Int),.slice none 0 0] 30)));rw [<- b5] at M O Y |-;clear b5;refine (Z.1 _ Y.1).mono ?_;rintro ev w1' ⟨rfl,rfl⟩;go_wp2_with fail;refine (H3.1 w1 Y.1).mono ?_;rintro ev w2 ⟨o,rfl,ho,hb⟩;obtain ⟨oa,oc,rfl,_⟩:=ho.slice;obtain ⟨on,b6⟩:=Nm (KL.length);rw [<- b6] at ho |-;have a0:=ja w2 (.cells #[KC,KB,.slice oa on oc] 30);have H4:=Hd (Box.new w2 #[KC,KB,.slice oa on oc] 30);have H5:=Hd ((Y.1.grow hb).grow a0);have H:=Hd ((M.1.below hb).below a0);have Q:=Hd ((O.1.trans (hb.mono O.1.size)).trans (a0.mono (O.1.trans (hb.mono O.1.size)).size));have H6:=Hd ((ho.below a0).base (base':=w.heap.size) O.1.size);have J:=Hd (show ∀ k,(Value.slice oa on oc).ownBlock=some k->w.heap.size+1<=k/\k<w2.heap.size from fun k hk=>⟨by have:=(ho.lt k hk).1;have:=M.1.lt;omega,(ho.lt k hk).2⟩)
 have I:=Hd (show w.heap.size<w2.heap.size from qu M.1.lt hb.size)
 clear ho hb a0 b6 Y M O H3 Z;by_cases h0:kr=0;rotate_left
 .
  rw [qh h0] at G;rw [show jm kr=.iface 91 kr from qh h0]
  obtain rfl:R=(d,0,jI,kr):=G.1;have T:=Hd h0;obtain ⟨z0,y0,z1,y1,z2,y2⟩:=B3 H.1;have a1:=Mod.set3 w.heap.size (w2.alloc (.cells #[KC,KB,.slice oa on oc] 30)) (0:Int) (0:Int) (.slice none 0 0);have L:=Hd (show Box ((((w2.alloc (.cells #[KC,KB,.slice oa on oc] 30)).setCell ⟨w.heap.size,0,none⟩ (0:Int)).setCell ⟨w.heap.size,1,none⟩ (0:Int)).setCell ⟨w.heap.size,2,none⟩ (.slice none 0 0)) w.heap.size #[(0:Int),(0:Int),.slice none 0 0] 30/\Mod (fun i=>i=w.heap.size) (w2.alloc (.cells #[KC,KB,.slice oa on oc] 30)) ((((w2.alloc (.cells #[KC,KB,.slice oa on oc] 30)).setCell ⟨w.heap.size,0,none⟩ (0:Int)).setCell ⟨w.heap.size,1,none⟩ (0:Int)).setCell ⟨w.heap.size,2,none⟩ (.slice none 0 0))/\Below w.heap.size w ((((w2.alloc (.cells #[KC,KB,.slice oa on oc] 30)).setCell ⟨w.heap.size,0,none⟩ (0:Int)).setCell ⟨w.heap.size,1,none⟩ (0:Int)).setCell ⟨w.heap.size,2,none⟩ (.slice none 0 0)) from ⟨((H.1.set 0 (0:Int)).set 1 (0:Int)).set 2 (.slice none 0 0),a1,Q.1.trans (a1.below Q.1.size (fun i hi=>qS hi.symm))⟩)
  clear a1;clear G H4 H6 J P h0;go_wp2_with fail;exact ye rfl rfl w.heap.size 0 rfl [(0:Int),(0:Int),.slice none 0 0] _ (jj (L.1.1)) underlying30 rfl (by kernel_rfl) _ _ rfl rfl ⟨_,_,by show Ending.returned _=Ending.returned (.tuple #[_,_,jm kr]);rw [show jm kr=.iface 91 kr from qh T.1];rfl,⟨F,H5.1.mod L.1.2.1 (fun k hk e=>by have:=D.1 k hk;omega),fun k hk=>.inl hk,(fun k hk=>by cases hk),fun h=>absurd h T.1⟩,fun _=>rfl,OwnS.nil _ _,Mod.of_below L.1.2.2⟩
 rw [qf h0] at G;rw [show jm kr=.nilIface from qf h0]
 clear h0;have a0:=ja (w2.alloc (.cells #[KC,KB,.slice oa on oc] 30)) (.cells #[.pointer (some ⟨pd,0,none⟩),.int .u32 (I32 ke),.pointer none,.bool false] 90);have b2:=Box.new (w2.alloc (.cells #[KC,KB,.slice oa on oc] 30)) #[.pointer (some ⟨pd,0,none⟩),.int .u32 (I32 ke),.pointer none,.bool false] 90;rw [qj] at b2;have U:=Hd (show StoB ((w2.alloc (.cells #[KC,KB,.slice oa on oc] 30)).alloc (.cells #[.pointer (some ⟨pd,0,none⟩),.int .u32 (I32 ke),.pointer none,.bool false] 90)) (w2.heap.size+1) pd ke (.pointer none) false from ⟨b2⟩)
 have E:=Hd (H4.1.below a0);have H7:=Hd (H5.1.grow a0);have H8:=Hd (H.1.below a0);have V:=Hd (Q.1.trans (a0.mono Q.1.size));have H0:=Hd (H6.1.below a0);obtain ⟨q,hq⟩:=Nm (w2.heap.size);obtain ⟨A,hA⟩:=Nm (yu ke d ⟨KC,KB,KL⟩);rw [<- hA] at P G;obtain ⟨w4,a7⟩:=Nm (((w2.alloc (.cells #[KC,KB,.slice oa on oc] 30)).alloc (.cells #[.pointer (some ⟨pd,0,none⟩),.int .u32 (I32 ke),.pointer none,.bool false] 90)));rw [<- a7] at U E H7 H8 V H0;rw [<- hq] at U E I J;have H9:=Hd (show q+1<w4.heap.size from U.1.bx.lt)
 have H1:=Hd (show w.heap.size<w4.heap.size by have:=E.1.lt;have:=I.1;omega)
 have He:=Hd (show ¬ F (q+1) from fun h=>by have:=D.1 _ h;have:=I.1;omega)
 obtain ⟨x0,x1,x2⟩:=C3 E.1;rw [a7] at x0 x1 x2;rw [hq] at x0 x1 x2;clear a0 b2 hA H4 H5 H Q H6;go_wp2_with fail;rw [<- a7,<- hq];refine (P.1 _ _ _ w4 U.1 H7.1 He.1 H0.1.rd).mono ?_;rintro ev w5 ⟨rfl,b3⟩;clear x0 x1 x2 a7 hq;have a1:=b3.md;have Hf:=Hd (E.1.mod a1 (fun h=>h.elim (fun h=>by omega) (fun h=>by have:=D.1 _ h;have:=I.1;omega)))
 have B:=Hd (H8.1.mod a1 (fun h=>h.elim (fun h=>by have:=I.1;omega) (fun h=>by have:=D.1 _ h;omega)))
 have Ha:=Hd (H0.1.mod a1 (fun k hk h=>by
  have h1:=J.1 k hk
  rcases h with h | h
  . omega
  . have:=D.1 _ h;omega))
 have Hb:=Hd (show Mod F w w5 from (show Mod F w w4 from Mod.of_below V.1).old a1 (fun i hi h=>h.elim (fun h=>by have:=I.1;omega) id))
 have H2:=Hd b3;clear b3 a1 E H8 H0 U H7 P;by_cases h0:A.2=0;rotate_left
 .
  rw [qh h0] at G;rw [show jm A.2=.iface 91 A.2 from qh h0]
  obtain rfl:R=(A.1,0,jI,A.2):=G.1;have T:=Hd h0;obtain ⟨z0,y0,z1,y1,z2,y2⟩:=B3 B.1;have hmm:=Mod.set3 w.heap.size w5 (0:Int) (0:Int) (.slice none 0 0);obtain ⟨F5,a5,a2,_⟩:=H2.1.dk;have a6:¬ F5 w.heap.size:=fun h=>by
   rcases a2 _ h with g | g
   . have:=D.1 _ g;omega
   . have:=H1.1;omega
  have L:=Hd (show Box (((w5.setCell ⟨w.heap.size,0,none⟩ (0:Int)).setCell ⟨w.heap.size,1,none⟩ (0:Int)).setCell ⟨w.heap.size,2,none⟩ (.slice none 0 0)) w.heap.size #[(0:Int),(0:Int),.slice none 0 0] 30/\Opnd w pd F (A.1,0,jI,A.2) (.pointer none) (.slice none 0 0) (((w5.setCell ⟨w.heap.size,0,none⟩ (0:Int)).setCell ⟨w.heap.size,1,none⟩ (0:Int)).setCell ⟨w.heap.size,2,none⟩ (.slice none 0 0)) from
   ⟨((B.1.set 0 (0:Int)).set 1 (0:Int)).set 2 (.slice none 0 0),⟨F5,a5.mod hmm (fun k hk e=>a6 (by rw [<- e];exact hk)),fun k hk=>(a2 k hk).imp id (fun g=>qi V.1.size g),(fun k hk=>by cases hk),fun h=>absurd h T.1⟩,fun _=>rfl,OwnS.nil _ _,Hb.1.old hmm (fun i hi h=>by omega)⟩)
  clear hmm a5 a2 a6 G Hf Ha J h0 H2;go_wp2_with fail;exact ye rfl rfl w.heap.size 0 rfl [(0:Int),(0:Int),.slice none 0 0] _ (jj (L.1.1)) underlying30 rfl (by kernel_rfl) _ _ rfl rfl ⟨_,_,by show Ending.returned _=Ending.returned (.tuple #[_,_,jm A.2]);rw [show jm A.2=.iface 91 A.2 from qh T.1];rfl,L.1.2⟩
 rw [qf h0] at G;rw [show jm A.2=.nilIface from qf h0]
 obtain rfl:R=(A.1,ke+1,⟨KC,KB,KL⟩,0):=G.1;obtain ⟨F5,a5,a2,b7⟩:=H2.1.dk;obtain ⟨pl5,c3,b8,b9,c0⟩:=b7 h0;have a6:¬ F5 w.heap.size:=fun h=>by
  rcases a2 _ h with g | g
  . have:=D.1 _ g;omega
  . have:=I.1;have:=V.1.size;have:=H1.1;omega
 have Hg:=Hd (a5.grow (jb w5));have Hh:=Hd (b9.below (jb w5));have Hi:=Hd (show yI w5.drew (yt (ke+1)) pl5 pd from Box.below c0 (jb w5))
 have Hj:=Hd (Ha.1.below (jb w5));have Hc:=Hd (B.1.below (jb w5));have Hk:=Hd (Hb.1.trans (Mod.of_below (jb w5)));have X:=Hd (show (∀ k,F5 k->F k\/w.heap.size<=k)/\¬ F5 w.heap.size/\w.heap.size<=pl5/\pl5≠w.heap.size/\q+1≠pl5/\¬ F5 pl5/\¬ F5 (q+1) from
  ⟨fun k hk=>(a2 k hk).imp id (fun g=>qi V.1.size g),a6,by have:=H1.1;omega,by have:=H1.1;omega,by have:=H9.1;omega,b8,fun h=>by
   rcases a2 _ h with g | g
   . exact He.1 g
   . have:=H9.1;omega⟩)
 have C:=Hd (show ∀ k,(Value.slice oa on oc).ownBlock=some k->¬ F5 k/\k≠q+1/\k≠pl5/\k≠w.heap.size/\w.heap.size<=k from fun k hk=>by
  have h1:=J.1 k hk;have h2:=H9.1;refine ⟨fun h=>?_,by omega,by omega,by omega,by omega⟩
  rcases a2 k h with g | g
  . have:=D.1 _ g;omega
  . omega)
 clear h0 G H2 b7 a5 a2 c3 b8 b9 c0 a6 Ha B Hb J;go_wp2;refine qt (S:=fun W=>Box W q #[KC,KB,.slice oa on oc] 30) (by kernel_rfl) (Hf.1.below (jb w5)) (fun a8=>?_)
 refine Tk 0 36 ?_;refine Tk 1 37 ?_ (v:=.agg #[KC,KB,.slice oa on oc]) (hy:=fun w' c4=>Ek (jj c4) underlying30)
 refine Tk 2 2 ?_;refine Rs 3 30 3 37 fun K hK=>?_
 rw [qf (by kernel_rfl)]
 refine yw 30 (.tmp 3) (.tmp 37) rfl w.heap.size 0 [KC,KB,.slice oa on oc] rfl rfl Hc.1.there3 (by kernel_rfl) (jc5 _ _ _ _ _) ?_
 obtain ⟨c1,a3⟩:=Hc.1.set3 KC KB (.slice oa on oc);refine hK.out _ _ (a8.mod a3 (by have:=I.1;omega)) (fun c2=>?_)
 have HF:=Hd (And.intro c1 (show Opnd w pd F (A.1,ke+1,⟨KC,KB,KL⟩,0) (.pointer (some ⟨q+1,0,none⟩)) (.slice oa on oc) _ from
  ⟨⟨F5,Hg.1.mod a3 (fun k hk e=>X.1.2.1 (by rw [<- e];exact hk)),X.1.1,fun k hk=>⟨(C.1 k hk).2.2.2.2,(C.1 k hk).1⟩,fun _=>⟨q+1,pl5,rfl,by have:=I.1;omega,X.1.2.2.1,X.1.2.2.2.2.2.2,X.1.2.2.2.2.2.1,X.1.2.2.2.2.1,Hh.1.mod a3 (by have:=I.1;omega),Box.mod Hi.1 a3 X.1.2.2.2.1,fun k hk=>⟨(C.1 k hk).2.1,(C.1 k hk).2.2.1⟩⟩⟩,fun h=>absurd rfl h,Hj.1.mod a3 (fun k hk=>(C.1 k hk).2.2.2.1),Hk.1.old a3 (fun i hi h=>by omega)⟩))
 clear hK K c1 a3 Hg Hh Hi Hj Hc Hk X C;generalize (World.setCells _ _ _ _)=w9 at HF c2 |-
 try simp only [Act.put]
 refine Tk 4 4 ?_;refine Dn ?_;clear a8 c2;go_wp2_with fail;exact ye rfl rfl w.heap.size 0 rfl [KC,KB,.slice oa on oc] _ (jj HF.1.1) underlying30 rfl (by kernel_rfl) _ _ rfl rfl ⟨_,_,rfl,HF.1.2⟩
theorem jbG {d:DiskM}(h:d.Wf):∀ s∈d.strs,s.size<=256:=by
 have:∀ (l:List (Int × ByteArray)) (s:List ByteArray),(∀ r∈l,r.2.size<=256)->(∀ x∈s,x.size<=256)->∀ x∈yq s l,x.size<=256:=by
  intro l
  induction l with
  | nil=>intro s _ h2;exact h2
  | cons r l ih =>
   intro s h1 h2;have:yq s (r::l)=yq (s.set r.1.toNat r.2) l:=rfl;rw [this];refine ih _ (fun r' hr=>h1 r' (by simp [hr])) fun x hx=>?_
   rcases List.mem_or_eq_of_mem_set hx with h | rfl
   . exact h2 x h
   . exact h1 r (by simp)
 have h1:=this d.trail (List.replicate d.strs.length ByteArray.empty) h.short (fun x hx=>by rw [(List.mem_replicate.1 hx).2];exact qJ _)
 rw [<- h.play] at h1;exact h1
theorem zD (w:World):Calls prog 7 #[] w fun e w'=>∃ p F,e=.returned (.pointer (some ⟨p,0,none⟩)) /\
  IsDisk w' { strs:=List.replicate 65 ByteArray.empty,trail := [],left:=none } p F/\Below w.heap.size w w'/\∀ k,F k->w.heap.size<=k:=by
 have H:=Hd (jgn 65 w (by decide) (by decide))
 go_enter func7,ntmps7;go_wp2_with fail;refine H.1.mono ?_;rintro r w1 ⟨p,F,rfl,hd,hb,hF⟩;rw [show jm 0=.nilIface from rfl]
 have A:=Hd (And.intro hd (And.intro hb hF));clear hd hb hF;go_wp2;go_ret;exact ⟨p,F,rfl,A.1.1,A.1.2.1,A.1.2.2⟩
def jN (birth slot:Int):EvtM:=⟨0,⟨slot,birth,0,0,0,[97,110,110],[],7,1,0,1000,0⟩,0,0⟩
theorem yL (bi sl:Int)(w:World) :
  Calls prog 34 #[bi,sl] w fun e w'=>e=.returned (.agg (jN bi sl).cells)/\Below w.heap.size w w':=by
 obtain ⟨a0,a2⟩:=(Box.new w #[(0:Int),(0:Int),(0:Int),(0:Int),(0:Int),(0:Int),.string ⟨#[]⟩,.string ⟨#[]⟩,.int .u64 0,(0:Int),(0:Int),(0:Int),(0:Int),(0:Int),(0:Int)] 47).setAllE rfl (jN bi sl);have H:=Hd a2;have A:=Hd a0;have B:=Hd (ja w (.cells #[(0:Int),(0:Int),(0:Int),(0:Int),(0:Int),(0:Int),.string ⟨#[]⟩,.string ⟨#[]⟩,.int .u64 0,(0:Int),(0:Int),(0:Int),(0:Int),(0:Int),(0:Int)] 47));clear a0 a2;go_enter func34,ntmps34
 go_wp2_with (with_reducible refine Sk (jN bi sl).cells.toList (EvtM.listE _) H.1 (EvtM.oneE _) ?_)
 intro w2 a1;rw [<- a1.out] at A;have C:=Hd (show Below w.heap.size w w2 by
  rw [a1.out];generalize (jN bi sl).cells.toList=L;exact B.1.trans ((Mod.setCells (fun q=>q=w.heap.size) w.heap.size rfl L 0 _).below B.1.size (fun i hi=>qS hi.symm)))
 clear a1 H B;go_wp2;exact Jc (Box.rangeV A.1) underlying47 ⟨rfl,C.1⟩
theorem xe (ps pd:Nat)(ep:UInt32)(lv:Value)(b:Bool)(w:World)(h:StoB w ps pd ep lv b):Calls prog 17 #[.pointer (some ⟨ps,0,none⟩)] w fun e w'=>e=.returned (I32 ep)/\w'=w:=by
 have c1:w.cell? ⟨ps,1,none⟩=some (.int .u32 (I32 ep)):=h.bx.cell 1 _ rfl;obtain ⟨h1,h2⟩:=jir ep;clear h;go_enter func17,ntmps17;go_wp2;go_ret;exact ⟨rfl,rfl⟩
theorem yP (ps pd pl:Nat)(ep:UInt32)(b:Bool)(l:LogM)(w:World)(h:StoB w ps pd ep (.pointer (some ⟨pl,0,none⟩)) b)(hl:yI w l pl pd):Calls prog 18 #[.pointer (some ⟨ps,0,none⟩)] w fun e w'=>e=.returned (l.records:Int)/\w'=w:=by
 have c2:w.cell? ⟨ps,2,none⟩=some (.pointer (some ⟨pl,0,none⟩)):=h.bx.cell 2 _ rfl;have H:=Hd (je2 l pl pd w hl);clear h hl;go_enter func18,ntmps18;go_wp2_with fail;refine H.1.mono ?_;rintro e w1 ⟨rfl,rfl⟩;go_wp2;go_ret;exact ⟨rfl,rfl⟩
theorem vN (st:StM)(e:EvtM)(v:Value)(w:World)(hv:RdS w v st.l)(hn:st.l.length<=1000000000)(hu:e.s.user.length<=9223372036854775807)(hl:e.s.label.length<=9223372036854775807)(b3:e.s.scopes<2 ^ 64) :
  Calls prog 12 #[.agg #[st.clock,st.births,v],.agg e.cells] w fun ev w'=>∃ o,ev=.returned (.tuple #[.agg #[.int .i64 (jt st e).2.clock,.int .i64 (jt st e).2.births,o],.bool ((jt st e).1==0)])/\OwnS w' w.heap.size o (jt st e).2.l/\Below w.heap.size w w':=by
 have a3:=fun v' w' h=>jcA st e v' w' h hn hu hl b3
 obtain ⟨va,vc,rfl,_⟩:=hv.slice;obtain ⟨D,hD⟩:=Nm (jt st e);rw [<- hD] at a3 |-;obtain ⟨er,C,B,L⟩:=D;simp only at a3 |-;obtain ⟨n,b4⟩:=Nm (st.l.length);rw [<- b4] at hv |-;obtain ⟨c,hc⟩:=Nm (st.clock);obtain ⟨b,hb⟩:=Nm (st.births);rw [<- hc,<- hb] at a3 |-;have a7:=jl w (.cells #[c,b,.slice va n vc] 30) (.cells e.cells 47);have a8:=a7.trans ((ja ((w.alloc (.cells #[c,b,.slice va n vc] 30)).alloc (.cells e.cells 47)) (.cells #[(0:Int),(0:Int),.slice none 0 0] 30)).mono a7.size);have a9:=(Box.new (w.alloc (.cells #[c,b,.slice va n vc] 30)) e.cells 47).below (ja _ (.cells #[(0:Int),(0:Int),.slice none 0 0] 30));have b0:=Box.new ((w.alloc (.cells #[c,b,.slice va n vc] 30)).alloc (.cells e.cells 47)) #[(0:Int),(0:Int),.slice none 0 0] 30;rw [qj] at a9;rw [qj,qj] at b0;have J:=Hd (yV a9);have A:=Hd b0;have F:=Hd a8;have O:=Hd (hv.below a8);have M:=Hd a3;clear hD hv hn hu hl b3 a3 b4 hc hb a7 a8 a9 b0;go_enter func12,ntmps12
 go_wp2_with (with_reducible refine Lk J.1 underlying47 ?_)
 intro cv b5;have ecv:cv=e.cells:=by rw [b5.out]
 subst ecv;clear b5;go_wp2_with fail;obtain ⟨w1,b6⟩:=Nm (((w.alloc (.cells #[c,b,.slice va n vc] 30)).alloc (.cells e.cells 47)).alloc (.cells #[(0:Int),(0:Int),.slice none 0 0] 30));rw [<- b6] at A F O |-;clear b6 J;refine (M.1 _ w1 O.1).mono ?_;rintro ev w2 ⟨o,rfl,ho,hb⟩;obtain ⟨oa,oc,rfl,_⟩:=ho.slice;obtain ⟨m,hm⟩:=Nm (L.length);rw [<- hm] at ho |-;have a6:=ja w2 (.cells #[C,B,.slice oa m oc] 30);have I:=Hd (Box.new w2 #[C,B,.slice oa m oc] 30);have G:=Hd ((A.1.below hb).below a6);have b1:=F.1.trans (hb.mono F.1.size);have E:=Hd (b1.trans (a6.mono b1.size));have P:=Hd ((ho.below a6).base (base':=w.heap.size) F.1.size);have N:=Hd (show ∀ k,(Value.slice oa m oc).ownBlock=some k->w.heap.size+2<k from fun k hk=>by have:=(ho.lt k hk).1;have:=A.1.lt;omega)
 have Q:=Hd (show w.heap.size+2<w2.heap.size from qu A.1.lt hb.size)
 clear ho hb a6 b1 hm A F O M;go_wp2_with fail;obtain ⟨wr,b7⟩:=Nm (w2.alloc (.cells #[C,B,.slice oa m oc] 30));rw [<- b7] at I G E P |-;obtain ⟨q,hq⟩:=Nm (w2.heap.size);rw [<- hq] at I Q |-;clear b7 hq;by_cases h0:er=0
 .
  subst h0;rw [show jm 0=.nilIface from rfl]
  refine qt (S:=fun W=>Box W q #[C,B,.slice oa m oc] 30) (by kernel_rfl) (I.1.below (jb wr)) (fun a0=>?_)
  refine Tk 0 14 ?_ (v:=.agg #[C,B,.slice oa m oc]) (hy:=fun w' b2=>Ek (jj b2) underlying30)
  refine Tk 1 15 ?_;refine Tk 2 16 ?_;refine Rs 3 30 4 14 fun K hK=>?_
  rw [qf (by kernel_rfl)]
  refine yw 30 (.tmp 4) (.tmp 14) rfl (w.heap.size+1+1) 0 [C,B,.slice oa m oc] rfl rfl (G.1.below (jb wr)).there3 (by kernel_rfl) (jc5 _ _ _ _ _) ?_
  obtain ⟨a4,a1⟩:=(G.1.below (jb wr)).set3 C B (.slice oa m oc);have a2:=E.1.trans ((jb wr).mono E.1.size);refine hK.out _ _ (a0.mod a1 (by have:=Q.1;omega)) (fun a5=>?_)
  have H:=Hd (And.intro a4 (And.intro ((P.1.below (jb wr)).mod a1 (fun k hk e=>by have:=N.1 k hk;omega)) (a2.trans (a1.below a2.size (fun i hi=>by omega)))))
  clear hK K a4 a1 a2;generalize (World.setCells _ _ _ _)=w9 at H a5 |-
  try simp only [Act.put]
  refine Tk 4 5 ?_;refine Dn ?_;clear a0 a5;go_wp2;exact Jt (jj H.1.1) underlying30 ⟨_,rfl,H.1.2.1,H.1.2.2⟩
 rw [show jm er=.iface 91 er from qh h0]
 have R:=Hd (show (er==0)=false by simpa using h0)
 clear h0;refine qt (S:=fun W=>Box W q #[C,B,.slice oa m oc] 30) (by kernel_rfl) (I.1.below (jb wr)) (fun a0=>?_)
 refine Tk 0 14 ?_ (v:=.agg #[C,B,.slice oa m oc]) (hy:=fun w' b2=>Ek (jj b2) underlying30)
 refine Tk 1 15 ?_;refine Tk 2 16 ?_;refine Rs 3 30 4 14 fun K hK=>?_
 rw [qf (by kernel_rfl)]
 refine yw 30 (.tmp 4) (.tmp 14) rfl (w.heap.size+1+1) 0 [C,B,.slice oa m oc] rfl rfl (G.1.below (jb wr)).there3 (by kernel_rfl) (jc5 _ _ _ _ _) ?_
 obtain ⟨a4,a1⟩:=(G.1.below (jb wr)).set3 C B (.slice oa m oc);have a2:=E.1.trans ((jb wr).mono E.1.size);refine hK.out _ _ (a0.mod a1 (by have:=Q.1;omega)) (fun a5=>?_)
 have H:=Hd (And.intro a4 (And.intro ((P.1.below (jb wr)).mod a1 (fun k hk e=>by have:=N.1 k hk;omega)) (a2.trans (a1.below a2.size (fun i hi=>by omega)))))
 clear hK K a4 a1 a2;generalize (World.setCells _ _ _ _)=w9 at H a5 |-
 try simp only [Act.put]
 refine Tk 4 5 ?_;refine Dn ?_;clear a0 a5;go_wp2;exact Jt (jj H.1.1) underlying30 ⟨_,by rw [R.1] <;> rfl,H.1.2.1,H.1.2.2⟩
theorem jdw (h:Snd st)(hs:jdS st.l):∀ s∈st.l,SesOk s:=fun s hm=>by
 have:=SesN.of (h.may s hm);exact ⟨qi this.user (by decide),qi this.label (by decide),hs s hm⟩
theorem vE (d:DiskM)(h:d.strs.length<=4096):(jw d).1.trail.length<=d.trail.length+2050:=by
 unfold jw
 split
 . exact wn _ _
 split
 .
  split
  . exact zw _ _ _ h
  . exact zw _ _ _ h
 . exact wn _ _
structure AgainR (w:World)(pd:Nat)(F:Nat->Prop)(t0:Nat)(st:StM)(ep:UInt32)(cuts:List Int)(ps:Nat)(o:Value)(w':World):Prop where
 ex:∃ (F':Nat->Prop) (pl:Nat) (d':DiskM),IsDisk w' d' pd F'/\(∀ k,F' k->F k\/w.heap.size<k)/\w.heap.size<ps/\w.heap.size<pl/\¬ F' ps/\¬ F' pl/\ps≠pl/\StoB w' ps pd (ep+1) (.pointer (some ⟨pl,0,none⟩)) false/\yI w' (yt (ep+1)) pl pd /\
  StoI d' ⟨ep+1,yt (ep+1),false⟩ st/\d'.left=none/\(∀ k,o.ownBlock=some k->w.heap.size<k/\¬ F' k/\k≠ps/\k≠pl)/\d'.trail.length<=t0+20000/\(cuts = []->d'.trail.length=t0+(yd (yW st).length+1))
 ow:OwnS w' w.heap.size o st.l
 md:Mod F w w'
theorem AgainR.res {w1 w2:World}{pd:Nat}{F:Nat->Prop}{t0:Nat}{ep:UInt32}{cuts:List Int}{ps:Nat}{o:Value}(h:AgainR w pd F t0 st ep cuts ps o w1)(hm:Mod (fun k=>k=w.heap.size) w1 w2)(hF:¬ F w.heap.size):AgainR w pd F t0 st ep cuts ps o w2:=by
 obtain ⟨F',pl,d',h1,h2,h3,h4,h5,h6,h7,h8,h9,a1,a2,a0,a3,a4⟩:=h.ex;have hn:¬ F' w.heap.size:=fun hf=>by
  rcases h2 _ hf with g | g
  . exact hF g
  . omega
 exact ⟨⟨F',pl,d',h1.mod hm (fun k hk e=>hn (by rw [<- e];exact hk)),h2,h3,h4,h5,h6,h7,h8.mod hm (by omega),Box.mod h9 hm (by omega),a1,a2,a0,a3,a4⟩,h.ow.mod hm (fun k hk e=>by have:=(a0 k hk).1;omega),h.md.old hm (fun i hi e=>by omega)⟩
theorem jhr {F:Nat->Prop}{w':World}(h:ErrType w)(hm:Mod F w w')(hn:¬ F 0):ErrType w':=by
 unfold ErrType at h |-;rw [World.cell?_of_block (w:=w) (hm.block 0 (World.block_lt_of_cell? w _ h) hn)];exact h
structure AgI (w wr:World)(pd:Nat)(F:Nat->Prop)(t0:Nat)(st:StM)(ep:UInt32)(i:Nat)(d:DiskM)(G:Nat->Prop):Prop where
 dk:IsDisk wr d pd G
 lo:∀ k,G k->F k\/w.heap.size<k
 bz:Box wr w.heap.size #[(0:Int),(0:Int),.slice none 0 0] 30
 tr:d.trail.length<=t0+2050*i
 md:Mod F w wr
theorem jay {d:DiskM}{ep:UInt32}(h:KeptD d st ep)(pd:Nat)(F:Nat->Prop)(w:World)(hd:IsDisk w d pd F)(ht:d.trail.length<=9000000000) :
  Calls prog 33 #[.pointer (some ⟨pd,0,none⟩)] w fun e w'=>∃ pv o,e=.returned (.tuple #[pv,.agg #[.int .i64 (jw d).2.2.1.clock,.int .i64 (jw d).2.2.1.births,o],jm (jw d).2.2.2])/\Opnd w pd F (jw d) pv o w':=by
 obtain ⟨h1,h2⟩:=h.snd;exact vM d pd F w hd (jbG h.wf) ht (vA h.wf) (by rw [h.kept];exact jdw h1 h2)
theorem jlX {a:Option Addr}{n cap:Nat}{l:List Int}(h:Rd w (.slice a n cap) n (l.map (Value.int .i64)))(i:Nat)(hi:i<l.length):∃ b off,a=some ⟨b,off,none⟩/\w.cell? ⟨b,off+i,none⟩=some (.int .i64 (l.getD i 0)):=by
 obtain ⟨a',cap',e,_,_,_,h3⟩:=h;injection e with e1 e2 e3
 subst e1;obtain ⟨b,off,h4,h5⟩:=h3 i (by rw [qE];exact hi)
 refine ⟨b,off,h4,?_⟩;rw [h5,List.getD,List.getD,List.getElem?_map,List.getElem?_eq_getElem hi];rfl
theorem zf (d:DiskM)(pd:Nat)(F:Nat->Prop)(cv:Value)(cuts:List Int)(st:StM)(ep:UInt32)(w:World)(hd:IsDisk w d pd F)(hk:KeptD d st ep)(hc:cuts = []\/KeptI d st ep)(e1:ep.toNat<4294967295)(ht:d.trail.length<=8000000000)(hr:Rd w cv cuts.length (cuts.map (Value.int .i64)))(e4:∀ x∈cuts,I64 x)(d4:0<cuts.length->∀ k,cv.ownBlock=some k->¬ F k)(hg:ErrType w)(e5:¬ F 0) :
  Calls prog 9 #[.pointer (some ⟨pd,0,none⟩),cv] w fun e w'=>∃ ps o,e=.returned (.tuple #[.pointer (some ⟨ps,0,none⟩),.agg #[st.clock,st.births,o],.bool true])/\AgainR w pd F d.trail.length st ep cuts ps o w':=by
 obtain ⟨ca,cc,f7⟩:∃ a c,cv=.slice a cuts.length c:=by obtain ⟨a,c,h,_⟩:=hr;exact ⟨a,c,h⟩
 subst f7;obtain ⟨cn,d5⟩:=Nm (cuts.length);have f8:(cuts.length:Int)<=9223372036854775807:=by obtain ⟨_,_,e,h1,h2,_⟩:=hr;injection e with _ e2 e3;omega
 obtain ⟨t0,d6⟩:=Nm (d.trail.length);rw [<- d5] at hr d4 f8 |-;rw [<- d6] at ht |-;have a1:=ja w (.cells #[(0:Int),(0:Int),.slice none 0 0] 30);have H:=Hd (show AgI w (w.alloc (.cells #[(0:Int),(0:Int),.slice none 0 0] 30)) pd F t0 st ep 0 d F from ⟨hd.grow a1,fun k hk=>.inl hk,Box.new _ _ _,by omega,Mod.of_below a1⟩)
 have HT:=Hd ht;have HK:=Hd hk;have HC:=Hd hc;have Hm:=Hd e1;have HR:=Hd hr;have Hq:=Hd e4;have Hr:=Hd d4;have P:=Hd d5;have Hs:=Hd d6;have HG:=Hd (show ∀ W,Mod F w W->ErrType W from fun W hm=>jhr hg hm e5)
 have I:=Hd hd.lt;obtain ⟨c,b8⟩:=Nm (st.clock);obtain ⟨b,d7⟩:=Nm (st.births);rw [<- b8,<- d7];have Hb:=Hd (And.intro b8.symm d7.symm);clear hd hk hc e1 ht hr e4 d4 a1 d5 d6 hg e5 b8 d7;go_enter func9,ntmps9;go_wp2_with fail;generalize (w.alloc (.cells #[(0:Int),(0:Int),.slice none 0 0] 30))=w1 at H |-
 go_loopg [7] cn (fun gk iv wr=>∃ (i:Nat) (di:DiskM) (G:Nat->Prop),gk+i=cn/\iv=.int .i64 (i:Int)/\i<=8/\KeptD di st ep/\(cuts = []\/KeptI di st ep)/\(i=0->di=d)/\AgI w wr pd F t0 st ep i di G)
 case atStart=>exact ⟨0,d,F,qT _,rfl,by omega,HK.1,HC.1,fun _=>rfl,H.1⟩
 case round =>
  clear H;obtain ⟨i,di,G,e6,rfl,e7,c1,e8,e9,hI⟩:=hrel;have i0:(0:Int)<=(i:Int):=by omega
  have Hg:=Hd e6;have Hh:=Hd e7;have Ht:=Hd c1;have Hu:=Hd e8;have Hv:=Hd e9;have H:=Hd hI;clear e6 c1 e8 hI e9 e7;by_cases hii:i<cn/\i<8;rotate_left
  .
   go_upto_region 2 with (fail)
   go_cut [21] (fun s wx=>s=.bool false/\wr=wx)
   case first =>
    by_cases c2:i<cn
    .
     have i1:(i:Int)<(cn:Int):=by omega
     have i3:¬ (i:Int)<8:=by omega
     clear c2 hii;go_wp2;go_meet;exact ⟨rfl,rfl⟩
    .
     have i1:¬ (i:Int)<(cn:Int):=by omega
     clear c2 hii;go_wp2;go_meet;exact ⟨rfl,rfl⟩
   case rest =>
    obtain ⟨rfl,rfl⟩:=hcut;clear hii;go_wp2_with fail;refine (vH di pd G wr H.1.dk).mono ?_;rintro ev w2 ⟨rfl,G2,a9,b3,b9⟩;have c9:=H.1.bz.lt;have D:=Hd (show ∀ k,G2 k->F k\/w.heap.size<k from fun k hk=>H.1.lo k (b9 k hk))
    have J:=Hd (H.1.md.old b3 (fun k hk g=>(H.1.lo k g).elim id (fun g=>by omega)))
    have c0:¬ G w.heap.size:=fun h=>(H.1.lo _ h).elim (fun g=>by have:=I.1 _ g;omega) (fun g=>by omega)
    have E:=Hd (H.1.bz.mod b3 c0);have B:=Hd (E.1.lt);have L:=Hd (show ¬ G2 w.heap.size from fun h=>c0 (b9 _ h))
    have c3:=Ht.1.left none;obtain ⟨d2,a3⟩:∃ d2:DiskM,d2={ di with left:=none }:=⟨_,rfl⟩
    have a8:d2.trail.length=di.trail.length:=by rw [a3]
    have f0:d2.left=none:=by rw [a3]
    rw [<- a3] at c3 a9;have Hn:=Hd a9;have a0:=jay c3 pd G2 w2 a9 (by have:=H.1.tr;have:=HT.1;have:=Hh.1;omega)
    obtain ⟨z0,z1,z2,z3,z4,z5⟩:=jgf c3 Hm.1 f0;have b4:=vE d2 c3.len.2;obtain ⟨R,hR⟩:=Nm (jw d2);rw [<- hR] at a0 z0 z1 z2 z3 z4 z5 b4;obtain ⟨dN,eN,sN,er⟩:=R;simp only at a0 z0 z1 z2 z3 z4 z5 b4;subst z0;have z1:=z1.symm;subst z1;subst z2;rw [show jm 0=.nilIface from rfl,Hb.1.1,Hb.1.2] at a0
    have C:=Hd a0;have Hc:=Hd z3;have Hw:=Hd z4;have U:=Hd (show dN.trail.length<=t0+20000 by have:=H.1.tr;have:=Hh.1;omega)
    have Hx:=Hd (show cuts = []->dN.trail.length=t0+(yd (yW st).length+1) from fun h=>by
     have h1:=P.1;rw [h] at h1;have h2:=Hv.1 (by have:=Hg.1;simp at h1;omega)
     rw [h2] at a8;rw [z5,a8,<- Hs.1])
    clear a9 b3 b9 c9 c0 a0 z3 z4 z5 b4 hR H a8 f0 a3 c3;go_wp2_with fail;refine C.1.mono ?_;rintro ev w5 ⟨pv,o,rfl,a0⟩;obtain ⟨F5,q1,q2,q3,q4⟩:=a0.ex;obtain ⟨ps,pl,rfl,b1,b2,n1,n2,nne,a5,b5,a6⟩:=q4 rfl;have a4:=a0.ow;have a2:=a0.md;obtain ⟨oa,oc,rfl,_⟩:=a4.slice;obtain ⟨on,b0⟩:=Nm (st.l.length);simp only at q1 a5 b5 a4 a2;rw [<- b0] at q3 a6 a4 |-;have a1:=ja w5 (.cells #[c,b,.slice oa on oc] 30);have V:=Hd (Box.new w5 #[c,b,.slice oa on oc] 30);have X:=Hd ((E.1.mod a2 L.1).below a1);have HQ:=Hd (show w.heap.size<w5.heap.size from (E.1.mod a2 L.1).lt)
    have Hi:=Hd (show ¬ F5 w5.heap.size from fun h=>by have:=q1.lt _ h;omega)
    have Y:=Hd (q1.grow a1);have Z:=Hd (a5.below a1);have H0:=Hd (show yI _ (yt (ep+1)) pl pd from Box.below b5 a1)
    have H1:=Hd ((a4.below a1).base (base':=w.heap.size) (kh B.1));have H2:=Hd ((J.1.old a2 (fun k hk g=>(D.1 k g).elim id (fun g=>by omega))).trans (Mod.of_below a1))
    have A:=Hd (show (∀ k,F5 k->F k\/w.heap.size<k)/\w.heap.size<ps/\w.heap.size<pl/\¬ F5 ps/\¬ F5 pl/\ps≠pl/\(∀ k,(Value.slice oa on oc).ownBlock=some k->w.heap.size<k/\¬ F5 k/\k≠ps/\k≠pl) from
     ⟨fun k hk=>by
      rcases q2 k hk with g | g
      . exact D.1 k g
      . right;have:=B.1;omega,by have:=B.1;omega,by have:=B.1;omega,n1,n2,nne,fun k hk=>⟨by have:=(q3 k hk).1;have:=B.1;omega,(q3 k hk).2,(a6 k hk).1,(a6 k hk).2⟩⟩)
    clear q1 q2 q3 q4 a0 b1 b2 n1 n2 nne a5 b5 a6 a4 a2 b0 a1 C J

    have H3:=Y;clear Y;have H4:=Z;clear Z;have H5:=H0;clear H0;have H6:=H1;clear H1;have H7:=H2;clear H2;have HX:=V;clear V;have HZ:=X;clear X;have H8:=Hd A.1.1;have M:=Hd (And.intro A.1.2.2.2.1 A.1.2.2.2.2.1);have N:=Hd A.1.2.2.2.2.2.2;have O:=Hc;go_wp2_with fail;have H9:=Hd (fun W (hm:Mod (fun k=>k=w.heap.size) (w5.alloc (.cells #[c,b,.slice oa on oc] 30)) W)=>AgainR.res (cuts:=cuts) (show AgainR w pd F t0 st ep cuts ps (.slice oa on oc) (w5.alloc (.cells #[c,b,.slice oa on oc] 30)) from
     ⟨⟨_,pl,_,H3.1,H8.1,A.1.2.1,A.1.2.2.1,M.1.1,M.1.2,A.1.2.2.2.2.2.1,H4.1,H5.1,O.1,Hw.1,N.1,U.1,Hx.1⟩,H6.1,H7.1⟩) hm (fun h=>by have:=I.1 _ h;omega))
    obtain ⟨q,hq⟩:=Nm (w5.heap.size);obtain ⟨wq,c4⟩:=Nm ((w5.alloc (.cells #[c,b,.slice oa on oc] 30)));rw [<- c4] at H9 HX HZ |-;rw [<- hq] at HX HQ |-;clear c4 hq H3 H8 M H4 H5 O N H6 H7 A;refine qt (S:=fun W=>Box W q #[c,b,.slice oa on oc] 30) (by kernel_rfl) (HX.1.below (jb wq)) (fun a7=>?_)
    refine Tk 0 59 ?_;refine Tk 1 60 ?_ (v:=.agg #[c,b,.slice oa on oc]) (hy:=fun w' d8=>Ek (jj d8) underlying30)
    refine Tk 2 61 ?_;refine Tk 3 62 ?_;refine Tk 4 63 ?_;refine Tk 5 64 ?_;refine Tk 6 65 ?_;refine Tk 7 66 ?_;refine Tk 8 4 ?_;refine Rs 9 30 5 60 fun K hK=>?_
    rw [qf (by kernel_rfl)]
    refine yw 30 (.tmp 5) (.tmp 60) rfl w.heap.size 0 [c,b,.slice oa on oc] rfl rfl (HZ.1.below (jb wq)).there3 (by kernel_rfl) (jc5 _ _ _ _ _) ?_
    obtain ⟨c5,b6⟩:=(HZ.1.below (jb wq)).set3 c b (.slice oa on oc);refine hK.out _ _ (a7.mod b6 (by have:=HQ.1;omega)) (fun c6=>?_)
    have HF:=Hd (And.intro c5 (H9.1 _ ((Mod.of_below (F:=fun k=>k=w.heap.size) (jb wq)).trans b6)))
    clear hK K c5 b6;generalize (World.setCells _ _ _ _)=w9 at HF c6 |-
    try simp only [Act.put]
    refine Tk 10 6 ?_;refine Dn ?_;clear a7 c6;go_wp2_with fail;exact ye rfl rfl w.heap.size 0 rfl [c,b,.slice oa on oc] _ (jj HF.1.1) underlying30 rfl (by kernel_rfl) _ _ rfl rfl ⟨_,_,rfl,HF.1.2⟩
  obtain ⟨c2,f1⟩:=hii;have i1:(i:Int)<(cn:Int):=by omega
  have i2:decide ((i:Int)<(cn:Int))=true:=by simpa using i1
  have Hj:=Hd c2;have i3:(i:Int)<8:=by omega
  have i4:decide ((i:Int)<8)=true:=by simpa using i3
  have Ho:=Hd f1;have c1:KeptI di st ep:=by
   rcases Hu.1 with h | h
   . have:=P.1;rw [h] at this;simp at this;omega
   . exact h
  have f2:=Rd.mod0 HR.1 H.1.md (fun hp k hk=>Hr.1 (by rw [qE] at hp;have:=P.1;omega) k hk)
  obtain ⟨cb,co,f9,b8⟩:=jlX f2 i (by have:=P.1;omega)
  subst f9;obtain ⟨x,hx⟩:=Nm (cuts.getD i 0);rw [<- hx] at b8;have d0:I64 x:=by
   have f3:i<cuts.length:=by have:=P.1;omega
   rw [hx,List.getD,List.getElem?_eq_getElem f3];exact Hq.1 _ (qy f3)
  have Hk:=Hd (fun W=>vu x 20 W d0.1 d0.2 (by decide) (by decide))
  have c7:=jet x 20 (by decide)
  obtain ⟨y,hy⟩:=Nm (uN x 20);rw [<- hy] at Hk c7;have Ha:=Hd (fun W (hW:IsDisk W di pd G)=>jca di pd G y W hW (by omega))
  have Hz:=Hd c7;rw [qh (by omega)] at Ha
  obtain ⟨m,hm⟩:=Nm (y.toNat);rw [<- hm] at Ha;have Q:=Hd (c1.left (some m));obtain ⟨d2,a3⟩:∃ d2:DiskM,d2={ di with left:=some m }:=⟨_,rfl⟩
  have a8:d2.trail.length=di.trail.length:=by rw [a3]
  rw [<- a3] at Ha Q;clear c2 f1 c1 f2 hx d0 c7 hy hm a3;go_wp2_with fail;refine (Hk.1 _).mono ?_;rintro ev w2' ⟨rfl,rfl⟩;go_wp2_with fail;refine (Ha.1 _ H.1.dk).mono ?_;rintro ev w2 ⟨rfl,G2,a9,b3,b9⟩;have c9:=H.1.bz.lt;have D:=Hd (show ∀ k,G2 k->F k\/w.heap.size<k from fun k hk=>by
   rcases b9 k hk with g | g
   . exact H.1.lo k g
   . right;omega)
  have J:=Hd (H.1.md.old b3 (fun k hk g=>(H.1.lo k g).elim id (fun g=>by omega)))
  have c0:¬ G w.heap.size:=fun h=>(H.1.lo _ h).elim (fun g=>by have:=I.1 _ g;omega) (fun g=>by omega)
  have E:=Hd (H.1.bz.mod b3 c0);have B:=Hd (E.1.lt);have L:=Hd (show ¬ G2 w.heap.size from fun h=>(D.1 _ h).elim (fun g=>by have:=I.1 _ g;omega) (fun g=>by omega))
  have He:=Hd (show d2.trail.length<=t0+2050*i by rw [a8];exact H.1.tr)
  have Hn:=Hd a9;have a0:=jay Q.1.d pd G2 w2 a9 (by have:=He.1;have:=HT.1;have:=Hh.1;omega)
  have d1:=jkN Q.1 Hm.1;have b4:=vE d2 Q.1.len.2;obtain ⟨R,hR⟩:=Nm (jw d2);rw [<- hR] at a0 d1 b4;obtain ⟨dN,eN,sN,er⟩:=R;simp only at a0 d1 b4;have C:=Hd a0;have Hf:=Hd d1;have U:=Hd (show dN.trail.length<=t0+2050*(i+1) by have:=He.1;omega)
  clear a9 b3 b9 c9 c0 a0 d1 b4 hR H Hk Ha a8 b8;by_cases h0:er=0
  .
   obtain ⟨_,z1,z2,z3⟩:er=0/\sN=st/\eN=ep+1/\StoI dN ⟨ep+1,yt (ep+1),false⟩ st:=by
    rcases Hf.1 with h | h
    . exact h
    . exact absurd h0 (by rw [h.1];decide)
   have z1:=z1.symm;subst z1;subst z2;subst h0;rw [show jm 0=.nilIface from rfl,Hb.1.1,Hb.1.2] at C
   have Hc:=Hd z3;clear Hf z3 Q He;go_wp2_with fail;refine C.1.mono ?_;rintro ev w5 ⟨pv,o,rfl,a0⟩;obtain ⟨F5,q1,q2,q3,q4⟩:=a0.ex;obtain ⟨ps,pl,rfl,b1,b2,n1,n2,nne,a5,b5,a6⟩:=q4 rfl;have a4:=a0.ow;have a2:=a0.md;obtain ⟨oa,oc,rfl,_⟩:=a4.slice;obtain ⟨on,b0⟩:=Nm (st.l.length);simp only at q1 a5 b5 a4 a2;rw [<- b0] at q3 a6 a4 |-;have a1:=ja w5 (.cells #[c,b,.slice oa on oc] 30);have V:=Hd (Box.new w5 #[c,b,.slice oa on oc] 30);have X:=Hd ((E.1.mod a2 L.1).below a1);have HQ:=Hd (show w.heap.size<w5.heap.size from (E.1.mod a2 L.1).lt)
   have Hi:=Hd (show ¬ F5 w5.heap.size from fun h=>by have:=q1.lt _ h;omega)
   have Y:=Hd (q1.grow a1);have Z:=Hd (a5.below a1);have H0:=Hd (show yI _ (yt (ep+1)) pl pd from Box.below b5 a1)
   have H1:=Hd ((a4.below a1).base (base':=w.heap.size) (kh B.1));have H2:=Hd ((J.1.old a2 (fun k hk g=>(D.1 k g).elim id (fun g=>by omega))).trans (Mod.of_below a1))
   have A:=Hd (show (∀ k,F5 k->F k\/w.heap.size<k)/\w.heap.size<ps/\w.heap.size<pl/\¬ F5 ps/\¬ F5 pl/\ps≠pl/\(∀ k,(Value.slice oa on oc).ownBlock=some k->w.heap.size<k/\¬ F5 k/\k≠ps/\k≠pl) from
    ⟨fun k hk=>by
     rcases q2 k hk with g | g
     . exact D.1 k g
     . right;have:=B.1;omega,by have:=B.1;omega,by have:=B.1;omega,n1,n2,nne,fun k hk=>⟨by have:=(q3 k hk).1;have:=B.1;omega,(q3 k hk).2,(a6 k hk).1,(a6 k hk).2⟩⟩)
   clear q1 q2 q3 q4 a0 b1 b2 n1 n2 nne a5 b5 a6 a4 a2 b0 a1 C J

   go_wp2_with fail;refine (vH dN pd F5 _ Y.1).mono ?_;rintro ev w8 ⟨rfl,F8,f4,b7,c8⟩;have HX:=Hd (V.1.mod b7 (fun h=>by
    rcases A.1.1 _ h with g | g
    . have:=I.1 _ g;have:=HQ.1;omega
    . exact Hi.1 h))
   have HZ:=Hd (X.1.mod b7 (fun h=>(A.1.1 _ h).elim (fun g=>by have:=I.1 _ g;omega) (fun g=>by omega)))
   have H3:=Hd f4;have H8:=Hd (show ∀ k,F8 k->F k\/w.heap.size<k from fun k hk=>A.1.1 k (c8 k hk))
   have M:=Hd (show ¬ F8 ps/\¬ F8 pl from ⟨fun h=>A.1.2.2.2.1 (c8 _ h),fun h=>A.1.2.2.2.2.1 (c8 _ h)⟩)
   have N:=Hd (show ∀ k,(Value.slice oa on oc).ownBlock=some k->w.heap.size<k/\¬ F8 k/\k≠ps/\k≠pl from fun k hk=>by
    have:=A.1.2.2.2.2.2.2 k hk;exact ⟨this.1,fun h=>this.2.1 (c8 _ h),this.2.2⟩)
   have H4:=Hd (Z.1.mod b7 A.1.2.2.2.1);have H5:=Hd (show yI w8 (yt (ep+1)) pl pd from Box.mod H0.1 b7 A.1.2.2.2.2.1)
   have H6:=Hd (H1.1.mod b7 (fun k hk h=>(A.1.2.2.2.2.2.2 k hk).2.1 h))
   have H7:=Hd (H2.1.old b7 (fun k hk h=>(A.1.1 _ h).elim id (fun g=>by omega)))
   have O:=Hd (Hc.1.left none);clear f4 b7 c8 Y Z H0 H1 H2 V X Hc Hi;go_wp2_with fail;have H9:=Hd (fun W (hm:Mod (fun k=>k=w.heap.size) w8 W)=>AgainR.res (cuts:=cuts) (show AgainR w pd F t0 st ep cuts ps (.slice oa on oc) w8 from
    ⟨⟨_,pl,_,H3.1,H8.1,A.1.2.1,A.1.2.2.1,M.1.1,M.1.2,A.1.2.2.2.2.2.1,H4.1,H5.1,O.1,rfl,N.1,by have:=U.1;have:=Ho.1;show dN.trail.length<=_;omega,fun h=>by have:=P.1;rw [h] at this;have:=Hj.1;simp at *;omega⟩,H6.1,H7.1⟩) hm (fun h=>by have:=I.1 _ h;omega))
   obtain ⟨q,hq⟩:=Nm (w5.heap.size);obtain ⟨wq,c4⟩:=Nm (w8);rw [<- c4] at H9 HX HZ |-;rw [<- hq] at HX HQ |-;clear c4 hq H3 H8 M H4 H5 O N H6 H7 A;refine qt (S:=fun W=>Box W q #[c,b,.slice oa on oc] 30) (by kernel_rfl) (HX.1.below (jb wq)) (fun a7=>?_)
   refine Tk 0 45 ?_;refine Tk 1 46 ?_ (v:=.agg #[c,b,.slice oa on oc]) (hy:=fun w' d8=>Ek (jj d8) underlying30)
   refine Tk 2 4 ?_;refine Rs 3 30 5 46 fun K hK=>?_
   rw [qf (by kernel_rfl)]
   refine yw 30 (.tmp 5) (.tmp 46) rfl w.heap.size 0 [c,b,.slice oa on oc] rfl rfl (HZ.1.below (jb wq)).there3 (by kernel_rfl) (jc5 _ _ _ _ _) ?_
   obtain ⟨c5,b6⟩:=(HZ.1.below (jb wq)).set3 c b (.slice oa on oc);refine hK.out _ _ (a7.mod b6 (by have:=HQ.1;omega)) (fun c6=>?_)
   have HF:=Hd (And.intro c5 (H9.1 _ ((Mod.of_below (F:=fun k=>k=w.heap.size) (jb wq)).trans b6)))
   clear hK K c5 b6;generalize (World.setCells _ _ _ _)=w9 at HF c6 |-
   try simp only [Act.put]
   refine Tk 4 6 ?_;refine Dn ?_;clear a7 c6;go_wp2_with fail;exact ye rfl rfl w.heap.size 0 rfl [c,b,.slice oa on oc] _ (jj HF.1.1) underlying30 rfl (by kernel_rfl) _ _ rfl rfl ⟨_,_,rfl,HF.1.2⟩
  have d9:er=22/\KeptI dN st ep:=by
   rcases Hf.1 with h | h
   . exact absurd h.1 h0
   . exact h
  obtain ⟨d9,f5⟩:=d9;subst d9;have Hp:=Hd f5;clear Hf f5 h0 Q He;go_wp2_with fail;refine C.1.mono ?_;rintro ev w5 ⟨pv,o,rfl,a0⟩;obtain ⟨F5,q1,q2,q3,q4⟩:=a0.ex;have a2:=a0.md;obtain ⟨oa,oc,rfl,_⟩:=a0.ow.slice;have c7:pv=.pointer none:=a0.no (show (22:Int)≠0 by decide)
  subst c7;simp only at q1;obtain ⟨sc,f6⟩:=Nm (sN.clock);obtain ⟨sb,a5⟩:=Nm (sN.births);obtain ⟨on,b0⟩:=Nm (sN.l.length);rw [<- f6,<- a5,<- b0];have a1:=ja w5 (.cells #[sc,sb,.slice oa on oc] 30);have e0:=(J.1.old a2 (fun k hk g=>(D.1 k g).elim id (fun g=>by omega))).trans (Mod.of_below (F:=F) a1)
  have Hl:=Hd (xI 22 _ (by decide) (by decide) (HG.1 _ e0))
  have T:=Hd (show AgI w (w5.alloc (.cells #[sc,sb,.slice oa on oc] 30)) pd F t0 st ep (i+1) dN F5 from
   ⟨q1.grow a1,fun k hk=>by
    rcases q2 k hk with g | g
    . exact D.1 k g
    . right;have:=B.1;omega,(E.1.mod a2 L.1).below a1,U.1,e0⟩)
  rw [show jm 22=.iface 91 (22:Int) from rfl] at Hl |-
  clear a0 q1 q2 q3 q4 a2 a1 e0 f6 a5 b0 C J D E B L Hn U;go_wp2_with fail;refine Hl.1.mono ?_;rintro ev w7 ⟨rfl,d3⟩;have Hy:=Hd (show AgI w w7 pd F t0 st ep (i+1) dN F5 from ⟨T.1.dk.grow d3,T.1.lo,T.1.bz.below d3,T.1.tr,T.1.md.trans (Mod.of_below d3)⟩)
  clear d3 T Hl;go_wp2
  go_roundg (cn-(i+1))
  case measure=>have:=Hg.1;have:=Hj.1;omega
  case rel=>exact ⟨i+1,dN,F5,by have:=Hg.1;have:=Hj.1;omega,by go_num,by have:=Ho.1;omega,Hp.1.d,.inr Hp.1,fun h=>by omega,Hy.1⟩
end Go.Proofs.YtgcnolapjppbpaaGreatDoor
