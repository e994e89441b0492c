/-
  Texts of one proof, one behind the other.
-/
import Derived.Test.YtgcnolapjppbpaaGreatDoorP41
import Derived.Test.YtgcnolapjppbpaaGreatDoorP40
import Derived.Test.YtgcnolapjppbpaaGreatDoorP16
import Derived.Test.YtgcnolapjppbpaaGreatDoorP23
import Derived.Test.YtgcnolapjppbpaaGreatDoorP04
import Derived.Outline
import Derived.Deep.LoopGhost
import Derived.Test.YtgcnolapjppbpaaGreatDoorP25
import Derived.Test.YtgcnolapjppbpaaGreatDoorP00
namespace Go.Proofs.YtgcnolapjppbpaaGreatDoor
open Go.RowKit _root_.Go.Proofs.Tryz
set_option maxRecDepth 100000
set_option maxHeartbeats 25600000
theorem jaC (s:TkM):s.num.2.big=s.big:=by
 unfold TkM.num
 split
 · split <;> rfl
 · rfl
theorem jaK (s:TkM):s.txt.2.big=s.big:=by
 unfold TkM.txt
 split
 · split <;> rfl
 · rfl
theorem yT {s:TkM}(h:s.int.2.big=false):s.big=false∧s.rint.1=s.int.1:=by
 have h2:(s.num.2.big || !(decide (s.num.1≤9223372036854775807)))=false:=h
 rw [jaC,Bool.or_eq_false_iff] at h2;refine ⟨h2.1,?_⟩;have h3:s.num.1≤9223372036854775807:=by simpa using h2.2
 show rAs s.num.1=yz s.num.1;unfold rAs yz;rw [if_pos h3,if_pos h3]
theorem jhq (s:TkM)(h:(yg s).2.big=false):yH s=yg s:=by
 have a0:=yT (s:=(((((((((((s).int.2).int.2).int.2).int.2).int.2).txt.2).txt.2).num.2).int.2).int.2).int.2) h;have a1:=yT (s:=((((((((((s).int.2).int.2).int.2).int.2).int.2).txt.2).txt.2).num.2).int.2).int.2) a0.1;have h9:=yT (s:=(((((((((s).int.2).int.2).int.2).int.2).int.2).txt.2).txt.2).num.2).int.2) a1.1;have h8:=yT (s:=((((((((s).int.2).int.2).int.2).int.2).int.2).txt.2).txt.2).num.2) h9.1;have h7:((((((((s).int.2).int.2).int.2).int.2).int.2).txt.2).txt.2).big=false:=by rw [← jaC];exact h8.1
 have h6:(((((((s).int.2).int.2).int.2).int.2).int.2).txt.2).big=false:=by rw [← jaK];exact h7
 have h5:((((((s).int.2).int.2).int.2).int.2).int.2).big=false:=by rw [← jaK];exact h6
 have h4:=yT (s:=((((s).int.2).int.2).int.2).int.2) h5;have h3:=yT (s:=(((s).int.2).int.2).int.2) h4.1;have h2:=yT (s:=((s).int.2).int.2) h3.1;have h1:=yT (s:=(s).int.2) h2.1;have h0:=yT (s:=s) h1.1;show ((⟨(s).rint.1,((s).int.2).rint.1,(((s).int.2).int.2).rint.1,((((s).int.2).int.2).int.2).rint.1,(((((s).int.2).int.2).int.2).int.2).rint.1,((((((s).int.2).int.2).int.2).int.2).int.2).txt.1,(((((((s).int.2).int.2).int.2).int.2).int.2).txt.2).txt.1,((((((((s).int.2).int.2).int.2).int.2).int.2).txt.2).txt.2).num.1,(((((((((s).int.2).int.2).int.2).int.2).int.2).txt.2).txt.2).num.2).rint.1,((((((((((s).int.2).int.2).int.2).int.2).int.2).txt.2).txt.2).num.2).int.2).rint.1,(((((((((((s).int.2).int.2).int.2).int.2).int.2).txt.2).txt.2).num.2).int.2).int.2).rint.1,((((((((((((s).int.2).int.2).int.2).int.2).int.2).txt.2).txt.2).num.2).int.2).int.2).int.2).rint.1⟩:SesM),((((((((((((s).int.2).int.2).int.2).int.2).int.2).txt.2).txt.2).num.2).int.2).int.2).int.2).int.2)=_;rw [h0.2,h1.2,h2.2,h3.2,h4.2,h8.2,h9.2,a1.2,a0.2]
 rfl
theorem jfs {s:TkM}(h:s.big=true)(e e':EvtM):zI s e=zI s e':=by
 unfold zI;rw [h];rfl
theorem jif (l:List UInt8):vL l=ud l:=by
 unfold vL ud;simp only;generalize (TkM.num ⟨l,0,0,false⟩)=p;have hi:∀ f:Int→EvtM,zI p.2.rint.2 (f p.2.rint.1)=zI p.2.int.2 (f p.2.int.1):=fun f=>by
  show zI p.2.int.2 _=_
  cases hb:p.2.int.2.big
  · rw [(yT hb).2]
  · exact jfs hb _ _
 have a0:zI (yH p.2).2 ⟨0,(yH p.2).1,0,0⟩=zI (yg p.2).2 ⟨0,(yg p.2).1,0,0⟩:=by
  cases hb:(yg p.2).2.big
  · rw [jhq _ hb]
  ·
   show zI (yg p.2).2 _=_;exact jfs hb _ _
 rw [a0,hi (fun n=>⟨1,ju,n,0⟩),hi (fun n=>⟨2,ju,0,n⟩)]
theorem jjH {s:TkM}(h:s.er≠0):s.int.2=s:=by
 show (⟨s.num.2.l,s.num.2.k,s.num.2.er,s.num.2.big || !(decide (s.num.1≤9223372036854775807))⟩:TkM)=s
 rw [jhh h]
 cases s;simp
theorem jjC {s:TkM}(h:s.er≠0):s.txt.2=s:=by unfold TkM.txt;rw [if_neg h]
theorem jjJ {s:TkM}(h:s.er≠0):s.num.2=s:=by rw [jhh h]
theorem jjq {s:TkM}(h:s.er≠0):(yg s).2=s:=by
 show (((((((((((s).int.2).int.2).int.2).int.2).int.2).txt.2).txt.2).num.2).int.2).int.2).int.2.int.2=s;simp only [jjH h,jjC h,jjJ h]
theorem ji5 (s:TkM):(yH s).2=(yg s).2:=rfl
theorem jcv {s:TkM}(h:s.er≠0):∀ n,(sesTs n s).2=s
 | 0=>rfl
 | n+1=>by show (sesTs n (yg s).2).2=s;rw [jjq h];exact jcv h n
theorem jjh:∀ (n:Nat) (s:TkM),(yO n s).2=(sesTs n s).2
 | 0,_=>rfl
 | n+1,s=>by
  by_cases h:s.er=0
  ·
   rw [yO,if_pos h];show (yO n (yH s).2).2=(sesTs n (yg s).2).2;rw [ji5,jjh n]
  · rw [jaG h,jcv h]
theorem jiR {s:TkM}(h:(yg s).2.big=false):s.big=false:=by
 have a0:=yT (s:=(((((((((((s).int.2).int.2).int.2).int.2).int.2).txt.2).txt.2).num.2).int.2).int.2).int.2) h;have a1:=yT (s:=((((((((((s).int.2).int.2).int.2).int.2).int.2).txt.2).txt.2).num.2).int.2).int.2) a0.1;have h9:=yT (s:=(((((((((s).int.2).int.2).int.2).int.2).int.2).txt.2).txt.2).num.2).int.2) a1.1;have h8:=yT (s:=((((((((s).int.2).int.2).int.2).int.2).int.2).txt.2).txt.2).num.2) h9.1;have h7:((((((((s).int.2).int.2).int.2).int.2).int.2).txt.2).txt.2).big=false:=by rw [← jaC];exact h8.1
 have h6:(((((((s).int.2).int.2).int.2).int.2).int.2).txt.2).big=false:=by rw [← jaK];exact h7
 have h5:((((((s).int.2).int.2).int.2).int.2).int.2).big=false:=by rw [← jaK];exact h6
 have h4:=yT (s:=((((s).int.2).int.2).int.2).int.2) h5;have h3:=yT (s:=(((s).int.2).int.2).int.2) h4.1;have h2:=yT (s:=((s).int.2).int.2) h3.1;have h1:=yT (s:=(s).int.2) h2.1;exact (yT (s:=s) h1.1).1
theorem jfa:∀ (n:Nat) {s:TkM},(sesTs n s).2.big=false→s.big=false
 | 0,_,h=>h
 | n+1,_,h=>jiR (jfa n h)
theorem jiK:∀ (n:Nat) (s:TkM),(sesTs n s).2.er=0→(sesTs n s).2.big=false→(yO n s).1=(sesTs n s).1
 | 0,_,_,_=>rfl
 | n+1,s,he,hb=>by
  by_cases h:s.er=0
  ·
   rw [yO,if_pos h];have h1:=jhq s (jfa n hb);show (yH s).1::(yO n (yH s).2).1=(yg s).1::(sesTs n (yg s).2).1;rw [h1,jiK n _ he hb]
  · rw [jcv h] at he;exact absurd he h
theorem jkl {S:TkM}{a b:StM}(h:S.er=0→S.big=false→a=b):jaj S a=jfb S b:=by
 unfold jaj jfb;by_cases he:S.er=0
 ·
  rw [if_pos he,if_pos he];have hr:(0<S.rest.length)=(S.k<S.l.length):=by
   unfold TkM.rest;rw [List.length_drop];simp only [eq_iff_iff];omega
  simp only [hr];by_cases hk:S.k<S.l.length
  · rw [if_pos hk,if_pos hk]
  ·
   rw [if_neg hk,if_neg hk];by_cases hb:S.big=true
   · rw [if_pos hb,if_pos hb]
   · rw [if_neg hb,if_neg hb,h he (by simpa using hb)]
 · rw [if_neg he,if_neg he]
theorem jgM (l:List UInt8):zX l=vk l:=by
 unfold zX vk;simp only;generalize hs:(⟨l,0,0,false⟩:TkM)=s;show (if s.int.2.int.2.num.2.er=0∧32<s.int.2.int.2.num.1 then ((24:Int),yh) else jaj (yO s.int.2.int.2.num.1 s.int.2.int.2.num.2).2 ⟨s.rint.1,s.int.2.rint.1,(yO s.int.2.int.2.num.1 s.int.2.int.2.num.2).1⟩)=_
 by_cases hc:s.int.2.int.2.num.2.er=0∧32<s.int.2.int.2.num.1
 · rw [if_pos hc,if_pos hc]
 ·
  rw [if_neg hc,if_neg hc,jjh];refine jkl fun he hb=>?_
  have h1:=jfa _ hb;rw [jaC] at h1;have h2:=yT h1;have h3:=yT h2.1;rw [h2.2,h3.2,jiK _ _ he hb]
def jgr (l:List SesM)(i k:Nat):Bool:=match l[i]?,l[k]? with
 | some s,some p=>s.upB != 0&&(s.upB==p.birth)
 | _,_=>false
theorem jeM {l:List SesM}{i k:Nat}(hi:i<l.length)(hk:k<l.length):jgr l i k=(l[i].upB != 0&&(l[i].upB==l[k].birth)):=by
 unfold jgr;rw [List.getElem?_eq_getElem hi,List.getElem?_eq_getElem hk]
abbrev gat (g:List Bool)(i:Nat):Bool:=g.getD i false
theorem jjA {g:List Bool}{i j:Nat}{v:Bool}(hi:i<g.length):gat (g.set i v) j=if j=i then v else gat g j:=by
 unfold gat;rw [List.getD,List.getD,List.getElem?_set];by_cases h:j=i
 · subst h;rw [if_pos rfl,if_pos hi,if_pos rfl];rfl
 · rw [if_neg (fun e=>h e.symm),if_neg h]
theorem jhz {g h:List Bool}(hl:g.length=h.length)(he:∀ i,gat g i=gat h i):g=h:=by
 refine List.ext_getElem hl fun i h1 h2=>?_
 have:=he i;unfold gat at this;rw [List.getD,List.getD,List.getElem?_eq_getElem h1,List.getElem?_eq_getElem h2] at this;exact this
def zH (l:List SesM)(g:List Bool)(i k:Nat):List Bool:=g.set i (gat g i || (gat g k&&jgr l i k))
structure WInv (goes:SesM→Bool)(l:List SesM)(g:List Bool):Prop where
 len:g.length=l.length
 one:∀ i (hi:i<l.length),goes l[i]=true→gat g i=true
 sound:∀ i (hi:i<l.length),gat g i=true→Dies goes l l[i]
def Clo (l:List SesM)(g:List Bool):Prop:=∀ i k,i<l.length→k<l.length→gat g k=true→jgr l i k=true→gat g i=true
structure TurnR (goes:SesM→Bool)(l:List SesM)(g0 g:List Bool)(i k:Nat):Prop where
 inv:WInv goes l g
 len0:g0.length=l.length
 ext:∀ j,gat g0 j=true→gat g j=true
 stay:Clo l g0→g=g0
 chk:g=g0→∀ i' k',(i'<i∨(i'=i∧k'<k))→i'<l.length→k'<l.length→gat g0 k'=true→jgr l i' k'=true→gat g0 i'=true
theorem TurnR.start {goes:SesM→Bool}{l:List SesM}{g:List Bool}(h:WInv goes l g):TurnR goes l g g 0 0 :=
 ⟨h,h.len,fun _ h=>h,fun _=>rfl,fun _ i' k' hh=>by omega⟩
theorem TurnR.next {goes:SesM→Bool}{l:List SesM}{g0 g:List Bool}{i k:Nat}(h:TurnR goes l g0 g i k)(hi:i<l.length)(hk:k<l.length):TurnR goes l g0 (zH l g i k) i (k+1):=by
 have a4:i<g.length:=by rw [h.inv.len];exact hi
 have a0:∀ j,gat (zH l g i k) j=if j=i then (gat g i || (gat g k&&jgr l i k)) else gat g j:=fun j=>jjA a4
 have a1:∀ j,gat g j=true→gat (zH l g i k) j=true:=fun j hj=>by
  rw [a0];by_cases e:j=i
  · subst e;rw [if_pos rfl,hj];rfl
  · rw [if_neg e];exact hj
 refine ⟨⟨by unfold zH;rw [List.length_set];exact h.inv.len,fun j hj hg=>a1 j (h.inv.one j hj hg),fun j hj hg=>?_⟩,h.len0,fun j hj=>a1 j (h.ext j hj),fun hc=>?_,fun he=>?_⟩
 ·
  rw [a0] at hg;by_cases e:j=i
  ·
   subst e;rw [if_pos rfl,Bool.or_eq_true,Bool.and_eq_true] at hg
   rcases hg with hg | ⟨h1,h2⟩
   · exact h.inv.sound j hj hg
   ·
    rw [jeM hj hk,Bool.and_eq_true,bne_iff_ne,beq_iff_eq] at h2;exact .up (List.getElem_mem _) (h.inv.sound k hk h1) h2.2 h2.1
  · rw [if_neg e] at hg;exact h.inv.sound j hj hg
 ·
  have e0:=h.stay hc;subst e0;refine jhz (by unfold zH;rw [List.length_set]) fun j=>?_
  rw [a0];by_cases e:j=i
  ·
   subst e;rw [if_pos rfl]
   cases hg:gat g j
   ·
    cases hk2:gat g k&&jgr l j k
    · rfl
    ·
     rw [Bool.and_eq_true] at hk2;have:=hc j k hi hk hk2.1 hk2.2;rw [hg] at this;cases this
   · rfl
  · rw [if_neg e]
 ·
  have e0:g=g0:=jhz (by rw [h.inv.len,h.len0]) fun j=>by
   cases h1:gat g j
   ·
    cases h2:gat g0 j
    · rfl
    · have:=h.ext j h2;rw [h1] at this;cases this
   · rw [← he];exact (a1 j h1).symm
  intro i' k' hh a2 a3 h1 h2
  rcases hh with hh | ⟨rfl,hh⟩
  · exact h.chk e0 i' k' (.inl hh) a2 a3 h1 h2
  ·
   by_cases e:k'=k
   ·
    subst e;have h3:=a0 i';rw [if_pos rfl,he,e0,h1,h2] at h3;rw [h3];simp
   · exact h.chk e0 i' k' (.inr ⟨rfl,by omega⟩) a2 a3 h1 h2
theorem TurnR.row {goes:SesM→Bool}{l:List SesM}{g0 g:List Bool}{i:Nat}(h:TurnR goes l g0 g i l.length):TurnR goes l g0 g (i+1) 0 :=
 ⟨h.inv,h.len0,h.ext,h.stay,fun he i' k' hh a0 a1=>h.chk he i' k' (by omega) a0 a1⟩
theorem jfN:∀ {g h:List Bool},g.length=h.length→(∀ i,gat g i=true→gat h i=true)→g≠h→g.count true<h.count true
 | [],[],_,_,hne=>absurd rfl hne
 | [],_::_,hl,_,_=>by simp at hl
 | _::_,[],hl,_,_=>by simp at hl
 | a::g,b::h,hl,hs,hne=>by
  have a0:g.length=h.length:=by simpa using hl
  have a1:∀ i,gat g i=true→gat h i=true:=fun i hi=>hs (i+1) hi
  have h0:a=true→b=true:=fun e=>hs 0 e
  have a3:∀ {g h:List Bool},g.length=h.length→(∀ i,gat g i=true→gat h i=true)→g.count true≤h.count true:=by
   intro g
   induction g with
   | nil=>intro h _ _;simp
   | cons x g ih =>
    intro h hl hs
    cases h with
    | nil=>simp at hl
    | cons y h =>
     have:=ih (h:=h) (by simpa using hl) (fun i hi=>hs (i+1) hi)
     have a2:x=true→y=true:=fun e=>hs 0 e
     rw [List.count_cons,List.count_cons]
     cases x <;> cases y
     · simpa using this
     · simp;omega
     · cases a2 rfl
     · simpa using this
  rw [List.count_cons,List.count_cons];by_cases e:g=h
  ·
   subst e
   cases a <;> cases b
   · exact absurd rfl hne
   · simp
   · cases h0 rfl
   · exact absurd rfl hne
  ·
   have:=jfN a0 a1 e
   cases a <;> cases b
   · simpa using this
   · simp;omega
   · cases h0 rfl
   · simpa using this
def Prog (l:List SesM)(t:Nat)(g:List Bool):Prop:=Clo l g∨t≤g.count true
theorem Prog.zero (l:List SesM)(g:List Bool):Prog l 0 g:=.inr (Nat.zero_le _)
theorem TurnR.done {goes:SesM→Bool}{l:List SesM}{g0 g:List Bool}{t:Nat}(h:TurnR goes l g0 g l.length 0)(hp:Prog l t g0):Prog l (t+1) g:=by
 by_cases e:g=g0
 ·
  left
  intro i k hi hk h1 h2;rw [e] at h1 ⊢;exact h.chk e i k (.inl hi) hi hk h1 h2
 ·
  right
  rcases hp with hp | hp
  · exact absurd (h.stay hp) e
  ·
   have:=jfN (by rw [h.inv.len,h.len0]) h.ext (fun e2=>e e2.symm)
   omega
theorem jjN {l:List SesM}{g:List Bool}(hl:g.length=l.length)(h:Prog l l.length g):Clo l g:=by
 rcases h with h | h
 · exact h
 ·
  intro i k hi hk _ _;have h1:g.count true=g.length:=Nat.le_antisymm List.count_le_length (by omega)
  have h2:=List.count_eq_length.1 h1;unfold gat;rw [List.getD,List.getElem?_eq_getElem (by omega)]
  exact (h2 _ (List.getElem_mem _)).symm
theorem jjg {goes:SesM→Bool}{l:List SesM}{g:List Bool}(h:WInv goes l g)(hc:Clo l g):∀ i (hi:i<l.length),gat g i=true↔Dies goes l l[i]:=by
 have hd:∀ s,Dies goes l s→∀ i (hi:i<l.length),l[i]=s→gat g i=true:=by
  intro s hs
  induction hs with
  | one hm hg=>intro i hi e;exact h.one i hi (by rw [e];exact hg)
  | up hm hp he hn ih =>
   intro i hi e;obtain ⟨k,hk,ek⟩:=List.getElem_of_mem hp.mem;refine hc i k hi hk (ih k hk ek) ?_;rw [jeM hi hk,e,ek,Bool.and_eq_true,bne_iff_ne,beq_iff_eq];exact ⟨hn,he⟩
 exact fun i hi=>⟨h.sound i hi,fun hs=>hd _ hs i hi rfl⟩
def OwnB (w:World)(base:Nat)(v:Value)(g:List Bool):Prop:=w.ownsRow base 4 1 v g.length (g.map Value.bool)
theorem OwnB.slice {w:World}{base:Nat}{v:Value}{g:List Bool}(h:OwnB w base v g):∃ a cap,v=.slice a g.length cap∧g.length≤cap:=by
 obtain ⟨a,cap,h1,h2,_⟩:=jq h;exact ⟨a,cap,h1,h2⟩
theorem OwnB.below {w w':World}{base:Nat}{v:Value}{g:List Bool}(h:OwnB w base v g)(hb:Below w.heap.size w w'):OwnB w' base v g:=jr h hb
theorem OwnB.lt {w:World}{base:Nat}{v:Value}{g:List Bool}(h:OwnB w base v g):∀ k,v.ownBlock=some k→base≤k∧k<w.heap.size:=jfd h
theorem OwnB.at {w:World}{base:Nat}{v:Value}{g:List Bool}(h:OwnB w base v g){i:Nat}(hi:i<g.length) :
  ∃ gb cap,v=.slice (some ⟨gb,0,none⟩) g.length cap∧base≤gb∧gb<w.heap.size∧(∀ j,j<g.length→w.cell? ⟨gb,j,none⟩=some (.bool (gat g j)))∧w.frozen? ⟨gb,i,none⟩=false∧∀ x,OwnB (w.setCell ⟨gb,i,none⟩ (.bool x)) base v (g.set i x):=by
 obtain ⟨gb,cap,e,hb,_,hf,_⟩:=jho h i hi (.bool true);refine ⟨gb,cap,e,hb,(jfd h gb (by rw [e];rfl)).2,fun j hj=>?_,hf,fun x=>?_⟩
 ·
  obtain ⟨b,off,cap',e1,h1⟩:=(jq h).at j (by simpa using hj)
  rw [e] at e1;have hb:gb=b:=by injection e1 with e1;injection e1 with e1;injection e1
  have ho:(0:Nat)=off:=by injection e1 with e1;injection e1 with e1;injection e1
  subst hb;subst ho;rw [Nat.zero_add] at h1;rw [h1];unfold gat;rw [List.getD,List.getD,List.getElem?_map,List.getElem?_eq_getElem hj]
  rfl
 ·
  obtain ⟨gb',cap',e',_,_,_,h2⟩:=jho h i hi (.bool x);rw [e] at e';have hb:gb=gb':=by injection e' with e1;injection e1 with e1;injection e1
  subst hb;unfold OwnB;rw [List.length_set,List.map_set];exact h2
structure WtS (w0 w:World)(base:Nat)(gv:Value)(g:List Bool):Prop where
 own:OwnB w base gv g
 mod:Mod (fun b=>gv.ownBlock=some b) w0 w
theorem WtS.set {w0 w:World}{base:Nat}{gb n cap:Nat}{g:List Bool}(h:WtS w0 w base (.slice (some ⟨gb,0,none⟩) n cap) g){i:Nat}{x:Bool}(ho:OwnB (w.setCell ⟨gb,i,none⟩ (.bool x)) base (.slice (some ⟨gb,0,none⟩) n cap) (g.set i x)):WtS w0 (w.setCell ⟨gb,i,none⟩ (.bool x)) base (.slice (some ⟨gb,0,none⟩) n cap) (g.set i x) :=
 ⟨ho,h.mod.trans (Mod.set _ _ _ _ rfl)⟩
theorem WtS.drew {w0 w:World}{base:Nat}{gv:Value}{g:List Bool}(h:WtS w0 w base gv g):WtS w0 w.drew base gv g:=⟨h.own.below (jd _),h.mod.trans (Mod.drew _ _)⟩
def WtF (wq W:World):Prop:=W.heap=wq.heap
theorem WtF.drew (w:World):WtF w w.drew:=rfl
theorem WtF.cell {wq W:World}(h:WtF wq W){a:Addr}{x:Option Value}(hc:wq.cell? a=x):W.cell? a=x:=by
 rw [← hc];exact World.cell?_of_block (by rw [h])
def jiA (goes:SesM→Bool)(l:List SesM)(g:List Bool):Prop:=g.length=l.length∧∀ i (hi:i<l.length),gat g i=true↔Dies goes l l[i]
theorem jdL (goes:SesM→Bool)(v gv:Value)(l:List SesM)(g:List Bool)(base:Nat)(w:World)(hv:RdS w v l)(hg:OwnB w base gv g)(hi:WInv goes l g)(b8:∀ k,v.ownBlock=some k→gv.ownBlock≠some k) :
  Calls prog 174 #[v,gv] w fun e w'=>e=.returned gv∧∃ g',OwnB w' base gv g'∧jiA goes l g'∧Mod (fun b=>gv.ownBlock=some b) w w':=by
 obtain ⟨a,cap,rfl,b9,d0⟩:=hv.slice;obtain ⟨ga,gcap,c0,c6⟩:=hg.slice;have c7:l.length≤9223372036854775807:=by omega
 obtain ⟨n,hN⟩:=Nm (l.length);have HV:=Lib.hid (fun w' (hm:Mod (fun b=>gv.ownBlock=some b) w w')=>(show RdS w' (.slice a l.length cap) l from Rd.mod hv hm (fun k hk=>b8 k hk)))
 have c1:g.length=n:=by rw [hi.len,hN]
 rw [c1] at c0;have HW0:=Lib.hid (show WtS w w base gv g from ⟨hg,Mod.refl _ _⟩)
 have HI0:=Lib.hid hi;subst c0;rw [← hN] at c7 HV b9 ⊢;have HN:=Lib.hid hN;clear hv hg hi b8 b9 hN c1 c6;go_enter func174,ntmps174;go_wp2_with fail
 go_loopg [5] n (fun gk iv wr=>∃ (t:Nat) (g1:List Bool),gk+t=n∧iv=.int .i64 (t:Int)∧WtS w wr base (.slice ga n gcap) g1∧Hid (WInv goes l g1∧Prog l t g1))
 case atStart=>exact ⟨0,g,rfl,rfl,HW0.out,Lib.hid ⟨HI0.out,Prog.zero _ _⟩⟩
 case round =>
  clear HW0 HI0;obtain ⟨t,g1,c2,rfl,c3,HP⟩:=hrel;have t0:(0:Int)≤(t:Int):=by omega
  have HGT:=Lib.hid c2;have HW1:=Lib.hid c3;clear c2 c3;by_cases ht:t<n
  ·
   have t1:(t:Int)<(n:Int):=by omega
   have HTN:=Lib.hid ht;clear ht;go_wp2_with fail;obtain ⟨wo,a9⟩:∃ wo:World,wo=wr:=⟨_,rfl⟩;rw [← a9] at HW1 ⊢;clear a9
   go_loopg [6] n (fun gi iv wr=>∃ (i:Nat) (g2:List Bool),gi+i=n∧iv=.int .i64 (i:Int)∧WtS w wr base (.slice ga n gcap) g2∧Hid (TurnR goes l g1 g2 i 0))
   case atStart=>exact ⟨0,g1,rfl,rfl,HW1.out,Lib.hid (TurnR.start HP.out.1)⟩
   case round =>
    clear HW1;obtain ⟨i,g2,a5,rfl,c4,HT⟩:=hrel;have i0:(0:Int)≤(i:Int):=by omega
    have HGI:=Lib.hid a5;have HW2:=Lib.hid c4;clear a5 c4;by_cases hii:i<n
    ·
     have i1:(i:Int)<(n:Int):=by omega
     have HIN:=Lib.hid hii;clear hii;go_wp2_with fail;obtain ⟨wo2,a9⟩:∃ wo:World,wo=wr:=⟨_,rfl⟩;rw [← a9] at HW2 ⊢;clear a9
     go_loopg [7] n (fun gk iv wr=>∃ (k:Nat) (g3:List Bool),gk+k=n∧iv=.int .i64 (k:Int)∧WtS w wr base (.slice ga n gcap) g3∧Hid (TurnR goes l g1 g3 i k))
     case atStart=>exact ⟨0,g2,rfl,rfl,HW2.out,HT⟩
     case round =>
      clear HW2 HT;obtain ⟨k,g3,a6,rfl,a4,HT⟩:=hrel;have k0:(0:Int)≤(k:Int):=by omega
      have HGK:=Lib.hid a6;clear a6;by_cases hk:k<n
      ·
       have k1:(k:Int)<(n:Int):=by omega
       have b3:i<l.length:=by have:=HN.out;have:=HIN.out;omega
       have b4:k<l.length:=by have:=HN.out;omega
       have HK:=Lib.hid hk;have b6:g3.length=n:=by rw [HT.out.inv.len,← HN.out]
       obtain ⟨gb,gc,e3,c8,c5,a3,a2,b7⟩:=a4.own.at (i:=i) (by rw [b6];exact HIN.out)
       rw [b6] at e3 a3;injection e3 with e4 _ e5
       subst e4;subst e5;obtain ⟨s,hs⟩:=Nm (l[i]);obtain ⟨p,hp⟩:=Nm (l[k]);obtain ⟨rb,ro,c9,a7⟩:=(HV.out wr a4.mod).row i b3;subst c9;rw [← hs] at a7;obtain ⟨rb',ro',b0,a8⟩:=(HV.out wr a4.mod).row k b4;injection b0 with b0
       injection b0 with h5 h6
       subst h5;subst h6;rw [← hp] at a8;have r3:wr.cell? ⟨rb,ro+i*12+3,none⟩=some (.int .i64 s.upB):=a7 3 _ rfl;have r32:wr.cell? ⟨rb,ro+i*12+2+1,none⟩=some (.int .i64 s.upB):=a7 3 _ rfl;have q1:wr.cell? ⟨rb,ro+k*12+1,none⟩=some (.int .i64 p.birth):=a8 1 _ rfl;have b1:=a3 i HIN.out;have b2:=a3 k HK.out;have HED:=Lib.hid (show jgr l i k=(s.upB != 0&&(s.upB==p.birth)) by rw [hs,hp];exact jeM b3 b4)
       have HNT:=Lib.hid (HT.out.next b3 b4);have HSET:=Lib.hid b7;have HW3:=Lib.hid a4;clear hk b6 a3 b7 a4 hs hp a7 a8 b3 b4 HT c8 c5;obtain ⟨gi,a5⟩:=Nm (gat g3 i);obtain ⟨gk,a6⟩:=Nm (gat g3 k);have HGG:=Lib.hid (And.intro a5 a6);rw [← a5] at b1;rw [← a6] at b2;clear a5 a6
       cases gi
       rotate_left
       ·
        have HLF:True:=trivial;have HST:=Lib.hid (show zH l g3 i k=g3.set i true by unfold zH;rw [← HGG.out.1];rfl)
        have HW4:=Lib.hid (show WtS w (wr.drew.setCell ⟨gb,i,none⟩ (.bool true)) base (.slice (some ⟨gb,0,none⟩) n gcap) (g3.set i true) from ((HW3.out.set (HSET.out true)).drew))
        clear HGG HED HSET HW3;go_wp2_with fail;refine yy 36 (F:=WtF wr) (by kernel_rfl) (WtF.drew wr) (fun a1=>?_)
        refine Tl 0 26 ?_;refine Tl 1 27 ?_;refine Tl 2 28 ?_;refine Tl 3 29 ?_;refine Tl 4 30 ?_;refine Tl 5 31 ?_ (hy:=by intro w' a0;have u1:=a0.cell b1;clear a0;go_simp;try with_reducible rfl)
        refine Tl 6 32 ?_;refine Tm 7 33 ?_;refine Tm 8 34 ?_;refine Tm 9 35 ?_;refine Tm 10 36 ?_;refine Tm 11 37 ?_;refine Tm 12 38 ?_;refine Tm 13 39 ?_;refine Tm 14 40 ?_;refine Tm 15 41 ?_;refine Tm 16 42 ?_;refine Tm 17 43 ?_;refine Tm 18 44 ?_;refine Tm 19 45 ?_;refine Tm 20 46 ?_;refine Tm 21 47 ?_;refine Tm 22 48 ?_;refine Tm 23 49 ?_;refine Tm 24 50 ?_;refine Tm 25 51 ?_;refine Tm 26 52 ?_;refine Tm 27 53 ?_;refine Tm 28 54 ?_;refine Tm 29 55 ?_;refine Tm 30 56 ?_;refine Tm 31 57 ?_;refine Tm 32 58 ?_;refine Tm 33 59 ?_;refine Tl 34 60 ?_;refine Tl 35 61 ?_;have v1:wr.drew.cell? ⟨gb,i,none⟩=some _:=b1;have v2:wr.drew.frozen? ⟨gb,i,none⟩=false:=a2;refine jM (rs := [36]) (by kernel_rfl) (by simp) (AllReadyL.last rfl (o:=⟨none,.store _ _ _,_,_,_,_⟩) rfl (fun K hK=>?_))
        go_simp
        refine hK.out _ _ ?_;clear hK K a1 v1 v2
        try simp only [Nz]
        refine yR (by kernel_rfl) ?_ _
        have HW5:=Lib.hid HW4.out;clear r3 r32 q1 b1 b2 a2 HW4;go_wp2_with fail
        go_roundg (n-(k+1))
        case measure=>have:=HGK.out;have:=HK.out;omega
        case rel=>exact ⟨k+1,_,by have:=HGK.out;have:=HK.out;omega,by go_num,HW5.out,Lib.hid (by have h:=HNT.out;rw [HST.out] at h;exact h)⟩
       cases gk
       ·
        have HLF:True:=trivial;have HST:=Lib.hid (show zH l g3 i k=g3.set i false by unfold zH;rw [← HGG.out.1,← HGG.out.2];rfl)
        have HW4:=Lib.hid (show WtS w (wr.drew.setCell ⟨gb,i,none⟩ (.bool false)) base (.slice (some ⟨gb,0,none⟩) n gcap) (g3.set i false) from ((HW3.out.set (HSET.out false)).drew))
        clear HGG HED HSET HW3;go_wp2_with fail;refine yy 36 (F:=WtF wr) (by kernel_rfl) (WtF.drew wr) (fun a1=>?_)
        refine Tl 0 26 ?_;refine Tl 1 27 ?_;refine Tl 2 28 ?_;refine Tl 3 29 ?_;refine Tl 4 30 ?_;refine Tl 5 31 ?_ (hy:=by intro w' a0;have u1:=a0.cell b1;clear a0;go_simp;try with_reducible rfl)
        refine Tl 6 32 ?_;refine Tl 7 33 ?_;refine Tl 8 34 ?_;refine Tl 9 35 ?_;refine Tl 10 36 ?_ (hy:=by intro w' a0;have u1:=a0.cell b2;clear a0;go_simp;try with_reducible rfl)
        refine Tl 11 37 ?_;refine Tm 12 38 ?_;refine Tm 13 39 ?_;refine Tm 14 40 ?_;refine Tm 15 41 ?_;refine Tm 16 42 ?_;refine Tm 17 43 ?_;refine Tm 18 44 ?_;refine Tl 19 45 ?_;refine Tl 20 46 ?_;refine Tm 21 47 ?_;refine Tm 22 48 ?_;refine Tm 23 49 ?_;refine Tm 24 50 ?_;refine Tm 25 51 ?_;refine Tm 26 52 ?_;refine Tm 27 53 ?_;refine Tm 28 54 ?_;refine Tm 29 55 ?_;refine Tm 30 56 ?_;refine Tm 31 57 ?_;refine Tm 32 58 ?_;refine Tl 33 59 ?_;refine Tl 34 60 ?_;refine Tl 35 61 ?_;have v1:wr.drew.cell? ⟨gb,i,none⟩=some _:=b1;have v2:wr.drew.frozen? ⟨gb,i,none⟩=false:=a2;refine jM (rs := [36]) (by kernel_rfl) (by simp) (AllReadyL.last rfl (o:=⟨none,.store _ _ _,_,_,_,_⟩) rfl (fun K hK=>?_))
        go_simp
        refine hK.out _ _ ?_;clear hK K a1 v1 v2
        try simp only [Nz]
        refine yR (by kernel_rfl) ?_ _
        have HW5:=Lib.hid HW4.out;clear r3 r32 q1 b1 b2 a2 HW4;go_wp2_with fail
        go_roundg (n-(k+1))
        case measure=>have:=HGK.out;have:=HK.out;omega
        case rel=>exact ⟨k+1,_,by have:=HGK.out;have:=HK.out;omega,by go_num,HW5.out,Lib.hid (by have h:=HNT.out;rw [HST.out] at h;exact h)⟩
       cases hz:(s.upB==0)
       rotate_left
       ·
        have b5:(s.upB != 0)=false:=by rw [bne,hz];rfl
        have HST:=Lib.hid (show zH l g3 i k=g3.set i false by unfold zH;rw [← HGG.out.1,← HGG.out.2,HED.out,b5];rfl)
        have HW4:=Lib.hid (show WtS w (wr.drew.setCell ⟨gb,i,none⟩ (.bool false)) base (.slice (some ⟨gb,0,none⟩) n gcap) (g3.set i false) from ((HW3.out.set (HSET.out false)).drew))
        clear HGG HED HSET HW3;go_wp2_with fail;refine yy 36 (F:=WtF wr) (by kernel_rfl) (WtF.drew wr) (fun a1=>?_)
        refine Tl 0 26 ?_;refine Tl 1 27 ?_;refine Tl 2 28 ?_;refine Tl 3 29 ?_;refine Tl 4 30 ?_;refine Tl 5 31 ?_ (hy:=by intro w' a0;have u1:=a0.cell b1;clear a0;go_simp;try with_reducible rfl)
        refine Tl 6 32 ?_;refine Tl 7 33 ?_;refine Tl 8 34 ?_;refine Tl 9 35 ?_;refine Tl 10 36 ?_ (hy:=by intro w' a0;have u1:=a0.cell b2;clear a0;go_simp;try with_reducible rfl)
        refine Tl 11 37 ?_;refine Tl 12 38 ?_;refine Tl 13 39 ?_;refine Tl 14 40 ?_;refine Tl 15 41 ?_;refine Tl 16 42 ?_;refine Tl 17 43 ?_ (hy:=by intro w' a0;have u1:=a0.cell r3;have u2:=a0.cell r32;clear a0;go_simp;try with_reducible rfl)
        refine Tl 18 44 ?_;refine Tl 19 45 ?_;refine Tl 20 46 ?_;refine Tm 21 47 ?_;refine Tm 22 48 ?_;refine Tm 23 49 ?_;refine Tm 24 50 ?_;refine Tm 25 51 ?_;refine Tm 26 52 ?_;refine Tm 27 53 ?_;refine Tm 28 54 ?_;refine Tm 29 55 ?_;refine Tm 30 56 ?_;refine Tm 31 57 ?_;refine Tm 32 58 ?_;refine Tl 33 59 ?_;refine Tl 34 60 ?_;refine Tl 35 61 ?_;have v1:wr.drew.cell? ⟨gb,i,none⟩=some _:=b1;have v2:wr.drew.frozen? ⟨gb,i,none⟩=false:=a2;refine jM (rs := [36]) (by kernel_rfl) (by simp) (AllReadyL.last rfl (o:=⟨none,.store _ _ _,_,_,_,_⟩) rfl (fun K hK=>?_))
        go_simp
        refine hK.out _ _ ?_;clear hK K a1 v1 v2
        try simp only [Nz]
        refine yR (by kernel_rfl) ?_ _
        have HW5:=Lib.hid HW4.out;clear r3 r32 q1 b1 b2 a2 HW4;go_wp2_with fail
        go_roundg (n-(k+1))
        case measure=>have:=HGK.out;have:=HK.out;omega
        case rel=>exact ⟨k+1,_,by have:=HGK.out;have:=HK.out;omega,by go_num,HW5.out,Lib.hid (by have h:=HNT.out;rw [HST.out] at h;exact h)⟩
       have b5:(s.upB != 0)=true:=by rw [bne,hz];rfl
       cases hq:(s.upB==p.birth)
       ·
        have HLF:True:=trivial;have HST:=Lib.hid (show zH l g3 i k=g3.set i false by unfold zH;rw [← HGG.out.1,← HGG.out.2,HED.out,b5,hq];rfl)
        have HW4:=Lib.hid (show WtS w (wr.drew.setCell ⟨gb,i,none⟩ (.bool false)) base (.slice (some ⟨gb,0,none⟩) n gcap) (g3.set i false) from ((HW3.out.set (HSET.out false)).drew))
        clear HGG HED HSET HW3;go_wp2_with fail;refine yy 36 (F:=WtF wr) (by kernel_rfl) (WtF.drew wr) (fun a1=>?_)
        refine Tl 0 26 ?_;refine Tl 1 27 ?_;refine Tl 2 28 ?_;refine Tl 3 29 ?_;refine Tl 4 30 ?_;refine Tl 5 31 ?_ (hy:=by intro w' a0;have u1:=a0.cell b1;clear a0;go_simp;try with_reducible rfl)
        refine Tl 6 32 ?_;refine Tl 7 33 ?_;refine Tl 8 34 ?_;refine Tl 9 35 ?_;refine Tl 10 36 ?_ (hy:=by intro w' a0;have u1:=a0.cell b2;clear a0;go_simp;try with_reducible rfl)
        refine Tl 11 37 ?_;refine Tl 12 38 ?_;refine Tl 13 39 ?_;refine Tl 14 40 ?_;refine Tl 15 41 ?_;refine Tl 16 42 ?_;refine Tl 17 43 ?_ (hy:=by intro w' a0;have u1:=a0.cell r3;have u2:=a0.cell r32;clear a0;go_simp;try with_reducible rfl)
        refine Tl 18 44 ?_;refine Tl 19 45 ?_;refine Tl 20 46 ?_;refine Tl 21 47 ?_;refine Tl 22 48 ?_;refine Tl 23 49 ?_;refine Tl 24 50 ?_;refine Tl 25 51 ?_;refine Tl 26 52 ?_ (hy:=by intro w' a0;have u1:=a0.cell r3;have u2:=a0.cell r32;clear a0;go_simp;try with_reducible rfl)
        refine Tl 27 53 ?_;refine Tl 28 54 ?_;refine Tl 29 55 ?_;refine Tl 30 56 ?_;refine Tl 31 57 ?_ (hy:=by intro w' a0;have u1:=a0.cell q1;clear a0;go_simp;try with_reducible rfl)
        refine Tl 32 58 ?_;refine Tl 33 59 ?_;refine Tl 34 60 ?_;refine Tl 35 61 ?_;have v1:wr.drew.cell? ⟨gb,i,none⟩=some _:=b1;have v2:wr.drew.frozen? ⟨gb,i,none⟩=false:=a2;refine jM (rs := [36]) (by kernel_rfl) (by simp) (AllReadyL.last rfl (o:=⟨none,.store _ _ _,_,_,_,_⟩) rfl (fun K hK=>?_))
        go_simp
        refine hK.out _ _ ?_;clear hK K a1 v1 v2
        try simp only [Nz]
        refine yR (by kernel_rfl) ?_ _
        have HW5:=Lib.hid HW4.out;clear r3 r32 q1 b1 b2 a2 HW4;go_wp2_with fail
        go_roundg (n-(k+1))
        case measure=>have:=HGK.out;have:=HK.out;omega
        case rel=>exact ⟨k+1,_,by have:=HGK.out;have:=HK.out;omega,by go_num,HW5.out,Lib.hid (by have h:=HNT.out;rw [HST.out] at h;exact h)⟩
       have HST:=Lib.hid (show zH l g3 i k=g3.set i true by unfold zH;rw [← HGG.out.1,← HGG.out.2,HED.out,b5,hq];rfl)
       have HW4:=Lib.hid (show WtS w (wr.drew.setCell ⟨gb,i,none⟩ (.bool true)) base (.slice (some ⟨gb,0,none⟩) n gcap) (g3.set i true) from ((HW3.out.set (HSET.out true)).drew))
       clear HGG HED HSET HW3;go_wp2_with fail;refine yy 36 (F:=WtF wr) (by kernel_rfl) (WtF.drew wr) (fun a1=>?_)
       refine Tl 0 26 ?_;refine Tl 1 27 ?_;refine Tl 2 28 ?_;refine Tl 3 29 ?_;refine Tl 4 30 ?_;refine Tl 5 31 ?_ (hy:=by intro w' a0;have u1:=a0.cell b1;clear a0;go_simp;try with_reducible rfl)
       refine Tl 6 32 ?_;refine Tl 7 33 ?_;refine Tl 8 34 ?_;refine Tl 9 35 ?_;refine Tl 10 36 ?_ (hy:=by intro w' a0;have u1:=a0.cell b2;clear a0;go_simp;try with_reducible rfl)
       refine Tl 11 37 ?_;refine Tl 12 38 ?_;refine Tl 13 39 ?_;refine Tl 14 40 ?_;refine Tl 15 41 ?_;refine Tl 16 42 ?_;refine Tl 17 43 ?_ (hy:=by intro w' a0;have u1:=a0.cell r3;have u2:=a0.cell r32;clear a0;go_simp;try with_reducible rfl)
       refine Tl 18 44 ?_;refine Tl 19 45 ?_;refine Tl 20 46 ?_;refine Tl 21 47 ?_;refine Tl 22 48 ?_;refine Tl 23 49 ?_;refine Tl 24 50 ?_;refine Tl 25 51 ?_;refine Tl 26 52 ?_ (hy:=by intro w' a0;have u1:=a0.cell r3;have u2:=a0.cell r32;clear a0;go_simp;try with_reducible rfl)
       refine Tl 27 53 ?_;refine Tl 28 54 ?_;refine Tl 29 55 ?_;refine Tl 30 56 ?_;refine Tl 31 57 ?_ (hy:=by intro w' a0;have u1:=a0.cell q1;clear a0;go_simp;try with_reducible rfl)
       refine Tl 32 58 ?_;refine Tl 33 59 ?_;refine Tl 34 60 ?_;refine Tl 35 61 ?_;have v1:wr.drew.cell? ⟨gb,i,none⟩=some _:=b1;have v2:wr.drew.frozen? ⟨gb,i,none⟩=false:=a2;refine jM (rs := [36]) (by kernel_rfl) (by simp) (AllReadyL.last rfl (o:=⟨none,.store _ _ _,_,_,_,_⟩) rfl (fun K hK=>?_))
       go_simp
       refine hK.out _ _ ?_;clear hK K a1 v1 v2
       try simp only [Nz]
       refine yR (by kernel_rfl) ?_ _
       have HW5:=Lib.hid HW4.out;clear r3 r32 q1 b1 b2 a2 HW4;go_wp2_with fail
       go_roundg (n-(k+1))
       case measure=>have:=HGK.out;have:=HK.out;omega
       case rel=>exact ⟨k+1,_,by have:=HGK.out;have:=HK.out;omega,by go_num,HW5.out,Lib.hid (by have h:=HNT.out;rw [HST.out] at h;exact h)⟩
      ·
       have k1:¬ (k:Int)<(n:Int):=by omega
       have HR:=Lib.hid (show TurnR goes l g1 g3 (i+1) 0 by
        have e:k=l.length:=by have:=HGK.out;have:=HN.out;omega
        have h:=HT.out;rw [e] at h;exact h.row)
       have HW3:=Lib.hid a4;clear hk a4 HT;go_wp2_with fail
       go_roundg (n-(i+1))
       case measure=>have:=HGI.out;have:=HIN.out;omega
       case rel=>exact ⟨i+1,g3,by have:=HGI.out;have:=HIN.out;omega,by go_num,HW3.out,HR⟩
    ·
     have i1:¬ (i:Int)<(n:Int):=by omega
     have HR:=Lib.hid (show WInv goes l g2∧Prog l (t+1) g2 by
      have e:i=l.length:=by have:=HGI.out;have:=HN.out;omega
      have h:=HT.out;rw [e] at h;exact ⟨h.inv,h.done HP.out.2⟩)
     clear hii HT HP;go_wp2_with fail
     go_roundg (n-(t+1))
     case measure=>have:=HGT.out;have:=HTN.out;omega
     case rel=>exact ⟨t+1,g2,by have:=HGT.out;have:=HTN.out;omega,by go_num,HW2.out,HR⟩
  ·
   have t1:¬ (t:Int)<(n:Int):=by omega
   have HR:=Lib.hid (show jiA goes l g1 by
    have e:t=l.length:=by have:=HGT.out;have:=HN.out;omega
    obtain ⟨h1,h2⟩:=HP.out;rw [e] at h2;exact ⟨h1.len,jjg h1 (jjN h1.len h2)⟩)
   clear ht HP;go_wp2_with fail;go_ret;exact ⟨rfl,g1,HW1.out.own,HR.out,HW1.out.mod⟩
end Go.Proofs.YtgcnolapjppbpaaGreatDoor
