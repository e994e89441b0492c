/-
  The statement of layer, proved out of its walk: whatever the input, the law answers true and leaves its arguments as they were; package errors' variable errorType reads as the program's text lays it (the card ties it).
-/
import Derived.Test.YtgcnolapjppbpaaGreatDoorK38
import Derived.Test.YtgcnolapjppbpaaGreatDoorK39
import Derived.Test.YtgcnolapjppbpaaGreatDoorTie
import Derived.Test.YtgcnolapjppbpaaGreatDoorCards
namespace Go.Proofs.YtgcnolapjppbpaaGreatDoor
open Go.RowKit _root_.Go.Proofs.Tryz
set_option maxRecDepth 100000
set_option maxHeartbeats 25600000
variable {w wr w2:World}{pd ps pl q i:Nat}{F:Nat->Prop}{d:DiskM}{s:StoM}{z:Value}
def aEv (e:EvtM):ActS:=⟨0,0,e,false,jI,.slice none 0 0,⟨#[]⟩⟩
def aDo (k n:Int)(t:ByteArray):ActS:=⟨k,n,⟨0,ju,0,0⟩,false,jI,.slice none 0 0,t⟩
def uA:ActS:=⟨0,0,vr,true,⟨-1,0,[]⟩,.slice none 0 0,⟨#[]⟩⟩
def jaW:EvtM:=⟨2,ju,0,3⟩
def jjq:List ActS := [aEv (jN 1 5),aEv (jN 2 5),aEv (jN 2 6),aDo 4 0 ⟨#[120]⟩,aDo 3 0 ⟨#[]⟩,aEv (jN 3 7),aDo 4 0 ⟨#[]⟩,aDo 3 0 ⟨#[]⟩,aEv (jN 1 1),aDo 4 49 ⟨#[104]⟩,aDo 3 0 ⟨#[]⟩,aDo 4 1 ⟨#[]⟩,aDo 4 25 ⟨#[97,98,99]⟩,aDo 3 0 ⟨#[]⟩,aDo 4 65 ⟨#[]⟩]
def jai (k:Nat):List ActS:=List.replicate k (aEv vr)
theorem jlk:EvOk jaW:=by constructor <;> first | decide | exact ⟨by decide,by decide⟩
theorem jlw:EvOk ⟨0,ju,0,0⟩:=by constructor <;> first | decide | exact ⟨by decide,by decide⟩
theorem jiF (b s:Int)(hb:I64 b)(hs:I64 s):EvOk (jN b s) :=
 ⟨(by decide:(3:Nat)<=_),(by decide:(0:Nat)<=_),(by decide:(7:Nat)<_),⟨by show _<=(0:Int);decide,by show (0:Int)<=_;decide⟩,⟨by show _<=(0:Int);decide,by show (0:Int)<=_;decide⟩,⟨by show _<=(0:Int);decide,by show (0:Int)<=_;decide⟩,hs,hb,⟨by show _<=(0:Int);decide,by show (0:Int)<=_;decide⟩,⟨by show _<=(0:Int);decide,by show (0:Int)<=_;decide⟩,⟨by show _<=(0:Int);decide,by show (0:Int)<=_;decide⟩,⟨by show _<=(1:Int);decide,by show (1:Int)<=_;decide⟩,⟨by show _<=(0:Int);decide,by show (0:Int)<=_;decide⟩,⟨by show _<=(1000:Int);decide,by show (1000:Int)<=_;decide⟩,⟨by show _<=(0:Int);decide,by show (0:Int)<=_;decide⟩⟩
theorem jio {e:EvtM}(h:EvOk e)(W:World):(aEv e).Ok W :=
 ⟨⟨by show _<=(0:Int);decide,by show (0:Int)<=_;decide⟩,⟨by show _<=(0:Int);decide,by show (0:Int)<=_;decide⟩,h,Rd.nil W,(fun s hs=>by cases hs),(by decide:(0:Nat)+16<=_),(by decide:(0:Nat)<=_)⟩
theorem jlT (W:World):uA.Ok W :=
 ⟨⟨by show _<=(0:Int);decide,by show (0:Int)<=_;decide⟩,⟨by show _<=(0:Int);decide,by show (0:Int)<=_;decide⟩,jd9,Rd.nil W,(fun s hs=>by cases hs),(by decide:(0:Nat)+16<=_),(by decide:(0:Nat)<=_)⟩
theorem jkP (k n:Int)(t:ByteArray)(hk:I64 k)(hn:I64 n)(ht:t.size<=9223372036854775807)(W:World):(aDo k n t).Ok W :=
 ⟨hk,hn,jlw,Rd.nil W,(fun s hs=>by cases hs),(by decide:(0:Nat)+16<=_),ht⟩
theorem jl5 (W:World):∀ a∈jjq,a.Ok W:=fun a ha=>by
 simp only [jjq,qH,qO,wM] at ha
 rcases ha with rfl | rfl | rfl | rfl | rfl | rfl | rfl | rfl | rfl | rfl | rfl | rfl | rfl | rfl | rfl
 all_goals first
  | exact jkP _ _ _ ⟨by decide,by decide⟩ ⟨by decide,by decide⟩ (by decide) W
  | exact jio (jiF _ _ ⟨by decide,by decide⟩ ⟨by decide,by decide⟩) W
theorem jmb (W:World):∀ a∈jai 16 ++ [uA,aEv jaW,aDo 3 0 ⟨#[]⟩],a.Ok W:=fun a ha=>by
 rcases qW.1 ha with ha | ha
 . rw [List.eq_of_mem_replicate ha];exact jio jd9 W
 .
  simp only [qH,qO,wM] at ha
  rcases ha with rfl | rfl | rfl
  . exact jlT W
  . exact jio jlk W
  . exact jkP _ _ _ ⟨by decide,by decide⟩ ⟨by decide,by decide⟩ (by decide) W
theorem bDo (k n:Int)(t:ByteArray)(w:World):(Instr.build 68 #[(0,.int .i64 k),(1,.int .i64 n),(5,.string t)]).run prog w=.ok (.agg (aDo k n t).cells) w:=by kernel_rfl
theorem jkU (k:Int)(w:World):(Instr.build 68 #[(0,.int .i64 k)]).run prog w=.ok (.agg (aDo k 0 ⟨#[]⟩).cells) w:=by kernel_rfl
theorem bEv (n:Int)(w:World):(Instr.build 47 #[(0,.int .i64 2),(3,.int .i64 n)]).run prog w=.ok (.agg (EvtM.cells ⟨2,ju,0,n⟩)) w:=by kernel_rfl
theorem jiB (e:EvtM)(w:World):(Instr.build 68 #[(2,.agg e.cells)]).run prog w=.ok (.agg (aEv e).cells) w:=by kernel_rfl
theorem jnA (w:World):(Instr.build 68 #[(2,.agg vr.cells),(3,.bool true),(4,.agg #[(-1:Int),(0:Int),.slice none 0 0])]).run prog w=.ok (.agg uA.cells) w:=by kernel_rfl
theorem jn {P:Program}{ops:Array Oper}{rest:List Oper}{op:Oper}{a:Act}{Q:Exit->Act->World->Prop}(hw:Region.wanted op (yielded ops a.tmps)=true)(t:TypeId)(parts:Array (Nat × Operand))(ho:op.op=.build t parts)(vals:Array (Nat × Value))(hv:(parts.map fun (i,x)=>(i,a.eval x))=vals)(x:Value)(hr:(Instr.build t vals).run P w=.ok x w)(h:wpList P ops Q rest (a.put op.dst x) w):wpList P ops Q (op::rest) a w:=by
 rw [wpList,qf hw];refine .inl ?_;unfold Oper.wp execOp;simp only [ho,wu,hv,hr,qR,wB];exact h
theorem jnc (w:World):(Instr.buildSlice 57 15 #[(0,.agg (aEv (jN 1 5)).cells),(1,.agg (aEv (jN 2 5)).cells),(2,.agg (aEv (jN 2 6)).cells),(3,.agg (aDo 4 0 ⟨#[120]⟩).cells),(4,.agg (aDo 3 0 ⟨#[]⟩).cells),(5,.agg (aEv (jN 3 7)).cells),(6,.agg (aDo 4 0 ⟨#[]⟩).cells),(7,.agg (aDo 3 0 ⟨#[]⟩).cells),(8,.agg (aEv (jN 1 1)).cells),(9,.agg (aDo 4 49 ⟨#[104]⟩).cells),(10,.agg (aDo 3 0 ⟨#[]⟩).cells),(11,.agg (aDo 4 1 ⟨#[]⟩).cells),(12,.agg (aDo 4 25 ⟨#[97,98,99]⟩).cells),(13,.agg (aDo 3 0 ⟨#[]⟩).cells),(14,.agg (aDo 4 65 ⟨#[]⟩).cells)]).run prog w=.ok (.slice (some ⟨w.heap.size,0,none⟩) 15 15) (w.alloc (.cells (jjq.flatMap ActS.list).toArray 68)):=by kernel_rfl
theorem jna (x:ActS)(w:World):(Instr.buildSlice 57 1 #[(0,.agg x.cells)]).run prog w=.ok (.slice (some ⟨w.heap.size,0,none⟩) 1 1) (w.alloc (.cells x.cells 68)):=by kernel_rfl
theorem jm0 (x y z:ActS)(w:World):(Instr.buildSlice 57 3 #[(0,.agg x.cells),(1,.agg y.cells),(2,.agg z.cells)]).run prog w=.ok (.slice (some ⟨w.heap.size,0,none⟩) 3 3) (w.alloc (.cells ([x,y,z].flatMap ActS.list).toArray 68)):=by kernel_rfl
theorem jfG (w:World)(L:List Value)(t:TypeId):∀ j u,L[j]?=some u->(w.alloc (.cells L.toArray t)).cell? ((⟨w.heap.size,0,none⟩:Addr).add j)=some u:=fun j u hj=>World.news_of_block (ww w (.cells L.toArray t)) j u (by simpa using hj)
theorem jmI:∀ y ∈ [uA,aEv jaW,aDo 3 0 ⟨#[]⟩],y.sv.oneCell'=true:=by
 intro y hy;simp only [qH,qO,wM] at hy
 rcases hy with rfl | rfl | rfl <;> rfl
theorem jlQ:∀ y ∈ [aEv vr],y.sv.oneCell'=true:=by
 intro y hy;rw [qC.1 hy];rfl
theorem jlj:(prog.info? 68).map (fun i=>(i.zero,i.size,i.bytes))=some (some (.agg (aDo 0 0 ⟨#[]⟩).cells),22,216):=by kernel_rfl
def jgS (w:World)(base:Nat)(v:Value)(l:List ActS):Prop:=w.ownsRow base 68 22 v l.length (l.flatMap ActS.list)
theorem oneA (x:ActS)(hs:x.sv.oneCell'=true):∀ v∈x.list,v.oneCell'=true:=fun v hv=>by
 unfold ActS.list at hv
 rcases qH.1 hv with rfl | hv
 . rfl
 rcases qH.1 hv with rfl | hv
 . rfl
 rcases qW.1 hv with hv | hv
 . exact x.e.oneE v hv
 .
  simp only [qH,qO,wM] at hv
  rcases hv with rfl | rfl | rfl | rfl | rfl
  . rfl
  . rfl
  . rfl
  . exact hs
  . rfl
theorem jjO (l:List ActS):(l.flatMap ActS.list).length=l.length*22:=vC ActS.list 22 (fun _=>rfl) l
theorem jkh {ops:Array Oper}{rest:List Oper}{o:Oper}{a:Act}{Q:Exit->Act->World->Prop}(a2:o.guard=none)(s x:Operand)(ho:o.op=.call { callee:=.builtin .append,args:=#[s,x],argTypes:=#[57,57] })(base:Nat)(v:Value)(l:List ActS)(hs:a.eval s=v)(a1:jgS w base v l)(ad:Addr)(m c:Nat)(ys:List ActS)(hm:ys.length=m)(hx:a.eval x=.slice (some ad) m c)(hy:∀ j u,(ys.flatMap ActS.list)[j]?=some u->w.cell? (ad.add j)=some u)(h1:∀ y∈ys,y.sv.oneCell'=true)(a8:l.length+m<=1000)(a0:base<=w.heap.size)(h:∀ v' w',jgS w' base v' (l++ys)->w.grownBy w' v.ownBlock->xj w v v'->wpList prog ops Q rest (a.put o.dst v') w'):wpList prog ops Q (o::rest) a w:=by
 obtain ⟨i0,hi,a3,a4,a5⟩:=wI jlj;refine yb a2 s x 57 ho base 68 i0 _ 22 216 underlying57 hi a3 a4 a5 rfl (by decide) v l.length (l.flatMap ActS.list) hs a1 ad m c (ys.flatMap ActS.list) hx (by rw [jjO,hm]) hy (fun u hu=>?_) (by unfold maxLen;omega) (by omega) a0 (fun v' w' h1 h2 h3=>h v' w' ?_ h2 h3)
 .
  obtain ⟨y,a6,a7⟩:=List.mem_flatMap.1 hu;exact oneA y (h1 y a6) u a7
 .
  unfold jgS;rw [pg,qd,hm];exact h1
set_option maxHeartbeats 12800000 in
theorem jbg (w : World) (hg : ErrType w) :
    Calls Tryz.prog 32 #[] w fun e w' => e = .returned (.bool true) /\ Below w.heap.size w w' := by
  have HG := qe hg
  clear hg
  go_enter Tryz.func32, Tryz.ntmps32
  go_wp2_with fail
  refine (yL 1 5 w).mono ?_
  rintro r w1 ⟨rfl, hb⟩
  have HB1 := qe hb
  clear hb
  go_wp2_with (first | (refine jn (op := ⟨some 6, _, _, _, _, _⟩) (by rfl) 68 #[(2, .tmp 5)] rfl #[(2, .agg (jN 1 5).cells)] (by kernel_rfl) _ (jiB (jN 1 5) _) ?_))
  refine (yL 2 5 w1).mono ?_
  rintro r w2 ⟨rfl, hb⟩
  have HB2 := qe (HB1.out.trans (hb.mono HB1.out.size))
  clear hb HB1
  go_wp2_with (first | (refine jn (op := ⟨some 8, _, _, _, _, _⟩) (by rfl) 68 #[(2, .tmp 7)] rfl #[(2, .agg (jN 2 5).cells)] (by kernel_rfl) _ (jiB (jN 2 5) _) ?_))
  refine (yL 2 6 w2).mono ?_
  rintro r w3 ⟨rfl, hb⟩
  have HB3 := qe (HB2.out.trans (hb.mono HB2.out.size))
  clear hb HB2
  go_wp2_with (first | (refine jn (op := ⟨some 10, _, _, _, _, _⟩) (by rfl) 68 #[(2, .tmp 9)] rfl #[(2, .agg (jN 2 6).cells)] (by kernel_rfl) _ (jiB (jN 2 6) _) ?_) | (refine jn (op := ⟨some 11, _, _, _, _, _⟩) (by rfl) 68 #[(0, .const (.int .i64 4)), (1, .const (.int .i64 0)), (5, .const (.string ⟨#[120]⟩))] rfl #[(0, .int .i64 4), (1, .int .i64 0), (5, .string ⟨#[120]⟩)] (by kernel_rfl) _ (bDo 4 0 ⟨#[120]⟩ _) ?_) | (refine jn (op := ⟨some 12, _, _, _, _, _⟩) (by rfl) 68 #[(0, .const (.int .i64 3))] rfl #[(0, .int .i64 3)] (by kernel_rfl) _ (jkU 3 _) ?_))
  refine (yL 3 7 w3).mono ?_
  rintro r w4 ⟨rfl, hb⟩
  have HB4 := qe (HB3.out.trans (hb.mono HB3.out.size))
  clear hb HB3
  go_wp2_with (first | (refine jn (op := ⟨some 14, _, _, _, _, _⟩) (by rfl) 68 #[(2, .tmp 13)] rfl #[(2, .agg (jN 3 7).cells)] (by kernel_rfl) _ (jiB (jN 3 7) _) ?_) | (refine jn (op := ⟨some 15, _, _, _, _, _⟩) (by rfl) 68 #[(0, .const (.int .i64 4)), (1, .const (.int .i64 0)), (5, .const (.string ⟨#[]⟩))] rfl #[(0, .int .i64 4), (1, .int .i64 0), (5, .string ⟨#[]⟩)] (by kernel_rfl) _ (bDo 4 0 ⟨#[]⟩ _) ?_) | (refine jn (op := ⟨some 16, _, _, _, _, _⟩) (by rfl) 68 #[(0, .const (.int .i64 3))] rfl #[(0, .int .i64 3)] (by kernel_rfl) _ (jkU 3 _) ?_))
  refine (yL 1 1 w4).mono ?_
  rintro r w5 ⟨rfl, hb⟩
  have HB5 := qe (HB4.out.trans (hb.mono HB4.out.size))
  clear hb HB4
  go_wp2_with (first | (refine jn (op := ⟨some 18, _, _, _, _, _⟩) (by rfl) 68 #[(2, .tmp 17)] rfl #[(2, .agg (jN 1 1).cells)] (by kernel_rfl) _ (jiB (jN 1 1) _) ?_) | (refine jn (op := ⟨some 19, _, _, _, _, _⟩) (by rfl) 68 #[(0, .const (.int .i64 4)), (1, .const (.int .i64 49)), (5, .const (.string ⟨#[104]⟩))] rfl #[(0, .int .i64 4), (1, .int .i64 49), (5, .string ⟨#[104]⟩)] (by kernel_rfl) _ (bDo 4 49 ⟨#[104]⟩ _) ?_) | (refine jn (op := ⟨some 20, _, _, _, _, _⟩) (by rfl) 68 #[(0, .const (.int .i64 3))] rfl #[(0, .int .i64 3)] (by kernel_rfl) _ (jkU 3 _) ?_) | (refine jn (op := ⟨some 21, _, _, _, _, _⟩) (by rfl) 68 #[(0, .const (.int .i64 4)), (1, .const (.int .i64 1)), (5, .const (.string ⟨#[]⟩))] rfl #[(0, .int .i64 4), (1, .int .i64 1), (5, .string ⟨#[]⟩)] (by kernel_rfl) _ (bDo 4 1 ⟨#[]⟩ _) ?_) | (refine jn (op := ⟨some 22, _, _, _, _, _⟩) (by rfl) 68 #[(0, .const (.int .i64 4)), (1, .const (.int .i64 25)), (5, .const (.string ⟨#[97, 98, 99]⟩))] rfl #[(0, .int .i64 4), (1, .int .i64 25), (5, .string ⟨#[97, 98, 99]⟩)] (by kernel_rfl) _ (bDo 4 25 ⟨#[97, 98, 99]⟩ _) ?_) | (refine jn (op := ⟨some 23, _, _, _, _, _⟩) (by rfl) 68 #[(0, .const (.int .i64 3))] rfl #[(0, .int .i64 3)] (by kernel_rfl) _ (jkU 3 _) ?_) | (refine jn (op := ⟨some 24, _, _, _, _, _⟩) (by rfl) 68 #[(0, .const (.int .i64 4)), (1, .const (.int .i64 65)), (5, .const (.string ⟨#[]⟩))] rfl #[(0, .int .i64 4), (1, .int .i64 65), (5, .string ⟨#[]⟩)] (by kernel_rfl) _ (bDo 4 65 ⟨#[]⟩ _) ?_) | (refine xh (op := ⟨some 25, _, _, _, _, _⟩) (by rfl) 57 15 #[(0, .tmp 6), (1, .tmp 8), (2, .tmp 10), (3, .tmp 11), (4, .tmp 12), (5, .tmp 14), (6, .tmp 15), (7, .tmp 16), (8, .tmp 18), (9, .tmp 19), (10, .tmp 20), (11, .tmp 21), (12, .tmp 22), (13, .tmp 23), (14, .tmp 24)] rfl #[(0, .agg (aEv (jN 1 5)).cells), (1, .agg (aEv (jN 2 5)).cells), (2, .agg (aEv (jN 2 6)).cells), (3, .agg (aDo 4 0 ⟨#[120]⟩).cells), (4, .agg (aDo 3 0 ⟨#[]⟩).cells), (5, .agg (aEv (jN 3 7)).cells), (6, .agg (aDo 4 0 ⟨#[]⟩).cells), (7, .agg (aDo 3 0 ⟨#[]⟩).cells), (8, .agg (aEv (jN 1 1)).cells), (9, .agg (aDo 4 49 ⟨#[104]⟩).cells), (10, .agg (aDo 3 0 ⟨#[]⟩).cells), (11, .agg (aDo 4 1 ⟨#[]⟩).cells), (12, .agg (aDo 4 25 ⟨#[97, 98, 99]⟩).cells), (13, .agg (aDo 3 0 ⟨#[]⟩).cells), (14, .agg (aDo 4 65 ⟨#[]⟩).cells)] (by kernel_rfl) _ _ (jnc w5) ?_))
  intro w6 hw6
  have hb6 : Below w5.heap.size w5 w6 := by rw [hw6.out]; exact ja _ _
  have hx6 : Box w6 w5.heap.size (jjq.flatMap ActS.list).toArray 68 := by rw [hw6.out]; exact Box.new _ _ _
  have hr6 : Rd w6 (.slice (some ⟨w5.heap.size, 0, none⟩) 15 15) 15 (jjq.flatMap ActS.list) := by
    have := Rd.lit hx6 15 (by decide)
    rw [List.toList_toArray] at this; exact this
  have HB6 := qe (HB5.out.trans (hb6.mono HB5.out.size))
  generalize w5.heap.size = q at hr6 |-
  have HR := qe (fun (W : World) (hb : Below w6.heap.size w6 W) => hr6.below hb)
  have HS := qe (fun (n : Int) (hn : I64 n) (W : World) (hb : Below w6.heap.size w6 W) => ua n (.slice (some ⟨q, 0, none⟩) 15 15) jjq W (HR.out W hb) (jl5 W) (HG.out.below (HB6.out.trans (hb.mono HB6.out.size))) hn)
  clear hw6 hb6 hx6 hr6 HB5
  go_wp2_with fail
  refine (HS.out 65 ⟨by decide, by decide⟩ w6 (qG _ _)).mono ?_
  rintro r w7 ⟨rfl, hb7⟩
  have HB7 := qe hb7
  clear hb7
  go_wp2_with fail
  refine (HS.out 74 ⟨by decide, by decide⟩ w7 HB7.out).mono ?_
  rintro r w8 ⟨rfl, hb8⟩
  have HB8 := qe (HB7.out.trans (hb8.mono HB7.out.size))
  clear hb8 HB7
  go_wp2_with fail
  refine (HS.out 64 ⟨by decide, by decide⟩ w8 HB8.out).mono ?_
  rintro r w9 ⟨rfl, hb9⟩
  have HB9 := qe (HB6.out.trans ((HB8.out.trans (hb9.mono HB8.out.size)).mono HB6.out.size))
  clear hb9 HB8 HB6 HS HR
  go_wp2_with fail
  go_loopg [2, 3] 16 (fun gk o iv wr => ∃ k : Nat, gk + k = 16 /\ iv = .int .i64 (k : Int) /\ jgS wr w.heap.size o (jai k) /\ Below w.heap.size w wr)
  case atStart => exact ⟨0, rfl, rfl, ⟨rfl, .inl ⟨rfl, rfl⟩⟩, HB9.out⟩
  case round =>
    clear HB9
    obtain ⟨k, hgk, rfl, hown, hb⟩ := hrel
    have k0 : (0 : Int) <= (k : Int) := by omega
    have HGK := qe hgk
    have HO := qe hown
    have HB := qe hb
    by_cases hk : k < 16
    rotate_left
    . have k1 : ¬ (k : Int) < 16 := by omega
      obtain rfl : k = 16 := by omega
      have HX := qe (Box.new wr (aDo 0 0 ⟨#[]⟩).cells 68)
      have HBA := qe (ja wr (.cells (aDo 0 0 ⟨#[]⟩).cells 68))
      obtain ⟨cs', y1, y2, y3, y4⟩ := Box.setCells uA.list 0 HX.out (by decide)
      have HST := qe (y1.range 0 uA.list (fun j v hv => y3 j v hv))
      have HTH := qe (HX.out.there 0 uA.list.length (by decide))
      clear y1 y2 y3 y4 HX
      clear hgk hown hb hk
      go_wp2_with (first | (refine jn (op := ⟨some 48, _, _, _, _, _⟩) (by rfl) 47 #[(0, .const (.int .i64 2)), (3, .const (.int .i64 1))] rfl #[(0, .int .i64 2), (3, .int .i64 1)] (by kernel_rfl) _ (bEv 1 _) ?_) | (refine jn (op := ⟨some 50, _, _, _, _, _⟩) (by rfl) 68 #[(2, .tmp 48), (3, .const (.bool true)), (4, .tmp 49)] rfl #[(2, .agg vr.cells), (3, .bool true), (4, .agg #[.int .i64 (-1), .int .i64 0, .slice none 0 0])] (by kernel_rfl) _ (jnA _) ?_) | ((with_reducible refine jar ?a0 68 (.tmp 4) (.tmp 50) ?a1 wr.heap.size 0 uA.list ?a2 uA.cells ?a3 (qe rfl) ?a5 ?a6 ?a7 ?a8); (case a1 => rfl); (case a0 => rfl); (case a2 => rfl); (case a3 => rfl); (case a5 => exact HTH.out); (case a6 => kernel_rfl); (case a7 => exact oneA _ rfl)))
      intro w3 hw3
      have HR3 := qe (show w3.rangeAt wr.heap.size 0 uA.list by rw [hw3.out]; exact HST.out)
      have HB3 := qe (show Below w.heap.size w w3 by rw [hw3.out]; exact HB.out.trans ((HBA.out.trans ((Mod.setCells (fun q => q = wr.heap.size) wr.heap.size rfl uA.list 0 _).below HBA.out.size (fun i hi => qS hi.symm))).mono HB.out.size))
      have HO3 := qe (show jgS w3 w.heap.size u2 (jai 16) by rw [hw3.out]; exact jq HO.out (HBA.out.trans ((Mod.setCells (fun q => q = wr.heap.size) wr.heap.size rfl uA.list 0 _).below HBA.out.size (fun i hi => qS hi.symm))))
      clear hw3 HST HTH HBA HB HO
      go_wp2_with (first | ((with_reducible refine vJ ?b0 68 (.tmp 4) ?b1 wr.heap.size 0 ?b2 uA.list _ HR3.out Tryz.underlying68 ?b3 ?b4 ?b8); (case b1 => rfl); (case b0 => rfl); (case b2 => rfl); (case b3 => rfl); (case b4 => kernel_rfl)))
      intro cv hcv
      have ecv : cv = uA.cells := hcv.out
      subst ecv
      clear hcv HR3
      go_wp2_with (first | (refine jn (op := ⟨some 53, _, _, _, _, _⟩) (by rfl) 47 #[(0, .const (.int .i64 2)), (3, .const (.int .i64 3))] rfl #[(0, .int .i64 2), (3, .int .i64 3)] (by kernel_rfl) _ (bEv 3 _) ?_) | (refine jn (op := ⟨some 54, _, _, _, _, _⟩) (by rfl) 68 #[(2, .tmp 53)] rfl #[(2, .agg jaW.cells)] (by kernel_rfl) _ (jiB jaW _) ?_) | (refine jn (op := ⟨some 55, _, _, _, _, _⟩) (by rfl) 68 #[(0, .const (.int .i64 3))] rfl #[(0, .int .i64 3)] (by kernel_rfl) _ (jkU 3 _) ?_) | (refine xh (op := ⟨some 56, _, _, _, _, _⟩) (by rfl) 57 3 #[(0, .tmp 52), (1, .tmp 54), (2, .tmp 55)] rfl #[(0, .agg uA.cells), (1, .agg (aEv jaW).cells), (2, .agg (aDo 3 0 ⟨#[]⟩).cells)] (by kernel_rfl) _ _ (jm0 _ _ _ w3) ?_))
      intro w4 hw4
      have hb4 : Below w3.heap.size w3 w4 := by rw [hw4.out]; exact ja _ _
      have HC4 := qe (show ∀ j u, ([uA, aEv jaW, aDo 3 0 ⟨#[]⟩].flatMap ActS.list)[j]? = some u -> w4.cell? ((⟨w3.heap.size, 0, none⟩ : Addr).add j) = some u by rw [hw4.out]; exact jfG w3 _ _)
      have HO4 := qe (show jgS w4 w.heap.size u2 (jai 16) from jq HO3.out hb4)
      have HB4 := qe (HB3.out.trans (hb4.mono HB3.out.size))
      clear hw4 hb4 HO3 HB3
      go_wp2_with (at_builtin; refine jkh rfl _ _ rfl w.heap.size _ (jai 16) rfl HO4.out ⟨w3.heap.size, 0, none⟩ 3 3 [uA, aEv jaW, aDo 3 0 ⟨#[]⟩] rfl rfl HC4.out jmI (by show 16 + 3 <= 1000; decide) HB4.out.size ?_)
      intro v5 w5 hown5 hg5 _
      have hb5 := HB4.out.trans (je hg5 HB4.out.size (fun q hq => (jbX HO4.out q hq).1))
      have HB5 := qe hb5
      have hr5 : Rd w5 v5 19 ((jai 16 ++ [uA, aEv jaW, aDo 3 0 ⟨#[]⟩]).flatMap ActS.list) := js hown5
      have HSP := qe (ua 65 v5 (jai 16 ++ [uA, aEv jaW, aDo 3 0 ⟨#[]⟩]) w5 hr5 (jmb w5) (HG.out.below hb5) ⟨by decide, by decide⟩)
      clear hb5 hr5 hown5 hg5 HB4 HO4 HC4
      go_wp2_with fail
      refine HSP.out.mono ?_
      rintro r w6 ⟨rfl, hb6⟩
      have HB6 := qe (HB5.out.trans (hb6.mono HB5.out.size))
      clear hb6 HB5 HSP
      go_wp2_with fail
      go_ret
      exact ⟨rfl, HB6.out⟩
    have k1 : (k : Int) < 16 := by omega
    have HK := qe hk
    clear hgk hown hb hk
    go_wp2_with (first | (refine jn (op := ⟨some 44, _, _, _, _, _⟩) (by rfl) 47 #[(0, .const (.int .i64 2)), (3, .const (.int .i64 1))] rfl #[(0, .int .i64 2), (3, .int .i64 1)] (by kernel_rfl) _ (bEv 1 _) ?_) | (refine jn (op := ⟨some 45, _, _, _, _, _⟩) (by rfl) 68 #[(2, .tmp 44)] rfl #[(2, .agg vr.cells)] (by kernel_rfl) _ (jiB vr _) ?_) | (refine xh (op := ⟨some 46, _, _, _, _, _⟩) (by rfl) 57 1 #[(0, .tmp 45)] rfl #[(0, .agg (aEv vr).cells)] (by kernel_rfl) _ _ (jna _ wr) ?_))
    intro w10 hw10
    have hb10 : Below wr.heap.size wr w10 := by rw [hw10.out]; exact ja _ _
    have HC4 := qe (show ∀ j u, ([aEv vr].flatMap ActS.list)[j]? = some u -> w10.cell? ((⟨wr.heap.size, 0, none⟩ : Addr).add j) = some u by rw [hw10.out]; exact jfG wr _ _)
    have HO4 := qe (show jgS w10 w.heap.size u2 (jai k) from jq HO.out hb10)
    have HB4 := qe (HB.out.trans (hb10.mono HB.out.size))
    clear hw10 hb10 HO HB
    go_wp2_with (at_builtin; refine jkh rfl _ _ rfl w.heap.size _ (jai k) rfl HO4.out ⟨wr.heap.size, 0, none⟩ 1 1 [aEv vr] rfl rfl HC4.out jlQ (by have := HK.out; show (List.replicate k _).length + 1 <= 1000; rw [List.length_replicate]; omega) HB4.out.size ?_)
    intro v5 w5 hown5 hg5 _
    have HB5 := qe (HB4.out.trans (je hg5 HB4.out.size (fun q hq => (jbX HO4.out q hq).1)))
    have HO5 := qe (show jgS w5 w.heap.size v5 (jai (k + 1)) by unfold jai; rw [List.replicate_succ']; exact hown5)
    clear hown5 hg5 HC4 HO4 HB4
    go_wp2_with fail
    go_roundg (16 - (k + 1))
    case measure => have := HGK.out; have := HK.out; omega
    case rel => exact ⟨k + 1, by have := HGK.out; have := HK.out; omega, by go_num, HO5.out, HB5.out⟩
structure KnoI (w wr:World)(pd ps pl q:Nat)(F:Nat->Prop)(d:DiskM)(s:StoM)(i:Nat)(z:Value):Prop where
 dk:IsDisk wr d pd F
 sb:StoB wr ps pd s.epoch (.pointer (some ⟨pl,0,none⟩)) s.dead
 lg:yI wr s.log pl pd
 np:¬ F ps/\¬ F pl/\ps≠pl
 nq:¬ F q/\q≠ps/\q≠pl
 lo:(∀ k,F k->w.heap.size<=k)/\w.heap.size<=ps/\w.heap.size<=pl/\w.heap.size<=q
 bx:Box wr q #[(0:Int),(0:Int),z] 30
 ti:TickI d s i
 tr:d.trail.length<=30000+3000*i
 le:i<=17
 bel:Below w.heap.size w wr
theorem KnoI.below (h:KnoI w wr pd ps pl q F d s i z)(hb:Below wr.heap.size wr w2):KnoI w w2 pd ps pl q F d s i z :=
 ⟨h.dk.grow hb,h.sb.below hb,Box.below h.lg hb,h.np,h.nq,h.lo,h.bx.below hb,h.ti,h.tr,h.le,h.bel.trans (hb.mono h.bel.size)⟩
theorem KnoI.appR {j:Nat}{R:StoM × DiskM × Int}(h:KnoI w wr pd ps pl q F d s i z)(ha:Appd wr ps pl pd F R w2)(ti:TickI R.2.1 R.1 j)(tr:R.2.1.trail.length<=30000+3000*j)(hj:j<=17) :
  ∃ F' pl',KnoI w w2 pd ps pl' q F' R.2.1 R.1 j z:=by
 obtain ⟨F',pl',x1,x2,x3,x4,x5,x6,x7,x8⟩:=ha.ex;have a0:=h.bel.size;have a1:=h.bx.lt;have hb:=ha.md.below a0 (fun k hk=>by
  rcases hk with hk | hk | hk
  . have:=h.lo.2.1;omega
  . have:=h.lo.2.2.1;omega
  . exact h.lo.1 k hk)
 refine ⟨F',pl',x1,x4,x5,⟨x6,x7,x8⟩,⟨fun g=>?_,h.nq.2.1,fun e=>?_⟩,⟨fun k hk=>?_,h.lo.2.1,?_,h.lo.2.2.2⟩,h.bx.mod ha.md (fun g=>?_),ti,tr,hj,h.bel.trans hb⟩
 .
  rcases x2 q g with g | g
  . exact h.nq.1 g
  . omega
 .
  rcases x3 with rfl | g
  . exact h.nq.2.2 e
  . omega
 .
  rcases x2 k hk with g | g
  . exact h.lo.1 k g
  . omega
 .
  rcases x3 with rfl | g
  . exact h.lo.2.2.1
  . omega
 .
  rcases g with g | g | g
  . exact h.nq.2.1 g
  . exact h.nq.2.2 g
  . exact h.nq.1 g
theorem KnoI.app (h:KnoI w wr pd ps pl q F d s i z)(hi:i<17)(ha:Appd wr ps pl pd F (s.append d zt ⟨2*(i:Int),0,[]⟩) w2) :
  ∃ F' pl',KnoI w w2 pd ps pl' q F' (s.append d zt ⟨2*(i:Int),0,[]⟩).2.1 (s.append d zt ⟨2*(i:Int),0,[]⟩).1 (i+1) z:=by
 have a0:=jaI s d zt ⟨2*(i:Int),0,[]⟩ h.ti.si.len.2;have h0:=h.tr;exact h.appR ha (h.ti.next hi).2 (by omega) (by omega)
def jjc:EvtM:=⟨2,ju,0,0⟩
theorem jgx (h:s.dead=false)(d:DiskM):s.append d jjc jI=(s,d,1):=by
 unfold StoM.append;rw [qh (by rw [h];simp),qh (show ¬ jM jjc=true by decide +kernel)]
theorem KnoI.calls (h:KnoI w wr pd ps pl q F d s i z)(e:EvtM)(st:StM)(a0:st.l = [])(hu:e.s.user.length<=9223372036854775807)(a1:e.s.label.length<=9223372036854775807)(a2:e.s.scopes<2 ^ 64) :
  Calls prog 13 #[.pointer (some ⟨ps,0,none⟩),.agg e.cells,.agg #[st.clock,st.births,.slice none 0 0]] wr fun r w'=>r=.returned (jm (s.append d e st).2.2)/\Appd wr ps pl pd F (s.append d e st) w':=by
 obtain ⟨st0,evs,hi⟩:=h.ti.si.img;have hr:=h.ti.si.recs;have ht:=h.tr;have hl:=h.le;exact xx s d e st (.slice none 0 0) ps pl pd F wr h.sb h.lg h.dk h.np.1 h.np.2.1 h.np.2.2 (by rw [a0];exact Rd.nil wr) (fun k hk=>by cases hk) (by rw [a0];exact fun x hx=>(by cases hx)) hu a1 a2 (by omega) h.ti.si.len.1 (by rw [hi.log.same.1,hi.log.same.2.1];exact hi.log.len) hi.log.le2 (by omega)
theorem jc8 (w:World)(hg:ErrType w) :
  Calls prog 30 #[] w fun e w'=>e=.returned (.bool true)/\Below w.heap.size w w':=by
 have U:=Hd hg;have V:=Hd hg.lt;have H1:=Hd (jgn 64 w (by decide) (by decide))
 clear hg;go_enter func30,ntmps30;go_wp2_with fail;refine H1.1.mono ?_;rintro r w1 ⟨p0,F0,rfl,hd,b7,b8⟩;rw [show jm 0=.nilIface from rfl]
 have O:=Hd b7;obtain ⟨d0,a4⟩:∃ d:DiskM,d={ strs:=List.replicate 64 ByteArray.empty,trail := [],left:=none }:=⟨_,rfl⟩;rw [<- a4] at hd;have a8:d0.Wf:=by rw [a4];exact DiskM.Wf.new 64 none
 have b9:jw d0=(d0,0,jI,1):=by unfold jw;rw [qf (by rw [a4];simp)]
 have a9:=vM d0 p0 F0 w1 hd (jbG a8) (by rw [a4];exact qJ _) (vA a8) (jaA d0)
 rw [b9] at a9;have W:=Hd a9;clear hd b7 a4 a8 b9 a9 H1;go_wp2_with fail;refine W.1.mono ?_;rintro r w2 ⟨pv,o,rfl,hx⟩;have c8:=hx.no (by simp)
 subst c8;have I:=Hd (O.1.trans (hx.md.below O.1.size (fun k hk=>b8 k hk)))
 have X:=Hd I.1.size;clear hx W O b8;generalize o=o0 at *;obtain ⟨ev,b0⟩:=Nm (jm 1);have H0:=Hd b0;go_wp2_with fail;rw [<- b0];clear b0;refine (zD w2).mono ?_;rintro r w3 ⟨pd,F,rfl,hd,hb,hF⟩;have E:=Hd (I.1.trans (hb.mono I.1.size));have Z:=Hd (fun k hk=>qi X.1 (hF k hk))
 have HD:=Hd hd;clear hd hb hF I;have H2:=Hd (fun (w3:World) (hD:IsDisk w3 _ pd F) (hB:Below w.heap.size w w3)=>zf _ pd F (.slice none 0 0) [] jI 0 w3 hD ur (.inl rfl) (by decide) (by decide) (Rd.nil w3) (fun x hx=>by cases hx) (fun h=>absurd h (by decide)) (U.1.below hB) (fun h=>by have:=Z.1 0 h;have:=V.1;omega))
 go_wp2_with fail;refine (show Calls _ _ #[.pointer (some ⟨pd,0,none⟩),.slice none 0 0] w3 _ from H2.1 w3 HD.1 E.1).mono ?_
 rintro e1 w4 ⟨ps,o,rfl,hr⟩;obtain ⟨F3,pl,d3,r1,r2,r3,r4,r5,r6,r7,r8,r9,r10,r11,r12,r13,r14⟩:=hr.ex;obtain ⟨oa,oc,rfl,_⟩:=hr.ow.slice;rw [show jI.clock=0 from rfl,show jI.births=0 from rfl,show jI.l.length=0 from rfl]
 have a5:=ja w4 (.cells #[(0:Int),(0:Int),.slice oa 0 oc] 30);have c9:=E.1.size;have a7:Below w.heap.size w w4:=E.1.trans (hr.md.below E.1.size (fun k hk=>Z.1 k hk))
 obtain ⟨e1,b1⟩:∃ e:UInt32,e=0+1:=⟨_,rfl⟩;rw [<- b1] at r8 r9 r10;have he:e1.toNat=1:=by rw [b1];rfl
 have b2:KnoI w (w4.alloc (.cells #[(0:Int),(0:Int),.slice oa 0 oc] 30)) pd ps pl w4.heap.size F3 d3 ⟨e1,yt e1,false⟩ 0 (.slice oa 0 oc) :=
  ⟨r1.grow a5,r8.below a5,Box.below r9 a5,⟨r5,r6,r7⟩,⟨fun h=>by have:=r1.lt _ h;omega,fun h=>by have:=r8.bx.lt;omega,fun h=>by have:=r9.lt;omega⟩,⟨fun k hk=>by
   rcases r2 k hk with g | g
   . exact Z.1 k g
   . omega,by omega,by omega,a7.size⟩,Box.new _ _ _,⟨r10,⟨rfl,rfl⟩,r11,fun _=>⟨he,rfl⟩,fun h=>by cases h⟩,by have:d3.trail.length<=0+20000:=r13;omega,by omega,a7.trans (a5.mono a7.size)⟩
 obtain ⟨q,hq⟩:=Nm (w4.heap.size);rw [<- hq] at b2;have J:=Hd b2;obtain ⟨wA,b3⟩:=Nm ((w4.alloc (.cells #[(0:Int),(0:Int),.slice oa 0 oc] 30)));rw [<- b3] at J;have C:=Hd (xI 1 wA (by decide) (by decide) (U.1.below J.1.bel))
 rw [<- H0.1] at C;clear r1 r2 r3 r4 r5 r6 r7 r8 r9 r10 r11 r12 r13 r14 hr a5 a7 b1 he b2 c9 HD E X;go_wp2_with fail;rw [<- hq,<- b3];clear hq b3;refine C.1.mono ?_;rintro r w5 ⟨rfl,c3⟩;have G:=Hd (J.1.below c3);clear c3 J C;have z1:=G.1.bx.cell 1 _ rfl;have A:=Hd (xe ps pd _ _ _ w5 G.1.sb);have a0:I32 e1=1:=by have:=(G.1.ti.lo (by omega)).1;show ((e1.toNat:Nat):Int)=1;have e:e1.toNat=1:=this;rw [e];rfl
 simp only at A;rw [a0] at A;go_wp2_with fail;refine A.1.mono ?_;rintro r w6 ⟨rfl,rfl⟩;clear a0 A z1;go_wp2
 go_loopg [7] 17 (fun gk iv wr=>∃ (k:Nat) (F:Nat->Prop) (pl:Nat) (d:DiskM) (s:StoM),gk+k=17/\iv=.int .i64 (k:Int)/\KnoI w wr pd ps pl q F d s k (.slice oa 0 oc))
 case atStart=>exact ⟨0,_,_,_,_,rfl,rfl,G.1⟩
 case round =>
  clear G;obtain ⟨k,F,pl,d,s,c4,rfl,hI⟩:=hrel;have k0:(0:Int)<=(k:Int):=by omega
  have K:=Hd c4;have L:=Hd hI;clear c4;by_cases hk:k<17;rotate_left
  .
   have k1:¬ (k:Int)<17:=by omega
   obtain rfl:k=17:=by have:=hI.le;omega
   have a3:=hI.calls jjc jI rfl (by decide) (by decide) (by decide)
   rw [jgx hI.ti.al.1] at a3;have B:=Hd a3;clear a3 hI hk;go_wp2_with fail;refine (show Calls _ _ #[.pointer (some ⟨ps,0,none⟩),.agg jjc.cells,.agg #[(0:Int),(0:Int),.slice none 0 0]] wr _ from B.1).mono ?_
   rintro r w7 ⟨rfl,ha⟩;obtain ⟨F',pl',hN⟩:=L.1.appR ha L.1.ti L.1.tr (qm _);simp only at hN;have M:=Hd hN;obtain ⟨n1,n2⟩:=hN.ti.hi rfl;have a0:=xe ps pd _ _ _ w7 hN.sb;have a1:=yP ps pd pl' _ _ _ w7 hN.sb hN.lg;have e1:I32 s.epoch=2:=by unfold I32;rw [n1];rfl
   rw [e1] at a0;rw [n2] at a1;have A:=Hd a0;have D:=Hd a1;have C:=Hd (xI 1 w7 (by decide) (by decide) (U.1.below hN.bel))
   have HE:=Hd n1;clear ha hN B a0 a1 e1 n1 n2 L;go_wp2_with fail;refine A.1.mono ?_;rintro r w8 ⟨rfl,rfl⟩;go_wp2_with fail;refine D.1.mono ?_;rintro r w9 ⟨rfl,rfl⟩;go_wp2_with fail;refine C.1.mono ?_;rintro r wp ⟨rfl,c5⟩;have H:=Hd (M.1.below c5);have b4:=H.1.ti.si.kept.d;rw [show (⟨2*((17:Nat):Int),0,[]⟩:StM)=⟨34,0,[]⟩ from rfl] at b4
   have P:=Hd (zf d pd F' (.slice none 0 0) [] ⟨34,0,[]⟩ s.epoch wp H.1.dk b4 (.inl rfl) (by have:=HE.1;omega) (by have:=H.1.tr;omega) (Rd.nil wp) (fun x hx=>by cases hx) (fun h=>absurd h (by decide)) (U.1.below H.1.bel) (fun h=>by have:=H.1.lo.1 0 h;have:=V.1;omega))
   clear c5 b4 M A D C;go_wp2_with fail;refine (show Calls _ _ #[.pointer (some ⟨pd,0,none⟩),.slice none 0 0] wp _ from P.1).mono ?_
   rintro r wq ⟨ps2,o2,rfl,hr⟩;obtain ⟨F4,pl4,d4,t1,t2,t3,t4,t5,t6,t7,t8,t9,t10,t11,t12,t13,t14⟩:=hr.ex;obtain ⟨ob,oe,rfl,_⟩:=hr.ow.slice;rw [show (StM.mk 34 0 []).l.length=0 from rfl]
   have a2:=H.1.bx.mod hr.md H.1.nq.1;have d1:=H.1.bx.lt;obtain ⟨c0,f0,c1,f1,c2,f2⟩:=B3 a2;have hm:=Mod.set3 q wq (34:Int) (0:Int) (.slice ob 0 oe);have b5:=H.1.bel.trans (hr.md.below H.1.bel.size (fun k hk=>H.1.lo.1 k hk))
   have Q:=Hd (((a2.set 0 (34:Int)).set 1 (0:Int)).set 2 (.slice ob 0 oe));have R:=Hd (b5.trans (hm.below b5.size (fun k hk=>by have:=H.1.lo.2.2.2;omega)))
   have S:=Hd (t8.mod hm (by omega))
   have T:=Hd (Box.mod t9 hm (by omega))
   have e3:I32 (s.epoch+1)=3:=by
    have:=(zy (ep:=s.epoch) (by have:=HE.1;omega)).1
    unfold I32;rw [this,HE.1];rfl
   have H3:=Hd e3;clear hr t1 t2 t3 t4 t5 t6 t7 t8 t9 t10 t11 t12 t13 t14 a2 hm b5 e3 P H;go_wp2_with fail;generalize (((wq.setCell ⟨q,0,none⟩ (34:Int)).setCell ⟨q,1,none⟩ (0:Int)).setCell ⟨q,2,none⟩ (.slice ob 0 oe))=wz at Q R S T |-;clear c0 c1 c2 f0 f1 f2;refine (xN wz).mono ?_;rintro r wy ⟨rfl,a6⟩;have y0:=(Q.1.below a6).cell 0 _ rfl;have b6:=S.1.below a6;have c6:yI wy (yt (s.epoch+1)) pl4 pd:=Box.below T.1 a6;have a0:=xe ps2 pd _ _ _ wy b6;have a1:=yP ps2 pd pl4 _ _ _ wy b6 c6;rw [H3.1] at a0;have A:=Hd a0;have D:=Hd (show Calls prog 18 #[.pointer (some ⟨ps2,0,none⟩)] wy fun e w'=>e=.returned (0:Int)/\w'=wy from a1)
   have H4:=Hd (R.1.trans (a6.mono R.1.size));clear a6 b6 c6 a0 a1 Q S T;go_wp2_with fail;refine A.1.mono ?_;rintro r w11 ⟨rfl,rfl⟩;go_wp2_with fail;refine D.1.mono ?_;rintro r w12 ⟨rfl,rfl⟩;go_wp2;go_ret;exact ⟨rfl,H4.1⟩
  have k1:(k:Int)<17:=by omega
  have d2:IntKind.i64.wrap (2*(k:Int))=2*(k:Int):=by simp [IntKind.wrap,IntKind.bits,IntKind.signed];omega
  have a3:=hI.calls zt ⟨2*(k:Int),0,[]⟩ rfl (by decide) (by decide) (by decide)
  rw [(hI.ti.next hk).1,show jm 0=.nilIface from rfl] at a3
  have B:=Hd a3;have N:=Hd hk;clear hI a3;by_cases h15:k=15;rotate_left
  .
   have c7:((k:Int)==15)=false:=by simp;omega
   clear h15 hk;go_wp2_with fail;refine (show Calls _ _ #[.pointer (some ⟨ps,0,none⟩),.agg zt.cells,.agg #[(2*(k:Int):Int),(0:Int),.slice none 0 0]] wr _ from B.1).mono ?_
   rintro r w7 ⟨rfl,ha⟩;obtain ⟨F',pl',hN⟩:=L.1.app N.1 ha;have M:=Hd hN;clear ha hN B;go_wp2
   go_roundg (17-(k+1))
   case measure=>have:=K.1;have:=N.1;omega
   case rel=>exact ⟨k+1,F',pl',_,_,by have:=K.1;have:=N.1;omega,by go_num,M.1⟩
  have c7:((k:Int)==15)=true:=by simp;omega
  have Y:=Hd h15;clear h15 hk;go_wp2_with fail;refine (show Calls _ _ #[.pointer (some ⟨ps,0,none⟩),.agg zt.cells,.agg #[(2*(k:Int):Int),(0:Int),.slice none 0 0]] wr _ from B.1).mono ?_
  rintro r w7 ⟨rfl,ha⟩;obtain ⟨F',pl',hN⟩:=L.1.app N.1 ha;have M:=Hd hN;obtain ⟨n1,n2⟩:=hN.ti.lo (by have:=Y.1;omega)
  have a0:=xe ps pd _ _ _ w7 hN.sb;have a1:=yP ps pd pl' _ _ _ w7 hN.sb hN.lg;have e1:I32 (s.append d zt ⟨2*(k:Int),0,[]⟩).1.epoch=1:=by unfold I32;rw [n1];rfl
  rw [e1] at a0;rw [n2,Y.1] at a1;have A:=Hd a0;have D:=Hd a1;clear ha hN B a0 a1 e1 n1 n2;go_wp2_with fail;refine A.1.mono ?_;rintro r w8 ⟨rfl,rfl⟩;go_wp2_with fail;refine D.1.mono ?_;rintro r w9 ⟨rfl,rfl⟩;go_wp2
  go_roundg (17-(k+1))
  case measure=>have:=K.1;have:=N.1;omega
  case rel=>exact ⟨k+1,F',pl',_,_,by have:=K.1;have:=N.1;omega,by go_num,M.1⟩
theorem jcf (w:World)(hg:ErrType w) :
  Calls prog 6 #[] w fun e w'=>e=.returned (.bool true)/\Below w.heap.size w w':=by
 have B:=Hd hg;clear hg;go_enter func6,ntmps6;go_wp2_with fail;refine (jc8 w B.1).mono ?_;rintro ev w1 ⟨rfl,hb⟩;have H:=Hd hb;clear hb;go_wp2_with fail;refine (jc4 w1 (B.1.below H.1)).mono ?_;rintro ev w2 ⟨rfl,hb⟩;have A:=Hd (H.1.trans (hb.mono H.1.size));clear hb H;go_wp2_with fail;refine (jbg w2 (B.1.below A.1)).mono ?_;rintro ev w3 ⟨rfl,hb⟩;have C:=Hd (A.1.trans (hb.mono A.1.size));clear hb A;go_wp2;go_ret;exact ⟨rfl,C.1⟩
open Go.ChangeShapes Go.WideShapes Go.ChangeAt Go.RowKit
theorem jeQ (W:World)(vs:Array Value)(hg:ErrType W)(h:jd1 false W [] vs.toList):Calls prog 6 vs W fun e W'=>e=.returned (.bool true)/\Below W.heap.size W W':=by
 obtain ⟨vs⟩:=vs
 match vs,h with
 | [],_ =>
  exact jcf W hg
theorem jbz (os:Os)(started:os.Started)(H:Type)(enc:TypeId × Value->H) :
  ReturnsInHanded {} Tryz.checked os 6 .any (fun w args=>(Rows.storeKnownSpec.pre enc prog Tryz.f6 [] false w args/\laidMetH prog jfL w)/\sizedMet enc prog Tryz.f6 (OpenSpec.ofChange Rows.storeKnownSpec) false w args)
   (Rows.storeKnownSpec.post enc prog Tryz.f6 false true false false):=by
 refine returnsInHanded_of_change_and (C:=Tryz.checked) (X:=fun w _=>laidMetH prog jfL w) (fun _ _ _ hh h=>h.of_heap hh) L.own started (by kernel_rfl) func6
  (ChangeSpec.witness_at (enc:=enc) (C:=Tryz.checked) (os:=os) (X:=fun w _=>laidMetH prog jfL w) false (jfU os) #[] 8 rfl (by kernel_rfl) (by kernel_rfl) (by kernel_rfl) (by kernel_rfl) (by kernel_rfl) (jeX os _)) ?_
 intro W base args ds gs before a0 hW _ a1 hL _;exact jc9 (up:=false) (vt:=Rows.storeKnownSpec.plain.varTypes prog) rfl (ts := []) rfl rfl rfl (by decide +kernel) (fun H ds h=>by
   rcases ds with _ | ⟨d0,_ | ⟨d1,_ | ⟨d2,_ | ⟨d3,_ | ⟨d4,_ | ⟨d5,ds⟩⟩⟩⟩⟩⟩ <;> first | exact ⟨rfl,rfl,rfl⟩ | (exfalso;simp at h;done) | (exfalso;simp at h;omega)) H enc W base args ds gs before a0 hW a1 (fun h=>jeQ W args (jc2 hL) h)
theorem jeb:Rows.StoreKnownSaid :=
 OpenClaim.holds_of_wide 6 Tryz.f6 rfl rfl rfl rfl rfl rfl rfl ⟨rfl,rfl,rfl,rfl,rfl⟩ rfl rfl rfl rfl rfl (by kernel_rfl) func6 (by kernel_rfl)
  (kz (by kernel_rfl)) (by unfold Func.isWrapper;first | (rw [qf (by decide +kernel)];kernel_rfl) | (rw [qh (by decide +kernel)];exact ⟨rfl,rfl⟩))
  (fun os started H enc _=>jbz os started H enc)
theorem storeKnown_card:Rows.StoreKnownCardSaid :=
 Claim7.holds_tied_plain_at .later [] [.handle] true (true, "092bf81c706308b9d9ed6c913da4f0e89253c5483a1ccd7890a9d92c8cc91fba") true
  jeb (fun _ h=>by cases h) (by kernel_rfl) (fun _ h=>by cases h) storeKnown_row_tie rfl ⟨rfl,rfl⟩ (by kernel_rfl) rfl
  (fun f fn hf a0=>by
   obtain rfl : f = 6 := Option.some.inj ((show prog.funcNamed "lineage/lineagelaw26.StoreKnown" = some 6 by kernel_rfl).symm.trans hf) |>.symm
   obtain rfl:fn=Tryz.f6:=(Option.some.inj (func6.symm.trans a0)).symm;exact ⟨by kernel_rfl,fun j t ht=>by
    have hp:Tryz.f6.params=#[]:=rfl;rw [hp] at ht
    simp at ht⟩)
  (by kernel_rfl)
#print axioms storeKnown_card
end Go.Proofs.YtgcnolapjppbpaaGreatDoor
