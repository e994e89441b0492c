/-
  Texts of one proof, one behind the other.
-/
import Derived.Test.YtgcnolapjppbpaaGreatDoorP12
import Derived.Test.YtgcnolapjppbpaaGreatDoorP01
import Derived.Deep.MidRow
import Derived.Laws.ResultCell
import Derived.Test.YtgcnolapjppbpaaGreatDoorP00
namespace Go.Proofs.YtgcnolapjppbpaaGreatDoor
open Go.RowKit _root_.Go.Proofs.Tryz
set_option maxRecDepth 100000
set_option maxHeartbeats 25600000
structure SesM where
 slot:Int
 birth:Int
 upS:Int
 upB:Int
 kind:Int
 user:List UInt8
 label:List UInt8
 scopes:Nat
 level:Int
 born:Int
 deadline:Int
 depth:Int
def SesM.cells (s:SesM):Array Value:=#[.int .i64 s.slot,.int .i64 s.birth,.int .i64 s.upS,.int .i64 s.upB,.int .i64 s.kind,.string (SB s.user),.string (SB s.label),.int .u64 (s.scopes:Int),.int .i64 s.level,.int .i64 s.born,.int .i64 s.deadline,.int .i64 s.depth]
def jV (n lo hi:Int):Bool:=decide (lo≤n)&&decide (n≤hi)
theorem yp {n lo hi:Int}(h:jV n lo hi=true):lo≤n∧n≤hi:=by simpa [jV] using h
def jE (s:SesM):Bool:=(s.upS==0)&&((s.upB==0)&&(s.label.isEmpty&&(s.depth==0)))
def jB (s:SesM):Bool:=jV s.upS 0 31&&(jV s.upB 1 (s.birth-1)&&(xS s.label&&jV s.depth 1 6))
def jR (s:SesM):Bool:=jV s.slot 0 31&&(jV s.birth 1 1048576&&(xS s.user&&(jV s.level 0 2&&(jV s.born 0 1099511627776&&(jV s.deadline (s.born+1) 1099511627776 &&
 (if (s.kind==0)=true then jE s else if (s.kind==1)=true then jB s else if (s.kind==2)=true then (jB s&&decide (s.deadline≤s.born+300)) else false))))))
theorem jgj {l:List UInt8}(h:l.isEmpty=false):¬ (SB l).toList = []:=by
 rw [jk];cases l with
 | nil=>simp at h
 | cons a l=>simp
theorem jej {l:List UInt8}(h:l.isEmpty=true):(SB l).toList = []:=by
 rw [jk];exact List.isEmpty_iff.1 h
theorem jeu {b:Int}(h:jV b 0 1099511627776=true):IntKind.i64.wrap (b+1)=b+1:=by
 have:=yp h;simp [IntKind.wrap,IntKind.bits,IntKind.signed];omega
theorem jhU {b:Int}(h:jV b 0 1099511627776=true):IntKind.i64.wrap (b+300)=b+300:=by
 have:=yp h;simp [IntKind.wrap,IntKind.bits,IntKind.signed];omega
theorem jal {b:Int}(h:jV b 1 1048576=true):IntKind.i64.wrap (b-1)=b-1:=by
 have:=yp h;simp [IntKind.wrap,IntKind.bits,IntKind.signed];omega
theorem jh9 {b d:Int}(h:jV b 0 1099511627776=true)(h2:jV d (b+1) 1099511627776=true):IntKind.i64.wrap (d-b)=d-b:=by
 have:=yp h;have:=yp h2;simp [IntKind.wrap,IntKind.bits,IntKind.signed];omega
theorem jl {n lo hi:Int}{b:Bool}(h:jV n lo hi=b)(w:World) :
  Calls prog 155 #[.int .i64 n,.int .i64 lo,.int .i64 hi] w fun e w'=>e=.returned (.bool b)∧w'=w:=by
 subst h;unfold jV;go_enter func155,ntmps155;by_cases h1:lo≤n
 ·
  by_cases h2:n≤hi
  ·
   go_wp2_with fail;go_ret
   simp [h1,h2]
  ·
   go_wp2_with fail;go_ret
   simp [h2]
 ·
  go_wp2_with fail;go_ret
  simp;intro h;omega
theorem zg {l:List UInt8}{b:Bool}(h:xS l=b)(hl:l.length≤9223372036854775807)(w:World) :
  Calls prog 175 #[.string (SB l)] w fun e w'=>e=.returned (.bool b)∧w'=w:=h ▸ jdP l w hl
theorem vw (s:SesM)(w:World)(hu:s.user.length≤9223372036854775807)(hl:s.label.length≤9223372036854775807) :
  Calls prog 154 #[.agg s.cells] w fun e w'=>e=.returned (.bool (jR s))∧Below w.heap.size w w':=by
 unfold SesM.cells;have a1:=fun o=>ja w o
 have H:=Hd a1;have a0:∀ b,jR s=b→(b=jR s):=fun _ h=>h.symm
 have A:=Hd a0;clear a1 a0;go_enter func154,ntmps154;go_wp2_with fail
 cases h1:jV s.slot 0 31
 ·
  refine (jl h1 _).mono ?_;rintro e w1 ⟨rfl,rfl⟩;go_wp2_with fail;go_ret;exact ⟨jj (congrArg Value.bool (A.1 _ (by unfold jR jE jB;rw [h1];first | done | rfl))),H.1 _⟩
 refine (jl h1 _).mono ?_;rintro e w1 ⟨rfl,rfl⟩;go_wp2_with fail
 cases h2:jV s.birth 1 1048576
 ·
  refine (jl h2 _).mono ?_;rintro e w1 ⟨rfl,rfl⟩;go_wp2_with fail;go_ret;exact ⟨jj (congrArg Value.bool (A.1 _ (by unfold jR jE jB;rw [h1,h2];first | done | rfl))),H.1 _⟩
 refine (jl h2 _).mono ?_;rintro e w1 ⟨rfl,rfl⟩;go_wp2_with fail
 cases h3:xS s.user
 ·
  refine (zg h3 hu _).mono ?_;rintro e w1 ⟨rfl,rfl⟩;go_wp2_with fail;go_ret;exact ⟨jj (congrArg Value.bool (A.1 _ (by unfold jR jE jB;rw [h1,h2,h3];first | done | rfl))),H.1 _⟩
 refine (zg h3 hu _).mono ?_;rintro e w1 ⟨rfl,rfl⟩;go_wp2_with fail
 cases h4:jV s.level 0 2
 ·
  refine (jl h4 _).mono ?_;rintro e w1 ⟨rfl,rfl⟩;go_wp2_with fail;go_ret;exact ⟨jj (congrArg Value.bool (A.1 _ (by unfold jR jE jB;rw [h1,h2,h3,h4];first | done | rfl))),H.1 _⟩
 refine (jl h4 _).mono ?_;rintro e w1 ⟨rfl,rfl⟩;go_wp2_with fail
 cases h5:jV s.born 0 1099511627776
 ·
  refine (jl h5 _).mono ?_;rintro e w1 ⟨rfl,rfl⟩;go_wp2_with fail;go_ret;exact ⟨jj (congrArg Value.bool (A.1 _ (by unfold jR jE jB;rw [h1,h2,h3,h4,h5];first | done | rfl))),H.1 _⟩
 refine (jl h5 _).mono ?_;rintro e w1 ⟨rfl,rfl⟩;have z1:=jeu h5;go_wp2_with fail
 cases h6:jV s.deadline (s.born+1) 1099511627776
 ·
  refine (jl h6 _).mono ?_;rintro e w1 ⟨rfl,rfl⟩;go_wp2_with fail;go_ret;exact ⟨jj (congrArg Value.bool (A.1 _ (by unfold jR jE jB;rw [h1,h2,h3,h4,h5,h6];first | done | rfl))),H.1 _⟩
 refine (jl h6 _).mono ?_;rintro e w1 ⟨rfl,rfl⟩
 cases k0:(s.kind==0)
 rotate_left
 ·
  cases u1:(s.upS==0)
  ·
   go_wp2_with fail;go_ret;exact ⟨jj (congrArg Value.bool (A.1 _ (by unfold jR jE jB;rw [h1,h2,h3,h4,h5,h6,k0,u1];first | done | rfl))),H.1 _⟩
  cases u2:(s.upB==0)
  ·
   go_wp2_with fail;go_ret;exact ⟨jj (congrArg Value.bool (A.1 _ (by unfold jR jE jB;rw [h1,h2,h3,h4,h5,h6,k0,u1,u2];first | done | rfl))),H.1 _⟩
  cases u3:s.label.isEmpty
  ·
   have u5:¬ (SB s.label).toList = []:=jgj u3;go_wp2_with fail;go_ret;exact ⟨jj (congrArg Value.bool (A.1 _ (by unfold jR jE jB;rw [h1,h2,h3,h4,h5,h6,k0,u1,u2,u3];first | done | rfl))),H.1 _⟩
  have u5:(SB s.label).toList = []:=jej u3
  cases u4:(s.depth==0)
  ·
   go_wp2_with fail;go_ret;exact ⟨jj (congrArg Value.bool (A.1 _ (by unfold jR jE jB;rw [h1,h2,h3,h4,h5,h6,k0,u1,u2,u3,u4];first | done | rfl))),H.1 _⟩
  go_wp2_with fail;go_ret;exact ⟨jj (congrArg Value.bool (A.1 _ (by unfold jR jE jB;rw [h1,h2,h3,h4,h5,h6,k0,u1,u2,u3,u4];first | done | rfl))),H.1 _⟩
 cases k1:(s.kind==1)
 rotate_left
 ·
  skip
  have z2:=jal h2;go_wp2_with fail
  cases c1:jV s.upS 0 31
  ·
   refine (jl c1 _).mono ?_;rintro e w1 ⟨rfl,rfl⟩;go_wp2_with fail;go_ret;exact ⟨jj (congrArg Value.bool (A.1 _ (by unfold jR jE jB;rw [h1,h2,h3,h4,h5,h6,k0,k1,c1];first | done | rfl))),H.1 _⟩
  refine (jl c1 _).mono ?_;rintro e w1 ⟨rfl,rfl⟩;go_wp2_with fail
  cases c2:jV s.upB 1 (s.birth-1)
  ·
   refine (jl c2 _).mono ?_;rintro e w1 ⟨rfl,rfl⟩;go_wp2_with fail;go_ret;exact ⟨jj (congrArg Value.bool (A.1 _ (by unfold jR jE jB;rw [h1,h2,h3,h4,h5,h6,k0,k1,c1,c2];first | done | rfl))),H.1 _⟩
  refine (jl c2 _).mono ?_;rintro e w1 ⟨rfl,rfl⟩;go_wp2_with fail
  cases c3:xS s.label
  ·
   refine (zg c3 hl _).mono ?_;rintro e w1 ⟨rfl,rfl⟩;go_wp2_with fail;go_ret;exact ⟨jj (congrArg Value.bool (A.1 _ (by unfold jR jE jB;rw [h1,h2,h3,h4,h5,h6,k0,k1,c1,c2,c3];first | done | rfl))),H.1 _⟩
  refine (zg c3 hl _).mono ?_;rintro e w1 ⟨rfl,rfl⟩;go_wp2_with fail
  cases c4:jV s.depth 1 6
  ·
   refine (jl c4 _).mono ?_;rintro e w1 ⟨rfl,rfl⟩;go_wp2_with fail;go_ret;exact ⟨jj (congrArg Value.bool (A.1 _ (by unfold jR jE jB;rw [h1,h2,h3,h4,h5,h6,k0,k1,c1,c2,c3,c4];first | done | rfl))),H.1 _⟩
  refine (jl c4 _).mono ?_;rintro e w1 ⟨rfl,rfl⟩;go_wp2_with fail;go_ret;exact ⟨jj (congrArg Value.bool (A.1 _ (by unfold jR jE jB;rw [h1,h2,h3,h4,h5,h6,k0,k1,c1,c2,c3,c4];first | done | rfl))),H.1 _⟩
 cases k2:(s.kind==2)
 rotate_left
 ·
  skip
  have z2:=jal h2;go_wp2_with fail
  cases c1:jV s.upS 0 31
  ·
   refine (jl c1 _).mono ?_;rintro e w1 ⟨rfl,rfl⟩;go_wp2_with fail;go_ret;exact ⟨jj (congrArg Value.bool (A.1 _ (by unfold jR jE jB;rw [h1,h2,h3,h4,h5,h6,k0,k1,k2,c1];first | done | rfl))),H.1 _⟩
  refine (jl c1 _).mono ?_;rintro e w1 ⟨rfl,rfl⟩;go_wp2_with fail
  cases c2:jV s.upB 1 (s.birth-1)
  ·
   refine (jl c2 _).mono ?_;rintro e w1 ⟨rfl,rfl⟩;go_wp2_with fail;go_ret;exact ⟨jj (congrArg Value.bool (A.1 _ (by unfold jR jE jB;rw [h1,h2,h3,h4,h5,h6,k0,k1,k2,c1,c2];first | done | rfl))),H.1 _⟩
  refine (jl c2 _).mono ?_;rintro e w1 ⟨rfl,rfl⟩;go_wp2_with fail
  cases c3:xS s.label
  ·
   refine (zg c3 hl _).mono ?_;rintro e w1 ⟨rfl,rfl⟩;go_wp2_with fail;go_ret;exact ⟨jj (congrArg Value.bool (A.1 _ (by unfold jR jE jB;rw [h1,h2,h3,h4,h5,h6,k0,k1,k2,c1,c2,c3];first | done | rfl))),H.1 _⟩
  refine (zg c3 hl _).mono ?_;rintro e w1 ⟨rfl,rfl⟩;go_wp2_with fail
  cases c4:jV s.depth 1 6
  ·
   refine (jl c4 _).mono ?_;rintro e w1 ⟨rfl,rfl⟩;go_wp2_with fail;go_ret;exact ⟨jj (congrArg Value.bool (A.1 _ (by unfold jR jE jB;rw [h1,h2,h3,h4,h5,h6,k0,k1,k2,c1,c2,c3,c4];first | done | rfl))),H.1 _⟩
  refine (jl c4 _).mono ?_;rintro e w1 ⟨rfl,rfl⟩;have z3:=jhU h5;by_cases c5:s.deadline≤s.born+300
  ·
   have c6:decide (s.deadline≤s.born+300)=true:=decide_eq_true c5;go_wp2_with fail;go_ret;exact ⟨jj (congrArg Value.bool (A.1 _ (by unfold jR jE jB;rw [h1,h2,h3,h4,h5,h6,k0,k1,k2,c1,c2,c3,c4,c6];first | done | rfl))),H.1 _⟩
  ·
   have c6:decide (s.deadline≤s.born+300)=false:=decide_eq_false c5;go_wp2_with fail;go_ret;exact ⟨jj (congrArg Value.bool (A.1 _ (by unfold jR jE jB;rw [h1,h2,h3,h4,h5,h6,k0,k1,k2,c1,c2,c3,c4,c6];first | done | rfl))),H.1 _⟩
 go_wp2_with fail;go_ret;exact ⟨jj (congrArg Value.bool (A.1 _ (by unfold jR jE jB;rw [h1,h2,h3,h4,h5,h6,k0,k1,k2];first | done | rfl))),H.1 _⟩
structure EvtM where
 kind:Int
 s:SesM
 birth:Int
 ticks:Int
def EvtM.cells (e:EvtM):Array Value:=#[.int .i64 e.kind,.int .i64 e.s.slot,.int .i64 e.s.birth,.int .i64 e.s.upS,.int .i64 e.s.upB,.int .i64 e.s.kind,.string (SB e.s.user),.string (SB e.s.label),.int .u64 (e.s.scopes:Int),.int .i64 e.s.level,.int .i64 e.s.born,.int .i64 e.s.deadline,.int .i64 e.s.depth,.int .i64 e.birth,.int .i64 e.ticks]
def ju:SesM:=⟨0,0,0,0,0,[],[],0,0,0,0,0⟩
def xZ (s t:SesM):Bool:=(s.slot==t.slot)&&((s.birth==t.birth)&&((s.upS==t.upS)&&((s.upB==t.upB)&&((s.kind==t.kind)&&((s.user==t.user)&&((s.label==t.label)&&(((s.scopes:Int)==(t.scopes:Int))&&((s.level==t.level)&&((s.born==t.born)&&((s.deadline==t.deadline)&&(s.depth==t.depth)))))))))))
def um (e f:EvtM):Bool:=(e.kind==f.kind)&&(xZ e.s f.s&&((e.birth==f.birth)&&(e.ticks==f.ticks)))
theorem yJ {s t:SesM}:xZ s t=true↔s=t:=by
 unfold xZ
 constructor
 ·
  intro h;simp only [Bool.and_eq_true,beq_iff_eq] at h;obtain ⟨h1,h2,h3,h4,h5,h6,h7,h8,h9,a0,a1,a2⟩:=h;have a3:s.scopes=t.scopes:=by omega
  cases s;cases t;simp_all
 · rintro rfl;simp
theorem zG {e f:EvtM}:um e f=true↔e=f:=by
 unfold um
 constructor
 ·
  intro h;simp only [Bool.and_eq_true,beq_iff_eq,yJ] at h;obtain ⟨h1,h2,h3,h4⟩:=h
  cases e;cases f;simp_all
 · rintro rfl;simp [yJ]
theorem xb {α:Type}[DecidableEq α][BEq α][LawfulBEq α]{a b : α}:(a==b)=decide (a=b):=by rw [Bool.eq_iff_iff];simp
theorem jt {α:Type}(g:Bool → α){p:Prop}[Decidable p]{c b:Bool}{X:Result α}{w:World}{z : α}(h:c=decide p)(hz:z=g false)(hx:X=Result.ok (g b) w) :
  (if p then X else Result.ok z w)=Result.ok (g (c&&b)) w:=by
 subst h;subst hz;subst hx;by_cases hp:p
 · rw [if_pos hp,decide_eq_true hp];rfl
 · rw [if_neg hp,decide_eq_false hp];rfl
theorem jaF {α:Type}(g:Bool → α){p:Prop}[Decidable p]{c:Bool}{w:World}{y z : α}(h:c=decide p)(hz:z=g false)(hy:y=g true) :
  (if p then Result.ok y w else Result.ok z w)=Result.ok (g c) w:=by
 subst h;subst hz;subst hy;by_cases hp:p
 · rw [if_pos hp,decide_eq_true hp]
 · rw [if_neg hp,decide_eq_false hp]
theorem jiD (s t:SesM)(w:World):(binOp .eql 45 (.agg s.cells) (.agg t.cells)).run prog w=.ok (.bool (xZ s t)) w:=by
 unfold SesM.cells xZ
 go_simp
 simp only [jk];refine jt (Value.bool) xb rfl ?_;refine jt (Value.bool) xb rfl ?_;refine jt (Value.bool) xb rfl ?_;refine jt (Value.bool) xb rfl ?_;refine jt (Value.bool) xb rfl ?_;refine jt (Value.bool) xb rfl ?_;refine jt (Value.bool) xb rfl ?_;refine jt (Value.bool) xb rfl ?_;refine jt (Value.bool) xb rfl ?_;refine jt (Value.bool) xb rfl ?_;refine jt (Value.bool) xb rfl ?_;exact jaF (Value.bool) xb rfl rfl
theorem jc3 (e f:EvtM)(w:World):(binOp .neq 47 (.agg e.cells) (.agg f.cells)).run prog w=.ok (.bool (!(um e f))) w:=by
 obtain ⟨r,hr⟩:=Nm (um e f);rw [← hr];unfold EvtM.cells
 go_simp
 subst hr;unfold um xZ;simp only [jk,Bool.and_assoc];refine jt (fun b=>Value.bool (!b)) xb rfl ?_
 refine jt (fun b=>Value.bool (!b)) xb rfl ?_
 refine jt (fun b=>Value.bool (!b)) xb rfl ?_
 refine jt (fun b=>Value.bool (!b)) xb rfl ?_
 refine jt (fun b=>Value.bool (!b)) xb rfl ?_
 refine jt (fun b=>Value.bool (!b)) xb rfl ?_
 refine jt (fun b=>Value.bool (!b)) xb rfl ?_
 refine jt (fun b=>Value.bool (!b)) xb rfl ?_
 refine jt (fun b=>Value.bool (!b)) xb rfl ?_
 refine jt (fun b=>Value.bool (!b)) xb rfl ?_
 refine jt (fun b=>Value.bool (!b)) xb rfl ?_
 refine jt (fun b=>Value.bool (!b)) xb rfl ?_
 refine jt (fun b=>Value.bool (!b)) xb rfl ?_
 refine jt (fun b=>Value.bool (!b)) xb rfl ?_
 refine jaF (fun b=>Value.bool (!b)) ?_ rfl rfl
 exact xb
def yb (e:EvtM):Bool:=if (e.kind==0)=true then (e.birth==0)&&((e.ticks==0)&&jR e.s)
 else if (e.kind==1)=true then xZ e.s ju&&((e.ticks==0)&&jV e.birth 1 1048576)
 else if (e.kind==2)=true then xZ e.s ju&&((e.birth==0)&&jV e.ticks 1 1073741824) else false
theorem jn (w:World)(o o':Obj):Below w.heap.size w ((w.alloc o).alloc o'):=(ja w o).trans ((ja _ o').mono (by simp))
theorem xX (e:EvtM)(w:World)(hu:e.s.user.length≤9223372036854775807)(hl:e.s.label.length≤9223372036854775807) :
  Calls prog 115 #[.agg e.cells] w fun ev w'=>ev=.returned (.bool (yb e))∧Below w.heap.size w w':=by
 have a0:=fun w=>jiD e.s ju w
 unfold SesM.cells at a0
 change ∀ w,(binOp .eql 45 (.agg _) (.agg #[.int .i64 0,.int .i64 0,.int .i64 0,.int .i64 0,.int .i64 0,.string ⟨#[]⟩,.string ⟨#[]⟩,.int .u64 0,.int .i64 0,.int .i64 0,.int .i64 0,.int .i64 0])).run prog w=_ at a0
 have A:=Hd a0;have a1:∀ b,yb e=b→(b=yb e):=fun _ h=>h.symm
 have H:=Hd a1;clear a1 a0;unfold EvtM.cells;go_enter func115,ntmps115
 cases k0:(e.kind==0)
 rotate_left
 ·
  cases b1:(e.birth==0)
  ·
   go_wp2_with fail;go_ret;exact ⟨jj (congrArg Value.bool (H.1 _ (by unfold yb;rw [k0,b1];first | done | rfl))),(jn w _ _)⟩
  cases b2:(e.ticks==0)
  ·
   go_wp2_with fail;go_ret;exact ⟨jj (congrArg Value.bool (H.1 _ (by unfold yb;rw [k0,b1,b2];first | done | rfl))),(jn w _ _)⟩
  go_wp2_with fail;refine (vw e.s _ hu hl).mono ?_;rintro ev w1 ⟨rfl,a2⟩;have B:=Hd ((jn w _ _).trans (a2.mono (by simp;omega)))
  clear a2;go_wp2_with fail;go_ret;exact ⟨jj (congrArg Value.bool (H.1 _ (by unfold yb;rw [k0,b1,b2];first | done | rfl))),B.1⟩
 cases k1:(e.kind==1)
 rotate_left
 ·
  skip
  have a0:=A.1
  cases s1:xZ e.s ju
  ·
   rw [s1] at a0;go_wp2_with fail;go_ret;exact ⟨jj (congrArg Value.bool (H.1 _ (by unfold yb;rw [k0,k1,s1];first | done | rfl))),(jn w _ _)⟩
  rw [s1] at a0
  cases b1:(e.ticks==0)
  ·
   go_wp2_with fail;go_ret;exact ⟨jj (congrArg Value.bool (H.1 _ (by unfold yb;rw [k0,k1,s1,b1];first | done | rfl))),(jn w _ _)⟩
  go_wp2_with fail;refine (jl rfl _).mono ?_;rintro ev w1 ⟨rfl,rfl⟩;go_wp2_with fail;go_ret;exact ⟨jj (congrArg Value.bool (H.1 _ (by unfold yb;rw [k0,k1,s1,b1];first | done | rfl))),(jn w _ _)⟩
 cases k2:(e.kind==2)
 rotate_left
 ·
  skip
  have a0:=A.1
  cases s1:xZ e.s ju
  ·
   rw [s1] at a0;go_wp2_with fail;go_ret;exact ⟨jj (congrArg Value.bool (H.1 _ (by unfold yb;rw [k0,k1,k2,s1];first | done | rfl))),(jn w _ _)⟩
  rw [s1] at a0
  cases b1:(e.birth==0)
  ·
   go_wp2_with fail;go_ret;exact ⟨jj (congrArg Value.bool (H.1 _ (by unfold yb;rw [k0,k1,k2,s1,b1];first | done | rfl))),(jn w _ _)⟩
  go_wp2_with fail;refine (jl rfl _).mono ?_;rintro ev w1 ⟨rfl,rfl⟩;go_wp2_with fail;go_ret;exact ⟨jj (congrArg Value.bool (H.1 _ (by unfold yb;rw [k0,k1,k2,s1,b1];first | done | rfl))),(jn w _ _)⟩
 go_wp2_with fail;go_ret;exact ⟨jj (congrArg Value.bool (H.1 _ (by unfold yb;rw [k0,k1,k2];first | done | rfl))),(jn w _ _)⟩
theorem vp {l:List UInt8}{b:Bool}(h:xS l=b)(hl:l.length≤9223372036854775807)(w:World) :
  Calls prog 215 #[.string (SB l)] w fun e w'=>e=.returned (.bool b)∧Below w.heap.size w w':=h ▸ jfZ l w hl
theorem jv {n lo hi:Int}{b:Bool}(h:jV n lo hi=b)(w:World) :
  Calls prog 214 #[.int .i64 n,.int .i64 lo,.int .i64 hi] w fun e w'=>e=.returned (.bool b)∧w'=w:=by
 subst h;unfold jV;go_enter func214,ntmps214;by_cases h1:lo≤n
 ·
  by_cases h2:n≤hi
  ·
   go_wp2_with fail;go_ret
   simp [h1,h2]
  ·
   go_wp2_with fail;go_ret
   simp [h2]
 ·
  go_wp2_with fail;go_ret
  simp;intro h;omega
theorem un (s:SesM)(w:World)(hu:s.user.length≤9223372036854775807)(hl:s.label.length≤9223372036854775807) :
  Calls prog 213 #[.agg s.cells] w fun e w'=>e=.returned (.bool (jR s))∧Below w.heap.size w w':=by
 have a3:∀ b,jR s=b→(b=jR s):=fun _ h=>h.symm
 have A:=Hd a3;have E:=Hd (fun o=>Box.new (w.alloc o) s.cells 45)
 unfold SesM.cells at E ⊢;have D:=Hd (fun o o2=>jn w o o2)
 clear a3;go_enter func213,ntmps213;go_wp2_with fail
 cases h1:jV s.slot 0 31
 ·
  refine (jv h1 _).mono ?_;rintro e w1 ⟨rfl,rfl⟩;go_wp2_with fail;go_ret;exact ⟨jj (congrArg Value.bool (A.1 _ (by unfold jR jE jB;rw [h1];first | done | rfl))),D.1 _ _⟩
 refine (jv h1 _).mono ?_;rintro e w1 ⟨rfl,rfl⟩;go_wp2_with fail
 cases h2:jV s.birth 1 1048576
 ·
  refine (jv h2 _).mono ?_;rintro e w1 ⟨rfl,rfl⟩;go_wp2_with fail;go_ret;exact ⟨jj (congrArg Value.bool (A.1 _ (by unfold jR jE jB;rw [h1,h2];first | done | rfl))),D.1 _ _⟩
 refine (jv h2 _).mono ?_;rintro e w1 ⟨rfl,rfl⟩;go_wp2_with fail
 cases h3:xS s.user
 ·
  refine (vp h3 hu _).mono ?_;rintro e w1 ⟨rfl,a2⟩;have H:=Hd ((D.1 _ _).trans (a2.mono (by simp;omega)))
  clear a2;go_wp2_with fail;go_ret;exact ⟨jj (congrArg Value.bool (A.1 _ (by unfold jR jE jB;rw [h1,h2,h3];first | done | rfl))),H.1⟩
 refine (vp h3 hu _).mono ?_;rintro e w1 ⟨rfl,a2⟩;have H:=Hd ((D.1 _ _).trans (a2.mono (by simp;omega)))
 have a0:=(E.1 _).below a2;rw [World.size_alloc] at a0;have C:=Hd a0;clear a2;have x0:=a0.cell 0 _ rfl;have x1:=a0.cell 1 _ rfl;have x2:=a0.cell 2 _ rfl;have x3:=a0.cell 3 _ rfl;have x4:=a0.cell 4 _ rfl;have x6:=a0.cell 6 _ rfl;have x8:=a0.cell 8 _ rfl;have x9:=a0.cell 9 _ rfl;have x10:=a0.cell 10 _ rfl;have x11:=a0.cell 11 _ rfl;clear a0;go_wp2_with fail
 cases h4:jV s.level 0 2
 ·
  refine (jv h4 _).mono ?_;rintro e w1 ⟨rfl,rfl⟩;go_wp2_with fail;go_ret;exact ⟨jj (congrArg Value.bool (A.1 _ (by unfold jR jE jB;rw [h1,h2,h3,h4];first | done | rfl))),H.1⟩
 refine (jv h4 _).mono ?_;rintro e w1 ⟨rfl,rfl⟩;go_wp2_with fail
 cases h5:jV s.born 0 1099511627776
 ·
  refine (jv h5 _).mono ?_;rintro e w1 ⟨rfl,rfl⟩;go_wp2_with fail;go_ret;exact ⟨jj (congrArg Value.bool (A.1 _ (by unfold jR jE jB;rw [h1,h2,h3,h4,h5];first | done | rfl))),H.1⟩
 refine (jv h5 _).mono ?_;rintro e w1 ⟨rfl,rfl⟩;have z1:=jeu h5;go_wp2_with fail
 cases h6:jV s.deadline (s.born+1) 1099511627776
 ·
  refine (jv h6 _).mono ?_;rintro e w1 ⟨rfl,rfl⟩;go_wp2_with fail;go_ret;exact ⟨jj (congrArg Value.bool (A.1 _ (by unfold jR jE jB;rw [h1,h2,h3,h4,h5,h6];first | done | rfl))),H.1⟩
 refine (jv h6 _).mono ?_;rintro e w1 ⟨rfl,rfl⟩;have z2:=jal h2;have z3:=jh9 h5 h6
 cases k0:(s.kind==0)
 rotate_left
 ·
  cases u1:(s.upS==0)
  ·
   go_wp2_with fail;go_ret;exact ⟨jj (congrArg Value.bool (A.1 _ (by unfold jR jE jB;rw [h1,h2,h3,h4,h5,h6,k0,u1];first | done | rfl))),H.1⟩
  cases u2:(s.upB==0)
  ·
   go_wp2_with fail;go_ret;exact ⟨jj (congrArg Value.bool (A.1 _ (by unfold jR jE jB;rw [h1,h2,h3,h4,h5,h6,k0,u1,u2];first | done | rfl))),H.1⟩
  cases u3:s.label.isEmpty
  ·
   have u5:¬ (SB s.label).toList = []:=jgj u3;go_wp2_with fail;go_ret;exact ⟨jj (congrArg Value.bool (A.1 _ (by unfold jR jE jB;rw [h1,h2,h3,h4,h5,h6,k0,u1,u2,u3];first | done | rfl))),H.1⟩
  have u5:(SB s.label).toList = []:=jej u3
  cases u4:(s.depth==0)
  ·
   go_wp2_with fail;go_ret;exact ⟨jj (congrArg Value.bool (A.1 _ (by unfold jR jE jB;rw [h1,h2,h3,h4,h5,h6,k0,u1,u2,u3,u4];first | done | rfl))),H.1⟩
  go_wp2_with fail;go_ret;exact ⟨jj (congrArg Value.bool (A.1 _ (by unfold jR jE jB;rw [h1,h2,h3,h4,h5,h6,k0,u1,u2,u3,u4];first | done | rfl))),H.1⟩
 cases k1:(s.kind==1)
 rotate_left
 ·
  have k2:(s.kind==2)=false:=by simp at k1 ⊢;omega
  have k3:(s.kind != 1)=false:=by simp at k1 ⊢;omega
  go_wp2_with fail
  cases c1:jV s.upS 0 31
  ·
   refine (jv c1 _).mono ?_;rintro e w1 ⟨rfl,rfl⟩;go_wp2_with fail;go_ret;exact ⟨jj (congrArg Value.bool (A.1 _ (by unfold jR jE jB;rw [h1,h2,h3,h4,h5,h6,k0,k1,c1];first | done | rfl))),H.1⟩
  refine (jv c1 _).mono ?_;rintro e w1 ⟨rfl,rfl⟩;go_wp2_with fail
  cases c2:jV s.upB 1 (s.birth-1)
  ·
   refine (jv c2 _).mono ?_;rintro e w1 ⟨rfl,rfl⟩;go_wp2_with fail;go_ret;exact ⟨jj (congrArg Value.bool (A.1 _ (by unfold jR jE jB;rw [h1,h2,h3,h4,h5,h6,k0,k1,c1,c2];first | done | rfl))),H.1⟩
  refine (jv c2 _).mono ?_;rintro e w1 ⟨rfl,rfl⟩;go_wp2_with fail
  cases c3:xS s.label
  ·
   refine (vp c3 hl _).mono ?_;rintro e w2 ⟨rfl,a1⟩;have B:=Hd (H.1.trans (a1.mono H.1.size));clear a1;go_wp2_with fail;go_ret;exact ⟨jj (congrArg Value.bool (A.1 _ (by unfold jR jE jB;rw [h1,h2,h3,h4,h5,h6,k0,k1,c1,c2,c3];first | done | rfl))),B.1⟩
  refine (vp c3 hl _).mono ?_;rintro e w2 ⟨rfl,a1⟩;have B:=Hd (H.1.trans (a1.mono H.1.size));have d11:=(C.1.below a1).cell 11 _ rfl;clear a1;go_wp2_with fail
  cases d4:jV s.depth 1 6
  ·
   refine (jv d4 _).mono ?_;rintro e w1 ⟨rfl,rfl⟩;go_wp2_with fail;go_ret;exact ⟨jj (congrArg Value.bool (A.1 _ (by unfold jR jE jB;rw [h1,h2,h3,h4,h5,h6,k0,k1,c1,c2,c3,d4];first | done | rfl))),B.1⟩
  refine (jv d4 _).mono ?_;rintro e w1 ⟨rfl,rfl⟩;go_wp2_with fail;go_ret;exact ⟨jj (congrArg Value.bool (A.1 _ (by unfold jR jE jB;rw [h1,h2,h3,h4,h5,h6,k0,k1,c1,c2,c3,d4];first | done | rfl))),B.1⟩
 have k3:(s.kind != 1)=true:=by simp at k1 ⊢;omega
 cases k2:(s.kind==2)
 ·
  have k4:(s.kind != 2)=true:=by simp at k2 ⊢;omega
  go_wp2_with fail;go_ret;exact ⟨jj (congrArg Value.bool (A.1 _ (by unfold jR jE jB;rw [h1,h2,h3,h4,h5,h6,k0,k1,k2];first | done | rfl))),H.1⟩
 have k4:(s.kind != 2)=false:=by simp at k2 ⊢;omega
 by_cases c5:s.deadline≤s.born+300
 ·
  have c6:decide (s.deadline≤s.born+300)=true:=decide_eq_true c5;have c7:¬ (300:Int)<s.deadline-s.born:=by omega
  clear c5;go_wp2_with fail
  cases c1:jV s.upS 0 31
  ·
   refine (jv c1 _).mono ?_;rintro e w1 ⟨rfl,rfl⟩;go_wp2_with fail;go_ret;exact ⟨jj (congrArg Value.bool (A.1 _ (by unfold jR jE jB;rw [h1,h2,h3,h4,h5,h6,k0,k1,k2,c6,c1];first | done | rfl))),H.1⟩
  refine (jv c1 _).mono ?_;rintro e w1 ⟨rfl,rfl⟩;go_wp2_with fail
  cases c2:jV s.upB 1 (s.birth-1)
  ·
   refine (jv c2 _).mono ?_;rintro e w1 ⟨rfl,rfl⟩;go_wp2_with fail;go_ret;exact ⟨jj (congrArg Value.bool (A.1 _ (by unfold jR jE jB;rw [h1,h2,h3,h4,h5,h6,k0,k1,k2,c6,c1,c2];first | done | rfl))),H.1⟩
  refine (jv c2 _).mono ?_;rintro e w1 ⟨rfl,rfl⟩;go_wp2_with fail
  cases c3:xS s.label
  ·
   refine (vp c3 hl _).mono ?_;rintro e w2 ⟨rfl,a1⟩;have B:=Hd (H.1.trans (a1.mono H.1.size));clear a1;go_wp2_with fail;go_ret;exact ⟨jj (congrArg Value.bool (A.1 _ (by unfold jR jE jB;rw [h1,h2,h3,h4,h5,h6,k0,k1,k2,c6,c1,c2,c3];first | done | rfl))),B.1⟩
  refine (vp c3 hl _).mono ?_;rintro e w2 ⟨rfl,a1⟩;have B:=Hd (H.1.trans (a1.mono H.1.size));have d11:=(C.1.below a1).cell 11 _ rfl;clear a1;go_wp2_with fail
  cases d4:jV s.depth 1 6
  ·
   refine (jv d4 _).mono ?_;rintro e w1 ⟨rfl,rfl⟩;go_wp2_with fail;go_ret;exact ⟨jj (congrArg Value.bool (A.1 _ (by unfold jR jE jB;rw [h1,h2,h3,h4,h5,h6,k0,k1,k2,c6,c1,c2,c3,d4];first | done | rfl))),B.1⟩
  refine (jv d4 _).mono ?_;rintro e w1 ⟨rfl,rfl⟩;go_wp2_with fail;go_ret;exact ⟨jj (congrArg Value.bool (A.1 _ (by unfold jR jE jB;rw [h1,h2,h3,h4,h5,h6,k0,k1,k2,c6,c1,c2,c3,d4];first | done | rfl))),B.1⟩
 have c6:decide (s.deadline≤s.born+300)=false:=decide_eq_false c5;have c7:(300:Int)<s.deadline-s.born:=by omega
 clear c5;go_wp2_with fail;go_ret;exact ⟨jj (congrArg Value.bool (A.1 _ (by unfold jR;rw [h1,h2,h3,h4,h5,h6,k0,k1,k2,c6];first | done | simp))),H.1⟩
theorem vV (n:Int)(w:World) :
  Calls prog 224 #[.agg #[.int .i64 n]] w fun e w'=>e=.returned (.bool (jV n 1 1048576))∧Below w.heap.size w w':=by
 have H:=Hd (fun o=>ja w o)
 go_enter func224,ntmps224;go_wp2_with fail;refine (jv rfl _).mono ?_;rintro e w1 ⟨rfl,rfl⟩;go_wp2_with fail;go_ret;exact ⟨rfl,H.1 _⟩
theorem uZ (n:Int)(w:World) :
  Calls prog 225 #[.agg #[.int .i64 n]] w fun e w'=>e=.returned (.bool (jV n 1 1073741824))∧Below w.heap.size w w':=by
 have H:=Hd (fun o=>ja w o)
 go_enter func225,ntmps225;go_wp2_with fail;refine (jv rfl _).mono ?_;rintro e w1 ⟨rfl,rfl⟩;go_wp2_with fail;go_ret;exact ⟨rfl,H.1 _⟩
theorem je {P:Program}{ops:Array Oper}{rest:List Oper}{op:Oper}{a:Act}{w:World}{Q:Exit→Act→World→Prop}(a0:op.guard=none)(ty:TypeId)(x:Operand)(ho:op.op=.load ty x)(b o:Nat)(hx:a.eval x=.pointer (some ⟨b,o,none⟩))(cs:List Value)(d:TypeDesc)(hc:w.rangeAt b o cs)(hu:P.underlying ty=some d)(hd:d.isRow=true)(hi:(P.info? ty).map (·.size)=some cs.length)(h:∀ c,Hid (c=cs.toArray)→wpList P ops Q rest (a.put op.dst (.agg c)) w):wpList P ops Q (op::rest) a w :=
 wpList_load_mid a0 ty x ho b o hx cs d hc hu hd hi (h _ (Lib.hid rfl))
theorem yZ {P:Program}{ops:Array Oper}{rest:List Oper}{op:Oper}{a:Act}{w:World}{Q:Act→Prop}(hw:Region.wanted op (yielded ops a.tmps)=true)(ty:TypeId)(x:Operand)(ho:op.op=.load ty x)(b o:Nat)(hx:a.eval x=.pointer (some ⟨b,o,none⟩))(cs:List Value)(d:TypeDesc)(hc:w.rangeAt b o cs)(hu:P.underlying ty=some d)(hd:d.isRow=true)(hi:(P.info? ty).map (·.size)=some cs.length)(h:∀ c,Hid (c=cs.toArray)→wpStill P ops w Q rest (a.put op.dst (.agg c))):wpStill P ops w Q (op::rest) a:=by
 unfold wpStill;rw [if_pos hw];unfold Oper.still execOp;simp only [ho,hx,Instr.loadAt,Instr.sureAddr,Sem.run_bind,Sem.run_pure,Result.andThen_ok,run_loadVar_mid w b o ty cs d hc hu hd hi];exact ⟨rfl,h _ (Lib.hid rfl)⟩
theorem jc {P:Program}{ops:Array Oper}{rest:List Oper}{op:Oper}{a:Act}{w:World}{Q:Exit→Act→World→Prop}(a0:op.guard=none)(ty:TypeId)(x y:Operand)(ho:op.op=.store ty x y)(b o:Nat)(cs:List Value)(hx:a.eval x=.pointer (some ⟨b,o,none⟩))(c:Array Value)(hy:a.eval y=.agg c)(hv:Hid (c=cs.toArray))(ht:w.there b o cs.length)(hi:(P.info? ty).map (·.size)=some cs.length)(h1:∀ v∈cs,v.oneCell'=true)(h:∀ w',Hid (w'=w.setCells b o cs)→wpList P ops Q rest (a.put op.dst undef) w'):wpList P ops Q (op::rest) a w :=
 wpList_store_mid a0 ty x y ho b o cs.toArray hx (hy.trans (congrArg Value.agg hv.out)) (by simpa using ht) (by simpa using hi) (all_oneCell_toArray h1) (h _ (Lib.hid (by simp)))
theorem jb {P:Program}{fn:Func}{R:Ending→World→Prop}{a:Act}{w:World}{p u:Tmp}{ty:TypeId}(h:fn.results=#[.cell p ty,.tmp u])(a0:a.defers = [])(b o:Nat)(hp:a.tmps.getD p undef=.pointer (some ⟨b,o,none⟩))(cs:List Value)(d:TypeDesc)(hc:w.rangeAt b o cs)(hu:P.underlying ty=some d)(hd:d.isRow=true)(hi:(P.info? ty).map (·.size)=some cs.length)(x:Value)(hx:a.tmps.getD u undef=x)(hR:R (.returned (.tuple #[.agg cs.toArray,x])) w):bodyPost P fn R .ret a w:=by
 refine bodyPost_ret (v:=.tuple #[.agg cs.toArray,x]) ?_ a0 hR;rw [results_cell_tmp h,hp,hx]
 simp [asAddr,Result.andThen,run_loadVar_mid w b o ty cs d hc hu hd hi]
theorem vq {P:Program}{fn:Func}{R:Ending→World→Prop}{a:Act}{w:World}{p:Tmp}{ty:TypeId}(h:fn.results=#[.cell p ty])(a0:a.defers = [])(b o:Nat)(hp:a.tmps.getD p undef=.pointer (some ⟨b,o,none⟩))(cs:List Value)(d:TypeDesc)(hc:w.rangeAt b o cs)(hu:P.underlying ty=some d)(hd:d.isRow=true)(hi:(P.info? ty).map (·.size)=some cs.length)(hR:R (.returned (.agg cs.toArray)) w):bodyPost P fn R .ret a w:=by
 refine bodyPost_ret (v:=.agg cs.toArray) ?_ a0 hR;simp only [results,h];have a1:a.tmps[p]?.getD undef=.pointer (some ⟨b,o,none⟩):=by simpa using hp
 simp [a1,asAddr,run_loadVar_mid w b o ty cs d hc hu hd hi]
theorem Box.setCells {b:Nat}{t:TypeId}:∀ (vs:List Value) (o:Nat) {w:World} {cs:Array Value},Box w b cs t→o+vs.length≤cs.size →
  ∃ cs',Box (w.setCells b o vs) b cs' t∧cs'.size=cs.size∧(∀ j v,vs[j]?=some v→cs'[o+j]?=some v)∧∀ j,j<o∨o+vs.length≤j→cs'[j]?=cs[j]?
 | [],o,_,cs,h,_=>⟨cs,h,rfl,fun j v hv=>by simp at hv,fun _ _=>rfl⟩
 | x::r,o,w,cs,h,hl=>by
  simp only [List.length_cons] at hl;obtain ⟨cs',h1,h2,h3,h4⟩:=Box.setCells r (o+1) (h.set o x) (by simp;omega)
  rw [World.setCells];refine ⟨cs',h1,by simpa using h2,fun j v hv=>?_,fun j hj=>?_⟩
  ·
   cases j with
   | zero =>
    rw [Nat.add_zero,h4 o (by omega)]
    simp at hv
    subst hv
    simp [show o<cs.size by omega]
   | succ j =>
    have:=h3 j v (by simpa using hv)
    rw [show o+(j+1)=o+1+j by omega];exact this
  ·
   simp only [List.length_cons] at hj;rw [h4 j (by omega)]
   simp [show o≠j by omega]
theorem Mod.setCells (F:Nat→Prop)(b:Nat)(hb:F b):∀ (vs:List Value) (o:Nat) (w:World),Mod F w (w.setCells b o vs)
 | [],_,_=>Mod.refl _ _
 | v::r,o,w=>(Mod.set F w ⟨b,o,none⟩ v hb).trans (Mod.setCells F b hb r (o+1) _)
end Go.Proofs.YtgcnolapjppbpaaGreatDoor
