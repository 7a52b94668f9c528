/- Products; numbers modulo another one: the first part. No condition. -/
import Derived.Test.YtehpbhpmkhlldaaGreatW6
import Derived.Laws.Strings
import Derived.Shelf.Small.Strs
import Derived.Shelf.Slices.CompactS
import Derived.Ground.SlsfProg
import Derived.Shelf.SlSortCmp.NoneTotal
import Derived.Test.YtehpbhpmkhlldaaGreatProg
import Derived.WalkKit
import Derived.Sort.Walk0
set_option linter.all false
set_option maxHeartbeats 8000000
set_option maxRecDepth 100000
namespace Go.Proofs.YtehpbhpmkhlldaaGreat
open Go.Sx
def sizeI (n:Int):Int:=if n<0 then-n else n
theorem sizeI_r {n:Int} (h: -9223372036854775808<=n/\ n<9223372036854775808):0<=sizeI n/\ sizeI n<=9223372036854775808:=by unfold sizeI;split<;>omega
theorem size_t {n:Int} (h: -9223372036854775808<=n/\ n<9223372036854775808) (h2:decide (n<0)=true):IntKind.u64.wrap (0-IntKind.u64.wrap n)=sizeI n:=by
 have:=of_decide_eq_true h2
 unfold sizeI;rw [if_pos this,wU,wU];omega
theorem size_f {n:Int} (h: -9223372036854775808<=n/\ n<9223372036854775808) (h2:decide (n<0)=false):IntKind.u64.wrap n=sizeI n:=by
 have:=of_decide_eq_false h2
 unfold sizeI;rw [if_neg this,wU];omega
theorem size_mul {a b:Int} (ha: -9223372036854775808<=a/\ a<9223372036854775808) (hb: -9223372036854775808<=b/\ b<9223372036854775808):(0<=sizeI a*sizeI b/\ sizeI a*sizeI b<=85070591730234615865843651857942052864)/\ ((decide (a<0) !=decide (b<0))=true->sizeI a*sizeI b= -(a*b))/\ ((decide (a<0) !=decide (b<0))=false->sizeI a*sizeI b=a*b):=by
 have h1:=sizeI_r ha
 have h2:=sizeI_r hb
 refine ⟨⟨Int.mul_nonneg h1.1 h2.1,by have:=Int.mul_le_mul h1.2 h2.2 h2.1 (by decide);omega⟩, ?_, ?_⟩
 . intro h
   unfold sizeI
   by_cases h3:a<0<;>by_cases h4:b<0<;>simp [h3,h4,Int.neg_mul,Int.mul_neg] at h⊢
 . intro h
   unfold sizeI
   by_cases h3:a<0<;>by_cases h4:b<0<;>simp [h3,h4,Int.neg_mul,Int.mul_neg] at h⊢
theorem wd_parts {p:Int} (h:0<=p/\ p<=85070591730234615865843651857942052864):(⟨IntKind.wrap .i64 (p/18446744073709551616),p%18446744073709551616⟩:Wd)=wd p:=by
 rw [wI];unfold wd;congr 1
theorem wd_nn {p q:Int} (h:0<=p/\ p<=85070591730234615865843651857942052864) (e:p= -q):wd (0-(wd p).val)=wd q:=by
 rw [wd_val (v:=p) (by omega) (by omega)];congr 1;omega
theorem mul64_r {p:Int} (h:0<=p/\ p<=85070591730234615865843651857942052864):(0<=p/18446744073709551616/\ p/18446744073709551616<18446744073709551616)/\ 0<=p%18446744073709551616/\ p%18446744073709551616<18446744073709551616:=by omega
def FWSize:List Ar->Option Rs
 | [.c (.d (.v (.int .i64 i0)))]=>some ⟨(-9223372036854775808<=i0/\ i0<9223372036854775808),.va (.c (.d (ut (sizeI i0)))),[]⟩
 |_=>none
theorem fcWSize:FC Tryz.prog 134 FWSize:=by
 intro xs pre r us h hp
 unfold FWSize at h
 split at h
 . rename_i i0
   cases h
   have hp0:=hp
   refine fcat tys_ok (l:= []) trivial Tryz.func134 rfl (by kernel_rfl) false ?_
   repeat' (first|exact trivial|refine ⟨?_, ?_⟩|intro _)
   all_goals first|(with_reducible first|apply qa|apply qb|apply qc|apply qd)|(conv=>whnf)
   all_goals first|exact congrArg (Value.int .u64) (size_t hp0 ‹_›)|exact congrArg (Value.int .u64) (size_f hp0 ‹_›)
 . cases h
def FWMul:List Ar->Option Rs
 | [.c (.d (.v (.int .i64 i0))),.c (.d (.v (.int .i64 i1)))]=>some ⟨(-9223372036854775808<=i0/\ i0<9223372036854775808)/\ (-9223372036854775808<=i1/\ i1<9223372036854775808),.va (Wd.ar (wd (i0*i1))),[]⟩
 |_=>none
theorem fcWMul:FC Tryz.prog 95 FWMul:=by
 intro xs pre r us h hp
 unfold FWMul at h
 split at h
 . rename_i i0 i1
   cases h
   obtain ⟨hp0,hp1⟩:=hp
   refine fcat tys_ok (l:= [(134,⟨[],FWSize⟩),(133,⟨[],FMul64⟩),(124,⟨[],FWNeg⟩)]) ⟨fcWSize,fcMul64,fcWNeg,trivial⟩ Tryz.func95 rfl (by kernel_rfl) false ?_
   have s0:=sizeI_r hp0
   have s1:=sizeI_r hp1
   have z0:0<=sizeI i0/\ sizeI i0<18446744073709551616:=by omega
   have z1:0<=sizeI i1/\ sizeI i1<18446744073709551616:=by omega
   obtain ⟨mr,m1,m2⟩:=size_mul hp0 hp1
   have mr2:=mul64_r mr
   have ew:=wd_parts mr
   have eh:IntKind.wrap .i64 (sizeI i0*sizeI i1/18446744073709551616)=(wd (sizeI i0*sizeI i1)).hi:=congrArg Wd.hi ew
   have el:sizeI i0*sizeI i1%18446744073709551616=(wd (sizeI i0*sizeI i1)).lo:=congrArg Wd.lo ew
   have ok:=wd_ok (sizeI i0*sizeI i1)
   unfold Wd.ok at ok
   repeat' (first|exact trivial|(with_reducible first|exact hp0|exact hp1|exact hp0.1|exact hp0.2|exact hp1.1|exact hp1.2|exact z0|exact z1|exact z0.1|exact z0.2|exact z1.1|exact z1.2|exact ok|exact ok.1|exact ok.2)|refine ⟨?_, ?_⟩|intro _)
   all_goals first|(with_reducible first|apply qa|apply qb|apply qc|apply qd)|(conv=>whnf)
   all_goals first|(rw [eh,m2 ‹_›];done)|(rw [el,m2 ‹_›];done)|(rw [ew,wd_nn mr (m1 ‹_›)];done)|(rw [eh];first|exact ok.1.1|exact ok.1.2|exact ok.1|exact ok)|exact mr2.2.1|exact mr2.2.2|exact mr2.2
 . cases h
theorem hi_lt {a b m:Int} (ha:0<=a/\ a<m) (hb:0<=b/\ b<18446744073709551616):a*b/18446744073709551616<m:=by
 have h:a*b<=(m-1)*b:=Int.mul_le_mul_of_nonneg_right (by omega) hb.1
 have h2:(m-1)*b<=(m-1)*(18446744073709551616-1):=Int.mul_le_mul_of_nonneg_left (by omega) (by omega)
 generalize a*b=p at*
 generalize (m-1)*b=q at*
 omega
theorem mul_r {a b:Int} (ha:0<=a/\ a<18446744073709551616) (hb:0<=b/\ b<18446744073709551616):(0<=a*b/18446744073709551616/\ a*b/18446744073709551616<18446744073709551616)/\ (0<=a*b%18446744073709551616/\ a*b%18446744073709551616<18446744073709551616)/\ a*b/18446744073709551616*18446744073709551616+a*b%18446744073709551616=a*b:=by
 have h:=Int.mul_nonneg ha.1 hb.1
 have h1:a*b<=(18446744073709551616-1)*(18446744073709551616-1):=Int.mul_le_mul (by omega) (by omega) hb.1 (by decide)
 generalize a*b=p at*
 omega
def FCTimes:List Ar->Option Rs
 | [.c (.d (.v (.int .u64 u0))),.c (.d (.v (.int .u64 u1))),.c (.d (.v (.int .u64 u2)))]=>some ⟨(0<=u0/\ u0<18446744073709551616)/\ (0<=u1/\ u1<18446744073709551616)/\ (0<=u2/\ u2<18446744073709551616)/\ (u0<u2),.va (.c (.d (ut (u0*u1%u2)))),[]⟩
 |_=>none
theorem fcCTimes:FC Tryz.prog 135 FCTimes:=by
 intro xs pre r us h hp
 unfold FCTimes at h
 split at h
 . rename_i u0 u1 u2
   cases h
   obtain ⟨hp0,hp1,hp2,hp3⟩:=hp
   refine fcat tys_ok (l:= [(133,⟨[],FMul64⟩),(161,⟨[],FDiv64⟩)]) ⟨fcMul64,fcDiv64,trivial⟩ Tryz.func135 rfl (by kernel_rfl) false ?_
   have hh:=hi_lt (a:=u0) (b:=u1) (m:=u2) (by omega) hp1
   obtain ⟨mr,mr1,mr2⟩:=mul_r hp0 hp1
   repeat' (first|exact trivial|(with_reducible first|exact hp0|exact hp1|exact hp2|exact hh|exact mr|exact mr1|exact mr.1|exact mr.2|exact mr1.1|exact mr1.2)|refine ⟨?_, ?_⟩|intro _)
   all_goals first|(with_reducible first|apply qa|apply qb|apply qc|apply qd)|(conv=>whnf)
   all_goals first|(rw [mr2];done)|exact hp2
 . cases h
abbrev st (s:ByteArray):DV:= .v (.string s)
def gT:List DV->ByteArray
 | [.v (.string s)]=>s
 |_=>ByteArray.empty
def gN (n:Nat) (f:Nat->List DV):List ByteArray:=(List.range n).map fun i=>gT (f i)
def atS (l:List ByteArray) (i:Nat):ByteArray:=l.getD i ByteArray.empty
abbrev lst (l:List ByteArray):DV:= .lst 1 l.length fun i=> [st (atS l i)]
structure Ns where
 null:Bool
 names:List ByteArray
abbrev Ns.ar (s:Ns):Ar:= .agg [.d (bo s.null),.d (lst s.names)]
theorem gN_add (i:Nat) (f:Nat->List DV):gN (i+1) f=gN i f++ [gT (f i)]:=by simp [gN,List.range_succ]
theorem gN_length (n:Nat) (f:Nat->List DV):(gN n f).length=n:=by simp [gN]
theorem gN_canon (n:Nat) (f:Nat->List DV):(gN n fun i=> [st (gT (f i))])=gN n f:=rfl
theorem gN_lst (l:List ByteArray):gN l.length (fun i=> [st (atS l i)])=l:=by
 unfold gN atS
 apply List.ext_getElem
 . simp
 . intro i h1 h2;simp [gT,h2]
def slt (a b:ByteArray):Bool:=Op.bytesLess a.toList b.toList
def sle (a b:ByteArray):Bool:=Op.bytesLess a.toList b.toList||a.toList==b.toList
def seq (a b:ByteArray):Bool:=a.toList==b.toList
def stepP (x:ByteArray) (s:List ByteArray×Bool) (y:ByteArray):List ByteArray×Bool:=
 if !s.2&&sle x y then (if slt x y then s.1++ [x]++ [y] else s.1++ [y],true) else (s.1++ [y],s.2)
def putS (l:List ByteArray) (x:ByteArray):List ByteArray:=
 if (l.foldl (stepP x) ([],false)).2 then (l.foldl (stepP x) ([],false)).1 else (l.foldl (stepP x) ([],false)).1++ [x]
theorem stepP_in {x y:ByteArray} {out:List ByteArray}:stepP x (out,true) y=(out++ [y],true):=rfl
theorem stepP_lt {x y:ByteArray} {out:List ByteArray} (h1:sle x y=true) (h2:slt x y=true):stepP x (out,false) y=(out++ [x]++ [y],true):=by unfold stepP;simp [h1,h2]
theorem stepP_eq {x y:ByteArray} {out:List ByteArray} (h1:sle x y=true) (h2:slt x y=false):stepP x (out,false) y=(out++ [y],true):=by unfold stepP;simp [h1,h2]
theorem stepP_gt {x y:ByteArray} {out:List ByteArray} (h1:sle x y=false):stepP x (out,false) y=(out++ [y],false):=by unfold stepP;simp [h1]
theorem appRow_snoc {l:List ByteArray} {n:Nat} (hn:l.length=n) {F g:Nat->List DV} {y:ByteArray} (hF: ∀j,j<n->F j= [st (atS l j)]) (hg:g 0= [st y]) (i:Nat) (hi:i<n+1):appRow n F g i= [st (atS (l++ [y]) i)]:=by
 unfold appRow
 by_cases h:i<n
 . rw [if_pos h,hF i h];simp [atS,List.getD_eq_getElem?_getD,List.getElem?_append_left (show i<l.length by omega)]
 . have:i=n:=by omega
   subst this
   subst hn
   rw [if_neg (by omega),Nat.sub_self,hg];simp [atS]
def cleanS (l:List ByteArray):List ByteArray:=l.foldl putS []
theorem seq_iff (a b:ByteArray):(a.toList==b.toList)=decide (a=b):=by
 rw [ByteArray.toList_eq,ByteArray.toList_eq]
 rw [Bool.eq_iff_iff]
 simp only [beq_iff_eq,decide_eq_true_eq]
 constructor
 . intro h
   have:a.data=b.data:=Array.ext' h
   cases a;cases b;simp_all
 . rintro rfl;rfl
theorem gN_mem {n:Nat} {f:Nat->List DV} {x:ByteArray}:x∈gN n f↔ ∃i,i<n/\ gT (f i)=x:=by simp [gN]
def memS (x:ByteArray) (l:List ByteArray):Bool:=l.any fun y=>decide (x=y)
theorem memS_iff {x:ByteArray} {l:List ByteArray}:memS x l=true↔x∈l:=by
 unfold memS;simp
def ixS (l:List ByteArray) (x:ByteArray):Int:=if memS x l=true then (l.findIdx fun y=>decide (x=y):Nat) else-1
def subS (l m:List ByteArray):Bool:=l.all fun x=>memS x m
theorem ixS_no {n:Nat} {f:Nat->List DV} {x:ByteArray} (h: ∀j,j<n-> ¬x=gT (f j)):(-1:Int)=ixS (gN n f) x:=by
 unfold ixS
 rw [if_neg]
 rw [memS_iff,gN_mem]
 rintro ⟨i,hi,e⟩
 exact h i hi e.symm
theorem ixS_at {n i:Nat} {f:Nat->List DV} {x:ByteArray} (h: ∀j,j<i-> ¬x=gT (f j)) (hi:i<n) (he:x=gT (f i)):(i:Int)=ixS (gN n f) x:=by
 unfold ixS
 rw [if_pos (memS_iff.2 (gN_mem.2 ⟨i,hi,he.symm⟩))]
 have hl:i<(gN n f).length:=by rw [gN_length];exact hi
 have hg: ∀j (hj:j<(gN n f).length),(gN n f)[j]=gT (f j):=fun j hj=>by simp [gN]
 have:(gN n f).findIdx (fun y=>decide (x=y))=i:=by
  rw [List.findIdx_eq hl]
  refine ⟨by rw [hg i hl];simpa using he,fun j hj=> ?_⟩
  rw [hg j (by omega)];simpa using h j hj
 rw [this]
theorem ixS_ge {l:List ByteArray} {x:ByteArray}:decide (ixS l x≥0)=memS x l:=by
 unfold ixS
 split
 . rename_i h;simp [h]
 . rename_i h;simp [h]
theorem not_step {i:Nat} {f:Nat->List DV} {x:ByteArray} (k: ∀j,j<i-> ¬x=gT (f j)) (h: ¬x=gT (f i)) (j:Nat) (hj:j<i+1): ¬x=gT (f j):=by
 rcases Nat.lt_or_ge j i with h1|h1
 . exact k j h1
 . have:j=i:=by omega
   subst this
   exact h
theorem subS_no {n i:Nat} {f:Nat->List DV} {m:List ByteArray} {p:Bool} (hi:i<n) (h:(!memS (gT (f i)) m)=true):Value.bool false=Value.bool (p&&subS (gN n f) m):=by
 have:subS (gN n f) m=false:=by
  unfold subS
  rw [List.all_eq_false]
  exact ⟨gT (f i),gN_mem.2 ⟨i,hi,rfl⟩,by simpa using h⟩
 rw [this];simp
theorem subS_yes {n:Nat} {f:Nat->List DV} {m:List ByteArray} {b0 b1:Bool} (h0:b0=true->b1=true) (h: ∀j,j<n->gT (f j)∈m):Value.bool true=Value.bool ((!b0||b1)&&subS (gN n f) m):=by
 have:subS (gN n f) m=true:=by
  unfold subS
  rw [List.all_eq_true]
  intro x hx
  obtain ⟨i,hi,rfl⟩:=gN_mem.1 hx
  exact memS_iff.2 (h i hi)
 rw [this]
 cases b0<;>simp_all
theorem in_step {i:Nat} {f:Nat->List DV} {m:List ByteArray} (k: ∀j,j<i->gT (f j)∈m) (h:(!memS (gT (f i)) m)=false) (j:Nat) (hj:j<i+1):gT (f j)∈m:=by
 rcases Nat.lt_or_ge j i with h1|h1
 . exact k j h1
 . have:j=i:=by omega
   subst this
   exact memS_iff.1 (by simpa using h)
def FNIndex:List Ar->Option Rs
 | [.c (.d (.lst 1 n0 f0)),.c (.d (.v (.string x1)))]=>some ⟨(n0*16<=140737488351232/\ ∀i,i<n0->f0 i= [st (gT (f0 i))]),.va (.c (.d (it (ixS (gN n0 f0) x1)))),[]⟩
 |_=>none
theorem fcNIndex:FC Tryz.prog 138 FNIndex:=by
 intro xs pre r us h hp
 unfold FNIndex at h
 split at h
 . rename_i n0 f0 x1
   cases h
   have hp0:=hp
   refine FCat.of_eq (as':= [.c (.d (.lst 1 n0 fun i=> [st (gT (f0 i))])),.c (.d (.v (.string x1)))]) ?_ rfl rfl ?_
   . repeat' (first|exact trivial|exact rfl|refine ⟨?_, ?_⟩|fail)
     all_goals first|exact hp0.2|exact hp1.2|exact hp2.2|(intro i hi;exact (hp0.2 i hi).1)|(intro i hi;exact (hp1.2 i hi).1)|(intro i hi;exact (hp2.2 i hi).1)|grind
   refine fcat tys_ok (l:= []) trivial Tryz.func138 rfl (by kernel_rfl) false ?_
   repeat' (first|exact trivial|refine ⟨?_, ?_⟩|intro _)
   all_goals first|(with_reducible first|apply qa|apply qb|apply qc|apply qd)|(conv=>whnf)
   refine loop_ids tys_ok (l:= []) trivial (by kernel_rfl) (X:=Nat)
    (fun x=>⟨[(8,vx (.int .i64 x)),(7,vx (.int .i64 n0)),(0,.va (.c (.d (.lst 1 n0 fun i=> [st (gT (f0 i))])))),(1,vx (.string x1))],[],0,19⟩)
    (fun x=>n0-x) (fun x=>x<=n0/\ ∀j,j<x-> ¬x1=gT (f0 j)) [] []
    (fun x _ _=>x+1) (fun _=> []) [] 0 0 0 ?_ ?_ ?_
   . exact ⟨Nat.zero_le _,fun j h=>absurd h (Nat.not_lt_zero _)⟩
   . repeat' (first|exact trivial|exact rfl|(intro _ h;exact absurd h (Nat.not_lt_zero _))|(intro _ _;exact rfl)|refine ⟨?_, ?_⟩|fail)
   . rintro i ⟨k1,k2⟩
     repeat' (first|exact trivial|refine ⟨?_, ?_⟩|intro _)
     all_goals first|(with_reducible first|apply qa|apply qb|apply qc|apply qd)|(conv=>whnf)
     all_goals (try simp only [Int.toNat_natCast,decide_eq_true_eq,decide_eq_false_iff_not,seq_iff,gN_canon] at*)
     all_goals first|omega|((with_reducible show idsOk _ _=true);rfl)|((with_reducible show Value.int _ _=Value.int _ _);rw [wI_id _ (by omega) (by omega)];rfl)|(rw [<-ixS_no (fun j hj=>k2 j (by omega))])|(rw [<-ixS_at k2 (by omega) (by assumption)])|(exact absurd (by assumption) (not_step k2 (by assumption) _ ‹_<i+1›))|rfl
 . cases h
def FNContains:List Ar->Option Rs
 | [.c (.d (.lst 1 n0 f0)),.c (.d (.v (.string x1)))]=>some ⟨(n0*16<=140737488351232/\ ∀i,i<n0->f0 i= [st (gT (f0 i))]),.va (.c (.d (bo (memS x1 (gN n0 f0))))),[]⟩
 |_=>none
theorem fcNContains:FC Tryz.prog 97 FNContains:=by
 intro xs pre r us h hp
 unfold FNContains at h
 split at h
 . rename_i n0 f0 x1
   cases h
   have hp0:=hp
   refine FCat.of_eq (as':= [.c (.d (.lst 1 n0 fun i=> [st (gT (f0 i))])),.c (.d (.v (.string x1)))]) ?_ rfl rfl ?_
   . repeat' (first|exact trivial|exact rfl|refine ⟨?_, ?_⟩|fail)
     all_goals first|exact hp0.2|exact hp1.2|exact hp2.2|(intro i hi;exact (hp0.2 i hi).1)|(intro i hi;exact (hp1.2 i hi).1)|(intro i hi;exact (hp2.2 i hi).1)|grind
   refine fcat tys_ok (l:= [(138,⟨[],FNIndex⟩)]) ⟨fcNIndex,trivial⟩ Tryz.func97 rfl (by kernel_rfl) false ?_
   repeat' (first|exact trivial|refine ⟨?_, ?_⟩|intro _)
   all_goals first|(with_reducible first|apply qa|apply qb|apply qc|apply qd)|(conv=>whnf)
   all_goals first|(rw [gN_canon,ixS_ge])|omega|rfl|(exact hp0.1)
 . cases h
def FNLeq:List Ar->Option Rs
 | [.agg [.d (.v (.bool b0)),.d (.lst 1 n0 f0)],.agg [.d (.v (.bool b1)),.d (.lst 1 n1 f1)]]=>some ⟨(n0*16<=140737488351232/\ ∀i,i<n0->f0 i= [st (gT (f0 i))])/\ (n1*16<=140737488351232/\ ∀i,i<n1->f1 i= [st (gT (f1 i))]),.va (.c (.d (bo ((!b0||b1)&&subS (gN n0 f0) (gN n1 f1))))),[]⟩
 |_=>none
theorem fcNLeq:FC Tryz.prog 46 FNLeq:=by
 intro xs pre r us h hp
 unfold FNLeq at h
 split at h
 . rename_i b0 n0 f0 b1 n1 f1
   cases h
   obtain ⟨hp0,hp1⟩:=hp
   refine FCat.of_eq (as':= [.agg [.d (.v (.bool b0)),.d (.lst 1 n0 fun i=> [st (gT (f0 i))])],.agg [.d (.v (.bool b1)),.d (.lst 1 n1 fun i=> [st (gT (f1 i))])]]) ?_ rfl rfl ?_
   . repeat' (first|exact trivial|exact rfl|refine ⟨?_, ?_⟩|fail)
     all_goals first|exact hp0.2|exact hp1.2|exact hp2.2|(intro i hi;exact (hp0.2 i hi).1)|(intro i hi;exact (hp1.2 i hi).1)|(intro i hi;exact (hp2.2 i hi).1)|grind
   refine fcat tys_ok (l:= [(97,⟨[],FNContains⟩)]) ⟨fcNContains,trivial⟩ Tryz.func46 rfl (by kernel_rfl) false ?_
   repeat' (first|exact trivial|refine ⟨?_, ?_⟩|intro _)
   all_goals first|(with_reducible first|apply qa|apply qb|apply qc|apply qd)|(conv=>whnf)
   all_goals first|((with_reducible show ASat _ _ _ _ _);skip)|(simp_all;done)
   all_goals (have hb:b0=true->b1=true:=(by intro e;simp_all))
   all_goals (
    refine loop_ids tys_ok (l:= [(97,⟨[],FNContains⟩)]) ⟨fcNContains,trivial⟩ (by kernel_rfl) (X:=Nat)
     (fun x=>⟨[(17,vx (.int .i64 x)),(16,vx (.int .i64 n0)),(15,.va (.c (.d (.lst 1 n0 fun i=> [st (gT (f0 i))])))),(3,.va (.c (.own 1 0)))],[(1,.cells [.d (bo b1),.d (.lst 1 n1 fun i=> [st (gT (f1 i))])])],2,27⟩)
     (fun x=>n0-x) (fun x=>x<=n0/\ ∀j,j<x->gT (f0 j)∈gN n1 f1) [] []
     (fun x _ _=>x+1) (fun _=> [0,1]) [0,1] 0 0 0 ?_ ?_ ?_
    . exact ⟨Nat.zero_le _,fun j h=>absurd h (Nat.not_lt_zero _)⟩
    . repeat' (first|exact trivial|exact rfl|(intro _ h;exact absurd h (Nat.not_lt_zero _))|(intro _ _;exact rfl)|refine ⟨?_, ?_⟩|fail)
    . rintro i ⟨k1,k2⟩
      repeat' (first|exact trivial|refine ⟨?_, ?_⟩|intro _)
      all_goals first|(with_reducible first|apply qa|apply qb|apply qc|apply qd)|(conv=>whnf)
      all_goals (try simp only [Int.toNat_natCast,decide_eq_true_eq,decide_eq_false_iff_not,seq_iff,gN_canon] at*)
      all_goals first|omega|((with_reducible show idsOk _ _=true);rfl)|((with_reducible show Value.int _ _=Value.int _ _);rw [wI_id _ (by omega) (by omega)];rfl)|(exact subS_no (i:=i) (by omega) (by assumption))|(exact subS_yes hb (fun j hj=>k2 j (by omega)))|(exact in_step k2 (by assumption) _ (by assumption))|rfl)
 . cases h
end Go.Proofs.YtehpbhpmkhlldaaGreat
namespace Go.Proofs
open Go.Shelf
def Tryz.lays213_ren:Go.Shelf.Ren:=⟨fun|213=>160|265=>188|n=>n,fun|9=>9|3=>3|n=>n,fun|n=>n⟩
open Go.RowKit in
def Tryz.lays106_ren:Go.Shelf.Ren:=⟨fun|106=>127|213=>160|265=>188|n=>n,fun|9=>9|3=>3|n=>n,fun|n=>n⟩
theorem Tryz.lays106:Go.Proofs.Lays.n106 Tryz.prog Tryz.lays106_ren:={
 mixed:=by kernel_rfl
 f106:=Tryz.func127.trans (congrArg some (by kernel_rfl))
 f213:=Tryz.func160.trans (congrArg some (by kernel_rfl))
 f265:=Tryz.func188.trans (congrArg some (by kernel_rfl))
 t3:=Tryz.underlying3
 a3:=Tryz.isAgg3
 z3:=Tryz.sizeOf3
 v3:=Tryz.zeroValue3
 t9:=Tryz.underlying9
 a9:=Tryz.isAgg9
 z9:=Tryz.sizeOf9
 v9:=Tryz.zeroValue9}
open Go.RowKit in
theorem Tryz.strings_Compare (a b:ByteArray) (w:World):
 Calls Tryz.prog 127 #[.string a,.string b] w fun e w'=>e= .returned (.int .i64 (Lib.compareBytes a.data.toList b.data.toList))/\ w'=w:=Any.strings_Compare Tryz.lays106 a b w
def Tryz.lays194_ren:Go.Shelf.Ren:=⟨fun|194=>128|n=>n,fun|31=>26|9=>9|3=>3|4=>4|0=>0|n=>n,fun|n=>n⟩
theorem Tryz.lays194:Go.Proofs.Lays.n194 Tryz.prog Tryz.lays194_ren:={
 mixed:=by kernel_rfl
 f194:=Tryz.func128.trans (congrArg some (by kernel_rfl))
 t0:=Tryz.underlying0
 a0:=Tryz.isAgg0
 z0:=Tryz.sizeOf0
 v0:=Tryz.zeroValue0
 t3:=Tryz.underlying3
 a3:=Tryz.isAgg3
 z3:=Tryz.sizeOf3
 v3:=Tryz.zeroValue3
 t4:=Tryz.underlying4
 a4:=Tryz.isAgg4
 z4:=Tryz.sizeOf4
 v4:=Tryz.zeroValue4
 t9:=Tryz.underlying9
 a9:=Tryz.isAgg9
 z9:=Tryz.sizeOf9
 v9:=Tryz.zeroValue9
 t31:=Tryz.underlying26
 a31:=Tryz.isAgg26
 z31:=Tryz.sizeOf26
 v31:=Tryz.zeroValue26}
open Go.RowKit Go.Lib Go.Sort in
open Go.RowKit Go.Lib Go.Sort in
theorem Tryz.slices_Compact_string (blk off cap:Nat) (zs:List (List UInt8)) (w:World) (hH:Holds encStr w blk off zs.toArray) (hsz:zs.length<=9223372036854775807) (hcap:zs.length<=cap):
 Calls Tryz.prog 128 #[.slice (some ⟨blk,off,none⟩) zs.length cap] w fun e w'=>e= .returned (.slice (some ⟨blk,off,none⟩) (Lib.compact zs).length cap)/\ ∃q,w'=putRow encStr (Sort.ahead w q) blk off (Lib.compact zs++List.replicate (zs.length-(Lib.compact zs).length) []).toArray:=Any.slices_Compact_string Tryz.lays194 blk off cap zs w hH hsz hcap
open Go.RowKit Go.Lib Go.Sort in
theorem Tryz.slices_Compact_string_empty (a:Option Addr) (cap:Nat) (w:World):
 Calls Tryz.prog 128 #[.slice a 0 cap] w fun e w'=>e= .returned (.slice a 0 cap)/\ w'=w:=Any.slices_Compact_string_empty Tryz.lays194 a cap w
open Go.RowKit Go.Lib Go.Sort in
open Go.RowKit Go.Lib Go.Sort in
def Tryz.laysSlF06_f82_ren:Go.Shelf.Ren:=⟨fun|6=>125|15=>159|14=>158|28=>186|29=>187|20=>178|21=>179|22=>180|23=>181|24=>182|25=>183|26=>184|27=>185|46=>191|47=>192|48=>193|49=>194|50=>195|57=>196|n=>n,fun|22=>26|24=>9|25=>136|3=>3|39=>158|0=>0|53=>176|55=>41|4=>4|46=>170|45=>169|50=>39|5=>5|9=>9|66=>182|70=>186|76=>188|77=>52|n=>n,fun|n=>n⟩
theorem Tryz.laysSlF06_f82:Go.Proofs.SlLaysF0.n6 Tryz.prog Tryz.laysSlF06_f82_ren:={
 mixed:=by kernel_rfl
 f6:=⟨Tryz.f125.name,by decide,Tryz.func125.trans (congrArg some (by kernel_rfl))⟩
 f14:=⟨Tryz.f158.name,by decide,Tryz.func158.trans (congrArg some (by kernel_rfl))⟩
 f15:=Tryz.func159.trans (congrArg some (by kernel_rfl))
 f20:=⟨Tryz.f178.name,by decide,Tryz.func178.trans (congrArg some (by kernel_rfl))⟩
 f21:=⟨Tryz.f179.name,by decide,Tryz.func179.trans (congrArg some (by kernel_rfl))⟩
 f22:=⟨Tryz.f180.name,by decide,Tryz.func180.trans (congrArg some (by kernel_rfl))⟩
 f23:=⟨Tryz.f181.name,by decide,Tryz.func181.trans (congrArg some (by kernel_rfl))⟩
 f24:=⟨Tryz.f182.name,by decide,Tryz.func182.trans (congrArg some (by kernel_rfl))⟩
 f25:=⟨Tryz.f183.name,by decide,Tryz.func183.trans (congrArg some (by kernel_rfl))⟩
 f26:=⟨Tryz.f184.name,by decide,Tryz.func184.trans (congrArg some (by kernel_rfl))⟩
 f27:=⟨Tryz.f185.name,by decide,Tryz.func185.trans (congrArg some (by kernel_rfl))⟩
 f28:=Tryz.func186.trans (congrArg some (by kernel_rfl))
 f29:=Tryz.func187.trans (congrArg some (by kernel_rfl))
 f46:=⟨Tryz.f191.name,by decide,Tryz.func191.trans (congrArg some (by kernel_rfl))⟩
 f47:=Tryz.func192.trans (congrArg some (by kernel_rfl))
 f48:=Tryz.func193.trans (congrArg some (by kernel_rfl))
 f49:=⟨Tryz.f194.name,by decide,Tryz.func194.trans (congrArg some (by kernel_rfl))⟩
 f50:=⟨Tryz.f195.name,by decide,Tryz.func195.trans (congrArg some (by kernel_rfl))⟩
 f57:=⟨Tryz.f196.name,by decide,Tryz.func196.trans (congrArg some (by kernel_rfl))⟩
 t0:=Tryz.underlying0
 a0:=Tryz.isAgg0
 z0:=Tryz.sizeOf0
 v0:=Tryz.zeroValue0
 t3:=Tryz.underlying3
 a3:=Tryz.isAgg3
 z3:=Tryz.sizeOf3
 v3:=Tryz.zeroValue3
 t4:=Tryz.underlying4
 a4:=Tryz.isAgg4
 z4:=Tryz.sizeOf4
 v4:=Tryz.zeroValue4
 t5:=Tryz.underlying5
 a5:=Tryz.isAgg5
 z5:=Tryz.sizeOf5
 v5:=Tryz.zeroValue5
 t9:=Tryz.underlying9
 a9:=Tryz.isAgg9
 z9:=Tryz.sizeOf9
 v9:=Tryz.zeroValue9
 t22:=Tryz.underlying26
 a22:=Tryz.isAgg26
 z22:=Tryz.sizeOf26
 v22:=Tryz.zeroValue26
 t25:=Tryz.underlying136
 a25:=Tryz.isAgg136
 z25:=Tryz.sizeOf136
 v25:=Tryz.zeroValue136
 t39:=Tryz.underlying158
 a39:=Tryz.isAgg158
 z39:=Tryz.sizeOf158
 v39:=Tryz.zeroValue158
 t45:=Tryz.underlying169
 a45:=Tryz.isAgg169
 z45:=Tryz.sizeOf169
 v45:=Tryz.zeroValue169
 t46:=Tryz.underlying170
 a46:=Tryz.isAgg170
 z46:=Tryz.sizeOf170
 v46:=Tryz.zeroValue170
 t50:=Tryz.underlying39
 a50:=Tryz.isAgg39
 z50:=Tryz.sizeOf39
 v50:=Tryz.zeroValue39
 t53:=Tryz.underlying176
 a53:=Tryz.isAgg176
 z53:=Tryz.sizeOf176
 v53:=Tryz.zeroValue176
 t55:=Tryz.underlying41
 a55:=Tryz.isAgg41
 z55:=Tryz.sizeOf41
 v55:=Tryz.zeroValue41
 t66:=Tryz.underlying182
 a66:=Tryz.isAgg182
 z66:=Tryz.sizeOf182
 v66:=Tryz.zeroValue182
 t70:=Tryz.underlying186
 a70:=Tryz.isAgg186
 z70:=Tryz.sizeOf186
 v70:=Tryz.zeroValue186
 t76:=Tryz.underlying188
 a76:=Tryz.isAgg188
 z76:=Tryz.sizeOf188
 v76:=Tryz.zeroValue188
 t77:=Tryz.underlying52
 a77:=Tryz.isAgg52
 z77:=Tryz.sizeOf52
 v77:=Tryz.zeroValue52}
open Go.RowKit Go.Lib Go.Sort in
theorem Tryz.slices_SortFunc_none {α:Type} [Inhabited α] (p:Option Addr) (cap:Nat) (fv:Value) (w:World):
 Calls Tryz.prog 125 #[.slice p 0 cap,fv] w fun e w'=>e= .returned (.tuple #[])/\ w'=w:=AnyF.slices_SortFunc_none Tryz.laysSlF06_f82 p cap fv w
def Tryz.laysSlF6_f82_ren:Go.Shelf.Ren:=⟨fun|6=>125|15=>159|14=>158|28=>186|29=>187|20=>178|21=>179|22=>180|23=>181|24=>182|25=>183|26=>184|27=>185|46=>191|47=>192|48=>193|49=>194|50=>195|57=>196|n=>n,fun|22=>26|24=>9|25=>136|3=>3|39=>158|0=>0|53=>176|55=>41|4=>4|46=>170|45=>169|50=>39|5=>5|9=>9|66=>182|70=>186|76=>188|77=>52|n=>n,fun|n=>n⟩
theorem Tryz.laysSlF6_f82:Go.Proofs.SlLaysF.n6 Tryz.prog Tryz.laysSlF6_f82_ren:={
 mixed:=by kernel_rfl
 f6:=⟨Tryz.f125.name,by decide,Tryz.func125.trans (congrArg some (by kernel_rfl))⟩
 f14:=⟨Tryz.f158.name,by decide,Tryz.func158.trans (congrArg some (by kernel_rfl))⟩
 f15:=Tryz.func159.trans (congrArg some (by kernel_rfl))
 f20:=⟨Tryz.f178.name,by decide,Tryz.func178.trans (congrArg some (by kernel_rfl))⟩
 f21:=⟨Tryz.f179.name,by decide,Tryz.func179.trans (congrArg some (by kernel_rfl))⟩
 f22:=⟨Tryz.f180.name,by decide,Tryz.func180.trans (congrArg some (by kernel_rfl))⟩
 f23:=⟨Tryz.f181.name,by decide,Tryz.func181.trans (congrArg some (by kernel_rfl))⟩
 f24:=⟨Tryz.f182.name,by decide,Tryz.func182.trans (congrArg some (by kernel_rfl))⟩
 f25:=⟨Tryz.f183.name,by decide,Tryz.func183.trans (congrArg some (by kernel_rfl))⟩
 f26:=⟨Tryz.f184.name,by decide,Tryz.func184.trans (congrArg some (by kernel_rfl))⟩
 f27:=⟨Tryz.f185.name,by decide,Tryz.func185.trans (congrArg some (by kernel_rfl))⟩
 f28:=Tryz.func186.trans (congrArg some (by kernel_rfl))
 f29:=Tryz.func187.trans (congrArg some (by kernel_rfl))
 f46:=⟨Tryz.f191.name,by decide,Tryz.func191.trans (congrArg some (by kernel_rfl))⟩
 f47:=Tryz.func192.trans (congrArg some (by kernel_rfl))
 f48:=Tryz.func193.trans (congrArg some (by kernel_rfl))
 f49:=⟨Tryz.f194.name,by decide,Tryz.func194.trans (congrArg some (by kernel_rfl))⟩
 f50:=⟨Tryz.f195.name,by decide,Tryz.func195.trans (congrArg some (by kernel_rfl))⟩
 f57:=⟨Tryz.f196.name,by decide,Tryz.func196.trans (congrArg some (by kernel_rfl))⟩
 t0:=Tryz.underlying0
 a0:=Tryz.isAgg0
 z0:=Tryz.sizeOf0
 v0:=Tryz.zeroValue0
 t3:=Tryz.underlying3
 a3:=Tryz.isAgg3
 z3:=Tryz.sizeOf3
 v3:=Tryz.zeroValue3
 t4:=Tryz.underlying4
 a4:=Tryz.isAgg4
 z4:=Tryz.sizeOf4
 v4:=Tryz.zeroValue4
 t5:=Tryz.underlying5
 a5:=Tryz.isAgg5
 z5:=Tryz.sizeOf5
 v5:=Tryz.zeroValue5
 t9:=Tryz.underlying9
 a9:=Tryz.isAgg9
 z9:=Tryz.sizeOf9
 v9:=Tryz.zeroValue9
 t22:=Tryz.underlying26
 a22:=Tryz.isAgg26
 z22:=Tryz.sizeOf26
 v22:=Tryz.zeroValue26
 a24:=Tryz.isAgg9
 z24:=Tryz.sizeOf9
 t25:=Tryz.underlying136
 a25:=Tryz.isAgg136
 z25:=Tryz.sizeOf136
 v25:=Tryz.zeroValue136
 t39:=Tryz.underlying158
 a39:=Tryz.isAgg158
 z39:=Tryz.sizeOf158
 v39:=Tryz.zeroValue158
 t45:=Tryz.underlying169
 a45:=Tryz.isAgg169
 z45:=Tryz.sizeOf169
 v45:=Tryz.zeroValue169
 t46:=Tryz.underlying170
 a46:=Tryz.isAgg170
 z46:=Tryz.sizeOf170
 v46:=Tryz.zeroValue170
 t50:=Tryz.underlying39
 a50:=Tryz.isAgg39
 z50:=Tryz.sizeOf39
 v50:=Tryz.zeroValue39
 t53:=Tryz.underlying176
 a53:=Tryz.isAgg176
 z53:=Tryz.sizeOf176
 v53:=Tryz.zeroValue176
 t55:=Tryz.underlying41
 a55:=Tryz.isAgg41
 z55:=Tryz.sizeOf41
 v55:=Tryz.zeroValue41
 t66:=Tryz.underlying182
 a66:=Tryz.isAgg182
 z66:=Tryz.sizeOf182
 v66:=Tryz.zeroValue182
 t70:=Tryz.underlying186
 a70:=Tryz.isAgg186
 z70:=Tryz.sizeOf186
 v70:=Tryz.zeroValue186
 t76:=Tryz.underlying188
 a76:=Tryz.isAgg188
 z76:=Tryz.sizeOf188
 v76:=Tryz.zeroValue188
 t77:=Tryz.underlying52
 a77:=Tryz.isAgg52
 z77:=Tryz.sizeOf52
 v77:=Tryz.zeroValue52}
open Go.RowKit Go.Lib Go.Sort in
theorem Tryz.slices_SortFunc_total {α:Type} [Inhabited α] (enc:α->Value) (h1:OneCell enc) (cf:α->α->Int) (hO:SWO (ltOf cf)) (g:Nat) (cb:Array Value) (blk off cap:Nat) (d:Array α) (w:World) (eg: ∀args w,(callFunc g args).run Tryz.prog w= .ok (.enter g args) w) (hcmp:CmpLays1 Tryz.prog g cb enc cf blk off d.size w) (hH:Holds enc w blk off d) (hblk:blk<w.heap.size) (hsz:d.size<4611686018427387904) (hT: ∀x y,(ltOf cf) x y=false->(ltOf cf) y x=false->x=y):
 Calls Tryz.prog 125 #[.slice (some ⟨blk,off,none⟩) d.size cap,.func (.func g) #[] cb] w fun e w'=>
  e= .returned (.tuple #[])/\ ∃n os,w'=sortWorld enc w blk off n (d.toList.mergeSort fun x y=> !(ltOf cf) y x).toArray os:=Any.slices_SortFunc_total Tryz.laysSlF6_f82 enc h1 cf hO g cb blk off cap d w eg hcmp hH hblk hsz hT
end Go.Proofs
namespace Go.Proofs.YtehpbhpmkhlldaaGreat
open Go.Sx
open Go.RowKit Go.Lib Go.Sort
section
variable {P:Program} {base:Nat} {ψ:Psi} {S:Nat→Prop} {w:World} {a:Act}
theorem Rel.put {α:Type} [Inhabited α] (enc:α->Value) (hsc: ∀x,Scalar (enc x)) {ts:List (Nat×Tm)} {h:List (Nat×Blk)} {n m k b mm ln:Nat} {f:Nat->List DV} (hr:Rel P base ψ S w ⟨ts,h,n,m⟩ a) (hψ:ψ k=some (.at b mm))
 (hb:lookB h k= .row 1 ln f) (d:Array α) (hd:d.size<=ln) (q:Nat) (os:Array Obj):
 Rel P base ψ S (Sort.grow (putRow enc (Sort.ahead w q) b 0 d) os) ⟨ts,(k,.row 1 ln (fun i=>if i<d.size then [.v (enc d[i]!)] else f i))::h,n,m⟩ a/\
  Ext base ψ S w ψ S (Sort.grow (putRow enc (Sort.ahead w q) b 0 d) os):=by
 have hbk:=hr.sim.blk k _ hψ
 simp only [hb] at hbk
 obtain ⟨arr,e,g1,g2,g3,g4,g5⟩:=hbk
 have hheap:(putRow enc (Sort.ahead w q) b 0 d).heap=w.heap.modify b (onCells (putCells enc 0 d)):=rfl
 have hnew:(putRow enc (Sort.ahead w q) b 0 d).heap[b]? =some (.cells (putCells enc 0 d arr) e (0,0)):=by
  rw [hheap,Array.getElem?_modify,if_pos rfl,g1];rfl
 obtain ⟨r1,r2⟩:=hr.write (w':=putRow enc (Sort.ahead w q) b 0 d) (blk:= .row 1 ln (fun i=>if i<d.size then [.v (enc d[i]!)] else f i)) hψ (by simp only [hb];trivial) rfl rfl rfl (by rw [hheap];simp)
  (fun b' hb'=>by rw [hheap,Array.getElem?_modify,if_neg (fun h=>hb' h.symm)]) (fun hl=>by
   refine ⟨putCells enc 0 d arr,e,hnew,by simp [putCells,g2],by omega,fun i hi=> ?_,fun i j hi hj=> ?_⟩
   . dsimp only
     split
     . rfl
     . exact g4 i hi
   . have hj0:j=0:=by omega
     subst hj0
     have hlt:i<arr.size:=by omega
     have hget:(putCells enc 0 d arr).getD (i*1+0) undef=if i<d.size then enc d[i]! else arr.getD (i*1+0) undef:=by
      rw [Array.getD_eq_getD_getElem?,Array.getD_eq_getD_getElem?]
      simp only [putCells,Nat.mul_one,Nat.add_zero,Array.getElem?_mapIdx,Array.getElem?_eq_getElem hlt,Option.map_some,Option.getD_some,Nat.zero_le,true_and,Nat.zero_add,Nat.sub_zero]
     rw [hget]
     dsimp only
     split
     . exact .v (hsc _)
     . exact (g5 i 0 hi hj).later hl)
 obtain ⟨r3,r4⟩:=r1.ext0 (S':=S) (w':=Sort.grow (putRow enc (Sort.ahead w q) b 0 d) os) ⟨rfl,rfl,rfl,by simp [Sort.grow],fun b' hb'=>by
  show ((putRow enc (Sort.ahead w q) b 0 d).heap++os)[b']? =_
  rw [Array.getElem?_append_left hb'],fun _ h=>h,fun _ h=> .inl h,fun b' hb'=>by
  have h1:=r1.sim.sdom b' hb'
  have h2:(Sort.grow (putRow enc (Sort.ahead w q) b 0 d) os).heap.size=(putRow enc (Sort.ahead w q) b 0 d).heap.size+os.size:=by simp [Sort.grow]
  omega⟩
 exact ⟨r3,r2.trans r4⟩
theorem row_holds {ts:List (Nat×Tm)} {h:List (Nat×Blk)} {n m k b mm ln len:Nat} {f:Nat->List DV} (hr:Rel P base ψ S w ⟨ts,h,n,m⟩ a) (hψ:ψ k=some (.at b mm))
 (hb:lookB h k= .row 1 ln f) (hle:len<=ln) (hf: ∀i,i<len->f i= [st (gT (f i))]):Holds encStr w b 0 ((gN len f).map fun s=>s.data.toList).toArray:=by
 have hbk:=hr.sim.blk k _ hψ
 simp only [hb] at hbk
 obtain ⟨arr,e,g1,g2,g3,g4,g5⟩:=hbk
 intro j hj
 have hj2:j<len:=by simpa [gN] using hj
 have h5:=g5 j 0 (by omega) (by omega)
 rw [hf j hj2] at h5
 have hlt:j<arr.size:=by omega
 have hv:arr[j]? =some (.string (gT (f j))):=by
  rw [Array.getElem?_eq_getElem hlt]
  have e1:arr.getD (j*1+0) undef=arr[j]:=by rw [Array.getD_eq_getD_getElem?,Nat.mul_one,Nat.add_zero,Array.getElem?_eq_getElem hlt];rfl
  rw [e1] at h5
  generalize arr[j]=v at h5
  have h5:RepD S w (st (gT (f j))) v:=h5
  cases h5
  rfl
 refine ⟨?_, ?_⟩
 . rw [Nat.zero_add,cell_at g1,hv]
   congr 1
   rw [getElem!_pos _ j hj]
   simp [gN,encStr]
 . simp [World.frozen?,g1]
theorem row_lt {ts:List (Nat×Tm)} {h:List (Nat×Blk)} {n m k b mm:Nat} (hr:Rel P base ψ S w ⟨ts,h,n,m⟩ a) (hψ:ψ k=some (.at b mm)):b<w.heap.size:=hr.sim.pdom k b mm hψ
theorem Rel.empty {ts:List (Nat×Tm)} {h:List (Nat×Blk)} {n m k ln:Nat} {f:Nat->List DV} (hr:Rel P base ψ S w ⟨ts,h,n,m⟩ a) (hb:lookB h k= .row 1 ln f) (g:Nat->List DV):
 Rel P base ψ S w ⟨ts,(k,.row 1 ln fun i=>if i<0 then g i else f i)::h,n,m⟩ a:=by
 have e:(fun i=>if i<0 then g i else f i)=f:=by funext i;simp
 rw [e]
 have hlook: ∀j,lookB ((k,.row 1 ln f)::h) j=lookB h j:=by
  intro j
  rw [lookB_cons]
  split
  . rename_i e;subst e;exact hb.symm
  . rfl
 refine ⟨hr.bas,⟨hr.sim.dom,fun j l hj=>by rw [hlook];exact hr.sim.blk j l hj,fun j j' b m1 m2 h1 h2 l1 l2=>hr.sim.inj j j' b m1 m2 h1 h2 (by simpa only [hlook] using l1) (by simpa only [hlook] using l2),
  fun j b m1 h1 l1=>hr.sim.dis j b m1 h1 (by simpa only [hlook] using l1),hr.sim.pdom,hr.sim.sdom⟩,hr.lim,hr.defers,hr.tmps⟩
end
def bS (l:List UInt8):ByteArray:=⟨l.toArray⟩
def cfL (x y:List UInt8):Int:=Lib.compareBytes x y
theorem cfL_lt: ∀(x y:List UInt8),(cfL x y<0)↔x<y
 | [],[]=>by simp [cfL,Lib.compareBytes]
 | [],_::_=>by simp [cfL,Lib.compareBytes]
 |_::_,[]=>by simp [cfL,Lib.compareBytes]
 |a::x,b::y=>by
  have ih:=cfL_lt x y
  unfold cfL at ih⊢
  unfold Lib.compareBytes
  rw [List.cons_lt_cons_iff]
  by_cases h1:a<b
  . simp [h1]
  . by_cases h2:b<a
    . have hne:a≠b:=fun e=>by subst e;exact h1 h2
      simp [h1,h2,hne]
    . have he:a=b:=by
       have h1:=UInt8.not_lt.1 h1
       have h2:=UInt8.not_lt.1 h2
       exact UInt8.le_antisymm h2 h1
      subst he
      simp [h1,ih]
theorem ltOf_cfL (x y:List UInt8):ltOf cfL x y=decide (x<y):=by
 unfold ltOf
 rw [Bool.eq_iff_iff]
 simp only [decide_eq_true_eq]
 exact cfL_lt x y
theorem swoL:SWO (ltOf cfL) where
 irrefl x:=by rw [ltOf_cfL];simpa using List.lt_irrefl x
 trans x y z h1 h2:=by
  rw [ltOf_cfL] at*
  simp only [decide_eq_true_eq] at*
  exact List.lt_trans h1 h2
 ntrans x y z h1 h2:=by
  rw [ltOf_cfL] at*
  simp only [decide_eq_false_iff_not,List.not_lt] at*
  exact List.le_trans h2 h1
theorem totL (x y:List UInt8) (h1:ltOf cfL x y=false) (h2:ltOf cfL y x=false):x=y:=by
 rw [ltOf_cfL] at*
 simp only [decide_eq_false_iff_not,List.not_lt] at*
 exact List.le_antisymm h2 h1
theorem closureOf (x y:List UInt8) (W:World):Calls Tryz.prog 126 #[encStr x,encStr y] W fun e w'=>e= .returned (.int .i64 (cfL x y))/\ ∃q,w'=W.drewN q:=by
 have hcon:=Tryz.strings_Compare (bS x) (bS y) W
 unfold cfL
 have e1:(bS x).data.toList=x:=rfl
 have e2:(bS y).data.toList=y:=rfl
 rw [e1,e2] at hcon
 unfold bS at hcon
 generalize Lib.compareBytes x y=r at hcon⊢
 go_enter Tryz.func126,Tryz.ntmps126
 go_wp2_with (go_at_call 127;refine hcon.mono ?_;rintro e w' ⟨rfl,rfl⟩)
 go_ret
 exact ⟨rfl,0,rfl⟩
def sortL (l:List ByteArray):List (List UInt8):=(l.map fun s=>s.data.toList).mergeSort fun x y=> !(ltOf cfL) y x
theorem sortL_length (l:List ByteArray):(sortL l).length=l.length:=by simp [sortL]
theorem fn_plain {P:Program} {ψ:Psi} {S:Nat->Prop} {w:World} {f:Nat} {v:Value} (h:RepVa P ψ S w (.c (.fn f [])) v):v= .func (.func f) #[] #[]:=by
 obtain ⟨vs,rfl,h⟩:=h
 have:vs= #[]:=by
  apply Array.ext'
  generalize vs.toList=l at h
  cases l with
  |nil=>rfl
  |cons _ _=>exact h.elim
 rw [this]
theorem acall_sort {base:Nat} {k len ln:Nat} {f:Nat->List DV} {ts:List (Nat×Tm)} {h:List (Nat×Blk)} {n m:Nat} {K:Tm->St->Prop} (hb:lookB h k= .row 1 ln f) (hle:len<=ln) (hf: ∀i,i<len->f i= [st (gT (f i))]) (hn:len<4611686018427387904)
 (hk:K (.tup []) ⟨ts,(k,.row 1 ln fun i=>if i<len then [.v (encStr (sortL (gN len f)).toArray[i]!)] else f i)::h,n,m⟩):ACall Tryz.prog base 125 [.c (.osl k 1 0 len),.c (.fn 126 [])] ⟨ts,h,n,m⟩ K:=by
 refine ⟨fun ψ S w a vals hrel hvals=> ?_⟩
 match vals,hvals with
 | [v1,v2],⟨hv1,hv2,_⟩=>
   have hv2:=fn_plain hv2
   subst hv2
   refine .inl ⟨callable_of Tryz.func125 rfl rfl, ?_⟩
   have none0: ∀p c,len=0->v1= .slice p 0 c->Calls Tryz.prog 125 [v1,.func (.func 126) #[] #[]].toArray w fun e w'=> ∃r st' v ψ' S',e= .returned v/\ K r st'/\ Rel Tryz.prog base ψ' S' w' st' a/\ RepT Tryz.prog ψ' S' w' r v/\ Ext base ψ S w ψ' S' w':=by
    intro p c h0 hv
    subst h0;subst hv
    refine (Tryz.slices_SortFunc_none (α:=List UInt8) p c _ w).mono ?_
    rintro e w' ⟨rfl,rfl⟩
    exact ⟨_,_,_,ψ,S,rfl,hk,Rel.empty hrel hb _,⟨#[],rfl,trivial⟩,Ext.refl _ _ _ _⟩
   rcases hv1 with ⟨_,h0,a0,hv⟩|⟨b,mm,c,off,h1,hv,h2,h3⟩
   . exact none0 a0 0 h0 hv
   . by_cases h0:len=0
     . exact none0 (some ⟨b,off,none⟩) c h0 (by rw [hv,h0])
     . obtain ⟨hoff,_⟩:=h3 (by omega)
       have hoff:off=0:=by omega
       subst hoff
       have hsz:((gN len f).map fun s=>s.data.toList).toArray.size=len:=by simp [gN]
       have hH:=row_holds hrel h1 hb hle hf
       have hS:=Tryz.slices_SortFunc_total encStr (fun _=>rfl) cfL swoL 126 #[] b 0 c ((gN len f).map fun s=>s.data.toList).toArray w (enters_of Tryz.func126 (by kernel_rfl) rfl)
        (CmpReads.lays (fun _ _ _ _ x y=>closureOf x y _)) hH (row_lt hrel h1) (by rw [hsz];exact hn) totL
       rw [hsz] at hS
       subst hv
       refine hS.mono ?_
       rintro e w' ⟨rfl,q,os,rfl⟩
       have hd:(((gN len f).map fun s=>s.data.toList).toArray.toList.mergeSort fun x y=> !(ltOf cfL) y x).toArray.size=len:=by simp [gN]
       obtain ⟨r1,r2⟩:=Rel.put encStr (fun _=>trivial) hrel h1 hb (((gN len f).map fun s=>s.data.toList).toArray.toList.mergeSort fun x y=> !(ltOf cfL) y x).toArray (by rw [hd];exact hle) q os
       rw [hd] at r1
       exact ⟨_,_,_,ψ,S,rfl,hk,r1,⟨#[],rfl,trivial⟩,r2⟩
theorem compact_le (zs:List (List UInt8)):(Lib.compact zs).length<=zs.length:=by
 unfold Lib.compact Lib.compactUpTo
 rw [List.length_map]
 exact Nat.le_trans (List.length_filter_le _ _) (by simp)
def compL (l:List ByteArray):List (List UInt8):=Lib.compact (l.map fun s=>s.data.toList)
def compRow (l:List ByteArray):List (List UInt8):=compL l++List.replicate (l.length-(compL l).length) []
theorem acall_compact {base:Nat} {k len ln:Nat} {f:Nat->List DV} {ts:List (Nat×Tm)} {h:List (Nat×Blk)} {n m:Nat} {K:Tm->St->Prop} (hb:lookB h k= .row 1 ln f) (hle:len<=ln) (hf: ∀i,i<len->f i= [st (gT (f i))]) (hn:len<4611686018427387904)
 (hk:K (.va (.c (.osl k 1 0 (compL (gN len f)).length))) ⟨ts,(k,.row 1 ln fun i=>if i<len then [.v (encStr (compRow (gN len f)).toArray[i]!)] else f i)::h,n,m⟩):ACall Tryz.prog base 128 [.c (.osl k 1 0 len)] ⟨ts,h,n,m⟩ K:=by
 refine ⟨fun ψ S w a vals hrel hvals=> ?_⟩
 match vals,hvals with
 | [v1],⟨hv1,_⟩=>
   refine .inl ⟨callable_of Tryz.func128 rfl rfl, ?_⟩
   have hcl:(compL (gN len f)).length<=len:=by
    have:=compact_le ((gN len f).map fun s=>s.data.toList)
    simpa [compL,gN] using this
   have none0: ∀p c,len=0->v1= .slice p 0 c->RepVa Tryz.prog ψ S w (.c (.osl k 1 0 0)) v1->Calls Tryz.prog 128 [v1].toArray w fun e w'=> ∃r st' v ψ' S',e= .returned v/\ K r st'/\ Rel Tryz.prog base ψ' S' w' st' a/\ RepT Tryz.prog ψ' S' w' r v/\ Ext base ψ S w ψ' S' w':=by
    intro p c h0 hv hrep
    subst h0;subst hv
    refine (Tryz.slices_Compact_string_empty p c w).mono ?_
    rintro e w' ⟨rfl,rfl⟩
    have e0:(compL (gN 0 f)).length=0:=by omega
    rw [e0] at hk
    exact ⟨_,_,_,ψ,S,rfl,hk,Rel.empty hrel hb _,hrep,Ext.refl _ _ _ _⟩
   rcases hv1 with ⟨hvirt,h0,a0,hv⟩|⟨b,mm,c,off,h1,hv,h2,h3⟩
   . exact none0 a0 0 h0 hv (.inl ⟨hvirt,rfl,a0,hv⟩)
   . by_cases h0:len=0
     . exact none0 (some ⟨b,off,none⟩) c h0 (by rw [hv,h0]) (.inr ⟨b,mm,c,off,h1,by rw [hv,h0],Nat.zero_le _,h3⟩)
     . obtain ⟨hoff,hcm⟩:=h3 (by omega)
       have hoff:off=0:=by omega
       subst hoff
       have hsz:((gN len f).map fun s=>s.data.toList).length=len:=by simp [gN]
       have hH:=row_holds hrel h1 hb hle hf
       have hS:=Tryz.slices_Compact_string b 0 c ((gN len f).map fun s=>s.data.toList) w hH (by rw [hsz];omega) (by rw [hsz];exact h2)
       rw [hsz] at hS
       subst hv
       refine hS.mono ?_
       rintro e w' ⟨rfl,q,rfl⟩
       have hd:(compRow (gN len f)).toArray.size=len:=by
        unfold compRow
        simp [gN] at hcl⊢
        omega
       have hg:(gN len f).length=len:=by simp [gN]
       obtain ⟨r1,r2⟩:=Rel.put encStr (fun _=>trivial) hrel h1 hb (compRow (gN len f)).toArray (by rw [hd];exact hle) q #[]
       rw [hd] at r1
       have hw:Sort.grow (putRow encStr (Sort.ahead w q) b 0 (compRow (gN len f)).toArray) #[]=putRow encStr (Sort.ahead w q) b 0 (Lib.compact ((gN len f).map fun (s:ByteArray)=>s.data.toList)++List.replicate (len-(Lib.compact ((gN len f).map fun (s:ByteArray)=>s.data.toList)).length) []).toArray:=by
        rw [grow_empty]
        unfold compRow compL
        rw [hg]
       rw [hw] at r1 r2
       exact ⟨_,_,_,ψ,S,rfl,hk,r1,.inr ⟨b,mm,c,0,h1,rfl,Nat.le_trans hcl h2,fun hc=>⟨rfl,hcm⟩⟩,r2⟩
end Go.Proofs.YtehpbhpmkhlldaaGreat
