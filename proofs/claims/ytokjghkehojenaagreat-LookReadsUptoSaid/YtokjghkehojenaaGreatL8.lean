/- Globals as data. No condition. -/
import Derived.Test.YtokjghkehojenaaGreatL7
set_option linter.all false
set_option maxHeartbeats 8000000
set_option maxRecDepth 100000
namespace Go.Proofs.YtokjghkehojenaaGreat
open Go.Sx
open Go.RowKit Go.Lib Go.Sort
structure Gl where
 name:ByteArray
 ptr:Bool
 size:Int
 at_:Int
instance:Inhabited Gl:=⟨⟨ByteArray.empty,false,0,0⟩⟩
abbrev Gl.ar (x:Gl):Ar:= .agg [.d (st x.name),.d (bo x.ptr),.d (it x.size),.d (it x.at_)]
abbrev glC (x:Gl):List DV:= [st x.name,bo x.ptr,it x.size,it x.at_]
def Gl.ok (x:Gl):Prop:=rI x.size/\ rI x.at_
def gGl (l:List DV):Gl:=match l with
 | [.v (.string s),.v (.bool b),.v (.int .i64 i),.v (.int .i64 j)]=>⟨s,b,i,j⟩
 |_=>default
def atG (l:List Gl) (i:Nat):Gl:=l.getD i default
abbrev rwG (l:List Gl):Nat->List DV:=fun i=>glC (atG l i)
abbrev lstG (l:List Gl):DV:= .lst 4 l.length (rwG l)
def gGs (n:Nat) (f:Nat->List DV):List Gl:=(List.range n).map fun i=>gGl (f i)
theorem gGs_length (n:Nat) (f:Nat->List DV):(gGs n f).length=n:=by simp [gGs]
theorem atG_gGs {n i:Nat} {f:Nat->List DV} (h:i<n):atG (gGs n f) i=gGl (f i):=by simp [atG,gGs,List.getD_eq_getElem?_getD,h]
theorem gGs_row (l:List Gl):gGs l.length (rwG l)=l:=by
 unfold gGs;apply List.ext_getElem
 . simp
 . intro i h1 h2;simp [gGl,atG,List.getD_eq_getElem?_getD,h2]
structure RowsG (n:Nat) (f:Nat->List DV):Prop where
 h: ∀i,i<n->f i=glC (gGl (f i))/\ (gGl (f i)).ok
theorem rowG_eq {n:Nat} {f:Nat->List DV} (h:RowsG n f): ∀i,i<n->f i=rwG (gGs n f) i:=fun i hi=>by
 show f i=glC (atG (gGs n f) i)
 rw [atG_gGs hi];exact (h.h i hi).1
def okG (l:List Gl):Prop:= ∀i,i<l.length->(atG l i).ok
theorem okG_rows {n:Nat} {f:Nat->List DV} (h:RowsG n f):okG (gGs n f):=fun i hi=>by
 rw [gGs_length] at hi;rw [atG_gGs hi];exact (h.h i hi).2
theorem rows_okG {l:List Gl} (h:okG l):RowsG l.length (rwG l):=⟨fun i hi=>⟨rfl,h i hi⟩⟩
def ixG (G:List Gl) (s:ByteArray):Int:=match G.findIdx? (fun x=>x.name.toList==s.toList) with
 |some i=>i
 |none=> -1
theorem mem_atG {l:List Gl} {x:Gl} (h:x∈l): ∃i,i<l.length/\ atG l i=x:=by
 obtain ⟨i,hi,e⟩:=List.mem_iff_getElem.1 h
 exact ⟨i,hi,by unfold atG;rw [List.getD_eq_getElem?_getD,List.getElem?_eq_getElem hi];exact e⟩
theorem ixG_some {s:ByteArray} {L:List Gl} {i:Nat} (hi:i<L.length) (h1: ∀k,k<i->((atG L k).name.toList==s.toList)=false) (h2:((atG L i).name.toList==s.toList)=true):ixG L s=i:=by
 have hA: ∀k (h:k<L.length),atG L k=L[k]:=fun k h=>by unfold atG;rw [List.getD_eq_getElem?_getD,List.getElem?_eq_getElem h];rfl
 unfold ixG;have:L.findIdx? (fun x=>x.name.toList==s.toList)=some i:=by
  rw [List.findIdx?_eq_some_iff_getElem];refine ⟨hi,by rw [<-hA i hi];exact h2,fun j hj=> ?_⟩
  rw [<-hA j (by omega),h1 j hj];exact Bool.false_ne_true
 rw [this]
theorem ixG_none {s:ByteArray} {L:List Gl} (h1: ∀k,k<L.length->((atG L k).name.toList==s.toList)=false):ixG L s= -1:=by
 unfold ixG;have:L.findIdx? (fun x=>x.name.toList==s.toList)=none:=by
  rw [List.findIdx?_eq_none_iff];intro x hx;obtain ⟨k,hk,rfl⟩:=mem_atG hx
  exact h1 k hk
 rw [this]
theorem ixG_lt (L:List Gl) (s:ByteArray): -1<=ixG L s/\ ixG L s<L.length:=by
 unfold ixG;split
 . rename_i i h
   rw [List.findIdx?_eq_some_iff_getElem] at h;have:=h.1;omega
 . omega
def glI (G:List Gl) (s:ByteArray):Bool:= !decide (ixG G s<0)
def glG (G:List Gl) (s:ByteArray):Gl:=if ixG G s<0 then ⟨⟨#[]⟩,false,0,0⟩ else atG G (ixG G s).toNat
def FGlobC:List Ar->Option Rs
 | [.agg [.d (.v (.string x0)),.d (.v (.bool _)),.d (.v (.int .i64 _)),.d (.v (.int .i64 _))],.rp [.v (.string x1)]]=>some ⟨True,.va (.c (.d (bo (x0.toList==x1.toList)))),[]⟩
 |_=>none
theorem fcGlobC:FC Tryz.prog 58 FGlobC:=by
 intro xs pre r us h hp;unfold FGlobC at h;split at h
 . rename_i x0 b0 i0 j0 x1
   cases h;refine fcat tys_ok (l:= []) trivial Tryz.func58 rfl (by kernel_rfl) false ?_
   repeat' (first|exact trivial|refine ⟨?_, ?_⟩|intro _)
   all_goals first|(with_reducible apply qq)|(conv=>whnf)
   all_goals first|rfl
 . cases h
abbrev gName (nm:ByteArray):List Cv->Option Gs:=mkFv (sums [(58,⟨[],FGlobC⟩)]) 58 [.rp [.v (.string nm)]]
def FIxG (nm:ByteArray):List Ar->Option Rs
 | [.c (.d (.lst 4 n0 f0)),.fv g1]=>some ⟨(n0<=1099511627776/\ RowsG n0 f0)/\ (g1=gName nm/\ True),.va (.c (.d (it (ixG (gGs n0 f0) nm)))),[]⟩
 |_=>none
theorem fcIxG (nm:ByteArray):FC Tryz.prog 57 (FIxG nm):=by
 intro xs pre r us h hp;unfold FIxG at h;split at h
 . rename_i n0 f0 g1
   cases h;obtain ⟨hp0,hp1⟩:=hp
   refine FCat.of_eq (as':= [.c (.d (.lst 4 n0 (rwG (gGs n0 f0)))),.fv g1]) ?_ rfl rfl ?_
   . repeat' (first|exact trivial|exact rfl|refine ⟨?_, ?_⟩|fail)
     all_goals first|exact rowG_eq hp0.2|exact hp0.2|exact hp1.2|exact hp2.2|(intro i hi;exact (hp0.2 i hi).1)|(intro i hi;exact (hp1.2 i hi).1)|(intro i hi;exact (hp2.2 i hi).1)|grind
   refine fcat tys_ok (l:= []) trivial Tryz.func57 rfl (by kernel_rfl) false ?_
   obtain ⟨rfl,_⟩:=hp1
   have hn:=hp0.1
   have hL:=okG_rows hp0.2
   have hlen:=gGs_length n0 f0
   generalize gGs n0 f0=L at*
   clear hp0;subst hlen
   repeat' (first|exact trivial|refine ⟨?_, ?_⟩|intro _)
   all_goals first|(with_reducible apply qq)|(conv=>whnf)
   refine loop_ok tys_ok (l:= []) trivial (by kernel_rfl) (X:=Nat)
    (fun i=>⟨[(8,vx (.int .i64 i)),(0,.va (.c (.d (lstG L)))),(1,.va (.c (.fv (gName nm)))),(7,vx (.int .i64 L.length))],[],0,19⟩)
    (fun i=>L.length-i) (fun i=>i<=L.length/\ ∀k,k<i->((atG L k).name.toList==nm.toList)=false) [] []
    (fun i _ _=>i+1) [] [] 0 0 0 ?_ ?_ ?_
   . exact ⟨Nat.zero_le _,fun k h=>absurd h (Nat.not_lt_zero k)⟩
   . repeat' (first|exact trivial|exact rfl|(intro _ _;exact rfl)|refine ⟨?_, ?_⟩|fail)
   . rintro i ⟨k1,k2⟩
     rcases Nat.lt_or_ge i L.length with hi|hi
     . have hne:decide ((i:Int)<(L.length:Int))=true:=decide_eq_true (by omega)
       have hib:(0:Int)<=(i:Int)/\ (i:Int)<(L.length:Int):=by omega
       cases hq:((atG L (Int.toNat (i:Int))).name.toList==nm.toList) with
       |true=>
        have hv:ixG L nm=i:=ixG_some hi k2 (by rw [Int.toNat_natCast] at hq;exact hq)
        repeat' (first|exact trivial|(with_reducible first|exact n1|exact n2|exact hib|exact hib.1|exact hib.2|exact nx hne|exact nx hq)|refine ⟨?_, ?_⟩|intro _)
        all_goals first|(with_reducible apply qq)|(conv=>whnf)
        all_goals first|omega|(rw [hv];done)
       |false=>
        have hk: ∀k,k<i+1->((atG L k).name.toList==nm.toList)=false:=fun k h=>by
         rcases Nat.lt_or_ge k i with h1|h1
         . exact k2 k h1
         . rw [show k=i by omega];rw [Int.toNat_natCast] at hq;exact hq
        repeat' (first|exact trivial|(with_reducible first|exact n1|exact n2|exact hib|exact hib.1|exact hib.2|exact nx hne|exact nx hq)|refine ⟨?_, ?_⟩|intro _)
        all_goals first|(with_reducible apply qq)|(conv=>whnf)
        all_goals (try dsimp only)
        all_goals first|omega|exact hk _ ‹_›|rfl|(exact congrArg (Value.int .i64) (by first|(rw [wI_id _ (by omega) (by omega)];omega)|omega|(dsimp only;omega)))
     . have hne:decide ((i:Int)<(L.length:Int))=false:=decide_eq_false (by omega)
       obtain rfl:i=L.length:=by omega
       have hv:ixG L nm= -1:=ixG_none k2
       repeat' (first|exact trivial|(with_reducible first|exact n1|exact n2|exact nx hne)|refine ⟨?_, ?_⟩|intro _)
       all_goals first|(with_reducible apply qq)|(conv=>whnf)
       all_goals first|omega|(rw [hv];done)
 . cases h
def FGlob:List Ar->Option Rs
 | [.agg [.d (.lst 4 n0 f0),.d (.lst 5 _ _)],.c (.d (.v (.string x1)))]=>some ⟨(n0<=1099511627776/\ RowsG n0 f0),.tup [Gl.ar (glG (gGs n0 f0) x1),.c (.d (bo (glI (gGs n0 f0) x1)))],[]⟩
 |_=>none
theorem fcGlob:FC Tryz.prog 28 FGlob:=by
 intro xs pre r us h hp;unfold FGlob at h;split at h
 . rename_i n0 f0 c0 d0 x1
   cases h;have hp0:=hp
   refine FCat.of_eq (as':= [.agg [.d (.lst 4 n0 (rwG (gGs n0 f0))),.d (.lst 5 c0 d0)],.c (.d (.v (.string x1)))]) ?_ rfl rfl ?_
   . repeat' (first|exact trivial|exact rfl|refine ⟨?_, ?_⟩|fail)
     all_goals first|exact rowG_eq hp0.2|(intro _ _;rfl)|exact hp0.2|exact hp1.2|exact hp2.2|(intro i hi;exact (hp0.2 i hi).1)|(intro i hi;exact (hp1.2 i hi).1)|(intro i hi;exact (hp2.2 i hi).1)|grind
   refine fcat tys_ok (l:= [(57,⟨[],(FIxG x1)⟩),(58,⟨[],FGlobC⟩)]) ⟨(fcIxG x1),fcGlobC,trivial⟩ Tryz.func28 rfl (by kernel_rfl) true ?_
   have hn:=hp0.1
   have hL:=okG_rows hp0.2
   have hlen:=gGs_length n0 f0
   generalize gGs n0 f0=L at*
   clear hp0;subst hlen;have hrw:=rows_okG hL
   have hix:=ixG_lt L x1
   repeat' (first|exact trivial|(with_reducible first|assumption)|refine ⟨?_, ?_⟩|intro _)
   all_goals first|(with_reducible apply qq)|(conv=>whnf)
   all_goals (try simp only [gGs_row] at*)
   all_goals first|((with_reducible show _=gName _);rfl)|(simp only [decide_eq_true_eq,decide_eq_false_iff_not] at*;omega)|(have hd:=of_decide_eq_true ‹decide (ixG L x1<0)=true›;first|(unfold glG;rw [if_pos hd];done)|(unfold glG;rw [if_pos hd];rfl)|(unfold glI;rw [decide_eq_true hd];rfl))|(have hd:=of_decide_eq_false ‹decide (ixG L x1<0)=false›;first|(unfold glG;rw [if_neg hd];done)|(unfold glG;rw [if_neg hd];rfl)|(unfold glI;rw [decide_eq_false hd];rfl))
 . cases h
def needsI (op:Int):Int:=if op=1 \/op=2 \/op=4 \/op=18 \/op=19 then 0 else if op=3 \/op=20 \/op=5 \/op=6 then 1 else if 7<=op/\ op<=17 then 2 else-1
def FNeeds:List Ar->Option Rs
 | [.c (.d (.v (.int .i64 i0)))]=>some ⟨(-9223372036854775808<=i0/\ i0<9223372036854775808),.va (.c (.d (it (needsI i0)))),[]⟩
 |_=>none
theorem fcNeeds:FC Tryz.prog 41 FNeeds:=by
 intro xs pre r us h hp;unfold FNeeds at h;split at h
 . rename_i i0
   cases h;have hp0:=hp
   refine fcat tys_ok (l:= []) trivial Tryz.func41 rfl (by kernel_rfl) false ?_
   repeat' (first|exact trivial|refine ⟨?_, ?_⟩|intro _)
   all_goals first|(with_reducible apply qq)|(conv=>whnf)
   all_goals (simp only [beq_iff_eq,beq_eq_false_iff_ne,decide_eq_true_eq,decide_eq_false_iff_not,ne_eq] at*)
   all_goals first|omega|(refine congrArg (Value.int .i64) ?_;unfold needsI;(repeat' split)<;>omega)
 . cases h
end Go.Proofs.YtokjghkehojenaaGreat
namespace Go.Proofs.YtokjghkehojenaaGreat
open Go.Sx
open Go.RowKit Go.Lib Go.Sort
structure Sv where
 e:En
 v:Vl
abbrev Sv.ar (s:Sv):Ar:= .agg [.d (bo s.e.live),.d (lstB s.e.binds),.d (bo s.v.i.s.some),.d (it s.v.i.s.lo),.d (it s.v.i.s.hi),.d (bo s.v.i.c.some),.d (it s.v.i.c.m),.d (it s.v.i.c.r),.d (bo s.v.t.null),.d (lst s.v.t.names)]
structure Ky where
 name:ByteArray
 node:Int
structure Sd where
 k:Ky
 s:Sv
instance:Inhabited Ky:=⟨⟨ByteArray.empty,0⟩⟩
theorem Ky.ext_iff' {a b:Ky}:a=b↔a.name=b.name/\ a.node=b.node:=by
 cases a;cases b;simp
instance:DecidableEq Ky:=fun a b=>decidable_of_iff (a.name=b.name/\ a.node=b.node) Ky.ext_iff'.symm
def atD (l:List Sd) (i:Nat):Sd:=l.getD i ⟨⟨ByteArray.empty,0⟩,⟨⟨false,[]⟩,Vl.zero⟩⟩
def Sv.zero:Sv:=⟨⟨false,[]⟩,Vl.zero⟩
abbrev sdC (x:Sd):List DV:= [st x.k.name,it x.k.node,bo x.s.e.live,lstB x.s.e.binds,bo x.s.v.i.s.some,it x.s.v.i.s.lo,it x.s.v.i.s.hi,bo x.s.v.i.c.some,it x.s.v.i.c.m,it x.s.v.i.c.r,bo x.s.v.t.null,lst x.s.v.t.names]
instance:Inhabited Sd:=⟨⟨default,Sv.zero⟩⟩
abbrev rwD (l:List Sd):Nat->List DV:=fun i=>sdC (atD l i)
abbrev lstD (l:List Sd):DV:= .lst 12 l.length (rwD l)
def gSx (l:List DV) (j:Nat):ByteArray:=match l[j]? with
 |some (.v (.string s))=>s
 |_=>ByteArray.empty
def gBb (l:List DV) (j:Nat):List Bd:=match l[j]? with
 |some (.lst _ n f)=>gBs n f
 |_=> []
def gNn (l:List DV) (j:Nat):List ByteArray:=match l[j]? with
 |some (.lst _ n f)=>gN n f
 |_=> []
def gSd (l:List DV):Sd:=⟨⟨gSx l 0,gI9 l 1⟩,⟨⟨gB9 l 2,gBb l 3⟩,⟨⟨⟨gB9 l 4,gI9 l 5,gI9 l 6⟩,⟨gB9 l 7,gI9 l 8,gI9 l 9⟩⟩,⟨gB9 l 10,gNn l 11⟩⟩⟩⟩
theorem gSd_sdC (x:Sd):gSd (sdC x)=x:=by
 obtain ⟨⟨n,j⟩,⟨⟨e,b⟩,⟨⟨⟨a1,a2,a3⟩,⟨c1,c2,c3⟩⟩,⟨z,l⟩⟩⟩⟩:=x
 show Sd.mk ⟨n,j⟩ ⟨⟨e,gBs b.length (rwB b)⟩,⟨⟨⟨a1,a2,a3⟩,⟨c1,c2,c3⟩⟩,⟨z,gN l.length (fun i=> [st (atS l i)])⟩⟩⟩=_
 rw [gN_lst,gBs_row]
def gD (n:Nat) (f:Nat->List DV):List Sd:=(List.range n).map fun i=>gSd (f i)
theorem gD_length (n:Nat) (f:Nat->List DV):(gD n f).length=n:=by simp [gD]
theorem atD_gD {n i:Nat} {f:Nat->List DV} (h:i<n):atD (gD n f) i=gSd (f i):=by
 simp [atD,gD,List.getD_eq_getElem?_getD,h]
theorem gD_row (l:List Sd):gD l.length (rwD l)=l:=by
 unfold gD;apply List.ext_getElem
 . simp
 . intro i h1 h2;simp [gSd_sdC,atD,List.getD_eq_getElem?_getD,h2]
structure Sd.ok (x:Sd):Prop where
 n:rI x.k.node
 l:okL x.s.e.binds
 v:okV x.s.v
 s:x.s.e.binds.length<=1099511627776
structure rowOkD (l:List DV):Prop where
 e:rowE l (sdC (gSd l))
 o:(gSd l).ok
theorem rowOkD_sdC {x:Sd} (h:x.ok):rowOkD (sdC x):=⟨by rw [gSd_sdC];exact ⟨rfl,fun j a b ha hb=>by rw [ha] at hb;cases hb;exact .refl _⟩,by rw [gSd_sdC];exact h⟩
structure RowsD (n:Nat) (f:Nat->List DV):Prop where
 h: ∀i,i<n->rowOkD (f i)
theorem canonD {n:Nat} {f:Nat->List DV} (h: ∀i,i<n->rowOkD (f i)):DvE (.lst 12 n f) (.lst 12 n (rwD (gD n f))):=
 .rows fun i hi=>by show rowE (f i) (sdC (atD (gD n f) i));rw [atD_gD hi];exact (h i hi).e
def okD (l:List Sd):Prop:= ∀x,x∈l->x.ok
theorem mem_atD {l:List Sd} {x:Sd} (h:x∈l): ∃i,i<l.length/\ atD l i=x:=by
 obtain ⟨i,hi,e⟩:=List.mem_iff_getElem.1 h
 exact ⟨i,hi,by unfold atD;rw [List.getD_eq_getElem?_getD,List.getElem?_eq_getElem hi];exact e⟩
theorem atD_mem {l:List Sd} {i:Nat} (h:i<l.length):atD l i∈l:=by
 unfold atD;rw [List.getD_eq_getElem?_getD,List.getElem?_eq_getElem h];exact List.getElem_mem h
theorem okD_rows {n:Nat} {f:Nat->List DV} (h:RowsD n f):okD (gD n f):=by
 intro x hx;obtain ⟨i,hi,rfl⟩:=mem_atD hx
 rw [gD_length] at hi;rw [atD_gD hi];exact (h.h i hi).o
theorem okD_row {l:List Sd} (h:okD l):RowsD l.length (rwD l):=⟨fun i hi=>rowOkD_sdC (h _ (atD_mem hi))⟩
abbrev kyC (k:Ky):List DV:= [st k.name,it k.node]
def gKy (l:List DV):Ky:=match l with
 | [.v (.string s),.v (.int .i64 i)]=>⟨s,i⟩
 |_=>default
def atK (l:List Ky) (i:Nat):Ky:=l.getD i default
abbrev rwK (l:List Ky):Nat->List DV:=fun i=>kyC (atK l i)
abbrev lstK (l:List Ky):DV:= .lst 2 l.length (rwK l)
def gKs (n:Nat) (f:Nat->List DV):List Ky:=(List.range n).map fun i=>gKy (f i)
theorem gKs_length (n:Nat) (f:Nat->List DV):(gKs n f).length=n:=by simp [gKs]
theorem atK_gKs {n i:Nat} {f:Nat->List DV} (h:i<n):atK (gKs n f) i=gKy (f i):=by simp [atK,gKs,List.getD_eq_getElem?_getD,h]
theorem gKs_row (l:List Ky):gKs l.length (rwK l)=l:=by
 unfold gKs;apply List.ext_getElem
 . simp
 . intro i h1 h2;simp [gKy,atK,List.getD_eq_getElem?_getD,h2]
structure RowsK (n:Nat) (f:Nat->List DV):Prop where
 h: ∀i,i<n->f i=kyC (gKy (f i))
theorem rowK_eq {n:Nat} {f:Nat->List DV} (h:RowsK n f): ∀i,i<n->f i=rwK (gKs n f) i:=fun i hi=>by
 show f i=kyC (atK (gKs n f) i)
 rw [atK_gKs hi];exact h.h i hi
theorem canonKo {n:Nat} {f:Nat->List DV} (h:RowsK n f):icE (.ow 2 n f) (.ow 2 n (rwK (gKs n f))):=
 ⟨rfl,rfl,fun i hi=>by rw [rowK_eq h i hi];exact ⟨rfl,fun j a b ha hb=>by rw [ha] at hb;cases hb;exact .refl _⟩⟩
theorem rows_K (l:List Ky):RowsK l.length (rwK l):=⟨fun i hi=>rfl⟩
abbrev eqK (a b:Ky):Bool:=a.name.toList==b.name.toList&&(a.node==b.node&&true)
theorem eqK_iff {a b:Ky}:eqK a b=true↔a=b:=by
 unfold eqK;rw [Bool.and_true,Bool.and_eq_true,seq_iff,decide_eq_true_eq,beq_iff_eq,Ky.ext_iff']
def hasKy (l:List Ky) (k:Ky):Bool:=decide (k∈l)
theorem mem_atK {l:List Ky} {x:Ky} (h:x∈l): ∃i,i<l.length/\ atK l i=x:=by
 obtain ⟨i,hi,e⟩:=List.mem_iff_getElem.1 h
 exact ⟨i,hi,by unfold atK;rw [List.getD_eq_getElem?_getD,List.getElem?_eq_getElem hi];exact e⟩
theorem atK_mem {l:List Ky} {i:Nat} (h:i<l.length):atK l i∈l:=by
 unfold atK;rw [List.getD_eq_getElem?_getD,List.getElem?_eq_getElem h];exact List.getElem_mem h
def ixK (l:List Ky) (k:Ky):Int:=match l.findIdx? (fun x=>eqK k x) with
 |some i=>i
 |none=> -1
theorem ixK_some {k:Ky} {L:List Ky} {i:Nat} (hi:i<L.length) (h1: ∀j,j<i->eqK k (atK L j)=false) (h2:eqK k (atK L i)=true):ixK L k=i:=by
 have hA: ∀k (h:k<L.length),atK L k=L[k]:=fun k h=>by unfold atK;rw [List.getD_eq_getElem?_getD,List.getElem?_eq_getElem h];rfl
 unfold ixK;have:L.findIdx? (fun x=>eqK k x)=some i:=by
  rw [List.findIdx?_eq_some_iff_getElem];refine ⟨hi,by rw [<-hA i hi];exact h2,fun j hj=> ?_⟩
  rw [<-hA j (by omega),h1 j hj];exact Bool.false_ne_true
 rw [this]
theorem ixK_none {k:Ky} {L:List Ky} (h1: ∀j,j<L.length->eqK k (atK L j)=false):ixK L k= -1:=by
 unfold ixK;have:L.findIdx? (fun x=>eqK k x)=none:=by
  rw [List.findIdx?_eq_none_iff];intro x hx;obtain ⟨j,hj,rfl⟩:=mem_atK hx
  exact h1 j hj
 rw [this]
theorem ixK_ge (L:List Ky) (k:Ky):decide (ixK L k≥0)=hasKy L k:=by
 unfold ixK hasKy;cases h:L.findIdx? (fun x=>eqK k x) with
 |some i=>
  rw [List.findIdx?_eq_some_iff_getElem] at h;obtain ⟨h1,h2,_⟩:=h
  have e:=eqK_iff.1 h2
  show decide ((i:Int)≥0)=_
  rw [decide_eq_true (by omega),e,decide_eq_true (List.getElem_mem h1)]
 |none=>
  rw [List.findIdx?_eq_none_iff] at h;have:k∉L:=fun hm=>by
   have:=h k hm
   rw [eqK_iff.2 rfl] at this;cases this
  rw [decide_eq_false (by decide),decide_eq_false this]
def FKIx:List Ar->Option Rs
 | [.c (.ow 2 n0 f0),.agg [.d (.v (.string x1)),.d (.v (.int .i64 i1))]]=>some ⟨(n0<=1099511627776/\ RowsK n0 f0),.va (.c (.d (it (ixK (gKs n0 f0) (⟨x1,i1⟩:Ky))))),[some (rwK (gKs n0 f0))]⟩
 |_=>none
theorem fcKIx:FC Tryz.prog 132 FKIx:=by
 intro xs pre r us h hp;unfold FKIx at h;split at h
 . rename_i n0 f0 x1 i1
   cases h;have hp0:=hp
   refine FCat.deep (ys:= [.c (.ow 2 n0 (rwK (gKs n0 f0))),.agg [.d (.v (.string x1)),.d (.v (.int .i64 i1))]]) ?_ ?_
   . repeat' (first|exact trivial|exact rfl|exact DvE.refl _|refine ⟨?_, ?_⟩|fail)
     all_goals first|exact (canonKo hp0.2).2.2
   refine fcat tys_ok (l:= []) trivial Tryz.func132 rfl (by kernel_rfl) false ?_
   have hn:=hp0.1
   have hlen:=gKs_length n0 f0
   generalize gKs n0 f0=L at*
   clear hp0;subst hlen
   repeat' (first|exact trivial|refine ⟨?_, ?_⟩|intro _)
   all_goals first|(with_reducible apply qq)|(conv=>whnf)
   refine loop_ok tys_ok (l:= []) trivial (by kernel_rfl) (X:=Nat)
    (fun i=>⟨[(8,vx (.int .i64 i)),(0,.va (.c (.osl 0 2 0 L.length))),(3,.va (.c (.own 1 0))),(7,vx (.int .i64 L.length))],[(1,.cells [.d (st x1),.d (it i1)]),(0,.row 2 L.length (rwK L))],2,19⟩)
    (fun i=>L.length-i) (fun i=>i<=L.length/\ ∀k,k<i->eqK ⟨x1,i1⟩ (atK L k)=false) [] []
    (fun i _ _=>i+1) [0,1] [0,1] 0 0 0 ?_ ?_ ?_
   . exact ⟨Nat.zero_le _,fun k h=>absurd h (Nat.not_lt_zero k)⟩
   . repeat' (first|exact trivial|exact rfl|(intro _ _;exact rfl)|refine ⟨?_, ?_⟩|fail)
   . rintro i ⟨k1,k2⟩
     rcases Nat.lt_or_ge i L.length with hi|hi
     . have hne:decide ((i:Int)<(L.length:Int))=true:=decide_eq_true (by omega)
       have hib:(0:Int)<=(i:Int)/\ (i:Int)<(L.length:Int):=by omega
       cases hq:eqK ⟨x1,i1⟩ (atK L i) with
       |true=>
        have hv:ixK L ⟨x1,i1⟩=i:=ixK_some hi k2 hq
        repeat' (first|exact trivial|(with_reducible first|exact n1|exact n2|exact hib|exact hib.1|exact hib.2|exact nx hne)|refine ⟨?_, ?_⟩|intro _)
        all_goals first|(with_reducible apply qq)|(conv=>whnf)
        all_goals (try simp only [Int.toNat_natCast,Nat.zero_add] at*)
        all_goals first|omega|(rw [hv];done)|exact absurd (hq.symm.trans ‹_=false›) (by decide)|rfl|(intro _ _;rfl)
       |false=>
        have hk: ∀k,k<i+1->eqK ⟨x1,i1⟩ (atK L k)=false:=fun k h=>by
         rcases Nat.lt_or_ge k i with h1|h1
         . exact k2 k h1
         . rw [show k=i by omega];exact hq
        repeat' (first|exact trivial|(with_reducible first|exact n1|exact n2|exact hib|exact hib.1|exact hib.2|exact nx hne)|refine ⟨?_, ?_⟩|intro _)
        all_goals first|(with_reducible apply qq)|(conv=>whnf)
        all_goals (try dsimp only)
        all_goals (try simp only [Int.toNat_natCast,Nat.zero_add] at*)
        all_goals first|omega|exact absurd (hq.symm.trans ‹_=true›) (by decide)|exact hk _ ‹_›|rfl|(exact congrArg (Value.int .i64) (by first|(rw [wI_id _ (by omega) (by omega)];omega)|omega|(dsimp only;omega)))|(intro _ _;rfl)
     . have hne:decide ((i:Int)<(L.length:Int))=false:=decide_eq_false (by omega)
       obtain rfl:i=L.length:=by omega
       have hv:ixK L ⟨x1,i1⟩= -1:=ixK_none k2
       repeat' (first|exact trivial|(with_reducible first|exact n1|exact n2|exact nx hne)|refine ⟨?_, ?_⟩|intro _)
       all_goals first|(with_reducible apply qq)|(conv=>whnf)
       all_goals first|omega|(rw [hv];done)|rfl|(intro _ _;rfl)
 . cases h
def FKHas:List Ar->Option Rs
 | [.c (.ow 2 n0 f0),.agg [.d (.v (.string x1)),.d (.v (.int .i64 i1))]]=>some ⟨(n0<=1099511627776/\ RowsK n0 f0),.va (.c (.d (bo (hasKy (gKs n0 f0) (⟨x1,i1⟩:Ky))))),[some (rwK (gKs n0 f0))]⟩
 |_=>none
theorem fcKHas:FC Tryz.prog 90 FKHas:=by
 intro xs pre r us h hp;unfold FKHas at h;split at h
 . rename_i n0 f0 x1 i1
   cases h;have hp0:=hp
   refine FCat.deep (ys:= [.c (.ow 2 n0 (rwK (gKs n0 f0))),.agg [.d (.v (.string x1)),.d (.v (.int .i64 i1))]]) ?_ ?_
   . repeat' (first|exact trivial|exact rfl|exact DvE.refl _|refine ⟨?_, ?_⟩|fail)
     all_goals first|exact (canonKo hp0.2).2.2
   refine fcat tys_ok (l:= [(132,⟨[true],FKIx⟩)]) ⟨fcKIx,trivial⟩ Tryz.func90 rfl (by kernel_rfl) false ?_
   have hn:=hp0.1
   have hlen:=gKs_length n0 f0
   generalize gKs n0 f0=L at*
   clear hp0;subst hlen;have hix:=ixK_ge L ⟨x1,i1⟩
   have hrk:=rows_K L
   repeat' (first|exact trivial|(with_reducible first|assumption)|refine ⟨?_, ?_⟩|intro _)
   all_goals first|(with_reducible apply qq)|(conv=>whnf)
   all_goals (try simp only [gKs_row] at*)
   all_goals first|(rw [hix];done)|omega|rfl|(intro _ _;rfl)
 . cases h
def FBindC:List Ar->Option Rs
 | [.agg [.d (.v (.string x0)),.d (.v (.bool _)),.d (.v (.int .i64 _)),.d (.v (.int .i64 _)),.d (.v (.bool _)),.d (.v (.int .i64 _)),.d (.v (.int .i64 _)),.d (.v (.bool _)),.d (.lst 1 _ _)],.rp [.v (.string x1)]]=>some ⟨True,.va (.c (.d (bo (x0.toList==x1.toList)))),[]⟩
 |_=>none
theorem fcBindC:FC Tryz.prog 50 FBindC:=by
 intro xs pre r us h hp;unfold FBindC at h;split at h
 . rename_i x0 s0 l0 h0 b0 m0 r0 z0 n0 f0 x1
   cases h;refine fcat tys_ok (l:= []) trivial Tryz.func50 rfl (by kernel_rfl) false ?_
   repeat' (first|exact trivial|refine ⟨?_, ?_⟩|intro _)
   all_goals first|(with_reducible apply qq)|(conv=>whnf)
   all_goals first|rfl
 . cases h
abbrev gBn (nm:ByteArray):List Cv->Option Gs:=mkFv (sums [(50,⟨[],FBindC⟩)]) 50 [.rp [.v (.string nm)]]
end Go.Proofs.YtokjghkehojenaaGreat
namespace Go.Proofs.YtokjghkehojenaaGreat
open Go.Sx
open Go.RowKit Go.Lib Go.Sort
def ixN (L:List Bd) (s:ByteArray):Int:=match L.findIdx? (fun x=>x.name.toList==s.toList) with
 |some i=>i
 |none=> -1
def bndN (L:List Bd) (s:ByteArray):Bool:=decide (ixN L s≥0)
theorem ixN_some {s:ByteArray} {L:List Bd} {i:Nat} (hi:i<L.length) (h1: ∀k,k<i->((atB L k).name.toList==s.toList)=false) (h2:((atB L i).name.toList==s.toList)=true):ixN L s=i:=by
 have hA: ∀k (h:k<L.length),atB L k=L[k]:=fun k h=>by unfold atB;rw [List.getD_eq_getElem?_getD,List.getElem?_eq_getElem h];rfl
 unfold ixN;have:L.findIdx? (fun x=>x.name.toList==s.toList)=some i:=by
  rw [List.findIdx?_eq_some_iff_getElem];refine ⟨hi,by rw [<-hA i hi];exact h2,fun j hj=> ?_⟩
  rw [<-hA j (by omega),h1 j hj];exact Bool.false_ne_true
 rw [this]
theorem ixN_none {s:ByteArray} {L:List Bd} (h1: ∀k,k<L.length->((atB L k).name.toList==s.toList)=false):ixN L s= -1:=by
 unfold ixN;have:L.findIdx? (fun x=>x.name.toList==s.toList)=none:=by
  rw [List.findIdx?_eq_none_iff];intro x hx;obtain ⟨k,hk,rfl⟩:=mem_atB hx
  exact h1 k hk
 rw [this]
def knF (L:List Sd) (k:Ky):Option Sv:=(L.find? fun x=>eqK x.k k).map (·.s)
def knS (L:List Sd) (k:Ky):Sv:=(knF L k).getD ⟨⟨false,[]⟩,⟨⟨⟨false,0,0⟩,⟨false,0,0⟩⟩,⟨false,[]⟩⟩⟩
def knB (L:List Sd) (k:Ky):Bool:=(knF L k).isSome
theorem knF_some {L:List Sd} {k:Ky} {i:Nat} (hi:i<L.length) (h1: ∀j,j<i->eqK (atD L j).k k=false) (h2:eqK (atD L i).k k=true):knF L k=some (atD L i).s:=by
 have hA: ∀k (h:k<L.length),atD L k=L[k]:=fun k h=>by unfold atD;rw [List.getD_eq_getElem?_getD,List.getElem?_eq_getElem h];rfl
 unfold knF;have:L.find? (fun x=>eqK x.k k)=some (atD L i):=by
  rw [List.find?_eq_some_iff_getElem];refine ⟨h2,i,hi,(hA i hi).symm,fun j hj=> ?_⟩
  rw [<-hA j (by omega),h1 j hj];rfl
 rw [this];rfl
theorem knF_none {L:List Sd} {k:Ky} (h1: ∀j,j<L.length->eqK (atD L j).k k=false):knF L k=none:=by
 unfold knF;have:L.find? (fun x=>eqK x.k k)=none:=by
  rw [List.find?_eq_none];intro x hx;obtain ⟨j,hj,rfl⟩:=mem_atD hx
  rw [h1 j hj];exact Bool.false_ne_true
 rw [this];rfl
def FIxB (nm:ByteArray):List Ar->Option Rs
 | [.c (.d (.lst 9 n0 f0)),.fv g1]=>some ⟨(n0<=1099511627776/\ RowsOk n0 f0)/\ (g1=gBn nm/\ True),.va (.c (.d (it (ixN (gBs n0 f0) nm)))),[]⟩
 |_=>none
theorem fcIxB (nm:ByteArray):FC Tryz.prog 87 (FIxB nm):=by
 intro xs pre r us h hp;unfold FIxB at h;split at h
 . rename_i n0 f0 g1
   cases h;obtain ⟨hp0,hp1⟩:=hp
   refine FCat.deep (ys:= [.c (.d (.lst 9 n0 (rwB (gBs n0 f0)))),.fv g1]) ?_ ?_
   . repeat' (first|exact trivial|exact rfl|exact DvE.refl _|refine ⟨?_, ?_⟩|fail)
     all_goals first|exact canonB hp0.2.h
   refine fcat tys_ok (l:= []) trivial Tryz.func87 rfl (by kernel_rfl) false ?_
   obtain ⟨rfl,_⟩:=hp1
   have hn:=hp0.1
   have hL:=okL_rows hp0.2
   have hlen:=gBs_length n0 f0
   generalize gBs n0 f0=L at*
   clear hp0;subst hlen;have hrow:=okL_row hL
   repeat' (first|exact trivial|refine ⟨?_, ?_⟩|intro _)
   all_goals first|(with_reducible apply qq)|(conv=>whnf)
   refine loop_ok tys_ok (l:= []) trivial (by kernel_rfl) (X:=Nat)
    (fun i=>⟨[(8,vx (.int .i64 i)),(0,.va (.c (.d (lstB L)))),(1,.va (.c (.fv (gBn nm)))),(7,vx (.int .i64 L.length))],[],0,19⟩)
    (fun i=>L.length-i) (fun i=>i<=L.length/\ ∀k,k<i->((atB L k).name.toList==nm.toList)=false) [] []
    (fun i _ _=>i+1) [] [] 0 0 0 ?_ ?_ ?_
   . exact ⟨Nat.zero_le _,fun k h=>absurd h (Nat.not_lt_zero k)⟩
   . repeat' (first|exact trivial|exact rfl|(intro _ _;exact rfl)|refine ⟨?_, ?_⟩|fail)
   . rintro i ⟨k1,k2⟩
     rcases Nat.lt_or_ge i L.length with hi|hi
     . have hne:decide ((i:Int)<(L.length:Int))=true:=decide_eq_true (by omega)
       have hib:(0:Int)<=(i:Int)/\ (i:Int)<(L.length:Int):=by omega
       cases hq:((atB L i).name.toList==nm.toList) with
       |true=>
        have hv:=ixN_some hi k2 hq
        repeat' (first|exact trivial|(with_reducible first|exact n1|exact n2|exact hib|exact hib.1|exact hib.2|exact nx hne)|refine ⟨?_, ?_⟩|intro _)
        all_goals first|(with_reducible apply qq)|(conv=>whnf)
        all_goals (try simp only [Int.toNat_natCast,Nat.zero_add] at*)
        all_goals first|omega|(rw [hv];done)|exact absurd (hq.symm.trans ‹_=false›) (by decide)|rfl|(intro _ _;rfl)|(rw [hv];rfl)
       |false=>
        have hk: ∀k,k<i+1->((atB L k).name.toList==nm.toList)=false:=fun k h=>by
         rcases Nat.lt_or_ge k i with h1|h1
         . exact k2 k h1
         . rw [show k=i by omega];exact hq
        repeat' (first|exact trivial|(with_reducible first|exact n1|exact n2|exact hib|exact hib.1|exact hib.2|exact nx hne)|refine ⟨?_, ?_⟩|intro _)
        all_goals first|(with_reducible apply qq)|(conv=>whnf)
        all_goals (try dsimp only)
        all_goals (try simp only [Int.toNat_natCast,Nat.zero_add] at*)
        all_goals first|omega|exact absurd (hq.symm.trans ‹_=true›) (by decide)|exact hk _ ‹_›|rfl|(exact congrArg (Value.int .i64) (by first|(rw [wI_id _ (by omega) (by omega)];omega)|omega|(dsimp only;omega)))|(intro _ _;rfl)
     . have hne:decide ((i:Int)<(L.length:Int))=false:=decide_eq_false (by omega)
       obtain rfl:i=L.length:=by omega
       have hv:=ixN_none k2
       repeat' (first|exact trivial|(with_reducible first|exact n1|exact n2|exact nx hne)|refine ⟨?_, ?_⟩|intro _)
       all_goals first|(with_reducible apply qq)|(conv=>whnf)
       all_goals first|omega|(rw [hv];done)|rfl|(intro _ _;rfl)|(rw [hv];rfl)
 . cases h
def FContB (nm:ByteArray):List Ar->Option Rs
 | [.c (.d (.lst 9 n0 f0)),.fv g1]=>some ⟨(n0<=1099511627776/\ RowsOk n0 f0)/\ (g1=gBn nm/\ True),.va (.c (.d (bo (bndN (gBs n0 f0) nm)))),[]⟩
 |_=>none
theorem fcContB (nm:ByteArray):FC Tryz.prog 49 (FContB nm):=by
 intro xs pre r us h hp;unfold FContB at h;split at h
 . rename_i n0 f0 g1
   cases h;obtain ⟨hp0,hp1⟩:=hp
   refine FCat.deep (ys:= [.c (.d (.lst 9 n0 (rwB (gBs n0 f0)))),.fv g1]) ?_ ?_
   . repeat' (first|exact trivial|exact rfl|exact DvE.refl _|refine ⟨?_, ?_⟩|fail)
     all_goals first|exact canonB hp0.2.h
   refine fcat tys_ok (l:= [(87,⟨[],(FIxB nm)⟩)]) ⟨(fcIxB nm),trivial⟩ Tryz.func49 rfl (by kernel_rfl) false ?_
   obtain ⟨rfl,_⟩:=hp1
   have hn:=hp0.1
   have hL:=okL_rows hp0.2
   have hlen:=gBs_length n0 f0
   generalize gBs n0 f0=L at*
   clear hp0;subst hlen;have hrow:=okL_row hL
   repeat' (first|exact trivial|(with_reducible first|assumption)|refine ⟨?_, ?_⟩|intro _)
   all_goals first|(with_reducible apply qq)|(conv=>whnf)
   all_goals (try simp only [gBs_row] at*)
   all_goals first|rfl|exact hrow|omega
 . cases h
def FKnown:List Ar->Option Rs
 | [.c (.d (.lst 12 n0 f0)),.agg [.d (.v (.string x1)),.d (.v (.int .i64 i1))]]=>some ⟨(n0<=1099511627776/\ RowsD n0 f0),.tup [Sv.ar (knS (gD n0 f0) (⟨x1,i1⟩:Ky)),.c (.d (bo (knB (gD n0 f0) (⟨x1,i1⟩:Ky))))],[]⟩
 |_=>none
theorem fcKnown:FC Tryz.prog 9 FKnown:=by
 intro xs pre r us h hp;unfold FKnown at h;split at h
 . rename_i n0 f0 x1 i1
   cases h;have hp0:=hp
   refine FCat.deep (ys:= [.c (.d (.lst 12 n0 (rwD (gD n0 f0)))),.agg [.d (.v (.string x1)),.d (.v (.int .i64 i1))]]) ?_ ?_
   . repeat' (first|exact trivial|exact rfl|exact DvE.refl _|refine ⟨?_, ?_⟩|fail)
     all_goals first|exact canonD hp0.2.h
   refine fcat tys_ok (l:= []) trivial Tryz.func9 rfl (by kernel_rfl) true ?_
   have hn:=hp0.1
   have hL:=okD_rows hp0.2
   have hlen:=gD_length n0 f0
   generalize gD n0 f0=L at*
   clear hp0;subst hlen
   repeat' (first|exact trivial|refine ⟨?_, ?_⟩|intro _)
   all_goals first|(with_reducible apply qq)|(conv=>whnf)
   refine loop_ok tys_ok (l:= []) trivial (by kernel_rfl) (X:=Nat)
    (fun i=>⟨[(9,vx (.int .i64 i)),(0,.va (.c (.d (lstD L)))),(3,.va (.c (.own 0 0))),(4,.va (.c (.own 1 0))),(5,vx (.bool false)),(8,vx (.int .i64 L.length))],[(1,.cells [.d (bo false),.d (.v (.slice none 0 0)),.d (bo false),.d (it 0),.d (it 0),.d (bo false),.d (it 0),.d (it 0),.d (bo false),.d (.v (.slice none 0 0))]),(0,.cells [.d (st x1),.d (it i1)])],2,26⟩)
    (fun i=>L.length-i) (fun i=>i<=L.length/\ ∀k,k<i->eqK (atD L k).k ⟨x1,i1⟩=false) [] []
    (fun i _ _=>i+1) [0,1] [0,1] 0 0 0 ?_ ?_ ?_
   . exact ⟨Nat.zero_le _,fun k h=>absurd h (Nat.not_lt_zero k)⟩
   . repeat' (first|exact trivial|exact rfl|(intro _ _;exact rfl)|refine ⟨?_, ?_⟩|fail)
   . rintro i ⟨k1,k2⟩
     rcases Nat.lt_or_ge i L.length with hi|hi
     . have hne:decide ((i:Int)<(L.length:Int))=true:=decide_eq_true (by omega)
       have hib:(0:Int)<=(i:Int)/\ (i:Int)<(L.length:Int):=by omega
       cases hq:eqK (atD L i).k ⟨x1,i1⟩ with
       |true=>
        have hv:=knF_some (k:=⟨x1,i1⟩) hi k2 hq
        repeat' (first|exact trivial|(with_reducible first|exact n1|exact n2|exact hib|exact hib.1|exact hib.2|exact nx hne)|refine ⟨?_, ?_⟩|intro _)
        all_goals first|(with_reducible apply qq)|(conv=>whnf)
        all_goals (try simp only [Int.toNat_natCast,Nat.zero_add] at*)
        all_goals first|omega|(rw [hv];done)|exact absurd (hq.symm.trans ‹_=false›) (by decide)|rfl|(intro _ _;rfl)|(unfold knS knB;rw [hv];done)|(unfold knS;rw [hv];rfl)|(unfold knB;rw [hv];rfl)
       |false=>
        have hk: ∀k,k<i+1->eqK (atD L k).k ⟨x1,i1⟩=false:=fun k h=>by
         rcases Nat.lt_or_ge k i with h1|h1
         . exact k2 k h1
         . rw [show k=i by omega];exact hq
        repeat' (first|exact trivial|(with_reducible first|exact n1|exact n2|exact hib|exact hib.1|exact hib.2|exact nx hne)|refine ⟨?_, ?_⟩|intro _)
        all_goals first|(with_reducible apply qq)|(conv=>whnf)
        all_goals (try dsimp only)
        all_goals (try simp only [Int.toNat_natCast,Nat.zero_add] at*)
        all_goals first|omega|exact absurd (hq.symm.trans ‹_=true›) (by decide)|exact hk _ ‹_›|rfl|(exact congrArg (Value.int .i64) (by first|(rw [wI_id _ (by omega) (by omega)];omega)|omega|(dsimp only;omega)))|(intro _ _;rfl)
     . have hne:decide ((i:Int)<(L.length:Int))=false:=decide_eq_false (by omega)
       obtain rfl:i=L.length:=by omega
       have hv:=knF_none (k:=⟨x1,i1⟩) k2
       repeat' (first|exact trivial|(with_reducible first|exact n1|exact n2|exact nx hne)|refine ⟨?_, ?_⟩|intro _)
       all_goals first|(with_reducible apply qq)|(conv=>whnf)
       all_goals first|omega|(rw [hv];done)|rfl|(intro _ _;rfl)|(unfold knS knB;rw [hv];done)|(unfold knS;rw [hv];rfl)|(unfold knB;rw [hv];rfl)
 . cases h
end Go.Proofs.YtokjghkehojenaaGreat
namespace Go.Proofs.YtokjghkehojenaaGreat
open Go.Sx
theorem shr32 (n:Int):n.fdiv (2^min (Int.toNat 32) IntKind.u64.bits)=n/4294967296:=by
 have e:(2^min (Int.toNat 32) IntKind.u64.bits:Int)=4294967296:=by decide
 rw [e,Int.fdiv_eq_ediv_of_nonneg _ (by decide)]
theorem and32 (n:Int):((BitVec.ofInt IntKind.u64.bits n&&&BitVec.ofInt IntKind.u64.bits 4294967295).toNat:Int)=n%4294967296:=by
 have e:(BitVec.ofInt IntKind.u64.bits 4294967295).toNat=2^32-1:=by decide
 have e2:((BitVec.ofInt IntKind.u64.bits n).toNat:Int)=n%18446744073709551616:=by
  rw [BitVec.toNat_ofInt];have:(0:Int)<=n%((2^IntKind.u64.bits:Nat):Int):=Int.emod_nonneg _ (by decide)
  rw [Int.toNat_of_nonneg this];rfl
 rw [BitVec.toNat_and,e,Nat.and_two_pow_sub_one_eq_mod];omega
theorem mod32 (n:Int):n%4294967296%18446744073709551616=n%4294967296:=by omega
theorem mul_le32 {a b:Int} (ha:0<=a/\ a<4294967296) (hb:0<=b/\ b<4294967296):0<=a*b/\ a*b<=18446744065119617025:=
 ⟨Int.mul_nonneg ha.1 hb.1,by have:=Int.mul_le_mul (show a<=4294967295 by omega) (show b<=4294967295 by omega) hb.1 (by decide);omega⟩
theorem mul_split (x1 x0 y1 y0:Int):(x1*4294967296+x0)*(y1*4294967296+y0)=(x1*y1)*18446744073709551616+(x1*y0+x0*y1)*4294967296+x0*y0:=by grind
theorem mul64_law {u v:Int} (hu:0<=u/\ u<18446744073709551616) (hv:0<=v/\ v<18446744073709551616):
 ((u/4294967296*(v/4294967296)+(u/4294967296*(v%4294967296)+u%4294967296*(v%4294967296)/4294967296)/4294967296)+((u/4294967296*(v%4294967296)+u%4294967296*(v%4294967296)/4294967296)%4294967296+u%4294967296*(v/4294967296))/4294967296)=u*v/18446744073709551616
 /\ (0<=u/4294967296*(v/4294967296)/\ u/4294967296*(v/4294967296)<=18446744065119617025)/\ (0<=u/4294967296*(v%4294967296)/\ u/4294967296*(v%4294967296)<=18446744065119617025)/\ (0<=u%4294967296*(v/4294967296)/\ u%4294967296*(v/4294967296)<=18446744065119617025)/\ (0<=u%4294967296*(v%4294967296)/\ u%4294967296*(v%4294967296)<=18446744065119617025)/\ u*v/18446744073709551616<18446744073709551616:=by
 have e:=mul_split (u/4294967296) (u%4294967296) (v/4294967296) (v%4294967296)
 have eu:u/4294967296*4294967296+u%4294967296=u:=by omega
 have ev:v/4294967296*4294967296+v%4294967296=v:=by omega
 rw [eu,ev] at e;have b1:=mul_le32 (a:=u/4294967296) (b:=v/4294967296) (by omega) (by omega)
 have b2:=mul_le32 (a:=u/4294967296) (b:=v%4294967296) (by omega) (by omega)
 have b3:=mul_le32 (a:=u%4294967296) (b:=v/4294967296) (by omega) (by omega)
 have b4:=mul_le32 (a:=u%4294967296) (b:=v%4294967296) (by omega) (by omega)
 refine ⟨?_,b1,b2,b3,b4, ?_⟩
 . rw [e]
   generalize u/4294967296*(v/4294967296)=d at*
   generalize u/4294967296*(v%4294967296)=b at*
   generalize u%4294967296*(v/4294967296)=c at*
   generalize u%4294967296*(v%4294967296)=a at*
   clear e eu ev hu hv;omega
 . rw [e]
   generalize u/4294967296*(v/4294967296)=d at*
   generalize u/4294967296*(v%4294967296)=b at*
   generalize u%4294967296*(v/4294967296)=c at*
   generalize u%4294967296*(v%4294967296)=a at*
   clear e eu ev hu hv;omega
def FMul64:List Ar->Option Rs
 | [.c (.d (.v (.int .u64 u0))),.c (.d (.v (.int .u64 u1)))]=>some ⟨(0<=u0/\ u0<18446744073709551616)/\ (0<=u1/\ u1<18446744073709551616),.tup [.c (.d (ut (u0*u1/18446744073709551616))),.c (.d (ut (u0*u1%18446744073709551616)))],[]⟩
 |_=>none
theorem fcMul64:FC Tryz.prog 142 FMul64:=by
 intro xs pre r us h hp;unfold FMul64 at h;split at h
 . rename_i u0 u1
   cases h;obtain ⟨hp0,hp1⟩:=hp
   refine fcat tys_ok (l:= []) trivial Tryz.func142 rfl (by kernel_rfl) false ?_
   repeat' (first|exact trivial|refine ⟨?_, ?_⟩|intro _)
   all_goals first|(with_reducible apply qq)|(conv=>whnf)
   all_goals refine congrArg (Value.int .u64) ?_
   all_goals simp only [shr32,and32,wU,mod32]
   all_goals first|rfl|skip
   obtain ⟨e,b1,b2,b3,b4,b5⟩:=mul64_law hp0 hp1
   rw [<-e] at b5⊢
   generalize u0/4294967296*(u1/4294967296)=d at*
   generalize u0/4294967296*(u1%4294967296)=b at*
   generalize u0%4294967296*(u1/4294967296)=c at*
   generalize u0%4294967296*(u1%4294967296)=a at*
   omega
 . cases h
def lenI (x:Int):Int:=if x=0 then 0 else ((x.toNat.log2+1:Nat):Int)
theorem len_key {a l x:Nat} (h0:2^l<=x/2^a) (h1:x/2^a<2^(l+1)):x≠0/\ x.log2=a+l:=by
 have p:=Nat.two_pow_pos a
 have q:=Nat.two_pow_pos l
 have k0:2^l*2^a<=x:=(Nat.le_div_iff_mul_le p).1 h0
 have k1:x<2^(l+1)*2^a:=(Nat.div_lt_iff_lt_mul p).1 h1
 have hx:x≠0:=by
  intro e;subst e;have:=Nat.mul_pos q p;omega
 refine ⟨hx,(Nat.log2_eq_iff hx).2 ⟨?_, ?_⟩⟩
 . rw [Nat.add_comm,Nat.pow_add];exact k0
 . rw [show a+l+1=(l+1)+a by omega,Nat.pow_add];exact k1
theorem lenI_r {x:Int} (h:0<=x/\ x<18446744073709551616):0<=lenI x/\ lenI x<=64:=by
 unfold lenI;split
 . omega
 . have:=(Nat.log2_lt (n:=x.toNat) (k:=64) (by omega)).2 (by omega)
   omega
theorem u8r (e:Int):0<=IntKind.u8.wrap e/\ IntKind.u8.wrap e<256:=by simp only [IntKind.wrap,IntKind.signed,IntKind.bits];simp;omega
theorem u8i {e:Int} (h0:0<=e) (h1:e<256):IntKind.u8.wrap e=e:=by simp only [IntKind.wrap,IntKind.signed,IntKind.bits];simp;omega
theorem lt_tab {t:ByteArray} (h:t.size=256) (e:Int):IntKind.u8.wrap e<(t.size:Int):=by rw [h];exact (u8r e).2
theorem shr8 (n:Int):n.fdiv (2^min (Int.toNat 8) IntKind.u64.bits)=n/256:=by
 have e:(2^min (Int.toNat 8) IntKind.u64.bits:Int)=256:=by decide
 rw [e,Int.fdiv_eq_ediv_of_nonneg _ (by decide)]
theorem shr16 (n:Int):n.fdiv (2^min (Int.toNat 16) IntKind.u64.bits)=n/65536:=by
 have e:(2^min (Int.toNat 16) IntKind.u64.bits:Int)=65536:=by decide
 rw [e,Int.fdiv_eq_ediv_of_nonneg _ (by decide)]
theorem len_fin {t:ByteArray} (ht:((List.range 256).all fun x=>byteAt t x==lenI x)=true) (a P:Nat) (hP:2^a=P) {u E N:Int} (hN:N=a) (ha:a<=56) (h0:0<=u) (hE:E=u/P) (h1:E<256) (h2:a=0 \/0<E):IntKind.i64.wrap (N+IntKind.i64.wrap (byteAt t (IntKind.u8.wrap E).toNat))=lenI u:=by
 obtain ⟨n,rfl⟩:=Int.eq_ofNat_of_zero_le h0
 subst hP hN;rw [<-Int.natCast_ediv] at hE;subst hE;have hb:n/2^a<256:=Int.ofNat_lt.1 h1
 rw [u8i (Int.natCast_nonneg _) h1,Int.toNat_natCast];have h3:=List.all_eq_true.1 ht (n/2^a) (List.mem_range.2 hb)
 rw [eq_of_beq h3];unfold lenI;by_cases hz:n/2^a=0
 . have ea:a=0:=by omega
   subst ea;have:n=0:=by omega
   subst this;rfl
 . have q1:=Nat.log2_self_le hz
   have q2:n/2^a<2^((n/2^a).log2+1):=Nat.lt_log2_self
   have q3:=len_key q1 q2
   have q4:(n/2^a).log2<8:=(Nat.log2_lt hz).2 hb
   rw [if_neg (by omega),if_neg (by omega),Int.toNat_natCast,Int.toNat_natCast,q3.2]
   generalize (n/2^a).log2=l at*
   rw [wI_id ((l+1:Nat):Int) (by omega) (by omega),wI_id _ (by omega) (by omega)];omega
def FLen64:List Ar->Option Rs
 | [.c (.d (.v (.int .u64 u0)))]=>some ⟨(0<=u0/\ u0<18446744073709551616),.va (.c (.d (it (lenI u0)))),[]⟩
 |_=>none
theorem fcLen64:FC Tryz.prog 184 FLen64:=by
 intro xs pre r us h hp;unfold FLen64 at h;split at h
 . rename_i u0
   cases h;have hp0:=hp
   refine fcat tys_ok (l:= []) trivial Tryz.func184 rfl (by kernel_rfl) false ?_
   repeat' (first|exact trivial|refine ⟨?_, ?_⟩|intro _)
   all_goals first|(with_reducible apply qq)|(conv=>whnf)
   all_goals (try simp only [decide_eq_true_eq,decide_eq_false_iff_not,shr8,shr16,shr32] at*)
   all_goals first|exact (u8r _).1|exact lt_tab (by kernel_rfl) _|skip
   all_goals first|exact congrArg (Value.int .i64) (len_fin (by kernel_rfl) 0 1 (by decide) (by decide) (by decide) hp0.1 (by omega) (by omega) (by omega))|exact congrArg (Value.int .i64) (len_fin (by kernel_rfl) 8 256 (by decide) (by decide) (by decide) hp0.1 (by omega) (by omega) (by omega))|exact congrArg (Value.int .i64) (len_fin (by kernel_rfl) 16 65536 (by decide) (by decide) (by decide) hp0.1 (by omega) (by omega) (by omega))|exact congrArg (Value.int .i64) (len_fin (by kernel_rfl) 24 16777216 (by decide) (by decide) (by decide) hp0.1 (by omega) (by omega) (by omega))|exact congrArg (Value.int .i64) (len_fin (by kernel_rfl) 32 4294967296 (by decide) (by decide) (by decide) hp0.1 (by omega) (by omega) (by omega))|exact congrArg (Value.int .i64) (len_fin (by kernel_rfl) 40 1099511627776 (by decide) (by decide) (by decide) hp0.1 (by omega) (by omega) (by omega))|exact congrArg (Value.int .i64) (len_fin (by kernel_rfl) 48 281474976710656 (by decide) (by decide) (by decide) hp0.1 (by omega) (by omega) (by omega))|exact congrArg (Value.int .i64) (len_fin (by kernel_rfl) 56 72057594037927936 (by decide) (by decide) (by decide) hp0.1 (by omega) (by omega) (by omega))
 . cases h
def FLead:List Ar->Option Rs
 | [.c (.d (.v (.int .u64 u0)))]=>some ⟨(0<=u0/\ u0<18446744073709551616),.va (.c (.d (it (64-lenI u0)))),[]⟩
 |_=>none
theorem fcLead:FC Tryz.prog 205 FLead:=by
 intro xs pre r us h hp;unfold FLead at h;split at h
 . rename_i u0
   cases h;have hp0:=hp
   refine fcat tys_ok (l:= [(184,⟨[],FLen64⟩)]) ⟨fcLen64,trivial⟩ Tryz.func205 rfl (by kernel_rfl) false ?_
   repeat' (first|exact trivial|refine ⟨?_, ?_⟩|intro _)
   all_goals first|(with_reducible apply qq)|(conv=>whnf)
   all_goals first|exact hp0.1|exact hp0.2|(refine congrArg (Value.int .i64) (wI_id _ ?_ ?_)<;>(have:=lenI_r hp0;omega))
 . cases h
theorem q_mul (q a c:Nat):q*(a*4294967296+c)=(q*a)*4294967296+q*c:=by
 rw [Nat.mul_add, <-Nat.mul_assoc]
structure Gq (a c u d q r:Nat):Prop where
 eq:q*a+r=u
 ge:u*4294967296+d<(q+1)*(a*4294967296+c)
 le:q<=4294967297
section
variable {a c u d q r:Nat} (ha:2147483648≤a) (ha2:a<4294967296) (hc:c<4294967296) (hu:u<a*4294967296+c) (hd:d<4294967296)
include ha ha2 hc hu hd
theorem gq_start:Gq a c u d (u/a) (u%a):=by
 have h1:=Nat.div_add_mod u a
 have h2:=Nat.mod_lt u (show 0<a by omega)
 have h3:u/a*a+u%a=u:=by rw [Nat.mul_comm];exact h1
 refine ⟨h3, ?_, ?_⟩
 . rw [q_mul,Nat.add_mul,Nat.one_mul];have h4:0<=(u/a+1)*c:=Nat.zero_le _
   generalize u/a*a=p at*
   omega
 . rcases Nat.lt_or_ge 4294967297 (u/a) with h|h
   . have h4:4294967298*a<=u/a*a:=Nat.mul_le_mul_right a h
     omega
   . exact h
theorem gq_big (g:Gq a c u d q r) (h:4294967296<=q \/4294967296*r+d<q*c):u*4294967296+d<q*(a*4294967296+c):=by
 have h1:=g.eq
 rcases h with h|h
 . have h2:4294967296*(a*4294967296+c)<=q*(a*4294967296+c):=Nat.mul_le_mul_right _ h
   omega
 . rw [q_mul];omega
theorem gq_next (g:Gq a c u d q r) (h:4294967296<=q \/4294967296*r+d<q*c):1<=q/\ Gq a c u d (q-1) (r+a):=by
 have h1:=gq_big ha ha2 hc hu hd g h
 have hq:1<=q:=by
  rcases Nat.eq_zero_or_pos q with h0|h0
  . subst h0;rw [Nat.zero_mul] at h1;omega
  . exact h0
 refine ⟨hq, ?_, ?_, ?_⟩
 . have h2:=g.eq
   have h3:(q-1)*a=q*a-a:=by rw [Nat.sub_mul,Nat.one_mul]
   have h4:a<=q*a:=Nat.le_mul_of_pos_left a hq
   rw [h3];omega
 . rw [Nat.sub_add_cancel hq];exact h1
 . have:=g.le;omega
theorem gq_done (g:Gq a c u d q r) (h1:q<4294967296) (h2:q*c<=4294967296*r+d):(u*4294967296+d)/(a*4294967296+c)=q:=by
 refine Nat.div_eq_of_lt_le ?_ g.ge
 rw [q_mul];have:=g.eq
 omega
theorem gq_out (g:Gq a c u d q r) (h1:q<=4294967296) (h2:4294967296<=r):(u*4294967296+d)/(a*4294967296+c)=q:=by
 refine Nat.div_eq_of_lt_le ?_ g.ge
 rw [q_mul];have h3:=g.eq
 have h4:q*c<=4294967296*c:=Nat.mul_le_mul_right c h1
 omega
theorem digit_lt:(u*4294967296+d)/(a*4294967296+c)<4294967296:=by
 rw [Nat.div_lt_iff_lt_mul (by omega)];have:4294967296*(a*4294967296+c)≥4294967296*(u+1):=Nat.mul_le_mul_left _ hu
 omega
end
theorem halves (u d e y:Nat):((u*4294967296+d)%y*4294967296+e)%y=((u*4294967296+d)*4294967296+e)%y:=by
 rw [Nat.add_mod,Nat.mul_mod,Nat.mod_mod, <-Nat.mul_mod, <-Nat.add_mod]
theorem halves_n (n e y:Nat) (hy:0<y):n/y*4294967296+(n%y*4294967296+e)/y=(n*4294967296+e)/y:=by
 have h:=Nat.div_add_mod n y
 have e1:n*4294967296+e=y*(n/y*4294967296)+(n%y*4294967296+e):=by
  have:n*4294967296=(y*(n/y)+n%y)*4294967296:=by rw [h]
  rw [this,Nat.add_mul,Nat.mul_assoc];omega
 rw [e1,Nat.mul_add_div hy]
theorem halves_div (u d e y:Nat) (hy:0<y):(u*4294967296+d)/y*4294967296+((u*4294967296+d)%y*4294967296+e)/y=((u*4294967296+d)*4294967296+e)/y:=halves_n _ e y hy
theorem shift_mod (v y s:Nat):(v*2^s)%(y*2^s)=(v%y)*2^s:=by
 rw [Nat.mul_comm v,Nat.mul_comm y,Nat.mul_mod_mul_left,Nat.mul_comm]
theorem shift_div (v y s:Nat):(v*2^s)/(y*2^s)=v/y:=Nat.mul_div_mul_right _ _ (Nat.two_pow_pos s)
theorem quoN {u a:Nat} (ha:0<a) (hu:u<18446744073709551616):IntKind.u64.wrap ((u:Int).tdiv (a:Int))=((u/a:Nat):Int):=by
 have h:=Nat.div_le_self u a
 rw [Int.tdiv_eq_ediv_of_nonneg (Int.natCast_nonneg _), <-Int.natCast_ediv]
 generalize u/a=m at*
 rw [wU];omega
theorem remN {u a:Nat} (ha:0<a) (hu:u<18446744073709551616):IntKind.u64.wrap ((u:Int)-IntKind.u64.wrap (((u/a:Nat):Int)*(a:Int)))=((u%a:Nat):Int):=by
 have h:=Nat.div_add_mod u a
 rw [<-Int.natCast_mul,Nat.mul_comm (u/a)]
 generalize a*(u/a)=p at*
 generalize u%a=m at*
 rw [wU,wU];omega
theorem condN {q c r d:Nat} (hq:q<=4294967297) (hc:c<4294967296) (hr:r<4294967296) (hd:d<4294967296):IntKind.u64.wrap ((q:Int)*(c:Int))=((q*c:Nat):Int)/\ IntKind.u64.wrap (IntKind.u64.wrap (4294967296*(r:Int))+(d:Int))=((4294967296*r+d:Nat):Int):=by
 have h:q*c<=4294967297*4294967295:=Nat.mul_le_mul hq (by omega)
 rw [<-Int.natCast_mul]
 generalize q*c=p at*
 rw [wU,wU,wU];omega
theorem subN {q u d y:Nat} (hq:q=(u*4294967296+d)/y) (hd:d<4294967296) (hy:0<y) (hY:y<18446744073709551616):IntKind.u64.wrap (IntKind.u64.wrap (IntKind.u64.wrap ((u:Int)*4294967296)+(d:Int))-IntKind.u64.wrap ((q:Int)*(y:Int)))=(((u*4294967296+d)%y:Nat):Int):=by
 have h:=Nat.div_add_mod (u*4294967296+d) y
 have h2:=Nat.mod_lt (u*4294967296+d) hy
 subst hq;rw [<-Int.natCast_mul,Nat.mul_comm _ y]
 generalize (u*4294967296+d)%y=m at*
 generalize y*((u*4294967296+d)/y)=p at*
 rw [wU,wU,wU,wU];omega
theorem predN {q:Nat} (h:1<=q) (h2:q<18446744073709551616):IntKind.u64.wrap ((q:Int)-1)=((q-1:Nat):Int):=by rw [wU];omega
theorem addN {r a:Nat} (h:r+a<18446744073709551616):IntKind.u64.wrap ((r:Int)+(a:Int))=((r+a:Nat):Int):=by rw [wU];omega
theorem dig_a {A C U D q r:Nat} (rA:2147483648<=A) (rA2:A<4294967296) (rC:C<4294967296) (rU:U<A*4294967296+C) (rD:D<4294967296) (g:Gq A C U D q r) (_:r<4294967296) (h:decide ((q:Int)≥4294967296)=true):1<=q/\ Gq A C U D (q-1) (r+A):=gq_next rA rA2 rC rU rD g (.inl (by have:=of_decide_eq_true h;omega))
theorem dig_b {A C U D q r:Nat} (rA:2147483648<=A) (rA2:A<4294967296) (rC:C<4294967296) (rU:U<A*4294967296+C) (rD:D<4294967296) (g:Gq A C U D q r) (rr:r<4294967296) (h:decide (IntKind.u64.wrap ((q:Int)*(C:Int))>IntKind.u64.wrap (IntKind.u64.wrap (4294967296*(r:Int))+(D:Int)))=true):1<=q/\ Gq A C U D (q-1) (r+A):=by
 have h:=of_decide_eq_true h
 rw [(condN g.le rC rr rD).1,(condN g.le rC rr rD).2] at h;exact gq_next rA rA2 rC rU rD g (.inr (by omega))
theorem dig_end {A C U D q r:Nat} (rA:2147483648<=A) (rA2:A<4294967296) (rC:C<4294967296) (rU:U<A*4294967296+C) (rD:D<4294967296) (g:Gq A C U D q r) (rr:r<4294967296) (h0:decide ((q:Int)≥4294967296)=false) (h:decide (IntKind.u64.wrap ((q:Int)*(C:Int))>IntKind.u64.wrap (IntKind.u64.wrap (4294967296*(r:Int))+(D:Int)))=false):q=(U*4294967296+D)/(A*4294967296+C):=by
 have h:=of_decide_eq_false h
 have h0:=of_decide_eq_false h0
 rw [(condN g.le rC rr rD).1,(condN g.le rC rr rD).2] at h;exact (gq_done rA rA2 rC rU rD g (by omega) (by omega)).symm
theorem dig_out {A C U D q r:Nat} (rA:2147483648<=A) (rA2:A<4294967296) (rC:C<4294967296) (rU:U<A*4294967296+C) (rD:D<4294967296) (g:1<=q/\ Gq A C U D (q-1) (r+A)) (rr:r<4294967296) (hl:q<=4294967297) (h:decide (IntKind.u64.wrap ((r:Int)+(A:Int))≥4294967296)=true):q-1=(U*4294967296+D)/(A*4294967296+C):=by
 have h:=of_decide_eq_true h
 rw [addN (by omega)] at h;exact (gq_out rA rA2 rC rU rD g.2 (by omega) (by omega)).symm
theorem dig_in {A r:Nat} (rA2:A<4294967296) (rr:r<4294967296) (h:decide (IntKind.u64.wrap ((r:Int)+(A:Int))≥4294967296)=false):r+A<4294967296:=by
 have h:=of_decide_eq_false h
 rw [addN (by omega)] at h;omega
theorem shlN {a k:Nat} (hk:k<=63):IntKind.u64.wrap ((a:Int)*2^min (k:Int).toNat IntKind.u64.bits)=((a*2^k%18446744073709551616:Nat):Int):=by
 have e:min (k:Int).toNat IntKind.u64.bits=k:=by rw [Int.toNat_natCast];exact Nat.min_eq_left (by show k<=64;omega)
 have e2:(a:Int)*2^k=((a*2^k:Nat):Int):=by rw [Int.natCast_mul,Int.natCast_pow];rfl
 rw [e,e2,wU];omega
theorem shrN {a k:Nat} (hk:k<=64):(a:Int).fdiv (2^min (k:Int).toNat IntKind.u64.bits)=((a/2^k:Nat):Int):=by
 have e:min (k:Int).toNat IntKind.u64.bits=k:=by rw [Int.toNat_natCast];exact Nat.min_eq_left (by show k<=64;omega)
 have e2:(2:Int)^k=((2^k:Nat):Int):=by rw [Int.natCast_pow];rfl
 rw [e,e2,Int.fdiv_eq_ediv_of_nonneg _ (Int.natCast_nonneg _)];rfl
theorem shr32N (a:Nat):(a:Int).fdiv (2^min (Int.toNat 32) IntKind.u64.bits)=((a/4294967296:Nat):Int):=by rw [shr32];omega
theorem and32N (a:Nat):IntKind.u64.wrap ((BitVec.ofInt IntKind.u64.bits (a:Int)&&&BitVec.ofInt IntKind.u64.bits 4294967295).toNat:Int)=((a%4294967296:Nat):Int):=by rw [and32,wU];omega
theorem bv_nat {a:Nat} (h:a<18446744073709551616):(BitVec.ofInt IntKind.u64.bits (a:Int)).toNat=a:=by
 rw [BitVec.toNat_ofInt];have e:((2^IntKind.u64.bits:Nat):Int)=18446744073709551616:=by decide
 rw [e];omega
theorem orN {a b k:Nat} (hb:b<2^k) (h:2^k*a+b<18446744073709551616):IntKind.u64.wrap ((BitVec.ofInt IntKind.u64.bits ((2^k*a:Nat):Int)|||BitVec.ofInt IntKind.u64.bits (b:Int)).toNat:Int)=((2^k*a+b:Nat):Int):=by
 rw [BitVec.toNat_or,bv_nat (by omega),bv_nat (by omega), <-Nat.two_pow_add_eq_or_of_lt hb,wU];omega
theorem div_shift {h l y k:Nat} (hl:l<18446744073709551616) (hy:h<y) (hk:k<=63) (hY:y*2^k<18446744073709551616):(h*2^k<18446744073709551616/\ l/2^(64-k)<2^k)/\ 2^k*h+l/2^(64-k)<y*2^k/\ (2^k*h+l/2^(64-k))*18446744073709551616+l*2^k%18446744073709551616=(h*18446744073709551616+l)*2^k:=by
 have e:18446744073709551616=2^(64-k)*2^k:=by rw [<-Nat.pow_add,show 64-k+k=64 by omega]
 have p:=Nat.two_pow_pos k
 have p2:=Nat.two_pow_pos (64-k)
 have h1:l*2^k/18446744073709551616=l/2^(64-k):=by rw [e];exact Nat.mul_div_mul_right _ _ p
 have h2:=Nat.div_add_mod (l*2^k) 18446744073709551616
 have h3:l/2^(64-k)<2^k:=by rw [Nat.div_lt_iff_lt_mul p2,Nat.mul_comm, <-e];exact hl
 have h4:(h+1)*2^k<=y*2^k:=Nat.mul_le_mul_right _ hy
 rw [Nat.add_mul,Nat.one_mul] at h4;have h5:(h*18446744073709551616+l)*2^k=h*2^k*18446744073709551616+l*2^k:=by rw [Nat.add_mul,Nat.mul_right_comm]
 rw [h5,Nat.mul_comm (2^k) h];rw [h1] at h2
 generalize h*2^k=a at*
 generalize l/2^(64-k)=b at*
 generalize l*2^k%18446744073709551616=c at*
 refine ⟨⟨by omega,h3⟩,by omega,by omega⟩
theorem lead_ok {y:Nat} (h0:0<y) (h:y<18446744073709551616): ∃k:Nat,IntKind.u64.wrap (64-lenI (y:Int))=(k:Int)/\ IntKind.u64.wrap (64-(k:Int))=((64-k:Nat):Int)/\ k<=63/\ 9223372036854775808<=y*2^k/\ y*2^k<18446744073709551616:=by
 have hz:y≠0:=by omega
 have q1:=Nat.log2_self_le hz
 have q2:y<2^(y.log2+1):=Nat.lt_log2_self
 have q3:y.log2<64:=(Nat.log2_lt hz).2 h
 refine ⟨63-y.log2, ?_, ?_,by omega, ?_, ?_⟩
 . unfold lenI;rw [if_neg (by omega),Int.toNat_natCast,wU];omega
 . rw [wU];omega
 . have:=Nat.mul_le_mul_right (2^(63-y.log2)) q1
   rw [<-Nat.pow_add,show y.log2+(63-y.log2)=63 by omega] at this;exact this
 . have:=(Nat.mul_lt_mul_right (Nat.two_pow_pos (63-y.log2))).2 q2
   rw [<-Nat.pow_add,show y.log2+1+(63-y.log2)=64 by omega] at this;exact this
theorem dm_eq {Y A C:Nat} (h1:A=Y/4294967296) (h2:C=Y%4294967296):A*4294967296+C=Y:=by omega
theorem hvv {U X D E V:Nat} (h1:D=X/4294967296) (h2:E=X%4294967296) (h:U*18446744073709551616+X=V):(U*4294967296+D)*4294967296+E=V:=by
 have e:X=D*4294967296+E:=by omega
 have e2:U*4294967296*4294967296=U*18446744073709551616:=Nat.mul_assoc U 4294967296 4294967296
 rw [Nat.add_mul,e2,Nat.add_assoc, <-e];exact h
theorem div_fin {h l y k U D E W Y q1 q0:Nat} (hy:0<y) (hY:Y=y*2^k) (hV:(U*4294967296+D)*4294967296+E=(h*18446744073709551616+l)*2^k) (hW:W=(U*4294967296+D)%Y) (h1:q1=(U*4294967296+D)/Y) (h0:q0=(W*4294967296+E)/Y):q1*4294967296+q0=(h*18446744073709551616+l)/y/\ (W*4294967296+E)%Y/2^k=(h*18446744073709551616+l)%y:=by
 have p:=Nat.two_pow_pos k
 have pY:0<Y:=by rw [hY];exact Nat.mul_pos hy p
 subst hW h1 h0;rw [halves_div U D E Y pY,halves U D E Y,hV,hY,shift_div,shift_mod];exact ⟨rfl,Nat.mul_div_cancel _ p⟩
theorem hl_div {h l y:Nat}:((h:Int)*18446744073709551616+(l:Int))/(y:Int)=(((h*18446744073709551616+l)/y:Nat):Int):=by rw [Int.natCast_ediv,Int.natCast_add,Int.natCast_mul];rfl
theorem hl_mod {h l y:Nat}:((h:Int)*18446744073709551616+(l:Int))%(y:Int)=(((h*18446744073709551616+l)%y:Nat):Int):=by rw [Int.natCast_emod,Int.natCast_add,Int.natCast_mul];rfl
theorem fin_q {h l y k U D E W Y q1 q0:Nat} (hy:0<y) (hY:Y=y*2^k) (hV:(U*4294967296+D)*4294967296+E=(h*18446744073709551616+l)*2^k) (hW:W=(U*4294967296+D)%Y) (h1:q1=(U*4294967296+D)/Y) (h0:q0=(W*4294967296+E)/Y) (b1:q1<4294967296) (b0:q0<4294967296):IntKind.u64.wrap (IntKind.u64.wrap ((q1:Int)*4294967296)+(q0:Int))=((h:Int)*18446744073709551616+(l:Int))/(y:Int):=by
 have:=(div_fin hy hY hV hW h1 h0).1
 rw [hl_div, <-this,wU,wU];omega
theorem fin_r {h l y k U D E W Y q1 q0:Nat} (hy:0<y) (hY:Y=y*2^k) (hV:(U*4294967296+D)*4294967296+E=(h*18446744073709551616+l)*2^k) (hW:W=(U*4294967296+D)%Y) (h1:q1=(U*4294967296+D)/Y) (h0:q0=(W*4294967296+E)/Y) (rE:E<4294967296) (pY:0<Y) (rY:Y<18446744073709551616) (hk:k<=63):(IntKind.u64.wrap (IntKind.u64.wrap (IntKind.u64.wrap ((W:Int)*4294967296)+(E:Int))-IntKind.u64.wrap ((q0:Int)*(Y:Int)))).fdiv (2^min (k:Int).toNat IntKind.u64.bits)=((h:Int)*18446744073709551616+(l:Int))%(y:Int):=by
 have:=(div_fin hy hY hV hW h1 h0).2
 rw [subN h0 rE pY rY,shrN (by omega),hl_mod, <-this]
theorem zero_q {l y:Nat} (hl:l<18446744073709551616):IntKind.u64.wrap ((l:Int).tdiv (y:Int))=(((0:Nat):Int)*18446744073709551616+(l:Int))/(y:Int):=by
 have h:=Nat.div_le_self l y
 rw [hl_div,Int.tdiv_eq_ediv_of_nonneg (Int.natCast_nonneg _), <-Int.natCast_ediv,Nat.zero_mul,Nat.zero_add]
 generalize l/y=m at*
 rw [wU];omega
theorem zero_r {l y:Nat}:(l:Int).tmod (y:Int)=(((0:Nat):Int)*18446744073709551616+(l:Int))%(y:Int):=by
 rw [hl_mod,Int.tmod_eq_emod_of_nonneg (Int.natCast_nonneg _), <-Int.natCast_emod,Nat.zero_mul,Nat.zero_add]
theorem run_shl {P:Program} {t:TypeId} {xo yo:Operand} {k k':IntKind} {a b:Int} (h:0<=b):pureRun P (do eqGuard .shl t xo yo (.int k a) (.int k' b);binOp .shl t (.int k a) (.int k' b))=some (.int k (k.wrap (a*2^min b.toNat k.bits))):=by
 show pureRun P (Op.shift .shl k a k' b)=_
 unfold Op.shift;rw [if_neg (by omega)];rfl
theorem run_shr {P:Program} {t:TypeId} {xo yo:Operand} {k k':IntKind} {a b:Int} (h:0<=b):pureRun P (do eqGuard .shr t xo yo (.int k a) (.int k' b);binOp .shr t (.int k a) (.int k' b))=some (.int k (a.fdiv (2^min b.toNat k.bits))):=by
 show pureRun P (Op.shift .shr k a k' b)=_
 unfold Op.shift;rw [if_neg (by omega)];rfl
def FDiv64:List Ar->Option Rs
 | [.c (.d (.v (.int .u64 u0))),.c (.d (.v (.int .u64 u1))),.c (.d (.v (.int .u64 u2)))]=>some ⟨(0<=u0/\ u0<18446744073709551616)/\ (0<=u1/\ u1<18446744073709551616)/\ (0<=u2/\ u2<18446744073709551616)/\ (u0<u2),.tup [.c (.d (ut ((u0*18446744073709551616+u1)/u2))),.c (.d (ut ((u0*18446744073709551616+u1)%u2)))],[]⟩
 |_=>none
abbrev sl2L:List (Nat×Sm):= [(205,⟨[],FLead⟩)]
theorem sp2L:sumsOk Tryz.prog sl2L:=⟨fcLead,trivial⟩
theorem fcDiv64:FC Tryz.prog 173 FDiv64:=by
 intro xs pre r us h hp;unfold FDiv64 at h;split at h
 . rename_i u0 u1 u2
   cases h;obtain ⟨hp0,hp1,hp2,hp3⟩:=hp
   refine fcat tys_ok (l:=sl2L) sp2L Tryz.func173 rfl (by kernel_rfl) false ?_
   obtain ⟨h,rfl⟩:=Int.eq_ofNat_of_zero_le hp0.1
   obtain ⟨l,rfl⟩:=Int.eq_ofNat_of_zero_le hp1.1
   obtain ⟨y,rfl⟩:=Int.eq_ofNat_of_zero_le hp2.1
   obtain ⟨k,e1,e2,hk,hY0,hY⟩:=lead_ok (y:=y) (by omega) (by omega)
   obtain ⟨⟨hh,hb⟩,hUY,hV⟩:=div_shift (h:=h) (l:=l) (by omega) (by omega) hk hY
   obtain ⟨Y,hYd⟩: ∃Y,Y=y*2^k:=⟨_,rfl⟩
   have eY:y*2^k%18446744073709551616=Y:=by rw [hYd];exact Nat.mod_eq_of_lt hY
   have eH:h*2^k%18446744073709551616=2^k*h:=by rw [Nat.mod_eq_of_lt hh,Nat.mul_comm]
   have hU:2^k*h+l/2^(64-k)<18446744073709551616:=by omega
   obtain ⟨U,hUd⟩: ∃U,U=2^k*h+l/2^(64-k):=⟨_,rfl⟩
   have qY0:9223372036854775808<=Y:=by rw [hYd];exact hY0
   have qY:Y<18446744073709551616:=by rw [hYd];exact hY
   have qU:U<Y:=by rw [hYd,hUd];exact hUY
   obtain ⟨A,hAd⟩: ∃A,A=Y/4294967296:=⟨_,rfl⟩
   obtain ⟨C,hCd⟩: ∃C,C=Y%4294967296:=⟨_,rfl⟩
   obtain ⟨X,hXd⟩: ∃X,X=l*2^k%18446744073709551616:=⟨_,rfl⟩
   obtain ⟨D,hDd⟩: ∃D,D=X/4294967296:=⟨_,rfl⟩
   obtain ⟨E,hEd⟩: ∃E,E=X%4294967296:=⟨_,rfl⟩
   have rX:X<18446744073709551616:=by rw [hXd];omega
   have eYA:A*4294967296+C=Y:=dm_eq hAd hCd
   have rA:2147483648<=A:=by omega
   have rA2:A<4294967296:=by omega
   have rC:C<4294967296:=by omega
   have rD:D<4294967296:=by omega
   have rE:E<4294967296:=by omega
   have hVV:(U*4294967296+D)*4294967296+E=(h*18446744073709551616+l)*2^k:=by rw [<-hUd, <-hXd] at hV;exact hvv hDd hEd hV
   have rU:U<A*4294967296+C:=by omega
   have eQ:=quoN (u:=U) (a:=A) (by omega) (by omega)
   have eR:=remN (u:=U) (a:=A) (by omega) (by omega)
   repeat' (first|exact trivial|refine ⟨?_, ?_⟩|intro _)
   all_goals first|(with_reducible apply qq)|(conv=>whnf)
   all_goals first|(exfalso;have q0:=‹Int.fdiv _ _=0›;rw [shr32N] at q0;omega)|(with_reducible show Value.int _ _=Value.int _ _)|(simp only [decide_eq_true_eq,decide_eq_false_iff_not,beq_iff_eq,beq_eq_false_iff_ne] at*;omega)|skip
   all_goals first|(with_reducible show Value.int _ _=Value.int _ _)|(rw [e1,run_shl (Int.natCast_nonneg k),shlN hk,eY])|skip
   repeat' (first|exact trivial|refine ⟨?_, ?_⟩|intro _)
   all_goals first|(with_reducible apply qq)|(conv=>whnf)
   all_goals first|(exfalso;have q0:=‹Int.fdiv _ _=0›;rw [shr32N] at q0;omega)|(with_reducible show Value.int _ _=Value.int _ _)|(simp only [decide_eq_true_eq,decide_eq_false_iff_not,beq_iff_eq,beq_eq_false_iff_ne] at*;omega)|skip
   all_goals first|(with_reducible show Value.int _ _=Value.int _ _)|(rw [shr32N,and32N, <-hAd, <-hCd,shlN hk,eH,e2,run_shr (Int.natCast_nonneg (64-k)),shrN (by omega)])|skip
   repeat' (first|exact trivial|refine ⟨?_, ?_⟩|intro _)
   all_goals first|(with_reducible apply qq)|(conv=>whnf)
   all_goals first|(exfalso;have q0:=‹Int.fdiv _ _=0›;rw [shr32N] at q0;omega)|(with_reducible show Value.int _ _=Value.int _ _)|(simp only [decide_eq_true_eq,decide_eq_false_iff_not,beq_iff_eq,beq_eq_false_iff_ne] at*;omega)|skip
   all_goals first|(with_reducible show Value.int _ _=Value.int _ _)|(rw [orN hb hU, <-hUd,shlN hk, <-hXd,shr32N,and32N, <-hDd, <-hEd,eQ,eR])|skip
   all_goals first|(have hz:h=0:=(by have:=‹((h:Int)==0)=true›;rw [beq_iff_eq] at this;omega);subst hz;refine congrArg (Value.int .u64) ?_;first|exact zero_r|exact zero_q (by omega))|skip
   refine loop_ok tys_ok (l:=sl2L) sp2L (by kernel_rfl) (X:=Nat×Nat) (fun x=>⟨[(15,vx (.int .u64 x.1)),(16,vx (.int .u64 x.2)),(2,vx (.int .u64 Y)),(8,vx (.int .u64 k)),(9,vx (.int .u64 A)),(10,vx (.int .u64 C)),(11,vx (.int .u64 U)),(13,vx (.int .u64 D)),(14,vx (.int .u64 E))],[],0,135⟩) (fun x=>x.1)
    (fun x=>Gq A C U D x.1 x.2/\ x.2<4294967296) [15,16] [] (fun x _ _=>(x.1-1,x.2+A)) [] [] 0 0 (U/A,U%A) ?_ ?_ ?_
   . exact ⟨gq_start rA rA2 rC rU rD,by have:=Nat.mod_lt U (show 0<A by omega);omega⟩
   . repeat' (first|exact trivial|exact rfl|(intro _ _;exact rfl)|refine ⟨?_, ?_⟩)
   . rintro ⟨q,r⟩ ⟨g,rr⟩
     change Gq A C U D q r at g
     change r<4294967296 at rr
     have gl:=g.le
     repeat' (first|exact trivial|refine ⟨?_, ?_⟩|intro _)
     all_goals first|(with_reducible apply qq)|(conv=>whnf)
     all_goals first|(with_reducible show ASat _ _ _ _ _)|rfl|((with_reducible show idsOk _ _=true);rfl)|(exfalso;have q0:=‹(_:Int)=0›;omega)|skip
     all_goals first|(have gn:=dig_a rA rA2 rC rU rD g rr ‹_›)|(have gn:=dig_b rA rA2 rC rU rD g rr ‹decide (_>_)=true›)|(have ge:=dig_end rA rA2 rC rU rD g rr ‹_› ‹decide (_>_)=false›)
     all_goals first|(have go:=dig_out rA rA2 rC rU rD gn rr gl ‹decide (IntKind.u64.wrap (_+_)≥_)=true›)|(have gi:=dig_in rA2 rr ‹decide (IntKind.u64.wrap (_+_)≥_)=false›)|skip
     all_goals first|exact gn.2|exact gi|(show q-1<q;omega)|exact congrArg (Value.int .u64) (predN gn.1 (by omega))|exact congrArg (Value.int .u64) (addN (by omega))|skip
     all_goals (with_reducible show ASat _ _ _ _ _)
     all_goals first|(obtain ⟨q1,hq1⟩: ∃q1,q1=q-1:=⟨_,rfl⟩;rw [predN gn.1 (by omega)];rw [<-hq1] at go⊢;have gq:=go)|(obtain ⟨q1,hq1⟩: ∃q1,q1=q:=⟨_,rfl⟩;rw [<-hq1] at ge⊢;have gq:=ge)
     all_goals (rw [eYA] at gq;obtain ⟨W,hWd⟩: ∃W,W=(U*4294967296+D)%Y:=⟨_,rfl⟩;have rW:W<A*4294967296+C:=by rw [eYA,hWd];exact Nat.mod_lt _ (by omega))
     all_goals (rw [subN gq rD (by omega) qY, <-hWd,quoN (u:=W) (a:=A) (by omega) (by omega),remN (u:=W) (a:=A) (by omega) (by omega)])
     all_goals
      refine loop_ok tys_ok (l:=sl2L) sp2L (by kernel_rfl) (X:=Nat×Nat) (fun x=>⟨[(18,vx (.int .u64 x.1)),(16,vx (.int .u64 x.2)),(2,vx (.int .u64 Y)),(8,vx (.int .u64 k)),(9,vx (.int .u64 A)),(10,vx (.int .u64 C)),(15,vx (.int .u64 q1)),(17,vx (.int .u64 W)),(14,vx (.int .u64 E))],[],0,135⟩) (fun x=>x.1)
       (fun x=>Gq A C W E x.1 x.2/\ x.2<4294967296) [18,16] [] (fun x _ _=>(x.1-1,x.2+A)) [] [] 0 0 (W/A,W%A) ?_ ?_ ?_
      . exact ⟨gq_start rA rA2 rC rW rE,by have:=Nat.mod_lt W (show 0<A by omega);omega⟩
      . repeat' (first|exact trivial|exact rfl|(intro _ _;exact rfl)|refine ⟨?_, ?_⟩)
      . rintro ⟨q,r⟩ ⟨g,rr⟩
        change Gq A C W E q r at g
        change r<4294967296 at rr
        have gl:=g.le
        repeat' (first|exact trivial|refine ⟨?_, ?_⟩|intro _)
        all_goals first|(with_reducible apply qq)|(conv=>whnf)
        all_goals first|(with_reducible show ASat _ _ _ _ _)|rfl|((with_reducible show idsOk _ _=true);rfl)|(exfalso;have q0:=‹(_:Int)=0›;omega)|skip
        all_goals first|(have gn:=dig_a rA rA2 rC rW rE g rr ‹_›)|(have gn:=dig_b rA rA2 rC rW rE g rr ‹decide (_>_)=true›)|(have ge:=dig_end rA rA2 rC rW rE g rr ‹_› ‹decide (_>_)=false›)
        all_goals first|(have go:=dig_out rA rA2 rC rW rE gn rr gl ‹decide (IntKind.u64.wrap (_+_)≥_)=true›)|(have gi:=dig_in rA2 rr ‹decide (IntKind.u64.wrap (_+_)≥_)=false›)|skip
        all_goals first|exact gn.2|exact gi|(show q-1<q;omega)|exact congrArg (Value.int .u64) (predN gn.1 (by omega))|exact congrArg (Value.int .u64) (addN (by omega))|skip
        all_goals first|(rw [predN gn.1 (by omega)];obtain ⟨q0,hq0⟩: ∃q0,q0=q-1:=⟨_,rfl⟩;rw [<-hq0] at go⊢;have gq0:=go)|(obtain ⟨q0,hq0⟩: ∃q0,q0=q:=⟨_,rfl⟩;rw [<-hq0] at ge⊢;have gq0:=ge)
        all_goals rw [eYA] at gq0
        all_goals refine congrArg (Value.int .u64) ?_
        all_goals first|exact fin_r (by omega) hYd hVV hWd gq gq0 rE (by omega) qY hk|exact fin_q (by omega) hYd hVV hWd gq gq0 (by rw [gq, <-eYA];exact digit_lt rA rA2 rC rU rD) (by rw [gq0, <-eYA];exact digit_lt rA rA2 rC rW rE)
 . cases h
def sizeI (n:Int):Int:=if n<0 then-n else n
theorem sizeI_r {n:Int} (h: -9223372036854775808<=n/\ n<9223372036854775808):0<=sizeI n/\ sizeI n<=9223372036854775808:=by unfold sizeI;split<;>omega
theorem size_t {n:Int} (h: -9223372036854775808<=n/\ n<9223372036854775808) (h2:decide (n<0)=true):IntKind.u64.wrap (0-IntKind.u64.wrap n)=sizeI n:=by
 have:=of_decide_eq_true h2
 unfold sizeI;rw [if_pos this,wU,wU];omega
theorem size_f {n:Int} (h: -9223372036854775808<=n/\ n<9223372036854775808) (h2:decide (n<0)=false):IntKind.u64.wrap n=sizeI n:=by
 have:=of_decide_eq_false h2
 unfold sizeI;rw [if_neg this,wU];omega
theorem size_mul {a b:Int} (ha: -9223372036854775808<=a/\ a<9223372036854775808) (hb: -9223372036854775808<=b/\ b<9223372036854775808):(0<=sizeI a*sizeI b/\ sizeI a*sizeI b<=85070591730234615865843651857942052864)/\ ((decide (a<0) !=decide (b<0))=true->sizeI a*sizeI b= -(a*b))/\ ((decide (a<0) !=decide (b<0))=false->sizeI a*sizeI b=a*b):=by
 have h1:=sizeI_r ha
 have h2:=sizeI_r hb
 refine ⟨⟨Int.mul_nonneg h1.1 h2.1,by have:=Int.mul_le_mul h1.2 h2.2 h2.1 (by decide);omega⟩, ?_, ?_⟩
 . intro h;unfold sizeI;by_cases h3:a<0<;>by_cases h4:b<0<;>simp [h3,h4,Int.neg_mul,Int.mul_neg] at h⊢
 . intro h;unfold sizeI;by_cases h3:a<0<;>by_cases h4:b<0<;>simp [h3,h4,Int.neg_mul,Int.mul_neg] at h⊢
theorem wd_parts {p:Int} (h:0<=p/\ p<=85070591730234615865843651857942052864):(⟨IntKind.wrap .i64 (p/18446744073709551616),p%18446744073709551616⟩:Wd)=wd p:=by
 rw [wI];unfold wd;congr 1
theorem wd_nn {p q:Int} (h:0<=p/\ p<=85070591730234615865843651857942052864) (e:p= -q):wd (0-(wd p).val)=wd q:=by
 rw [wd_val (v:=p) (by omega) (by omega)];congr 1;omega
theorem mul64_r {p:Int} (h:0<=p/\ p<=85070591730234615865843651857942052864):(0<=p/18446744073709551616/\ p/18446744073709551616<18446744073709551616)/\ 0<=p%18446744073709551616/\ p%18446744073709551616<18446744073709551616:=by omega
def FWSize:List Ar->Option Rs
 | [.c (.d (.v (.int .i64 i0)))]=>some ⟨(-9223372036854775808<=i0/\ i0<9223372036854775808),.va (.c (.d (ut (sizeI i0)))),[]⟩
 |_=>none
theorem fcWSize:FC Tryz.prog 143 FWSize:=by
 intro xs pre r us h hp;unfold FWSize at h;split at h
 . rename_i i0
   cases h;have hp0:=hp
   refine fcat tys_ok (l:= []) trivial Tryz.func143 rfl (by kernel_rfl) false ?_
   repeat' (first|exact trivial|refine ⟨?_, ?_⟩|intro _)
   all_goals first|(with_reducible apply qq)|(conv=>whnf)
   all_goals first|exact congrArg (Value.int .u64) (size_t hp0 ‹_›)|exact congrArg (Value.int .u64) (size_f hp0 ‹_›)
 . cases h
def FWMul:List Ar->Option Rs
 | [.c (.d (.v (.int .i64 i0))),.c (.d (.v (.int .i64 i1)))]=>some ⟨(-9223372036854775808<=i0/\ i0<9223372036854775808)/\ (-9223372036854775808<=i1/\ i1<9223372036854775808),.va (Wd.ar (wd (i0*i1))),[]⟩
 |_=>none
theorem fcWMul:FC Tryz.prog 100 FWMul:=by
 intro xs pre r us h hp;unfold FWMul at h;split at h
 . rename_i i0 i1
   cases h;obtain ⟨hp0,hp1⟩:=hp
   refine fcat tys_ok (l:= [(143,⟨[],FWSize⟩),(142,⟨[],FMul64⟩),(140,⟨[],FWNeg⟩)]) ⟨fcWSize,fcMul64,fcWNeg,trivial⟩ Tryz.func100 rfl (by kernel_rfl) false ?_
   have s0:=sizeI_r hp0
   have s1:=sizeI_r hp1
   have z0:0<=sizeI i0/\ sizeI i0<18446744073709551616:=by omega
   have z1:0<=sizeI i1/\ sizeI i1<18446744073709551616:=by omega
   obtain ⟨mr,m1,m2⟩:=size_mul hp0 hp1
   have mr2:=mul64_r mr
   have ew:=wd_parts mr
   have eh:IntKind.wrap .i64 (sizeI i0*sizeI i1/18446744073709551616)=(wd (sizeI i0*sizeI i1)).hi:=congrArg Wd.hi ew
   have el:sizeI i0*sizeI i1%18446744073709551616=(wd (sizeI i0*sizeI i1)).lo:=congrArg Wd.lo ew
   have ok:=wd_ok (sizeI i0*sizeI i1)
   unfold Wd.ok at ok
   repeat' (first|exact trivial|(with_reducible first|assumption|exact hp0.1|exact hp0.2|exact hp1.1|exact hp1.2|exact z0|exact z1|exact z0.1|exact z0.2|exact z1.1|exact z1.2|exact ok|exact ok.1|exact ok.2)|refine ⟨?_, ?_⟩|intro _)
   all_goals first|(with_reducible apply qq)|(conv=>whnf)
   all_goals first|(rw [eh,m2 ‹_›];done)|(rw [el,m2 ‹_›];done)|(rw [ew,wd_nn mr (m1 ‹_›)];done)|(rw [eh];first|exact ok.1.1|exact ok.1.2|exact ok.1|exact ok)|exact mr2.2.1|exact mr2.2.2|exact mr2.2
 . cases h
theorem hi_lt {a b m:Int} (ha:0<=a/\ a<m) (hb:0<=b/\ b<18446744073709551616):a*b/18446744073709551616<m:=by
 have h:a*b<=(m-1)*b:=Int.mul_le_mul_of_nonneg_right (by omega) hb.1
 have h2:(m-1)*b<=(m-1)*(18446744073709551616-1):=Int.mul_le_mul_of_nonneg_left (by omega) (by omega)
 generalize a*b=p at*
 generalize (m-1)*b=q at*
 omega
theorem mul_r {a b:Int} (ha:0<=a/\ a<18446744073709551616) (hb:0<=b/\ b<18446744073709551616):(0<=a*b/18446744073709551616/\ a*b/18446744073709551616<18446744073709551616)/\ (0<=a*b%18446744073709551616/\ a*b%18446744073709551616<18446744073709551616)/\ a*b/18446744073709551616*18446744073709551616+a*b%18446744073709551616=a*b:=by
 have h:=Int.mul_nonneg ha.1 hb.1
 have h1:a*b<=(18446744073709551616-1)*(18446744073709551616-1):=Int.mul_le_mul (by omega) (by omega) hb.1 (by decide)
 generalize a*b=p at*
 omega
def FCTimes:List Ar->Option Rs
 | [.c (.d (.v (.int .u64 u0))),.c (.d (.v (.int .u64 u1))),.c (.d (.v (.int .u64 u2)))]=>some ⟨(0<=u0/\ u0<18446744073709551616)/\ (0<=u1/\ u1<18446744073709551616)/\ (0<=u2/\ u2<18446744073709551616)/\ (u0<u2),.va (.c (.d (ut (u0*u1%u2)))),[]⟩
 |_=>none
theorem fcCTimes:FC Tryz.prog 144 FCTimes:=by
 intro xs pre r us h hp;unfold FCTimes at h;split at h
 . rename_i u0 u1 u2
   cases h;obtain ⟨hp0,hp1,hp2,hp3⟩:=hp
   refine fcat tys_ok (l:= [(142,⟨[],FMul64⟩),(173,⟨[],FDiv64⟩)]) ⟨fcMul64,fcDiv64,trivial⟩ Tryz.func144 rfl (by kernel_rfl) false ?_
   have hh:=hi_lt (a:=u0) (b:=u1) (m:=u2) (by omega) hp1
   obtain ⟨mr,mr1,mr2⟩:=mul_r hp0 hp1
   repeat' (first|exact trivial|(with_reducible first|assumption|exact mr|exact mr1|exact mr.1|exact mr.2|exact mr1.1|exact mr1.2)|refine ⟨?_, ?_⟩|intro _)
   all_goals first|(with_reducible apply qq)|(conv=>whnf)
   all_goals first|(rw [mr2];done)|exact hp2
 . cases h
namespace Sp
end Sp
def Cg.tidy (c:Cg):Prop:=c=Cg.none \/(c.some=true/\ c.red)
theorem Cg.tidy_fix {c:Cg} (h:c.tidy):c.clean=c:=by
 rcases h with rfl|⟨h1,h2⟩
 . rfl
 . exact cg_fix h1 h2
theorem has_t {c:Cg} (h:c.tidy) (hs:c.some=true) (n:Int):c.has n=decide (md n c.m=c.r):=by
 unfold Cg.has;rw [Cg.tidy_fix h,hs];rfl
theorem tidy_c {i:Ig} (h:i.tidy):i.c.tidy:=by
 rcases h with rfl|⟨⟨_,h2⟩,_,h4⟩
 . exact .inl rfl
 . exact .inr ⟨h2,h4⟩
namespace Sp
end Sp
theorem l3_md {n m r:Int} (h0:0<=m) (h:0<m->0<=r/\ r<m):md n m=r↔m∣n-r:=by
 rcases Int.lt_or_eq_of_le h0 with hm|hm
 . obtain ⟨h1,h2⟩:=h hm
   rw [md_eq0 hm h1 h2];exact (Int.dvd_iff_emod_eq_zero).symm
 . subst hm;unfold md;rw [if_pos (Int.le_refl _),Int.zero_dvd];omega
namespace Cg
end Cg
structure Vl.tidy (v:Vl):Prop where
 i:v.i.tidy
 t:Srt v.t.names
theorem Vl.of_tidy (v:Vl):v.of.tidy:=⟨by rw [of_rclean];exact clean_tidy v.i,by rw [of_rclean];exact cleanS_srt _⟩
def Vl.inR (v:Vl):Prop:=v.i.s.inR/\ v.i.c.inR
theorem Vl.of_inR {v:Vl} (h:v.inR):v.of.inR:=Ig.clean_inR h.1 h.2
theorem cop_dvd {m a z:Int} (hg:Int.gcd a m=1) (h:m∣a*z):m∣z:=by
 rw [<-Int.natAbs_dvd_natAbs] at h⊢;rw [Int.natAbs_mul] at h;exact Nat.Coprime.dvd_of_dvd_mul_left (by unfold Nat.Coprime;rw [Nat.gcd_comm];exact hg) h
def invOk (a m y:Int):Prop:=(0<=y/\ y<m)/\ (a*y)%m=1%m
def invI (a m:Int):Int:=(((List.range m.toNat).find? fun y:Nat=>decide ((a*(y:Int))%m=1%m)).getD 0:Nat)
theorem inv_unique {a m y z:Int} (hg:Int.gcd a m=1) (hy:invOk a m y) (hz:invOk a m z):y=z:=by
 have h1:(a*y)%m=(a*z)%m:=hy.2.trans hz.2.symm
 rw [Int.emod_eq_emod_iff_emod_sub_eq_zero] at h1;have h2:m∣a*(y-z):=by rw [Int.mul_sub];exact Int.dvd_of_emod_eq_zero h1
 obtain ⟨t,ht⟩:=cop_dvd hg h2
 have h3:=hy.1;have h4:=hz.1
 have:t=0:=by
  rcases Int.lt_trichotomy t 0 with h|h|h
  . have:m*t<=m*(-1):=Int.mul_le_mul_of_nonneg_left (by omega) (by omega)
    omega
  . exact h
  . have:m*1<=m*t:=Int.mul_le_mul_of_nonneg_left (by omega) (by omega)
    omega
 subst this;omega
theorem invI_eq {a m y:Int} (hg:Int.gcd a m=1) (h:invOk a m y):invI a m=y:=by
 obtain ⟨⟨h0,h1⟩,h2⟩:=h
 obtain ⟨n,rfl⟩:=Int.eq_ofNat_of_zero_le h0
 unfold invI;cases hf:(List.range m.toNat).find? fun y:Nat=>decide ((a*(y:Int))%m=1%m) with
 |none=>
  have:=List.find?_eq_none.1 hf n (List.mem_range.2 (by omega))
  exact absurd h2 (by simpa using this)
 |some z=>
  have h3:=List.find?_some hf
  have h4:=List.mem_range.1 (List.mem_of_find?_eq_some hf)
  exact inv_unique hg ⟨by dsimp only [Option.getD];omega,by simpa using h3⟩ ⟨⟨h0,h1⟩,h2⟩
theorem inv_step {a m r s x y:Int} (h1:m∣x*a-r) (h2:m∣y*a-s):
 m∣((y+m-s/r%m*x%m)%m)*a-s%r:=by
 have e1:s%r=s-s/r*r:=by have:=Int.mul_ediv_add_emod s r;rw [Int.mul_comm] at this;omega
 have e2:((y+m-s/r%m*x%m)%m-(y-s/r*x))%m=0:=by
  rw [Int.emod_sub_emod, <-Int.emod_eq_emod_iff_emod_sub_eq_zero];have e3:s/r%m*x%m=s/r*x%m:=by rw [Int.mul_emod,Int.emod_emod_of_dvd _ (Int.dvd_refl m), <-Int.mul_emod]
  rw [e3];have e4:y+m-s/r*x%m=(y-s/r*x%m)+m:=by omega
  rw [e4,Int.add_emod_right,Int.sub_emod_emod]
 have e5:=Int.dvd_of_emod_eq_zero e2
 obtain ⟨p,hp⟩:=h1
 obtain ⟨q,hq⟩:=h2
 obtain ⟨t,ht⟩:=e5
 refine ⟨t*a+q-s/r*p, ?_⟩
 generalize (y+m-s/r%m*x%m)%m=n at*
 generalize s/r=k at*
 rw [e1];have:n=y-k*x+m*t:=by omega
 subst this;have hp':x*a=r+m*p:=by omega
 have hq':y*a=s+m*q:=by omega
 grind
theorem inv_end {a m y s:Int} (hs:s=1) (h0:0<=y/\ y<m) (h:m∣y*a-s):invOk a m y:=by
 subst hs;refine ⟨h0, ?_⟩
 rw [Int.emod_eq_emod_iff_emod_sub_eq_zero,Int.mul_comm];exact Int.emod_eq_zero_of_dvd h
theorem inv_ex {a m:Int}: ∀(r:Nat) (s x y:Int),m∣x*a-r->m∣y*a-s->0<s->Int.gcd r s=1-> ∃y,m∣y*a-1
 |r,s,x,y,h1,h2,hs,hg=>by
  rcases Nat.eq_zero_or_pos r with h|h
  . subst h;have e:Int.gcd ((0:Nat):Int) s=s.natAbs:=Int.zero_gcd
    rw [e] at hg
    exact ⟨y,by have:s=1:=by omega
                rw [<-this];exact h2⟩
  . have hr:(0:Int)<r:=by omega
    have hb:=Int.emod_nonneg s (show (r:Int)≠0 by omega)
    have hl:=Int.emod_lt_of_pos s hr
    have e:((s%r).toNat:Int)=s%r:=Int.toNat_of_nonneg hb
    refine inv_ex (s%r).toNat r _ x (by rw [e];exact inv_step h1 h2) h1 hr ?_
    rw [e];obtain ⟨n,rfl⟩:=Int.eq_ofNat_of_zero_le (Int.le_of_lt hs)
    rw [<-Int.natCast_emod,Int.gcd_natCast_natCast, <-Nat.gcd_rec]
    rwa [Int.gcd_natCast_natCast] at hg
termination_by r=>r
theorem gcd_quot {M N:Int} (hM:0<M):Int.gcd (M/(Int.gcd M N:Int)) (N/(Int.gcd M N:Int))=1:=by
 have h:=Int.gcd_ediv_gcd_ediv_gcd (i:=M) (j:=N) (Int.gcd_pos_of_ne_zero_left _ (by omega))
 exact h
section
variable {M N R S:Int} (hM:0<M) (hN:0<N)
def stepI (M N R S:Int):Int:=((S-R)%N/(Int.gcd M N:Int))%(N/(Int.gcd M N:Int))*invI (M/(Int.gcd M N:Int)) (N/(Int.gcd M N:Int))%(N/(Int.gcd M N:Int))
include hM hN
theorem quot_pos:0<N/(Int.gcd M N:Int)/\ 0<M/(Int.gcd M N:Int)/\ 0<(Int.gcd M N:Int):=by
 have hg:0<(Int.gcd M N:Int):=by have:=Int.gcd_pos_of_ne_zero_left (a:=M) N (by omega);omega
 exact ⟨Int.ediv_pos_of_pos_of_dvd hN (by omega) (Int.gcd_dvd_right ..),Int.ediv_pos_of_pos_of_dvd hM (by omega) (Int.gcd_dvd_left ..),hg⟩
theorem step_r:0<=stepI M N R S/\ stepI M N R S<N/(Int.gcd M N:Int):=by
 have h:=quot_pos hM hN
 exact ⟨Int.emod_nonneg _ (by omega),Int.emod_lt_of_pos _ h.1⟩
theorem inv_has:invOk (M/(Int.gcd M N:Int)) (N/(Int.gcd M N:Int)) (invI (M/(Int.gcd M N:Int)) (N/(Int.gcd M N:Int))):=by
 have hp:=quot_pos hM hN
 have hg:=gcd_quot (N:=N) hM
 generalize M/(Int.gcd M N:Int)=a at*
 generalize N/(Int.gcd M N:Int)=m at*
 obtain ⟨n,rfl⟩:=Int.eq_ofNat_of_zero_le (Int.le_of_lt hp.2.1)
 obtain ⟨y,hy⟩:=inv_ex (a:=n) (m:=m) n m 1 0 (by rw [Int.one_mul,Int.sub_self];exact Int.dvd_zero m) (by rw [Int.zero_mul,Int.zero_sub];exact Int.dvd_neg.2 (Int.dvd_refl m)) hp.1 hg
 have hk:invOk n m (y%m):=by
  refine inv_end rfl ⟨Int.emod_nonneg _ (by omega),Int.emod_lt_of_pos _ hp.1⟩ ?_
  have e:y%m*n-1=(y*n-1)-m*(y/m*n):=by rw [Int.emod_def];grind
  rw [e];exact Int.dvd_sub hy (Int.dvd_mul_right ..)
 rw [invI_eq hg hk];exact hk
theorem crt (hd:(Int.gcd M N:Int)∣S-R):N∣R+M*stepI M N R S-S:=by
 have hp:=quot_pos hM hN
 have hi:=(inv_has hM hN).2
 have eM:M=(Int.gcd M N:Int)*(M/(Int.gcd M N:Int)):=(Int.mul_ediv_cancel' (Int.gcd_dvd_left ..)).symm
 have eN:N=(Int.gcd M N:Int)*(N/(Int.gcd M N:Int)):=(Int.mul_ediv_cancel' (Int.gcd_dvd_right ..)).symm
 have h1:(Int.gcd M N:Int)∣(S-R)%N:=by
  rw [Int.emod_def];exact Int.dvd_sub hd (Int.dvd_mul_of_dvd_left (Int.gcd_dvd_right ..))
 have e1:(S-R)%N=(Int.gcd M N:Int)*((S-R)%N/(Int.gcd M N:Int)):=(Int.mul_ediv_cancel' h1).symm
 have e2:N∣(S-R)%N-(S-R):=by
  refine Int.dvd_of_emod_eq_zero ?_
  rw [Int.emod_sub_emod];simp
 unfold stepI
 generalize invI (M/(Int.gcd M N:Int)) (N/(Int.gcd M N:Int))=y at*
 generalize (S-R)%N/(Int.gcd M N:Int)=d at*
 generalize M/(Int.gcd M N:Int)=a at*
 generalize N/(Int.gcd M N:Int)=m at*
 generalize (Int.gcd M N:Int)=g at*
 have e3:m∣a*(d%m*y%m)-d:=by
  refine Int.dvd_of_emod_eq_zero ?_
  rw [<-Int.emod_eq_emod_iff_emod_sub_eq_zero];rw [Int.mul_emod,Int.emod_emod_of_dvd _ (Int.dvd_refl m),Int.mul_emod (d%m) y,Int.emod_emod_of_dvd _ (Int.dvd_refl m), <-Int.mul_emod d y, <-Int.mul_emod];rw [show a*(d*y)=(a*y)*d by grind,Int.mul_emod,hi, <-Int.mul_emod,Int.one_mul]
 obtain ⟨t,ht⟩:=e3
 obtain ⟨u,hu⟩:=e2
 rw [e1] at hu;refine ⟨t+u, ?_⟩
 generalize d%m*y%m=k at*
 have:M*k=g*(a*k):=by rw [eM,Int.mul_assoc]
 have h5:a*k=d+m*t:=by omega
 rw [this,h5];have:N*(t+u)=g*m*t+N*u:=by rw [Int.mul_add];congr 1;rw [<-eN]
 rw [this]
 grind
theorem lcm_dvd' {z:Int}:(M*(N/(Int.gcd M N:Int))∣z)↔(M∣z/\ N∣z):=by
 have hp:=quot_pos hM hN
 have eM:M=(Int.gcd M N:Int)*(M/(Int.gcd M N:Int)):=(Int.mul_ediv_cancel' (Int.gcd_dvd_left ..)).symm
 have eN:N=(Int.gcd M N:Int)*(N/(Int.gcd M N:Int)):=(Int.mul_ediv_cancel' (Int.gcd_dvd_right ..)).symm
 constructor
 . intro h;refine ⟨Int.dvd_trans (Int.dvd_mul_right ..) h,Int.dvd_trans ?_ h⟩
   have:M*(N/(Int.gcd M N:Int))=N*(M/(Int.gcd M N:Int)):=by
    generalize M/(Int.gcd M N:Int)=a at*
    generalize N/(Int.gcd M N:Int)=m at*
    generalize (Int.gcd M N:Int)=g at*
    rw [eM,eN];grind
   rw [this];exact Int.dvd_mul_right ..
 . rintro ⟨⟨t,rfl⟩,h⟩
   have hq:=gcd_quot (N:=N) hM
   refine Int.mul_dvd_mul_left M ?_
   refine cop_dvd hq ?_
   generalize M/(Int.gcd M N:Int)=a at*
   generalize N/(Int.gcd M N:Int)=m at*
   generalize (Int.gcd M N:Int)=g at*
   obtain ⟨u,hu⟩:=h
   refine ⟨u, ?_⟩
   rw [eM,eN] at hu;have:g*(a*t)=g*(m*u):=by rw [<-Int.mul_assoc, <-Int.mul_assoc];exact hu
   exact Int.eq_of_mul_eq_mul_left (by omega) this
end
theorem dvd_shift {m a b n:Int} (h:m∣a-b):(m∣n-a)↔(m∣n-b):=
 ⟨fun q=>by have:=Int.dvd_add q h;rwa [show n-a+(a-b)=n-b by omega] at this,fun q=>by have:=Int.dvd_sub q h;rwa [show n-b-(a-b)=n-a by omega] at this⟩
theorem cg_has_dvd {c:Cg} (h:c.tidy) (hs:c.some=true) (n:Int):c.has n=true↔c.m∣n-c.r:=by
 rw [has_t h hs,decide_eq_true_eq];rcases h with rfl|⟨_,hr⟩
 . cases hs
 . exact l3_md hr.1 hr.2
namespace Cg
abbrev gc (x y:Cg):Int:=(Int.gcd x.m y.m:Int)
abbrev lc (x y:Cg):Int:=x.m*(y.m/(Int.gcd x.m y.m:Int))
def meet0 (x y:Cg):Cg:=
 if (!x.some|| !y.some)=true then none
 else if x.m=0 then (if y.has x.r=true then x else none)
 else if y.m=0 then (if x.has y.r=true then y else none)
 else if apartI x.r y.r%gc x y=0 then
  (if wIntB (lc x y)=true then of (lc x y) (x.r+x.m*stepI x.m y.m x.r y.r) else if y.m>x.m then y else x)
 else none
def meet (a b:Cg):Cg:=meet0 a.clean b.clean
def fits (x y:Cg):Bool:= !(decide (0<x.m)&&decide (0<y.m))||wIntB (lc x y)
end Cg
theorem apart_iff {g a b:Int}:(apartI a b%g=0)↔g∣b-a:=by
 rw [<-Int.dvd_iff_emod_eq_zero];unfold apartI;split
 . rw [<-Int.neg_sub,Int.dvd_neg]
 . exact Iff.rfl
theorem meet_law {x y:Cg} (hx:x.tidy) (hy:y.tidy):(Cg.meet0 x y).tidy/\ (∀n,x.has n=true->y.has n=true->(Cg.meet0 x y).has n=true)/\ (x.fits y=true-> ∀n,(Cg.meet0 x y).has n=true->x.has n=true/\ y.has n=true)/\ (x.inR->y.inR->(Cg.meet0 x y).inR):=by
 have hn: ∀n,Cg.none.has n=true->False:=fun n h=>by cases h
 have t0:Cg.none.tidy:= .inl rfl
 have i0:Cg.none.inR:=by unfold Cg.none Cg.inR;dsimp only;omega
 rcases hx with rfl|⟨hxs,hxr⟩
 . have e:Cg.meet0 Cg.none y=Cg.none:=by unfold Cg.meet0;rw [if_pos (by rfl)]
   rw [e];exact ⟨t0,fun n h=>(hn n h).elim,fun _ n h=>(hn n h).elim,fun _ _=>i0⟩
 rcases hy with rfl|⟨hys,hyr⟩
 . have e:Cg.meet0 x Cg.none=Cg.none:=by unfold Cg.meet0;rw [if_pos (by rw [hxs];rfl)]
   rw [e];exact ⟨t0,fun n _ h=>(hn n h).elim,fun _ n h=>(hn n h).elim,fun _ _=>i0⟩
 have tx:x.tidy:= .inr ⟨hxs,hxr⟩
 have ty:y.tidy:= .inr ⟨hys,hyr⟩
 have X:=cg_has_dvd tx hxs
 have Y:=cg_has_dvd ty hys
 unfold Cg.meet0;rw [if_neg (by rw [hxs,hys];decide)];by_cases zx:x.m=0
 . rw [if_pos zx];have k: ∀n,x.has n=true->n=x.r:=fun n h=>by have:=(X n).1 h;rw [zx,Int.zero_dvd] at this;omega
   by_cases h:y.has x.r=true
   . rw [if_pos h];exact ⟨tx,fun n h1 _=>h1,fun _ n h1=>⟨h1,by rw [k n h1];exact h⟩,fun h _=>h⟩
   . rw [if_neg h];exact ⟨t0,fun n h1 h2=>absurd (by rw [<-k n h1];exact h2) h,fun _ n h1=>(hn n h1).elim,fun _ _=>i0⟩
 rw [if_neg zx];by_cases zy:y.m=0
 . rw [if_pos zy];have k: ∀n,y.has n=true->n=y.r:=fun n h=>by have:=(Y n).1 h;rw [zy,Int.zero_dvd] at this;omega
   by_cases h:x.has y.r=true
   . rw [if_pos h];exact ⟨ty,fun n _ h1=>h1,fun _ n h1=>⟨by rw [k n h1];exact h,h1⟩,fun _ h=>h⟩
   . rw [if_neg h];exact ⟨t0,fun n h1 h2=>absurd (by rw [<-k n h2];exact h1) h,fun _ n h1=>(hn n h1).elim,fun _ _=>i0⟩
 rw [if_neg zy];have px:0<x.m:=by have:=hxr.1;omega
 have py:0<y.m:=by have:=hyr.1;omega
 have hq:=quot_pos px py
 have bx:=hxr.2 px
 by_cases hd:apartI x.r y.r%Cg.gc x y=0
 . rw [if_pos hd];have hc:=crt px py (apart_iff.1 hd)
   by_cases hw:wIntB (Cg.lc x y)=true
   . rw [if_pos hw];have hL:0<Cg.lc x y:=Int.mul_pos px hq.1
     have hL2: ∀{z:Int},Cg.lc x y∣z↔(x.m∣z/\ y.m∣z):=fun {z}=>lcm_dvd' px py
     have hs:=step_r (M:=x.m) (N:=y.m) (R:=x.r) (S:=y.r) px py
     have hb:x.m*stepI x.m y.m x.r y.r<=Cg.lc x y-x.m:=by
      have h1:x.m*stepI x.m y.m x.r y.r<=x.m*(y.m/(Int.gcd x.m y.m:Int)-1):=Int.mul_le_mul_of_nonneg_left (by omega) (by omega)
      rw [Int.mul_sub,Int.mul_one] at h1;exact h1
     have hb0:0<=x.m*stepI x.m y.m x.r y.r:=Int.mul_nonneg (by omega) hs.1
     have hwr: -9223372036854775808<=Cg.lc x y/\ Cg.lc x y<9223372036854775808:=by unfold wIntB at hw;exact of_decide_eq_true hw
     generalize Cg.lc x y=L at*
     have h1:x.m∣x.r+x.m*stepI x.m y.m x.r y.r-x.r:=⟨stepI x.m y.m x.r y.r,by omega⟩
     generalize x.m*stepI x.m y.m x.r y.r=k at*
     have eo:Cg.of L (x.r+k)=⟨true,L,md (x.r+k) L⟩:=by unfold Cg.of;rw [if_neg (by omega)]
     have to:(Cg.of L (x.r+k)).tidy:=by
      rw [eo];right;refine ⟨rfl, ?_⟩;unfold Cg.red;dsimp only;exact ⟨by omega,fun h=>md_bound _ _ h⟩
     have e1:md (x.r+k) L=x.r+k:=by unfold md;rw [if_neg (by omega)];exact Int.emod_eq_of_lt (by omega) (by omega)
     have O: ∀n,(Cg.of L (x.r+k)).has n=true↔(x.has n=true/\ y.has n=true):=by
      intro n;rw [cg_has_dvd to (by rw [eo]),X,Y,eo];dsimp only;rw [e1,hL2,dvd_shift h1,dvd_shift hc]
     exact ⟨to,fun n h1 h2=>(O n).2 ⟨h1,h2⟩,fun _ n h=>(O n).1 h,fun _ _=>Cg.of_inR _ _ hwr.1 hwr.2 (by omega) (by omega)⟩
   . rw [if_neg hw];have hf: ¬x.fits y=true:=by
      intro h;unfold Cg.fits at h;rw [decide_eq_true px,decide_eq_true py] at h
      exact hw (by simpa using h)
     split
     . exact ⟨ty,fun n _ h=>h,fun h=>absurd h hf,fun _ h=>h⟩
     . exact ⟨tx,fun n h _=>h,fun h=>absurd h hf,fun h _=>h⟩
 . rw [if_neg hd];refine ⟨t0,fun n h1 h2=> ?_,fun _ n h1=>(hn n h1).elim,fun _ _=>i0⟩
   refine absurd (apart_iff.2 ?_) hd
   have g1:Cg.gc x y∣n-x.r:=Int.dvd_trans (Int.gcd_dvd_left ..) ((X n).1 h1)
   have g2:Cg.gc x y∣n-y.r:=Int.dvd_trans (Int.gcd_dvd_right ..) ((Y n).1 h2)
   have:=Int.dvd_sub g1 g2
   rwa [show n-x.r-(n-y.r)=y.r-x.r by omega] at this
def Vl.meetF (a b:Vl):Vl:=⟨⟨a.of.i.s.meet b.of.i.s,Cg.meet a.of.i.c b.of.i.c⟩,⟨a.t.null&&b.t.null,ofS (meetS (ofS a.t.names) (ofS b.t.names))⟩⟩
def Vl.meet (a b:Vl):Vl:=(Vl.meetF a b).reduce
theorem cmeet_of (a b:Vl):Cg.meet a.of.i.c b.of.i.c=Cg.meet0 a.of.i.c b.of.i.c:=by
 unfold Cg.meet;rw [Cg.tidy_fix (tidy_c (Vl.of_tidy a).i),Cg.tidy_fix (tidy_c (Vl.of_tidy b).i)]
theorem meetF_inR {a b:Vl} (ha:a.inR) (hb:b.inR):(Vl.meetF a b).inR:=by
 have h1:=Vl.of_inR ha
 have h2:=Vl.of_inR hb
 refine ⟨Sp.meet_inR h1.1 h2.1, ?_⟩
 show (Cg.meet _ _).inR
 rw [cmeet_of];exact (meet_law (tidy_c (Vl.of_tidy a).i) (tidy_c (Vl.of_tidy b).i)).2.2.2 h1.2 h2.2
end Go.Proofs.YtokjghkehojenaaGreat
