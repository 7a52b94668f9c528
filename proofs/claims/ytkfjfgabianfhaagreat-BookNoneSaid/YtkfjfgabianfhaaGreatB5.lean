/- What the functions of the layer of congruences compute. No condition. -/
import Derived.Test.YtkfjfgabianfhaaGreatB4
set_option linter.all false
set_option maxHeartbeats 8000000
set_option maxRecDepth 100000
namespace Go.Proofs.YtkfjfgabianfhaaGreat
open Go.Sx
structure Cg where
 some:Bool
 m:Int
 r:Int
abbrev Cg.ar (c:Cg):Ar:= .agg [.d (bo c.some),.d (it c.m),.d (it c.r)]
def Cg.inR (c:Cg):Prop:=(-9223372036854775808<=c.m/\ c.m<9223372036854775808)/\ -9223372036854775808<=c.r/\ c.r<9223372036854775808
def md (n m:Int):Int:=if m<=0 then n else n%m
namespace Cg
def none:Cg:=⟨false,0,0⟩
def of (m r:Int):Cg:=if m<0 then ⟨true,1,md r 1⟩ else ⟨true,m,md r m⟩
def clean (c:Cg):Cg:=if c.some then of c.m c.r else none
def has (c:Cg) (n:Int):Bool:=c.clean.some&&decide (md n c.clean.m=c.clean.r)
def factor (a b:Int):Bool:=if a=0 then decide (b=0) else decide (b%a=0)
def leq (a b:Cg):Bool:=if a.clean.some&&b.clean.some then factor b.clean.m a.clean.m&&has b.clean a.clean.r else !a.clean.some
def eq (a b:Cg):Bool:=a.some==b.some&&(a.m==b.m&&a.r==b.r)
end Cg
theorem tmod_fix (n m:Int) (h:0<m):(n.tmod m<0->n.tmod m+m=n%m)/\ (¬n.tmod m<0->n.tmod m=n%m):=by
 have h1:=Int.emod_nonneg n (show m≠0 by omega)
 have h2:=Int.emod_lt_of_pos n h
 have h3:n.tmod m=n%m-if 0<=n \/m∣n then 0 else m:=by rw [Int.tmod_eq_emod];split<;>simp<;>omega
 rw [h3];split<;>omega
theorem tmod_zero (n m:Int):n.tmod m=0↔n%m=0:=by rw [<-Int.dvd_iff_tmod_eq_zero, <-Int.dvd_iff_emod_eq_zero]
theorem md_bound (n m:Int) (h:0<m):0<=md n m/\ md n m<m:=by
 unfold md;rw [if_neg (by omega)];exact ⟨Int.emod_nonneg _ (by omega),Int.emod_lt_of_pos _ h⟩
theorem Cg.of_inR (m r:Int) (h0: -9223372036854775808<=m) (h1:m<9223372036854775808) (h2: -9223372036854775808<=r) (h3:r<9223372036854775808):(Cg.of m r).inR:=by
 unfold Cg.of;by_cases hm:m<0
 . rw [if_pos hm];have:=md_bound r 1 (by omega)
   unfold Cg.inR;dsimp only;omega
 . rw [if_neg hm];by_cases h0:m=0
   . subst h0;unfold Cg.inR md;dsimp only;rw [if_pos (by omega)];omega
   . have:=md_bound r m (by omega)
     unfold Cg.inR;dsimp only;omega
theorem Cg.eta (c:Cg):(⟨c.some,c.m,c.r⟩:Cg)=c:=rfl
theorem Cg.clean_nn (c:Cg):0<=c.clean.m:=by
 unfold Cg.clean Cg.of Cg.none;split
 . split
   . dsimp only;omega
   . dsimp only;omega
 . decide
theorem Cg.clean_inR {c:Cg} (h:c.inR):c.clean.inR:=by
 unfold Cg.clean;split
 . exact Cg.of_inR _ _ h.1.1 h.1.2 h.2.1 h.2.2
 . unfold Cg.none Cg.inR;decide
def FCMod:List Ar->Option Rs
 | [.c (.d (.v (.int .i64 i0))),.c (.d (.v (.int .i64 i1)))]=>some ⟨(-9223372036854775808<=i0/\ i0<9223372036854775808)/\ (-9223372036854775808<=i1/\ i1<9223372036854775808),.va (.c (.d (it (md i0 i1)))),[]⟩
 |_=>none
theorem fcCMod:FC Tryz.prog 72 FCMod:=by
 intro xs pre r us h hp;unfold FCMod at h;split at h
 . rename_i i0 i1
   cases h;obtain ⟨hp0,hp1⟩:=hp
   refine fcat tys_ok (l:= []) trivial Tryz.func72 rfl (by kernel_rfl) false ?_
   repeat' (first|exact trivial|refine ⟨?_, ?_⟩|intro _)
   all_goals first|(with_reducible apply qq)|(conv=>whnf)
   all_goals (try simp only [decide_eq_true_eq,decide_eq_false_iff_not] at*)
   all_goals first|omega|(have q:=tmod_fix i0 i1 (by omega);have q2:=md_bound i0 i1 (by omega);unfold md at*;rw [if_neg (by omega)] at*;first|(rw [q.2 (by assumption)])|(rw [wI_id _ (by omega) (by omega),q.1 (by assumption)]))|(unfold md;rw [if_pos (by assumption)])
 . cases h
def FCOf:List Ar->Option Rs
 | [.c (.d (.v (.int .i64 i0))),.c (.d (.v (.int .i64 i1)))]=>some ⟨(-9223372036854775808<=i0/\ i0<9223372036854775808)/\ (-9223372036854775808<=i1/\ i1<9223372036854775808),.va (Cg.ar (Cg.of i0 i1)),[]⟩
 |_=>none
theorem fcCOf:FC Tryz.prog 70 FCOf:=by
 intro xs pre r us h hp;unfold FCOf at h;split at h
 . rename_i i0 i1
   cases h;obtain ⟨hp0,hp1⟩:=hp
   refine fcat tys_ok (l:= [(72,⟨[],FCMod⟩)]) ⟨fcCMod,trivial⟩ Tryz.func70 rfl (by kernel_rfl) false ?_
   repeat' (first|exact trivial|refine ⟨?_, ?_⟩|intro _)
   all_goals first|(with_reducible apply qq)|(conv=>whnf)
   all_goals grind [Cg.of]
 . cases h
def FCOne:List Ar->Option Rs
 | [.c (.d (.v (.int .i64 i0)))]=>some ⟨(-9223372036854775808<=i0/\ i0<9223372036854775808),.va (Cg.ar (Cg.of 0 i0)),[]⟩
 |_=>none
theorem fcCOne:FC Tryz.prog 44 FCOne:=by
 intro xs pre r us h hp;unfold FCOne at h;split at h
 . rename_i i0
   cases h;have hp0:=hp
   refine fcat tys_ok (l:= [(70,⟨[],FCOf⟩)]) ⟨fcCOf,trivial⟩ Tryz.func44 rfl (by kernel_rfl) false ?_
   repeat' (first|exact trivial|refine ⟨?_, ?_⟩|intro _)
   all_goals first|(with_reducible apply qq)|(conv=>whnf)
   all_goals first|rfl|omega
 . cases h
def FCAll:List Ar->Option Rs
 | []=>some ⟨True,.va (Cg.ar (Cg.of 1 0)),[]⟩
 |_=>none
theorem fcCAll:FC Tryz.prog 97 FCAll:=by
 intro xs pre r us h hp;unfold FCAll at h;split at h
 . cases h;refine fcat tys_ok (l:= [(70,⟨[],FCOf⟩)]) ⟨fcCOf,trivial⟩ Tryz.func97 rfl (by kernel_rfl) false ?_
   repeat' (first|exact trivial|refine ⟨?_, ?_⟩|intro _)
   all_goals first|(with_reducible apply qq)|(conv=>whnf)
   all_goals first|rfl|omega
 . cases h
def FCNone:List Ar->Option Rs
 | [.agg [.d (.v (.bool b0)),.d (.v (.int .i64 m0)),.d (.v (.int .i64 r0))]]=>some ⟨(Cg.inR ⟨b0,m0,r0⟩),.va (.c (.d (bo (!b0)))),[]⟩
 |_=>none
theorem fcCNone:FC Tryz.prog 94 FCNone:=by
 intro xs pre r us h hp;unfold FCNone at h;split at h
 . rename_i b0 m0 r0
   cases h;have hp0:=hp
   refine fcat tys_ok (l:= []) trivial Tryz.func94 rfl (by kernel_rfl) false ?_
   repeat' (first|exact trivial|refine ⟨?_, ?_⟩|intro _)
   all_goals first|(with_reducible apply qq)|(conv=>whnf)
   all_goals rfl
 . cases h
def FCClean:List Ar->Option Rs
 | [.agg [.d (.v (.bool b0)),.d (.v (.int .i64 m0)),.d (.v (.int .i64 r0))]]=>some ⟨(Cg.inR ⟨b0,m0,r0⟩),.va (Cg.ar (Cg.clean (⟨b0,m0,r0⟩:Cg))),[]⟩
 |_=>none
theorem fcCClean:FC Tryz.prog 71 FCClean:=by
 intro xs pre r us h hp;unfold FCClean at h;split at h
 . rename_i b0 m0 r0
   cases h;have hp0:=hp
   refine fcat tys_ok (l:= [(70,⟨[],FCOf⟩)]) ⟨fcCOf,trivial⟩ Tryz.func71 rfl (by kernel_rfl) false ?_
   repeat' (first|exact trivial|refine ⟨?_, ?_⟩|intro _)
   all_goals first|(with_reducible apply qq)|(conv=>whnf)
   all_goals first|grind [Cg.clean,Cg.none,Cg.inR]
 . cases h
def FCHas:List Ar->Option Rs
 | [.agg [.d (.v (.bool b0)),.d (.v (.int .i64 m0)),.d (.v (.int .i64 r0))],.c (.d (.v (.int .i64 i1)))]=>some ⟨(Cg.inR ⟨b0,m0,r0⟩)/\ (-9223372036854775808<=i1/\ i1<9223372036854775808),.va (.c (.d (bo (Cg.has (⟨b0,m0,r0⟩:Cg) i1)))),[]⟩
 |_=>none
theorem fcCHas:FC Tryz.prog 46 FCHas:=by
 intro xs pre r us h hp;unfold FCHas at h;split at h
 . rename_i b0 m0 r0 i1
   cases h;obtain ⟨hp0,hp1⟩:=hp
   refine fcat tys_ok (l:= [(71,⟨[],FCClean⟩),(72,⟨[],FCMod⟩)]) ⟨fcCClean,fcCMod,trivial⟩ Tryz.func46 rfl (by kernel_rfl) false ?_
   repeat' (first|exact trivial|refine ⟨?_, ?_⟩|intro _)
   all_goals first|(with_reducible apply qq)|(conv=>whnf)
   all_goals first|grind [Cg.has,Cg.inR,Cg.clean_inR]
 . cases h
def FCFactor:List Ar->Option Rs
 | [.c (.d (.v (.int .i64 i0))),.c (.d (.v (.int .i64 i1)))]=>some ⟨(-9223372036854775808<=i0/\ i0<9223372036854775808)/\ (-9223372036854775808<=i1/\ i1<9223372036854775808),.va (.c (.d (bo (Cg.factor i0 i1)))),[]⟩
 |_=>none
theorem fcCFactor:FC Tryz.prog 132 FCFactor:=by
 intro xs pre r us h hp;unfold FCFactor at h;split at h
 . rename_i i0 i1
   cases h;obtain ⟨hp0,hp1⟩:=hp
   refine fcat tys_ok (l:= []) trivial Tryz.func132 rfl (by kernel_rfl) false ?_
   repeat' (first|exact trivial|refine ⟨?_, ?_⟩|intro _)
   all_goals first|(with_reducible apply qq)|(conv=>whnf)
   all_goals first|grind [Cg.factor,tmod_zero]
 . cases h
def FCLeq:List Ar->Option Rs
 | [.agg [.d (.v (.bool b0)),.d (.v (.int .i64 m0)),.d (.v (.int .i64 r0))],.agg [.d (.v (.bool b1)),.d (.v (.int .i64 m1)),.d (.v (.int .i64 r1))]]=>some ⟨(Cg.inR ⟨b0,m0,r0⟩)/\ (Cg.inR ⟨b1,m1,r1⟩),.va (.c (.d (bo (Cg.leq (⟨b0,m0,r0⟩:Cg) (⟨b1,m1,r1⟩:Cg))))),[]⟩
 |_=>none
theorem fcCLeq:FC Tryz.prog 122 FCLeq:=by
 intro xs pre r us h hp;unfold FCLeq at h;split at h
 . rename_i b0 m0 r0 b1 m1 r1
   cases h;obtain ⟨hp0,hp1⟩:=hp
   refine fcat tys_ok (l:= [(71,⟨[],FCClean⟩),(94,⟨[],FCNone⟩),(132,⟨[],FCFactor⟩),(46,⟨[],FCHas⟩)]) ⟨fcCClean,fcCNone,fcCFactor,fcCHas,trivial⟩ Tryz.func122 rfl (by kernel_rfl) false ?_
   repeat' (first|exact trivial|refine ⟨?_, ?_⟩|intro _)
   all_goals first|(with_reducible apply qq)|(conv=>whnf)
   all_goals (try simp only [Cg.eta] at*)
   all_goals first|grind [Cg.leq,Cg.inR,Cg.clean_inR]
 . cases h
def wCmp (a b:Int):Int:=if a<b then-1 else if b<a then 1 else 0
def gW:List DV->Wd
 | [.v (.int .i64 h),.v (.int .u64 l)]=>⟨h,l⟩
 |_=>⟨0,0⟩
def FWNeg:List Ar->Option Rs
 | [.agg [.d (.v (.int .i64 h0)),.d (.v (.int .u64 l0))]]=>some ⟨(Wd.ok ⟨h0,l0⟩),.va (Wd.ar (wd (0-Wd.val (⟨h0,l0⟩:Wd)))),[]⟩
 |_=>none
theorem fcWNeg:FC Tryz.prog 112 FWNeg:=by
 intro xs pre r us h hp;unfold FWNeg at h;split at h
 . rename_i h0 l0
   cases h;have hp0:=hp
   refine fcat tys_ok (l:= [(109,⟨[],FWSub⟩)]) ⟨fcWSub,trivial⟩ Tryz.func112 rfl (by kernel_rfl) false ?_
   repeat' (first|exact trivial|refine ⟨?_, ?_⟩|intro _)
   all_goals first|(with_reducible apply qq)|(conv=>whnf)
   all_goals first|rfl|decide|omega|exact hp0.1.1|exact hp0.1.2|exact hp0.2.1|exact hp0.2.2
 . cases h
def FWCmp:List Ar->Option Rs
 | [.agg [.d (.v (.int .i64 h0)),.d (.v (.int .u64 l0))],.agg [.d (.v (.int .i64 h1)),.d (.v (.int .u64 l1))]]=>some ⟨(Wd.ok ⟨h0,l0⟩)/\ (Wd.ok ⟨h1,l1⟩),.va (.c (.d (it (wCmp (Wd.val (⟨h0,l0⟩:Wd)) (Wd.val (⟨h1,l1⟩:Wd)))))),[]⟩
 |_=>none
theorem fcWCmp:FC Tryz.prog 135 FWCmp:=by
 intro xs pre r us h hp;unfold FWCmp at h;split at h
 . rename_i h0 l0 h1 l1
   cases h;obtain ⟨hp0,hp1⟩:=hp
   refine fcat tys_ok (l:= []) trivial Tryz.func135 rfl (by kernel_rfl) false ?_
   repeat' (first|exact trivial|refine ⟨?_, ?_⟩|intro _)
   all_goals first|(with_reducible apply qq)|(conv=>whnf)
   all_goals (simp only [decide_eq_true_eq,decide_eq_false_iff_not,beq_iff_eq,beq_eq_false_iff_ne,ne_eq,Bool.and_true,Bool.and_eq_true,Bool.and_eq_false_imp,Wd.val,Wd.ok] at*;refine congrArg (Value.int .i64) ?_;unfold wCmp;(repeat' split)<;>omega)
 . cases h
def maxW (a x:Wd):Wd:=if wCmp x.val a.val=1 then x else a
theorem maxW_t {a x:Wd} {i:Int} (hi:i=1) (h:(wCmp x.val a.val==i)=true):maxW a x=x:=by subst hi;unfold maxW;rw [if_pos (by simpa using h)]
theorem maxW_f {a x:Wd} {i:Int} (hi:i=1) (h:(wCmp x.val a.val==i)=false):maxW a x=a:=by subst hi;unfold maxW;rw [if_neg (by simpa using h)]
def atW (i:Nat) (a x:Wd):Wd:=if i=0 then a else maxW a x
def FWBest:List Ar->Option Rs
 | [.agg [.d (.v (.int .i64 h0)),.d (.v (.int .u64 l0))],.c (.d (.v (.int .i64 i1))),.c (.d (.lst 2 1 f2))]=>some ⟨(Wd.ok ⟨h0,l0⟩)/\ (-9223372036854775808<=i1/\ i1<9223372036854775808)/\ (f2 0= [it (gW (f2 0)).hi,ut (gW (f2 0)).lo]/\ Wd.ok (gW (f2 0)))/\ (i1=1),.va (Wd.ar (maxW (⟨h0,l0⟩:Wd) (gW (f2 0)))),[]⟩
 |_=>none
theorem fcWBest:FC Tryz.prog 127 FWBest:=by
 intro xs pre r us h hp;unfold FWBest at h;split at h
 . rename_i h0 l0 i1 f2
   cases h;obtain ⟨hp0,hp1,hp2,hp3⟩:=hp
   refine FCat.of_eq (as':= [.agg [.d (.v (.int .i64 h0)),.d (.v (.int .u64 l0))],.c (.d (.v (.int .i64 i1))),.c (.d (.lst 2 1 fun _=> [it (gW (f2 0)).hi,ut (gW (f2 0)).lo]))]) ?_ rfl rfl ?_
   . repeat' (first|exact trivial|exact rfl|refine ⟨?_, ?_⟩|fail)
     all_goals first|exact hp0.2|exact hp1.2|exact hp2.2|(intro i hi;exact (hp0.2 i hi).1)|(intro i hi;exact (hp1.2 i hi).1)|(intro i hi;exact (hp2.2 i hi).1)|grind
   refine fcat tys_ok (l:= [(135,⟨[],FWCmp⟩)]) ⟨fcWCmp,trivial⟩ Tryz.func127 rfl (by kernel_rfl) false ?_
   repeat' (first|exact trivial|refine ⟨?_, ?_⟩|intro _)
   all_goals first|(with_reducible apply qq)|(conv=>whnf)
   refine loop_ok tys_ok (l:= [(135,⟨[],FWCmp⟩)]) ⟨fcWCmp,trivial⟩ (by kernel_rfl) (X:=Nat)
    (fun x=>⟨[(11,vx (.int .i64 x)),(10,vx (.int .i64 1)),(9,.va (.c (.d (.lst 2 1 fun _=> [it (gW (f2 0)).hi,ut (gW (f2 0)).lo])))),(1,vx (.int .i64 i1)),(3,.va (.c (.own 0 0))),(6,.va (.c (.own 1 0)))],[(0,.cells [.d (it (atW x ⟨h0,l0⟩ (gW (f2 0))).hi),.d (ut (atW x ⟨h0,l0⟩ (gW (f2 0))).lo)]),(1,.cells [.d (it 0),.d (ut 0)])],2,23⟩)
    (fun x=>1-x) (fun x=>x<=1) [] [] (fun x _ _=>x+1) [0,1] [0,1] 0 0 0 (Nat.zero_le _) ?_ ?_
   . repeat' (first|exact trivial|exact rfl|(intro _ h;exact absurd h (Nat.not_lt_zero _))|(intro _ _;exact rfl)|refine ⟨?_, ?_⟩|fail)
   . intro i k1;have hc:i=0 \/i=1:=by omega
     rcases hc with rfl|rfl
     . have f0:Wd.ok (atW 0 ⟨h0,l0⟩ (gW (f2 0))):=hp0
       repeat' (first|exact trivial|(with_reducible first|exact hp2.2|exact f0)|refine ⟨?_, ?_⟩|intro _)
       all_goals first|(with_reducible apply qq)|(conv=>whnf)
       all_goals first|omega|rfl|decide|(exact hp0.1.1)|(exact hp0.1.2)|(exact hp0.2.1)|(exact hp0.2.2)|(exact hp2.2.1.1)|(exact hp2.2.1.2)|(exact hp2.2.2.1)|(exact hp2.2.2.2)|(exfalso;exact absurd ‹decide _=false› (by decide))|(exfalso;exact absurd ‹decide _=true› (by decide))|(exact congrArg (fun w:Wd=>Value.int .i64 w.hi) (maxW_t hp3 ‹(_==i1)=true›).symm)|(exact congrArg (fun w:Wd=>Value.int .u64 w.lo) (maxW_t hp3 ‹(_==i1)=true›).symm)|(exact congrArg (fun w:Wd=>Value.int .i64 w.hi) (maxW_f hp3 ‹(_==i1)=false›).symm)|(exact congrArg (fun w:Wd=>Value.int .u64 w.lo) (maxW_f hp3 ‹(_==i1)=false›).symm)
     . repeat' (first|exact trivial|refine ⟨?_, ?_⟩|intro _)
       all_goals first|(with_reducible apply qq)|(conv=>whnf)
       all_goals first|omega|rfl|decide|(exact hp0.1.1)|(exact hp0.1.2)|(exact hp0.2.1)|(exact hp0.2.2)|(exact hp2.2.1.1)|(exact hp2.2.1.2)|(exact hp2.2.2.1)|(exact hp2.2.2.2)|(exfalso;exact absurd ‹decide _=false› (by decide))|(exfalso;exact absurd ‹decide _=true› (by decide))|(exact congrArg (fun w:Wd=>Value.int .i64 w.hi) (maxW_t hp3 ‹(_==i1)=true›).symm)|(exact congrArg (fun w:Wd=>Value.int .u64 w.lo) (maxW_t hp3 ‹(_==i1)=true›).symm)|(exact congrArg (fun w:Wd=>Value.int .i64 w.hi) (maxW_f hp3 ‹(_==i1)=false›).symm)|(exact congrArg (fun w:Wd=>Value.int .u64 w.lo) (maxW_f hp3 ‹(_==i1)=false›).symm)
 . cases h
def FWMax:List Ar->Option Rs
 | [.agg [.d (.v (.int .i64 h0)),.d (.v (.int .u64 l0))],.c (.d (.lst 2 1 f1))]=>some ⟨(Wd.ok ⟨h0,l0⟩)/\ (f1 0= [it (gW (f1 0)).hi,ut (gW (f1 0)).lo]/\ Wd.ok (gW (f1 0))),.va (Wd.ar (maxW (⟨h0,l0⟩:Wd) (gW (f1 0)))),[]⟩
 |_=>none
theorem fcWMax:FC Tryz.prog 111 FWMax:=by
 intro xs pre r us h hp;unfold FWMax at h;split at h
 . rename_i h0 l0 f1
   cases h;obtain ⟨hp0,hp1⟩:=hp
   refine FCat.of_eq (as':= [.agg [.d (.v (.int .i64 h0)),.d (.v (.int .u64 l0))],.c (.d (.lst 2 1 fun _=> [it (gW (f1 0)).hi,ut (gW (f1 0)).lo]))]) ?_ rfl rfl ?_
   . repeat' (first|exact trivial|exact rfl|refine ⟨?_, ?_⟩|fail)
     all_goals first|exact hp0.2|exact hp1.2|exact hp2.2|(intro i hi;exact (hp0.2 i hi).1)|(intro i hi;exact (hp1.2 i hi).1)|(intro i hi;exact (hp2.2 i hi).1)|grind
   refine fcat tys_ok (l:= [(127,⟨[],FWBest⟩)]) ⟨fcWBest,trivial⟩ Tryz.func111 rfl (by kernel_rfl) false ?_
   have hq:(-9223372036854775808:Int)<=1/\ (1:Int)<9223372036854775808:=by decide
   repeat' (first|exact trivial|refine ⟨?_, ?_⟩|intro _)
   all_goals first|(with_reducible apply qq)|(conv=>whnf)
   all_goals first|rfl|decide|exact hp0|exact hp0.1.1|exact hp0.1.2|exact hp0.2.1|exact hp0.2.2|exact hp1.2.1.1|exact hp1.2.1.2|exact hp1.2.2.1|exact hp1.2.2.2
 . cases h
def apartI (a b:Int):Int:=if a≥b then a-b else b-a
theorem apart_key {a b:Int} (ha: -9223372036854775808<=a/\ a<9223372036854775808) (hb: -9223372036854775808<=b/\ b<9223372036854775808):(maxW (wd ((wd a).val-(wd b).val)) (wd (0-(wd ((wd a).val-(wd b).val)).val))).lo=if a≥b then a-b else b-a:=by
 rw [wd_val (v:=a) (by omega) (by omega),wd_val (v:=b) (by omega) (by omega),wd_val (v:=a-b) (by omega) (by omega)];unfold maxW wCmp;rw [wd_val (v:=a-b) (by omega) (by omega),wd_val (v:=0-(a-b)) (by omega) (by omega)];unfold wd
 (repeat' split)<;>dsimp only<;>omega
def FCApart:List Ar->Option Rs
 | [.c (.d (.v (.int .i64 i0))),.c (.d (.v (.int .i64 i1)))]=>some ⟨(-9223372036854775808<=i0/\ i0<9223372036854775808)/\ (-9223372036854775808<=i1/\ i1<9223372036854775808),.va (.c (.d (ut (apartI i0 i1)))),[]⟩
 |_=>none
theorem fcCApart:FC Tryz.prog 96 FCApart:=by
 intro xs pre r us h hp;unfold FCApart at h;split at h
 . rename_i i0 i1
   cases h;obtain ⟨hp0,hp1⟩:=hp
   refine fcat tys_ok (l:= [(110,⟨[],FWOf⟩),(109,⟨[],FWSub⟩),(112,⟨[],FWNeg⟩),(111,⟨[],FWMax⟩)]) ⟨fcWOf,fcWSub,fcWNeg,fcWMax,trivial⟩ Tryz.func96 rfl (by kernel_rfl) false ?_
   repeat' (first|exact trivial|(with_reducible first|exact wd_ok _|exact (wd_ok _).1.1|exact (wd_ok _).1.2|exact (wd_ok _).2.1|exact (wd_ok _).2.2)|refine ⟨?_, ?_⟩|intro _)
   all_goals first|(with_reducible apply qq)|(conv=>whnf)
   all_goals first|omega|rfl|exact (wd_ok _).1.1|exact (wd_ok _).1.2|exact (wd_ok _).2.1|exact (wd_ok _).2.2|(exact congrArg (Value.int .u64) (apart_key hp0 hp1))
 . cases h
theorem gcd_step {a b:Int} (hb:b≠0) (h0:0<=a) (h1:0<=b):0<=a.tmod b/\ a.tmod b<b/\ Int.gcd b (a.tmod b)=Int.gcd a b:=by
 rw [Int.tmod_eq_emod_of_nonneg h0];refine ⟨Int.emod_nonneg _ hb,Int.emod_lt_of_pos _ (by omega), ?_⟩
 obtain ⟨x,rfl⟩:=Int.eq_ofNat_of_zero_le h0
 obtain ⟨y,rfl⟩:=Int.eq_ofNat_of_zero_le h1
 rw [<-Int.natCast_emod,Int.gcd_natCast_natCast,Int.gcd_natCast_natCast,Nat.gcd_comm x y,Nat.gcd_rec y x,Nat.gcd_comm]
def FCGcd:List Ar->Option Rs
 | [.c (.d (.v (.int .u64 u0))),.c (.d (.v (.int .u64 u1)))]=>some ⟨(0<=u0/\ u0<18446744073709551616)/\ (0<=u1/\ u1<18446744073709551616),.va (.c (.d (ut ((Int.gcd u0 u1:Int))))),[]⟩
 |_=>none
theorem fcCGcd:FC Tryz.prog 95 FCGcd:=by
 intro xs pre r us h hp;unfold FCGcd at h;split at h
 . rename_i u0 u1
   cases h;obtain ⟨hp0,hp1⟩:=hp
   refine fcat tys_ok (l:= []) trivial Tryz.func95 rfl (by kernel_rfl) false ?_
   repeat' (first|exact trivial|refine ⟨?_, ?_⟩|intro _)
   all_goals first|(with_reducible apply qq)|(conv=>whnf)
   refine scope_ok tys_ok (ls:= []) trivial (by kernel_rfl) 0 rfl (X:=Int×Int) (fun x=>⟨[(0,vx (.int .u64 x.1)),(1,vx (.int .u64 x.2))],[],0,12⟩) (fun x=>x.2.toNat)
    (fun x=>(0<=x.1/\ x.1<18446744073709551616)/\ (0<=x.2/\ x.2<18446744073709551616)/\ Int.gcd x.1 x.2=Int.gcd u0 u1) [0,1] [] (fun xs _=>match xs with| [a,b]=>(iT a,iT b)|_=>(0,0)) (fun _ xs _=>match xs with| [a,b]=>(iT a,iT b)|_=>(0,0)) [] [] 0 0 ?_ ?_
   . repeat' (first|exact trivial|refine ⟨?_, ?_⟩|intro _)
     all_goals first|(with_reducible apply qq)|(conv=>whnf)
     all_goals (try simp only [beq_iff_eq,beq_eq_false_iff_ne,ne_eq,iT] at*)
     all_goals first|omega|((with_reducible show idsOk _ _=true);rfl)|(exact absurd ‹_› ‹¬_›)|(have e:u1=0:=‹u1=0›;rw [e,Int.gcd_zero,Int.natAbs_of_nonneg (by omega)];done)|(have q:=gcd_step (a:=u0) (b:=u1) ‹_› (by omega) (by omega);first|omega|(rw [q.2.2])|rfl)|rfl
   . rintro ⟨a,b⟩ ⟨k1,k2,k3⟩
     dsimp only at k1 k2 k3
     repeat' (first|exact trivial|refine ⟨?_, ?_⟩|intro _)
     all_goals first|(with_reducible apply qq)|(conv=>whnf)
     all_goals (try simp only [beq_iff_eq,beq_eq_false_iff_ne,ne_eq,iT] at*)
     all_goals first|omega|((with_reducible show idsOk _ _=true);rfl)|(exact absurd ‹_› ‹¬_›)|(rw [<-k3];have e:b=0:=‹b=0›;rw [e,Int.gcd_zero,Int.natAbs_of_nonneg (by omega)];done)|(have q:=gcd_step (a:=a) (b:=b) ‹_› (by omega) (by omega);first|omega|(rw [q.2.2];exact k3)|rfl)|rfl
 . cases h
namespace Cg
def gcdJ (x y:Cg):Int:=(Int.gcd (Int.gcd x.m y.m:Int) (apartI x.r y.r):Int)
def join (a b:Cg):Cg:=if !a.clean.some then b.clean else if !b.clean.some then a.clean else if gcdJ a.clean b.clean>9223372036854775807 then Cg.of 1 0 else Cg.of (gcdJ a.clean b.clean) a.clean.r
end Cg
theorem gcd_u {a b:Int} (ha:0<=a/\ a<18446744073709551616) (hb:0<=b/\ b<18446744073709551616):0<=(Int.gcd a b:Int)/\ (Int.gcd a b:Int)<18446744073709551616:=by
 refine ⟨by omega, ?_⟩
 rcases Int.lt_or_eq_of_le ha.1 with h|h
 . have:=Int.gcd_le_left (b:=b) h;omega
 . subst h;rw [Int.zero_gcd];omega
theorem apart_u {a b:Int} (ha: -9223372036854775808<=a/\ a<9223372036854775808) (hb: -9223372036854775808<=b/\ b<9223372036854775808):0<=apartI a b/\ apartI a b<18446744073709551616:=by unfold apartI;split<;>omega
theorem gcdJ_u {x y:Cg} (hx:x.inR) (hy:y.inR) (h0:0<=x.m) (h1:0<=y.m):0<=Cg.gcdJ x y/\ Cg.gcdJ x y<18446744073709551616:=by
 unfold Cg.inR at hx hy;exact gcd_u (gcd_u (by omega) (by omega)) (apart_u hx.2 hy.2)
theorem join_1 {a b:Cg} (h:(!a.clean.some)=true):Cg.join a b=b.clean:=by unfold Cg.join;rw [if_pos h]
theorem join_2 {a b:Cg} (h:(!a.clean.some)=false) (h2:(!b.clean.some)=true):Cg.join a b=a.clean:=by unfold Cg.join;rw [if_neg (by rw [h];decide),if_pos h2]
theorem join_3 {a b:Cg} (h:(!a.clean.some)=false) (h2:(!b.clean.some)=false) (h3:decide (Cg.gcdJ a.clean b.clean>9223372036854775807)=true):Cg.join a b=Cg.of 1 0:=by unfold Cg.join;rw [if_neg (by rw [h];decide),if_neg (by rw [h2];decide),if_pos (by simpa using h3)]
theorem join_4 {a b:Cg} (h:(!a.clean.some)=false) (h2:(!b.clean.some)=false) (h3:decide (Cg.gcdJ a.clean b.clean>9223372036854775807)=false) (h0:0<=Cg.gcdJ a.clean b.clean):Cg.join a b=Cg.of (IntKind.wrap .i64 (Cg.gcdJ a.clean b.clean)) a.clean.r:=by
 unfold Cg.join;rw [if_neg (by rw [h];decide),if_neg (by rw [h2];decide),if_neg (by simpa using h3),wI_id _ (by omega) (by have:=of_decide_eq_false h3;omega)]
theorem wrapJ {g:Int} (h0:0<=g) (h3:decide (g>9223372036854775807)=false): -9223372036854775808<=IntKind.wrap .i64 g/\ IntKind.wrap .i64 g<9223372036854775808:=by
 have:=of_decide_eq_false h3
 rw [wI_id _ (by omega) (by omega)];omega
def FCJoin:List Ar->Option Rs
 | [.agg [.d (.v (.bool b0)),.d (.v (.int .i64 m0)),.d (.v (.int .i64 r0))],.agg [.d (.v (.bool b1)),.d (.v (.int .i64 m1)),.d (.v (.int .i64 r1))]]=>some ⟨(Cg.inR ⟨b0,m0,r0⟩)/\ (Cg.inR ⟨b1,m1,r1⟩),.va (Cg.ar (Cg.join (⟨b0,m0,r0⟩:Cg) (⟨b1,m1,r1⟩:Cg))),[]⟩
 |_=>none
theorem fcCJoin:FC Tryz.prog 66 FCJoin:=by
 intro xs pre r us h hp;unfold FCJoin at h;split at h
 . rename_i b0 m0 r0 b1 m1 r1
   cases h;obtain ⟨hp0,hp1⟩:=hp
   refine fcat tys_ok (l:= [(71,⟨[],FCClean⟩),(94,⟨[],FCNone⟩),(95,⟨[],FCGcd⟩),(96,⟨[],FCApart⟩),(97,⟨[],FCAll⟩),(70,⟨[],FCOf⟩)]) ⟨fcCClean,fcCNone,fcCGcd,fcCApart,fcCAll,fcCOf,trivial⟩ Tryz.func66 rfl (by kernel_rfl) false ?_
   have hx:=Cg.clean_inR hp0
   have hy:=Cg.clean_inR hp1
   have hxx:=hx
   have hyy:=hy
   unfold Cg.inR at hxx hyy;have hx0:=Cg.clean_nn ⟨b0,m0,r0⟩
   have hy0:=Cg.clean_nn ⟨b1,m1,r1⟩
   have ux:=wU_id (Cg.clean ⟨b0,m0,r0⟩).m hx0 (by have:=hx.1.2;omega)
   have uy:=wU_id (Cg.clean ⟨b1,m1,r1⟩).m hy0 (by have:=hy.1.2;omega)
   have vx:0<=(Cg.clean ⟨b0,m0,r0⟩).m/\ (Cg.clean ⟨b0,m0,r0⟩).m<18446744073709551616:=⟨hx0,by have:=hx.1.2;omega⟩
   have vy:0<=(Cg.clean ⟨b1,m1,r1⟩).m/\ (Cg.clean ⟨b1,m1,r1⟩).m<18446744073709551616:=⟨hy0,by have:=hy.1.2;omega⟩
   have g1:=gcd_u vx vy
   have g2:=apart_u hx.2 hy.2
   have g3:=gcdJ_u hx hy hx0 hy0
   repeat' (first|exact trivial|(with_reducible first|assumption|exact hx.1|exact hx.2|exact hy.1|exact hy.2|exact vx|exact vy|exact g1|exact g2)|refine ⟨?_, ?_⟩|intro _)
   all_goals first|(with_reducible apply qq)|(conv=>whnf)
   all_goals (try rw [ux] at*)
   all_goals (try rw [uy] at*)
   all_goals first|(with_reducible first|exact vx.1|exact vx.2|exact vy.1|exact vy.2|exact hxx.1.1|exact hxx.1.2|exact hxx.2.1|exact hxx.2.2|exact hyy.1.1|exact hyy.1.2|exact hyy.2.1|exact hyy.2.2|exact g1.1|exact g1.2|exact g2.1|exact g2.2)|exact (wrapJ g3.1 ‹decide (_>_)=false›).1|exact (wrapJ g3.1 ‹decide (_>_)=false›).2|(have e:=join_1 (a:=⟨b0,m0,r0⟩) (b:=⟨b1,m1,r1⟩) ‹_›;first|exact congrArg (fun i:Cg=>Value.bool i.some) e.symm|exact congrArg (fun i:Cg=>Value.int .i64 i.m) e.symm|exact congrArg (fun i:Cg=>Value.int .i64 i.r) e.symm|fail)|(have e:=join_2 (a:=⟨b0,m0,r0⟩) (b:=⟨b1,m1,r1⟩) ‹_› ‹_›;first|exact congrArg (fun i:Cg=>Value.bool i.some) e.symm|exact congrArg (fun i:Cg=>Value.int .i64 i.m) e.symm|exact congrArg (fun i:Cg=>Value.int .i64 i.r) e.symm|fail)|(have e:=join_3 (a:=⟨b0,m0,r0⟩) (b:=⟨b1,m1,r1⟩) ‹_› ‹_› ‹_›;first|exact congrArg (fun i:Cg=>Value.bool i.some) e.symm|exact congrArg (fun i:Cg=>Value.int .i64 i.m) e.symm|exact congrArg (fun i:Cg=>Value.int .i64 i.r) e.symm|fail)|(have e:=join_4 (a:=⟨b0,m0,r0⟩) (b:=⟨b1,m1,r1⟩) ‹_› ‹_› ‹_› g3.1;first|exact congrArg (fun i:Cg=>Value.bool i.some) e.symm|exact congrArg (fun i:Cg=>Value.int .i64 i.m) e.symm|exact congrArg (fun i:Cg=>Value.int .i64 i.r) e.symm|fail)
 . cases h
structure Sp where
 some:Bool
 lo:Int
 hi:Int
abbrev Sp.ar (s:Sp):Ar:= .agg [.d (bo s.some),.d (it s.lo),.d (it s.hi)]
namespace Sp
def none (s:Sp):Bool:= !s.some||decide (s.lo>s.hi)
def has (s:Sp) (n:Int):Bool:=s.some&&decide (s.lo<=n)&&decide (n<=s.hi)
def clean (s:Sp):Sp:=if s.none then ⟨false,0,0⟩ else s
def leq (a b:Sp):Bool:=a.none||(b.has a.lo&&b.has a.hi)
def of (lo hi:Int):Sp:=if lo>hi then ⟨false,0,0⟩ else ⟨true,lo,hi⟩
def eq (a b:Sp):Bool:=a.some==b.some&&(a.lo==b.lo&&a.hi==b.hi)
def join (a b:Sp):Sp:=if a.none then b.clean else if b.none then a else of (min a.lo b.lo) (max a.hi b.hi)
def narrow (a b:Sp):Sp:=if !leq b a then a.clean else if b.none then ⟨false,0,0⟩ else ⟨a.some,if a.lo= -9223372036854775808 then b.lo else a.lo,if a.hi=9223372036854775807 then b.hi else a.hi⟩
def inR (s:Sp):Prop:=(-9223372036854775808<=s.lo/\ s.lo<9223372036854775808)/\ -9223372036854775808<=s.hi/\ s.hi<9223372036854775808
theorem clean_inR {s:Sp} (h:s.inR):s.clean.inR:=by
 unfold clean;split
 . unfold inR;decide
 . exact h
end Sp
def FSNone:List Ar->Option Rs
 | [.agg [.d (.v (.bool s0)),.d (.v (.int .i64 l0)),.d (.v (.int .i64 h0))]]=>some ⟨(Sp.inR ⟨s0,l0,h0⟩),.va (.c (.d (bo (Sp.none (⟨s0,l0,h0⟩:Sp))))),[]⟩
 |_=>none
theorem fcSNone:FC Tryz.prog 92 FSNone:=by
 intro xs pre r us h hp;unfold FSNone at h;split at h
 . rename_i s0 l0 h0
   cases h;have hp0:=hp
   refine fcat tys_ok (l:= []) trivial Tryz.func92 rfl (by kernel_rfl) false ?_
   repeat' (first|exact trivial|refine ⟨?_, ?_⟩|intro _)
   all_goals first|(with_reducible apply qq)|(conv=>whnf)
   all_goals grind [Sp.none,Sp.inR]
 . cases h
def FSHas:List Ar->Option Rs
 | [.agg [.d (.v (.bool s0)),.d (.v (.int .i64 l0)),.d (.v (.int .i64 h0))],.c (.d (.v (.int .i64 i1)))]=>some ⟨(Sp.inR ⟨s0,l0,h0⟩)/\ (-9223372036854775808<=i1/\ i1<9223372036854775808),.va (.c (.d (bo (Sp.has (⟨s0,l0,h0⟩:Sp) i1)))),[]⟩
 |_=>none
theorem fcSHas:FC Tryz.prog 45 FSHas:=by
 intro xs pre r us h hp;unfold FSHas at h;split at h
 . rename_i s0 l0 h0 i1
   cases h;obtain ⟨hp0,hp1⟩:=hp
   refine fcat tys_ok (l:= []) trivial Tryz.func45 rfl (by kernel_rfl) false ?_
   repeat' (first|exact trivial|refine ⟨?_, ?_⟩|intro _)
   all_goals first|(with_reducible apply qq)|(conv=>whnf)
   all_goals grind [Sp.has,Sp.inR]
 . cases h
def FSOf:List Ar->Option Rs
 | [.c (.d (.v (.int .i64 i0))),.c (.d (.v (.int .i64 i1)))]=>some ⟨(-9223372036854775808<=i0/\ i0<9223372036854775808)/\ (-9223372036854775808<=i1/\ i1<9223372036854775808),.va (Sp.ar (Sp.of i0 i1)),[]⟩
 |_=>none
theorem fcSOf:FC Tryz.prog 69 FSOf:=by
 intro xs pre r us h hp;unfold FSOf at h;split at h
 . rename_i i0 i1
   cases h;obtain ⟨hp0,hp1⟩:=hp
   refine fcat tys_ok (l:= []) trivial Tryz.func69 rfl (by kernel_rfl) false ?_
   repeat' (first|exact trivial|refine ⟨?_, ?_⟩|intro _)
   all_goals first|(with_reducible apply qq)|(conv=>whnf)
   all_goals grind [Sp.of]
 . cases h
def FSOne:List Ar->Option Rs
 | [.c (.d (.v (.int .i64 i0)))]=>some ⟨(-9223372036854775808<=i0/\ i0<9223372036854775808),.va (Sp.ar (Sp.of i0 i0)),[]⟩
 |_=>none
theorem fcSOne:FC Tryz.prog 43 FSOne:=by
 intro xs pre r us h hp;unfold FSOne at h;split at h
 . rename_i i0
   cases h;have hp0:=hp
   refine fcat tys_ok (l:= [(69,⟨[],FSOf⟩)]) ⟨fcSOf,trivial⟩ Tryz.func43 rfl (by kernel_rfl) false ?_
   repeat' (first|exact trivial|refine ⟨?_, ?_⟩|intro _)
   all_goals first|(with_reducible apply qq)|(conv=>whnf)
   all_goals first|rfl|omega
 . cases h
def FSClean:List Ar->Option Rs
 | [.agg [.d (.v (.bool s0)),.d (.v (.int .i64 l0)),.d (.v (.int .i64 h0))]]=>some ⟨(Sp.inR ⟨s0,l0,h0⟩),.va (Sp.ar (Sp.clean (⟨s0,l0,h0⟩:Sp))),[]⟩
 |_=>none
theorem fcSClean:FC Tryz.prog 93 FSClean:=by
 intro xs pre r us h hp;unfold FSClean at h;split at h
 . rename_i s0 l0 h0
   cases h;have hp0:=hp
   refine fcat tys_ok (l:= [(92,⟨[],FSNone⟩)]) ⟨fcSNone,trivial⟩ Tryz.func93 rfl (by kernel_rfl) false ?_
   repeat' (first|exact trivial|refine ⟨?_, ?_⟩|intro _)
   all_goals first|(with_reducible apply qq)|(conv=>whnf)
   all_goals grind [Sp.clean,Sp.inR]
 . cases h
def FSLeq:List Ar->Option Rs
 | [.agg [.d (.v (.bool s0)),.d (.v (.int .i64 l0)),.d (.v (.int .i64 h0))],.agg [.d (.v (.bool s1)),.d (.v (.int .i64 l1)),.d (.v (.int .i64 h1))]]=>some ⟨(Sp.inR ⟨s0,l0,h0⟩)/\ (Sp.inR ⟨s1,l1,h1⟩),.va (.c (.d (bo (Sp.leq (⟨s0,l0,h0⟩:Sp) (⟨s1,l1,h1⟩:Sp))))),[]⟩
 |_=>none
theorem fcSLeq:FC Tryz.prog 121 FSLeq:=by
 intro xs pre r us h hp;unfold FSLeq at h;split at h
 . rename_i s0 l0 h0 s1 l1 h1
   cases h;obtain ⟨hp0,hp1⟩:=hp
   refine fcat tys_ok (l:= [(92,⟨[],FSNone⟩),(45,⟨[],FSHas⟩)]) ⟨fcSNone,fcSHas,trivial⟩ Tryz.func121 rfl (by kernel_rfl) false ?_
   repeat' (first|exact trivial|refine ⟨?_, ?_⟩|intro _)
   all_goals first|(with_reducible apply qq)|(conv=>whnf)
   all_goals grind [Sp.leq,Sp.inR]
 . cases h
def rI (n:Int):Prop:= -9223372036854775808<=n/\ n<9223372036854775808
def gI:List DV->Int
 | [.v (.int .i64 n)]=>n
 |_=>0
def under (l:List Int) (n:Int):Int:=l.foldl (fun b r=>if r<=n/\ b<r then r else b) (-9223372036854775808)
def over (l:List Int) (n:Int):Int:=l.foldl (fun b r=>if n<=r/\ r<b then r else b) 9223372036854775807
namespace Sp
def widen (a b:Sp) (l:List Int):Sp:=if a.none then b.clean else if leq b a then a else ⟨a.some,if b.lo<a.lo then under l b.lo else a.lo,if b.hi>a.hi then over l b.hi else a.hi⟩
theorem of_inR {l h:Int} (h0:rI l) (h1:rI h):(of l h).inR:=by unfold of;split;unfold inR;decide;exact ⟨h0,h1⟩
theorem join_inR {a b:Sp} (ha:a.inR) (hb:b.inR):(join a b).inR:=by
 unfold join;split
 . exact clean_inR hb
 . split
   . exact ha
   . unfold inR at ha hb;exact of_inR (by unfold rI;omega) (by unfold rI;omega)
end Sp
def FSJoin:List Ar->Option Rs
 | [.agg [.d (.v (.bool s0)),.d (.v (.int .i64 l0)),.d (.v (.int .i64 h0))],.agg [.d (.v (.bool s1)),.d (.v (.int .i64 l1)),.d (.v (.int .i64 h1))]]=>some ⟨(Sp.inR ⟨s0,l0,h0⟩)/\ (Sp.inR ⟨s1,l1,h1⟩),.va (Sp.ar (Sp.join (⟨s0,l0,h0⟩:Sp) (⟨s1,l1,h1⟩:Sp))),[]⟩
 |_=>none
theorem fcSJoin:FC Tryz.prog 65 FSJoin:=by
 intro xs pre r us h hp;unfold FSJoin at h;split at h
 . rename_i s0 l0 h0 s1 l1 h1
   cases h;obtain ⟨hp0,hp1⟩:=hp
   refine fcat tys_ok (l:= [(92,⟨[],FSNone⟩),(93,⟨[],FSClean⟩),(69,⟨[],FSOf⟩)]) ⟨fcSNone,fcSClean,fcSOf,trivial⟩ Tryz.func65 rfl (by kernel_rfl) false ?_
   repeat' (first|exact trivial|refine ⟨?_, ?_⟩|intro _)
   all_goals first|(with_reducible apply qq)|(conv=>whnf)
   all_goals grind [Sp.join,Sp.clean,Sp.none,Sp.of,Sp.inR]
 . cases h
structure Ig where
 s:Sp
 c:Cg
abbrev Ig.ar (i:Ig):Ar:= .agg [.d (bo i.s.some),.d (it i.s.lo),.d (it i.s.hi),.d (bo i.c.some),.d (it i.c.m),.d (it i.c.r)]
structure Vl where
 i:Ig
 t:Ns
abbrev Vl.ar (v:Vl):Ar:= .agg [.d (bo v.i.s.some),.d (it v.i.s.lo),.d (it v.i.s.hi),.d (bo v.i.c.some),.d (it v.i.c.m),.d (it v.i.c.r),.d (bo v.t.null),.d (lst v.t.names)]
def Cg.red (c:Cg):Prop:=0<=c.m/\ (0<c.m->0<=c.r/\ c.r<c.m)
theorem Cg.clean_red (c:Cg):c.clean.red:=by
 unfold Cg.clean Cg.of Cg.none Cg.red;split
 . split
   . have:=md_bound c.r 1 (by omega)
     dsimp only;omega
   . refine ⟨by dsimp only;omega,fun h=> ?_⟩
     exact md_bound c.r c.m h
 . dsimp only;omega
def upW (n:Int) (c:Cg):Int:=n+(c.r-n)%c.m
def dnW (n:Int) (c:Cg):Int:=n-(n-c.r)%c.m
def upV (n:Int) (c:Cg):Int:=if c.m=0 then c.r else wIntV (upW n c)
def upB (n:Int) (c:Cg):Bool:=if c.m=0 then decide (c.r≥n) else wIntB (upW n c)
def dnV (n:Int) (c:Cg):Int:=if c.m=0 then c.r else wIntV (dnW n c)
def dnB (n:Int) (c:Cg):Bool:=if c.m=0 then decide (c.r<=n) else wIntB (dnW n c)
namespace Ig
def zero:Ig:=⟨⟨false,0,0⟩,⟨false,0,0⟩⟩
def none (i:Ig):Bool:=i.s.none|| !i.c.some
def clean (i:Ig):Ig:=if i.none then zero else ⟨i.s.clean,i.c.clean⟩
def leq (i j:Ig):Bool:=i.s.leq j.s&&i.c.leq j.c
def red (i:Ig):Ig:=if i.none then zero else if (!upB i.s.lo i.c|| !dnB i.s.hi i.c)||decide (upV i.s.lo i.c>dnV i.s.hi i.c) then zero else
 if upV i.s.lo i.c=dnV i.s.hi i.c then ⟨Sp.of (upV i.s.lo i.c) (upV i.s.lo i.c),Cg.of 0 (upV i.s.lo i.c)⟩ else ⟨Sp.of (upV i.s.lo i.c) (dnV i.s.hi i.c),i.c⟩
theorem clean_inR {i:Ig} (h1:i.s.inR) (h2:i.c.inR):i.clean.s.inR/\ i.clean.c.inR:=by
 unfold clean;split
 . unfold zero Sp.inR Cg.inR;decide
 . exact ⟨Sp.clean_inR h1,Cg.clean_inR h2⟩
end Ig
theorem wInt_r (v:Int): -9223372036854775808<=wIntV v/\ wIntV v<9223372036854775808:=by unfold wIntV;split<;>omega
def FVNone:List Ar->Option Rs
 | [.agg [.d (.v (.bool s0)),.d (.v (.int .i64 l0)),.d (.v (.int .i64 h0)),.d (.v (.bool b0)),.d (.v (.int .i64 m0)),.d (.v (.int .i64 r0))]]=>some ⟨(Sp.inR ⟨s0,l0,h0⟩/\ Cg.inR ⟨b0,m0,r0⟩),.va (.c (.d (bo (Ig.none (⟨⟨s0,l0,h0⟩,⟨b0,m0,r0⟩⟩:Ig))))),[]⟩
 |_=>none
theorem fcVNone:FC Tryz.prog 74 FVNone:=by
 intro xs pre r us h hp;unfold FVNone at h;split at h
 . rename_i s0 l0 h0 b0 m0 r0
   cases h;have hp0:=hp
   refine fcat tys_ok (l:= [(92,⟨[],FSNone⟩),(94,⟨[],FCNone⟩)]) ⟨fcSNone,fcCNone,trivial⟩ Tryz.func74 rfl (by kernel_rfl) false ?_
   repeat' (first|exact trivial|refine ⟨?_, ?_⟩|intro _)
   all_goals first|(with_reducible apply qq)|(conv=>whnf)
   all_goals first|grind [Ig.none,Sp.inR,Cg.inR]
 . cases h
def FVClean:List Ar->Option Rs
 | [.agg [.d (.v (.bool s0)),.d (.v (.int .i64 l0)),.d (.v (.int .i64 h0)),.d (.v (.bool b0)),.d (.v (.int .i64 m0)),.d (.v (.int .i64 r0))]]=>some ⟨(Sp.inR ⟨s0,l0,h0⟩/\ Cg.inR ⟨b0,m0,r0⟩),.va (Ig.ar (Ig.clean (⟨⟨s0,l0,h0⟩,⟨b0,m0,r0⟩⟩:Ig))),[]⟩
 |_=>none
theorem fcVClean:FC Tryz.prog 90 FVClean:=by
 intro xs pre r us h hp;unfold FVClean at h;split at h
 . rename_i s0 l0 h0 b0 m0 r0
   cases h;have hp0:=hp
   refine fcat tys_ok (l:= [(74,⟨[],FVNone⟩),(93,⟨[],FSClean⟩),(71,⟨[],FCClean⟩)]) ⟨fcVNone,fcSClean,fcCClean,trivial⟩ Tryz.func90 rfl (by kernel_rfl) false ?_
   repeat' (first|exact trivial|refine ⟨?_, ?_⟩|intro _)
   all_goals first|(with_reducible apply qq)|(conv=>whnf)
   all_goals first|grind [Ig.clean,Ig.zero,Sp.inR,Cg.inR]
 . cases h
def FVLeq0:List Ar->Option Rs
 | [.agg [.d (.v (.bool s0)),.d (.v (.int .i64 l0)),.d (.v (.int .i64 h0)),.d (.v (.bool b0)),.d (.v (.int .i64 m0)),.d (.v (.int .i64 r0))],.agg [.d (.v (.bool s1)),.d (.v (.int .i64 l1)),.d (.v (.int .i64 h1)),.d (.v (.bool b1)),.d (.v (.int .i64 m1)),.d (.v (.int .i64 r1))]]=>some ⟨(Sp.inR ⟨s0,l0,h0⟩/\ Cg.inR ⟨b0,m0,r0⟩)/\ (Sp.inR ⟨s1,l1,h1⟩/\ Cg.inR ⟨b1,m1,r1⟩),.va (.c (.d (bo (Ig.leq (⟨⟨s0,l0,h0⟩,⟨b0,m0,r0⟩⟩:Ig) (⟨⟨s1,l1,h1⟩,⟨b1,m1,r1⟩⟩:Ig))))),[]⟩
 |_=>none
theorem fcVLeq0:FC Tryz.prog 105 FVLeq0:=by
 intro xs pre r us h hp;unfold FVLeq0 at h;split at h
 . rename_i s0 l0 h0 b0 m0 r0 s1 l1 h1 b1 m1 r1
   cases h;obtain ⟨hp0,hp1⟩:=hp
   refine fcat tys_ok (l:= [(121,⟨[],FSLeq⟩),(122,⟨[],FCLeq⟩)]) ⟨fcSLeq,fcCLeq,trivial⟩ Tryz.func105 rfl (by kernel_rfl) false ?_
   repeat' (first|exact trivial|refine ⟨?_, ?_⟩|intro _)
   all_goals first|(with_reducible apply qq)|(conv=>whnf)
   all_goals first|grind [Ig.leq,Sp.inR,Cg.inR]
 . cases h
theorem upV_0 {n m r:Int} {b:Bool} (hm:m=0):upV n ⟨b,m,r⟩=r/\ upB n ⟨b,m,r⟩=decide (r≥n)/\ dnV n ⟨b,m,r⟩=r/\ dnB n ⟨b,m,r⟩=decide (r<=n):=by unfold upV upB dnV dnB;simp [hm]
theorem upV_1 {n m r:Int} {b:Bool} (hm: ¬m=0):upV n ⟨b,m,r⟩=wIntV (upW n ⟨b,m,r⟩)/\ upB n ⟨b,m,r⟩=wIntB (upW n ⟨b,m,r⟩)/\ dnV n ⟨b,m,r⟩=wIntV (dnW n ⟨b,m,r⟩)/\ dnB n ⟨b,m,r⟩=wIntB (dnW n ⟨b,m,r⟩):=by unfold upV upB dnV dnB;simp [hm]
theorem upV_r {n:Int} {c:Cg} (h:c.inR): -9223372036854775808<=upV n c/\ upV n c<9223372036854775808:=by
 unfold upV;split
 . exact h.2
 . exact wInt_r _
theorem dnV_r {n:Int} {c:Cg} (h:c.inR): -9223372036854775808<=dnV n c/\ dnV n c<9223372036854775808:=by
 unfold dnV;split
 . exact h.2
 . exact wInt_r _
namespace Vl
def of (v:Vl):Vl:=⟨v.i.clean,⟨v.t.null,ofS v.t.names⟩⟩
def reduce (v:Vl):Vl:=⟨v.of.i.red,v.of.t⟩
def hasInt (v:Vl) (n:Int):Bool:=v.i.s.has n&&v.i.c.has n
def leq (a b:Vl):Bool:=a.of.i.leq b.of.i&&((!a.t.null||b.t.null)&&subS (ofS a.t.names) (ofS b.t.names))
def rclean (v:Vl):Vl:=⟨v.i.clean,⟨v.t.null,cleanS v.t.names⟩⟩
def rreduce (v:Vl):Vl:=⟨v.rclean.i.red,v.rclean.t⟩
def exact (a b:Vl):Bool:=(Sp.eq a.i.s b.i.s&&Cg.eq a.i.c b.i.c)&&(a.t.null==b.t.null&&decide (a.t.names=b.t.names))
end Vl
theorem ofS_room {n:Nat} {f:Nat->List DV} (h:n*16<=140737488351232):(ofS (gN n f)).length*16<=140737488351232:=by
 have:=ofS_len (gN n f)
 rw [gN_length] at this;omega
theorem red_inR {i:Ig} (h1:i.s.inR) (h2:i.c.inR):i.red.s.inR/\ i.red.c.inR:=by
 have e1:=upV_r (n:=i.s.lo) h2
 have e2:=dnV_r (n:=i.s.hi) h2
 unfold Ig.red;split
 . unfold Ig.zero Sp.inR Cg.inR;decide
 . split
   . unfold Ig.zero Sp.inR Cg.inR;decide
   . split
     . refine ⟨?_,Cg.of_inR _ _ (by omega) (by omega) e1.1 e1.2⟩
       unfold Sp.of Sp.inR;split
       . dsimp only;omega
       . exact ⟨e1,e1⟩
     . refine ⟨?_,h2⟩
       unfold Sp.of Sp.inR;split
       . dsimp only;omega
       . exact ⟨e1,e2⟩
theorem clean_red {i:Ig}:i.clean.c.red:=by
 unfold Ig.clean;split
 . unfold Ig.zero Cg.red;decide
 . exact Cg.clean_red _
def FVOf:List Ar->Option Rs
 | [.agg [.d (.v (.bool s0)),.d (.v (.int .i64 l0)),.d (.v (.int .i64 h0)),.d (.v (.bool b0)),.d (.v (.int .i64 m0)),.d (.v (.int .i64 r0)),.d (.v (.bool z0)),.d (.lst 1 n0 f0)]]=>some ⟨((n0*16<=140737488351232/\ ∀i,i<n0->f0 i= [st (gT (f0 i))])/\ Sp.inR ⟨s0,l0,h0⟩/\ Cg.inR ⟨b0,m0,r0⟩),.va (Vl.ar (Vl.of (⟨⟨⟨s0,l0,h0⟩,⟨b0,m0,r0⟩⟩,⟨z0,gN n0 f0⟩⟩:Vl))),[]⟩
 |_=>none
theorem fcVOf:FC Tryz.prog 64 FVOf:=by
 intro xs pre r us h hp;unfold FVOf at h;split at h
 . rename_i s0 l0 h0 b0 m0 r0 z0 n0 f0
   cases h;have hp0:=hp
   refine FCat.of_eq (as':= [.agg [.d (.v (.bool s0)),.d (.v (.int .i64 l0)),.d (.v (.int .i64 h0)),.d (.v (.bool b0)),.d (.v (.int .i64 m0)),.d (.v (.int .i64 r0)),.d (.v (.bool z0)),.d (.lst 1 n0 fun i=> [st (gT (f0 i))])]]) ?_ rfl rfl ?_
   . repeat' (first|exact trivial|exact rfl|refine ⟨?_, ?_⟩|fail)
     all_goals first|exact hp0.2|exact hp1.2|exact hp2.2|(intro i hi;exact (hp0.2 i hi).1)|(intro i hi;exact (hp1.2 i hi).1)|(intro i hi;exact (hp2.2 i hi).1)|grind
   refine fcat tys_ok (l:= [(90,⟨[],FVClean⟩),(91,⟨[],FNClean⟩)]) ⟨fcVClean,fcNClean,trivial⟩ Tryz.func64 rfl (by kernel_rfl) true ?_
   repeat' (first|exact trivial|refine ⟨?_, ?_⟩|intro _)
   all_goals first|(with_reducible apply qq)|(conv=>whnf)
   all_goals first|exact hp0.2|exact hp0.1.1|exact (hp0.1.2 _ ‹_›)|exact hp0.2.1|exact hp0.2.2|exact hp0.2.1.1.1|exact hp0.2.1.1.2|exact hp0.2.1.2.1|exact hp0.2.1.2.2|exact hp0.2.2.1.1|exact hp0.2.2.1.2|exact hp0.2.2.2.1|exact hp0.2.2.2.2|rfl
 . cases h
def FVValue:List Ar->Option Rs
 | [.agg [.d (.v (.bool s0)),.d (.v (.int .i64 l0)),.d (.v (.int .i64 h0)),.d (.v (.bool b0)),.d (.v (.int .i64 m0)),.d (.v (.int .i64 r0)),.d (.v (.bool z0)),.d (.lst 1 n0 f0)]]=>some ⟨((n0*16<=140737488351232/\ ∀i,i<n0->f0 i= [st (gT (f0 i))])/\ Sp.inR ⟨s0,l0,h0⟩/\ Cg.inR ⟨b0,m0,r0⟩),.va (.agg [.d (.v (.bool s0)),.d (.v (.int .i64 l0)),.d (.v (.int .i64 h0)),.d (.v (.bool b0)),.d (.v (.int .i64 m0)),.d (.v (.int .i64 r0)),.d (.v (.bool z0)),.d (.lst 1 n0 fun i=> [st (gT (f0 i))])]),[]⟩
 |_=>none
theorem fcVValue:FC Tryz.prog 68 FVValue:=by
 intro xs pre r us h hp;unfold FVValue at h;split at h
 . rename_i s0 l0 h0 b0 m0 r0 z0 n0 f0
   cases h;have hp0:=hp
   refine FCat.of_eq (as':= [.agg [.d (.v (.bool s0)),.d (.v (.int .i64 l0)),.d (.v (.int .i64 h0)),.d (.v (.bool b0)),.d (.v (.int .i64 m0)),.d (.v (.int .i64 r0)),.d (.v (.bool z0)),.d (.lst 1 n0 fun i=> [st (gT (f0 i))])]]) ?_ rfl rfl ?_
   . repeat' (first|exact trivial|exact rfl|refine ⟨?_, ?_⟩|fail)
     all_goals first|exact hp0.2|exact hp1.2|exact hp2.2|(intro i hi;exact (hp0.2 i hi).1)|(intro i hi;exact (hp1.2 i hi).1)|(intro i hi;exact (hp2.2 i hi).1)|grind
   refine fcat tys_ok (l:= []) trivial Tryz.func68 rfl (by kernel_rfl) false ?_
   repeat' (first|exact trivial|refine ⟨?_, ?_⟩|intro _)
   all_goals first|(with_reducible apply qq)|(conv=>whnf)
   all_goals first|exact hp0.2|exact hp0.1.1|exact (hp0.1.2 _ ‹_›)|exact hp0.2.1|exact hp0.2.2|exact hp0.2.1.1.1|exact hp0.2.1.1.2|exact hp0.2.1.2.1|exact hp0.2.1.2.2|exact hp0.2.2.1.1|exact hp0.2.2.1.2|exact hp0.2.2.2.1|exact hp0.2.2.2.2|rfl
 . cases h
def FVNum:List Ar->Option Rs
 | [.c (.d (.v (.int .i64 i0)))]=>some ⟨(-9223372036854775808<=i0/\ i0<9223372036854775808),.va (Vl.ar (⟨⟨Sp.of i0 i0,Cg.of 0 i0⟩,⟨false,[]⟩⟩)),[]⟩
 |_=>none
theorem fcVNum:FC Tryz.prog 21 FVNum:=by
 intro xs pre r us h hp;unfold FVNum at h;split at h
 . rename_i i0
   cases h;have hp0:=hp
   refine fcat tys_ok (l:= [(43,⟨[],FSOne⟩),(44,⟨[],FCOne⟩)]) ⟨fcSOne,fcCOne,trivial⟩ Tryz.func21 rfl (by kernel_rfl) false ?_
   repeat' (first|exact trivial|refine ⟨?_, ?_⟩|intro _)
   all_goals first|(with_reducible apply qq)|(conv=>whnf)
   all_goals first|omega|rfl
 . cases h
def FVHasInt:List Ar->Option Rs
 | [.agg [.d (.v (.bool s0)),.d (.v (.int .i64 l0)),.d (.v (.int .i64 h0)),.d (.v (.bool b0)),.d (.v (.int .i64 m0)),.d (.v (.int .i64 r0)),.d (.v (.bool z0)),.d (.lst 1 n0 f0)],.c (.d (.v (.int .i64 i1)))]=>some ⟨((n0*16<=140737488351232/\ ∀i,i<n0->f0 i= [st (gT (f0 i))])/\ Sp.inR ⟨s0,l0,h0⟩/\ Cg.inR ⟨b0,m0,r0⟩)/\ (-9223372036854775808<=i1/\ i1<9223372036854775808),.va (.c (.d (bo (Vl.hasInt (⟨⟨⟨s0,l0,h0⟩,⟨b0,m0,r0⟩⟩,⟨z0,gN n0 f0⟩⟩:Vl) i1)))),[]⟩
 |_=>none
theorem fcVHasInt:FC Tryz.prog 22 FVHasInt:=by
 intro xs pre r us h hp;unfold FVHasInt at h;split at h
 . rename_i s0 l0 h0 b0 m0 r0 z0 n0 f0 i1
   cases h;obtain ⟨hp0,hp1⟩:=hp
   refine FCat.of_eq (as':= [.agg [.d (.v (.bool s0)),.d (.v (.int .i64 l0)),.d (.v (.int .i64 h0)),.d (.v (.bool b0)),.d (.v (.int .i64 m0)),.d (.v (.int .i64 r0)),.d (.v (.bool z0)),.d (.lst 1 n0 fun i=> [st (gT (f0 i))])],.c (.d (.v (.int .i64 i1)))]) ?_ rfl rfl ?_
   . repeat' (first|exact trivial|exact rfl|refine ⟨?_, ?_⟩|fail)
     all_goals first|exact hp0.2|exact hp1.2|exact hp2.2|(intro i hi;exact (hp0.2 i hi).1)|(intro i hi;exact (hp1.2 i hi).1)|(intro i hi;exact (hp2.2 i hi).1)|grind
   refine fcat tys_ok (l:= [(45,⟨[],FSHas⟩),(46,⟨[],FCHas⟩)]) ⟨fcSHas,fcCHas,trivial⟩ Tryz.func22 rfl (by kernel_rfl) false ?_
   repeat' (first|exact trivial|refine ⟨?_, ?_⟩|intro _)
   all_goals first|(with_reducible apply qq)|(conv=>whnf)
   all_goals first|exact hp0.2|exact hp0.1.1|exact (hp0.1.2 _ ‹_›)|exact hp0.2.1|exact hp0.2.2|exact hp0.2.1.1.1|exact hp0.2.1.1.2|exact hp0.2.1.2.1|exact hp0.2.1.2.2|exact hp0.2.2.1.1|exact hp0.2.2.1.2|exact hp0.2.2.2.1|exact hp0.2.2.2.2|rfl|exact hp1|exact hp1.1|exact hp1.2|(unfold Vl.hasInt;simp_all;done)
 . cases h
theorem sp_clean_some {s:Sp}:s.clean.some= !s.none:=by
 unfold Sp.clean Sp.none;cases h1:s.some<;>by_cases h:s.lo>s.hi<;>simp [h,h1]
theorem cg_clean_some {c:Cg}:c.clean.some=c.some:=by
 unfold Cg.clean Cg.of Cg.none;cases h:c.some<;>simp
 split<;>rfl
def nilD (sz:Nat):DV->DV
 | .v (.slice none 0 0)=> .lst sz 0 (fun _=> [])
 |x=>x
def nilI (sz:Nat):Ic->Ic
 | .d x=> .d (nilD sz x)
 |x=>x
def nilA (sz:Nat):Ar->Ar
 | .c x=> .c (nilI sz x)
 | .agg xs=> .agg (xs.map (nilI sz))
 |x=>x
def FN (sz:Nat) (F:List Ar->Option Rs) (qs:List Ar):Option Rs:=
 match arsRows qs with
 | []=>match F (qs.map (nilA sz)) with
   |some ⟨p,r,[]⟩=>some ⟨p,r,[]⟩
   |_=>none
 |_=>none
theorem dvEq_refl (x:DV):dvEq x x:=by cases x<;>simp [dvEq]
theorem nilD_eq (sz:Nat) (x:DV):dvEq x (nilD sz x):=by
 unfold nilD;split
 . exact ⟨rfl,rfl⟩
 . exact dvEq_refl x
theorem nilI_eq (sz:Nat) (x:Ic):icEq x (nilI sz x):=by
 cases x with
 |d x=>exact nilD_eq sz x
 |ow a b c=>exact ⟨rfl,rfl,fun _ _=>rfl⟩
theorem nilIs_eq (sz:Nat): ∀xs:List Ic,icsEq xs (xs.map (nilI sz))
 | []=>trivial
 |x::xs=>⟨nilI_eq sz x,nilIs_eq sz xs⟩
theorem nilA_eq (sz:Nat) (x:Ar):arEq x (nilA sz x):=by
 cases x with
 |c x=>exact nilI_eq sz x
 |agg xs=>exact nilIs_eq sz xs
 |rp _=>rfl
 |fv _=>rfl
theorem nilAs_eq (sz:Nat): ∀xs:List Ar,arsEq xs (xs.map (nilA sz))
 | []=>trivial
 |x::xs=>⟨nilA_eq sz x,nilAs_eq sz xs⟩
theorem nil_icRows (sz:Nat): ∀xs:List Ic,icRows (xs.map (nilI sz))=icRows xs
 | []=>rfl
 | .d x::xs=>by simp only [List.map_cons,nilI,icRows];exact nil_icRows sz xs
 | .ow a b c::xs=>by simp only [List.map_cons,nilI,icRows];rw [nil_icRows sz xs]
theorem nil_arRows (sz:Nat) (x:Ar):arRows (nilA sz x)=arRows x:=by
 cases x with
 |c x=>cases x<;>rfl
 |agg xs=>exact nil_icRows sz xs
 |rp _=>rfl
 |fv _=>rfl
theorem nil_arsRows (sz:Nat): ∀xs:List Ar,arsRows (xs.map (nilA sz))=arsRows xs
 | []=>rfl
 |x::xs=>by simp only [List.map_cons,arsRows];rw [nil_arRows,nil_arsRows sz xs]
theorem fc_nil {P:Program} {f:Nat} {F:List Ar->Option Rs} (sz:Nat) (h:FC P f F):FC P f (FN sz F):=by
 intro qs pre r us he hp;unfold FN at he;split at he
 . rename_i h0
   split at he
   . rename_i p r' hF
     cases he;exact FCat.of_eq (nilAs_eq sz qs) h0 (by rw [nil_arsRows];exact h0) (h _ _ _ _ hF hp)
   . cases he
 . cases he
theorem leq_t {a b:Vl} (h:a.of.i.leq b.of.i=true):Value.bool ((!a.t.null||b.t.null)&&subS (ofS a.t.names) (ofS b.t.names))=Value.bool (a.leq b):=by unfold Vl.leq;rw [h];rfl
theorem leq_f {a b:Vl} (h:a.of.i.leq b.of.i=false):Value.bool false=Value.bool (a.leq b):=by unfold Vl.leq;rw [h];rfl
def FVLeq:List Ar->Option Rs
 | [.agg [.d (.v (.bool s0)),.d (.v (.int .i64 l0)),.d (.v (.int .i64 h0)),.d (.v (.bool b0)),.d (.v (.int .i64 m0)),.d (.v (.int .i64 r0)),.d (.v (.bool z0)),.d (.lst 1 n0 f0)],.agg [.d (.v (.bool s1)),.d (.v (.int .i64 l1)),.d (.v (.int .i64 h1)),.d (.v (.bool b1)),.d (.v (.int .i64 m1)),.d (.v (.int .i64 r1)),.d (.v (.bool z1)),.d (.lst 1 n1 f1)]]=>some ⟨((n0*16<=140737488351232/\ ∀i,i<n0->f0 i= [st (gT (f0 i))])/\ Sp.inR ⟨s0,l0,h0⟩/\ Cg.inR ⟨b0,m0,r0⟩)/\ ((n1*16<=140737488351232/\ ∀i,i<n1->f1 i= [st (gT (f1 i))])/\ Sp.inR ⟨s1,l1,h1⟩/\ Cg.inR ⟨b1,m1,r1⟩),.va (.c (.d (bo (Vl.leq (⟨⟨⟨s0,l0,h0⟩,⟨b0,m0,r0⟩⟩,⟨z0,gN n0 f0⟩⟩:Vl) (⟨⟨⟨s1,l1,h1⟩,⟨b1,m1,r1⟩⟩,⟨z1,gN n1 f1⟩⟩:Vl))))),[]⟩
 |_=>none
theorem fcVLeq:FC Tryz.prog 79 FVLeq:=by
 intro xs pre r us h hp;unfold FVLeq at h;split at h
 . rename_i s0 l0 h0 b0 m0 r0 z0 n0 f0 s1 l1 h1 b1 m1 r1 z1 n1 f1
   cases h;obtain ⟨hp0,hp1⟩:=hp
   refine FCat.of_eq (as':= [.agg [.d (.v (.bool s0)),.d (.v (.int .i64 l0)),.d (.v (.int .i64 h0)),.d (.v (.bool b0)),.d (.v (.int .i64 m0)),.d (.v (.int .i64 r0)),.d (.v (.bool z0)),.d (.lst 1 n0 fun i=> [st (gT (f0 i))])],.agg [.d (.v (.bool s1)),.d (.v (.int .i64 l1)),.d (.v (.int .i64 h1)),.d (.v (.bool b1)),.d (.v (.int .i64 m1)),.d (.v (.int .i64 r1)),.d (.v (.bool z1)),.d (.lst 1 n1 fun i=> [st (gT (f1 i))])]]) ?_ rfl rfl ?_
   . repeat' (first|exact trivial|exact rfl|refine ⟨?_, ?_⟩|fail)
     all_goals first|exact hp0.2|exact hp1.2|exact hp2.2|(intro i hi;exact (hp0.2 i hi).1)|(intro i hi;exact (hp1.2 i hi).1)|(intro i hi;exact (hp2.2 i hi).1)|grind
   refine fcat tys_ok (l:= [(64,⟨[],FVOf⟩),(105,⟨[],FVLeq0⟩),(106,⟨[],FNLeq⟩)]) ⟨fcVOf,fcVLeq0,fcNLeq,trivial⟩ Tryz.func79 rfl (by kernel_rfl) true ?_
   have hc:=Ig.clean_inR (i:=⟨⟨s0,l0,h0⟩,⟨b0,m0,r0⟩⟩) hp0.2.1 hp0.2.2
   have hr:=red_inR hc.1 hc.2
   have hd:=clean_red (i:=⟨⟨s0,l0,h0⟩,⟨b0,m0,r0⟩⟩)
   have hm:=ofS_room (f:=f0) hp0.1.1
   have hc1:=Ig.clean_inR (i:=⟨⟨s1,l1,h1⟩,⟨b1,m1,r1⟩⟩) hp1.2.1 hp1.2.2
   have hr1:=red_inR hc1.1 hc1.2
   have hd1:=clean_red (i:=⟨⟨s1,l1,h1⟩,⟨b1,m1,r1⟩⟩)
   have hm1:=ofS_room (f:=f1) hp1.1.1
   repeat' (first|exact trivial|refine ⟨?_, ?_⟩|intro _)
   all_goals first|(with_reducible apply qq)|(conv=>whnf)
   all_goals first|exact hp0.1.1|exact hp1.1.1|exact hp0.2.1.1.1|exact hp0.2.1.1.2|exact hp0.2.1.2.1|exact hp0.2.1.2.2|exact hp0.2.2.1.1|exact hp0.2.2.1.2|exact hp0.2.2.2.1|exact hp0.2.2.2.2|exact hp0.2.1|exact hp0.2.2|exact hp1.2.1.1.1|exact hp1.2.1.1.2|exact hp1.2.1.2.1|exact hp1.2.1.2.2|exact hp1.2.2.1.1|exact hp1.2.2.1.2|exact hp1.2.2.2.1|exact hp1.2.2.2.2|exact hp1.2.1|exact hp1.2.2|exact hc.1.1.1|exact hc.1.1.2|exact hc.1.2.1|exact hc.1.2.2|exact hc.2.1.1|exact hc.2.1.2|exact hc.2.2.1|exact hc.2.2.2|exact hc.1|exact hc.2|exact hc1.1.1.1|exact hc1.1.1.2|exact hc1.1.2.1|exact hc1.1.2.2|exact hc1.2.1.1|exact hc1.2.1.2|exact hc1.2.2.1|exact hc1.2.2.2|exact hc1.1|exact hc1.2|exact hm|exact hm1|rfl|exact leq_f ‹_›|(rw [gN_lst,gN_lst];exact leq_t ‹_›)
 . cases h
theorem clean_live {i:Ig} (h:i.clean.s.some=true):i.clean.c.some=true/\ i.clean.s.lo<=i.clean.s.hi:=by
 unfold Ig.clean at*
 split at h
 . simp [Ig.zero] at h
 . rename_i hn
   rw [if_neg hn];rw [sp_clean_some] at h;rw [cg_clean_some];unfold Ig.none at hn;have hs:i.s.none=false:=by simpa using h
   have hcs:i.c.some=true:=by simpa [hs] using hn
   have e:i.s.clean=i.s:=by unfold Sp.clean;rw [hs];rfl
   refine ⟨hcs, ?_⟩
   dsimp only;rw [e];unfold Sp.none at hs;simp at hs
   omega
theorem clean_dead {i:Ig} (h:i.clean.s.some=false):i.clean=Ig.zero:=by
 unfold Ig.clean at*
 split at h
 . rename_i hn;rw [if_pos hn]
 . rename_i hn
   rw [sp_clean_some] at h;unfold Ig.none at hn
   simp_all
theorem rd_has {S:Bool} {L H R:Int} (hS:S=true):Sp.has ⟨S,L,H⟩ R=(decide (R≥L)&&decide (R<=H)):=by unfold Sp.has;simp [hS]
theorem rd_nn {S B:Bool} {L H M R:Int} (hS:S=true) (hl:S=true->B=true/\ L<=H):Ig.none ⟨⟨S,L,H⟩,⟨B,M,R⟩⟩=false:=by
 have:=hl hS
 unfold Ig.none Sp.none;simp_all
theorem rd_2 {S B:Bool} {L H M R:Int} (hS:S=true) (hM:M=0) (h:Sp.has ⟨S,L,H⟩ R=false):Ig.red ⟨⟨S,L,H⟩,⟨B,M,R⟩⟩=Ig.zero:=by
 rw [rd_has hS] at h;unfold Ig.red;split
 . rfl
 . rw [if_pos];have h1:=upV_0 (n:=L) (r:=R) (b:=B) hM
   have h2:=upV_0 (n:=H) (r:=R) (b:=B) hM
   rw [h1.2.1,h2.2.2.2,h1.1,h2.2.2.1];simp only [Bool.and_eq_false_iff,decide_eq_false_iff_not] at h;simp;omega
theorem rd_3 {S B:Bool} {L H M R:Int} (hS:S=true) (hl:S=true->B=true/\ L<=H) (hM:M=0) (h:Sp.has ⟨S,L,H⟩ R=true):Ig.red ⟨⟨S,L,H⟩,⟨B,M,R⟩⟩=⟨Sp.of R R,⟨true,0,R⟩⟩:=by
 rw [rd_has hS] at h;unfold Ig.red;have h1:=upV_0 (n:=L) (r:=R) (b:=B) hM
 have h2:=upV_0 (n:=H) (r:=R) (b:=B) hM
 rw [rd_nn hS hl,h1.2.1,h2.2.2.2,h1.1,h2.2.2.1];simp only [Bool.and_eq_true,decide_eq_true_eq] at h;simp [h.1,h.2,Cg.of,md]
theorem rd_4 {S B:Bool} {L H M R:Int} (hM: ¬M=0) (h:((!wIntB (upW L ⟨B,M,R⟩)|| !wIntB (dnW H ⟨B,M,R⟩))||decide (wIntV (upW L ⟨B,M,R⟩)>wIntV (dnW H ⟨B,M,R⟩)))=true):Ig.red ⟨⟨S,L,H⟩,⟨B,M,R⟩⟩=Ig.zero:=by
 unfold Ig.red;have h1:=upV_1 (n:=L) (r:=R) (b:=B) hM
 have h2:=upV_1 (n:=H) (r:=R) (b:=B) hM
 rw [h1.2.1,h2.2.2.2,h1.1,h2.2.2.1];rw [if_pos (c:=_=true) h];split<;>rfl
theorem rd_5 {S B:Bool} {L H M R:Int} (hS:S=true) (hl:S=true->B=true/\ L<=H) (hM: ¬M=0) (h:((!wIntB (upW L ⟨B,M,R⟩)|| !wIntB (dnW H ⟨B,M,R⟩))||decide (wIntV (upW L ⟨B,M,R⟩)>wIntV (dnW H ⟨B,M,R⟩)))=false):
 Ig.red ⟨⟨S,L,H⟩,⟨B,M,R⟩⟩=if wIntV (upW L ⟨B,M,R⟩)=wIntV (dnW H ⟨B,M,R⟩) then ⟨Sp.of (wIntV (upW L ⟨B,M,R⟩)) (wIntV (upW L ⟨B,M,R⟩)),⟨true,0,wIntV (upW L ⟨B,M,R⟩)⟩⟩ else ⟨Sp.of (wIntV (upW L ⟨B,M,R⟩)) (wIntV (dnW H ⟨B,M,R⟩)),⟨B,M,R⟩⟩:=by
 unfold Ig.red;have h1:=upV_1 (n:=L) (r:=R) (b:=B) hM
 have h2:=upV_1 (n:=H) (r:=R) (b:=B) hM
 rw [rd_nn hS hl,h1.2.1,h2.2.2.2,h1.1,h2.2.2.1,h];rw [if_neg (by decide),if_neg (by decide)];split
 . simp [Cg.of,md]
 . rfl
theorem rd_4a {S B:Bool} {L H M R:Int} (hM: ¬M=0) (h:(!wIntB (upW L ⟨B,M,R⟩))=true):Ig.red ⟨⟨S,L,H⟩,⟨B,M,R⟩⟩=Ig.zero:=rd_4 hM (by rw [h];rfl)
theorem rd_4b {S B:Bool} {L H M R:Int} (hM: ¬M=0) (h:(!wIntB (dnW H ⟨B,M,R⟩))=true):Ig.red ⟨⟨S,L,H⟩,⟨B,M,R⟩⟩=Ig.zero:=rd_4 hM (by rw [h];simp)
theorem rd_4c {S B:Bool} {L H M R:Int} (hM: ¬M=0) (h:decide (wIntV (upW L ⟨B,M,R⟩)>wIntV (dnW H ⟨B,M,R⟩))=true):Ig.red ⟨⟨S,L,H⟩,⟨B,M,R⟩⟩=Ig.zero:=rd_4 hM (by rw [h];simp)
open Go.Lib Go.Sort
abbrev kS (s:ByteArray):List UInt8:=s.data.toList
theorem kS_inj {a b:ByteArray} (h:kS a=kS b):a=b:=by
 have:a.data=b.data:=Array.ext' h
 cases a;cases b;simp_all
theorem kS_tl (s:ByteArray):s.toList=kS s:=ByteArray.toList_eq s
theorem slt_eq (a b:ByteArray):slt a b=decide (kS a<kS b):=by unfold slt;rw [bytesLess_eq,kS_tl,kS_tl]
theorem sle_eq (a b:ByteArray):sle a b=(decide (kS a<kS b)||decide (a=b)):=by unfold sle;rw [bytesLess_eq,seq_iff,kS_tl,kS_tl]
def Srt (l:List ByteArray):Prop:=l.Pairwise fun a b=>kS a<kS b
def insS (x:ByteArray):List ByteArray->List ByteArray
 | []=> [x]
 |y::ys=>if kS x<kS y then x::y::ys else if x=y then y::ys else y::insS x ys
theorem foldl_in (x:ByteArray) (l:List ByteArray): ∀out,l.foldl (stepP x) (out,true)=(out++l,true):=by
 induction l with
 |nil=>intro out;simp
 |cons y ys ih=>intro out;rw [List.foldl_cons,stepP_in,ih];simp
theorem foldl_put (x:ByteArray) (l:List ByteArray): ∀out,(if (l.foldl (stepP x) (out,false)).2 then (l.foldl (stepP x) (out,false)).1 else (l.foldl (stepP x) (out,false)).1++ [x])=out++insS x l:=by
 induction l with
 |nil=>intro out;simp [insS]
 |cons y ys ih=>
  intro out;rw [List.foldl_cons];unfold insS;by_cases h1:kS x<kS y
  . rw [if_pos h1,stepP_lt (by rw [sle_eq];simp [h1]) (by rw [slt_eq];simp [h1]),foldl_in];simp
  . rw [if_neg h1];by_cases h2:x=y
    . rw [if_pos h2,stepP_eq (by rw [sle_eq];simp [h2]) (by rw [slt_eq];simp [h1]),foldl_in];simp
    . rw [if_neg h2,stepP_gt (by rw [sle_eq];simp [h1,h2]),ih];simp
theorem putS_ins (l:List ByteArray) (x:ByteArray):putS l x=insS x l:=by
 have:=foldl_put x l []
 rw [List.nil_append] at this;rw [<-this];rfl
theorem mem_ins {x z:ByteArray} {l:List ByteArray}:z∈insS x l↔z=x \/z∈l:=by
 induction l with
 |nil=>simp [insS]
 |cons y ys ih=>
  unfold insS;split
  . simp
  . split
    . rename_i h;subst h;simp
    . simp only [List.mem_cons,ih];constructor
      . rintro (h|h|h)<;>simp [h]
      . rintro (h|h|h)<;>simp [h]
theorem kS_tri {a b:ByteArray} (h1: ¬kS a<kS b) (h2: ¬a=b):kS b<kS a:=by
 rcases Decidable.em (kS b<kS a) with h|h
 . exact h
 . exact absurd (kS_inj (List.le_antisymm (List.not_lt.1 h) (List.not_lt.1 h1))) h2
theorem srt_ins {x:ByteArray} {l:List ByteArray} (h:Srt l):Srt (insS x l):=by
 induction l with
 |nil=>simp [insS,Srt]
 |cons y ys ih=>
  unfold Srt at h ih⊢
  rw [List.pairwise_cons] at h;unfold insS;split
  . rename_i hx
    rw [List.pairwise_cons,List.pairwise_cons];refine ⟨fun a ha=> ?_,h⟩
    rcases List.mem_cons.1 ha with rfl|ha
    . exact hx
    . exact List.lt_trans hx (h.1 a ha)
  . split
    . rw [List.pairwise_cons];exact h
    . rename_i h1 h2
      rw [List.pairwise_cons];refine ⟨fun a ha=> ?_,ih h.2⟩
      rcases mem_ins.1 ha with rfl|ha
      . exact kS_tri h1 h2
      . exact h.1 a ha
theorem cleanS_fold (l:List ByteArray): ∀s,Srt s->Srt (l.foldl putS s)/\ ∀z,z∈l.foldl putS s↔z∈s \/z∈l:=by
 induction l with
 |nil=>intro s h;exact ⟨h,fun z=>by simp⟩
 |cons x l ih=>
  intro s h;rw [List.foldl_cons,putS_ins];obtain ⟨h1,h2⟩:=ih _ (srt_ins (x:=x) h)
  refine ⟨h1,fun z=> ?_⟩
  rw [h2,mem_ins];simp only [List.mem_cons];constructor
  . rintro ((h|h)|h)<;>simp [h]
  . rintro (h|h|h)<;>simp [h]
theorem srt_nil:Srt []:=by simp [Srt]
theorem cleanS_srt (l:List ByteArray):Srt (cleanS l):=(cleanS_fold l [] srt_nil).1
theorem cleanS_mem {l:List ByteArray} {z:ByteArray}:z∈cleanS l↔z∈l:=by
 have:=(cleanS_fold l [] srt_nil).2 z
 simpa [cleanS] using this
theorem srt_ext: ∀{l m:List ByteArray},Srt l->Srt m->(∀z,z∈l↔z∈m)->l=m
 | [],[],_,_,_=>rfl
 | [],y::m,_,_,h=>absurd ((h y).2 (by simp)) (by simp)
 |x::l,[],_,_,h=>absurd ((h x).1 (by simp)) (by simp)
 |x::l,y::m,h1,h2,h=>by
  unfold Srt at h1 h2;rw [List.pairwise_cons] at h1 h2;have hxy:x=y:=by
   rcases List.mem_cons.1 ((h x).1 (by simp)) with e|e
   . exact e
   . rcases List.mem_cons.1 ((h y).2 (by simp)) with e'|e'
     . exact e'.symm
     . exact absurd (List.lt_trans (h1.1 y e') (h2.1 x e)) (List.lt_irrefl _)
  subst hxy
  congr 1
  refine srt_ext h1.2 h2.2 fun z=> ?_
  have hz:=h z
  simp only [List.mem_cons] at hz;constructor
  . intro hl;rcases hz.1 (.inr hl) with e|e
    . subst e;exact absurd (h1.1 z hl) (List.lt_irrefl _)
    . exact e
  . intro hm;rcases hz.2 (.inr hm) with e|e
    . subst e;exact absurd (h2.1 z hm) (List.lt_irrefl _)
    . exact e
theorem compact_law {xs:List (List UInt8)} (hs:xs.Pairwise fun a b=> ¬b<a): ∀n,n<=xs.length->
 ((compactUpTo xs.toArray n).Pairwise fun a b=>a<b)/\ (∀z,z∈compactUpTo xs.toArray n↔z∈xs.take n):=by
 intro n
 induction n with
 |zero=>intro _;simp [compactUpTo]
 |succ n ih=>
  intro hn;obtain ⟨h1,h2⟩:=ih (by omega)
  have hlt:n<xs.length:=by omega
  have hget:(xs.toArray)[n]! =xs[n]:=by simp [hlt]
  rw [compactUpTo_succ,hget];have htake: ∀z,z∈xs.take (n+1)↔z∈xs.take n \/z=xs[n]:=by
   intro z;rw [List.take_succ_eq_append_getElem hlt,List.mem_append,List.mem_singleton]
  have hle: ∀z,z∈xs.take n-> ¬xs[n]<z:=by
   intro z hz;obtain ⟨i,hi,rfl⟩:=List.mem_take_iff_getElem.1 hz
   exact List.pairwise_iff_getElem.1 hs i n (by omega) hlt (by omega)
  by_cases hk:keeps xs.toArray n=true
  . rw [if_pos hk];refine ⟨?_,fun z=> ?_⟩
    . rw [List.pairwise_append];refine ⟨h1,by simp,fun a ha b hb=> ?_⟩
      simp only [List.mem_singleton] at hb;subst hb;have ha:=(h2 a).1 ha
      have h3:=hle a ha
      rcases Decidable.em (a<xs[n]) with h|h
      . exact h
      . exfalso
        have he:a=xs[n]:=List.le_antisymm (List.not_lt.1 h3) (List.not_lt.1 h)
        unfold keeps at hk;rcases Nat.eq_zero_or_pos n with h0|h0
        . subst h0;simp at ha
        . have hp:(xs.toArray)[n-1]! =xs[n-1]'(by omega):=by
           rw [getElem!_pos _ _ (by simp;omega)];simp
          rw [hget,hp] at hk;have hne: ¬xs[n]=xs[n-1]'(by omega):=by
           intro e;simp [e] at hk
           omega
          obtain ⟨i,hi,rfl⟩:=List.mem_take_iff_getElem.1 ha
          rcases Nat.lt_or_ge i (n-1) with h4|h4
          . have q1:=List.pairwise_iff_getElem.1 hs i (n-1) (by omega) (by omega) (by omega)
            have q2:=List.pairwise_iff_getElem.1 hs (n-1) n (by omega) hlt (by omega)
            rw [he] at q1;exact hne (List.le_antisymm (List.not_lt.1 q1) (List.not_lt.1 q2))
          . have:i=n-1:=by omega
            subst this;exact hne he.symm
    . rw [List.mem_append,h2,htake];simp
  . rw [if_neg hk,List.append_nil];refine ⟨h1,fun z=> ?_⟩
    rw [h2,htake];constructor
    . exact .inl
    . rintro (h|h)
      . exact h
      . subst h;unfold keeps at hk;rcases Nat.eq_zero_or_pos n with h0|h0
        . subst h0;simp at hk
        . have hp:(xs.toArray)[n-1]! =xs[n-1]'(by omega):=by
           rw [getElem!_pos _ _ (by simp;omega)];simp
          rw [hget,hp] at hk;have he:xs[n]=xs[n-1]'(by omega):=by
           simp at hk
           exact hk.2
          rw [he];exact List.mem_take_iff_getElem.2 ⟨n-1,by omega,rfl⟩
theorem bS_kS (s:ByteArray):bS (kS s)=s:=by unfold bS kS;cases s;rfl
theorem kS_bS (l:List UInt8):kS (bS l)=l:=by unfold bS kS;simp
theorem map_kb (l:List (List UInt8)):(l.map bS).map (fun s=>s.data.toList)=l:=by
 rw [List.map_map];have:(fun s:ByteArray=>s.data.toList)∘bS=id:=by funext x;exact kS_bS x
 rw [this,List.map_id]
theorem ofS_eq (l:List ByteArray):ofS l=cleanS l:=by
 have hs:(sortL l).Pairwise fun a b=> ¬b<a:=by
  have:=List.pairwise_mergeSort (le:=fun x y:List UInt8=> !(ltOf cfL) y x) (fun a b c h1 h2=>by
   rw [ltOf_cfL] at*
   simp only [Bool.not_eq_true',decide_eq_false_iff_not,List.not_lt] at*
   exact List.le_trans h1 h2) (fun a b=>by
   rw [ltOf_cfL,ltOf_cfL];simp only [Bool.or_eq_true,Bool.not_eq_true',decide_eq_false_iff_not,List.not_lt];exact List.le_total a b) (l.map fun s=>s.data.toList)
  refine this.imp fun {a b} h=> ?_
  rw [ltOf_cfL] at h
  simpa using h
 have hc:=compact_law hs (sortL l).length (Nat.le_refl _)
 rw [List.take_length] at hc;have he:compL ((sortL l).map bS)=compactUpTo (sortL l).toArray (sortL l).length:=by
  unfold compL;rw [map_kb];rfl
 refine srt_ext ?_ (cleanS_srt l) fun z=> ?_
 . unfold ofS Srt;rw [List.pairwise_map,he];exact hc.1.imp fun h=>by rw [kS_bS,kS_bS];exact h
 . rw [cleanS_mem];unfold ofS;rw [List.mem_map,he];constructor
   . rintro ⟨x,hx,rfl⟩
     rw [hc.2] at hx;have hx:x∈l.map fun s=>s.data.toList:=List.mem_mergeSort.1 hx
     obtain ⟨s,hs,rfl⟩:=List.mem_map.1 hx
     rw [show bS s.data.toList=s from bS_kS s];exact hs
   . intro hz;refine ⟨kS z, ?_,bS_kS z⟩
     rw [hc.2];exact List.mem_mergeSort.2 (List.mem_map.2 ⟨z,hz,rfl⟩)
theorem cleanS_fix {l:List ByteArray} (h:Srt l):cleanS l=l:=srt_ext (cleanS_srt l) h fun _=>cleanS_mem
theorem cleanS_idem (l:List ByteArray):cleanS (cleanS l)=cleanS l:=cleanS_fix (cleanS_srt l)
theorem subS_iff {l m:List ByteArray}:subS l m=true↔ ∀z,z∈l->z∈m:=by
 unfold subS;rw [List.all_eq_true];exact ⟨fun h z hz=>memS_iff.1 (h z hz),fun h z hz=>memS_iff.2 (h z hz)⟩
end Go.Proofs.YtkfjfgabianfhaaGreat
namespace Go.Proofs.YtkfjfgabianfhaaGreat
open Go.Sx
theorem of_rclean (v:Vl):v.of=v.rclean:=by unfold Vl.of Vl.rclean;rw [ofS_eq]
theorem reduce_eq (v:Vl):v.reduce=v.rreduce:=by unfold Vl.reduce Vl.rreduce;rw [of_rclean]
theorem sp_eq_refl (a:Sp):Sp.eq a a=true:=by simp [Sp.eq]
theorem cg_eq_refl (a:Cg):Cg.eq a a=true:=by simp [Cg.eq]
theorem exact_refl (v:Vl):v.exact v=true:=by unfold Vl.exact;simp [sp_eq_refl,cg_eq_refl]
def Ig.tidy (i:Ig):Prop:=i=Ig.zero \/((i.s.some=true/\ i.c.some=true)/\ i.s.lo<=i.s.hi/\ i.c.red)
theorem clean_tidy (i:Ig):i.clean.tidy:=by
 cases h:i.clean.s.some with
 |false=>exact .inl (clean_dead h)
 |true=>exact .inr ⟨⟨h,(clean_live h).1⟩,(clean_live h).2,clean_red⟩
theorem cg_fix {c:Cg} (h:c.some=true) (hr:c.red):c.clean=c:=by
 obtain ⟨b,m,r⟩:=c
 unfold Cg.clean Cg.of md;unfold Cg.red at hr;dsimp only at*
 subst h;rw [if_pos rfl,if_neg (by omega)];split
 . rfl
 . have:=hr.2 (by omega)
   rw [Int.emod_eq_of_lt this.1 this.2]
theorem tidy_fix {i:Ig} (h:i.tidy):i.clean=i:=by
 rcases h with rfl|⟨⟨h1,h2⟩,h3,h4⟩
 . rfl
 . obtain ⟨⟨s,l,h⟩,c⟩:=i
   dsimp only at*
   subst h1;have hn:Sp.none ⟨true,l,h⟩=false:=by unfold Sp.none;simp;omega
   unfold Ig.clean Ig.none;dsimp only;rw [hn,h2];rw [cg_fix h2 h4];unfold Sp.clean;rw [hn];rfl
theorem of_le {a b:Int} (h:a<=b):Sp.of a b=⟨true,a,b⟩:=by unfold Sp.of;rw [if_neg (by omega)]
theorem up_facts {n m r:Int} (h:0<m):0<=(r-n)%m/\ (r-n)%m<m/\ (n+(r-n)%m-r)%m=0:=by
 refine ⟨Int.emod_nonneg _ (by omega),Int.emod_lt_of_pos _ h, ?_⟩
 have h1:n+(r-n)%m-r=(r-n)%m-(r-n):=by omega
 rw [h1];have h2:=Int.emod_add_mul_ediv (r-n) m
 have h3:(r-n)%m-(r-n)=m*(-((r-n)/m)):=by rw [Int.mul_neg];omega
 rw [h3,Int.mul_emod_right]
theorem md_eq0 {n m r:Int} (hm:0<m) (h0:0<=r) (h1:r<m):md n m=r↔(n-r)%m=0:=by
 unfold md;rw [if_neg (by omega)];have h2:=Int.emod_nonneg n (show m≠0 by omega)
 have h3:=Int.emod_lt_of_pos n hm
 have h4:=Int.emod_add_mul_ediv n m
 have h5:=Int.emod_add_mul_ediv (n-r) m
 have h6:=Int.emod_nonneg (n-r) (show m≠0 by omega)
 have h7:=Int.emod_lt_of_pos (n-r) hm
 constructor
 . intro h;have:n-r=m*(n/m):=by omega
   rw [this,Int.mul_emod_right]
 . intro h;have:n=r+m*((n-r)/m):=by omega
   rw [this,Int.add_mul_emod_self_left,Int.emod_eq_of_lt h0 h1]
def Cg.on (c:Cg) (n:Int):Prop:=md n c.m=c.r
instance (c:Cg) (n:Int):Decidable (c.on n):=inferInstanceAs (Decidable (md n c.m=c.r))
theorem has_on {c:Cg} (h:c.some=true) (hr:c.red) (n:Int):c.has n=decide (c.on n):=by
 unfold Cg.has Cg.on;rw [cg_fix h hr,h];rfl
theorem wIn {n:Int} (h: -9223372036854775808<=n/\ n<9223372036854775808):wIntV n=n/\ wIntB n=true:=by unfold wIntV wIntB;simp [h]
theorem wOut {n:Int} (h: ¬(-9223372036854775808<=n/\ n<9223372036854775808)):wIntB n=false:=by unfold wIntB;simp [h]
theorem modge {a m:Int} (hm:0<m) (ha:0<=a):a%m<=a:=by
 have h4:=Int.emod_add_mul_ediv a m
 have h5:0<=m*(a/m):=Int.mul_nonneg (by omega) (Int.ediv_nonneg ha (by omega))
 omega
theorem emod_of_sub {a b m:Int} (h:(a-b)%m=0):a%m=b%m:=by
 have h4:=Int.emod_add_mul_ediv (a-b) m
 rw [h] at h4;have:a=b+m*((a-b)/m):=by omega
 rw [this,Int.add_mul_emod_self_left]
theorem red_cases {L H M R:Int} (hl:L<=H) (hr:Cg.red ⟨true,M,R⟩) (hs:Sp.inR ⟨true,L,H⟩) (hc:Cg.inR ⟨true,M,R⟩):
 (Ig.red ⟨⟨true,L,H⟩,⟨true,M,R⟩⟩=Ig.zero/\ ∀n, -9223372036854775808<=n->n<9223372036854775808->L<=n->n<=H-> ¬Cg.on ⟨true,M,R⟩ n) \/
 ∃x y,(L<=x/\ x<=y/\ y<=H)/\ (Cg.on ⟨true,M,R⟩ x/\ Cg.on ⟨true,M,R⟩ y)/\ (∀n,L<=n->n<=H->Cg.on ⟨true,M,R⟩ n->x<=n/\ n<=y)/\ (x≠y->0<M)/\
  Ig.red ⟨⟨true,L,H⟩,⟨true,M,R⟩⟩=if x=y then ⟨⟨true,x,x⟩,⟨true,0,x⟩⟩ else ⟨⟨true,x,y⟩,⟨true,M,R⟩⟩:=by
 unfold Sp.inR at hs;dsimp only at hs
 by_cases hM:M=0
 . subst hM;have hon: ∀n,Cg.on ⟨true,0,R⟩ n↔n=R:=by intro n;unfold Cg.on md;simp
   by_cases h:L<=R/\ R<=H
   . refine .inr ⟨R,R,⟨h.1,Int.le_refl _,h.2⟩,⟨(hon R).2 rfl,(hon R).2 rfl⟩,fun n _ _ h=> ?_,fun h=>absurd rfl h, ?_⟩
     . rw [hon] at h;omega
     . rw [rd_3 rfl (fun _=>⟨rfl,hl⟩) rfl (by rw [rd_has rfl];simp;omega),if_pos rfl,of_le (Int.le_refl _)]
   . refine .inl ⟨rd_2 rfl rfl (by rw [rd_has rfl];simp;omega),fun n _ _ h1 h2 h3=> ?_⟩
     rw [hon] at h3;omega
 . have hm:0<M:=by unfold Cg.red at hr;dsimp only at hr;omega
   have hR:=hr.2 hm
   dsimp only at hR
   have hon: ∀n,Cg.on ⟨true,M,R⟩ n↔(n-R)%M=0:=fun n=>md_eq0 hm hR.1 hR.2
   have u:=up_facts (n:=L) (r:=R) hm
   have hx:(upW L ⟨true,M,R⟩-R)%M=0:=u.2.2
   have hxL:L<=upW L ⟨true,M,R⟩:=by unfold upW;dsimp only;omega
   have d1:=Int.emod_nonneg (H-R) (show M≠0 by omega)
   have hy:(dnW H ⟨true,M,R⟩-R)%M=0:=by
    unfold dnW;dsimp only
    have h2:=Int.emod_add_mul_ediv (H-R) M
    have h3:H-(H-R)%M-R=M*((H-R)/M):=by omega
    rw [h3,Int.mul_emod_right]
   have hyH:dnW H ⟨true,M,R⟩<=H:=by unfold dnW;dsimp only;omega
   have hlow: ∀n,L<=n->Cg.on ⟨true,M,R⟩ n->upW L ⟨true,M,R⟩<=n:=by
    intro n h1 h2;rw [hon] at h2;have e:=emod_of_sub (a:=R-L) (b:=n-L) (m:=M) (by
     have:R-L-(n-L)= -(n-R):=by omega
     rw [this];exact Int.emod_eq_zero_of_dvd (Int.dvd_neg.2 (Int.dvd_of_emod_eq_zero h2)))
    have:=modge (a:=n-L) hm (by omega)
    unfold upW;dsimp only;omega
   have hhigh: ∀n,n<=H->Cg.on ⟨true,M,R⟩ n->n<=dnW H ⟨true,M,R⟩:=by
    intro n h1 h2;rw [hon] at h2;have e:=emod_of_sub (a:=H-R) (b:=H-n) (m:=M) (by
     have:H-R-(H-n)=n-R:=by omega
     rw [this,h2])
    have:=modge (a:=H-n) hm (by omega)
    unfold dnW;dsimp only;omega
   generalize hX:upW L ⟨true,M,R⟩=x at*
   generalize hY:dnW H ⟨true,M,R⟩=y at*
   by_cases hxr:x<9223372036854775808
   . by_cases hyr: -9223372036854775808<=y
     . have wx:=wIn (n:=x) ⟨by omega,hxr⟩
       have wy:=wIn (n:=y) ⟨hyr,by omega⟩
       by_cases hxy:x<=y
       . refine .inr ⟨x,y,⟨hxL,hxy,hyH⟩,⟨(hon x).2 hx,(hon y).2 hy⟩,fun n h1 h2 h3=>⟨hlow n h1 h3,hhigh n h2 h3⟩,fun _=>hm, ?_⟩
         rw [rd_5 rfl (fun _=>⟨rfl,hl⟩) hM (by rw [hX,hY,wx.1,wx.2,wy.1,wy.2];simp;omega),hX,hY,wx.1,wy.1];split
         . rw [of_le (Int.le_refl _)]
         . rw [of_le hxy]
       . refine .inl ⟨rd_4c hM (by rw [hX,hY,wx.1,wy.1];simp;omega),fun n _ _ h1 h2 h3=> ?_⟩
         have:=hlow n h1 h3
         have:=hhigh n h2 h3
         omega
     . refine .inl ⟨rd_4b hM (by rw [hY,wOut (by omega)];rfl),fun n h0 _ h1 h2 h3=> ?_⟩
       have:=hhigh n h2 h3
       omega
   . refine .inl ⟨rd_4a hM (by rw [hX,wOut (by omega)];rfl),fun n _ h0 h1 h2 h3=> ?_⟩
     have:=hlow n h1 h3
     omega
theorem red_one (x:Int):Ig.red ⟨⟨true,x,x⟩,⟨true,0,x⟩⟩=⟨⟨true,x,x⟩,⟨true,0,x⟩⟩:=by
 rw [rd_3 rfl (fun _=>⟨rfl,Int.le_refl _⟩) rfl (by rw [rd_has rfl];simp),of_le (Int.le_refl _)]
theorem up_on {n m r:Int} {b:Bool} (hm:0<m) (hr:Cg.red ⟨b,m,r⟩) (h:Cg.on ⟨b,m,r⟩ n):upW n ⟨b,m,r⟩=n/\ dnW n ⟨b,m,r⟩=n:=by
 have hR:=hr.2 hm
 dsimp only at hR
 have h1:(n-r)%m=0:=(md_eq0 hm hR.1 hR.2).1 h
 have h2:(r-n)%m=0:=by
  have:r-n= -(n-r):=by omega
  rw [this];exact Int.emod_eq_zero_of_dvd (Int.dvd_neg.2 (Int.dvd_of_emod_eq_zero h1))
 unfold upW dnW;dsimp only;rw [h1,h2];omega
theorem red_two {x y M R:Int} (hx: -9223372036854775808<=x) (hy:y<9223372036854775808) (hxy:x<y) (hM:0<M) (hr:Cg.red ⟨true,M,R⟩) (h1:Cg.on ⟨true,M,R⟩ x) (h2:Cg.on ⟨true,M,R⟩ y):Ig.red ⟨⟨true,x,y⟩,⟨true,M,R⟩⟩=⟨⟨true,x,y⟩,⟨true,M,R⟩⟩:=by
 have e1:=(up_on hM hr h1).1
 have e2:=(up_on hM hr h2).2
 have wx:=wIn (n:=x) ⟨hx,by omega⟩
 have wy:=wIn (n:=y) ⟨by omega,hy⟩
 rw [rd_5 rfl (fun _=>⟨rfl,by omega⟩) (by omega) (by rw [e1,e2,wx.1,wx.2,wy.1,wy.2];simp;omega),e1,e2,wx.1,wy.1,if_neg (by omega),of_le (by omega)]
theorem zero_tidy:Ig.zero.tidy:= .inl rfl
theorem one_red (x:Int):Cg.red ⟨true,0,x⟩:=by unfold Cg.red;dsimp only;omega
theorem red_law {i:Ig} (ht:i.tidy) (hs:i.s.inR) (hc:i.c.inR):
 i.red.tidy/\ i.red.red=i.red/\ i.red.leq i=true/\ ∀n, -9223372036854775808<=n->n<9223372036854775808->(i.red.s.has n&&i.red.c.has n)=(i.s.has n&&i.c.has n):=by
 rcases ht with rfl|⟨⟨h1,h2⟩,h3,h4⟩
 . exact ⟨zero_tidy,rfl,by decide,fun _ _ _=>rfl⟩
 . obtain ⟨⟨s,L,H⟩,⟨b,M,R⟩⟩:=i
   dsimp only at*
   subst h1;subst h2
   have hfix:=cg_fix (c:=⟨true,M,R⟩) rfl h4
   have hh: ∀n,(Sp.has ⟨true,L,H⟩ n&&Cg.has ⟨true,M,R⟩ n)=decide ((L<=n/\ n<=H)/\ Cg.on ⟨true,M,R⟩ n):=by
    intro n;rw [has_on rfl h4];unfold Sp.has;simp [Bool.and_assoc]
   rcases red_cases h3 h4 hs hc with ⟨e,hn⟩|⟨x,y,⟨k1,k2,k3⟩,⟨o1,o2⟩,hb,hm,e⟩
   . rw [e];refine ⟨zero_tidy,rfl,by unfold Ig.leq;rfl,fun n n0 n1=> ?_⟩
     rw [hh];have: ¬((L<=n/\ n<=H)/\ Cg.on ⟨true,M,R⟩ n):=fun h=>hn n n0 n1 h.1.1 h.1.2 h.2
     rw [decide_eq_false this];rfl
   . unfold Sp.inR at hs;dsimp only at hs
     have hleq: ∀a:Int,Sp.has ⟨true,L,H⟩ a=decide (L<=a/\ a<=H):=by intro a;unfold Sp.has;simp
     by_cases hxy:x=y
     . rw [if_pos hxy] at e;rw [e];refine ⟨.inr ⟨⟨rfl,rfl⟩,Int.le_refl _,one_red x⟩,red_one x, ?_,fun n n0 n1=> ?_⟩
       . unfold Ig.leq Sp.leq Cg.leq;dsimp only;rw [hleq,cg_fix rfl (one_red x),hfix];have h0:Cg.has ⟨true,M,R⟩ x=true:=by rw [has_on rfl h4];exact decide_eq_true o1
         have hf:Cg.factor M 0=true:=by unfold Cg.factor;split<;>simp
         rw [h0,hf];simp;omega
       . rw [hh];have h5:(Sp.has ⟨true,x,x⟩ n&&Cg.has ⟨true,0,x⟩ n)=decide (n=x):=by
          rw [has_on rfl (one_red x)];unfold Sp.has Cg.on md;rw [Bool.eq_iff_iff];simp
          omega
         rw [h5];rw [decide_eq_decide];constructor
         . rintro rfl;exact ⟨⟨k1,by omega⟩,o1⟩
         . rintro ⟨⟨q1,q2⟩,q3⟩
           have:=hb n q1 q2 q3
           omega
     . have hm:=hm hxy
       rw [if_neg hxy] at e;rw [e];refine ⟨.inr ⟨⟨rfl,rfl⟩,k2,h4⟩,red_two (by omega) (by omega) (by omega) hm h4 o1 o2, ?_,fun n n0 n1=> ?_⟩
       . unfold Ig.leq Sp.leq Cg.leq;dsimp only;rw [hleq,hleq,hfix];have h0:Cg.has ⟨true,M,R⟩ R=true:=by
          rw [has_on rfl h4];refine decide_eq_true ?_
          unfold Cg.on md;dsimp only;have:=h4.2 hm
          dsimp only at this
          rw [if_neg (by omega),Int.emod_eq_of_lt this.1 this.2]
         have hf:Cg.factor M M=true:=by unfold Cg.factor;split<;>simp_all
         rw [h0,hf];simp;omega
       . rw [hh];have h5:(Sp.has ⟨true,x,y⟩ n&&Cg.has ⟨true,M,R⟩ n)=decide ((x<=n/\ n<=y)/\ Cg.on ⟨true,M,R⟩ n):=by
          rw [has_on rfl h4];unfold Sp.has;simp [Bool.and_assoc]
         rw [h5,decide_eq_decide];constructor
         . rintro ⟨q,q3⟩;exact ⟨⟨by omega,by omega⟩,q3⟩
         . rintro ⟨⟨q1,q2⟩,q3⟩;exact ⟨hb n q1 q2 q3,q3⟩
theorem has_clean {i:Ig} (n:Int):(i.clean.s.has n&&i.clean.c.has n)=(i.s.has n&&i.c.has n):=by
 have hcc:i.c.clean.has n=i.c.has n:=by
  unfold Cg.has;cases h:i.c.some with
  |false=>have:i.c.clean=Cg.none:=by unfold Cg.clean;simp [h]
          rw [this];rfl
  |true=>rw [cg_fix (c:=i.c.clean) (by rw [cg_clean_some];exact h) (Cg.clean_red _)]
 have hsc:i.s.clean.has n=i.s.has n:=by
  unfold Sp.clean;split
  . rename_i h
    unfold Sp.none at h;unfold Sp.has;rw [Bool.eq_iff_iff];simp at h⊢
    intro h1 h2;rcases h with h|h
    . simp [h] at h1
    . omega
  . rfl
 unfold Ig.clean;split
 . rename_i h
   unfold Ig.none Sp.none at h;have:(i.s.has n&&i.c.has n)=false:=by
    cases h1:i.c.some with
    |false=>have:i.c.has n=false:=by unfold Cg.has;rw [cg_clean_some,h1];rfl
            rw [this];simp
    |true=>
     rw [h1] at h;have:i.s.has n=false:=by
      unfold Sp.has;cases h2:i.s.some with
      |false=>rfl
      |true=>rw [h2] at h;simp at h;simp;omega
     rw [this];rfl
   rw [this];rfl
 . dsimp only;rw [hcc,hsc]
theorem v1 (v:Vl):v.reduce.exact v.rreduce=true:=by rw [reduce_eq];exact exact_refl _
theorem v2 {v:Vl} (h1:v.i.s.inR) (h2:v.i.c.inR):v.reduce.reduce.exact v.reduce=true:=by
 have hc:=Ig.clean_inR h1 h2
 have h:=red_law (clean_tidy v.i) hc.1 hc.2
 have e:v.reduce.reduce=v.reduce:=by
  unfold Vl.reduce Vl.of;dsimp only;rw [tidy_fix h.1,h.2.1,ofS_eq,ofS_eq,cleanS_idem]
 rw [e];exact exact_refl _
theorem v3 {v:Vl} {n:Int} (h1:v.i.s.inR) (h2:v.i.c.inR) (hn: -9223372036854775808<=n/\ n<9223372036854775808):v.reduce.hasInt n=v.hasInt n:=by
 have hc:=Ig.clean_inR h1 h2
 have h:=red_law (clean_tidy v.i) hc.1 hc.2
 unfold Vl.hasInt Vl.reduce Vl.of;dsimp only;rw [h.2.2.2 n hn.1 hn.2,has_clean]
theorem v4 {v:Vl} (h1:v.i.s.inR) (h2:v.i.c.inR):v.reduce.leq v=true:=by
 have hc:=Ig.clean_inR h1 h2
 have h:=red_law (clean_tidy v.i) hc.1 hc.2
 unfold Vl.leq Vl.reduce Vl.of;dsimp only;rw [tidy_fix h.1,h.2.2.1,ofS_eq,ofS_eq,cleanS_idem];have:subS (cleanS v.t.names) (cleanS v.t.names)=true:=subS_iff.2 fun _ h=>h
 rw [this];cases v.t.null<;>rfl
theorem one_tidy (n:Int):Ig.tidy ⟨⟨true,n,n⟩,⟨true,0,n⟩⟩:= .inr ⟨⟨rfl,rfl⟩,Int.le_refl _,one_red n⟩
theorem v9 {n:Int} (hn: -9223372036854775808<=n/\ n<9223372036854775808):Vl.hasInt ⟨⟨Sp.of (-9223372036854775808) 9223372036854775807,Cg.of 1 0⟩,⟨false,[]⟩⟩ n=true:=by
 unfold Vl.hasInt;dsimp only;rw [of_le (by decide)];have e:Cg.of 1 0=⟨true,1,0⟩:=rfl
 have hr:Cg.red ⟨true,1,0⟩:=by unfold Cg.red;decide
 rw [e,has_on rfl hr];unfold Sp.has Cg.on md;simp;omega
def okV (v:Vl):Prop:=(v.t.names.length*16<=140737488351232/\ ∀i,i<v.t.names.length-> [st (atS v.t.names i)]= [st (gT [st (atS v.t.names i)])])/\ v.i.s.inR/\ v.i.c.inR
end Go.Proofs.YtkfjfgabianfhaaGreat
