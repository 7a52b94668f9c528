/- Joined congruences. No condition. -/
import Derived.Test.YtokjghkehojenaaGreatL5
set_option linter.all false
set_option maxHeartbeats 8000000
set_option maxRecDepth 100000
namespace Go.Proofs.YtokjghkehojenaaGreat
open Go.Sx
def gW:List DV->Wd
 | [.v (.int .i64 h),.v (.int .u64 l)]=>⟨h,l⟩
 |_=>⟨0,0⟩
theorem Wd.eta' (w:Wd):(⟨w.hi,w.lo⟩:Wd)=w:=rfl
def FWNeg:List Ar->Option Rs
 | [.agg [.d (.v (.int .i64 h0)),.d (.v (.int .u64 l0))]]=>some ⟨(Wd.ok ⟨h0,l0⟩),.va (Wd.ar (wd (0-Wd.val (⟨h0,l0⟩:Wd)))),[]⟩
 |_=>none
theorem fcWNeg:FC Tryz.prog 140 FWNeg:=by
 intro xs pre r us h hp;unfold FWNeg at h;split at h
 . rename_i h0 l0
   cases h;have hp0:=hp
   refine fcat tys_ok (l:= [(137,⟨[],FWSub⟩)]) ⟨fcWSub,trivial⟩ Tryz.func140 rfl (by kernel_rfl) false ?_
   repeat' (first|exact trivial|refine ⟨?_, ?_⟩|intro _)
   all_goals first|(with_reducible apply qq)|(conv=>whnf)
   all_goals first|rfl|decide|omega|exact hp0.1.1|exact hp0.1.2|exact hp0.2.1|exact hp0.2.2
 . cases h
def FWCmp:List Ar->Option Rs
 | [.agg [.d (.v (.int .i64 h0)),.d (.v (.int .u64 l0))],.agg [.d (.v (.int .i64 h1)),.d (.v (.int .u64 l1))]]=>some ⟨(Wd.ok ⟨h0,l0⟩)/\ (Wd.ok ⟨h1,l1⟩),.va (.c (.d (it (wCmp (Wd.val (⟨h0,l0⟩:Wd)) (Wd.val (⟨h1,l1⟩:Wd)))))),[]⟩
 |_=>none
theorem fcWCmp:FC Tryz.prog 204 FWCmp:=by
 intro xs pre r us h hp;unfold FWCmp at h;split at h
 . rename_i h0 l0 h1 l1
   cases h;obtain ⟨hp0,hp1⟩:=hp
   refine fcat tys_ok (l:= []) trivial Tryz.func204 rfl (by kernel_rfl) false ?_
   repeat' (first|exact trivial|refine ⟨?_, ?_⟩|intro _)
   all_goals first|(with_reducible apply qq)|(conv=>whnf)
   all_goals (simp only [decide_eq_true_eq,decide_eq_false_iff_not,beq_iff_eq,beq_eq_false_iff_ne,ne_eq,Bool.and_true,Bool.and_eq_true,Bool.and_eq_false_imp,Wd.val,Wd.ok] at*;refine congrArg (Value.int .i64) ?_;unfold wCmp;(repeat' split)<;>omega)
 . cases h
def maxW (a x:Wd):Wd:=if wCmp x.val a.val=1 then x else a
theorem maxW_t {a x:Wd} {i:Int} (hi:i=1) (h:(wCmp x.val a.val==i)=true):maxW a x=x:=by subst hi;unfold maxW;rw [if_pos (by simpa using h)]
theorem maxW_f {a x:Wd} {i:Int} (hi:i=1) (h:(wCmp x.val a.val==i)=false):maxW a x=a:=by subst hi;unfold maxW;rw [if_neg (by simpa using h)]
theorem maxW_ok {a x:Wd} (h:a.ok) (h':x.ok):(maxW a x).ok:=by unfold maxW;split<;>assumption
def atW (i:Nat) (a x:Wd):Wd:=if i=0 then a else maxW a x
def FWBest:List Ar->Option Rs
 | [.agg [.d (.v (.int .i64 h0)),.d (.v (.int .u64 l0))],.c (.d (.v (.int .i64 i1))),.c (.d (.lst 2 1 f2))]=>some ⟨(Wd.ok ⟨h0,l0⟩)/\ (-9223372036854775808<=i1/\ i1<9223372036854775808)/\ (f2 0= [it (gW (f2 0)).hi,ut (gW (f2 0)).lo]/\ Wd.ok (gW (f2 0)))/\ (i1=1),.va (Wd.ar (maxW (⟨h0,l0⟩:Wd) (gW (f2 0)))),[]⟩
 |_=>none
theorem fcWBest:FC Tryz.prog 172 FWBest:=by
 intro xs pre r us h hp;unfold FWBest at h;split at h
 . rename_i h0 l0 i1 f2
   cases h;obtain ⟨hp0,hp1,hp2,hp3⟩:=hp
   refine FCat.of_eq (as':= [.agg [.d (.v (.int .i64 h0)),.d (.v (.int .u64 l0))],.c (.d (.v (.int .i64 i1))),.c (.d (.lst 2 1 fun _=> [it (gW (f2 0)).hi,ut (gW (f2 0)).lo]))]) ?_ rfl rfl ?_
   . repeat' (first|exact trivial|exact rfl|refine ⟨?_, ?_⟩|fail)
     all_goals first|exact hp0.2|exact hp1.2|exact hp2.2|(intro i hi;exact (hp0.2 i hi).1)|(intro i hi;exact (hp1.2 i hi).1)|(intro i hi;exact (hp2.2 i hi).1)|grind
   refine fcat tys_ok (l:= [(204,⟨[],FWCmp⟩)]) ⟨fcWCmp,trivial⟩ Tryz.func172 rfl (by kernel_rfl) false ?_
   repeat' (first|exact trivial|refine ⟨?_, ?_⟩|intro _)
   all_goals first|(with_reducible apply qq)|(conv=>whnf)
   refine loop_ok tys_ok (l:= [(204,⟨[],FWCmp⟩)]) ⟨fcWCmp,trivial⟩ (by kernel_rfl) (X:=Nat)
    (fun x=>⟨[(11,vx (.int .i64 x)),(10,vx (.int .i64 1)),(9,.va (.c (.d (.lst 2 1 fun _=> [it (gW (f2 0)).hi,ut (gW (f2 0)).lo])))),(1,vx (.int .i64 i1)),(3,.va (.c (.own 0 0))),(6,.va (.c (.own 1 0)))],[(0,.cells [.d (it (atW x ⟨h0,l0⟩ (gW (f2 0))).hi),.d (ut (atW x ⟨h0,l0⟩ (gW (f2 0))).lo)]),(1,.cells [.d (it 0),.d (ut 0)])],2,23⟩)
    (fun x=>1-x) (fun x=>x<=1) [] [] (fun x _ _=>x+1) [0,1] [0,1] 0 0 0 (Nat.zero_le _) ?_ ?_
   . repeat' (first|exact trivial|exact rfl|(intro _ h;exact absurd h (Nat.not_lt_zero _))|(intro _ _;exact rfl)|refine ⟨?_, ?_⟩|fail)
   . intro i k1;have hc:i=0 \/i=1:=by omega
     rcases hc with rfl|rfl
     . have f0:Wd.ok (atW 0 ⟨h0,l0⟩ (gW (f2 0))):=hp0
       repeat' (first|exact trivial|(with_reducible first|exact hp2.2|exact f0)|refine ⟨?_, ?_⟩|intro _)
       all_goals first|(with_reducible apply qq)|(conv=>whnf)
       all_goals first|omega|rfl|decide|(exact hp0.1.1)|(exact hp0.1.2)|(exact hp0.2.1)|(exact hp0.2.2)|(exact hp2.2.1.1)|(exact hp2.2.1.2)|(exact hp2.2.2.1)|(exact hp2.2.2.2)|(exfalso;exact absurd ‹decide _=false› (by decide))|(exfalso;exact absurd ‹decide _=true› (by decide))|(exact congrArg (fun w:Wd=>Value.int .i64 w.hi) (maxW_t hp3 ‹(_==i1)=true›).symm)|(exact congrArg (fun w:Wd=>Value.int .u64 w.lo) (maxW_t hp3 ‹(_==i1)=true›).symm)|(exact congrArg (fun w:Wd=>Value.int .i64 w.hi) (maxW_f hp3 ‹(_==i1)=false›).symm)|(exact congrArg (fun w:Wd=>Value.int .u64 w.lo) (maxW_f hp3 ‹(_==i1)=false›).symm)
     . repeat' (first|exact trivial|refine ⟨?_, ?_⟩|intro _)
       all_goals first|(with_reducible apply qq)|(conv=>whnf)
       all_goals first|omega|rfl|decide|(exact hp0.1.1)|(exact hp0.1.2)|(exact hp0.2.1)|(exact hp0.2.2)|(exact hp2.2.1.1)|(exact hp2.2.1.2)|(exact hp2.2.2.1)|(exact hp2.2.2.2)|(exfalso;exact absurd ‹decide _=false› (by decide))|(exfalso;exact absurd ‹decide _=true› (by decide))|(exact congrArg (fun w:Wd=>Value.int .i64 w.hi) (maxW_t hp3 ‹(_==i1)=true›).symm)|(exact congrArg (fun w:Wd=>Value.int .u64 w.lo) (maxW_t hp3 ‹(_==i1)=true›).symm)|(exact congrArg (fun w:Wd=>Value.int .i64 w.hi) (maxW_f hp3 ‹(_==i1)=false›).symm)|(exact congrArg (fun w:Wd=>Value.int .u64 w.lo) (maxW_f hp3 ‹(_==i1)=false›).symm)
 . cases h
def FWMax:List Ar->Option Rs
 | [.agg [.d (.v (.int .i64 h0)),.d (.v (.int .u64 l0))],.c (.d (.lst 2 1 f1))]=>some ⟨(Wd.ok ⟨h0,l0⟩)/\ (f1 0= [it (gW (f1 0)).hi,ut (gW (f1 0)).lo]/\ Wd.ok (gW (f1 0))),.va (Wd.ar (maxW (⟨h0,l0⟩:Wd) (gW (f1 0)))),[]⟩
 |_=>none
theorem fcWMax:FC Tryz.prog 139 FWMax:=by
 intro xs pre r us h hp;unfold FWMax at h;split at h
 . rename_i h0 l0 f1
   cases h;obtain ⟨hp0,hp1⟩:=hp
   refine FCat.of_eq (as':= [.agg [.d (.v (.int .i64 h0)),.d (.v (.int .u64 l0))],.c (.d (.lst 2 1 fun _=> [it (gW (f1 0)).hi,ut (gW (f1 0)).lo]))]) ?_ rfl rfl ?_
   . repeat' (first|exact trivial|exact rfl|refine ⟨?_, ?_⟩|fail)
     all_goals first|exact hp0.2|exact hp1.2|exact hp2.2|(intro i hi;exact (hp0.2 i hi).1)|(intro i hi;exact (hp1.2 i hi).1)|(intro i hi;exact (hp2.2 i hi).1)|grind
   refine fcat tys_ok (l:= [(172,⟨[],FWBest⟩)]) ⟨fcWBest,trivial⟩ Tryz.func139 rfl (by kernel_rfl) false ?_
   have hq:(-9223372036854775808:Int)<=1/\ (1:Int)<9223372036854775808:=by decide
   repeat' (first|exact trivial|refine ⟨?_, ?_⟩|intro _)
   all_goals first|(with_reducible apply qq)|(conv=>whnf)
   all_goals first|rfl|decide|exact hp0|exact hp0.1.1|exact hp0.1.2|exact hp0.2.1|exact hp0.2.2|exact hp1.2.1.1|exact hp1.2.1.2|exact hp1.2.2.1|exact hp1.2.2.2
 . cases h
def apartI (a b:Int):Int:=if a≥b then a-b else b-a
theorem apart_key {a b:Int} (ha: -9223372036854775808<=a/\ a<9223372036854775808) (hb: -9223372036854775808<=b/\ b<9223372036854775808):(maxW (wd ((wd a).val-(wd b).val)) (wd (0-(wd ((wd a).val-(wd b).val)).val))).lo=if a≥b then a-b else b-a:=by
 rw [wd_val (v:=a) (by omega) (by omega),wd_val (v:=b) (by omega) (by omega),wd_val (v:=a-b) (by omega) (by omega)];unfold maxW wCmp;rw [wd_val (v:=a-b) (by omega) (by omega),wd_val (v:=0-(a-b)) (by omega) (by omega)];unfold wd
 (repeat' split)<;>dsimp only<;>omega
def FCApart:List Ar->Option Rs
 | [.c (.d (.v (.int .i64 i0))),.c (.d (.v (.int .i64 i1)))]=>some ⟨(-9223372036854775808<=i0/\ i0<9223372036854775808)/\ (-9223372036854775808<=i1/\ i1<9223372036854775808),.va (.c (.d (ut (apartI i0 i1)))),[]⟩
 |_=>none
theorem fcCApart:FC Tryz.prog 98 FCApart:=by
 intro xs pre r us h hp;unfold FCApart at h;split at h
 . rename_i i0 i1
   cases h;obtain ⟨hp0,hp1⟩:=hp
   refine fcat tys_ok (l:= [(138,⟨[],FWOf⟩),(137,⟨[],FWSub⟩),(140,⟨[],FWNeg⟩),(139,⟨[],FWMax⟩)]) ⟨fcWOf,fcWSub,fcWNeg,fcWMax,trivial⟩ Tryz.func98 rfl (by kernel_rfl) false ?_
   repeat' (first|exact trivial|(with_reducible first|exact wd_ok _|exact (wd_ok _).1.1|exact (wd_ok _).1.2|exact (wd_ok _).2.1|exact (wd_ok _).2.2)|refine ⟨?_, ?_⟩|intro _)
   all_goals first|(with_reducible apply qq)|(conv=>whnf)
   all_goals first|omega|rfl|exact (wd_ok _).1.1|exact (wd_ok _).1.2|exact (wd_ok _).2.1|exact (wd_ok _).2.2|(exact congrArg (Value.int .u64) (apart_key hp0 hp1))
 . cases h
theorem gcd_step {a b:Int} (hb:b≠0) (h0:0<=a) (h1:0<=b):0<=a.tmod b/\ a.tmod b<b/\ Int.gcd b (a.tmod b)=Int.gcd a b:=by
 rw [Int.tmod_eq_emod_of_nonneg h0];refine ⟨Int.emod_nonneg _ hb,Int.emod_lt_of_pos _ (by omega), ?_⟩
 obtain ⟨x,rfl⟩:=Int.eq_ofNat_of_zero_le h0
 obtain ⟨y,rfl⟩:=Int.eq_ofNat_of_zero_le h1
 rw [<-Int.natCast_emod,Int.gcd_natCast_natCast,Int.gcd_natCast_natCast,Nat.gcd_comm x y,Nat.gcd_rec y x,Nat.gcd_comm]
def FCGcd:List Ar->Option Rs
 | [.c (.d (.v (.int .u64 u0))),.c (.d (.v (.int .u64 u1)))]=>some ⟨(0<=u0/\ u0<18446744073709551616)/\ (0<=u1/\ u1<18446744073709551616),.va (.c (.d (ut ((Int.gcd u0 u1:Int))))),[]⟩
 |_=>none
theorem fcCGcd:FC Tryz.prog 97 FCGcd:=by
 intro xs pre r us h hp;unfold FCGcd at h;split at h
 . rename_i u0 u1
   cases h;obtain ⟨hp0,hp1⟩:=hp
   refine fcat tys_ok (l:= []) trivial Tryz.func97 rfl (by kernel_rfl) false ?_
   repeat' (first|exact trivial|refine ⟨?_, ?_⟩|intro _)
   all_goals first|(with_reducible apply qq)|(conv=>whnf)
   refine scope_ok tys_ok (ls:= []) trivial (by kernel_rfl) 0 rfl (X:=Int×Int) (fun x=>⟨[(0,vx (.int .u64 x.1)),(1,vx (.int .u64 x.2))],[],0,12⟩) (fun x=>x.2.toNat)
    (fun x=>(0<=x.1/\ x.1<18446744073709551616)/\ (0<=x.2/\ x.2<18446744073709551616)/\ Int.gcd x.1 x.2=Int.gcd u0 u1) [0,1] [] (fun xs _=>match xs with| [a,b]=>(iT a,iT b)|_=>(0,0)) (fun _ xs _=>match xs with| [a,b]=>(iT a,iT b)|_=>(0,0)) [] [] 0 0 ?_ ?_
   . repeat' (first|exact trivial|refine ⟨?_, ?_⟩|intro _)
     all_goals first|(with_reducible apply qq)|(conv=>whnf)
     all_goals (try simp only [beq_iff_eq,beq_eq_false_iff_ne,ne_eq,iT] at*)
     all_goals first|omega|((with_reducible show idsOk _ _=true);rfl)|(exact absurd ‹_› ‹¬_›)|(have e:u1=0:=‹u1=0›;rw [e,Int.gcd_zero,Int.natAbs_of_nonneg (by omega)];done)|(have q:=gcd_step (a:=u0) (b:=u1) ‹_› (by omega) (by omega);first|omega|(rw [q.2.2])|rfl)|rfl
   . rintro ⟨a,b⟩ ⟨k1,k2,k3⟩
     dsimp only at k1 k2 k3
     repeat' (first|exact trivial|refine ⟨?_, ?_⟩|intro _)
     all_goals first|(with_reducible apply qq)|(conv=>whnf)
     all_goals (try simp only [beq_iff_eq,beq_eq_false_iff_ne,ne_eq,iT] at*)
     all_goals first|omega|((with_reducible show idsOk _ _=true);rfl)|(exact absurd ‹_› ‹¬_›)|(rw [<-k3];have e:b=0:=‹b=0›;rw [e,Int.gcd_zero,Int.natAbs_of_nonneg (by omega)];done)|(have q:=gcd_step (a:=a) (b:=b) ‹_› (by omega) (by omega);first|omega|(rw [q.2.2];exact k3)|rfl)|rfl
 . cases h
namespace Cg
def gcdJ (x y:Cg):Int:=(Int.gcd (Int.gcd x.m y.m:Int) (apartI x.r y.r):Int)
def join (a b:Cg):Cg:=if !a.clean.some then b.clean else if !b.clean.some then a.clean else if gcdJ a.clean b.clean>9223372036854775807 then Cg.of 1 0 else Cg.of (gcdJ a.clean b.clean) a.clean.r
end Cg
theorem gcd_u {a b:Int} (ha:0<=a/\ a<18446744073709551616) (hb:0<=b/\ b<18446744073709551616):0<=(Int.gcd a b:Int)/\ (Int.gcd a b:Int)<18446744073709551616:=by
 refine ⟨by omega, ?_⟩
 rcases Int.lt_or_eq_of_le ha.1 with h|h
 . have:=Int.gcd_le_left (b:=b) h;omega
 . subst h;rw [Int.zero_gcd];omega
theorem apart_u {a b:Int} (ha: -9223372036854775808<=a/\ a<9223372036854775808) (hb: -9223372036854775808<=b/\ b<9223372036854775808):0<=apartI a b/\ apartI a b<18446744073709551616:=by unfold apartI;split<;>omega
theorem gcdJ_u {x y:Cg} (hx:x.inR) (hy:y.inR) (h0:0<=x.m) (h1:0<=y.m):0<=Cg.gcdJ x y/\ Cg.gcdJ x y<18446744073709551616:=by
 unfold Cg.inR at hx hy;exact gcd_u (gcd_u (by omega) (by omega)) (apart_u hx.2 hy.2)
theorem join_1 {a b:Cg} (h:(!a.clean.some)=true):Cg.join a b=b.clean:=by unfold Cg.join;rw [if_pos h]
theorem join_2 {a b:Cg} (h:(!a.clean.some)=false) (h2:(!b.clean.some)=true):Cg.join a b=a.clean:=by unfold Cg.join;rw [if_neg (by rw [h];decide),if_pos h2]
theorem join_3 {a b:Cg} (h:(!a.clean.some)=false) (h2:(!b.clean.some)=false) (h3:decide (Cg.gcdJ a.clean b.clean>9223372036854775807)=true):Cg.join a b=Cg.of 1 0:=by unfold Cg.join;rw [if_neg (by rw [h];decide),if_neg (by rw [h2];decide),if_pos (by simpa using h3)]
theorem join_4 {a b:Cg} (h:(!a.clean.some)=false) (h2:(!b.clean.some)=false) (h3:decide (Cg.gcdJ a.clean b.clean>9223372036854775807)=false) (h0:0<=Cg.gcdJ a.clean b.clean):Cg.join a b=Cg.of (IntKind.wrap .i64 (Cg.gcdJ a.clean b.clean)) a.clean.r:=by
 unfold Cg.join;rw [if_neg (by rw [h];decide),if_neg (by rw [h2];decide),if_neg (by simpa using h3),wI_id _ (by omega) (by have:=of_decide_eq_false h3;omega)]
theorem wrapJ {g:Int} (h0:0<=g) (h3:decide (g>9223372036854775807)=false): -9223372036854775808<=IntKind.wrap .i64 g/\ IntKind.wrap .i64 g<9223372036854775808:=by
 have:=of_decide_eq_false h3
 rw [wI_id _ (by omega) (by omega)];omega
def FCJoin:List Ar->Option Rs
 | [.agg [.d (.v (.bool b0)),.d (.v (.int .i64 m0)),.d (.v (.int .i64 r0))],.agg [.d (.v (.bool b1)),.d (.v (.int .i64 m1)),.d (.v (.int .i64 r1))]]=>some ⟨(Cg.inR ⟨b0,m0,r0⟩)/\ (Cg.inR ⟨b1,m1,r1⟩),.va (Cg.ar (Cg.join (⟨b0,m0,r0⟩:Cg) (⟨b1,m1,r1⟩:Cg))),[]⟩
 |_=>none
theorem fcCJoin:FC Tryz.prog 119 FCJoin:=by
 intro xs pre r us h hp;unfold FCJoin at h;split at h
 . rename_i b0 m0 r0 b1 m1 r1
   cases h;obtain ⟨hp0,hp1⟩:=hp
   refine fcat tys_ok (l:= [(85,⟨[],FCClean⟩),(96,⟨[],FCNone⟩),(97,⟨[],FCGcd⟩),(98,⟨[],FCApart⟩),(33,⟨[],FCAll⟩),(61,⟨[],FCOf⟩)]) ⟨fcCClean,fcCNone,fcCGcd,fcCApart,fcCAll,fcCOf,trivial⟩ Tryz.func119 rfl (by kernel_rfl) false ?_
   have hx:=Cg.clean_inR hp0
   have hy:=Cg.clean_inR hp1
   have hxx:=hx
   have hyy:=hy
   unfold Cg.inR at hxx hyy;have hx0:=Cg.clean_nn ⟨b0,m0,r0⟩
   have hy0:=Cg.clean_nn ⟨b1,m1,r1⟩
   have ux:=wU_id (Cg.clean ⟨b0,m0,r0⟩).m hx0 (by have:=hx.1.2;omega)
   have uy:=wU_id (Cg.clean ⟨b1,m1,r1⟩).m hy0 (by have:=hy.1.2;omega)
   have vx:0<=(Cg.clean ⟨b0,m0,r0⟩).m/\ (Cg.clean ⟨b0,m0,r0⟩).m<18446744073709551616:=⟨hx0,by have:=hx.1.2;omega⟩
   have vy:0<=(Cg.clean ⟨b1,m1,r1⟩).m/\ (Cg.clean ⟨b1,m1,r1⟩).m<18446744073709551616:=⟨hy0,by have:=hy.1.2;omega⟩
   have g1:=gcd_u vx vy
   have g2:=apart_u hx.2 hy.2
   have g3:=gcdJ_u hx hy hx0 hy0
   repeat' (first|exact trivial|(with_reducible first|assumption|exact hx.1|exact hx.2|exact hy.1|exact hy.2|exact vx|exact vy|exact g1|exact g2)|refine ⟨?_, ?_⟩|intro _)
   all_goals first|(with_reducible apply qq)|(conv=>whnf)
   all_goals (try rw [ux] at*)
   all_goals (try rw [uy] at*)
   all_goals first|(with_reducible first|exact vx.1|exact vx.2|exact vy.1|exact vy.2|exact hxx.1.1|exact hxx.1.2|exact hxx.2.1|exact hxx.2.2|exact hyy.1.1|exact hyy.1.2|exact hyy.2.1|exact hyy.2.2|exact g1.1|exact g1.2|exact g2.1|exact g2.2)|exact (wrapJ g3.1 ‹decide (_>_)=false›).1|exact (wrapJ g3.1 ‹decide (_>_)=false›).2|(have e:=join_1 (a:=⟨b0,m0,r0⟩) (b:=⟨b1,m1,r1⟩) ‹_›;first|exact congrArg (fun i:Cg=>Value.bool i.some) e.symm|exact congrArg (fun i:Cg=>Value.int .i64 i.m) e.symm|exact congrArg (fun i:Cg=>Value.int .i64 i.r) e.symm|fail)|(have e:=join_2 (a:=⟨b0,m0,r0⟩) (b:=⟨b1,m1,r1⟩) ‹_› ‹_›;first|exact congrArg (fun i:Cg=>Value.bool i.some) e.symm|exact congrArg (fun i:Cg=>Value.int .i64 i.m) e.symm|exact congrArg (fun i:Cg=>Value.int .i64 i.r) e.symm|fail)|(have e:=join_3 (a:=⟨b0,m0,r0⟩) (b:=⟨b1,m1,r1⟩) ‹_› ‹_› ‹_›;first|exact congrArg (fun i:Cg=>Value.bool i.some) e.symm|exact congrArg (fun i:Cg=>Value.int .i64 i.m) e.symm|exact congrArg (fun i:Cg=>Value.int .i64 i.r) e.symm|fail)|(have e:=join_4 (a:=⟨b0,m0,r0⟩) (b:=⟨b1,m1,r1⟩) ‹_› ‹_› ‹_› g3.1;first|exact congrArg (fun i:Cg=>Value.bool i.some) e.symm|exact congrArg (fun i:Cg=>Value.int .i64 i.m) e.symm|exact congrArg (fun i:Cg=>Value.int .i64 i.r) e.symm|fail)
 . cases h
def gLn:List DV->Nat
 | [.lst _ n _]=>n
 |_=>0
def gLf:List DV->Nat->List DV
 | [.lst _ _ f]=>f
 |_=>fun _=> []
abbrev cLL (l:List DV):List DV:= [.lst 1 (gLn l) fun j=> [st (gT (gLf l j))]]
def rLL (l:List DV):Prop:=l=cLL l
def gLL (l:List DV):List ByteArray:=gN (gLn l) (gLf l)
def catL (f:Nat->List DV):Nat->List ByteArray
 |0=> []
 |1=>gLL (f 0)
 |_=>gLL (f 0)++gLL (f 1)
def rowN:Blk->Nat
 | .row _ n _=>n
 | .fzr _ n _=>n
 |_=>0
theorem canonY {f:Nat->List DV} {p:Prop} (h:(rLL (f 0)/\ rLL (f 1))/\ p) (i:Nat) (hi:i<2):f i=cLL (f i):=by
 have hc:i=0 \/i=1:=by omega
 rcases hc with rfl|rfl
 . exact h.1.1
 . exact h.1.2
theorem catL_len (f:Nat->List DV):(catL f 0).length=0/\ (catL f 1).length=gLn (f 0)/\ (catL f 2).length=gLn (f 0)+gLn (f 1):=by simp [catL,gLL,gN_length]
theorem appRow_cat {l:List ByteArray} {m len:Nat} (hl:l.length=len) {F g:Nat->List DV} (hF: ∀j,j<len->F j= [st (atS l j)]) (hg: ∀j,j<m->g j= [st (gT (g j))]) (i:Nat) (hi:i<len+m):appRow len F g i= [st (atS (l++gN m g) i)]:=by
 unfold appRow;by_cases h:i<len
 . rw [if_pos h,hF i h];simp [atS,List.getD_eq_getElem?_getD,List.getElem?_append_left (show i<l.length by omega)]
 . rw [if_neg h,hg _ (by omega)];have h2:i-len<m:=by omega
   have h3:(gN m g)[i-len]? =some (gT (g (i-len))):=by simp [gN,h2]
   simp only [atS,List.getD_eq_getElem?_getD,List.getElem?_append_right (show l.length<=i by omega),hl,h3,Option.getD_some]
theorem cat_step {f0:Nat->List DV} {f:Nat->List DV} {i:Nat} (hi:i<2) (k3: ∀j,j<(catL f0 i).length->f j= [st (atS (catL f0 i) j)]) (j:Nat) (hj:j<(catL f0 (i+1)).length):
 appRow (catL f0 i).length f (fun j=> [st (gT (gLf (f0 i) j))]) j= [st (atS (catL f0 (i+1)) j)]:=by
 have hc:i=0 \/i=1:=by omega
 rcases hc with rfl|rfl
 . exact appRow_cat (l:=catL f0 0) rfl k3 (fun _ _=>rfl) j (by simpa [catL,gLL,gN_length] using hj)
 . exact appRow_cat (l:=catL f0 1) rfl k3 (fun _ _=>rfl) j (by simpa [catL,gLL,gN_length] using hj)
def FNConcat:List Ar->Option Rs
 | [.c (.d (.lst 1 2 f0))]=>some ⟨((rLL (f0 0)/\ rLL (f0 1))/\ ((gLn (f0 0))+(gLn (f0 1)))*16<=140737488351232),.va (.c (.d (lst (catL f0 2)))),[]⟩
 |_=>none
theorem fcNConcat:FC Tryz.prog 154 FNConcat:=by
 intro xs pre r us h hp;unfold FNConcat at h;split at h
 . rename_i f0
   cases h;have hp0:=hp
   refine FCat.of_eq (as':= [.c (.d (.lst 1 2 fun i=>cLL (f0 i)))]) ?_ rfl rfl ?_
   . repeat' (first|exact trivial|exact rfl|refine ⟨?_, ?_⟩|fail)
     all_goals first|(intro i hi;exact canonY hp0 i hi)|exact hp0.2|exact hp1.2|exact hp2.2|(intro i hi;exact (hp0.2 i hi).1)|(intro i hi;exact (hp1.2 i hi).1)|(intro i hi;exact (hp2.2 i hi).1)|grind
   refine fcat tys_ok (l:= []) trivial Tryz.func154 rfl (by kernel_rfl) true ?_
   have hl:=catL_len f0
   have h16:=hp0.2
   repeat' (first|exact trivial|refine ⟨?_, ?_⟩|intro _)
   all_goals first|(with_reducible apply qq)|(conv=>whnf)
   refine loop_ok tys_ok (l:= []) trivial (by kernel_rfl) (X:=Nat)
    (fun x=>⟨[(11,vx (.int .i64 x)),(10,vx (.int .i64 2)),(9,.va (.c (.d (.lst 1 2 fun i=>cLL (f0 i))))),(0,.va (.c (.d (.lst 1 2 fun i=>cLL (f0 i))))),(3,vx (.int .i64 ((catL f0 x).length:Int)))],[],0,36⟩)
    (fun x=>2-x) (fun x=>x<=2) [] [] (fun x _ _=>x+1) [] [] 0 0 0 (Nat.zero_le _) ?_ ?_
   . repeat' (first|exact trivial|exact rfl|(intro _ h;exact absurd h (Nat.not_lt_zero _))|(intro _ _;exact rfl)|refine ⟨?_, ?_⟩|fail)
   . intro i k1;have hc:i=0 \/i=1 \/i=2:=by omega
     rcases hc with rfl|rfl|rfl
     . repeat' (first|exact trivial|refine ⟨?_, ?_⟩|intro _)
       all_goals first|(with_reducible apply qq)|(conv=>whnf)
       all_goals (try simp only [Int.toNat_natCast,hl.1,hl.2.1,hl.2.2,decide_eq_true_eq,decide_eq_false_iff_not] at*)
       all_goals first|omega|((with_reducible show idsOk _ _=true);rfl)|(exact absurd ‹decide _=false› (by decide))|rfl|(rw [wI_id _ (by omega) (by omega)] at*;omega)|(rw [wI_id _ (by omega) (by omega)];first|rfl|(congr 1;omega))
     . repeat' (first|exact trivial|refine ⟨?_, ?_⟩|intro _)
       all_goals first|(with_reducible apply qq)|(conv=>whnf)
       all_goals (try simp only [Int.toNat_natCast,hl.1,hl.2.1,hl.2.2,decide_eq_true_eq,decide_eq_false_iff_not] at*)
       all_goals first|omega|((with_reducible show idsOk _ _=true);rfl)|(exact absurd ‹decide _=false› (by decide))|rfl|(rw [wI_id _ (by omega) (by omega)] at*;omega)|(rw [wI_id _ (by omega) (by omega)];first|rfl|(congr 1;omega))
     . repeat' (first|exact trivial|refine ⟨?_, ?_⟩|intro _)
       all_goals first|(with_reducible apply qq)|(conv=>whnf)
       all_goals first|(exact absurd ‹decide _=true› (by decide))|skip
       all_goals first|((with_reducible show ACall _ _ _ _ _ _);refine inl tys_ok (l:= []) trivial Tryz.func186 rfl (by kernel_rfl) (by kernel_rfl) rfl ?_;(conv=>whnf))|skip
       all_goals repeat' (first|exact trivial|refine ⟨?_, ?_⟩|intro _)
       all_goals first|(with_reducible apply qq)|(conv=>whnf)
       all_goals first|(exact absurd ‹decide _=false› (by decide))|((with_reducible show ASat _ _ _ _ _);skip)|skip
       all_goals (have hw:IntKind.wrap .i64 (((catL f0 2).length:Int)-IntKind.wrap .i64 (((0:Nat):Int)-((0:Nat):Int)))=((gLn (f0 0)+gLn (f0 1):Nat):Int):=by rw [hl.2.2];simp only [Int.sub_self];rw [wI_id 0 (by omega) (by omega),wI_id _ (by omega) (by omega)];omega)
       all_goals first|omega|(rw [hw];omega)|(exfalso;rw [hl.2.2] at*;simp only [decide_eq_true_eq] at*;omega)|skip
       . refine loop_ok tys_ok (l:= []) trivial (by kernel_rfl) (X:=Nat×Nat×(Nat->List DV))
          (fun x=>⟨[(27,vx (.int .i64 x.1)),(26,vx (.int .i64 2)),(25,.va (.c (.d (.lst 1 2 fun i=>cLL (f0 i))))),(6,.va (.c (.osl 0 1 0 (catL f0 x.1).length)))],[(0,.row 1 x.2.1 x.2.2)],1,36⟩)
          (fun x=>2-x.1) (fun x=>x.1<=2/\ (catL f0 x.1).length<=x.2.1/\ ∀j,j<(catL f0 x.1).length->x.2.2 j= [st (atS (catL f0 x.1) j)]) [] [1] (fun x _ bs=>match bs with| [b]=>(x.1+1,rowN b,rowB b)|_=>x) [1] [0] 0 0 (0,gLn (f0 0)+gLn (f0 1),fun _=> [st ByteArray.empty]) ?_ ?_ ?_
         . exact ⟨Nat.zero_le _,by simp [catL],fun j hj=>absurd hj (by simp [catL])⟩
         . repeat' (first|exact trivial|exact rfl|(intro _ h;exact absurd h (Nat.not_lt_zero _))|(intro _ _;exact rfl)|refine ⟨?_, ?_⟩|fail)
           all_goals first|(rw [hw];rfl)|(simp;done)
         . rintro ⟨i,n,f⟩ ⟨k1,k2,k3⟩
           dsimp only at k1 k2 k3
           have hs:=fun h=>cat_step (f0:=f0) (f:=f) (i:=i) h k3
           have hc:i=0 \/i=1 \/i=2:=by omega
           rcases hc with rfl|rfl|rfl
           . repeat' (first|exact trivial|refine ⟨?_, ?_⟩|intro _)
             all_goals first|(with_reducible apply qq)|(conv=>whnf)
             all_goals (try dsimp only [rowN,rowB] at*)
             all_goals (try simp only [Int.toNat_natCast,Nat.zero_add,Nat.reduceAdd,decide_eq_true_eq,decide_eq_false_iff_not] at*)
             all_goals first|omega|((with_reducible show idsOk _ _=true);rfl)|rfl|(exact hs (by decide) _ ‹_›)|(rw [wI_id _ (by omega) (by omega)];first|rfl|(congr 1;omega))|(exact k3 _ ‹_›)
           . repeat' (first|exact trivial|refine ⟨?_, ?_⟩|intro _)
             all_goals first|(with_reducible apply qq)|(conv=>whnf)
             all_goals (try dsimp only [rowN,rowB] at*)
             all_goals (try simp only [Int.toNat_natCast,Nat.zero_add,Nat.reduceAdd,decide_eq_true_eq,decide_eq_false_iff_not] at*)
             all_goals first|omega|((with_reducible show idsOk _ _=true);rfl)|rfl|(exact hs (by decide) _ ‹_›)|(rw [wI_id _ (by omega) (by omega)];first|rfl|(congr 1;omega))|(exact k3 _ ‹_›)
           . repeat' (first|exact trivial|refine ⟨?_, ?_⟩|intro _)
             all_goals first|(with_reducible apply qq)|(conv=>whnf)
             all_goals (try dsimp only [rowN,rowB] at*)
             all_goals (try simp only [Int.toNat_natCast,Nat.zero_add,Nat.reduceAdd,decide_eq_true_eq,decide_eq_false_iff_not] at*)
             all_goals first|omega|((with_reducible show idsOk _ _=true);rfl)|rfl|(exact hs (by decide) _ ‹_›)|(rw [wI_id _ (by omega) (by omega)];first|rfl|(congr 1;omega))|(exact k3 _ ‹_›)
       . refine loop_ok tys_ok (l:= []) trivial (by kernel_rfl) (X:=Nat×Nat×(Nat->List DV))
          (fun x=>⟨[(27,vx (.int .i64 x.1)),(26,vx (.int .i64 2)),(25,.va (.c (.d (.lst 1 2 fun i=>cLL (f0 i))))),(6,.va (.c (.osl 0 1 0 (catL f0 x.1).length)))],[(0,.row 1 x.2.1 x.2.2)],1,36⟩)
          (fun x=>2-x.1) (fun x=>x.1<=2/\ (catL f0 x.1).length<=x.2.1/\ ∀j,j<(catL f0 x.1).length->x.2.2 j= [st (atS (catL f0 x.1) j)]) [] [1] (fun x _ bs=>match bs with| [b]=>(x.1+1,rowN b,rowB b)|_=>x) [1] [] 0 1 (0,0,fun _=> []) ?_ ?_ ?_
         . exact ⟨Nat.zero_le _,by simp [catL],fun j hj=>absurd hj (by simp [catL])⟩
         . repeat' (first|exact trivial|exact rfl|(intro _ h;exact absurd h (Nat.not_lt_zero _))|(intro _ _;exact rfl)|refine ⟨?_, ?_⟩|fail)
           all_goals first|(rw [hw];rfl)|(simp;done)
         . rintro ⟨i,n,f⟩ ⟨k1,k2,k3⟩
           dsimp only at k1 k2 k3
           have hs:=fun h=>cat_step (f0:=f0) (f:=f) (i:=i) h k3
           have hc:i=0 \/i=1 \/i=2:=by omega
           rcases hc with rfl|rfl|rfl
           . repeat' (first|exact trivial|refine ⟨?_, ?_⟩|intro _)
             all_goals first|(with_reducible apply qq)|(conv=>whnf)
             all_goals (try dsimp only [rowN,rowB] at*)
             all_goals (try simp only [Int.toNat_natCast,Nat.zero_add,Nat.reduceAdd,decide_eq_true_eq,decide_eq_false_iff_not] at*)
             all_goals first|omega|((with_reducible show idsOk _ _=true);rfl)|rfl|(exact hs (by decide) _ ‹_›)|(rw [wI_id _ (by omega) (by omega)];first|rfl|(congr 1;omega))|(exact k3 _ ‹_›)
           . repeat' (first|exact trivial|refine ⟨?_, ?_⟩|intro _)
             all_goals first|(with_reducible apply qq)|(conv=>whnf)
             all_goals (try dsimp only [rowN,rowB] at*)
             all_goals (try simp only [Int.toNat_natCast,Nat.zero_add,Nat.reduceAdd,decide_eq_true_eq,decide_eq_false_iff_not] at*)
             all_goals first|omega|((with_reducible show idsOk _ _=true);rfl)|rfl|(exact hs (by decide) _ ‹_›)|(rw [wI_id _ (by omega) (by omega)];first|rfl|(congr 1;omega))|(exact k3 _ ‹_›)
           . repeat' (first|exact trivial|refine ⟨?_, ?_⟩|intro _)
             all_goals first|(with_reducible apply qq)|(conv=>whnf)
             all_goals (try dsimp only [rowN,rowB] at*)
             all_goals (try simp only [Int.toNat_natCast,Nat.zero_add,Nat.reduceAdd,decide_eq_true_eq,decide_eq_false_iff_not] at*)
             all_goals first|omega|((with_reducible show idsOk _ _=true);rfl)|rfl|(exact hs (by decide) _ ‹_›)|(rw [wI_id _ (by omega) (by omega)];first|rfl|(congr 1;omega))|(exact k3 _ ‹_›)
 . cases h
def meetS (l m:List ByteArray):List ByteArray:=l.filter fun x=>memS x m
theorem meet_add (i:Nat) (f:Nat->List DV) (m:List ByteArray):meetS (gN (i+1) f) m=if memS (gT (f i)) m=true then meetS (gN i f) m++ [gT (f i)] else meetS (gN i f) m:=by
 unfold meetS;rw [gN_add,List.filter_append]
 split<;>rename_i h<;>simp [h]
theorem meet_len (n:Nat) (f:Nat->List DV) (m:List ByteArray):(meetS (gN n f) m).length<=n:=by
 have:=List.length_filter_le (fun x=>memS x m) (gN n f)
 rw [gN_length] at this;exact this
theorem none_key {b0:Bool} {n:Nat} {f:Nat->List DV} (h:(!b0)=true):Value.bool ((n:Int)==0)=Value.bool (!b0&&decide (gN n f= [])):=by
 rw [h,Bool.true_and];refine congrArg Value.bool (Bool.eq_iff_iff.2 ?_)
 rw [beq_iff_eq,decide_eq_true_eq, <-List.length_eq_zero_iff,gN_length];omega
def FNJoin:List Ar->Option Rs
 | [.agg [.d (.v (.bool b0)),.d (.lst 1 n0 f0)],.agg [.d (.v (.bool b1)),.d (.lst 1 n1 f1)]]=>some ⟨(n0*16<=140737488351232/\ ∀i,i<n0->f0 i= [st (gT (f0 i))])/\ (n1*16<=140737488351232/\ ∀i,i<n1->f1 i= [st (gT (f1 i))])/\ ((n0+n1)*16<=140737488351232),.va (Ns.ar (⟨b0||b1,ofS (gN n0 f0++gN n1 f1)⟩)),[]⟩
 |_=>none
theorem fcNJoin:FC Tryz.prog 120 FNJoin:=by
 intro xs pre r us h hp;unfold FNJoin at h;split at h
 . rename_i b0 n0 f0 b1 n1 f1
   cases h;obtain ⟨hp0,hp1,hp2⟩:=hp
   refine FCat.of_eq (as':= [.agg [.d (.v (.bool b0)),.d (.lst 1 n0 fun i=> [st (gT (f0 i))])],.agg [.d (.v (.bool b1)),.d (.lst 1 n1 fun i=> [st (gT (f1 i))])]]) ?_ rfl rfl ?_
   . repeat' (first|exact trivial|exact rfl|refine ⟨?_, ?_⟩|fail)
     all_goals first|exact hp0.2|exact hp1.2|exact hp2.2|(intro i hi;exact (hp0.2 i hi).1)|(intro i hi;exact (hp1.2 i hi).1)|(intro i hi;exact (hp2.2 i hi).1)|grind
   refine fcat tys_ok (l:= [(154,⟨[],FNConcat⟩),(80,⟨[],FNOf⟩)]) ⟨fcNConcat,fcNOf,trivial⟩ Tryz.func120 rfl (by kernel_rfl) true ?_
   repeat' (first|exact trivial|refine ⟨?_, ?_⟩|intro _)
   all_goals first|(with_reducible apply qq)|(conv=>whnf)
   all_goals first|(with_reducible exact hp2)|rfl|skip
   all_goals (try subst ‹b0=_›)
   all_goals (try simp only [gN_lst] at*)
   all_goals first|rfl|(exact hp2)|(show ((gN n0 f0++gN n1 f1).length)*16<=_;rw [List.length_append,gN_length,gN_length];exact hp2)
 . cases h
def FNNone:List Ar->Option Rs
 | [.agg [.d (.v (.bool b0)),.d (.lst 1 n0 f0)]]=>some ⟨(n0*16<=140737488351232/\ ∀i,i<n0->f0 i= [st (gT (f0 i))]),.va (.c (.d (bo (!b0&&decide (gN n0 f0= []))))),[]⟩
 |_=>none
theorem fcNNone:FC Tryz.prog 123 FNNone:=by
 intro xs pre r us h hp;unfold FNNone at h;split at h
 . rename_i b0 n0 f0
   cases h;have hp0:=hp
   refine FCat.of_eq (as':= [.agg [.d (.v (.bool b0)),.d (.lst 1 n0 fun i=> [st (gT (f0 i))])]]) ?_ rfl rfl ?_
   . repeat' (first|exact trivial|exact rfl|refine ⟨?_, ?_⟩|fail)
     all_goals first|exact hp0.2|exact hp1.2|exact hp2.2|(intro i hi;exact (hp0.2 i hi).1)|(intro i hi;exact (hp1.2 i hi).1)|(intro i hi;exact (hp2.2 i hi).1)|grind
   refine fcat tys_ok (l:= []) trivial Tryz.func123 rfl (by kernel_rfl) false ?_
   repeat' (first|exact trivial|refine ⟨?_, ?_⟩|intro _)
   all_goals first|(with_reducible apply qq)|(conv=>whnf)
   all_goals first|(exact none_key ‹_›)|(rw [‹(!b0)=false›];rfl)
 . cases h
def FNMeet:List Ar->Option Rs
 | [.agg [.d (.v (.bool b0)),.d (.lst 1 n0 f0)],.agg [.d (.v (.bool b1)),.d (.lst 1 n1 f1)]]=>some ⟨(n0*16<=140737488351232/\ ∀i,i<n0->f0 i= [st (gT (f0 i))])/\ (n1*16<=140737488351232/\ ∀i,i<n1->f1 i= [st (gT (f1 i))]),.va (Ns.ar (⟨b0&&b1,ofS (meetS (gN n0 f0) (gN n1 f1))⟩)),[]⟩
 |_=>none
theorem fcNMeet:FC Tryz.prog 65 FNMeet:=by
 intro xs pre r us h hp;unfold FNMeet at h;split at h
 . rename_i b0 n0 f0 b1 n1 f1
   cases h;obtain ⟨hp0,hp1⟩:=hp
   refine FCat.of_eq (as':= [.agg [.d (.v (.bool b0)),.d (.lst 1 n0 fun i=> [st (gT (f0 i))])],.agg [.d (.v (.bool b1)),.d (.lst 1 n1 fun i=> [st (gT (f1 i))])]]) ?_ rfl rfl ?_
   . repeat' (first|exact trivial|exact rfl|refine ⟨?_, ?_⟩|fail)
     all_goals first|exact hp0.2|exact hp1.2|exact hp2.2|(intro i hi;exact (hp0.2 i hi).1)|(intro i hi;exact (hp1.2 i hi).1)|(intro i hi;exact (hp2.2 i hi).1)|grind
   refine fcat tys_ok (l:= [(29,⟨[],FNContains⟩),(80,⟨[],FNOf⟩)]) ⟨fcNContains,fcNOf,trivial⟩ Tryz.func65 rfl (by kernel_rfl) true ?_
   repeat' (first|exact trivial|refine ⟨?_, ?_⟩|intro _)
   all_goals first|(with_reducible apply qq)|(conv=>whnf)
   refine loop_ids tys_ok (l:= [(29,⟨[],FNContains⟩),(80,⟨[],FNOf⟩)]) ⟨fcNContains,fcNOf,trivial⟩ (by kernel_rfl) (X:=Nat×List ByteArray)
    (fun x=>⟨[(11,vx (.int .i64 x.1)),(10,vx (.int .i64 n0)),(9,.va (.c (.d (.lst 1 n0 fun i=> [st (gT (f0 i))])))),(5,.va (.c (.osl 3 1 0 x.2.length))),(2,.va (.c (.own 0 0))),(3,.va (.c (.own 1 0))),(4,.va (.c (.own 2 0)))],
     [(3,.row 1 x.2.length fun j=> [st (atS x.2 j)]),(0,.cells [.d (bo b0),.d (.lst 1 n0 fun i=> [st (gT (f0 i))])]),(1,.cells [.d (bo b1),.d (.lst 1 n1 fun i=> [st (gT (f1 i))])]),(2,.cells [.d (bo false),.d (.v (.slice none 0 0))])],4,32⟩)
    (fun x=>n0-x.1) (fun x=>x.1<=n0/\ x.2=meetS (gN x.1 f0) (gN n1 f1)) [5] []
    (fun x _ _=>(x.1+1,meetS (gN (x.1+1) f0) (gN n1 f1))) (fun xs=>match xs with| [t]=> [0,1,2,oI t]|_=> []) [0,1,2] 0 1 (0,[]) ?_ ?_ ?_
   . exact ⟨Nat.zero_le _,rfl⟩
   . repeat' (first|exact trivial|exact rfl|(intro _ h;exact absurd h (Nat.not_lt_zero _))|(intro _ _;exact rfl)|refine ⟨?_, ?_⟩|fail)
     all_goals decide
   . rintro ⟨i,l⟩ ⟨k1,k2⟩
     dsimp only at k1 k2
     have k3:=meet_len i f0 (gN n1 f1)
     rw [<-k2] at k3
     repeat' (first|exact trivial|refine ⟨?_, ?_⟩|intro _)
     all_goals first|(with_reducible apply qq)|(conv=>whnf)
     all_goals (try simp only [Int.toNat_natCast,decide_eq_true_eq,decide_eq_false_iff_not,seq_iff,gN_canon] at*)
     all_goals first|omega|((with_reducible show idsOk _ _=true);rfl)|((with_reducible show Value.int _ _=Value.int _ _);rw [wI_id _ (by omega) (by omega)];rfl)|rfl|(with_reducible exact hp1.1)|(simp;done)|skip
     all_goals first|(rw [meet_add,if_pos ‹memS _ _=true›, <-k2];first|(simp;done)|(exact appRow_snoc rfl (fun _ _=>rfl) rfl _ ‹_›))|(rw [meet_add,if_neg (by rw [‹memS _ _=false›];decide), <-k2];done)|(rw [meet_add,if_neg (by rw [‹memS _ _=false›];decide), <-k2];rfl)|skip
     all_goals (have hi:i=n0:=by omega)
     all_goals (subst hi;try simp only [Nat.zero_add,gN_lst])
     all_goals first|(rw [k2];done)|(rw [‹b0=true›];rfl)|(rw [‹b0=false›];rfl)
 . cases h
theorem gcdJ_lt {x y:Cg} (h: ¬Cg.gcdJ x y>9223372036854775807):Cg.gcdJ x y<9223372036854775808:=by omega
theorem Cg.join_inR {a b:Cg} (ha:a.inR) (hb:b.inR):(Cg.join a b).inR:=by
 have h1:=Cg.clean_inR ha
 have h2:=Cg.clean_inR hb
 unfold Cg.join;split
 . exact h2
 . split
   . exact h1
   . split
     . unfold Cg.of Cg.inR md;decide
     . rename_i h
       exact Cg.of_inR _ _ (by have:0<=Cg.gcdJ a.clean b.clean:=by unfold Cg.gcdJ;omega
                               omega) (gcdJ_lt h) h1.2.1 h1.2.2
namespace Vl
def join (a b:Vl):Vl:=⟨⟨a.of.i.s.join b.of.i.s,a.of.i.c.join b.of.i.c⟩,⟨a.t.null||b.t.null,ofS (ofS a.t.names++ofS b.t.names)⟩⟩
def widen (a b:Vl) (l:List Int):Vl:=⟨⟨a.of.i.s.widen b.of.i.s l,a.of.i.c.join b.of.i.c⟩,⟨a.t.null||b.t.null,ofS (ofS a.t.names++ofS b.t.names)⟩⟩
def none (v:Vl):Bool:=v.of.i.none&&(!v.t.null&&decide (ofS v.t.names= []))
def zero:Vl:=⟨Ig.zero,⟨false,[]⟩⟩
def narrow (a b:Vl):Vl:=if !leq b a then a.of else if none b then zero else ⟨Ig.clean ⟨a.of.i.s.narrow b.of.i.s,if Cg.eq a.of.i.c (Cg.of 1 0) then b.of.i.c else a.of.i.c⟩,a.of.t⟩
def rjoin (a b:Vl):Vl:=⟨⟨a.rclean.i.s.join b.rclean.i.s,a.rclean.i.c.join b.rclean.i.c⟩,⟨a.t.null||b.t.null,cleanS (cleanS a.t.names++cleanS b.t.names)⟩⟩
def rwiden (a b:Vl) (l:List Int):Vl:=⟨⟨a.rclean.i.s.widen b.rclean.i.s l,(rjoin a.rclean b.rclean).i.c⟩,(rjoin a.rclean b.rclean).t⟩
def rleq (a b:Vl):Bool:=(a.rclean.i.s.leq b.rclean.i.s&&a.rclean.i.c.leq b.rclean.i.c)&&((!a.t.null||b.t.null)&&subS (cleanS a.t.names) (cleanS b.t.names))
def rnone (v:Vl):Bool:= !v.rclean.i.s.some&&decide (((cleanS (cleanS v.t.names)).length:Int)+(if v.t.null then 1 else 0)=0)
def rnarrow (a b:Vl):Vl:=if !rleq b.rclean a.rclean then a.rclean else if rnone b.rclean then zero else rclean ⟨⟨a.rclean.i.s.narrow b.rclean.i.s,if a.rclean.i.c.m=1 then b.rclean.i.c else a.rclean.i.c⟩,a.rclean.t⟩
end Vl
theorem okV_of {v:Vl} (h:okV v):okV v.of:=by
 have h1:=Ig.clean_inR h.2.1 h.2.2
 have h2:=ofS_len v.t.names
 exact ⟨⟨by show (ofS v.t.names).length*16<=140737488351232;have:=h.1.1;omega,fun _ _=>rfl⟩,h1⟩
def FVJoin:List Ar->Option Rs
 | [.agg [.d (.v (.bool s0)),.d (.v (.int .i64 l0)),.d (.v (.int .i64 h0)),.d (.v (.bool b0)),.d (.v (.int .i64 m0)),.d (.v (.int .i64 r0)),.d (.v (.bool z0)),.d (.lst 1 n0 f0)],.agg [.d (.v (.bool s1)),.d (.v (.int .i64 l1)),.d (.v (.int .i64 h1)),.d (.v (.bool b1)),.d (.v (.int .i64 m1)),.d (.v (.int .i64 r1)),.d (.v (.bool z1)),.d (.lst 1 n1 f1)]]=>some ⟨((n0*16<=140737488351232/\ ∀i,i<n0->f0 i= [st (gT (f0 i))])/\ Sp.inR ⟨s0,l0,h0⟩/\ Cg.inR ⟨b0,m0,r0⟩)/\ ((n1*16<=140737488351232/\ ∀i,i<n1->f1 i= [st (gT (f1 i))])/\ Sp.inR ⟨s1,l1,h1⟩/\ Cg.inR ⟨b1,m1,r1⟩)/\ ((n0+n1)*16<=140737488351232),.va (Vl.ar (Vl.join (⟨⟨⟨s0,l0,h0⟩,⟨b0,m0,r0⟩⟩,⟨z0,gN n0 f0⟩⟩:Vl) (⟨⟨⟨s1,l1,h1⟩,⟨b1,m1,r1⟩⟩,⟨z1,gN n1 f1⟩⟩:Vl))),[]⟩
 |_=>none
theorem fcVJoin:FC Tryz.prog 82 FVJoin:=by
 intro xs pre r us h hp;unfold FVJoin at h;split at h
 . rename_i s0 l0 h0 b0 m0 r0 z0 n0 f0 s1 l1 h1 b1 m1 r1 z1 n1 f1
   cases h;obtain ⟨hp0,hp1,hp2⟩:=hp
   refine FCat.of_eq (as':= [.agg [.d (.v (.bool s0)),.d (.v (.int .i64 l0)),.d (.v (.int .i64 h0)),.d (.v (.bool b0)),.d (.v (.int .i64 m0)),.d (.v (.int .i64 r0)),.d (.v (.bool z0)),.d (.lst 1 n0 fun i=> [st (gT (f0 i))])],.agg [.d (.v (.bool s1)),.d (.v (.int .i64 l1)),.d (.v (.int .i64 h1)),.d (.v (.bool b1)),.d (.v (.int .i64 m1)),.d (.v (.int .i64 r1)),.d (.v (.bool z1)),.d (.lst 1 n1 fun i=> [st (gT (f1 i))])]]) ?_ rfl rfl ?_
   . repeat' (first|exact trivial|exact rfl|refine ⟨?_, ?_⟩|fail)
     all_goals first|exact hp0.2|exact hp1.2|exact hp2.2|(intro i hi;exact (hp0.2 i hi).1)|(intro i hi;exact (hp1.2 i hi).1)|(intro i hi;exact (hp2.2 i hi).1)|grind
   refine fcat tys_ok (l:= [(62,⟨[],FVOf⟩),(118,⟨[],FSJoin⟩),(119,⟨[],FCJoin⟩),(120,⟨[],FNJoin⟩),(66,⟨[],FVValue⟩)]) ⟨fcVOf,fcSJoin,fcCJoin,fcNJoin,fcVValue,trivial⟩ Tryz.func82 rfl (by kernel_rfl) true ?_
   have hv0:okV (⟨⟨⟨s0,l0,h0⟩,⟨b0,m0,r0⟩⟩,⟨z0,gN n0 fun i=> [st (gT (f0 i))]⟩⟩:Vl):=⟨⟨(by rw [gN_length];exact hp0.1.1),fun _ _=>rfl⟩,hp0.2⟩
   have hv1:okV (⟨⟨⟨s1,l1,h1⟩,⟨b1,m1,r1⟩⟩,⟨z1,gN n1 fun i=> [st (gT (f1 i))]⟩⟩:Vl):=⟨⟨(by rw [gN_length];exact hp1.1.1),fun _ _=>rfl⟩,hp1.2⟩
   have ho0:=okV_of hv0
   have ho1:=okV_of hv1
   have hoo0:=okV_of ho0
   have hoo1:=okV_of ho1
   have hl0:(Vl.of (⟨⟨⟨s0,l0,h0⟩,⟨b0,m0,r0⟩⟩,⟨z0,gN n0 fun i=> [st (gT (f0 i))]⟩⟩:Vl)).t.names.length<=n0:=by have:=ofS_len (gN n0 f0);rw [gN_length] at this;exact this
   have hl1:(Vl.of (⟨⟨⟨s1,l1,h1⟩,⟨b1,m1,r1⟩⟩,⟨z1,gN n1 fun i=> [st (gT (f1 i))]⟩⟩:Vl)).t.names.length<=n1:=by have:=ofS_len (gN n1 f1);rw [gN_length] at this;exact this
   have hsj:=Sp.join_inR ho0.2.1 ho1.2.1
   have hcj:=Cg.join_inR ho0.2.2 ho1.2.2
   have hsum:((Vl.of (⟨⟨⟨s0,l0,h0⟩,⟨b0,m0,r0⟩⟩,⟨z0,gN n0 fun i=> [st (gT (f0 i))]⟩⟩:Vl)).t.names.length+(Vl.of (⟨⟨⟨s1,l1,h1⟩,⟨b1,m1,r1⟩⟩,⟨z1,gN n1 fun i=> [st (gT (f1 i))]⟩⟩:Vl)).t.names.length)*16<=140737488351232:=by have:=hp2;omega
   have hjl:(ofS ((Vl.of (⟨⟨⟨s0,l0,h0⟩,⟨b0,m0,r0⟩⟩,⟨z0,gN n0 fun i=> [st (gT (f0 i))]⟩⟩:Vl)).t.names++(Vl.of (⟨⟨⟨s1,l1,h1⟩,⟨b1,m1,r1⟩⟩,⟨z1,gN n1 fun i=> [st (gT (f1 i))]⟩⟩:Vl)).t.names)).length*16<=140737488351232:=by have:=ofS_len ((Vl.of (⟨⟨⟨s0,l0,h0⟩,⟨b0,m0,r0⟩⟩,⟨z0,gN n0 fun i=> [st (gT (f0 i))]⟩⟩:Vl)).t.names++(Vl.of (⟨⟨⟨s1,l1,h1⟩,⟨b1,m1,r1⟩⟩,⟨z1,gN n1 fun i=> [st (gT (f1 i))]⟩⟩:Vl)).t.names);rw [List.length_append] at this;omega
   unfold okV at ho0 ho1 hoo0 hoo1
   repeat' (first|exact trivial|(with_reducible first|assumption|exact ho0.1|exact ho1.1|exact ho0.2.1|exact ho0.2.2|exact ho1.2.1|exact ho1.2.2|exact hp0.1|exact hp1.1|exact hp0.2.1|exact hp0.2.2|exact hp1.2.1|exact hp1.2.2)|refine ⟨?_, ?_⟩|intro _)
   all_goals first|(with_reducible apply qq)|(conv=>whnf)
   all_goals (try simp only [gN_lst] at*)
   all_goals first|rfl|(with_reducible first|exact hp0.1.1|exact hp1.1.1)|exact hsum|exact hjl
 . cases h
theorem ig_clean2 (i:Ig):i.clean.clean=i.clean:=tidy_fix (clean_tidy i)
theorem rclean2 (v:Vl):v.rclean.rclean=v.rclean:=by
 unfold Vl.rclean;rw [ig_clean2,cleanS_idem]
theorem widen_eq (a b:Vl) (l:List Int):Vl.widen a b l=Vl.rwiden a b l:=by
 unfold Vl.widen Vl.rwiden Vl.rjoin;rw [rclean2,rclean2,of_rclean,of_rclean];simp only [Vl.rclean,ofS_eq,cleanS_idem]
theorem leq_eq (a b:Vl):Vl.leq a b=Vl.rleq a.rclean b.rclean:=by
 unfold Vl.leq Vl.rleq Ig.leq;rw [rclean2,rclean2,of_rclean,of_rclean];simp only [Vl.rclean,ofS_eq,cleanS_idem]
theorem tidy_none {i:Ig} (h:i.tidy):i.none= !i.s.some:=by
 unfold Ig.none Sp.none;rcases h with rfl|⟨⟨h1,h2⟩,h3,_⟩
 . rfl
 . rw [h1,h2];simp;omega
theorem none_eq (b:Vl):Vl.none b=Vl.rnone b.rclean:=by
 unfold Vl.none Vl.rnone;rw [rclean2,of_rclean,tidy_none (i:=b.rclean.i) (clean_tidy b.i)]
 congr 1
 simp only [Vl.rclean,ofS_eq,cleanS_idem];have key: ∀(x:Bool) (l:List ByteArray),(!x&&decide (l= []))=decide ((l.length:Int)+(if x=true then 1 else 0)=0):=by
  intro x l;cases x
  . simp
  . simp;omega
 exact key _ _
theorem tidy_all {i:Ig} (h:i.tidy):Cg.eq i.c (Cg.of 1 0)=decide (i.c.m=1):=by
 have e:Cg.of 1 0=⟨true,1,0⟩:=rfl
 rw [e];unfold Cg.eq
 rcases h with rfl|⟨⟨h1,h2⟩,h3,h4⟩
 . rfl
 . rw [h2,Bool.eq_iff_iff];simp only [Bool.and_eq_true,beq_iff_eq,decide_eq_true_eq,true_and];constructor
   . exact fun h=>h.1
   . intro h;have:=h4.2 (by omega)
     omega
theorem narrow_eq (a b:Vl):Vl.narrow a b=Vl.rnarrow a b:=by
 unfold Vl.narrow Vl.rnarrow;rw [leq_eq,none_eq,of_rclean,of_rclean,tidy_all (i:=a.rclean.i) (clean_tidy a.i)];split
 . rfl
 . split
   . rfl
   . simp only [decide_eq_true_eq];unfold Vl.rclean;simp only [cleanS_idem]
theorem w1 (a b:Vl) (l:List Int):Vl.exact (Vl.widen a b l) (Vl.rwiden a b l)=true:=by rw [widen_eq];exact exact_refl _
theorem w2 (a b:Vl):Vl.exact (Vl.narrow a b) (Vl.rnarrow a b)=true:=by rw [narrow_eq];exact exact_refl _
inductive DvE:DV->DV->Prop
 |refl (x:DV):DvE x x
 |nil {sz:Nat} {f:Nat->List DV}:DvE (.v (.slice none 0 0)) (.lst sz 0 f)
 |lst {sz n:Nat} {f g:Nat->List DV}:(∀i,i<n->(f i).length=(g i).length)->(∀(i j:Nat) (x y:DV),i<n->(f i)[j]? =some x->(g i)[j]? =some y->DvE x y)->DvE (.lst sz n f) (.lst sz n g)
theorem DvE.rep {S:Nat->Prop} {w:World} {x y:DV} (h:DvE x y): ∀{v:Value},RepD S w x v->RepD S w y v:=by
 induction h with
 |refl x=>exact fun h=>h
 |nil=>intro v hx;cases hx;exact .nil
 | @lst sz n f g hl hr ih=>
   intro v hx;cases hx with
   |nil=>exact .nil
   |lst c h1 h2 h3 h4 h5=>
    refine .lst c h1 (fun i hi=>by rw [<-hl i hi];exact h2 i hi) h3 (fun i j hi hj=> ?_) h5
    have e1:j<(f i).length:=by rw [h2 i hi];exact hj
    have e2:j<(g i).length:=by rw [<-hl i hi];exact e1
    have h:=h4 i j hi hj
    rw [List.getD_eq_getElem?_getD,List.getElem?_eq_getElem e1] at h;rw [List.getD_eq_getElem?_getD,List.getElem?_eq_getElem e2];exact ih i j _ _ hi (List.getElem?_eq_getElem e1) (List.getElem?_eq_getElem e2) h
def rowE (x y:List DV):Prop:=x.length=y.length/\ ∀(j:Nat) a b,x[j]? =some a->y[j]? =some b->DvE a b
theorem DvE.rows {sz n:Nat} {f g:Nat->List DV} (h: ∀i,i<n->rowE (f i) (g i)):DvE (.lst sz n f) (.lst sz n g):= .lst (fun i hi=>(h i hi).1) fun i j x y hi=>(h i hi).2 j x y
def icE:Ic->Ic->Prop
 | .d x,.d y=>DvE x y
 | .ow sz n f,.ow sz' n' g=>sz=sz'/\ n=n'/\ ∀i,i<n->rowE (f i) (g i)
 |_,_=>False
def icsE:List Ic->List Ic->Prop
 | [],[]=>True
 |x::xs,y::ys=>icE x y/\ icsE xs ys
 |_,_=>False
def arE:Ar->Ar->Prop
 | .c x,.c y=>icE x y
 | .agg xs,.agg ys=>icsE xs ys
 | .rp cs,.rp cs'=>cs=cs'
 | .fv g,.fv g'=>g=g'
 |_,_=>False
def arsE:List Ar->List Ar->Prop
 | [],[]=>True
 |x::xs,y::ys=>arE x y/\ arsE xs ys
 |_,_=>False
theorem RowRep.deep {S:Nat->Prop} {w:World} {sz n:Nat} {f g:Nat->List DV} {l:Go.Sx.Loc} (h: ∀i,i<n->rowE (f i) (g i)) (hr:RowRep S w sz n f l):RowRep S w sz n g l:=by
 cases l with
 |virt=>exact hr
 | «at» b m=>
   obtain ⟨arr,e,h1,h2,h3,h4,h5⟩:=hr
   refine ⟨arr,e,h1,h2,h3,fun i hi=>by rw [<-(h i hi).1];exact h4 i hi,fun i j hi hj=> ?_⟩
   have e1:j<(f i).length:=by rw [h4 i hi];exact hj
   have e2:j<(g i).length:=by rw [<-(h i hi).1];exact e1
   have h6:=h5 i j hi hj
   rw [List.getD_eq_getElem?_getD,List.getElem?_eq_getElem e1] at h6;rw [List.getD_eq_getElem?_getD,List.getElem?_eq_getElem e2];exact ((h i hi).2 j _ _ (List.getElem?_eq_getElem e1) (List.getElem?_eq_getElem e2)).rep h6
theorem icsE.rep {S:Nat->Prop} {w:World}: ∀{xs ys:List Ic} {vs:List Value} {ls:List Go.Sx.Loc},icsE xs ys->RepIcs S w xs vs ls->RepIcs S w ys vs ls
 | [],[],vs,ls,_,h=>h
 | .d x::xs,.d y::ys,[],ls,_,h=>by simp [RepIcs] at h
 | .d x::xs,.d y::ys,v::vs,ls,h,h'=>by
   simp only [RepIcs] at h'⊢
   exact ⟨DvE.rep h.1 h'.1,icsE.rep h.2 h'.2⟩
 | .ow _ _ _::xs,.ow _ _ _::ys,[],_,_,h=>by simp [RepIcs] at h
 | .ow _ _ _::xs,.ow _ _ _::ys,_::_,[],_,h=>by simp [RepIcs] at h
 | .ow sz n f::xs,.ow sz' n' g::ys,v::vs,l::ls,h,h'=>by
   simp only [RepIcs] at h'⊢
   obtain ⟨⟨rfl,rfl,h1⟩,h2⟩:=h
   exact ⟨h'.1,RowRep.deep h1 h'.2.1,icsE.rep h2 h'.2.2⟩
 | [],_::_,_,_,h,_=>h.elim
 |_::_,[],_,_,h,_=>h.elim
 | .d _::_,.ow _ _ _::_,_,_,h,_=>h.1.elim
 | .ow _ _ _::_,.d _::_,_,_,h,_=>h.1.elim
theorem arE.rep {P:Program} {S:Nat->Prop} {w:World} {x y:Ar} {v:Value} {ls:List Go.Sx.Loc} (h:arE x y) (h':RepAr P S w x v ls):RepAr P S w y v ls:=by
 cases x<;>cases y<;>first|exact h.elim|skip
 . exact icsE.rep (xs:= [_]) (ys:= [_]) ⟨h,trivial⟩ h'
 . obtain ⟨arr,e,h'⟩:=h';exact ⟨arr,e,icsE.rep h h'⟩
 . have:_=_:=h;subst this;exact h'
 . have:_=_:=h;subst this;exact h'
theorem arsE.rep {P:Program} {S:Nat->Prop} {w:World}: ∀{xs ys:List Ar} {vs:List Value} {ls:List Go.Sx.Loc},arsE xs ys->RepArs P S w xs vs ls->RepArs P S w ys vs ls
 | [],[],_,_,_,h=>h
 | [],_::_,_,_,h,_=>h.elim
 |_::_,[],_,_,h,_=>h.elim
 |x::xs,y::ys,[],_,_,h=>by simp [RepArs] at h
 |x::xs,y::ys,v::vs,ls,h,h'=>by
  obtain ⟨l1,l2,e,h1,h2⟩:=h'
  exact ⟨l1,l2,e,arE.rep h.1 h1,arsE.rep h.2 h2⟩
theorem icsE.rows: ∀{xs ys:List Ic},icsE xs ys->icRows xs=icRows ys
 | [],[],_=>rfl
 | .d _::xs,.d _::ys,h=>icsE.rows (xs:=xs) (ys:=ys) h.2
 | .ow _ _ _::xs,.ow _ _ _::ys,h=>by obtain ⟨⟨rfl,rfl,_⟩,h2⟩:=h;simp only [icRows,icsE.rows h2]
 | [],_::_,h=>h.elim
 |_::_,[],h=>h.elim
 | .d _::_,.ow _ _ _::_,h=>h.1.elim
 | .ow _ _ _::_,.d _::_,h=>h.1.elim
theorem arsE.rows: ∀{xs ys:List Ar},arsE xs ys->arsRows xs=arsRows ys
 | [],[],_=>rfl
 | [],_::_,h=>h.elim
 |_::_,[],h=>h.elim
 |x::xs,y::ys,h=>by
  have e1:arRows x=arRows y:=by
   have h1:=h.1
   cases x<;>cases y<;>first|exact h1.elim|rfl|skip
   . exact icsE.rows (xs:= [_]) (ys:= [_]) ⟨h1,trivial⟩
   . exact icsE.rows h1
  simp only [arsRows,e1,arsE.rows h.2]
theorem FCat.deep {P:Program} {f:Nat} {xs ys:List Ar} {r:Rt} {us:List (Option (Nat->List DV))} (he:arsE xs ys) (h:FCat P f ys r us):FCat P f xs r us:=by
 intro S w vals ls hS hr hsep;have:=h S w vals ls hS (he.rep hr) hsep
 rw [<-he.rows] at this;exact this
def unr (P:Program) (τ:Tys) (Γ:Sums) (calls:Nat->List Va->St->(Tm->St->Prop)->Prop) (base:Nat) (c:Code) (Q:Exit->St->Prop):Nat->St->Prop
 |0,_=>False
 |n+1,st=>vc P τ Γ calls base c st fun e st'=>match e with
  | .normal=>unr P τ Γ calls base c Q n st'
  | .exit i=>Q (.exit i) st'
  | .goto i=>Q (.goto i) st'
  | .ret=>Q .ret st'
  |_=>False
theorem loop_unr {P:Program} {t:TT} (ht:t.ok P) {l:List (Nat×Sm)} (hl:sumsOk P l) (hmix:P.follows .mixedOrders=true) {base:Nat} {c:Code} {Q:Exit->St->Prop} {st:St} (n:Nat)
 (h:unr P t.get (sums l) (vcCall P (sums l) base) base c Q n st):ASat P base (.loop c) st Q:=by
 refine ⟨fun ψ S w a hr=> ?_⟩
 refine wp_loop_by (P:=P) (fun k a' w'=> ∃st ψ' S',unr P t.get (sums l) (vcCall P (sums l) base) base c Q k st/\ Rel P base ψ' S' w' st a'/\ Ext base ψ S w ψ' S' w') ?_ ⟨st,ψ,S,h,hr,Ext.refl _ _ _ _⟩
 rintro k a1 w1 ⟨st1,ψ1,S1,hk,hr1,he1⟩
 cases k with
 |zero=>exact hk.elim
 |succ k=>
  refine wp_mono ((vc_ok (TT.tysOk ht) (TT.zeros ht) (sums_ok hl) hmix (vcCall_ok (sums_ok hl) base) c _ _ hk).run ψ1 S1 w1 a1 hr1) ?_
  rintro e a2 w2 ⟨st2,ψ2,S2,hq,hr2,he2⟩
  cases e with
  |normal=>exact ⟨k,Nat.lt_succ_self k,st2,ψ2,S2,hq,hr2,he1.trans he2⟩
  |exit id=>exact ⟨st2,ψ2,S2,hq,hr2,he1.trans he2⟩
  |goto l=>exact ⟨st2,ψ2,S2,hq,hr2,he1.trans he2⟩
  |ret=>exact ⟨st2,ψ2,S2,hq,hr2,he1.trans he2⟩
  |panic ch=>exact hq.elim
  |outgrown=>exact hq.elim
structure Bd where
 name:ByteArray
 v:Vl
instance:Inhabited Bd:=⟨⟨ByteArray.empty,Vl.zero⟩⟩
abbrev bdC (b:Bd):List DV:= [st b.name,bo b.v.i.s.some,it b.v.i.s.lo,it b.v.i.s.hi,bo b.v.i.c.some,it b.v.i.c.m,it b.v.i.c.r,bo b.v.t.null,lst b.v.t.names]
def atB (l:List Bd) (i:Nat):Bd:=l.getD i default
abbrev rwB (l:List Bd):Nat->List DV:=fun i=>bdC (atB l i)
abbrev lstB (l:List Bd):DV:= .lst 9 l.length (rwB l)
structure En where
 live:Bool
 binds:List Bd
abbrev En.ar (e:En):Ar:= .agg [.d (bo e.live),.d (lstB e.binds)]
def gS9 (l:List DV):ByteArray:=match l[(0:Nat)]? with
 |some (.v (.string s))=>s
 |_=>ByteArray.empty
def gB9 (l:List DV) (j:Nat):Bool:=match l[j]? with
 |some (.v (.bool b))=>b
 |_=>false
def gI9 (l:List DV) (j:Nat):Int:=match l[j]? with
 |some (.v (.int _ n))=>n
 |_=>0
def gn9 (l:List DV):Nat:=match l[(8:Nat)]? with
 |some (.lst _ n _)=>n
 |_=>0
def gf9 (l:List DV):Nat->List DV:=match l[(8:Nat)]? with
 |some (.lst _ _ f)=>f
 |_=>fun _=> []
def gB (l:List DV):Bd:=⟨gS9 l,⟨⟨⟨gB9 l 1,gI9 l 2,gI9 l 3⟩,⟨gB9 l 4,gI9 l 5,gI9 l 6⟩⟩,⟨gB9 l 7,gN (gn9 l) (gf9 l)⟩⟩⟩
abbrev rowM9 (l:List DV):List DV:= [st (gS9 l),bo (gB9 l 1),it (gI9 l 2),it (gI9 l 3),bo (gB9 l 4),it (gI9 l 5),it (gI9 l 6),bo (gB9 l 7),.lst 1 (gn9 l) (gf9 l)]
def okB (b:Bd):Prop:=okV b.v
abbrev rowZ9 (l:List DV):List DV:= [st (gS9 l),bo (gB9 l 1),it (gI9 l 2),it (gI9 l 3),bo (gB9 l 4),it (gI9 l 5),it (gI9 l 6),bo (gB9 l 7),.v (.slice none 0 0)]
def rowOkB (l:List DV):Prop:=(l=rowM9 l \/l=rowZ9 l)/\ (∀i,i<gn9 l->gf9 l i= [st (gT (gf9 l i))])/\ okB (gB l)
theorem gB_bdC (b:Bd):gB (bdC b)=b:=by
 obtain ⟨n,⟨⟨⟨a1,a2,a3⟩,⟨c1,c2,c3⟩⟩,⟨z,l⟩⟩⟩:=b
 show Bd.mk n ⟨⟨⟨a1,a2,a3⟩,⟨c1,c2,c3⟩⟩,⟨z,gN l.length (fun i=> [st (atS l i)])⟩⟩=_
 rw [gN_lst]
theorem rowOkB_bdC {b:Bd} (h:okB b):rowOkB (bdC b):=⟨.inl rfl,fun _ _=>rfl,by rw [gB_bdC];exact h⟩
def rowSB (l:List DV):Prop:=(l=rowM9 l \/l=rowZ9 l)/\ ∀i,i<gn9 l->gf9 l i= [st (gT (gf9 l i))]
theorem rowSB_bdC (b:Bd):rowSB (bdC b):=⟨.inl rfl,fun _ _=>rfl⟩
theorem rowE_gS {l:List DV} (h:rowSB l):rowE l (bdC (gB l)):=by
 obtain ⟨h1,h2⟩:=h
 have key: ∀y,DvE y (.lst 1 (gN (gn9 l) (gf9 l)).length fun i=> [st (atS (gN (gn9 l) (gf9 l)) i)])->rowE [st (gS9 l),bo (gB9 l 1),it (gI9 l 2),it (gI9 l 3),bo (gB9 l 4),it (gI9 l 5),it (gI9 l 6),bo (gB9 l 7),y] (bdC (gB l)):=by
  intro y hy;refine ⟨rfl, ?_⟩
  intro j a b ha hb
  match j with
  |0=>cases ha;cases hb;exact .refl _
  |1=>cases ha;cases hb;exact .refl _
  |2=>cases ha;cases hb;exact .refl _
  |3=>cases ha;cases hb;exact .refl _
  |4=>cases ha;cases hb;exact .refl _
  |5=>cases ha;cases hb;exact .refl _
  |6=>cases ha;cases hb;exact .refl _
  |7=>cases ha;cases hb;exact .refl _
  |8=>cases ha;cases hb;exact hy
  |j+9=>simp at ha
 rcases h1 with h1|h1
 . have e:rowE (rowM9 l) (bdC (gB l)):=key (.lst 1 (gn9 l) (gf9 l)) (by
    rw [gN_length];refine .rows fun i hi=> ?_
    rw [h2 i hi,atS_gN hi];exact ⟨rfl,fun j a b ha hb=>by rw [ha] at hb;cases hb;exact .refl _⟩)
   rw [<-h1] at e;exact e
 . have h0:gn9 l=0:=by rw [h1];rfl
   have e:rowE (rowZ9 l) (bdC (gB l)):=key _ (by rw [gN_length,h0];exact .nil)
   rw [<-h1] at e;exact e
theorem rowE_gB {l:List DV} (h:rowOkB l):rowE l (bdC (gB l)):=rowE_gS ⟨h.1,h.2.1⟩
def gBs (n:Nat) (f:Nat->List DV):List Bd:=(List.range n).map fun i=>gB (f i)
theorem gBs_length (n:Nat) (f:Nat->List DV):(gBs n f).length=n:=by simp [gBs]
theorem atB_gBs {n i:Nat} {f:Nat->List DV} (h:i<n):atB (gBs n f) i=gB (f i):=by
 simp [atB,gBs,List.getD_eq_getElem?_getD,h]
theorem gBs_row (l:List Bd):gBs l.length (rwB l)=l:=by
 unfold gBs;apply List.ext_getElem
 . simp
 . intro i h1 h2;simp [gB_bdC,atB,List.getD_eq_getElem?_getD,h2]
theorem canonB {n:Nat} {f:Nat->List DV} (h: ∀i,i<n->rowOkB (f i)):DvE (.lst 9 n f) (.lst 9 n (rwB (gBs n f))):=
 .rows fun i hi=>by show rowE (f i) (bdC (atB (gBs n f) i));rw [atB_gBs hi];exact rowE_gB (h i hi)
theorem canonBo {n:Nat} {f:Nat->List DV} (h: ∀i,i<n->rowOkB (f i)):icE (.ow 9 n f) (.ow 9 n (rwB (gBs n f))):=
 ⟨rfl,rfl,fun i hi=>by show rowE (f i) (bdC (atB (gBs n f) i));rw [atB_gBs hi];exact rowE_gB (h i hi)⟩
theorem okB_at {n:Nat} {f:Nat->List DV} (h: ∀i,i<n->rowOkB (f i)) (i:Nat) (hi:i<n):okB (atB (gBs n f) i):=by rw [atB_gBs hi];exact (h i hi).2.2
theorem snocRec {α:Type} {p:List α->Prop} (h0:p []) (h1: ∀l x,p l->p (l++ [x])) (l:List α):p l:=by
 have: ∀m:List α,p m.reverse:=by
  intro m
  induction m with
  |nil=>exact h0
  |cons x m ih=>rw [List.reverse_cons];exact h1 _ _ ih
 have:=this l.reverse
 rwa [List.reverse_reverse] at this
structure Wk {α:Type} (lt:α->α->Bool):Prop where
 asymm: ∀a b,lt a b=true->lt b a=false
 trans: ∀a b c,lt b a=false->lt c b=false->lt c a=false
section
variable {α:Type} [Inhabited α] {lt:α→α→Bool}
def mg (lt:α->α->Bool) (l r:List α):List α:=l.merge r fun a b=> !lt b a
theorem mg_nil (r:List α):mg lt [] r=r:=List.nil_merge r
theorem mg_right (l:List α):mg lt l []=l:=List.merge_right l
theorem mg_cons (a b:α) (l r:List α):mg lt (a::l) (b::r)=if lt b a=true then b::mg lt (a::l) r else a::mg lt l (b::r):=by
 unfold mg;rw [List.cons_merge_cons];cases lt b a<;>rfl
theorem mg_length (l r:List α):(mg lt l r).length=l.length+r.length:=List.length_merge _ l r
theorem mg_mem {l r:List α} {x:α}:x∈mg lt l r↔x∈l \/x∈r:=List.mem_merge
theorem mg_assoc (h:Wk lt): ∀(a b c:List α),mg lt (mg lt a b) c=mg lt a (mg lt b c)
 | [],b,c=>by rw [mg_nil,mg_nil]
 |x::a,[],c=>by rw [mg_right,mg_nil]
 |x::a,y::b,[]=>by rw [mg_right,mg_right]
 |x::a,y::b,z::c=>by
  have i1:=mg_assoc h a (y::b) (z::c)
  have i2:=mg_assoc h (x::a) b (z::c)
  have i3:=mg_assoc h (x::a) (y::b) c
  cases hyx:lt y x with
  |false=>
   have e1:mg lt (x::a) (y::b)=x::mg lt a (y::b):=by rw [mg_cons,if_neg (by simp [hyx])]
   cases hzx:lt z x with
   |false=>
    cases hzy:lt z y with
    |false=>
     rw [e1,mg_cons,if_neg (by simp [hzx]),i1];have e2:mg lt (y::b) (z::c)=y::mg lt b (z::c):=by rw [mg_cons,if_neg (by simp [hzy])]
     rw [e2,mg_cons,if_neg (by simp [hyx])]
    |true=>
     rw [e1,mg_cons,if_neg (by simp [hzx]),i1];have e2:mg lt (y::b) (z::c)=z::mg lt (y::b) c:=by rw [mg_cons,if_pos hzy]
     rw [e2,mg_cons,if_neg (by simp [hzx])]
   |true=>
    have hzy:lt z y=true:=by
     cases hzy:lt z y with
     |true=>rfl
     |false=>have:=h.trans x y z hyx hzy;rw [this] at hzx;cases hzx
    have e2:mg lt (y::b) (z::c)=z::mg lt (y::b) c:=by rw [mg_cons,if_pos hzy]
    rw [e1,mg_cons,if_pos hzx,e2,mg_cons,if_pos hzx, <-i3,e1]
  |true=>
   have e1:mg lt (x::a) (y::b)=y::mg lt (x::a) b:=by rw [mg_cons,if_pos hyx]
   cases hzy:lt z y with
   |false=>
    have e2:mg lt (y::b) (z::c)=y::mg lt b (z::c):=by rw [mg_cons,if_neg (by simp [hzy])]
    rw [e1,mg_cons,if_neg (by simp [hzy]),i2,e2,mg_cons,if_pos hyx]
   |true=>
    have hzx:lt z x=true:=by
     cases hzx:lt z x with
     |true=>rfl
     |false=>
      have h1:=h.asymm z y hzy
      have h3:=h.trans x z y hzx h1
      rw [h3] at hyx;cases hyx
    have e2:mg lt (y::b) (z::c)=z::mg lt (y::b) c:=by rw [mg_cons,if_pos hzy]
    rw [e1,mg_cons,if_pos hzy,e2,mg_cons,if_pos hzx, <-i3,e1]
termination_by a b c=>a.length+b.length+c.length
theorem mg_split: ∀(l1 r1 l2 r2:List α),(∀x∈l1, ∀y∈r2,lt y x=false)->(∀y∈r1, ∀x∈l2,lt y x=true)->mg lt (l1++l2) (r1++r2)=mg lt l1 r1++mg lt l2 r2
 | [],[],l2,r2,_,_=>by simp [mg_nil]
 |x::l1,[],l2,r2,h1,h2=>by
  have ih:=mg_split l1 [] l2 r2 (fun x hx=>h1 x (by simp [hx])) h2
  rw [mg_right] at ih⊢;cases r2 with
  |nil=>simp [mg_right]
  |cons y r2=>
   have:=h1 x (by simp) y (by simp)
   simp only [List.cons_append,List.nil_append] at ih⊢
   rw [mg_cons,if_neg (by simp [this]),ih]
 | [],y::r1,l2,r2,h1,h2=>by
   have ih:=mg_split [] r1 l2 r2 h1 (fun y hy=>h2 y (by simp [hy]))
   rw [mg_nil] at ih⊢;cases l2 with
   |nil=>simp [mg_nil]
   |cons x l2=>
    have:=h2 y (by simp) x (by simp)
    simp only [List.cons_append,List.nil_append] at ih⊢
    rw [mg_cons,if_pos this,ih]
 |x::l1,y::r1,l2,r2,h1,h2=>by
  have i1:=mg_split l1 (y::r1) l2 r2 (fun x hx=>h1 x (by simp [hx])) h2
  have i2:=mg_split (x::l1) r1 l2 r2 h1 (fun y hy=>h2 y (by simp [hy]))
  simp only [List.cons_append] at i1 i2⊢
  rw [mg_cons,mg_cons];split
  . rw [i2];rfl
  . rw [i1];rfl
termination_by l1 r1=>l1.length+r1.length
def Std (lt:α->α->Bool) (l:List α):Prop:=l.Pairwise fun a b=>lt b a=false
theorem mg_srt (h:Wk lt) {l r:List α} (h1:Std lt l) (h2:Std lt r):Std lt (mg lt l r):=by
 have:=List.pairwise_merge (le:=fun a b=> !lt b a) (fun a b c h1 h2=>by have:=h.trans a b c (by simpa using h1) (by simpa using h2);simp [this]) (fun a b=>by
  cases hab:lt b a with
  |false=>simp
  |true=>have:=h.asymm b a hab;simp [this]) l r (h1.imp (by simp)) (h2.imp (by simp))
 exact this.imp (by simp)
def srt (lt:α->α->Bool) (l:List α):List α:=l.foldl (fun s x=>mg lt s [x]) []
theorem srt_snoc (l:List α) (x:α):srt lt (l++ [x])=mg lt (srt lt l) [x]:=by unfold srt;rw [List.foldl_append];rfl
theorem srt_length (l:List α):(srt lt l).length=l.length:=by
 refine snocRec (p:=fun l=>(srt lt l).length=l.length) rfl (fun l x ih=> ?_) l
 rw [srt_snoc,mg_length,ih,List.length_append]
theorem srt_srt (h:Wk lt) (l:List α):Std lt (srt lt l):=by
 refine snocRec (p:=fun l=>Std lt (srt lt l)) List.Pairwise.nil (fun l x ih=> ?_) l
 rw [srt_snoc];exact mg_srt h ih (List.pairwise_singleton _ _)
theorem srt_append (h:Wk lt) (l r:List α):srt lt (l++r)=mg lt (srt lt l) (srt lt r):=by
 refine snocRec (p:=fun r=>srt lt (l++r)=mg lt (srt lt l) (srt lt r)) ?_ (fun r x ih=> ?_) r
 . rw [List.append_nil];exact (mg_right _).symm
 . rw [<-List.append_assoc,srt_snoc,ih,srt_snoc,mg_assoc h]
theorem srt_mem {l:List α} {x:α}:x∈srt lt l↔x∈l:=by
 refine snocRec (p:=fun l=>x∈srt lt l↔x∈l) ?_ (fun l y ih=> ?_) l
 . simp [srt]
 . rw [srt_snoc,mg_mem,ih,List.mem_append]
theorem mg_back (p:List α) (y x:α) (h:lt x y=true):mg lt (p++ [y]) [x]=mg lt p [x]++ [y]:=by
 induction p with
 |nil=>rw [List.nil_append,mg_cons,if_pos h,mg_nil,mg_right];rfl
 |cons z p ih=>
  rw [List.cons_append,mg_cons,mg_cons];split
  . rw [mg_right,mg_right];rfl
  . rw [ih];rfl
theorem mg_end (p:List α) (x:α) (h: ∀y∈p,lt x y=false):mg lt p [x]=p++ [x]:=by
 induction p with
 |nil=>rw [mg_nil];rfl
 |cons z p ih=>
  rw [mg_cons,if_neg (by simp [h z (by simp)]),ih fun y hy=>h y (by simp [hy])];rfl
theorem srt_le_last (h:Wk lt) {p:List α} {y x:α} (hp:Std lt (p++ [y])) (hx:lt x y=false): ∀z∈p++ [y],lt x z=false:=by
 intro z hz;rcases List.mem_append.1 hz with hz|hz
 . have:=(List.pairwise_append.1 hp).2.2 z hz y (by simp)
   exact h.trans z y x this hx
 . simp at hz;subst hz;exact hx
theorem mg_one (x:α): ∀(r1 r2:List α),(∀y∈r1,lt y x=true)->(∀y∈r2,lt y x=false)->mg lt [x] (r1++r2)=r1++x::r2
 | [],r2,_,h2=>by
   cases r2 with
   |nil=>rw [List.nil_append,mg_right];rfl
   |cons y r2=>rw [List.nil_append,mg_cons,if_neg (by simp [h2 y (by simp)]),mg_nil];rfl
 |y::r1,r2,h1,h2=>by
  rw [List.cons_append,mg_cons,if_pos (h1 y (by simp)),mg_one x r1 r2 (fun y hy=>h1 y (by simp [hy])) h2];rfl
theorem mg_last (y:α): ∀(l1 l2:List α),(∀x∈l1,lt y x=false)->(∀x∈l2,lt y x=true)->mg lt (l1++l2) [y]=l1++y::l2
 | [],l2,_,h2=>by
   cases l2 with
   |nil=>rw [List.nil_append,mg_nil];rfl
   |cons x l2=>rw [List.nil_append,mg_cons,if_pos (h2 x (by simp)),mg_right];rfl
 |x::l1,l2,h1,h2=>by
  rw [List.cons_append,mg_cons,if_neg (by simp [h1 x (by simp)]),mg_last y l1 l2 (fun x hx=>h1 x (by simp [hx])) h2];rfl
def put (g:Nat->α) (a:Nat) (l:List α):Nat->α:=fun k=>if a<=k/\ k<a+l.length then l.getD (k-a) default else g k
def seg (g:Nat->α) (a b:Nat):List α:=(List.range' a (b-a)).map g
theorem seg_length (g:Nat->α) (a b:Nat):(seg g a b).length=b-a:=by simp [seg]
theorem seg_get {g:Nat->α} {a b k:Nat} (h:k<b-a):(seg g a b)[k]? =some (g (a+k)):=by
 simp [seg,List.getElem?_map,h]
theorem seg_getD {g:Nat->α} {a b k:Nat} (h:k<b-a):(seg g a b).getD k default=g (a+k):=by
 rw [List.getD_eq_getElem?_getD,seg_get h];rfl
theorem seg_eq {g g':Nat->α} {a b:Nat} (h: ∀k,a<=k->k<b->g k=g' k):seg g a b=seg g' a b:=by
 unfold seg;refine List.map_congr_left fun k hk=> ?_
 simp at hk
 exact h k hk.1 (by omega)
theorem seg_nil (g:Nat->α) {a b:Nat} (h:b<=a):seg g a b= []:=by
 apply List.eq_nil_of_length_eq_zero;rw [seg_length];omega
theorem seg_app (g:Nat->α) {a m b:Nat} (h1:a<=m) (h2:m<=b):seg g a b=seg g a m++seg g m b:=by
 apply List.ext_getElem?
 intro k;by_cases hk:k<m-a
 . rw [seg_get (by omega),List.getElem?_append_left (by rw [seg_length];exact hk),seg_get hk]
 . rw [List.getElem?_append_right (by rw [seg_length];omega),seg_length];by_cases hb:k<b-a
   . rw [seg_get hb,seg_get (by omega)];congr 2;omega
   . rw [List.getElem?_eq_none (by rw [seg_length];omega),List.getElem?_eq_none (by rw [seg_length];omega)]
theorem seg_one (g:Nat->α) (a:Nat):seg g a (a+1)= [g a]:=by simp [seg]
theorem seg_snoc (g:Nat->α) {a b:Nat} (h:a<=b):seg g a (b+1)=seg g a b++ [g b]:=by rw [seg_app g h (Nat.le_succ b),seg_one]
theorem seg_cons (g:Nat->α) {a b:Nat} (h:a<b):seg g a b=g a::seg g (a+1) b:=by rw [seg_app g (Nat.le_succ a) h,seg_one];rfl
theorem mem_seg {g:Nat->α} {a b:Nat} {x:α}:x∈seg g a b↔ ∃k,a<=k/\ k<b/\ g k=x:=by
 simp only [seg,List.mem_map,List.mem_range'];constructor
 . rintro ⟨k,⟨i,hi,rfl⟩,rfl⟩;exact ⟨a+1*i,by omega,by omega,rfl⟩
 . rintro ⟨k,h1,h2,rfl⟩;exact ⟨k,⟨k-a,by omega,by omega⟩,rfl⟩
theorem putAt {g:Nat->α} {a:Nat} {l:List α} {k:Nat} (h:k<l.length):put g a l (a+k)=l.getD k default:=by
 unfold put;rw [if_pos (by omega)];congr 1;omega
theorem put_mid (g:Nat->α) (a:Nat) (p:List α) (x:α) (q:List α):put g a (p++x::q) (a+p.length)=x:=by
 rw [putAt (by simp)];simp [List.getD_eq_getElem?_getD]
theorem put_out {g:Nat->α} {a:Nat} {l:List α} {k:Nat} (h:k<a \/a+l.length<=k):put g a l k=g k:=by
 unfold put;rw [if_neg (by omega)]
theorem seg_put (g:Nat->α) (a b:Nat) (l:List α) (h:l.length=b-a) (hab:a<=b):seg (put g a l) a b=l:=by
 apply List.ext_getElem?
 intro k;by_cases hk:k<b-a
 . rw [seg_get hk,putAt (by omega),List.getD_eq_getElem?_getD,List.getElem?_eq_getElem (by omega)];rfl
 . rw [List.getElem?_eq_none (by rw [seg_length];omega),List.getElem?_eq_none (by omega)]
theorem put_seg (g:Nat->α) (a b:Nat):put g a (seg g a b)=g:=by
 funext k
 unfold put;split
 . rename_i h
   rw [seg_length] at h;rw [seg_getD (by omega)];congr 1;omega
 . rfl
theorem put_more (g:Nat->α) (a:Nat) (l:List α):put g a l=put g a (l++ [g (a+l.length)]):=by
 funext k
 unfold put;rw [List.length_append,List.length_singleton];by_cases h:a<=k/\ k<a+l.length
 . rw [if_pos h,if_pos (by omega)];simp [List.getD_eq_getElem?_getD,List.getElem?_append_left (show k-a<l.length by omega)]
 . rw [if_neg h];by_cases h2:k=a+l.length
   . subst h2;rw [if_pos (by omega)];simp [List.getD_eq_getElem?_getD]
   . rw [if_neg (by omega)]
def swp (g:Nat->α) (i j:Nat):Nat->α:=fun k=>if k=j then g i else if k=i then g j else g k
theorem put_swp (g:Nat->α) (a:Nat) (p:List α) (x y:α) (q:List α):swp (put g a (p++x::y::q)) (a+p.length) (a+p.length+1)=put g a (p++y::x::q):=by
 have e1:=put_mid g a p x (y::q)
 have e2:=put_mid g a (p++ [x]) y q
 rw [List.append_assoc,List.length_append,List.length_singleton] at e2;have e3:=put_mid g a p y (x::q)
 have e4:=put_mid g a (p++ [y]) x q
 rw [List.append_assoc,List.length_append,List.length_singleton] at e4
 funext k
 unfold swp;split
 . rename_i h;subst h;rw [e1];exact e4.symm
 . split
   . rename_i h;subst h;exact e2.trans e3.symm
   . unfold put;simp only [List.length_append,List.length_cons];split
     . rename_i h1 h2 h3
       simp only [List.getD_eq_getElem?_getD];by_cases hk:k-a<p.length
       . rw [List.getElem?_append_left hk,List.getElem?_append_left hk]
       . rw [List.getElem?_append_right (by omega),List.getElem?_append_right (by omega)];obtain ⟨d,hd⟩: ∃d,k-a-p.length=d+2:=⟨k-a-p.length-2,by omega⟩
         rw [hd];rfl
     . rfl
theorem swp_comm (g:Nat->α) (i j:Nat):swp g i j=swp g j i:=by
 funext k
 unfold swp;split<;>split<;>first|rfl|(subst_vars;rfl)
def swr (g:Nat->α) (a b n:Nat):Nat->α:=fun k=>if a<=k/\ k<a+n then g (b+(k-a)) else if b<=k/\ k<b+n then g (a+(k-b)) else g k
theorem swr_zero (g:Nat->α) (a b:Nat):swr g a b 0=g:=by
 funext k;unfold swr;rw [if_neg (by omega),if_neg (by omega)]
theorem swr_succ (g:Nat->α) {a b n:Nat} (h:a+n<b):swp (swr g a b n) (a+n) (b+n)=swr g a b (n+1):=by
 funext k
 unfold swp swr
 repeat' split
 all_goals first|rfl|(exfalso;omega)|(congr 1;omega)
def rot (g:Nat->α) (a m b:Nat):Nat->α:=fun k=>if a<=k/\ k<a+(b-m) then g (m+(k-a)) else if a+(b-m)<=k/\ k<b then g (a+(k-(a+(b-m)))) else g k
theorem rot_eq (g:Nat->α) {m i:Nat} (h:i<=m):rot g (m-i) m (m+i)=swr g (m-i) m i:=by
 funext k
 unfold rot swr
 repeat' split
 all_goals first|rfl|(exfalso;omega)|(congr 1;omega)
theorem rot_gt (g:Nat->α) {m i j:Nat} (h:i<=m) (hij:j<i):rot (swr g (m-i) m j) (m-(i-j)) m (m+j)=rot g (m-i) m (m+j):=by
 funext k
 unfold rot swr
 repeat' split
 all_goals first|rfl|(exfalso;omega)|(congr 1;omega)
theorem rot_lt (g:Nat->α) {m i j:Nat} (h:i<=m) (hij:i<j):rot (swr g (m-i) (m+j-i) i) (m-i) m (m+(j-i))=rot g (m-i) m (m+j):=by
 funext k
 unfold rot swr
 repeat' split
 all_goals first|rfl|(exfalso;omega)|(congr 1;omega)
theorem seg_rot1 (g:Nat->α) {a m b:Nat} (h1:a<=m) (h2:m<=b):seg (rot g a m b) a (a+(b-m))=seg g m b:=by
 apply List.ext_getElem?
 intro k;by_cases hk:k<b-m
 . rw [seg_get (by omega),seg_get hk];congr 1;unfold rot;rw [if_pos (by omega)];congr 1;omega
 . rw [List.getElem?_eq_none (by rw [seg_length];omega),List.getElem?_eq_none (by rw [seg_length];omega)]
theorem seg_rot2 (g:Nat->α) {a m b:Nat} (h1:a<=m) (h2:m<=b):seg (rot g a m b) (a+(b-m)) b=seg g a m:=by
 apply List.ext_getElem?
 intro k;by_cases hk:k<m-a
 . rw [seg_get (by omega),seg_get hk];congr 1;unfold rot;rw [if_neg (by omega),if_pos (by omega)];congr 1;omega
 . rw [List.getElem?_eq_none (by rw [seg_length];omega),List.getElem?_eq_none (by rw [seg_length];omega)]
theorem rot_out (g:Nat->α) {a m b k:Nat} (h1:a<=m) (h2:m<=b) (hk:k<a \/b<=k):rot g a m b k=g k:=by
 unfold rot;rw [if_neg (by omega),if_neg (by omega)]
end
def ltB (a b:Bd):Bool:=decide (cfL a.name.data.toList b.name.data.toList<0)
theorem wkB:Wk ltB where
 asymm a b h:=by
  unfold ltB at*
  rw [decide_eq_true_eq,cfL_lt] at h;rw [decide_eq_false_iff_not,cfL_lt];exact List.lt_asymm h
 trans a b c h1 h2:=by
  unfold ltB at*
  rw [decide_eq_false_iff_not,cfL_lt] at*
  intro h3;have h1:=List.not_lt.1 h1
  have h2:=List.not_lt.1 h2
  exact List.not_lt.2 (List.le_trans h1 h2) h3
def gF (f:Nat->List DV):Nat->Bd:=fun k=>gB (f k)
theorem srt_one {α:Type} [Inhabited α] {lt:α->α->Bool} (x:α):srt lt [x]= [x]:=mg_nil _
theorem put_one {α:Type} [Inhabited α] {lt:α->α->Bool} (g:Nat->α) (a:Nat):put g a (srt lt (seg g a (a+1)))=g:=by rw [seg_one,srt_one];have:=put_seg g a (a+1);rwa [seg_one] at this
theorem put_none {α:Type} [Inhabited α] {lt:α->α->Bool} (g:Nat->α) {a b:Nat} (h:b<=a):put g a (srt lt (seg g a b))=g:=by
 rw [seg_nil g h];funext k;unfold put;rw [if_neg (by simp only [srt,List.foldl_nil,List.length_nil];omega)]
theorem snoc_cases {α:Type} (l:List α):l= [] \/ ∃p y,l=p++ [y]:=by
 rcases List.eq_nil_or_concat l with h|⟨p,y,h⟩
 . exact .inl h
 . exact .inr ⟨p,y,by rw [h,List.concat_eq_append]⟩
theorem ltB_of {a b:Bd} {p:Bool} (h:decide (cfL a.name.data.toList b.name.data.toList<0)=p):ltB a b=p:=h
theorem setRow_at (f:Nat->List DV) (i:Nat) (r:List DV) (k:Nat):setRow f i r k=if k=i then r else f k:=by
 unfold setRow;cases h:Nat.beq k i with
 |true=>rw [if_pos (Nat.eq_of_beq_eq_true h)]
 |false=>rw [if_neg (Nat.ne_of_beq_eq_false h)]
theorem row_swp {g g':Nat->Bd} {i j:Nat} {x y:List DV} (hx:x=bdC (g j)) (hy:y=bdC (g i)) (h:swp g i j=g') (k:Nat):setRow (setRow (fun k=>bdC (g k)) i x) j y k=bdC (g' k):=by
 subst h;subst hx;subst hy
 rw [setRow_at,setRow_at];unfold swp;split
 . rfl
 . split<;>rfl
theorem canonF {n:Nat} {f:Nat->List DV} (h: ∀i,i<n->rowSB (f i)):icE (.ow 9 n f) (.ow 9 n fun k=>bdC (gF f k)):=⟨rfl,rfl,fun i hi=>rowE_gS (h i hi)⟩
theorem gF_bdC (G:Nat->Bd):gF (fun k=>bdC (G k))=G:=funext fun k=>gB_bdC (G k)
theorem fc_calls {P:Program} {f:Nat} {F:List Ar->Option Rs} (hc:Callable P f) (h: ∀xs pre r us,F xs=some ⟨pre,r,us⟩->pre->
 ∃(vs:List Value) (v:Value),xs=vs.map (fun x=>Ar.c (.d (.v x)))/\ us= []/\ (∀w,Calls P f vs.toArray w fun e w'=>e= .returned v/\ w'=w)/\ ∀S w,RepRt P S w r v []):FC P f F:=by
 intro xs pre r us hF hpre S w vals ls hS hr hsep;obtain ⟨vs,v,rfl,rfl,hrun,hrep⟩:=h _ _ _ _ hF hpre
 have hrows: ∀(vs:List Value),arsRows (vs.map fun x=>Ar.c (.d (.v x)))= []:=by
  intro vs
  induction vs with
  |nil=>rfl
  |cons v vs ih=>simp [arsRows,arRows,icRows,ih]
 have e:=repArs_rows hr (hrows vs)
 subst e;have hv:vals=vs:=by
  clear hrun hF hrows
  induction vs generalizing vals with
  |nil=>cases vals with|nil=>rfl|cons _ _=>simp [RepArs] at hr
  |cons x vs ih=>cases vals with
   |nil=>simp [RepArs] at hr
   |cons u vals=>
    simp only [List.map_cons,RepArs] at hr;obtain ⟨l1,l2,e,h1,h2⟩:=hr
    obtain ⟨rfl,rfl⟩:=List.append_eq_nil_iff.1 e.symm
    have h1:RepIcs S w [.d (.v x)] [u] []:=h1
    have h1:RepD S w (.v x) u:=h1.1
    cases h1;rw [ih _ h2]
 subst hv;refine .inl ⟨hc,(hrun w).mono ?_⟩
 rintro e w' ⟨rfl,rfl⟩
 refine ⟨v,S,[],rfl,hrep S w', ?_,trivial,⟨rfl,rfl,rfl,Nat.le_refl _,fun _ _ _=>rfl,Later.refl _ _,fun _ h=> .inl h,fun b hb=> .inl hb,hS⟩⟩
 rw [hrows];trivial
def FStrCmp:List Ar->Option Rs
 | [.c (.d (.v (.string x))),.c (.d (.v (.string y)))]=>some ⟨True,.va (.c (.d (it (cfL x.data.toList y.data.toList)))),[]⟩
 |_=>none
theorem fcStrCmp:FC Tryz.prog 111 FStrCmp:=by
 refine fc_calls (callable_of Tryz.func111 rfl rfl) fun xs pre r us h hp=> ?_
 unfold FStrCmp at h;split at h
 . rename_i x y
   cases h;exact ⟨[.string x,.string y],_,rfl,rfl,fun w=>Tryz.strings_Compare x y w,fun S w=>And.intro (.v trivial) trivial⟩
 . cases h
def FLess:List Ar->Option Rs
 | [.agg [.d (.v (.string x0)),.d (.v (.bool _)),.d (.v (.int .i64 _)),.d (.v (.int .i64 _)),.d (.v (.bool _)),.d (.v (.int .i64 _)),.d (.v (.int .i64 _)),.d (.v (.bool _)),.d (.lst 1 _ _)],.agg [.d (.v (.string x1)),.d (.v (.bool _)),.d (.v (.int .i64 _)),.d (.v (.int .i64 _)),.d (.v (.bool _)),.d (.v (.int .i64 _)),.d (.v (.int .i64 _)),.d (.v (.bool _)),.d (.lst 1 _ _)]]=>some ⟨True,.va (.c (.d (it (cfL x0.data.toList x1.data.toList)))),[]⟩
 |_=>none
theorem fcLess:FC Tryz.prog 127 FLess:=by
 intro xs pre r us h hp;unfold FLess at h;split at h
 . rename_i x0 s0 l0 h0 b0 m0 r0 z0 n0 f0 x1 s1 l1 h1 b1 m1 r1 z1 n1 f1
   cases h;refine fcat tys_ok (l:= [(111,⟨[],FStrCmp⟩)]) ⟨fcStrCmp,trivial⟩ Tryz.func127 rfl (by kernel_rfl) false ?_
   repeat' (first|exact trivial|refine ⟨?_, ?_⟩|intro _)
   all_goals first|(with_reducible apply qq)|(conv=>whnf)
   all_goals grind
 . cases h
abbrev gLess:List Cv->Option Gs:=mkFv (sums [(127,⟨[],FLess⟩)]) 127 []
def FInsSort:List Ar->Option Rs
 | [.c (.ow 9 n0 f0),.c (.d (.v (.int .i64 i1))),.c (.d (.v (.int .i64 i2))),.fv g3]=>some ⟨(n0<=1099511627776/\ ∀i,i<n0->rowSB (f0 i))/\ (-9223372036854775808<=i1/\ i1<9223372036854775808)/\ (-9223372036854775808<=i2/\ i2<9223372036854775808)/\ ((0<=i1/\ i1<=i2/\ i2<=n0)/\ g3=gLess),.tup [],[some fun k=>bdC (put (gF f0) (i1).toNat (srt ltB (seg (gF f0) (i1).toNat (i2).toNat)) k)]⟩
 |_=>none
theorem fcInsSort:FC Tryz.prog 202 FInsSort:=by
 intro xs pre r us h hp;unfold FInsSort at h;split at h
 . rename_i n0 f0 i1 i2 g3
   cases h;obtain ⟨hp0,hp1,hp2,hp3⟩:=hp
   refine FCat.deep (ys:= [.c (.ow 9 n0 fun k=>bdC (gF f0 k)),.c (.d (.v (.int .i64 i1))),.c (.d (.v (.int .i64 i2))),.fv g3]) ?_ ?_
   . repeat' (first|exact trivial|exact rfl|exact DvE.refl _|refine ⟨?_, ?_⟩|fail)
     all_goals first|exact (canonF hp0.2).2.2
   refine fcat tys_ok (l:= []) trivial Tryz.func202 rfl (by kernel_rfl) false ?_
   obtain ⟨⟨ha,hab,hb⟩,rfl⟩:=hp3
   obtain ⟨a,rfl⟩:=Int.eq_ofNat_of_zero_le ha
   obtain ⟨b,rfl⟩:=Int.eq_ofNat_of_zero_le (Int.le_trans ha hab)
   have hn:=hp0.1
   clear hp0
   generalize gF f0=G
   simp only [Int.toNat_natCast]
   repeat' (first|exact trivial|refine ⟨?_, ?_⟩|intro _)
   all_goals first|(with_reducible apply qq)|(conv=>whnf)
   refine loop_ok tys_ok (l:= []) trivial (by kernel_rfl) (X:=Nat)
    (fun i=>⟨[(8,vx (.int .i64 i)),(0,.va (.c (.osl 0 9 0 n0))),(1,vx (.int .i64 a)),(2,vx (.int .i64 b)),(3,.va (.c (.fv gLess)))],[(0,.row 9 n0 fun k=>bdC (put G a (srt ltB (seg G a i)) k))],1,53⟩)
    (fun i=>b-i) (fun i=>a<i/\ (i<=b \/i=a+1)) [] [] (fun i _ _=>i+1) [0] [0] 0 0 (a+1) ?_ ?_ ?_
   . exact ⟨by omega,.inr rfl⟩
   . rw [put_one]
     repeat' (first|exact trivial|exact rfl|(intro _ _;exact rfl)|refine ⟨?_, ?_⟩|fail)
     all_goals (exact congrArg (Value.int .i64) (wI_id _ (by omega) (by omega)))
   . rintro i ⟨k1,k2⟩
     repeat' (first|exact trivial|refine ⟨?_, ?_⟩|intro _)
     all_goals first|(with_reducible apply qq)|(conv=>whnf)
     . have hi:i<b:=by have:=of_decide_eq_true ‹decide ((i:Int)<(b:Int))=true›;omega
       have hs:=srt_srt wkB (seg G a i)
       have hl:(srt ltB (seg G a i)).length=i-a:=by rw [srt_length,seg_length]
       have hG:G (a+(srt ltB (seg G a i)).length)=G i:=by rw [hl];congr 1;omega
       refine loop_ok tys_ok (l:= []) trivial (by kernel_rfl) (X:=List Bd×List Bd)
        (fun x=>⟨[(9,vx (.int .i64 (a+x.1.length:Nat))),(8,vx (.int .i64 i)),(0,.va (.c (.osl 0 9 0 n0))),(1,vx (.int .i64 a)),(2,vx (.int .i64 b)),(3,.va (.c (.fv gLess)))],[(0,.row 9 n0 fun k=>bdC (put G a (x.1++G i::x.2) k))],1,53⟩)
        (fun x=>x.1.length) (fun x=>mg ltB (srt ltB (seg G a i)) [G i]=mg ltB x.1 [G i]++x.2/\ Std ltB x.1/\ x.1.length+x.2.length=i-a) [] [] (fun x _ _=>(x.1.dropLast,x.1.getLastD default::x.2)) [0] [0] 0 0 (srt ltB (seg G a i),[]) ?_ ?_ ?_
       . exact ⟨by simp,hs,by dsimp only;rw [hl];rfl⟩
       . have hp:=put_more G a (srt ltB (seg G a i))
         rw [hG] at hp;rw [hp]
         repeat' (first|exact trivial|exact rfl|(intro _ _;exact rfl)|refine ⟨?_, ?_⟩|fail)
         all_goals (exact congrArg (Value.int .i64) (by dsimp only;omega))
       . rintro ⟨p,q⟩ ⟨k3,k4,k5⟩
         dsimp only at k3 k4 k5
         rcases snoc_cases p with rfl|⟨p,y,rfl⟩
         . have hno:decide (((a+([]:List Bd).length:Nat):Int)>(a:Int))=false:=by simp
           have hE:put G a ([]++G i::q)=put G a (srt ltB (seg G a (i+1))):=by rw [seg_snoc G (by omega),srt_snoc,k3,mg_nil];rfl
           repeat' (first|exact trivial|refine ⟨?_, ?_⟩|intro _)
           all_goals first|(with_reducible apply qq)|(conv=>whnf)
           all_goals first|(exact absurd (hno.symm.trans ‹_=true›) (by decide))|skip
           all_goals first|rfl|omega|(dsimp only;omega)|(exact congrArg bdC (congrFun hE _))|(exact congrArg (Value.int .i64) (wI_id _ (by omega) (by omega)))
         . have hln:(p++ [y]).length=p.length+1:=by simp
           have hyes:decide (((a+(p++ [y]).length:Nat):Int)>(a:Int))=true:=by rw [hln];exact decide_eq_true (by omega)
           have hw:IntKind.wrap .i64 (((a+(p++ [y]).length:Nat):Int)-1)=((a+p.length:Nat):Int):=by rw [hln,wI_id _ (by omega) (by omega)];omega
           have hL:(p++ [y])++G i::q=p++y::G i::q:=by simp
           have e1:put G a ((p++ [y])++G i::q) (a+p.length)=y:=by rw [hL];exact put_mid _ _ _ _ _
           have e2:put G a ((p++ [y])++G i::q) (a+(p++ [y]).length)=G i:=put_mid _ _ _ _ _
           have hsw:swp (put G a ((p++ [y])++G i::q)) (a+(p++ [y]).length) (a+p.length)=put G a (p++G i::y::q):=by rw [hL,swp_comm,hln];exact put_swp _ _ _ _ _ _
           have hE:ltB (G i) y=false->put G a ((p++ [y])++G i::q)=put G a (srt ltB (seg G a (i+1))):=by
            intro h;rw [seg_snoc G (by omega),srt_snoc,k3,mg_end _ _ (srt_le_last wkB k4 h)];simp
           have hN:ltB (G i) y=true->mg ltB (srt ltB (seg G a i)) [G i]=mg ltB p [G i]++y::q:=by
            intro h;rw [k3,mg_back _ _ _ h,List.append_assoc];rfl
           repeat' (first|exact trivial|refine ⟨?_, ?_⟩|intro _)
           all_goals first|(with_reducible apply qq)|(conv=>whnf)
           all_goals first|(exact absurd (hyes.symm.trans ‹_=false›) (by decide))|skip
           all_goals first|((with_reducible show ASat _ _ _ _ _);refine draw_plan tys_ok (l:= []) trivial (by kernel_rfl) (.take 0 (.take 1 (.take 2 (.take 3 (.take 4 (.take 5 (.take 6 (.take 7 (.take 8 (.take 10 (.take 11 (.take 12 (.all [(9,.all [(13,.take 14 (.all [(15,.take 16 (.all [(17,.done)]))]))]),(13,.all [(9,.take 14 (.all [(15,.take 16 (.all [(17,.done)]))]))])]))))))))))))) (by kernel_rfl) ?_)|skip
           all_goals repeat' (first|exact trivial|refine ⟨?_, ?_⟩|intro _)
           all_goals first|(with_reducible apply qq)|(conv=>whnf)
           all_goals (try simp only [hw,Int.toNat_natCast,Nat.zero_add,e1,e2,List.dropLast_concat,List.getLastD_concat])
           all_goals (try rw [setRow_at,if_neg (by rw [hln];omega)])
           all_goals repeat' (first|exact trivial|refine ⟨?_, ?_⟩|intro _)
           all_goals first|(with_reducible apply qq)|(conv=>whnf)
           all_goals (try simp only [hw,Int.toNat_natCast,Nat.zero_add,e1,e2,List.dropLast_concat,List.getLastD_concat])
           all_goals first|rfl|omega|(dsimp only;omega)|(simp only [hln] at k5;simp only [List.length_cons];omega)|(exact (List.pairwise_append.1 k4).1)|(have hd:=‹decide (cfL _ _<0)=_›;simp only [hw,Int.toNat_natCast,Nat.zero_add,e1,e2] at hd;first|(exact hN (ltB_of hd))|(exact congrArg bdC (congrFun (hE (ltB_of hd)) _)))|(exact congrArg (Value.int .i64) (wI_id _ (by omega) (by omega)))|(exact row_swp (by rw [e1]) (by rw [e2]) hsw _)
     . exact Nat.le_refl _
     . have h2:=of_decide_eq_false ‹decide ((i:Int)<(b:Int))=false›
       rcases (by omega:i=b \/(i=a+1/\ b=a)) with k2|⟨k2,k3⟩
       . subst k2;rfl
       . subst k2;subst k3
         exact congrArg bdC (congrFun ((put_one G b).trans (put_none G (Nat.le_refl b)).symm) _)
 . cases h
def FSwapR:List Ar->Option Rs
 | [.c (.ow 9 n0 f0),.c (.d (.v (.int .i64 i1))),.c (.d (.v (.int .i64 i2))),.c (.d (.v (.int .i64 i3))),.fv _]=>some ⟨(n0<=1099511627776/\ ∀i,i<n0->rowSB (f0 i))/\ (-9223372036854775808<=i1/\ i1<9223372036854775808)/\ (-9223372036854775808<=i2/\ i2<9223372036854775808)/\ (-9223372036854775808<=i3/\ i3<9223372036854775808)/\ (0<=i1/\ 0<=i3/\ i1+i3<=i2/\ i2+i3<=n0),.tup [],[some fun k=>bdC (swr (gF f0) (i1).toNat (i2).toNat (i3).toNat k)]⟩
 |_=>none
theorem fcSwapR:FC Tryz.prog 214 FSwapR:=by
 intro xs pre r us h hp;unfold FSwapR at h;split at h
 . rename_i n0 f0 i1 i2 i3 g4
   cases h;obtain ⟨hp0,hp1,hp2,hp3,hp4⟩:=hp
   refine FCat.deep (ys:= [.c (.ow 9 n0 fun k=>bdC (gF f0 k)),.c (.d (.v (.int .i64 i1))),.c (.d (.v (.int .i64 i2))),.c (.d (.v (.int .i64 i3))),.fv g4]) ?_ ?_
   . repeat' (first|exact trivial|exact rfl|exact DvE.refl _|refine ⟨?_, ?_⟩|fail)
     all_goals first|exact (canonF hp0.2).2.2
   refine fcat tys_ok (l:= []) trivial Tryz.func214 rfl (by kernel_rfl) false ?_
   obtain ⟨ha,hl,hab,hb⟩:=hp4
   obtain ⟨a,rfl⟩:=Int.eq_ofNat_of_zero_le ha
   obtain ⟨l,rfl⟩:=Int.eq_ofNat_of_zero_le hl
   obtain ⟨b,rfl⟩:=Int.eq_ofNat_of_zero_le (Int.le_trans (by omega:(0:Int)<=(a:Int)+l) hab)
   have hn:=hp0.1
   clear hp0
   generalize gF f0=G
   simp only [Int.toNat_natCast]
   repeat' (first|exact trivial|refine ⟨?_, ?_⟩|intro _)
   all_goals first|(with_reducible apply qq)|(conv=>whnf)
   refine loop_ok tys_ok (l:= []) trivial (by kernel_rfl) (X:=Nat)
    (fun i=>⟨[(10,vx (.int .i64 i)),(0,.va (.c (.osl 0 9 0 n0))),(1,vx (.int .i64 a)),(2,vx (.int .i64 b)),(3,vx (.int .i64 l)),(4,.va (.c (.fv g4)))],[(0,.row 9 n0 fun k=>bdC (swr G a b i k))],1,38⟩)
    (fun i=>l-i) (fun i=>i<=l) [] [] (fun i _ _=>i+1) [0] [0] 0 0 0 ?_ ?_ ?_
   . exact Nat.zero_le _
   . rw [swr_zero]
     repeat' (first|exact trivial|exact rfl|(intro _ _;exact rfl)|refine ⟨?_, ?_⟩|fail)
   . rintro i k1
     have hw1:IntKind.wrap .i64 ((a:Int)+(i:Int))=((a+i:Nat):Int):=by rw [wI_id _ (by omega) (by omega)];omega
     have hw2:IntKind.wrap .i64 ((b:Int)+(i:Int))=((b+i:Nat):Int):=by rw [wI_id _ (by omega) (by omega)];omega
     repeat' (first|exact trivial|refine ⟨?_, ?_⟩|intro _)
     all_goals first|(with_reducible apply qq)|(conv=>whnf)
     . have hi:i<l:=by have:=of_decide_eq_true ‹decide ((i:Int)<(l:Int))=true›;omega
       repeat' (first|exact trivial|refine ⟨?_, ?_⟩|intro _)
       all_goals first|(with_reducible apply qq)|(conv=>whnf)
       all_goals first|((with_reducible show ASat _ _ _ _ _);refine draw_plan tys_ok (l:= []) trivial (by kernel_rfl) (.take 0 (.take 1 (.take 2 (.take 3 (.take 4 (.take 5 (.take 6 (.take 7 (.take 8 (.take 9 (.take 10 (.take 11 (.take 12 (.take 14 (.take 15 (.take 16 (.take 17 (.take 18 (.all [(13,.all [(19,.take 20 (.all [(21,.take 22 (.all [(23,.done)]))]))]),(19,.all [(13,.take 20 (.all [(21,.take 22 (.all [(23,.done)]))]))])]))))))))))))))))))) (by kernel_rfl) ?_)|skip
       all_goals repeat' (first|exact trivial|refine ⟨?_, ?_⟩|intro _)
       all_goals first|(with_reducible apply qq)|(conv=>whnf)
       all_goals (try simp only [hw1,hw2,Int.toNat_natCast,Nat.zero_add])
       all_goals (try rw [setRow_at,if_neg (by omega)])
       all_goals repeat' (first|exact trivial|refine ⟨?_, ?_⟩|intro _)
       all_goals first|(with_reducible apply qq)|(conv=>whnf)
       all_goals (try simp only [hw1,hw2,Int.toNat_natCast,Nat.zero_add])
       all_goals first|rfl|omega|(dsimp only;omega)|(exact row_swp rfl rfl (swr_succ G (by omega)) _)|(exact congrArg (Value.int .i64) (by first|(rw [wI_id _ (by omega) (by omega)];omega)|omega|(dsimp only;omega)))
     . exact Nat.le_refl _
     . have h2:=of_decide_eq_false ‹decide ((i:Int)<(l:Int))=false›
       have:i=l:=by omega
       subst this;rfl
 . cases h
def FRot:List Ar->Option Rs
 | [.c (.ow 9 n0 f0),.c (.d (.v (.int .i64 i1))),.c (.d (.v (.int .i64 i2))),.c (.d (.v (.int .i64 i3))),.fv _]=>some ⟨(n0<=1099511627776/\ ∀i,i<n0->rowSB (f0 i))/\ (-9223372036854775808<=i1/\ i1<9223372036854775808)/\ (-9223372036854775808<=i2/\ i2<9223372036854775808)/\ (-9223372036854775808<=i3/\ i3<9223372036854775808)/\ (0<=i1/\ i1<i2/\ i2<i3/\ i3<=n0),.tup [],[some fun k=>bdC (rot (gF f0) (i1).toNat (i2).toNat (i3).toNat k)]⟩
 |_=>none
theorem fcRot:FC Tryz.prog 212 FRot:=by
 intro xs pre r us h hp;unfold FRot at h;split at h
 . rename_i n0 f0 i1 i2 i3 g4
   cases h;obtain ⟨hp0,hp1,hp2,hp3,hp4⟩:=hp
   refine FCat.deep (ys:= [.c (.ow 9 n0 fun k=>bdC (gF f0 k)),.c (.d (.v (.int .i64 i1))),.c (.d (.v (.int .i64 i2))),.c (.d (.v (.int .i64 i3))),.fv g4]) ?_ ?_
   . repeat' (first|exact trivial|exact rfl|exact DvE.refl _|refine ⟨?_, ?_⟩|fail)
     all_goals first|exact (canonF hp0.2).2.2
   refine fcat tys_ok (l:= [(214,⟨[true],FSwapR⟩)]) ⟨fcSwapR,trivial⟩ Tryz.func212 rfl (by kernel_rfl) false ?_
   obtain ⟨ha,ham,hmb,hb⟩:=hp4
   obtain ⟨a,rfl⟩:=Int.eq_ofNat_of_zero_le ha
   obtain ⟨m,rfl⟩:=Int.eq_ofNat_of_zero_le (Int.le_trans ha (Int.le_of_lt ham))
   obtain ⟨b,rfl⟩:=Int.eq_ofNat_of_zero_le (Int.le_trans (Int.natCast_nonneg m) (Int.le_of_lt hmb))
   have hn:=hp0.1
   clear hp0
   generalize gF f0=G
   simp only [Int.toNat_natCast]
   repeat' (first|exact trivial|refine ⟨?_, ?_⟩|intro _)
   all_goals first|(with_reducible apply qq)|(conv=>whnf)
   refine loop_ok tys_ok (l:= [(214,⟨[true],FSwapR⟩)]) ⟨fcSwapR,trivial⟩ (by kernel_rfl) (X:=Nat×Nat×(Nat->Bd))
    (fun x=>⟨[(10,vx (.int .i64 x.1)),(11,vx (.int .i64 x.2.1)),(0,.va (.c (.osl 0 9 0 n0))),(1,vx (.int .i64 a)),(2,vx (.int .i64 m)),(3,vx (.int .i64 b)),(4,.va (.c (.fv g4)))],[(0,.row 9 n0 fun k=>bdC (x.2.2 k))],1,58⟩)
    (fun x=>x.1+x.2.1) (fun x=>0<x.1/\ 0<x.2.1/\ x.1<=m-a/\ x.2.1<=b-m/\ rot x.2.2 (m-x.1) m (m+x.2.1)=rot G a m b) [] []
    (fun x _ _=>if x.2.1<x.1 then (x.1-x.2.1,x.2.1,swr x.2.2 (m-x.1) m x.2.1) else (x.1,x.2.1-x.1,swr x.2.2 (m-x.1) (m+x.2.1-x.1) x.1)) [0] [0] 0 0 (m-a,b-m,G) ?_ ?_ ?_
   . refine ⟨by show 0<m-a;omega,by show 0<b-m;omega,Nat.le_refl _,Nat.le_refl _, ?_⟩
     have e1:m-(m-a)=a:=by omega
     have e2:m+(b-m)=b:=by omega
     dsimp only;rw [e1,e2]
   . repeat' (first|exact trivial|exact rfl|(intro _ _;exact rfl)|refine ⟨?_, ?_⟩|fail)
     all_goals exact congrArg (Value.int .i64) (by rw [wI_id _ (by omega) (by omega)];dsimp only;omega)
   . rintro ⟨i,j,H⟩ ⟨k1,k2,k3,k4,k5⟩
     dsimp only at k1 k2 k3 k4 k5
     have hok: ∀i,i<n0->rowSB (bdC (H i)):=fun i _=>rowSB_bdC _
     have hgF:gF (fun k=>bdC (H k))=H:=gF_bdC H
     have hw1:IntKind.wrap .i64 ((m:Int)-(i:Int))=((m-i:Nat):Int):=by rw [wI_id _ (by omega) (by omega)];omega
     have hw2:IntKind.wrap .i64 ((m:Int)+(j:Int))=((m+j:Nat):Int):=by rw [wI_id _ (by omega) (by omega)];omega
     have hw3:IntKind.wrap .i64 (((m+j:Nat):Int)-(i:Int))=((m+j:Nat):Int)-i:=by rw [wI_id _ (by omega) (by omega)]
     rcases Nat.lt_trichotomy i j with hij|hij|hij
     . have hq:j-i<j/\ ¬j<i:=by omega
       have hE: ∀k,bdC (swr H (m-i) ((((m+j:Nat):Int)-(i:Int)).toNat) i k)=bdC (swr H (m-i) (m+j-i) i k):=by
        intro k;congr 2;omega
       have hR:=(rot_lt H (m:=m) (i:=i) (j:=j) (by omega) hij).trans k5
       have hne:((i:Int) !=(j:Int))=true:=bne_iff_ne.2 (by omega)
       have hgt:decide ((i:Int)>(j:Int))=false:=decide_eq_false (by omega)
       repeat' (first|exact trivial|(with_reducible exact hok)|refine ⟨?_, ?_⟩|intro _)
       all_goals first|(with_reducible apply qq)|(conv=>whnf)
       all_goals first|(exact absurd (hne.symm.trans ‹_=false›) (by decide))|(exact absurd (hgt.symm.trans ‹_=true›) (by decide))|skip
       all_goals (try simp only [hw1,hw2,hw3,Int.toNat_natCast,hgF,if_neg hq.2])
       all_goals first|rfl|omega|(dsimp only;omega)|(exact hR)|(exact hE _)|(exact congrArg (Value.int .i64) (by first|(rw [wI_id _ (by omega) (by omega)];omega)|omega|(dsimp only;omega)))
     . subst hij;have hne:((i:Int) !=(i:Int))=false:=by simp
       repeat' (first|exact trivial|(with_reducible exact hok)|refine ⟨?_, ?_⟩|intro _)
       all_goals first|(with_reducible apply qq)|(conv=>whnf)
       all_goals first|(exact absurd (hne.symm.trans ‹_=true›) (by decide))|skip
       all_goals (try simp only [hw1,hw2,hw3,hgF,Int.toNat_natCast])
       all_goals first|rfl|omega|(dsimp only;omega)|(exact congrArg bdC (congrFun ((rot_eq H (by omega)).symm.trans k5) _))|(exact congrArg (Value.int .i64) (by first|(rw [wI_id _ (by omega) (by omega)];omega)|omega|(dsimp only;omega)))
     . have hq:j<i:=hij
       have hR:=(rot_gt H (m:=m) (i:=i) (j:=j) (by omega) hij).trans k5
       have hne:((i:Int) !=(j:Int))=true:=bne_iff_ne.2 (by omega)
       have hgt:decide ((i:Int)>(j:Int))=true:=decide_eq_true (by omega)
       repeat' (first|exact trivial|(with_reducible exact hok)|refine ⟨?_, ?_⟩|intro _)
       all_goals first|(with_reducible apply qq)|(conv=>whnf)
       all_goals first|(exact absurd (hne.symm.trans ‹_=false›) (by decide))|(exact absurd (hgt.symm.trans ‹_=false›) (by decide))|skip
       all_goals (try simp only [hw1,hw2,hw3,Int.toNat_natCast,hgF,if_pos hq])
       all_goals first|rfl|omega|(dsimp only;omega)|(exact hR)|(exact congrArg (Value.int .i64) (by first|(rw [wI_id _ (by omega) (by omega)];omega)|omega|(dsimp only;omega)))
 . cases h
end Go.Proofs.YtokjghkehojenaaGreat
