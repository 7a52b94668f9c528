/- The reference of products. No condition. -/
import Derived.Test.YtehpbhpmkhlldaaGreatW22
set_option linter.all false
set_option maxHeartbeats 8000000
set_option maxRecDepth 100000
namespace Go.Proofs.YtehpbhpmkhlldaaGreat
open Go.Sx
theorem wd_add (A B:Int):wd ((wd A).val+(wd B).val)=wd (A+B):=by unfold wd Wd.val;dsimp only;congr 1<;>omega
theorem wd_neg (A:Int):wd (0-(wd A).val)=wd (-A):=by unfold wd Wd.val;dsimp only;congr 1<;>omega
theorem rm_lo {b:Int} (h: -9223372036854775808<=b/\ b<9223372036854775808):(decide (b<0)=true->(wd (-Wd.val ⟨(wd b).hi,(wd b).lo⟩)).lo=((sizeI b).toNat:Int))/\ (decide (b<0)=false->(wd b).lo=((sizeI b).toNat:Int)):=by
 refine ⟨fun h1=> ?_,fun h1=> ?_⟩
 . have h1:=of_decide_eq_true h1
   unfold sizeI wd Wd.val;dsimp only;rw [if_pos h1];omega
 . have h1:=of_decide_eq_false h1
   unfold sizeI wd;dsimp only;rw [if_neg h1];omega
theorem rm_next {A B P:Int} {n:Nat} (h:A+B*n=P):(A+(if n%2=1 then B else 0))+(B+B)*((n/2:Nat):Int)=P:=by
 obtain ⟨q,hq⟩: ∃q:Nat,q=n/2:=⟨_,rfl⟩
 rw [<-hq]
 rcases Nat.mod_two_eq_zero_or_one n with h2|h2
 . have e2:B*(n:Int)=(B+B)*(q:Int):=by rw [show (n:Int)=q+q by omega,Int.mul_add,Int.add_mul]
   rw [if_neg (by omega)];omega
 . have e2:B*(n:Int)=(B+B)*(q:Int)+B:=by rw [show (n:Int)=q+q+1 by omega,Int.mul_add,Int.mul_add,Int.mul_one,Int.add_mul]
   rw [if_pos h2];omega
theorem rm_neg {A B i0 i1:Int} {n:Nat} (k:A+B*n=i0*sizeI i1) (hn:decide ((n:Int)>0)=false) (h:decide (i1<0)=true):wd (-(wd A).val)=wd (i0*i1):=by
 have h:=of_decide_eq_true h
 have hn:=of_decide_eq_false hn
 have e:n=0:=by omega
 subst e
 have e2:sizeI i1= -i1:=by unfold sizeI;rw [if_pos h]
 rw [e2,Int.mul_neg] at k
 have e3:A= -(i0*i1):=by simpa using k
 have e4:=wd_neg A
 rw [Int.zero_sub] at e4
 rw [e4,e3,Int.neg_neg]
theorem rm_pos {A B i0 i1:Int} {n:Nat} (k:A+B*n=i0*sizeI i1) (hn:decide ((n:Int)>0)=false) (h:decide (i1<0)=false):wd A=wd (i0*i1):=by
 have h:=of_decide_eq_false h
 have hn:=of_decide_eq_false hn
 have e:n=0:=by omega
 subst e
 have e2:sizeI i1=i1:=by unfold sizeI;rw [if_neg h]
 rw [e2] at k
 have e3:A=i0*i1:=by simpa using k
 rw [e3]
def FRMul:List Ar->Option Rs
 | [.c (.d (.v (.int .i64 i0))),.c (.d (.v (.int .i64 i1)))]=>some ⟨(-9223372036854775808<=i0/\ i0<9223372036854775808)/\ (-9223372036854775808<=i1/\ i1<9223372036854775808),.va (Wd.ar (wd (i0*i1))),[]⟩
 |_=>none
theorem fcRMul:FC Tryz.prog 16 FRMul:=by
 intro xs pre r us h hp
 unfold FRMul at h
 split at h
 . rename_i i0 i1
   cases h
   obtain ⟨hp0,hp1⟩:=hp
   refine fcat tys_ok (l:= [(52,⟨[],FROf⟩),(53,⟨[],FRNeg⟩),(54,⟨[],FRAdd⟩)]) ⟨fcROf,fcRNeg,fcRAdd,trivial⟩ Tryz.func16 rfl (by kernel_rfl) false ?_
   repeat' (first|exact trivial|(with_reducible first|exact hp0|exact hp1|exact hp0.1|exact hp0.2|exact hp1.1|exact hp1.2|exact wd_ok _|exact (wd_ok _).1.1|exact (wd_ok _).1.2|exact (wd_ok _).2.1|exact (wd_ok _).2.2)|refine ⟨?_, ?_⟩|intro _)
   all_goals first|(with_reducible first|apply qa|apply qb|apply qc|apply qd)|(conv=>whnf)
   all_goals first|exact (wd_ok _).1.1|exact (wd_ok _).1.2|exact (wd_ok _).2.1|exact (wd_ok _).2.2|skip
   all_goals first|rw [(rm_lo hp1).1 ‹_›]|rw [(rm_lo hp1).2 ‹_›]|skip
   all_goals
    refine loop_ok tys_ok (l:= [(52,⟨[],FROf⟩),(53,⟨[],FRNeg⟩),(54,⟨[],FRAdd⟩)]) ⟨fcROf,fcRNeg,fcRAdd,trivial⟩ (by kernel_rfl) (X:=Int×Int×Nat) (fun x=>⟨[(8,vx (.int .u64 x.2.2)),(1,vx (.int .i64 i1)),(4,.va (.c (.own 0 0))),(5,.va (.c (.own 1 0))),(6,.va (.c (.own 2 0)))],[(0,.cells [.d (it 0),.d (ut 0)]),(1,.cells [.d (it (wd x.1).hi),.d (ut (wd x.1).lo)]),(2,.cells [.d (it (wd x.2.1).hi),.d (ut (wd x.2.1).lo)])],3,38⟩) (fun x=>x.2.2)
     (fun x=>x.1+x.2.1*x.2.2=i0*sizeI i1/\ x.2.2<18446744073709551616) [8] [1,2] (fun x _ _=>(x.1+(if x.2.2%2=1 then x.2.1 else 0),x.2.1+x.2.1,x.2.2/2)) [0,1,2] [0,1,2] 0 0 (0,i0,(sizeI i1).toNat) ?_ ?_ ?_
    . refine ⟨?_, ?_⟩
      . show 0+i0*((sizeI i1).toNat:Int)=i0*sizeI i1
        rw [Int.zero_add,Int.toNat_of_nonneg (sizeI_r hp1).1]
      . show (sizeI i1).toNat<18446744073709551616
        have:=(sizeI_r hp1).2;omega
    . repeat' (first|exact trivial|exact rfl|(intro _ h;exact absurd h (Nat.not_lt_zero _))|(intro _ _;exact rfl)|refine ⟨?_, ?_⟩|fail)
    . rintro ⟨A,B,n⟩ ⟨k1,k2⟩
      change A+B*(n:Int)=i0*sizeI i1 at k1
      change n<18446744073709551616 at k2
      have k3:=rm_next k1
      repeat' (first|exact trivial|(with_reducible first|exact hp0|exact hp1|exact hp0.1|exact hp0.2|exact hp1.1|exact hp1.2|exact wd_ok _|exact (wd_ok _).1.1|exact (wd_ok _).1.2|exact (wd_ok _).2.1|exact (wd_ok _).2.2)|refine ⟨?_, ?_⟩|intro _)
      all_goals first|(with_reducible first|apply qa|apply qb|apply qc|apply qd)|(conv=>whnf)
      all_goals first|exact k3|(exfalso;exact absurd ‹(2:Int)=0› (by decide))|((with_reducible show idsOk _ _=true);rfl)|exact wd_ok _|exact (wd_ok _).1.1|exact (wd_ok _).1.2|exact (wd_ok _).2.1|exact (wd_ok _).2.2|skip
      all_goals first|rfl|skip
      all_goals first|(show n/2<18446744073709551616;omega)|(have:=of_decide_eq_true ‹decide (_>_)=true›;show n/2<n;have h9:(n:Int)>0:=this;omega)|(show Value.int .u64 (IntKind.u64.wrap ((n:Int).tdiv 2))=Value.int .u64 ((n/2:Nat):Int);exact congrArg (Value.int .u64) (quoN (a:=2) (by decide) k2))|(refine congrArg (fun w:Wd=>Value.int .i64 w.hi) (a₁:=wd ((wd B).val+(wd B).val)) (a₂:=wd (B+B)) (wd_add B B))|(refine congrArg (fun w:Wd=>Value.int .u64 w.lo) (a₁:=wd ((wd B).val+(wd B).val)) (a₂:=wd (B+B)) (wd_add B B))|(have hq:n%2=1:=(by have:=eq_of_beq ‹(_==(1:Int))=true›;have h8:(n:Int).tmod 2=1:=this;rw [Int.tmod_eq_emod_of_nonneg (Int.natCast_nonneg n)] at h8;omega);first|(refine congrArg (fun w:Wd=>Value.int .i64 w.hi) (a₁:=wd ((wd A).val+(wd B).val)) (a₂:=wd (A+if n%2=1 then B else 0)) ?_;rw [wd_add,if_pos hq])|(refine congrArg (fun w:Wd=>Value.int .u64 w.lo) (a₁:=wd ((wd A).val+(wd B).val)) (a₂:=wd (A+if n%2=1 then B else 0)) ?_;rw [wd_add,if_pos hq]))|(have hq: ¬n%2=1:=(by have:=ne_of_beq_false ‹(_==(1:Int))=false›;have h8: ¬(n:Int).tmod 2=1:=this;rw [Int.tmod_eq_emod_of_nonneg (Int.natCast_nonneg n)] at h8;omega);first|(refine congrArg (fun w:Wd=>Value.int .i64 w.hi) (a₁:=wd A) (a₂:=wd (A+if n%2=1 then B else 0)) ?_;rw [if_neg hq,Int.add_zero])|(refine congrArg (fun w:Wd=>Value.int .u64 w.lo) (a₁:=wd A) (a₂:=wd (A+if n%2=1 then B else 0)) ?_;rw [if_neg hq,Int.add_zero]))|(refine congrArg (fun w:Wd=>Value.int .i64 w.hi) (a₁:=wd (-(wd A).val)) (a₂:=wd (i0*i1)) (rm_neg k1 ‹_› ‹_›))|(refine congrArg (fun w:Wd=>Value.int .u64 w.lo) (a₁:=wd (-(wd A).val)) (a₂:=wd (i0*i1)) (rm_neg k1 ‹_› ‹_›))|(refine congrArg (fun w:Wd=>Value.int .i64 w.hi) (a₁:=wd A) (a₂:=wd (i0*i1)) (rm_pos k1 ‹_› ‹_›))|(refine congrArg (fun w:Wd=>Value.int .u64 w.lo) (a₁:=wd A) (a₂:=wd (i0*i1)) (rm_pos k1 ‹_› ‹_›))
 . cases h
theorem ab_1 {n:Int} (r: -9223372036854775808<=n/\ n<9223372036854775808) (h:decide (n<0)=true):(wd (-(wd n).val)).lo=sizeI n:=by
 have h:=of_decide_eq_true h
 rw [wd_val (by omega) (by omega)];unfold wd sizeI;dsimp only;rw [if_pos h];omega
theorem ab_0 {n:Int} (r: -9223372036854775808<=n/\ n<9223372036854775808) (h:decide (n<0)=false):(wd n).lo=sizeI n:=by
 have h:=of_decide_eq_false h
 unfold wd sizeI;dsimp only;rw [if_neg h];omega
theorem qt_eq (a b:Int):((!(decide (a<0)==decide (b<0)))=true->a.tdiv b= -((sizeI a).tdiv (sizeI b)))/\ ((!(decide (a<0)==decide (b<0)))=false->a.tdiv b=(sizeI a).tdiv (sizeI b)):=by
 unfold sizeI
 by_cases ha:a<0
 . by_cases hb:b<0
   . rw [decide_eq_true ha,decide_eq_true hb,if_pos ha,if_pos hb]
     refine ⟨fun h=>absurd h (by decide),fun _=> ?_⟩
     rw [Int.tdiv_neg,Int.neg_tdiv,Int.neg_neg]
   . rw [decide_eq_true ha,decide_eq_false hb,if_pos ha,if_neg hb]
     refine ⟨fun _=> ?_,fun h=>absurd h (by decide)⟩
     rw [Int.neg_tdiv,Int.neg_neg]
 . by_cases hb:b<0
   . rw [decide_eq_false ha,decide_eq_true hb,if_neg ha,if_pos hb]
     refine ⟨fun _=> ?_,fun h=>absurd h (by decide)⟩
     rw [Int.tdiv_neg,Int.neg_neg]
   . rw [decide_eq_false ha,decide_eq_false hb,if_neg ha,if_neg hb]
     exact ⟨fun h=>absurd h (by decide),fun _=>rfl⟩
theorem sq_r {a b:Int} (ra: -9223372036854775808<=a/\ a<9223372036854775808) (rb: -9223372036854775808<=b/\ b<9223372036854775808):0<=(sizeI a).tdiv (sizeI b)/\ (sizeI a).tdiv (sizeI b)<=9223372036854775808:=by
 have h1:=sc_r ra
 have h2:=sc_r rb
 rw [Int.tdiv_eq_ediv_of_nonneg h1.1]
 have:=Int.ediv_nonneg h1.1 h2.1
 have:=Int.ediv_le_self (sizeI b) h1.1
 omega
section
variable {a b:Int} (ra: -9223372036854775808≤a∧a<9223372036854775808) (rb: -9223372036854775808≤b∧b<9223372036854775808)
include ra rb
theorem qv:Wd.val ⟨0,IntKind.wrap .u64 ((sizeI a).tdiv (sizeI b))⟩=(sizeI a).tdiv (sizeI b):=by
 have:=sq_r ra rb
 rw [wU_id _ this.1 (by omega)];unfold Wd.val;dsimp only;omega
theorem qt_p (h:(!(decide (a<0)==decide (b<0)))=false):(Wd.val ⟨0,IntKind.wrap .u64 ((sizeI a).tdiv (sizeI b))⟩+9223372036854775808)%18446744073709551616-9223372036854775808=wr (a.tdiv b):=by
 rw [qv ra rb,(qt_eq a b).2 h];rfl
theorem qt_n (h:(!(decide (a<0)==decide (b<0)))=true):(Wd.val (wd (-(Wd.val ⟨0,IntKind.wrap .u64 ((sizeI a).tdiv (sizeI b))⟩)))+9223372036854775808)%18446744073709551616-9223372036854775808=wr (a.tdiv b):=by
 rw [wr_wd,qv ra rb,(qt_eq a b).1 h]
theorem r2_8 (hb:(b==0)=false):wr (a.tdiv b)=doI 8 a b:=(doI_div (ne_of_beq_false hb)).symm
theorem r2_9 (hb:(b==0)=false):(Wd.val (wd (Wd.val (wd a)-Wd.val (wd (wr (a.tdiv b)*b))))+9223372036854775808)%18446744073709551616-9223372036854775808=doI 9 a b:=by
 have hb:=ne_of_beq_false hb
 rw [wr_wd,doI_rem hb]
 have key: ∀v:Int,wr (Wd.val (wd a)-Wd.val (wd v))=wr (a-v):=fun v=>by
  rw [wd_val (v:=a) (by omega) (by omega)];unfold wr wd Wd.val;dsimp only;omega
 rw [key]
 have e:a.tmod b=a-a.tdiv b*b:=by
  have:=Int.tmod_add_mul_tdiv a b
  rw [Int.mul_comm];omega
 have tr:=doI_rng (op:=9) (b:=b) ra
 rw [doI_rem hb] at tr
 by_cases hx:a= -9223372036854775808/\ b= -1
 . obtain ⟨rfl,rfl⟩:=hx;decide
 . have q:=quo_rng ra rb hb hx
   rw [wr_id q, <-e,wr_id tr]
theorem rsub:Wd.val (wd (Wd.val (wd a)-Wd.val (wd b)))=a-b:=far_val ra rb
theorem r2_12:(if decide (wCmp (Wd.val (wd (Wd.val (wd a)-Wd.val (wd b)))) (Wd.val ⟨0,0⟩)<0)=true then (1:Int) else 0)=doI 12 a b:=by
 rw [rsub ra rb,show Wd.val ⟨0,0⟩=0 from rfl]
 show _=if decide (a<b)=true then (1:Int) else 0
 congr 2;unfold wCmp;(repeat' split)<;>simp<;>omega
theorem r2_13:(if decide (wCmp (Wd.val (wd (Wd.val (wd a)-Wd.val (wd b)))) (Wd.val ⟨0,0⟩)<=0)=true then (1:Int) else 0)=doI 13 a b:=by
 rw [rsub ra rb,show Wd.val ⟨0,0⟩=0 from rfl]
 show _=if decide (a<=b)=true then (1:Int) else 0
 congr 2;unfold wCmp;(repeat' split)<;>simp<;>omega
theorem r2_14:(if (wCmp (Wd.val (wd (Wd.val (wd a)-Wd.val (wd b)))) (Wd.val ⟨0,0⟩)==0)=true then (1:Int) else 0)=doI 14 a b:=by
 rw [rsub ra rb,show Wd.val ⟨0,0⟩=0 from rfl]
 show _=if decide (a=b)=true then (1:Int) else 0
 congr 2;rw [<-beqd];unfold wCmp;(repeat' split)<;>simp<;>omega
theorem r2_15:(if (wCmp (Wd.val (wd (Wd.val (wd a)-Wd.val (wd b)))) (Wd.val ⟨0,0⟩) !=0)=true then (1:Int) else 0)=doI 15 a b:=by
 rw [rsub ra rb,show Wd.val ⟨0,0⟩=0 from rfl]
 show _=if decide (a≠b)=true then (1:Int) else 0
 congr 2;unfold bne;rw [<-beqd];unfold wCmp;(repeat' split)<;>simp<;>omega
end
section
variable {a b:Int}
theorem r2_16 (x:Bool) (h:(a !=0)=x):(if (if x=true then b !=0 else false)=true then (1:Int) else 0)=doI 16 a b:=by
 show _=if (decide (a≠0)&&decide (b≠0))=true then (1:Int) else 0
 cases x<;>simp at h<;>simp [h]
theorem r2_17 (x:Bool) (h:(a !=0)=x):(if (if x=true then true else b !=0)=true then (1:Int) else 0)=doI 17 a b:=by
 show _=if (decide (a≠0)||decide (b≠0))=true then (1:Int) else 0
 cases x<;>simp at h<;>simp [h]
end
def FR2Low:List Ar->Option Rs
 | [.agg [.d (.v (.int .i64 h0)),.d (.v (.int .u64 l0))]]=>some ⟨(Wd.ok ⟨h0,l0⟩),.va (.c (.d (it ((Wd.val (⟨h0,l0⟩:Wd)+9223372036854775808)%18446744073709551616-9223372036854775808)))),[]⟩
 |_=>none
theorem fcR2Low:FC Tryz.prog 66 FR2Low:=by
 intro xs pre r us h hp
 unfold FR2Low at h
 split at h
 . rename_i h0 l0
   cases h
   have hp0:=hp
   refine fcat tys_ok (l:= []) trivial Tryz.func66 rfl (by kernel_rfl) false ?_
   repeat' (first|exact trivial|refine ⟨?_, ?_⟩|intro _)
   all_goals first|(with_reducible first|apply qa|apply qb|apply qc|apply qd)|(conv=>whnf)
   all_goals (try (refine congrArg Value.bool (Bool.eq_iff_iff.2 ?_));try simp only [Bool.not_eq_true',Bool.not_eq_false',Bool.and_eq_true,Bool.or_eq_true,Bool.and_eq_false_imp,Bool.or_eq_false_iff,beq_iff_eq,beq_eq_false_iff_ne,ne_eq,decide_eq_true_eq,decide_eq_false_iff_not,Bool.true_eq_false,Bool.false_eq_true,true_and,and_true,false_and,and_false,imp_false,Value.int.injEq,true_iff,false_iff,iff_true,iff_false,iff_self])
   all_goals (try simp only [wU,wI,shr63,wd,Wd.val,Wd.ok,Bool.not_eq_true',Bool.not_eq_false',Bool.and_eq_true,Bool.or_eq_true,Bool.and_eq_false_imp,Bool.or_eq_false_iff,beq_iff_eq,beq_eq_false_iff_ne,ne_eq,decide_eq_true_eq,decide_eq_false_iff_not,Bool.true_eq_false,Bool.false_eq_true,true_and,and_true,false_and,and_false,imp_false,Value.int.injEq] at*)
   all_goals first|omega|(split<;>omega)|(split<;>split<;>omega)
 . cases h
def FR2Abs:List Ar->Option Rs
 | [.c (.d (.v (.int .i64 i0)))]=>some ⟨(-9223372036854775808<=i0/\ i0<9223372036854775808),.va (.c (.d (ut (sizeI i0)))),[]⟩
 |_=>none
theorem fcR2Abs:FC Tryz.prog 108 FR2Abs:=by
 intro xs pre r us h hp
 unfold FR2Abs at h
 split at h
 . rename_i i0
   cases h
   have hp0:=hp
   refine fcat tys_ok (l:= [(52,⟨[],FROf⟩),(53,⟨[],FRNeg⟩)]) ⟨fcROf,fcRNeg,trivial⟩ Tryz.func108 rfl (by kernel_rfl) false ?_
   cases hq:decide (i0<0)
   . have hqn:=congrArg Bool.not hq;simp only [Bool.not_true,Bool.not_false] at hqn
     repeat' (first|exact trivial|(with_reducible first|exact hp0|exact hp1|exact hp2|exact hp0.1|exact hp0.2|exact hp1.1|exact hp1.2|exact hp2.1|exact hp2.2|exact wd_ok _|exact (wd_ok _).1.1|exact (wd_ok _).1.2|exact (wd_ok _).2.1|exact (wd_ok _).2.2|exact hp0|exact (fun h:false=true=>absurd h (by decide))|exact (fun h:true=false=>absurd h (by decide))|exact (fun h:(!false)=false=>absurd h (by decide))|exact (fun h:(!true)=true=>absurd h (by decide))|exact (fun h=>absurd (hq.symm.trans h) (by decide))|exact (fun h=>absurd (hqn.symm.trans h) (by decide)))|refine ⟨?_, ?_⟩|intro _)
     all_goals first|(with_reducible first|apply qa|apply qb|apply qc|apply qd)|(conv=>whnf)
     all_goals first|(with_reducible rfl)|decide|exact congrArg (Value.int .u64) (ab_0 hp0 hq)|exact (wd_ok _).1.1|exact (wd_ok _).1.2|exact (wd_ok _).2.1|exact (wd_ok _).2.2|rfl
   . have hqn:=congrArg Bool.not hq;simp only [Bool.not_true,Bool.not_false] at hqn
     repeat' (first|exact trivial|(with_reducible first|exact hp0|exact hp1|exact hp2|exact hp0.1|exact hp0.2|exact hp1.1|exact hp1.2|exact hp2.1|exact hp2.2|exact wd_ok _|exact (wd_ok _).1.1|exact (wd_ok _).1.2|exact (wd_ok _).2.1|exact (wd_ok _).2.2|exact hp0|exact (fun h:false=true=>absurd h (by decide))|exact (fun h:true=false=>absurd h (by decide))|exact (fun h:(!false)=false=>absurd h (by decide))|exact (fun h:(!true)=true=>absurd h (by decide))|exact (fun h=>absurd (hq.symm.trans h) (by decide))|exact (fun h=>absurd (hqn.symm.trans h) (by decide)))|refine ⟨?_, ?_⟩|intro _)
     all_goals first|(with_reducible first|apply qa|apply qb|apply qc|apply qd)|(conv=>whnf)
     all_goals first|(with_reducible rfl)|decide|exact congrArg (Value.int .u64) (ab_1 hp0 hq)|exact (wd_ok _).1.1|exact (wd_ok _).1.2|exact (wd_ok _).2.1|exact (wd_ok _).2.2|rfl
 . cases h
def FR2Exact:List Ar->Option Rs
 | [.c (.d (.v (.int .i64 i0))),.c (.d (.v (.int .i64 i1))),.c (.d (.v (.int .i64 i2)))]=>some ⟨(-9223372036854775808<=i0/\ i0<9223372036854775808)/\ (-9223372036854775808<=i1/\ i1<9223372036854775808)/\ (-9223372036854775808<=i2/\ i2<9223372036854775808),.tup [Wd.ar (wd (exI i0 i1 i2)),.c (.d (bo (exB i0)))],[]⟩
 |_=>none
theorem fcR2Exact:FC Tryz.prog 65 FR2Exact:=by
 intro xs pre r us h hp
 unfold FR2Exact at h
 split at h
 . rename_i i0 i1 i2
   cases h
   obtain ⟨hp0,hp1,hp2⟩:=hp
   refine fcat tys_ok (l:= [(52,⟨[],FROf⟩),(54,⟨[],FRAdd⟩),(67,⟨[],FRSub⟩),(16,⟨[],FRMul⟩)]) ⟨fcROf,fcRAdd,fcRSub,fcRMul,trivial⟩ Tryz.func65 rfl (by kernel_rfl) false ?_
   repeat' (first|exact trivial|(with_reducible first|exact hp0|exact hp1|exact hp2|exact hp0.1|exact hp0.2|exact hp1.1|exact hp1.2|exact hp2.1|exact hp2.2|exact wd_ok _|exact (wd_ok _).1.1|exact (wd_ok _).1.2|exact (wd_ok _).2.1|exact (wd_ok _).2.2)|refine ⟨?_, ?_⟩|intro _)
   all_goals first|(with_reducible first|apply qa|apply qb|apply qc|apply qd)|(conv=>whnf)
   all_goals first|exact (wd_ok _).1.1|exact (wd_ok _).1.2|exact (wd_ok _).2.1|exact (wd_ok _).2.2|(rw [(ex_10 ‹_›).1];first|exact (congrArg (fun w:Wd=>Value.int .i64 w.hi) (wd_addI i1 i2))|exact (congrArg (fun w:Wd=>Value.int .u64 w.lo) (wd_addI i1 i2))|done)|(rw [(ex_10 (a:=0) (b:=0) ‹_›).2];done)|(rw [(ex_11 ‹_›).1];first|exact (congrArg (fun w:Wd=>Value.int .i64 w.hi) (wd_sub i1 i2))|exact (congrArg (fun w:Wd=>Value.int .u64 w.lo) (wd_sub i1 i2))|done)|(rw [(ex_11 (a:=0) (b:=0) ‹_›).2];done)|(rw [(ex_7 ‹_›).1];done)|(rw [(ex_7 (a:=0) (b:=0) ‹_›).2];done)|(rw [(ex_no ‹_› ‹_› ‹_›).1];first|rfl|done)|(rw [(ex_no (a:=0) (b:=0) ‹_› ‹_› ‹_›).2];done)
 . cases h
def FR2One:List Ar->Option Rs
 | [.c (.d (.v (.bool b0)))]=>some ⟨True,.va (.c (.d (it (if b0=true then 1 else 0)))),[]⟩
 |_=>none
theorem fcR2One:FC Tryz.prog 69 FR2One:=by
 intro xs pre r us h hp
 unfold FR2One at h
 split at h
 . rename_i b0
   cases h
   refine fcat tys_ok (l:= []) trivial Tryz.func69 rfl (by kernel_rfl) false ?_
   repeat' (first|exact trivial|refine ⟨?_, ?_⟩|intro _)
   all_goals first|(with_reducible first|apply qa|apply qb|apply qc|apply qd)|(conv=>whnf)
   all_goals first|rfl|(simp_all;done)
 . cases h
def FR2Quot:List Ar->Option Rs
 | [.c (.d (.v (.int .i64 i0))),.c (.d (.v (.int .i64 i1)))]=>some ⟨(-9223372036854775808<=i0/\ i0<9223372036854775808)/\ (-9223372036854775808<=i1/\ i1<9223372036854775808)/\ (i1≠0),.va (.c (.d (it (wr (i0.tdiv i1))))),[]⟩
 |_=>none
theorem fcR2Quot:FC Tryz.prog 68 FR2Quot:=by
 intro xs pre r us h hp
 unfold FR2Quot at h
 split at h
 . rename_i i0 i1
   cases h
   obtain ⟨hp0,hp1,hp2⟩:=hp
   refine fcat tys_ok (l:= [(108,⟨[],FR2Abs⟩),(53,⟨[],FRNeg⟩),(66,⟨[],FR2Low⟩)]) ⟨fcR2Abs,fcRNeg,fcR2Low,trivial⟩ Tryz.func68 rfl (by kernel_rfl) false ?_
   have qr:=sq_r hp0 hp1
   have qo:Wd.ok ⟨0,IntKind.wrap .u64 ((sizeI i0).tdiv (sizeI i1))⟩:=by unfold Wd.ok;dsimp only;rw [wU_id _ qr.1 (by omega)];omega
   have qu:=qo
   unfold Wd.ok at qu
   cases hn:(!(decide (i0<0)==decide (i1<0)))
   . have hnn:=congrArg Bool.not hn;simp only [Bool.not_true,Bool.not_false] at hnn
     repeat' (first|exact trivial|(with_reducible first|exact hp0|exact hp1|exact hp2|exact hp0.1|exact hp0.2|exact hp1.1|exact hp1.2|exact hp2.1|exact hp2.2|exact wd_ok _|exact (wd_ok _).1.1|exact (wd_ok _).1.2|exact (wd_ok _).2.1|exact (wd_ok _).2.2|exact (fun h:false=true=>absurd h (by decide))|exact (fun h:true=false=>absurd h (by decide))|exact hp0|exact hp1|exact qo|exact qu|exact qu.1|exact qu.2|exact qu.1.1|exact qu.1.2|exact qu.2.1|exact qu.2.2|exact (fun h:false=true=>absurd h (by decide))|exact (fun h:true=false=>absurd h (by decide))|exact (fun h:(!false)=false=>absurd h (by decide))|exact (fun h:(!true)=true=>absurd h (by decide))|exact (fun h=>absurd (hn.symm.trans h) (by decide))|exact (fun h=>absurd (hnn.symm.trans h) (by decide)))|refine ⟨?_, ?_⟩|intro _)
     all_goals first|(with_reducible first|apply qa|apply qb|apply qc|apply qd)|(conv=>whnf)
     all_goals first|(with_reducible rfl)|decide|((with_reducible show False);exact size0 hp2 (by with_reducible assumption))|exact congrArg (Value.int .i64) (qt_p hp0 hp1 hn)|exact (wd_ok _).1.1|exact (wd_ok _).1.2|exact (wd_ok _).2.1|exact (wd_ok _).2.2|rfl
   . have hnn:=congrArg Bool.not hn;simp only [Bool.not_true,Bool.not_false] at hnn
     repeat' (first|exact trivial|(with_reducible first|exact hp0|exact hp1|exact hp2|exact hp0.1|exact hp0.2|exact hp1.1|exact hp1.2|exact hp2.1|exact hp2.2|exact wd_ok _|exact (wd_ok _).1.1|exact (wd_ok _).1.2|exact (wd_ok _).2.1|exact (wd_ok _).2.2|exact (fun h:false=true=>absurd h (by decide))|exact (fun h:true=false=>absurd h (by decide))|exact hp0|exact hp1|exact qo|exact qu|exact qu.1|exact qu.2|exact qu.1.1|exact qu.1.2|exact qu.2.1|exact qu.2.2|exact (fun h:false=true=>absurd h (by decide))|exact (fun h:true=false=>absurd h (by decide))|exact (fun h:(!false)=false=>absurd h (by decide))|exact (fun h:(!true)=true=>absurd h (by decide))|exact (fun h=>absurd (hn.symm.trans h) (by decide))|exact (fun h=>absurd (hnn.symm.trans h) (by decide)))|refine ⟨?_, ?_⟩|intro _)
     all_goals first|(with_reducible first|apply qa|apply qb|apply qc|apply qd)|(conv=>whnf)
     all_goals first|(with_reducible rfl)|decide|((with_reducible show False);exact size0 hp2 (by with_reducible assumption))|exact congrArg (Value.int .i64) (qt_n hp0 hp1 hn)|exact (wd_ok _).1.1|exact (wd_ok _).1.2|exact (wd_ok _).2.1|exact (wd_ok _).2.2|rfl
 . cases h
def FR2Do:List Ar->Option Rs
 | [.c (.d (.v (.int .i64 i0))),.c (.d (.v (.int .i64 i1))),.c (.d (.v (.int .i64 i2)))]=>some ⟨(-9223372036854775808<=i0/\ i0<9223372036854775808)/\ (-9223372036854775808<=i1/\ i1<9223372036854775808)/\ (-9223372036854775808<=i2/\ i2<9223372036854775808),.tup [.c (.d (it (doI i0 i1 i2))),.c (.d (it (doE i0 i2)))],[]⟩
 |_=>none
theorem fcR2Do:FC Tryz.prog 23 FR2Do:=by
 intro xs pre r us h hp
 unfold FR2Do at h
 split at h
 . rename_i i0 i1 i2
   cases h
   obtain ⟨hp0,hp1,hp2⟩:=hp
   refine fcat tys_ok (l:= [(65,⟨[],FR2Exact⟩),(66,⟨[],FR2Low⟩),(52,⟨[],FROf⟩),(67,⟨[],FRSub⟩),(51,⟨[],FRCmp⟩),(68,⟨[],FR2Quot⟩),(16,⟨[],FRMul⟩),(69,⟨[],FR2One⟩)]) ⟨fcR2Exact,fcR2Low,fcROf,fcRSub,fcRCmp,fcR2Quot,fcRMul,fcR2One,trivial⟩ Tryz.func23 rfl (by kernel_rfl) false ?_
   all_goals first|(by_cases e8:i0=8)|skip
   all_goals first|(have _:=(show¬_ from e8);by_cases e9:i0=9)|skip
   all_goals first|(have _:=(show¬_ from e9);by_cases e12:i0=12)|skip
   all_goals first|(have _:=(show¬_ from e12);by_cases e13:i0=13)|skip
   all_goals first|(have _:=(show¬_ from e13);by_cases e14:i0=14)|skip
   all_goals first|(have _:=(show¬_ from e14);by_cases e15:i0=15)|skip
   all_goals first|(have _:=(show¬_ from e15);by_cases e16:i0=16)|skip
   all_goals first|(have _:=(show¬_ from e16);by_cases e17:i0=17)|skip
   all_goals first|(have _:=(show _=_ from e8);cases hz:(i2==0))|skip
   all_goals first|(have _:=(show _=_ from e9);cases hz:(i2==0))|skip
   all_goals first|(have _:=(show _=_ from e16);cases hz2:(i1 !=0))|skip
   all_goals first|(have _:=(show _=_ from e17);cases hz2:(i1 !=0))|skip
   all_goals first|(have _:=(show¬_ from e17);cases hx:exB i0)|skip
   all_goals first|(have k8:=e8;have _:=(show _=_ from k8))|(have k9:=e9;have _:=(show _=_ from k9))|(have k12:=e12;have _:=(show _=_ from k12))|(have k13:=e13;have _:=(show _=_ from k13))|(have k14:=e14;have _:=(show _=_ from k14))|(have k15:=e15;have _:=(show _=_ from k15))|(have k16:=e16;have _:=(show _=_ from k16))|(have k17:=e17;have _:=(show _=_ from k17))|skip
   all_goals first|subst e8|subst e9|subst e12|subst e13|subst e14|subst e15|subst e16|subst e17|skip
   all_goals repeat' (first|exact trivial|(with_reducible first|exact hp0|exact hp1|exact hp2|exact hp0.1|exact hp0.2|exact hp1.1|exact hp1.2|exact hp2.1|exact hp2.2|exact wd_ok _|exact (wd_ok _).1.1|exact (wd_ok _).1.2|exact (wd_ok _).2.1|exact (wd_ok _).2.2|exact (fun h:(!false)=false=>absurd h (by decide))|exact (fun h:(!true)=true=>absurd h (by decide))|exact hp0|exact hp1|exact hp2|exact wr_r _|exact (wr_r _).1|exact (wr_r _).2|exact (fun h=>absurd ((beq_eq_false_iff_ne.2 e8).symm.trans h) (by decide))|exact (fun h=>absurd ((beq_eq_false_iff_ne.2 e9).symm.trans h) (by decide))|exact (fun h=>absurd ((beq_eq_false_iff_ne.2 e12).symm.trans h) (by decide))|exact (fun h=>absurd ((beq_eq_false_iff_ne.2 e13).symm.trans h) (by decide))|exact (fun h=>absurd ((beq_eq_false_iff_ne.2 e14).symm.trans h) (by decide))|exact (fun h=>absurd ((beq_eq_false_iff_ne.2 e15).symm.trans h) (by decide))|exact (fun h=>absurd ((beq_eq_false_iff_ne.2 e16).symm.trans h) (by decide))|exact (fun h=>absurd ((beq_eq_false_iff_ne.2 e17).symm.trans h) (by decide))|exact (fun h=>absurd (hz.symm.trans h) (by decide))|exact (fun h=>absurd (hz.symm.trans h) (by decide))|exact (fun h=>absurd (hz2.symm.trans h) (by decide))|exact (fun h=>absurd (hz2.symm.trans h) (by decide))|exact (fun h=>absurd (hx.symm.trans h) (by decide))|exact (fun h=>absurd ((congrArg Bool.not hz).symm.trans h) (by decide))|exact (fun h=>absurd ((congrArg Bool.not hz).symm.trans h) (by decide))|exact (fun h=>absurd ((congrArg Bool.not hz2).symm.trans h) (by decide))|exact (fun h=>absurd ((congrArg Bool.not hz2).symm.trans h) (by decide))|exact (fun h=>absurd ((congrArg Bool.not hx).symm.trans h) (by decide))|exact (fun h=>absurd h (by decide)))|refine ⟨?_, ?_⟩|intro _)
   all_goals first|(with_reducible first|apply qa|apply qb|apply qc|apply qd)|(conv=>whnf)
   all_goals first|(with_reducible rfl)|decide|(have _:=k8;have _:=(show _=true from hz);first|exact congrArg (Value.int .i64) ((pa_0 (op:=8) (a:=i1) (b:=i2) (by decide) hz).1.symm)|exact congrArg (Value.int .i64) ((pa_0 (op:=8) (a:=i1) (b:=i2) (by decide) hz).2.symm))|(have _:=k8;have _:=(show _=false from hz);first|exact congrArg (Value.int .i64) (r2_8 hp1 hp2 hz)|exact congrArg (Value.int .i64) ((pa_e (op:=8) (b:=i2) (by decide) hz).symm)|exact ne_of_beq_false hz|((with_reducible show False);exact ne_of_beq_false hz (by with_reducible assumption)))|(have _:=k9;have _:=(show _=true from hz);first|exact congrArg (Value.int .i64) ((pa_0 (op:=9) (a:=i1) (b:=i2) (by decide) hz).1.symm)|exact congrArg (Value.int .i64) ((pa_0 (op:=9) (a:=i1) (b:=i2) (by decide) hz).2.symm))|(have _:=k9;have _:=(show _=false from hz);first|exact congrArg (Value.int .i64) (r2_9 hp1 hp2 hz)|exact congrArg (Value.int .i64) ((pa_e (op:=9) (b:=i2) (by decide) hz).symm)|exact ne_of_beq_false hz|((with_reducible show False);exact ne_of_beq_false hz (by with_reducible assumption)))|(have _:=k12;exact congrArg (Value.int .i64) (r2_12 hp1 hp2))|(have _:=k13;exact congrArg (Value.int .i64) (r2_13 hp1 hp2))|(have _:=k14;exact congrArg (Value.int .i64) (r2_14 hp1 hp2))|(have _:=k15;exact congrArg (Value.int .i64) (r2_15 hp1 hp2))|(have _:=k16;first|exact congrArg (Value.int .i64) (r2_16 true hz2)|exact congrArg (Value.int .i64) (r2_16 false hz2))|(have _:=k17;first|exact congrArg (Value.int .i64) (r2_17 true hz2)|exact congrArg (Value.int .i64) (r2_17 false hz2))|(have _:=(show _=true from hx);first|(rw [(do_x hx).1];first|exact congrArg (Value.int .i64) (wr_wd _)|exact congrArg (Value.int .i64) (wr_lo _)|done)|(rw [(do_x (a:=0) (b:=i2) hx).2];done))|(have _:=(show _=false from hx);have q8:=beq_eq_false_iff_ne.2 e8;have q9:=beq_eq_false_iff_ne.2 e9;have hcm:decide (12<=i0/\ i0<=17)=false:=decide_eq_false (by omega);first|(rw [(do_n hx q8 q9 hcm).1];done)|(rw [(do_n (a:=0) (b:=i2) hx q8 q9 hcm).2];done))|exact (wr_r _).1|exact (wr_r _).2|exact (wd_ok _).1.1|exact (wd_ok _).1.2|exact (wd_ok _).2.1|exact (wd_ok _).2.2|rfl
 . cases h
theorem of_1 (n:Int):Sp.of n n=⟨true,n,n⟩:=by unfold Sp.of;rw [if_neg (by omega)]
theorem of_0 (n:Int):Cg.of 0 n=⟨true,0,n⟩:=by unfold Cg.of md;rw [if_neg (by omega),if_pos (by omega)]
theorem cl_1 (n:Int):Sp.clean ⟨true,n,n⟩=⟨true,n,n⟩:=by unfold Sp.clean Sp.none;simp
theorem cl_0 (n:Int):Cg.clean ⟨true,0,n⟩=⟨true,0,n⟩:=by unfold Cg.clean;rw [if_pos rfl];exact of_0 n
theorem nn_1 (n:Int):Sp.none ⟨true,n,n⟩=false:=by unfold Sp.none;simp
theorem numO_eq (n:Int):numO n=⟨⟨⟨true,n,n⟩,⟨true,0,n⟩⟩,⟨false,[]⟩⟩:=by unfold numO;rw [of_1,of_0]
theorem clean_num (n:Int):Ig.clean ⟨⟨true,n,n⟩,⟨true,0,n⟩⟩=⟨⟨true,n,n⟩,⟨true,0,n⟩⟩:=by
 unfold Ig.clean Ig.none;dsimp only;rw [nn_1,if_neg (by decide),cl_1,cl_0]
theorem numO_of (n:Int):(numO n).of=numO n:=by
 rw [numO_eq];show (⟨Ig.clean ⟨⟨true,n,n⟩,⟨true,0,n⟩⟩,⟨false,ofS []⟩⟩:Vl)=_;rw [clean_num,ofS_nil]
theorem sp_has_clean {s:Sp} {n:Int} (h:s.has n=true):s.none=false/\ s.clean=s/\ s.lo<=n/\ n<=s.hi:=by
 obtain ⟨h1,h2,h3⟩:=has_iff.1 h
 have hn:s.none=false:=by unfold Sp.none;rw [h1,decide_eq_false (by omega)];rfl
 exact ⟨hn,by unfold Sp.clean;rw [hn];rfl,h2,h3⟩
theorem both_num {s:Sp} {n:Int} (h:s.has n=true):bothV s (Cg.of 0 n)=numO n:=by
 obtain ⟨hn,hc,h2,h3⟩:=sp_has_clean h
 rw [of_0,bo_3 hn rfl]
 have e:Ig.clean ⟨s,⟨true,0,n⟩⟩=⟨s,⟨true,0,n⟩⟩:=by unfold Ig.clean Ig.none;dsimp only;rw [hn,if_neg (by decide),hc,cl_0]
 have r:Ig.red ⟨s,⟨true,0,n⟩⟩=⟨Sp.of n n,Cg.of 0 n⟩:=by
  unfold Ig.red Ig.none upB dnB upV dnV;dsimp only
  rw [hn,if_neg (by decide),if_pos rfl,if_pos rfl,if_pos rfl,if_pos rfl,decide_eq_true (show n≥s.lo from h2),decide_eq_true (show n<=s.hi from h3),if_neg (by simp),if_pos rfl]
 show (⟨Ig.red (Ig.clean ⟨s,⟨true,0,n⟩⟩),⟨false,ofS []⟩⟩:Vl)=_
 rw [e,r,ofS_nil];rfl
theorem rs_num (op x y:Int) (w:Bool):rsDo op (Cg.of 0 x) (Cg.of 0 y) w=if doE op y≠0 then Cg.none else Cg.of 0 (doI op x y):=by
 unfold rsDo;rw [of_0,of_0,cl_0,cl_0]
 unfold rsDo0;rw [if_neg (by simp),if_pos ⟨rfl,rfl⟩]
theorem ints_num (n:Int):intsB (numO n)=true:=by rw [numO_eq];unfold intsB;dsimp only;rw [nn_1];rfl
theorem num_has (n:Int):(Sp.of n n).has n=true:=of_has.2 ⟨Int.le_refl _,Int.le_refl _⟩
theorem numV_num {op x y:Int} (ry: -9223372036854775808<=y/\ y<9223372036854775808):numV op (numO x) (numO y)=if doE op y≠0 then zeroV else numO (doI op x y):=by
 rw [nu_3 (ints_num x) (ints_num y)]
 show bothV (rkDo op (Sp.of x x) (Sp.of y y)) (rsDo op (Cg.of 0 x) (Cg.of 0 y) _)=_
 rw [rs_num]
 split
 . exact bo_2 rfl
 . rename_i he
   exact both_num (rk_sound (num_has x) (num_has y) ry (by omega))
theorem join_zz:Vl.join zeroV zeroV=zeroV:=by
 have e:zeroV.of=zeroV:=by show (⟨Ig.clean Ig.zero,⟨false,ofS []⟩⟩:Vl)=_;rw [ofS_nil];rfl
 unfold Vl.join;rw [e]
 show (⟨_,⟨false,ofS (ofS []++ofS [])⟩⟩:Vl)=_
 rw [ofS_nil,List.append_nil,ofS_nil];rfl
theorem join_nz (n:Int):Vl.join (numO n) zeroV=numO n:=by
 have e:zeroV.of=zeroV:=by show (⟨Ig.clean Ig.zero,⟨false,ofS []⟩⟩:Vl)=_;rw [ofS_nil];rfl
 unfold Vl.join;rw [numO_of,e,numO_eq]
 show (⟨⟨Sp.join ⟨true,n,n⟩ ⟨false,0,0⟩,Cg.join ⟨true,0,n⟩ ⟨false,0,0⟩⟩,⟨false,ofS (ofS []++ofS [])⟩⟩:Vl)=_
 rw [ofS_nil,List.append_nil,ofS_nil,rc_join,cl_1]
 have e2:Cg.join ⟨true,0,n⟩ ⟨false,0,0⟩=⟨true,0,n⟩:=by unfold Cg.join;rw [cl_0,if_neg (by simp),if_pos (by rfl)]
 rw [e2]
theorem calc_num {op x y:Int} (ry: -9223372036854775808<=y/\ y<9223372036854775808) (m:List ByteArray):calcDo op (numO x) (numO y) m=if doE op y≠0 then zeroV else numO (doI op x y):=by
 unfold calcDo
 rw [numO_of,numO_of,numV_num ry,pt_1 (by rfl)]
 split
 . exact join_zz
 . exact join_nz _
theorem Vl.eta' (v:Vl):(⟨⟨⟨v.i.s.some,v.i.s.lo,v.i.s.hi⟩,⟨v.i.c.some,v.i.c.m,v.i.c.r⟩⟩,⟨v.t.null,v.t.names⟩⟩:Vl)=v:=rfl
abbrev LV1:Vl:=Vl.reduce ⟨⟨⟨true,0,10⟩,⟨true,1,0⟩⟩,⟨false,[]⟩⟩
abbrev LV2:Vl:=Vl.reduce ⟨⟨⟨true,5,7⟩,⟨true,1,0⟩⟩,⟨false,[]⟩⟩
theorem lvA (t1 t2:Ns):((cmA 12 (Vl.of ⟨LV1.i,t1⟩) (Vl.of ⟨LV2.i,t2⟩)).i.s.some==true&&((cmA 12 (Vl.of ⟨LV1.i,t1⟩) (Vl.of ⟨LV2.i,t2⟩)).i.s.lo==0&&((cmA 12 (Vl.of ⟨LV1.i,t1⟩) (Vl.of ⟨LV2.i,t2⟩)).i.s.hi==6&&true)))=true:=by kernel_rfl
theorem lvB (t1 t2:Ns):((cmB 12 (Vl.of ⟨LV1.i,t1⟩) (Vl.of ⟨LV2.i,t2⟩)).i.s.some==true&&((cmB 12 (Vl.of ⟨LV1.i,t1⟩) (Vl.of ⟨LV2.i,t2⟩)).i.s.lo==5&&((cmB 12 (Vl.of ⟨LV1.i,t1⟩) (Vl.of ⟨LV2.i,t2⟩)).i.s.hi==7&&true)))=true:=by kernel_rfl
theorem lvS:Vl.same (calcDo 10 (numO 1) (numO 2) []) (numO 3)=true:=by
 rw [calc_num (by decide)]
 show Vl.same (numO 3) (numO 3)=true
 unfold Vl.same;rw [numO_of,show (numO 3).t.names= [] from rfl,ofS_nil];rfl
theorem fold_num (n:Int):(⟨⟨⟨(Sp.of n n).some,(Sp.of n n).lo,(Sp.of n n).hi⟩,⟨(Cg.of 0 n).some,(Cg.of 0 n).m,(Cg.of 0 n).r⟩⟩,⟨false,[]⟩⟩:Vl)=numO n:=rfl
theorem fold_num2 (n:Int):(⟨⟨Sp.of n n,Cg.of 0 n⟩,⟨false,[]⟩⟩:Vl)=numO n:=rfl
theorem gN_0 (f:Nat->List DV):gN 0 f= []:=rfl
theorem lvT:Vl.same (numO 3) (numO 3)=true:=by have:=lvS;rwa [calc_num (by decide)] at this
theorem lvC:calcDo 10 (numO 1) (numO 2) []=numO 3:=by rw [calc_num (by decide)];rfl
def FC9Lives:List Ar->Option Rs
 | []=>some ⟨True,.va (.c (.d (bo (true)))),[]⟩
 |_=>none
theorem fcC9Lives:FC Tryz.prog 25 FC9Lives:=by
 intro xs pre r us h hp
 unfold FC9Lives at h
 split at h
 . cases h
   refine fcat tys_ok (l:= [(59,⟨[],FVInt⟩),(27,⟨[],FN 1 FCRefineL⟩),(21,⟨[],FN 1 FCDo⟩),(22,⟨[],FVNum⟩),(28,⟨[],FVSame⟩)]) ⟨fcVInt,fc_nil 1 fcCRefineL,fc_nil 1 fcCDo,fcVNum,fcVSame,trivial⟩ Tryz.func25 rfl (by kernel_rfl) true ?_
   have n1:LV1.t.names.length*16<=140737488351232:=by rw [red_t];decide
   have n2:LV2.t.names.length*16<=140737488351232:=by rw [red_t];decide
   have i1:=reduce_inR (v:=⟨⟨⟨true,0,10⟩,⟨true,1,0⟩⟩,⟨false,[]⟩⟩) (by unfold Sp.inR;decide) (by unfold Cg.inR;decide)
   have i2:=reduce_inR (v:=⟨⟨⟨true,5,7⟩,⟨true,1,0⟩⟩,⟨false,[]⟩⟩) (by unfold Sp.inR;decide) (by unfold Cg.inR;decide)
   repeat' (first|exact trivial|(with_reducible first|exact i1|exact i2|exact i1.1|exact i1.2|exact i2.1|exact i2.2|exact (fun h=>absurd ((lvA _ _).symm.trans h) (by decide))|exact (fun h=>absurd ((lvB _ _).symm.trans h) (by decide)))|refine ⟨?_, ?_⟩|intro _)
   all_goals first|(with_reducible first|apply qa|apply qb|apply qc|apply qd)|(conv=>whnf)
   all_goals (try simp only [gN_lst,gN_0,fold_num,fold_num2,lvC,Vl.eta'] at*)
   all_goals first|decide|exact Nat.zero_le _|exact n1|exact n2|exact Or.inl rfl|exact congrArg Value.bool lvT|(intro _ h;exact absurd h (Nat.not_lt_zero _))|(exact absurd ‹_<0› (Nat.not_lt_zero _))|(intro _ _;exact rfl)|exact rfl
 . cases h
theorem ez:Vl.exact zeroV zeroV=true:=by unfold Vl.exact;rfl
end Go.Proofs.YtehpbhpmkhlldaaGreat
