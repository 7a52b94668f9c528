/- What congruences come to: comparisons, all of it. No condition. -/
import Derived.Test.YtehpbhpmkhlldaaGreatW17
set_option linter.all false
set_option maxHeartbeats 8000000
set_option maxRecDepth 100000
namespace Go.Proofs.YtehpbhpmkhlldaaGreat
open Go.Sx
section
variable {op:Int} {a b:Cg} {w:Bool}
theorem qpre (ta:a.tidy) (tb:b.tidy) (h: ¬(a.m=0/\ b.m=0)): ¬(a.r= -9223372036854775808/\ b.r= -1):=by
 rintro ⟨x,y⟩
 unfold Cg.tidy at ta tb
 rcases ta with e|⟨-,na,ta⟩
 . rw [e] at x;exact absurd x (by decide)
 . rcases tb with e|⟨-,nb,tb⟩
   . rw [e] at y;exact absurd y (by decide)
   . rcases Decidable.em (a.m=0) with z|z
     . have:=tb (by omega);omega
     . have:=ta (by omega);omega
def rsOne0 (op:Int) (a:Cg) (w:Bool):Cg:=if !a.some then a else if op=5 then rsDo 11 (Cg.of 0 0) a w else if op≠6 then Cg.none else if alC a 0 then Cg.of 0 1 else if !a.has 0 then Cg.of 0 0 else Cg.of 1 0
def rsOne (op:Int) (a:Cg) (w:Bool):Cg:=rsOne0 op a.clean w
theorem cc_15:cmpC 15 a b=if aptC a b then Cg.of 0 1 else Cg.of 1 0:=rfl
theorem cc_14:cmpC 14 a b=if aptC a b then Cg.of 0 0 else Cg.of 1 0:=rfl
theorem cc_16:cmpC 16 a b=if alC a 0||alC b 0 then Cg.of 0 0 else if !a.has 0&& !b.has 0 then Cg.of 0 1 else Cg.of 1 0:=rfl
theorem cc_17:cmpC 17 a b=if !a.has 0|| !b.has 0 then Cg.of 0 1 else Cg.of 1 0:=rfl
theorem cc_12:cmpC 12 a b=Cg.of 1 0:=rfl
theorem cc_13:cmpC 13 a b=Cg.of 1 0:=rfl
theorem cc_x (h:op≠15/\ op≠14/\ op≠16/\ op≠17/\ op≠12/\ op≠13):cmpC op a b=Cg.none:=by unfold cmpC;rw [if_neg h.1,if_neg h.2.1,if_neg h.2.2.1,if_neg h.2.2.2.1,if_neg (by omega)]
theorem rs_n1 (h:a.some=false):rsDo0 op a b w=Cg.none:=by unfold rsDo0;rw [if_pos (by rw [h];rfl)]
theorem rs_n2 (h:b.some=false):rsDo0 op a b w=Cg.none:=by unfold rsDo0;rw [if_pos (by rw [h];cases a.some<;>rfl)]
section
variable (h:a.some=true) (h2:b.some=true)
include h h2
theorem rs_s: ¬(!a.some|| !b.some)=true:=by rw [h,h2];decide
theorem rs_e (z:(a.m==0)=true) (z2:(b.m==0)=true) (e:(doE op b.r !=0)=true):rsDo0 op a b w=Cg.none:=by
 unfold rsDo0;rw [if_neg (rs_s h h2),if_pos ⟨eq_of_beq z,eq_of_beq z2⟩,if_pos (by simpa using e)]
theorem rs_d (z:(a.m==0)=true) (z2:(b.m==0)=true) (e:(doE op b.r !=0)=false):rsDo0 op a b w=Cg.of 0 (doI op a.r b.r):=by
 unfold rsDo0;rw [if_neg (rs_s h h2),if_pos ⟨eq_of_beq z,eq_of_beq z2⟩,if_neg (by simpa using e)]
variable (z: ¬(a.m=0∧b.m=0))
include z
theorem rs_i:rsDo0 op a b w=if op=10 \/op=11 then linC op (Int.gcd a.m b.m:Int) a b w else if op=7 then prodC a b w else if op=8 then quoC a b w else if op=9 then rstC a b else cmpC op a b:=by
 unfold rsDo0;rw [if_neg (rs_s h h2),if_neg z]
theorem rs_10:rsDo0 10 a b w=linC 10 (Int.gcd a.m b.m:Int) a b w:=by rw [rs_i h h2 z];rfl
theorem rs_11:rsDo0 11 a b w=linC 11 (Int.gcd a.m b.m:Int) a b w:=by rw [rs_i h h2 z];rfl
theorem rs_7:rsDo0 7 a b w=prodC a b w:=by rw [rs_i h h2 z];rfl
theorem rs_8:rsDo0 8 a b w=quoC a b w:=by rw [rs_i h h2 z];rfl
theorem rs_9:rsDo0 9 a b w=rstC a b:=by rw [rs_i h h2 z];rfl
theorem rs_c (e:op≠10/\ op≠11/\ op≠7/\ op≠8/\ op≠9):rsDo0 op a b w=cmpC op a b:=by rw [rs_i h h2 z,if_neg (by omega),if_neg e.2.2.1,if_neg e.2.2.2.1,if_neg e.2.2.2.2]
end
theorem nz1 (h:(a.m==0)=false): ¬(a.m=0/\ b.m=0):=fun x=>ne_of_beq_false h x.1
theorem nz2 (h:(b.m==0)=false): ¬(a.m=0/\ b.m=0):=fun x=>ne_of_beq_false h x.2
theorem nzo (h: ¬(a.m=0/\ b.m=0)):a.m≠0 \/b.m≠0:=by omega
end
def FRsCmp:List Ar->Option Rs
 | [.c (.d (.v (.int .i64 i0))),.agg [.d (.v (.bool b1)),.d (.v (.int .i64 m1)),.d (.v (.int .i64 r1))],.agg [.d (.v (.bool b2)),.d (.v (.int .i64 m2)),.d (.v (.int .i64 r2))]]=>some ⟨(-9223372036854775808<=i0/\ i0<9223372036854775808)/\ (Cg.inR ⟨b1,m1,r1⟩)/\ (Cg.inR ⟨b2,m2,r2⟩)/\ (0<=m1/\ 0<=m2),.va (Cg.ar (cmpC i0 (⟨b1,m1,r1⟩:Cg) (⟨b2,m2,r2⟩:Cg))),[]⟩
 |_=>none
theorem fcRsCmp:FC Tryz.prog 152 FRsCmp:=by
 intro xs pre r us h hp
 unfold FRsCmp at h
 split at h
 . rename_i i0 b1 m1 r1 b2 m2 r2
   cases h
   obtain ⟨hp0,hp1,hp2,hp3⟩:=hp
   refine fcat tys_ok (l:= [(176,⟨[],FRsApart⟩),(64,⟨[],FCOne⟩),(120,⟨[],FRsAlone⟩),(48,⟨[],FCHas⟩),(57,⟨[],FCAll⟩)]) ⟨fcRsApart,fcCOne,fcRsAlone,fcCHas,fcCAll,trivial⟩ Tryz.func152 rfl (by kernel_rfl) false ?_
   have q1:=hp1;unfold Cg.inR at q1;dsimp only at q1
   have q2:=hp2;unfold Cg.inR at q2;dsimp only at q2
   all_goals first|(by_cases e15:i0=15)|skip
   all_goals first|(have _:=(show¬_ from e15);by_cases e14:i0=14)|skip
   all_goals first|(have _:=(show¬_ from e14);by_cases e16:i0=16)|skip
   all_goals first|(have _:=(show¬_ from e16);by_cases e17:i0=17)|skip
   all_goals first|(have _:=(show¬_ from e17);by_cases e12:i0=12)|skip
   all_goals first|(have _:=(show¬_ from e12);by_cases e13:i0=13)|skip
   all_goals first|(have _:=(show _=_ from e15);cases ha:aptC (⟨b1,m1,r1⟩:Cg) (⟨b2,m2,r2⟩:Cg))|skip
   all_goals first|(have _:=(show _=_ from e14);cases hb:aptC (⟨b1,m1,r1⟩:Cg) (⟨b2,m2,r2⟩:Cg))|skip
   all_goals first|(have _:=(show _=_ from e16);cases h1:alC (⟨b1,m1,r1⟩:Cg) 0)|skip
   all_goals first|(have _:=(show _=false from h1);cases h2:alC (⟨b2,m2,r2⟩:Cg) 0)|skip
   all_goals first|(have _:=(show _=false from h2);cases h3:Cg.has (⟨b1,m1,r1⟩:Cg) 0)|skip
   all_goals first|(have _:=(show _=false from h3);cases h4:Cg.has (⟨b2,m2,r2⟩:Cg) 0)|skip
   all_goals first|(have _:=(show _=_ from e17);cases h5:Cg.has (⟨b1,m1,r1⟩:Cg) 0)|skip
   all_goals first|(have _:=(show _=true from h5);cases h6:Cg.has (⟨b2,m2,r2⟩:Cg) 0)|skip
   all_goals first|subst e15|subst e14|subst e16|subst e17|subst e12|subst e13|skip
   all_goals first|(have e:=cc_15 (a:=(⟨b1,m1,r1⟩:Cg)) (b:=(⟨b2,m2,r2⟩:Cg));simp only [ha,Bool.not_true,Bool.not_false,Bool.true_or,Bool.false_or,Bool.or_true,Bool.or_false,Bool.true_and,Bool.false_and,Bool.and_true,Bool.and_false,if_true,if_false,Bool.false_eq_true] at e)|(have e:=cc_14 (a:=(⟨b1,m1,r1⟩:Cg)) (b:=(⟨b2,m2,r2⟩:Cg));simp only [hb,Bool.not_true,Bool.not_false,Bool.true_or,Bool.false_or,Bool.or_true,Bool.or_false,Bool.true_and,Bool.false_and,Bool.and_true,Bool.and_false,if_true,if_false,Bool.false_eq_true] at e)|(have e:=cc_16 (a:=(⟨b1,m1,r1⟩:Cg)) (b:=(⟨b2,m2,r2⟩:Cg));simp only [h1,h2,h3,h4,Bool.not_true,Bool.not_false,Bool.true_or,Bool.false_or,Bool.or_true,Bool.or_false,Bool.true_and,Bool.false_and,Bool.and_true,Bool.and_false,if_true,if_false,Bool.false_eq_true] at e)|(have e:=cc_16 (a:=(⟨b1,m1,r1⟩:Cg)) (b:=(⟨b2,m2,r2⟩:Cg));simp only [h1,h2,h3,Bool.not_true,Bool.not_false,Bool.true_or,Bool.false_or,Bool.or_true,Bool.or_false,Bool.true_and,Bool.false_and,Bool.and_true,Bool.and_false,if_true,if_false,Bool.false_eq_true] at e)|(have e:=cc_16 (a:=(⟨b1,m1,r1⟩:Cg)) (b:=(⟨b2,m2,r2⟩:Cg));simp only [h1,h2,Bool.not_true,Bool.not_false,Bool.true_or,Bool.false_or,Bool.or_true,Bool.or_false,Bool.true_and,Bool.false_and,Bool.and_true,Bool.and_false,if_true,if_false,Bool.false_eq_true] at e)|(have e:=cc_16 (a:=(⟨b1,m1,r1⟩:Cg)) (b:=(⟨b2,m2,r2⟩:Cg));simp only [h1,Bool.not_true,Bool.not_false,Bool.true_or,Bool.false_or,Bool.or_true,Bool.or_false,Bool.true_and,Bool.false_and,Bool.and_true,Bool.and_false,if_true,if_false,Bool.false_eq_true] at e)|(have e:=cc_17 (a:=(⟨b1,m1,r1⟩:Cg)) (b:=(⟨b2,m2,r2⟩:Cg));simp only [h5,h6,Bool.not_true,Bool.not_false,Bool.true_or,Bool.false_or,Bool.or_true,Bool.or_false,Bool.true_and,Bool.false_and,Bool.and_true,Bool.and_false,if_true,if_false,Bool.false_eq_true] at e)|(have e:=cc_17 (a:=(⟨b1,m1,r1⟩:Cg)) (b:=(⟨b2,m2,r2⟩:Cg));simp only [h5,Bool.not_true,Bool.not_false,Bool.true_or,Bool.false_or,Bool.or_true,Bool.or_false,Bool.true_and,Bool.false_and,Bool.and_true,Bool.and_false,if_true,if_false,Bool.false_eq_true] at e)|skip
   all_goals repeat' (first|exact trivial|(with_reducible first|exact hp0|exact hp1|exact hp2|exact hp0.1|exact hp0.2|exact hp1.1|exact hp1.2|exact hp2.1|exact hp2.2|exact wd_ok _|exact (wd_ok _).1.1|exact (wd_ok _).1.2|exact (wd_ok _).2.1|exact (wd_ok _).2.2|exact hp0|exact hp1|exact hp2|exact hp3|exact hp3.1|exact hp3.2|exact q1.1|exact q1.2|exact q1.1.1|exact q1.1.2|exact q1.2.1|exact q1.2.2|exact q2.1|exact q2.2|exact q2.1.1|exact q2.1.2|exact q2.2.1|exact q2.2.2|exact (fun h=>absurd ((beq_eq_false_iff_ne.2 e12).symm.trans h) (by decide))|exact (fun h=>absurd ((beq_eq_false_iff_ne.2 e13).symm.trans h) (by decide))|exact (fun h=>absurd ((beq_eq_false_iff_ne.2 e14).symm.trans h) (by decide))|exact (fun h=>absurd ((beq_eq_false_iff_ne.2 e15).symm.trans h) (by decide))|exact (fun h=>absurd ((beq_eq_false_iff_ne.2 e16).symm.trans h) (by decide))|exact (fun h=>absurd ((beq_eq_false_iff_ne.2 e17).symm.trans h) (by decide))|exact (fun h=>absurd (ha.symm.trans h) (by decide))|exact (fun h=>absurd (hb.symm.trans h) (by decide))|exact (fun h=>absurd (h1.symm.trans h) (by decide))|exact (fun h=>absurd (h2.symm.trans h) (by decide))|exact (fun h=>absurd (h3.symm.trans h) (by decide))|exact (fun h=>absurd (h4.symm.trans h) (by decide))|exact (fun h=>absurd (h5.symm.trans h) (by decide))|exact (fun h=>absurd (h6.symm.trans h) (by decide))|exact (fun h=>absurd ((congrArg Bool.not ha).symm.trans h) (by decide))|exact (fun h=>absurd ((congrArg Bool.not hb).symm.trans h) (by decide))|exact (fun h=>absurd ((congrArg Bool.not h1).symm.trans h) (by decide))|exact (fun h=>absurd ((congrArg Bool.not h2).symm.trans h) (by decide))|exact (fun h=>absurd ((congrArg Bool.not h3).symm.trans h) (by decide))|exact (fun h=>absurd ((congrArg Bool.not h4).symm.trans h) (by decide))|exact (fun h=>absurd ((congrArg Bool.not h5).symm.trans h) (by decide))|exact (fun h=>absurd ((congrArg Bool.not h6).symm.trans h) (by decide))|exact (fun h=>absurd h (by decide)))|refine ⟨?_, ?_⟩|intro _)
   all_goals first|(with_reducible first|apply qa|apply qb|apply qc|apply qd)|(conv=>whnf)
   all_goals first|(with_reducible rfl)|decide|((with_reducible show Value.bool (Cg.some _)=_);exact congrArg (fun i:Cg=>Value.bool i.some) (e.symm))|((with_reducible show Value.int _ (Cg.m _)=_);exact congrArg (fun i:Cg=>Value.int .i64 i.m) (e.symm))|((with_reducible show Value.int _ (Cg.r _)=_);exact congrArg (fun i:Cg=>Value.int .i64 i.r) (e.symm))|((with_reducible show Value.bool (Cg.some _)=_);exact congrArg (fun i:Cg=>Value.bool i.some) (cc_12.symm))|((with_reducible show Value.int _ (Cg.m _)=_);exact congrArg (fun i:Cg=>Value.int .i64 i.m) (cc_12.symm))|((with_reducible show Value.int _ (Cg.r _)=_);exact congrArg (fun i:Cg=>Value.int .i64 i.r) (cc_12.symm))|((with_reducible show Value.bool (Cg.some _)=_);exact congrArg (fun i:Cg=>Value.bool i.some) (cc_13.symm))|((with_reducible show Value.int _ (Cg.m _)=_);exact congrArg (fun i:Cg=>Value.int .i64 i.m) (cc_13.symm))|((with_reducible show Value.int _ (Cg.r _)=_);exact congrArg (fun i:Cg=>Value.int .i64 i.r) (cc_13.symm))|((with_reducible show Value.bool false=_);exact congrArg (fun i:Cg=>Value.bool i.some) ((cc_x (a:=(⟨b1,m1,r1⟩:Cg)) (b:=(⟨b2,m2,r2⟩:Cg)) ⟨e15,e14,e16,e17,e12,e13⟩).symm))|((with_reducible show Value.int _ 0=_);first|exact congrArg (fun i:Cg=>Value.int .i64 i.m) ((cc_x (a:=(⟨b1,m1,r1⟩:Cg)) (b:=(⟨b2,m2,r2⟩:Cg)) ⟨e15,e14,e16,e17,e12,e13⟩).symm)|exact congrArg (fun i:Cg=>Value.int .i64 i.r) ((cc_x (a:=(⟨b1,m1,r1⟩:Cg)) (b:=(⟨b2,m2,r2⟩:Cg)) ⟨e15,e14,e16,e17,e12,e13⟩).symm))|omega
 . cases h
def FRsDo:List Ar->Option Rs
 | [.c (.d (.v (.int .i64 i0))),.agg [.d (.v (.bool b1)),.d (.v (.int .i64 m1)),.d (.v (.int .i64 r1))],.agg [.d (.v (.bool b2)),.d (.v (.int .i64 m2)),.d (.v (.int .i64 r2))],.c (.d (.v (.bool b3)))]=>some ⟨(-9223372036854775808<=i0/\ i0<9223372036854775808)/\ (Cg.inR ⟨b1,m1,r1⟩)/\ (Cg.inR ⟨b2,m2,r2⟩),.va (Cg.ar (rsDo i0 (⟨b1,m1,r1⟩:Cg) (⟨b2,m2,r2⟩:Cg) b3)),[]⟩
 |_=>none
theorem fcRsDo:FC Tryz.prog 106 FRsDo:=by
 intro xs pre r us h hp
 unfold FRsDo at h
 split at h
 . rename_i i0 b1 m1 r1 b2 m2 r2 b3
   cases h
   obtain ⟨hp0,hp1,hp2⟩:=hp
   refine fcat tys_ok (l:= [(86,⟨[],FCClean⟩),(87,⟨[],FCNone⟩),(146,⟨[],FXDo⟩),(64,⟨[],FCOne⟩),(147,⟨[],FRsLinear⟩),(148,⟨[],FRsGcd⟩),(149,⟨[],FRsProduct⟩),(150,⟨[],FRsQuo⟩),(151,⟨[],FRsRest⟩),(152,⟨[],FRsCmp⟩)]) ⟨fcCClean,fcCNone,fcXDo,fcCOne,fcRsLinear,fcRsGcd,fcRsProduct,fcRsQuo,fcRsRest,fcRsCmp,trivial⟩ Tryz.func106 rfl (by kernel_rfl) false ?_
   unfold rsDo
   have rA:=Cg.clean_inR hp1
   have rB:=Cg.clean_inR hp2
   have cA:=rA
   have cB:=rB
   unfold Cg.inR at rA rB
   have nA:=Cg.clean_nn (⟨b1,m1,r1⟩:Cg)
   have nB:=Cg.clean_nn (⟨b2,m2,r2⟩:Cg)
   have tA:=cg_clean_tidy (⟨b1,m1,r1⟩:Cg)
   have tB:=cg_clean_tidy (⟨b2,m2,r2⟩:Cg)
   have dR:=doI_rng (op:=i0) (b:=(Cg.clean (⟨b2,m2,r2⟩:Cg)).r) rA.2
   have hg:=gcd_r rA.1 rB.1 ⟨nA,nB⟩
   all_goals first|(cases sA:((Cg.clean (⟨b1,m1,r1⟩:Cg))).some)|skip
   all_goals first|(have _:=(show _=true from sA);cases sB:((Cg.clean (⟨b2,m2,r2⟩:Cg))).some)|skip
   all_goals first|(have _:=(show _=true from sB);cases zA:(((Cg.clean (⟨b1,m1,r1⟩:Cg))).m==0))|skip
   all_goals first|(have _:=(show _=true from sB);cases zB:(((Cg.clean (⟨b2,m2,r2⟩:Cg))).m==0))|skip
   all_goals first|(have _:=(show _=true from zA);have _:=(show _=true from zB);cases ze:(doE i0 ((Cg.clean (⟨b2,m2,r2⟩:Cg))).r !=0))|skip
   all_goals first|(have nz:=nz1 (a:=(Cg.clean (⟨b1,m1,r1⟩:Cg))) (b:=(Cg.clean (⟨b2,m2,r2⟩:Cg))) zA)|(have nz:=nz2 (a:=(Cg.clean (⟨b1,m1,r1⟩:Cg))) (b:=(Cg.clean (⟨b2,m2,r2⟩:Cg))) zB)|skip
   all_goals first|(have nq:=And.intro nA (qpre tA tB nz);have nr:=And.intro (And.intro nA nB) (nzo nz))|skip
   all_goals first|(have _:=nz;by_cases e10:i0=10)|skip
   all_goals first|(have _:=nz;have _:=(show¬_ from e10);by_cases e11:i0=11)|skip
   all_goals first|(have _:=nz;have _:=(show¬_ from e11);by_cases e7:i0=7)|skip
   all_goals first|(have _:=nz;have _:=(show¬_ from e7);by_cases e8:i0=8)|skip
   all_goals first|(have _:=nz;have _:=(show¬_ from e8);by_cases e9:i0=9)|skip
   all_goals first|subst e10|subst e11|subst e7|subst e8|subst e9|skip
   all_goals first|(have e:=rs_n1 (op:=i0) (a:=(Cg.clean (⟨b1,m1,r1⟩:Cg))) (b:=(Cg.clean (⟨b2,m2,r2⟩:Cg))) (w:=b3) sA)|(have e:=rs_n2 (op:=i0) (a:=(Cg.clean (⟨b1,m1,r1⟩:Cg))) (b:=(Cg.clean (⟨b2,m2,r2⟩:Cg))) (w:=b3) sB)|(have e:=rs_e (a:=(Cg.clean (⟨b1,m1,r1⟩:Cg))) (b:=(Cg.clean (⟨b2,m2,r2⟩:Cg))) (w:=b3) sA sB zA zB ze)|(have e:=rs_d (a:=(Cg.clean (⟨b1,m1,r1⟩:Cg))) (b:=(Cg.clean (⟨b2,m2,r2⟩:Cg))) (w:=b3) sA sB zA zB ze)|skip
   all_goals repeat' (first|exact trivial|(with_reducible first|exact hp0|exact hp1|exact hp2|exact rA|exact rB|exact nA|exact nB|exact rA.1|exact rA.2|exact rB.1|exact rB.2|exact And.intro nA nB|exact cA|exact cB|exact dR|exact hg|exact hg.1|exact hg.2|exact nq|exact nr|exact nr.1|exact nr.2|exact (fun h=>absurd ((beq_eq_false_iff_ne.2 e7).symm.trans h) (by decide))|exact (fun h=>absurd ((beq_eq_false_iff_ne.2 e8).symm.trans h) (by decide))|exact (fun h=>absurd ((beq_eq_false_iff_ne.2 e9).symm.trans h) (by decide))|exact (fun h=>absurd ((beq_eq_false_iff_ne.2 e10).symm.trans h) (by decide))|exact (fun h=>absurd ((beq_eq_false_iff_ne.2 e11).symm.trans h) (by decide))|exact (fun h=>absurd (sA.symm.trans h) (by decide))|exact (fun h=>absurd (sB.symm.trans h) (by decide))|exact (fun h=>absurd (zA.symm.trans h) (by decide))|exact (fun h=>absurd (zB.symm.trans h) (by decide))|exact (fun h=>absurd (ze.symm.trans h) (by decide))|exact (fun h=>absurd ((congrArg Bool.not sA).symm.trans h) (by decide))|exact (fun h=>absurd ((congrArg Bool.not sB).symm.trans h) (by decide))|exact (fun h=>absurd ((congrArg Bool.not zA).symm.trans h) (by decide))|exact (fun h=>absurd ((congrArg Bool.not zB).symm.trans h) (by decide))|exact (fun h=>absurd ((congrArg Bool.not ze).symm.trans h) (by decide))|exact (fun h=>absurd h (by decide)))|refine ⟨?_, ?_⟩|intro _)
   all_goals first|(with_reducible first|apply qa|apply qb|apply qc|apply qd)|(conv=>whnf)
   all_goals first|(with_reducible rfl)|decide|((with_reducible show Value.bool (Cg.some _)=_);exact congrArg (fun i:Cg=>Value.bool i.some) (e.symm))|((with_reducible show Value.int _ (Cg.m _)=_);exact congrArg (fun i:Cg=>Value.int .i64 i.m) (e.symm))|((with_reducible show Value.int _ (Cg.r _)=_);exact congrArg (fun i:Cg=>Value.int .i64 i.r) (e.symm))|((with_reducible show Value.bool false=_);exact congrArg (fun i:Cg=>Value.bool i.some) (e.symm))|((with_reducible show Value.int _ 0=_);first|exact congrArg (fun i:Cg=>Value.int .i64 i.m) (e.symm)|exact congrArg (fun i:Cg=>Value.int .i64 i.r) (e.symm))|((with_reducible show Value.bool (Cg.some _)=_);exact congrArg (fun i:Cg=>Value.bool i.some) ((rs_10 (a:=(Cg.clean (⟨b1,m1,r1⟩:Cg))) (b:=(Cg.clean (⟨b2,m2,r2⟩:Cg))) (w:=b3) sA sB nz).symm))|((with_reducible show Value.int _ (Cg.m _)=_);exact congrArg (fun i:Cg=>Value.int .i64 i.m) ((rs_10 (a:=(Cg.clean (⟨b1,m1,r1⟩:Cg))) (b:=(Cg.clean (⟨b2,m2,r2⟩:Cg))) (w:=b3) sA sB nz).symm))|((with_reducible show Value.int _ (Cg.r _)=_);exact congrArg (fun i:Cg=>Value.int .i64 i.r) ((rs_10 (a:=(Cg.clean (⟨b1,m1,r1⟩:Cg))) (b:=(Cg.clean (⟨b2,m2,r2⟩:Cg))) (w:=b3) sA sB nz).symm))|((with_reducible show Value.bool (Cg.some _)=_);exact congrArg (fun i:Cg=>Value.bool i.some) ((rs_11 (a:=(Cg.clean (⟨b1,m1,r1⟩:Cg))) (b:=(Cg.clean (⟨b2,m2,r2⟩:Cg))) (w:=b3) sA sB nz).symm))|((with_reducible show Value.int _ (Cg.m _)=_);exact congrArg (fun i:Cg=>Value.int .i64 i.m) ((rs_11 (a:=(Cg.clean (⟨b1,m1,r1⟩:Cg))) (b:=(Cg.clean (⟨b2,m2,r2⟩:Cg))) (w:=b3) sA sB nz).symm))|((with_reducible show Value.int _ (Cg.r _)=_);exact congrArg (fun i:Cg=>Value.int .i64 i.r) ((rs_11 (a:=(Cg.clean (⟨b1,m1,r1⟩:Cg))) (b:=(Cg.clean (⟨b2,m2,r2⟩:Cg))) (w:=b3) sA sB nz).symm))|((with_reducible show Value.bool (Cg.some _)=_);exact congrArg (fun i:Cg=>Value.bool i.some) ((rs_7 (a:=(Cg.clean (⟨b1,m1,r1⟩:Cg))) (b:=(Cg.clean (⟨b2,m2,r2⟩:Cg))) (w:=b3) sA sB nz).symm))|((with_reducible show Value.int _ (Cg.m _)=_);exact congrArg (fun i:Cg=>Value.int .i64 i.m) ((rs_7 (a:=(Cg.clean (⟨b1,m1,r1⟩:Cg))) (b:=(Cg.clean (⟨b2,m2,r2⟩:Cg))) (w:=b3) sA sB nz).symm))|((with_reducible show Value.int _ (Cg.r _)=_);exact congrArg (fun i:Cg=>Value.int .i64 i.r) ((rs_7 (a:=(Cg.clean (⟨b1,m1,r1⟩:Cg))) (b:=(Cg.clean (⟨b2,m2,r2⟩:Cg))) (w:=b3) sA sB nz).symm))|((with_reducible show Value.bool (Cg.some _)=_);exact congrArg (fun i:Cg=>Value.bool i.some) ((rs_8 (a:=(Cg.clean (⟨b1,m1,r1⟩:Cg))) (b:=(Cg.clean (⟨b2,m2,r2⟩:Cg))) (w:=b3) sA sB nz).symm))|((with_reducible show Value.int _ (Cg.m _)=_);exact congrArg (fun i:Cg=>Value.int .i64 i.m) ((rs_8 (a:=(Cg.clean (⟨b1,m1,r1⟩:Cg))) (b:=(Cg.clean (⟨b2,m2,r2⟩:Cg))) (w:=b3) sA sB nz).symm))|((with_reducible show Value.int _ (Cg.r _)=_);exact congrArg (fun i:Cg=>Value.int .i64 i.r) ((rs_8 (a:=(Cg.clean (⟨b1,m1,r1⟩:Cg))) (b:=(Cg.clean (⟨b2,m2,r2⟩:Cg))) (w:=b3) sA sB nz).symm))|((with_reducible show Value.bool (Cg.some _)=_);exact congrArg (fun i:Cg=>Value.bool i.some) ((rs_9 (a:=(Cg.clean (⟨b1,m1,r1⟩:Cg))) (b:=(Cg.clean (⟨b2,m2,r2⟩:Cg))) (w:=b3) sA sB nz).symm))|((with_reducible show Value.int _ (Cg.m _)=_);exact congrArg (fun i:Cg=>Value.int .i64 i.m) ((rs_9 (a:=(Cg.clean (⟨b1,m1,r1⟩:Cg))) (b:=(Cg.clean (⟨b2,m2,r2⟩:Cg))) (w:=b3) sA sB nz).symm))|((with_reducible show Value.int _ (Cg.r _)=_);exact congrArg (fun i:Cg=>Value.int .i64 i.r) ((rs_9 (a:=(Cg.clean (⟨b1,m1,r1⟩:Cg))) (b:=(Cg.clean (⟨b2,m2,r2⟩:Cg))) (w:=b3) sA sB nz).symm))|((with_reducible show Value.bool (Cg.some _)=_);exact congrArg (fun i:Cg=>Value.bool i.some) ((rs_c (a:=(Cg.clean (⟨b1,m1,r1⟩:Cg))) (b:=(Cg.clean (⟨b2,m2,r2⟩:Cg))) (w:=b3) sA sB nz ⟨e10,e11,e7,e8,e9⟩).symm))|((with_reducible show Value.int _ (Cg.m _)=_);exact congrArg (fun i:Cg=>Value.int .i64 i.m) ((rs_c (a:=(Cg.clean (⟨b1,m1,r1⟩:Cg))) (b:=(Cg.clean (⟨b2,m2,r2⟩:Cg))) (w:=b3) sA sB nz ⟨e10,e11,e7,e8,e9⟩).symm))|((with_reducible show Value.int _ (Cg.r _)=_);exact congrArg (fun i:Cg=>Value.int .i64 i.r) ((rs_c (a:=(Cg.clean (⟨b1,m1,r1⟩:Cg))) (b:=(Cg.clean (⟨b2,m2,r2⟩:Cg))) (w:=b3) sA sB nz ⟨e10,e11,e7,e8,e9⟩).symm))
 . cases h
end Go.Proofs.YtehpbhpmkhlldaaGreat
