/- What congruences come to: comparisons, all of it. No condition. -/
import Derived.Test.YtiblbnhknemloaaGreatG12
set_option linter.all false
set_option maxHeartbeats 8000000
set_option maxRecDepth 100000
namespace Go.Proofs.YtiblbnhknemloaaGreat
open Tryz
open Go.Sx
section
variable {op:Int} {a b:Cg} {w:Bool}
theorem aTE (ta:a.tidy) (tb:b.tidy) (h: ¬(a.m=0/\ b.m=0)): ¬(a.r= -9223372036854775808/\ b.r= -1):=by
 rintro ⟨x,y⟩
 unfold Cg.tidy at ta tb;rcases ta with e|⟨-,na,ta⟩
 . rw [e] at x;exact absurd x j5
 . rcases tb with e|⟨-,nb,tb⟩
   . rw [e] at y;exact absurd y j5
   . rcases Decidable.em (a.m=0) with z|z
     . have:=tb j3;omega
     . have:=ta j3;omega
def nD (op:Int) (a:Cg) (w:Bool):Cg:=if !a.some then a else if op=5 then aAq 11 (Cg.of 0 0) a w else if op≠6 then Cg.none else if dU a 0 then Cg.of 0 1 else if !a.has 0 then Cg.of 0 0 else Cg.of 1 0
def xD (op:Int) (a:Cg) (w:Bool):Cg:=nD op a.clean w
theorem bCP:oU 15 a b=if xR a b then Cg.of 0 1 else Cg.of 1 0:=rfl
theorem bCQ:oU 14 a b=if xR a b then Cg.of 0 0 else Cg.of 1 0:=rfl
theorem aGO:oU 16 a b=if dU a 0||dU b 0 then Cg.of 0 0 else if !a.has 0&& !b.has 0 then Cg.of 0 1 else Cg.of 1 0:=rfl
theorem aSU:oU 17 a b=if !a.has 0|| !b.has 0 then Cg.of 0 1 else Cg.of 1 0:=rfl
theorem aLD:oU 12 a b=Cg.of 1 0:=rfl
theorem aLE:oU 13 a b=Cg.of 1 0:=rfl
theorem aMI (h:op≠15/\ op≠14/\ op≠16/\ op≠17/\ op≠12/\ op≠13):oU op a b=Cg.none:=by unfold oU;rw [if_neg h.1,if_neg h.2.1,if_neg h.2.2.1,if_neg h.2.2.2.1,if_neg j3]
theorem bCR (h:a.some=false):jM op a b w=Cg.none:=by unfold jM;rw [if_pos j1z]
theorem bCS (h:b.some=false):jM op a b w=Cg.none:=by unfold jM;rw [if_pos (by rw [h];cases a.some<;>rfl)]
section
variable (h:a.some=true) (h2:b.some=true)
include h h2
theorem aMJ: ¬(!a.some|| !b.some)=true:=j2g
theorem bD9 (z:(a.m==0)=true) (z2:(b.m==0)=true) (e:(mP op b.r !=0)=true):jM op a b w=Cg.none:=by
 unfold jM;rw [if_neg (aMJ h h2),if_pos ⟨eq_of_beq z,eq_of_beq z2⟩,if_pos (by simpa using e)]
theorem bEa (z:(a.m==0)=true) (z2:(b.m==0)=true) (e:(mP op b.r !=0)=false):jM op a b w=Cg.of 0 (fX op a.r b.r):=by
 unfold jM;rw [if_neg (aMJ h h2),if_pos ⟨eq_of_beq z,eq_of_beq z2⟩,if_neg (by simpa using e)]
variable (z: ¬(a.m=0∧b.m=0))
include z
theorem aCi:jM op a b w=if op=10 \/op=11 then kW op (Int.gcd a.m b.m:Int) a b w else if op=7 then rL a b w else if op=8 then lK a b w else if op=9 then vG a b else oU op a b:=by
 unfold jM;rw [if_neg (aMJ h h2),if_neg z]
theorem aLF:jM 10 a b w=kW 10 (Int.gcd a.m b.m:Int) a b w:=j0p
theorem aLG:jM 11 a b w=kW 11 (Int.gcd a.m b.m:Int) a b w:=j0p
theorem aMK:jM 7 a b w=rL a b w:=j0p
theorem aML:jM 8 a b w=lK a b w:=j0p
theorem aMM:jM 9 a b w=vG a b:=j0p
theorem aMN (e:op≠10/\ op≠11/\ op≠7/\ op≠8/\ op≠9):jM op a b w=oU op a b:=by rw [aCi h h2 z,if_neg j3,if_neg e.2.2.1,if_neg e.2.2.2.1,if_neg e.2.2.2.2]
end
theorem nz1 (h:(a.m==0)=false): ¬(a.m=0/\ b.m=0):=fun x=>ne_of_beq_false h x.1
theorem nz2 (h:(b.m==0)=false): ¬(a.m=0/\ b.m=0):=fun x=>ne_of_beq_false h x.2
theorem nzo (h: ¬(a.m=0/\ b.m=0)):a.m≠0 \/b.m≠0:=j3
end
def aKM:List Ar->Option Rs
 | [.c (.d (.v (.int .i64 i0))),.agg [.d (.v (.bool b1)),.d (.v (.int .i64 m1)),.d (.v (.int .i64 r1))],.agg [.d (.v (.bool b2)),.d (.v (.int .i64 m2)),.d (.v (.int .i64 r2))]]=>some ⟨(-9223372036854775808<=i0/\ i0<9223372036854775808)/\ (Cg.inR ⟨b1,m1,r1⟩)/\ (Cg.inR ⟨b2,m2,r2⟩)/\ (0<=m1/\ 0<=m2),.va (Cg.ar (oU i0 (⟨b1,m1,r1⟩:Cg) (⟨b2,m2,r2⟩:Cg))),[]⟩
 |_=>none
theorem aZs:FC prog 252 aKM:=by
 intro xs pre r us h hp;unfold aKM at h;split at h
 . rename_i i0 b1 m1 r1 b2 m2 r2
   cases h;obtain ⟨a7,a8,af,di⟩:=hp
   refine aE aA (l:= [(297,⟨[],aI6⟩),(84,⟨[],uY⟩),(294,⟨[],yR⟩),(161,⟨[],aAd⟩),(135,⟨[],uZ⟩)]) ⟨aV7,zT,aCX,aDS,zU,trivial⟩ func252 rfl j4 false ?_
   have q1:=a8;unfold Cg.inR at q1;dsimp only at q1
   have q2:=af;unfold Cg.inR at q2;dsimp only at q2
   all_goals first|(by_cases dg:i0=15)
   all_goals first|(have _:=(show¬_ from dg);by_cases fx:i0=14)|skip
   all_goals first|(have _:=(show¬_ from fx);by_cases om:i0=16)|skip
   all_goals first|(have _:=(show¬_ from om);by_cases oo:i0=17)|skip
   all_goals first|(have _:=(show¬_ from oo);by_cases ec:i0=12)|skip
   all_goals first|(have _:=(show¬_ from ec);by_cases ei:i0=13)|skip
   all_goals first|(have _:=(show _=_ from dg);cases ha:xR (⟨b1,m1,r1⟩:Cg) (⟨b2,m2,r2⟩:Cg))|skip
   all_goals first|(have _:=(show _=_ from fx);cases hb:xR (⟨b1,m1,r1⟩:Cg) (⟨b2,m2,r2⟩:Cg))|skip
   all_goals first|(have _:=(show _=_ from om);cases h1:dU (⟨b1,m1,r1⟩:Cg) 0)|skip
   all_goals first|(have _:=(show _=false from h1);cases h2:dU (⟨b2,m2,r2⟩:Cg) 0)|skip
   all_goals first|(have _:=(show _=false from h2);cases h3:Cg.has (⟨b1,m1,r1⟩:Cg) 0)|skip
   all_goals first|(have _:=(show _=false from h3);cases h4:Cg.has (⟨b2,m2,r2⟩:Cg) 0)|skip
   all_goals first|(have _:=(show _=_ from oo);cases h5:Cg.has (⟨b1,m1,r1⟩:Cg) 0)|skip
   all_goals first|(have _:=(show _=true from h5);cases h6:Cg.has (⟨b2,m2,r2⟩:Cg) 0)|skip
   all_goals first|subst dg|subst fx|subst om|subst oo|subst ec|subst ei|skip
   all_goals first|(have e:=bCP (a:=(⟨b1,m1,r1⟩:Cg)) (b:=(⟨b2,m2,r2⟩:Cg));simp only [ha,Bool.not_true,Bool.not_false,Bool.true_or,Bool.false_or,Bool.or_true,Bool.or_false,Bool.true_and,Bool.false_and,Bool.and_true,Bool.and_false,if_true,if_false,Bool.false_eq_true] at e)|(have e:=bCQ (a:=(⟨b1,m1,r1⟩:Cg)) (b:=(⟨b2,m2,r2⟩:Cg));simp only [hb,Bool.not_true,Bool.not_false,Bool.true_or,Bool.false_or,Bool.or_true,Bool.or_false,Bool.true_and,Bool.false_and,Bool.and_true,Bool.and_false,if_true,if_false,Bool.false_eq_true] at e)|(have e:=aGO (a:=(⟨b1,m1,r1⟩:Cg)) (b:=(⟨b2,m2,r2⟩:Cg));simp only [h1,h2,h3,h4,Bool.not_true,Bool.not_false,Bool.true_or,Bool.false_or,Bool.or_true,Bool.or_false,Bool.true_and,Bool.false_and,Bool.and_true,Bool.and_false,if_true,if_false,Bool.false_eq_true] at e)|(have e:=aGO (a:=(⟨b1,m1,r1⟩:Cg)) (b:=(⟨b2,m2,r2⟩:Cg));simp only [h1,h2,h3,Bool.not_true,Bool.not_false,Bool.true_or,Bool.false_or,Bool.or_true,Bool.or_false,Bool.true_and,Bool.false_and,Bool.and_true,Bool.and_false,if_true,if_false,Bool.false_eq_true] at e)|(have e:=aGO (a:=(⟨b1,m1,r1⟩:Cg)) (b:=(⟨b2,m2,r2⟩:Cg));simp only [h1,h2,Bool.not_true,Bool.not_false,Bool.true_or,Bool.false_or,Bool.or_true,Bool.or_false,Bool.true_and,Bool.false_and,Bool.and_true,Bool.and_false,if_true,if_false,Bool.false_eq_true] at e)|(have e:=aGO (a:=(⟨b1,m1,r1⟩:Cg)) (b:=(⟨b2,m2,r2⟩:Cg));simp only [h1,Bool.not_true,Bool.not_false,Bool.true_or,Bool.false_or,Bool.or_true,Bool.or_false,Bool.true_and,Bool.false_and,Bool.and_true,Bool.and_false,if_true,if_false,Bool.false_eq_true] at e)|(have e:=aSU (a:=(⟨b1,m1,r1⟩:Cg)) (b:=(⟨b2,m2,r2⟩:Cg));simp only [h5,h6,Bool.not_true,Bool.not_false,Bool.true_or,Bool.false_or,Bool.or_true,Bool.or_false,Bool.true_and,Bool.false_and,Bool.and_true,Bool.and_false,if_true,if_false,Bool.false_eq_true] at e)|(have e:=aSU (a:=(⟨b1,m1,r1⟩:Cg)) (b:=(⟨b2,m2,r2⟩:Cg));simp only [h5,Bool.not_true,Bool.not_false,Bool.true_or,Bool.false_or,Bool.or_true,Bool.or_false,Bool.true_and,Bool.false_and,Bool.and_true,Bool.and_false,if_true,if_false,Bool.false_eq_true] at e)|skip
   all_goals (repeat' (first|exact trivial|(with_reducible first|assumption|exact j4s|exact (nx (beq_eq_false_iff_ne.2 om))|exact (nx (beq_eq_false_iff_ne.2 oo))|exact nx ha|exact nx hb|exact nx h1|exact nx h2|exact (nx (congrArg Bool.not h3))|exact (nx (congrArg Bool.not h4))|exact (nx (congrArg Bool.not h5))|exact (nx (congrArg Bool.not h6))|exact nd)|refine ⟨?_,?_⟩|intro _));all_goals first|apply qq|conv=>whnf
   all_goals first|decide|exact j3n|((with_reducible show Value.bool (Cg.some _)=_);exact congrArg (fun i:Cg=>Value.bool i.some) (aLD.symm))|((with_reducible show Value.int _ (Cg.m _)=_);exact congrArg (fun i:Cg=>Value.int .i64 i.m) (aLD.symm))|((with_reducible show Value.int _ (Cg.r _)=_);exact congrArg (fun i:Cg=>Value.int .i64 i.r) (aLD.symm))|((with_reducible show Value.bool (Cg.some _)=_);exact congrArg (fun i:Cg=>Value.bool i.some) (aLE.symm))|((with_reducible show Value.int _ (Cg.m _)=_);exact congrArg (fun i:Cg=>Value.int .i64 i.m) (aLE.symm))|((with_reducible show Value.int _ (Cg.r _)=_);exact congrArg (fun i:Cg=>Value.int .i64 i.r) (aLE.symm))|((with_reducible show Value.bool false=_);exact congrArg (fun i:Cg=>Value.bool i.some) ((aMI (a:=(⟨b1,m1,r1⟩:Cg)) (b:=(⟨b2,m2,r2⟩:Cg)) ⟨dg,fx,om,oo,ec,ei⟩).symm))|((with_reducible show Value.int _ 0=_);first|exact congrArg (fun i:Cg=>Value.int .i64 i.m) ((aMI (a:=(⟨b1,m1,r1⟩:Cg)) (b:=(⟨b2,m2,r2⟩:Cg)) ⟨dg,fx,om,oo,ec,ei⟩).symm)|exact congrArg (fun i:Cg=>Value.int .i64 i.r) ((aMI (a:=(⟨b1,m1,r1⟩:Cg)) (b:=(⟨b2,m2,r2⟩:Cg)) ⟨dg,fx,om,oo,ec,ei⟩).symm))
 . cases h
def aGP:List Ar->Option Rs
 | [.c (.d (.v (.int .i64 i0))),.agg [.d (.v (.bool b1)),.d (.v (.int .i64 m1)),.d (.v (.int .i64 r1))],.agg [.d (.v (.bool b2)),.d (.v (.int .i64 m2)),.d (.v (.int .i64 r2))],.c (.d (.v (.bool b3)))]=>some ⟨(-9223372036854775808<=i0/\ i0<9223372036854775808)/\ (Cg.inR ⟨b1,m1,r1⟩)/\ (Cg.inR ⟨b2,m2,r2⟩),.va (Cg.ar (aAq i0 (⟨b1,m1,r1⟩:Cg) (⟨b2,m2,r2⟩:Cg) b3)),[]⟩
 |_=>none
theorem aRQ:FC prog 209 aGP:=by
 intro xs pre r us h hp;unfold aGP at h;split at h
 . rename_i i0 b1 m1 r1 b2 m2 r2 b3
   cases h;obtain ⟨a7,a8,af⟩:=hp
   refine aE aA (l:= [(132,⟨[],uG⟩),(103,⟨[],rF⟩),(246,⟨[],aHd⟩),(84,⟨[],uY⟩),(247,⟨[],aET⟩),(248,⟨[],aBl⟩),(249,⟨[],aIe⟩),(250,⟨[],aKJ⟩),(251,⟨[],aJN⟩),(252,⟨[],aKM⟩)]) ⟨yV,uF,aSO,zT,aNT,aFx,aUO,aZp,aXs,aZs,trivial⟩ func209 rfl j4 false ?_
   unfold aAq;have rA:=Cg.clean_inR a8
   have rB:=Cg.clean_inR af
   have cA:=rA
   have cB:=rB
   unfold Cg.inR at rA rB;have nA:=Cg.clean_nn (⟨b1,m1,r1⟩:Cg)
   have nB:=Cg.clean_nn (⟨b2,m2,r2⟩:Cg)
   have tA:=aAJ (⟨b1,m1,r1⟩:Cg)
   have tB:=aAJ (⟨b2,m2,r2⟩:Cg)
   have dR:=aDm (op:=i0) (b:=(Cg.clean (⟨b2,m2,r2⟩:Cg)).r) rA.2
   have hg:=zZ rA.1 rB.1 ⟨nA,nB⟩
   all_goals first|(cases sA:((Cg.clean (⟨b1,m1,r1⟩:Cg))).some)
   all_goals first|(have _:=(show _=true from sA);cases sB:((Cg.clean (⟨b2,m2,r2⟩:Cg))).some)|skip
   all_goals first|(have _:=(show _=true from sB);cases zA:(((Cg.clean (⟨b1,m1,r1⟩:Cg))).m==0))|skip
   all_goals first|(have _:=(show _=true from sB);cases zB:(((Cg.clean (⟨b2,m2,r2⟩:Cg))).m==0))|skip
   all_goals first|(have _:=(show _=true from zA);have _:=(show _=true from zB);cases ze:(mP i0 ((Cg.clean (⟨b2,m2,r2⟩:Cg))).r !=0))|skip
   all_goals first|(have nz:=nz1 (a:=(Cg.clean (⟨b1,m1,r1⟩:Cg))) (b:=(Cg.clean (⟨b2,m2,r2⟩:Cg))) zA)|(have nz:=nz2 (a:=(Cg.clean (⟨b1,m1,r1⟩:Cg))) (b:=(Cg.clean (⟨b2,m2,r2⟩:Cg))) zB)|skip
   all_goals first|(have nq:=And.intro nA (aTE tA tB nz);have nr:=And.intro (And.intro nA nB) (nzo nz))|skip
   all_goals first|(have _:=nz;by_cases nu:i0=10)|skip
   all_goals first|(have _:=nz;have _:=(show¬_ from nu);by_cases nw:i0=11)|skip
   all_goals first|(have _:=nz;have _:=(show¬_ from nw);by_cases e7:i0=7)|skip
   all_goals first|(have _:=nz;have _:=(show¬_ from e7);by_cases e8:i0=8)|skip
   all_goals first|(have _:=nz;have _:=(show¬_ from e8);by_cases e9:i0=9)|skip
   all_goals first|subst nu|subst nw|subst e7|subst e8|subst e9|skip
   all_goals first|(have e:=bCR (op:=i0) (a:=(Cg.clean (⟨b1,m1,r1⟩:Cg))) (b:=(Cg.clean (⟨b2,m2,r2⟩:Cg))) (w:=b3) sA)|(have e:=bCS (op:=i0) (a:=(Cg.clean (⟨b1,m1,r1⟩:Cg))) (b:=(Cg.clean (⟨b2,m2,r2⟩:Cg))) (w:=b3) sB)|(have e:=bD9 (a:=(Cg.clean (⟨b1,m1,r1⟩:Cg))) (b:=(Cg.clean (⟨b2,m2,r2⟩:Cg))) (w:=b3) sA sB zA zB ze)|(have e:=bEa (a:=(Cg.clean (⟨b1,m1,r1⟩:Cg))) (b:=(Cg.clean (⟨b2,m2,r2⟩:Cg))) (w:=b3) sA sB zA zB ze)|skip
   all_goals repeat' (first|exact trivial|(with_reducible first|exact a7|exact a8|exact af|exact rA.1|exact rA.2|exact rB.1|exact rB.2|exact And.intro nA nB|exact cA|exact cB|exact dR|exact hg.1|exact hg.2|exact nq|exact nr|exact (nx (beq_eq_false_iff_ne.2 e7))|exact (nx (beq_eq_false_iff_ne.2 e8))|exact (nx (beq_eq_false_iff_ne.2 e9))|exact (nx (beq_eq_false_iff_ne.2 nu))|exact (nx (beq_eq_false_iff_ne.2 nw))|exact nx zA|exact nx zB|exact nx ze|exact (nx (congrArg Bool.not sA))|exact (nx (congrArg Bool.not sB))|exact nd)|refine ⟨?_,?_⟩|intro _)
   all_goals first|(conv=>whnf)
   all_goals first|exact j3n|((with_reducible show Value.bool false=_);exact congrArg (fun i:Cg=>Value.bool i.some) (e.symm))|((with_reducible show Value.int _ 0=_);first|exact congrArg (fun i:Cg=>Value.int .i64 i.m) (e.symm)|exact congrArg (fun i:Cg=>Value.int .i64 i.r) (e.symm))|((with_reducible show Value.bool (Cg.some _)=_);exact congrArg (fun i:Cg=>Value.bool i.some) ((aLF (a:=(Cg.clean (⟨b1,m1,r1⟩:Cg))) (b:=(Cg.clean (⟨b2,m2,r2⟩:Cg))) (w:=b3) sA sB nz).symm))|((with_reducible show Value.int _ (Cg.m _)=_);exact congrArg (fun i:Cg=>Value.int .i64 i.m) ((aLF (a:=(Cg.clean (⟨b1,m1,r1⟩:Cg))) (b:=(Cg.clean (⟨b2,m2,r2⟩:Cg))) (w:=b3) sA sB nz).symm))|((with_reducible show Value.int _ (Cg.r _)=_);exact congrArg (fun i:Cg=>Value.int .i64 i.r) ((aLF (a:=(Cg.clean (⟨b1,m1,r1⟩:Cg))) (b:=(Cg.clean (⟨b2,m2,r2⟩:Cg))) (w:=b3) sA sB nz).symm))|((with_reducible show Value.bool (Cg.some _)=_);exact congrArg (fun i:Cg=>Value.bool i.some) ((aLG (a:=(Cg.clean (⟨b1,m1,r1⟩:Cg))) (b:=(Cg.clean (⟨b2,m2,r2⟩:Cg))) (w:=b3) sA sB nz).symm))|((with_reducible show Value.int _ (Cg.m _)=_);exact congrArg (fun i:Cg=>Value.int .i64 i.m) ((aLG (a:=(Cg.clean (⟨b1,m1,r1⟩:Cg))) (b:=(Cg.clean (⟨b2,m2,r2⟩:Cg))) (w:=b3) sA sB nz).symm))|((with_reducible show Value.int _ (Cg.r _)=_);exact congrArg (fun i:Cg=>Value.int .i64 i.r) ((aLG (a:=(Cg.clean (⟨b1,m1,r1⟩:Cg))) (b:=(Cg.clean (⟨b2,m2,r2⟩:Cg))) (w:=b3) sA sB nz).symm))|((with_reducible show Value.bool (Cg.some _)=_);exact congrArg (fun i:Cg=>Value.bool i.some) ((aMK (a:=(Cg.clean (⟨b1,m1,r1⟩:Cg))) (b:=(Cg.clean (⟨b2,m2,r2⟩:Cg))) (w:=b3) sA sB nz).symm))|((with_reducible show Value.int _ (Cg.m _)=_);exact congrArg (fun i:Cg=>Value.int .i64 i.m) ((aMK (a:=(Cg.clean (⟨b1,m1,r1⟩:Cg))) (b:=(Cg.clean (⟨b2,m2,r2⟩:Cg))) (w:=b3) sA sB nz).symm))|((with_reducible show Value.int _ (Cg.r _)=_);exact congrArg (fun i:Cg=>Value.int .i64 i.r) ((aMK (a:=(Cg.clean (⟨b1,m1,r1⟩:Cg))) (b:=(Cg.clean (⟨b2,m2,r2⟩:Cg))) (w:=b3) sA sB nz).symm))|((with_reducible show Value.bool (Cg.some _)=_);exact congrArg (fun i:Cg=>Value.bool i.some) ((aML (a:=(Cg.clean (⟨b1,m1,r1⟩:Cg))) (b:=(Cg.clean (⟨b2,m2,r2⟩:Cg))) (w:=b3) sA sB nz).symm))|((with_reducible show Value.int _ (Cg.m _)=_);exact congrArg (fun i:Cg=>Value.int .i64 i.m) ((aML (a:=(Cg.clean (⟨b1,m1,r1⟩:Cg))) (b:=(Cg.clean (⟨b2,m2,r2⟩:Cg))) (w:=b3) sA sB nz).symm))|((with_reducible show Value.int _ (Cg.r _)=_);exact congrArg (fun i:Cg=>Value.int .i64 i.r) ((aML (a:=(Cg.clean (⟨b1,m1,r1⟩:Cg))) (b:=(Cg.clean (⟨b2,m2,r2⟩:Cg))) (w:=b3) sA sB nz).symm))|((with_reducible show Value.bool (Cg.some _)=_);exact congrArg (fun i:Cg=>Value.bool i.some) ((aMM (a:=(Cg.clean (⟨b1,m1,r1⟩:Cg))) (b:=(Cg.clean (⟨b2,m2,r2⟩:Cg))) (w:=b3) sA sB nz).symm))|((with_reducible show Value.int _ (Cg.m _)=_);exact congrArg (fun i:Cg=>Value.int .i64 i.m) ((aMM (a:=(Cg.clean (⟨b1,m1,r1⟩:Cg))) (b:=(Cg.clean (⟨b2,m2,r2⟩:Cg))) (w:=b3) sA sB nz).symm))|((with_reducible show Value.int _ (Cg.r _)=_);exact congrArg (fun i:Cg=>Value.int .i64 i.r) ((aMM (a:=(Cg.clean (⟨b1,m1,r1⟩:Cg))) (b:=(Cg.clean (⟨b2,m2,r2⟩:Cg))) (w:=b3) sA sB nz).symm))|((with_reducible show Value.bool (Cg.some _)=_);exact congrArg (fun i:Cg=>Value.bool i.some) ((aMN (a:=(Cg.clean (⟨b1,m1,r1⟩:Cg))) (b:=(Cg.clean (⟨b2,m2,r2⟩:Cg))) (w:=b3) sA sB nz ⟨nu,nw,e7,e8,e9⟩).symm))|((with_reducible show Value.int _ (Cg.m _)=_);exact congrArg (fun i:Cg=>Value.int .i64 i.m) ((aMN (a:=(Cg.clean (⟨b1,m1,r1⟩:Cg))) (b:=(Cg.clean (⟨b2,m2,r2⟩:Cg))) (w:=b3) sA sB nz ⟨nu,nw,e7,e8,e9⟩).symm))|((with_reducible show Value.int _ (Cg.r _)=_);exact congrArg (fun i:Cg=>Value.int .i64 i.r) ((aMN (a:=(Cg.clean (⟨b1,m1,r1⟩:Cg))) (b:=(Cg.clean (⟨b2,m2,r2⟩:Cg))) (w:=b3) sA sB nz ⟨nu,nw,e7,e8,e9⟩).symm))
 . cases h
section
variable {op:Int} {a:Cg} {w:Bool}
theorem vP (h:a.some=false):nD op a w=a:=by unfold nD;rw [if_pos j1z]
theorem ro5 (h:a.some=true):nD 5 a w=aAq 11 (Cg.of 0 0) a w:=by unfold nD;rw [if_neg w5,if_pos rfl]
theorem aMO (h:a.some=true) (h2:dU a 0=true):nD 6 a w=Cg.of 0 1:=by unfold nD;rw [if_neg w5,if_neg j5,if_neg j5,if_pos h2]
theorem aMP (h:a.some=true) (h2:dU a 0=false) (h3:a.has 0=false):nD 6 a w=Cg.of 0 0:=by unfold nD;rw [if_neg w5,if_neg j5,if_neg j5,if_neg x9,if_pos (by rw [h3];rfl)]
theorem aMQ (h:a.some=true) (h2:dU a 0=false) (h3:a.has 0=true):nD 6 a w=Cg.of 1 0:=by unfold nD;rw [if_neg w5,if_neg j5,if_neg j5,if_neg x9,if_neg (by rw [h3];decide)]
theorem rox (h:a.some=true) (h5:op≠5) (h6:op≠6):nD op a w=Cg.none:=by unfold nD;rw [if_neg w5,if_neg h5,if_pos h6]
theorem aI7:(Cg.of 0 0).inR:=Cg.of_inR 0 0 j5 j5 j5 j5
end
def aKN:List Ar->Option Rs
 | [.c (.d (.v (.int .i64 i0))),.agg [.d (.v (.bool b1)),.d (.v (.int .i64 m1)),.d (.v (.int .i64 r1))],.c (.d (.v (.bool b2)))]=>some ⟨(-9223372036854775808<=i0/\ i0<9223372036854775808)/\ (Cg.inR ⟨b1,m1,r1⟩),.va (Cg.ar (xD i0 (⟨b1,m1,r1⟩:Cg) b2)),[]⟩
 |_=>none
theorem aZt:FC prog 279 aKN:=by
 intro xs pre r us h hp;unfold aKN at h;split at h
 . rename_i i0 b1 m1 r1 b2
   cases h;obtain ⟨a7,a8⟩:=hp
   refine aE aA (l:= [(132,⟨[],uG⟩),(103,⟨[],rF⟩),(209,⟨[],aGP⟩),(84,⟨[],uY⟩),(294,⟨[],yR⟩),(161,⟨[],aAd⟩),(135,⟨[],uZ⟩)]) ⟨yV,uF,aRQ,zT,aCX,aDS,zU,trivial⟩ func279 rfl j4 false ?_
   unfold xD;have cA:=Cg.clean_inR a8
   have rA:=cA
   unfold Cg.inR at rA;have Dg:=aI7
   have EH:=Dg
   unfold Cg.inR at EH;by_cases e5:i0=5
   . subst e5;have r8:((5:Int)==5)=true:=by decide
     have Dh:((5:Int)==6)=false:=j5
     have Di:((5:Int) !=5)=false:=j5
     have Aw:((5:Int) !=6)=true:=j5
     cases sA:(Cg.clean (⟨b1,m1,r1⟩:Cg)).some
     . have iq:=congrArg Bool.not sA;simp only [Bool.not_true,Bool.not_false] at iq
       repeat' (first|exact j5g|refine ⟨?_,?_⟩|intro _)
       all_goals first|(conv=>whnf)
       all_goals first|exact j2x
     . have iq:=congrArg Bool.not sA;simp only [Bool.not_true,Bool.not_false] at iq
       (repeat' (first|exact trivial|(with_reducible first|exact a8|exact cA|exact Dg|exact nx r8|exact nx iq)|refine ⟨?_,?_⟩|intro _));all_goals first|apply qq|conv=>whnf
       all_goals first|decide|((with_reducible show Value.bool (Cg.some _)=_);exact congrArg (fun i:Cg=>Value.bool i.some) ((ro5 (a:=(Cg.clean (⟨b1,m1,r1⟩:Cg))) (w:=b2) sA).symm))|((with_reducible show Value.int _ (Cg.m _)=_);exact congrArg (fun i:Cg=>Value.int .i64 i.m) ((ro5 (a:=(Cg.clean (⟨b1,m1,r1⟩:Cg))) (w:=b2) sA).symm))|((with_reducible show Value.int _ (Cg.r _)=_);exact congrArg (fun i:Cg=>Value.int .i64 i.r) ((ro5 (a:=(Cg.clean (⟨b1,m1,r1⟩:Cg))) (w:=b2) sA).symm))
   by_cases e6:i0=6
   . subst e6;have r8:((6:Int)==5)=false:=by decide
     have Dh:((6:Int)==6)=true:=j5
     have Di:((6:Int) !=5)=true:=j5
     have Aw:((6:Int) !=6)=false:=j5
     cases sA:(Cg.clean (⟨b1,m1,r1⟩:Cg)).some
     . have iq:=congrArg Bool.not sA;simp only [Bool.not_true,Bool.not_false] at iq
       repeat' (first|exact j5g|refine ⟨?_,?_⟩|intro _)
       all_goals first|(conv=>whnf)
       all_goals first|exact j2x
     . cases h2:dU (Cg.clean (⟨b1,m1,r1⟩:Cg)) 0
       . cases h3:Cg.has (Cg.clean (⟨b1,m1,r1⟩:Cg)) 0
         . have iq:=congrArg Bool.not sA;simp only [Bool.not_true,Bool.not_false] at iq
           have s5:=congrArg Bool.not h2;simp only [Bool.not_true,Bool.not_false] at s5
           have yu:=congrArg Bool.not h3;simp only [Bool.not_true,Bool.not_false] at yu
           (repeat' (first|exact trivial|(with_reducible first|exact j5f|exact nx yu)|refine ⟨?_,?_⟩|intro _));all_goals first|apply qq|conv=>whnf
           all_goals first|decide|((with_reducible show Value.bool (Cg.some _)=_);exact congrArg (fun i:Cg=>Value.bool i.some) ((aMP (a:=(Cg.clean (⟨b1,m1,r1⟩:Cg))) (w:=b2) sA h2 h3).symm))|((with_reducible show Value.int _ (Cg.m _)=_);exact congrArg (fun i:Cg=>Value.int .i64 i.m) ((aMP (a:=(Cg.clean (⟨b1,m1,r1⟩:Cg))) (w:=b2) sA h2 h3).symm))|((with_reducible show Value.int _ (Cg.r _)=_);exact congrArg (fun i:Cg=>Value.int .i64 i.r) ((aMP (a:=(Cg.clean (⟨b1,m1,r1⟩:Cg))) (w:=b2) sA h2 h3).symm))
         . have iq:=congrArg Bool.not sA;simp only [Bool.not_true,Bool.not_false] at iq
           have s5:=congrArg Bool.not h2;simp only [Bool.not_true,Bool.not_false] at s5
           have yu:=congrArg Bool.not h3;simp only [Bool.not_true,Bool.not_false] at yu
           (repeat' (first|exact trivial|(with_reducible first|exact j5f|exact nx yu)|refine ⟨?_,?_⟩|intro _));all_goals first|apply qq|conv=>whnf
           all_goals first|decide|((with_reducible show Value.bool (Cg.some _)=_);exact congrArg (fun i:Cg=>Value.bool i.some) ((aMQ (a:=(Cg.clean (⟨b1,m1,r1⟩:Cg))) (w:=b2) sA h2 h3).symm))|((with_reducible show Value.int _ (Cg.m _)=_);exact congrArg (fun i:Cg=>Value.int .i64 i.m) ((aMQ (a:=(Cg.clean (⟨b1,m1,r1⟩:Cg))) (w:=b2) sA h2 h3).symm))|((with_reducible show Value.int _ (Cg.r _)=_);exact congrArg (fun i:Cg=>Value.int .i64 i.r) ((aMQ (a:=(Cg.clean (⟨b1,m1,r1⟩:Cg))) (w:=b2) sA h2 h3).symm))
       . have iq:=congrArg Bool.not sA;simp only [Bool.not_true,Bool.not_false] at iq
         have s5:=congrArg Bool.not h2;simp only [Bool.not_true,Bool.not_false] at s5
         (repeat' (first|exact trivial|(with_reducible first|exact j5f)|refine ⟨?_,?_⟩|intro _));all_goals first|apply qq|conv=>whnf
         all_goals first|decide|((with_reducible show Value.bool (Cg.some _)=_);exact congrArg (fun i:Cg=>Value.bool i.some) ((aMO (a:=(Cg.clean (⟨b1,m1,r1⟩:Cg))) (w:=b2) sA h2).symm))|((with_reducible show Value.int _ (Cg.m _)=_);exact congrArg (fun i:Cg=>Value.int .i64 i.m) ((aMO (a:=(Cg.clean (⟨b1,m1,r1⟩:Cg))) (w:=b2) sA h2).symm))|((with_reducible show Value.int _ (Cg.r _)=_);exact congrArg (fun i:Cg=>Value.int .i64 i.r) ((aMO (a:=(Cg.clean (⟨b1,m1,r1⟩:Cg))) (w:=b2) sA h2).symm))
   have r8:((i0:Int)==5)=false:=beq_eq_false_iff_ne.2 e5
   have Dh:((i0:Int)==6)=false:=beq_eq_false_iff_ne.2 e6
   have Di:((i0:Int) !=5)=true:=bne_iff_ne.2 e5
   have Aw:((i0:Int) !=6)=true:=bne_iff_ne.2 e6
   cases sA:(Cg.clean (⟨b1,m1,r1⟩:Cg)).some
   . have iq:=congrArg Bool.not sA;simp only [Bool.not_true,Bool.not_false] at iq
     repeat' (first|exact j5g|refine ⟨?_,?_⟩|intro _)
     all_goals first|(conv=>whnf)
     all_goals first|exact j2x
   . have iq:=congrArg Bool.not sA;simp only [Bool.not_true,Bool.not_false] at iq
     repeat' (first|exact trivial|(with_reducible first|exact a8|exact cA|exact nx r8|exact nx Aw|exact nx iq)|refine ⟨?_,?_⟩|intro _)
     all_goals first|(conv=>whnf)
     all_goals first|((with_reducible show Value.bool false=_);exact congrArg (fun i:Cg=>Value.bool i.some) ((rox (a:=(Cg.clean (⟨b1,m1,r1⟩:Cg))) (w:=b2) sA e5 e6).symm))|((with_reducible show Value.int _ 0=_);first|exact congrArg (fun i:Cg=>Value.int .i64 i.m) ((rox (a:=(Cg.clean (⟨b1,m1,r1⟩:Cg))) (w:=b2) sA e5 e6).symm)|exact congrArg (fun i:Cg=>Value.int .i64 i.r) ((rox (a:=(Cg.clean (⟨b1,m1,r1⟩:Cg))) (w:=b2) sA e5 e6).symm))
 . cases h
def aC7:List Ar->Option Rs
 | [.agg [.d (.v (.bool s0)),.d (.v (.int .i64 l0)),.d (.v (.int .i64 h0)),.d (.v (.bool b0)),.d (.v (.int .i64 m0)),.d (.v (.int .i64 r0)),.d (.v (.bool z0)),.d (.lst 1 n0 f0)]]=>some ⟨((n0*16<=140737488351232/\ ∀i,i<n0->f0 i= [st (gT (f0 i))])/\ Sp.inR ⟨s0,l0,h0⟩/\ Cg.inR ⟨b0,m0,r0⟩),.va (Vl.ar (Vl.of (⟨⟨⟨s0,l0,h0⟩,⟨b0,m0,r0⟩⟩,⟨z0,gN n0 f0⟩⟩:Vl))),[]⟩
 |_=>none
theorem aIC:FC prog 78 aC7:=by
 intro xs pre r us h hp;unfold aC7 at h;split at h
 . rename_i s0 l0 h0 b0 m0 r0 z0 n0 f0
   cases h;have a7:=hp
   refine aU.of_eq (as':= [.agg [.d (.v (.bool s0)),.d (.v (.int .i64 l0)),.d (.v (.int .i64 h0)),.d (.v (.bool b0)),.d (.v (.int .i64 m0)),.d (.v (.int .i64 r0)),.d (.v (.bool z0)),.d (.lst 1 n0 fun i=> [st (gT (f0 i))])]]) ?_ rfl rfl ?_
   . repeat' (first|exact j2t|refine ⟨?_,?_⟩|fail)
     all_goals first|grind
   refine aE aA (l:= [(53,⟨[],tL⟩),(82,⟨[],zC⟩)]) ⟨xJ,aDd,trivial⟩ func78 rfl j4 true ?_
   have ik:aY (⟨⟨⟨s0,l0,h0⟩,⟨b0,m0,r0⟩⟩,⟨z0,gN n0 fun i=> [st (gT (f0 i))]⟩⟩:Vl):=⟨⟨u5,fun _ _=>rfl⟩,a7.2⟩
   have dh:=cX ik
   have l6:=cX dh
   unfold aY at dh l6
   (repeat' (first|exact trivial|(with_reducible first|exact dh|exact a7.2)|refine ⟨?_,?_⟩|intro _));all_goals first|apply qq|conv=>whnf
   all_goals (try simp only [bI] at*)
   all_goals first|rfl|(with_reducible exact a7.1.1)
 . cases h
section
variable {op:Int} {a b:Sp}
theorem aSV (h:a.none=true):kO op a b=false:=by unfold kO;rw [if_pos j1z]
theorem aSW (h:b.none=true):kO op a b=false:=by unfold kO;rw [if_pos (by rw [h];cases a.none<;>rfl)]
theorem bEb (h:a.none=false) (h2:b.none=false):kO 8 a b=(a.has (-9223372036854775808)&&b.has (-1)):=by unfold kO;rw [if_neg j2g,if_pos rfl]
theorem aTF (h:a.none=false) (h2:b.none=false) (h8:op≠8):kO op a b=(pN (dB op) a b).any fun e=>fN op&& !bJ e:=by unfold kO;rw [if_neg j2g,if_neg h8]
theorem bCT (h:a.none=false) (h2:b.none=false) (h8:op≠8) (hx:fN op=true):kO op a b=(!bJ (dB op a.lo b.lo)||(!bJ (dB op a.lo b.hi)||(!bJ (dB op a.hi b.lo)||(!bJ (dB op a.hi b.hi)||false)))):=by
 rw [aTF h h2 h8,hx];rfl
theorem exv {x y:Int} (rx: -9223372036854775808<=x/\ x<9223372036854775808) (ry: -9223372036854775808<=y/\ y<9223372036854775808):(wd (dB op x y)).val=dB op x y:=by have:=aBm (op:=op) rx ry;exact sP this.1 this.2
theorem bEc (ra:(-9223372036854775808<=a.lo/\ a.lo<9223372036854775808)/\ -9223372036854775808<=a.hi/\ a.hi<9223372036854775808) (rb:(-9223372036854775808<=b.lo/\ b.lo<9223372036854775808)/\ -9223372036854775808<=b.hi/\ b.hi<9223372036854775808) (h:a.none=false) (h2:b.none=false) (h8:op≠8) (hx:fN op=true):kO op a b=(!bJ (wd (dB op a.lo b.lo)).val||(!bJ (wd (dB op a.lo b.hi)).val||(!bJ (wd (dB op a.hi b.lo)).val||(!bJ (wd (dB op a.hi b.hi)).val||false)))):=by
 rw [exv ra.1 rb.1,exv ra.1 rb.2,exv ra.2 rb.1,exv ra.2 rb.2];exact bCT h h2 h8 hx
theorem bEd (h:a.none=false) (h2:b.none=false) (h8:op≠8) (hx:fN op=false):kO op a b=false:=by
 rw [aTF h h2 h8,hx];rfl
end
def aFA:List Ar->Option Rs
 | [.c (.d (.v (.int .i64 i0))),.agg [.d (.v (.bool s1)),.d (.v (.int .i64 l1)),.d (.v (.int .i64 h1))],.agg [.d (.v (.bool s2)),.d (.v (.int .i64 l2)),.d (.v (.int .i64 h2))]]=>some ⟨(-9223372036854775808<=i0/\ i0<9223372036854775808)/\ (Sp.inR ⟨s1,l1,h1⟩)/\ (Sp.inR ⟨s2,l2,h2⟩),.va (.c (.d (bo (kO i0 (⟨s1,l1,h1⟩:Sp) (⟨s2,l2,h2⟩:Sp))))),[]⟩
 |_=>none
abbrev aEt:List (Nat×Sm):= [(102,⟨[],mE⟩),(160,⟨[],aAe⟩),(240,⟨[],aA4⟩),(226,⟨[],uV⟩)]
theorem aHi:gX prog aEt:=⟨oD,aDT,aE7,zR,trivial⟩
theorem aPm:FC prog 210 aFA:=by
 intro xs pre r us h hp;unfold aFA at h;split at h
 . rename_i i0 s1 l1 h1 s2 l2 h2
   cases h;obtain ⟨a7,a8,af⟩:=hp
   refine aE aA (l:=aEt) aHi func210 rfl j4 false ?_
   unfold Sp.inR at a8 af;have yb:decide ((0:Int)<2)=true:=rfl
   have ed:decide (IntKind.i64.wrap (0+1)<(2:Int))=true:=rfl
   have ir:decide (IntKind.i64.wrap (IntKind.i64.wrap (0+1)+1)<(2:Int))=false:=rfl
   all_goals first|(by_cases e8:i0=8)
   all_goals first|(cases nA:Sp.none (⟨s1,l1,h1⟩:Sp))
   all_goals first|(have _:=(show _=false from nA);cases nB:Sp.none (⟨s2,l2,h2⟩:Sp))|skip
   all_goals first|(have _:=(show _=false from nB);have _:=(show¬_ from e8);cases hx:fN i0)|skip
   all_goals first|(have _:=(show _=true from hx);cases w0:bJ ((wd (dB i0 l1 l2)).val))|skip
   all_goals first|(have _:=(show _=true from w0);cases w1:bJ ((wd (dB i0 l1 h2)).val))|skip
   all_goals first|(have _:=(show _=true from w1);cases w2:bJ ((wd (dB i0 h1 l2)).val))|skip
   all_goals first|(have _:=(show _=true from w2);cases w3:bJ ((wd (dB i0 h1 h2)).val))|skip
   all_goals first|(have k8:=e8;have _:=(show _=_ from k8))|skip
   all_goals first|subst e8|skip
   all_goals first|(have e:=aSV (op:=i0) (a:=(⟨s1,l1,h1⟩:Sp)) (b:=(⟨s2,l2,h2⟩:Sp)) nA)|(have e:=aSW (op:=i0) (a:=(⟨s1,l1,h1⟩:Sp)) (b:=(⟨s2,l2,h2⟩:Sp)) nB)|(have _:=k8;have e:=bEb (a:=(⟨s1,l1,h1⟩:Sp)) (b:=(⟨s2,l2,h2⟩:Sp)) nA nB)|(have e:=bEd (a:=(⟨s1,l1,h1⟩:Sp)) (b:=(⟨s2,l2,h2⟩:Sp)) nA nB e8 hx)|(have e:=bEc (a:=(⟨s1,l1,h1⟩:Sp)) (b:=(⟨s2,l2,h2⟩:Sp)) a8 af nA nB e8 hx)|(have e:=aSV (op:=8) (a:=(⟨s1,l1,h1⟩:Sp)) (b:=(⟨s2,l2,h2⟩:Sp)) nA)|(have e:=aSW (op:=8) (a:=(⟨s1,l1,h1⟩:Sp)) (b:=(⟨s2,l2,h2⟩:Sp)) nB)
   all_goals (repeat' (first|exact trivial|(with_reducible first|exact a8.1|exact a8.2|exact af.1|exact af.2|exact (nx (beq_eq_false_iff_ne.2 e8))|exact nx nA|exact nx nB|exact nd)|refine ⟨?_,?_⟩|intro _));all_goals first|apply qq|conv=>whnf
   all_goals first|((with_reducible show aO _ _ _ _ _);refine wX aA (l:=aEt) aHi j4 3 ?_)|skip
   all_goals (repeat' (first|exact trivial|(with_reducible first|exact (fun h:(0:Int)=((1:Nat):Int)=>absurd h j5)|exact nx yb)|refine ⟨?_,?_⟩|intro _));all_goals first|apply qq|conv=>whnf
   all_goals first|((with_reducible show aO _ _ _ _ _);refine wX aA (l:=aEt) aHi j4 3 ?_)|skip
   all_goals (repeat' (first|exact trivial|(with_reducible first|exact And.intro a7 (And.intro a8.1 af.1)|exact And.intro a7 (And.intro a8.1 af.2)|exact j6p|exact (nx (congrArg Bool.not w0))|exact (nx (congrArg Bool.not w1)))|refine ⟨?_,?_⟩|intro _));all_goals first|apply qq|conv=>whnf
   all_goals first|((with_reducible show aO _ _ _ _ _);refine wX aA (l:=aEt) aHi j4 3 ?_)|skip
   all_goals (repeat' (first|exact trivial|(with_reducible first|exact And.intro a7 (And.intro a8.2 af.1)|exact And.intro a7 (And.intro a8.2 af.2)|exact j6p|exact (nx (congrArg Bool.not w2))|exact (nx (congrArg Bool.not w3)))|refine ⟨?_,?_⟩|intro _));all_goals first|apply qq|conv=>whnf
   all_goals (repeat' (fail));all_goals first|apply qq|conv=>whnf
   all_goals first|decide|((with_reducible show Value.bool _=_);first|(rw [e];done)|(rw [e];simp only [*,Bool.not_true,Bool.not_false,Bool.true_or,Bool.false_or,Bool.true_and,Bool.false_and];done))
 . cases h
theorem aV8 (l h:Int):(rK l h).inR:=by
 have ha:aCa.inR:=by unfold aCa;exact Sp.of_inR w9 w9
 unfold rK;(repeat' split)
 . exact ha
 . exact ha
 . exact Sp.of_inR (aB9 l) (aB9 h)
theorem sQ:fY.inR:=by unfold fY Sp.inR;decide
theorem aVf (l:List Int):(jH l).inR:=by
 cases l with
 |nil=>exact sQ
 |cons x l=>exact aV8 _ _
theorem aIf (x y:Bool):(jI x y).inR:=by
 have a1:(Sp.of 1 1).inR:=Sp.of_inR w9 w9
 have a2:(Sp.of 0 0).inR:=Sp.of_inR w9 w9
 have a3:(Sp.of 0 1).inR:=Sp.of_inR w9 w9
 unfold jI;(repeat' split)<;>assumption
theorem aXw (op:Int) (a b:Sp):(qD op a b).inR:=by
 unfold qD;(repeat' split)<;>first|exact aIf _ _|exact sQ
theorem aV9 {a b:Sp} (ha:a.inR) (hb:b.inR):(mG a b).inR:=by
 have hr:=aFz hb
 have hd:=aDm (op:=9) (b:=b.lo) ha.1
 obtain ⟨⟨a1,a2⟩,a3,a4⟩:=ha
 unfold mG;(repeat' split)
 all_goals first|exact sQ|exact Sp.of_inR hd hd|(refine Sp.of_inR ?_ ?_<;>(unfold rI;omega))
theorem aI8 {op:Int} {a b:Sp} (ha:a.inR) (hb:b.inR):(jR op a b).inR:=by
 unfold jR aEs;(repeat' split)<;>first|exact sQ|exact aVf _|exact aV9 ha hb|exact aXw _ _ _
theorem aOy {op:Int} {a:Sp} (ha:a.inR):(mH op a).inR:=by
 unfold mH;(repeat' split)<;>first|exact sQ|exact aIf _ _|exact aI8 (Sp.of_inR w9 w9) ha
theorem wS {m r:Int} (h:0<=m/\ m<9223372036854775808) (hr: -9223372036854775808<=r/\ r<9223372036854775808):(Cg.of m r).inR:=Cg.of_inR m r j3 h.2 hr.1 hr.2
theorem yL:Cg.none.inR:=by unfold Cg.none Cg.inR;decide
theorem aAO:(Cg.of 1 0).inR:=wS j5 j5
theorem aI9 {op m:Int} {a b:Cg} {w:Bool} (h:0<=m/\ m<9223372036854775808):(kW op m a b w).inR:=by
 have hP:=aRN h.1 h.2
 have key: ∀k:Int,0<=k->k<9223372036854775808->(if fN op=false \/k=0 then Cg.all else Cg.of k (dB op a.r b.r%k)).inR:=by
  intro k k0 k1;split
  . exact aAO
  . rename_i hh
    have hk:k≠0:=fun e=>hh (.inr e)
    have e1:=Int.emod_nonneg (dB op a.r b.r) hk
    have e2:=Int.emod_lt_of_pos (dB op a.r b.r) (show 0<k by omega)
    exact wS ⟨k0,k1⟩ j3
 unfold kW;split
 . exact key _ hP.1 hP.2
 . exact key _ h.1 h.2
theorem aOz {a b:Cg} {w:Bool} (ra:a.inR) (rb:b.inR) (ha:0<=a.m) (hb:0<=b.m):(oM a b w).inR:=by
 have hg:=zZ ra.1 rb.1 ⟨ha,hb⟩
 have hs:=aLB (c:=a.r) rb.1 hb
 unfold oM;(repeat' split)
 . exact aI7
 . exact aI9 ⟨hs.2,hs.1.2⟩
 . exact aI9 ⟨hg.2,hg.1.2⟩
theorem aWa {op:Int} {a b:Cg} {w:Bool} (ra:a.inR) (rb:b.inR) (ha:0<=a.m) (hb:0<=b.m) (ta:a.tidy) (tb:b.tidy):(jM op a b w).inR:=by
 have hg:=zZ ra.1 rb.1 ⟨ha,hb⟩
 have BO:(Cg.of 0 1).inR:=wS j5 j5
 unfold jM;split
 . exact yL
 . split
   . split
     . exact yL
     . exact wS j5 (aDm ra.2)
   . rename_i nz
     (repeat' split)
     . exact aI9 ⟨hg.2,hg.1.2⟩
     . unfold rL;split
       . exact aOz rb ra hb ha
       . exact aOz ra rb ha hb
     . unfold lK;(repeat' split)
       . exact yL
       . exact aAO
       . exact aAO
       . rename_i h1 h2 h3
         have hl:dU b 0=false:=j0i
         have AH:b.m=0:=j3
         have hz:b.r≠0:=aCg hl (by simp [AH])
         have q:=aDj ra.2 rb.2 hz (aTE ta tb nz)
         have hp:=aI3 hz
         have d1:=Int.ediv_nonneg ha (Int.le_of_lt hp)
         have d2:=Int.ediv_le_self (aX b.r) ha
         have:=ra.1
         exact wS ⟨d1,by omega⟩ q
     . unfold vG;split
       . exact yL
       . have hp:0<Int.gcd a.m b.m:=by rw [Int.gcd_pos_iff];exact nzo nz
         have hle:Int.gcd (Int.gcd a.m b.m:Int) (aX b.r)<=Int.gcd a.m b.m:=Nat.le_of_dvd hp (Int.ofNat_dvd.1 (Int.gcd_dvd_left ..))
         exact wS j3 ra.2
     . unfold oU;(repeat' split)<;>first|exact yL|exact BO|exact aAO
theorem aJa {op:Int} {a b:Cg} {w:Bool} (ra:a.inR) (rb:b.inR):(aAq op a b w).inR:=
 aWa (Cg.clean_inR ra) (Cg.clean_inR rb) (Cg.clean_nn a) (Cg.clean_nn b) (aAJ a) (aAJ b)
theorem aOA {op:Int} {a:Cg} {w:Bool} (ra:a.inR):(xD op a w).inR:=by
 have BO:(Cg.of 0 1).inR:=wS j5 j5
 unfold xD nD;(repeat' split)<;>first|exact Cg.clean_inR ra|exact yL|exact BO|exact aAO|exact aJa aI7 (Cg.clean_inR ra)
def fP:Vl:=⟨Ig.zero,⟨false,[]⟩⟩
def cU (v:Vl):Bool:= !v.i.s.none&&v.i.c.some
def cQ (s:Sp) (c:Cg):Vl:=if s.none=true then fP else if c.some=false then fP else Vl.reduce ⟨⟨s,c⟩,⟨false,[]⟩⟩
def kJ (op:Int) (a b:Vl):Vl:=if cU a=false then fP else if cU b=false then fP else cQ (jR op a.i.s b.i.s) (aAq op a.i.c b.i.c (kO op a.i.s b.i.s))
def nM (a:Ns):Int:=((aP a.names).length:Int)+if a.null then 1 else 0
def jN (a:Ns):Bool:= !a.null&&decide ((aP a.names).length=1)
def iF (a:Ns):ByteArray:=if jN a then aN (aP a.names) 0 else ByteArray.empty
def tE (a b:Ns):Bool:= !(!(a.null&&b.null)&&decide (aP (fF a.names b.names)= []))
def uP (a b:Ns):Bool:=tE a b&&(nM a==1&&nM b==1)
def lF (a b:Ns) (many:List ByteArray):Bool:=uP a b&& !(jN a&&iI (iF a) many)
def jB (a:Ns):Bool:= !a.null&&decide (a.names= [])
def tF (n:Int):Vl:=⟨⟨Sp.of n n,Cg.of 0 n⟩,⟨false,[]⟩⟩
def b01:Vl:=Vl.reduce ⟨⟨Sp.of 0 1,Cg.of 1 0⟩,⟨false,[]⟩⟩
def fW (op:Int) (a b:Ns) (many:List ByteArray):Vl:=
 if jB a=true then fP else if jB b=true then fP else if op≠14/\ op≠15 then fP
 else if lF a b many=true then tF (if op=15 then 0 else 1) else if tE a b=false then tF (if op=15 then 1 else 0) else b01
def lG (op:Int) (a b:Vl) (many:List ByteArray):Vl:=Vl.join (kJ op a.of b.of) (fW op a.of.t b.of.t many)
section
variable {b b':Bool} {L L' M:List ByteArray}
theorem bCU (h:b=true) (hl:(aP L).length<1000000000000000):IntKind.wrap .i64 (((aP L).length:Int)+1)=nM ⟨b,L⟩:=by
 unfold nM;dsimp only;rw [if_pos h];exact aR _ j3 j3
theorem bEe (h:b=true):jN ⟨b,L⟩=false/\ iF ⟨b,L⟩=ByteArray.empty:=by
 have e:jN ⟨b,L⟩=false:=by unfold jN;dsimp only;rw [h];rfl
 exact ⟨e,by unfold iF;rw [if_neg (by rw [e];decide)]⟩
theorem bEf (h2:(((aP L).length:Int) !=1)=true):jN ⟨b,L⟩=false/\ iF ⟨b,L⟩=ByteArray.empty:=by
 have e:jN ⟨b,L⟩=false:=by unfold jN;dsimp only;rw [decide_eq_false (by simp at h2;omega),Bool.and_false]
 exact ⟨e,by unfold iF;rw [if_neg (by rw [e];decide)]⟩
theorem bEg (h:b=false) (h2:(((aP L).length:Int) !=1)=false):jN ⟨b,L⟩=true/\ iF ⟨b,L⟩=aN (aP L) 0/\ (0:Int)<((aP L).length:Int):=by
 have hl:(aP L).length=1:=by simp at h2;omega
 have e:jN ⟨b,L⟩=true:=by unfold jN;dsimp only;rw [h,decide_eq_true hl];rfl
 exact ⟨e,by unfold iF;rw [if_pos e],by omega⟩
theorem aKO:tE ⟨b,L⟩ ⟨b',L'⟩= !(!(b&&b')&&decide (gN (aP (fF L L')).length (fun i=> [st (aN (aP (fF L L')) i)])= [])):=by unfold tE;rw [bI]
end
section
variable {s:Sp} {c:Cg} {a b:Vl} {op:Int} {x y:Ns} {m:List ByteArray}
theorem bEh (h:s.none=true):cQ s c=fP:=by unfold cQ;rw [if_pos h]
theorem bEi (h:c.some=false):cQ s c=fP:=by unfold cQ;by_cases k:s.none=true;rw [if_pos k];rw [if_neg k,if_pos h]
theorem bEj (h:s.none=false) (h2:c.some=true):cQ s c=Vl.reduce ⟨⟨s,c⟩,⟨false,[]⟩⟩:=by unfold cQ;rw [if_neg w5,if_neg x9]
theorem bEk (h:cU a=false):kJ op a b=fP:=by unfold kJ;rw [if_pos h]
theorem bEl (h:cU b=false):kJ op a b=fP:=by unfold kJ;by_cases k:cU a=false;rw [if_pos k];rw [if_neg k,if_pos h]
theorem bEm (h:cU a=true) (h2:cU b=true):kJ op a b=cQ (jR op a.i.s b.i.s) (aAq op a.i.c b.i.c (kO op a.i.s b.i.s)):=by unfold kJ;rw [if_neg w5,if_neg x9]
theorem aMR (h:jB x=true):fW op x y m=fP:=by unfold fW;rw [if_pos h]
theorem aMS (h:jB y=true):fW op x y m=fP:=by unfold fW;by_cases k:jB x=true;rw [if_pos k];rw [if_neg k,if_pos h]
theorem bEn (h:op≠14/\ op≠15):fW op x y m=fP:=by unfold fW;by_cases k:jB x=true;rw [if_pos k];rw [if_neg k];by_cases k:jB y=true;rw [if_pos k];rw [if_neg k,if_pos h]
section
variable (h:jB x=false) (h2:jB y=false)
include h h2
theorem aMT (ho: ¬(op≠14/\ op≠15)):fW op x y m=if lF x y m=true then tF (if op=15 then 0 else 1) else if tE x y=false then tF (if op=15 then 1 else 0) else b01:=by
 unfold fW;rw [if_neg w5,if_neg x9,if_neg ho]
theorem aTG (k:lF x y m=true):fW 14 x y m=tF 1/\ fW 15 x y m=tF 0:=by
 constructor<;>(rw [aMT h h2 j5];simp [k])
theorem aTH (k:lF x y m=false) (k2:tE x y=false):fW 14 x y m=tF 0/\ fW 15 x y m=tF 1:=by
 constructor<;>(rw [aMT h h2 j5];simp [k,k2])
theorem aTI (k:lF x y m=false) (k2:tE x y=true):fW 14 x y m=b01/\ fW 15 x y m=b01:=by
 constructor<;>(rw [aMT h h2 j5];simp [k,k2])
end
end
theorem aDn:(Sp.of 0 1).inR/\ (Cg.of 1 0).inR:=⟨aIf false false,aAO⟩
def aGQ:List Ar->Option Rs
 | [.agg [.d (.v (.bool b0)),.d (.lst 1 n0 f0)]]=>some ⟨(n0*16<=140737488351232/\ ∀i,i<n0->f0 i= [st (gT (f0 i))]),.va (.c (.d (it (nM (⟨b0,gN n0 f0⟩:Ns))))),[]⟩
 |_=>none
theorem aRR:FC prog 214 aGQ:=by
 intro xs pre r us h hp;unfold aGQ at h;split at h
 . rename_i b0 n0 f0
   cases h;have a7:=hp
   refine aU.of_eq (as':= [.agg [.d (.v (.bool b0)),.d (.lst 1 n0 fun i=> [st (gT (f0 i))])]]) ?_ rfl rfl ?_
   . repeat' (first|exact j2t|refine ⟨?_,?_⟩|fail)
     all_goals first|exact a7.2
   refine aE aA (l:= [(101,⟨[],aBc⟩)]) ⟨aFl,trivial⟩ func214 rfl j4 false ?_
   have hL:=dF (gN n0 f0);rw [bU] at hL
   have c0:(gN n0 fun i=> [st (gT (f0 i))])=gN n0 f0:=rfl
   rw [<-c0];rw [<-c0] at hL;cases hb:b0
   . have er:=congrArg Bool.not hb;simp only [Bool.not_true,Bool.not_false] at er
     repeat' (first|exact trivial|(with_reducible first|exact a7.1|exact j3r)|refine ⟨?_,?_⟩|intro _)
     all_goals first|(conv=>whnf)
     all_goals first|exact rfl
   . have er:=congrArg Bool.not hb;simp only [Bool.not_true,Bool.not_false] at er
     repeat' (first|exact trivial|(with_reducible first|exact a7.1|exact j4c)|refine ⟨?_,?_⟩|intro _)
     all_goals first|(conv=>whnf)
     all_goals first|exact rfl|exact congrArg (Value.int .i64) (bCU j9 j3)
 . cases h
def aF9:List Ar->Option Rs
 | [.agg [.d (.v (.bool b0)),.d (.lst 1 n0 f0)]]=>some ⟨(n0*16<=140737488351232/\ ∀i,i<n0->f0 i= [st (gT (f0 i))]),.tup [.c (.d (st (iF (⟨b0,gN n0 f0⟩:Ns)))),.c (.d (bo (jN (⟨b0,gN n0 f0⟩:Ns))))],[]⟩
 |_=>none
theorem aQK:FC prog 215 aF9:=by
 intro xs pre r us h hp;unfold aF9 at h;split at h
 . rename_i b0 n0 f0
   cases h;have a7:=hp
   refine aU.of_eq (as':= [.agg [.d (.v (.bool b0)),.d (.lst 1 n0 fun i=> [st (gT (f0 i))])]]) ?_ rfl rfl ?_
   . repeat' (first|exact j2t|refine ⟨?_,?_⟩|fail)
     all_goals first|exact a7.2
   refine aE aA (l:= [(101,⟨[],aBc⟩)]) ⟨aFl,trivial⟩ func215 rfl j4 false ?_
   have hL:=dF (gN n0 f0);rw [bU] at hL
   have c0:(gN n0 fun i=> [st (gT (f0 i))])=gN n0 f0:=rfl
   rw [<-c0];rw [<-c0] at hL;cases hb:b0
   . cases h1:(((aP (gN n0 fun i=> [st (gT (f0 i))])).length:Int) !=1)
     . have er:=congrArg Bool.not hb;simp only [Bool.not_true,Bool.not_false] at er
       have s4:=congrArg Bool.not h1;simp only [Bool.not_true,Bool.not_false] at s4
       have e:=bEg (b:=false) (L:=(gN n0 fun i=> [st (gT (f0 i))])) rfl h1
       (repeat' (first|exact j6t|refine ⟨?_,?_⟩|intro _));all_goals first|apply qq|conv=>whnf
       all_goals first|decide|exact rfl|(rw [e.1];done)|(rw [e.2.1];rfl)|exact e.2.2
     . have er:=congrArg Bool.not hb;simp only [Bool.not_true,Bool.not_false] at er
       have s4:=congrArg Bool.not h1;simp only [Bool.not_true,Bool.not_false] at s4
       have e:=bEf (b:=false) (L:=(gN n0 fun i=> [st (gT (f0 i))])) h1
       repeat' (first|exact j6t|refine ⟨?_,?_⟩|intro _)
       all_goals first|(conv=>whnf)
       all_goals first|exact rfl|(rw [e.1];done)|(rw [e.2];rfl)
   . have er:=congrArg Bool.not hb;simp only [Bool.not_true,Bool.not_false] at er
     have e:=bEe (L:=(gN n0 fun i=> [st (gT (f0 i))])) (rfl:true=true)
     repeat' (first|exact trivial|(with_reducible first|exact a7.1|exact j4c)|refine ⟨?_,?_⟩|intro _)
     all_goals first|(conv=>whnf)
     all_goals first|exact rfl
 . cases h
def aJR:List Ar->Option Rs
 | [.agg [.d (.v (.bool b0)),.d (.lst 1 n0 f0)],.agg [.d (.v (.bool b1)),.d (.lst 1 n1 f1)]]=>some ⟨(n0*16<=140737488351232/\ ∀i,i<n0->f0 i= [st (gT (f0 i))])/\ (n1*16<=140737488351232/\ ∀i,i<n1->f1 i= [st (gT (f1 i))]),.tup [.c (.d (bo (tE (⟨b0,gN n0 f0⟩:Ns) (⟨b1,gN n1 f1⟩:Ns)))),.c (.d (bo (uP (⟨b0,gN n0 f0⟩:Ns) (⟨b1,gN n1 f1⟩:Ns))))],[]⟩
 |_=>none
theorem aXx:FC prog 253 aJR:=by
 intro xs pre r us h hp;unfold aJR at h;split at h
 . rename_i b0 n0 f0 b1 n1 f1
   cases h;obtain ⟨a7,a8⟩:=hp
   refine aU.of_eq (as':= [.agg [.d (.v (.bool b0)),.d (.lst 1 n0 fun i=> [st (gT (f0 i))])],.agg [.d (.v (.bool b1)),.d (.lst 1 n1 fun i=> [st (gT (f1 i))])]]) ?_ rfl rfl ?_
   . repeat' (first|exact j2t|refine ⟨?_,?_⟩|fail)
     all_goals first|exact j5s
   refine aE aA (l:= [(170,⟨[],aD0⟩),(55,⟨[],aBx⟩),(214,⟨[],aGQ⟩)]) ⟨aKf,aFR,aRR,trivial⟩ func253 rfl j4 false ?_
   have hr:=aDc (n:=n0) (f:=f0) a7.1
   have Dj:(fF (gN n0 f0) (gN n1 f1)).length<=(gN n0 f0).length:=List.length_filter_le _ _
   have qm:=dF (fF (gN n0 f0) (gN n1 f1))
   rw [bU] at Dj;have c0:(gN n0 fun i=> [st (gT (f0 i))])=gN n0 f0:=rfl
   rw [<-c0];have c1:(gN n1 fun i=> [st (gT (f1 i))])=gN n1 f1:=rfl
   rw [<-c1];rw [<-c0, <-c1] at qm;have im:(aP (fF (gN n0 fun i=> [st (gT (f0 i))]) (gN n1 fun i=> [st (gT (f1 i))]))).length*16<=140737488351232:=by have h1:=a7.1;have h2:(fF (gN n0 fun i=> [st (gT (f0 i))]) (gN n1 fun i=> [st (gT (f1 i))])).length<=n0:=Dj;omega
   cases mr:(!(b0&&b1)&&decide (gN (aP (fF (gN n0 fun i=> [st (gT (f0 i))]) (gN n1 fun i=> [st (gT (f1 i))]))).length (fun i=> [st (aN (aP (fF (gN n0 fun i=> [st (gT (f0 i))]) (gN n1 fun i=> [st (gT (f1 i))]))) i)])= []))
   . cases l0:(nM (⟨b0,(gN n0 fun i=> [st (gT (f0 i))])⟩:Ns)==1)
     . have uv:=congrArg Bool.not mr;simp only [Bool.not_true,Bool.not_false] at uv
       have BP:=congrArg Bool.not l0;simp only [Bool.not_true,Bool.not_false] at BP
       have em:=aKO (b:=b0) (b':=b1) (L:=(gN n0 fun i=> [st (gT (f0 i))])) (L':=(gN n1 fun i=> [st (gT (f1 i))]))
       rw [mr] at em;have eu:uP (⟨b0,(gN n0 fun i=> [st (gT (f0 i))])⟩:Ns) (⟨b1,(gN n1 fun i=> [st (gT (f1 i))])⟩:Ns)=false:=z7
       (repeat' (first|exact j6n|refine ⟨?_,?_⟩|intro _));all_goals first|apply qq|conv=>whnf
       all_goals first|exact j4d
     . have uv:=congrArg Bool.not mr;simp only [Bool.not_true,Bool.not_false] at uv
       have BP:=congrArg Bool.not l0;simp only [Bool.not_true,Bool.not_false] at BP
       have em:=aKO (b:=b0) (b':=b1) (L:=(gN n0 fun i=> [st (gT (f0 i))])) (L':=(gN n1 fun i=> [st (gT (f1 i))]))
       rw [mr] at em;have eu:uP (⟨b0,(gN n0 fun i=> [st (gT (f0 i))])⟩:Ns) (⟨b1,(gN n1 fun i=> [st (gT (f1 i))])⟩:Ns)=(nM (⟨b1,(gN n1 fun i=> [st (gT (f1 i))])⟩:Ns)==1):=z7
       (repeat' (first|exact j6n|refine ⟨?_,?_⟩|intro _));all_goals first|apply qq|conv=>whnf
       all_goals first|exact j4d
   . have uv:=congrArg Bool.not mr;simp only [Bool.not_true,Bool.not_false] at uv
     have em:=aKO (b:=b0) (b':=b1) (L:=(gN n0 fun i=> [st (gT (f0 i))])) (L':=(gN n1 fun i=> [st (gT (f1 i))]))
     rw [mr] at em;have eu:uP (⟨b0,(gN n0 fun i=> [st (gT (f0 i))])⟩:Ns) (⟨b1,(gN n1 fun i=> [st (gT (f1 i))])⟩:Ns)=false:=by unfold uP;rw [em];simp only [reduceIte,Bool.not_true,Bool.not_false,Bool.true_and,Bool.false_and,Bool.and_true,Bool.and_false,Bool.true_or,Bool.false_or,Bool.or_true,Bool.or_false,Bool.false_eq_true,Bool.true_eq_false]
     (repeat' (first|exact trivial|(with_reducible first|exact j4q|exact nx uv)|refine ⟨?_,?_⟩|intro _));all_goals first|apply qq|conv=>whnf
     all_goals first|exact j4d
 . cases h
def zK:List Ar->Option Rs
 | [.agg [.d (.v (.bool s0)),.d (.v (.int .i64 l0)),.d (.v (.int .i64 h0)),.d (.v (.bool b0)),.d (.v (.int .i64 m0)),.d (.v (.int .i64 r0)),.d (.v (.bool z0)),.d (.lst 1 n0 f0)]]=>some ⟨((n0*16<=140737488351232/\ ∀i,i<n0->f0 i= [st (gT (f0 i))])/\ Sp.inR ⟨s0,l0,h0⟩/\ Cg.inR ⟨b0,m0,r0⟩),.va (.c (.d (bo (cU (⟨⟨⟨s0,l0,h0⟩,⟨b0,m0,r0⟩⟩,⟨z0,gN n0 f0⟩⟩:Vl))))),[]⟩
 |_=>none
theorem aDo:FC prog 116 zK:=by
 intro xs pre r us h hp;unfold zK at h;split at h
 . rename_i s0 l0 h0 b0 m0 r0 z0 n0 f0
   cases h;have a7:=hp
   refine aU.of_eq (as':= [.agg [.d (.v (.bool s0)),.d (.v (.int .i64 l0)),.d (.v (.int .i64 h0)),.d (.v (.bool b0)),.d (.v (.int .i64 m0)),.d (.v (.int .i64 r0)),.d (.v (.bool z0)),.d (.lst 1 n0 fun i=> [st (gT (f0 i))])]]) ?_ rfl rfl ?_
   . repeat' (first|exact j2t|refine ⟨?_,?_⟩|fail)
     all_goals first|grind
   refine aE aA (l:= [(102,⟨[],mE⟩),(103,⟨[],rF⟩)]) ⟨oD,uF,trivial⟩ func116 rfl j4 false ?_
   have q0:=a7.2.2;unfold Cg.inR at q0;dsimp only at q0
   have c0:(gN n0 fun i=> [st (gT (f0 i))])=gN n0 f0:=rfl
   rw [<-c0];cases nA:Sp.none ⟨s0,l0,h0⟩
   . cases hb:b0
     . have ju:=congrArg Bool.not nA;simp only [Bool.not_true,Bool.not_false] at ju
       have er:=congrArg Bool.not hb;simp only [Bool.not_true,Bool.not_false] at er
       have e:cU (⟨⟨⟨s0,l0,h0⟩,⟨false,m0,r0⟩⟩,⟨z0,(gN n0 fun i=> [st (gT (f0 i))])⟩⟩:Vl)=false:=u7
       repeat' (first|exact j6c|refine ⟨?_,?_⟩|intro _)
       all_goals first|(conv=>whnf)
       all_goals first|(rw [e];rfl)
     . have ju:=congrArg Bool.not nA;simp only [Bool.not_true,Bool.not_false] at ju
       have er:=congrArg Bool.not hb;simp only [Bool.not_true,Bool.not_false] at er
       have e:cU (⟨⟨⟨s0,l0,h0⟩,⟨true,m0,r0⟩⟩,⟨z0,(gN n0 fun i=> [st (gT (f0 i))])⟩⟩:Vl)=true:=u7
       repeat' (first|exact j6c|refine ⟨?_,?_⟩|intro _)
       all_goals first|(conv=>whnf)
       all_goals first|(rw [e];rfl)
   . cases hb:b0
     . have ju:=congrArg Bool.not nA;simp only [Bool.not_true,Bool.not_false] at ju
       have er:=congrArg Bool.not hb;simp only [Bool.not_true,Bool.not_false] at er
       have e:cU (⟨⟨⟨s0,l0,h0⟩,⟨false,m0,r0⟩⟩,⟨z0,(gN n0 fun i=> [st (gT (f0 i))])⟩⟩:Vl)=false:=u7
       repeat' (first|exact trivial|(with_reducible first|exact a7.2.1|exact nx ju)|refine ⟨?_,?_⟩|intro _)
       all_goals first|(conv=>whnf)
       all_goals first|(rw [e];done)
     . have ju:=congrArg Bool.not nA;simp only [Bool.not_true,Bool.not_false] at ju
       have er:=congrArg Bool.not hb;simp only [Bool.not_true,Bool.not_false] at er
       have e:cU (⟨⟨⟨s0,l0,h0⟩,⟨true,m0,r0⟩⟩,⟨z0,(gN n0 fun i=> [st (gT (f0 i))])⟩⟩:Vl)=false:=u7
       repeat' (first|exact trivial|(with_reducible first|exact a7.2.1|exact nx ju)|refine ⟨?_,?_⟩|intro _)
       all_goals first|(conv=>whnf)
       all_goals first|(rw [e];done)
 . cases h
def aA6:List Ar->Option Rs
 | [.agg [.d (.v (.bool s0)),.d (.v (.int .i64 l0)),.d (.v (.int .i64 h0))],.agg [.d (.v (.bool b1)),.d (.v (.int .i64 m1)),.d (.v (.int .i64 r1))]]=>some ⟨(Sp.inR ⟨s0,l0,h0⟩)/\ (Cg.inR ⟨b1,m1,r1⟩),.va (Vl.ar (cQ (⟨s0,l0,h0⟩:Sp) (⟨b1,m1,r1⟩:Cg))),[]⟩
 |_=>none
theorem aFc:FC prog 208 aA6:=by
 intro xs pre r us h hp;unfold aA6 at h;split at h
 . rename_i s0 l0 h0 b1 m1 r1
   cases h;obtain ⟨a7,a8⟩:=hp
   refine aE aA (l:= [(102,⟨[],mE⟩),(103,⟨[],rF⟩),(150,⟨[],aEl⟩)]) ⟨oD,uF,aK9,trivial⟩ func208 rfl j4 true ?_
   have q0:=a7;unfold Sp.inR at q0;dsimp only at q0
   have q1:=a8;unfold Cg.inR at q1;dsimp only at q1
   cases nA:Sp.none ⟨s0,l0,h0⟩
   . cases hb:b1
     . have ju:=congrArg Bool.not nA;simp only [Bool.not_true,Bool.not_false] at ju
       have er:=congrArg Bool.not hb;simp only [Bool.not_true,Bool.not_false] at er
       have e:=bEi (s:=⟨s0,l0,h0⟩) (c:=⟨false,m1,r1⟩) rfl
       repeat' (first|exact trivial|(with_reducible first|exact a7|exact q1.1|exact q1.2|exact (fun h:(!false)=false=>absurd h j5)|exact nx nA)|refine ⟨?_,?_⟩|intro _)
       all_goals first|(conv=>whnf)
       all_goals first|(rw [e];rfl)
     . have ju:=congrArg Bool.not nA;simp only [Bool.not_true,Bool.not_false] at ju
       have er:=congrArg Bool.not hb;simp only [Bool.not_true,Bool.not_false] at er
       have e:=bEj (c:=⟨true,m1,r1⟩) nA rfl
       repeat' (first|exact trivial|(with_reducible first|exact a7|exact q1.1|exact q1.2|exact (fun h:(!true)=true=>absurd h j5)|exact nx nA)|refine ⟨?_,?_⟩|intro _)
       all_goals first|(conv=>whnf)
       all_goals first|(rw [e];done)
   . have ju:=congrArg Bool.not nA;simp only [Bool.not_true,Bool.not_false] at ju
     have e:=bEh (c:=⟨b1,m1,r1⟩) nA
     repeat' (first|exact trivial|(with_reducible first|exact a7|exact nx nA)|refine ⟨?_,?_⟩|intro _)
     all_goals first|(conv=>whnf)
     all_goals first|(rw [e];rfl)
 . cases h
def aID:List Ar->Option Rs
 | [.c (.d (.v (.int .i64 i0))),.agg [.d (.v (.bool s1)),.d (.v (.int .i64 l1)),.d (.v (.int .i64 h1)),.d (.v (.bool b1)),.d (.v (.int .i64 m1)),.d (.v (.int .i64 r1)),.d (.v (.bool z1)),.d (.lst 1 n1 f1)],.agg [.d (.v (.bool s2)),.d (.v (.int .i64 l2)),.d (.v (.int .i64 h2)),.d (.v (.bool b2)),.d (.v (.int .i64 m2)),.d (.v (.int .i64 r2)),.d (.v (.bool z2)),.d (.lst 1 n2 f2)]]=>some ⟨(-9223372036854775808<=i0/\ i0<9223372036854775808)/\ ((n1*16<=140737488351232/\ ∀i,i<n1->f1 i= [st (gT (f1 i))])/\ Sp.inR ⟨s1,l1,h1⟩/\ Cg.inR ⟨b1,m1,r1⟩)/\ ((n2*16<=140737488351232/\ ∀i,i<n2->f2 i= [st (gT (f2 i))])/\ Sp.inR ⟨s2,l2,h2⟩/\ Cg.inR ⟨b2,m2,r2⟩),.va (Vl.ar (kJ i0 (⟨⟨⟨s1,l1,h1⟩,⟨b1,m1,r1⟩⟩,⟨z1,gN n1 f1⟩⟩:Vl) (⟨⟨⟨s2,l2,h2⟩,⟨b2,m2,r2⟩⟩,⟨z2,gN n2 f2⟩⟩:Vl))),[]⟩
 |_=>none
theorem aVg:FC prog 167 aID:=by
 intro xs pre r us h hp;unfold aID at h;split at h
 . rename_i i0 s1 l1 h1 b1 m1 r1 z1 n1 f1 s2 l2 h2 b2 m2 r2 z2 n2 f2
   cases h;obtain ⟨a7,a8,af⟩:=hp
   refine aU.of_eq (as':= [.c (.d (.v (.int .i64 i0))),.agg [.d (.v (.bool s1)),.d (.v (.int .i64 l1)),.d (.v (.int .i64 h1)),.d (.v (.bool b1)),.d (.v (.int .i64 m1)),.d (.v (.int .i64 r1)),.d (.v (.bool z1)),.d (.lst 1 n1 fun i=> [st (gT (f1 i))])],.agg [.d (.v (.bool s2)),.d (.v (.int .i64 l2)),.d (.v (.int .i64 h2)),.d (.v (.bool b2)),.d (.v (.int .i64 m2)),.d (.v (.int .i64 r2)),.d (.v (.bool z2)),.d (.lst 1 n2 fun i=> [st (gT (f2 i))])]]) ?_ rfl rfl ?_
   . repeat' (first|exact j2t|refine ⟨?_,?_⟩|fail)
     all_goals first|grind
   refine aE aA (l:= [(116,⟨[],zK⟩),(207,⟨[],aGN⟩),(209,⟨[],aGP⟩),(210,⟨[],aFA⟩),(208,⟨[],aA6⟩)]) ⟨aDo,aRP,aRQ,aPm,aFc,trivial⟩ func167 rfl j4 true ?_
   have c1:(gN n1 fun i=> [st (gT (f1 i))])=gN n1 f1:=rfl
   rw [<-c1];have c2:(gN n2 fun i=> [st (gT (f2 i))])=gN n2 f2:=rfl
   rw [<-c2];have k1:=aI8 (op:=i0) a8.2.1 af.2.1
   have k2:=aJa (op:=i0) (w:=kO i0 ⟨s1,l1,h1⟩ ⟨s2,l2,h2⟩) a8.2.2 af.2.2
   have k3:=And.intro k1 k2
   cases iA:cU (⟨⟨⟨s1,l1,h1⟩,⟨b1,m1,r1⟩⟩,⟨z1,(gN n1 fun i=> [st (gT (f1 i))])⟩⟩:Vl)
   . have tj:=congrArg Bool.not iA;simp only [Bool.not_true,Bool.not_false] at tj
     have e:=bEk (op:=i0) (a:=(⟨⟨⟨s1,l1,h1⟩,⟨b1,m1,r1⟩⟩,⟨z1,(gN n1 fun i=> [st (gT (f1 i))])⟩⟩:Vl)) (b:=(⟨⟨⟨s2,l2,h2⟩,⟨b2,m2,r2⟩⟩,⟨z2,(gN n2 fun i=> [st (gT (f2 i))])⟩⟩:Vl)) iA
     repeat' (first|exact trivial|(with_reducible first|exact a8.2|exact a8.1.1|exact nx tj)|refine ⟨?_,?_⟩|intro _)
     all_goals first|(conv=>whnf)
     all_goals first|exact rfl|(rw [e];rfl)
   . cases iB:cU (⟨⟨⟨s2,l2,h2⟩,⟨b2,m2,r2⟩⟩,⟨z2,(gN n2 fun i=> [st (gT (f2 i))])⟩⟩:Vl)
     . have tj:=congrArg Bool.not iA;simp only [Bool.not_true,Bool.not_false] at tj
       have yv:=congrArg Bool.not iB;simp only [Bool.not_true,Bool.not_false] at yv
       have e:=bEl (op:=i0) (a:=(⟨⟨⟨s1,l1,h1⟩,⟨b1,m1,r1⟩⟩,⟨z1,(gN n1 fun i=> [st (gT (f1 i))])⟩⟩:Vl)) (b:=(⟨⟨⟨s2,l2,h2⟩,⟨b2,m2,r2⟩⟩,⟨z2,(gN n2 fun i=> [st (gT (f2 i))])⟩⟩:Vl)) iB
       repeat' (first|exact trivial|(with_reducible first|exact j4f|exact nx tj|exact nx yv)|refine ⟨?_,?_⟩|intro _)
       all_goals first|(conv=>whnf)
       all_goals first|exact rfl|(rw [e];rfl)
     . have tj:=congrArg Bool.not iA;simp only [Bool.not_true,Bool.not_false] at tj
       have yv:=congrArg Bool.not iB;simp only [Bool.not_true,Bool.not_false] at yv
       have e:=bEm (op:=i0) (a:=(⟨⟨⟨s1,l1,h1⟩,⟨b1,m1,r1⟩⟩,⟨z1,(gN n1 fun i=> [st (gT (f1 i))])⟩⟩:Vl)) (b:=(⟨⟨⟨s2,l2,h2⟩,⟨b2,m2,r2⟩⟩,⟨z2,(gN n2 fun i=> [st (gT (f2 i))])⟩⟩:Vl)) iA iB
       repeat' (first|exact trivial|(with_reducible first|exact a8.2|exact j5o|exact a8.1.1|exact af.2|exact af.2.1|exact af.2.2|exact af.1.1|exact a7|exact k1|exact k2|exact nx tj|exact nx yv)|refine ⟨?_,?_⟩|intro _)
       all_goals first|(conv=>whnf)
       all_goals first|exact rfl|(rw [e];done)
 . cases h
def aJS:List Ar->Option Rs
 | [.agg [.d (.v (.bool b0)),.d (.lst 1 n0 f0)],.agg [.d (.v (.bool b1)),.d (.lst 1 n1 f1)],.c (.d (.lst 1 n2 f2))]=>some ⟨(n0*16<=140737488351232/\ ∀i,i<n0->f0 i= [st (gT (f0 i))])/\ (n1*16<=140737488351232/\ ∀i,i<n1->f1 i= [st (gT (f1 i))])/\ (n2*16<=140737488351232/\ ∀i,i<n2->f2 i= [st (gT (f2 i))]),.tup [.c (.d (bo (tE (⟨b0,gN n0 f0⟩:Ns) (⟨b1,gN n1 f1⟩:Ns)))),.c (.d (bo (lF (⟨b0,gN n0 f0⟩:Ns) (⟨b1,gN n1 f1⟩:Ns) (gN n2 f2))))],[]⟩
 |_=>none
theorem aXy:FC prog 211 aJS:=by
 intro xs pre r us h hp;unfold aJS at h;split at h
 . rename_i b0 n0 f0 b1 n1 f1 n2 f2
   cases h;obtain ⟨a7,a8,af⟩:=hp
   refine aU.of_eq (as':= [.agg [.d (.v (.bool b0)),.d (.lst 1 n0 fun i=> [st (gT (f0 i))])],.agg [.d (.v (.bool b1)),.d (.lst 1 n1 fun i=> [st (gT (f1 i))])],.c (.d (.lst 1 n2 fun i=> [st (gT (f2 i))]))]) ?_ rfl rfl ?_
   . repeat' (first|exact j2t|refine ⟨?_,?_⟩|fail)
     all_goals first|exact j5s|exact af.2
   refine aE aA (l:= [(253,⟨[],aJR⟩),(215,⟨[],aF9⟩),(166,⟨[],wD⟩)]) ⟨aXx,aQK,aAK,trivial⟩ func211 rfl j4 false ?_
   have c0:(gN n0 fun i=> [st (gT (f0 i))])=gN n0 f0:=rfl
   rw [<-c0];have c1:(gN n1 fun i=> [st (gT (f1 i))])=gN n1 f1:=rfl
   rw [<-c1];have c2:(gN n2 fun i=> [st (gT (f2 i))])=gN n2 f2:=rfl
   rw [<-c2];cases mu:uP (⟨b0,(gN n0 fun i=> [st (gT (f0 i))])⟩:Ns) (⟨b1,(gN n1 fun i=> [st (gT (f1 i))])⟩:Ns)
   . have vg:=congrArg Bool.not mu;simp only [Bool.not_true,Bool.not_false] at vg
     have e:lF (⟨b0,(gN n0 fun i=> [st (gT (f0 i))])⟩:Ns) (⟨b1,(gN n1 fun i=> [st (gT (f1 i))])⟩:Ns) (gN n2 fun i=> [st (gT (f2 i))])=false:=by unfold lF;simp only [mu,reduceIte,Bool.not_true,Bool.not_false,Bool.true_and,Bool.false_and,Bool.and_true,Bool.and_false,Bool.true_or,Bool.false_or,Bool.or_true,Bool.or_false,Bool.false_eq_true,Bool.true_eq_false]
     repeat' (first|exact trivial|(with_reducible first|exact j4q|exact nx mu)|refine ⟨?_,?_⟩|intro _)
     all_goals first|(conv=>whnf)
     all_goals first|exact rfl|(rw [e];done)
   . cases on:jN (⟨b0,(gN n0 fun i=> [st (gT (f0 i))])⟩:Ns)
     . have vg:=congrArg Bool.not mu;simp only [Bool.not_true,Bool.not_false] at vg
       have yw:=congrArg Bool.not on;simp only [Bool.not_true,Bool.not_false] at yw
       have e:lF (⟨b0,(gN n0 fun i=> [st (gT (f0 i))])⟩:Ns) (⟨b1,(gN n1 fun i=> [st (gT (f1 i))])⟩:Ns) (gN n2 fun i=> [st (gT (f2 i))])=true:=by unfold lF;simp only [mu,on,reduceIte,Bool.not_true,Bool.not_false,Bool.true_and,Bool.false_and,Bool.and_true,Bool.and_false,Bool.true_or,Bool.false_or,Bool.or_true,Bool.or_false,Bool.false_eq_true,Bool.true_eq_false]
       repeat' (first|exact trivial|(with_reducible first|exact j4q|exact nx mu|exact nx on)|refine ⟨?_,?_⟩|intro _)
       all_goals first|(conv=>whnf)
       all_goals first|exact rfl|(rw [e];rfl)
     . cases me:iI (iF (⟨b0,(gN n0 fun i=> [st (gT (f0 i))])⟩:Ns)) (gN n2 fun i=> [st (gT (f2 i))])
       . have vg:=congrArg Bool.not mu;simp only [Bool.not_true,Bool.not_false] at vg
         have yw:=congrArg Bool.not on;simp only [Bool.not_true,Bool.not_false] at yw
         have BQ:=congrArg Bool.not me;simp only [Bool.not_true,Bool.not_false] at BQ
         have e:lF (⟨b0,(gN n0 fun i=> [st (gT (f0 i))])⟩:Ns) (⟨b1,(gN n1 fun i=> [st (gT (f1 i))])⟩:Ns) (gN n2 fun i=> [st (gT (f2 i))])=true:=z8
         repeat' (first|exact j6g|refine ⟨?_,?_⟩|intro _)
         all_goals first|(conv=>whnf)
         all_goals first|exact rfl|(rw [e];exact congrArg Value.bool (congrArg Bool.not me))
       . have vg:=congrArg Bool.not mu;simp only [Bool.not_true,Bool.not_false] at vg
         have yw:=congrArg Bool.not on;simp only [Bool.not_true,Bool.not_false] at yw
         have BQ:=congrArg Bool.not me;simp only [Bool.not_true,Bool.not_false] at BQ
         have e:lF (⟨b0,(gN n0 fun i=> [st (gT (f0 i))])⟩:Ns) (⟨b1,(gN n1 fun i=> [st (gT (f1 i))])⟩:Ns) (gN n2 fun i=> [st (gT (f2 i))])=false:=z8
         repeat' (first|exact j6g|refine ⟨?_,?_⟩|intro _)
         all_goals first|(conv=>whnf)
         all_goals first|exact rfl|(rw [e];exact congrArg Value.bool (congrArg Bool.not me))
 . cases h
def aIg:List Ar->Option Rs
 | [.c (.d (.v (.int .i64 i0))),.agg [.d (.v (.bool b1)),.d (.lst 1 n1 f1)],.agg [.d (.v (.bool b2)),.d (.lst 1 n2 f2)],.c (.d (.lst 1 n3 f3))]=>some ⟨(-9223372036854775808<=i0/\ i0<9223372036854775808)/\ (n1*16<=140737488351232/\ ∀i,i<n1->f1 i= [st (gT (f1 i))])/\ (n2*16<=140737488351232/\ ∀i,i<n2->f2 i= [st (gT (f2 i))])/\ (n3*16<=140737488351232/\ ∀i,i<n3->f3 i= [st (gT (f3 i))]),.va (Vl.ar (fW i0 (⟨b1,gN n1 f1⟩:Ns) (⟨b2,gN n2 f2⟩:Ns) (gN n3 f3))),[]⟩
 |_=>none
theorem aUP:FC prog 168 aIg:=by
 intro xs pre r us h hp;unfold aIg at h;split at h
 . rename_i i0 b1 n1 f1 b2 n2 f2 n3 f3
   cases h;obtain ⟨a7,a8,af,di⟩:=hp
   refine aU.of_eq (as':= [.c (.d (.v (.int .i64 i0))),.agg [.d (.v (.bool b1)),.d (.lst 1 n1 fun i=> [st (gT (f1 i))])],.agg [.d (.v (.bool b2)),.d (.lst 1 n2 fun i=> [st (gT (f2 i))])],.c (.d (.lst 1 n3 fun i=> [st (gT (f3 i))]))]) ?_ rfl rfl ?_
   . repeat' (first|exact j2t|refine ⟨?_,?_⟩|fail)
     all_goals first|exact a8.2|exact af.2|grind
   refine aE aA (l:= [(55,⟨[],aBx⟩),(211,⟨[],aJS⟩),(43,⟨[],xK⟩),(150,⟨[],aEl⟩),(131,⟨[],lN⟩),(135,⟨[],uZ⟩)]) ⟨aFR,aXy,aBt,aK9,nK,zU,trivial⟩ func168 rfl j4 true ?_
   have c1:(gN n1 fun i=> [st (gT (f1 i))])=gN n1 f1:=rfl
   rw [<-c1];have c2:(gN n2 fun i=> [st (gT (f2 i))])=gN n2 f2:=rfl
   rw [<-c2];have c3:(gN n3 fun i=> [st (gT (f3 i))])=gN n3 f3:=rfl
   rw [<-c3];have Dk:=aDn
   unfold Sp.inR Cg.inR at Dk
   all_goals first|(by_cases fx:i0=14)
   all_goals first|(have _:=(show¬_ from fx);by_cases dg:i0=15)|skip
   all_goals first|(cases v1:(!b1&&decide ((gN n1 fun i=> [st (gT (f1 i))])= [])))
   all_goals first|(have _:=(show _=false from v1);cases v2:(!b2&&decide ((gN n2 fun i=> [st (gT (f2 i))])= [])))|skip
   all_goals first|(have _:=(show _=false from v2);have _:=(show _=_ from fx);cases mu:lF (⟨b1,(gN n1 fun i=> [st (gT (f1 i))])⟩:Ns) (⟨b2,(gN n2 fun i=> [st (gT (f2 i))])⟩:Ns) (gN n3 fun i=> [st (gT (f3 i))]))|skip
   all_goals first|(have _:=(show _=false from v2);have _:=(show _=_ from dg);cases mu:lF (⟨b1,(gN n1 fun i=> [st (gT (f1 i))])⟩:Ns) (⟨b2,(gN n2 fun i=> [st (gT (f2 i))])⟩:Ns) (gN n3 fun i=> [st (gT (f3 i))]))|skip
   all_goals first|(have _:=(show _=false from mu);cases ma:tE (⟨b1,(gN n1 fun i=> [st (gT (f1 i))])⟩:Ns) (⟨b2,(gN n2 fun i=> [st (gT (f2 i))])⟩:Ns))|skip
   all_goals first|(have xn:=fx;have _:=(show _=_ from xn))|(have oq:=dg;have _:=(show _=_ from oq))|skip
   all_goals first|subst fx|subst dg|skip
   all_goals first|(have _:=xn;have e:=aMR (op:=14) (x:=(⟨b1,(gN n1 fun i=> [st (gT (f1 i))])⟩:Ns)) (y:=(⟨b2,(gN n2 fun i=> [st (gT (f2 i))])⟩:Ns)) (m:=(gN n3 fun i=> [st (gT (f3 i))])) v1)|(have _:=xn;have e:=aMS (op:=14) (x:=(⟨b1,(gN n1 fun i=> [st (gT (f1 i))])⟩:Ns)) (y:=(⟨b2,(gN n2 fun i=> [st (gT (f2 i))])⟩:Ns)) (m:=(gN n3 fun i=> [st (gT (f3 i))])) v2)|(have _:=oq;have e:=aMR (op:=15) (x:=(⟨b1,(gN n1 fun i=> [st (gT (f1 i))])⟩:Ns)) (y:=(⟨b2,(gN n2 fun i=> [st (gT (f2 i))])⟩:Ns)) (m:=(gN n3 fun i=> [st (gT (f3 i))])) v1)|(have _:=oq;have e:=aMS (op:=15) (x:=(⟨b1,(gN n1 fun i=> [st (gT (f1 i))])⟩:Ns)) (y:=(⟨b2,(gN n2 fun i=> [st (gT (f2 i))])⟩:Ns)) (m:=(gN n3 fun i=> [st (gT (f3 i))])) v2)|(have e:=aMR (op:=i0) (x:=(⟨b1,(gN n1 fun i=> [st (gT (f1 i))])⟩:Ns)) (y:=(⟨b2,(gN n2 fun i=> [st (gT (f2 i))])⟩:Ns)) (m:=(gN n3 fun i=> [st (gT (f3 i))])) v1)|(have e:=aMS (op:=i0) (x:=(⟨b1,(gN n1 fun i=> [st (gT (f1 i))])⟩:Ns)) (y:=(⟨b2,(gN n2 fun i=> [st (gT (f2 i))])⟩:Ns)) (m:=(gN n3 fun i=> [st (gT (f3 i))])) v2)|(have _:=xn;have e:=(aTG (x:=(⟨b1,(gN n1 fun i=> [st (gT (f1 i))])⟩:Ns)) (y:=(⟨b2,(gN n2 fun i=> [st (gT (f2 i))])⟩:Ns)) (m:=(gN n3 fun i=> [st (gT (f3 i))])) v1 v2 mu).1)|(have _:=xn;have e:=(aTH (x:=(⟨b1,(gN n1 fun i=> [st (gT (f1 i))])⟩:Ns)) (y:=(⟨b2,(gN n2 fun i=> [st (gT (f2 i))])⟩:Ns)) (m:=(gN n3 fun i=> [st (gT (f3 i))])) v1 v2 mu ma).1)|(have _:=xn;have e:=(aTI (x:=(⟨b1,(gN n1 fun i=> [st (gT (f1 i))])⟩:Ns)) (y:=(⟨b2,(gN n2 fun i=> [st (gT (f2 i))])⟩:Ns)) (m:=(gN n3 fun i=> [st (gT (f3 i))])) v1 v2 mu ma).1)|(have _:=oq;have e:=(aTG (x:=(⟨b1,(gN n1 fun i=> [st (gT (f1 i))])⟩:Ns)) (y:=(⟨b2,(gN n2 fun i=> [st (gT (f2 i))])⟩:Ns)) (m:=(gN n3 fun i=> [st (gT (f3 i))])) v1 v2 mu).2)|(have _:=oq;have e:=(aTH (x:=(⟨b1,(gN n1 fun i=> [st (gT (f1 i))])⟩:Ns)) (y:=(⟨b2,(gN n2 fun i=> [st (gT (f2 i))])⟩:Ns)) (m:=(gN n3 fun i=> [st (gT (f3 i))])) v1 v2 mu ma).2)|(have _:=oq;have e:=(aTI (x:=(⟨b1,(gN n1 fun i=> [st (gT (f1 i))])⟩:Ns)) (y:=(⟨b2,(gN n2 fun i=> [st (gT (f2 i))])⟩:Ns)) (m:=(gN n3 fun i=> [st (gT (f3 i))])) v1 v2 mu ma).2)|(have e:=bEn (op:=i0) (x:=(⟨b1,(gN n1 fun i=> [st (gT (f1 i))])⟩:Ns)) (y:=(⟨b2,(gN n2 fun i=> [st (gT (f2 i))])⟩:Ns)) (m:=(gN n3 fun i=> [st (gT (f3 i))])) ⟨fx,dg⟩)
   all_goals (repeat' (first|exact trivial|(with_reducible first|exact a8.1|exact af.1|exact di.1|exact aDn.1|exact aDn.2|exact (nx (bne_iff_ne.2 fx))|exact (nx (bne_iff_ne.2 dg))|exact nx v1|exact nx v2|exact nx mu|exact (nx (congrArg Bool.not ma))|exact nd)|refine ⟨?_,?_⟩|intro _));all_goals first|apply qq|conv=>whnf
   all_goals first|decide|exact rfl|(rw [e];rfl)
 . cases h
theorem aSX (s:Sp) (c:Cg):(Vl.reduce ⟨⟨s,c⟩,⟨false,[]⟩⟩).t=⟨false,[]⟩:=by show (⟨false,aP []⟩:Ns)=_;rw [aQL]
theorem aIh {v:Vl} (h:v.i.s.inR) (h2:v.i.c.inR):(Vl.reduce v).i.s.inR/\ (Vl.reduce v).i.c.inR:=aDx (Ig.clean_inR h h2).1 (Ig.clean_inR h h2).2
theorem aCZ:fP.i.s.inR/\ fP.i.c.inR:=⟨sQ,yL⟩
theorem aAR {s:Sp} {c:Cg} (h:s.inR) (h2:c.inR):(cQ s c).i.s.inR/\ (cQ s c).i.c.inR:=by
 unfold cQ;(repeat' split)<;>first|exact aCZ|exact aIh h h2
theorem aDp (s:Sp) (c:Cg):(cQ s c).t=⟨false,[]⟩:=by unfold cQ;(repeat' split)<;>first|rfl|exact aSX _ _
theorem aRS (op:Int) (a b:Vl):(kJ op a b).t=⟨false,[]⟩:=by unfold kJ;(repeat' split)<;>first|rfl|exact aDp _ _
theorem aPn {op:Int} {a b:Vl} (ha:a.i.s.inR/\ a.i.c.inR) (hb:b.i.s.inR/\ b.i.c.inR):(kJ op a b).i.s.inR/\ (kJ op a b).i.c.inR:=by
 unfold kJ;(repeat' split)<;>first|exact aCZ|exact aAR (aI8 ha.1 hb.1) (aJa ha.2 hb.2)
theorem aRT (op:Int) (a b:Ns) (m:List ByteArray):(fW op a b m).t=⟨false,[]⟩:=by unfold fW;(repeat' split)<;>first|rfl|exact aSX _ _
theorem aXz {n:Int} (h: -9223372036854775808<=n/\ n<9223372036854775808):(tF n).i.s.inR/\ (tF n).i.c.inR:=⟨Sp.of_inR h h,wS j5 h⟩
theorem aPo (op:Int) (a b:Ns) (m:List ByteArray):(fW op a b m).i.s.inR/\ (fW op a b m).i.c.inR:=by
 unfold fW;(repeat' split)<;>first|exact aCZ|exact aXz j5|exact aIh aDn.1 aDn.2
def vQ (s:Sp) (e f:Int):Sp:=if bJ (e-f)=true then Sp.meet s (Sp.of (-9223372036854775808) (e-f)) else fY
def vR (s:Sp) (e f:Int):Sp:=if bJ (e+f)=true then Sp.meet s (Sp.of (e+f) 9223372036854775807) else fY
def jO (a b:Vl) (f:Int):Vl:=cQ (vQ a.i.s b.i.s.hi f) a.i.c
def jP (a b:Vl) (f:Int):Vl:=cQ (vR b.i.s a.i.s.lo f) b.i.c
def oZ (s:Sp) (n:Int):Sp:=if s.lo=n/\ s.hi=n then fY else if s.lo=n then Sp.of (IntKind.wrap .i64 (n+1)) s.hi else if s.hi=n then Sp.of s.lo (IntKind.wrap .i64 (n-1)) else s
def lQ (a b:Vl):Vl:=if b.i.s.lo≠b.i.s.hi then cQ a.i.s a.i.c else cQ (oZ a.i.s b.i.s.lo) a.i.c
def uQ (a b:Vl):Vl:=Vl.meet ⟨a.i,⟨false,[]⟩⟩ ⟨b.i,⟨false,[]⟩⟩
def eV (op:Int) (a b:Vl):Vl:=if cU a=false then fP else if cU b=false then fP else if op=12 then jO a b 1 else if op=13 then jO a b 0 else if op=15 then lQ a b else uQ a b
def eW (op:Int) (a b:Vl):Vl:=if cU a=false then fP else if cU b=false then fP else if op=12 then jP a b 1 else if op=13 then jP a b 0 else if op=15 then lQ b a else uQ a b
section
variable {s:Sp} {e f:Int} (hs:s.inR)
theorem bBc (he: -9223372036854775808<=e/\ e<9223372036854775808) (hf:0<=f/\ f<=1):(wd ((wd e).val-(wd f).val)).val=e-f:=by
 rw [dH (v:=e) j3 j3,dH (v:=f) j3 j3,dH j3 j3]
theorem bBd (he: -9223372036854775808<=e/\ e<9223372036854775808) (hf:0<=f/\ f<=1):(wd ((wd e).val+(wd f).val)).val=e+f:=by
 rw [dH (v:=e) j3 j3,dH (v:=f) j3 j3,dH j3 j3]
theorem wv (h:bJ e=true):cI e=e:=by unfold bJ at h;unfold cI;rw [if_pos (of_decide_eq_true h)]
theorem bEo (h:bJ (e-f)=true):vQ s e f=Sp.meet s (Sp.of (-9223372036854775808) (cI (e-f))):=by rw [wv h];unfold vQ;rw [if_pos h]
theorem bEp (h:bJ (e-f)=false):vQ s e f=fY:=by unfold vQ;rw [if_neg w5]
theorem bEq (h:bJ (e+f)=true):vR s e f=Sp.meet s (Sp.of (cI (e+f)) 9223372036854775807):=by rw [wv h];unfold vR;rw [if_pos h]
theorem bEr (h:bJ (e+f)=false):vR s e f=fY:=by unfold vR;rw [if_neg w5]
include hs
theorem aZu:(vQ s e f).inR:=by
 unfold vQ;split
 . rename_i h;exact Sp.meet_inR hs (Sp.of_inR w9 (show rI _ from of_decide_eq_true (p:= -9223372036854775808<=e-f/\ e-f<9223372036854775808) h))
 . exact sQ
theorem aZv:(vR s e f).inR:=by
 unfold vR;split
 . rename_i h;exact Sp.meet_inR hs (Sp.of_inR (show rI _ from of_decide_eq_true (p:= -9223372036854775808<=e+f/\ e+f<9223372036854775808) h) w9)
 . exact sQ
end
theorem aQM {s:Sp} {n:Int} (hs:s.inR):(oZ s n).inR:=by
 obtain ⟨⟨a1,a2⟩,a3,a4⟩:=id hs
 unfold oZ;(repeat' split)
 . exact sQ
 . exact Sp.of_inR (aBG _) ⟨a3,a4⟩
 . exact Sp.of_inR ⟨a1,a2⟩ (aBG _)
 . exact hs
def aCj:List Ar->Option Rs
 | [.c (.d (.v (.int .i64 i0))),.agg [.d (.v (.bool s1)),.d (.v (.int .i64 l1)),.d (.v (.int .i64 h1)),.d (.v (.bool b1)),.d (.v (.int .i64 m1)),.d (.v (.int .i64 r1)),.d (.v (.bool z1)),.d (.lst 1 n1 f1)],.agg [.d (.v (.bool s2)),.d (.v (.int .i64 l2)),.d (.v (.int .i64 h2)),.d (.v (.bool b2)),.d (.v (.int .i64 m2)),.d (.v (.int .i64 r2)),.d (.v (.bool z2)),.d (.lst 1 n2 f2)],.c (.d (.lst 1 n3 f3))]=>some ⟨(-9223372036854775808<=i0/\ i0<9223372036854775808)/\ ((n1*16<=140737488351232/\ ∀i,i<n1->f1 i= [st (gT (f1 i))])/\ Sp.inR ⟨s1,l1,h1⟩/\ Cg.inR ⟨b1,m1,r1⟩)/\ ((n2*16<=140737488351232/\ ∀i,i<n2->f2 i= [st (gT (f2 i))])/\ Sp.inR ⟨s2,l2,h2⟩/\ Cg.inR ⟨b2,m2,r2⟩)/\ (n3*16<=140737488351232/\ ∀i,i<n3->f3 i= [st (gT (f3 i))]),.va (Vl.ar (lG i0 (⟨⟨⟨s1,l1,h1⟩,⟨b1,m1,r1⟩⟩,⟨z1,gN n1 f1⟩⟩:Vl) (⟨⟨⟨s2,l2,h2⟩,⟨b2,m2,r2⟩⟩,⟨z2,gN n2 f2⟩⟩:Vl) (gN n3 f3))),[]⟩
 |_=>none
theorem aGR:FC prog 125 aCj:=by
 intro xs pre r us h hp;unfold aCj at h;split at h
 . rename_i i0 s1 l1 h1 b1 m1 r1 z1 n1 f1 s2 l2 h2 b2 m2 r2 z2 n2 f2 n3 f3
   cases h;obtain ⟨a7,a8,af,di⟩:=hp
   refine aU.of_eq (as':= [.c (.d (.v (.int .i64 i0))),.agg [.d (.v (.bool s1)),.d (.v (.int .i64 l1)),.d (.v (.int .i64 h1)),.d (.v (.bool b1)),.d (.v (.int .i64 m1)),.d (.v (.int .i64 r1)),.d (.v (.bool z1)),.d (.lst 1 n1 fun i=> [st (gT (f1 i))])],.agg [.d (.v (.bool s2)),.d (.v (.int .i64 l2)),.d (.v (.int .i64 h2)),.d (.v (.bool b2)),.d (.v (.int .i64 m2)),.d (.v (.int .i64 r2)),.d (.v (.bool z2)),.d (.lst 1 n2 fun i=> [st (gT (f2 i))])],.c (.d (.lst 1 n3 fun i=> [st (gT (f3 i))]))]) ?_ rfl rfl ?_
   . repeat' (first|exact j2t|refine ⟨?_,?_⟩|fail)
     all_goals first|grind
   refine aE aA (l:= [(78,⟨[],aC7⟩),(167,⟨[],aID⟩),(168,⟨[],aIg⟩),(42,⟨[],xA⟩)]) ⟨aIC,aVg,aUP,aDz,trivial⟩ func125 rfl j4 true ?_
   have o1:=cX (v:=(⟨⟨⟨s1,l1,h1⟩,⟨b1,m1,r1⟩⟩,⟨z1,(gN n1 fun i=> [st (gT (f1 i))])⟩⟩:Vl)) ⟨⟨y5,fun _ _=>rfl⟩,a8.2⟩
   have o2:=cX (v:=(⟨⟨⟨s2,l2,h2⟩,⟨b2,m2,r2⟩⟩,⟨z2,(gN n2 fun i=> [st (gT (f2 i))])⟩⟩:Vl)) ⟨⟨(by rw [bU];exact af.1.1),fun _ _=>rfl⟩,af.2⟩
   have c1:(gN n1 fun i=> [st (gT (f1 i))])=gN n1 f1:=rfl
   rw [<-c1];have c2:(gN n2 fun i=> [st (gT (f2 i))])=gN n2 f2:=rfl
   rw [<-c2];have c3:(gN n3 fun i=> [st (gT (f3 i))])=gN n3 f3:=rfl
   rw [<-c3];unfold lG;have k1:=aPn (op:=i0) (a:=((⟨⟨⟨s1,l1,h1⟩,⟨b1,m1,r1⟩⟩,⟨z1,(gN n1 fun i=> [st (gT (f1 i))])⟩⟩:Vl)).of) (b:=((⟨⟨⟨s2,l2,h2⟩,⟨b2,m2,r2⟩⟩,⟨z2,(gN n2 fun i=> [st (gT (f2 i))])⟩⟩:Vl)).of) o1.2 o2.2
   have k2:=aPo i0 ((⟨⟨⟨s1,l1,h1⟩,⟨b1,m1,r1⟩⟩,⟨z1,(gN n1 fun i=> [st (gT (f1 i))])⟩⟩:Vl)).of.t ((⟨⟨⟨s2,l2,h2⟩,⟨b2,m2,r2⟩⟩,⟨z2,(gN n2 fun i=> [st (gT (f2 i))])⟩⟩:Vl)).of.t (gN n3 fun i=> [st (gT (f3 i))])
   have t1:=aRS i0 ((⟨⟨⟨s1,l1,h1⟩,⟨b1,m1,r1⟩⟩,⟨z1,(gN n1 fun i=> [st (gT (f1 i))])⟩⟩:Vl)).of ((⟨⟨⟨s2,l2,h2⟩,⟨b2,m2,r2⟩⟩,⟨z2,(gN n2 fun i=> [st (gT (f2 i))])⟩⟩:Vl)).of
   have t2:=aRT i0 ((⟨⟨⟨s1,l1,h1⟩,⟨b1,m1,r1⟩⟩,⟨z1,(gN n1 fun i=> [st (gT (f1 i))])⟩⟩:Vl)).of.t ((⟨⟨⟨s2,l2,h2⟩,⟨b2,m2,r2⟩⟩,⟨z2,(gN n2 fun i=> [st (gT (f2 i))])⟩⟩:Vl)).of.t (gN n3 fun i=> [st (gT (f3 i))])
   have u1:(kJ i0 ((⟨⟨⟨s1,l1,h1⟩,⟨b1,m1,r1⟩⟩,⟨z1,(gN n1 fun i=> [st (gT (f1 i))])⟩⟩:Vl)).of ((⟨⟨⟨s2,l2,h2⟩,⟨b2,m2,r2⟩⟩,⟨z2,(gN n2 fun i=> [st (gT (f2 i))])⟩⟩:Vl)).of).t.names= []:=by rw [t1]
   have u2:(fW i0 ((⟨⟨⟨s1,l1,h1⟩,⟨b1,m1,r1⟩⟩,⟨z1,(gN n1 fun i=> [st (gT (f1 i))])⟩⟩:Vl)).of.t ((⟨⟨⟨s2,l2,h2⟩,⟨b2,m2,r2⟩⟩,⟨z2,(gN n2 fun i=> [st (gT (f2 i))])⟩⟩:Vl)).of.t (gN n3 fun i=> [st (gT (f3 i))])).t.names= []:=by rw [t2]
   have w1:((kJ i0 ((⟨⟨⟨s1,l1,h1⟩,⟨b1,m1,r1⟩⟩,⟨z1,(gN n1 fun i=> [st (gT (f1 i))])⟩⟩:Vl)).of ((⟨⟨⟨s2,l2,h2⟩,⟨b2,m2,r2⟩⟩,⟨z2,(gN n2 fun i=> [st (gT (f2 i))])⟩⟩:Vl)).of).t.names.length+(fW i0 ((⟨⟨⟨s1,l1,h1⟩,⟨b1,m1,r1⟩⟩,⟨z1,(gN n1 fun i=> [st (gT (f1 i))])⟩⟩:Vl)).of.t ((⟨⟨⟨s2,l2,h2⟩,⟨b2,m2,r2⟩⟩,⟨z2,(gN n2 fun i=> [st (gT (f2 i))])⟩⟩:Vl)).of.t (gN n3 fun i=> [st (gT (f3 i))])).t.names.length)*16<=140737488351232:=by rw [u1,u2];decide
   have w2:(kJ i0 ((⟨⟨⟨s1,l1,h1⟩,⟨b1,m1,r1⟩⟩,⟨z1,(gN n1 fun i=> [st (gT (f1 i))])⟩⟩:Vl)).of ((⟨⟨⟨s2,l2,h2⟩,⟨b2,m2,r2⟩⟩,⟨z2,(gN n2 fun i=> [st (gT (f2 i))])⟩⟩:Vl)).of).t.names.length*16<=140737488351232:=by rw [u1];decide
   have w3:(fW i0 ((⟨⟨⟨s1,l1,h1⟩,⟨b1,m1,r1⟩⟩,⟨z1,(gN n1 fun i=> [st (gT (f1 i))])⟩⟩:Vl)).of.t ((⟨⟨⟨s2,l2,h2⟩,⟨b2,m2,r2⟩⟩,⟨z2,(gN n2 fun i=> [st (gT (f2 i))])⟩⟩:Vl)).of.t (gN n3 fun i=> [st (gT (f3 i))])).t.names.length*16<=140737488351232:=by rw [u2];decide
   have K1:=k1
   have K2:=k2
   unfold Sp.inR Cg.inR at K1 K2;unfold aY at o1 o2
   (repeat' (first|exact trivial|(with_reducible first|exact a7|exact di.1|exact o1|exact o2|exact o1.1.1|exact o2.1.1|exact j4f)|refine ⟨?_,?_⟩|intro _));all_goals first|apply qq|conv=>whnf
   all_goals (try simp only [bI] at*)
   all_goals first|(with_reducible first|exact K1.1.1.1|exact K1.1.1.2|exact K1.1.2.1|exact K1.1.2.2|exact K1.2.1.1|exact K1.2.1.2|exact K1.2.2.1|exact K1.2.2.2|exact K2.1.1.1|exact K2.1.1.2|exact K2.1.2.1|exact K2.1.2.2|exact K2.2.1.1|exact K2.2.1.2|exact K2.2.2.1|exact K2.2.2.2)|exact w1|exact w2|exact w3|exact rfl
 . cases h
def oC (op:Int) (a:Vl):Vl:=if cU a.of=false then fP else cQ (mH op a.of.i.s) (xD op a.of.i.c (decide (op=5)&&kO 11 (Sp.of 0 0) a.of.i.s))
theorem aTJ {op:Int} {a:Vl} (h:cU a.of=false):oC op a=fP:=by unfold oC;rw [if_pos h]
theorem aTK {op:Int} {a:Vl} (h:cU a.of=true):oC op a=cQ (mH op a.of.i.s) (xD op a.of.i.c (decide (op=5)&&kO 11 (Sp.of 0 0) a.of.i.s)):=by unfold oC;rw [if_neg w5]
theorem bEs {a:Vl} (h:cU a.of=true):oC 5 a=cQ (mH 5 a.of.i.s) (xD 5 a.of.i.c (kO 11 (Sp.of 0 0) a.of.i.s)):=aTK h
theorem bEt {op:Int} {a:Vl} (h:cU a.of=true) (h5:op≠5):oC op a=cQ (mH op a.of.i.s) (xD op a.of.i.c false):=by rw [aTK h,decide_eq_false h5];rfl
def aIE:List Ar->Option Rs
 | [.c (.d (.v (.int .i64 i0))),.agg [.d (.v (.bool s1)),.d (.v (.int .i64 l1)),.d (.v (.int .i64 h1)),.d (.v (.bool b1)),.d (.v (.int .i64 m1)),.d (.v (.int .i64 r1)),.d (.v (.bool z1)),.d (.lst 1 n1 f1)]]=>some ⟨(-9223372036854775808<=i0/\ i0<9223372036854775808)/\ ((n1*16<=140737488351232/\ ∀i,i<n1->f1 i= [st (gT (f1 i))])/\ Sp.inR ⟨s1,l1,h1⟩/\ Cg.inR ⟨b1,m1,r1⟩),.va (Vl.ar (oC i0 (⟨⟨⟨s1,l1,h1⟩,⟨b1,m1,r1⟩⟩,⟨z1,gN n1 f1⟩⟩:Vl))),[]⟩
 |_=>none
theorem aVh:FC prog 236 aIE:=by
 intro xs pre r us h hp;unfold aIE at h;split at h
 . rename_i i0 s1 l1 h1 b1 m1 r1 z1 n1 f1
   cases h;obtain ⟨a7,a8⟩:=hp
   refine aU.of_eq (as':= [.c (.d (.v (.int .i64 i0))),.agg [.d (.v (.bool s1)),.d (.v (.int .i64 l1)),.d (.v (.int .i64 h1)),.d (.v (.bool b1)),.d (.v (.int .i64 m1)),.d (.v (.int .i64 r1)),.d (.v (.bool z1)),.d (.lst 1 n1 fun i=> [st (gT (f1 i))])]]) ?_ rfl rfl ?_
   . repeat' (first|exact j2t|refine ⟨?_,?_⟩|fail)
     all_goals first|grind
   refine aE aA (l:= [(78,⟨[],aC7⟩),(116,⟨[],zK⟩),(210,⟨[],aFA⟩),(83,⟨[],xH⟩),(278,⟨[],aKL⟩),(279,⟨[],aKN⟩),(208,⟨[],aA6⟩)]) ⟨aIC,aDo,aPm,aBr,aZr,aZt,aFc,trivial⟩ func236 rfl j4 true ?_
   have o1:=cX (v:=(⟨⟨⟨s1,l1,h1⟩,⟨b1,m1,r1⟩⟩,⟨z1,(gN n1 fun i=> [st (gT (f1 i))])⟩⟩:Vl)) ⟨⟨y5,fun _ _=>rfl⟩,a8.2⟩
   have c1:(gN n1 fun i=> [st (gT (f1 i))])=gN n1 f1:=rfl
   rw [<-c1];have z0:Sp.inR (Sp.of 0 0):=Sp.of_inR w9 w9
   have y1:=aOy (op:=i0) o1.2.1
   have y2:=fun w=>aOA (op:=i0) (w:=w) o1.2.2
   unfold aY at o1
   all_goals first|(by_cases e5:i0=5)
   all_goals first|(cases iA:cU (⟨(Vl.of (⟨⟨⟨s1,l1,h1⟩,⟨b1,m1,r1⟩⟩,⟨z1,(gN n1 fun i=> [st (gT (f1 i))])⟩⟩:Vl)).i,⟨(Vl.of (⟨⟨⟨s1,l1,h1⟩,⟨b1,m1,r1⟩⟩,⟨z1,(gN n1 fun i=> [st (gT (f1 i))])⟩⟩:Vl)).t.null,gN (Vl.of (⟨⟨⟨s1,l1,h1⟩,⟨b1,m1,r1⟩⟩,⟨z1,(gN n1 fun i=> [st (gT (f1 i))])⟩⟩:Vl)).t.names.length fun k_=> [st (aN (Vl.of (⟨⟨⟨s1,l1,h1⟩,⟨b1,m1,r1⟩⟩,⟨z1,(gN n1 fun i=> [st (gT (f1 i))])⟩⟩:Vl)).t.names k_)]⟩⟩:Vl))
   all_goals first|(have k5:=e5;have _:=(show _=_ from k5))|skip
   all_goals first|subst e5|skip
   all_goals first|(have _:=k5;have e:=aTJ (op:=5) (a:=(⟨⟨⟨s1,l1,h1⟩,⟨b1,m1,r1⟩⟩,⟨z1,(gN n1 fun i=> [st (gT (f1 i))])⟩⟩:Vl)) iA)|(have e:=aTJ (op:=i0) (a:=(⟨⟨⟨s1,l1,h1⟩,⟨b1,m1,r1⟩⟩,⟨z1,(gN n1 fun i=> [st (gT (f1 i))])⟩⟩:Vl)) iA)|(have _:=k5;have e:=bEs (a:=(⟨⟨⟨s1,l1,h1⟩,⟨b1,m1,r1⟩⟩,⟨z1,(gN n1 fun i=> [st (gT (f1 i))])⟩⟩:Vl)) iA)|(have e:=bEt (op:=i0) (a:=(⟨⟨⟨s1,l1,h1⟩,⟨b1,m1,r1⟩⟩,⟨z1,(gN n1 fun i=> [st (gT (f1 i))])⟩⟩:Vl)) iA e5)
   all_goals (repeat' (first|exact trivial|(with_reducible first|exact a7|exact o1|exact o1.2.1|exact o1.2.2|exact And.intro z0 o1.2.1|exact And.intro y1 (y2 _)|exact a8.2|exact a8.1.1|exact (nx (beq_eq_false_iff_ne.2 e5))|exact (nx (congrArg Bool.not iA))|exact nd)|refine ⟨?_,?_⟩|intro _));all_goals first|apply qq|conv=>whnf
   all_goals (try simp only [bI] at*)
   all_goals first|decide|exact rfl|(rw [e];done)|(rw [e];rfl)
 . cases h
end Go.Proofs.YtiblbnhknemloaaGreat
