/- What is left of values where a comparison holds: some of it. No condition. -/
import Derived.Test.YtiblbnhknemloaaGreatG14
set_option linter.all false
set_option maxHeartbeats 8000000
set_option maxRecDepth 100000
namespace Go.Proofs.YtiblbnhknemloaaGreat
open Tryz
open Go.Sx
section
variable {s:Sp} {e f X:Int}
theorem aSZ (hX:X=e-f) (h:bJ X=true):vQ s e f=Sp.meet s (Sp.of (-9223372036854775808) (cI X)):=by subst hX;exact bEo h
theorem aS0 (hX:X=e-f) (h:bJ X=false):vQ s e f=fY:=by subst hX;exact bEp h
theorem aS1 (hX:X=e+f) (h:bJ X=true):vR s e f=Sp.meet s (Sp.of (cI X) 9223372036854775807):=by subst hX;exact bEq h
theorem aS2 (hX:X=e+f) (h:bJ X=false):vR s e f=fY:=by subst hX;exact bEr h
end
section
variable {s:Sp} {n:Int}
theorem bEC (h:(s.lo==n)=true) (h2:(s.hi==n)=true):oZ s n=fY:=by unfold oZ;rw [if_pos ⟨eq_of_beq h,eq_of_beq h2⟩]
theorem bED (h:(s.lo==n)=true) (h2:(s.hi==n)=false):oZ s n=Sp.of (IntKind.wrap .i64 (n+1)) s.hi:=by unfold oZ;rw [if_neg (fun k=>ne_of_beq_false h2 k.2),if_pos (eq_of_beq h)]
theorem bEE (h:(s.lo==n)=false) (h2:(s.hi==n)=true):oZ s n=Sp.of s.lo (IntKind.wrap .i64 (n-1)):=by unfold oZ;rw [if_neg (fun k=>ne_of_beq_false h k.1),if_neg (ne_of_beq_false h),if_pos (eq_of_beq h2)]
theorem bEF (h:(s.lo==n)=false) (h2:(s.hi==n)=false):oZ s n=s:=by unfold oZ;rw [if_neg (fun k=>ne_of_beq_false h k.1),if_neg (ne_of_beq_false h),if_neg (ne_of_beq_false h2)]
end
section
variable {a b:Vl} {op:Int}
theorem bEG (h:(b.i.s.lo !=b.i.s.hi)=true):lQ a b=cQ a.i.s a.i.c:=by unfold lQ;rw [if_pos w7]
theorem bEH (h:(b.i.s.lo !=b.i.s.hi)=false):lQ a b=cQ (oZ a.i.s b.i.s.lo) a.i.c:=by unfold lQ;rw [if_neg w7]
theorem aCk (h:cU a=false):eV op a b=fP/\ eW op a b=fP:=by unfold eV eW;rw [if_pos h,if_pos h];exact ⟨rfl,rfl⟩
theorem aCl (h:cU b=false):eV op a b=fP/\ eW op a b=fP:=by
 unfold eV eW;by_cases k:cU a=false
 . rw [if_pos k,if_pos k];exact ⟨rfl,rfl⟩
 . rw [if_neg k,if_neg k,if_pos h,if_pos h];exact ⟨rfl,rfl⟩
section
variable (h:cU a=true) (h2:cU b=true)
include h h2
theorem aHj:eV op a b=(if op=12 then jO a b 1 else if op=13 then jO a b 0 else if op=15 then lQ a b else uQ a b)/\ eW op a b=(if op=12 then jP a b 1 else if op=13 then jP a b 0 else if op=15 then lQ b a else uQ a b):=by
 constructor
 . unfold eV;rw [if_neg w5,if_neg x9]
 . unfold eW;rw [if_neg w5,if_neg x9]
theorem aLK:eV 12 a b=jO a b 1/\ eW 12 a b=jP a b 1:=aHj (op:=12) h h2
theorem aLL:eV 13 a b=jO a b 0/\ eW 13 a b=jP a b 0:=aHj (op:=13) h h2
theorem aLM:eV 15 a b=lQ a b/\ eW 15 a b=lQ b a:=aHj (op:=15) h h2
theorem aMU (ec:op≠12) (ei:op≠13) (dg:op≠15):eV op a b=uQ a b/\ eW op a b=uQ a b:=by
 have:=aHj (op:=op) h h2;rw [if_neg ec,if_neg ei,if_neg dg,if_neg ec,if_neg ei,if_neg dg] at this;exact this
end
end
theorem aIi {a b:Vl} (ha:a.i.s.inR/\ a.i.c.inR) (hb:b.i.s.inR/\ b.i.c.inR):(uQ a b).i.s.inR/\ (uQ a b).i.c.inR:=by
 have:=aOr (a:=⟨a.i,⟨false,[]⟩⟩) (b:=⟨b.i,⟨false,[]⟩⟩) ha hb
 exact aIh this.1 this.2
def aGc:List Ar->Option Rs
 | [.agg [.d (.v (.bool s0)),.d (.v (.int .i64 l0)),.d (.v (.int .i64 h0)),.d (.v (.bool b0)),.d (.v (.int .i64 m0)),.d (.v (.int .i64 r0)),.d (.v (.bool z0)),.d (.lst 1 n0 f0)],.agg [.d (.v (.bool s1)),.d (.v (.int .i64 l1)),.d (.v (.int .i64 h1)),.d (.v (.bool b1)),.d (.v (.int .i64 m1)),.d (.v (.int .i64 r1)),.d (.v (.bool z1)),.d (.lst 1 n1 f1)],.c (.d (.v (.int .i64 i2)))]=>some ⟨((n0*16<=140737488351232/\ ∀i,i<n0->f0 i= [st (gT (f0 i))])/\ Sp.inR ⟨s0,l0,h0⟩/\ Cg.inR ⟨b0,m0,r0⟩)/\ ((n1*16<=140737488351232/\ ∀i,i<n1->f1 i= [st (gT (f1 i))])/\ Sp.inR ⟨s1,l1,h1⟩/\ Cg.inR ⟨b1,m1,r1⟩)/\ (-9223372036854775808<=i2/\ i2<9223372036854775808)/\ (0<=i2/\ i2<=1),.tup [Vl.ar (jO (⟨⟨⟨s0,l0,h0⟩,⟨b0,m0,r0⟩⟩,⟨z0,gN n0 f0⟩⟩:Vl) (⟨⟨⟨s1,l1,h1⟩,⟨b1,m1,r1⟩⟩,⟨z1,gN n1 f1⟩⟩:Vl) i2),Vl.ar (jP (⟨⟨⟨s0,l0,h0⟩,⟨b0,m0,r0⟩⟩,⟨z0,gN n0 f0⟩⟩:Vl) (⟨⟨⟨s1,l1,h1⟩,⟨b1,m1,r1⟩⟩,⟨z1,gN n1 f1⟩⟩:Vl) i2)],[]⟩
 |_=>none
theorem aQU:FC prog 212 aGc:=by
 intro xs pre r us h hp;unfold aGc at h;split at h
 . rename_i s0 l0 h0 b0 m0 r0 z0 n0 f0 s1 l1 h1 b1 m1 r1 z1 n1 f1 i2
   cases h;obtain ⟨a7,a8,af,di⟩:=hp
   refine aU.of_eq (as':= [.agg [.d (.v (.bool s0)),.d (.v (.int .i64 l0)),.d (.v (.int .i64 h0)),.d (.v (.bool b0)),.d (.v (.int .i64 m0)),.d (.v (.int .i64 r0)),.d (.v (.bool z0)),.d (.lst 1 n0 fun i=> [st (gT (f0 i))])],.agg [.d (.v (.bool s1)),.d (.v (.int .i64 l1)),.d (.v (.int .i64 h1)),.d (.v (.bool b1)),.d (.v (.int .i64 m1)),.d (.v (.int .i64 r1)),.d (.v (.bool z1)),.d (.lst 1 n1 fun i=> [st (gT (f1 i))])],.c (.d (.v (.int .i64 i2)))]) ?_ rfl rfl ?_
   . repeat' (first|exact j2t|refine ⟨?_,?_⟩|fail)
     all_goals first|grind
   refine aE aA (l:= [(177,⟨[],qH⟩),(176,⟨[],uU⟩),(237,⟨[],aBS⟩),(226,⟨[],uV⟩),(131,⟨[],lN⟩),(191,⟨[],aBw⟩),(208,⟨[],aA6⟩)]) ⟨sW,zQ,aGn,zR,nK,aFO,aFc,trivial⟩ func212 rfl j4 true ?_
   obtain ⟨jw,EN⟩:=id a7.2.1
   obtain ⟨mi,tm⟩:=id a8.2.1
   dsimp only at jw EN mi tm
   have v1:=bBc tm di
   have v2:=bBd jw di
   have BZ:=aBs (wd ((wd h1).val-(wd i2).val)).val
   have C0:=aBs (wd ((wd l0).val+(wd i2).val)).val
   have y1:Sp.inR (Sp.of (-9223372036854775808) (cI (wd ((wd h1).val-(wd i2).val)).val)):=Sp.of_inR w9 BZ
   have y2:Sp.inR (Sp.of (cI (wd ((wd l0).val+(wd i2).val)).val) 9223372036854775807):=Sp.of_inR C0 w9
   have y3:=Sp.meet_inR a7.2.1 y1
   have y4:=Sp.meet_inR a8.2.1 y2
   have dj:(-9223372036854775808:Int)<= -9223372036854775808/\ (-9223372036854775808:Int)<9223372036854775808:=j5
   have sn:(-9223372036854775808:Int)<=9223372036854775807/\ (9223372036854775807:Int)<9223372036854775808:=j5
   have nn:=sQ
   have c0:(gN n0 fun i=> [st (gT (f0 i))])=gN n0 f0:=rfl
   rw [<-c0];have c1:(gN n1 fun i=> [st (gT (f1 i))])=gN n1 f1:=rfl
   rw [<-c1];cases w1:bJ (wd ((wd h1).val-(wd i2).val)).val
   . cases w2:bJ (wd ((wd l0).val+(wd i2).val)).val
     . have ou:=congrArg Bool.not w1;simp only [Bool.not_true,Bool.not_false] at ou
       have vl:=congrArg Bool.not w2;simp only [Bool.not_true,Bool.not_false] at vl
       have ea:=aS0 (s:=(⟨s0,l0,h0⟩:Sp)) v1 w1
       have eb:=aS2 (s:=(⟨s1,l1,h1⟩:Sp)) v2 w2
       have eA:jO (⟨⟨⟨s0,l0,h0⟩,⟨b0,m0,r0⟩⟩,⟨z0,(gN n0 fun i=> [st (gT (f0 i))])⟩⟩:Vl) (⟨⟨⟨s1,l1,h1⟩,⟨b1,m1,r1⟩⟩,⟨z1,(gN n1 fun i=> [st (gT (f1 i))])⟩⟩:Vl) i2=cQ fY (⟨b0,m0,r0⟩:Cg):=x5
       have eB:jP (⟨⟨⟨s0,l0,h0⟩,⟨b0,m0,r0⟩⟩,⟨z0,(gN n0 fun i=> [st (gT (f0 i))])⟩⟩:Vl) (⟨⟨⟨s1,l1,h1⟩,⟨b1,m1,r1⟩⟩,⟨z1,(gN n1 fun i=> [st (gT (f1 i))])⟩⟩:Vl) i2=cQ fY (⟨b1,m1,r1⟩:Cg):=x4
       (repeat' (first|exact trivial|(with_reducible first|exact a7.2.2|exact a8.2.2|exact af|exact jw|exact tm|exact j4i)|refine ⟨?_,?_⟩|intro _));all_goals first|apply qq|conv=>whnf
       all_goals first|decide|(rw [eA];rfl)|(rw [eB];rfl)
     . have ou:=congrArg Bool.not w1;simp only [Bool.not_true,Bool.not_false] at ou
       have vl:=congrArg Bool.not w2;simp only [Bool.not_true,Bool.not_false] at vl
       have ea:=aS0 (s:=(⟨s0,l0,h0⟩:Sp)) v1 w1
       have eb:=aS1 (s:=(⟨s1,l1,h1⟩:Sp)) v2 w2
       have eA:jO (⟨⟨⟨s0,l0,h0⟩,⟨b0,m0,r0⟩⟩,⟨z0,(gN n0 fun i=> [st (gT (f0 i))])⟩⟩:Vl) (⟨⟨⟨s1,l1,h1⟩,⟨b1,m1,r1⟩⟩,⟨z1,(gN n1 fun i=> [st (gT (f1 i))])⟩⟩:Vl) i2=cQ fY (⟨b0,m0,r0⟩:Cg):=x5
       have eB:jP (⟨⟨⟨s0,l0,h0⟩,⟨b0,m0,r0⟩⟩,⟨z0,(gN n0 fun i=> [st (gT (f0 i))])⟩⟩:Vl) (⟨⟨⟨s1,l1,h1⟩,⟨b1,m1,r1⟩⟩,⟨z1,(gN n1 fun i=> [st (gT (f1 i))])⟩⟩:Vl) i2=cQ (Sp.meet (⟨s1,l1,h1⟩:Sp) (Sp.of (cI (wd ((wd l0).val+(wd i2).val)).val) 9223372036854775807)) (⟨b1,m1,r1⟩:Cg):=x4
       (repeat' (first|exact trivial|(with_reducible first|exact a7.2.2|exact j5o|exact af|exact y2|exact y4|exact jw|exact tm|exact And.intro C0 sn|exact j4i)|refine ⟨?_,?_⟩|intro _));all_goals first|apply qq|conv=>whnf
       all_goals first|decide|(rw [eA];rfl)|(rw [eB];done)
   . cases w2:bJ (wd ((wd l0).val+(wd i2).val)).val
     . have ou:=congrArg Bool.not w1;simp only [Bool.not_true,Bool.not_false] at ou
       have vl:=congrArg Bool.not w2;simp only [Bool.not_true,Bool.not_false] at vl
       have ea:=aSZ (s:=(⟨s0,l0,h0⟩:Sp)) v1 w1
       have eb:=aS2 (s:=(⟨s1,l1,h1⟩:Sp)) v2 w2
       have eA:jO (⟨⟨⟨s0,l0,h0⟩,⟨b0,m0,r0⟩⟩,⟨z0,(gN n0 fun i=> [st (gT (f0 i))])⟩⟩:Vl) (⟨⟨⟨s1,l1,h1⟩,⟨b1,m1,r1⟩⟩,⟨z1,(gN n1 fun i=> [st (gT (f1 i))])⟩⟩:Vl) i2=cQ (Sp.meet (⟨s0,l0,h0⟩:Sp) (Sp.of (-9223372036854775808) (cI (wd ((wd h1).val-(wd i2).val)).val))) (⟨b0,m0,r0⟩:Cg):=x5
       have eB:jP (⟨⟨⟨s0,l0,h0⟩,⟨b0,m0,r0⟩⟩,⟨z0,(gN n0 fun i=> [st (gT (f0 i))])⟩⟩:Vl) (⟨⟨⟨s1,l1,h1⟩,⟨b1,m1,r1⟩⟩,⟨z1,(gN n1 fun i=> [st (gT (f1 i))])⟩⟩:Vl) i2=cQ fY (⟨b1,m1,r1⟩:Cg):=x4
       (repeat' (first|exact trivial|(with_reducible first|exact j4o|exact a8.2.2|exact af|exact y1|exact y3|exact jw|exact tm|exact And.intro dj BZ|exact j4i)|refine ⟨?_,?_⟩|intro _));all_goals first|apply qq|conv=>whnf
       all_goals first|decide|(rw [eA];done)|(rw [eB];rfl)
     . have ou:=congrArg Bool.not w1;simp only [Bool.not_true,Bool.not_false] at ou
       have vl:=congrArg Bool.not w2;simp only [Bool.not_true,Bool.not_false] at vl
       have ea:=aSZ (s:=(⟨s0,l0,h0⟩:Sp)) v1 w1
       have eb:=aS1 (s:=(⟨s1,l1,h1⟩:Sp)) v2 w2
       have eA:jO (⟨⟨⟨s0,l0,h0⟩,⟨b0,m0,r0⟩⟩,⟨z0,(gN n0 fun i=> [st (gT (f0 i))])⟩⟩:Vl) (⟨⟨⟨s1,l1,h1⟩,⟨b1,m1,r1⟩⟩,⟨z1,(gN n1 fun i=> [st (gT (f1 i))])⟩⟩:Vl) i2=cQ (Sp.meet (⟨s0,l0,h0⟩:Sp) (Sp.of (-9223372036854775808) (cI (wd ((wd h1).val-(wd i2).val)).val))) (⟨b0,m0,r0⟩:Cg):=x5
       have eB:jP (⟨⟨⟨s0,l0,h0⟩,⟨b0,m0,r0⟩⟩,⟨z0,(gN n0 fun i=> [st (gT (f0 i))])⟩⟩:Vl) (⟨⟨⟨s1,l1,h1⟩,⟨b1,m1,r1⟩⟩,⟨z1,(gN n1 fun i=> [st (gT (f1 i))])⟩⟩:Vl) i2=cQ (Sp.meet (⟨s1,l1,h1⟩:Sp) (Sp.of (cI (wd ((wd l0).val+(wd i2).val)).val) 9223372036854775807)) (⟨b1,m1,r1⟩:Cg):=x4
       repeat' (first|exact trivial|(with_reducible first|exact j4o|exact j5o|exact af|exact y1|exact y2|exact y3|exact y4|exact jw|exact tm|exact And.intro dj BZ|exact And.intro C0 sn|exact j4i)|refine ⟨?_,?_⟩|intro _)
       all_goals first|(conv=>whnf)
       all_goals first|(rw [eA];done)|(rw [eB];done)
 . cases h
def aIH:List Ar->Option Rs
 | [.agg [.d (.v (.bool s0)),.d (.v (.int .i64 l0)),.d (.v (.int .i64 h0))],.c (.d (.v (.int .i64 i1)))]=>some ⟨(Sp.inR ⟨s0,l0,h0⟩)/\ (-9223372036854775808<=i1/\ i1<9223372036854775808),.va (Sp.ar (oZ (⟨s0,l0,h0⟩:Sp) i1)),[]⟩
 |_=>none
theorem aVi:FC prog 254 aIH:=by
 intro xs pre r us h hp;unfold aIH at h;split at h
 . rename_i s0 l0 h0 i1
   cases h;obtain ⟨a7,a8⟩:=hp
   refine aE aA (l:= [(131,⟨[],lN⟩)]) ⟨nK,trivial⟩ func254 rfl j4 false ?_
   have q0:=a7;unfold Sp.inR at q0;dsimp only at q0
   cases o3:(l0==i1)
   . cases mv:(h0==i1)
     . have ov:=congrArg Bool.not o3;simp only [Bool.not_true,Bool.not_false] at ov
       have ox:=congrArg Bool.not mv;simp only [Bool.not_true,Bool.not_false] at ox
       have e:=bEF (s:=(⟨s0,l0,h0⟩:Sp)) (n:=i1) o3 mv
       repeat' (first|exact trivial|(with_reducible first|exact nx o3|exact nx mv)|refine ⟨?_,?_⟩|intro _)
       all_goals first|(conv=>whnf)
       all_goals first|(rw [e];done)
     . have ov:=congrArg Bool.not o3;simp only [Bool.not_true,Bool.not_false] at ov
       have ox:=congrArg Bool.not mv;simp only [Bool.not_true,Bool.not_false] at ox
       have e:=bEE (s:=(⟨s0,l0,h0⟩:Sp)) (n:=i1) o3 mv
       repeat' (first|exact trivial|(with_reducible first|exact aBG _|exact q0.1|exact nx o3|exact nx mv)|refine ⟨?_,?_⟩|intro _)
       all_goals first|(conv=>whnf)
       all_goals first|(rw [e];done)
   . cases mv:(h0==i1)
     . have ov:=congrArg Bool.not o3;simp only [Bool.not_true,Bool.not_false] at ov
       have ox:=congrArg Bool.not mv;simp only [Bool.not_true,Bool.not_false] at ox
       have e:=bED (s:=(⟨s0,l0,h0⟩:Sp)) (n:=i1) o3 mv
       repeat' (first|exact trivial|(with_reducible first|exact aBG _|exact q0.2|exact nx o3|exact nx mv)|refine ⟨?_,?_⟩|intro _)
       all_goals first|(conv=>whnf)
       all_goals first|(rw [e];done)
     . have ov:=congrArg Bool.not o3;simp only [Bool.not_true,Bool.not_false] at ov
       have ox:=congrArg Bool.not mv;simp only [Bool.not_true,Bool.not_false] at ox
       have e:=bEC (s:=(⟨s0,l0,h0⟩:Sp)) (n:=i1) o3 mv
       repeat' (first|exact trivial|(with_reducible first|exact nx o3|exact nx mv)|refine ⟨?_,?_⟩|intro _)
       all_goals first|(conv=>whnf)
       all_goals first|(rw [e];rfl)
 . cases h
def aFf:List Ar->Option Rs
 | [.agg [.d (.v (.bool s0)),.d (.v (.int .i64 l0)),.d (.v (.int .i64 h0)),.d (.v (.bool b0)),.d (.v (.int .i64 m0)),.d (.v (.int .i64 r0)),.d (.v (.bool z0)),.d (.lst 1 n0 f0)],.agg [.d (.v (.bool s1)),.d (.v (.int .i64 l1)),.d (.v (.int .i64 h1)),.d (.v (.bool b1)),.d (.v (.int .i64 m1)),.d (.v (.int .i64 r1)),.d (.v (.bool z1)),.d (.lst 1 n1 f1)]]=>some ⟨((n0*16<=140737488351232/\ ∀i,i<n0->f0 i= [st (gT (f0 i))])/\ Sp.inR ⟨s0,l0,h0⟩/\ Cg.inR ⟨b0,m0,r0⟩)/\ ((n1*16<=140737488351232/\ ∀i,i<n1->f1 i= [st (gT (f1 i))])/\ Sp.inR ⟨s1,l1,h1⟩/\ Cg.inR ⟨b1,m1,r1⟩),.va (Vl.ar (lQ (⟨⟨⟨s0,l0,h0⟩,⟨b0,m0,r0⟩⟩,⟨z0,gN n0 f0⟩⟩:Vl) (⟨⟨⟨s1,l1,h1⟩,⟨b1,m1,r1⟩⟩,⟨z1,gN n1 f1⟩⟩:Vl))),[]⟩
 |_=>none
theorem aOD:FC prog 213 aFf:=by
 intro xs pre r us h hp;unfold aFf at h;split at h
 . rename_i s0 l0 h0 b0 m0 r0 z0 n0 f0 s1 l1 h1 b1 m1 r1 z1 n1 f1
   cases h;obtain ⟨a7,a8⟩:=hp
   refine aU.of_eq (as':= [.agg [.d (.v (.bool s0)),.d (.v (.int .i64 l0)),.d (.v (.int .i64 h0)),.d (.v (.bool b0)),.d (.v (.int .i64 m0)),.d (.v (.int .i64 r0)),.d (.v (.bool z0)),.d (.lst 1 n0 fun i=> [st (gT (f0 i))])],.agg [.d (.v (.bool s1)),.d (.v (.int .i64 l1)),.d (.v (.int .i64 h1)),.d (.v (.bool b1)),.d (.v (.int .i64 m1)),.d (.v (.int .i64 r1)),.d (.v (.bool z1)),.d (.lst 1 n1 fun i=> [st (gT (f1 i))])]]) ?_ rfl rfl ?_
   . repeat' (first|exact j2t|refine ⟨?_,?_⟩|fail)
     all_goals first|grind
   refine aE aA (l:= [(208,⟨[],aA6⟩),(254,⟨[],aIH⟩)]) ⟨aFc,aVi,trivial⟩ func213 rfl j4 true ?_
   obtain ⟨mi,tm⟩:=id a8.2.1
   dsimp only at mi tm
   have y1:=aQM (n:=l1) a7.2.1
   have c0:(gN n0 fun i=> [st (gT (f0 i))])=gN n0 f0:=rfl
   rw [<-c0];have c1:(gN n1 fun i=> [st (gT (f1 i))])=gN n1 f1:=rfl
   rw [<-c1];cases w1:(l1 !=h1)
   . have ou:=congrArg Bool.not w1;simp only [Bool.not_true,Bool.not_false] at ou
     have e:=bEH (a:=(⟨⟨⟨s0,l0,h0⟩,⟨b0,m0,r0⟩⟩,⟨z0,(gN n0 fun i=> [st (gT (f0 i))])⟩⟩:Vl)) (b:=(⟨⟨⟨s1,l1,h1⟩,⟨b1,m1,r1⟩⟩,⟨z1,(gN n1 fun i=> [st (gT (f1 i))])⟩⟩:Vl)) w1
     repeat' (first|exact trivial|(with_reducible first|exact j4o|exact y1|exact mi|exact nx w1)|refine ⟨?_,?_⟩|intro _)
     all_goals first|(conv=>whnf)
     all_goals first|(rw [e];done)
   . have ou:=congrArg Bool.not w1;simp only [Bool.not_true,Bool.not_false] at ou
     have e:=bEG (a:=(⟨⟨⟨s0,l0,h0⟩,⟨b0,m0,r0⟩⟩,⟨z0,(gN n0 fun i=> [st (gT (f0 i))])⟩⟩:Vl)) (b:=(⟨⟨⟨s1,l1,h1⟩,⟨b1,m1,r1⟩⟩,⟨z1,(gN n1 fun i=> [st (gT (f1 i))])⟩⟩:Vl)) w1
     repeat' (first|exact trivial|(with_reducible first|exact a7.2|exact nx w1)|refine ⟨?_,?_⟩|intro _)
     all_goals first|(conv=>whnf)
     all_goals first|(rw [e];done)
 . cases h
def aIj:List Ar->Option Rs
 | [.c (.d (.v (.int .i64 i0))),.agg [.d (.v (.bool s1)),.d (.v (.int .i64 l1)),.d (.v (.int .i64 h1)),.d (.v (.bool b1)),.d (.v (.int .i64 m1)),.d (.v (.int .i64 r1)),.d (.v (.bool z1)),.d (.lst 1 n1 f1)],.agg [.d (.v (.bool s2)),.d (.v (.int .i64 l2)),.d (.v (.int .i64 h2)),.d (.v (.bool b2)),.d (.v (.int .i64 m2)),.d (.v (.int .i64 r2)),.d (.v (.bool z2)),.d (.lst 1 n2 f2)]]=>some ⟨(-9223372036854775808<=i0/\ i0<9223372036854775808)/\ ((n1*16<=140737488351232/\ ∀i,i<n1->f1 i= [st (gT (f1 i))])/\ Sp.inR ⟨s1,l1,h1⟩/\ Cg.inR ⟨b1,m1,r1⟩)/\ ((n2*16<=140737488351232/\ ∀i,i<n2->f2 i= [st (gT (f2 i))])/\ Sp.inR ⟨s2,l2,h2⟩/\ Cg.inR ⟨b2,m2,r2⟩),.tup [Vl.ar (eV i0 (⟨⟨⟨s1,l1,h1⟩,⟨b1,m1,r1⟩⟩,⟨z1,gN n1 f1⟩⟩:Vl) (⟨⟨⟨s2,l2,h2⟩,⟨b2,m2,r2⟩⟩,⟨z2,gN n2 f2⟩⟩:Vl)),Vl.ar (eW i0 (⟨⟨⟨s1,l1,h1⟩,⟨b1,m1,r1⟩⟩,⟨z1,gN n1 f1⟩⟩:Vl) (⟨⟨⟨s2,l2,h2⟩,⟨b2,m2,r2⟩⟩,⟨z2,gN n2 f2⟩⟩:Vl))],[]⟩
 |_=>none
theorem aUQ:FC prog 169 aIj:=by
 intro xs pre r us h hp;unfold aIj at h;split at h
 . rename_i i0 s1 l1 h1 b1 m1 r1 z1 n1 f1 s2 l2 h2 b2 m2 r2 z2 n2 f2
   cases h;obtain ⟨a7,a8,af⟩:=hp
   refine aU.of_eq (as':= [.c (.d (.v (.int .i64 i0))),.agg [.d (.v (.bool s1)),.d (.v (.int .i64 l1)),.d (.v (.int .i64 h1)),.d (.v (.bool b1)),.d (.v (.int .i64 m1)),.d (.v (.int .i64 r1)),.d (.v (.bool z1)),.d (.lst 1 n1 fun i=> [st (gT (f1 i))])],.agg [.d (.v (.bool s2)),.d (.v (.int .i64 l2)),.d (.v (.int .i64 h2)),.d (.v (.bool b2)),.d (.v (.int .i64 m2)),.d (.v (.int .i64 r2)),.d (.v (.bool z2)),.d (.lst 1 n2 fun i=> [st (gT (f2 i))])]]) ?_ rfl rfl ?_
   . repeat' (first|exact j2t|refine ⟨?_,?_⟩|fail)
     all_goals first|grind
   refine aE aA (l:= [(116,⟨[],zK⟩),(212,⟨[],aGc⟩),(213,⟨[],aFf⟩),(151,⟨[],FN 1 aDK⟩)]) ⟨aDo,aQU,aOD,pS 1 aJE,trivial⟩ func169 rfl j4 true ?_
   have hm:=aIi (a:=(⟨⟨⟨s1,l1,h1⟩,⟨b1,m1,r1⟩⟩,⟨z1,(gN n1 fun i=> [st (gT (f1 i))])⟩⟩:Vl)) (b:=(⟨⟨⟨s2,l2,h2⟩,⟨b2,m2,r2⟩⟩,⟨z2,(gN n2 fun i=> [st (gT (f2 i))])⟩⟩:Vl)) a8.2 af.2
   have c1:(gN n1 fun i=> [st (gT (f1 i))])=gN n1 f1:=rfl
   rw [<-c1];have c2:(gN n2 fun i=> [st (gT (f2 i))])=gN n2 f2:=rfl
   rw [<-c2]
   all_goals first|(by_cases ec:i0=12)
   all_goals first|(have _:=(show¬_ from ec);by_cases ei:i0=13)|skip
   all_goals first|(have _:=(show¬_ from ei);by_cases dg:i0=15)|skip
   all_goals first|(cases iA:cU (⟨⟨⟨s1,l1,h1⟩,⟨b1,m1,r1⟩⟩,⟨z1,(gN n1 fun i=> [st (gT (f1 i))])⟩⟩:Vl))
   all_goals first|(have _:=(show _=true from iA);cases iB:cU (⟨⟨⟨s2,l2,h2⟩,⟨b2,m2,r2⟩⟩,⟨z2,(gN n2 fun i=> [st (gT (f2 i))])⟩⟩:Vl))|skip
   all_goals first|(have AM:=ec;have _:=(show _=_ from AM))|(have AN:=ei;have _:=(show _=_ from AN))|(have oq:=dg;have _:=(show _=_ from oq))|skip
   all_goals first|subst ec|subst ei|subst dg|skip
   all_goals first|(have _:=AM;have e:=aCk (op:=12) (a:=(⟨⟨⟨s1,l1,h1⟩,⟨b1,m1,r1⟩⟩,⟨z1,(gN n1 fun i=> [st (gT (f1 i))])⟩⟩:Vl)) (b:=(⟨⟨⟨s2,l2,h2⟩,⟨b2,m2,r2⟩⟩,⟨z2,(gN n2 fun i=> [st (gT (f2 i))])⟩⟩:Vl)) iA)|(have _:=AM;have e:=aCl (op:=12) (a:=(⟨⟨⟨s1,l1,h1⟩,⟨b1,m1,r1⟩⟩,⟨z1,(gN n1 fun i=> [st (gT (f1 i))])⟩⟩:Vl)) (b:=(⟨⟨⟨s2,l2,h2⟩,⟨b2,m2,r2⟩⟩,⟨z2,(gN n2 fun i=> [st (gT (f2 i))])⟩⟩:Vl)) iB)|(have _:=AN;have e:=aCk (op:=13) (a:=(⟨⟨⟨s1,l1,h1⟩,⟨b1,m1,r1⟩⟩,⟨z1,(gN n1 fun i=> [st (gT (f1 i))])⟩⟩:Vl)) (b:=(⟨⟨⟨s2,l2,h2⟩,⟨b2,m2,r2⟩⟩,⟨z2,(gN n2 fun i=> [st (gT (f2 i))])⟩⟩:Vl)) iA)|(have _:=AN;have e:=aCl (op:=13) (a:=(⟨⟨⟨s1,l1,h1⟩,⟨b1,m1,r1⟩⟩,⟨z1,(gN n1 fun i=> [st (gT (f1 i))])⟩⟩:Vl)) (b:=(⟨⟨⟨s2,l2,h2⟩,⟨b2,m2,r2⟩⟩,⟨z2,(gN n2 fun i=> [st (gT (f2 i))])⟩⟩:Vl)) iB)|(have _:=oq;have e:=aCk (op:=15) (a:=(⟨⟨⟨s1,l1,h1⟩,⟨b1,m1,r1⟩⟩,⟨z1,(gN n1 fun i=> [st (gT (f1 i))])⟩⟩:Vl)) (b:=(⟨⟨⟨s2,l2,h2⟩,⟨b2,m2,r2⟩⟩,⟨z2,(gN n2 fun i=> [st (gT (f2 i))])⟩⟩:Vl)) iA)|(have _:=oq;have e:=aCl (op:=15) (a:=(⟨⟨⟨s1,l1,h1⟩,⟨b1,m1,r1⟩⟩,⟨z1,(gN n1 fun i=> [st (gT (f1 i))])⟩⟩:Vl)) (b:=(⟨⟨⟨s2,l2,h2⟩,⟨b2,m2,r2⟩⟩,⟨z2,(gN n2 fun i=> [st (gT (f2 i))])⟩⟩:Vl)) iB)|(have e:=aCk (op:=i0) (a:=(⟨⟨⟨s1,l1,h1⟩,⟨b1,m1,r1⟩⟩,⟨z1,(gN n1 fun i=> [st (gT (f1 i))])⟩⟩:Vl)) (b:=(⟨⟨⟨s2,l2,h2⟩,⟨b2,m2,r2⟩⟩,⟨z2,(gN n2 fun i=> [st (gT (f2 i))])⟩⟩:Vl)) iA)|(have e:=aCl (op:=i0) (a:=(⟨⟨⟨s1,l1,h1⟩,⟨b1,m1,r1⟩⟩,⟨z1,(gN n1 fun i=> [st (gT (f1 i))])⟩⟩:Vl)) (b:=(⟨⟨⟨s2,l2,h2⟩,⟨b2,m2,r2⟩⟩,⟨z2,(gN n2 fun i=> [st (gT (f2 i))])⟩⟩:Vl)) iB)|(have _:=AM;have e:=aLK (a:=(⟨⟨⟨s1,l1,h1⟩,⟨b1,m1,r1⟩⟩,⟨z1,(gN n1 fun i=> [st (gT (f1 i))])⟩⟩:Vl)) (b:=(⟨⟨⟨s2,l2,h2⟩,⟨b2,m2,r2⟩⟩,⟨z2,(gN n2 fun i=> [st (gT (f2 i))])⟩⟩:Vl)) iA iB)|(have _:=AN;have e:=aLL (a:=(⟨⟨⟨s1,l1,h1⟩,⟨b1,m1,r1⟩⟩,⟨z1,(gN n1 fun i=> [st (gT (f1 i))])⟩⟩:Vl)) (b:=(⟨⟨⟨s2,l2,h2⟩,⟨b2,m2,r2⟩⟩,⟨z2,(gN n2 fun i=> [st (gT (f2 i))])⟩⟩:Vl)) iA iB)|(have _:=oq;have e:=aLM (a:=(⟨⟨⟨s1,l1,h1⟩,⟨b1,m1,r1⟩⟩,⟨z1,(gN n1 fun i=> [st (gT (f1 i))])⟩⟩:Vl)) (b:=(⟨⟨⟨s2,l2,h2⟩,⟨b2,m2,r2⟩⟩,⟨z2,(gN n2 fun i=> [st (gT (f2 i))])⟩⟩:Vl)) iA iB)|(have e:=aMU (op:=i0) (a:=(⟨⟨⟨s1,l1,h1⟩,⟨b1,m1,r1⟩⟩,⟨z1,(gN n1 fun i=> [st (gT (f1 i))])⟩⟩:Vl)) (b:=(⟨⟨⟨s2,l2,h2⟩,⟨b2,m2,r2⟩⟩,⟨z2,(gN n2 fun i=> [st (gT (f2 i))])⟩⟩:Vl)) iA iB ec ei dg)
   all_goals repeat' (first|exact trivial|(with_reducible first|exact j4f|exact by decide|exact (nx (beq_eq_false_iff_ne.2 ec))|exact (nx (beq_eq_false_iff_ne.2 ei))|exact (nx (beq_eq_false_iff_ne.2 dg))|exact (nx (congrArg Bool.not iA))|exact (nx (congrArg Bool.not iB))|exact nd)|refine ⟨?_,?_⟩|intro _)
   all_goals first|(conv=>whnf)
   all_goals first|((with_reducible show aO _ _ (.region 11 _ _) _ _);refine cO aA (l:= [(116,⟨[],zK⟩),(212,⟨[],aGc⟩),(213,⟨[],aFf⟩),(151,⟨[],FN 1 aDK⟩)]) ⟨aDo,aQU,aOD,pS 1 aJE,trivial⟩ ([.take 0,.take 1,.act 2 [1] [6,53],.act 3 [] [7,54]]) j4 ?_)|skip
   all_goals repeat' (first|exact trivial|(with_reducible exact by decide)|refine ⟨?_,?_⟩|intro _)
   all_goals first|(conv=>whnf)
   all_goals first|exact rfl|(rw [e.1];done)|(rw [e.1];rfl)|(rw [e.2];done)|(rw [e.2];rfl)
 . cases h
theorem aWf {a b:Vl} {f:Int} (ha:a.i.s.inR/\ a.i.c.inR):(jO a b f).i.s.inR/\ (jO a b f).i.c.inR:=aAR (aZu ha.1) ha.2
theorem aWg {a b:Vl} {f:Int} (hb:b.i.s.inR/\ b.i.c.inR):(jP a b f).i.s.inR/\ (jP a b f).i.c.inR:=aAR (aZv hb.1) hb.2
theorem aQV {a b:Vl} (ha:a.i.s.inR/\ a.i.c.inR):(lQ a b).i.s.inR/\ (lQ a b).i.c.inR:=by
 unfold lQ;split
 . exact aAR ha.1 ha.2
 . exact aAR (aQM ha.1) ha.2
theorem aQW {op:Int} {a b:Vl} (ha:a.i.s.inR/\ a.i.c.inR) (hb:b.i.s.inR/\ b.i.c.inR):(eV op a b).i.s.inR/\ (eV op a b).i.c.inR:=by
 unfold eV;(repeat' split)<;>first|exact aCZ|exact aWf ha|exact aQV ha|exact aIi ha hb
theorem aQX {op:Int} {a b:Vl} (ha:a.i.s.inR/\ a.i.c.inR) (hb:b.i.s.inR/\ b.i.c.inR):(eW op a b).i.s.inR/\ (eW op a b).i.c.inR:=by
 unfold eW;(repeat' split)<;>first|exact aCZ|exact aWg hb|exact aQV hb|exact aIi ha hb
def aFC:List Ar->Option Rs
 | [.c (.d (.v (.string x0))),.rp [.v (.string x1)]]=>some ⟨True,.va (.c (.d (bo (decide (x0=x1))))),[]⟩
 |_=>none
theorem aXG:FC prog 218 aFC:=by
 intro xs pre r us h hp;unfold aFC at h;split at h
 . rename_i x0 x1
   cases h;refine aE aA (l:= []) trivial func218 rfl j4 false ?_
   repeat' (first|exact trivial|refine ⟨?_,?_⟩|fail)
   all_goals first|(conv=>whnf)
   all_goals first|exact congrArg Value.bool (qW _ _)
 . cases h
abbrev aHk (x:ByteArray):List Cv->Option Gs:=nO (cJ [(218,⟨[],aFC⟩)]) 218 [.rp [.v (.string x)]]
abbrev pO (x b:ByteArray):Bool:=decide (b=x)
def yD (p:ByteArray->Bool) (L:List ByteArray):Int:=match L.findIdx? p with
 |some i=>i
 |none=> -1
theorem aXH {p:ByteArray->Bool} {L:List ByteArray} {i:Nat} (hi:i<L.length) (h1: ∀k,k<i->p (aN L k)=false) (h2:p (aN L i)=true):yD p L=i:=by
 unfold yD;have:L.findIdx? p=some i:=by
  rw [List.findIdx?_eq_some_iff_getElem];refine ⟨hi,by rw [<-mY hi];exact h2,fun j hj=> ?_⟩
  rw [<-mY j3,h1 j hj];exact Bool.false_ne_true
 rw [this]
theorem aQY {L:List ByteArray} {x:ByteArray} (h:x∈L): ∃k,k<L.length/\ x=aN L k:=by
 obtain ⟨k,hk,rfl⟩:=List.mem_iff_getElem.1 h
 exact ⟨k,hk,(mY hk).symm⟩
theorem aXI {p:ByteArray->Bool} {L:List ByteArray} (h1: ∀k,k<L.length->p (aN L k)=false):yD p L= -1:=by
 unfold yD;have:L.findIdx? p=none:=by
  rw [List.findIdx?_eq_none_iff];intro x hx;obtain ⟨k,hk,rfl⟩:=aQY hx
  exact h1 k hk
 rw [this]
theorem aWh (p:ByteArray->Bool) (L:List ByteArray):(yD p L= -1/\ ∀k,k<L.length->p (aN L k)=false) \/ ∃i,yD p L=(i:Nat)/\ i<L.length/\ (∀k,k<i->p (aN L k)=false)/\ p (aN L i)=true:=by
 unfold yD;cases h:L.findIdx? p with
 |none=>
  rw [List.findIdx?_eq_none_iff] at h;exact .inl ⟨rfl,fun k hk=>h _ (by rw [mY hk];exact List.getElem_mem hk)⟩
 |some i=>
  rw [List.findIdx?_eq_some_iff_getElem] at h;obtain ⟨h1,h2,h3⟩:=h
  refine .inr ⟨i,rfl,h1,fun k hk=> ?_,by rw [mY h1];exact h2⟩
  rw [mY j3]
  simpa using h3 k hk
def pf (hh:Nat->ByteArray) (F:List ByteArray) (k:Nat):ByteArray:=if k<F.length then aN F k else hh k
def qL (p:ByteArray->Bool) (L:List ByteArray) (j:Nat):List ByteArray:=(L.take j).filter fun b=> !p b
theorem aZG (p:ByteArray->Bool) (L:List ByteArray) (j:Nat):(qL p L j).length<=j:=by
 have:=List.length_filter_le (fun b=> !p b) (L.take j)
 have h2:=List.length_take_le j L
 unfold qL;omega
theorem aPs (p:ByteArray->Bool) {L:List ByteArray} {j:Nat} (h:j<L.length):qL p L (j+1)=qL p L j++if (!p (aN L j))=true then [aN L j] else []:=by
 unfold qL;rw [List.take_add_one,List.getElem?_eq_getElem h,mY h,List.filter_append]
 congr 1
 cases hc:p L[j]<;>simp [List.filter,hc]
theorem aZH (p:ByteArray->Bool) {L:List ByteArray} {i:Nat} (hi:i<L.length) (h1: ∀k,k<i->p (aN L k)=false) (h2:p (aN L i)=true):qL p L (i+1)=L.take i:=by
 rw [aPs p hi,h2];unfold qL;rw [if_neg j5,List.append_nil,List.filter_eq_self];intro x hx;obtain ⟨k,hk,rfl⟩:=List.mem_iff_getElem.1 hx
 rw [List.length_take] at hk;rw [List.getElem_take, <-mY j3,h1 k j3];rfl
theorem aZI {hh:Nat->ByteArray} {L:List ByteArray} (s8: ∀i,i<L.length->aN L i=hh i) (i k:Nat):pf hh (L.take i) k=hh k:=by
 unfold pf;split
 . rename_i h
   rw [List.length_take] at h;rw [mY (by rw [List.length_take];exact h),List.getElem_take, <-mY j3,s8 k j3]
 . rfl
theorem bBp {hh:Nat->ByteArray} {F:List ByteArray} {k:Nat} (h:F.length<=k):pf hh F k=hh k:=by unfold pf;rw [if_neg j3]
theorem bCX {hh:Nat->ByteArray} {F:List ByteArray} {k:Nat} (h:k<F.length):pf hh F k=aN F k:=by unfold pf;rw [if_pos h]
theorem aWi {hh:Nat->ByteArray} {F:List ByteArray} {x:ByteArray} {i:Nat} {r:List DV} (hi:i=F.length) (hr:r= [st x]) (k:Nat):mB (fun k=> [st (pf hh F k)]) i r k= [st (pf hh (F++ [x]) k)]:=by
 subst hi;subst hr
 by_cases h:k=F.length
 . have hb:Nat.beq k F.length=true:=by rw [h];exact Nat.beq_refl _
   unfold mB pf;rw [hb];subst h;simp [aN,List.getD_eq_getElem?_getD]
 . have hb:Nat.beq k F.length=false:=by cases hb:Nat.beq k F.length;rfl;exact absurd (Nat.eq_of_beq_eq_true hb) h
   unfold mB pf;rw [hb]
   by_cases h2:k<F.length
   . simp [h2,aN,List.getD_eq_getElem?_getD,List.getElem?_append_left h2,show k<F.length+1 by omega]
   . simp [h2,show¬k<F.length+1 by omega]
theorem aZJ (p:ByteArray->Bool) (L:List ByteArray):qL p L L.length=L.filter fun b=> !p b:=by unfold qL;rw [List.take_length]
theorem aOE {p:ByteArray->Bool} {L:List ByteArray} (h: ∀k,k<L.length->p (aN L k)=false):(L.filter fun b=> !p b)=L:=by
 rw [List.filter_eq_self];intro x hx;obtain ⟨k,hk,rfl⟩:=aQY hx
 rw [h k hk];rfl
theorem aZK {f:Nat->List DV} {o len k:Nat} {ds:List DV} (h:k<o):oF f o len ds k=f k:=by unfold oF;rw [if_neg j3]
def aFD (xk:ByteArray) (hh:Nat->ByteArray):List Ar->Option Rs
 | [.c (.ow 1 n0 f0),.fv g1]=>some ⟨(n0*16<=140737488351232)/\ (g1=aHk xk/\ f0=fun i=> [st (hh i)]),.va (.c (.d (it (yD (pO xk) (gN n0 f0))))),[some (fun i=> [st (hh i)])]⟩
 |_=>none
theorem aPt (xk:ByteArray) (hh:Nat->ByteArray):FC prog 255 (aFD xk hh):=by
 intro xs pre r us h hp;unfold aFD at h;split at h
 . rename_i n0 f0 g1
   cases h;obtain ⟨a7,a8⟩:=hp
   refine aE aA (l:= []) trivial func255 rfl j4 false ?_
   obtain ⟨rfl,rfl⟩:=a8
   have hn:=a7
   have s8: ∀i,i<n0->aN (gN n0 fun i=> [st (hh i)]) i=hh i:=fun i hi=>aDV hi
   have hlen:=bU n0 (fun i=> [st (hh i)])
   generalize Dr:gN n0 (fun i=> [st (hh i)])=L at*
   clear a7;subst hlen
   repeat' (fail)
   all_goals first|(conv=>whnf)
   refine dM aA (l:= []) trivial j4 (X:=Nat)
    (fun i=>⟨[(8,vx (.int .i64 i)),(0,.va (.c (.osl 0 1 0 L.length))),(1,.va (.c (.fv (aHk xk)))),(7,vx (.int .i64 L.length))],[(0,.row 1 L.length fun i=> [st (hh i)])],1,19⟩)
    (fun i=>L.length-i) (fun i=>i<=L.length/\ ∀k,k<i->pO xk (hh k)=false) [] []
    (fun i _ _=>i+1) [0] [0] 0 0 0 ?_ ?_ ?_
   . exact ⟨Nat.zero_le _,fun k h=>absurd h (Nat.not_lt_zero k)⟩
   . repeat' (first|exact j2w|refine ⟨?_,?_⟩|fail)
   . rintro i ⟨k1,k2⟩
     rcases Nat.lt_or_ge i L.length with hi|hi
     . have ag:decide ((i:Int)<(L.length:Int))=true:=decide_eq_true j3
       have k3: ∀k,k<i->pO xk (aN L k)=false:=fun k hk=>by rw [s8 k j3];exact k2 k hk
       (repeat' (first|exact trivial|refine ⟨?_,?_⟩|intro _));all_goals first|apply qq|conv=>whnf
       all_goals first|exact j2v|skip
       all_goals (try simp only [Int.toNat_natCast,Nat.zero_add] at*)
       all_goals first|omega|rfl|exact j3a|skip
       all_goals first|(rw [aXH hi k3 (by rw [s8 i hi];assumption)];done)|(rename_i k hk _ _ hp;rcases Nat.lt_or_ge k i with hki|hki;exact k2 k hki;rw [show k=i by omega];exact hp)
     . have ag:decide ((i:Int)<(L.length:Int))=false:=decide_eq_false j3
       obtain rfl:i=L.length:=j3
       (repeat' (first|exact trivial|refine ⟨?_,?_⟩|intro _));all_goals first|apply qq|conv=>whnf
       all_goals first|exact j3d|skip
       all_goals first|exact j5m|(rw [aXI fun k hk=>by rw [s8 k hk];exact k2 k hk];done)
 . cases h
def aJb (xk:ByteArray) (hh:Nat->ByteArray):List Ar->Option Rs
 | [.c (.ow 1 n0 f0),.fv g1]=>some ⟨(n0*16<=140737488351232)/\ (g1=aHk xk/\ f0=fun i=> [st (hh i)]),.va (.c (.ow 1 (((gN n0 f0)).filter fun b=> !pO xk b).length (fun i=> [st (aN (((gN n0 f0)).filter fun b=> !pO xk b) i)]))),[none]⟩
 |_=>none
theorem aWj (xk:ByteArray) (hh:Nat->ByteArray):FC prog 217 (aJb xk hh):=by
 intro xs pre r us h hp;unfold aJb at h;split at h
 . rename_i n0 f0 g1
   cases h;obtain ⟨a7,a8⟩:=hp
   refine aE aA (l:= [(255,⟨[true],(aFD xk hh)⟩)]) ⟨(aPt xk hh),trivial⟩ func217 rfl j4 false ?_
   obtain ⟨rfl,rfl⟩:=a8
   have hn:=a7
   have s8: ∀i,i<n0->aN (gN n0 fun i=> [st (hh i)]) i=hh i:=fun i hi=>aDV hi
   have hlen:=bU n0 (fun i=> [st (hh i)])
   generalize Dr:gN n0 (fun i=> [st (hh i)])=L at*
   clear a7;subst hlen;have EO:=aZJ (pO xk) L
   have EP:=aZG (pO xk) L
   have rh: ∀l:Nat,gN l (fun i=> [st (hh i)])=gN l (fun i=> [st (hh i)]):=fun _=>rfl
   (repeat' (first|exact trivial|refine ⟨?_,?_⟩|intro _));all_goals first|apply qq|conv=>whnf
   all_goals first|exact hn|exact j5m|skip
   all_goals (simp only [Dr] at*)
   all_goals (rcases aWh (pO xk) L with ⟨ve,ky⟩|⟨i,ve,hi,ER,Ds⟩)
   all_goals (simp only [ve] at*)
   all_goals first|(exact absurd ‹((-1:Int)== -1)=false› j5)|(exact absurd (eq_of_beq ‹((i:Int)== -1)=true›) j3)|skip
   . rw [aOE ky]
   . rw [aOE ky,s8 _ ‹_›]
   have hF:=aZH (pO xk) hi ER Ds
   have Dt: ∀j,j<L.length->qL (pO xk) L (j+1)=qL (pO xk) L j++if (!pO xk (aN L j))=true then [aN L j] else []:=fun j hj=>aPs _ hj
   generalize qL (pO xk) L=F at*
   have C1:IntKind.wrap .i64 ((i:Int)+1)=((i+1:Nat):Int):=j0e
   have Du:(F (i+1)).length=i:=by rw [hF,List.length_take];omega
   refine dM aA (l:= [(255,⟨[true],(aFD xk hh)⟩)]) ⟨(aPt xk hh),trivial⟩ j4 (X:=Nat)
    (fun j=>⟨[(6,vx (.int .i64 j)),(5,vx (.int .i64 (F j).length)),(0,.va (.c (.osl 0 1 0 L.length))),(1,.va (.c (.fv (aHk xk))))],[(0,.row 1 L.length fun k=> [st (pf hh (F j) k)])],1,42⟩)
    (fun j=>L.length-j) (fun j=>i+1<=j/\ j<=L.length/\ (F j).length<j) [] []
    (fun j _ _=>j+1) [0] [0] 0 0 (i+1) ?_ ?_ ?_
   . exact ⟨Nat.le_refl _,hi,by rw [Du];omega⟩
   . rw [show (fun k=> [st (pf hh (F (i+1)) k)])=fun k=> [st (hh k)] from funext fun k=>by rw [hF,aZI s8]]
     repeat' (first|exact j2w|refine ⟨?_,?_⟩|fail)
     all_goals (refine congrArg (Value.int .i64) ?_;first|rw [C1]|(rw [Du]))
   . rintro j ⟨k1,k2,k3⟩
     rcases Nat.lt_or_ge j L.length with hj|hj
     . have ag:decide ((j:Int)<(L.length:Int))=true:=decide_eq_true j3
       have vm:pf hh (F j) j=hh j:=bBp j3
       have hs:=Dt j hj
       rw [s8 j hj] at hs;cases hc:pO xk (hh j) with
       |true=>
        rw [hc,if_neg j5,List.append_nil] at hs;have fh:=congrArg not hc
        (repeat' (first|exact trivial|refine ⟨?_,?_⟩|intro _));all_goals first|apply qq|conv=>whnf
        all_goals first|exact j2v|skip
        all_goals (try simp only [Int.toNat_natCast,Nat.zero_add,vm] at*)
        all_goals first|(exact absurd (fh.symm.trans ‹(!decide _)=true›) j5)|skip
        all_goals (try simp only [hs])
        all_goals first|omega|rfl|exact j3a
       |false=>
        rw [hc,if_pos j5] at hs;have fh:=congrArg not hc
        have hlen:(F (j+1)).length=(F j).length+1:=by rw [hs];simp
        (repeat' (first|exact trivial|refine ⟨?_,?_⟩|intro _));all_goals first|apply qq|conv=>whnf
        all_goals first|exact j2v|skip
        all_goals (try simp only [Int.toNat_natCast,Nat.zero_add,vm] at*)
        all_goals first|(exact absurd (fh.symm.trans ‹(!decide _)=false›) j5)|skip
        all_goals (try simp only [hlen])
        all_goals first|omega|rfl|(exact congrArg (Value.int .i64) j0f)|(rw [hs];exact aWi rfl rfl _)
     . have ag:decide ((j:Int)<(L.length:Int))=false:=decide_eq_false j3
       obtain rfl:j=L.length:=j3
       (repeat' (first|exact trivial|refine ⟨?_,?_⟩|intro _));all_goals first|apply qq|conv=>whnf
       all_goals first|exact j3d|skip
       all_goals (try simp only [Int.toNat_natCast,Nat.zero_add, <-EO])
       all_goals first|rfl|omega|(rename_i k hk;rw [aZK j3];exact congrArg (fun x=> [st x]) (bCX j3))
 . cases h
def kR (a b:Ns) (m:List ByteArray):Ns:=if nM b≠1 then a else if jN b=false then ⟨a.null&& !true,aP a.names⟩ else if iI (iF b) m=true then a else ⟨a.null,aP (a.names.filter fun x=> !pO (iF b) x)⟩
section
variable {a b:Ns} {m:List ByteArray}
theorem bEI (h:(nM b !=1)=true):kR a b m=a:=by unfold kR;rw [if_pos w7]
theorem aMV (h:(nM b !=1)=false):kR a b m=if jN b=false then ⟨a.null&& !true,aP a.names⟩ else if iI (iF b) m=true then a else ⟨a.null,aP (a.names.filter fun x=> !pO (iF b) x)⟩:=by unfold kR;rw [if_neg w7]
theorem bEJ (h:(nM b !=1)=false) (h2:jN b=false):kR a b m=⟨a.null&& !true,aP a.names⟩:=by rw [aMV h,if_pos h2]
theorem bEK (h:(nM b !=1)=false) (h2:jN b=true) (h3:iI (iF b) m=true):kR a b m=a:=by rw [aMV h,if_neg x9,if_pos h3]
theorem bEL (h:(nM b !=1)=false) (h2:jN b=true) (h3:iI (iF b) m=false):kR a b m=⟨a.null,aP (a.names.filter fun x=> !pO (iF b) x)⟩:=by rw [aMV h,if_neg x9,if_neg (by rw [h3];decide)]
end
def aII:List Ar->Option Rs
 | [.agg [.d (.v (.bool b0)),.d (.lst 1 n0 f0)],.c (.d (.v (.bool b1)))]=>some ⟨(n0*16<=140737488351232/\ ∀i,i<n0->f0 i= [st (gT (f0 i))]),.va (Ns.ar (⟨b0&& !b1,aP (gN n0 f0)⟩)),[]⟩
 |_=>none
theorem aVj:FC prog 216 aII:=by
 intro xs pre r us h hp;unfold aII at h;split at h
 . rename_i b0 n0 f0 b1
   cases h;have a7:=hp
   refine aU.of_eq (as':= [.agg [.d (.v (.bool b0)),.d (.lst 1 n0 fun i=> [st (gT (f0 i))])],.c (.d (.v (.bool b1)))]) ?_ rfl rfl ?_
   . repeat' (first|exact j2t|refine ⟨?_,?_⟩|fail)
     all_goals first|exact a7.2
   refine aE aA (l:= [(137,⟨[],rR⟩)]) ⟨uW,trivial⟩ func216 rfl j4 true ?_
   repeat' (first|exact trivial|(with_reducible exact a7.1)|refine ⟨?_,?_⟩|intro _)
   all_goals first|(conv=>whnf)
   all_goals (try simp only [bI,eZ] at*)
   all_goals first|exact rfl|(have h:=‹b0=true›;subst h;rfl)|(have h:=‹b0=false›;subst h;rfl)
 . cases h
def aJY:List Ar->Option Rs
 | [.agg [.d (.v (.bool b0)),.d (.lst 1 n0 f0)],.agg [.d (.v (.bool b1)),.d (.lst 1 n1 f1)],.c (.d (.lst 1 n2 f2))]=>some ⟨(n0*16<=140737488351232/\ ∀i,i<n0->f0 i= [st (gT (f0 i))])/\ (n1*16<=140737488351232/\ ∀i,i<n1->f1 i= [st (gT (f1 i))])/\ (n2*16<=140737488351232/\ ∀i,i<n2->f2 i= [st (gT (f2 i))]),.va (Ns.ar (kR (⟨b0,gN n0 f0⟩:Ns) (⟨b1,gN n1 f1⟩:Ns) (gN n2 f2))),[]⟩
 |_=>none
theorem aXJ:FC prog 171 aJY:=by
 intro xs pre r us h hp;unfold aJY at h;split at h
 . rename_i b0 n0 f0 b1 n1 f1 n2 f2
   cases h;obtain ⟨a7,a8,af⟩:=hp
   refine aU.of_eq (as':= [.agg [.d (.v (.bool b0)),.d (.lst 1 n0 fun i=> [st (gT (f0 i))])],.agg [.d (.v (.bool b1)),.d (.lst 1 n1 fun i=> [st (gT (f1 i))])],.c (.d (.lst 1 n2 fun i=> [st (gT (f2 i))]))]) ?_ rfl rfl ?_
   . repeat' (first|exact j2t|refine ⟨?_,?_⟩|fail)
     all_goals first|exact j5s|exact af.2
   refine aE aA (l:= [(214,⟨[],aGQ⟩),(215,⟨[],aF9⟩),(216,⟨[],aII⟩),(166,⟨[],wD⟩),(181,⟨[],aFM⟩),(217,⟨[true],(aJb (iF (⟨b1,(gN n1 fun i=> [st (gT (f1 i))])⟩:Ns)) (fun i=>gT (f0 i)))⟩),(218,⟨[],aFC⟩),(137,⟨[],rR⟩)]) ⟨aRR,aQK,aVj,aAK,aPU,(aWj (iF (⟨b1,(gN n1 fun i=> [st (gT (f1 i))])⟩:Ns)) (fun i=>gT (f0 i))),aXG,uW,trivial⟩ func171 rfl j4 true ?_
   have im:(List.filter (fun b=> !pO (iF (⟨b1,(gN n1 fun i=> [st (gT (f1 i))])⟩:Ns)) b) (gN n0 fun i=> [st (gT (f0 i))])).length*16<=140737488351232:=by have h1:=List.length_filter_le (fun b=> !pO (iF (⟨b1,(gN n1 fun i=> [st (gT (f1 i))])⟩:Ns)) b) (gN n0 f0);rw [bU] at h1;have h2:=a7.1;have h3:(List.filter (fun b=> !pO (iF (⟨b1,(gN n1 fun i=> [st (gT (f1 i))])⟩:Ns)) b) (gN n0 fun i=> [st (gT (f0 i))])).length<=n0:=h1;omega
   have c0:(gN n0 fun i=> [st (gT (f0 i))])=gN n0 f0:=rfl
   rw [<-c0];have c1:(gN n1 fun i=> [st (gT (f1 i))])=gN n1 f1:=rfl
   rw [<-c1];have c2:(gN n2 fun i=> [st (gT (f2 i))])=gN n2 f2:=rfl
   rw [<-c2];cases u1:(nM (⟨b1,(gN n1 fun i=> [st (gT (f1 i))])⟩:Ns) !=1)
   . cases u2:jN (⟨b1,(gN n1 fun i=> [st (gT (f1 i))])⟩:Ns)
     . have vn:=congrArg Bool.not u1;simp only [Bool.not_true,Bool.not_false] at vn
       have tp:=congrArg Bool.not u2;simp only [Bool.not_true,Bool.not_false] at tp
       have e:=bEJ (a:=(⟨b0,(gN n0 fun i=> [st (gT (f0 i))])⟩:Ns)) (b:=(⟨b1,(gN n1 fun i=> [st (gT (f1 i))])⟩:Ns)) (m:=(gN n2 fun i=> [st (gT (f2 i))])) u1 u2
       repeat' (first|exact trivial|(with_reducible first|exact j4q|exact nx u1|exact nx tp)|refine ⟨?_,?_⟩|intro _)
       all_goals first|(conv=>whnf)
       all_goals first|((simp only [Nat.zero_add,bI,eZ] at*;first|(rw [e];done)))|exact rfl
     . cases u3:iI (iF (⟨b1,(gN n1 fun i=> [st (gT (f1 i))])⟩:Ns)) (gN n2 fun i=> [st (gT (f2 i))])
       . have vn:=congrArg Bool.not u1;simp only [Bool.not_true,Bool.not_false] at vn
         have tp:=congrArg Bool.not u2;simp only [Bool.not_true,Bool.not_false] at tp
         have C2:=congrArg Bool.not u3;simp only [Bool.not_true,Bool.not_false] at C2
         have e:=bEL (a:=(⟨b0,(gN n0 fun i=> [st (gT (f0 i))])⟩:Ns)) (b:=(⟨b1,(gN n1 fun i=> [st (gT (f1 i))])⟩:Ns)) (m:=(gN n2 fun i=> [st (gT (f2 i))])) u1 u2 u3
         (repeat' (first|exact trivial|(with_reducible first|exact j4q|exact af.1|exact nx u1|exact nx u3|exact nx tp)|refine ⟨?_,?_⟩|intro _));all_goals first|apply qq|conv=>whnf
         all_goals first|exact j5m|exact Nat.le_of_eq (Nat.zero_add _)|exact im|((simp only [Nat.zero_add,bI,eZ] at*;first|(rw [e];done)))|exact rfl
       . have vn:=congrArg Bool.not u1;simp only [Bool.not_true,Bool.not_false] at vn
         have tp:=congrArg Bool.not u2;simp only [Bool.not_true,Bool.not_false] at tp
         have C2:=congrArg Bool.not u3;simp only [Bool.not_true,Bool.not_false] at C2
         have e:=bEK (a:=(⟨b0,(gN n0 fun i=> [st (gT (f0 i))])⟩:Ns)) (b:=(⟨b1,(gN n1 fun i=> [st (gT (f1 i))])⟩:Ns)) (m:=(gN n2 fun i=> [st (gT (f2 i))])) u1 u2 u3
         repeat' (first|exact trivial|(with_reducible first|exact a8.1|exact af.1|exact nx u1|exact nx u3|exact nx tp)|refine ⟨?_,?_⟩|intro _)
         all_goals first|(conv=>whnf)
         all_goals first|(first|((simp only [Nat.zero_add,bI,eZ] at*;first|(rw [e];done)))|(rw [e];exact (bU _ _).symm)|(rw [e];dsimp only;rw [aDV j9];rfl)|exact rfl)
   . have vn:=congrArg Bool.not u1;simp only [Bool.not_true,Bool.not_false] at vn
     have e:=bEI (a:=(⟨b0,(gN n0 fun i=> [st (gT (f0 i))])⟩:Ns)) (b:=(⟨b1,(gN n1 fun i=> [st (gT (f1 i))])⟩:Ns)) (m:=(gN n2 fun i=> [st (gT (f2 i))])) u1
     repeat' (first|exact trivial|(with_reducible first|exact a8.1|exact nx u1)|refine ⟨?_,?_⟩|intro _)
     all_goals first|(conv=>whnf)
     all_goals first|(first|((simp only [Nat.zero_add,bI,eZ] at*;first|(rw [e];done)))|(rw [e];exact (bU _ _).symm)|(rw [e];dsimp only;rw [aDV j9];rfl)|exact rfl)
 . cases h
def bZ (op:Int) (a b:Vl) (m:List ByteArray):Vl:=if op<12 then a else if op>15 then a else if jB a.t=true then eV op a b else if jB b.t=true then eV op a b else if op=14 then ⟨(eV op a b).i,⟨a.t.null&&b.t.null,aP (fF a.t.names b.t.names)⟩⟩ else if op=15 then ⟨(eV op a b).i,kR a.t b.t m⟩ else eV op a b
def eC (op:Int) (a b:Vl) (m:List ByteArray):Vl:=if op<12 then b else if op>15 then b else if jB a.t=true then eW op a b else if jB b.t=true then eW op a b else if op=14 then ⟨(eW op a b).i,⟨a.t.null&&b.t.null,aP (fF a.t.names b.t.names)⟩⟩ else if op=15 then ⟨(eW op a b).i,kR b.t a.t m⟩ else eW op a b
section
variable {op:Int} {a b:Vl} {m:List ByteArray}
theorem bCY (h:op<12):bZ op a b m=a/\ eC op a b m=b:=by unfold bZ eC;rw [if_pos h,if_pos h];exact ⟨rfl,rfl⟩
theorem bCZ (h:op>15):bZ op a b m=a/\ eC op a b m=b:=by unfold bZ eC;rw [if_neg j3,if_pos h,if_neg j3,if_pos h];exact ⟨rfl,rfl⟩
section
variable (h: ¬op<12) (h2: ¬op>15)
include h h2
theorem aEa (k:jB a.t=true):bZ op a b m=eV op a b/\ eC op a b m=eW op a b:=by
 constructor
 . unfold bZ;rw [if_neg h,if_neg h2,if_pos k]
 . unfold eC;rw [if_neg h,if_neg h2,if_pos k]
theorem aGU (k:jB b.t=true):bZ op a b m=eV op a b/\ eC op a b m=eW op a b:=by
 by_cases q:jB a.t=true
 . exact aEa h h2 q
 constructor
 . unfold bZ;rw [if_neg h,if_neg h2,if_neg q,if_pos k]
 . unfold eC;rw [if_neg h,if_neg h2,if_neg q,if_pos k]
theorem aHl (k:jB a.t=false) (k2:jB b.t=false):bZ op a b m=(if op=14 then ⟨(eV op a b).i,⟨a.t.null&&b.t.null,aP (fF a.t.names b.t.names)⟩⟩ else if op=15 then ⟨(eV op a b).i,kR a.t b.t m⟩ else eV op a b)/\ eC op a b m=(if op=14 then ⟨(eW op a b).i,⟨a.t.null&&b.t.null,aP (fF a.t.names b.t.names)⟩⟩ else if op=15 then ⟨(eW op a b).i,kR b.t a.t m⟩ else eW op a b):=by
 constructor
 . unfold bZ;rw [if_neg h,if_neg h2,if_neg (by rw [k];decide),if_neg (by rw [k2];decide)]
 . unfold eC;rw [if_neg h,if_neg h2,if_neg (by rw [k];decide),if_neg (by rw [k2];decide)]
end
variable (k:jB a.t=false) (k2:jB b.t=false)
include k k2
theorem bC0:bZ 14 a b m=⟨(eV 14 a b).i,⟨a.t.null&&b.t.null,aP (fF a.t.names b.t.names)⟩⟩/\ eC 14 a b m=⟨(eW 14 a b).i,⟨a.t.null&&b.t.null,aP (fF a.t.names b.t.names)⟩⟩:=aHl (op:=14) j5 j5 k k2
theorem bC1:bZ 15 a b m=⟨(eV 15 a b).i,kR a.t b.t m⟩/\ eC 15 a b m=⟨(eW 15 a b).i,kR b.t a.t m⟩:=aHl (op:=15) j5 j5 k k2
theorem bC2:bZ 12 a b m=eV 12 a b/\ eC 12 a b m=eW 12 a b:=aHl (op:=12) j5 j5 k k2
theorem bC3:bZ 13 a b m=eV 13 a b/\ eC 13 a b m=eW 13 a b:=aHl (op:=13) j5 j5 k k2
end
def aFg:List Ar->Option Rs
 | [.c (.d (.v (.int .i64 i0))),.agg [.d (.v (.bool s1)),.d (.v (.int .i64 l1)),.d (.v (.int .i64 h1)),.d (.v (.bool b1)),.d (.v (.int .i64 m1)),.d (.v (.int .i64 r1)),.d (.v (.bool z1)),.d (.lst 1 n1 f1)],.agg [.d (.v (.bool s2)),.d (.v (.int .i64 l2)),.d (.v (.int .i64 h2)),.d (.v (.bool b2)),.d (.v (.int .i64 m2)),.d (.v (.int .i64 r2)),.d (.v (.bool z2)),.d (.lst 1 n2 f2)],.c (.d (.lst 1 n3 f3))]=>some ⟨(-9223372036854775808<=i0/\ i0<9223372036854775808)/\ ((n1*16<=140737488351232/\ ∀i,i<n1->f1 i= [st (gT (f1 i))])/\ Sp.inR ⟨s1,l1,h1⟩/\ Cg.inR ⟨b1,m1,r1⟩)/\ ((n2*16<=140737488351232/\ ∀i,i<n2->f2 i= [st (gT (f2 i))])/\ Sp.inR ⟨s2,l2,h2⟩/\ Cg.inR ⟨b2,m2,r2⟩)/\ (n3*16<=140737488351232/\ ∀i,i<n3->f3 i= [st (gT (f3 i))]),.tup [Vl.ar (bZ i0 (Vl.of (⟨⟨⟨s1,l1,h1⟩,⟨b1,m1,r1⟩⟩,⟨z1,gN n1 f1⟩⟩:Vl)) (Vl.of (⟨⟨⟨s2,l2,h2⟩,⟨b2,m2,r2⟩⟩,⟨z2,gN n2 f2⟩⟩:Vl)) (gN n3 f3)),Vl.ar (eC i0 (Vl.of (⟨⟨⟨s1,l1,h1⟩,⟨b1,m1,r1⟩⟩,⟨z1,gN n1 f1⟩⟩:Vl)) (Vl.of (⟨⟨⟨s2,l2,h2⟩,⟨b2,m2,r2⟩⟩,⟨z2,gN n2 f2⟩⟩:Vl)) (gN n3 f3))],[]⟩
 |_=>none
abbrev qE:List (Nat×Sm):= [(78,⟨[],aC7⟩),(169,⟨[],aIj⟩),(55,⟨[],aBx⟩),(170,⟨[],aD0⟩),(171,⟨[],aJY⟩)]
theorem rQ:gX prog qE:=⟨aIC,aUQ,aFR,aKf,aXJ,trivial⟩
theorem aOF:FC prog 126 aFg:=by
 intro xs pre r us h hp;unfold aFg at h;split at h
 . rename_i i0 s1 l1 h1 b1 m1 r1 z1 n1 f1 s2 l2 h2 b2 m2 r2 z2 n2 f2 n3 f3
   cases h;obtain ⟨a7,a8,af,di⟩:=hp
   refine aU.of_eq (as':= [.c (.d (.v (.int .i64 i0))),.agg [.d (.v (.bool s1)),.d (.v (.int .i64 l1)),.d (.v (.int .i64 h1)),.d (.v (.bool b1)),.d (.v (.int .i64 m1)),.d (.v (.int .i64 r1)),.d (.v (.bool z1)),.d (.lst 1 n1 fun i=> [st (gT (f1 i))])],.agg [.d (.v (.bool s2)),.d (.v (.int .i64 l2)),.d (.v (.int .i64 h2)),.d (.v (.bool b2)),.d (.v (.int .i64 m2)),.d (.v (.int .i64 r2)),.d (.v (.bool z2)),.d (.lst 1 n2 fun i=> [st (gT (f2 i))])],.c (.d (.lst 1 n3 fun i=> [st (gT (f3 i))]))]) ?_ rfl rfl ?_
   . repeat' (first|exact j2t|refine ⟨?_,?_⟩|fail)
     all_goals first|grind
   refine aE aA (l:=qE) rQ func126 rfl j4 true ?_
   have o1:=cX (v:=(⟨⟨⟨s1,l1,h1⟩,⟨b1,m1,r1⟩⟩,⟨z1,(gN n1 fun i=> [st (gT (f1 i))])⟩⟩:Vl)) ⟨⟨y5,fun _ _=>rfl⟩,a8.2⟩
   have o2:=cX (v:=(⟨⟨⟨s2,l2,h2⟩,⟨b2,m2,r2⟩⟩,⟨z2,(gN n2 fun i=> [st (gT (f2 i))])⟩⟩:Vl)) ⟨⟨(by rw [bU];exact af.1.1),fun _ _=>rfl⟩,af.2⟩
   have c1:(gN n1 fun i=> [st (gT (f1 i))])=gN n1 f1:=rfl
   rw [<-c1];have c2:(gN n2 fun i=> [st (gT (f2 i))])=gN n2 f2:=rfl
   rw [<-c2];have GN:=aQW (op:=i0) o1.2 o2.2
   have GO:=aQX (op:=i0) o1.2 o2.2
   unfold aY at o1 o2;have c3:(gN n3 fun i=> [st (gT (f3 i))])=gN n3 f3:=rfl
   rw [<-c3];by_cases hlt:i0<12
   . all_goals first|(have e:=bCY (a:=(Vl.of (⟨⟨⟨s1,l1,h1⟩,⟨b1,m1,r1⟩⟩,⟨z1,(gN n1 fun i=> [st (gT (f1 i))])⟩⟩:Vl))) (b:=(Vl.of (⟨⟨⟨s2,l2,h2⟩,⟨b2,m2,r2⟩⟩,⟨z2,(gN n2 fun i=> [st (gT (f2 i))])⟩⟩:Vl))) (m:=(gN n3 fun i=> [st (gT (f3 i))])) hlt)
     all_goals repeat' (first|(with_reducible first|exact j4f|exact (nx (decide_eq_true hlt)))|refine ⟨?_,?_⟩|intro _)
     all_goals first|(conv=>whnf)
     all_goals first|((with_reducible show aO _ _ (.region 3 _ _) _ _);refine cO aA (l:=qE) rQ ([.take 0,.take 1,.act 2 [1] [8,22],.act 3 [] [9,23]]) j4 ?_)|skip
     all_goals repeat' (first|exact trivial|refine ⟨?_,?_⟩|intro _)
     all_goals first|(conv=>whnf)
     all_goals (try simp only [bI] at*)
     all_goals first|(first|exact rfl|(rw [e.1];done)|(rw [e.2];done))
   by_cases fg:i0>15
   . all_goals first|(have e:=bCZ (a:=(Vl.of (⟨⟨⟨s1,l1,h1⟩,⟨b1,m1,r1⟩⟩,⟨z1,(gN n1 fun i=> [st (gT (f1 i))])⟩⟩:Vl))) (b:=(Vl.of (⟨⟨⟨s2,l2,h2⟩,⟨b2,m2,r2⟩⟩,⟨z2,(gN n2 fun i=> [st (gT (f2 i))])⟩⟩:Vl))) (m:=(gN n3 fun i=> [st (gT (f3 i))])) fg)
     all_goals repeat' (first|(with_reducible first|exact j4f|exact (nx (decide_eq_false hlt))|exact (nx (decide_eq_true fg)))|refine ⟨?_,?_⟩|intro _)
     all_goals first|(conv=>whnf)
     all_goals first|((with_reducible show aO _ _ (.region 3 _ _) _ _);refine cO aA (l:=qE) rQ ([.take 0,.take 1,.act 2 [1] [8,22],.act 3 [] [9,23]]) j4 ?_)|skip
     all_goals repeat' (first|exact trivial|refine ⟨?_,?_⟩|intro _)
     all_goals first|(conv=>whnf)
     all_goals (try simp only [bI] at*)
     all_goals first|(first|exact rfl|(rw [e.1];done)|(rw [e.2];done))
   rcases (show i0=12 \/i0=13 \/i0=14 \/i0=15 by omega) with e0|e0|e0|e0<;>subst e0
   . all_goals first|(cases v1:(!(Vl.of (⟨⟨⟨s1,l1,h1⟩,⟨b1,m1,r1⟩⟩,⟨z1,(gN n1 fun i=> [st (gT (f1 i))])⟩⟩:Vl)).t.null&&decide (gN (Vl.of (⟨⟨⟨s1,l1,h1⟩,⟨b1,m1,r1⟩⟩,⟨z1,(gN n1 fun i=> [st (gT (f1 i))])⟩⟩:Vl)).t.names.length (fun i=> [st (aN (Vl.of (⟨⟨⟨s1,l1,h1⟩,⟨b1,m1,r1⟩⟩,⟨z1,(gN n1 fun i=> [st (gT (f1 i))])⟩⟩:Vl)).t.names i)])= [])))
     all_goals first|(have _:=(show _=false from v1);cases v2:(!(Vl.of (⟨⟨⟨s2,l2,h2⟩,⟨b2,m2,r2⟩⟩,⟨z2,(gN n2 fun i=> [st (gT (f2 i))])⟩⟩:Vl)).t.null&&decide (gN (Vl.of (⟨⟨⟨s2,l2,h2⟩,⟨b2,m2,r2⟩⟩,⟨z2,(gN n2 fun i=> [st (gT (f2 i))])⟩⟩:Vl)).t.names.length (fun i=> [st (aN (Vl.of (⟨⟨⟨s2,l2,h2⟩,⟨b2,m2,r2⟩⟩,⟨z2,(gN n2 fun i=> [st (gT (f2 i))])⟩⟩:Vl)).t.names i)])= [])))|skip
     all_goals (try (have w1:=v1;rw [bI] at w1))
     all_goals (try (have w2:=v2;rw [bI] at w2))
     all_goals first|(have e:=aEa (op:=12) (a:=(Vl.of (⟨⟨⟨s1,l1,h1⟩,⟨b1,m1,r1⟩⟩,⟨z1,(gN n1 fun i=> [st (gT (f1 i))])⟩⟩:Vl))) (b:=(Vl.of (⟨⟨⟨s2,l2,h2⟩,⟨b2,m2,r2⟩⟩,⟨z2,(gN n2 fun i=> [st (gT (f2 i))])⟩⟩:Vl))) (m:=(gN n3 fun i=> [st (gT (f3 i))])) j5 j5 w1)|(have e:=aGU (op:=12) (a:=(Vl.of (⟨⟨⟨s1,l1,h1⟩,⟨b1,m1,r1⟩⟩,⟨z1,(gN n1 fun i=> [st (gT (f1 i))])⟩⟩:Vl))) (b:=(Vl.of (⟨⟨⟨s2,l2,h2⟩,⟨b2,m2,r2⟩⟩,⟨z2,(gN n2 fun i=> [st (gT (f2 i))])⟩⟩:Vl))) (m:=(gN n3 fun i=> [st (gT (f3 i))])) j5 j5 w2)|(have e:=bC2 (a:=(Vl.of (⟨⟨⟨s1,l1,h1⟩,⟨b1,m1,r1⟩⟩,⟨z1,(gN n1 fun i=> [st (gT (f1 i))])⟩⟩:Vl))) (b:=(Vl.of (⟨⟨⟨s2,l2,h2⟩,⟨b2,m2,r2⟩⟩,⟨z2,(gN n2 fun i=> [st (gT (f2 i))])⟩⟩:Vl))) (m:=(gN n3 fun i=> [st (gT (f3 i))])) w1 w2)
     all_goals repeat' (first|exact j6h|refine ⟨?_,?_⟩|intro _)
     all_goals first|(conv=>whnf)
     all_goals first|((with_reducible show aO _ _ (.region 6 _ _) _ _);refine cO aA (l:=qE) rQ ([.take 0,.take 1,.act 2 [1] [8,39],.act 3 [] [9,40]]) j4 ?_)|skip
     all_goals repeat' (first|exact trivial|refine ⟨?_,?_⟩|intro _)
     all_goals first|(conv=>whnf)
     all_goals first|((with_reducible show aO _ _ (.region 13 _ _) _ _);refine cO aA (l:=qE) rQ ([.take 0,.take 1,.act 2 [1] [8,69],.act 3 [] [9,70]]) j4 ?_)|skip
     all_goals repeat' (first|exact trivial|refine ⟨?_,?_⟩|intro _)
     all_goals first|(conv=>whnf)
     all_goals (try simp only [bI] at*)
     all_goals first|(first|exact rfl|(rw [e.1];done)|(rw [e.2];done))
   . all_goals first|(cases v1:(!(Vl.of (⟨⟨⟨s1,l1,h1⟩,⟨b1,m1,r1⟩⟩,⟨z1,(gN n1 fun i=> [st (gT (f1 i))])⟩⟩:Vl)).t.null&&decide (gN (Vl.of (⟨⟨⟨s1,l1,h1⟩,⟨b1,m1,r1⟩⟩,⟨z1,(gN n1 fun i=> [st (gT (f1 i))])⟩⟩:Vl)).t.names.length (fun i=> [st (aN (Vl.of (⟨⟨⟨s1,l1,h1⟩,⟨b1,m1,r1⟩⟩,⟨z1,(gN n1 fun i=> [st (gT (f1 i))])⟩⟩:Vl)).t.names i)])= [])))
     all_goals first|(have _:=(show _=false from v1);cases v2:(!(Vl.of (⟨⟨⟨s2,l2,h2⟩,⟨b2,m2,r2⟩⟩,⟨z2,(gN n2 fun i=> [st (gT (f2 i))])⟩⟩:Vl)).t.null&&decide (gN (Vl.of (⟨⟨⟨s2,l2,h2⟩,⟨b2,m2,r2⟩⟩,⟨z2,(gN n2 fun i=> [st (gT (f2 i))])⟩⟩:Vl)).t.names.length (fun i=> [st (aN (Vl.of (⟨⟨⟨s2,l2,h2⟩,⟨b2,m2,r2⟩⟩,⟨z2,(gN n2 fun i=> [st (gT (f2 i))])⟩⟩:Vl)).t.names i)])= [])))|skip
     all_goals (try (have w1:=v1;rw [bI] at w1))
     all_goals (try (have w2:=v2;rw [bI] at w2))
     all_goals first|(have e:=aEa (op:=13) (a:=(Vl.of (⟨⟨⟨s1,l1,h1⟩,⟨b1,m1,r1⟩⟩,⟨z1,(gN n1 fun i=> [st (gT (f1 i))])⟩⟩:Vl))) (b:=(Vl.of (⟨⟨⟨s2,l2,h2⟩,⟨b2,m2,r2⟩⟩,⟨z2,(gN n2 fun i=> [st (gT (f2 i))])⟩⟩:Vl))) (m:=(gN n3 fun i=> [st (gT (f3 i))])) j5 j5 w1)|(have e:=aGU (op:=13) (a:=(Vl.of (⟨⟨⟨s1,l1,h1⟩,⟨b1,m1,r1⟩⟩,⟨z1,(gN n1 fun i=> [st (gT (f1 i))])⟩⟩:Vl))) (b:=(Vl.of (⟨⟨⟨s2,l2,h2⟩,⟨b2,m2,r2⟩⟩,⟨z2,(gN n2 fun i=> [st (gT (f2 i))])⟩⟩:Vl))) (m:=(gN n3 fun i=> [st (gT (f3 i))])) j5 j5 w2)|(have e:=bC3 (a:=(Vl.of (⟨⟨⟨s1,l1,h1⟩,⟨b1,m1,r1⟩⟩,⟨z1,(gN n1 fun i=> [st (gT (f1 i))])⟩⟩:Vl))) (b:=(Vl.of (⟨⟨⟨s2,l2,h2⟩,⟨b2,m2,r2⟩⟩,⟨z2,(gN n2 fun i=> [st (gT (f2 i))])⟩⟩:Vl))) (m:=(gN n3 fun i=> [st (gT (f3 i))])) w1 w2)
     all_goals repeat' (first|exact j6h|refine ⟨?_,?_⟩|intro _)
     all_goals first|(conv=>whnf)
     all_goals first|((with_reducible show aO _ _ (.region 6 _ _) _ _);refine cO aA (l:=qE) rQ ([.take 0,.take 1,.act 2 [1] [8,39],.act 3 [] [9,40]]) j4 ?_)|skip
     all_goals repeat' (first|exact trivial|refine ⟨?_,?_⟩|intro _)
     all_goals first|(conv=>whnf)
     all_goals first|((with_reducible show aO _ _ (.region 13 _ _) _ _);refine cO aA (l:=qE) rQ ([.take 0,.take 1,.act 2 [1] [8,69],.act 3 [] [9,70]]) j4 ?_)|skip
     all_goals repeat' (first|exact trivial|refine ⟨?_,?_⟩|intro _)
     all_goals first|(conv=>whnf)
     all_goals (try simp only [bI] at*)
     all_goals first|(first|exact rfl|(rw [e.1];done)|(rw [e.2];done))
   . all_goals first|(cases v1:(!(Vl.of (⟨⟨⟨s1,l1,h1⟩,⟨b1,m1,r1⟩⟩,⟨z1,(gN n1 fun i=> [st (gT (f1 i))])⟩⟩:Vl)).t.null&&decide (gN (Vl.of (⟨⟨⟨s1,l1,h1⟩,⟨b1,m1,r1⟩⟩,⟨z1,(gN n1 fun i=> [st (gT (f1 i))])⟩⟩:Vl)).t.names.length (fun i=> [st (aN (Vl.of (⟨⟨⟨s1,l1,h1⟩,⟨b1,m1,r1⟩⟩,⟨z1,(gN n1 fun i=> [st (gT (f1 i))])⟩⟩:Vl)).t.names i)])= [])))
     all_goals first|(have _:=(show _=false from v1);cases v2:(!(Vl.of (⟨⟨⟨s2,l2,h2⟩,⟨b2,m2,r2⟩⟩,⟨z2,(gN n2 fun i=> [st (gT (f2 i))])⟩⟩:Vl)).t.null&&decide (gN (Vl.of (⟨⟨⟨s2,l2,h2⟩,⟨b2,m2,r2⟩⟩,⟨z2,(gN n2 fun i=> [st (gT (f2 i))])⟩⟩:Vl)).t.names.length (fun i=> [st (aN (Vl.of (⟨⟨⟨s2,l2,h2⟩,⟨b2,m2,r2⟩⟩,⟨z2,(gN n2 fun i=> [st (gT (f2 i))])⟩⟩:Vl)).t.names i)])= [])))|skip
     all_goals (try (have w1:=v1;rw [bI] at w1))
     all_goals (try (have w2:=v2;rw [bI] at w2))
     all_goals first|(have e:=aEa (op:=14) (a:=(Vl.of (⟨⟨⟨s1,l1,h1⟩,⟨b1,m1,r1⟩⟩,⟨z1,(gN n1 fun i=> [st (gT (f1 i))])⟩⟩:Vl))) (b:=(Vl.of (⟨⟨⟨s2,l2,h2⟩,⟨b2,m2,r2⟩⟩,⟨z2,(gN n2 fun i=> [st (gT (f2 i))])⟩⟩:Vl))) (m:=(gN n3 fun i=> [st (gT (f3 i))])) j5 j5 w1)|(have e:=aGU (op:=14) (a:=(Vl.of (⟨⟨⟨s1,l1,h1⟩,⟨b1,m1,r1⟩⟩,⟨z1,(gN n1 fun i=> [st (gT (f1 i))])⟩⟩:Vl))) (b:=(Vl.of (⟨⟨⟨s2,l2,h2⟩,⟨b2,m2,r2⟩⟩,⟨z2,(gN n2 fun i=> [st (gT (f2 i))])⟩⟩:Vl))) (m:=(gN n3 fun i=> [st (gT (f3 i))])) j5 j5 w2)|(have e:=bC0 (a:=(Vl.of (⟨⟨⟨s1,l1,h1⟩,⟨b1,m1,r1⟩⟩,⟨z1,(gN n1 fun i=> [st (gT (f1 i))])⟩⟩:Vl))) (b:=(Vl.of (⟨⟨⟨s2,l2,h2⟩,⟨b2,m2,r2⟩⟩,⟨z2,(gN n2 fun i=> [st (gT (f2 i))])⟩⟩:Vl))) (m:=(gN n3 fun i=> [st (gT (f3 i))])) w1 w2)
     all_goals repeat' (first|exact j6h|refine ⟨?_,?_⟩|intro _)
     all_goals first|(conv=>whnf)
     all_goals first|((with_reducible show aO _ _ (.region 6 _ _) _ _);refine cO aA (l:=qE) rQ ([.take 0,.take 1,.act 2 [1] [8,39],.act 3 [] [9,40]]) j4 ?_)|skip
     all_goals repeat' (first|exact trivial|refine ⟨?_,?_⟩|intro _)
     all_goals first|(conv=>whnf)
     all_goals first|((with_reducible show aO _ _ (.region 13 _ _) _ _);refine cO aA (l:=qE) rQ ([.take 0,.take 1,.act 2 [1] [8,69],.act 3 [] [9,70]]) j4 ?_)|skip
     all_goals repeat' (first|exact trivial|refine ⟨?_,?_⟩|intro _)
     all_goals first|(conv=>whnf)
     all_goals (try simp only [bI] at*)
     all_goals first|(first|exact rfl|(rw [e.1];done)|(rw [e.2];done))
   . all_goals first|(cases v1:(!(Vl.of (⟨⟨⟨s1,l1,h1⟩,⟨b1,m1,r1⟩⟩,⟨z1,(gN n1 fun i=> [st (gT (f1 i))])⟩⟩:Vl)).t.null&&decide (gN (Vl.of (⟨⟨⟨s1,l1,h1⟩,⟨b1,m1,r1⟩⟩,⟨z1,(gN n1 fun i=> [st (gT (f1 i))])⟩⟩:Vl)).t.names.length (fun i=> [st (aN (Vl.of (⟨⟨⟨s1,l1,h1⟩,⟨b1,m1,r1⟩⟩,⟨z1,(gN n1 fun i=> [st (gT (f1 i))])⟩⟩:Vl)).t.names i)])= [])))
     all_goals first|(have _:=(show _=false from v1);cases v2:(!(Vl.of (⟨⟨⟨s2,l2,h2⟩,⟨b2,m2,r2⟩⟩,⟨z2,(gN n2 fun i=> [st (gT (f2 i))])⟩⟩:Vl)).t.null&&decide (gN (Vl.of (⟨⟨⟨s2,l2,h2⟩,⟨b2,m2,r2⟩⟩,⟨z2,(gN n2 fun i=> [st (gT (f2 i))])⟩⟩:Vl)).t.names.length (fun i=> [st (aN (Vl.of (⟨⟨⟨s2,l2,h2⟩,⟨b2,m2,r2⟩⟩,⟨z2,(gN n2 fun i=> [st (gT (f2 i))])⟩⟩:Vl)).t.names i)])= [])))|skip
     all_goals (try (have w1:=v1;rw [bI] at w1))
     all_goals (try (have w2:=v2;rw [bI] at w2))
     all_goals first|(have e:=aEa (op:=15) (a:=(Vl.of (⟨⟨⟨s1,l1,h1⟩,⟨b1,m1,r1⟩⟩,⟨z1,(gN n1 fun i=> [st (gT (f1 i))])⟩⟩:Vl))) (b:=(Vl.of (⟨⟨⟨s2,l2,h2⟩,⟨b2,m2,r2⟩⟩,⟨z2,(gN n2 fun i=> [st (gT (f2 i))])⟩⟩:Vl))) (m:=(gN n3 fun i=> [st (gT (f3 i))])) j5 j5 w1)|(have e:=aGU (op:=15) (a:=(Vl.of (⟨⟨⟨s1,l1,h1⟩,⟨b1,m1,r1⟩⟩,⟨z1,(gN n1 fun i=> [st (gT (f1 i))])⟩⟩:Vl))) (b:=(Vl.of (⟨⟨⟨s2,l2,h2⟩,⟨b2,m2,r2⟩⟩,⟨z2,(gN n2 fun i=> [st (gT (f2 i))])⟩⟩:Vl))) (m:=(gN n3 fun i=> [st (gT (f3 i))])) j5 j5 w2)|(have e:=bC1 (a:=(Vl.of (⟨⟨⟨s1,l1,h1⟩,⟨b1,m1,r1⟩⟩,⟨z1,(gN n1 fun i=> [st (gT (f1 i))])⟩⟩:Vl))) (b:=(Vl.of (⟨⟨⟨s2,l2,h2⟩,⟨b2,m2,r2⟩⟩,⟨z2,(gN n2 fun i=> [st (gT (f2 i))])⟩⟩:Vl))) (m:=(gN n3 fun i=> [st (gT (f3 i))])) w1 w2)
     all_goals repeat' (first|(with_reducible first|exact a7|exact di.1|exact j3l)|refine ⟨?_,?_⟩|intro _)
     all_goals first|(conv=>whnf)
     all_goals first|((with_reducible show aO _ _ (.region 6 _ _) _ _);refine cO aA (l:=qE) rQ ([.take 0,.take 1,.act 2 [1] [8,39],.act 3 [] [9,40]]) j4 ?_)|skip
     all_goals repeat' (first|exact trivial|refine ⟨?_,?_⟩|intro _)
     all_goals first|(conv=>whnf)
     all_goals first|((with_reducible show aO _ _ (.region 13 _ _) _ _);refine cO aA (l:=qE) rQ ([.take 0,.take 1,.act 2 [1] [8,69],.act 3 [] [9,70]]) j4 ?_)|skip
     all_goals repeat' (first|exact trivial|refine ⟨?_,?_⟩|intro _)
     all_goals first|(conv=>whnf)
     all_goals (try simp only [bI] at*)
     all_goals first|(first|exact rfl|(rw [e.1];done)|(rw [e.2];done))
 . cases h
def qF (op:Int):Int:=if op=12 then 13 else if op=13 then 12 else if op=14 then 15 else if op=15 then 14 else 0
def aHm (op:Int):Bool:=decide (op=12)||decide (op=13)
theorem aS3 {op:Int} (h:op≠12) (h2:op≠13) (h3:op≠14) (h4:op≠15):qF op=0/\ aHm op=false:=by
 unfold qF aHm;rw [if_neg h,if_neg h2,if_neg h3,if_neg h4,decide_eq_false h,decide_eq_false h2];exact ⟨rfl,rfl⟩
abbrev bEM:Vl:=⟨⟨Sp.of 0 0,Cg.of 0 0⟩,⟨false,[]⟩⟩
def aAr (v:Vl):Bool:=cU v.reduce&& !Vl.leq ⟨v.reduce.i,⟨false,[]⟩⟩ bEM
def aGV:List Ar->Option Rs
 | [.c (.d (.v (.int .i64 i0)))]=>some ⟨(-9223372036854775808<=i0/\ i0<9223372036854775808),.tup [.c (.d (it (qF i0))),.c (.d (bo (aHm i0)))],[]⟩
 |_=>none
theorem aR0:FC prog 123 aGV:=by
 intro xs pre r us h hp;unfold aGV at h;split at h
 . rename_i i0
   cases h;have a7:=hp
   refine aE aA (l:= []) trivial func123 rfl j4 false ?_
   all_goals first|(by_cases ec:i0=12)
   all_goals first|(have _:=(show¬_ from ec);by_cases ei:i0=13)|skip
   all_goals first|(have _:=(show¬_ from ei);by_cases fx:i0=14)|skip
   all_goals first|(have _:=(show¬_ from fx);by_cases dg:i0=15)|skip
   all_goals first|subst ec|subst ei|subst fx|subst dg|skip
   all_goals repeat' (first|exact trivial|(with_reducible first|exact j4s|exact nd)|refine ⟨?_,?_⟩|intro _)
   all_goals first|(conv=>whnf)
   all_goals first|exact congrArg (Value.int .i64) ((aS3 ec ei fx dg).1.symm)|exact congrArg Value.bool (aS3 ec ei fx dg).2.symm|rfl
 . cases h
def aFE:List Ar->Option Rs
 | [.agg [.d (.v (.bool s0)),.d (.v (.int .i64 l0)),.d (.v (.int .i64 h0)),.d (.v (.bool b0)),.d (.v (.int .i64 m0)),.d (.v (.int .i64 r0)),.d (.v (.bool z0)),.d (.lst 1 n0 f0)]]=>some ⟨((n0*16<=140737488351232/\ ∀i,i<n0->f0 i= [st (gT (f0 i))])/\ Sp.inR ⟨s0,l0,h0⟩/\ Cg.inR ⟨b0,m0,r0⟩),.tup [.c (.d (bo (aAr (⟨⟨⟨s0,l0,h0⟩,⟨b0,m0,r0⟩⟩,⟨z0,gN n0 f0⟩⟩:Vl)))),.c (.d (bo (Vl.hasInt (Vl.reduce (⟨⟨⟨s0,l0,h0⟩,⟨b0,m0,r0⟩⟩,⟨z0,gN n0 f0⟩⟩:Vl)) 0)))],[]⟩
 |_=>none
theorem aPu:FC prog 66 aFE:=by
 intro xs pre r us h hp;unfold aFE at h;split at h
 . rename_i s0 l0 h0 b0 m0 r0 z0 n0 f0
   cases h;have a7:=hp
   refine aU.of_eq (as':= [.agg [.d (.v (.bool s0)),.d (.v (.int .i64 l0)),.d (.v (.int .i64 h0)),.d (.v (.bool b0)),.d (.v (.int .i64 m0)),.d (.v (.int .i64 r0)),.d (.v (.bool z0)),.d (.lst 1 n0 fun i=> [st (gT (f0 i))])]]) ?_ rfl rfl ?_
   . repeat' (first|exact j2t|refine ⟨?_,?_⟩|fail)
     all_goals first|grind
   refine aE aA (l:= [(115,⟨[],aDe⟩),(116,⟨[],zK⟩),(43,⟨[],xK⟩),(117,⟨[],FN 1 aL6⟩),(118,⟨[],aJo⟩)]) ⟨aIQ,aDo,aBt,pS 1 bB2,aWH,trivial⟩ func66 rfl j4 true ?_
   have hR:aY (Vl.reduce (⟨⟨⟨s0,l0,h0⟩,⟨b0,m0,r0⟩⟩,⟨z0,(gN n0 fun i=> [st (gT (f0 i))])⟩⟩:Vl)):=aIR a7.1.1 a7.2.1 a7.2.2
   have hr:=hR.2
   have AA:=hR.1.1
   have GQ:Sp.inR (Sp.of 0 0)/\ Cg.inR (Cg.of 0 0):=by unfold Sp.inR Cg.inR;decide
   have c0:(gN n0 fun i=> [st (gT (f0 i))])=gN n0 f0:=rfl
   rw [<-c0];unfold aAr
   (repeat' (first|exact trivial|(with_reducible first|assumption|exact a7.2)|refine ⟨?_,?_⟩|intro _));all_goals first|apply qq|conv=>whnf
   all_goals (repeat' (fail));all_goals first|apply qq|conv=>whnf
   all_goals (try simp only [bI] at*)
   all_goals first|decide|exact a7.1.1|(exact absurd ‹_<0› (Nat.not_lt_zero _))|exact rfl|(have h:=‹cU _=false›;have h2:=h;skip;exact congrArg Value.bool (by rw [show cU (Vl.reduce (⟨⟨⟨s0,l0,h0⟩,⟨b0,m0,r0⟩⟩,⟨z0,(gN n0 fun i=> [st (gT (f0 i))])⟩⟩:Vl))=false from h2];rfl))|(have h:=‹cU _=true›;have h2:=h;skip;exact congrArg Value.bool (by rw [show cU (Vl.reduce (⟨⟨⟨s0,l0,h0⟩,⟨b0,m0,r0⟩⟩,⟨z0,(gN n0 fun i=> [st (gT (f0 i))])⟩⟩:Vl))=true from h2];rfl))
 . cases h
open Go.RowKit Go.Lib Go.Sort
theorem aS4 (op:Int) (a b:Vl):(eV op a b).t.names= []/\ (eW op a b).t.names= []:=by
 have hz:fP.t.names= []:=rfl
 have hl: ∀f,(jO a b f).t.names= []/\ (jP a b f).t.names= []:=fun f=>by unfold jO jP;rw [aDp,aDp];exact ⟨rfl,rfl⟩
 have hu: ∀a b,(lQ a b).t.names= []:=fun a b=>by unfold lQ;split<;>(rw [aDp])
 have hm:(uQ a b).t.names= []:=by
  show aP (aP (fF (aP []) (aP [])))= []
  rw [qZ];show aP (aP [])= [];rw [qZ,qZ]
 cases h:cU a with
 |false=>rw [(aCk h).1,(aCk h).2];exact ⟨hz,hz⟩
 |true=>
  cases h2:cU b with
  |false=>rw [(aCl h2).1,(aCl h2).2];exact ⟨hz,hz⟩
  |true=>
   by_cases ec:op=12
   . subst ec;rw [(aLK h h2).1,(aLK h h2).2];exact hl 1
   by_cases ei:op=13
   . subst ei;rw [(aLL h h2).1,(aLL h h2).2];exact hl 0
   by_cases dg:op=15
   . subst dg;rw [(aLM h h2).1,(aLM h h2).2];exact ⟨hu _ _,hu _ _⟩
   rw [(aMU h h2 ec ei dg).1,(aMU h h2 ec ei dg).2];exact ⟨hm,hm⟩
theorem aIk {a b:Ns} {m:List ByteArray}:(kR a b m).names.length<=a.names.length/\ ∀x,x∈(kR a b m).names->x∈a.names:=by
 unfold kR;split
 . exact ⟨Nat.le_refl _,fun _ h=>h⟩
 . split
   . exact ⟨dF _,fun _ h=>oE.1 h⟩
   . split
     . exact ⟨Nat.le_refl _,fun _ h=>h⟩
     . exact ⟨Nat.le_trans (dF _) (List.length_filter_le _ _),fun _ h=>(List.mem_filter.1 (oE.1 h)).1⟩
theorem aWk {l m:List ByteArray} {x:ByteArray} (h:x∈aP (fF l m)):x∈l:=(List.mem_filter.1 (oE.1 h)).1
theorem aWl {l:List ByteArray} {x:ByteArray} (h:iI x l=true):x∈l:=by unfold iI at h;simpa using h
theorem aVk {l m:List ByteArray} {x:ByteArray} (h:x∈aP (fF l m)):x∈m:=aWl (List.mem_filter.1 (oE.1 h)).2
theorem aS5 {op:Int} {a b:Vl} {m:List ByteArray}:(bZ op a b m).t.names.length<=a.t.names.length/\ ∀x,x∈(bZ op a b m).t.names->x∈a.t.names:=by
 have hc:=(aS4 op a b).1
 have hz:(eV op a b).t.names.length<=a.t.names.length/\ ∀x,x∈(eV op a b).t.names->x∈a.t.names:=j2a
 unfold bZ
 (repeat' split)<;>first|exact hz|exact ⟨Nat.le_refl _,fun _ h=>h⟩|exact aIk|exact ⟨Nat.le_trans (dF _) (aIx _ _),fun _ h=>aWk h⟩
theorem aS6 {op:Int} {a b:Vl} {m:List ByteArray}:(eC op a b m).t.names.length<=a.t.names.length+b.t.names.length/\ ∀x,x∈(eC op a b m).t.names->x∈b.t.names:=by
 have hc:=(aS4 op a b).2
 have hz:(eW op a b).t.names.length<=a.t.names.length+b.t.names.length/\ ∀x,x∈(eW op a b).t.names->x∈b.t.names:=j2a
 unfold eC
 (repeat' split)<;>first|exact hz|exact ⟨Nat.le_add_left _ _,fun _ h=>h⟩|exact ⟨Nat.le_trans aIk.1 (Nat.le_add_left _ _),aIk.2⟩|exact ⟨Nat.le_trans (Nat.le_trans (dF _) (aIx _ _)) (Nat.le_add_right _ _),fun _ h=>aVk h⟩
theorem bC4 {op:Int} {a b:Vl} {m:List ByteArray} (ha:a.i.s.inR/\ a.i.c.inR) (hb:b.i.s.inR/\ b.i.c.inR):((bZ op a b m).i.s.inR/\ (bZ op a b m).i.c.inR)/\ (eC op a b m).i.s.inR/\ (eC op a b m).i.c.inR:=by
 have h1:=aQW (op:=op) ha hb
 have h2:=aQX (op:=op) ha hb
 unfold bZ eC;constructor
 all_goals (repeat' split)<;>first|exact ha|exact hb|exact h1|exact h2
theorem aEb {op:Int} {a b:Vl} {m:List ByteArray} (ha:aY a) (hb:aY b) (la:a.t.names.length<=1099511627776) (lb:b.t.names.length<=1099511627776):aY (bZ op a b m)/\ aY (eC op a b m):=by
 have hi:=bC4 (op:=op) (m:=m) ha.2 hb.2
 have h1:=(aS5 (op:=op) (a:=a) (b:=b) (m:=m)).1
 have h2:=(aS6 (op:=op) (a:=a) (b:=b) (m:=m)).1
 exact ⟨⟨⟨by omega,fun _ _=>rfl⟩,hi.1⟩,⟨⟨by omega,fun _ _=>rfl⟩,hi.2⟩⟩
def rM (R:Ro) (s:Se) (E:En) (op:Int) (o0:Int) (x0:ByteArray) (v0:Vl) (o1:Int) (x1:ByteArray) (v1:Vl):En:=
 if aAr (lG op v0 v1 (bQ R.G R.G.length))=true then (if s.wants=true then ⟨false,[]⟩ else if Vl.none (bZ op v0.of v1.of (bQ R.G R.G.length))=true then ⟨false,[]⟩ else if Vl.none (eC op v0.of v1.of (bQ R.G R.G.length))=true then ⟨false,[]⟩ else eO (eO E o0 x0 (bZ op v0.of v1.of (bQ R.G R.G.length))) o1 x1 (eC op v0.of v1.of (bQ R.G R.G.length))) else ⟨false,[]⟩
def qG (R:Ro) (s:Se) (E:En) (op:Int) (o0:Int) (x0:ByteArray) (v0:Vl) (o1:Int) (x1:ByteArray) (v1:Vl) (t:Bool):En:=
 if t=true then rM R s E op o0 x0 v0 o1 x1 v1 else if aHm op=true then rM R s E (qF op) o1 x1 v1 o0 x0 v0 else rM R s E (qF op) o0 x0 v0 o1 x1 v1
structure EvW (W:List ByteArray) (E:En):Prop where
 ok:iO E.binds
 n:E.binds.length<=1048576
 v: ∀b,b∈E.binds->b.v.t.names.length<=1048576/\ ∀x,x∈b.v.t.names->x∈W
theorem EvW.ev {W:List ByteArray} {E:En} (h:EvW W E):rP E:=⟨h.ok,Nat.le_trans h.n j5,fun b hb=>(h.v b hb).1⟩
theorem aR1 (op:Int): -9223372036854775808<=qF op/\ qF op<9223372036854775808:=by unfold qF;(repeat' split)<;>decide
theorem aKT (v:Vl):(⟨⟨⟨v.i.s.some,v.i.s.lo,v.i.s.hi⟩,⟨v.i.c.some,v.i.c.m,v.i.c.r⟩⟩,⟨v.t.null,v.t.names⟩⟩:Vl)=v:=rfl
theorem aKU (v:Ig):(⟨v.s,v.c⟩:Ig)=v:=rfl
theorem aKV (v:Ns):(⟨v.null,v.names⟩:Ns)=v:=rfl
theorem aKW (v:Vl):(⟨v.i,v.t⟩:Vl)=v:=rfl
theorem aKX (v:Sp):(⟨v.some,v.lo,v.hi⟩:Sp)=v:=rfl
theorem aKY (v:Cg):(⟨v.some,v.m,v.r⟩:Cg)=v:=rfl
theorem aGd (v:En):(⟨v.live,v.binds⟩:En)=v:=rfl
theorem kds (k:Nat) (f:Nat->List DV):KdS (.lst 5 k f):=⟨fun _=> .inr ⟨k,f,rfl⟩⟩
abbrev kQ (e:En):Tm:= .va (.agg [.d (bo e.live),.d (dT e.binds)])
end Go.Proofs.YtiblbnhknemloaaGreat
namespace Go.Proofs.YtiblbnhknemloaaGreat
open Tryz
open Go.Sx
def aJc:List Ar->Option Rs
 | [.agg [.d (.v (.bool e0)),.d (.lst 9 n0 f0)],.agg [.d (.v (.bool e1)),.d (.lst 9 n1 f1)]]=>some ⟨(n0<=1099511627776/\ dN n0 f0)/\ (n1<=1099511627776/\ dN n1 f1)/\ ((⟨e0,aH n0 f0⟩:En)=(⟨e1,aH n1 f1⟩:En)),.va (.c (.d (bo (true)))),[]⟩
 |_=>none
theorem aWm:FC prog 40 aJc:=by
 intro xs pre r us h hp;unfold aJc at h;split at h
 . rename_i e0 n0 f0 e1 n1 f1
   cases h;obtain ⟨a7,a8,af⟩:=hp
   refine aU.deep (ys:= [.agg [.d (.v (.bool e0)),.d (.lst 9 n0 (aW (aH n0 f0)))],.agg [.d (.v (.bool e1)),.d (.lst 9 n1 (aW (aH n1 f1)))]]) ?_ ?_
   . repeat' (first|exact j3s|refine ⟨?_,?_⟩|fail)
     all_goals first|first|exact j5d
   refine aE aA (l:= [(20,⟨[],aFm⟩)]) ⟨aO3,trivial⟩ func40 rfl j4 true ?_
   have hn:=a7.1
   have hL:=iD a7.2
   have hlen:=eD n0 f0
   have kh:=eD n1 f1
   have bp:aH n0 f0=aH n1 f1:=congrArg En.binds af
   obtain rfl:e0=e1:=congrArg En.live af
   generalize vm:aH n1 f1=M at*
   generalize aH n0 f0=L at*
   subst bp
   clear a7 a8 af;subst hlen;subst kh
   repeat' (first|exact trivial|refine ⟨?_,?_⟩|intro _)
   all_goals first|(conv=>whnf)
   all_goals first|((with_reducible show aO _ _ _ _ _);skip)|(exfalso;simp_all;done)
   refine yU aA (l:= [(20,⟨[],aFm⟩)]) ⟨aO3,trivial⟩ j4 (X:=Nat)
    (fun x=>⟨[(5,vx (.int .i64 x)),(2,.va (.c (.own 0 0))),(3,.va (.c (.own 1 0)))],[(0,.cells [.d (bo e0),.d (.lst 9 L.length (aW L))]),(1,.cells [.d (bo e0),.d (.lst 9 L.length (aW L))])],2,56⟩)
    (fun x=>L.length-x) (fun x=>x<=L.length) [] []
    (fun x _ _=>x+1) (fun _=> [0,1]) [0,1] 0 0 0 ?_ ?_ ?_
   . exact Nat.zero_le _
   . repeat' (first|exact j2w|refine ⟨?_,?_⟩|fail)
   . rintro i k1
     rcases Nat.lt_or_ge i L.length with hi|hi
     . have ag:decide ((i:Int)<(L.length:Int))=true:=decide_eq_true j3
       have dw:=oH hL hi
       have hq:=dw.2
       simp only [Sp.inR,Cg.inR] at hq
       (repeat' (first|exact trivial|refine ⟨?_,?_⟩|intro _));all_goals first|apply qq|conv=>whnf
       all_goals (try simp only [Int.toNat_natCast,Nat.zero_add,bI] at*)
       all_goals first|omega|rfl|exact j3a|exact dw.1.1|skip
       all_goals first|(have h:=‹(!((aM L i).name.toList==(aM L i).name.toList))=true›;simp at h;done)|(have h:=‹(!Vl.exact _ _)=true›;rw [aCS] at h;cases h)
     . have ag:decide ((i:Int)<(L.length:Int))=false:=decide_eq_false j3
       obtain rfl:i=L.length:=j3
       (repeat' (first|exact trivial|refine ⟨?_,?_⟩|intro _));all_goals first|apply qq|conv=>whnf
       all_goals first|exact j3d
       all_goals fail
 . cases h
theorem aA8 {a b:Bd}:aQ a b=true↔kS a.name<kS b.name:=by
 unfold aQ;rw [decide_eq_true_eq];exact zS _ _
theorem aC8 {a b:Bd}:aQ a b=false↔ ¬kS a.name<kS b.name:=by
 rw [<-aA8];cases aQ a b<;>simp
def SS (D:List Bd):Prop:=D.Pairwise fun a b=>kS a.name<kS b.name
def lk:List Bd->ByteArray->Option Vl
 | [],_=>none
 |x::r,s=>if x.name=s then some x.v else lk r s
theorem aGe (s:ByteArray):lk [] s=none:=rfl
theorem iQ (x:Bd) (r:List Bd) (s:ByteArray):lk (x::r) s=if x.name=s then some x.v else lk r s:=rfl
theorem aJZ {D:List Bd} {s:ByteArray} (h: ∀b∈D,b.name≠s):lk D s=none:=by
 induction D with
 |nil=>rfl
 |cons x r ih=>rw [iQ,if_neg (h x List.mem_cons_self)];exact ih fun b hb=>h b (List.mem_cons_of_mem _ hb)
theorem aC0 (l m:List Bd) (s:ByteArray):lk (l++m) s=(lk l s).or (lk m s):=by
 induction l with
 |nil=>simp [lk]
 |cons x r ih=>
  rw [List.cons_append,iQ,iQ,ih];split<;>simp
theorem aR2 {D:List Bd} {s:ByteArray} {v:Vl} (h:lk D s=some v):(⟨s,v⟩:Bd)∈D:=by
 induction D with
 |nil=>cases h
 |cons x r ih=>
  rw [iQ] at h;split at h
  . rename_i e;subst e;cases h;exact List.mem_cons_self
  . exact List.mem_cons_of_mem _ (ih h)
theorem aIJ {D:List Bd} (h:SS D) {b:Bd} (hb:b∈D):lk D b.name=some b.v:=by
 induction D with
 |nil=>cases hb
 |cons x r ih=>
  have h1:=List.pairwise_cons.1 h
  rw [iQ];rcases List.mem_cons.1 hb with rfl|hb
  . rw [if_pos rfl]
  . rw [if_neg,ih h1.2 hb];intro e;have:=h1.1 b hb
    rw [e] at this;exact List.lt_irrefl _ this
theorem aZL {x:Bd} {r:List Bd} (h:SS (x::r)) {s:ByteArray} (hs: ¬kS x.name<kS s):lk r s=none:=by
 refine aJZ fun b hb e=>hs ?_
 have:=(List.pairwise_cons.1 h).1 b hb
 rw [e] at this;exact this
def aTN (f:Vl->Vl) (D:List Bd):List Bd:=D.map fun b=>⟨b.name,f b.v⟩
theorem aZM {f:Vl->Vl} {D:List Bd} (h:SS D):SS (aTN f D):=by
 unfold SS aTN;rw [List.pairwise_map];exact h
theorem bBq (r:List Bd) (p:Bd) (h:cK aQ (p::r)):SS (p::jV p r):=by
 induction r generalizing p with
 |nil=>simp [jV,SS]
 |cons y r ih=>
  have h1:=List.pairwise_cons.1 h
  have hy:=List.pairwise_cons.1 (ih y h1.2)
  rw [jV];split
  . rename_i e
    refine List.pairwise_cons.2 ⟨fun x hx=> ?_,hy.2⟩
    have:=hy.1 x hx
    rw [e] at this;exact this
  . rename_i e
    have Dv:kS p.name<kS y.name:=aDX (aC8.1 (h1.1 y List.mem_cons_self)) e
    refine List.pairwise_cons.2 ⟨fun x hx=> ?_,ih y h1.2⟩
    rcases List.mem_cons.1 hx with rfl|hx
    . exact Dv
    . exact List.lt_trans Dv (hy.1 x hx)
theorem bC5 {l:List Bd} (h:cK aQ l):SS (dd l):=by
 cases l with
 |nil=>exact List.Pairwise.nil
 |cons p r=>exact bBq r p h
namespace En
end En
theorem wM (e:En):SS e.clean.binds:=by
 unfold En.clean;split
 . exact aZM (bC5 (zD cN _))
 . exact List.Pairwise.nil
end Go.Proofs.YtiblbnhknemloaaGreat
