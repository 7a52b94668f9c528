/- What is left of values where a comparison holds: some of it. No condition. -/
import Derived.Test.YtehpbhpmkhlldaaGreatW21
set_option linter.all false
set_option maxHeartbeats 8000000
set_option maxRecDepth 100000
namespace Go.Proofs.YtehpbhpmkhlldaaGreat
open Go.Sx
section
variable {s:Sp} {e f X:Int}
theorem up_1' (hX:X=e-f) (h:wIntB X=true):upS s e f=Sp.meet s (Sp.of (-9223372036854775808) (wIntV X)):=by subst hX;exact up_1 h
theorem up_0' (hX:X=e-f) (h:wIntB X=false):upS s e f=noS:=by subst hX;exact up_0 h
theorem fr_1' (hX:X=e+f) (h:wIntB X=true):frS s e f=Sp.meet s (Sp.of (wIntV X) 9223372036854775807):=by subst hX;exact fr_1 h
theorem fr_0' (hX:X=e+f) (h:wIntB X=false):frS s e f=noS:=by subst hX;exact fr_0 h
end
section
variable {s:Sp} {n:Int}
theorem wt_1 (h:(s.lo==n)=true) (h2:(s.hi==n)=true):wtS s n=noS:=by unfold wtS;rw [if_pos ⟨eq_of_beq h,eq_of_beq h2⟩]
theorem wt_2 (h:(s.lo==n)=true) (h2:(s.hi==n)=false):wtS s n=Sp.of (IntKind.wrap .i64 (n+1)) s.hi:=by unfold wtS;rw [if_neg (fun k=>ne_of_beq_false h2 k.2),if_pos (eq_of_beq h)]
theorem wt_3 (h:(s.lo==n)=false) (h2:(s.hi==n)=true):wtS s n=Sp.of s.lo (IntKind.wrap .i64 (n-1)):=by unfold wtS;rw [if_neg (fun k=>ne_of_beq_false h k.1),if_neg (ne_of_beq_false h),if_pos (eq_of_beq h2)]
theorem wt_4 (h:(s.lo==n)=false) (h2:(s.hi==n)=false):wtS s n=s:=by unfold wtS;rw [if_neg (fun k=>ne_of_beq_false h k.1),if_neg (ne_of_beq_false h),if_neg (ne_of_beq_false h2)]
end
section
variable {a b:Vl} {op:Int}
theorem un_1 (h:(b.i.s.lo !=b.i.s.hi)=true):unV a b=bothV a.i.s a.i.c:=by unfold unV;rw [if_pos (by simpa using h)]
theorem un_2 (h:(b.i.s.lo !=b.i.s.hi)=false):unV a b=bothV (wtS a.i.s b.i.s.lo) a.i.c:=by unfold unV;rw [if_neg (by simpa using h)]
theorem cm_1 (h:intsB a=false):cmA op a b=zeroV/\ cmB op a b=zeroV:=by unfold cmA cmB;rw [if_pos h,if_pos h];exact ⟨rfl,rfl⟩
theorem cm_2 (h:intsB b=false):cmA op a b=zeroV/\ cmB op a b=zeroV:=by
 unfold cmA cmB;by_cases k:intsB a=false
 . rw [if_pos k,if_pos k];exact ⟨rfl,rfl⟩
 . rw [if_neg k,if_neg k,if_pos h,if_pos h];exact ⟨rfl,rfl⟩
section
variable (h:intsB a=true) (h2:intsB b=true)
include h h2
theorem cm_i:cmA op a b=(if op=12 then lessA a b 1 else if op=13 then lessA a b 0 else if op=15 then unV a b else meetI a b)/\ cmB op a b=(if op=12 then lessB a b 1 else if op=13 then lessB a b 0 else if op=15 then unV b a else meetI a b):=by
 constructor
 . unfold cmA;rw [if_neg (by rw [h];decide),if_neg (by rw [h2];decide)]
 . unfold cmB;rw [if_neg (by rw [h];decide),if_neg (by rw [h2];decide)]
theorem cm_12:cmA 12 a b=lessA a b 1/\ cmB 12 a b=lessB a b 1:=cm_i (op:=12) h h2
theorem cm_13:cmA 13 a b=lessA a b 0/\ cmB 13 a b=lessB a b 0:=cm_i (op:=13) h h2
theorem cm_15:cmA 15 a b=unV a b/\ cmB 15 a b=unV b a:=cm_i (op:=15) h h2
theorem cm_x (e12:op≠12) (e13:op≠13) (e15:op≠15):cmA op a b=meetI a b/\ cmB op a b=meetI a b:=by
 have:=cm_i (op:=op) h h2;rw [if_neg e12,if_neg e13,if_neg e15,if_neg e12,if_neg e13,if_neg e15] at this;exact this
end
end
theorem cmeetI_inR {a b:Vl} (ha:a.i.s.inR/\ a.i.c.inR) (hb:b.i.s.inR/\ b.i.c.inR):(meetI a b).i.s.inR/\ (meetI a b).i.c.inR:=by
 have:=meetF_inR (a:=⟨a.i,⟨false,[]⟩⟩) (b:=⟨b.i,⟨false,[]⟩⟩) ha hb
 exact reduce_inR this.1 this.2
def FCLess:List Ar->Option Rs
 | [.agg [.d (.v (.bool s0)),.d (.v (.int .i64 l0)),.d (.v (.int .i64 h0)),.d (.v (.bool b0)),.d (.v (.int .i64 m0)),.d (.v (.int .i64 r0)),.d (.v (.bool z0)),.d (.lst 1 n0 f0)],.agg [.d (.v (.bool s1)),.d (.v (.int .i64 l1)),.d (.v (.int .i64 h1)),.d (.v (.bool b1)),.d (.v (.int .i64 m1)),.d (.v (.int .i64 r1)),.d (.v (.bool z1)),.d (.lst 1 n1 f1)],.c (.d (.v (.int .i64 i2)))]=>some ⟨((n0*16<=140737488351232/\ ∀i,i<n0->f0 i= [st (gT (f0 i))])/\ Sp.inR ⟨s0,l0,h0⟩/\ Cg.inR ⟨b0,m0,r0⟩)/\ ((n1*16<=140737488351232/\ ∀i,i<n1->f1 i= [st (gT (f1 i))])/\ Sp.inR ⟨s1,l1,h1⟩/\ Cg.inR ⟨b1,m1,r1⟩)/\ (-9223372036854775808<=i2/\ i2<9223372036854775808)/\ (0<=i2/\ i2<=1),.tup [Vl.ar (lessA (⟨⟨⟨s0,l0,h0⟩,⟨b0,m0,r0⟩⟩,⟨z0,gN n0 f0⟩⟩:Vl) (⟨⟨⟨s1,l1,h1⟩,⟨b1,m1,r1⟩⟩,⟨z1,gN n1 f1⟩⟩:Vl) i2),Vl.ar (lessB (⟨⟨⟨s0,l0,h0⟩,⟨b0,m0,r0⟩⟩,⟨z0,gN n0 f0⟩⟩:Vl) (⟨⟨⟨s1,l1,h1⟩,⟨b1,m1,r1⟩⟩,⟨z1,gN n1 f1⟩⟩:Vl) i2)],[]⟩
 |_=>none
theorem fcCLess:FC Tryz.prog 109 FCLess:=by
 intro xs pre r us h hp
 unfold FCLess at h
 split at h
 . rename_i s0 l0 h0 b0 m0 r0 z0 n0 f0 s1 l1 h1 b1 m1 r1 z1 n1 f1 i2
   cases h
   obtain ⟨hp0,hp1,hp2,hp3⟩:=hp
   refine FCat.of_eq (as':= [.agg [.d (.v (.bool s0)),.d (.v (.int .i64 l0)),.d (.v (.int .i64 h0)),.d (.v (.bool b0)),.d (.v (.int .i64 m0)),.d (.v (.int .i64 r0)),.d (.v (.bool z0)),.d (.lst 1 n0 fun i=> [st (gT (f0 i))])],.agg [.d (.v (.bool s1)),.d (.v (.int .i64 l1)),.d (.v (.int .i64 h1)),.d (.v (.bool b1)),.d (.v (.int .i64 m1)),.d (.v (.int .i64 r1)),.d (.v (.bool z1)),.d (.lst 1 n1 fun i=> [st (gT (f1 i))])],.c (.d (.v (.int .i64 i2)))]) ?_ rfl rfl ?_
   . repeat' (first|exact trivial|exact rfl|refine ⟨?_, ?_⟩|fail)
     all_goals first|exact hp0.2|exact hp1.2|exact hp2.2|(intro i hi;exact (hp0.2 i hi).1)|(intro i hi;exact (hp1.2 i hi).1)|(intro i hi;exact (hp2.2 i hi).1)|grind
   refine fcat tys_ok (l:= [(122,⟨[],FWOf⟩),(121,⟨[],FWSub⟩),(137,⟨[],FWAdd⟩),(94,⟨[],FWInt⟩),(85,⟨[],FSOf⟩),(39,⟨[],FSMeet⟩),(79,⟨[],FCBothV⟩)]) ⟨fcWOf,fcWSub,fcWAdd,fcWInt,fcSOf,fcSMeet,fcCBothV,trivial⟩ Tryz.func109 rfl (by kernel_rfl) true ?_
   obtain ⟨hl0,hh0⟩:=id hp0.2.1
   obtain ⟨hl1,hh1⟩:=id hp1.2.1
   dsimp only at hl0 hh0 hl1 hh1
   have v1:=wsub_v hh1 hp3
   have v2:=wadd_v hl0 hp3
   have rw1:=wInt_r (wd ((wd h1).val-(wd i2).val)).val
   have rw2:=wInt_r (wd ((wd l0).val+(wd i2).val)).val
   have y1:Sp.inR (Sp.of (-9223372036854775808) (wIntV (wd ((wd h1).val-(wd i2).val)).val)):=Sp.of_inR (by unfold rI;decide) rw1
   have y2:Sp.inR (Sp.of (wIntV (wd ((wd l0).val+(wd i2).val)).val) 9223372036854775807):=Sp.of_inR rw2 (by unfold rI;decide)
   have y3:=Sp.meet_inR hp0.2.1 y1
   have y4:=Sp.meet_inR hp1.2.1 y2
   have hmn:(-9223372036854775808:Int)<= -9223372036854775808/\ (-9223372036854775808:Int)<9223372036854775808:=by decide
   have hmx:(-9223372036854775808:Int)<=9223372036854775807/\ (9223372036854775807:Int)<9223372036854775808:=by decide
   have nn:=noS_inR
   have c0:(gN n0 fun i=> [st (gT (f0 i))])=gN n0 f0:=rfl
   rw [<-c0]
   have c1:(gN n1 fun i=> [st (gT (f1 i))])=gN n1 f1:=rfl
   rw [<-c1]
   cases w1:wIntB (wd ((wd h1).val-(wd i2).val)).val
   . cases w2:wIntB (wd ((wd l0).val+(wd i2).val)).val
     . have w1n:=congrArg Bool.not w1;simp only [Bool.not_true,Bool.not_false] at w1n
       have w2n:=congrArg Bool.not w2;simp only [Bool.not_true,Bool.not_false] at w2n
       have ea:=up_0' (s:=(⟨s0,l0,h0⟩:Sp)) v1 w1
       have eb:=fr_0' (s:=(⟨s1,l1,h1⟩:Sp)) v2 w2
       have eA:lessA (⟨⟨⟨s0,l0,h0⟩,⟨b0,m0,r0⟩⟩,⟨z0,(gN n0 fun i=> [st (gT (f0 i))])⟩⟩:Vl) (⟨⟨⟨s1,l1,h1⟩,⟨b1,m1,r1⟩⟩,⟨z1,(gN n1 fun i=> [st (gT (f1 i))])⟩⟩:Vl) i2=bothV noS (⟨b0,m0,r0⟩:Cg):=by unfold lessA;exact congrArg (fun s=>bothV s (⟨b0,m0,r0⟩:Cg)) ea
       have eB:lessB (⟨⟨⟨s0,l0,h0⟩,⟨b0,m0,r0⟩⟩,⟨z0,(gN n0 fun i=> [st (gT (f0 i))])⟩⟩:Vl) (⟨⟨⟨s1,l1,h1⟩,⟨b1,m1,r1⟩⟩,⟨z1,(gN n1 fun i=> [st (gT (f1 i))])⟩⟩:Vl) i2=bothV noS (⟨b1,m1,r1⟩:Cg):=by unfold lessB;exact congrArg (fun s=>bothV s (⟨b1,m1,r1⟩:Cg)) eb
       repeat' (first|exact trivial|(with_reducible first|exact hp0|exact hp0.1|exact hp0.2|exact hp0.2.1|exact hp0.2.2|exact hp0.1.1|exact hp1|exact hp1.1|exact hp1.2|exact hp1.2.1|exact hp1.2.2|exact hp1.1.1|exact hp2|exact y1|exact y2|exact y3|exact y4|exact hl0|exact hh0|exact hl1|exact hh1|exact rw1|exact rw2|exact hmn|exact hmx|exact nn|exact And.intro hmn rw1|exact And.intro rw2 hmx|exact wd_ok _|exact And.intro (wd_ok _) (wd_ok _)|exact (fun h:false=true=>absurd h (by decide))|exact (fun h:true=false=>absurd h (by decide))|exact (fun h:(!false)=false=>absurd h (by decide))|exact (fun h:(!true)=true=>absurd h (by decide))|exact (fun h=>absurd (w1.symm.trans h) (by decide))|exact (fun h=>absurd (w2.symm.trans h) (by decide))|exact (fun h=>absurd (w1n.symm.trans h) (by decide))|exact (fun h=>absurd (w2n.symm.trans h) (by decide)))|refine ⟨?_, ?_⟩|intro _)
       all_goals first|(with_reducible first|apply qa|apply qb|apply qc|apply qd)|(conv=>whnf)
       all_goals first|(with_reducible rfl)|decide|exact nn|(intro _ _;exact rfl)|exact rfl|(rw [eA];done)|(rw [eA];rfl)|(rw [eB];done)|(rw [eB];rfl)|rfl
     . have w1n:=congrArg Bool.not w1;simp only [Bool.not_true,Bool.not_false] at w1n
       have w2n:=congrArg Bool.not w2;simp only [Bool.not_true,Bool.not_false] at w2n
       have ea:=up_0' (s:=(⟨s0,l0,h0⟩:Sp)) v1 w1
       have eb:=fr_1' (s:=(⟨s1,l1,h1⟩:Sp)) v2 w2
       have eA:lessA (⟨⟨⟨s0,l0,h0⟩,⟨b0,m0,r0⟩⟩,⟨z0,(gN n0 fun i=> [st (gT (f0 i))])⟩⟩:Vl) (⟨⟨⟨s1,l1,h1⟩,⟨b1,m1,r1⟩⟩,⟨z1,(gN n1 fun i=> [st (gT (f1 i))])⟩⟩:Vl) i2=bothV noS (⟨b0,m0,r0⟩:Cg):=by unfold lessA;exact congrArg (fun s=>bothV s (⟨b0,m0,r0⟩:Cg)) ea
       have eB:lessB (⟨⟨⟨s0,l0,h0⟩,⟨b0,m0,r0⟩⟩,⟨z0,(gN n0 fun i=> [st (gT (f0 i))])⟩⟩:Vl) (⟨⟨⟨s1,l1,h1⟩,⟨b1,m1,r1⟩⟩,⟨z1,(gN n1 fun i=> [st (gT (f1 i))])⟩⟩:Vl) i2=bothV (Sp.meet (⟨s1,l1,h1⟩:Sp) (Sp.of (wIntV (wd ((wd l0).val+(wd i2).val)).val) 9223372036854775807)) (⟨b1,m1,r1⟩:Cg):=by unfold lessB;exact congrArg (fun s=>bothV s (⟨b1,m1,r1⟩:Cg)) eb
       repeat' (first|exact trivial|(with_reducible first|exact hp0|exact hp0.1|exact hp0.2|exact hp0.2.1|exact hp0.2.2|exact hp0.1.1|exact hp1|exact hp1.1|exact hp1.2|exact hp1.2.1|exact hp1.2.2|exact hp1.1.1|exact hp2|exact y1|exact y2|exact y3|exact y4|exact hl0|exact hh0|exact hl1|exact hh1|exact rw1|exact rw2|exact hmn|exact hmx|exact nn|exact And.intro hmn rw1|exact And.intro rw2 hmx|exact wd_ok _|exact And.intro (wd_ok _) (wd_ok _)|exact (fun h:false=true=>absurd h (by decide))|exact (fun h:true=false=>absurd h (by decide))|exact (fun h:(!false)=false=>absurd h (by decide))|exact (fun h:(!true)=true=>absurd h (by decide))|exact (fun h=>absurd (w1.symm.trans h) (by decide))|exact (fun h=>absurd (w2.symm.trans h) (by decide))|exact (fun h=>absurd (w1n.symm.trans h) (by decide))|exact (fun h=>absurd (w2n.symm.trans h) (by decide)))|refine ⟨?_, ?_⟩|intro _)
       all_goals first|(with_reducible first|apply qa|apply qb|apply qc|apply qd)|(conv=>whnf)
       all_goals first|(with_reducible rfl)|decide|exact nn|(intro _ _;exact rfl)|exact rfl|(rw [eA];done)|(rw [eA];rfl)|(rw [eB];done)|(rw [eB];rfl)|rfl
   . cases w2:wIntB (wd ((wd l0).val+(wd i2).val)).val
     . have w1n:=congrArg Bool.not w1;simp only [Bool.not_true,Bool.not_false] at w1n
       have w2n:=congrArg Bool.not w2;simp only [Bool.not_true,Bool.not_false] at w2n
       have ea:=up_1' (s:=(⟨s0,l0,h0⟩:Sp)) v1 w1
       have eb:=fr_0' (s:=(⟨s1,l1,h1⟩:Sp)) v2 w2
       have eA:lessA (⟨⟨⟨s0,l0,h0⟩,⟨b0,m0,r0⟩⟩,⟨z0,(gN n0 fun i=> [st (gT (f0 i))])⟩⟩:Vl) (⟨⟨⟨s1,l1,h1⟩,⟨b1,m1,r1⟩⟩,⟨z1,(gN n1 fun i=> [st (gT (f1 i))])⟩⟩:Vl) i2=bothV (Sp.meet (⟨s0,l0,h0⟩:Sp) (Sp.of (-9223372036854775808) (wIntV (wd ((wd h1).val-(wd i2).val)).val))) (⟨b0,m0,r0⟩:Cg):=by unfold lessA;exact congrArg (fun s=>bothV s (⟨b0,m0,r0⟩:Cg)) ea
       have eB:lessB (⟨⟨⟨s0,l0,h0⟩,⟨b0,m0,r0⟩⟩,⟨z0,(gN n0 fun i=> [st (gT (f0 i))])⟩⟩:Vl) (⟨⟨⟨s1,l1,h1⟩,⟨b1,m1,r1⟩⟩,⟨z1,(gN n1 fun i=> [st (gT (f1 i))])⟩⟩:Vl) i2=bothV noS (⟨b1,m1,r1⟩:Cg):=by unfold lessB;exact congrArg (fun s=>bothV s (⟨b1,m1,r1⟩:Cg)) eb
       repeat' (first|exact trivial|(with_reducible first|exact hp0|exact hp0.1|exact hp0.2|exact hp0.2.1|exact hp0.2.2|exact hp0.1.1|exact hp1|exact hp1.1|exact hp1.2|exact hp1.2.1|exact hp1.2.2|exact hp1.1.1|exact hp2|exact y1|exact y2|exact y3|exact y4|exact hl0|exact hh0|exact hl1|exact hh1|exact rw1|exact rw2|exact hmn|exact hmx|exact nn|exact And.intro hmn rw1|exact And.intro rw2 hmx|exact wd_ok _|exact And.intro (wd_ok _) (wd_ok _)|exact (fun h:false=true=>absurd h (by decide))|exact (fun h:true=false=>absurd h (by decide))|exact (fun h:(!false)=false=>absurd h (by decide))|exact (fun h:(!true)=true=>absurd h (by decide))|exact (fun h=>absurd (w1.symm.trans h) (by decide))|exact (fun h=>absurd (w2.symm.trans h) (by decide))|exact (fun h=>absurd (w1n.symm.trans h) (by decide))|exact (fun h=>absurd (w2n.symm.trans h) (by decide)))|refine ⟨?_, ?_⟩|intro _)
       all_goals first|(with_reducible first|apply qa|apply qb|apply qc|apply qd)|(conv=>whnf)
       all_goals first|(with_reducible rfl)|decide|exact nn|(intro _ _;exact rfl)|exact rfl|(rw [eA];done)|(rw [eA];rfl)|(rw [eB];done)|(rw [eB];rfl)|rfl
     . have w1n:=congrArg Bool.not w1;simp only [Bool.not_true,Bool.not_false] at w1n
       have w2n:=congrArg Bool.not w2;simp only [Bool.not_true,Bool.not_false] at w2n
       have ea:=up_1' (s:=(⟨s0,l0,h0⟩:Sp)) v1 w1
       have eb:=fr_1' (s:=(⟨s1,l1,h1⟩:Sp)) v2 w2
       have eA:lessA (⟨⟨⟨s0,l0,h0⟩,⟨b0,m0,r0⟩⟩,⟨z0,(gN n0 fun i=> [st (gT (f0 i))])⟩⟩:Vl) (⟨⟨⟨s1,l1,h1⟩,⟨b1,m1,r1⟩⟩,⟨z1,(gN n1 fun i=> [st (gT (f1 i))])⟩⟩:Vl) i2=bothV (Sp.meet (⟨s0,l0,h0⟩:Sp) (Sp.of (-9223372036854775808) (wIntV (wd ((wd h1).val-(wd i2).val)).val))) (⟨b0,m0,r0⟩:Cg):=by unfold lessA;exact congrArg (fun s=>bothV s (⟨b0,m0,r0⟩:Cg)) ea
       have eB:lessB (⟨⟨⟨s0,l0,h0⟩,⟨b0,m0,r0⟩⟩,⟨z0,(gN n0 fun i=> [st (gT (f0 i))])⟩⟩:Vl) (⟨⟨⟨s1,l1,h1⟩,⟨b1,m1,r1⟩⟩,⟨z1,(gN n1 fun i=> [st (gT (f1 i))])⟩⟩:Vl) i2=bothV (Sp.meet (⟨s1,l1,h1⟩:Sp) (Sp.of (wIntV (wd ((wd l0).val+(wd i2).val)).val) 9223372036854775807)) (⟨b1,m1,r1⟩:Cg):=by unfold lessB;exact congrArg (fun s=>bothV s (⟨b1,m1,r1⟩:Cg)) eb
       repeat' (first|exact trivial|(with_reducible first|exact hp0|exact hp0.1|exact hp0.2|exact hp0.2.1|exact hp0.2.2|exact hp0.1.1|exact hp1|exact hp1.1|exact hp1.2|exact hp1.2.1|exact hp1.2.2|exact hp1.1.1|exact hp2|exact y1|exact y2|exact y3|exact y4|exact hl0|exact hh0|exact hl1|exact hh1|exact rw1|exact rw2|exact hmn|exact hmx|exact nn|exact And.intro hmn rw1|exact And.intro rw2 hmx|exact wd_ok _|exact And.intro (wd_ok _) (wd_ok _)|exact (fun h:false=true=>absurd h (by decide))|exact (fun h:true=false=>absurd h (by decide))|exact (fun h:(!false)=false=>absurd h (by decide))|exact (fun h:(!true)=true=>absurd h (by decide))|exact (fun h=>absurd (w1.symm.trans h) (by decide))|exact (fun h=>absurd (w2.symm.trans h) (by decide))|exact (fun h=>absurd (w1n.symm.trans h) (by decide))|exact (fun h=>absurd (w2n.symm.trans h) (by decide)))|refine ⟨?_, ?_⟩|intro _)
       all_goals first|(with_reducible first|apply qa|apply qb|apply qc|apply qd)|(conv=>whnf)
       all_goals first|(with_reducible rfl)|decide|exact nn|(intro _ _;exact rfl)|exact rfl|(rw [eA];done)|(rw [eA];rfl)|(rw [eB];done)|(rw [eB];rfl)|rfl
 . cases h
def FCWithout:List Ar->Option Rs
 | [.agg [.d (.v (.bool s0)),.d (.v (.int .i64 l0)),.d (.v (.int .i64 h0))],.c (.d (.v (.int .i64 i1)))]=>some ⟨(Sp.inR ⟨s0,l0,h0⟩)/\ (-9223372036854775808<=i1/\ i1<9223372036854775808),.va (Sp.ar (wtS (⟨s0,l0,h0⟩:Sp) i1)),[]⟩
 |_=>none
theorem fcCWithout:FC Tryz.prog 154 FCWithout:=by
 intro xs pre r us h hp
 unfold FCWithout at h
 split at h
 . rename_i s0 l0 h0 i1
   cases h
   obtain ⟨hp0,hp1⟩:=hp
   refine fcat tys_ok (l:= [(85,⟨[],FSOf⟩)]) ⟨fcSOf,trivial⟩ Tryz.func154 rfl (by kernel_rfl) false ?_
   have q0:=hp0;unfold Sp.inR at q0;dsimp only at q0
   cases h1_:(l0==i1)
   . cases h2_:(h0==i1)
     . have h1_n:=congrArg Bool.not h1_;simp only [Bool.not_true,Bool.not_false] at h1_n
       have h2_n:=congrArg Bool.not h2_;simp only [Bool.not_true,Bool.not_false] at h2_n
       have e:=wt_4 (s:=(⟨s0,l0,h0⟩:Sp)) (n:=i1) h1_ h2_
       repeat' (first|exact trivial|(with_reducible first|exact hp0|exact hp1|exact (w64_r _).1|exact (w64_r _).2|exact w64_r _|exact q0.1|exact q0.2|exact q0.1.1|exact q0.1.2|exact q0.2.1|exact q0.2.2|exact (fun h:false=true=>absurd h (by decide))|exact (fun h:true=false=>absurd h (by decide))|exact (fun h:(!false)=false=>absurd h (by decide))|exact (fun h:(!true)=true=>absurd h (by decide))|exact (fun h=>absurd (h1_.symm.trans h) (by decide))|exact (fun h=>absurd (h2_.symm.trans h) (by decide))|exact (fun h=>absurd (h1_n.symm.trans h) (by decide))|exact (fun h=>absurd (h2_n.symm.trans h) (by decide)))|refine ⟨?_, ?_⟩|intro _)
       all_goals first|(with_reducible first|apply qa|apply qb|apply qc|apply qd)|(conv=>whnf)
       all_goals first|(with_reducible rfl)|decide|(rw [e];done)|(rw [e];rfl)|rfl
     . have h1_n:=congrArg Bool.not h1_;simp only [Bool.not_true,Bool.not_false] at h1_n
       have h2_n:=congrArg Bool.not h2_;simp only [Bool.not_true,Bool.not_false] at h2_n
       have e:=wt_3 (s:=(⟨s0,l0,h0⟩:Sp)) (n:=i1) h1_ h2_
       repeat' (first|exact trivial|(with_reducible first|exact hp0|exact hp1|exact (w64_r _).1|exact (w64_r _).2|exact w64_r _|exact q0.1|exact q0.2|exact q0.1.1|exact q0.1.2|exact q0.2.1|exact q0.2.2|exact (fun h:false=true=>absurd h (by decide))|exact (fun h:true=false=>absurd h (by decide))|exact (fun h:(!false)=false=>absurd h (by decide))|exact (fun h:(!true)=true=>absurd h (by decide))|exact (fun h=>absurd (h1_.symm.trans h) (by decide))|exact (fun h=>absurd (h2_.symm.trans h) (by decide))|exact (fun h=>absurd (h1_n.symm.trans h) (by decide))|exact (fun h=>absurd (h2_n.symm.trans h) (by decide)))|refine ⟨?_, ?_⟩|intro _)
       all_goals first|(with_reducible first|apply qa|apply qb|apply qc|apply qd)|(conv=>whnf)
       all_goals first|(with_reducible rfl)|decide|(rw [e];done)|(rw [e];rfl)|rfl
   . cases h2_:(h0==i1)
     . have h1_n:=congrArg Bool.not h1_;simp only [Bool.not_true,Bool.not_false] at h1_n
       have h2_n:=congrArg Bool.not h2_;simp only [Bool.not_true,Bool.not_false] at h2_n
       have e:=wt_2 (s:=(⟨s0,l0,h0⟩:Sp)) (n:=i1) h1_ h2_
       repeat' (first|exact trivial|(with_reducible first|exact hp0|exact hp1|exact (w64_r _).1|exact (w64_r _).2|exact w64_r _|exact q0.1|exact q0.2|exact q0.1.1|exact q0.1.2|exact q0.2.1|exact q0.2.2|exact (fun h:false=true=>absurd h (by decide))|exact (fun h:true=false=>absurd h (by decide))|exact (fun h:(!false)=false=>absurd h (by decide))|exact (fun h:(!true)=true=>absurd h (by decide))|exact (fun h=>absurd (h1_.symm.trans h) (by decide))|exact (fun h=>absurd (h2_.symm.trans h) (by decide))|exact (fun h=>absurd (h1_n.symm.trans h) (by decide))|exact (fun h=>absurd (h2_n.symm.trans h) (by decide)))|refine ⟨?_, ?_⟩|intro _)
       all_goals first|(with_reducible first|apply qa|apply qb|apply qc|apply qd)|(conv=>whnf)
       all_goals first|(with_reducible rfl)|decide|(rw [e];done)|(rw [e];rfl)|rfl
     . have h1_n:=congrArg Bool.not h1_;simp only [Bool.not_true,Bool.not_false] at h1_n
       have h2_n:=congrArg Bool.not h2_;simp only [Bool.not_true,Bool.not_false] at h2_n
       have e:=wt_1 (s:=(⟨s0,l0,h0⟩:Sp)) (n:=i1) h1_ h2_
       repeat' (first|exact trivial|(with_reducible first|exact hp0|exact hp1|exact (w64_r _).1|exact (w64_r _).2|exact w64_r _|exact q0.1|exact q0.2|exact q0.1.1|exact q0.1.2|exact q0.2.1|exact q0.2.2|exact (fun h:false=true=>absurd h (by decide))|exact (fun h:true=false=>absurd h (by decide))|exact (fun h:(!false)=false=>absurd h (by decide))|exact (fun h:(!true)=true=>absurd h (by decide))|exact (fun h=>absurd (h1_.symm.trans h) (by decide))|exact (fun h=>absurd (h2_.symm.trans h) (by decide))|exact (fun h=>absurd (h1_n.symm.trans h) (by decide))|exact (fun h=>absurd (h2_n.symm.trans h) (by decide)))|refine ⟨?_, ?_⟩|intro _)
       all_goals first|(with_reducible first|apply qa|apply qb|apply qc|apply qd)|(conv=>whnf)
       all_goals first|(with_reducible rfl)|decide|(rw [e];done)|(rw [e];rfl)|rfl
 . cases h
def FCUnlike:List Ar->Option Rs
 | [.agg [.d (.v (.bool s0)),.d (.v (.int .i64 l0)),.d (.v (.int .i64 h0)),.d (.v (.bool b0)),.d (.v (.int .i64 m0)),.d (.v (.int .i64 r0)),.d (.v (.bool z0)),.d (.lst 1 n0 f0)],.agg [.d (.v (.bool s1)),.d (.v (.int .i64 l1)),.d (.v (.int .i64 h1)),.d (.v (.bool b1)),.d (.v (.int .i64 m1)),.d (.v (.int .i64 r1)),.d (.v (.bool z1)),.d (.lst 1 n1 f1)]]=>some ⟨((n0*16<=140737488351232/\ ∀i,i<n0->f0 i= [st (gT (f0 i))])/\ Sp.inR ⟨s0,l0,h0⟩/\ Cg.inR ⟨b0,m0,r0⟩)/\ ((n1*16<=140737488351232/\ ∀i,i<n1->f1 i= [st (gT (f1 i))])/\ Sp.inR ⟨s1,l1,h1⟩/\ Cg.inR ⟨b1,m1,r1⟩),.va (Vl.ar (unV (⟨⟨⟨s0,l0,h0⟩,⟨b0,m0,r0⟩⟩,⟨z0,gN n0 f0⟩⟩:Vl) (⟨⟨⟨s1,l1,h1⟩,⟨b1,m1,r1⟩⟩,⟨z1,gN n1 f1⟩⟩:Vl))),[]⟩
 |_=>none
theorem fcCUnlike:FC Tryz.prog 110 FCUnlike:=by
 intro xs pre r us h hp
 unfold FCUnlike at h
 split at h
 . rename_i s0 l0 h0 b0 m0 r0 z0 n0 f0 s1 l1 h1 b1 m1 r1 z1 n1 f1
   cases h
   obtain ⟨hp0,hp1⟩:=hp
   refine FCat.of_eq (as':= [.agg [.d (.v (.bool s0)),.d (.v (.int .i64 l0)),.d (.v (.int .i64 h0)),.d (.v (.bool b0)),.d (.v (.int .i64 m0)),.d (.v (.int .i64 r0)),.d (.v (.bool z0)),.d (.lst 1 n0 fun i=> [st (gT (f0 i))])],.agg [.d (.v (.bool s1)),.d (.v (.int .i64 l1)),.d (.v (.int .i64 h1)),.d (.v (.bool b1)),.d (.v (.int .i64 m1)),.d (.v (.int .i64 r1)),.d (.v (.bool z1)),.d (.lst 1 n1 fun i=> [st (gT (f1 i))])]]) ?_ rfl rfl ?_
   . repeat' (first|exact trivial|exact rfl|refine ⟨?_, ?_⟩|fail)
     all_goals first|exact hp0.2|exact hp1.2|exact hp2.2|(intro i hi;exact (hp0.2 i hi).1)|(intro i hi;exact (hp1.2 i hi).1)|(intro i hi;exact (hp2.2 i hi).1)|grind
   refine fcat tys_ok (l:= [(79,⟨[],FCBothV⟩),(154,⟨[],FCWithout⟩)]) ⟨fcCBothV,fcCWithout,trivial⟩ Tryz.func110 rfl (by kernel_rfl) true ?_
   obtain ⟨hl1,hh1⟩:=id hp1.2.1
   dsimp only at hl1 hh1
   have y1:=wtS_inR (n:=l1) hp0.2.1
   have c0:(gN n0 fun i=> [st (gT (f0 i))])=gN n0 f0:=rfl
   rw [<-c0]
   have c1:(gN n1 fun i=> [st (gT (f1 i))])=gN n1 f1:=rfl
   rw [<-c1]
   cases w1:(l1 !=h1)
   . have w1n:=congrArg Bool.not w1;simp only [Bool.not_true,Bool.not_false] at w1n
     have e:=un_2 (a:=(⟨⟨⟨s0,l0,h0⟩,⟨b0,m0,r0⟩⟩,⟨z0,(gN n0 fun i=> [st (gT (f0 i))])⟩⟩:Vl)) (b:=(⟨⟨⟨s1,l1,h1⟩,⟨b1,m1,r1⟩⟩,⟨z1,(gN n1 fun i=> [st (gT (f1 i))])⟩⟩:Vl)) w1
     repeat' (first|exact trivial|(with_reducible first|exact hp0|exact hp0.1|exact hp0.2|exact hp0.2.1|exact hp0.2.2|exact hp0.1.1|exact hp1|exact hp1.1|exact hp1.2|exact hp1.2.1|exact hp1.2.2|exact hp1.1.1|exact y1|exact hl1|exact hh1|exact (fun h:false=true=>absurd h (by decide))|exact (fun h:true=false=>absurd h (by decide))|exact (fun h:(!false)=false=>absurd h (by decide))|exact (fun h:(!true)=true=>absurd h (by decide))|exact (fun h=>absurd (w1.symm.trans h) (by decide))|exact (fun h=>absurd (w1n.symm.trans h) (by decide)))|refine ⟨?_, ?_⟩|intro _)
     all_goals first|(with_reducible first|apply qa|apply qb|apply qc|apply qd)|(conv=>whnf)
     all_goals first|(with_reducible rfl)|decide|(intro _ _;exact rfl)|exact rfl|(rw [e];done)|(rw [e];rfl)|rfl
   . have w1n:=congrArg Bool.not w1;simp only [Bool.not_true,Bool.not_false] at w1n
     have e:=un_1 (a:=(⟨⟨⟨s0,l0,h0⟩,⟨b0,m0,r0⟩⟩,⟨z0,(gN n0 fun i=> [st (gT (f0 i))])⟩⟩:Vl)) (b:=(⟨⟨⟨s1,l1,h1⟩,⟨b1,m1,r1⟩⟩,⟨z1,(gN n1 fun i=> [st (gT (f1 i))])⟩⟩:Vl)) w1
     repeat' (first|exact trivial|(with_reducible first|exact hp0|exact hp0.1|exact hp0.2|exact hp0.2.1|exact hp0.2.2|exact hp0.1.1|exact hp1|exact hp1.1|exact hp1.2|exact hp1.2.1|exact hp1.2.2|exact hp1.1.1|exact y1|exact hl1|exact hh1|exact (fun h:false=true=>absurd h (by decide))|exact (fun h:true=false=>absurd h (by decide))|exact (fun h:(!false)=false=>absurd h (by decide))|exact (fun h:(!true)=true=>absurd h (by decide))|exact (fun h=>absurd (w1.symm.trans h) (by decide))|exact (fun h=>absurd (w1n.symm.trans h) (by decide)))|refine ⟨?_, ?_⟩|intro _)
     all_goals first|(with_reducible first|apply qa|apply qb|apply qc|apply qd)|(conv=>whnf)
     all_goals first|(with_reducible rfl)|decide|(intro _ _;exact rfl)|exact rfl|(rw [e];done)|(rw [e];rfl)|rfl
 . cases h
def FCCompared:List Ar->Option Rs
 | [.c (.d (.v (.int .i64 i0))),.agg [.d (.v (.bool s1)),.d (.v (.int .i64 l1)),.d (.v (.int .i64 h1)),.d (.v (.bool b1)),.d (.v (.int .i64 m1)),.d (.v (.int .i64 r1)),.d (.v (.bool z1)),.d (.lst 1 n1 f1)],.agg [.d (.v (.bool s2)),.d (.v (.int .i64 l2)),.d (.v (.int .i64 h2)),.d (.v (.bool b2)),.d (.v (.int .i64 m2)),.d (.v (.int .i64 r2)),.d (.v (.bool z2)),.d (.lst 1 n2 f2)]]=>some ⟨(-9223372036854775808<=i0/\ i0<9223372036854775808)/\ ((n1*16<=140737488351232/\ ∀i,i<n1->f1 i= [st (gT (f1 i))])/\ Sp.inR ⟨s1,l1,h1⟩/\ Cg.inR ⟨b1,m1,r1⟩)/\ ((n2*16<=140737488351232/\ ∀i,i<n2->f2 i= [st (gT (f2 i))])/\ Sp.inR ⟨s2,l2,h2⟩/\ Cg.inR ⟨b2,m2,r2⟩),.tup [Vl.ar (cmA i0 (⟨⟨⟨s1,l1,h1⟩,⟨b1,m1,r1⟩⟩,⟨z1,gN n1 f1⟩⟩:Vl) (⟨⟨⟨s2,l2,h2⟩,⟨b2,m2,r2⟩⟩,⟨z2,gN n2 f2⟩⟩:Vl)),Vl.ar (cmB i0 (⟨⟨⟨s1,l1,h1⟩,⟨b1,m1,r1⟩⟩,⟨z1,gN n1 f1⟩⟩:Vl) (⟨⟨⟨s2,l2,h2⟩,⟨b2,m2,r2⟩⟩,⟨z2,gN n2 f2⟩⟩:Vl))],[]⟩
 |_=>none
theorem fcCCompared:FC Tryz.prog 72 FCCompared:=by
 intro xs pre r us h hp
 unfold FCCompared at h
 split at h
 . rename_i i0 s1 l1 h1 b1 m1 r1 z1 n1 f1 s2 l2 h2 b2 m2 r2 z2 n2 f2
   cases h
   obtain ⟨hp0,hp1,hp2⟩:=hp
   refine FCat.of_eq (as':= [.c (.d (.v (.int .i64 i0))),.agg [.d (.v (.bool s1)),.d (.v (.int .i64 l1)),.d (.v (.int .i64 h1)),.d (.v (.bool b1)),.d (.v (.int .i64 m1)),.d (.v (.int .i64 r1)),.d (.v (.bool z1)),.d (.lst 1 n1 fun i=> [st (gT (f1 i))])],.agg [.d (.v (.bool s2)),.d (.v (.int .i64 l2)),.d (.v (.int .i64 h2)),.d (.v (.bool b2)),.d (.v (.int .i64 m2)),.d (.v (.int .i64 r2)),.d (.v (.bool z2)),.d (.lst 1 n2 fun i=> [st (gT (f2 i))])]]) ?_ rfl rfl ?_
   . repeat' (first|exact trivial|exact rfl|refine ⟨?_, ?_⟩|fail)
     all_goals first|exact hp0.2|exact hp1.2|exact hp2.2|(intro i hi;exact (hp0.2 i hi).1)|(intro i hi;exact (hp1.2 i hi).1)|(intro i hi;exact (hp2.2 i hi).1)|grind
   refine fcat tys_ok (l:= [(77,⟨[],FCInts⟩),(109,⟨[],FCLess⟩),(110,⟨[],FCUnlike⟩),(8,⟨[],FN 1 FVMeet⟩)]) ⟨fcCInts,fcCLess,fcCUnlike,fc_nil 1 fcVMeet,trivial⟩ Tryz.func72 rfl (by kernel_rfl) true ?_
   have hm:=cmeetI_inR (a:=(⟨⟨⟨s1,l1,h1⟩,⟨b1,m1,r1⟩⟩,⟨z1,(gN n1 fun i=> [st (gT (f1 i))])⟩⟩:Vl)) (b:=(⟨⟨⟨s2,l2,h2⟩,⟨b2,m2,r2⟩⟩,⟨z2,(gN n2 fun i=> [st (gT (f2 i))])⟩⟩:Vl)) hp1.2 hp2.2
   have c1:(gN n1 fun i=> [st (gT (f1 i))])=gN n1 f1:=rfl
   rw [<-c1]
   have c2:(gN n2 fun i=> [st (gT (f2 i))])=gN n2 f2:=rfl
   rw [<-c2]
   all_goals first|(by_cases e12:i0=12)|skip
   all_goals first|(have _:=(show¬_ from e12);by_cases e13:i0=13)|skip
   all_goals first|(have _:=(show¬_ from e13);by_cases e15:i0=15)|skip
   all_goals first|(cases iA:intsB (⟨⟨⟨s1,l1,h1⟩,⟨b1,m1,r1⟩⟩,⟨z1,(gN n1 fun i=> [st (gT (f1 i))])⟩⟩:Vl))|skip
   all_goals first|(have _:=(show _=true from iA);cases iB:intsB (⟨⟨⟨s2,l2,h2⟩,⟨b2,m2,r2⟩⟩,⟨z2,(gN n2 fun i=> [st (gT (f2 i))])⟩⟩:Vl))|skip
   all_goals first|(have k12:=e12;have _:=(show _=_ from k12))|(have k13:=e13;have _:=(show _=_ from k13))|(have k15:=e15;have _:=(show _=_ from k15))|skip
   all_goals first|subst e12|subst e13|subst e15|skip
   all_goals first|(have _:=k12;have e:=cm_1 (op:=12) (a:=(⟨⟨⟨s1,l1,h1⟩,⟨b1,m1,r1⟩⟩,⟨z1,(gN n1 fun i=> [st (gT (f1 i))])⟩⟩:Vl)) (b:=(⟨⟨⟨s2,l2,h2⟩,⟨b2,m2,r2⟩⟩,⟨z2,(gN n2 fun i=> [st (gT (f2 i))])⟩⟩:Vl)) iA)|(have _:=k12;have e:=cm_2 (op:=12) (a:=(⟨⟨⟨s1,l1,h1⟩,⟨b1,m1,r1⟩⟩,⟨z1,(gN n1 fun i=> [st (gT (f1 i))])⟩⟩:Vl)) (b:=(⟨⟨⟨s2,l2,h2⟩,⟨b2,m2,r2⟩⟩,⟨z2,(gN n2 fun i=> [st (gT (f2 i))])⟩⟩:Vl)) iB)|(have _:=k13;have e:=cm_1 (op:=13) (a:=(⟨⟨⟨s1,l1,h1⟩,⟨b1,m1,r1⟩⟩,⟨z1,(gN n1 fun i=> [st (gT (f1 i))])⟩⟩:Vl)) (b:=(⟨⟨⟨s2,l2,h2⟩,⟨b2,m2,r2⟩⟩,⟨z2,(gN n2 fun i=> [st (gT (f2 i))])⟩⟩:Vl)) iA)|(have _:=k13;have e:=cm_2 (op:=13) (a:=(⟨⟨⟨s1,l1,h1⟩,⟨b1,m1,r1⟩⟩,⟨z1,(gN n1 fun i=> [st (gT (f1 i))])⟩⟩:Vl)) (b:=(⟨⟨⟨s2,l2,h2⟩,⟨b2,m2,r2⟩⟩,⟨z2,(gN n2 fun i=> [st (gT (f2 i))])⟩⟩:Vl)) iB)|(have _:=k15;have e:=cm_1 (op:=15) (a:=(⟨⟨⟨s1,l1,h1⟩,⟨b1,m1,r1⟩⟩,⟨z1,(gN n1 fun i=> [st (gT (f1 i))])⟩⟩:Vl)) (b:=(⟨⟨⟨s2,l2,h2⟩,⟨b2,m2,r2⟩⟩,⟨z2,(gN n2 fun i=> [st (gT (f2 i))])⟩⟩:Vl)) iA)|(have _:=k15;have e:=cm_2 (op:=15) (a:=(⟨⟨⟨s1,l1,h1⟩,⟨b1,m1,r1⟩⟩,⟨z1,(gN n1 fun i=> [st (gT (f1 i))])⟩⟩:Vl)) (b:=(⟨⟨⟨s2,l2,h2⟩,⟨b2,m2,r2⟩⟩,⟨z2,(gN n2 fun i=> [st (gT (f2 i))])⟩⟩:Vl)) iB)|(have e:=cm_1 (op:=i0) (a:=(⟨⟨⟨s1,l1,h1⟩,⟨b1,m1,r1⟩⟩,⟨z1,(gN n1 fun i=> [st (gT (f1 i))])⟩⟩:Vl)) (b:=(⟨⟨⟨s2,l2,h2⟩,⟨b2,m2,r2⟩⟩,⟨z2,(gN n2 fun i=> [st (gT (f2 i))])⟩⟩:Vl)) iA)|(have e:=cm_2 (op:=i0) (a:=(⟨⟨⟨s1,l1,h1⟩,⟨b1,m1,r1⟩⟩,⟨z1,(gN n1 fun i=> [st (gT (f1 i))])⟩⟩:Vl)) (b:=(⟨⟨⟨s2,l2,h2⟩,⟨b2,m2,r2⟩⟩,⟨z2,(gN n2 fun i=> [st (gT (f2 i))])⟩⟩:Vl)) iB)|(have _:=k12;have e:=cm_12 (a:=(⟨⟨⟨s1,l1,h1⟩,⟨b1,m1,r1⟩⟩,⟨z1,(gN n1 fun i=> [st (gT (f1 i))])⟩⟩:Vl)) (b:=(⟨⟨⟨s2,l2,h2⟩,⟨b2,m2,r2⟩⟩,⟨z2,(gN n2 fun i=> [st (gT (f2 i))])⟩⟩:Vl)) iA iB)|(have _:=k13;have e:=cm_13 (a:=(⟨⟨⟨s1,l1,h1⟩,⟨b1,m1,r1⟩⟩,⟨z1,(gN n1 fun i=> [st (gT (f1 i))])⟩⟩:Vl)) (b:=(⟨⟨⟨s2,l2,h2⟩,⟨b2,m2,r2⟩⟩,⟨z2,(gN n2 fun i=> [st (gT (f2 i))])⟩⟩:Vl)) iA iB)|(have _:=k15;have e:=cm_15 (a:=(⟨⟨⟨s1,l1,h1⟩,⟨b1,m1,r1⟩⟩,⟨z1,(gN n1 fun i=> [st (gT (f1 i))])⟩⟩:Vl)) (b:=(⟨⟨⟨s2,l2,h2⟩,⟨b2,m2,r2⟩⟩,⟨z2,(gN n2 fun i=> [st (gT (f2 i))])⟩⟩:Vl)) iA iB)|(have e:=cm_x (op:=i0) (a:=(⟨⟨⟨s1,l1,h1⟩,⟨b1,m1,r1⟩⟩,⟨z1,(gN n1 fun i=> [st (gT (f1 i))])⟩⟩:Vl)) (b:=(⟨⟨⟨s2,l2,h2⟩,⟨b2,m2,r2⟩⟩,⟨z2,(gN n2 fun i=> [st (gT (f2 i))])⟩⟩:Vl)) iA iB e12 e13 e15)|skip
   all_goals repeat' (first|exact trivial|(with_reducible first|exact hp1|exact hp1.1|exact hp1.2|exact hp1.2.1|exact hp1.2.2|exact hp1.1.1|exact hp2|exact hp2.1|exact hp2.2|exact hp2.2.1|exact hp2.2.2|exact hp2.1.1|exact (fun h:(!false)=false=>absurd h (by decide))|exact (fun h:(!true)=true=>absurd h (by decide))|exact hp0|exact hm|exact by decide|exact And.intro (by decide) (by decide)|exact Nat.zero_le _|exact And.intro hp1.2.1 hp1.2.2|exact And.intro hp2.2.1 hp2.2.2|exact (fun h=>absurd ((beq_eq_false_iff_ne.2 e12).symm.trans h) (by decide))|exact (fun h=>absurd ((beq_eq_false_iff_ne.2 e13).symm.trans h) (by decide))|exact (fun h=>absurd ((beq_eq_false_iff_ne.2 e15).symm.trans h) (by decide))|exact (fun h=>absurd (iA.symm.trans h) (by decide))|exact (fun h=>absurd (iB.symm.trans h) (by decide))|exact (fun h=>absurd ((congrArg Bool.not iA).symm.trans h) (by decide))|exact (fun h=>absurd ((congrArg Bool.not iB).symm.trans h) (by decide))|exact (fun h=>absurd h (by decide)))|refine ⟨?_, ?_⟩|intro _)
   all_goals first|(with_reducible first|apply qa|apply qb|apply qc|apply qd)|(conv=>whnf)
   all_goals first|((with_reducible show ASat _ _ _ _ _);refine draw_plan tys_ok (l:= [(77,⟨[],FCInts⟩),(109,⟨[],FCLess⟩),(110,⟨[],FCUnlike⟩),(8,⟨[],FN 1 FVMeet⟩)]) ⟨fcCInts,fcCLess,fcCUnlike,fc_nil 1 fcVMeet,trivial⟩ (by kernel_rfl) (.all [(0,.all [(1,.all [(2,.all [(3,.done)])]),(2,.all [(1,.all [(3,.done)])])]),(1,.all [(0,.all [(2,.all [(3,.done)])])])]) (by kernel_rfl) ?_)|skip
   all_goals repeat' (first|exact trivial|(with_reducible first|exact hp1|exact hp1.1|exact hp1.2|exact hp1.2.1|exact hp1.2.2|exact hp1.1.1|exact hp2|exact hp2.1|exact hp2.2|exact hp2.2.1|exact hp2.2.2|exact hp2.1.1|exact (fun h:(!false)=false=>absurd h (by decide))|exact (fun h:(!true)=true=>absurd h (by decide))|exact hp0|exact hm|exact by decide|exact And.intro (by decide) (by decide)|exact Nat.zero_le _|exact And.intro hp1.2.1 hp1.2.2|exact And.intro hp2.2.1 hp2.2.2|exact (fun h=>absurd ((beq_eq_false_iff_ne.2 e12).symm.trans h) (by decide))|exact (fun h=>absurd ((beq_eq_false_iff_ne.2 e13).symm.trans h) (by decide))|exact (fun h=>absurd ((beq_eq_false_iff_ne.2 e15).symm.trans h) (by decide))|exact (fun h=>absurd (iA.symm.trans h) (by decide))|exact (fun h=>absurd (iB.symm.trans h) (by decide))|exact (fun h=>absurd ((congrArg Bool.not iA).symm.trans h) (by decide))|exact (fun h=>absurd ((congrArg Bool.not iB).symm.trans h) (by decide))|exact (fun h=>absurd h (by decide)))|refine ⟨?_, ?_⟩|intro _)
   all_goals first|(with_reducible first|apply qa|apply qb|apply qc|apply qd)|(conv=>whnf)
   all_goals first|(with_reducible rfl)|decide|exact Nat.zero_le _|(intro _ h;exact absurd h (Nat.not_lt_zero _))|(exact absurd ‹_<0› (Nat.not_lt_zero _))|(intro _ _;exact rfl)|exact rfl|(rw [e.1];done)|(rw [e.1];rfl)|(rw [e.2];done)|(rw [e.2];rfl)
 . cases h
theorem lessA_inR {a b:Vl} {f:Int} (ha:a.i.s.inR/\ a.i.c.inR):(lessA a b f).i.s.inR/\ (lessA a b f).i.c.inR:=bothV_inR (upS_inR ha.1) ha.2
theorem lessB_inR {a b:Vl} {f:Int} (hb:b.i.s.inR/\ b.i.c.inR):(lessB a b f).i.s.inR/\ (lessB a b f).i.c.inR:=bothV_inR (frS_inR hb.1) hb.2
theorem unV_inR {a b:Vl} (ha:a.i.s.inR/\ a.i.c.inR):(unV a b).i.s.inR/\ (unV a b).i.c.inR:=by
 unfold unV;split
 . exact bothV_inR ha.1 ha.2
 . exact bothV_inR (wtS_inR ha.1) ha.2
theorem cmA_inR {op:Int} {a b:Vl} (ha:a.i.s.inR/\ a.i.c.inR) (hb:b.i.s.inR/\ b.i.c.inR):(cmA op a b).i.s.inR/\ (cmA op a b).i.c.inR:=by
 unfold cmA;(repeat' split)<;>first|exact zeroV_inR|exact lessA_inR ha|exact unV_inR ha|exact cmeetI_inR ha hb
theorem cmB_inR {op:Int} {a b:Vl} (ha:a.i.s.inR/\ a.i.c.inR) (hb:b.i.s.inR/\ b.i.c.inR):(cmB op a b).i.s.inR/\ (cmB op a b).i.c.inR:=by
 unfold cmB;(repeat' split)<;>first|exact zeroV_inR|exact lessB_inR hb|exact unV_inR hb|exact cmeetI_inR ha hb
def FCRefineL:List Ar->Option Rs
 | [.c (.d (.v (.int .i64 i0))),.agg [.d (.v (.bool s1)),.d (.v (.int .i64 l1)),.d (.v (.int .i64 h1)),.d (.v (.bool b1)),.d (.v (.int .i64 m1)),.d (.v (.int .i64 r1)),.d (.v (.bool z1)),.d (.lst 1 n1 f1)],.agg [.d (.v (.bool s2)),.d (.v (.int .i64 l2)),.d (.v (.int .i64 h2)),.d (.v (.bool b2)),.d (.v (.int .i64 m2)),.d (.v (.int .i64 r2)),.d (.v (.bool z2)),.d (.lst 1 n2 f2)],.c (.d (.lst 1 n3 f3))]=>some ⟨(-9223372036854775808<=i0/\ i0<9223372036854775808)/\ ((n1*16<=140737488351232/\ ∀i,i<n1->f1 i= [st (gT (f1 i))])/\ Sp.inR ⟨s1,l1,h1⟩/\ Cg.inR ⟨b1,m1,r1⟩)/\ ((n2*16<=140737488351232/\ ∀i,i<n2->f2 i= [st (gT (f2 i))])/\ Sp.inR ⟨s2,l2,h2⟩/\ Cg.inR ⟨b2,m2,r2⟩)/\ (n3*16<=140737488351232/\ ∀i,i<n3->f3 i= [st (gT (f3 i))])/\ (i0=12 \/i0=13),.tup [Vl.ar (cmA i0 (Vl.of (⟨⟨⟨s1,l1,h1⟩,⟨b1,m1,r1⟩⟩,⟨z1,gN n1 f1⟩⟩:Vl)) (Vl.of (⟨⟨⟨s2,l2,h2⟩,⟨b2,m2,r2⟩⟩,⟨z2,gN n2 f2⟩⟩:Vl))),Vl.ar (cmB i0 (Vl.of (⟨⟨⟨s1,l1,h1⟩,⟨b1,m1,r1⟩⟩,⟨z1,gN n1 f1⟩⟩:Vl)) (Vl.of (⟨⟨⟨s2,l2,h2⟩,⟨b2,m2,r2⟩⟩,⟨z2,gN n2 f2⟩⟩:Vl)))],[]⟩
 |_=>none
abbrev pl3W:Plan:= .all [(0,.all [(1,.all [(2,.all [(3,.done)])]),(2,.all [(1,.all [(3,.done)])])]),(1,.all [(0,.all [(2,.all [(3,.done)])])])]
abbrev sl4W:List (Nat×Sm):= [(60,⟨[],FVCleanV⟩),(72,⟨[],FCCompared⟩),(73,⟨[],FNNone⟩)]
theorem sp4W:sumsOk Tryz.prog sl4W:=⟨fcVCleanV,fcCCompared,fcNNone,trivial⟩
theorem fcCRefineL:FC Tryz.prog 27 FCRefineL:=by
 intro xs pre r us h hp
 unfold FCRefineL at h
 split at h
 . rename_i i0 s1 l1 h1 b1 m1 r1 z1 n1 f1 s2 l2 h2 b2 m2 r2 z2 n2 f2 n3 f3
   cases h
   obtain ⟨hp0,hp1,hp2,hp3,hp4⟩:=hp
   refine FCat.of_eq (as':= [.c (.d (.v (.int .i64 i0))),.agg [.d (.v (.bool s1)),.d (.v (.int .i64 l1)),.d (.v (.int .i64 h1)),.d (.v (.bool b1)),.d (.v (.int .i64 m1)),.d (.v (.int .i64 r1)),.d (.v (.bool z1)),.d (.lst 1 n1 fun i=> [st (gT (f1 i))])],.agg [.d (.v (.bool s2)),.d (.v (.int .i64 l2)),.d (.v (.int .i64 h2)),.d (.v (.bool b2)),.d (.v (.int .i64 m2)),.d (.v (.int .i64 r2)),.d (.v (.bool z2)),.d (.lst 1 n2 fun i=> [st (gT (f2 i))])],.c (.d (.lst 1 n3 fun i=> [st (gT (f3 i))]))]) ?_ rfl rfl ?_
   . repeat' (first|exact trivial|exact rfl|refine ⟨?_, ?_⟩|fail)
     all_goals first|exact hp0.2|exact hp1.2|exact hp2.2|(intro i hi;exact (hp0.2 i hi).1)|(intro i hi;exact (hp1.2 i hi).1)|(intro i hi;exact (hp2.2 i hi).1)|grind
   refine fcat tys_ok (l:=sl4W) sp4W Tryz.func27 rfl (by kernel_rfl) true ?_
   have o1:=okV_of (v:=(⟨⟨⟨s1,l1,h1⟩,⟨b1,m1,r1⟩⟩,⟨z1,(gN n1 fun i=> [st (gT (f1 i))])⟩⟩:Vl)) ⟨⟨(by rw [gN_length];exact hp1.1.1),fun _ _=>rfl⟩,hp1.2⟩
   have o2:=okV_of (v:=(⟨⟨⟨s2,l2,h2⟩,⟨b2,m2,r2⟩⟩,⟨z2,(gN n2 fun i=> [st (gT (f2 i))])⟩⟩:Vl)) ⟨⟨(by rw [gN_length];exact hp2.1.1),fun _ _=>rfl⟩,hp2.2⟩
   have c1:(gN n1 fun i=> [st (gT (f1 i))])=gN n1 f1:=rfl
   rw [<-c1]
   have c2:(gN n2 fun i=> [st (gT (f2 i))])=gN n2 f2:=rfl
   rw [<-c2]
   unfold okV at o1 o2
   rcases hp4 with rfl|rfl
   . have q_lt:decide ((12:Int)<12)=false:=by decide
     have q_gt:decide ((12:Int)>15)=false:=by decide
     have q_14:((12:Int)==14)=false:=by decide
     have q_15:((12:Int)==15)=false:=by decide
     repeat' (first|exact trivial|(with_reducible first|exact hp0|exact hp3|exact hp3.1|exact o1|exact o2|exact o1.2|exact o2.2|exact o1.2.1|exact o1.2.2|exact o2.2.1|exact o2.2.2|exact o1.1.1|exact o2.1.1|exact hp1|exact hp1.1|exact hp1.2|exact hp1.2.1|exact hp1.2.2|exact hp1.1.1|exact hp2|exact hp2.1|exact hp2.2|exact hp2.2.1|exact hp2.2.2|exact hp2.1.1|exact (fun h:false=true=>absurd h (by decide))|exact (fun h:true=false=>absurd h (by decide))|exact (fun h:(!false)=false=>absurd h (by decide))|exact (fun h:(!true)=true=>absurd h (by decide))|exact (fun h=>absurd (q_lt.symm.trans h) (by decide))|exact (fun h=>absurd (q_gt.symm.trans h) (by decide))|exact (fun h=>absurd (q_14.symm.trans h) (by decide))|exact (fun h=>absurd (q_15.symm.trans h) (by decide)))|refine ⟨?_, ?_⟩|intro _)
     all_goals first|(with_reducible first|apply qa|apply qb|apply qc|apply qd)|(conv=>whnf)
     all_goals first|((with_reducible show ASat _ _ _ _ _);refine draw_plan tys_ok (l:=sl4W) sp4W (by kernel_rfl) pl3W (by kernel_rfl) ?_)|skip
     all_goals repeat' (first|exact trivial|(with_reducible first|exact hp0|exact hp3|exact hp3.1|exact o1|exact o2|exact o1.2|exact o2.2|exact o1.2.1|exact o1.2.2|exact o2.2.1|exact o2.2.2|exact o1.1.1|exact o2.1.1|exact hp1|exact hp1.1|exact hp1.2|exact hp1.2.1|exact hp1.2.2|exact hp1.1.1|exact hp2|exact hp2.1|exact hp2.2|exact hp2.2.1|exact hp2.2.2|exact hp2.1.1|exact (fun h:false=true=>absurd h (by decide))|exact (fun h:true=false=>absurd h (by decide))|exact (fun h:(!false)=false=>absurd h (by decide))|exact (fun h:(!true)=true=>absurd h (by decide))|exact (fun h=>absurd (q_lt.symm.trans h) (by decide))|exact (fun h=>absurd (q_gt.symm.trans h) (by decide))|exact (fun h=>absurd (q_14.symm.trans h) (by decide))|exact (fun h=>absurd (q_15.symm.trans h) (by decide)))|refine ⟨?_, ?_⟩|intro _)
     all_goals first|(with_reducible first|apply qa|apply qb|apply qc|apply qd)|(conv=>whnf)
     all_goals (try simp only [gN_lst] at*)
     all_goals first|(with_reducible rfl)|decide|exact o1.1.1|exact o2.1.1|(intro _ _;exact rfl)|exact rfl|rfl
   . have q_lt:decide ((13:Int)<12)=false:=by decide
     have q_gt:decide ((13:Int)>15)=false:=by decide
     have q_14:((13:Int)==14)=false:=by decide
     have q_15:((13:Int)==15)=false:=by decide
     repeat' (first|exact trivial|(with_reducible first|exact hp0|exact hp3|exact hp3.1|exact o1|exact o2|exact o1.2|exact o2.2|exact o1.2.1|exact o1.2.2|exact o2.2.1|exact o2.2.2|exact o1.1.1|exact o2.1.1|exact hp1|exact hp1.1|exact hp1.2|exact hp1.2.1|exact hp1.2.2|exact hp1.1.1|exact hp2|exact hp2.1|exact hp2.2|exact hp2.2.1|exact hp2.2.2|exact hp2.1.1|exact (fun h:false=true=>absurd h (by decide))|exact (fun h:true=false=>absurd h (by decide))|exact (fun h:(!false)=false=>absurd h (by decide))|exact (fun h:(!true)=true=>absurd h (by decide))|exact (fun h=>absurd (q_lt.symm.trans h) (by decide))|exact (fun h=>absurd (q_gt.symm.trans h) (by decide))|exact (fun h=>absurd (q_14.symm.trans h) (by decide))|exact (fun h=>absurd (q_15.symm.trans h) (by decide)))|refine ⟨?_, ?_⟩|intro _)
     all_goals first|(with_reducible first|apply qa|apply qb|apply qc|apply qd)|(conv=>whnf)
     all_goals first|((with_reducible show ASat _ _ _ _ _);refine draw_plan tys_ok (l:=sl4W) sp4W (by kernel_rfl) pl3W (by kernel_rfl) ?_)|skip
     all_goals repeat' (first|exact trivial|(with_reducible first|exact hp0|exact hp3|exact hp3.1|exact o1|exact o2|exact o1.2|exact o2.2|exact o1.2.1|exact o1.2.2|exact o2.2.1|exact o2.2.2|exact o1.1.1|exact o2.1.1|exact hp1|exact hp1.1|exact hp1.2|exact hp1.2.1|exact hp1.2.2|exact hp1.1.1|exact hp2|exact hp2.1|exact hp2.2|exact hp2.2.1|exact hp2.2.2|exact hp2.1.1|exact (fun h:false=true=>absurd h (by decide))|exact (fun h:true=false=>absurd h (by decide))|exact (fun h:(!false)=false=>absurd h (by decide))|exact (fun h:(!true)=true=>absurd h (by decide))|exact (fun h=>absurd (q_lt.symm.trans h) (by decide))|exact (fun h=>absurd (q_gt.symm.trans h) (by decide))|exact (fun h=>absurd (q_14.symm.trans h) (by decide))|exact (fun h=>absurd (q_15.symm.trans h) (by decide)))|refine ⟨?_, ?_⟩|intro _)
     all_goals first|(with_reducible first|apply qa|apply qb|apply qc|apply qd)|(conv=>whnf)
     all_goals (try simp only [gN_lst] at*)
     all_goals first|(with_reducible rfl)|decide|exact o1.1.1|exact o2.1.1|(intro _ _;exact rfl)|exact rfl|rfl
 . cases h
end Go.Proofs.YtehpbhpmkhlldaaGreat
