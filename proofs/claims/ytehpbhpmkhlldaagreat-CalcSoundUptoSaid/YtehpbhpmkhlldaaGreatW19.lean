/- What operators on values come to: some of it. No condition. -/
import Derived.Test.YtehpbhpmkhlldaaGreatW18
set_option linter.all false
set_option maxHeartbeats 8000000
set_option maxRecDepth 100000
namespace Go.Proofs.YtehpbhpmkhlldaaGreat
open Go.Sx
section
variable {op:Int} {a:Cg} {w:Bool}
theorem ro1 (h:a.some=false):rsOne0 op a w=a:=by unfold rsOne0;rw [if_pos (by rw [h];rfl)]
theorem ro5 (h:a.some=true):rsOne0 5 a w=rsDo 11 (Cg.of 0 0) a w:=by unfold rsOne0;rw [if_neg (by rw [h];decide),if_pos rfl]
theorem ro6a (h:a.some=true) (h2:alC a 0=true):rsOne0 6 a w=Cg.of 0 1:=by unfold rsOne0;rw [if_neg (by rw [h];decide),if_neg (by decide),if_neg (by decide),if_pos h2]
theorem ro6b (h:a.some=true) (h2:alC a 0=false) (h3:a.has 0=false):rsOne0 6 a w=Cg.of 0 0:=by unfold rsOne0;rw [if_neg (by rw [h];decide),if_neg (by decide),if_neg (by decide),if_neg (by rw [h2];decide),if_pos (by rw [h3];rfl)]
theorem ro6c (h:a.some=true) (h2:alC a 0=false) (h3:a.has 0=true):rsOne0 6 a w=Cg.of 1 0:=by unfold rsOne0;rw [if_neg (by rw [h];decide),if_neg (by decide),if_neg (by decide),if_neg (by rw [h2];decide),if_neg (by rw [h3];decide)]
theorem rox (h:a.some=true) (h5:op≠5) (h6:op≠6):rsOne0 op a w=Cg.none:=by unfold rsOne0;rw [if_neg (by rw [h];decide),if_neg h5,if_pos h6]
theorem cg00_inR:(Cg.of 0 0).inR:=Cg.of_inR 0 0 (by decide) (by decide) (by decide) (by decide)
end
def FRsOne:List Ar->Option Rs
 | [.c (.d (.v (.int .i64 i0))),.agg [.d (.v (.bool b1)),.d (.v (.int .i64 m1)),.d (.v (.int .i64 r1))],.c (.d (.v (.bool b2)))]=>some ⟨(-9223372036854775808<=i0/\ i0<9223372036854775808)/\ (Cg.inR ⟨b1,m1,r1⟩),.va (Cg.ar (rsOne i0 (⟨b1,m1,r1⟩:Cg) b2)),[]⟩
 |_=>none
theorem fcRsOne:FC Tryz.prog 81 FRsOne:=by
 intro xs pre r us h hp
 unfold FRsOne at h
 split at h
 . rename_i i0 b1 m1 r1 b2
   cases h
   obtain ⟨hp0,hp1⟩:=hp
   refine fcat tys_ok (l:= [(86,⟨[],FCClean⟩),(87,⟨[],FCNone⟩),(106,⟨[],FRsDo⟩),(64,⟨[],FCOne⟩),(120,⟨[],FRsAlone⟩),(48,⟨[],FCHas⟩),(57,⟨[],FCAll⟩)]) ⟨fcCClean,fcCNone,fcRsDo,fcCOne,fcRsAlone,fcCHas,fcCAll,trivial⟩ Tryz.func81 rfl (by kernel_rfl) false ?_
   unfold rsOne
   have cA:=Cg.clean_inR hp1
   have rA:=cA
   unfold Cg.inR at rA
   have c00:=cg00_inR
   have d00:=c00
   unfold Cg.inR at d00
   by_cases e5:i0=5
   . subst e5
     have q_5:((5:Int)==5)=true:=by decide
     have q_6:((5:Int)==6)=false:=by decide
     have p_5:((5:Int) !=5)=false:=by decide
     have p_6:((5:Int) !=6)=true:=by decide
     cases sA:(Cg.clean (⟨b1,m1,r1⟩:Cg)).some
     . have sAn:=congrArg Bool.not sA;simp only [Bool.not_true,Bool.not_false] at sAn
       repeat' (first|exact trivial|(with_reducible first|exact hp0|exact hp1|exact rA|exact rA.1|exact rA.2|exact cA|exact c00|exact d00.1|exact d00.2|exact (fun h:false=true=>absurd h (by decide))|exact (fun h:true=false=>absurd h (by decide))|exact (fun h=>absurd (q_5.symm.trans h) (by decide))|exact (fun h=>absurd (q_6.symm.trans h) (by decide))|exact (fun h=>absurd (p_5.symm.trans h) (by decide))|exact (fun h=>absurd (p_6.symm.trans h) (by decide))|exact (fun h=>absurd (sA.symm.trans h) (by decide))|exact (fun h=>absurd (sAn.symm.trans h) (by decide)))|refine ⟨?_, ?_⟩|intro _)
       all_goals first|(with_reducible first|apply qa|apply qb|apply qc|apply qd)|(conv=>whnf)
       all_goals first|(with_reducible rfl)|decide|((with_reducible show Value.bool (Cg.some _)=_);exact congrArg (fun i:Cg=>Value.bool i.some) ((ro1 (a:=(Cg.clean (⟨b1,m1,r1⟩:Cg))) (w:=b2) sA).symm))|((with_reducible show Value.int _ (Cg.m _)=_);exact congrArg (fun i:Cg=>Value.int .i64 i.m) ((ro1 (a:=(Cg.clean (⟨b1,m1,r1⟩:Cg))) (w:=b2) sA).symm))|((with_reducible show Value.int _ (Cg.r _)=_);exact congrArg (fun i:Cg=>Value.int .i64 i.r) ((ro1 (a:=(Cg.clean (⟨b1,m1,r1⟩:Cg))) (w:=b2) sA).symm))|rfl
     . have sAn:=congrArg Bool.not sA;simp only [Bool.not_true,Bool.not_false] at sAn
       repeat' (first|exact trivial|(with_reducible first|exact hp0|exact hp1|exact rA|exact rA.1|exact rA.2|exact cA|exact c00|exact d00.1|exact d00.2|exact (fun h:false=true=>absurd h (by decide))|exact (fun h:true=false=>absurd h (by decide))|exact (fun h=>absurd (q_5.symm.trans h) (by decide))|exact (fun h=>absurd (q_6.symm.trans h) (by decide))|exact (fun h=>absurd (p_5.symm.trans h) (by decide))|exact (fun h=>absurd (p_6.symm.trans h) (by decide))|exact (fun h=>absurd (sA.symm.trans h) (by decide))|exact (fun h=>absurd (sAn.symm.trans h) (by decide)))|refine ⟨?_, ?_⟩|intro _)
       all_goals first|(with_reducible first|apply qa|apply qb|apply qc|apply qd)|(conv=>whnf)
       all_goals first|(with_reducible rfl)|decide|((with_reducible show Value.bool (Cg.some _)=_);exact congrArg (fun i:Cg=>Value.bool i.some) ((ro5 (a:=(Cg.clean (⟨b1,m1,r1⟩:Cg))) (w:=b2) sA).symm))|((with_reducible show Value.int _ (Cg.m _)=_);exact congrArg (fun i:Cg=>Value.int .i64 i.m) ((ro5 (a:=(Cg.clean (⟨b1,m1,r1⟩:Cg))) (w:=b2) sA).symm))|((with_reducible show Value.int _ (Cg.r _)=_);exact congrArg (fun i:Cg=>Value.int .i64 i.r) ((ro5 (a:=(Cg.clean (⟨b1,m1,r1⟩:Cg))) (w:=b2) sA).symm))|rfl
   by_cases e6:i0=6
   . subst e6
     have q_5:((6:Int)==5)=false:=by decide
     have q_6:((6:Int)==6)=true:=by decide
     have p_5:((6:Int) !=5)=true:=by decide
     have p_6:((6:Int) !=6)=false:=by decide
     cases sA:(Cg.clean (⟨b1,m1,r1⟩:Cg)).some
     . have sAn:=congrArg Bool.not sA;simp only [Bool.not_true,Bool.not_false] at sAn
       repeat' (first|exact trivial|(with_reducible first|exact hp0|exact hp1|exact rA|exact rA.1|exact rA.2|exact cA|exact c00|exact d00.1|exact d00.2|exact (fun h:false=true=>absurd h (by decide))|exact (fun h:true=false=>absurd h (by decide))|exact (fun h=>absurd (q_5.symm.trans h) (by decide))|exact (fun h=>absurd (q_6.symm.trans h) (by decide))|exact (fun h=>absurd (p_5.symm.trans h) (by decide))|exact (fun h=>absurd (p_6.symm.trans h) (by decide))|exact (fun h=>absurd (sA.symm.trans h) (by decide))|exact (fun h=>absurd (sAn.symm.trans h) (by decide)))|refine ⟨?_, ?_⟩|intro _)
       all_goals first|(with_reducible first|apply qa|apply qb|apply qc|apply qd)|(conv=>whnf)
       all_goals first|(with_reducible rfl)|decide|((with_reducible show Value.bool (Cg.some _)=_);exact congrArg (fun i:Cg=>Value.bool i.some) ((ro1 (a:=(Cg.clean (⟨b1,m1,r1⟩:Cg))) (w:=b2) sA).symm))|((with_reducible show Value.int _ (Cg.m _)=_);exact congrArg (fun i:Cg=>Value.int .i64 i.m) ((ro1 (a:=(Cg.clean (⟨b1,m1,r1⟩:Cg))) (w:=b2) sA).symm))|((with_reducible show Value.int _ (Cg.r _)=_);exact congrArg (fun i:Cg=>Value.int .i64 i.r) ((ro1 (a:=(Cg.clean (⟨b1,m1,r1⟩:Cg))) (w:=b2) sA).symm))|rfl
     . cases h2:alC (Cg.clean (⟨b1,m1,r1⟩:Cg)) 0
       . cases h3:Cg.has (Cg.clean (⟨b1,m1,r1⟩:Cg)) 0
         . have sAn:=congrArg Bool.not sA;simp only [Bool.not_true,Bool.not_false] at sAn
           have h2n:=congrArg Bool.not h2;simp only [Bool.not_true,Bool.not_false] at h2n
           have h3n:=congrArg Bool.not h3;simp only [Bool.not_true,Bool.not_false] at h3n
           repeat' (first|exact trivial|(with_reducible first|exact hp0|exact hp1|exact rA|exact rA.1|exact rA.2|exact cA|exact c00|exact d00.1|exact d00.2|exact (fun h:false=true=>absurd h (by decide))|exact (fun h:true=false=>absurd h (by decide))|exact (fun h=>absurd (q_5.symm.trans h) (by decide))|exact (fun h=>absurd (q_6.symm.trans h) (by decide))|exact (fun h=>absurd (p_5.symm.trans h) (by decide))|exact (fun h=>absurd (p_6.symm.trans h) (by decide))|exact (fun h=>absurd (sA.symm.trans h) (by decide))|exact (fun h=>absurd (h2.symm.trans h) (by decide))|exact (fun h=>absurd (h3.symm.trans h) (by decide))|exact (fun h=>absurd (sAn.symm.trans h) (by decide))|exact (fun h=>absurd (h2n.symm.trans h) (by decide))|exact (fun h=>absurd (h3n.symm.trans h) (by decide)))|refine ⟨?_, ?_⟩|intro _)
           all_goals first|(with_reducible first|apply qa|apply qb|apply qc|apply qd)|(conv=>whnf)
           all_goals first|(with_reducible rfl)|decide|((with_reducible show Value.bool (Cg.some _)=_);exact congrArg (fun i:Cg=>Value.bool i.some) ((ro6b (a:=(Cg.clean (⟨b1,m1,r1⟩:Cg))) (w:=b2) sA h2 h3).symm))|((with_reducible show Value.int _ (Cg.m _)=_);exact congrArg (fun i:Cg=>Value.int .i64 i.m) ((ro6b (a:=(Cg.clean (⟨b1,m1,r1⟩:Cg))) (w:=b2) sA h2 h3).symm))|((with_reducible show Value.int _ (Cg.r _)=_);exact congrArg (fun i:Cg=>Value.int .i64 i.r) ((ro6b (a:=(Cg.clean (⟨b1,m1,r1⟩:Cg))) (w:=b2) sA h2 h3).symm))|rfl
         . have sAn:=congrArg Bool.not sA;simp only [Bool.not_true,Bool.not_false] at sAn
           have h2n:=congrArg Bool.not h2;simp only [Bool.not_true,Bool.not_false] at h2n
           have h3n:=congrArg Bool.not h3;simp only [Bool.not_true,Bool.not_false] at h3n
           repeat' (first|exact trivial|(with_reducible first|exact hp0|exact hp1|exact rA|exact rA.1|exact rA.2|exact cA|exact c00|exact d00.1|exact d00.2|exact (fun h:false=true=>absurd h (by decide))|exact (fun h:true=false=>absurd h (by decide))|exact (fun h=>absurd (q_5.symm.trans h) (by decide))|exact (fun h=>absurd (q_6.symm.trans h) (by decide))|exact (fun h=>absurd (p_5.symm.trans h) (by decide))|exact (fun h=>absurd (p_6.symm.trans h) (by decide))|exact (fun h=>absurd (sA.symm.trans h) (by decide))|exact (fun h=>absurd (h2.symm.trans h) (by decide))|exact (fun h=>absurd (h3.symm.trans h) (by decide))|exact (fun h=>absurd (sAn.symm.trans h) (by decide))|exact (fun h=>absurd (h2n.symm.trans h) (by decide))|exact (fun h=>absurd (h3n.symm.trans h) (by decide)))|refine ⟨?_, ?_⟩|intro _)
           all_goals first|(with_reducible first|apply qa|apply qb|apply qc|apply qd)|(conv=>whnf)
           all_goals first|(with_reducible rfl)|decide|((with_reducible show Value.bool (Cg.some _)=_);exact congrArg (fun i:Cg=>Value.bool i.some) ((ro6c (a:=(Cg.clean (⟨b1,m1,r1⟩:Cg))) (w:=b2) sA h2 h3).symm))|((with_reducible show Value.int _ (Cg.m _)=_);exact congrArg (fun i:Cg=>Value.int .i64 i.m) ((ro6c (a:=(Cg.clean (⟨b1,m1,r1⟩:Cg))) (w:=b2) sA h2 h3).symm))|((with_reducible show Value.int _ (Cg.r _)=_);exact congrArg (fun i:Cg=>Value.int .i64 i.r) ((ro6c (a:=(Cg.clean (⟨b1,m1,r1⟩:Cg))) (w:=b2) sA h2 h3).symm))|rfl
       . have sAn:=congrArg Bool.not sA;simp only [Bool.not_true,Bool.not_false] at sAn
         have h2n:=congrArg Bool.not h2;simp only [Bool.not_true,Bool.not_false] at h2n
         repeat' (first|exact trivial|(with_reducible first|exact hp0|exact hp1|exact rA|exact rA.1|exact rA.2|exact cA|exact c00|exact d00.1|exact d00.2|exact (fun h:false=true=>absurd h (by decide))|exact (fun h:true=false=>absurd h (by decide))|exact (fun h=>absurd (q_5.symm.trans h) (by decide))|exact (fun h=>absurd (q_6.symm.trans h) (by decide))|exact (fun h=>absurd (p_5.symm.trans h) (by decide))|exact (fun h=>absurd (p_6.symm.trans h) (by decide))|exact (fun h=>absurd (sA.symm.trans h) (by decide))|exact (fun h=>absurd (h2.symm.trans h) (by decide))|exact (fun h=>absurd (sAn.symm.trans h) (by decide))|exact (fun h=>absurd (h2n.symm.trans h) (by decide)))|refine ⟨?_, ?_⟩|intro _)
         all_goals first|(with_reducible first|apply qa|apply qb|apply qc|apply qd)|(conv=>whnf)
         all_goals first|(with_reducible rfl)|decide|((with_reducible show Value.bool (Cg.some _)=_);exact congrArg (fun i:Cg=>Value.bool i.some) ((ro6a (a:=(Cg.clean (⟨b1,m1,r1⟩:Cg))) (w:=b2) sA h2).symm))|((with_reducible show Value.int _ (Cg.m _)=_);exact congrArg (fun i:Cg=>Value.int .i64 i.m) ((ro6a (a:=(Cg.clean (⟨b1,m1,r1⟩:Cg))) (w:=b2) sA h2).symm))|((with_reducible show Value.int _ (Cg.r _)=_);exact congrArg (fun i:Cg=>Value.int .i64 i.r) ((ro6a (a:=(Cg.clean (⟨b1,m1,r1⟩:Cg))) (w:=b2) sA h2).symm))|rfl
   have q_5:((i0:Int)==5)=false:=beq_eq_false_iff_ne.2 e5
   have q_6:((i0:Int)==6)=false:=beq_eq_false_iff_ne.2 e6
   have p_5:((i0:Int) !=5)=true:=bne_iff_ne.2 e5
   have p_6:((i0:Int) !=6)=true:=bne_iff_ne.2 e6
   cases sA:(Cg.clean (⟨b1,m1,r1⟩:Cg)).some
   . have sAn:=congrArg Bool.not sA;simp only [Bool.not_true,Bool.not_false] at sAn
     repeat' (first|exact trivial|(with_reducible first|exact hp0|exact hp1|exact rA|exact rA.1|exact rA.2|exact cA|exact c00|exact d00.1|exact d00.2|exact (fun h:false=true=>absurd h (by decide))|exact (fun h:true=false=>absurd h (by decide))|exact (fun h=>absurd (q_5.symm.trans h) (by decide))|exact (fun h=>absurd (q_6.symm.trans h) (by decide))|exact (fun h=>absurd (p_5.symm.trans h) (by decide))|exact (fun h=>absurd (p_6.symm.trans h) (by decide))|exact (fun h=>absurd (sA.symm.trans h) (by decide))|exact (fun h=>absurd (sAn.symm.trans h) (by decide)))|refine ⟨?_, ?_⟩|intro _)
     all_goals first|(with_reducible first|apply qa|apply qb|apply qc|apply qd)|(conv=>whnf)
     all_goals first|(with_reducible rfl)|decide|((with_reducible show Value.bool (Cg.some _)=_);exact congrArg (fun i:Cg=>Value.bool i.some) ((ro1 (a:=(Cg.clean (⟨b1,m1,r1⟩:Cg))) (w:=b2) sA).symm))|((with_reducible show Value.int _ (Cg.m _)=_);exact congrArg (fun i:Cg=>Value.int .i64 i.m) ((ro1 (a:=(Cg.clean (⟨b1,m1,r1⟩:Cg))) (w:=b2) sA).symm))|((with_reducible show Value.int _ (Cg.r _)=_);exact congrArg (fun i:Cg=>Value.int .i64 i.r) ((ro1 (a:=(Cg.clean (⟨b1,m1,r1⟩:Cg))) (w:=b2) sA).symm))|rfl
   . have sAn:=congrArg Bool.not sA;simp only [Bool.not_true,Bool.not_false] at sAn
     repeat' (first|exact trivial|(with_reducible first|exact hp0|exact hp1|exact rA|exact rA.1|exact rA.2|exact cA|exact c00|exact d00.1|exact d00.2|exact (fun h:false=true=>absurd h (by decide))|exact (fun h:true=false=>absurd h (by decide))|exact (fun h=>absurd (q_5.symm.trans h) (by decide))|exact (fun h=>absurd (q_6.symm.trans h) (by decide))|exact (fun h=>absurd (p_5.symm.trans h) (by decide))|exact (fun h=>absurd (p_6.symm.trans h) (by decide))|exact (fun h=>absurd (sA.symm.trans h) (by decide))|exact (fun h=>absurd (sAn.symm.trans h) (by decide)))|refine ⟨?_, ?_⟩|intro _)
     all_goals first|(with_reducible first|apply qa|apply qb|apply qc|apply qd)|(conv=>whnf)
     all_goals first|(with_reducible rfl)|decide|((with_reducible show Value.bool false=_);exact congrArg (fun i:Cg=>Value.bool i.some) ((rox (a:=(Cg.clean (⟨b1,m1,r1⟩:Cg))) (w:=b2) sA e5 e6).symm))|((with_reducible show Value.int _ 0=_);first|exact congrArg (fun i:Cg=>Value.int .i64 i.m) ((rox (a:=(Cg.clean (⟨b1,m1,r1⟩:Cg))) (w:=b2) sA e5 e6).symm)|exact congrArg (fun i:Cg=>Value.int .i64 i.r) ((rox (a:=(Cg.clean (⟨b1,m1,r1⟩:Cg))) (w:=b2) sA e5 e6).symm))|rfl
 . cases h
def FVCleanV:List Ar->Option Rs
 | [.agg [.d (.v (.bool s0)),.d (.v (.int .i64 l0)),.d (.v (.int .i64 h0)),.d (.v (.bool b0)),.d (.v (.int .i64 m0)),.d (.v (.int .i64 r0)),.d (.v (.bool z0)),.d (.lst 1 n0 f0)]]=>some ⟨((n0*16<=140737488351232/\ ∀i,i<n0->f0 i= [st (gT (f0 i))])/\ Sp.inR ⟨s0,l0,h0⟩/\ Cg.inR ⟨b0,m0,r0⟩),.va (Vl.ar (Vl.of (⟨⟨⟨s0,l0,h0⟩,⟨b0,m0,r0⟩⟩,⟨z0,gN n0 f0⟩⟩:Vl))),[]⟩
 |_=>none
theorem fcVCleanV:FC Tryz.prog 60 FVCleanV:=by
 intro xs pre r us h hp
 unfold FVCleanV at h
 split at h
 . rename_i s0 l0 h0 b0 m0 r0 z0 n0 f0
   cases h
   have hp0:=hp
   refine FCat.of_eq (as':= [.agg [.d (.v (.bool s0)),.d (.v (.int .i64 l0)),.d (.v (.int .i64 h0)),.d (.v (.bool b0)),.d (.v (.int .i64 m0)),.d (.v (.int .i64 r0)),.d (.v (.bool z0)),.d (.lst 1 n0 fun i=> [st (gT (f0 i))])]]) ?_ rfl rfl ?_
   . repeat' (first|exact trivial|exact rfl|refine ⟨?_, ?_⟩|fail)
     all_goals first|exact hp0.2|exact hp1.2|exact hp2.2|(intro i hi;exact (hp0.2 i hi).1)|(intro i hi;exact (hp1.2 i hi).1)|(intro i hi;exact (hp2.2 i hi).1)|grind
   refine fcat tys_ok (l:= [(33,⟨[],FVOf⟩),(37,⟨[],FVValue⟩)]) ⟨fcVOf,fcVValue,trivial⟩ Tryz.func60 rfl (by kernel_rfl) true ?_
   have hv0:okV (⟨⟨⟨s0,l0,h0⟩,⟨b0,m0,r0⟩⟩,⟨z0,gN n0 fun i=> [st (gT (f0 i))]⟩⟩:Vl):=⟨⟨(by rw [gN_length];exact hp0.1.1),fun _ _=>rfl⟩,hp0.2⟩
   have ho0:=okV_of hv0
   have hoo0:=okV_of ho0
   unfold okV at ho0 hoo0
   repeat' (first|exact trivial|(with_reducible first|exact ho0|exact ho0.1|exact ho0.2.1|exact ho0.2.2|exact hp0|exact hp0.1|exact hp0.2|exact hp0.2.1|exact hp0.2.2|exact hoo0|exact hoo0.1|exact hoo0.2.1|exact hoo0.2.2)|refine ⟨?_, ?_⟩|intro _)
   all_goals first|(with_reducible first|apply qa|apply qb|apply qc|apply qd)|(conv=>whnf)
   all_goals (try simp only [gN_lst] at*)
   all_goals first|rfl|(with_reducible exact hp0.1.1)
 . cases h
section
variable {op:Int} {a b:Sp}
theorem wr_n1 (h:a.none=true):wrB op a b=false:=by unfold wrB;rw [if_pos (by rw [h];rfl)]
theorem wr_n2 (h:b.none=true):wrB op a b=false:=by unfold wrB;rw [if_pos (by rw [h];cases a.none<;>rfl)]
theorem wr_8 (h:a.none=false) (h2:b.none=false):wrB 8 a b=(a.has (-9223372036854775808)&&b.has (-1)):=by unfold wrB;rw [if_neg (by rw [h,h2];decide),if_pos rfl]
theorem wr_x (h:a.none=false) (h2:b.none=false) (h8:op≠8):wrB op a b=(corners (exI op) a b).any fun e=>exB op&& !wIntB e:=by unfold wrB;rw [if_neg (by rw [h,h2];decide),if_neg h8]
theorem wr_c0 (h:a.none=false) (h2:b.none=false) (h8:op≠8) (hx:exB op=true):wrB op a b=(!wIntB (exI op a.lo b.lo)||(!wIntB (exI op a.lo b.hi)||(!wIntB (exI op a.hi b.lo)||(!wIntB (exI op a.hi b.hi)||false)))):=by
 rw [wr_x h h2 h8,hx];rfl
theorem exv {x y:Int} (rx: -9223372036854775808<=x/\ x<9223372036854775808) (ry: -9223372036854775808<=y/\ y<9223372036854775808):(wd (exI op x y)).val=exI op x y:=by have:=ex_rng (op:=op) rx ry;exact wd_valS this.1 this.2
theorem wr_c (ra:(-9223372036854775808<=a.lo/\ a.lo<9223372036854775808)/\ -9223372036854775808<=a.hi/\ a.hi<9223372036854775808) (rb:(-9223372036854775808<=b.lo/\ b.lo<9223372036854775808)/\ -9223372036854775808<=b.hi/\ b.hi<9223372036854775808) (h:a.none=false) (h2:b.none=false) (h8:op≠8) (hx:exB op=true):wrB op a b=(!wIntB (wd (exI op a.lo b.lo)).val||(!wIntB (wd (exI op a.lo b.hi)).val||(!wIntB (wd (exI op a.hi b.lo)).val||(!wIntB (wd (exI op a.hi b.hi)).val||false)))):=by
 rw [exv ra.1 rb.1,exv ra.1 rb.2,exv ra.2 rb.1,exv ra.2 rb.2];exact wr_c0 h h2 h8 hx
theorem wr_f (h:a.none=false) (h2:b.none=false) (h8:op≠8) (hx:exB op=false):wrB op a b=false:=by
 rw [wr_x h h2 h8,hx];rfl
end
def FCWraps:List Ar->Option Rs
 | [.c (.d (.v (.int .i64 i0))),.agg [.d (.v (.bool s1)),.d (.v (.int .i64 l1)),.d (.v (.int .i64 h1))],.agg [.d (.v (.bool s2)),.d (.v (.int .i64 l2)),.d (.v (.int .i64 h2))]]=>some ⟨(-9223372036854775808<=i0/\ i0<9223372036854775808)/\ (Sp.inR ⟨s1,l1,h1⟩)/\ (Sp.inR ⟨s2,l2,h2⟩),.va (.c (.d (bo (wrB i0 (⟨s1,l1,h1⟩:Sp) (⟨s2,l2,h2⟩:Sp))))),[]⟩
 |_=>none
abbrev sl2W:List (Nat×Sm):= [(83,⟨[],FSNone⟩),(47,⟨[],FSHas⟩),(117,⟨[],FXExact⟩),(94,⟨[],FWInt⟩)]
theorem sp2W:sumsOk Tryz.prog sl2W:=⟨fcSNone,fcSHas,fcXExact,fcWInt,trivial⟩
theorem fcCWraps:FC Tryz.prog 78 FCWraps:=by
 intro xs pre r us h hp
 unfold FCWraps at h
 split at h
 . rename_i i0 s1 l1 h1 s2 l2 h2
   cases h
   obtain ⟨hp0,hp1,hp2⟩:=hp
   refine fcat tys_ok (l:=sl2W) sp2W Tryz.func78 rfl (by kernel_rfl) false ?_
   unfold Sp.inR at hp1 hp2
   have hi0:decide ((0:Int)<2)=true:=rfl
   have hi1:decide (IntKind.i64.wrap (0+1)<(2:Int))=true:=rfl
   have hi2:decide (IntKind.i64.wrap (IntKind.i64.wrap (0+1)+1)<(2:Int))=false:=rfl
   all_goals first|(by_cases e8:i0=8)|skip
   all_goals first|(cases nA:Sp.none (⟨s1,l1,h1⟩:Sp))|skip
   all_goals first|(have _:=(show _=false from nA);cases nB:Sp.none (⟨s2,l2,h2⟩:Sp))|skip
   all_goals first|(have _:=(show _=false from nB);have _:=(show¬_ from e8);cases hx:exB i0)|skip
   all_goals first|(have _:=(show _=true from hx);cases w0:wIntB ((wd (exI i0 l1 l2)).val))|skip
   all_goals first|(have _:=(show _=true from w0);cases w1:wIntB ((wd (exI i0 l1 h2)).val))|skip
   all_goals first|(have _:=(show _=true from w1);cases w2:wIntB ((wd (exI i0 h1 l2)).val))|skip
   all_goals first|(have _:=(show _=true from w2);cases w3:wIntB ((wd (exI i0 h1 h2)).val))|skip
   all_goals first|(have k8:=e8;have _:=(show _=_ from k8))|skip
   all_goals first|subst e8|skip
   all_goals first|(have e:=wr_n1 (op:=i0) (a:=(⟨s1,l1,h1⟩:Sp)) (b:=(⟨s2,l2,h2⟩:Sp)) nA)|(have e:=wr_n2 (op:=i0) (a:=(⟨s1,l1,h1⟩:Sp)) (b:=(⟨s2,l2,h2⟩:Sp)) nB)|(have _:=k8;have e:=wr_8 (a:=(⟨s1,l1,h1⟩:Sp)) (b:=(⟨s2,l2,h2⟩:Sp)) nA nB)|(have e:=wr_f (a:=(⟨s1,l1,h1⟩:Sp)) (b:=(⟨s2,l2,h2⟩:Sp)) nA nB e8 hx)|(have e:=wr_c (a:=(⟨s1,l1,h1⟩:Sp)) (b:=(⟨s2,l2,h2⟩:Sp)) hp1 hp2 nA nB e8 hx)|(have e:=wr_n1 (op:=8) (a:=(⟨s1,l1,h1⟩:Sp)) (b:=(⟨s2,l2,h2⟩:Sp)) nA)|(have e:=wr_n2 (op:=8) (a:=(⟨s1,l1,h1⟩:Sp)) (b:=(⟨s2,l2,h2⟩:Sp)) nB)|skip
   all_goals repeat' (first|exact trivial|(with_reducible first|exact hp0|exact hp1|exact hp2|exact hp1.1|exact hp1.2|exact hp2.1|exact hp2.2|exact And.intro hp0 (And.intro hp1.1 hp2.1)|exact And.intro hp0 (And.intro hp1.1 hp2.2)|exact And.intro hp0 (And.intro hp1.2 hp2.1)|exact And.intro hp0 (And.intro hp1.2 hp2.2)|exact wd_ok _|exact (wd_ok _).1.1|exact (wd_ok _).1.2|exact (wd_ok _).2.1|exact (wd_ok _).2.2|exact (fun h:(0:Int)=((1:Nat):Int)=>absurd h (by decide))|exact (fun h:IntKind.i64.wrap (0+1)=((0:Nat):Int)=>absurd h (by decide))|exact (fun h=>absurd (hi0.symm.trans h) (by decide))|exact (fun h=>absurd (hi1.symm.trans h) (by decide))|exact (fun h=>absurd (hi2.symm.trans h) (by decide))|exact (fun h=>absurd ((beq_eq_false_iff_ne.2 e8).symm.trans h) (by decide))|exact (fun h=>absurd (nA.symm.trans h) (by decide))|exact (fun h=>absurd (nB.symm.trans h) (by decide))|exact (fun h=>absurd (hx.symm.trans h) (by decide))|exact (fun h=>absurd (w0.symm.trans h) (by decide))|exact (fun h=>absurd (w1.symm.trans h) (by decide))|exact (fun h=>absurd (w2.symm.trans h) (by decide))|exact (fun h=>absurd (w3.symm.trans h) (by decide))|exact (fun h=>absurd ((congrArg Bool.not nA).symm.trans h) (by decide))|exact (fun h=>absurd ((congrArg Bool.not nB).symm.trans h) (by decide))|exact (fun h=>absurd ((congrArg Bool.not hx).symm.trans h) (by decide))|exact (fun h=>absurd ((congrArg Bool.not w0).symm.trans h) (by decide))|exact (fun h=>absurd ((congrArg Bool.not w1).symm.trans h) (by decide))|exact (fun h=>absurd ((congrArg Bool.not w2).symm.trans h) (by decide))|exact (fun h=>absurd ((congrArg Bool.not w3).symm.trans h) (by decide))|exact (fun h=>absurd h (by decide)))|refine ⟨?_, ?_⟩|intro _)
   all_goals first|(with_reducible first|apply qa|apply qb|apply qc|apply qd)|(conv=>whnf)
   all_goals first|((with_reducible show ASat _ _ _ _ _);refine loop_n tys_ok (l:=sl2W) sp2W (by kernel_rfl) 3 ?_)|skip
   all_goals repeat' (first|exact trivial|(with_reducible first|exact hp0|exact hp1|exact hp2|exact hp1.1|exact hp1.2|exact hp2.1|exact hp2.2|exact And.intro hp0 (And.intro hp1.1 hp2.1)|exact And.intro hp0 (And.intro hp1.1 hp2.2)|exact And.intro hp0 (And.intro hp1.2 hp2.1)|exact And.intro hp0 (And.intro hp1.2 hp2.2)|exact wd_ok _|exact (wd_ok _).1.1|exact (wd_ok _).1.2|exact (wd_ok _).2.1|exact (wd_ok _).2.2|exact (fun h:(0:Int)=((1:Nat):Int)=>absurd h (by decide))|exact (fun h:IntKind.i64.wrap (0+1)=((0:Nat):Int)=>absurd h (by decide))|exact (fun h=>absurd (hi0.symm.trans h) (by decide))|exact (fun h=>absurd (hi1.symm.trans h) (by decide))|exact (fun h=>absurd (hi2.symm.trans h) (by decide))|exact (fun h=>absurd ((beq_eq_false_iff_ne.2 e8).symm.trans h) (by decide))|exact (fun h=>absurd (nA.symm.trans h) (by decide))|exact (fun h=>absurd (nB.symm.trans h) (by decide))|exact (fun h=>absurd (hx.symm.trans h) (by decide))|exact (fun h=>absurd (w0.symm.trans h) (by decide))|exact (fun h=>absurd (w1.symm.trans h) (by decide))|exact (fun h=>absurd (w2.symm.trans h) (by decide))|exact (fun h=>absurd (w3.symm.trans h) (by decide))|exact (fun h=>absurd ((congrArg Bool.not nA).symm.trans h) (by decide))|exact (fun h=>absurd ((congrArg Bool.not nB).symm.trans h) (by decide))|exact (fun h=>absurd ((congrArg Bool.not hx).symm.trans h) (by decide))|exact (fun h=>absurd ((congrArg Bool.not w0).symm.trans h) (by decide))|exact (fun h=>absurd ((congrArg Bool.not w1).symm.trans h) (by decide))|exact (fun h=>absurd ((congrArg Bool.not w2).symm.trans h) (by decide))|exact (fun h=>absurd ((congrArg Bool.not w3).symm.trans h) (by decide))|exact (fun h=>absurd h (by decide)))|refine ⟨?_, ?_⟩|intro _)
   all_goals first|(with_reducible first|apply qa|apply qb|apply qc|apply qd)|(conv=>whnf)
   all_goals first|((with_reducible show ASat _ _ _ _ _);refine loop_n tys_ok (l:=sl2W) sp2W (by kernel_rfl) 3 ?_)|skip
   all_goals repeat' (first|exact trivial|(with_reducible first|exact hp0|exact hp1|exact hp2|exact hp1.1|exact hp1.2|exact hp2.1|exact hp2.2|exact And.intro hp0 (And.intro hp1.1 hp2.1)|exact And.intro hp0 (And.intro hp1.1 hp2.2)|exact And.intro hp0 (And.intro hp1.2 hp2.1)|exact And.intro hp0 (And.intro hp1.2 hp2.2)|exact wd_ok _|exact (wd_ok _).1.1|exact (wd_ok _).1.2|exact (wd_ok _).2.1|exact (wd_ok _).2.2|exact (fun h:(0:Int)=((1:Nat):Int)=>absurd h (by decide))|exact (fun h:IntKind.i64.wrap (0+1)=((0:Nat):Int)=>absurd h (by decide))|exact (fun h=>absurd (hi0.symm.trans h) (by decide))|exact (fun h=>absurd (hi1.symm.trans h) (by decide))|exact (fun h=>absurd (hi2.symm.trans h) (by decide))|exact (fun h=>absurd ((beq_eq_false_iff_ne.2 e8).symm.trans h) (by decide))|exact (fun h=>absurd (nA.symm.trans h) (by decide))|exact (fun h=>absurd (nB.symm.trans h) (by decide))|exact (fun h=>absurd (hx.symm.trans h) (by decide))|exact (fun h=>absurd (w0.symm.trans h) (by decide))|exact (fun h=>absurd (w1.symm.trans h) (by decide))|exact (fun h=>absurd (w2.symm.trans h) (by decide))|exact (fun h=>absurd (w3.symm.trans h) (by decide))|exact (fun h=>absurd ((congrArg Bool.not nA).symm.trans h) (by decide))|exact (fun h=>absurd ((congrArg Bool.not nB).symm.trans h) (by decide))|exact (fun h=>absurd ((congrArg Bool.not hx).symm.trans h) (by decide))|exact (fun h=>absurd ((congrArg Bool.not w0).symm.trans h) (by decide))|exact (fun h=>absurd ((congrArg Bool.not w1).symm.trans h) (by decide))|exact (fun h=>absurd ((congrArg Bool.not w2).symm.trans h) (by decide))|exact (fun h=>absurd ((congrArg Bool.not w3).symm.trans h) (by decide))|exact (fun h=>absurd h (by decide)))|refine ⟨?_, ?_⟩|intro _)
   all_goals first|(with_reducible first|apply qa|apply qb|apply qc|apply qd)|(conv=>whnf)
   all_goals first|((with_reducible show ASat _ _ _ _ _);refine loop_n tys_ok (l:=sl2W) sp2W (by kernel_rfl) 3 ?_)|skip
   all_goals repeat' (first|exact trivial|(with_reducible first|exact hp0|exact hp1|exact hp2|exact hp1.1|exact hp1.2|exact hp2.1|exact hp2.2|exact And.intro hp0 (And.intro hp1.1 hp2.1)|exact And.intro hp0 (And.intro hp1.1 hp2.2)|exact And.intro hp0 (And.intro hp1.2 hp2.1)|exact And.intro hp0 (And.intro hp1.2 hp2.2)|exact wd_ok _|exact (wd_ok _).1.1|exact (wd_ok _).1.2|exact (wd_ok _).2.1|exact (wd_ok _).2.2|exact (fun h:(0:Int)=((1:Nat):Int)=>absurd h (by decide))|exact (fun h:IntKind.i64.wrap (0+1)=((0:Nat):Int)=>absurd h (by decide))|exact (fun h=>absurd (hi0.symm.trans h) (by decide))|exact (fun h=>absurd (hi1.symm.trans h) (by decide))|exact (fun h=>absurd (hi2.symm.trans h) (by decide))|exact (fun h=>absurd ((beq_eq_false_iff_ne.2 e8).symm.trans h) (by decide))|exact (fun h=>absurd (nA.symm.trans h) (by decide))|exact (fun h=>absurd (nB.symm.trans h) (by decide))|exact (fun h=>absurd (hx.symm.trans h) (by decide))|exact (fun h=>absurd (w0.symm.trans h) (by decide))|exact (fun h=>absurd (w1.symm.trans h) (by decide))|exact (fun h=>absurd (w2.symm.trans h) (by decide))|exact (fun h=>absurd (w3.symm.trans h) (by decide))|exact (fun h=>absurd ((congrArg Bool.not nA).symm.trans h) (by decide))|exact (fun h=>absurd ((congrArg Bool.not nB).symm.trans h) (by decide))|exact (fun h=>absurd ((congrArg Bool.not hx).symm.trans h) (by decide))|exact (fun h=>absurd ((congrArg Bool.not w0).symm.trans h) (by decide))|exact (fun h=>absurd ((congrArg Bool.not w1).symm.trans h) (by decide))|exact (fun h=>absurd ((congrArg Bool.not w2).symm.trans h) (by decide))|exact (fun h=>absurd ((congrArg Bool.not w3).symm.trans h) (by decide))|exact (fun h=>absurd h (by decide)))|refine ⟨?_, ?_⟩|intro _)
   all_goals first|(with_reducible first|apply qa|apply qb|apply qc|apply qd)|(conv=>whnf)
   all_goals first|((with_reducible show ASat _ _ _ _ _);refine loop_n tys_ok (l:=sl2W) sp2W (by kernel_rfl) 3 ?_)|skip
   all_goals repeat' (first|exact trivial|(with_reducible first|exact hp0|exact hp1|exact hp2|exact hp1.1|exact hp1.2|exact hp2.1|exact hp2.2|exact And.intro hp0 (And.intro hp1.1 hp2.1)|exact And.intro hp0 (And.intro hp1.1 hp2.2)|exact And.intro hp0 (And.intro hp1.2 hp2.1)|exact And.intro hp0 (And.intro hp1.2 hp2.2)|exact wd_ok _|exact (wd_ok _).1.1|exact (wd_ok _).1.2|exact (wd_ok _).2.1|exact (wd_ok _).2.2|exact (fun h:(0:Int)=((1:Nat):Int)=>absurd h (by decide))|exact (fun h:IntKind.i64.wrap (0+1)=((0:Nat):Int)=>absurd h (by decide))|exact (fun h=>absurd (hi0.symm.trans h) (by decide))|exact (fun h=>absurd (hi1.symm.trans h) (by decide))|exact (fun h=>absurd (hi2.symm.trans h) (by decide))|exact (fun h=>absurd ((beq_eq_false_iff_ne.2 e8).symm.trans h) (by decide))|exact (fun h=>absurd (nA.symm.trans h) (by decide))|exact (fun h=>absurd (nB.symm.trans h) (by decide))|exact (fun h=>absurd (hx.symm.trans h) (by decide))|exact (fun h=>absurd (w0.symm.trans h) (by decide))|exact (fun h=>absurd (w1.symm.trans h) (by decide))|exact (fun h=>absurd (w2.symm.trans h) (by decide))|exact (fun h=>absurd (w3.symm.trans h) (by decide))|exact (fun h=>absurd ((congrArg Bool.not nA).symm.trans h) (by decide))|exact (fun h=>absurd ((congrArg Bool.not nB).symm.trans h) (by decide))|exact (fun h=>absurd ((congrArg Bool.not hx).symm.trans h) (by decide))|exact (fun h=>absurd ((congrArg Bool.not w0).symm.trans h) (by decide))|exact (fun h=>absurd ((congrArg Bool.not w1).symm.trans h) (by decide))|exact (fun h=>absurd ((congrArg Bool.not w2).symm.trans h) (by decide))|exact (fun h=>absurd ((congrArg Bool.not w3).symm.trans h) (by decide))|exact (fun h=>absurd h (by decide)))|refine ⟨?_, ?_⟩|intro _)
   all_goals first|(with_reducible first|apply qa|apply qb|apply qc|apply qd)|(conv=>whnf)
   all_goals first|(with_reducible rfl)|decide|((with_reducible show Value.bool _=_);first|(rw [e];done)|(rw [e];rfl)|(rw [e];simp only [*,Bool.not_true,Bool.not_false,Bool.true_or,Bool.false_or,Bool.true_and,Bool.false_and];done))
 . cases h
end Go.Proofs.YtehpbhpmkhlldaaGreat
