/- What is left of values where a comparison holds. No condition. -/
import Derived.Test.YtehpbhpmkhlldaaGreatW24
set_option linter.all false
set_option maxHeartbeats 8000000
set_option maxRecDepth 100000
namespace Go.Proofs.YtehpbhpmkhlldaaGreat
open Go.Sx
def otherN (a b:Ns) (m:List ByteArray):Ns:=if lenN b≠1 then a else if onlyB b=false then ⟨a.null&& !true,ofS a.names⟩ else if memS (onlyT b) m=true then a else ⟨a.null,ofS (a.names.filter fun x=> !pO (onlyT b) x)⟩
section
variable {a b:Ns} {m:List ByteArray}
theorem ot_1 (h:(lenN b !=1)=true):otherN a b m=a:=by unfold otherN;rw [if_pos (by simpa using h)]
theorem ot_i (h:(lenN b !=1)=false):otherN a b m=if onlyB b=false then ⟨a.null&& !true,ofS a.names⟩ else if memS (onlyT b) m=true then a else ⟨a.null,ofS (a.names.filter fun x=> !pO (onlyT b) x)⟩:=by unfold otherN;rw [if_neg (by simpa using h)]
theorem ot_2 (h:(lenN b !=1)=false) (h2:onlyB b=false):otherN a b m=⟨a.null&& !true,ofS a.names⟩:=by rw [ot_i h,if_pos h2]
theorem ot_3 (h:(lenN b !=1)=false) (h2:onlyB b=true) (h3:memS (onlyT b) m=true):otherN a b m=a:=by rw [ot_i h,if_neg (by rw [h2];decide),if_pos h3]
theorem ot_4 (h:(lenN b !=1)=false) (h2:onlyB b=true) (h3:memS (onlyT b) m=false):otherN a b m=⟨a.null,ofS (a.names.filter fun x=> !pO (onlyT b) x)⟩:=by rw [ot_i h,if_neg (by rw [h2];decide),if_neg (by rw [h3];decide)]
end
def FNWithout:List Ar->Option Rs
 | [.agg [.d (.v (.bool b0)),.d (.lst 1 n0 f0)],.c (.d (.v (.bool b1)))]=>some ⟨(n0*16<=140737488351232/\ ∀i,i<n0->f0 i= [st (gT (f0 i))]),.va (Ns.ar (⟨b0&& !b1,ofS (gN n0 f0)⟩)),[]⟩
 |_=>none
theorem fcNWithout:FC Tryz.prog 113 FNWithout:=by
 intro xs pre r us h hp
 unfold FNWithout at h
 split at h
 . rename_i b0 n0 f0 b1
   cases h
   have hp0:=hp
   refine FCat.of_eq (as':= [.agg [.d (.v (.bool b0)),.d (.lst 1 n0 fun i=> [st (gT (f0 i))])],.c (.d (.v (.bool b1)))]) ?_ rfl rfl ?_
   . repeat' (first|exact trivial|exact rfl|refine ⟨?_, ?_⟩|fail)
     all_goals first|exact hp0.2|exact hp1.2|exact hp2.2|(intro i hi;exact (hp0.2 i hi).1)|(intro i hi;exact (hp1.2 i hi).1)|(intro i hi;exact (hp2.2 i hi).1)|grind
   refine fcat tys_ok (l:= [(91,⟨[],FNOf⟩)]) ⟨fcNOf,trivial⟩ Tryz.func113 rfl (by kernel_rfl) true ?_
   repeat' (first|exact trivial|(with_reducible first|exact hp0|exact hp0.1|exact hp1|exact hp1.1)|refine ⟨?_, ?_⟩|intro _)
   all_goals first|(with_reducible first|apply qa|apply qb|apply qc|apply qd)|(conv=>whnf)
   all_goals (try simp only [gN_lst,gN_canon] at*)
   all_goals first|(with_reducible rfl)|(intro _ _;exact rfl)|exact rfl|(have h:=‹b0=true›;subst h;rfl)|(have h:=‹b0=false›;subst h;rfl)
 . cases h
def FCOther:List Ar->Option Rs
 | [.agg [.d (.v (.bool b0)),.d (.lst 1 n0 f0)],.agg [.d (.v (.bool b1)),.d (.lst 1 n1 f1)],.c (.d (.lst 1 n2 f2))]=>some ⟨(n0*16<=140737488351232/\ ∀i,i<n0->f0 i= [st (gT (f0 i))])/\ (n1*16<=140737488351232/\ ∀i,i<n1->f1 i= [st (gT (f1 i))])/\ (n2*16<=140737488351232/\ ∀i,i<n2->f2 i= [st (gT (f2 i))]),.va (Ns.ar (otherN (⟨b0,gN n0 f0⟩:Ns) (⟨b1,gN n1 f1⟩:Ns) (gN n2 f2))),[]⟩
 |_=>none
theorem fcCOther:FC Tryz.prog 74 FCOther:=by
 intro xs pre r us h hp
 unfold FCOther at h
 split at h
 . rename_i b0 n0 f0 b1 n1 f1 n2 f2
   cases h
   obtain ⟨hp0,hp1,hp2⟩:=hp
   refine FCat.of_eq (as':= [.agg [.d (.v (.bool b0)),.d (.lst 1 n0 fun i=> [st (gT (f0 i))])],.agg [.d (.v (.bool b1)),.d (.lst 1 n1 fun i=> [st (gT (f1 i))])],.c (.d (.lst 1 n2 fun i=> [st (gT (f2 i))]))]) ?_ rfl rfl ?_
   . repeat' (first|exact trivial|exact rfl|refine ⟨?_, ?_⟩|fail)
     all_goals first|exact hp0.2|exact hp1.2|exact hp2.2|(intro i hi;exact (hp0.2 i hi).1)|(intro i hi;exact (hp1.2 i hi).1)|(intro i hi;exact (hp2.2 i hi).1)|grind
   refine fcat tys_ok (l:= [(111,⟨[],FNLen⟩),(112,⟨[],FNOnly⟩),(113,⟨[],FNWithout⟩),(97,⟨[],FNContains⟩),(115,⟨[],FNClone⟩),(114,⟨[true],(FDeleteS (onlyT (⟨b1,(gN n1 fun i=> [st (gT (f1 i))])⟩:Ns)) (fun i=>gT (f0 i)))⟩),(116,⟨[],FOtherC⟩),(91,⟨[],FNOf⟩)]) ⟨fcNLen,fcNOnly,fcNWithout,fcNContains,fcNClone,(fcDeleteS (onlyT (⟨b1,(gN n1 fun i=> [st (gT (f1 i))])⟩:Ns)) (fun i=>gT (f0 i))),fcOtherC,fcNOf,trivial⟩ Tryz.func74 rfl (by kernel_rfl) true ?_
   have hroom:(List.filter (fun b=> !pO (onlyT (⟨b1,(gN n1 fun i=> [st (gT (f1 i))])⟩:Ns)) b) (gN n0 fun i=> [st (gT (f0 i))])).length*16<=140737488351232:=by have h1:=List.length_filter_le (fun b=> !pO (onlyT (⟨b1,(gN n1 fun i=> [st (gT (f1 i))])⟩:Ns)) b) (gN n0 f0);rw [gN_length] at h1;have h2:=hp0.1;have h3:(List.filter (fun b=> !pO (onlyT (⟨b1,(gN n1 fun i=> [st (gT (f1 i))])⟩:Ns)) b) (gN n0 fun i=> [st (gT (f0 i))])).length<=n0:=h1;omega
   have c0:(gN n0 fun i=> [st (gT (f0 i))])=gN n0 f0:=rfl
   rw [<-c0]
   have c1:(gN n1 fun i=> [st (gT (f1 i))])=gN n1 f1:=rfl
   rw [<-c1]
   have c2:(gN n2 fun i=> [st (gT (f2 i))])=gN n2 f2:=rfl
   rw [<-c2]
   cases u1:(lenN (⟨b1,(gN n1 fun i=> [st (gT (f1 i))])⟩:Ns) !=1)
   . cases u2:onlyB (⟨b1,(gN n1 fun i=> [st (gT (f1 i))])⟩:Ns)
     . have u1n:=congrArg Bool.not u1;simp only [Bool.not_true,Bool.not_false] at u1n
       have u2n:=congrArg Bool.not u2;simp only [Bool.not_true,Bool.not_false] at u2n
       have e:=ot_2 (a:=(⟨b0,(gN n0 fun i=> [st (gT (f0 i))])⟩:Ns)) (b:=(⟨b1,(gN n1 fun i=> [st (gT (f1 i))])⟩:Ns)) (m:=(gN n2 fun i=> [st (gT (f2 i))])) u1 u2
       repeat' (first|exact trivial|(with_reducible first|exact hp0|exact hp0.1|exact hp1|exact hp1.1|exact hp2|exact hp2.1|exact (fun h:false=true=>absurd h (by decide))|exact (fun h:true=false=>absurd h (by decide))|exact (fun h:(!false)=false=>absurd h (by decide))|exact (fun h:(!true)=true=>absurd h (by decide))|exact (fun h=>absurd (u1.symm.trans h) (by decide))|exact (fun h=>absurd (u2.symm.trans h) (by decide))|exact (fun h=>absurd (u1n.symm.trans h) (by decide))|exact (fun h=>absurd (u2n.symm.trans h) (by decide)))|refine ⟨?_, ?_⟩|intro _)
       all_goals first|(with_reducible first|apply qa|apply qb|apply qc|apply qd)|(conv=>whnf)
       all_goals first|(with_reducible rfl)|decide|exact Nat.le_refl _|exact Nat.le_of_eq (Nat.zero_add _)|exact hroom|(simp only [Nat.zero_add,gN_lst,gN_canon] at*;first|(rw [e];done)|(rw [e];rfl)|exact hroom|fail)|(rw [e];exact (gN_length _ _).symm)|(rw [e];dsimp only;rw [atS_gN (by assumption)];done)|(rw [e];dsimp only;rw [atS_gN (by assumption)];rfl)|(intro _ _;exact rfl)|exact rfl|(rw [e];done)|(rw [e];rfl)|rfl
     . cases u3:memS (onlyT (⟨b1,(gN n1 fun i=> [st (gT (f1 i))])⟩:Ns)) (gN n2 fun i=> [st (gT (f2 i))])
       . have u1n:=congrArg Bool.not u1;simp only [Bool.not_true,Bool.not_false] at u1n
         have u2n:=congrArg Bool.not u2;simp only [Bool.not_true,Bool.not_false] at u2n
         have u3n:=congrArg Bool.not u3;simp only [Bool.not_true,Bool.not_false] at u3n
         have e:=ot_4 (a:=(⟨b0,(gN n0 fun i=> [st (gT (f0 i))])⟩:Ns)) (b:=(⟨b1,(gN n1 fun i=> [st (gT (f1 i))])⟩:Ns)) (m:=(gN n2 fun i=> [st (gT (f2 i))])) u1 u2 u3
         repeat' (first|exact trivial|(with_reducible first|exact hp0|exact hp0.1|exact hp1|exact hp1.1|exact hp2|exact hp2.1|exact (fun h:false=true=>absurd h (by decide))|exact (fun h:true=false=>absurd h (by decide))|exact (fun h:(!false)=false=>absurd h (by decide))|exact (fun h:(!true)=true=>absurd h (by decide))|exact (fun h=>absurd (u1.symm.trans h) (by decide))|exact (fun h=>absurd (u2.symm.trans h) (by decide))|exact (fun h=>absurd (u3.symm.trans h) (by decide))|exact (fun h=>absurd (u1n.symm.trans h) (by decide))|exact (fun h=>absurd (u2n.symm.trans h) (by decide))|exact (fun h=>absurd (u3n.symm.trans h) (by decide)))|refine ⟨?_, ?_⟩|intro _)
         all_goals first|(with_reducible first|apply qa|apply qb|apply qc|apply qd)|(conv=>whnf)
         all_goals first|(with_reducible rfl)|decide|exact Nat.le_refl _|exact Nat.le_of_eq (Nat.zero_add _)|exact hroom|(simp only [Nat.zero_add,gN_lst,gN_canon] at*;first|(rw [e];done)|(rw [e];rfl)|exact hroom|fail)|(rw [e];exact (gN_length _ _).symm)|(rw [e];dsimp only;rw [atS_gN (by assumption)];done)|(rw [e];dsimp only;rw [atS_gN (by assumption)];rfl)|(intro _ _;exact rfl)|exact rfl|(rw [e];done)|(rw [e];rfl)|rfl
       . have u1n:=congrArg Bool.not u1;simp only [Bool.not_true,Bool.not_false] at u1n
         have u2n:=congrArg Bool.not u2;simp only [Bool.not_true,Bool.not_false] at u2n
         have u3n:=congrArg Bool.not u3;simp only [Bool.not_true,Bool.not_false] at u3n
         have e:=ot_3 (a:=(⟨b0,(gN n0 fun i=> [st (gT (f0 i))])⟩:Ns)) (b:=(⟨b1,(gN n1 fun i=> [st (gT (f1 i))])⟩:Ns)) (m:=(gN n2 fun i=> [st (gT (f2 i))])) u1 u2 u3
         repeat' (first|exact trivial|(with_reducible first|exact hp0|exact hp0.1|exact hp1|exact hp1.1|exact hp2|exact hp2.1|exact (fun h:false=true=>absurd h (by decide))|exact (fun h:true=false=>absurd h (by decide))|exact (fun h:(!false)=false=>absurd h (by decide))|exact (fun h:(!true)=true=>absurd h (by decide))|exact (fun h=>absurd (u1.symm.trans h) (by decide))|exact (fun h=>absurd (u2.symm.trans h) (by decide))|exact (fun h=>absurd (u3.symm.trans h) (by decide))|exact (fun h=>absurd (u1n.symm.trans h) (by decide))|exact (fun h=>absurd (u2n.symm.trans h) (by decide))|exact (fun h=>absurd (u3n.symm.trans h) (by decide)))|refine ⟨?_, ?_⟩|intro _)
         all_goals first|(with_reducible first|apply qa|apply qb|apply qc|apply qd)|(conv=>whnf)
         all_goals first|(with_reducible rfl)|decide|exact Nat.le_refl _|exact Nat.le_of_eq (Nat.zero_add _)|exact hroom|(simp only [Nat.zero_add,gN_lst,gN_canon] at*;first|(rw [e];done)|(rw [e];rfl)|exact hroom|fail)|(rw [e];exact (gN_length _ _).symm)|(rw [e];dsimp only;rw [atS_gN (by assumption)];done)|(rw [e];dsimp only;rw [atS_gN (by assumption)];rfl)|(intro _ _;exact rfl)|exact rfl|(rw [e];done)|(rw [e];rfl)|rfl
   . have u1n:=congrArg Bool.not u1;simp only [Bool.not_true,Bool.not_false] at u1n
     have e:=ot_1 (a:=(⟨b0,(gN n0 fun i=> [st (gT (f0 i))])⟩:Ns)) (b:=(⟨b1,(gN n1 fun i=> [st (gT (f1 i))])⟩:Ns)) (m:=(gN n2 fun i=> [st (gT (f2 i))])) u1
     repeat' (first|exact trivial|(with_reducible first|exact hp0|exact hp0.1|exact hp1|exact hp1.1|exact hp2|exact hp2.1|exact (fun h:false=true=>absurd h (by decide))|exact (fun h:true=false=>absurd h (by decide))|exact (fun h:(!false)=false=>absurd h (by decide))|exact (fun h:(!true)=true=>absurd h (by decide))|exact (fun h=>absurd (u1.symm.trans h) (by decide))|exact (fun h=>absurd (u1n.symm.trans h) (by decide)))|refine ⟨?_, ?_⟩|intro _)
     all_goals first|(with_reducible first|apply qa|apply qb|apply qc|apply qd)|(conv=>whnf)
     all_goals first|(with_reducible rfl)|decide|exact Nat.le_refl _|exact Nat.le_of_eq (Nat.zero_add _)|exact hroom|(simp only [Nat.zero_add,gN_lst,gN_canon] at*;first|(rw [e];done)|(rw [e];rfl)|exact hroom|fail)|(rw [e];exact (gN_length _ _).symm)|(rw [e];dsimp only;rw [atS_gN (by assumption)];done)|(rw [e];dsimp only;rw [atS_gN (by assumption)];rfl)|(intro _ _;exact rfl)|exact rfl|(rw [e];done)|(rw [e];rfl)|rfl
 . cases h
def rfA (op:Int) (a b:Vl) (m:List ByteArray):Vl:=if op<12 then a else if op>15 then a else if noneN a.t=true then cmA op a b else if noneN b.t=true then cmA op a b else if op=14 then ⟨(cmA op a b).i,⟨a.t.null&&b.t.null,ofS (meetS a.t.names b.t.names)⟩⟩ else if op=15 then ⟨(cmA op a b).i,otherN a.t b.t m⟩ else cmA op a b
def rfB (op:Int) (a b:Vl) (m:List ByteArray):Vl:=if op<12 then b else if op>15 then b else if noneN a.t=true then cmB op a b else if noneN b.t=true then cmB op a b else if op=14 then ⟨(cmB op a b).i,⟨a.t.null&&b.t.null,ofS (meetS a.t.names b.t.names)⟩⟩ else if op=15 then ⟨(cmB op a b).i,otherN b.t a.t m⟩ else cmB op a b
section
variable {op:Int} {a b:Vl} {m:List ByteArray}
theorem rf_lt (h:op<12):rfA op a b m=a/\ rfB op a b m=b:=by unfold rfA rfB;rw [if_pos h,if_pos h];exact ⟨rfl,rfl⟩
theorem rf_gt (h:op>15):rfA op a b m=a/\ rfB op a b m=b:=by unfold rfA rfB;rw [if_neg (by omega),if_pos h,if_neg (by omega),if_pos h];exact ⟨rfl,rfl⟩
section
variable (h: ¬op<12) (h2: ¬op>15)
include h h2
theorem rf_n1 (k:noneN a.t=true):rfA op a b m=cmA op a b/\ rfB op a b m=cmB op a b:=by
 constructor
 . unfold rfA;rw [if_neg h,if_neg h2,if_pos k]
 . unfold rfB;rw [if_neg h,if_neg h2,if_pos k]
theorem rf_n2 (k:noneN b.t=true):rfA op a b m=cmA op a b/\ rfB op a b m=cmB op a b:=by
 by_cases q:noneN a.t=true
 . exact rf_n1 h h2 q
 constructor
 . unfold rfA;rw [if_neg h,if_neg h2,if_neg q,if_pos k]
 . unfold rfB;rw [if_neg h,if_neg h2,if_neg q,if_pos k]
theorem rf_i (k:noneN a.t=false) (k2:noneN b.t=false):rfA op a b m=(if op=14 then ⟨(cmA op a b).i,⟨a.t.null&&b.t.null,ofS (meetS a.t.names b.t.names)⟩⟩ else if op=15 then ⟨(cmA op a b).i,otherN a.t b.t m⟩ else cmA op a b)/\ rfB op a b m=(if op=14 then ⟨(cmB op a b).i,⟨a.t.null&&b.t.null,ofS (meetS a.t.names b.t.names)⟩⟩ else if op=15 then ⟨(cmB op a b).i,otherN b.t a.t m⟩ else cmB op a b):=by
 constructor
 . unfold rfA;rw [if_neg h,if_neg h2,if_neg (by rw [k];decide),if_neg (by rw [k2];decide)]
 . unfold rfB;rw [if_neg h,if_neg h2,if_neg (by rw [k];decide),if_neg (by rw [k2];decide)]
end
variable (k:noneN a.t=false) (k2:noneN b.t=false)
include k k2
theorem rf_14:rfA 14 a b m=⟨(cmA 14 a b).i,⟨a.t.null&&b.t.null,ofS (meetS a.t.names b.t.names)⟩⟩/\ rfB 14 a b m=⟨(cmB 14 a b).i,⟨a.t.null&&b.t.null,ofS (meetS a.t.names b.t.names)⟩⟩:=rf_i (op:=14) (by decide) (by decide) k k2
theorem rf_15:rfA 15 a b m=⟨(cmA 15 a b).i,otherN a.t b.t m⟩/\ rfB 15 a b m=⟨(cmB 15 a b).i,otherN b.t a.t m⟩:=rf_i (op:=15) (by decide) (by decide) k k2
theorem rf_12:rfA 12 a b m=cmA 12 a b/\ rfB 12 a b m=cmB 12 a b:=rf_i (op:=12) (by decide) (by decide) k k2
theorem rf_13:rfA 13 a b m=cmA 13 a b/\ rfB 13 a b m=cmB 13 a b:=rf_i (op:=13) (by decide) (by decide) k k2
end
def FCRefine:List Ar->Option Rs
 | [.c (.d (.v (.int .i64 i0))),.agg [.d (.v (.bool s1)),.d (.v (.int .i64 l1)),.d (.v (.int .i64 h1)),.d (.v (.bool b1)),.d (.v (.int .i64 m1)),.d (.v (.int .i64 r1)),.d (.v (.bool z1)),.d (.lst 1 n1 f1)],.agg [.d (.v (.bool s2)),.d (.v (.int .i64 l2)),.d (.v (.int .i64 h2)),.d (.v (.bool b2)),.d (.v (.int .i64 m2)),.d (.v (.int .i64 r2)),.d (.v (.bool z2)),.d (.lst 1 n2 f2)],.c (.d (.lst 1 n3 f3))]=>some ⟨(-9223372036854775808<=i0/\ i0<9223372036854775808)/\ ((n1*16<=140737488351232/\ ∀i,i<n1->f1 i= [st (gT (f1 i))])/\ Sp.inR ⟨s1,l1,h1⟩/\ Cg.inR ⟨b1,m1,r1⟩)/\ ((n2*16<=140737488351232/\ ∀i,i<n2->f2 i= [st (gT (f2 i))])/\ Sp.inR ⟨s2,l2,h2⟩/\ Cg.inR ⟨b2,m2,r2⟩)/\ (n3*16<=140737488351232/\ ∀i,i<n3->f3 i= [st (gT (f3 i))]),.tup [Vl.ar (rfA i0 (Vl.of (⟨⟨⟨s1,l1,h1⟩,⟨b1,m1,r1⟩⟩,⟨z1,gN n1 f1⟩⟩:Vl)) (Vl.of (⟨⟨⟨s2,l2,h2⟩,⟨b2,m2,r2⟩⟩,⟨z2,gN n2 f2⟩⟩:Vl)) (gN n3 f3)),Vl.ar (rfB i0 (Vl.of (⟨⟨⟨s1,l1,h1⟩,⟨b1,m1,r1⟩⟩,⟨z1,gN n1 f1⟩⟩:Vl)) (Vl.of (⟨⟨⟨s2,l2,h2⟩,⟨b2,m2,r2⟩⟩,⟨z2,gN n2 f2⟩⟩:Vl)) (gN n3 f3))],[]⟩
 |_=>none
abbrev pl5W:Plan:= .all [(0,.all [(1,.all [(2,.all [(3,.done)])]),(2,.all [(1,.all [(3,.done)])])]),(1,.all [(0,.all [(2,.all [(3,.done)])])])]
abbrev sl6W:List (Nat×Sm):= [(60,⟨[],FVCleanV⟩),(72,⟨[],FCCompared⟩),(73,⟨[],FNNone⟩),(41,⟨[],FNMeet⟩),(74,⟨[],FCOther⟩)]
theorem sp6W:sumsOk Tryz.prog sl6W:=⟨fcVCleanV,fcCCompared,fcNNone,fcNMeet,fcCOther,trivial⟩
theorem fcCRefine:FC Tryz.prog 27 FCRefine:=by
 intro xs pre r us h hp
 unfold FCRefine at h
 split at h
 . rename_i i0 s1 l1 h1 b1 m1 r1 z1 n1 f1 s2 l2 h2 b2 m2 r2 z2 n2 f2 n3 f3
   cases h
   obtain ⟨hp0,hp1,hp2,hp3⟩:=hp
   refine FCat.of_eq (as':= [.c (.d (.v (.int .i64 i0))),.agg [.d (.v (.bool s1)),.d (.v (.int .i64 l1)),.d (.v (.int .i64 h1)),.d (.v (.bool b1)),.d (.v (.int .i64 m1)),.d (.v (.int .i64 r1)),.d (.v (.bool z1)),.d (.lst 1 n1 fun i=> [st (gT (f1 i))])],.agg [.d (.v (.bool s2)),.d (.v (.int .i64 l2)),.d (.v (.int .i64 h2)),.d (.v (.bool b2)),.d (.v (.int .i64 m2)),.d (.v (.int .i64 r2)),.d (.v (.bool z2)),.d (.lst 1 n2 fun i=> [st (gT (f2 i))])],.c (.d (.lst 1 n3 fun i=> [st (gT (f3 i))]))]) ?_ rfl rfl ?_
   . repeat' (first|exact trivial|exact rfl|refine ⟨?_, ?_⟩|fail)
     all_goals first|exact hp0.2|exact hp1.2|exact hp2.2|(intro i hi;exact (hp0.2 i hi).1)|(intro i hi;exact (hp1.2 i hi).1)|(intro i hi;exact (hp2.2 i hi).1)|grind
   refine fcat tys_ok (l:=sl6W) sp6W Tryz.func27 rfl (by kernel_rfl) true ?_
   have o1:=okV_of (v:=(⟨⟨⟨s1,l1,h1⟩,⟨b1,m1,r1⟩⟩,⟨z1,(gN n1 fun i=> [st (gT (f1 i))])⟩⟩:Vl)) ⟨⟨(by rw [gN_length];exact hp1.1.1),fun _ _=>rfl⟩,hp1.2⟩
   have o2:=okV_of (v:=(⟨⟨⟨s2,l2,h2⟩,⟨b2,m2,r2⟩⟩,⟨z2,(gN n2 fun i=> [st (gT (f2 i))])⟩⟩:Vl)) ⟨⟨(by rw [gN_length];exact hp2.1.1),fun _ _=>rfl⟩,hp2.2⟩
   have c1:(gN n1 fun i=> [st (gT (f1 i))])=gN n1 f1:=rfl
   rw [<-c1]
   have c2:(gN n2 fun i=> [st (gT (f2 i))])=gN n2 f2:=rfl
   rw [<-c2]
   have hmA:=cmA_inR (op:=i0) o1.2 o2.2
   have hmB:=cmB_inR (op:=i0) o1.2 o2.2
   unfold okV at o1 o2
   have c3:(gN n3 fun i=> [st (gT (f3 i))])=gN n3 f3:=rfl
   rw [<-c3]
   by_cases hlt:i0<12
   . all_goals first|(have e:=rf_lt (a:=(Vl.of (⟨⟨⟨s1,l1,h1⟩,⟨b1,m1,r1⟩⟩,⟨z1,(gN n1 fun i=> [st (gT (f1 i))])⟩⟩:Vl))) (b:=(Vl.of (⟨⟨⟨s2,l2,h2⟩,⟨b2,m2,r2⟩⟩,⟨z2,(gN n2 fun i=> [st (gT (f2 i))])⟩⟩:Vl))) (m:=(gN n3 fun i=> [st (gT (f3 i))])) hlt)|skip
     all_goals repeat' (first|exact trivial|(with_reducible first|exact hp0|exact hp3|exact hp3.1|exact o1|exact o2|exact o1.2|exact o2.2|exact o1.2.1|exact o1.2.2|exact o2.2.1|exact o2.2.2|exact o1.1.1|exact o2.1.1|exact hp1|exact hp1.1|exact hp1.2|exact hp1.2.1|exact hp1.2.2|exact hp1.1.1|exact hp2|exact hp2.1|exact hp2.2|exact hp2.2.1|exact hp2.2.2|exact hp2.1.1|exact (fun h:false=true=>absurd h (by decide))|exact (fun h:true=false=>absurd h (by decide))|exact (fun h:(!false)=false=>absurd h (by decide))|exact (fun h:(!true)=true=>absurd h (by decide))|exact (fun h:(!false)=false=>absurd h (by decide))|exact (fun h:(!true)=true=>absurd h (by decide))|exact hmA|exact hmB|exact (fun h=>absurd ((decide_eq_true hlt).symm.trans h) (by decide))|exact (fun h=>absurd h (by decide)))|refine ⟨?_, ?_⟩|intro _)
     all_goals first|(with_reducible first|apply qa|apply qb|apply qc|apply qd)|(conv=>whnf)
     all_goals first|((with_reducible show ASat _ _ _ _ _);refine draw_plan tys_ok (l:=sl6W) sp6W (by kernel_rfl) pl5W (by kernel_rfl) ?_)|skip
     all_goals repeat' (first|exact trivial|(with_reducible first|exact hp0|exact hp3|exact hp3.1|exact o1|exact o2|exact o1.2|exact o2.2|exact o1.2.1|exact o1.2.2|exact o2.2.1|exact o2.2.2|exact o1.1.1|exact o2.1.1|exact hp1|exact hp1.1|exact hp1.2|exact hp1.2.1|exact hp1.2.2|exact hp1.1.1|exact hp2|exact hp2.1|exact hp2.2|exact hp2.2.1|exact hp2.2.2|exact hp2.1.1|exact (fun h:false=true=>absurd h (by decide))|exact (fun h:true=false=>absurd h (by decide))|exact (fun h:(!false)=false=>absurd h (by decide))|exact (fun h:(!true)=true=>absurd h (by decide))|exact (fun h:(!false)=false=>absurd h (by decide))|exact (fun h:(!true)=true=>absurd h (by decide))|exact hmA|exact hmB|exact (fun h=>absurd ((decide_eq_true hlt).symm.trans h) (by decide))|exact (fun h=>absurd h (by decide)))|refine ⟨?_, ?_⟩|intro _)
     all_goals first|(with_reducible first|apply qa|apply qb|apply qc|apply qd)|(conv=>whnf)
     all_goals (try simp only [gN_lst] at*)
     all_goals first|(with_reducible rfl)|decide|exact o1.1.1|exact o2.1.1|(intro _ _;exact rfl)|exact rfl|(rw [e.1];done)|(rw [e.1];rfl)|(rw [e.2];done)|(rw [e.2];rfl)
   by_cases hgt:i0>15
   . all_goals first|(have e:=rf_gt (a:=(Vl.of (⟨⟨⟨s1,l1,h1⟩,⟨b1,m1,r1⟩⟩,⟨z1,(gN n1 fun i=> [st (gT (f1 i))])⟩⟩:Vl))) (b:=(Vl.of (⟨⟨⟨s2,l2,h2⟩,⟨b2,m2,r2⟩⟩,⟨z2,(gN n2 fun i=> [st (gT (f2 i))])⟩⟩:Vl))) (m:=(gN n3 fun i=> [st (gT (f3 i))])) hgt)|skip
     all_goals repeat' (first|exact trivial|(with_reducible first|exact hp0|exact hp3|exact hp3.1|exact o1|exact o2|exact o1.2|exact o2.2|exact o1.2.1|exact o1.2.2|exact o2.2.1|exact o2.2.2|exact o1.1.1|exact o2.1.1|exact hp1|exact hp1.1|exact hp1.2|exact hp1.2.1|exact hp1.2.2|exact hp1.1.1|exact hp2|exact hp2.1|exact hp2.2|exact hp2.2.1|exact hp2.2.2|exact hp2.1.1|exact (fun h:false=true=>absurd h (by decide))|exact (fun h:true=false=>absurd h (by decide))|exact (fun h:(!false)=false=>absurd h (by decide))|exact (fun h:(!true)=true=>absurd h (by decide))|exact (fun h:(!false)=false=>absurd h (by decide))|exact (fun h:(!true)=true=>absurd h (by decide))|exact hmA|exact hmB|exact (fun h=>absurd ((decide_eq_false hlt).symm.trans h) (by decide))|exact (fun h=>absurd ((decide_eq_true hgt).symm.trans h) (by decide))|exact (fun h=>absurd h (by decide)))|refine ⟨?_, ?_⟩|intro _)
     all_goals first|(with_reducible first|apply qa|apply qb|apply qc|apply qd)|(conv=>whnf)
     all_goals first|((with_reducible show ASat _ _ _ _ _);refine draw_plan tys_ok (l:=sl6W) sp6W (by kernel_rfl) pl5W (by kernel_rfl) ?_)|skip
     all_goals repeat' (first|exact trivial|(with_reducible first|exact hp0|exact hp3|exact hp3.1|exact o1|exact o2|exact o1.2|exact o2.2|exact o1.2.1|exact o1.2.2|exact o2.2.1|exact o2.2.2|exact o1.1.1|exact o2.1.1|exact hp1|exact hp1.1|exact hp1.2|exact hp1.2.1|exact hp1.2.2|exact hp1.1.1|exact hp2|exact hp2.1|exact hp2.2|exact hp2.2.1|exact hp2.2.2|exact hp2.1.1|exact (fun h:false=true=>absurd h (by decide))|exact (fun h:true=false=>absurd h (by decide))|exact (fun h:(!false)=false=>absurd h (by decide))|exact (fun h:(!true)=true=>absurd h (by decide))|exact (fun h:(!false)=false=>absurd h (by decide))|exact (fun h:(!true)=true=>absurd h (by decide))|exact hmA|exact hmB|exact (fun h=>absurd ((decide_eq_false hlt).symm.trans h) (by decide))|exact (fun h=>absurd ((decide_eq_true hgt).symm.trans h) (by decide))|exact (fun h=>absurd h (by decide)))|refine ⟨?_, ?_⟩|intro _)
     all_goals first|(with_reducible first|apply qa|apply qb|apply qc|apply qd)|(conv=>whnf)
     all_goals (try simp only [gN_lst] at*)
     all_goals first|(with_reducible rfl)|decide|exact o1.1.1|exact o2.1.1|(intro _ _;exact rfl)|exact rfl|(rw [e.1];done)|(rw [e.1];rfl)|(rw [e.2];done)|(rw [e.2];rfl)
   rcases (show i0=12 \/i0=13 \/i0=14 \/i0=15 by omega) with e0|e0|e0|e0<;>subst e0
   . all_goals first|(cases v1:(!(Vl.of (⟨⟨⟨s1,l1,h1⟩,⟨b1,m1,r1⟩⟩,⟨z1,(gN n1 fun i=> [st (gT (f1 i))])⟩⟩:Vl)).t.null&&decide (gN (Vl.of (⟨⟨⟨s1,l1,h1⟩,⟨b1,m1,r1⟩⟩,⟨z1,(gN n1 fun i=> [st (gT (f1 i))])⟩⟩:Vl)).t.names.length (fun i=> [st (atS (Vl.of (⟨⟨⟨s1,l1,h1⟩,⟨b1,m1,r1⟩⟩,⟨z1,(gN n1 fun i=> [st (gT (f1 i))])⟩⟩:Vl)).t.names i)])= [])))|skip
     all_goals first|(have _:=(show _=false from v1);cases v2:(!(Vl.of (⟨⟨⟨s2,l2,h2⟩,⟨b2,m2,r2⟩⟩,⟨z2,(gN n2 fun i=> [st (gT (f2 i))])⟩⟩:Vl)).t.null&&decide (gN (Vl.of (⟨⟨⟨s2,l2,h2⟩,⟨b2,m2,r2⟩⟩,⟨z2,(gN n2 fun i=> [st (gT (f2 i))])⟩⟩:Vl)).t.names.length (fun i=> [st (atS (Vl.of (⟨⟨⟨s2,l2,h2⟩,⟨b2,m2,r2⟩⟩,⟨z2,(gN n2 fun i=> [st (gT (f2 i))])⟩⟩:Vl)).t.names i)])= [])))|skip
     all_goals (try (have w1:=v1;rw [gN_lst] at w1))
     all_goals (try (have w2:=v2;rw [gN_lst] at w2))
     all_goals first|(have e:=rf_n1 (op:=12) (a:=(Vl.of (⟨⟨⟨s1,l1,h1⟩,⟨b1,m1,r1⟩⟩,⟨z1,(gN n1 fun i=> [st (gT (f1 i))])⟩⟩:Vl))) (b:=(Vl.of (⟨⟨⟨s2,l2,h2⟩,⟨b2,m2,r2⟩⟩,⟨z2,(gN n2 fun i=> [st (gT (f2 i))])⟩⟩:Vl))) (m:=(gN n3 fun i=> [st (gT (f3 i))])) (by decide) (by decide) w1)|(have e:=rf_n2 (op:=12) (a:=(Vl.of (⟨⟨⟨s1,l1,h1⟩,⟨b1,m1,r1⟩⟩,⟨z1,(gN n1 fun i=> [st (gT (f1 i))])⟩⟩:Vl))) (b:=(Vl.of (⟨⟨⟨s2,l2,h2⟩,⟨b2,m2,r2⟩⟩,⟨z2,(gN n2 fun i=> [st (gT (f2 i))])⟩⟩:Vl))) (m:=(gN n3 fun i=> [st (gT (f3 i))])) (by decide) (by decide) w2)|(have e:=rf_12 (a:=(Vl.of (⟨⟨⟨s1,l1,h1⟩,⟨b1,m1,r1⟩⟩,⟨z1,(gN n1 fun i=> [st (gT (f1 i))])⟩⟩:Vl))) (b:=(Vl.of (⟨⟨⟨s2,l2,h2⟩,⟨b2,m2,r2⟩⟩,⟨z2,(gN n2 fun i=> [st (gT (f2 i))])⟩⟩:Vl))) (m:=(gN n3 fun i=> [st (gT (f3 i))])) w1 w2)|skip
     all_goals repeat' (first|exact trivial|(with_reducible first|exact hp0|exact hp3|exact hp3.1|exact o1|exact o2|exact o1.2|exact o2.2|exact o1.2.1|exact o1.2.2|exact o2.2.1|exact o2.2.2|exact o1.1.1|exact o2.1.1|exact hp1|exact hp1.1|exact hp1.2|exact hp1.2.1|exact hp1.2.2|exact hp1.1.1|exact hp2|exact hp2.1|exact hp2.2|exact hp2.2.1|exact hp2.2.2|exact hp2.1.1|exact (fun h:false=true=>absurd h (by decide))|exact (fun h:true=false=>absurd h (by decide))|exact (fun h:(!false)=false=>absurd h (by decide))|exact (fun h:(!true)=true=>absurd h (by decide))|exact (fun h:(!false)=false=>absurd h (by decide))|exact (fun h:(!true)=true=>absurd h (by decide))|exact hmA|exact hmB|exact (fun h=>absurd (v1.symm.trans h) (by decide))|exact (fun h=>absurd (v2.symm.trans h) (by decide))|exact (fun h=>absurd ((congrArg Bool.not v1).symm.trans h) (by decide))|exact (fun h=>absurd ((congrArg Bool.not v2).symm.trans h) (by decide))|exact (fun h=>absurd h (by decide)))|refine ⟨?_, ?_⟩|intro _)
     all_goals first|(with_reducible first|apply qa|apply qb|apply qc|apply qd)|(conv=>whnf)
     all_goals first|((with_reducible show ASat _ _ _ _ _);refine draw_plan tys_ok (l:=sl6W) sp6W (by kernel_rfl) pl5W (by kernel_rfl) ?_)|skip
     all_goals repeat' (first|exact trivial|(with_reducible first|exact hp0|exact hp3|exact hp3.1|exact o1|exact o2|exact o1.2|exact o2.2|exact o1.2.1|exact o1.2.2|exact o2.2.1|exact o2.2.2|exact o1.1.1|exact o2.1.1|exact hp1|exact hp1.1|exact hp1.2|exact hp1.2.1|exact hp1.2.2|exact hp1.1.1|exact hp2|exact hp2.1|exact hp2.2|exact hp2.2.1|exact hp2.2.2|exact hp2.1.1|exact (fun h:false=true=>absurd h (by decide))|exact (fun h:true=false=>absurd h (by decide))|exact (fun h:(!false)=false=>absurd h (by decide))|exact (fun h:(!true)=true=>absurd h (by decide))|exact (fun h:(!false)=false=>absurd h (by decide))|exact (fun h:(!true)=true=>absurd h (by decide))|exact hmA|exact hmB|exact (fun h=>absurd (v1.symm.trans h) (by decide))|exact (fun h=>absurd (v2.symm.trans h) (by decide))|exact (fun h=>absurd ((congrArg Bool.not v1).symm.trans h) (by decide))|exact (fun h=>absurd ((congrArg Bool.not v2).symm.trans h) (by decide))|exact (fun h=>absurd h (by decide)))|refine ⟨?_, ?_⟩|intro _)
     all_goals first|(with_reducible first|apply qa|apply qb|apply qc|apply qd)|(conv=>whnf)
     all_goals first|((with_reducible show ASat _ _ _ _ _);refine draw_plan tys_ok (l:=sl6W) sp6W (by kernel_rfl) pl5W (by kernel_rfl) ?_)|skip
     all_goals repeat' (first|exact trivial|(with_reducible first|exact hp0|exact hp3|exact hp3.1|exact o1|exact o2|exact o1.2|exact o2.2|exact o1.2.1|exact o1.2.2|exact o2.2.1|exact o2.2.2|exact o1.1.1|exact o2.1.1|exact hp1|exact hp1.1|exact hp1.2|exact hp1.2.1|exact hp1.2.2|exact hp1.1.1|exact hp2|exact hp2.1|exact hp2.2|exact hp2.2.1|exact hp2.2.2|exact hp2.1.1|exact (fun h:false=true=>absurd h (by decide))|exact (fun h:true=false=>absurd h (by decide))|exact (fun h:(!false)=false=>absurd h (by decide))|exact (fun h:(!true)=true=>absurd h (by decide))|exact (fun h:(!false)=false=>absurd h (by decide))|exact (fun h:(!true)=true=>absurd h (by decide))|exact hmA|exact hmB|exact (fun h=>absurd (v1.symm.trans h) (by decide))|exact (fun h=>absurd (v2.symm.trans h) (by decide))|exact (fun h=>absurd ((congrArg Bool.not v1).symm.trans h) (by decide))|exact (fun h=>absurd ((congrArg Bool.not v2).symm.trans h) (by decide))|exact (fun h=>absurd h (by decide)))|refine ⟨?_, ?_⟩|intro _)
     all_goals first|(with_reducible first|apply qa|apply qb|apply qc|apply qd)|(conv=>whnf)
     all_goals (try simp only [gN_lst] at*)
     all_goals first|(with_reducible rfl)|decide|exact o1.1.1|exact o2.1.1|(intro _ _;exact rfl)|exact rfl|(rw [e.1];done)|(rw [e.1];rfl)|(rw [e.2];done)|(rw [e.2];rfl)
   . all_goals first|(cases v1:(!(Vl.of (⟨⟨⟨s1,l1,h1⟩,⟨b1,m1,r1⟩⟩,⟨z1,(gN n1 fun i=> [st (gT (f1 i))])⟩⟩:Vl)).t.null&&decide (gN (Vl.of (⟨⟨⟨s1,l1,h1⟩,⟨b1,m1,r1⟩⟩,⟨z1,(gN n1 fun i=> [st (gT (f1 i))])⟩⟩:Vl)).t.names.length (fun i=> [st (atS (Vl.of (⟨⟨⟨s1,l1,h1⟩,⟨b1,m1,r1⟩⟩,⟨z1,(gN n1 fun i=> [st (gT (f1 i))])⟩⟩:Vl)).t.names i)])= [])))|skip
     all_goals first|(have _:=(show _=false from v1);cases v2:(!(Vl.of (⟨⟨⟨s2,l2,h2⟩,⟨b2,m2,r2⟩⟩,⟨z2,(gN n2 fun i=> [st (gT (f2 i))])⟩⟩:Vl)).t.null&&decide (gN (Vl.of (⟨⟨⟨s2,l2,h2⟩,⟨b2,m2,r2⟩⟩,⟨z2,(gN n2 fun i=> [st (gT (f2 i))])⟩⟩:Vl)).t.names.length (fun i=> [st (atS (Vl.of (⟨⟨⟨s2,l2,h2⟩,⟨b2,m2,r2⟩⟩,⟨z2,(gN n2 fun i=> [st (gT (f2 i))])⟩⟩:Vl)).t.names i)])= [])))|skip
     all_goals (try (have w1:=v1;rw [gN_lst] at w1))
     all_goals (try (have w2:=v2;rw [gN_lst] at w2))
     all_goals first|(have e:=rf_n1 (op:=13) (a:=(Vl.of (⟨⟨⟨s1,l1,h1⟩,⟨b1,m1,r1⟩⟩,⟨z1,(gN n1 fun i=> [st (gT (f1 i))])⟩⟩:Vl))) (b:=(Vl.of (⟨⟨⟨s2,l2,h2⟩,⟨b2,m2,r2⟩⟩,⟨z2,(gN n2 fun i=> [st (gT (f2 i))])⟩⟩:Vl))) (m:=(gN n3 fun i=> [st (gT (f3 i))])) (by decide) (by decide) w1)|(have e:=rf_n2 (op:=13) (a:=(Vl.of (⟨⟨⟨s1,l1,h1⟩,⟨b1,m1,r1⟩⟩,⟨z1,(gN n1 fun i=> [st (gT (f1 i))])⟩⟩:Vl))) (b:=(Vl.of (⟨⟨⟨s2,l2,h2⟩,⟨b2,m2,r2⟩⟩,⟨z2,(gN n2 fun i=> [st (gT (f2 i))])⟩⟩:Vl))) (m:=(gN n3 fun i=> [st (gT (f3 i))])) (by decide) (by decide) w2)|(have e:=rf_13 (a:=(Vl.of (⟨⟨⟨s1,l1,h1⟩,⟨b1,m1,r1⟩⟩,⟨z1,(gN n1 fun i=> [st (gT (f1 i))])⟩⟩:Vl))) (b:=(Vl.of (⟨⟨⟨s2,l2,h2⟩,⟨b2,m2,r2⟩⟩,⟨z2,(gN n2 fun i=> [st (gT (f2 i))])⟩⟩:Vl))) (m:=(gN n3 fun i=> [st (gT (f3 i))])) w1 w2)|skip
     all_goals repeat' (first|exact trivial|(with_reducible first|exact hp0|exact hp3|exact hp3.1|exact o1|exact o2|exact o1.2|exact o2.2|exact o1.2.1|exact o1.2.2|exact o2.2.1|exact o2.2.2|exact o1.1.1|exact o2.1.1|exact hp1|exact hp1.1|exact hp1.2|exact hp1.2.1|exact hp1.2.2|exact hp1.1.1|exact hp2|exact hp2.1|exact hp2.2|exact hp2.2.1|exact hp2.2.2|exact hp2.1.1|exact (fun h:false=true=>absurd h (by decide))|exact (fun h:true=false=>absurd h (by decide))|exact (fun h:(!false)=false=>absurd h (by decide))|exact (fun h:(!true)=true=>absurd h (by decide))|exact (fun h:(!false)=false=>absurd h (by decide))|exact (fun h:(!true)=true=>absurd h (by decide))|exact hmA|exact hmB|exact (fun h=>absurd (v1.symm.trans h) (by decide))|exact (fun h=>absurd (v2.symm.trans h) (by decide))|exact (fun h=>absurd ((congrArg Bool.not v1).symm.trans h) (by decide))|exact (fun h=>absurd ((congrArg Bool.not v2).symm.trans h) (by decide))|exact (fun h=>absurd h (by decide)))|refine ⟨?_, ?_⟩|intro _)
     all_goals first|(with_reducible first|apply qa|apply qb|apply qc|apply qd)|(conv=>whnf)
     all_goals first|((with_reducible show ASat _ _ _ _ _);refine draw_plan tys_ok (l:=sl6W) sp6W (by kernel_rfl) pl5W (by kernel_rfl) ?_)|skip
     all_goals repeat' (first|exact trivial|(with_reducible first|exact hp0|exact hp3|exact hp3.1|exact o1|exact o2|exact o1.2|exact o2.2|exact o1.2.1|exact o1.2.2|exact o2.2.1|exact o2.2.2|exact o1.1.1|exact o2.1.1|exact hp1|exact hp1.1|exact hp1.2|exact hp1.2.1|exact hp1.2.2|exact hp1.1.1|exact hp2|exact hp2.1|exact hp2.2|exact hp2.2.1|exact hp2.2.2|exact hp2.1.1|exact (fun h:false=true=>absurd h (by decide))|exact (fun h:true=false=>absurd h (by decide))|exact (fun h:(!false)=false=>absurd h (by decide))|exact (fun h:(!true)=true=>absurd h (by decide))|exact (fun h:(!false)=false=>absurd h (by decide))|exact (fun h:(!true)=true=>absurd h (by decide))|exact hmA|exact hmB|exact (fun h=>absurd (v1.symm.trans h) (by decide))|exact (fun h=>absurd (v2.symm.trans h) (by decide))|exact (fun h=>absurd ((congrArg Bool.not v1).symm.trans h) (by decide))|exact (fun h=>absurd ((congrArg Bool.not v2).symm.trans h) (by decide))|exact (fun h=>absurd h (by decide)))|refine ⟨?_, ?_⟩|intro _)
     all_goals first|(with_reducible first|apply qa|apply qb|apply qc|apply qd)|(conv=>whnf)
     all_goals first|((with_reducible show ASat _ _ _ _ _);refine draw_plan tys_ok (l:=sl6W) sp6W (by kernel_rfl) pl5W (by kernel_rfl) ?_)|skip
     all_goals repeat' (first|exact trivial|(with_reducible first|exact hp0|exact hp3|exact hp3.1|exact o1|exact o2|exact o1.2|exact o2.2|exact o1.2.1|exact o1.2.2|exact o2.2.1|exact o2.2.2|exact o1.1.1|exact o2.1.1|exact hp1|exact hp1.1|exact hp1.2|exact hp1.2.1|exact hp1.2.2|exact hp1.1.1|exact hp2|exact hp2.1|exact hp2.2|exact hp2.2.1|exact hp2.2.2|exact hp2.1.1|exact (fun h:false=true=>absurd h (by decide))|exact (fun h:true=false=>absurd h (by decide))|exact (fun h:(!false)=false=>absurd h (by decide))|exact (fun h:(!true)=true=>absurd h (by decide))|exact (fun h:(!false)=false=>absurd h (by decide))|exact (fun h:(!true)=true=>absurd h (by decide))|exact hmA|exact hmB|exact (fun h=>absurd (v1.symm.trans h) (by decide))|exact (fun h=>absurd (v2.symm.trans h) (by decide))|exact (fun h=>absurd ((congrArg Bool.not v1).symm.trans h) (by decide))|exact (fun h=>absurd ((congrArg Bool.not v2).symm.trans h) (by decide))|exact (fun h=>absurd h (by decide)))|refine ⟨?_, ?_⟩|intro _)
     all_goals first|(with_reducible first|apply qa|apply qb|apply qc|apply qd)|(conv=>whnf)
     all_goals (try simp only [gN_lst] at*)
     all_goals first|(with_reducible rfl)|decide|exact o1.1.1|exact o2.1.1|(intro _ _;exact rfl)|exact rfl|(rw [e.1];done)|(rw [e.1];rfl)|(rw [e.2];done)|(rw [e.2];rfl)
   . all_goals first|(cases v1:(!(Vl.of (⟨⟨⟨s1,l1,h1⟩,⟨b1,m1,r1⟩⟩,⟨z1,(gN n1 fun i=> [st (gT (f1 i))])⟩⟩:Vl)).t.null&&decide (gN (Vl.of (⟨⟨⟨s1,l1,h1⟩,⟨b1,m1,r1⟩⟩,⟨z1,(gN n1 fun i=> [st (gT (f1 i))])⟩⟩:Vl)).t.names.length (fun i=> [st (atS (Vl.of (⟨⟨⟨s1,l1,h1⟩,⟨b1,m1,r1⟩⟩,⟨z1,(gN n1 fun i=> [st (gT (f1 i))])⟩⟩:Vl)).t.names i)])= [])))|skip
     all_goals first|(have _:=(show _=false from v1);cases v2:(!(Vl.of (⟨⟨⟨s2,l2,h2⟩,⟨b2,m2,r2⟩⟩,⟨z2,(gN n2 fun i=> [st (gT (f2 i))])⟩⟩:Vl)).t.null&&decide (gN (Vl.of (⟨⟨⟨s2,l2,h2⟩,⟨b2,m2,r2⟩⟩,⟨z2,(gN n2 fun i=> [st (gT (f2 i))])⟩⟩:Vl)).t.names.length (fun i=> [st (atS (Vl.of (⟨⟨⟨s2,l2,h2⟩,⟨b2,m2,r2⟩⟩,⟨z2,(gN n2 fun i=> [st (gT (f2 i))])⟩⟩:Vl)).t.names i)])= [])))|skip
     all_goals (try (have w1:=v1;rw [gN_lst] at w1))
     all_goals (try (have w2:=v2;rw [gN_lst] at w2))
     all_goals first|(have e:=rf_n1 (op:=14) (a:=(Vl.of (⟨⟨⟨s1,l1,h1⟩,⟨b1,m1,r1⟩⟩,⟨z1,(gN n1 fun i=> [st (gT (f1 i))])⟩⟩:Vl))) (b:=(Vl.of (⟨⟨⟨s2,l2,h2⟩,⟨b2,m2,r2⟩⟩,⟨z2,(gN n2 fun i=> [st (gT (f2 i))])⟩⟩:Vl))) (m:=(gN n3 fun i=> [st (gT (f3 i))])) (by decide) (by decide) w1)|(have e:=rf_n2 (op:=14) (a:=(Vl.of (⟨⟨⟨s1,l1,h1⟩,⟨b1,m1,r1⟩⟩,⟨z1,(gN n1 fun i=> [st (gT (f1 i))])⟩⟩:Vl))) (b:=(Vl.of (⟨⟨⟨s2,l2,h2⟩,⟨b2,m2,r2⟩⟩,⟨z2,(gN n2 fun i=> [st (gT (f2 i))])⟩⟩:Vl))) (m:=(gN n3 fun i=> [st (gT (f3 i))])) (by decide) (by decide) w2)|(have e:=rf_14 (a:=(Vl.of (⟨⟨⟨s1,l1,h1⟩,⟨b1,m1,r1⟩⟩,⟨z1,(gN n1 fun i=> [st (gT (f1 i))])⟩⟩:Vl))) (b:=(Vl.of (⟨⟨⟨s2,l2,h2⟩,⟨b2,m2,r2⟩⟩,⟨z2,(gN n2 fun i=> [st (gT (f2 i))])⟩⟩:Vl))) (m:=(gN n3 fun i=> [st (gT (f3 i))])) w1 w2)|skip
     all_goals repeat' (first|exact trivial|(with_reducible first|exact hp0|exact hp3|exact hp3.1|exact o1|exact o2|exact o1.2|exact o2.2|exact o1.2.1|exact o1.2.2|exact o2.2.1|exact o2.2.2|exact o1.1.1|exact o2.1.1|exact hp1|exact hp1.1|exact hp1.2|exact hp1.2.1|exact hp1.2.2|exact hp1.1.1|exact hp2|exact hp2.1|exact hp2.2|exact hp2.2.1|exact hp2.2.2|exact hp2.1.1|exact (fun h:false=true=>absurd h (by decide))|exact (fun h:true=false=>absurd h (by decide))|exact (fun h:(!false)=false=>absurd h (by decide))|exact (fun h:(!true)=true=>absurd h (by decide))|exact (fun h:(!false)=false=>absurd h (by decide))|exact (fun h:(!true)=true=>absurd h (by decide))|exact hmA|exact hmB|exact (fun h=>absurd (v1.symm.trans h) (by decide))|exact (fun h=>absurd (v2.symm.trans h) (by decide))|exact (fun h=>absurd ((congrArg Bool.not v1).symm.trans h) (by decide))|exact (fun h=>absurd ((congrArg Bool.not v2).symm.trans h) (by decide))|exact (fun h=>absurd h (by decide)))|refine ⟨?_, ?_⟩|intro _)
     all_goals first|(with_reducible first|apply qa|apply qb|apply qc|apply qd)|(conv=>whnf)
     all_goals first|((with_reducible show ASat _ _ _ _ _);refine draw_plan tys_ok (l:=sl6W) sp6W (by kernel_rfl) pl5W (by kernel_rfl) ?_)|skip
     all_goals repeat' (first|exact trivial|(with_reducible first|exact hp0|exact hp3|exact hp3.1|exact o1|exact o2|exact o1.2|exact o2.2|exact o1.2.1|exact o1.2.2|exact o2.2.1|exact o2.2.2|exact o1.1.1|exact o2.1.1|exact hp1|exact hp1.1|exact hp1.2|exact hp1.2.1|exact hp1.2.2|exact hp1.1.1|exact hp2|exact hp2.1|exact hp2.2|exact hp2.2.1|exact hp2.2.2|exact hp2.1.1|exact (fun h:false=true=>absurd h (by decide))|exact (fun h:true=false=>absurd h (by decide))|exact (fun h:(!false)=false=>absurd h (by decide))|exact (fun h:(!true)=true=>absurd h (by decide))|exact (fun h:(!false)=false=>absurd h (by decide))|exact (fun h:(!true)=true=>absurd h (by decide))|exact hmA|exact hmB|exact (fun h=>absurd (v1.symm.trans h) (by decide))|exact (fun h=>absurd (v2.symm.trans h) (by decide))|exact (fun h=>absurd ((congrArg Bool.not v1).symm.trans h) (by decide))|exact (fun h=>absurd ((congrArg Bool.not v2).symm.trans h) (by decide))|exact (fun h=>absurd h (by decide)))|refine ⟨?_, ?_⟩|intro _)
     all_goals first|(with_reducible first|apply qa|apply qb|apply qc|apply qd)|(conv=>whnf)
     all_goals first|((with_reducible show ASat _ _ _ _ _);refine draw_plan tys_ok (l:=sl6W) sp6W (by kernel_rfl) pl5W (by kernel_rfl) ?_)|skip
     all_goals repeat' (first|exact trivial|(with_reducible first|exact hp0|exact hp3|exact hp3.1|exact o1|exact o2|exact o1.2|exact o2.2|exact o1.2.1|exact o1.2.2|exact o2.2.1|exact o2.2.2|exact o1.1.1|exact o2.1.1|exact hp1|exact hp1.1|exact hp1.2|exact hp1.2.1|exact hp1.2.2|exact hp1.1.1|exact hp2|exact hp2.1|exact hp2.2|exact hp2.2.1|exact hp2.2.2|exact hp2.1.1|exact (fun h:false=true=>absurd h (by decide))|exact (fun h:true=false=>absurd h (by decide))|exact (fun h:(!false)=false=>absurd h (by decide))|exact (fun h:(!true)=true=>absurd h (by decide))|exact (fun h:(!false)=false=>absurd h (by decide))|exact (fun h:(!true)=true=>absurd h (by decide))|exact hmA|exact hmB|exact (fun h=>absurd (v1.symm.trans h) (by decide))|exact (fun h=>absurd (v2.symm.trans h) (by decide))|exact (fun h=>absurd ((congrArg Bool.not v1).symm.trans h) (by decide))|exact (fun h=>absurd ((congrArg Bool.not v2).symm.trans h) (by decide))|exact (fun h=>absurd h (by decide)))|refine ⟨?_, ?_⟩|intro _)
     all_goals first|(with_reducible first|apply qa|apply qb|apply qc|apply qd)|(conv=>whnf)
     all_goals (try simp only [gN_lst] at*)
     all_goals first|(with_reducible rfl)|decide|exact o1.1.1|exact o2.1.1|(intro _ _;exact rfl)|exact rfl|(rw [e.1];done)|(rw [e.1];rfl)|(rw [e.2];done)|(rw [e.2];rfl)
   . all_goals first|(cases v1:(!(Vl.of (⟨⟨⟨s1,l1,h1⟩,⟨b1,m1,r1⟩⟩,⟨z1,(gN n1 fun i=> [st (gT (f1 i))])⟩⟩:Vl)).t.null&&decide (gN (Vl.of (⟨⟨⟨s1,l1,h1⟩,⟨b1,m1,r1⟩⟩,⟨z1,(gN n1 fun i=> [st (gT (f1 i))])⟩⟩:Vl)).t.names.length (fun i=> [st (atS (Vl.of (⟨⟨⟨s1,l1,h1⟩,⟨b1,m1,r1⟩⟩,⟨z1,(gN n1 fun i=> [st (gT (f1 i))])⟩⟩:Vl)).t.names i)])= [])))|skip
     all_goals first|(have _:=(show _=false from v1);cases v2:(!(Vl.of (⟨⟨⟨s2,l2,h2⟩,⟨b2,m2,r2⟩⟩,⟨z2,(gN n2 fun i=> [st (gT (f2 i))])⟩⟩:Vl)).t.null&&decide (gN (Vl.of (⟨⟨⟨s2,l2,h2⟩,⟨b2,m2,r2⟩⟩,⟨z2,(gN n2 fun i=> [st (gT (f2 i))])⟩⟩:Vl)).t.names.length (fun i=> [st (atS (Vl.of (⟨⟨⟨s2,l2,h2⟩,⟨b2,m2,r2⟩⟩,⟨z2,(gN n2 fun i=> [st (gT (f2 i))])⟩⟩:Vl)).t.names i)])= [])))|skip
     all_goals (try (have w1:=v1;rw [gN_lst] at w1))
     all_goals (try (have w2:=v2;rw [gN_lst] at w2))
     all_goals first|(have e:=rf_n1 (op:=15) (a:=(Vl.of (⟨⟨⟨s1,l1,h1⟩,⟨b1,m1,r1⟩⟩,⟨z1,(gN n1 fun i=> [st (gT (f1 i))])⟩⟩:Vl))) (b:=(Vl.of (⟨⟨⟨s2,l2,h2⟩,⟨b2,m2,r2⟩⟩,⟨z2,(gN n2 fun i=> [st (gT (f2 i))])⟩⟩:Vl))) (m:=(gN n3 fun i=> [st (gT (f3 i))])) (by decide) (by decide) w1)|(have e:=rf_n2 (op:=15) (a:=(Vl.of (⟨⟨⟨s1,l1,h1⟩,⟨b1,m1,r1⟩⟩,⟨z1,(gN n1 fun i=> [st (gT (f1 i))])⟩⟩:Vl))) (b:=(Vl.of (⟨⟨⟨s2,l2,h2⟩,⟨b2,m2,r2⟩⟩,⟨z2,(gN n2 fun i=> [st (gT (f2 i))])⟩⟩:Vl))) (m:=(gN n3 fun i=> [st (gT (f3 i))])) (by decide) (by decide) w2)|(have e:=rf_15 (a:=(Vl.of (⟨⟨⟨s1,l1,h1⟩,⟨b1,m1,r1⟩⟩,⟨z1,(gN n1 fun i=> [st (gT (f1 i))])⟩⟩:Vl))) (b:=(Vl.of (⟨⟨⟨s2,l2,h2⟩,⟨b2,m2,r2⟩⟩,⟨z2,(gN n2 fun i=> [st (gT (f2 i))])⟩⟩:Vl))) (m:=(gN n3 fun i=> [st (gT (f3 i))])) w1 w2)|skip
     all_goals repeat' (first|exact trivial|(with_reducible first|exact hp0|exact hp3|exact hp3.1|exact o1|exact o2|exact o1.2|exact o2.2|exact o1.2.1|exact o1.2.2|exact o2.2.1|exact o2.2.2|exact o1.1.1|exact o2.1.1|exact hp1|exact hp1.1|exact hp1.2|exact hp1.2.1|exact hp1.2.2|exact hp1.1.1|exact hp2|exact hp2.1|exact hp2.2|exact hp2.2.1|exact hp2.2.2|exact hp2.1.1|exact (fun h:false=true=>absurd h (by decide))|exact (fun h:true=false=>absurd h (by decide))|exact (fun h:(!false)=false=>absurd h (by decide))|exact (fun h:(!true)=true=>absurd h (by decide))|exact (fun h:(!false)=false=>absurd h (by decide))|exact (fun h:(!true)=true=>absurd h (by decide))|exact hmA|exact hmB|exact (fun h=>absurd (v1.symm.trans h) (by decide))|exact (fun h=>absurd (v2.symm.trans h) (by decide))|exact (fun h=>absurd ((congrArg Bool.not v1).symm.trans h) (by decide))|exact (fun h=>absurd ((congrArg Bool.not v2).symm.trans h) (by decide))|exact (fun h=>absurd h (by decide)))|refine ⟨?_, ?_⟩|intro _)
     all_goals first|(with_reducible first|apply qa|apply qb|apply qc|apply qd)|(conv=>whnf)
     all_goals first|((with_reducible show ASat _ _ _ _ _);refine draw_plan tys_ok (l:=sl6W) sp6W (by kernel_rfl) pl5W (by kernel_rfl) ?_)|skip
     all_goals repeat' (first|exact trivial|(with_reducible first|exact hp0|exact hp3|exact hp3.1|exact o1|exact o2|exact o1.2|exact o2.2|exact o1.2.1|exact o1.2.2|exact o2.2.1|exact o2.2.2|exact o1.1.1|exact o2.1.1|exact hp1|exact hp1.1|exact hp1.2|exact hp1.2.1|exact hp1.2.2|exact hp1.1.1|exact hp2|exact hp2.1|exact hp2.2|exact hp2.2.1|exact hp2.2.2|exact hp2.1.1|exact (fun h:false=true=>absurd h (by decide))|exact (fun h:true=false=>absurd h (by decide))|exact (fun h:(!false)=false=>absurd h (by decide))|exact (fun h:(!true)=true=>absurd h (by decide))|exact (fun h:(!false)=false=>absurd h (by decide))|exact (fun h:(!true)=true=>absurd h (by decide))|exact hmA|exact hmB|exact (fun h=>absurd (v1.symm.trans h) (by decide))|exact (fun h=>absurd (v2.symm.trans h) (by decide))|exact (fun h=>absurd ((congrArg Bool.not v1).symm.trans h) (by decide))|exact (fun h=>absurd ((congrArg Bool.not v2).symm.trans h) (by decide))|exact (fun h=>absurd h (by decide)))|refine ⟨?_, ?_⟩|intro _)
     all_goals first|(with_reducible first|apply qa|apply qb|apply qc|apply qd)|(conv=>whnf)
     all_goals first|((with_reducible show ASat _ _ _ _ _);refine draw_plan tys_ok (l:=sl6W) sp6W (by kernel_rfl) pl5W (by kernel_rfl) ?_)|skip
     all_goals repeat' (first|exact trivial|(with_reducible first|exact hp0|exact hp3|exact hp3.1|exact o1|exact o2|exact o1.2|exact o2.2|exact o1.2.1|exact o1.2.2|exact o2.2.1|exact o2.2.2|exact o1.1.1|exact o2.1.1|exact hp1|exact hp1.1|exact hp1.2|exact hp1.2.1|exact hp1.2.2|exact hp1.1.1|exact hp2|exact hp2.1|exact hp2.2|exact hp2.2.1|exact hp2.2.2|exact hp2.1.1|exact (fun h:false=true=>absurd h (by decide))|exact (fun h:true=false=>absurd h (by decide))|exact (fun h:(!false)=false=>absurd h (by decide))|exact (fun h:(!true)=true=>absurd h (by decide))|exact (fun h:(!false)=false=>absurd h (by decide))|exact (fun h:(!true)=true=>absurd h (by decide))|exact hmA|exact hmB|exact (fun h=>absurd (v1.symm.trans h) (by decide))|exact (fun h=>absurd (v2.symm.trans h) (by decide))|exact (fun h=>absurd ((congrArg Bool.not v1).symm.trans h) (by decide))|exact (fun h=>absurd ((congrArg Bool.not v2).symm.trans h) (by decide))|exact (fun h=>absurd h (by decide)))|refine ⟨?_, ?_⟩|intro _)
     all_goals first|(with_reducible first|apply qa|apply qb|apply qc|apply qd)|(conv=>whnf)
     all_goals (try simp only [gN_lst] at*)
     all_goals first|(with_reducible rfl)|decide|exact o1.1.1|exact o2.1.1|(intro _ _;exact rfl)|exact rfl|(rw [e.1];done)|(rw [e.1];rfl)|(rw [e.2];done)|(rw [e.2];rfl)
 . cases h
end Go.Proofs.YtehpbhpmkhlldaaGreat
