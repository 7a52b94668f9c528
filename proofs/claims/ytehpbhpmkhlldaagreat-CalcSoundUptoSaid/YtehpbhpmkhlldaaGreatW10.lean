/- What the rest of the layer of names, and its reference, compute. No condition. -/
import Derived.Test.YtehpbhpmkhlldaaGreatW9
set_option linter.all false
set_option maxHeartbeats 8000000
set_option maxRecDepth 100000
namespace Go.Proofs.YtehpbhpmkhlldaaGreat
open Go.Sx
def meetS (l m:List ByteArray):List ByteArray:=l.filter fun x=>memS x m
theorem meet_add (i:Nat) (f:Nat->List DV) (m:List ByteArray):meetS (gN (i+1) f) m=if memS (gT (f i)) m=true then meetS (gN i f) m++ [gT (f i)] else meetS (gN i f) m:=by
 unfold meetS;rw [gN_add,List.filter_append]
 split<;>rename_i h<;>simp [h]
theorem meet_len (n:Nat) (f:Nat->List DV) (m:List ByteArray):(meetS (gN n f) m).length<=n:=by
 have:=List.length_filter_le (fun x=>memS x m) (gN n f)
 rw [gN_length] at this;exact this
theorem none_key {b0:Bool} {n:Nat} {f:Nat->List DV} (h:(!b0)=true):Value.bool ((n:Int)==0)=Value.bool (!b0&&decide (gN n f= [])):=by
 rw [h,Bool.true_and]
 refine congrArg Value.bool (Bool.eq_iff_iff.2 ?_)
 rw [beq_iff_eq,decide_eq_true_eq, <-List.length_eq_zero_iff,gN_length];omega
def FNJoin:List Ar->Option Rs
 | [.agg [.d (.v (.bool b0)),.d (.lst 1 n0 f0)],.agg [.d (.v (.bool b1)),.d (.lst 1 n1 f1)]]=>some ⟨(n0*16<=140737488351232/\ ∀i,i<n0->f0 i= [st (gT (f0 i))])/\ (n1*16<=140737488351232/\ ∀i,i<n1->f1 i= [st (gT (f1 i))])/\ ((n0+n1)*16<=140737488351232),.va (Ns.ar (⟨b0||b1,ofS (gN n0 f0++gN n1 f1)⟩)),[]⟩
 |_=>none
theorem fcNJoin:FC Tryz.prog 36 FNJoin:=by
 intro xs pre r us h hp
 unfold FNJoin at h
 split at h
 . rename_i b0 n0 f0 b1 n1 f1
   cases h
   obtain ⟨hp0,hp1,hp2⟩:=hp
   refine FCat.of_eq (as':= [.agg [.d (.v (.bool b0)),.d (.lst 1 n0 fun i=> [st (gT (f0 i))])],.agg [.d (.v (.bool b1)),.d (.lst 1 n1 fun i=> [st (gT (f1 i))])]]) ?_ rfl rfl ?_
   . repeat' (first|exact trivial|exact rfl|refine ⟨?_, ?_⟩|fail)
     all_goals first|exact hp0.2|exact hp1.2|exact hp2.2|(intro i hi;exact (hp0.2 i hi).1)|(intro i hi;exact (hp1.2 i hi).1)|(intro i hi;exact (hp2.2 i hi).1)|grind
   refine fcat tys_ok (l:= [(92,⟨[],FNConcat⟩),(91,⟨[],FNOf⟩)]) ⟨fcNConcat,fcNOf,trivial⟩ Tryz.func36 rfl (by kernel_rfl) true ?_
   repeat' (first|exact trivial|refine ⟨?_, ?_⟩|intro _)
   all_goals first|(with_reducible first|apply qa|apply qb|apply qc|apply qd)|(conv=>whnf)
   all_goals first|(with_reducible exact hp2)|rfl|skip
   all_goals (try subst ‹b0=_›)
   all_goals (try simp only [gN_lst] at*)
   all_goals first|rfl|(exact hp2)|(show ((gN n0 f0++gN n1 f1).length)*16<=_;rw [List.length_append,gN_length,gN_length];exact hp2)
 . cases h
def FNSame:List Ar->Option Rs
 | [.agg [.d (.v (.bool b0)),.d (.lst 1 n0 f0)],.agg [.d (.v (.bool b1)),.d (.lst 1 n1 f1)]]=>some ⟨(n0*16<=140737488351232/\ ∀i,i<n0->f0 i= [st (gT (f0 i))])/\ (n1*16<=140737488351232/\ ∀i,i<n1->f1 i= [st (gT (f1 i))]),.va (.c (.d (bo (((!b0||b1)&&subS (gN n0 f0) (gN n1 f1))&&((!b1||b0)&&subS (gN n1 f1) (gN n0 f0)))))),[]⟩
 |_=>none
theorem fcNSame:FC Tryz.prog 75 FNSame:=by
 intro xs pre r us h hp
 unfold FNSame at h
 split at h
 . rename_i b0 n0 f0 b1 n1 f1
   cases h
   obtain ⟨hp0,hp1⟩:=hp
   refine FCat.of_eq (as':= [.agg [.d (.v (.bool b0)),.d (.lst 1 n0 fun i=> [st (gT (f0 i))])],.agg [.d (.v (.bool b1)),.d (.lst 1 n1 fun i=> [st (gT (f1 i))])]]) ?_ rfl rfl ?_
   . repeat' (first|exact trivial|exact rfl|refine ⟨?_, ?_⟩|fail)
     all_goals first|exact hp0.2|exact hp1.2|exact hp2.2|(intro i hi;exact (hp0.2 i hi).1)|(intro i hi;exact (hp1.2 i hi).1)|(intro i hi;exact (hp2.2 i hi).1)|grind
   refine fcat tys_ok (l:= [(46,⟨[],FNLeq⟩)]) ⟨fcNLeq,trivial⟩ Tryz.func75 rfl (by kernel_rfl) false ?_
   repeat' (first|exact trivial|refine ⟨?_, ?_⟩|intro _)
   all_goals first|(with_reducible first|apply qa|apply qb|apply qc|apply qd)|(conv=>whnf)
   all_goals first|rfl|exact hp0.1|exact hp1.1|skip
   all_goals (try simp only [gN_canon] at*)
   all_goals first|rfl|(simp only [*,Bool.true_and,Bool.false_and,Bool.and_true,Bool.and_false];done)|(simp_all;done)
 . cases h
def FNNone:List Ar->Option Rs
 | [.agg [.d (.v (.bool b0)),.d (.lst 1 n0 f0)]]=>some ⟨(n0*16<=140737488351232/\ ∀i,i<n0->f0 i= [st (gT (f0 i))]),.va (.c (.d (bo (!b0&&decide (gN n0 f0= []))))),[]⟩
 |_=>none
theorem fcNNone:FC Tryz.prog 73 FNNone:=by
 intro xs pre r us h hp
 unfold FNNone at h
 split at h
 . rename_i b0 n0 f0
   cases h
   have hp0:=hp
   refine FCat.of_eq (as':= [.agg [.d (.v (.bool b0)),.d (.lst 1 n0 fun i=> [st (gT (f0 i))])]]) ?_ rfl rfl ?_
   . repeat' (first|exact trivial|exact rfl|refine ⟨?_, ?_⟩|fail)
     all_goals first|exact hp0.2|exact hp1.2|exact hp2.2|(intro i hi;exact (hp0.2 i hi).1)|(intro i hi;exact (hp1.2 i hi).1)|(intro i hi;exact (hp2.2 i hi).1)|grind
   refine fcat tys_ok (l:= []) trivial Tryz.func73 rfl (by kernel_rfl) false ?_
   repeat' (first|exact trivial|refine ⟨?_, ?_⟩|intro _)
   all_goals first|(with_reducible first|apply qa|apply qb|apply qc|apply qd)|(conv=>whnf)
   all_goals first|(exact none_key ‹_›)|(rw [‹(!b0)=false›];rfl)
 . cases h
def FNMeet:List Ar->Option Rs
 | [.agg [.d (.v (.bool b0)),.d (.lst 1 n0 f0)],.agg [.d (.v (.bool b1)),.d (.lst 1 n1 f1)]]=>some ⟨(n0*16<=140737488351232/\ ∀i,i<n0->f0 i= [st (gT (f0 i))])/\ (n1*16<=140737488351232/\ ∀i,i<n1->f1 i= [st (gT (f1 i))]),.va (Ns.ar (⟨b0&&b1,ofS (meetS (gN n0 f0) (gN n1 f1))⟩)),[]⟩
 |_=>none
theorem fcNMeet:FC Tryz.prog 41 FNMeet:=by
 intro xs pre r us h hp
 unfold FNMeet at h
 split at h
 . rename_i b0 n0 f0 b1 n1 f1
   cases h
   obtain ⟨hp0,hp1⟩:=hp
   refine FCat.of_eq (as':= [.agg [.d (.v (.bool b0)),.d (.lst 1 n0 fun i=> [st (gT (f0 i))])],.agg [.d (.v (.bool b1)),.d (.lst 1 n1 fun i=> [st (gT (f1 i))])]]) ?_ rfl rfl ?_
   . repeat' (first|exact trivial|exact rfl|refine ⟨?_, ?_⟩|fail)
     all_goals first|exact hp0.2|exact hp1.2|exact hp2.2|(intro i hi;exact (hp0.2 i hi).1)|(intro i hi;exact (hp1.2 i hi).1)|(intro i hi;exact (hp2.2 i hi).1)|grind
   refine fcat tys_ok (l:= [(97,⟨[],FNContains⟩),(91,⟨[],FNOf⟩)]) ⟨fcNContains,fcNOf,trivial⟩ Tryz.func41 rfl (by kernel_rfl) true ?_
   repeat' (first|exact trivial|refine ⟨?_, ?_⟩|intro _)
   all_goals first|(with_reducible first|apply qa|apply qb|apply qc|apply qd)|(conv=>whnf)
   refine loop_ids tys_ok (l:= [(97,⟨[],FNContains⟩),(91,⟨[],FNOf⟩)]) ⟨fcNContains,fcNOf,trivial⟩ (by kernel_rfl) (X:=Nat×List ByteArray)
    (fun x=>⟨[(11,vx (.int .i64 x.1)),(10,vx (.int .i64 n0)),(9,.va (.c (.d (.lst 1 n0 fun i=> [st (gT (f0 i))])))),(5,.va (.c (.osl 3 1 0 x.2.length))),(2,.va (.c (.own 0 0))),(3,.va (.c (.own 1 0))),(4,.va (.c (.own 2 0)))],
     [(3,.row 1 x.2.length fun j=> [st (atS x.2 j)]),(0,.cells [.d (bo b0),.d (.lst 1 n0 fun i=> [st (gT (f0 i))])]),(1,.cells [.d (bo b1),.d (.lst 1 n1 fun i=> [st (gT (f1 i))])]),(2,.cells [.d (bo false),.d (.v (.slice none 0 0))])],4,32⟩)
    (fun x=>n0-x.1) (fun x=>x.1<=n0/\ x.2=meetS (gN x.1 f0) (gN n1 f1)) [5] []
    (fun x _ _=>(x.1+1,meetS (gN (x.1+1) f0) (gN n1 f1))) (fun xs=>match xs with| [t]=> [0,1,2,oI t]|_=> []) [0,1,2] 0 1 (0,[]) ?_ ?_ ?_
   . exact ⟨Nat.zero_le _,rfl⟩
   . repeat' (first|exact trivial|exact rfl|(intro _ h;exact absurd h (Nat.not_lt_zero _))|(intro _ _;exact rfl)|refine ⟨?_, ?_⟩|fail)
     all_goals decide
   . rintro ⟨i,l⟩ ⟨k1,k2⟩
     dsimp only at k1 k2
     have k3:=meet_len i f0 (gN n1 f1)
     rw [<-k2] at k3
     repeat' (first|exact trivial|refine ⟨?_, ?_⟩|intro _)
     all_goals first|(with_reducible first|apply qa|apply qb|apply qc|apply qd)|(conv=>whnf)
     all_goals (try simp only [Int.toNat_natCast,decide_eq_true_eq,decide_eq_false_iff_not,seq_iff,gN_canon] at*)
     all_goals first|omega|((with_reducible show idsOk _ _=true);rfl)|((with_reducible show Value.int _ _=Value.int _ _);rw [wI_id _ (by omega) (by omega)];rfl)|rfl|(with_reducible exact hp1.1)|(simp;done)|skip
     all_goals first|(rw [meet_add,if_pos ‹memS _ _=true›, <-k2];first|(simp;done)|(exact appRow_snoc rfl (fun _ _=>rfl) rfl _ ‹_›))|(rw [meet_add,if_neg (by rw [‹memS _ _=false›];decide), <-k2];done)|(rw [meet_add,if_neg (by rw [‹memS _ _=false›];decide), <-k2];rfl)|skip
     all_goals (have hi:i=n0:=by omega)
     all_goals (subst hi;try simp only [Nat.zero_add,gN_lst])
     all_goals first|(rw [k2];done)|(rw [‹b0=true›];rfl)|(rw [‹b0=false›];rfl)
 . cases h
theorem gcdJ_lt {x y:Cg} (h: ¬Cg.gcdJ x y>9223372036854775807):Cg.gcdJ x y<9223372036854775808:=by omega
theorem Cg.join_inR {a b:Cg} (ha:a.inR) (hb:b.inR):(Cg.join a b).inR:=by
 have h1:=Cg.clean_inR ha
 have h2:=Cg.clean_inR hb
 unfold Cg.join;split
 . exact h2
 . split
   . exact h1
   . split
     . unfold Cg.of Cg.inR md;decide
     . rename_i h
       exact Cg.of_inR _ _ (by have:0<=Cg.gcdJ a.clean b.clean:=by unfold Cg.gcdJ;omega
                               omega) (gcdJ_lt h) h1.2.1 h1.2.2
namespace Vl
def join (a b:Vl):Vl:=⟨⟨a.of.i.s.join b.of.i.s,a.of.i.c.join b.of.i.c⟩,⟨a.t.null||b.t.null,ofS (ofS a.t.names++ofS b.t.names)⟩⟩
def widen (a b:Vl) (l:List Int):Vl:=⟨⟨a.of.i.s.widen b.of.i.s l,a.of.i.c.join b.of.i.c⟩,⟨a.t.null||b.t.null,ofS (ofS a.t.names++ofS b.t.names)⟩⟩
def none (v:Vl):Bool:=v.of.i.none&&(!v.t.null&&decide (ofS v.t.names= []))
def zero:Vl:=⟨Ig.zero,⟨false,[]⟩⟩
def narrow (a b:Vl):Vl:=if !leq b a then a.of else if none b then zero else ⟨Ig.clean ⟨a.of.i.s.narrow b.of.i.s,if Cg.eq a.of.i.c (Cg.of 1 0) then b.of.i.c else a.of.i.c⟩,a.of.t⟩
def same (a b:Vl):Bool:=(Sp.eq a.of.i.s b.of.i.s&&Cg.eq a.of.i.c b.of.i.c)&&(((!a.t.null||b.t.null)&&subS (ofS a.t.names) (ofS b.t.names))&&((!b.t.null||a.t.null)&&subS (ofS b.t.names) (ofS a.t.names)))
def rjoin (a b:Vl):Vl:=⟨⟨a.rclean.i.s.join b.rclean.i.s,a.rclean.i.c.join b.rclean.i.c⟩,⟨a.t.null||b.t.null,cleanS (cleanS a.t.names++cleanS b.t.names)⟩⟩
def rwiden (a b:Vl) (l:List Int):Vl:=⟨⟨a.rclean.i.s.widen b.rclean.i.s l,(rjoin a.rclean b.rclean).i.c⟩,(rjoin a.rclean b.rclean).t⟩
def rleq (a b:Vl):Bool:=(a.rclean.i.s.leq b.rclean.i.s&&a.rclean.i.c.leq b.rclean.i.c)&&((!a.t.null||b.t.null)&&subS (cleanS a.t.names) (cleanS b.t.names))
def rnone (v:Vl):Bool:= !v.rclean.i.s.some&&decide (((cleanS (cleanS v.t.names)).length:Int)+(if v.t.null then 1 else 0)=0)
def rnarrow (a b:Vl):Vl:=if !rleq b.rclean a.rclean then a.rclean else if rnone b.rclean then zero else rclean ⟨⟨a.rclean.i.s.narrow b.rclean.i.s,if a.rclean.i.c.m=1 then b.rclean.i.c else a.rclean.i.c⟩,a.rclean.t⟩
end Vl
theorem none_t {v:Vl} (h:v.of.i.none=true):Value.bool (!v.t.null&&decide (ofS v.t.names= []))=Value.bool v.none:=by unfold Vl.none;rw [h];rfl
theorem none_f {v:Vl} (h:v.of.i.none=false):Value.bool false=Value.bool v.none:=by unfold Vl.none;rw [h];rfl
theorem same_c {a b:Vl}:((a.of.i.s.some==b.of.i.s.some&&(a.of.i.s.lo==b.of.i.s.lo&&(a.of.i.s.hi==b.of.i.s.hi&&true)))&&((a.of.i.c.some==b.of.i.c.some&&(a.of.i.c.m==b.of.i.c.m&&(a.of.i.c.r==b.of.i.c.r&&true)))&&true))=(Sp.eq a.of.i.s b.of.i.s&&Cg.eq a.of.i.c b.of.i.c):=by simp [Sp.eq,Cg.eq]
theorem same_t {a b:Vl} (h:((a.of.i.s.some==b.of.i.s.some&&(a.of.i.s.lo==b.of.i.s.lo&&(a.of.i.s.hi==b.of.i.s.hi&&true)))&&((a.of.i.c.some==b.of.i.c.some&&(a.of.i.c.m==b.of.i.c.m&&(a.of.i.c.r==b.of.i.c.r&&true)))&&true))=true):Value.bool (((!a.of.t.null||b.of.t.null)&&subS a.of.t.names b.of.t.names)&&((!b.of.t.null||a.of.t.null)&&subS b.of.t.names a.of.t.names))=Value.bool (Vl.same a b):=by
 rw [same_c] at h;unfold Vl.same;rw [h];rfl
theorem same_f {a b:Vl} (h:((a.of.i.s.some==b.of.i.s.some&&(a.of.i.s.lo==b.of.i.s.lo&&(a.of.i.s.hi==b.of.i.s.hi&&true)))&&((a.of.i.c.some==b.of.i.c.some&&(a.of.i.c.m==b.of.i.c.m&&(a.of.i.c.r==b.of.i.c.r&&true)))&&true))=false):Value.bool false=Value.bool (Vl.same a b):=by
 rw [same_c] at h;unfold Vl.same;rw [h];rfl
theorem okV_of {v:Vl} (h:okV v):okV v.of:=by
 have h1:=Ig.clean_inR h.2.1 h.2.2
 have h2:=ofS_len v.t.names
 exact ⟨⟨by show (ofS v.t.names).length*16<=140737488351232;have:=h.1.1;omega,fun _ _=>rfl⟩,h1⟩
def FVJoin:List Ar->Option Rs
 | [.agg [.d (.v (.bool s0)),.d (.v (.int .i64 l0)),.d (.v (.int .i64 h0)),.d (.v (.bool b0)),.d (.v (.int .i64 m0)),.d (.v (.int .i64 r0)),.d (.v (.bool z0)),.d (.lst 1 n0 f0)],.agg [.d (.v (.bool s1)),.d (.v (.int .i64 l1)),.d (.v (.int .i64 h1)),.d (.v (.bool b1)),.d (.v (.int .i64 m1)),.d (.v (.int .i64 r1)),.d (.v (.bool z1)),.d (.lst 1 n1 f1)]]=>some ⟨((n0*16<=140737488351232/\ ∀i,i<n0->f0 i= [st (gT (f0 i))])/\ Sp.inR ⟨s0,l0,h0⟩/\ Cg.inR ⟨b0,m0,r0⟩)/\ ((n1*16<=140737488351232/\ ∀i,i<n1->f1 i= [st (gT (f1 i))])/\ Sp.inR ⟨s1,l1,h1⟩/\ Cg.inR ⟨b1,m1,r1⟩)/\ ((n0+n1)*16<=140737488351232),.va (Vl.ar (Vl.join (⟨⟨⟨s0,l0,h0⟩,⟨b0,m0,r0⟩⟩,⟨z0,gN n0 f0⟩⟩:Vl) (⟨⟨⟨s1,l1,h1⟩,⟨b1,m1,r1⟩⟩,⟨z1,gN n1 f1⟩⟩:Vl))),[]⟩
 |_=>none
theorem fcVJoin:FC Tryz.prog 7 FVJoin:=by
 intro xs pre r us h hp
 unfold FVJoin at h
 split at h
 . rename_i s0 l0 h0 b0 m0 r0 z0 n0 f0 s1 l1 h1 b1 m1 r1 z1 n1 f1
   cases h
   obtain ⟨hp0,hp1,hp2⟩:=hp
   refine FCat.of_eq (as':= [.agg [.d (.v (.bool s0)),.d (.v (.int .i64 l0)),.d (.v (.int .i64 h0)),.d (.v (.bool b0)),.d (.v (.int .i64 m0)),.d (.v (.int .i64 r0)),.d (.v (.bool z0)),.d (.lst 1 n0 fun i=> [st (gT (f0 i))])],.agg [.d (.v (.bool s1)),.d (.v (.int .i64 l1)),.d (.v (.int .i64 h1)),.d (.v (.bool b1)),.d (.v (.int .i64 m1)),.d (.v (.int .i64 r1)),.d (.v (.bool z1)),.d (.lst 1 n1 fun i=> [st (gT (f1 i))])]]) ?_ rfl rfl ?_
   . repeat' (first|exact trivial|exact rfl|refine ⟨?_, ?_⟩|fail)
     all_goals first|exact hp0.2|exact hp1.2|exact hp2.2|(intro i hi;exact (hp0.2 i hi).1)|(intro i hi;exact (hp1.2 i hi).1)|(intro i hi;exact (hp2.2 i hi).1)|grind
   refine fcat tys_ok (l:= [(33,⟨[],FVOf⟩),(34,⟨[],FSJoin⟩),(35,⟨[],FCJoin⟩),(36,⟨[],FNJoin⟩),(37,⟨[],FVValue⟩)]) ⟨fcVOf,fcSJoin,fcCJoin,fcNJoin,fcVValue,trivial⟩ Tryz.func7 rfl (by kernel_rfl) true ?_
   have hv0:okV (⟨⟨⟨s0,l0,h0⟩,⟨b0,m0,r0⟩⟩,⟨z0,gN n0 fun i=> [st (gT (f0 i))]⟩⟩:Vl):=⟨⟨(by rw [gN_length];exact hp0.1.1),fun _ _=>rfl⟩,hp0.2⟩
   have hv1:okV (⟨⟨⟨s1,l1,h1⟩,⟨b1,m1,r1⟩⟩,⟨z1,gN n1 fun i=> [st (gT (f1 i))]⟩⟩:Vl):=⟨⟨(by rw [gN_length];exact hp1.1.1),fun _ _=>rfl⟩,hp1.2⟩
   have ho0:=okV_of hv0
   have ho1:=okV_of hv1
   have hoo0:=okV_of ho0
   have hoo1:=okV_of ho1
   have hl0:(Vl.of (⟨⟨⟨s0,l0,h0⟩,⟨b0,m0,r0⟩⟩,⟨z0,gN n0 fun i=> [st (gT (f0 i))]⟩⟩:Vl)).t.names.length<=n0:=by have:=ofS_len (gN n0 f0);rw [gN_length] at this;exact this
   have hl1:(Vl.of (⟨⟨⟨s1,l1,h1⟩,⟨b1,m1,r1⟩⟩,⟨z1,gN n1 fun i=> [st (gT (f1 i))]⟩⟩:Vl)).t.names.length<=n1:=by have:=ofS_len (gN n1 f1);rw [gN_length] at this;exact this
   have hsj:=Sp.join_inR ho0.2.1 ho1.2.1
   have hcj:=Cg.join_inR ho0.2.2 ho1.2.2
   have hsum:((Vl.of (⟨⟨⟨s0,l0,h0⟩,⟨b0,m0,r0⟩⟩,⟨z0,gN n0 fun i=> [st (gT (f0 i))]⟩⟩:Vl)).t.names.length+(Vl.of (⟨⟨⟨s1,l1,h1⟩,⟨b1,m1,r1⟩⟩,⟨z1,gN n1 fun i=> [st (gT (f1 i))]⟩⟩:Vl)).t.names.length)*16<=140737488351232:=by have:=hp2;omega
   have hjl:(ofS ((Vl.of (⟨⟨⟨s0,l0,h0⟩,⟨b0,m0,r0⟩⟩,⟨z0,gN n0 fun i=> [st (gT (f0 i))]⟩⟩:Vl)).t.names++(Vl.of (⟨⟨⟨s1,l1,h1⟩,⟨b1,m1,r1⟩⟩,⟨z1,gN n1 fun i=> [st (gT (f1 i))]⟩⟩:Vl)).t.names)).length*16<=140737488351232:=by have:=ofS_len ((Vl.of (⟨⟨⟨s0,l0,h0⟩,⟨b0,m0,r0⟩⟩,⟨z0,gN n0 fun i=> [st (gT (f0 i))]⟩⟩:Vl)).t.names++(Vl.of (⟨⟨⟨s1,l1,h1⟩,⟨b1,m1,r1⟩⟩,⟨z1,gN n1 fun i=> [st (gT (f1 i))]⟩⟩:Vl)).t.names);rw [List.length_append] at this;omega
   unfold okV at ho0 ho1 hoo0 hoo1
   repeat' (first|exact trivial|(with_reducible first|exact ho0|exact ho1|exact ho0.1|exact ho1.1|exact ho0.2.1|exact ho0.2.2|exact ho1.2.1|exact ho1.2.2|exact hp0.1|exact hp1.1|exact hp0.2.1|exact hp0.2.2|exact hp1.2.1|exact hp1.2.2|exact hp0|exact hp1|exact hsj|exact hcj)|refine ⟨?_, ?_⟩|intro _)
   all_goals first|(with_reducible first|apply qa|apply qb|apply qc|apply qd)|(conv=>whnf)
   all_goals (try simp only [gN_lst] at*)
   all_goals first|rfl|(with_reducible first|exact hp0.1.1|exact hp1.1.1)|exact hsum|exact hjl
 . cases h
def FVSame:List Ar->Option Rs
 | [.agg [.d (.v (.bool s0)),.d (.v (.int .i64 l0)),.d (.v (.int .i64 h0)),.d (.v (.bool b0)),.d (.v (.int .i64 m0)),.d (.v (.int .i64 r0)),.d (.v (.bool z0)),.d (.lst 1 n0 f0)],.agg [.d (.v (.bool s1)),.d (.v (.int .i64 l1)),.d (.v (.int .i64 h1)),.d (.v (.bool b1)),.d (.v (.int .i64 m1)),.d (.v (.int .i64 r1)),.d (.v (.bool z1)),.d (.lst 1 n1 f1)]]=>some ⟨((n0*16<=140737488351232/\ ∀i,i<n0->f0 i= [st (gT (f0 i))])/\ Sp.inR ⟨s0,l0,h0⟩/\ Cg.inR ⟨b0,m0,r0⟩)/\ ((n1*16<=140737488351232/\ ∀i,i<n1->f1 i= [st (gT (f1 i))])/\ Sp.inR ⟨s1,l1,h1⟩/\ Cg.inR ⟨b1,m1,r1⟩),.va (.c (.d (bo (Vl.same (⟨⟨⟨s0,l0,h0⟩,⟨b0,m0,r0⟩⟩,⟨z0,gN n0 f0⟩⟩:Vl) (⟨⟨⟨s1,l1,h1⟩,⟨b1,m1,r1⟩⟩,⟨z1,gN n1 f1⟩⟩:Vl))))),[]⟩
 |_=>none
theorem fcVSame:FC Tryz.prog 28 FVSame:=by
 intro xs pre r us h hp
 unfold FVSame at h
 split at h
 . rename_i s0 l0 h0 b0 m0 r0 z0 n0 f0 s1 l1 h1 b1 m1 r1 z1 n1 f1
   cases h
   obtain ⟨hp0,hp1⟩:=hp
   refine FCat.of_eq (as':= [.agg [.d (.v (.bool s0)),.d (.v (.int .i64 l0)),.d (.v (.int .i64 h0)),.d (.v (.bool b0)),.d (.v (.int .i64 m0)),.d (.v (.int .i64 r0)),.d (.v (.bool z0)),.d (.lst 1 n0 fun i=> [st (gT (f0 i))])],.agg [.d (.v (.bool s1)),.d (.v (.int .i64 l1)),.d (.v (.int .i64 h1)),.d (.v (.bool b1)),.d (.v (.int .i64 m1)),.d (.v (.int .i64 r1)),.d (.v (.bool z1)),.d (.lst 1 n1 fun i=> [st (gT (f1 i))])]]) ?_ rfl rfl ?_
   . repeat' (first|exact trivial|exact rfl|refine ⟨?_, ?_⟩|fail)
     all_goals first|exact hp0.2|exact hp1.2|exact hp2.2|(intro i hi;exact (hp0.2 i hi).1)|(intro i hi;exact (hp1.2 i hi).1)|(intro i hi;exact (hp2.2 i hi).1)|grind
   refine fcat tys_ok (l:= [(33,⟨[],FVOf⟩),(75,⟨[],FNSame⟩)]) ⟨fcVOf,fcNSame,trivial⟩ Tryz.func28 rfl (by kernel_rfl) true ?_
   have hv0:okV (⟨⟨⟨s0,l0,h0⟩,⟨b0,m0,r0⟩⟩,⟨z0,gN n0 fun i=> [st (gT (f0 i))]⟩⟩:Vl):=⟨⟨(by rw [gN_length];exact hp0.1.1),fun _ _=>rfl⟩,hp0.2⟩
   have hv1:okV (⟨⟨⟨s1,l1,h1⟩,⟨b1,m1,r1⟩⟩,⟨z1,gN n1 fun i=> [st (gT (f1 i))]⟩⟩:Vl):=⟨⟨(by rw [gN_length];exact hp1.1.1),fun _ _=>rfl⟩,hp1.2⟩
   have ho0:=okV_of hv0
   have ho1:=okV_of hv1
   have hoo0:=okV_of ho0
   have hoo1:=okV_of ho1
   have hl0:(Vl.of (⟨⟨⟨s0,l0,h0⟩,⟨b0,m0,r0⟩⟩,⟨z0,gN n0 fun i=> [st (gT (f0 i))]⟩⟩:Vl)).t.names.length<=n0:=by have:=ofS_len (gN n0 f0);rw [gN_length] at this;exact this
   have hl1:(Vl.of (⟨⟨⟨s1,l1,h1⟩,⟨b1,m1,r1⟩⟩,⟨z1,gN n1 fun i=> [st (gT (f1 i))]⟩⟩:Vl)).t.names.length<=n1:=by have:=ofS_len (gN n1 f1);rw [gN_length] at this;exact this
   have hsj:=Sp.join_inR ho0.2.1 ho1.2.1
   have hcj:=Cg.join_inR ho0.2.2 ho1.2.2
   unfold okV at ho0 ho1 hoo0 hoo1
   repeat' (first|exact trivial|(with_reducible first|exact ho0|exact ho1|exact ho0.1|exact ho1.1|exact ho0.2.1|exact ho0.2.2|exact ho1.2.1|exact ho1.2.2|exact hp0.1|exact hp1.1|exact hp0.2.1|exact hp0.2.2|exact hp1.2.1|exact hp1.2.2|exact hp0|exact hp1|exact hsj|exact hcj)|refine ⟨?_, ?_⟩|intro _)
   all_goals first|(with_reducible first|apply qa|apply qb|apply qc|apply qd)|(conv=>whnf)
   all_goals (try simp only [gN_lst] at*)
   all_goals first|rfl|(with_reducible first|exact hp0.1.1|exact hp1.1.1)|exact same_t (a:=(⟨⟨⟨s0,l0,h0⟩,⟨b0,m0,r0⟩⟩,⟨z0,gN n0 fun i=> [st (gT (f0 i))]⟩⟩:Vl)) (b:=(⟨⟨⟨s1,l1,h1⟩,⟨b1,m1,r1⟩⟩,⟨z1,gN n1 fun i=> [st (gT (f1 i))]⟩⟩:Vl)) ‹_›|exact same_f (a:=(⟨⟨⟨s0,l0,h0⟩,⟨b0,m0,r0⟩⟩,⟨z0,gN n0 fun i=> [st (gT (f0 i))]⟩⟩:Vl)) (b:=(⟨⟨⟨s1,l1,h1⟩,⟨b1,m1,r1⟩⟩,⟨z1,gN n1 fun i=> [st (gT (f1 i))]⟩⟩:Vl)) ‹_›
 . cases h
def FVNoneV:List Ar->Option Rs
 | [.agg [.d (.v (.bool s0)),.d (.v (.int .i64 l0)),.d (.v (.int .i64 h0)),.d (.v (.bool b0)),.d (.v (.int .i64 m0)),.d (.v (.int .i64 r0)),.d (.v (.bool z0)),.d (.lst 1 n0 f0)]]=>some ⟨((n0*16<=140737488351232/\ ∀i,i<n0->f0 i= [st (gT (f0 i))])/\ Sp.inR ⟨s0,l0,h0⟩/\ Cg.inR ⟨b0,m0,r0⟩),.va (.c (.d (bo (Vl.none (⟨⟨⟨s0,l0,h0⟩,⟨b0,m0,r0⟩⟩,⟨z0,gN n0 f0⟩⟩:Vl))))),[]⟩
 |_=>none
theorem fcVNoneV:FC Tryz.prog 29 FVNoneV:=by
 intro xs pre r us h hp
 unfold FVNoneV at h
 split at h
 . rename_i s0 l0 h0 b0 m0 r0 z0 n0 f0
   cases h
   have hp0:=hp
   refine FCat.of_eq (as':= [.agg [.d (.v (.bool s0)),.d (.v (.int .i64 l0)),.d (.v (.int .i64 h0)),.d (.v (.bool b0)),.d (.v (.int .i64 m0)),.d (.v (.int .i64 r0)),.d (.v (.bool z0)),.d (.lst 1 n0 fun i=> [st (gT (f0 i))])]]) ?_ rfl rfl ?_
   . repeat' (first|exact trivial|exact rfl|refine ⟨?_, ?_⟩|fail)
     all_goals first|exact hp0.2|exact hp1.2|exact hp2.2|(intro i hi;exact (hp0.2 i hi).1)|(intro i hi;exact (hp1.2 i hi).1)|(intro i hi;exact (hp2.2 i hi).1)|grind
   refine fcat tys_ok (l:= [(33,⟨[],FVOf⟩),(76,⟨[],FVNone⟩),(73,⟨[],FNNone⟩)]) ⟨fcVOf,fcVNone,fcNNone,trivial⟩ Tryz.func29 rfl (by kernel_rfl) true ?_
   have hv0:okV (⟨⟨⟨s0,l0,h0⟩,⟨b0,m0,r0⟩⟩,⟨z0,gN n0 fun i=> [st (gT (f0 i))]⟩⟩:Vl):=⟨⟨(by rw [gN_length];exact hp0.1.1),fun _ _=>rfl⟩,hp0.2⟩
   have ho0:=okV_of hv0
   unfold okV at ho0
   repeat' (first|exact trivial|(with_reducible first|exact ho0|exact ho0.1|exact ho0.2.1|exact ho0.2.2|exact hp0|exact hp0.1|exact hp0.2|exact hp0.2.1|exact hp0.2.2)|refine ⟨?_, ?_⟩|intro _)
   all_goals first|(with_reducible first|apply qa|apply qb|apply qc|apply qd)|(conv=>whnf)
   all_goals (try simp only [gN_lst] at*)
   all_goals first|rfl|exact none_t ‹_›|exact none_f ‹_›|(with_reducible exact hp0.1.1)
 . cases h
theorem ig_clean2 (i:Ig):i.clean.clean=i.clean:=tidy_fix (clean_tidy i)
theorem rclean2 (v:Vl):v.rclean.rclean=v.rclean:=by
 unfold Vl.rclean;rw [ig_clean2,cleanS_idem]
theorem widen_eq (a b:Vl) (l:List Int):Vl.widen a b l=Vl.rwiden a b l:=by
 unfold Vl.widen Vl.rwiden Vl.rjoin
 rw [rclean2,rclean2,of_rclean,of_rclean]
 simp only [Vl.rclean,ofS_eq,cleanS_idem]
theorem leq_eq (a b:Vl):Vl.leq a b=Vl.rleq a.rclean b.rclean:=by
 unfold Vl.leq Vl.rleq Ig.leq
 rw [rclean2,rclean2,of_rclean,of_rclean]
 simp only [Vl.rclean,ofS_eq,cleanS_idem]
theorem tidy_none {i:Ig} (h:i.tidy):i.none= !i.s.some:=by
 unfold Ig.none Sp.none
 rcases h with rfl|⟨⟨h1,h2⟩,h3,_⟩
 . rfl
 . rw [h1,h2];simp;omega
theorem none_eq (b:Vl):Vl.none b=Vl.rnone b.rclean:=by
 unfold Vl.none Vl.rnone
 rw [rclean2,of_rclean,tidy_none (i:=b.rclean.i) (clean_tidy b.i)]
 congr 1
 simp only [Vl.rclean,ofS_eq,cleanS_idem]
 have key: ∀(x:Bool) (l:List ByteArray),(!x&&decide (l= []))=decide ((l.length:Int)+(if x=true then 1 else 0)=0):=by
  intro x l
  cases x
  . simp
  . simp;omega
 exact key _ _
theorem tidy_all {i:Ig} (h:i.tidy):Cg.eq i.c (Cg.of 1 0)=decide (i.c.m=1):=by
 have e:Cg.of 1 0=⟨true,1,0⟩:=rfl
 rw [e];unfold Cg.eq
 rcases h with rfl|⟨⟨h1,h2⟩,h3,h4⟩
 . rfl
 . rw [h2,Bool.eq_iff_iff]
   simp only [Bool.and_eq_true,beq_iff_eq,decide_eq_true_eq,true_and]
   constructor
   . exact fun h=>h.1
   . intro h
     have:=h4.2 (by omega)
     omega
theorem narrow_eq (a b:Vl):Vl.narrow a b=Vl.rnarrow a b:=by
 unfold Vl.narrow Vl.rnarrow
 rw [leq_eq,none_eq,of_rclean,of_rclean,tidy_all (i:=a.rclean.i) (clean_tidy a.i)]
 split
 . rfl
 . split
   . rfl
   . simp only [decide_eq_true_eq]
     unfold Vl.rclean
     simp only [cleanS_idem]
theorem w1 (a b:Vl) (l:List Int):Vl.exact (Vl.widen a b l) (Vl.rwiden a b l)=true:=by rw [widen_eq];exact exact_refl _
theorem w2 (a b:Vl):Vl.exact (Vl.narrow a b) (Vl.rnarrow a b)=true:=by rw [narrow_eq];exact exact_refl _
namespace Sp
end Sp
def Cg.tidy (c:Cg):Prop:=c=Cg.none \/(c.some=true/\ c.red)
theorem Cg.tidy_fix {c:Cg} (h:c.tidy):c.clean=c:=by
 rcases h with rfl|⟨h1,h2⟩
 . rfl
 . exact cg_fix h1 h2
theorem gcdJ_dvd {x y:Cg}:Cg.gcdJ x y∣x.m/\ Cg.gcdJ x y∣y.m/\ Cg.gcdJ x y∣apartI x.r y.r:=by
 unfold Cg.gcdJ
 refine ⟨Int.dvd_trans (Int.gcd_dvd_left _ _) (Int.gcd_dvd_left _ _),Int.dvd_trans (Int.gcd_dvd_left _ _) (Int.gcd_dvd_right _ _),Int.gcd_dvd_right _ _⟩
theorem apart_dvd {g a b:Int} (h:g∣apartI a b):g∣a-b:=by
 unfold apartI at h
 split at h
 . exact h
 . rw [<-Int.neg_sub,Int.dvd_neg];exact h
theorem gcdJ_nn (x y:Cg):0<=Cg.gcdJ x y:=by unfold Cg.gcdJ;omega
theorem gcdJ_zero {x y:Cg} (h:Cg.gcdJ x y=0):x.m=0/\ y.m=0/\ x.r=y.r:=by
 have:=gcdJ_dvd (x:=x) (y:=y)
 rw [h] at this
 obtain ⟨h1,h2,h3⟩:=this
 rw [Int.zero_dvd] at h1 h2
 have h4:=apart_dvd h3
 rw [Int.zero_dvd] at h4
 exact ⟨h1,h2,by omega⟩
theorem md_dvd {a b g:Int} (hg:0<g) (h:g∣a-b):md a g=md b g:=by
 unfold md
 rw [if_neg (by omega),if_neg (by omega)]
 exact Int.emod_eq_emod_iff_emod_sub_eq_zero.2 (Int.emod_eq_zero_of_dvd h)
theorem join_some {a b:Cg} (ha:a.some=true) (hb:b.some=true) (ra:a.red) (rb:b.red):Cg.join a b=if Cg.gcdJ a b>9223372036854775807 then ⟨true,1,0⟩ else ⟨true,Cg.gcdJ a b,md a.r (Cg.gcdJ a b)⟩:=by
 unfold Cg.join
 rw [cg_fix ha ra,cg_fix hb rb,ha,hb]
 have:=gcdJ_nn a b
 simp only [Bool.not_true,Bool.false_eq_true,if_false]
 split
 . rfl
 . unfold Cg.of;rw [if_neg (by omega)]
theorem join_no1 {a b:Cg} (ha:a=Cg.none) (hb:b.tidy):Cg.join a b=b:=by
 subst ha
 have:(!Cg.none.clean.some)=true:=rfl
 unfold Cg.join;rw [if_pos this,Cg.tidy_fix hb]
theorem join_no2 {a b:Cg} (ha:a.tidy) (hs:a.some=true) (hb:b=Cg.none):Cg.join a b=a:=by
 subst hb
 unfold Cg.join;rw [Cg.tidy_fix ha,hs];rfl
theorem join_tidy {a b:Cg} (ha:a.tidy) (hb:b.tidy):(Cg.join a b).tidy:=by
 rcases ha with ha|⟨h1,h2⟩
 . rw [join_no1 ha hb];exact hb
 . rcases hb with hb|⟨h3,h4⟩
   . rw [join_no2 (.inr ⟨h1,h2⟩) h1 hb];exact .inr ⟨h1,h2⟩
   . rw [join_some h1 h3 h2 h4]
     have:=gcdJ_nn a b
     split
     . right;refine ⟨rfl, ?_⟩;unfold Cg.red;dsimp only;omega
     . right;refine ⟨rfl, ?_⟩;unfold Cg.red;dsimp only
       exact ⟨this,fun h=>md_bound _ _ h⟩
theorem has_t {c:Cg} (h:c.tidy) (hs:c.some=true) (n:Int):c.has n=decide (md n c.m=c.r):=by
 unfold Cg.has;rw [Cg.tidy_fix h,hs];rfl
theorem cleq_t {a b:Cg} (ha:a.tidy) (hb:b.tidy) (hs:a.some=true) (ht:b.some=true):Cg.leq a b=(Cg.factor b.m a.m&&decide (md a.r b.m=b.r)):=by
 unfold Cg.leq;rw [Cg.tidy_fix ha,Cg.tidy_fix hb,hs,ht,has_t hb ht];rfl
theorem leq_no {a b:Cg} (ha:a=Cg.none):Cg.leq a b=true:=by subst ha;unfold Cg.leq;rfl
theorem leq_self {a:Cg} (ha:a.tidy):Cg.leq a a=true:=by
 rcases ha with h|⟨h1,h2⟩
 . exact leq_no h
 . rw [cleq_t (.inr ⟨h1,h2⟩) (.inr ⟨h1,h2⟩) h1 h1]
   unfold Cg.red at h2
   have e:md a.r a.m=a.r:=by
    unfold md;split
    . rfl
    . exact Int.emod_eq_of_lt (h2.2 (by omega)).1 (h2.2 (by omega)).2
   rw [e];unfold Cg.factor;split<;>simp_all
theorem fac_g {g m:Int} (h:g∣m) (h0:g=0->m=0):Cg.factor g m=true:=by
 unfold Cg.factor;split
 . rename_i e;simp [h0 e]
 . simp [Int.emod_eq_zero_of_dvd h]
theorem cg_join_leq {a b:Cg} (ha:a.tidy) (hb:b.tidy):Cg.leq a (Cg.join a b)=true/\ Cg.leq b (Cg.join a b)=true:=by
 have hj:=join_tidy ha hb
 rcases ha with h|⟨h1,h2⟩
 . rw [join_no1 h hb];exact ⟨leq_no h,leq_self hb⟩
 . rcases hb with h|⟨h3,h4⟩
   . rw [join_no2 (.inr ⟨h1,h2⟩) h1 h];exact ⟨leq_self (.inr ⟨h1,h2⟩),leq_no h⟩
   . have e:=join_some h1 h3 h2 h4
     have hd:=gcdJ_dvd (x:=a) (y:=b)
     have h0:=gcdJ_zero (x:=a) (y:=b)
     have hn:=gcdJ_nn a b
     have ha':a.tidy:= .inr ⟨h1,h2⟩
     have hb':b.tidy:= .inr ⟨h3,h4⟩
     have hs:(Cg.join a b).some=true:=by rw [e];split<;>rfl
     rw [cleq_t ha' hj h1 hs,cleq_t hb' hj h3 hs,e]
     split
     . have m1: ∀x:Int,md x 1=0:=fun x=>by unfold md;rw [if_neg (by omega)];exact Int.emod_one x
       dsimp only
       rw [m1,m1,fac_g (Int.one_dvd _) (by omega),fac_g (Int.one_dvd _) (by omega)];simp
     . dsimp only
       rw [fac_g hd.1 (fun h=>(h0 h).1),fac_g hd.2.1 (fun h=>(h0 h).2.1)]
       have:md b.r (Cg.gcdJ a b)=md a.r (Cg.gcdJ a b):=by
        rcases Int.lt_or_eq_of_le hn with h|h
        . exact (md_dvd h (apart_dvd hd.2.2)).symm
        . rw [(h0 h.symm).2.2]
       rw [this];simp
theorem tidy_c {i:Ig} (h:i.tidy):i.c.tidy:=by
 rcases h with rfl|⟨⟨_,h2⟩,_,h4⟩
 . exact .inl rfl
 . exact .inr ⟨h2,h4⟩
theorem of_told {v:Vl} (h:v.i.tidy) (hs:Srt v.t.names):v.of=v:=by
 unfold Vl.of;rw [tidy_fix h,ofS_eq,cleanS_fix hs]
namespace Sp
theorem l3_join1 (a b:Sp):leq a (join a b)=true:=by grind [leq,join,none,has,clean,of]
end Sp
theorem l3_fac {g m:Int}:Cg.factor g m=true↔g∣m:=by
 unfold Cg.factor
 split
 . rename_i h;subst h;rw [decide_eq_true_eq,Int.zero_dvd]
 . rw [decide_eq_true_eq];exact (Int.dvd_iff_emod_eq_zero).symm
theorem l3_md {n m r:Int} (h0:0<=m) (h:0<m->0<=r/\ r<m):md n m=r↔m∣n-r:=by
 rcases Int.lt_or_eq_of_le h0 with hm|hm
 . obtain ⟨h1,h2⟩:=h hm
   rw [md_eq0 hm h1 h2];exact (Int.dvd_iff_emod_eq_zero).symm
 . subst hm;unfold md;rw [if_pos (Int.le_refl _),Int.zero_dvd];omega
namespace Cg
theorem leq_iff {a b:Cg} (ha:a.tidy) (hb:b.tidy):Cg.leq a b=true↔(a.some=true->b.some=true/\ b.m∣a.m/\ b.m∣a.r-b.r):=by
 rcases ha with h|⟨h1,h2⟩
 . rw [leq_no h];subst h;simp [Cg.none]
 . rcases hb with h|⟨h3,h4⟩
   . subst h
     have:Cg.leq a Cg.none=false:=by
      unfold Cg.leq;rw [Cg.tidy_fix (.inr ⟨h1,h2⟩),h1];rfl
     rw [this,h1];simp [Cg.none]
   . rw [cleq_t (.inr ⟨h1,h2⟩) (.inr ⟨h3,h4⟩) h1 h3,Bool.and_eq_true,decide_eq_true_eq,l3_fac]
     unfold Cg.red at h4
     rw [l3_md (by omega) h4.2]
     simp [h1,h3]
theorem gcdJ_comm (a b:Cg):Cg.gcdJ a b=Cg.gcdJ b a:=by
 unfold Cg.gcdJ
 rw [Int.gcd_comm a.m b.m]
 congr 2
 unfold apartI
 split<;>split<;>omega
theorem l3_comm {a b:Cg} (ha:a.tidy) (hb:b.tidy):Cg.join a b=Cg.join b a:=by
 rcases ha with h|⟨h1,h2⟩
 . rw [join_no1 h hb]
   rcases hb with h'|⟨h3,h4⟩
   . rw [h,h',join_no1 rfl (.inl rfl)]
   . rw [join_no2 (.inr ⟨h3,h4⟩) h3 h]
 . rcases hb with h'|⟨h3,h4⟩
   . rw [join_no2 (.inr ⟨h1,h2⟩) h1 h',join_no1 h' (.inr ⟨h1,h2⟩)]
   . rw [join_some h1 h3 h2 h4,join_some h3 h1 h4 h2,gcdJ_comm b a]
     have hd:=gcdJ_dvd (x:=a) (y:=b)
     have h0:=gcdJ_zero (x:=a) (y:=b)
     have hn:=gcdJ_nn a b
     have:md b.r (Cg.gcdJ a b)=md a.r (Cg.gcdJ a b):=by
      rcases Int.lt_or_eq_of_le hn with h|h
      . exact (md_dvd h (apart_dvd hd.2.2)).symm
      . rw [(h0 h.symm).2.2]
     rw [this]
end Cg
structure Vl.tidy (v:Vl):Prop where
 i:v.i.tidy
 t:Srt v.t.names
theorem Vl.of_tidy (v:Vl):v.of.tidy:=⟨by rw [of_rclean];exact clean_tidy v.i,by rw [of_rclean];exact cleanS_srt _⟩
theorem Vl.of_fix {v:Vl} (h:v.tidy):v.of=v:=of_told h.i h.t
theorem Vl.of_of (v:Vl):v.of.of=v.of:=Vl.of_fix (Vl.of_tidy v)
theorem Vl.leq_iff {a b:Vl} (ha:a.tidy) (hb:b.tidy):Vl.leq a b=true↔a.i.s.leq b.i.s=true/\ a.i.c.leq b.i.c=true/\ (a.t.null=true->b.t.null=true)/\ ∀z,z∈a.t.names->z∈b.t.names:=by
 unfold Vl.leq Ig.leq
 rw [Vl.of_fix ha,Vl.of_fix hb,ofS_eq,ofS_eq,cleanS_fix ha.t,cleanS_fix hb.t]
 simp only [Bool.and_eq_true,subS_iff,Bool.or_eq_true,Bool.not_eq_true',and_assoc]
 cases a.t.null<;>simp
theorem Vl.leq_of (a b:Vl):Vl.leq a.of b.of=Vl.leq a b:=by
 unfold Vl.leq
 have e: ∀v:Vl,v.of.t.null=v.t.null:=fun v=>by rw [of_rclean];rfl
 have e2: ∀v:Vl,ofS v.of.t.names=ofS v.t.names:=fun v=>by rw [of_rclean,ofS_eq,ofS_eq];exact cleanS_idem _
 rw [Vl.of_of,Vl.of_of,e,e,e2,e2]
theorem ig_join_tidy {a b:Ig} (ha:a.tidy) (hb:b.tidy):Ig.tidy ⟨a.s.join b.s,a.c.join b.c⟩:=by
 have hj:=join_tidy (tidy_c ha) (tidy_c hb)
 rcases ha with rfl|⟨⟨a1,a2⟩,a3,a4⟩
 . rcases hb with rfl|⟨⟨b1,b2⟩,b3,b4⟩
   . exact .inl rfl
   . have e:Cg.join Ig.zero.c b.c=b.c:=join_no1 rfl (.inr ⟨b2,b4⟩)
     rw [e]
     obtain ⟨⟨s,l,h⟩,c⟩:=b
     dsimp only at*
     subst b1
     right
     refine ⟨⟨?_,b2⟩, ?_,b4⟩
     . show (Sp.join ⟨false,0,0⟩ ⟨true,l,h⟩).some=true;grind [Sp.join,Sp.none,Sp.clean]
     . show (Sp.join ⟨false,0,0⟩ ⟨true,l,h⟩).lo<=(Sp.join ⟨false,0,0⟩ ⟨true,l,h⟩).hi;grind [Sp.join,Sp.none,Sp.clean]
 . right
   have hs:(a.s.join b.s).some=true/\ (a.s.join b.s).lo<=(a.s.join b.s).hi:=by grind [Sp.join,Sp.none,Sp.clean,Sp.of]
   have hc:(a.c.join b.c).some=true:=by
    rcases hb with rfl|⟨⟨b1,b2⟩,b3,b4⟩
    . have e:Cg.join a.c Ig.zero.c=a.c:=join_no2 (.inr ⟨a2,a4⟩) a2 rfl
      rw [e];exact a2
    . rw [join_some a2 b2 a4 b4];split<;>rfl
   refine ⟨⟨hs.1,hc⟩,hs.2, ?_⟩
   rcases hj with h|⟨_,h⟩
   . rw [h] at hc;cases hc
   . exact h
theorem mem_ofS {l:List ByteArray} {z:ByteArray}:z∈ofS l↔z∈l:=by rw [ofS_eq,cleanS_mem]
theorem srt_ofS (l:List ByteArray):Srt (ofS l):=by rw [ofS_eq];exact cleanS_srt l
theorem of_null (v:Vl):v.of.t.null=v.t.null:=by rw [of_rclean];rfl
theorem of_names (v:Vl):v.of.t.names=ofS v.t.names:=by rw [of_rclean,ofS_eq];rfl
theorem Vl.jn_tidy (a b:Vl):(Vl.join a b).tidy:=⟨ig_join_tidy (Vl.of_tidy a).i (Vl.of_tidy b).i,srt_ofS _⟩
theorem Vl.l3_join1 (a b:Vl):Vl.leq a (Vl.join a b)=true:=by
 rw [<-Vl.leq_of,Vl.of_fix (Vl.jn_tidy a b),Vl.leq_iff (Vl.of_tidy a) (Vl.jn_tidy a b)]
 refine ⟨Sp.l3_join1 _ _,(cg_join_leq (tidy_c (Vl.of_tidy a).i) (tidy_c (Vl.of_tidy b).i)).1, ?_, ?_⟩
 . rw [of_null];intro h;show (a.t.null||b.t.null)=true;rw [h];rfl
 . intro z hz
   rw [of_names] at hz
   exact mem_ofS.2 (List.mem_append_left _ hz)
theorem Vl.l3_comm (a b:Vl):Vl.join a b=Vl.join b a:=by
 unfold Vl.join
 have h1:a.of.i.s.join b.of.i.s=b.of.i.s.join a.of.i.s:=by
  have ha:=(Vl.of_tidy a).i
  have hb:=(Vl.of_tidy b).i
  rcases ha with e|⟨⟨a1,_⟩,a3,_⟩
  . rw [e];rcases hb with e|⟨⟨b1,_⟩,b3,_⟩
    . rw [e]
    . generalize b.of.i.s=y at*;unfold Ig.zero;grind [Sp.join,Sp.none,Sp.clean,Sp.of]
  . rcases hb with e|⟨⟨b1,_⟩,b3,_⟩
    . rw [e];generalize a.of.i.s=y at*;unfold Ig.zero;grind [Sp.join,Sp.none,Sp.clean,Sp.of]
    . generalize a.of.i.s=x at*;generalize b.of.i.s=y at*;grind [Sp.join,Sp.none,Sp.clean,Sp.of]
 have h2:ofS (ofS a.t.names++ofS b.t.names)=ofS (ofS b.t.names++ofS a.t.names):=srt_ext (srt_ofS _) (srt_ofS _) fun z=>by
  rw [mem_ofS,mem_ofS,List.mem_append,List.mem_append];exact Or.comm
 rw [h1,Cg.l3_comm (tidy_c (Vl.of_tidy a).i) (tidy_c (Vl.of_tidy b).i),h2,Bool.or_comm]
theorem Vl.l3_join2 (a b:Vl):Vl.leq b (Vl.join a b)=true:=by rw [Vl.l3_comm];exact Vl.l3_join1 b a
def Vl.inR (v:Vl):Prop:=v.i.s.inR/\ v.i.c.inR
theorem Vl.of_inR {v:Vl} (h:v.inR):v.of.inR:=Ig.clean_inR h.1 h.2
end Go.Proofs.YtehpbhpmkhlldaaGreat
