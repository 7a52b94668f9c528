/- What lives, by short ways. No condition. -/
import Derived.Test.YtokjghkehojenaaGreatP12
set_option linter.all false
set_option maxHeartbeats 8000000
set_option maxRecDepth 100000
namespace Go.Proofs.YtokjghkehojenaaGreat
open Go.Sx
open Go.RowKit Go.Lib Go.Sort
theorem rI_6:rI 6:=⟨by decide,by decide⟩
theorem crn_L:valsW 4 (rwW (crn (exI 10) (⟨true,1,1⟩:Sp) (⟨true,5,5⟩:Sp)))=corners (exI 10) (⟨true,1,1⟩:Sp) (⟨true,5,5⟩:Sp)/\ Wrg 4 (rwW (crn (exI 10) (⟨true,1,1⟩:Sp) (⟨true,5,5⟩:Sp))):=
 rw_vals (ex_rng ⟨by decide,by decide⟩ ⟨by decide,by decide⟩) (ex_rng ⟨by decide,by decide⟩ ⟨by decide,by decide⟩) (ex_rng ⟨by decide,by decide⟩ ⟨by decide,by decide⟩) (ex_rng ⟨by decide,by decide⟩ ⟨by decide,by decide⟩)
theorem aro_L:around (valsW 4 (rwW (crn (exI 10) (⟨true,1,1⟩:Sp) (⟨true,5,5⟩:Sp))))=⟨true,6,6⟩:=by rw [crn_L.1];rfl
def FLReDo:List Ar->Option Rs
 | [.c (.d (.v (.int .i64 i0))),.agg [.d (.v (.bool s1)),.d (.v (.int .i64 l1)),.d (.v (.int .i64 h1))],.agg [.d (.v (.bool s2)),.d (.v (.int .i64 l2)),.d (.v (.int .i64 h2))]]=>some ⟨(-9223372036854775808<=i0/\ i0<9223372036854775808)/\ (Sp.inR ⟨s1,l1,h1⟩)/\ (Sp.inR ⟨s2,l2,h2⟩)/\ (i0=10/\ (⟨s1,l1,h1⟩:Sp)=(⟨true,1,1⟩:Sp)/\ (⟨s2,l2,h2⟩:Sp)=(⟨true,5,5⟩:Sp)),.va (Sp.ar ⟨true,6,6⟩),[]⟩
 |_=>none
theorem fcLReDo:FC Tryz.prog 121 FLReDo:=by
 intro xs pre r us h hp;unfold FLReDo at h;split at h
 . rename_i i0 s1 l1 h1 s2 l2 h2
   cases h;obtain ⟨hp0,hp1,hp2,hp3⟩:=hp
   refine fcat tys_ok (l:= [(34,⟨[],FSNone⟩),(157,⟨[],(FReCornE 10)⟩),(155,⟨[],FReDo1⟩),(156,⟨[],FReAround⟩)]) ⟨fcSNone,(fcReCornE 10),fcReDo1,fcReAround,trivial⟩ Tryz.func121 rfl (by kernel_rfl) true ?_
   obtain ⟨rfl,e1,e2⟩:=hp3
   cases e1;cases e2
   have hO:=hp0
   have hk:=crn_L
   repeat' (first|exact trivial|(with_reducible first|exact hp1|exact hp2|exact hp1.1|exact hp1.2|exact hp2.1|exact hp2.2|exact hO|exact wd_ok _|exact n1|exact n2|exact nd)|refine ⟨?_, ?_⟩|intro _)
   all_goals first|(with_reducible apply qq)|(conv=>whnf)
   all_goals first|decide|(with_reducible rfl)|((with_reducible show Value.bool (Sp.some _)=_);exact congrArg (fun i:Sp=>Value.bool i.some) aro_L)|((with_reducible show Value.int _ (Sp.lo _)=_);exact congrArg (fun i:Sp=>Value.int .i64 i.lo) aro_L)|((with_reducible show Value.int _ (Sp.hi _)=_);exact congrArg (fun i:Sp=>Value.int .i64 i.hi) aro_L)|exact (hk.2 _ ‹_›).1|exact (hk.2 _ ‹_›).2|exact (wok_rw 4 _ _ ‹_›).2.1.1|exact (wok_rw 4 _ _ ‹_›).2.1.2|exact (wok_rw 4 _ _ ‹_›).2.2.1|exact (wok_rw 4 _ _ ‹_›).2.2.2|rfl
 . cases h
def FLRsDo:List Ar->Option Rs
 | [.c (.d (.v (.int .i64 i0))),.agg [.d (.v (.bool b1)),.d (.v (.int .i64 m1)),.d (.v (.int .i64 r1))],.agg [.d (.v (.bool b2)),.d (.v (.int .i64 m2)),.d (.v (.int .i64 r2))],.c (.d (.v (.bool _)))]=>some ⟨(-9223372036854775808<=i0/\ i0<9223372036854775808)/\ (Cg.inR ⟨b1,m1,r1⟩)/\ (Cg.inR ⟨b2,m2,r2⟩)/\ (i0=10/\ (⟨b1,m1,r1⟩:Cg)=(⟨true,0,1⟩:Cg)/\ (⟨b2,m2,r2⟩:Cg)=(⟨true,0,5⟩:Cg)),.va (Cg.ar ⟨true,0,6⟩),[]⟩
 |_=>none
theorem fcLRsDo:FC Tryz.prog 122 FLRsDo:=by
 intro xs pre r us h hp;unfold FLRsDo at h;split at h
 . rename_i i0 b1 m1 r1 b2 m2 r2 b3
   cases h;obtain ⟨hp0,hp1,hp2,hp3⟩:=hp
   refine fcat tys_ok (l:= [(85,⟨[],FCClean⟩),(96,⟨[],FCNone⟩),(161,⟨[],FXDo⟩),(46,⟨[],FCOne⟩)]) ⟨fcCClean,fcCNone,fcXDo,fcCOne,trivial⟩ Tryz.func122 rfl (by kernel_rfl) false ?_
   obtain ⟨rfl,e1,e2⟩:=hp3
   cases e1;cases e2
   repeat' (first|exact trivial|(with_reducible first|assumption|exact n1|exact n2|exact nd)|refine ⟨?_, ?_⟩|intro _)
   all_goals first|(with_reducible apply qq)|(conv=>whnf)
   all_goals first|decide|(with_reducible rfl)|rfl
 . cases h
def FLNum:List Ar->Option Rs
 | [.c (.d (.v (.int .i64 i0))),.agg [.d (.v (.bool s1)),.d (.v (.int .i64 l1)),.d (.v (.int .i64 h1)),.d (.v (.bool b1)),.d (.v (.int .i64 m1)),.d (.v (.int .i64 r1)),.d (.v (.bool _)),.d (.lst 1 n1 f1)],.agg [.d (.v (.bool s2)),.d (.v (.int .i64 l2)),.d (.v (.int .i64 h2)),.d (.v (.bool b2)),.d (.v (.int .i64 m2)),.d (.v (.int .i64 r2)),.d (.v (.bool _)),.d (.lst 1 n2 f2)]]=>some ⟨(-9223372036854775808<=i0/\ i0<9223372036854775808)/\ ((n1*16<=140737488351232/\ ∀i,i<n1->f1 i= [st (gT (f1 i))])/\ Sp.inR ⟨s1,l1,h1⟩/\ Cg.inR ⟨b1,m1,r1⟩)/\ ((n2*16<=140737488351232/\ ∀i,i<n2->f2 i= [st (gT (f2 i))])/\ Sp.inR ⟨s2,l2,h2⟩/\ Cg.inR ⟨b2,m2,r2⟩)/\ (i0=10/\ (⟨⟨s1,l1,h1⟩,⟨b1,m1,r1⟩⟩:Ig)=⟨(⟨true,1,1⟩:Sp),(⟨true,0,1⟩:Cg)⟩/\ (⟨⟨s2,l2,h2⟩,⟨b2,m2,r2⟩⟩:Ig)=⟨(⟨true,5,5⟩:Sp),(⟨true,0,5⟩:Cg)⟩),.va (Vl.ar (N6)),[]⟩
 |_=>none
theorem fcLNum:FC Tryz.prog 83 FLNum:=by
 intro xs pre r us h hp;unfold FLNum at h;split at h
 . rename_i i0 s1 l1 h1 b1 m1 r1 z1 n1 f1 s2 l2 h2 b2 m2 r2 z2 n2 f2
   cases h;obtain ⟨hp0,hp1,hp2,hp3⟩:=hp
   refine FCat.of_eq (as':= [.c (.d (.v (.int .i64 i0))),.agg [.d (.v (.bool s1)),.d (.v (.int .i64 l1)),.d (.v (.int .i64 h1)),.d (.v (.bool b1)),.d (.v (.int .i64 m1)),.d (.v (.int .i64 r1)),.d (.v (.bool z1)),.d (.lst 1 n1 fun i=> [st (gT (f1 i))])],.agg [.d (.v (.bool s2)),.d (.v (.int .i64 l2)),.d (.v (.int .i64 h2)),.d (.v (.bool b2)),.d (.v (.int .i64 m2)),.d (.v (.int .i64 r2)),.d (.v (.bool z2)),.d (.lst 1 n2 fun i=> [st (gT (f2 i))])]]) ?_ rfl rfl ?_
   . repeat' (first|exact trivial|exact rfl|refine ⟨?_, ?_⟩|fail)
     all_goals first|exact hp0.2|exact hp1.2|exact hp2.2|(intro i hi;exact (hp0.2 i hi).1)|(intro i hi;exact (hp1.2 i hi).1)|(intro i hi;exact (hp2.2 i hi).1)|grind
   refine fcat tys_ok (l:= [(113,⟨[],FCInts⟩),(121,⟨[],FLReDo⟩),(122,⟨[],FLRsDo⟩),(114,⟨[],FCWraps⟩),(115,⟨[],FCBothV⟩)]) ⟨fcCInts,fcLReDo,fcLRsDo,fcCWraps,fcCBothV,trivial⟩ Tryz.func83 rfl (by kernel_rfl) true ?_
   obtain ⟨rfl,e1,e2⟩:=hp3
   cases e1;cases e2
   have iA: ∀t,intsB ⟨⟨(⟨true,1,1⟩:Sp),(⟨true,0,1⟩:Cg)⟩,t⟩=true:=fun _=>rfl
   have iB: ∀t,intsB ⟨⟨(⟨true,5,5⟩:Sp),(⟨true,0,5⟩:Cg)⟩,t⟩=true:=fun _=>rfl
   repeat' (first|exact trivial|(with_reducible first|exact hp0|exact hp1|exact hp2|exact hp1.2|exact hp2.2|exact hp1.1.1|exact hp2.1.1|exact n1|exact n2|exact nd|exact (nx (congrArg Bool.not (iA _)))|exact (nx (congrArg Bool.not (iB _))))|refine ⟨?_, ?_⟩|intro _)
   all_goals first|(with_reducible apply qq)|(conv=>whnf)
   all_goals (try simp only [gN_lst,b3] at*)
   all_goals first|decide|(with_reducible rfl)|rfl|exact hp1.1.1|exact hp2.1.1|exact absurd ‹_<_› (Nat.not_lt_zero _)
 . cases h
def FLPtr:List Ar->Option Rs
 | [.c (.d (.v (.int .i64 i0))),.agg [.d (.v (.bool _)),.d (.lst 1 n1 f1)],.agg [.d (.v (.bool _)),.d (.lst 1 n2 f2)],.c (.d (.lst 1 n3 f3))]=>some ⟨(-9223372036854775808<=i0/\ i0<9223372036854775808)/\ (n1*16<=140737488351232/\ ∀i,i<n1->f1 i= [st (gT (f1 i))])/\ (n2*16<=140737488351232/\ ∀i,i<n2->f2 i= [st (gT (f2 i))])/\ (n3*16<=140737488351232/\ ∀i,i<n3->f3 i= [st (gT (f3 i))])/\ (i0=10),.va (Vl.ar (Vl.zero)),[]⟩
 |_=>none
theorem fcLPtr:FC Tryz.prog 84 FLPtr:=by
 intro xs pre r us h hp;unfold FLPtr at h;split at h
 . rename_i i0 b1 n1 f1 b2 n2 f2 n3 f3
   cases h;obtain ⟨hp0,hp1,hp2,hp3,hp4⟩:=hp
   refine FCat.of_eq (as':= [.c (.d (.v (.int .i64 i0))),.agg [.d (.v (.bool b1)),.d (.lst 1 n1 fun i=> [st (gT (f1 i))])],.agg [.d (.v (.bool b2)),.d (.lst 1 n2 fun i=> [st (gT (f2 i))])],.c (.d (.lst 1 n3 fun i=> [st (gT (f3 i))]))]) ?_ rfl rfl ?_
   . repeat' (first|exact trivial|exact rfl|refine ⟨?_, ?_⟩|fail)
     all_goals first|exact hp0.2|exact hp1.2|exact hp2.2|(intro i hi;exact (hp0.2 i hi).1)|(intro i hi;exact (hp1.2 i hi).1)|(intro i hi;exact (hp2.2 i hi).1)|grind
   refine fcat tys_ok (l:= [(123,⟨[],FNNone⟩)]) ⟨fcNNone,trivial⟩ Tryz.func84 rfl (by kernel_rfl) true ?_
   obtain rfl:=hp4
   repeat' (first|exact trivial|(with_reducible first|assumption|exact n1|exact n2|exact nd)|refine ⟨?_, ?_⟩|intro _)
   all_goals first|(with_reducible apply qq)|(conv=>whnf)
   all_goals first|decide|(with_reducible rfl)|rfl|exact hp1.1|exact hp2.1
 . cases h
def FLDo:List Ar->Option Rs
 | [.c (.d (.v (.int .i64 i0))),.agg [.d (.v (.bool s1)),.d (.v (.int .i64 l1)),.d (.v (.int .i64 h1)),.d (.v (.bool b1)),.d (.v (.int .i64 m1)),.d (.v (.int .i64 r1)),.d (.v (.bool z1)),.d (.lst 1 n1 f1)],.agg [.d (.v (.bool s2)),.d (.v (.int .i64 l2)),.d (.v (.int .i64 h2)),.d (.v (.bool b2)),.d (.v (.int .i64 m2)),.d (.v (.int .i64 r2)),.d (.v (.bool z2)),.d (.lst 1 n2 f2)],.c (.d (.lst 1 n3 f3))]=>some ⟨(-9223372036854775808<=i0/\ i0<9223372036854775808)/\ ((n1*16<=140737488351232/\ ∀i,i<n1->f1 i= [st (gT (f1 i))])/\ Sp.inR ⟨s1,l1,h1⟩/\ Cg.inR ⟨b1,m1,r1⟩)/\ ((n2*16<=140737488351232/\ ∀i,i<n2->f2 i= [st (gT (f2 i))])/\ Sp.inR ⟨s2,l2,h2⟩/\ Cg.inR ⟨b2,m2,r2⟩)/\ (n3*16<=140737488351232/\ ∀i,i<n3->f3 i= [st (gT (f3 i))])/\ (i0=10/\ Vl.of (⟨⟨⟨s1,l1,h1⟩,⟨b1,m1,r1⟩⟩,⟨z1,gN n1 f1⟩⟩:Vl)=N1/\ Vl.of (⟨⟨⟨s2,l2,h2⟩,⟨b2,m2,r2⟩⟩,⟨z2,gN n2 f2⟩⟩:Vl)=N5),.va (Vl.ar (N6)),[]⟩
 |_=>none
theorem fcLDo:FC Tryz.prog 44 FLDo:=by
 intro xs pre r us h hp;unfold FLDo at h;split at h
 . rename_i i0 s1 l1 h1 b1 m1 r1 z1 n1 f1 s2 l2 h2 b2 m2 r2 z2 n2 f2 n3 f3
   cases h;obtain ⟨hp0,hp1,hp2,hp3,hp4⟩:=hp
   refine FCat.of_eq (as':= [.c (.d (.v (.int .i64 i0))),.agg [.d (.v (.bool s1)),.d (.v (.int .i64 l1)),.d (.v (.int .i64 h1)),.d (.v (.bool b1)),.d (.v (.int .i64 m1)),.d (.v (.int .i64 r1)),.d (.v (.bool z1)),.d (.lst 1 n1 fun i=> [st (gT (f1 i))])],.agg [.d (.v (.bool s2)),.d (.v (.int .i64 l2)),.d (.v (.int .i64 h2)),.d (.v (.bool b2)),.d (.v (.int .i64 m2)),.d (.v (.int .i64 r2)),.d (.v (.bool z2)),.d (.lst 1 n2 fun i=> [st (gT (f2 i))])],.c (.d (.lst 1 n3 fun i=> [st (gT (f3 i))]))]) ?_ rfl rfl ?_
   . repeat' (first|exact trivial|exact rfl|refine ⟨?_, ?_⟩|fail)
     all_goals first|exact hp0.2|exact hp1.2|exact hp2.2|(intro i hi;exact (hp0.2 i hi).1)|(intro i hi;exact (hp1.2 i hi).1)|(intro i hi;exact (hp2.2 i hi).1)|grind
   refine fcat tys_ok (l:= [(40,⟨[],FVCleanV⟩),(83,⟨[],FLNum⟩),(84,⟨[],FLPtr⟩),(82,⟨[],FVJoin⟩)]) ⟨fcVCleanV,fcLNum,fcLPtr,fcVJoin,trivial⟩ Tryz.func44 rfl (by kernel_rfl) true ?_
   obtain ⟨rfl,eA,eB⟩:=hp4
   have eA':Vl.of (⟨⟨⟨s1,l1,h1⟩,⟨b1,m1,r1⟩⟩,⟨z1,gN n1 fun i=> [st (gT (f1 i))]⟩⟩:Vl)=N1:=by rw [gN_canon];exact eA
   have eB':Vl.of (⟨⟨⟨s2,l2,h2⟩,⟨b2,m2,r2⟩⟩,⟨z2,gN n2 fun i=> [st (gT (f2 i))]⟩⟩:Vl)=N5:=by rw [gN_canon];exact eB
   have o1:=okN rI_1
   have o5:=okN rI_5
   have q1:=hp1.2
   have q2:=hp2.2
   unfold Sp.inR Cg.inR at q1 q2;dsimp only at q1 q2
   repeat' (first|exact trivial|(with_reducible first|assumption|exact n1|exact n2|exact nd)|refine ⟨?_, ?_⟩|intro _)
   all_goals first|(with_reducible apply qq)|(conv=>whnf)
   all_goals (try simp only [eA',eB',gN_lst,b5] at*)
   all_goals first|decide|(with_reducible rfl)|rfl|exact hp1.1.1|exact hp2.1.1|exact hp3.1|exact o1.1.1|omega|exact congrArg (fun v:Vl=>v.t.names.length) b5|(rename_i hi;exact absurd (Nat.lt_of_lt_of_eq hi (congrArg (fun v:Vl=>v.t.names.length) b5)) (Nat.not_lt_zero _))
 . cases h
theorem mLeafV {R:Ro} (hR:R.ok) (s:Se) (n:Int) (x:ByteArray) (k_:Nat) (f_:Nat->List DV) (at_:Int) (hs:okSe R s):Meth Tryz.prog 42 [.c (.own 0 0),.agg [.d (it 2),.d (it n),.d (st x),.d (.lst 5 k_ f_),.d (it at_)]] (HE R s) (vlT (nameS R s x).1) (HE R (nameS R s x).2):=by
 have hG:=rows_okG hR.g
 have hgn:=hR.gn
 have hK:=rows_K s.gets
 have hkl:=okSe_len hs
 have hgg:=gGs_row R.G
 refine meth_of (c:=13) (inl tys_ok (l:= [(28,⟨[],FGlob⟩)]) ⟨fcGlob,trivial⟩ Tryz.func42 rfl (by kernel_rfl) (by kernel_rfl) rfl ?_)
 repeat' (first|exact trivial|(with_reducible first|assumption|exact n1|exact n2|exact nd)|refine ⟨?_, ?_⟩|intro _)
 all_goals first|(with_reducible apply qq)|(conv=>whnf)
 all_goals first|((with_reducible show ACall _ _ 25 _ _ _);refine Meth.go 13 (mName hR s x hkl) rfl rfl rfl rfl rfl rfl ?_ ?_ ?_)|skip
 all_goals repeat' (first|exact trivial|(with_reducible first|assumption|exact n1|exact n2|exact nd)|refine ⟨?_, ?_⟩|intro _)
 all_goals first|(with_reducible apply qq)|(conv=>whnf)
 all_goals first|((with_reducible show Tl _ _);apply tl_intro; · (repeat' (first|exact trivial|refine ⟨?_, ?_⟩|intro _))<;>(first|exact rfl|omega|assumption|(dsimp only;omega)))|skip
 all_goals repeat' (first|exact trivial|(with_reducible first|assumption|exact n1|exact n2|exact nd)|refine ⟨?_, ?_⟩|intro _)
 all_goals first|(with_reducible apply qq)|(conv=>whnf)
 all_goals (try simp only [gGs_row,gN_lst,gN_canon])
 all_goals first|(exact rfl)|(rw [List.length_append];rfl)|(exact row_snocK rfl _ (by assumption))|omega|((with_reducible show idsOk _ _=true);rfl)|(intro _ _;rfl)|exact Nat.zero_le _
theorem mEx0V {R:Ro} (hR:R.ok) (s:Se) (n:Int) (x:ByteArray) (f_:Nat->List DV) (at_:Int) (hs:okSe R s):Meth Tryz.prog 20 [.c (.own 0 0),.agg [.d (it 2),.d (it n),.d (st x),.d (.lst 5 0 f_),.d (it at_)]] (HE R s) (vlT (nameS R s x).1) (HE R (nameS R s x).2):=by
 have ml:=mLeafV hR s n x 0 f_ at_ hs
 have h2:decide (needsI 2<0)=false:=rfl
 have h3:(((0:Nat):Int) !=needsI 2)=false:=rfl
 have h4:(needsI 2==0)=true:=rfl
 refine meth_of (c:=13) (inl tys_ok (l:= [(41,⟨[],FNeeds⟩)]) ⟨fcNeeds,trivial⟩ Tryz.func20 rfl (by kernel_rfl) (by kernel_rfl) rfl ?_)
 repeat' (first|exact trivial|(with_reducible first|assumption|exact n1|exact n2|exact nd|exact nx h2|exact nx h3|exact nx h4)|refine ⟨?_, ?_⟩|intro _)
 all_goals first|(with_reducible apply qq)|(conv=>whnf)
 all_goals first|((with_reducible show ASat _ _ (.loop _) _ _);refine loop_unr tys_ok (l:= [(41,⟨[],FNeeds⟩)]) ⟨fcNeeds,trivial⟩ (by kernel_rfl) 1 ?_)|skip
 all_goals repeat' (first|exact trivial|(with_reducible first|assumption|exact n1|exact n2|exact nd|exact nx h2|exact nx h3|exact nx h4)|refine ⟨?_, ?_⟩|intro _)
 all_goals first|(with_reducible apply qq)|(conv=>whnf)
 all_goals first|((with_reducible show Tl _ _);apply tl_intro; · (repeat' (first|exact trivial|refine ⟨?_, ?_⟩|intro _))<;>(first|exact rfl|omega|assumption|(dsimp only;omega)))|skip
 all_goals repeat' (first|exact trivial|(with_reducible first|assumption|exact n1|exact n2|exact nd|exact nx h2|exact nx h3|exact nx h4)|refine ⟨?_, ?_⟩|intro _)
 all_goals first|(with_reducible apply qq)|(conv=>whnf)
 all_goals first|((with_reducible show ACall _ _ 42 _ _ _);refine Meth.go 13 ml rfl rfl rfl rfl rfl rfl ?_ ?_ ?_)|skip
 all_goals repeat' (first|exact trivial|(with_reducible first|assumption|exact n1|exact n2|exact nd|exact nx h2|exact nx h3|exact nx h4)|refine ⟨?_, ?_⟩|intro _)
 all_goals first|(with_reducible apply qq)|(conv=>whnf)
 all_goals first|((with_reducible show Tl _ _);apply tl_intro; · (repeat' (first|exact trivial|refine ⟨?_, ?_⟩|intro _))<;>(first|exact rfl|omega|assumption|(dsimp only;omega)))|skip
 all_goals repeat' (first|exact trivial|(with_reducible first|assumption|exact n1|exact n2|exact nd|exact nx h2|exact nx h3|exact nx h4)|refine ⟨?_, ?_⟩|intro _)
 all_goals first|(with_reducible apply qq)|(conv=>whnf)
 all_goals (try simp only [gGs_row,gN_lst,gN_canon])
 all_goals first|(exact rfl)|(rw [List.length_append];rfl)|(exact row_snocK rfl _ (by assumption))|omega|((with_reducible show idsOk _ _=true);rfl)|(intro _ _;rfl)|exact Nat.zero_le _|decide
abbrev sl6P:List (Nat×Sm):= [(41,⟨[],FNeeds⟩),(15,⟨[],FArrays⟩),(44,⟨[],FLDo⟩)]
theorem sp6P:sumsOk Tryz.prog sl6P:=⟨fcNeeds,fcArrays,fcLDo,trivial⟩
theorem mAddL {R:Ro} (hR:R.ok) (s S0 S1:Se) (x0 x1:ByteArray) (hs:okSe R s) (hS0:okSe R S0) (e0:nameS R s x0=(N1,S0)) (e1:nameS R S0 x1=(N5,S1)):Meth Tryz.prog 20 [.c (.own 0 0),.agg [.d (it 10),.d (it 0),.d (st ⟨#[]⟩),.d (.lst 5 2 fun j=>match j with|0=>(xpC 2 0 x0 (.v (.slice none 0 0)) 0)|_=>(xpC 2 0 x1 (.v (.slice none 0 0)) 0)),.d (it 0)]] (HE R s) (vlT N6) (HE R S1):=by
 have hm:=mEx0V hR s 0 x0 (fun _=> []) 0 hs
 have hm2:=mEx0V hR S0 0 x1 (fun _=> []) 0 hS0
 rw [e0] at hm;rw [e1] at hm2;have hG:=rows_okG hR.g
 have hgn:=hR.gn
 have hgg:=gGs_row R.G
 have hal:=arrS_len R.G R.G.length
 have o1:=okN rI_1
 have o5:=okN rI_5
 have h2:decide (needsI 10<0)=false:=rfl
 have h3:(((2:Nat):Int) !=needsI 10)=false:=rfl
 have h4:(needsI 10==0)=false:=rfl
 have h5:(needsI 10==1)=false:=rfl
 refine meth_of (c:=13) (inl tys_ok (l:=sl6P) sp6P Tryz.func20 rfl (by kernel_rfl) (by kernel_rfl) rfl ?_)
 repeat' (first|exact trivial|(with_reducible first|assumption|exact n1|exact n2|exact nd|exact nx h2|exact nx h3|exact nx h4|exact nx h5)|refine ⟨?_, ?_⟩|intro _)
 all_goals first|(with_reducible apply qq)|(conv=>whnf)
 all_goals first|((with_reducible show ASat _ _ (.loop _) _ _);refine loop_unr tys_ok (l:=sl6P) sp6P (by kernel_rfl) 3 ?_)|skip
 all_goals repeat' (first|exact trivial|(with_reducible first|assumption|exact n1|exact n2|exact nd|exact nx h2|exact nx h3|exact nx h4|exact nx h5)|refine ⟨?_, ?_⟩|intro _)
 all_goals first|(with_reducible apply qq)|(conv=>whnf)
 all_goals first|((with_reducible show Tl _ _);apply tl_intro; · (repeat' (first|exact trivial|refine ⟨?_, ?_⟩|intro _))<;>(first|exact rfl|omega|assumption|(dsimp only;omega)))|skip
 all_goals repeat' (first|exact trivial|(with_reducible first|assumption|exact n1|exact n2|exact nd|exact nx h2|exact nx h3|exact nx h4|exact nx h5)|refine ⟨?_, ?_⟩|intro _)
 all_goals first|(with_reducible apply qq)|(conv=>whnf)
 all_goals first|((with_reducible show ACall _ _ 20 _ _ _);refine Meth.go 13 hm rfl rfl rfl rfl rfl rfl ?_ ?_ ?_)|skip
 all_goals repeat' (first|exact trivial|(with_reducible first|assumption|exact n1|exact n2|exact nd|exact nx h2|exact nx h3|exact nx h4|exact nx h5)|refine ⟨?_, ?_⟩|intro _)
 all_goals first|(with_reducible apply qq)|(conv=>whnf)
 all_goals first|((with_reducible show Tl _ _);apply tl_intro; · (repeat' (first|exact trivial|refine ⟨?_, ?_⟩|intro _))<;>(first|exact rfl|omega|assumption|(dsimp only;omega)))|skip
 all_goals repeat' (first|exact trivial|(with_reducible first|assumption|exact n1|exact n2|exact nd|exact nx h2|exact nx h3|exact nx h4|exact nx h5)|refine ⟨?_, ?_⟩|intro _)
 all_goals first|(with_reducible apply qq)|(conv=>whnf)
 all_goals first|((with_reducible show ACall _ _ 20 _ _ _);refine Meth.go 13 hm2 rfl rfl rfl rfl rfl rfl ?_ ?_ ?_)|skip
 all_goals repeat' (first|exact trivial|(with_reducible first|assumption|exact n1|exact n2|exact nd|exact nx h2|exact nx h3|exact nx h4|exact nx h5)|refine ⟨?_, ?_⟩|intro _)
 all_goals first|(with_reducible apply qq)|(conv=>whnf)
 all_goals first|((with_reducible show Tl _ _);apply tl_intro; · (repeat' (first|exact trivial|refine ⟨?_, ?_⟩|intro _))<;>(first|exact rfl|omega|assumption|(dsimp only;omega)))|skip
 all_goals repeat' (first|exact trivial|(with_reducible first|assumption|exact n1|exact n2|exact nd|exact nx h2|exact nx h3|exact nx h4|exact nx h5)|refine ⟨?_, ?_⟩|intro _)
 all_goals first|(with_reducible apply qq)|(conv=>whnf)
 all_goals first|((with_reducible show ASat _ _ (.region 15 _ _) _ _);refine draw_sto tys_ok (l:=sl6P) sp6P (by kernel_rfl) 13 [] (.all [(13,.done)]) [0,1,3,4,5,6,7,8,20,23,24,25,26,36,37,42] (by kernel_rfl) (by kernel_rfl) ?_)|skip
 all_goals repeat' (first|exact trivial|(with_reducible first|assumption|exact n1|exact n2|exact nd|exact nx h2|exact nx h3|exact nx h4|exact nx h5)|refine ⟨?_, ?_⟩|intro _)
 all_goals first|(with_reducible apply qq)|(conv=>whnf)
 all_goals first|((with_reducible show Tl _ _);apply tl_intro; · (repeat' (first|exact trivial|refine ⟨?_, ?_⟩|intro _))<;>(first|exact rfl|omega|assumption|(dsimp only;omega)))|skip
 all_goals repeat' (first|exact trivial|(with_reducible first|assumption|exact n1|exact n2|exact nd|exact nx h2|exact nx h3|exact nx h4|exact nx h5)|refine ⟨?_, ?_⟩|intro _)
 all_goals first|(with_reducible apply qq)|(conv=>whnf)
 all_goals (try simp only [gGs_row,gN_lst,gN_canon])
 all_goals first|(exact rfl)|(rw [List.length_append];rfl)|(exact row_snocK rfl _ (by assumption))|omega|((with_reducible show idsOk _ _=true);rfl)|(intro _ _;rfl)|exact Nat.zero_le _|decide|exact o1.1.1|exact o1.2.1.1.1|exact o1.2.1.1.2|exact o1.2.1.2.1|exact o1.2.1.2.2|exact o1.2.2.1.1|exact o1.2.2.1.2|exact o1.2.2.2.1|exact o1.2.2.2.2|exact o5.1.1|exact o5.2.1.1.1|exact o5.2.1.1.2|exact o5.2.1.2.1|exact o5.2.1.2.2|exact o5.2.2.1.1|exact o5.2.2.1.2|exact o5.2.2.2.1|exact o5.2.2.2.2|exact a1|exact a5
def FLookS:List Ar->Option Rs
 | [.agg [.d (.lst 4 n0 f0),.d (.lst 5 c0 d0),.d (.v (.bool e0)),.d (.lst 9 p0 q0),.d (.lst 12 u0 w0)],.agg [.d (.v (.int .i64 i1)),.d (.v (.int .i64 j1)),.d (.v (.string x1)),.d k1,.d (.v (.int .i64 a1))]]=>some ⟨((n0<=1099511627776/\ RowsG n0 f0)/\ (p0<=1099511627776/\ RowsOk p0 q0)/\ (u0<=1099511627776/\ RowsD u0 w0)/\ (∀x,x∈gBs p0 q0->x.v.t.names.length<=1048576)/\ (∀x,x∈gD u0 w0->x.s.v.t.names.length<=1048576))/\ ((i1=10/\ j1=0/\ x1=⟨#[]⟩/\ a1=0)/\ k1=(.lst 5 2 fun i=>Sx.rowAt 5 [it 2,it 0,st ⟨#[120]⟩,.v (.slice none 0 0),it 0,it 2,it 0,st ⟨#[103]⟩,.v (.slice none 0 0),it 0] (0+i))/\ (⟨gGs n0 f0,c0,d0,e0,gBs p0 q0,gD u0 w0⟩:Ro)=R0),.va (seAr N6 S1),[]⟩
 |_=>none
theorem fcLookS:FC Tryz.prog 5 FLookS:=by
 intro xs pre r us h hp;unfold FLookS at h;split at h
 . rename_i n0 f0 c0 d0 e0 p0 q0 u0 w0 i1 j1 x1 k1 a1
   cases h;obtain ⟨hp0,hp1⟩:=hp
   refine FCat.deep (ys:= [.agg [.d (.lst 4 n0 (rwG (gGs n0 f0))),.d (.lst 5 c0 d0),.d (.v (.bool e0)),.d (.lst 9 p0 (rwB (gBs p0 q0))),.d (.lst 12 u0 (rwD (gD u0 w0)))],.agg [.d (.v (.int .i64 i1)),.d (.v (.int .i64 j1)),.d (.v (.string x1)),.d k1,.d (.v (.int .i64 a1))]]) ?_ ?_
   . repeat' (first|exact trivial|exact rfl|exact DvE.refl _|refine ⟨?_, ?_⟩|fail)
     all_goals first|first|exact canonG hp0.1.2|exact canonB hp0.2.1.2.h|exact canonD hp0.2.2.1.2.h
   refine fcat tys_ok (l:= []) trivial Tryz.func5 rfl (by kernel_rfl) true ?_
   have hR:Ro.ok ⟨gGs n0 f0,c0,d0,e0,gBs p0 q0,gD u0 w0⟩:=⟨okG_rows hp0.1.2,by rw [gGs_length];exact hp0.1.1,okL_rows hp0.2.1.2,by rw [gBs_length];exact hp0.2.1.1,okD_rows hp0.2.2.1.2,by rw [gD_length];exact hp0.2.2.1.1,hp0.2.2.2.1,hp0.2.2.2.2⟩
   have l1:=gGs_length n0 f0
   have l2:=gBs_length p0 q0
   have l3:=gD_length u0 w0
   generalize gGs n0 f0=G_ at*
   generalize gBs p0 q0=B_ at*
   generalize gD u0 w0=D_ at*
   clear hp0;subst l1 l2 l3;have hz:okSe ⟨G_,c0,d0,e0,B_,D_⟩ ⟨[],false,⟨⟨#[]⟩,0⟩⟩:=⟨List.nodup_nil,fun k h=>by cases h⟩
   obtain ⟨⟨rfl,rfl,rfl,rfl⟩,rfl,eR⟩:=hp1
   have nx:nameS ⟨G_,c0,d0,e0,B_,D_⟩ S0 ⟨#[120]⟩=(N1,S0):=by rw [eR];exact nm_x
   have ng:nameS ⟨G_,c0,d0,e0,B_,D_⟩ S0 ⟨#[103]⟩=(N5,S1):=by rw [eR];exact nm_g
   have hlv:e0=true:=congrArg Ro.lv eR
   have hme:Meth Tryz.prog 20 [.c (.own 0 0),.agg [.d (it 10),.d (it 0),.d (st ⟨#[]⟩),.d (.lst 5 2 fun i=>Sx.rowAt 5 [it 2,it 0,st ⟨#[120]⟩,.v (.slice none 0 0),it 0,it 2,it 0,st ⟨#[103]⟩,.v (.slice none 0 0),it 0] (0+i)),.d (it 0)]] (HE ⟨G_,c0,d0,e0,B_,D_⟩ S0) (vlT N6) (HE ⟨G_,c0,d0,e0,B_,D_⟩ S1):=(mAddL hR S0 S0 S1 ⟨#[120]⟩ ⟨#[103]⟩ hz hz nx ng).arg ⟨⟨rfl,rfl⟩,⟨rfl,rfl,rfl,⟨rfl,rfl,fun i hi=>by match i,hi with|0,_=>rfl|1,_=>rfl⟩,rfl,trivial⟩,trivial⟩
   have hmt:=mTell ⟨G_,c0,d0,e0,B_,D_⟩ S1 N6 (okN rI_6)
   rw [show tellS (N6,S1)=N6 from a6] at hmt;subst hlv
   clear eR nx ng
   repeat' (first|exact trivial|(with_reducible first|exact n1|exact n2|exact nd)|refine ⟨?_, ?_⟩|intro _)
   all_goals first|(with_reducible apply qq)|(conv=>whnf)
   all_goals first|((with_reducible show ACall _ _ 20 _ _ _);refine Meth.use (nv:=1) [3] hme rfl rfl rfl rfl rfl rfl ?_ ?_ ?_)|skip
   all_goals repeat' (first|exact trivial|(with_reducible first|exact n1|exact n2|exact nd)|refine ⟨?_, ?_⟩|intro _)
   all_goals first|(with_reducible apply qq)|(conv=>whnf)
   all_goals first|((with_reducible show ACall _ _ 19 _ _ _);refine Meth.use (nv:=0) [3,4] hmt rfl rfl rfl rfl rfl rfl ?_ ?_ ?_)|skip
   all_goals repeat' (first|exact trivial|(with_reducible first|exact n1|exact n2|exact nd)|refine ⟨?_, ?_⟩|intro _)
   all_goals first|(with_reducible apply qq)|(conv=>whnf)
   all_goals (try simp only [gKs_row,gN_lst,gN_canon])
   all_goals first|(exact rfl)|(rw [List.length_append];rfl)|(exact row_snocK rfl _ (by assumption))|omega|((with_reducible show idsOk _ _=true);rfl)|(intro _ _;rfl)|exact Nat.zero_le _|decide|(rw [Nat.zero_add];done)|(rw [Nat.zero_add];rfl)
 . cases h
def FLookT:List Ar->Option Rs:=FN 5 FLookS
theorem fcLookT:FC Tryz.prog 5 FLookT:=fc_nil 5 fcLookS
def FLLivesS:List Ar->Option Rs
 | []=>some ⟨True,.va (.c (.d (bo (true)))),[]⟩
 |_=>none
theorem fcLLivesS:FC Tryz.prog 8 FLLivesS:=by
 intro xs pre r us h hp;unfold FLLivesS at h;split at h
 . cases h;refine fcat tys_ok (l:= [(22,⟨[],FVNum⟩),(5,⟨[],FLookT⟩),(23,⟨[],FVHasInt⟩)]) ⟨fcVNum,fcLookT,fcVHasInt,trivial⟩ Tryz.func8 rfl (by kernel_rfl) true ?_
   repeat' (first|exact trivial|(with_reducible exact nd)|refine ⟨?_, ?_⟩|intro _)
   all_goals first|(with_reducible apply qq)|(conv=>whnf)
   all_goals first|omega|rfl|decide|(exact ⟨fun i hi=>by obtain rfl:i=0:=(by omega);exact rowD_l⟩)|(exact ⟨fun i hi=>by obtain rfl:i=0:=(by omega);exact ⟨rfl,⟨by decide,by decide⟩,by decide,by decide⟩⟩)|(exact ⟨fun i hi=>by obtain rfl:i=0:=(by omega);exact ⟨.inl rfl,fun j hj=>absurd hj (Nat.not_lt_zero j),okN rI_1⟩⟩)|(have q:eqK ⟨⟨#[103]⟩, -1⟩ ⟨⟨#[103]⟩, -1⟩=false:=(by assumption);rw [eqK_iff.2 rfl] at q;cases q)|(rename_i hx;obtain rfl:=List.mem_singleton.1 hx;exact Nat.zero_le _)
 . cases h
end Go.Proofs.YtokjghkehojenaaGreat
namespace Go.Proofs.YtokjghkehojenaaGreat
open Go.Sx
open Go.RowKit Go.Lib Go.Sort
theorem same_reflN (p:Vl×Se):sameS p p=true:=by
 unfold sameS;rw [exact_refl,eqK_iff.2 rfl,decide_eq_true rfl];simp
theorem lookN_ok {R:Ro} (hR:R.ok) (x:ByteArray):okV (lookN R x).1/\ (lookN R x).2.gets.length<=1:=by
 unfold lookN;split
 . refine ⟨?_, ?_⟩
   . show okV (tellS _);unfold tellS;split
     . exact okV_z
     . exact okV_of (nameS_ok hR _ x).1
   . show (nameS R ⟨[],false,⟨⟨#[]⟩,0⟩⟩ x).2.gets.length<=1
     unfold nameS readS
     repeat' split
     all_goals simp
 . exact ⟨okV_z,Nat.zero_le _⟩
def FLNames:List Ar->Option Rs
 | [.agg [.d (.lst 4 n0 f0),.d (.lst 5 _ _),.d (.v (.bool _)),.d (.lst 9 p0 q0),.d (.lst 12 u0 w0)],.c (.d (.v (.string _))),.agg [.d (.v (.bool s2)),.d (.v (.int .i64 l2)),.d (.v (.int .i64 h2)),.d (.v (.bool b2)),.d (.v (.int .i64 m2)),.d (.v (.int .i64 r2)),.d (.v (.bool _)),.d (.lst 1 n2 f2)]]=>some ⟨((n0<=1099511627776/\ RowsG n0 f0)/\ (p0<=1099511627776/\ RowsOk p0 q0)/\ (u0<=1099511627776/\ RowsD u0 w0)/\ (∀x,x∈gBs p0 q0->x.v.t.names.length<=1048576)/\ (∀x,x∈gD u0 w0->x.s.v.t.names.length<=1048576))/\ ((n2*16<=140737488351232/\ ∀i,i<n2->f2 i= [st (gT (f2 i))])/\ Sp.inR ⟨s2,l2,h2⟩/\ Cg.inR ⟨b2,m2,r2⟩),.va (.c (.d (bo (true)))),[]⟩
 |_=>none
theorem fcLNames:FC Tryz.prog 4 FLNames:=by
 intro xs pre r us h hp;unfold FLNames at h;split at h
 . rename_i n0 f0 c0 d0 e0 p0 q0 u0 w0 x1 s2 l2 h2 b2 m2 r2 z2 n2 f2
   cases h;obtain ⟨hp0,hp1⟩:=hp
   refine FCat.deep (ys:= [.agg [.d (.lst 4 n0 (rwG (gGs n0 f0))),.d (.lst 5 c0 d0),.d (.v (.bool e0)),.d (.lst 9 p0 (rwB (gBs p0 q0))),.d (.lst 12 u0 (rwD (gD u0 w0)))],.c (.d (.v (.string x1))),.agg [.d (.v (.bool s2)),.d (.v (.int .i64 l2)),.d (.v (.int .i64 h2)),.d (.v (.bool b2)),.d (.v (.int .i64 m2)),.d (.v (.int .i64 r2)),.d (.v (.bool z2)),.d (.lst 1 n2 fun i=> [st (gT (f2 i))])]]) ?_ ?_
   . repeat' (first|exact trivial|exact rfl|exact DvE.refl _|refine ⟨?_, ?_⟩|fail)
     all_goals first|first|exact canonG hp0.1.2|exact canonB hp0.2.1.2.h|exact canonD hp0.2.2.1.2.h|exact canonT1 hp1.1.2
   refine fcat tys_ok (l:= [(9,⟨[],FKnown⟩),(10,⟨[],FRKnown⟩),(11,⟨[],FRVExact⟩),(12,⟨[],FLookNm⟩),(13,⟨[],FRLookNm⟩),(7,⟨[],FSame⟩),(15,⟨[],FArrays⟩),(16,⟨[],FRArrays⟩),(14,⟨[],FRTexts⟩),(17,⟨[],FPlaces⟩),(18,⟨[],FRPlaces⟩),(8,⟨[],FLLivesS⟩)]) ⟨fcKnown,fcRKnown,fcRVExact,fcLookNm,fcRLookNm,fcSame,fcArrays,fcRArrays,fcRTexts,fcPlaces,fcRPlaces,fcLLivesS,trivial⟩ Tryz.func4 rfl (by kernel_rfl) true ?_
   have hR:Ro.ok ⟨gGs n0 f0,c0,d0,e0,gBs p0 q0,gD u0 w0⟩:=⟨okG_rows hp0.1.2,by rw [gGs_length];exact hp0.1.1,okL_rows hp0.2.1.2,by rw [gBs_length];exact hp0.2.1.1,okD_rows hp0.2.2.1.2,by rw [gD_length];exact hp0.2.2.1.1,hp0.2.2.2.1,hp0.2.2.2.2⟩
   have l1:=gGs_length n0 f0
   have l2:=gBs_length p0 q0
   have l3:=gD_length u0 w0
   generalize gGs n0 f0=G_ at*
   generalize gBs p0 q0=B_ at*
   generalize gD u0 w0=D_ at*
   clear hp0;subst l1 l2 l3;have hD:=okD_row hR.d
   have hdn:=hR.dn
   have hB:=okL_row hR.b
   have hbn:=hR.bn
   have hG:=rows_okG hR.g
   have hgn:=hR.gn
   have hgg:=gGs_row G_
   have hbb:=gBs_row B_
   have hdd:=gD_row D_
   have hv:okV ⟨⟨⟨s2,l2,h2⟩,⟨b2,m2,r2⟩⟩,⟨z2,gN n2 f2⟩⟩:=⟨⟨(by rw [gN_length];exact hp1.1.1),fun _ _=>rfl⟩,hp1.2⟩
   have hk:=knS_ok hR.d ⟨x1, -1⟩
   have hxx:=exact_refl (knS D_ ⟨x1, -1⟩).v
   have hP:=lookN_ok hR x1
   have hNe:=name_eq ⟨G_,c0,d0,e0,B_,D_⟩ x1
   have hsm:=same_reflN (lookN ⟨G_,c0,d0,e0,B_,D_⟩ x1)
   have hks:=rows_K (lookN ⟨G_,c0,d0,e0,B_,D_⟩ x1).2.gets
   have hk1:(lookN ⟨G_,c0,d0,e0,B_,D_⟩ x1).2.gets.length<=1099511627776:=by have:=hP.2;omega
   have har:decide (arrS G_ G_.length=arrR G_ G_.length)=true:=decide_eq_true (arr_eq G_ _ (Nat.le_refl _))
   have hpl:=pl_eq hR.g (s:=x1) hv
   have ha1:=arrS_len G_ G_.length
   have ha2:=arrR_len G_ G_.length
   have e1:(!(knB D_ ⟨x1, -1⟩==knB D_ ⟨x1, -1⟩))=false:=by simp
   have e2:(!((knS D_ ⟨x1, -1⟩).e.live==(knS D_ ⟨x1, -1⟩).e.live))=false:=by simp
   have e3:(!Vl.exact (knS D_ ⟨x1, -1⟩).v (knS D_ ⟨x1, -1⟩).v)=false:=by rw [hxx];rfl
   have e6:(plS G_ x1 ⟨⟨⟨s2,l2,h2⟩,⟨b2,m2,r2⟩⟩,⟨z2,gN n2 f2⟩⟩==rplS G_ x1 ⟨⟨⟨s2,l2,h2⟩,⟨b2,m2,r2⟩⟩,⟨z2,gN n2 f2⟩⟩)=true:=by rw [hpl];simp
   repeat' (first|exact trivial|(with_reducible first|assumption|exact n1|exact n2|exact nd)|refine ⟨?_, ?_⟩|intro _)
   all_goals first|(with_reducible apply qq)|(conv=>whnf)
   all_goals (try simp only [hdd,hbb,hgg,gKs_row,gN_lst,gN_canon, <-hNe] at*)
   all_goals first|omega|rfl|exact hk.1.1|exact hk.2.1.1.1|exact hk.2.1.1.2|exact hk.2.1.2.1|exact hk.2.1.2.2|exact hk.2.2.1.1|exact hk.2.2.1.2|exact hk.2.2.2.1|exact hk.2.2.2.2|exact hP.1.1.1|exact hP.1.2.1.1.1|exact hP.1.2.1.1.2|exact hP.1.2.1.2.1|exact hP.1.2.1.2.2|exact hP.1.2.2.1.1|exact hP.1.2.2.1.2|exact hP.1.2.2.2.1|exact hP.1.2.2.2.2|exact hv.1.1|exact hv.2.1.1.1|exact hv.2.1.1.2|exact hv.2.1.2.1|exact hv.2.1.2.2|exact hv.2.2.1.1|exact hv.2.2.1.2|exact hv.2.2.2.1|exact hv.2.2.2.2|exact hR.bv _ ‹_›|exact hR.dv _ ‹_›|exact hks|(exfalso;first|exact absurd (e1.symm.trans ‹_›) (by decide)|exact absurd (e2.symm.trans ‹_›) (by decide)|exact absurd (e3.symm.trans ‹_›) (by decide)|exact absurd (hsm.symm.trans ‹_›) (by decide)|exact absurd (har.symm.trans ‹_›) (by decide)|exact absurd (e6.symm.trans ‹_›) (by decide))
 . cases h
end Go.Proofs.YtokjghkehojenaaGreat
