/- Sums of one side. No condition. -/
import Derived.Test.YtkfjfgabianfhaaGreatB8
set_option linter.all false
set_option maxHeartbeats 8000000
set_option maxRecDepth 100000
namespace Go.Proofs.YtkfjfgabianfhaaGreat
open Go.Sx
open Go.RowKit Go.Lib Go.Sort
def FKn (F:List Ar->Option Rs) (r0:Rt):List Ar->Option Rs:=fun xs=>match F xs with
 |some ⟨pre,r,us⟩=>some ⟨pre/\ r=r0,r0,us⟩
 |none=>none
theorem fcKn {P:Program} {f:Nat} {F:List Ar->Option Rs} (h:FC P f F) (r0:Rt):FC P f (FKn F r0):=by
 intro xs pre r us h1 hp;unfold FKn at h1;split at h1
 . rename_i p1 r1 u1 e
   cases h1;exact hp.2▸h xs p1 r1 us e hp.1
 . cases h1
abbrev NV (n:Int):Vl:=⟨⟨⟨true,n,n⟩,⟨true,0,n⟩⟩,⟨false,[]⟩⟩
theorem ofS_nilB:ofS []= []:=List.eq_nil_of_length_eq_zero (Nat.le_zero.1 (ofS_len []))
theorem nv_of (n:Int):Vl.of (NV n)=NV n:=by
 show (⟨Ig.clean _,⟨false,ofS []⟩⟩:Vl)=_
 rw [ofS_nilB,tidy_fix (one_tidy n)]
theorem z_of:Vl.of Vl.zero=Vl.zero:=by show (⟨Ig.clean _,⟨false,ofS []⟩⟩:Vl)=_;rw [ofS_nilB];rfl
theorem zn_join {n:Int} (h:n=1 \/n=5):Vl.of (Vl.join Vl.zero (NV n))=NV n:=by
 have e:Vl.join Vl.zero (NV n)=NV n:=by
  unfold Vl.join;rw [z_of,nv_of];show (⟨_,⟨_,ofS (ofS []++ofS [])⟩⟩:Vl)=_
  rw [ofS_nilB,List.nil_append,ofS_nilB];rcases h with rfl|rfl<;>rfl
 rw [e,nv_of]
theorem nv_none (n:Int):Vl.none (NV n)=false:=by
 unfold Vl.none;rw [nv_of,show (NV n).i.none=false by simp [Ig.none,Sp.none]];rfl
theorem nv_ok {n:Int} (h:n=1 \/n=5):okV (NV n):=⟨⟨Nat.zero_le _,fun _ _=>rfl⟩,by rcases h with rfl|rfl<;>exact ⟨⟨⟨by decide,by decide⟩,by decide,by decide⟩,⟨by decide,by decide⟩,by decide,by decide⟩⟩
abbrev sdL (n:Int):List DV:= [st ⟨#[103]⟩,it (-1),bo false,.v (.slice none 0 0),bo true,it n,it n,bo true,it 0,it n,bo false,lst []]
theorem canonS {f:Nat->List DV} {n:Int} (h:f 0=sdL n):DvE (.lst 12 1 f) (.lst 12 1 fun _=>sdL n):=
 .rows fun i hi=>by obtain rfl:i=0:=(by omega);rw [h];exact ⟨rfl,fun j a b ha hb=>by rw [ha] at hb;cases hb;exact .refl _⟩
def FTJoinK (n:Int):List Ar->Option Rs:=FKn (FP zGG FTJoinD) (.va (dAr (NV n)))
theorem fcTJoinK (n:Int):FC Tryz.prog 19 (FTJoinK n):=fcKn (fc_nilp zGG fcTJoinD) _
def FTNoneK:List Ar->Option Rs:=FKn (FP zGG FTNoneD) (.va (.c (.d (bo false))))
theorem fcTNoneK:FC Tryz.prog 27 FTNoneK:=fcKn (fc_nilp zGG fcTNoneD) _
def FPlaceN:List Ar->Option Rs
 | [.c (.d (.v (.slice none 0 0))),.agg [.d (.v (.string _)),.d (.v (.int .i64 i1))]]=>some ⟨(rI i1),.tup [.c (.d (it 0)),.c (.d (bo false))],[]⟩
 |_=>none
theorem fcPlaceN:FC Tryz.prog 23 FPlaceN:=by
 intro xs pre r us h hp;unfold FPlaceN at h;split at h
 . rename_i x1 i1
   cases h;have hp0:=hp
   refine fcat tys_ok (l:= []) trivial Tryz.func23 rfl (by kernel_rfl) true ?_
   repeat' (first|exact trivial|(with_reducible first|exact n1|exact n2|exact nd|exact hp0)|refine ⟨?_, ?_⟩|intro _)
   all_goals first|(with_reducible apply qq)|(conv=>whnf)
   iterate 4
    all_goals first|((with_reducible show ACall _ _ 47 _ _ _);refine inl tys_ok (l:= []) trivial Tryz.func47 rfl (by kernel_rfl) (by kernel_rfl) rfl ?_)|((with_reducible show ASat _ _ (.loop _) _ _);refine loop_unr tys_ok (l:= []) trivial (by kernel_rfl) 1 ?_)|((with_reducible show ASat _ _ (.region 8 _ _) _ _);refine draw_plan tys_ok (l:= []) trivial (by kernel_rfl) (.take 0 (.take 1 (.take 2 (.all [(3,.take 4 (.all [(5,.all [(6,.all [(7,.all [(8,.all [(9,.all [(10,.all [(11,.take 14 (.all [(12,.all [(13,.take 15 (.done))])]))])]),(10,.all [(9,.all [(11,.take 14 (.all [(12,.all [(13,.take 15 (.done))])]))])])]),(10,.all [(8,.all [(9,.all [(11,.take 14 (.all [(12,.all [(13,.take 15 (.done))])]))])])])]),(10,.all [(7,.all [(8,.all [(9,.all [(11,.take 14 (.all [(12,.all [(13,.take 15 (.done))])]))])])])])]),(7,.all [(6,.all [(8,.all [(9,.all [(10,.all [(11,.take 14 (.all [(12,.all [(13,.take 15 (.done))])]))])]),(10,.all [(9,.all [(11,.take 14 (.all [(12,.all [(13,.take 15 (.done))])]))])])]),(10,.all [(8,.all [(9,.all [(11,.take 14 (.all [(12,.all [(13,.take 15 (.done))])]))])])])]),(10,.all [(6,.all [(8,.all [(9,.all [(11,.take 14 (.all [(12,.all [(13,.take 15 (.done))])]))])])])])]),(10,.all [(6,.all [(7,.all [(8,.all [(9,.all [(11,.take 14 (.all [(12,.all [(13,.take 15 (.done))])]))])])])]),(7,.all [(6,.all [(8,.all [(9,.all [(11,.take 14 (.all [(12,.all [(13,.take 15 (.done))])]))])])])])])]),(6,.all [(5,.all [(7,.all [(8,.all [(9,.all [(10,.all [(11,.take 14 (.all [(12,.all [(13,.take 15 (.done))])]))])]),(10,.all [(9,.all [(11,.take 14 (.all [(12,.all [(13,.take 15 (.done))])]))])])]),(10,.all [(8,.all [(9,.all [(11,.take 14 (.all [(12,.all [(13,.take 15 (.done))])]))])])])]),(10,.all [(7,.all [(8,.all [(9,.all [(11,.take 14 (.all [(12,.all [(13,.take 15 (.done))])]))])])])])]),(7,.all [(5,.all [(8,.all [(9,.all [(10,.all [(11,.take 14 (.all [(12,.all [(13,.take 15 (.done))])]))])]),(10,.all [(9,.all [(11,.take 14 (.all [(12,.all [(13,.take 15 (.done))])]))])])]),(10,.all [(8,.all [(9,.all [(11,.take 14 (.all [(12,.all [(13,.take 15 (.done))])]))])])])]),(8,.all [(5,.all [(9,.all [(10,.all [(11,.take 14 (.all [(12,.all [(13,.take 15 (.done))])]))])]),(10,.all [(9,.all [(11,.take 14 (.all [(12,.all [(13,.take 15 (.done))])]))])])]),(9,.all [(5,.all [(10,.all [(11,.take 14 (.all [(12,.all [(13,.take 15 (.done))])]))])]),(10,.all [(5,.all [(11,.take 14 (.all [(12,.all [(13,.take 15 (.done))])]))])])]),(10,.all [(5,.all [(9,.all [(11,.take 14 (.all [(12,.all [(13,.take 15 (.done))])]))])]),(9,.all [(5,.all [(11,.take 14 (.all [(12,.all [(13,.take 15 (.done))])]))])])])]),(10,.all [(5,.all [(8,.all [(9,.all [(11,.take 14 (.all [(12,.all [(13,.take 15 (.done))])]))])])]),(8,.all [(5,.all [(9,.all [(11,.take 14 (.all [(12,.all [(13,.take 15 (.done))])]))])]),(9,.all [(5,.all [(11,.take 14 (.all [(12,.all [(13,.take 15 (.done))])]))])])])])]),(10,.all [(5,.all [(7,.all [(8,.all [(9,.all [(11,.take 14 (.all [(12,.all [(13,.take 15 (.done))])]))])])])]),(7,.all [(5,.all [(8,.all [(9,.all [(11,.take 14 (.all [(12,.all [(13,.take 15 (.done))])]))])])]),(8,.all [(5,.all [(9,.all [(11,.take 14 (.all [(12,.all [(13,.take 15 (.done))])]))])]),(9,.all [(5,.all [(11,.take 14 (.all [(12,.all [(13,.take 15 (.done))])]))])])])])])]),(7,.all [(5,.all [(6,.all [(8,.all [(9,.all [(10,.all [(11,.take 14 (.all [(12,.all [(13,.take 15 (.done))])]))])]),(10,.all [(9,.all [(11,.take 14 (.all [(12,.all [(13,.take 15 (.done))])]))])])]),(10,.all [(8,.all [(9,.all [(11,.take 14 (.all [(12,.all [(13,.take 15 (.done))])]))])])])]),(10,.all [(6,.all [(8,.all [(9,.all [(11,.take 14 (.all [(12,.all [(13,.take 15 (.done))])]))])])])])]),(6,.all [(5,.all [(8,.all [(9,.all [(10,.all [(11,.take 14 (.all [(12,.all [(13,.take 15 (.done))])]))])]),(10,.all [(9,.all [(11,.take 14 (.all [(12,.all [(13,.take 15 (.done))])]))])])]),(10,.all [(8,.all [(9,.all [(11,.take 14 (.all [(12,.all [(13,.take 15 (.done))])]))])])])]),(8,.all [(5,.all [(9,.all [(10,.all [(11,.take 14 (.all [(12,.all [(13,.take 15 (.done))])]))])]),(10,.all [(9,.all [(11,.take 14 (.all [(12,.all [(13,.take 15 (.done))])]))])])]),(9,.all [(5,.all [(10,.all [(11,.take 14 (.all [(12,.all [(13,.take 15 (.done))])]))])]),(10,.all [(5,.all [(11,.take 14 (.all [(12,.all [(13,.take 15 (.done))])]))])])]),(10,.all [(5,.all [(9,.all [(11,.take 14 (.all [(12,.all [(13,.take 15 (.done))])]))])]),(9,.all [(5,.all [(11,.take 14 (.all [(12,.all [(13,.take 15 (.done))])]))])])])]),(10,.all [(5,.all [(8,.all [(9,.all [(11,.take 14 (.all [(12,.all [(13,.take 15 (.done))])]))])])]),(8,.all [(5,.all [(9,.all [(11,.take 14 (.all [(12,.all [(13,.take 15 (.done))])]))])]),(9,.all [(5,.all [(11,.take 14 (.all [(12,.all [(13,.take 15 (.done))])]))])])])])]),(10,.all [(5,.all [(6,.all [(8,.all [(9,.all [(11,.take 14 (.all [(12,.all [(13,.take 15 (.done))])]))])])])]),(6,.all [(5,.all [(8,.all [(9,.all [(11,.take 14 (.all [(12,.all [(13,.take 15 (.done))])]))])])]),(8,.all [(5,.all [(9,.all [(11,.take 14 (.all [(12,.all [(13,.take 15 (.done))])]))])]),(9,.all [(5,.all [(11,.take 14 (.all [(12,.all [(13,.take 15 (.done))])]))])])])])])]),(10,.all [(5,.all [(6,.all [(7,.all [(8,.all [(9,.all [(11,.take 14 (.all [(12,.all [(13,.take 15 (.done))])]))])])])]),(7,.all [(6,.all [(8,.all [(9,.all [(11,.take 14 (.all [(12,.all [(13,.take 15 (.done))])]))])])])])]),(6,.all [(5,.all [(7,.all [(8,.all [(9,.all [(11,.take 14 (.all [(12,.all [(13,.take 15 (.done))])]))])])])]),(7,.all [(5,.all [(8,.all [(9,.all [(11,.take 14 (.all [(12,.all [(13,.take 15 (.done))])]))])])]),(8,.all [(5,.all [(9,.all [(11,.take 14 (.all [(12,.all [(13,.take 15 (.done))])]))])]),(9,.all [(5,.all [(11,.take 14 (.all [(12,.all [(13,.take 15 (.done))])]))])])])])]),(7,.all [(5,.all [(6,.all [(8,.all [(9,.all [(11,.take 14 (.all [(12,.all [(13,.take 15 (.done))])]))])])])]),(6,.all [(5,.all [(8,.all [(9,.all [(11,.take 14 (.all [(12,.all [(13,.take 15 (.done))])]))])])]),(8,.all [(5,.all [(9,.all [(11,.take 14 (.all [(12,.all [(13,.take 15 (.done))])]))])]),(9,.all [(5,.all [(11,.take 14 (.all [(12,.all [(13,.take 15 (.done))])]))])])])])])])]))])))) (by kernel_rfl) ?_)|((with_reducible show Tl _ _);apply tl_intro; · (repeat' (first|exact trivial|refine ⟨?_, ?_⟩|intro _))<;>(first|exact rfl|omega|assumption|(dsimp only;omega)))|skip
    all_goals repeat' (first|exact trivial|(with_reducible first|exact n1|exact n2|exact nd)|refine ⟨?_, ?_⟩|intro _)
    all_goals first|(with_reducible apply qq)|(conv=>whnf)
   all_goals first|rfl
 . cases h
def FCSum1 (n:Int):List Ar->Option Rs
 | [.c (.d (.lst 12 1 f0))]=>some ⟨(f0 0=sdL n)/\ (n=1 \/n=5),.va (.c (.d (.lst 12 1 fun _=>sdL n))),[]⟩
 |_=>none
theorem fcCSum1 (n:Int):FC Tryz.prog 11 (FCSum1 n):=by
 intro xs pre r us h hp;unfold FCSum1 at h;split at h
 . rename_i f0
   cases h;obtain ⟨hp0,hp1⟩:=hp
   refine FCat.deep (ys:= [.c (.d (.lst 12 1 fun _=>sdL n))]) ?_ ?_
   . repeat' (first|exact trivial|exact rfl|exact DvE.refl _|refine ⟨?_, ?_⟩|fail)
     all_goals first|exact canonS hp0
   refine fcat tys_ok (l:= [(23,⟨[],FPlaceN⟩),(10,⟨[],FKyClean⟩),(19,⟨[],(FTJoinK n)⟩),(27,⟨[],FTNoneK⟩)]) ⟨fcPlaceN,fcKyClean,(fcTJoinK n),fcTNoneK,trivial⟩ Tryz.func11 rfl (by kernel_rfl) true ?_
   have hnv:=nv_ok hp1
   have rG:rI (-1):=⟨by decide,by decide⟩
   have hj:=zn_join hp1
   have hno:=nv_none n
   repeat' (first|exact trivial|(with_reducible first|exact n1|exact n2|exact nd|exact hnv|exact hnv.1|exact hnv.2|exact rG)|refine ⟨?_, ?_⟩|intro _)
   all_goals first|(with_reducible apply qq)|(conv=>whnf)
   iterate 12
    all_goals first|((with_reducible show ASat _ _ (.loop _) _ _);refine loop_unr tys_ok (l:= [(23,⟨[],FPlaceN⟩),(10,⟨[],FKyClean⟩),(19,⟨[],(FTJoinK n)⟩),(27,⟨[],FTNoneK⟩)]) ⟨fcPlaceN,fcKyClean,(fcTJoinK n),fcTNoneK,trivial⟩ (by kernel_rfl) 2 ?_)|((with_reducible show ACall _ _ 24 _ _ _);refine inl tys_ok (l:= [(23,⟨[],FPlaceN⟩),(10,⟨[],FKyClean⟩),(19,⟨[],(FTJoinK n)⟩),(27,⟨[],FTNoneK⟩)]) ⟨fcPlaceN,fcKyClean,(fcTJoinK n),fcTNoneK,trivial⟩ Tryz.func24 rfl (by kernel_rfl) (by kernel_rfl) rfl ?_)|((with_reducible show ASat _ _ (.region 8 _ _) _ _);refine draw_sto tys_ok (l:= [(23,⟨[],FPlaceN⟩),(10,⟨[],FKyClean⟩),(19,⟨[],(FTJoinK n)⟩),(27,⟨[],FTNoneK⟩)]) ⟨fcPlaceN,fcKyClean,(fcTJoinK n),fcTNoneK,trivial⟩ (by kernel_rfl) 12 [] (.all [(12,.done)]) [0,2,3,5,6,7,8,9,10,11,22] (by kernel_rfl) (by kernel_rfl) ?_)|((with_reducible show ACall _ _ 25 _ _ _);refine inl tys_ok (l:= [(23,⟨[],FPlaceN⟩),(10,⟨[],FKyClean⟩),(19,⟨[],(FTJoinK n)⟩),(27,⟨[],FTNoneK⟩)]) ⟨fcPlaceN,fcKyClean,(fcTJoinK n),fcTNoneK,trivial⟩ Tryz.func25 rfl (by kernel_rfl) (by kernel_rfl) rfl ?_)|((with_reducible show ACall _ _ 36 _ _ _);refine inl tys_ok (l:= [(23,⟨[],FPlaceN⟩),(10,⟨[],FKyClean⟩),(19,⟨[],(FTJoinK n)⟩),(27,⟨[],FTNoneK⟩)]) ⟨fcPlaceN,fcKyClean,(fcTJoinK n),fcTNoneK,trivial⟩ Tryz.func36 rfl (by kernel_rfl) (by kernel_rfl) rfl ?_)|((with_reducible show ACall _ _ 26 _ _ _);refine inl tys_ok (l:= [(23,⟨[],FPlaceN⟩),(10,⟨[],FKyClean⟩),(19,⟨[],(FTJoinK n)⟩),(27,⟨[],FTNoneK⟩)]) ⟨fcPlaceN,fcKyClean,(fcTJoinK n),fcTNoneK,trivial⟩ Tryz.func26 rfl (by kernel_rfl) (by kernel_rfl) rfl ?_)|((with_reducible show ASat _ _ (.region 8 _ _) _ _);refine draw_plan tys_ok (l:= [(23,⟨[],FPlaceN⟩),(10,⟨[],FKyClean⟩),(19,⟨[],(FTJoinK n)⟩),(27,⟨[],FTNoneK⟩)]) ⟨fcPlaceN,fcKyClean,(fcTJoinK n),fcTNoneK,trivial⟩ (by kernel_rfl) (.take 0 (.take 1 (.take 2 (.take 3 (.take 4 (.all [(5,.all [(6,.all [(7,.all [(8,.all [(9,.take 10 (.all [(11,.all [(12,.done)])]))])])]),(7,.all [(6,.all [(8,.all [(9,.take 10 (.all [(11,.all [(12,.done)])]))])]),(8,.all [(6,.all [(9,.take 10 (.all [(11,.all [(12,.done)])]))])])])]),(7,.all [(5,.all [(6,.all [(8,.all [(9,.take 10 (.all [(11,.all [(12,.done)])]))])]),(8,.all [(6,.all [(9,.take 10 (.all [(11,.all [(12,.done)])]))])])]),(8,.all [(5,.all [(6,.all [(9,.take 10 (.all [(11,.all [(12,.done)])]))])])])])])))))) (by kernel_rfl) ?_)|((with_reducible show Tl _ _);apply tl_intro; · (repeat' (first|exact trivial|refine ⟨?_, ?_⟩|intro _))<;>(first|exact rfl|omega|assumption|(dsimp only;omega)))|skip
    all_goals repeat' (first|exact trivial|(with_reducible first|exact n1|exact n2|exact nd|exact hnv|exact hnv.1|exact hnv.2|exact rG)|refine ⟨?_, ?_⟩|intro _)
    all_goals first|(with_reducible apply qq)|(conv=>whnf)
   all_goals (try simp only [gN_lst,gN_canon] at*)
   all_goals first|exact congrArg (fun v:Vl=>Rt.va (dAr v)) hj|exact congrArg (fun b:Bool=>Rt.va (.c (.d (bo b)))) hno|rfl|omega|exact hnv.1.1|exact hnv.2.1.1.1|exact hnv.2.1.1.2|exact hnv.2.1.2.1|exact hnv.2.1.2.2|exact hnv.2.2.1.1|exact hnv.2.2.1.2|exact hnv.2.2.2.1|exact hnv.2.2.2.2|(cases Nat.lt_one_iff.1 ‹_<1›;rfl)
 . cases h
end Go.Proofs.YtkfjfgabianfhaaGreat
namespace Go.Proofs.YtkfjfgabianfhaaGreat
open Go.Sx
open Go.RowKit Go.Lib Go.Sort
abbrev gNm:ByteArray:=⟨#[103]⟩
def FOr (F G:List Ar->Option Rs):List Ar->Option Rs:=fun xs=>match F xs with
 |some r=>some r
 |none=>G xs
theorem fcOr {P:Program} {f:Nat} {F G:List Ar->Option Rs} (h:FC P f F) (h2:FC P f G):FC P f (FOr F G):=by
 intro xs pre r us h1 hp;unfold FOr at h1;split at h1
 . rename_i r1 e;cases h1;exact h xs pre r us e hp
 . exact h2 xs pre r us h1 hp
theorem acallSum {P:Program} {base f:Nat} {vas:List Va} {st:St} {K:Tm->St->Prop} {l:List (Nat×Sm)} (hl:sumsOk P l) (h:vcCall P (sums l) base f vas st K):ACall P base f vas st K:=⟨fun ψ S w a vals hr hv=>vcCall_ok (sums_ok hl) base f vas st K h ψ S w a vals hr hv⟩
theorem g_cmp:(Ky.cmp ⟨⟨#[103]⟩, -1⟩ ⟨⟨#[103]⟩, -1⟩==0)=true:=by rw [beq_iff_eq,Ky.cmp_eq]
theorem same_0n {n:Int} (h:n=1 \/n=5):(Vl.leq Vl.zero (NV n)&&Vl.leq (NV n) Vl.zero)=false:=by
 have e:Vl.leq (NV n) Vl.zero=false:=by unfold Vl.leq;rw [nv_of,z_of];rcases h with rfl|rfl<;>rfl
 rw [e,Bool.and_false]
def FTCleanK (n:Int):List Ar->Option Rs:=FKn (FP zGG FTCleanD) (.va (dAr (NV n)))
theorem fcTCleanK (n:Int):FC Tryz.prog 39 (FTCleanK n):=fcKn (fc_nilp zGG fcTCleanD) _
def FTSameK:List Ar->Option Rs:=FKn (FP zGG FTSameD) (.va (.c (.d (bo false))))
theorem fcTSameK:FC Tryz.prog 34 FTSameK:=fcKn (fc_nilp zGG fcTSameD) _
def FCFind0:List Ar->Option Rs
 | [.c (.d (.v (.slice none 0 0))),.agg [.d (.v (.string x1)),.d (.v (.int .i64 i1))]]=>some ⟨(x1=gNm/\ i1= -1),.tup [.agg [.d (bo false),.d (.v (.slice none 0 0)),.d (bo false),.d (it 0),.d (it 0),.d (bo false),.d (it 0),.d (it 0),.d (bo false),.d (.v (.slice none 0 0))],.c (.d (bo false))],[]⟩
 |_=>none
abbrev sl1B:List (Nat×Sm):= [(38,⟨[],FKyCmp⟩)]
theorem sp1B:sumsOk Tryz.prog sl1B:=⟨fcKyCmp,trivial⟩
theorem fcCFind0:FC Tryz.prog 18 FCFind0:=by
 intro xs pre r us h hp;unfold FCFind0 at h;split at h
 . rename_i x1 i1
   cases h;have hp0:=hp
   refine fcat tys_ok (l:=sl1B) sp1B Tryz.func18 rfl (by kernel_rfl) true ?_
   obtain ⟨rfl,rfl⟩:=hp0
   repeat' (first|exact trivial|(with_reducible first|exact n1|exact n2|exact nd)|refine ⟨?_, ?_⟩|intro _)
   all_goals first|(with_reducible apply qq)|(conv=>whnf)
   iterate 5
    all_goals first|((with_reducible show ASat _ _ (.loop _) _ _);refine loop_unr tys_ok (l:=sl1B) sp1B (by kernel_rfl) 2 ?_)|((with_reducible show ACall _ _ 36 _ _ _);refine inl tys_ok (l:=sl1B) sp1B Tryz.func36 rfl (by kernel_rfl) (by kernel_rfl) rfl ?_)|((with_reducible show ACall _ _ 37 _ _ _);refine inl tys_ok (l:=sl1B) sp1B Tryz.func37 rfl (by kernel_rfl) (by kernel_rfl) rfl ?_)|((with_reducible show Tl _ _);apply tl_intro; · (repeat' (first|exact trivial|refine ⟨?_, ?_⟩|intro _))<;>(first|exact rfl|omega|assumption|(dsimp only;omega)))|skip
    all_goals repeat' (first|exact trivial|(with_reducible first|exact n1|exact n2|exact nd)|refine ⟨?_, ?_⟩|intro _)
    all_goals first|(with_reducible apply qq)|(conv=>whnf)
   all_goals first|rfl|omega
 . cases h
def FCFind1 (n:Int):List Ar->Option Rs
 | [.c (.d (.lst 12 1 f0)),.agg [.d (.v (.string x1)),.d (.v (.int .i64 i1))]]=>some ⟨(f0 0=sdL n)/\ (x1=gNm/\ i1= -1)/\ (n=1 \/n=5),.tup [dAr (NV n),.c (.d (bo true))],[]⟩
 |_=>none
theorem fcCFind1 (n:Int):FC Tryz.prog 18 (FCFind1 n):=by
 intro xs pre r us h hp;unfold FCFind1 at h;split at h
 . rename_i f0 x1 i1
   cases h;obtain ⟨hp0,hp1,hp2⟩:=hp
   refine FCat.deep (ys:= [.c (.d (.lst 12 1 fun _=>sdL n)),.agg [.d (.v (.string x1)),.d (.v (.int .i64 i1))]]) ?_ ?_
   . repeat' (first|exact trivial|exact rfl|exact DvE.refl _|refine ⟨?_, ?_⟩|fail)
     all_goals first|exact canonS hp0
   refine fcat tys_ok (l:= [(38,⟨[],FKyCmp⟩),(39,⟨[],(FTCleanK n)⟩)]) ⟨fcKyCmp,(fcTCleanK n),trivial⟩ Tryz.func18 rfl (by kernel_rfl) true ?_
   obtain ⟨rfl,rfl⟩:=hp1
   have hnv:=nv_ok hp2
   have ho:=nv_of n
   have rG:rI (-1):=⟨by decide,by decide⟩
   have gc:=g_cmp
   repeat' (first|exact trivial|(with_reducible first|exact n1|exact n2|exact nd|exact rG|exact hnv|exact nx gc)|refine ⟨?_, ?_⟩|intro _)
   all_goals first|(with_reducible apply qq)|(conv=>whnf)
   iterate 7
    all_goals first|((with_reducible show ASat _ _ (.loop _) _ _);refine loop_unr tys_ok (l:= [(38,⟨[],FKyCmp⟩),(39,⟨[],(FTCleanK n)⟩)]) ⟨fcKyCmp,(fcTCleanK n),trivial⟩ (by kernel_rfl) 2 ?_)|((with_reducible show ACall _ _ 36 _ _ _);refine inl tys_ok (l:= [(38,⟨[],FKyCmp⟩),(39,⟨[],(FTCleanK n)⟩)]) ⟨fcKyCmp,(fcTCleanK n),trivial⟩ Tryz.func36 rfl (by kernel_rfl) (by kernel_rfl) rfl ?_)|((with_reducible show ACall _ _ 37 _ _ _);refine inl tys_ok (l:= [(38,⟨[],FKyCmp⟩),(39,⟨[],(FTCleanK n)⟩)]) ⟨fcKyCmp,(fcTCleanK n),trivial⟩ Tryz.func37 rfl (by kernel_rfl) (by kernel_rfl) rfl ?_)|((with_reducible show Tl _ _);apply tl_intro; · (repeat' (first|exact trivial|refine ⟨?_, ?_⟩|intro _))<;>(first|exact rfl|omega|assumption|(dsimp only;omega)))|skip
    all_goals repeat' (first|exact trivial|(with_reducible first|exact n1|exact n2|exact nd|exact rG|exact hnv|exact nx gc)|refine ⟨?_, ?_⟩|intro _)
    all_goals first|(with_reducible apply qq)|(conv=>whnf)
   all_goals (try simp only [gN_lst,gN_canon] at*)
   all_goals first|exact congrArg (fun v:Vl=>Rt.va (dAr v)) ho|rfl|omega|exact hnv.1.1|exact hnv.2.1.1.1|exact hnv.2.1.1.2|exact hnv.2.1.2.1|exact hnv.2.1.2.2|exact hnv.2.2.1.1|exact hnv.2.2.1.2|exact hnv.2.2.2.1|exact hnv.2.2.2.2
 . cases h
def FCFindL (n:Int):List Ar->Option Rs:=FOr FCFind0 (FCFind1 n)
theorem fcCFindL (n:Int):FC Tryz.prog 18 (FCFindL n):=fcOr fcCFind0 (fcCFind1 n)
def FOtherL (n:Int):List Ar->Option Rs
 | [.c (.d (.v (.slice none 0 0))),.c (.d (.lst 12 1 f1))]=>some ⟨(f1 0=sdL n)/\ (n=1 \/n=5),.va (.c (.d (.lst 2 1 fun _=> [st gNm,it (-1)]))),[]⟩
 |_=>none
theorem fcOtherL (n:Int):FC Tryz.prog 14 (FOtherL n):=by
 intro xs pre r us h hp;unfold FOtherL at h;split at h
 . rename_i f1
   cases h;obtain ⟨hp0,hp1⟩:=hp
   refine FCat.deep (ys:= [.c (.d (.v (.slice none 0 0))),.c (.d (.lst 12 1 fun _=>sdL n))]) ?_ ?_
   . repeat' (first|exact trivial|exact rfl|exact DvE.refl _|refine ⟨?_, ?_⟩|fail)
     all_goals first|exact canonS hp0
   refine fcat tys_ok (l:= [(18,⟨[],(FCFindL n)⟩),(34,⟨[],FTSameK⟩)]) ⟨(fcCFindL n),fcTSameK,trivial⟩ Tryz.func14 rfl (by kernel_rfl) true ?_
   have hnv:=nv_ok hp1
   have hs:=same_0n hp1
   have rG:rI (-1):=⟨by decide,by decide⟩
   have hP:n=1 \/n=5:=hp1
   have hP1:(gNm=gNm/\ (-1:Int)= -1)/\ (n=1 \/n=5):=⟨⟨rfl,rfl⟩,hp1⟩
   repeat' (first|exact trivial|(with_reducible first|assumption|exact n1|exact n2|exact nd|exact rG|exact rfl)|refine ⟨?_, ?_⟩|intro _)
   all_goals first|(with_reducible apply qq)|(conv=>whnf)
   iterate 12
    all_goals first|((with_reducible show ASat _ _ (.loop _) _ _);refine loop_unr tys_ok (l:= [(18,⟨[],(FCFindL n)⟩),(34,⟨[],FTSameK⟩)]) ⟨(fcCFindL n),fcTSameK,trivial⟩ (by kernel_rfl) 3 ?_)|((with_reducible show ACall _ _ 33 _ _ _);refine inl tys_ok (l:= [(18,⟨[],(FCFindL n)⟩),(34,⟨[],FTSameK⟩)]) ⟨(fcCFindL n),fcTSameK,trivial⟩ Tryz.func33 rfl (by kernel_rfl) (by kernel_rfl) rfl ?_)|((with_reducible show ACall _ _ 56 _ _ _);refine inl tys_ok (l:= [(18,⟨[],(FCFindL n)⟩),(34,⟨[],FTSameK⟩)]) ⟨(fcCFindL n),fcTSameK,trivial⟩ Tryz.func56 rfl (by kernel_rfl) (by kernel_rfl) rfl ?_)|((with_reducible show ACall _ _ 29 _ _ _);refine acall_fr ?_;(conv=>whnf);refine acallSum (l:= [(29,⟨[],FRowK⟩)]) ⟨fcRowK,trivial⟩ ?_)|((with_reducible show ASat _ _ (.scope _) _ _);refine scope_ok tys_ok (ls:= [(18,⟨[],(FCFindL n)⟩),(34,⟨[],FTSameK⟩)]) ⟨(fcCFindL n),fcTSameK,trivial⟩ (by kernel_rfl) 0 rfl (X:=Unit) (fun _=>⟨[],[],0,0⟩) (fun _=>0) (fun _=>False) [] [] (fun _ _=>()) (fun _ _ _=>()) [] [] 0 0 ?_ (fun _ h=>h.elim))|((with_reducible show Tl _ _);apply tl_intro; · (repeat' (first|exact trivial|refine ⟨?_, ?_⟩|intro _))<;>(first|exact rfl|omega|assumption|(dsimp only;omega)))|skip
    all_goals repeat' (first|exact trivial|(with_reducible first|assumption|exact n1|exact n2|exact nd|exact rG|exact rfl)|refine ⟨?_, ?_⟩|intro _)
    all_goals first|(with_reducible apply qq)|(conv=>whnf)
   all_goals (try simp only [gN_lst,gN_canon] at*)
   all_goals first|(exact ⟨fun i hi=>by cases Nat.lt_one_iff.1 hi;exact ⟨rfl,by decide,by decide⟩⟩)|rfl|decide|omega|exact nv_of n|exact congrArg (fun b:Bool=>Rt.va (.c (.d (bo b)))) hs|exact hnv.1.1|exact hnv.2.1.1.1|exact hnv.2.1.1.2|exact hnv.2.1.2.1|exact hnv.2.1.2.2|exact hnv.2.2.1.1|exact hnv.2.2.1.2|exact hnv.2.2.2.1|exact hnv.2.2.2.2|(cases Nat.lt_one_iff.1 ‹_<1›;rfl)
 . cases h
end Go.Proofs.YtkfjfgabianfhaaGreat
namespace Go.Proofs.YtkfjfgabianfhaaGreat
open Go.Sx
theorem fcat_frz {P:Program} {f:Nat} {xs:List Ar} {sz n:Nat} {g:Nat->List DV} (h0:arsRows xs= []) (h:FCat P f xs (.va (.c (.ow sz n g))) []):FCat P f xs (.va (.c (.d (.lst sz n g)))) []:=by
 intro S w vals ls hS hr hsep;refine (h S w vals ls hS hr hsep).mono ?_
 rintro e w' ⟨v,S',ls',k1,k2,k3,k4,k5⟩
 match ls',k2 with
 | [.virt],⟨⟨e1,a,e2⟩,e3,_⟩=>
   subst e1;subst e2
   refine ⟨_,S',[],k1,⟨.nil,trivial⟩,k3, ?_,⟨k5.os,k5.tape,k5.output,k5.grow,k5.old,k5.later,k5.newS,fun b hb=> ?_,k5.sdom⟩⟩
   . cases us_:ls with
     |nil=>trivial
     |cons _ _=>trivial
   . obtain ⟨m,hm⟩:=hb;cases hm
 | [.at b m],⟨⟨c,off,e2,hc,ho⟩,⟨arr,e',g1,g2,g3,g4,g5⟩,_⟩=>
   subst e2;have hsb: ¬S' b/\ b<w'.heap.size:=by
    have:Sep S' w' [.at b m]:=k4
    exact ⟨this.1,this.2.1⟩
   have hl:Later S' w' (fun x=>S' x \/x=b) w':=⟨fun _ h=> .inl h,fun _ _=>rfl⟩
   refine ⟨_,fun x=>S' x \/x=b,[],k1,⟨?_,trivial⟩, ?_, ?_,⟨k5.os,k5.tape,k5.output,k5.grow,k5.old,k5.later.trans hl,fun x hx=> ?_,fun x hx=> ?_,fun x hx=> ?_⟩⟩
   . rcases Nat.eq_zero_or_pos n with hn|hn
     . subst hn;exact .nil
     . obtain ⟨rfl,h4⟩:=ho (by omega)
       subst g2;refine .lst (fun i j=>arr.getD (i*sz+j) undef) (.inr rfl) g4 (fun i j hi hj=> ?_) (fun i j hi hj=>(g5 i j hi hj).later hl) hc
       rw [cell_at g1,Nat.zero_mul,Nat.zero_add];have:i*sz+j<arr.size:=by
        have h5:(i+1)*sz<=n*sz:=Nat.mul_le_mul_right sz (by omega)
        rw [Nat.succ_mul] at h5;omega
       simp [Array.getD,this]
   . rw [h0] at k3⊢;cases ls with
     |nil=>trivial
     |cons _ _=>exact k3.elim
   . cases ls with
     |nil=>trivial
     |cons _ _=>trivial
   . rcases hx with hx|rfl
     . exact k5.newS x hx
     . rcases k5.newL x ⟨m,by simp⟩ with h1|h1
       . exact .inr (.inl h1)
       . exact .inr (.inr h1)
   . obtain ⟨m',hm⟩:=hx;cases hm
   . rcases hx with hx|rfl
     . exact k5.sdom x hx
     . exact hsb.2
open Go.RowKit Go.Lib Go.Sort
def frR:Rt->Rt
 | .va (.c (.ow sz n g))=> .va (.c (.d (.lst sz n g)))
 |r=>r
def FFz (F:List Ar->Option Rs) (xs:List Ar):Option Rs:=match arsRows xs with
 | []=>match F xs with
   |some ⟨p,.va (.c (.ow sz n g)),[]⟩=>some ⟨p,.va (.c (.d (.lst sz n g))),[]⟩
   |_=>none
 |_=>none
theorem fcFz {P:Program} {f:Nat} {F:List Ar->Option Rs} (h:FC P f F):FC P f (FFz F):=by
 intro xs pre r us h1 hp;unfold FFz at h1;split at h1
 . rename_i h0
   split at h1
   . rename_i p sz n g e
     cases h1;exact fcat_frz h0 (h xs _ _ _ e hp)
   . cases h1
 . cases h1
def FPutZ:List Ar->Option Rs:=FFz (FN 2 FPutK)
theorem fcPutZ:FC Tryz.prog 13 FPutZ:=fcFz (fc_nil 2 fcPutK)
abbrev kf2:Ky:=⟨⟨#[102]⟩,2⟩
abbrev kf3:Ky:=⟨⟨#[102]⟩,3⟩
theorem rk2:rowK (gKs 0 (fun _=> [])++ [(⟨kf2.cl.name,kf2.cl.node⟩:Ky)])= [kf2]:=by rfl
theorem rk3:rowK (gKs 1 (rwK [kf2])++ [(⟨kf3.cl.name,kf3.cl.node⟩:Ky)])= [kf2,kf3]:=by rfl
theorem pk2:(Rt.va (.c (.d (.lst 2 (rowK (gKs 0 (fun _=> [])++ [(⟨kf2.cl.name,kf2.cl.node⟩:Ky)])).length (rwK (rowK (gKs 0 (fun _=> [])++ [(⟨kf2.cl.name,kf2.cl.node⟩:Ky)])))))))= .va (.c (.d (.lst 2 1 (rwK [kf2])))):=by rw [rk2];rfl
theorem pk3:(Rt.va (.c (.d (.lst 2 (rowK (gKs 1 (rwK [kf2])++ [(⟨kf3.cl.name,kf3.cl.node⟩:Ky)])).length (rwK (rowK (gKs 1 (rwK [kf2])++ [(⟨kf3.cl.name,kf3.cl.node⟩:Ky)])))))))= .va (.c (.d (.lst 2 2 (rwK [kf2,kf3])))):=by rw [rk3];rfl
theorem and_no {a b:Bool} (hb:b=false) (h:(a&&(b&&true))=true):False:=by subst hb;cases a<;>cases h
theorem and_yes {x y:ByteArray} {b:Bool} (he:x=y) (hb:b=true) (h:(x.toList==y.toList&&(b&&true))=false):False:=by subst he;subst hb;simp at h
theorem rk23:RowsK 2 (rwK [kf2,kf3]):=rowsK_of (l:= [kf2,kf3]) fun x hx=>by
 rcases List.mem_cons.1 hx with h|h
 . cases h;exact ⟨by decide,by decide⟩
 . cases List.mem_singleton.1 h;exact ⟨by decide,by decide⟩
theorem ck23:(Rt.va (.c (.d (lstK (gKs 2 (rwK [kf2,kf3]))))))= .va (.c (.d (.lst 2 2 (rwK [kf2,kf3])))):=by rw [show gKs 2 (rwK [kf2,kf3])= [kf2,kf3] from rfl];rfl
theorem rk0:RowsK 0 fun _=> []:=⟨fun _ hi=>absurd hi (Nat.not_lt_zero _)⟩
theorem rk1:RowsK 1 (rwK [kf2]):=rowsK_of (l:= [kf2]) fun x hx=>by cases List.mem_singleton.1 hx;exact ⟨by decide,by decide⟩
def FPutS:List Ar->Option Rs
 | [.c (.d (.v (.slice none 0 0))),k]=>FKn FPutZ (.va (.c (.d (.lst 2 1 (rwK [kf2]))))) [.c (.d (.v (.slice none 0 0))),k]
 |xs=>FKn FPutZ (.va (.c (.d (.lst 2 2 (rwK [kf2,kf3]))))) xs
theorem fcPutS:FC Tryz.prog 13 FPutS:=by
 intro xs pre r us h hp;unfold FPutS at h;split at h
 . exact fcKn fcPutZ _ _ pre r us h hp
 . exact fcKn fcPutZ _ _ pre r us h hp
def nR (f:Nat->List DV):Int:=match (f 0).getD 5 (it 0) with
 | .v (.int .i64 n)=>n
 |_=>0
def FCSumS:List Ar->Option Rs
 | [.c (.d (.lst 12 1 f))]=>FCSum1 (nR f) [.c (.d (.lst 12 1 f))]
 |_=>none
theorem fcCSumS:FC Tryz.prog 11 FCSumS:=by
 intro xs pre r us h hp;unfold FCSumS at h;split at h
 . rename_i f;exact fcCSum1 (nR f) _ pre r us h hp
 . cases h
def FOtherS:List Ar->Option Rs
 | [x,.c (.d (.lst 12 1 f))]=>FOtherL (nR f) [x,.c (.d (.lst 12 1 f))]
 |_=>none
theorem fcOtherS:FC Tryz.prog 14 FOtherS:=by
 intro xs pre r us h hp;unfold FOtherS at h;split at h
 . rename_i x f;exact fcOtherL (nR f) _ pre r us h hp
 . cases h
def FCFindS:List Ar->Option Rs
 | [.c (.d (.lst 12 1 f)),k]=>FCFind1 (nR f) [.c (.d (.lst 12 1 f)),k]
 |xs=>FCFind0 xs
theorem fcCFindS:FC Tryz.prog 18 FCFindS:=by
 intro xs pre r us h hp;unfold FCFindS at h;split at h
 . rename_i f k;exact fcCFind1 (nR f) _ pre r us h hp
 . exact fcCFind0 _ pre r us h hp
abbrev J15:Vl:=⟨⟨⟨true,1,5⟩,⟨true,4,1⟩⟩,⟨false,[]⟩⟩
theorem j15_of:Vl.of J15=J15:=by
 show (⟨Ig.clean _,⟨false,ofS []⟩⟩:Vl)=_
 rw [ofS_nilB];rfl
theorem j15:Vl.of (Vl.join (NV 1) (NV 5))=J15:=by
 have e:Vl.join (NV 1) (NV 5)=J15:=by
  unfold Vl.join;rw [nv_of,nv_of];show (⟨_,⟨_,ofS (ofS []++ofS [])⟩⟩:Vl)=_
  rw [ofS_nilB,List.nil_append,ofS_nilB];rfl
 rw [e,j15_of]
def FJoinS:List Ar->Option Rs
 | [.agg (a::b:: .d (.v (.bool false))::l),y]=>FTJoinK 1 [.agg (a::b:: .d (.v (.bool false))::l),y]
 |xs=>FKn (FP zGG FTJoinD) (.va (dAr J15)) xs
theorem fcJoinS:FC Tryz.prog 19 FJoinS:=by
 intro xs pre r us h hp;unfold FJoinS at h;split at h
 . exact fcTJoinK 1 _ pre r us h hp
 . exact fcKn (fc_nilp zGG fcTJoinD) _ _ pre r us h hp
def FCloneK:List Ar->Option Rs
 | [.c (.d (.lst 2 n0 f0))]=>some ⟨(n0<=1000000000/\ RowsK n0 f0),.va (.c (.d (lstK (gKs n0 f0)))),[]⟩
 |_=>none
theorem fcCloneK:FC Tryz.prog 15 FCloneK:=by
 intro xs pre r us h hp;unfold FCloneK at h;split at h
 . rename_i n0 f0
   cases h;have hp0:=hp
   refine FCat.deep (ys:= [.c (.d (.lst 2 n0 (rwK (gKs n0 f0))))]) ?_ ?_
   . repeat' (first|exact trivial|exact rfl|exact DvE.refl _|refine ⟨?_, ?_⟩|fail)
     all_goals first|exact canonK hp0.2.h
   refine fcat tys_ok (l:= []) trivial Tryz.func15 rfl (by kernel_rfl) true ?_
   have hn:=hp0.1
   have hlen:=gKs_length n0 f0
   generalize gKs n0 f0=L at*
   clear hp0;subst hlen
   repeat' (first|exact trivial|(with_reducible first|exact n1|exact n2|exact nd)|refine ⟨?_, ?_⟩|intro _)
   all_goals first|(with_reducible apply qq)|(conv=>whnf)
   all_goals first|rfl|omega|exact ‹_=true->L.length=0› ‹_›|(simp [appRow];done)
 . cases h
def FCloneS:List Ar->Option Rs:=FKn FCloneK (.va (.c (.d (.lst 2 2 (rwK [kf2,kf3])))))
theorem fcCloneS:FC Tryz.prog 15 FCloneS:=fcKn fcCloneK _
def FBLives:List Ar->Option Rs
 | []=>some ⟨True,.va (.c (.d (bo (true)))),[]⟩
 |_=>none
abbrev sl2B:List (Nat×Sm):= [(21,⟨[],FVNum⟩),(11,⟨[],FCSumS⟩),(10,⟨[],FKyClean⟩),(13,⟨[],FPutS⟩),(14,⟨[],FOtherS⟩),(18,⟨[],FCFindS⟩),(19,⟨[],FJoinS⟩),(15,⟨[],FCloneS⟩),(22,⟨[],FVHasInt⟩)]
theorem sp2B:sumsOk Tryz.prog sl2B:=⟨fcVNum,fcCSumS,fcKyClean,fcPutS,fcOtherS,fcCFindS,fcJoinS,fcCloneS,fcVHasInt,trivial⟩
theorem fcBLives:FC Tryz.prog 9 FBLives:=by
 intro xs pre r us h hp;unfold FBLives at h;split at h
 . cases h;refine fcat tys_ok (l:=sl2B) sp2B Tryz.func9 rfl (by kernel_rfl) true ?_
   have hi1: ∀t,Vl.hasInt ⟨⟨⟨true,1,5⟩,⟨true,4,1⟩⟩,t⟩ 1=true:=fun _=>rfl
   have hi5: ∀t,Vl.hasInt ⟨⟨⟨true,1,5⟩,⟨true,4,1⟩⟩,t⟩ 5=true:=fun _=>by show (Sp.has ⟨true,1,5⟩ 5&&Cg.has ⟨true,4,1⟩ 5)=true;decide
   have rG:rI (-1):=⟨by decide,by decide⟩
   repeat' (first|exact trivial|(with_reducible first|exact n1|exact n2|exact nd|exact pk2|exact pk3|exact rk0|exact rk1|exact (.inl rfl)|exact (.inr rfl)|exact (fun h=>(and_no (by decide) h).elim)|exact (fun h=>(and_yes (by with_unfolding_all rfl) (by decide) h).elim)|exact rk23|exact ck23|exact hi1|exact hi5|exact rG|exact (nx (hi1 _))|exact (nx (hi5 _)))|refine ⟨?_, ?_⟩|intro _)
   all_goals first|(with_reducible apply qq)|(conv=>whnf)
   iterate 24
    all_goals first|((with_reducible show ASat _ _ (.loop _) _ _);refine loop_unr tys_ok (l:=sl2B) sp2B (by kernel_rfl) 3 ?_)|((with_reducible show ACall _ _ 20 _ _ _);refine inl tys_ok (l:=sl2B) sp2B Tryz.func20 rfl (by kernel_rfl) (by kernel_rfl) rfl ?_)|((with_reducible show ACall _ _ 8 _ _ _);refine inl tys_ok (l:=sl2B) sp2B Tryz.func8 rfl (by kernel_rfl) (by kernel_rfl) rfl ?_)|((with_reducible show ACall _ _ 6 _ _ _);refine inl tys_ok (l:=sl2B) sp2B Tryz.func6 rfl (by kernel_rfl) (by kernel_rfl) rfl ?_)|((with_reducible show ACall _ _ 4 _ _ _);refine inl tys_ok (l:=sl2B) sp2B Tryz.func4 rfl (by kernel_rfl) (by kernel_rfl) rfl ?_)|((with_reducible show ASat _ _ (.region 5 _ _) _ _);refine draw_sto tys_ok (l:=sl2B) sp2B (by kernel_rfl) 14 [(12,11)] (.done) [0,1,3,4,5,7,8,12,13,14,15] (by kernel_rfl) (by kernel_rfl) ?_)|((with_reducible show ASat _ _ (.region 5 _ _) _ _);refine draw_sto tys_ok (l:=sl2B) sp2B (by kernel_rfl) 6 [] (.all [(6,.all [(7,.take 8 (.done))])]) [0,1,2,3,4,5,6,9] (by kernel_rfl) (by kernel_rfl) ?_)|((with_reducible show ASat _ _ (.region 6 _ _) _ _);refine draw_sto tys_ok (l:=sl2B) sp2B (by kernel_rfl) 6 [] (.all [(6,.all [(7,.done)])]) [0,1,2,3,4,5,6,9] (by kernel_rfl) (by kernel_rfl) ?_)|((with_reducible show ASat _ _ (.region 8 _ _) _ _);refine draw_sto tys_ok (l:=sl2B) sp2B (by kernel_rfl) 23 [] (.all [(23,.all [(24,.all [(25,.all [(26,.take 27 (.done))])])])]) [0,1,2,3,4,5,6,9] (by kernel_rfl) (by kernel_rfl) ?_)|((with_reducible show ASat _ _ (.region 4 _ _) _ _);refine draw_sto tys_ok (l:=sl2B) sp2B (by kernel_rfl) 10 [] (.done) [0,1,2,4,6,7,8,10,12,14,25,26,27,28,47,48,49,50,77] (by kernel_rfl) (by kernel_rfl) ?_)|((with_reducible show ASat _ _ (.region 13 _ _) _ _);refine draw_sto tys_ok (l:=sl2B) sp2B (by kernel_rfl) 15 [] (.all [(15,.done)]) [0,1,2,4,6,7,8,10,12,14,25,26,27,28,47,48,49,50,77] (by kernel_rfl) (by kernel_rfl) ?_)|((with_reducible show ASat _ _ (.region 15 _ _) _ _);refine draw_sto tys_ok (l:=sl2B) sp2B (by kernel_rfl) 6 [] (.all [(6,.done)]) [0,1,2,4,6,7,8,10,12,14,25,26,27,28,47,48,49,50,77] (by kernel_rfl) (by kernel_rfl) ?_)|((with_reducible show ASat _ _ (.region 3 _ _) _ _);refine draw_sto tys_ok (l:=sl2B) sp2B (by kernel_rfl) 9 [] (.done) [0,1,3,4,6] (by kernel_rfl) (by kernel_rfl) ?_)|((with_reducible show Tl _ _);apply tl_intro; · (repeat' (first|exact trivial|refine ⟨?_, ?_⟩|intro _))<;>(first|exact rfl|omega|assumption|(dsimp only;omega)))|skip
    all_goals repeat' (first|exact trivial|(with_reducible first|exact n1|exact n2|exact nd|exact pk2|exact pk3|exact rk0|exact rk1|exact (.inl rfl)|exact (.inr rfl)|exact (fun h=>(and_no (by decide) h).elim)|exact (fun h=>(and_yes (by with_unfolding_all rfl) (by decide) h).elim)|exact rk23|exact ck23|exact hi1|exact hi5|exact rG|exact (nx (hi1 _))|exact (nx (hi5 _)))|refine ⟨?_, ?_⟩|intro _)
    all_goals first|(with_reducible apply qq)|(conv=>whnf)
   all_goals first|rfl|omega|decide|exact congrArg (fun v=>Rt.va (dAr v)) (zn_join (.inl rfl))|exact congrArg (fun v=>Rt.va (dAr v)) j15
 . cases h
end Go.Proofs.YtkfjfgabianfhaaGreat
namespace Go.Proofs.YtkfjfgabianfhaaGreat
open Go.Sx
def FBNone:List Ar->Option Rs
 | [.agg [.d (.v (.string _)),.d (.v (.int .i64 _))],.c (.d (.lst 12 _ _))]=>some ⟨True,.va (.c (.d (bo (true)))),[]⟩
 |_=>none
abbrev sl3B:List (Nat×Sm):= [(9,⟨[],FBLives⟩)]
theorem sp3B:sumsOk Tryz.prog sl3B:=⟨fcBLives,trivial⟩
theorem fcBNone:FC Tryz.prog 3 FBNone:=by
 intro xs pre r us h hp;unfold FBNone at h;split at h
 . rename_i x0 i0 n1 f1
   cases h;refine fcat tys_ok (l:=sl3B) sp3B Tryz.func3 rfl (by kernel_rfl) true ?_
   repeat' (first|exact trivial|(with_reducible first|exact n1|exact n2|exact nd)|refine ⟨?_, ?_⟩|intro _)
   all_goals first|(with_reducible apply qq)|(conv=>whnf)
   iterate 16
    all_goals first|((with_reducible show ASat _ _ (.loop _) _ _);refine loop_unr tys_ok (l:=sl3B) sp3B (by kernel_rfl) 1 ?_)|((with_reducible show ACall _ _ 4 _ _ _);refine inl tys_ok (l:=sl3B) sp3B Tryz.func4 rfl (by kernel_rfl) (by kernel_rfl) rfl ?_)|((with_reducible show ACall _ _ 5 _ _ _);refine inl tys_ok (l:=sl3B) sp3B Tryz.func5 rfl (by kernel_rfl) (by kernel_rfl) rfl ?_)|((with_reducible show ACall _ _ 6 _ _ _);refine inl tys_ok (l:=sl3B) sp3B Tryz.func6 rfl (by kernel_rfl) (by kernel_rfl) rfl ?_)|((with_reducible show ACall _ _ 8 _ _ _);refine inl tys_ok (l:=sl3B) sp3B Tryz.func8 rfl (by kernel_rfl) (by kernel_rfl) rfl ?_)|((with_reducible show ACall _ _ 7 _ _ _);refine inl tys_ok (l:=sl3B) sp3B Tryz.func7 rfl (by kernel_rfl) (by kernel_rfl) rfl ?_)|((with_reducible show ACall _ _ 16 _ _ _);refine inl tys_ok (l:=sl3B) sp3B Tryz.func16 rfl (by kernel_rfl) (by kernel_rfl) rfl ?_)|((with_reducible show ACall _ _ 17 _ _ _);refine inl tys_ok (l:=sl3B) sp3B Tryz.func17 rfl (by kernel_rfl) (by kernel_rfl) rfl ?_)|((with_reducible show ACall _ _ 35 _ _ _);refine inl tys_ok (l:=sl3B) sp3B Tryz.func35 rfl (by kernel_rfl) (by kernel_rfl) rfl ?_)|((with_reducible show Tl _ _);apply tl_intro; · (repeat' (first|exact trivial|refine ⟨?_, ?_⟩|intro _))<;>(first|exact rfl|omega|assumption|(dsimp only;omega)))|skip
    all_goals repeat' (first|exact trivial|(with_reducible first|exact n1|exact n2|exact nd)|refine ⟨?_, ?_⟩|intro _)
    all_goals first|(with_reducible apply qq)|(conv=>whnf)
   all_goals first|rfl|omega|decide
 . cases h
end Go.Proofs.YtkfjfgabianfhaaGreat
