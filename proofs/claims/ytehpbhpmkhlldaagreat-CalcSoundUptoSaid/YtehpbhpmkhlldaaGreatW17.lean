/- What spans come to: rests, all of it. No condition. -/
import Derived.Test.YtehpbhpmkhlldaaGreatW16
set_option linter.all false
set_option maxHeartbeats 8000000
set_option maxRecDepth 100000
namespace Go.Proofs.YtehpbhpmkhlldaaGreat
open Go.Sx
theorem rest_m {b:Sp} (hb:b.inR):clampI (wd ((maxW (wd (absI b.lo)) (wd (absI b.hi))).val-(wd 1).val)).val=restM b:=by
 obtain ⟨⟨a1,a2⟩,a3,a4⟩:=hb
 have r1:0<=absI b.lo/\ absI b.lo<=9223372036854775808:=by unfold absI;split<;>omega
 have r2:0<=absI b.hi/\ absI b.hi<=9223372036854775808:=by unfold absI;split<;>omega
 have e:(maxW (wd (absI b.lo)) (wd (absI b.hi))).val=restM b+1:=by
  unfold maxW wCmp restM
  rw [wd_val (by omega) (by omega),wd_val (by omega) (by omega)]
  (repeat' split)<;>first|omega|(rw [wd_val (by omega) (by omega)];omega)
 rw [e,show (wd 1).val=1 from rfl,Int.add_sub_cancel]
 have r3: -1<=restM b/\ restM b<9223372036854775808:=by unfold restM;split<;>omega
 rw [wd_val (by omega) (by omega)]
 have hB:wIntB (restM b)=true:=by unfold wIntB;simp;omega
 have hV:wIntV (restM b)=restM b:=by unfold wIntV;rw [if_pos (by omega)]
 unfold clampI
 rw [if_pos hB,hV]
theorem doI_rng {op a b:Int} (ra: -9223372036854775808<=a/\ a<9223372036854775808): -9223372036854775808<=doI op a b/\ doI op a b<9223372036854775808:=by
 unfold doI
 split
 . exact wr_r _
 . split
   . split
     . decide
     . exact wr_r _
   . split
     . split
       . decide
       . rename_i hb
         by_cases hm: -9223372036854775808<=b/\ b<=9223372036854775808
         . have h1:=tm_bound (x:=a) (m:=9223372036854775808) hb (by omega) (by omega)
           rcases Int.le_total 0 a with h|h
           . have:=h1.1 h;omega
           . have:=h1.2 h;omega
         . have h1:=tm_bound (x:=a) (m:=b+ -b+(if 0<b then b else-b)) hb (by split<;>omega) (by split<;>omega)
           rcases Int.le_total 0 a with h|h
           . have:=h1.1 h;omega
           . have:=h1.2 h;omega
     . split
       . split<;>decide
       . decide
section
variable {a b:Sp}
theorem rs_0 (h:(parts b).isEmpty=true):restS a b=noS:=by unfold restS;rw [if_pos h]
theorem rs_1 (h:(parts b).isEmpty=false) (h1:(a.lo==a.hi)=true) (h2:(b.lo==b.hi)=true):restS a b=Sp.of (doI 9 a.lo b.lo) (doI 9 a.lo b.lo):=by
 unfold restS;rw [if_neg (by rw [h];decide),if_pos ⟨eq_of_beq h1,eq_of_beq h2⟩]
def mxI (x c:Int):Int:=if IntKind.wrap .i64 (0-c)>x then IntKind.wrap .i64 (0-c) else x
def mnI (c x:Int):Int:=if c<x then c else x
theorem restM_r (hb:b.inR): -1<=restM b/\ restM b<9223372036854775808:=by
 obtain ⟨⟨a1,a2⟩,a3,a4⟩:=hb
 have r1:0<=absI b.lo/\ absI b.lo<=9223372036854775808:=by unfold absI;split<;>omega
 have r2:0<=absI b.hi/\ absI b.hi<=9223372036854775808:=by unfold absI;split<;>omega
 unfold restM;split<;>omega
theorem rs_2 {c:Int} (h:(parts b).isEmpty=false) (h1:(a.lo==a.hi)=false \/(b.lo==b.hi)=false) (hb:b.inR) (hc:c=restM b):restS a b=Sp.of (if a.lo<0 then mxI a.lo c else 0) (if 0<a.hi then mnI c a.hi else 0):=by
 have hr:=restM_r hb
 unfold restS mxI mnI;rw [if_neg (by rw [h];decide),if_neg (by rintro ⟨x,y⟩;rcases h1 with k|k<;>exact (ne_of_beq_false k) (by assumption)),hc,wI_id (0-restM b) (by omega) (by omega)]
 congr 1
 split
 . split<;>split<;>omega
 . rfl
theorem rs_tt {c:Int} (h:(parts b).isEmpty=false) (h1:(a.lo==a.hi)=false \/(b.lo==b.hi)=false) (hb:b.inR) (hc:c=restM b) (k1:decide (a.lo<0)=true) (k2:decide (a.hi>0)=true):restS a b=Sp.of (mxI a.lo c) (mnI c a.hi):=by
 rw [rs_2 h h1 hb hc,if_pos (of_decide_eq_true k1),if_pos (of_decide_eq_true k2)]
theorem rs_tf {c:Int} (h:(parts b).isEmpty=false) (h1:(a.lo==a.hi)=false \/(b.lo==b.hi)=false) (hb:b.inR) (hc:c=restM b) (k1:decide (a.lo<0)=true) (k2:decide (a.hi>0)=false):restS a b=Sp.of (mxI a.lo c) 0:=by
 rw [rs_2 h h1 hb hc,if_pos (of_decide_eq_true k1),if_neg (of_decide_eq_false k2)]
theorem rs_ft {c:Int} (h:(parts b).isEmpty=false) (h1:(a.lo==a.hi)=false \/(b.lo==b.hi)=false) (hb:b.inR) (hc:c=restM b) (k1:decide (a.lo<0)=false) (k2:decide (a.hi>0)=true):restS a b=Sp.of 0 (mnI c a.hi):=by
 rw [rs_2 h h1 hb hc,if_neg (of_decide_eq_false k1),if_pos (of_decide_eq_true k2)]
theorem rs_ff {c:Int} (h:(parts b).isEmpty=false) (h1:(a.lo==a.hi)=false \/(b.lo==b.hi)=false) (hb:b.inR) (hc:c=restM b) (k1:decide (a.lo<0)=false) (k2:decide (a.hi>0)=false):restS a b=Sp.of 0 0:=by
 rw [rs_2 h h1 hb hc,if_neg (of_decide_eq_false k1),if_neg (of_decide_eq_false k2)]
theorem mx_r {c x:Int} (hx: -9223372036854775808<=x/\ x<9223372036854775808) (hb:b.inR) (hc:c=restM b): -9223372036854775808<=mxI x c/\ mxI x c<9223372036854775808:=by
 have hr:=restM_r hb
 unfold mxI;rw [hc,wI_id (0-restM b) (by omega) (by omega)];split<;>omega
theorem mn_r {c x:Int} (hx: -9223372036854775808<=x/\ x<9223372036854775808) (hb:b.inR) (hc:c=restM b): -9223372036854775808<=mnI c x/\ mnI c x<9223372036854775808:=by
 have hr:=restM_r hb
 unfold mnI;rw [hc];split<;>omega
theorem or1 {p q:Prop} (h:p):p \/q:= .inl h
theorem or2 {p q:Prop} (h:q):p \/q:= .inr h
end
section
variable {op:Int} {a b:Sp}
theorem rd_n1 (h:a.none=true):rkDo op a b=noS:=by unfold rkDo;rw [if_pos (by rw [h];rfl)]
theorem rd_n2 (h:b.none=true):rkDo op a b=noS:=by unfold rkDo;rw [if_pos (by rw [h,Bool.or_true])]
theorem rd_i (h:a.none=false) (h2:b.none=false):(a.none||b.none)≠true:=by rw [h,h2];decide
theorem rd_e (h:a.none=false) (h2:b.none=false) (he:exB op=true):rkDo op a b=around (corners (exI op) a b):=by unfold rkDo;rw [if_neg (rd_i h h2),if_pos he]
theorem rd_8 (h:a.none=false) (h2:b.none=false):rkDo 8 a b=divS a b:=by unfold rkDo;rw [if_neg (rd_i h h2),if_neg (by decide),if_pos rfl]
theorem rd_9 (h:a.none=false) (h2:b.none=false):rkDo 9 a b=restS a b:=by unfold rkDo;rw [if_neg (rd_i h h2),if_neg (by decide),if_neg (by decide),if_pos rfl]
theorem rd_c (h:a.none=false) (h2:b.none=false) (e:op≠10/\ op≠11/\ op≠7/\ op≠8/\ op≠9):rkDo op a b=cmpS op a b:=by
 unfold rkDo;rw [if_neg (rd_i h h2),if_neg (by unfold exB;simp;omega),if_neg e.2.2.2.1,if_neg e.2.2.2.2]
theorem ro_n (h:a.none=true):rkOne op a=noS:=by unfold rkOne;rw [if_pos h]
theorem ro_5 (h:a.none=false):rkOne 5 a=rkDo 11 (Sp.of 0 0) a:=by unfold rkOne;rw [if_neg (by rw [h];decide),if_pos rfl]
theorem ro_6 (h:a.none=false):rkOne 6 a=truthS (aloneS a 0) (!a.has 0):=by unfold rkOne;rw [if_neg (by rw [h];decide),if_neg (by decide),if_pos rfl]
theorem ro_x (h:a.none=false) (h5:op≠5) (h6:op≠6):rkOne op a=noS:=by unfold rkOne;rw [if_neg (by rw [h];decide),if_neg h5,if_neg h6]
end
theorem crn_e {op:Int} {a b:Sp} (ha:a.inR) (hb:b.inR):valsW 4 (rwW (crn (exI op) a b))=corners (exI op) a b/\ Wrg 4 (rwW (crn (exI op) a b)):=
 rw_vals (ex_rng ha.1 hb.1) (ex_rng ha.1 hb.2) (ex_rng ha.2 hb.1) (ex_rng ha.2 hb.2)
def FReRest:List Ar->Option Rs
 | [.agg [.d (.v (.bool s0)),.d (.v (.int .i64 l0)),.d (.v (.int .i64 h0))],.agg [.d (.v (.bool s1)),.d (.v (.int .i64 l1)),.d (.v (.int .i64 h1))]]=>some ⟨(Sp.inR ⟨s0,l0,h0⟩)/\ (Sp.inR ⟨s1,l1,h1⟩),.va (Sp.ar (restS (⟨s0,l0,h0⟩:Sp) (⟨s1,l1,h1⟩:Sp))),[]⟩
 |_=>none
theorem fcReRest:FC Tryz.prog 144 FReRest:=by
 intro xs pre r us h hp
 unfold FReRest at h
 split at h
 . rename_i s0 l0 h0 s1 l1 h1
   cases h
   obtain ⟨hp0,hp1⟩:=hp
   refine fcat tys_ok (l:= [(165,⟨[],(FReParts (parts (⟨s1,l1,h1⟩:Sp)) (parts (⟨s1,l1,h1⟩:Sp)).length)⟩),(146,⟨[],FXDo⟩),(63,⟨[],FSOne⟩),(168,⟨[],FReSize⟩),(122,⟨[],FWOf⟩),(123,⟨[],FWMax⟩),(121,⟨[],FWSub⟩),(167,⟨[],FWClamp⟩),(85,⟨[],FSOf⟩)]) ⟨(fcReParts (parts (⟨s1,l1,h1⟩:Sp)) (parts (⟨s1,l1,h1⟩:Sp)).length),fcXDo,fcSOne,fcReSize,fcWOf,fcWMax,fcWSub,fcWClamp,fcSOf,trivial⟩ Tryz.func144 rfl (by kernel_rfl) true ?_
   have hm:=rest_m hp1
   have hB:=hp1
   have hpp:=And.intro hp1 (And.intro (rfl:(parts (⟨s1,l1,h1⟩:Sp))=(parts (⟨s1,l1,h1⟩:Sp))) (rfl:(parts (⟨s1,l1,h1⟩:Sp)).length=(parts (⟨s1,l1,h1⟩:Sp)).length))
   unfold Sp.inR at hp0 hp1
   generalize hL:(parts (⟨s1,l1,h1⟩:Sp)).length=k at*
   have hE:(parts (⟨s1,l1,h1⟩:Sp)).isEmpty=(k==0):=by rw [<-hL];cases (parts (⟨s1,l1,h1⟩:Sp))<;>rfl
   cases hk:((k:Int)==0)
   all_goals (have hE2:(parts (⟨s1,l1,h1⟩:Sp)).isEmpty=decide (k=0):=by rw [hE];rfl)
   . have hE3:(parts (⟨s1,l1,h1⟩:Sp)).isEmpty=false:=by rw [hE2,decide_eq_false];exact fun h=>ne_of_beq_false hk (by rw [h];rfl)
     repeat' (first|exact trivial|(with_reducible first|exact hp0|exact hp1|exact hp2|exact hp0.1|exact hp0.2|exact hp1.1|exact hp1.2|exact hp2.1|exact hp2.2|exact wd_ok _|exact (wd_ok _).1.1|exact (wd_ok _).1.2|exact (wd_ok _).2.1|exact (wd_ok _).2.2|exact (fun h:false=true=>absurd h (by decide))|exact (fun h:true=false=>absurd h (by decide))|exact hpp|exact (fun h=>absurd (hk.symm.trans h) (by decide)))|refine ⟨?_, ?_⟩|intro _)
     all_goals first|(with_reducible first|apply qa|apply qb|apply qc|apply qd)|(conv=>whnf)
     all_goals first|decide|exact hL|(with_reducible rfl)|(have o1:=‹(l0==h0)=true›;have o2:=‹(l1==h1)=true›;first|((with_reducible show Value.bool (Sp.some _)=_);exact congrArg (fun i:Sp=>Value.bool i.some) ((rs_1 (a:=⟨s0,l0,h0⟩) (b:=⟨s1,l1,h1⟩) hE3 o1 o2).symm))|((with_reducible show Value.int _ (Sp.lo _)=_);exact congrArg (fun i:Sp=>Value.int .i64 i.lo) ((rs_1 (a:=⟨s0,l0,h0⟩) (b:=⟨s1,l1,h1⟩) hE3 o1 o2).symm))|((with_reducible show Value.int _ (Sp.hi _)=_);exact congrArg (fun i:Sp=>Value.int .i64 i.hi) ((rs_1 (a:=⟨s0,l0,h0⟩) (b:=⟨s1,l1,h1⟩) hE3 o1 o2).symm)))|((with_reducible show Value.bool false=_);exact congrArg (fun i:Sp=>Value.bool i.some) ((rs_0 hE3).symm))|((with_reducible show Value.int _ 0=_);first|exact congrArg (fun i:Sp=>Value.int .i64 i.lo) ((rs_0 hE3).symm)|exact congrArg (fun i:Sp=>Value.int .i64 i.hi) ((rs_0 hE3).symm))|(have k1:=‹decide (l0<0)=true›;have k2:=‹decide (h0>0)=true›;have o:=‹(l0==h0)=false›;first|((with_reducible show Value.bool (Sp.some _)=_);exact congrArg (fun i:Sp=>Value.bool i.some) ((rs_tt (a:=⟨s0,l0,h0⟩) (b:=⟨s1,l1,h1⟩) (c:=_) hE3 (or1 o) hB hm k1 k2).symm))|((with_reducible show Value.int _ (Sp.lo _)=_);exact congrArg (fun i:Sp=>Value.int .i64 i.lo) ((rs_tt (a:=⟨s0,l0,h0⟩) (b:=⟨s1,l1,h1⟩) (c:=_) hE3 (or1 o) hB hm k1 k2).symm))|((with_reducible show Value.int _ (Sp.hi _)=_);exact congrArg (fun i:Sp=>Value.int .i64 i.hi) ((rs_tt (a:=⟨s0,l0,h0⟩) (b:=⟨s1,l1,h1⟩) (c:=_) hE3 (or1 o) hB hm k1 k2).symm)))|(have k1:=‹decide (l0<0)=true›;have k2:=‹decide (h0>0)=true›;have o:=‹(l1==h1)=false›;first|((with_reducible show Value.bool (Sp.some _)=_);exact congrArg (fun i:Sp=>Value.bool i.some) ((rs_tt (a:=⟨s0,l0,h0⟩) (b:=⟨s1,l1,h1⟩) (c:=_) hE3 (or2 o) hB hm k1 k2).symm))|((with_reducible show Value.int _ (Sp.lo _)=_);exact congrArg (fun i:Sp=>Value.int .i64 i.lo) ((rs_tt (a:=⟨s0,l0,h0⟩) (b:=⟨s1,l1,h1⟩) (c:=_) hE3 (or2 o) hB hm k1 k2).symm))|((with_reducible show Value.int _ (Sp.hi _)=_);exact congrArg (fun i:Sp=>Value.int .i64 i.hi) ((rs_tt (a:=⟨s0,l0,h0⟩) (b:=⟨s1,l1,h1⟩) (c:=_) hE3 (or2 o) hB hm k1 k2).symm)))|(have k1:=‹decide (l0<0)=true›;have k2:=‹decide (h0>0)=false›;have o:=‹(l0==h0)=false›;first|((with_reducible show Value.bool (Sp.some _)=_);exact congrArg (fun i:Sp=>Value.bool i.some) ((rs_tf (a:=⟨s0,l0,h0⟩) (b:=⟨s1,l1,h1⟩) (c:=_) hE3 (or1 o) hB hm k1 k2).symm))|((with_reducible show Value.int _ (Sp.lo _)=_);exact congrArg (fun i:Sp=>Value.int .i64 i.lo) ((rs_tf (a:=⟨s0,l0,h0⟩) (b:=⟨s1,l1,h1⟩) (c:=_) hE3 (or1 o) hB hm k1 k2).symm))|((with_reducible show Value.int _ (Sp.hi _)=_);exact congrArg (fun i:Sp=>Value.int .i64 i.hi) ((rs_tf (a:=⟨s0,l0,h0⟩) (b:=⟨s1,l1,h1⟩) (c:=_) hE3 (or1 o) hB hm k1 k2).symm)))|(have k1:=‹decide (l0<0)=true›;have k2:=‹decide (h0>0)=false›;have o:=‹(l1==h1)=false›;first|((with_reducible show Value.bool (Sp.some _)=_);exact congrArg (fun i:Sp=>Value.bool i.some) ((rs_tf (a:=⟨s0,l0,h0⟩) (b:=⟨s1,l1,h1⟩) (c:=_) hE3 (or2 o) hB hm k1 k2).symm))|((with_reducible show Value.int _ (Sp.lo _)=_);exact congrArg (fun i:Sp=>Value.int .i64 i.lo) ((rs_tf (a:=⟨s0,l0,h0⟩) (b:=⟨s1,l1,h1⟩) (c:=_) hE3 (or2 o) hB hm k1 k2).symm))|((with_reducible show Value.int _ (Sp.hi _)=_);exact congrArg (fun i:Sp=>Value.int .i64 i.hi) ((rs_tf (a:=⟨s0,l0,h0⟩) (b:=⟨s1,l1,h1⟩) (c:=_) hE3 (or2 o) hB hm k1 k2).symm)))|(have k1:=‹decide (l0<0)=false›;have k2:=‹decide (h0>0)=true›;have o:=‹(l0==h0)=false›;first|((with_reducible show Value.bool (Sp.some _)=_);exact congrArg (fun i:Sp=>Value.bool i.some) ((rs_ft (a:=⟨s0,l0,h0⟩) (b:=⟨s1,l1,h1⟩) (c:=_) hE3 (or1 o) hB hm k1 k2).symm))|((with_reducible show Value.int _ (Sp.lo _)=_);exact congrArg (fun i:Sp=>Value.int .i64 i.lo) ((rs_ft (a:=⟨s0,l0,h0⟩) (b:=⟨s1,l1,h1⟩) (c:=_) hE3 (or1 o) hB hm k1 k2).symm))|((with_reducible show Value.int _ (Sp.hi _)=_);exact congrArg (fun i:Sp=>Value.int .i64 i.hi) ((rs_ft (a:=⟨s0,l0,h0⟩) (b:=⟨s1,l1,h1⟩) (c:=_) hE3 (or1 o) hB hm k1 k2).symm)))|(have k1:=‹decide (l0<0)=false›;have k2:=‹decide (h0>0)=true›;have o:=‹(l1==h1)=false›;first|((with_reducible show Value.bool (Sp.some _)=_);exact congrArg (fun i:Sp=>Value.bool i.some) ((rs_ft (a:=⟨s0,l0,h0⟩) (b:=⟨s1,l1,h1⟩) (c:=_) hE3 (or2 o) hB hm k1 k2).symm))|((with_reducible show Value.int _ (Sp.lo _)=_);exact congrArg (fun i:Sp=>Value.int .i64 i.lo) ((rs_ft (a:=⟨s0,l0,h0⟩) (b:=⟨s1,l1,h1⟩) (c:=_) hE3 (or2 o) hB hm k1 k2).symm))|((with_reducible show Value.int _ (Sp.hi _)=_);exact congrArg (fun i:Sp=>Value.int .i64 i.hi) ((rs_ft (a:=⟨s0,l0,h0⟩) (b:=⟨s1,l1,h1⟩) (c:=_) hE3 (or2 o) hB hm k1 k2).symm)))|(have k1:=‹decide (l0<0)=false›;have k2:=‹decide (h0>0)=false›;have o:=‹(l0==h0)=false›;first|((with_reducible show Value.bool (Sp.some _)=_);exact congrArg (fun i:Sp=>Value.bool i.some) ((rs_ff (a:=⟨s0,l0,h0⟩) (b:=⟨s1,l1,h1⟩) (c:=_) hE3 (or1 o) hB hm k1 k2).symm))|((with_reducible show Value.int _ (Sp.lo _)=_);exact congrArg (fun i:Sp=>Value.int .i64 i.lo) ((rs_ff (a:=⟨s0,l0,h0⟩) (b:=⟨s1,l1,h1⟩) (c:=_) hE3 (or1 o) hB hm k1 k2).symm))|((with_reducible show Value.int _ (Sp.hi _)=_);exact congrArg (fun i:Sp=>Value.int .i64 i.hi) ((rs_ff (a:=⟨s0,l0,h0⟩) (b:=⟨s1,l1,h1⟩) (c:=_) hE3 (or1 o) hB hm k1 k2).symm)))|(have k1:=‹decide (l0<0)=false›;have k2:=‹decide (h0>0)=false›;have o:=‹(l1==h1)=false›;first|((with_reducible show Value.bool (Sp.some _)=_);exact congrArg (fun i:Sp=>Value.bool i.some) ((rs_ff (a:=⟨s0,l0,h0⟩) (b:=⟨s1,l1,h1⟩) (c:=_) hE3 (or2 o) hB hm k1 k2).symm))|((with_reducible show Value.int _ (Sp.lo _)=_);exact congrArg (fun i:Sp=>Value.int .i64 i.lo) ((rs_ff (a:=⟨s0,l0,h0⟩) (b:=⟨s1,l1,h1⟩) (c:=_) hE3 (or2 o) hB hm k1 k2).symm))|((with_reducible show Value.int _ (Sp.hi _)=_);exact congrArg (fun i:Sp=>Value.int .i64 i.hi) ((rs_ff (a:=⟨s0,l0,h0⟩) (b:=⟨s1,l1,h1⟩) (c:=_) hE3 (or2 o) hB hm k1 k2).symm)))|exact (doI_rng hp0.1).1|exact (doI_rng hp0.1).2|exact (mx_r hp0.1 hB hm).1|exact (mx_r hp0.1 hB hm).2|exact (mn_r hp0.2 hB hm).1|exact (mn_r hp0.2 hB hm).2|exact (wd_ok (absI h1)).1.1|exact (wd_ok (absI h1)).1.2|exact (wd_ok (absI h1)).2.1|exact (wd_ok (absI h1)).2.2|exact (maxW_ok (wd_ok (absI l1)) (wd_ok (absI h1))).1.1|exact (maxW_ok (wd_ok (absI l1)) (wd_ok (absI h1))).1.2|exact (maxW_ok (wd_ok (absI l1)) (wd_ok (absI h1))).2.1|exact (maxW_ok (wd_ok (absI l1)) (wd_ok (absI h1))).2.2|rfl
   . have hE3:(parts (⟨s1,l1,h1⟩:Sp)).isEmpty=true:=by rw [hE2,decide_eq_true];have:=eq_of_beq hk;omega
     repeat' (first|exact trivial|(with_reducible first|exact hp0|exact hp1|exact hp2|exact hp0.1|exact hp0.2|exact hp1.1|exact hp1.2|exact hp2.1|exact hp2.2|exact wd_ok _|exact (wd_ok _).1.1|exact (wd_ok _).1.2|exact (wd_ok _).2.1|exact (wd_ok _).2.2|exact (fun h:false=true=>absurd h (by decide))|exact (fun h:true=false=>absurd h (by decide))|exact hpp|exact (fun h=>absurd (hk.symm.trans h) (by decide)))|refine ⟨?_, ?_⟩|intro _)
     all_goals first|(with_reducible first|apply qa|apply qb|apply qc|apply qd)|(conv=>whnf)
     all_goals first|decide|exact hL|(with_reducible rfl)|(have o1:=‹(l0==h0)=true›;have o2:=‹(l1==h1)=true›;first|((with_reducible show Value.bool (Sp.some _)=_);exact congrArg (fun i:Sp=>Value.bool i.some) ((rs_1 (a:=⟨s0,l0,h0⟩) (b:=⟨s1,l1,h1⟩) hE3 o1 o2).symm))|((with_reducible show Value.int _ (Sp.lo _)=_);exact congrArg (fun i:Sp=>Value.int .i64 i.lo) ((rs_1 (a:=⟨s0,l0,h0⟩) (b:=⟨s1,l1,h1⟩) hE3 o1 o2).symm))|((with_reducible show Value.int _ (Sp.hi _)=_);exact congrArg (fun i:Sp=>Value.int .i64 i.hi) ((rs_1 (a:=⟨s0,l0,h0⟩) (b:=⟨s1,l1,h1⟩) hE3 o1 o2).symm)))|((with_reducible show Value.bool false=_);exact congrArg (fun i:Sp=>Value.bool i.some) ((rs_0 hE3).symm))|((with_reducible show Value.int _ 0=_);first|exact congrArg (fun i:Sp=>Value.int .i64 i.lo) ((rs_0 hE3).symm)|exact congrArg (fun i:Sp=>Value.int .i64 i.hi) ((rs_0 hE3).symm))|(have k1:=‹decide (l0<0)=true›;have k2:=‹decide (h0>0)=true›;have o:=‹(l0==h0)=false›;first|((with_reducible show Value.bool (Sp.some _)=_);exact congrArg (fun i:Sp=>Value.bool i.some) ((rs_tt (a:=⟨s0,l0,h0⟩) (b:=⟨s1,l1,h1⟩) (c:=_) hE3 (or1 o) hB hm k1 k2).symm))|((with_reducible show Value.int _ (Sp.lo _)=_);exact congrArg (fun i:Sp=>Value.int .i64 i.lo) ((rs_tt (a:=⟨s0,l0,h0⟩) (b:=⟨s1,l1,h1⟩) (c:=_) hE3 (or1 o) hB hm k1 k2).symm))|((with_reducible show Value.int _ (Sp.hi _)=_);exact congrArg (fun i:Sp=>Value.int .i64 i.hi) ((rs_tt (a:=⟨s0,l0,h0⟩) (b:=⟨s1,l1,h1⟩) (c:=_) hE3 (or1 o) hB hm k1 k2).symm)))|(have k1:=‹decide (l0<0)=true›;have k2:=‹decide (h0>0)=true›;have o:=‹(l1==h1)=false›;first|((with_reducible show Value.bool (Sp.some _)=_);exact congrArg (fun i:Sp=>Value.bool i.some) ((rs_tt (a:=⟨s0,l0,h0⟩) (b:=⟨s1,l1,h1⟩) (c:=_) hE3 (or2 o) hB hm k1 k2).symm))|((with_reducible show Value.int _ (Sp.lo _)=_);exact congrArg (fun i:Sp=>Value.int .i64 i.lo) ((rs_tt (a:=⟨s0,l0,h0⟩) (b:=⟨s1,l1,h1⟩) (c:=_) hE3 (or2 o) hB hm k1 k2).symm))|((with_reducible show Value.int _ (Sp.hi _)=_);exact congrArg (fun i:Sp=>Value.int .i64 i.hi) ((rs_tt (a:=⟨s0,l0,h0⟩) (b:=⟨s1,l1,h1⟩) (c:=_) hE3 (or2 o) hB hm k1 k2).symm)))|(have k1:=‹decide (l0<0)=true›;have k2:=‹decide (h0>0)=false›;have o:=‹(l0==h0)=false›;first|((with_reducible show Value.bool (Sp.some _)=_);exact congrArg (fun i:Sp=>Value.bool i.some) ((rs_tf (a:=⟨s0,l0,h0⟩) (b:=⟨s1,l1,h1⟩) (c:=_) hE3 (or1 o) hB hm k1 k2).symm))|((with_reducible show Value.int _ (Sp.lo _)=_);exact congrArg (fun i:Sp=>Value.int .i64 i.lo) ((rs_tf (a:=⟨s0,l0,h0⟩) (b:=⟨s1,l1,h1⟩) (c:=_) hE3 (or1 o) hB hm k1 k2).symm))|((with_reducible show Value.int _ (Sp.hi _)=_);exact congrArg (fun i:Sp=>Value.int .i64 i.hi) ((rs_tf (a:=⟨s0,l0,h0⟩) (b:=⟨s1,l1,h1⟩) (c:=_) hE3 (or1 o) hB hm k1 k2).symm)))|(have k1:=‹decide (l0<0)=true›;have k2:=‹decide (h0>0)=false›;have o:=‹(l1==h1)=false›;first|((with_reducible show Value.bool (Sp.some _)=_);exact congrArg (fun i:Sp=>Value.bool i.some) ((rs_tf (a:=⟨s0,l0,h0⟩) (b:=⟨s1,l1,h1⟩) (c:=_) hE3 (or2 o) hB hm k1 k2).symm))|((with_reducible show Value.int _ (Sp.lo _)=_);exact congrArg (fun i:Sp=>Value.int .i64 i.lo) ((rs_tf (a:=⟨s0,l0,h0⟩) (b:=⟨s1,l1,h1⟩) (c:=_) hE3 (or2 o) hB hm k1 k2).symm))|((with_reducible show Value.int _ (Sp.hi _)=_);exact congrArg (fun i:Sp=>Value.int .i64 i.hi) ((rs_tf (a:=⟨s0,l0,h0⟩) (b:=⟨s1,l1,h1⟩) (c:=_) hE3 (or2 o) hB hm k1 k2).symm)))|(have k1:=‹decide (l0<0)=false›;have k2:=‹decide (h0>0)=true›;have o:=‹(l0==h0)=false›;first|((with_reducible show Value.bool (Sp.some _)=_);exact congrArg (fun i:Sp=>Value.bool i.some) ((rs_ft (a:=⟨s0,l0,h0⟩) (b:=⟨s1,l1,h1⟩) (c:=_) hE3 (or1 o) hB hm k1 k2).symm))|((with_reducible show Value.int _ (Sp.lo _)=_);exact congrArg (fun i:Sp=>Value.int .i64 i.lo) ((rs_ft (a:=⟨s0,l0,h0⟩) (b:=⟨s1,l1,h1⟩) (c:=_) hE3 (or1 o) hB hm k1 k2).symm))|((with_reducible show Value.int _ (Sp.hi _)=_);exact congrArg (fun i:Sp=>Value.int .i64 i.hi) ((rs_ft (a:=⟨s0,l0,h0⟩) (b:=⟨s1,l1,h1⟩) (c:=_) hE3 (or1 o) hB hm k1 k2).symm)))|(have k1:=‹decide (l0<0)=false›;have k2:=‹decide (h0>0)=true›;have o:=‹(l1==h1)=false›;first|((with_reducible show Value.bool (Sp.some _)=_);exact congrArg (fun i:Sp=>Value.bool i.some) ((rs_ft (a:=⟨s0,l0,h0⟩) (b:=⟨s1,l1,h1⟩) (c:=_) hE3 (or2 o) hB hm k1 k2).symm))|((with_reducible show Value.int _ (Sp.lo _)=_);exact congrArg (fun i:Sp=>Value.int .i64 i.lo) ((rs_ft (a:=⟨s0,l0,h0⟩) (b:=⟨s1,l1,h1⟩) (c:=_) hE3 (or2 o) hB hm k1 k2).symm))|((with_reducible show Value.int _ (Sp.hi _)=_);exact congrArg (fun i:Sp=>Value.int .i64 i.hi) ((rs_ft (a:=⟨s0,l0,h0⟩) (b:=⟨s1,l1,h1⟩) (c:=_) hE3 (or2 o) hB hm k1 k2).symm)))|(have k1:=‹decide (l0<0)=false›;have k2:=‹decide (h0>0)=false›;have o:=‹(l0==h0)=false›;first|((with_reducible show Value.bool (Sp.some _)=_);exact congrArg (fun i:Sp=>Value.bool i.some) ((rs_ff (a:=⟨s0,l0,h0⟩) (b:=⟨s1,l1,h1⟩) (c:=_) hE3 (or1 o) hB hm k1 k2).symm))|((with_reducible show Value.int _ (Sp.lo _)=_);exact congrArg (fun i:Sp=>Value.int .i64 i.lo) ((rs_ff (a:=⟨s0,l0,h0⟩) (b:=⟨s1,l1,h1⟩) (c:=_) hE3 (or1 o) hB hm k1 k2).symm))|((with_reducible show Value.int _ (Sp.hi _)=_);exact congrArg (fun i:Sp=>Value.int .i64 i.hi) ((rs_ff (a:=⟨s0,l0,h0⟩) (b:=⟨s1,l1,h1⟩) (c:=_) hE3 (or1 o) hB hm k1 k2).symm)))|(have k1:=‹decide (l0<0)=false›;have k2:=‹decide (h0>0)=false›;have o:=‹(l1==h1)=false›;first|((with_reducible show Value.bool (Sp.some _)=_);exact congrArg (fun i:Sp=>Value.bool i.some) ((rs_ff (a:=⟨s0,l0,h0⟩) (b:=⟨s1,l1,h1⟩) (c:=_) hE3 (or2 o) hB hm k1 k2).symm))|((with_reducible show Value.int _ (Sp.lo _)=_);exact congrArg (fun i:Sp=>Value.int .i64 i.lo) ((rs_ff (a:=⟨s0,l0,h0⟩) (b:=⟨s1,l1,h1⟩) (c:=_) hE3 (or2 o) hB hm k1 k2).symm))|((with_reducible show Value.int _ (Sp.hi _)=_);exact congrArg (fun i:Sp=>Value.int .i64 i.hi) ((rs_ff (a:=⟨s0,l0,h0⟩) (b:=⟨s1,l1,h1⟩) (c:=_) hE3 (or2 o) hB hm k1 k2).symm)))|exact (doI_rng hp0.1).1|exact (doI_rng hp0.1).2|exact (mx_r hp0.1 hB hm).1|exact (mx_r hp0.1 hB hm).2|exact (mn_r hp0.2 hB hm).1|exact (mn_r hp0.2 hB hm).2|exact (wd_ok (absI h1)).1.1|exact (wd_ok (absI h1)).1.2|exact (wd_ok (absI h1)).2.1|exact (wd_ok (absI h1)).2.2|exact (maxW_ok (wd_ok (absI l1)) (wd_ok (absI h1))).1.1|exact (maxW_ok (wd_ok (absI l1)) (wd_ok (absI h1))).1.2|exact (maxW_ok (wd_ok (absI l1)) (wd_ok (absI h1))).2.1|exact (maxW_ok (wd_ok (absI l1)) (wd_ok (absI h1))).2.2|rfl
   all_goals trace_state
 . cases h
def FReDo:List Ar->Option Rs
 | [.c (.d (.v (.int .i64 i0))),.agg [.d (.v (.bool s1)),.d (.v (.int .i64 l1)),.d (.v (.int .i64 h1))],.agg [.d (.v (.bool s2)),.d (.v (.int .i64 l2)),.d (.v (.int .i64 h2))]]=>some ⟨(-9223372036854775808<=i0/\ i0<9223372036854775808)/\ (Sp.inR ⟨s1,l1,h1⟩)/\ (Sp.inR ⟨s2,l2,h2⟩),.va (Sp.ar (rkDo i0 (⟨s1,l1,h1⟩:Sp) (⟨s2,l2,h2⟩:Sp))),[]⟩
 |_=>none
theorem fcReDo:FC Tryz.prog 105 FReDo:=by
 intro xs pre r us h hp
 unfold FReDo at h
 split at h
 . rename_i i0 s1 l1 h1 s2 l2 h2
   cases h
   obtain ⟨hp0,hp1,hp2⟩:=hp
   refine fcat tys_ok (l:= [(83,⟨[],FSNone⟩),(142,⟨[],(FReCornE i0)⟩),(140,⟨[],FReDo1⟩),(141,⟨[],FReAround⟩),(143,⟨[],FReDiv⟩),(144,⟨[],FReRest⟩),(145,⟨[],FReCmp⟩)]) ⟨fcSNone,(fcReCornE i0),fcReDo1,fcReAround,fcReDiv,fcReRest,fcReCmp,trivial⟩ Tryz.func105 rfl (by kernel_rfl) true ?_
   have hO:=hp0
   have hk:=crn_e (op:=i0) hp1 hp2
   by_cases e10:i0=10
   . subst e10
     have q10:((10:Int)==10)=true:=by decide
     have q11:((10:Int)==11)=false:=by decide
     have q7:((10:Int)==7)=false:=by decide
     have q8:((10:Int)==8)=false:=by decide
     have q9:((10:Int)==9)=false:=by decide
     repeat' (first|exact trivial|(with_reducible first|exact hp1|exact hp2|exact hp1.1|exact hp1.2|exact hp2.1|exact hp2.2|exact hO|exact wd_ok _|exact (fun h:false=true=>absurd h (by decide))|exact (fun h:true=false=>absurd h (by decide))|exact (fun h=>absurd (q10.symm.trans h) (by decide))|exact (fun h=>absurd (q11.symm.trans h) (by decide))|exact (fun h=>absurd (q7.symm.trans h) (by decide))|exact (fun h=>absurd (q8.symm.trans h) (by decide))|exact (fun h=>absurd (q9.symm.trans h) (by decide)))|refine ⟨?_, ?_⟩|intro _)
     all_goals first|(with_reducible first|apply qa|apply qb|apply qc|apply qd)|(conv=>whnf)
     all_goals first|decide|(with_reducible rfl)|((with_reducible show Value.bool false=_);exact congrArg (fun i:Sp=>Value.bool i.some) ((rd_n1 ‹_›).symm))|((with_reducible show Value.int _ 0=_);first|exact congrArg (fun i:Sp=>Value.int .i64 i.lo) ((rd_n1 ‹_›).symm)|exact congrArg (fun i:Sp=>Value.int .i64 i.hi) ((rd_n1 ‹_›).symm))|((with_reducible show Value.bool false=_);exact congrArg (fun i:Sp=>Value.bool i.some) ((rd_n2 ‹_›).symm))|((with_reducible show Value.int _ 0=_);first|exact congrArg (fun i:Sp=>Value.int .i64 i.lo) ((rd_n2 ‹_›).symm)|exact congrArg (fun i:Sp=>Value.int .i64 i.hi) ((rd_n2 ‹_›).symm))|((with_reducible show Value.bool (Sp.some _)=_);exact congrArg (fun i:Sp=>Value.bool i.some) ((congrArg around hk.1).trans (rd_e ‹_› ‹_› rfl).symm))|((with_reducible show Value.int _ (Sp.lo _)=_);exact congrArg (fun i:Sp=>Value.int .i64 i.lo) ((congrArg around hk.1).trans (rd_e ‹_› ‹_› rfl).symm))|((with_reducible show Value.int _ (Sp.hi _)=_);exact congrArg (fun i:Sp=>Value.int .i64 i.hi) ((congrArg around hk.1).trans (rd_e ‹_› ‹_› rfl).symm))|((with_reducible show Value.bool (Sp.some _)=_);exact congrArg (fun i:Sp=>Value.bool i.some) ((rd_8 ‹_› ‹_›).symm))|((with_reducible show Value.int _ (Sp.lo _)=_);exact congrArg (fun i:Sp=>Value.int .i64 i.lo) ((rd_8 ‹_› ‹_›).symm))|((with_reducible show Value.int _ (Sp.hi _)=_);exact congrArg (fun i:Sp=>Value.int .i64 i.hi) ((rd_8 ‹_› ‹_›).symm))|((with_reducible show Value.bool (Sp.some _)=_);exact congrArg (fun i:Sp=>Value.bool i.some) ((rd_9 ‹_› ‹_›).symm))|((with_reducible show Value.int _ (Sp.lo _)=_);exact congrArg (fun i:Sp=>Value.int .i64 i.lo) ((rd_9 ‹_› ‹_›).symm))|((with_reducible show Value.int _ (Sp.hi _)=_);exact congrArg (fun i:Sp=>Value.int .i64 i.hi) ((rd_9 ‹_› ‹_›).symm))|exact (hk.2 _ ‹_›).1|exact (hk.2 _ ‹_›).2|exact (wok_rw 4 _ _ ‹_›).2.1.1|exact (wok_rw 4 _ _ ‹_›).2.1.2|exact (wok_rw 4 _ _ ‹_›).2.2.1|exact (wok_rw 4 _ _ ‹_›).2.2.2|rfl
   by_cases e11:i0=11
   . subst e11
     have q10:((11:Int)==10)=false:=by decide
     have q11:((11:Int)==11)=true:=by decide
     have q7:((11:Int)==7)=false:=by decide
     have q8:((11:Int)==8)=false:=by decide
     have q9:((11:Int)==9)=false:=by decide
     repeat' (first|exact trivial|(with_reducible first|exact hp1|exact hp2|exact hp1.1|exact hp1.2|exact hp2.1|exact hp2.2|exact hO|exact wd_ok _|exact (fun h:false=true=>absurd h (by decide))|exact (fun h:true=false=>absurd h (by decide))|exact (fun h=>absurd (q10.symm.trans h) (by decide))|exact (fun h=>absurd (q11.symm.trans h) (by decide))|exact (fun h=>absurd (q7.symm.trans h) (by decide))|exact (fun h=>absurd (q8.symm.trans h) (by decide))|exact (fun h=>absurd (q9.symm.trans h) (by decide)))|refine ⟨?_, ?_⟩|intro _)
     all_goals first|(with_reducible first|apply qa|apply qb|apply qc|apply qd)|(conv=>whnf)
     all_goals first|decide|(with_reducible rfl)|((with_reducible show Value.bool false=_);exact congrArg (fun i:Sp=>Value.bool i.some) ((rd_n1 ‹_›).symm))|((with_reducible show Value.int _ 0=_);first|exact congrArg (fun i:Sp=>Value.int .i64 i.lo) ((rd_n1 ‹_›).symm)|exact congrArg (fun i:Sp=>Value.int .i64 i.hi) ((rd_n1 ‹_›).symm))|((with_reducible show Value.bool false=_);exact congrArg (fun i:Sp=>Value.bool i.some) ((rd_n2 ‹_›).symm))|((with_reducible show Value.int _ 0=_);first|exact congrArg (fun i:Sp=>Value.int .i64 i.lo) ((rd_n2 ‹_›).symm)|exact congrArg (fun i:Sp=>Value.int .i64 i.hi) ((rd_n2 ‹_›).symm))|((with_reducible show Value.bool (Sp.some _)=_);exact congrArg (fun i:Sp=>Value.bool i.some) ((congrArg around hk.1).trans (rd_e ‹_› ‹_› rfl).symm))|((with_reducible show Value.int _ (Sp.lo _)=_);exact congrArg (fun i:Sp=>Value.int .i64 i.lo) ((congrArg around hk.1).trans (rd_e ‹_› ‹_› rfl).symm))|((with_reducible show Value.int _ (Sp.hi _)=_);exact congrArg (fun i:Sp=>Value.int .i64 i.hi) ((congrArg around hk.1).trans (rd_e ‹_› ‹_› rfl).symm))|((with_reducible show Value.bool (Sp.some _)=_);exact congrArg (fun i:Sp=>Value.bool i.some) ((rd_8 ‹_› ‹_›).symm))|((with_reducible show Value.int _ (Sp.lo _)=_);exact congrArg (fun i:Sp=>Value.int .i64 i.lo) ((rd_8 ‹_› ‹_›).symm))|((with_reducible show Value.int _ (Sp.hi _)=_);exact congrArg (fun i:Sp=>Value.int .i64 i.hi) ((rd_8 ‹_› ‹_›).symm))|((with_reducible show Value.bool (Sp.some _)=_);exact congrArg (fun i:Sp=>Value.bool i.some) ((rd_9 ‹_› ‹_›).symm))|((with_reducible show Value.int _ (Sp.lo _)=_);exact congrArg (fun i:Sp=>Value.int .i64 i.lo) ((rd_9 ‹_› ‹_›).symm))|((with_reducible show Value.int _ (Sp.hi _)=_);exact congrArg (fun i:Sp=>Value.int .i64 i.hi) ((rd_9 ‹_› ‹_›).symm))|exact (hk.2 _ ‹_›).1|exact (hk.2 _ ‹_›).2|exact (wok_rw 4 _ _ ‹_›).2.1.1|exact (wok_rw 4 _ _ ‹_›).2.1.2|exact (wok_rw 4 _ _ ‹_›).2.2.1|exact (wok_rw 4 _ _ ‹_›).2.2.2|rfl
   by_cases e7:i0=7
   . subst e7
     have q10:((7:Int)==10)=false:=by decide
     have q11:((7:Int)==11)=false:=by decide
     have q7:((7:Int)==7)=true:=by decide
     have q8:((7:Int)==8)=false:=by decide
     have q9:((7:Int)==9)=false:=by decide
     repeat' (first|exact trivial|(with_reducible first|exact hp1|exact hp2|exact hp1.1|exact hp1.2|exact hp2.1|exact hp2.2|exact hO|exact wd_ok _|exact (fun h:false=true=>absurd h (by decide))|exact (fun h:true=false=>absurd h (by decide))|exact (fun h=>absurd (q10.symm.trans h) (by decide))|exact (fun h=>absurd (q11.symm.trans h) (by decide))|exact (fun h=>absurd (q7.symm.trans h) (by decide))|exact (fun h=>absurd (q8.symm.trans h) (by decide))|exact (fun h=>absurd (q9.symm.trans h) (by decide)))|refine ⟨?_, ?_⟩|intro _)
     all_goals first|(with_reducible first|apply qa|apply qb|apply qc|apply qd)|(conv=>whnf)
     all_goals first|decide|(with_reducible rfl)|((with_reducible show Value.bool false=_);exact congrArg (fun i:Sp=>Value.bool i.some) ((rd_n1 ‹_›).symm))|((with_reducible show Value.int _ 0=_);first|exact congrArg (fun i:Sp=>Value.int .i64 i.lo) ((rd_n1 ‹_›).symm)|exact congrArg (fun i:Sp=>Value.int .i64 i.hi) ((rd_n1 ‹_›).symm))|((with_reducible show Value.bool false=_);exact congrArg (fun i:Sp=>Value.bool i.some) ((rd_n2 ‹_›).symm))|((with_reducible show Value.int _ 0=_);first|exact congrArg (fun i:Sp=>Value.int .i64 i.lo) ((rd_n2 ‹_›).symm)|exact congrArg (fun i:Sp=>Value.int .i64 i.hi) ((rd_n2 ‹_›).symm))|((with_reducible show Value.bool (Sp.some _)=_);exact congrArg (fun i:Sp=>Value.bool i.some) ((congrArg around hk.1).trans (rd_e ‹_› ‹_› rfl).symm))|((with_reducible show Value.int _ (Sp.lo _)=_);exact congrArg (fun i:Sp=>Value.int .i64 i.lo) ((congrArg around hk.1).trans (rd_e ‹_› ‹_› rfl).symm))|((with_reducible show Value.int _ (Sp.hi _)=_);exact congrArg (fun i:Sp=>Value.int .i64 i.hi) ((congrArg around hk.1).trans (rd_e ‹_› ‹_› rfl).symm))|((with_reducible show Value.bool (Sp.some _)=_);exact congrArg (fun i:Sp=>Value.bool i.some) ((rd_8 ‹_› ‹_›).symm))|((with_reducible show Value.int _ (Sp.lo _)=_);exact congrArg (fun i:Sp=>Value.int .i64 i.lo) ((rd_8 ‹_› ‹_›).symm))|((with_reducible show Value.int _ (Sp.hi _)=_);exact congrArg (fun i:Sp=>Value.int .i64 i.hi) ((rd_8 ‹_› ‹_›).symm))|((with_reducible show Value.bool (Sp.some _)=_);exact congrArg (fun i:Sp=>Value.bool i.some) ((rd_9 ‹_› ‹_›).symm))|((with_reducible show Value.int _ (Sp.lo _)=_);exact congrArg (fun i:Sp=>Value.int .i64 i.lo) ((rd_9 ‹_› ‹_›).symm))|((with_reducible show Value.int _ (Sp.hi _)=_);exact congrArg (fun i:Sp=>Value.int .i64 i.hi) ((rd_9 ‹_› ‹_›).symm))|exact (hk.2 _ ‹_›).1|exact (hk.2 _ ‹_›).2|exact (wok_rw 4 _ _ ‹_›).2.1.1|exact (wok_rw 4 _ _ ‹_›).2.1.2|exact (wok_rw 4 _ _ ‹_›).2.2.1|exact (wok_rw 4 _ _ ‹_›).2.2.2|rfl
   by_cases e8:i0=8
   . subst e8
     have q10:((8:Int)==10)=false:=by decide
     have q11:((8:Int)==11)=false:=by decide
     have q7:((8:Int)==7)=false:=by decide
     have q8:((8:Int)==8)=true:=by decide
     have q9:((8:Int)==9)=false:=by decide
     repeat' (first|exact trivial|(with_reducible first|exact hp1|exact hp2|exact hp1.1|exact hp1.2|exact hp2.1|exact hp2.2|exact hO|exact wd_ok _|exact (fun h:false=true=>absurd h (by decide))|exact (fun h:true=false=>absurd h (by decide))|exact (fun h=>absurd (q10.symm.trans h) (by decide))|exact (fun h=>absurd (q11.symm.trans h) (by decide))|exact (fun h=>absurd (q7.symm.trans h) (by decide))|exact (fun h=>absurd (q8.symm.trans h) (by decide))|exact (fun h=>absurd (q9.symm.trans h) (by decide)))|refine ⟨?_, ?_⟩|intro _)
     all_goals first|(with_reducible first|apply qa|apply qb|apply qc|apply qd)|(conv=>whnf)
     all_goals first|decide|(with_reducible rfl)|((with_reducible show Value.bool false=_);exact congrArg (fun i:Sp=>Value.bool i.some) ((rd_n1 ‹_›).symm))|((with_reducible show Value.int _ 0=_);first|exact congrArg (fun i:Sp=>Value.int .i64 i.lo) ((rd_n1 ‹_›).symm)|exact congrArg (fun i:Sp=>Value.int .i64 i.hi) ((rd_n1 ‹_›).symm))|((with_reducible show Value.bool false=_);exact congrArg (fun i:Sp=>Value.bool i.some) ((rd_n2 ‹_›).symm))|((with_reducible show Value.int _ 0=_);first|exact congrArg (fun i:Sp=>Value.int .i64 i.lo) ((rd_n2 ‹_›).symm)|exact congrArg (fun i:Sp=>Value.int .i64 i.hi) ((rd_n2 ‹_›).symm))|((with_reducible show Value.bool (Sp.some _)=_);exact congrArg (fun i:Sp=>Value.bool i.some) ((congrArg around hk.1).trans (rd_e ‹_› ‹_› rfl).symm))|((with_reducible show Value.int _ (Sp.lo _)=_);exact congrArg (fun i:Sp=>Value.int .i64 i.lo) ((congrArg around hk.1).trans (rd_e ‹_› ‹_› rfl).symm))|((with_reducible show Value.int _ (Sp.hi _)=_);exact congrArg (fun i:Sp=>Value.int .i64 i.hi) ((congrArg around hk.1).trans (rd_e ‹_› ‹_› rfl).symm))|((with_reducible show Value.bool (Sp.some _)=_);exact congrArg (fun i:Sp=>Value.bool i.some) ((rd_8 ‹_› ‹_›).symm))|((with_reducible show Value.int _ (Sp.lo _)=_);exact congrArg (fun i:Sp=>Value.int .i64 i.lo) ((rd_8 ‹_› ‹_›).symm))|((with_reducible show Value.int _ (Sp.hi _)=_);exact congrArg (fun i:Sp=>Value.int .i64 i.hi) ((rd_8 ‹_› ‹_›).symm))|((with_reducible show Value.bool (Sp.some _)=_);exact congrArg (fun i:Sp=>Value.bool i.some) ((rd_9 ‹_› ‹_›).symm))|((with_reducible show Value.int _ (Sp.lo _)=_);exact congrArg (fun i:Sp=>Value.int .i64 i.lo) ((rd_9 ‹_› ‹_›).symm))|((with_reducible show Value.int _ (Sp.hi _)=_);exact congrArg (fun i:Sp=>Value.int .i64 i.hi) ((rd_9 ‹_› ‹_›).symm))|exact (hk.2 _ ‹_›).1|exact (hk.2 _ ‹_›).2|exact (wok_rw 4 _ _ ‹_›).2.1.1|exact (wok_rw 4 _ _ ‹_›).2.1.2|exact (wok_rw 4 _ _ ‹_›).2.2.1|exact (wok_rw 4 _ _ ‹_›).2.2.2|rfl
   by_cases e9:i0=9
   . subst e9
     have q10:((9:Int)==10)=false:=by decide
     have q11:((9:Int)==11)=false:=by decide
     have q7:((9:Int)==7)=false:=by decide
     have q8:((9:Int)==8)=false:=by decide
     have q9:((9:Int)==9)=true:=by decide
     repeat' (first|exact trivial|(with_reducible first|exact hp1|exact hp2|exact hp1.1|exact hp1.2|exact hp2.1|exact hp2.2|exact hO|exact wd_ok _|exact (fun h:false=true=>absurd h (by decide))|exact (fun h:true=false=>absurd h (by decide))|exact (fun h=>absurd (q10.symm.trans h) (by decide))|exact (fun h=>absurd (q11.symm.trans h) (by decide))|exact (fun h=>absurd (q7.symm.trans h) (by decide))|exact (fun h=>absurd (q8.symm.trans h) (by decide))|exact (fun h=>absurd (q9.symm.trans h) (by decide)))|refine ⟨?_, ?_⟩|intro _)
     all_goals first|(with_reducible first|apply qa|apply qb|apply qc|apply qd)|(conv=>whnf)
     all_goals first|decide|(with_reducible rfl)|((with_reducible show Value.bool false=_);exact congrArg (fun i:Sp=>Value.bool i.some) ((rd_n1 ‹_›).symm))|((with_reducible show Value.int _ 0=_);first|exact congrArg (fun i:Sp=>Value.int .i64 i.lo) ((rd_n1 ‹_›).symm)|exact congrArg (fun i:Sp=>Value.int .i64 i.hi) ((rd_n1 ‹_›).symm))|((with_reducible show Value.bool false=_);exact congrArg (fun i:Sp=>Value.bool i.some) ((rd_n2 ‹_›).symm))|((with_reducible show Value.int _ 0=_);first|exact congrArg (fun i:Sp=>Value.int .i64 i.lo) ((rd_n2 ‹_›).symm)|exact congrArg (fun i:Sp=>Value.int .i64 i.hi) ((rd_n2 ‹_›).symm))|((with_reducible show Value.bool (Sp.some _)=_);exact congrArg (fun i:Sp=>Value.bool i.some) ((congrArg around hk.1).trans (rd_e ‹_› ‹_› rfl).symm))|((with_reducible show Value.int _ (Sp.lo _)=_);exact congrArg (fun i:Sp=>Value.int .i64 i.lo) ((congrArg around hk.1).trans (rd_e ‹_› ‹_› rfl).symm))|((with_reducible show Value.int _ (Sp.hi _)=_);exact congrArg (fun i:Sp=>Value.int .i64 i.hi) ((congrArg around hk.1).trans (rd_e ‹_› ‹_› rfl).symm))|((with_reducible show Value.bool (Sp.some _)=_);exact congrArg (fun i:Sp=>Value.bool i.some) ((rd_8 ‹_› ‹_›).symm))|((with_reducible show Value.int _ (Sp.lo _)=_);exact congrArg (fun i:Sp=>Value.int .i64 i.lo) ((rd_8 ‹_› ‹_›).symm))|((with_reducible show Value.int _ (Sp.hi _)=_);exact congrArg (fun i:Sp=>Value.int .i64 i.hi) ((rd_8 ‹_› ‹_›).symm))|((with_reducible show Value.bool (Sp.some _)=_);exact congrArg (fun i:Sp=>Value.bool i.some) ((rd_9 ‹_› ‹_›).symm))|((with_reducible show Value.int _ (Sp.lo _)=_);exact congrArg (fun i:Sp=>Value.int .i64 i.lo) ((rd_9 ‹_› ‹_›).symm))|((with_reducible show Value.int _ (Sp.hi _)=_);exact congrArg (fun i:Sp=>Value.int .i64 i.hi) ((rd_9 ‹_› ‹_›).symm))|exact (hk.2 _ ‹_›).1|exact (hk.2 _ ‹_›).2|exact (wok_rw 4 _ _ ‹_›).2.1.1|exact (wok_rw 4 _ _ ‹_›).2.1.2|exact (wok_rw 4 _ _ ‹_›).2.2.1|exact (wok_rw 4 _ _ ‹_›).2.2.2|rfl
   have q10:(i0==10)=false:=beq_eq_false_iff_ne.2 e10
   have q11:(i0==11)=false:=beq_eq_false_iff_ne.2 e11
   have q7:(i0==7)=false:=beq_eq_false_iff_ne.2 e7
   have q8:(i0==8)=false:=beq_eq_false_iff_ne.2 e8
   have q9:(i0==9)=false:=beq_eq_false_iff_ne.2 e9
   repeat' (first|exact trivial|(with_reducible first|exact hp1|exact hp2|exact hp1.1|exact hp1.2|exact hp2.1|exact hp2.2|exact hO|exact wd_ok _|exact (fun h:false=true=>absurd h (by decide))|exact (fun h:true=false=>absurd h (by decide))|exact (fun h=>absurd (q10.symm.trans h) (by decide))|exact (fun h=>absurd (q11.symm.trans h) (by decide))|exact (fun h=>absurd (q7.symm.trans h) (by decide))|exact (fun h=>absurd (q8.symm.trans h) (by decide))|exact (fun h=>absurd (q9.symm.trans h) (by decide)))|refine ⟨?_, ?_⟩|intro _)
   all_goals first|(with_reducible first|apply qa|apply qb|apply qc|apply qd)|(conv=>whnf)
   all_goals first|decide|(with_reducible rfl)|((with_reducible show Value.bool false=_);exact congrArg (fun i:Sp=>Value.bool i.some) ((rd_n1 ‹_›).symm))|((with_reducible show Value.int _ 0=_);first|exact congrArg (fun i:Sp=>Value.int .i64 i.lo) ((rd_n1 ‹_›).symm)|exact congrArg (fun i:Sp=>Value.int .i64 i.hi) ((rd_n1 ‹_›).symm))|((with_reducible show Value.bool false=_);exact congrArg (fun i:Sp=>Value.bool i.some) ((rd_n2 ‹_›).symm))|((with_reducible show Value.int _ 0=_);first|exact congrArg (fun i:Sp=>Value.int .i64 i.lo) ((rd_n2 ‹_›).symm)|exact congrArg (fun i:Sp=>Value.int .i64 i.hi) ((rd_n2 ‹_›).symm))|((with_reducible show Value.bool (Sp.some _)=_);exact congrArg (fun i:Sp=>Value.bool i.some) ((rd_c ‹_› ‹_› ⟨e10,e11,e7,e8,e9⟩).symm))|((with_reducible show Value.int _ (Sp.lo _)=_);exact congrArg (fun i:Sp=>Value.int .i64 i.lo) ((rd_c ‹_› ‹_› ⟨e10,e11,e7,e8,e9⟩).symm))|((with_reducible show Value.int _ (Sp.hi _)=_);exact congrArg (fun i:Sp=>Value.int .i64 i.hi) ((rd_c ‹_› ‹_› ⟨e10,e11,e7,e8,e9⟩).symm))|exact (hk.2 _ ‹_›).1|exact (hk.2 _ ‹_›).2|exact (wok_rw 4 _ _ ‹_›).2.1.1|exact (wok_rw 4 _ _ ‹_›).2.1.2|exact (wok_rw 4 _ _ ‹_›).2.2.1|exact (wok_rw 4 _ _ ‹_›).2.2.2|rfl
 . cases h
def FReOne:List Ar->Option Rs
 | [.c (.d (.v (.int .i64 i0))),.agg [.d (.v (.bool s1)),.d (.v (.int .i64 l1)),.d (.v (.int .i64 h1))]]=>some ⟨(-9223372036854775808<=i0/\ i0<9223372036854775808)/\ (Sp.inR ⟨s1,l1,h1⟩),.va (Sp.ar (rkOne i0 (⟨s1,l1,h1⟩:Sp))),[]⟩
 |_=>none
theorem fcReOne:FC Tryz.prog 80 FReOne:=by
 intro xs pre r us h hp
 unfold FReOne at h
 split at h
 . rename_i i0 s1 l1 h1
   cases h
   obtain ⟨hp0,hp1⟩:=hp
   refine fcat tys_ok (l:= [(83,⟨[],FSNone⟩),(63,⟨[],FSOne⟩),(105,⟨[],FReDo⟩),(118,⟨[],FReTruth⟩),(119,⟨[],FReAlone⟩),(47,⟨[],FSHas⟩)]) ⟨fcSNone,fcSOne,fcReDo,fcReTruth,fcReAlone,fcSHas,trivial⟩ Tryz.func80 rfl (by kernel_rfl) true ?_
   by_cases e5:i0=5
   . subst e5
     have q5:((5:Int)==5)=true:=by decide
     have q6:((5:Int)==6)=false:=by decide
     repeat' (first|exact trivial|(with_reducible first|exact hp1|exact (fun h:false=true=>absurd h (by decide))|exact (fun h:true=false=>absurd h (by decide))|exact (fun h=>absurd (q5.symm.trans h) (by decide))|exact (fun h=>absurd (q6.symm.trans h) (by decide)))|refine ⟨?_, ?_⟩|intro _)
     all_goals first|(with_reducible first|apply qa|apply qb|apply qc|apply qd)|(conv=>whnf)
     all_goals first|decide|(with_reducible rfl)|((with_reducible show Value.bool false=_);exact congrArg (fun i:Sp=>Value.bool i.some) ((ro_n ‹_›).symm))|((with_reducible show Value.int _ 0=_);first|exact congrArg (fun i:Sp=>Value.int .i64 i.lo) ((ro_n ‹_›).symm)|exact congrArg (fun i:Sp=>Value.int .i64 i.hi) ((ro_n ‹_›).symm))|((with_reducible show Value.bool (Sp.some _)=_);exact congrArg (fun i:Sp=>Value.bool i.some) ((ro_5 ‹_›).symm))|((with_reducible show Value.int _ (Sp.lo _)=_);exact congrArg (fun i:Sp=>Value.int .i64 i.lo) ((ro_5 ‹_›).symm))|((with_reducible show Value.int _ (Sp.hi _)=_);exact congrArg (fun i:Sp=>Value.int .i64 i.hi) ((ro_5 ‹_›).symm))|((with_reducible show Value.bool (Sp.some _)=_);exact congrArg (fun i:Sp=>Value.bool i.some) ((ro_6 ‹_›).symm))|((with_reducible show Value.int _ (Sp.lo _)=_);exact congrArg (fun i:Sp=>Value.int .i64 i.lo) ((ro_6 ‹_›).symm))|((with_reducible show Value.int _ (Sp.hi _)=_);exact congrArg (fun i:Sp=>Value.int .i64 i.hi) ((ro_6 ‹_›).symm))
   by_cases e6:i0=6
   . subst e6
     have q5:((6:Int)==5)=false:=by decide
     have q6:((6:Int)==6)=true:=by decide
     repeat' (first|exact trivial|(with_reducible first|exact hp1|exact (fun h:false=true=>absurd h (by decide))|exact (fun h:true=false=>absurd h (by decide))|exact (fun h=>absurd (q5.symm.trans h) (by decide))|exact (fun h=>absurd (q6.symm.trans h) (by decide)))|refine ⟨?_, ?_⟩|intro _)
     all_goals first|(with_reducible first|apply qa|apply qb|apply qc|apply qd)|(conv=>whnf)
     all_goals first|decide|(with_reducible rfl)|((with_reducible show Value.bool false=_);exact congrArg (fun i:Sp=>Value.bool i.some) ((ro_n ‹_›).symm))|((with_reducible show Value.int _ 0=_);first|exact congrArg (fun i:Sp=>Value.int .i64 i.lo) ((ro_n ‹_›).symm)|exact congrArg (fun i:Sp=>Value.int .i64 i.hi) ((ro_n ‹_›).symm))|((with_reducible show Value.bool (Sp.some _)=_);exact congrArg (fun i:Sp=>Value.bool i.some) ((ro_5 ‹_›).symm))|((with_reducible show Value.int _ (Sp.lo _)=_);exact congrArg (fun i:Sp=>Value.int .i64 i.lo) ((ro_5 ‹_›).symm))|((with_reducible show Value.int _ (Sp.hi _)=_);exact congrArg (fun i:Sp=>Value.int .i64 i.hi) ((ro_5 ‹_›).symm))|((with_reducible show Value.bool (Sp.some _)=_);exact congrArg (fun i:Sp=>Value.bool i.some) ((ro_6 ‹_›).symm))|((with_reducible show Value.int _ (Sp.lo _)=_);exact congrArg (fun i:Sp=>Value.int .i64 i.lo) ((ro_6 ‹_›).symm))|((with_reducible show Value.int _ (Sp.hi _)=_);exact congrArg (fun i:Sp=>Value.int .i64 i.hi) ((ro_6 ‹_›).symm))
   have q5:(i0==5)=false:=beq_eq_false_iff_ne.2 e5
   have q6:(i0==6)=false:=beq_eq_false_iff_ne.2 e6
   repeat' (first|exact trivial|(with_reducible first|exact hp1|exact (fun h:false=true=>absurd h (by decide))|exact (fun h:true=false=>absurd h (by decide))|exact (fun h=>absurd (q5.symm.trans h) (by decide))|exact (fun h=>absurd (q6.symm.trans h) (by decide)))|refine ⟨?_, ?_⟩|intro _)
   all_goals first|(with_reducible first|apply qa|apply qb|apply qc|apply qd)|(conv=>whnf)
   all_goals first|decide|(with_reducible rfl)|((with_reducible show Value.bool false=_);exact congrArg (fun i:Sp=>Value.bool i.some) ((ro_n ‹_›).symm))|((with_reducible show Value.int _ 0=_);first|exact congrArg (fun i:Sp=>Value.int .i64 i.lo) ((ro_n ‹_›).symm)|exact congrArg (fun i:Sp=>Value.int .i64 i.hi) ((ro_n ‹_›).symm))|((with_reducible show Value.bool false=_);exact congrArg (fun i:Sp=>Value.bool i.some) ((ro_x ‹_› e5 e6).symm))|((with_reducible show Value.int _ 0=_);first|exact congrArg (fun i:Sp=>Value.int .i64 i.lo) ((ro_x ‹_› e5 e6).symm)|exact congrArg (fun i:Sp=>Value.int .i64 i.hi) ((ro_x ‹_› e5 e6).symm))
 . cases h
end Go.Proofs.YtehpbhpmkhlldaaGreat
