/- What spans come to: rests, all of it. No condition. -/
import Derived.Test.YtokjghkehojenaaGreatL12
set_option linter.all false
set_option maxHeartbeats 8000000
set_option maxRecDepth 100000
namespace Go.Proofs.YtokjghkehojenaaGreat
open Go.Sx
theorem rest_m {b:Sp} (hb:b.inR):clampI (wd ((maxW (wd (absI b.lo)) (wd (absI b.hi))).val-(wd 1).val)).val=restM b:=by
 obtain ⟨⟨a1,a2⟩,a3,a4⟩:=hb
 have r1:0<=absI b.lo/\ absI b.lo<=9223372036854775808:=by unfold absI;split<;>omega
 have r2:0<=absI b.hi/\ absI b.hi<=9223372036854775808:=by unfold absI;split<;>omega
 have e:(maxW (wd (absI b.lo)) (wd (absI b.hi))).val=restM b+1:=by
  unfold maxW wCmp restM;rw [wd_val (by omega) (by omega),wd_val (by omega) (by omega)]
  (repeat' split)<;>first|omega|(rw [wd_val (by omega) (by omega)];omega)
 rw [e,show (wd 1).val=1 from rfl,Int.add_sub_cancel];have r3: -1<=restM b/\ restM b<9223372036854775808:=by unfold restM;split<;>omega
 rw [wd_val (by omega) (by omega)];have hB:wIntB (restM b)=true:=by unfold wIntB;simp;omega
 have hV:wIntV (restM b)=restM b:=by unfold wIntV;rw [if_pos (by omega)]
 unfold clampI;rw [if_pos hB,hV]
theorem doI_rng {op a b:Int} (ra: -9223372036854775808<=a/\ a<9223372036854775808): -9223372036854775808<=doI op a b/\ doI op a b<9223372036854775808:=by
 unfold doI;split
 . exact wr_r _
 . split
   . split
     . decide
     . exact wr_r _
   . split
     . split
       . decide
       . rename_i hb
         by_cases hm: -9223372036854775808<=b/\ b<=9223372036854775808
         . have h1:=tm_bound (x:=a) (m:=9223372036854775808) hb (by omega) (by omega)
           rcases Int.le_total 0 a with h|h
           . have:=h1.1 h;omega
           . have:=h1.2 h;omega
         . have h1:=tm_bound (x:=a) (m:=b+ -b+(if 0<b then b else-b)) hb (by split<;>omega) (by split<;>omega)
           rcases Int.le_total 0 a with h|h
           . have:=h1.1 h;omega
           . have:=h1.2 h;omega
     . split
       . split<;>decide
       . decide
section
variable {a b:Sp}
theorem rs_0 (h:(parts b).isEmpty=true):restS a b=noS:=by unfold restS;rw [if_pos h]
theorem rs_1 (h:(parts b).isEmpty=false) (h1:(a.lo==a.hi)=true) (h2:(b.lo==b.hi)=true):restS a b=Sp.of (doI 9 a.lo b.lo) (doI 9 a.lo b.lo):=by
 unfold restS;rw [if_neg (by rw [h];decide),if_pos ⟨eq_of_beq h1,eq_of_beq h2⟩]
def mxI (x c:Int):Int:=if IntKind.wrap .i64 (0-c)>x then IntKind.wrap .i64 (0-c) else x
def mnI (c x:Int):Int:=if c<x then c else x
theorem restM_r (hb:b.inR): -1<=restM b/\ restM b<9223372036854775808:=by
 obtain ⟨⟨a1,a2⟩,a3,a4⟩:=hb
 have r1:0<=absI b.lo/\ absI b.lo<=9223372036854775808:=by unfold absI;split<;>omega
 have r2:0<=absI b.hi/\ absI b.hi<=9223372036854775808:=by unfold absI;split<;>omega
 unfold restM;split<;>omega
theorem rs_2 {c:Int} (h:(parts b).isEmpty=false) (h1:(a.lo==a.hi)=false \/(b.lo==b.hi)=false) (hb:b.inR) (hc:c=restM b):restS a b=Sp.of (if a.lo<0 then mxI a.lo c else 0) (if 0<a.hi then mnI c a.hi else 0):=by
 have hr:=restM_r hb
 unfold restS mxI mnI;rw [if_neg (by rw [h];decide),if_neg (by rintro ⟨x,y⟩;rcases h1 with k|k<;>exact (ne_of_beq_false k) (by assumption)),hc,wI_id (0-restM b) (by omega) (by omega)]
 congr 1
 split
 . split<;>split<;>omega
 . rfl
theorem rs_tt {c:Int} (h:(parts b).isEmpty=false) (h1:(a.lo==a.hi)=false \/(b.lo==b.hi)=false) (hb:b.inR) (hc:c=restM b) (k1:decide (a.lo<0)=true) (k2:decide (a.hi>0)=true):restS a b=Sp.of (mxI a.lo c) (mnI c a.hi):=by
 rw [rs_2 h h1 hb hc,if_pos (of_decide_eq_true k1),if_pos (of_decide_eq_true k2)]
theorem rs_tf {c:Int} (h:(parts b).isEmpty=false) (h1:(a.lo==a.hi)=false \/(b.lo==b.hi)=false) (hb:b.inR) (hc:c=restM b) (k1:decide (a.lo<0)=true) (k2:decide (a.hi>0)=false):restS a b=Sp.of (mxI a.lo c) 0:=by
 rw [rs_2 h h1 hb hc,if_pos (of_decide_eq_true k1),if_neg (of_decide_eq_false k2)]
theorem rs_ft {c:Int} (h:(parts b).isEmpty=false) (h1:(a.lo==a.hi)=false \/(b.lo==b.hi)=false) (hb:b.inR) (hc:c=restM b) (k1:decide (a.lo<0)=false) (k2:decide (a.hi>0)=true):restS a b=Sp.of 0 (mnI c a.hi):=by
 rw [rs_2 h h1 hb hc,if_neg (of_decide_eq_false k1),if_pos (of_decide_eq_true k2)]
theorem rs_ff {c:Int} (h:(parts b).isEmpty=false) (h1:(a.lo==a.hi)=false \/(b.lo==b.hi)=false) (hb:b.inR) (hc:c=restM b) (k1:decide (a.lo<0)=false) (k2:decide (a.hi>0)=false):restS a b=Sp.of 0 0:=by
 rw [rs_2 h h1 hb hc,if_neg (of_decide_eq_false k1),if_neg (of_decide_eq_false k2)]
theorem mx_r {c x:Int} (hx: -9223372036854775808<=x/\ x<9223372036854775808) (hb:b.inR) (hc:c=restM b): -9223372036854775808<=mxI x c/\ mxI x c<9223372036854775808:=by
 have hr:=restM_r hb
 unfold mxI;rw [hc,wI_id (0-restM b) (by omega) (by omega)];split<;>omega
theorem mn_r {c x:Int} (hx: -9223372036854775808<=x/\ x<9223372036854775808) (hb:b.inR) (hc:c=restM b): -9223372036854775808<=mnI c x/\ mnI c x<9223372036854775808:=by
 have hr:=restM_r hb
 unfold mnI;rw [hc];split<;>omega
theorem or1 {p q:Prop} (h:p):p \/q:= .inl h
theorem or2 {p q:Prop} (h:q):p \/q:= .inr h
end
section
variable {op:Int} {a b:Sp}
theorem rd_n1 (h:a.none=true):rkDo op a b=noS:=by unfold rkDo;rw [if_pos (by rw [h];rfl)]
theorem rd_n2 (h:b.none=true):rkDo op a b=noS:=by unfold rkDo;rw [if_pos (by rw [h,Bool.or_true])]
theorem rd_i (h:a.none=false) (h2:b.none=false):(a.none||b.none)≠true:=by rw [h,h2];decide
theorem rd_e (h:a.none=false) (h2:b.none=false) (he:exB op=true):rkDo op a b=around (corners (exI op) a b):=by unfold rkDo;rw [if_neg (rd_i h h2),if_pos he]
theorem rd_8 (h:a.none=false) (h2:b.none=false):rkDo 8 a b=divS a b:=by unfold rkDo;rw [if_neg (rd_i h h2),if_neg (by decide),if_pos rfl]
theorem rd_9 (h:a.none=false) (h2:b.none=false):rkDo 9 a b=restS a b:=by unfold rkDo;rw [if_neg (rd_i h h2),if_neg (by decide),if_neg (by decide),if_pos rfl]
theorem rd_c (h:a.none=false) (h2:b.none=false) (e:op≠10/\ op≠11/\ op≠7/\ op≠8/\ op≠9):rkDo op a b=cmpS op a b:=by
 unfold rkDo;rw [if_neg (rd_i h h2),if_neg (by unfold exB;simp;omega),if_neg e.2.2.2.1,if_neg e.2.2.2.2]
theorem ro_n (h:a.none=true):rkOne op a=noS:=by unfold rkOne;rw [if_pos h]
theorem ro_5 (h:a.none=false):rkOne 5 a=rkDo 11 (Sp.of 0 0) a:=by unfold rkOne;rw [if_neg (by rw [h];decide),if_pos rfl]
theorem ro_6 (h:a.none=false):rkOne 6 a=truthS (aloneS a 0) (!a.has 0):=by unfold rkOne;rw [if_neg (by rw [h];decide),if_neg (by decide),if_pos rfl]
theorem ro_x (h:a.none=false) (h5:op≠5) (h6:op≠6):rkOne op a=noS:=by unfold rkOne;rw [if_neg (by rw [h];decide),if_neg h5,if_neg h6]
end
theorem crn_e {op:Int} {a b:Sp} (ha:a.inR) (hb:b.inR):valsW 4 (rwW (crn (exI op) a b))=corners (exI op) a b/\ Wrg 4 (rwW (crn (exI op) a b)):=
 rw_vals (ex_rng ha.1 hb.1) (ex_rng ha.1 hb.2) (ex_rng ha.2 hb.1) (ex_rng ha.2 hb.2)
def FReRest:List Ar->Option Rs
 | [.agg [.d (.v (.bool s0)),.d (.v (.int .i64 l0)),.d (.v (.int .i64 h0))],.agg [.d (.v (.bool s1)),.d (.v (.int .i64 l1)),.d (.v (.int .i64 h1))]]=>some ⟨(Sp.inR ⟨s0,l0,h0⟩)/\ (Sp.inR ⟨s1,l1,h1⟩),.va (Sp.ar (restS (⟨s0,l0,h0⟩:Sp) (⟨s1,l1,h1⟩:Sp))),[]⟩
 |_=>none
theorem fcReRest:FC Tryz.prog 159 FReRest:=by
 intro xs pre r us h hp;unfold FReRest at h;split at h
 . rename_i s0 l0 h0 s1 l1 h1
   cases h;obtain ⟨hp0,hp1⟩:=hp
   refine fcat tys_ok (l:= [(189,⟨[],(FReParts (parts (⟨s1,l1,h1⟩:Sp)) (parts (⟨s1,l1,h1⟩:Sp)).length)⟩),(161,⟨[],FXDo⟩),(45,⟨[],FSOne⟩),(192,⟨[],FReSize⟩),(138,⟨[],FWOf⟩),(139,⟨[],FWMax⟩),(137,⟨[],FWSub⟩),(191,⟨[],FWClamp⟩),(32,⟨[],FSOf⟩)]) ⟨(fcReParts (parts (⟨s1,l1,h1⟩:Sp)) (parts (⟨s1,l1,h1⟩:Sp)).length),fcXDo,fcSOne,fcReSize,fcWOf,fcWMax,fcWSub,fcWClamp,fcSOf,trivial⟩ Tryz.func159 rfl (by kernel_rfl) true ?_
   have hm:=rest_m hp1
   have hB:=hp1
   have hpp:=And.intro hp1 (And.intro (rfl:(parts (⟨s1,l1,h1⟩:Sp))=(parts (⟨s1,l1,h1⟩:Sp))) (rfl:(parts (⟨s1,l1,h1⟩:Sp)).length=(parts (⟨s1,l1,h1⟩:Sp)).length))
   unfold Sp.inR at hp0 hp1
   generalize hL:(parts (⟨s1,l1,h1⟩:Sp)).length=k at*
   have hE:(parts (⟨s1,l1,h1⟩:Sp)).isEmpty=(k==0):=by rw [<-hL];cases (parts (⟨s1,l1,h1⟩:Sp))<;>rfl
   cases hk:((k:Int)==0)
   all_goals (have hE2:(parts (⟨s1,l1,h1⟩:Sp)).isEmpty=decide (k=0):=by rw [hE];rfl)
   . have hE3:(parts (⟨s1,l1,h1⟩:Sp)).isEmpty=false:=by rw [hE2,decide_eq_false];exact fun h=>ne_of_beq_false hk (by rw [h];rfl)
     repeat' (first|exact trivial|(with_reducible first|exact hp0|exact hp1|exact hp2|exact hp0.1|exact hp0.2|exact hp1.1|exact hp1.2|exact hp2.1|exact hp2.2|exact wd_ok _|exact (wd_ok _).1.1|exact (wd_ok _).1.2|exact (wd_ok _).2.1|exact (wd_ok _).2.2|exact (fun h:false=true=>absurd h (by decide))|exact (fun h:true=false=>absurd h (by decide))|exact hpp|exact nx hk)|refine ⟨?_, ?_⟩|intro _)
     all_goals first|(with_reducible apply qq)|(conv=>whnf)
     all_goals first|decide|exact hL|(with_reducible rfl)|(have o1:=‹(l0==h0)=true›;have o2:=‹(l1==h1)=true›;first|((with_reducible show Value.bool (Sp.some _)=_);exact congrArg (fun i:Sp=>Value.bool i.some) ((rs_1 (a:=⟨s0,l0,h0⟩) (b:=⟨s1,l1,h1⟩) hE3 o1 o2).symm))|((with_reducible show Value.int _ (Sp.lo _)=_);exact congrArg (fun i:Sp=>Value.int .i64 i.lo) ((rs_1 (a:=⟨s0,l0,h0⟩) (b:=⟨s1,l1,h1⟩) hE3 o1 o2).symm))|((with_reducible show Value.int _ (Sp.hi _)=_);exact congrArg (fun i:Sp=>Value.int .i64 i.hi) ((rs_1 (a:=⟨s0,l0,h0⟩) (b:=⟨s1,l1,h1⟩) hE3 o1 o2).symm)))|((with_reducible show Value.bool false=_);exact congrArg (fun i:Sp=>Value.bool i.some) ((rs_0 hE3).symm))|((with_reducible show Value.int _ 0=_);first|exact congrArg (fun i:Sp=>Value.int .i64 i.lo) ((rs_0 hE3).symm)|exact congrArg (fun i:Sp=>Value.int .i64 i.hi) ((rs_0 hE3).symm))|(have k1:=‹decide (l0<0)=true›;have k2:=‹decide (h0>0)=true›;have o:=‹(l0==h0)=false›;first|((with_reducible show Value.bool (Sp.some _)=_);exact congrArg (fun i:Sp=>Value.bool i.some) ((rs_tt (a:=⟨s0,l0,h0⟩) (b:=⟨s1,l1,h1⟩) (c:=_) hE3 (or1 o) hB hm k1 k2).symm))|((with_reducible show Value.int _ (Sp.lo _)=_);exact congrArg (fun i:Sp=>Value.int .i64 i.lo) ((rs_tt (a:=⟨s0,l0,h0⟩) (b:=⟨s1,l1,h1⟩) (c:=_) hE3 (or1 o) hB hm k1 k2).symm))|((with_reducible show Value.int _ (Sp.hi _)=_);exact congrArg (fun i:Sp=>Value.int .i64 i.hi) ((rs_tt (a:=⟨s0,l0,h0⟩) (b:=⟨s1,l1,h1⟩) (c:=_) hE3 (or1 o) hB hm k1 k2).symm)))|(have k1:=‹decide (l0<0)=true›;have k2:=‹decide (h0>0)=true›;have o:=‹(l1==h1)=false›;first|((with_reducible show Value.bool (Sp.some _)=_);exact congrArg (fun i:Sp=>Value.bool i.some) ((rs_tt (a:=⟨s0,l0,h0⟩) (b:=⟨s1,l1,h1⟩) (c:=_) hE3 (or2 o) hB hm k1 k2).symm))|((with_reducible show Value.int _ (Sp.lo _)=_);exact congrArg (fun i:Sp=>Value.int .i64 i.lo) ((rs_tt (a:=⟨s0,l0,h0⟩) (b:=⟨s1,l1,h1⟩) (c:=_) hE3 (or2 o) hB hm k1 k2).symm))|((with_reducible show Value.int _ (Sp.hi _)=_);exact congrArg (fun i:Sp=>Value.int .i64 i.hi) ((rs_tt (a:=⟨s0,l0,h0⟩) (b:=⟨s1,l1,h1⟩) (c:=_) hE3 (or2 o) hB hm k1 k2).symm)))|(have k1:=‹decide (l0<0)=true›;have k2:=‹decide (h0>0)=false›;have o:=‹(l0==h0)=false›;first|((with_reducible show Value.bool (Sp.some _)=_);exact congrArg (fun i:Sp=>Value.bool i.some) ((rs_tf (a:=⟨s0,l0,h0⟩) (b:=⟨s1,l1,h1⟩) (c:=_) hE3 (or1 o) hB hm k1 k2).symm))|((with_reducible show Value.int _ (Sp.lo _)=_);exact congrArg (fun i:Sp=>Value.int .i64 i.lo) ((rs_tf (a:=⟨s0,l0,h0⟩) (b:=⟨s1,l1,h1⟩) (c:=_) hE3 (or1 o) hB hm k1 k2).symm))|((with_reducible show Value.int _ (Sp.hi _)=_);exact congrArg (fun i:Sp=>Value.int .i64 i.hi) ((rs_tf (a:=⟨s0,l0,h0⟩) (b:=⟨s1,l1,h1⟩) (c:=_) hE3 (or1 o) hB hm k1 k2).symm)))|(have k1:=‹decide (l0<0)=true›;have k2:=‹decide (h0>0)=false›;have o:=‹(l1==h1)=false›;first|((with_reducible show Value.bool (Sp.some _)=_);exact congrArg (fun i:Sp=>Value.bool i.some) ((rs_tf (a:=⟨s0,l0,h0⟩) (b:=⟨s1,l1,h1⟩) (c:=_) hE3 (or2 o) hB hm k1 k2).symm))|((with_reducible show Value.int _ (Sp.lo _)=_);exact congrArg (fun i:Sp=>Value.int .i64 i.lo) ((rs_tf (a:=⟨s0,l0,h0⟩) (b:=⟨s1,l1,h1⟩) (c:=_) hE3 (or2 o) hB hm k1 k2).symm))|((with_reducible show Value.int _ (Sp.hi _)=_);exact congrArg (fun i:Sp=>Value.int .i64 i.hi) ((rs_tf (a:=⟨s0,l0,h0⟩) (b:=⟨s1,l1,h1⟩) (c:=_) hE3 (or2 o) hB hm k1 k2).symm)))|(have k1:=‹decide (l0<0)=false›;have k2:=‹decide (h0>0)=true›;have o:=‹(l0==h0)=false›;first|((with_reducible show Value.bool (Sp.some _)=_);exact congrArg (fun i:Sp=>Value.bool i.some) ((rs_ft (a:=⟨s0,l0,h0⟩) (b:=⟨s1,l1,h1⟩) (c:=_) hE3 (or1 o) hB hm k1 k2).symm))|((with_reducible show Value.int _ (Sp.lo _)=_);exact congrArg (fun i:Sp=>Value.int .i64 i.lo) ((rs_ft (a:=⟨s0,l0,h0⟩) (b:=⟨s1,l1,h1⟩) (c:=_) hE3 (or1 o) hB hm k1 k2).symm))|((with_reducible show Value.int _ (Sp.hi _)=_);exact congrArg (fun i:Sp=>Value.int .i64 i.hi) ((rs_ft (a:=⟨s0,l0,h0⟩) (b:=⟨s1,l1,h1⟩) (c:=_) hE3 (or1 o) hB hm k1 k2).symm)))|(have k1:=‹decide (l0<0)=false›;have k2:=‹decide (h0>0)=true›;have o:=‹(l1==h1)=false›;first|((with_reducible show Value.bool (Sp.some _)=_);exact congrArg (fun i:Sp=>Value.bool i.some) ((rs_ft (a:=⟨s0,l0,h0⟩) (b:=⟨s1,l1,h1⟩) (c:=_) hE3 (or2 o) hB hm k1 k2).symm))|((with_reducible show Value.int _ (Sp.lo _)=_);exact congrArg (fun i:Sp=>Value.int .i64 i.lo) ((rs_ft (a:=⟨s0,l0,h0⟩) (b:=⟨s1,l1,h1⟩) (c:=_) hE3 (or2 o) hB hm k1 k2).symm))|((with_reducible show Value.int _ (Sp.hi _)=_);exact congrArg (fun i:Sp=>Value.int .i64 i.hi) ((rs_ft (a:=⟨s0,l0,h0⟩) (b:=⟨s1,l1,h1⟩) (c:=_) hE3 (or2 o) hB hm k1 k2).symm)))|(have k1:=‹decide (l0<0)=false›;have k2:=‹decide (h0>0)=false›;have o:=‹(l0==h0)=false›;first|((with_reducible show Value.bool (Sp.some _)=_);exact congrArg (fun i:Sp=>Value.bool i.some) ((rs_ff (a:=⟨s0,l0,h0⟩) (b:=⟨s1,l1,h1⟩) (c:=_) hE3 (or1 o) hB hm k1 k2).symm))|((with_reducible show Value.int _ (Sp.lo _)=_);exact congrArg (fun i:Sp=>Value.int .i64 i.lo) ((rs_ff (a:=⟨s0,l0,h0⟩) (b:=⟨s1,l1,h1⟩) (c:=_) hE3 (or1 o) hB hm k1 k2).symm))|((with_reducible show Value.int _ (Sp.hi _)=_);exact congrArg (fun i:Sp=>Value.int .i64 i.hi) ((rs_ff (a:=⟨s0,l0,h0⟩) (b:=⟨s1,l1,h1⟩) (c:=_) hE3 (or1 o) hB hm k1 k2).symm)))|(have k1:=‹decide (l0<0)=false›;have k2:=‹decide (h0>0)=false›;have o:=‹(l1==h1)=false›;first|((with_reducible show Value.bool (Sp.some _)=_);exact congrArg (fun i:Sp=>Value.bool i.some) ((rs_ff (a:=⟨s0,l0,h0⟩) (b:=⟨s1,l1,h1⟩) (c:=_) hE3 (or2 o) hB hm k1 k2).symm))|((with_reducible show Value.int _ (Sp.lo _)=_);exact congrArg (fun i:Sp=>Value.int .i64 i.lo) ((rs_ff (a:=⟨s0,l0,h0⟩) (b:=⟨s1,l1,h1⟩) (c:=_) hE3 (or2 o) hB hm k1 k2).symm))|((with_reducible show Value.int _ (Sp.hi _)=_);exact congrArg (fun i:Sp=>Value.int .i64 i.hi) ((rs_ff (a:=⟨s0,l0,h0⟩) (b:=⟨s1,l1,h1⟩) (c:=_) hE3 (or2 o) hB hm k1 k2).symm)))|exact (doI_rng hp0.1).1|exact (doI_rng hp0.1).2|exact (mx_r hp0.1 hB hm).1|exact (mx_r hp0.1 hB hm).2|exact (mn_r hp0.2 hB hm).1|exact (mn_r hp0.2 hB hm).2|exact (wd_ok (absI h1)).1.1|exact (wd_ok (absI h1)).1.2|exact (wd_ok (absI h1)).2.1|exact (wd_ok (absI h1)).2.2|exact (maxW_ok (wd_ok (absI l1)) (wd_ok (absI h1))).1.1|exact (maxW_ok (wd_ok (absI l1)) (wd_ok (absI h1))).1.2|exact (maxW_ok (wd_ok (absI l1)) (wd_ok (absI h1))).2.1|exact (maxW_ok (wd_ok (absI l1)) (wd_ok (absI h1))).2.2|rfl
   . have hE3:(parts (⟨s1,l1,h1⟩:Sp)).isEmpty=true:=by rw [hE2,decide_eq_true];have:=eq_of_beq hk;omega
     repeat' (first|exact trivial|(with_reducible first|exact hp0|exact hp1|exact hp2|exact hp0.1|exact hp0.2|exact hp1.1|exact hp1.2|exact hp2.1|exact hp2.2|exact wd_ok _|exact (wd_ok _).1.1|exact (wd_ok _).1.2|exact (wd_ok _).2.1|exact (wd_ok _).2.2|exact (fun h:false=true=>absurd h (by decide))|exact (fun h:true=false=>absurd h (by decide))|exact hpp|exact nx hk)|refine ⟨?_, ?_⟩|intro _)
     all_goals first|(with_reducible apply qq)|(conv=>whnf)
     all_goals first|decide|exact hL|(with_reducible rfl)|(have o1:=‹(l0==h0)=true›;have o2:=‹(l1==h1)=true›;first|((with_reducible show Value.bool (Sp.some _)=_);exact congrArg (fun i:Sp=>Value.bool i.some) ((rs_1 (a:=⟨s0,l0,h0⟩) (b:=⟨s1,l1,h1⟩) hE3 o1 o2).symm))|((with_reducible show Value.int _ (Sp.lo _)=_);exact congrArg (fun i:Sp=>Value.int .i64 i.lo) ((rs_1 (a:=⟨s0,l0,h0⟩) (b:=⟨s1,l1,h1⟩) hE3 o1 o2).symm))|((with_reducible show Value.int _ (Sp.hi _)=_);exact congrArg (fun i:Sp=>Value.int .i64 i.hi) ((rs_1 (a:=⟨s0,l0,h0⟩) (b:=⟨s1,l1,h1⟩) hE3 o1 o2).symm)))|((with_reducible show Value.bool false=_);exact congrArg (fun i:Sp=>Value.bool i.some) ((rs_0 hE3).symm))|((with_reducible show Value.int _ 0=_);first|exact congrArg (fun i:Sp=>Value.int .i64 i.lo) ((rs_0 hE3).symm)|exact congrArg (fun i:Sp=>Value.int .i64 i.hi) ((rs_0 hE3).symm))|(have k1:=‹decide (l0<0)=true›;have k2:=‹decide (h0>0)=true›;have o:=‹(l0==h0)=false›;first|((with_reducible show Value.bool (Sp.some _)=_);exact congrArg (fun i:Sp=>Value.bool i.some) ((rs_tt (a:=⟨s0,l0,h0⟩) (b:=⟨s1,l1,h1⟩) (c:=_) hE3 (or1 o) hB hm k1 k2).symm))|((with_reducible show Value.int _ (Sp.lo _)=_);exact congrArg (fun i:Sp=>Value.int .i64 i.lo) ((rs_tt (a:=⟨s0,l0,h0⟩) (b:=⟨s1,l1,h1⟩) (c:=_) hE3 (or1 o) hB hm k1 k2).symm))|((with_reducible show Value.int _ (Sp.hi _)=_);exact congrArg (fun i:Sp=>Value.int .i64 i.hi) ((rs_tt (a:=⟨s0,l0,h0⟩) (b:=⟨s1,l1,h1⟩) (c:=_) hE3 (or1 o) hB hm k1 k2).symm)))|(have k1:=‹decide (l0<0)=true›;have k2:=‹decide (h0>0)=true›;have o:=‹(l1==h1)=false›;first|((with_reducible show Value.bool (Sp.some _)=_);exact congrArg (fun i:Sp=>Value.bool i.some) ((rs_tt (a:=⟨s0,l0,h0⟩) (b:=⟨s1,l1,h1⟩) (c:=_) hE3 (or2 o) hB hm k1 k2).symm))|((with_reducible show Value.int _ (Sp.lo _)=_);exact congrArg (fun i:Sp=>Value.int .i64 i.lo) ((rs_tt (a:=⟨s0,l0,h0⟩) (b:=⟨s1,l1,h1⟩) (c:=_) hE3 (or2 o) hB hm k1 k2).symm))|((with_reducible show Value.int _ (Sp.hi _)=_);exact congrArg (fun i:Sp=>Value.int .i64 i.hi) ((rs_tt (a:=⟨s0,l0,h0⟩) (b:=⟨s1,l1,h1⟩) (c:=_) hE3 (or2 o) hB hm k1 k2).symm)))|(have k1:=‹decide (l0<0)=true›;have k2:=‹decide (h0>0)=false›;have o:=‹(l0==h0)=false›;first|((with_reducible show Value.bool (Sp.some _)=_);exact congrArg (fun i:Sp=>Value.bool i.some) ((rs_tf (a:=⟨s0,l0,h0⟩) (b:=⟨s1,l1,h1⟩) (c:=_) hE3 (or1 o) hB hm k1 k2).symm))|((with_reducible show Value.int _ (Sp.lo _)=_);exact congrArg (fun i:Sp=>Value.int .i64 i.lo) ((rs_tf (a:=⟨s0,l0,h0⟩) (b:=⟨s1,l1,h1⟩) (c:=_) hE3 (or1 o) hB hm k1 k2).symm))|((with_reducible show Value.int _ (Sp.hi _)=_);exact congrArg (fun i:Sp=>Value.int .i64 i.hi) ((rs_tf (a:=⟨s0,l0,h0⟩) (b:=⟨s1,l1,h1⟩) (c:=_) hE3 (or1 o) hB hm k1 k2).symm)))|(have k1:=‹decide (l0<0)=true›;have k2:=‹decide (h0>0)=false›;have o:=‹(l1==h1)=false›;first|((with_reducible show Value.bool (Sp.some _)=_);exact congrArg (fun i:Sp=>Value.bool i.some) ((rs_tf (a:=⟨s0,l0,h0⟩) (b:=⟨s1,l1,h1⟩) (c:=_) hE3 (or2 o) hB hm k1 k2).symm))|((with_reducible show Value.int _ (Sp.lo _)=_);exact congrArg (fun i:Sp=>Value.int .i64 i.lo) ((rs_tf (a:=⟨s0,l0,h0⟩) (b:=⟨s1,l1,h1⟩) (c:=_) hE3 (or2 o) hB hm k1 k2).symm))|((with_reducible show Value.int _ (Sp.hi _)=_);exact congrArg (fun i:Sp=>Value.int .i64 i.hi) ((rs_tf (a:=⟨s0,l0,h0⟩) (b:=⟨s1,l1,h1⟩) (c:=_) hE3 (or2 o) hB hm k1 k2).symm)))|(have k1:=‹decide (l0<0)=false›;have k2:=‹decide (h0>0)=true›;have o:=‹(l0==h0)=false›;first|((with_reducible show Value.bool (Sp.some _)=_);exact congrArg (fun i:Sp=>Value.bool i.some) ((rs_ft (a:=⟨s0,l0,h0⟩) (b:=⟨s1,l1,h1⟩) (c:=_) hE3 (or1 o) hB hm k1 k2).symm))|((with_reducible show Value.int _ (Sp.lo _)=_);exact congrArg (fun i:Sp=>Value.int .i64 i.lo) ((rs_ft (a:=⟨s0,l0,h0⟩) (b:=⟨s1,l1,h1⟩) (c:=_) hE3 (or1 o) hB hm k1 k2).symm))|((with_reducible show Value.int _ (Sp.hi _)=_);exact congrArg (fun i:Sp=>Value.int .i64 i.hi) ((rs_ft (a:=⟨s0,l0,h0⟩) (b:=⟨s1,l1,h1⟩) (c:=_) hE3 (or1 o) hB hm k1 k2).symm)))|(have k1:=‹decide (l0<0)=false›;have k2:=‹decide (h0>0)=true›;have o:=‹(l1==h1)=false›;first|((with_reducible show Value.bool (Sp.some _)=_);exact congrArg (fun i:Sp=>Value.bool i.some) ((rs_ft (a:=⟨s0,l0,h0⟩) (b:=⟨s1,l1,h1⟩) (c:=_) hE3 (or2 o) hB hm k1 k2).symm))|((with_reducible show Value.int _ (Sp.lo _)=_);exact congrArg (fun i:Sp=>Value.int .i64 i.lo) ((rs_ft (a:=⟨s0,l0,h0⟩) (b:=⟨s1,l1,h1⟩) (c:=_) hE3 (or2 o) hB hm k1 k2).symm))|((with_reducible show Value.int _ (Sp.hi _)=_);exact congrArg (fun i:Sp=>Value.int .i64 i.hi) ((rs_ft (a:=⟨s0,l0,h0⟩) (b:=⟨s1,l1,h1⟩) (c:=_) hE3 (or2 o) hB hm k1 k2).symm)))|(have k1:=‹decide (l0<0)=false›;have k2:=‹decide (h0>0)=false›;have o:=‹(l0==h0)=false›;first|((with_reducible show Value.bool (Sp.some _)=_);exact congrArg (fun i:Sp=>Value.bool i.some) ((rs_ff (a:=⟨s0,l0,h0⟩) (b:=⟨s1,l1,h1⟩) (c:=_) hE3 (or1 o) hB hm k1 k2).symm))|((with_reducible show Value.int _ (Sp.lo _)=_);exact congrArg (fun i:Sp=>Value.int .i64 i.lo) ((rs_ff (a:=⟨s0,l0,h0⟩) (b:=⟨s1,l1,h1⟩) (c:=_) hE3 (or1 o) hB hm k1 k2).symm))|((with_reducible show Value.int _ (Sp.hi _)=_);exact congrArg (fun i:Sp=>Value.int .i64 i.hi) ((rs_ff (a:=⟨s0,l0,h0⟩) (b:=⟨s1,l1,h1⟩) (c:=_) hE3 (or1 o) hB hm k1 k2).symm)))|(have k1:=‹decide (l0<0)=false›;have k2:=‹decide (h0>0)=false›;have o:=‹(l1==h1)=false›;first|((with_reducible show Value.bool (Sp.some _)=_);exact congrArg (fun i:Sp=>Value.bool i.some) ((rs_ff (a:=⟨s0,l0,h0⟩) (b:=⟨s1,l1,h1⟩) (c:=_) hE3 (or2 o) hB hm k1 k2).symm))|((with_reducible show Value.int _ (Sp.lo _)=_);exact congrArg (fun i:Sp=>Value.int .i64 i.lo) ((rs_ff (a:=⟨s0,l0,h0⟩) (b:=⟨s1,l1,h1⟩) (c:=_) hE3 (or2 o) hB hm k1 k2).symm))|((with_reducible show Value.int _ (Sp.hi _)=_);exact congrArg (fun i:Sp=>Value.int .i64 i.hi) ((rs_ff (a:=⟨s0,l0,h0⟩) (b:=⟨s1,l1,h1⟩) (c:=_) hE3 (or2 o) hB hm k1 k2).symm)))|exact (doI_rng hp0.1).1|exact (doI_rng hp0.1).2|exact (mx_r hp0.1 hB hm).1|exact (mx_r hp0.1 hB hm).2|exact (mn_r hp0.2 hB hm).1|exact (mn_r hp0.2 hB hm).2|exact (wd_ok (absI h1)).1.1|exact (wd_ok (absI h1)).1.2|exact (wd_ok (absI h1)).2.1|exact (wd_ok (absI h1)).2.2|exact (maxW_ok (wd_ok (absI l1)) (wd_ok (absI h1))).1.1|exact (maxW_ok (wd_ok (absI l1)) (wd_ok (absI h1))).1.2|exact (maxW_ok (wd_ok (absI l1)) (wd_ok (absI h1))).2.1|exact (maxW_ok (wd_ok (absI l1)) (wd_ok (absI h1))).2.2|rfl
   all_goals trace_state
 . cases h
def FReDo:List Ar->Option Rs
 | [.c (.d (.v (.int .i64 i0))),.agg [.d (.v (.bool s1)),.d (.v (.int .i64 l1)),.d (.v (.int .i64 h1))],.agg [.d (.v (.bool s2)),.d (.v (.int .i64 l2)),.d (.v (.int .i64 h2))]]=>some ⟨(-9223372036854775808<=i0/\ i0<9223372036854775808)/\ (Sp.inR ⟨s1,l1,h1⟩)/\ (Sp.inR ⟨s2,l2,h2⟩),.va (Sp.ar (rkDo i0 (⟨s1,l1,h1⟩:Sp) (⟨s2,l2,h2⟩:Sp))),[]⟩
 |_=>none
theorem fcReDo:FC Tryz.prog 121 FReDo:=by
 intro xs pre r us h hp;unfold FReDo at h;split at h
 . rename_i i0 s1 l1 h1 s2 l2 h2
   cases h;obtain ⟨hp0,hp1,hp2⟩:=hp
   refine fcat tys_ok (l:= [(34,⟨[],FSNone⟩),(157,⟨[],(FReCornE i0)⟩),(155,⟨[],FReDo1⟩),(156,⟨[],FReAround⟩),(158,⟨[],FReDiv⟩),(159,⟨[],FReRest⟩),(160,⟨[],FReCmp⟩)]) ⟨fcSNone,(fcReCornE i0),fcReDo1,fcReAround,fcReDiv,fcReRest,fcReCmp,trivial⟩ Tryz.func121 rfl (by kernel_rfl) true ?_
   have hO:=hp0
   have hk:=crn_e (op:=i0) hp1 hp2
   by_cases e10:i0=10
   . subst e10;have q10:((10:Int)==10)=true:=by decide
     have q11:((10:Int)==11)=false:=by decide
     have q7:((10:Int)==7)=false:=by decide
     have q8:((10:Int)==8)=false:=by decide
     have q9:((10:Int)==9)=false:=by decide
     repeat' (first|exact trivial|(with_reducible first|exact hp1|exact hp2|exact hp1.1|exact hp1.2|exact hp2.1|exact hp2.2|exact hO|exact wd_ok _|exact (fun h:false=true=>absurd h (by decide))|exact (fun h:true=false=>absurd h (by decide))|exact nx q10|exact nx q11|exact nx q7|exact nx q8|exact nx q9)|refine ⟨?_, ?_⟩|intro _)
     all_goals first|(with_reducible apply qq)|(conv=>whnf)
     all_goals first|decide|(with_reducible rfl)|((with_reducible show Value.bool false=_);exact congrArg (fun i:Sp=>Value.bool i.some) ((rd_n1 ‹_›).symm))|((with_reducible show Value.int _ 0=_);first|exact congrArg (fun i:Sp=>Value.int .i64 i.lo) ((rd_n1 ‹_›).symm)|exact congrArg (fun i:Sp=>Value.int .i64 i.hi) ((rd_n1 ‹_›).symm))|((with_reducible show Value.bool false=_);exact congrArg (fun i:Sp=>Value.bool i.some) ((rd_n2 ‹_›).symm))|((with_reducible show Value.int _ 0=_);first|exact congrArg (fun i:Sp=>Value.int .i64 i.lo) ((rd_n2 ‹_›).symm)|exact congrArg (fun i:Sp=>Value.int .i64 i.hi) ((rd_n2 ‹_›).symm))|((with_reducible show Value.bool (Sp.some _)=_);exact congrArg (fun i:Sp=>Value.bool i.some) ((congrArg around hk.1).trans (rd_e ‹_› ‹_› rfl).symm))|((with_reducible show Value.int _ (Sp.lo _)=_);exact congrArg (fun i:Sp=>Value.int .i64 i.lo) ((congrArg around hk.1).trans (rd_e ‹_› ‹_› rfl).symm))|((with_reducible show Value.int _ (Sp.hi _)=_);exact congrArg (fun i:Sp=>Value.int .i64 i.hi) ((congrArg around hk.1).trans (rd_e ‹_› ‹_› rfl).symm))|((with_reducible show Value.bool (Sp.some _)=_);exact congrArg (fun i:Sp=>Value.bool i.some) ((rd_8 ‹_› ‹_›).symm))|((with_reducible show Value.int _ (Sp.lo _)=_);exact congrArg (fun i:Sp=>Value.int .i64 i.lo) ((rd_8 ‹_› ‹_›).symm))|((with_reducible show Value.int _ (Sp.hi _)=_);exact congrArg (fun i:Sp=>Value.int .i64 i.hi) ((rd_8 ‹_› ‹_›).symm))|((with_reducible show Value.bool (Sp.some _)=_);exact congrArg (fun i:Sp=>Value.bool i.some) ((rd_9 ‹_› ‹_›).symm))|((with_reducible show Value.int _ (Sp.lo _)=_);exact congrArg (fun i:Sp=>Value.int .i64 i.lo) ((rd_9 ‹_› ‹_›).symm))|((with_reducible show Value.int _ (Sp.hi _)=_);exact congrArg (fun i:Sp=>Value.int .i64 i.hi) ((rd_9 ‹_› ‹_›).symm))|exact (hk.2 _ ‹_›).1|exact (hk.2 _ ‹_›).2|exact (wok_rw 4 _ _ ‹_›).2.1.1|exact (wok_rw 4 _ _ ‹_›).2.1.2|exact (wok_rw 4 _ _ ‹_›).2.2.1|exact (wok_rw 4 _ _ ‹_›).2.2.2|rfl
   by_cases e11:i0=11
   . subst e11;have q10:((11:Int)==10)=false:=by decide
     have q11:((11:Int)==11)=true:=by decide
     have q7:((11:Int)==7)=false:=by decide
     have q8:((11:Int)==8)=false:=by decide
     have q9:((11:Int)==9)=false:=by decide
     repeat' (first|exact trivial|(with_reducible first|exact hp1|exact hp2|exact hp1.1|exact hp1.2|exact hp2.1|exact hp2.2|exact hO|exact wd_ok _|exact (fun h:false=true=>absurd h (by decide))|exact (fun h:true=false=>absurd h (by decide))|exact nx q10|exact nx q11|exact nx q7|exact nx q8|exact nx q9)|refine ⟨?_, ?_⟩|intro _)
     all_goals first|(with_reducible apply qq)|(conv=>whnf)
     all_goals first|decide|(with_reducible rfl)|((with_reducible show Value.bool false=_);exact congrArg (fun i:Sp=>Value.bool i.some) ((rd_n1 ‹_›).symm))|((with_reducible show Value.int _ 0=_);first|exact congrArg (fun i:Sp=>Value.int .i64 i.lo) ((rd_n1 ‹_›).symm)|exact congrArg (fun i:Sp=>Value.int .i64 i.hi) ((rd_n1 ‹_›).symm))|((with_reducible show Value.bool false=_);exact congrArg (fun i:Sp=>Value.bool i.some) ((rd_n2 ‹_›).symm))|((with_reducible show Value.int _ 0=_);first|exact congrArg (fun i:Sp=>Value.int .i64 i.lo) ((rd_n2 ‹_›).symm)|exact congrArg (fun i:Sp=>Value.int .i64 i.hi) ((rd_n2 ‹_›).symm))|((with_reducible show Value.bool (Sp.some _)=_);exact congrArg (fun i:Sp=>Value.bool i.some) ((congrArg around hk.1).trans (rd_e ‹_› ‹_› rfl).symm))|((with_reducible show Value.int _ (Sp.lo _)=_);exact congrArg (fun i:Sp=>Value.int .i64 i.lo) ((congrArg around hk.1).trans (rd_e ‹_› ‹_› rfl).symm))|((with_reducible show Value.int _ (Sp.hi _)=_);exact congrArg (fun i:Sp=>Value.int .i64 i.hi) ((congrArg around hk.1).trans (rd_e ‹_› ‹_› rfl).symm))|((with_reducible show Value.bool (Sp.some _)=_);exact congrArg (fun i:Sp=>Value.bool i.some) ((rd_8 ‹_› ‹_›).symm))|((with_reducible show Value.int _ (Sp.lo _)=_);exact congrArg (fun i:Sp=>Value.int .i64 i.lo) ((rd_8 ‹_› ‹_›).symm))|((with_reducible show Value.int _ (Sp.hi _)=_);exact congrArg (fun i:Sp=>Value.int .i64 i.hi) ((rd_8 ‹_› ‹_›).symm))|((with_reducible show Value.bool (Sp.some _)=_);exact congrArg (fun i:Sp=>Value.bool i.some) ((rd_9 ‹_› ‹_›).symm))|((with_reducible show Value.int _ (Sp.lo _)=_);exact congrArg (fun i:Sp=>Value.int .i64 i.lo) ((rd_9 ‹_› ‹_›).symm))|((with_reducible show Value.int _ (Sp.hi _)=_);exact congrArg (fun i:Sp=>Value.int .i64 i.hi) ((rd_9 ‹_› ‹_›).symm))|exact (hk.2 _ ‹_›).1|exact (hk.2 _ ‹_›).2|exact (wok_rw 4 _ _ ‹_›).2.1.1|exact (wok_rw 4 _ _ ‹_›).2.1.2|exact (wok_rw 4 _ _ ‹_›).2.2.1|exact (wok_rw 4 _ _ ‹_›).2.2.2|rfl
   by_cases e7:i0=7
   . subst e7;have q10:((7:Int)==10)=false:=by decide
     have q11:((7:Int)==11)=false:=by decide
     have q7:((7:Int)==7)=true:=by decide
     have q8:((7:Int)==8)=false:=by decide
     have q9:((7:Int)==9)=false:=by decide
     repeat' (first|exact trivial|(with_reducible first|exact hp1|exact hp2|exact hp1.1|exact hp1.2|exact hp2.1|exact hp2.2|exact hO|exact wd_ok _|exact (fun h:false=true=>absurd h (by decide))|exact (fun h:true=false=>absurd h (by decide))|exact nx q10|exact nx q11|exact nx q7|exact nx q8|exact nx q9)|refine ⟨?_, ?_⟩|intro _)
     all_goals first|(with_reducible apply qq)|(conv=>whnf)
     all_goals first|decide|(with_reducible rfl)|((with_reducible show Value.bool false=_);exact congrArg (fun i:Sp=>Value.bool i.some) ((rd_n1 ‹_›).symm))|((with_reducible show Value.int _ 0=_);first|exact congrArg (fun i:Sp=>Value.int .i64 i.lo) ((rd_n1 ‹_›).symm)|exact congrArg (fun i:Sp=>Value.int .i64 i.hi) ((rd_n1 ‹_›).symm))|((with_reducible show Value.bool false=_);exact congrArg (fun i:Sp=>Value.bool i.some) ((rd_n2 ‹_›).symm))|((with_reducible show Value.int _ 0=_);first|exact congrArg (fun i:Sp=>Value.int .i64 i.lo) ((rd_n2 ‹_›).symm)|exact congrArg (fun i:Sp=>Value.int .i64 i.hi) ((rd_n2 ‹_›).symm))|((with_reducible show Value.bool (Sp.some _)=_);exact congrArg (fun i:Sp=>Value.bool i.some) ((congrArg around hk.1).trans (rd_e ‹_› ‹_› rfl).symm))|((with_reducible show Value.int _ (Sp.lo _)=_);exact congrArg (fun i:Sp=>Value.int .i64 i.lo) ((congrArg around hk.1).trans (rd_e ‹_› ‹_› rfl).symm))|((with_reducible show Value.int _ (Sp.hi _)=_);exact congrArg (fun i:Sp=>Value.int .i64 i.hi) ((congrArg around hk.1).trans (rd_e ‹_› ‹_› rfl).symm))|((with_reducible show Value.bool (Sp.some _)=_);exact congrArg (fun i:Sp=>Value.bool i.some) ((rd_8 ‹_› ‹_›).symm))|((with_reducible show Value.int _ (Sp.lo _)=_);exact congrArg (fun i:Sp=>Value.int .i64 i.lo) ((rd_8 ‹_› ‹_›).symm))|((with_reducible show Value.int _ (Sp.hi _)=_);exact congrArg (fun i:Sp=>Value.int .i64 i.hi) ((rd_8 ‹_› ‹_›).symm))|((with_reducible show Value.bool (Sp.some _)=_);exact congrArg (fun i:Sp=>Value.bool i.some) ((rd_9 ‹_› ‹_›).symm))|((with_reducible show Value.int _ (Sp.lo _)=_);exact congrArg (fun i:Sp=>Value.int .i64 i.lo) ((rd_9 ‹_› ‹_›).symm))|((with_reducible show Value.int _ (Sp.hi _)=_);exact congrArg (fun i:Sp=>Value.int .i64 i.hi) ((rd_9 ‹_› ‹_›).symm))|exact (hk.2 _ ‹_›).1|exact (hk.2 _ ‹_›).2|exact (wok_rw 4 _ _ ‹_›).2.1.1|exact (wok_rw 4 _ _ ‹_›).2.1.2|exact (wok_rw 4 _ _ ‹_›).2.2.1|exact (wok_rw 4 _ _ ‹_›).2.2.2|rfl
   by_cases e8:i0=8
   . subst e8;have q10:((8:Int)==10)=false:=by decide
     have q11:((8:Int)==11)=false:=by decide
     have q7:((8:Int)==7)=false:=by decide
     have q8:((8:Int)==8)=true:=by decide
     have q9:((8:Int)==9)=false:=by decide
     repeat' (first|exact trivial|(with_reducible first|exact hp1|exact hp2|exact hp1.1|exact hp1.2|exact hp2.1|exact hp2.2|exact hO|exact wd_ok _|exact (fun h:false=true=>absurd h (by decide))|exact (fun h:true=false=>absurd h (by decide))|exact nx q10|exact nx q11|exact nx q7|exact nx q8|exact nx q9)|refine ⟨?_, ?_⟩|intro _)
     all_goals first|(with_reducible apply qq)|(conv=>whnf)
     all_goals first|decide|(with_reducible rfl)|((with_reducible show Value.bool false=_);exact congrArg (fun i:Sp=>Value.bool i.some) ((rd_n1 ‹_›).symm))|((with_reducible show Value.int _ 0=_);first|exact congrArg (fun i:Sp=>Value.int .i64 i.lo) ((rd_n1 ‹_›).symm)|exact congrArg (fun i:Sp=>Value.int .i64 i.hi) ((rd_n1 ‹_›).symm))|((with_reducible show Value.bool false=_);exact congrArg (fun i:Sp=>Value.bool i.some) ((rd_n2 ‹_›).symm))|((with_reducible show Value.int _ 0=_);first|exact congrArg (fun i:Sp=>Value.int .i64 i.lo) ((rd_n2 ‹_›).symm)|exact congrArg (fun i:Sp=>Value.int .i64 i.hi) ((rd_n2 ‹_›).symm))|((with_reducible show Value.bool (Sp.some _)=_);exact congrArg (fun i:Sp=>Value.bool i.some) ((congrArg around hk.1).trans (rd_e ‹_› ‹_› rfl).symm))|((with_reducible show Value.int _ (Sp.lo _)=_);exact congrArg (fun i:Sp=>Value.int .i64 i.lo) ((congrArg around hk.1).trans (rd_e ‹_› ‹_› rfl).symm))|((with_reducible show Value.int _ (Sp.hi _)=_);exact congrArg (fun i:Sp=>Value.int .i64 i.hi) ((congrArg around hk.1).trans (rd_e ‹_› ‹_› rfl).symm))|((with_reducible show Value.bool (Sp.some _)=_);exact congrArg (fun i:Sp=>Value.bool i.some) ((rd_8 ‹_› ‹_›).symm))|((with_reducible show Value.int _ (Sp.lo _)=_);exact congrArg (fun i:Sp=>Value.int .i64 i.lo) ((rd_8 ‹_› ‹_›).symm))|((with_reducible show Value.int _ (Sp.hi _)=_);exact congrArg (fun i:Sp=>Value.int .i64 i.hi) ((rd_8 ‹_› ‹_›).symm))|((with_reducible show Value.bool (Sp.some _)=_);exact congrArg (fun i:Sp=>Value.bool i.some) ((rd_9 ‹_› ‹_›).symm))|((with_reducible show Value.int _ (Sp.lo _)=_);exact congrArg (fun i:Sp=>Value.int .i64 i.lo) ((rd_9 ‹_› ‹_›).symm))|((with_reducible show Value.int _ (Sp.hi _)=_);exact congrArg (fun i:Sp=>Value.int .i64 i.hi) ((rd_9 ‹_› ‹_›).symm))|exact (hk.2 _ ‹_›).1|exact (hk.2 _ ‹_›).2|exact (wok_rw 4 _ _ ‹_›).2.1.1|exact (wok_rw 4 _ _ ‹_›).2.1.2|exact (wok_rw 4 _ _ ‹_›).2.2.1|exact (wok_rw 4 _ _ ‹_›).2.2.2|rfl
   by_cases e9:i0=9
   . subst e9;have q10:((9:Int)==10)=false:=by decide
     have q11:((9:Int)==11)=false:=by decide
     have q7:((9:Int)==7)=false:=by decide
     have q8:((9:Int)==8)=false:=by decide
     have q9:((9:Int)==9)=true:=by decide
     repeat' (first|exact trivial|(with_reducible first|exact hp1|exact hp2|exact hp1.1|exact hp1.2|exact hp2.1|exact hp2.2|exact hO|exact wd_ok _|exact (fun h:false=true=>absurd h (by decide))|exact (fun h:true=false=>absurd h (by decide))|exact nx q10|exact nx q11|exact nx q7|exact nx q8|exact nx q9)|refine ⟨?_, ?_⟩|intro _)
     all_goals first|(with_reducible apply qq)|(conv=>whnf)
     all_goals first|decide|(with_reducible rfl)|((with_reducible show Value.bool false=_);exact congrArg (fun i:Sp=>Value.bool i.some) ((rd_n1 ‹_›).symm))|((with_reducible show Value.int _ 0=_);first|exact congrArg (fun i:Sp=>Value.int .i64 i.lo) ((rd_n1 ‹_›).symm)|exact congrArg (fun i:Sp=>Value.int .i64 i.hi) ((rd_n1 ‹_›).symm))|((with_reducible show Value.bool false=_);exact congrArg (fun i:Sp=>Value.bool i.some) ((rd_n2 ‹_›).symm))|((with_reducible show Value.int _ 0=_);first|exact congrArg (fun i:Sp=>Value.int .i64 i.lo) ((rd_n2 ‹_›).symm)|exact congrArg (fun i:Sp=>Value.int .i64 i.hi) ((rd_n2 ‹_›).symm))|((with_reducible show Value.bool (Sp.some _)=_);exact congrArg (fun i:Sp=>Value.bool i.some) ((congrArg around hk.1).trans (rd_e ‹_› ‹_› rfl).symm))|((with_reducible show Value.int _ (Sp.lo _)=_);exact congrArg (fun i:Sp=>Value.int .i64 i.lo) ((congrArg around hk.1).trans (rd_e ‹_› ‹_› rfl).symm))|((with_reducible show Value.int _ (Sp.hi _)=_);exact congrArg (fun i:Sp=>Value.int .i64 i.hi) ((congrArg around hk.1).trans (rd_e ‹_› ‹_› rfl).symm))|((with_reducible show Value.bool (Sp.some _)=_);exact congrArg (fun i:Sp=>Value.bool i.some) ((rd_8 ‹_› ‹_›).symm))|((with_reducible show Value.int _ (Sp.lo _)=_);exact congrArg (fun i:Sp=>Value.int .i64 i.lo) ((rd_8 ‹_› ‹_›).symm))|((with_reducible show Value.int _ (Sp.hi _)=_);exact congrArg (fun i:Sp=>Value.int .i64 i.hi) ((rd_8 ‹_› ‹_›).symm))|((with_reducible show Value.bool (Sp.some _)=_);exact congrArg (fun i:Sp=>Value.bool i.some) ((rd_9 ‹_› ‹_›).symm))|((with_reducible show Value.int _ (Sp.lo _)=_);exact congrArg (fun i:Sp=>Value.int .i64 i.lo) ((rd_9 ‹_› ‹_›).symm))|((with_reducible show Value.int _ (Sp.hi _)=_);exact congrArg (fun i:Sp=>Value.int .i64 i.hi) ((rd_9 ‹_› ‹_›).symm))|exact (hk.2 _ ‹_›).1|exact (hk.2 _ ‹_›).2|exact (wok_rw 4 _ _ ‹_›).2.1.1|exact (wok_rw 4 _ _ ‹_›).2.1.2|exact (wok_rw 4 _ _ ‹_›).2.2.1|exact (wok_rw 4 _ _ ‹_›).2.2.2|rfl
   have q10:(i0==10)=false:=beq_eq_false_iff_ne.2 e10
   have q11:(i0==11)=false:=beq_eq_false_iff_ne.2 e11
   have q7:(i0==7)=false:=beq_eq_false_iff_ne.2 e7
   have q8:(i0==8)=false:=beq_eq_false_iff_ne.2 e8
   have q9:(i0==9)=false:=beq_eq_false_iff_ne.2 e9
   repeat' (first|exact trivial|(with_reducible first|exact hp1|exact hp2|exact hp1.1|exact hp1.2|exact hp2.1|exact hp2.2|exact hO|exact wd_ok _|exact (fun h:false=true=>absurd h (by decide))|exact (fun h:true=false=>absurd h (by decide))|exact nx q10|exact nx q11|exact nx q7|exact nx q8|exact nx q9)|refine ⟨?_, ?_⟩|intro _)
   all_goals first|(with_reducible apply qq)|(conv=>whnf)
   all_goals first|decide|(with_reducible rfl)|((with_reducible show Value.bool false=_);exact congrArg (fun i:Sp=>Value.bool i.some) ((rd_n1 ‹_›).symm))|((with_reducible show Value.int _ 0=_);first|exact congrArg (fun i:Sp=>Value.int .i64 i.lo) ((rd_n1 ‹_›).symm)|exact congrArg (fun i:Sp=>Value.int .i64 i.hi) ((rd_n1 ‹_›).symm))|((with_reducible show Value.bool false=_);exact congrArg (fun i:Sp=>Value.bool i.some) ((rd_n2 ‹_›).symm))|((with_reducible show Value.int _ 0=_);first|exact congrArg (fun i:Sp=>Value.int .i64 i.lo) ((rd_n2 ‹_›).symm)|exact congrArg (fun i:Sp=>Value.int .i64 i.hi) ((rd_n2 ‹_›).symm))|((with_reducible show Value.bool (Sp.some _)=_);exact congrArg (fun i:Sp=>Value.bool i.some) ((rd_c ‹_› ‹_› ⟨e10,e11,e7,e8,e9⟩).symm))|((with_reducible show Value.int _ (Sp.lo _)=_);exact congrArg (fun i:Sp=>Value.int .i64 i.lo) ((rd_c ‹_› ‹_› ⟨e10,e11,e7,e8,e9⟩).symm))|((with_reducible show Value.int _ (Sp.hi _)=_);exact congrArg (fun i:Sp=>Value.int .i64 i.hi) ((rd_c ‹_› ‹_› ⟨e10,e11,e7,e8,e9⟩).symm))|exact (hk.2 _ ‹_›).1|exact (hk.2 _ ‹_›).2|exact (wok_rw 4 _ _ ‹_›).2.1.1|exact (wok_rw 4 _ _ ‹_›).2.1.2|exact (wok_rw 4 _ _ ‹_›).2.2.1|exact (wok_rw 4 _ _ ‹_›).2.2.2|rfl
 . cases h
def FReOne:List Ar->Option Rs
 | [.c (.d (.v (.int .i64 i0))),.agg [.d (.v (.bool s1)),.d (.v (.int .i64 l1)),.d (.v (.int .i64 h1))]]=>some ⟨(-9223372036854775808<=i0/\ i0<9223372036854775808)/\ (Sp.inR ⟨s1,l1,h1⟩),.va (Sp.ar (rkOne i0 (⟨s1,l1,h1⟩:Sp))),[]⟩
 |_=>none
theorem fcReOne:FC Tryz.prog 116 FReOne:=by
 intro xs pre r us h hp;unfold FReOne at h;split at h
 . rename_i i0 s1 l1 h1
   cases h;obtain ⟨hp0,hp1⟩:=hp
   refine fcat tys_ok (l:= [(34,⟨[],FSNone⟩),(45,⟨[],FSOne⟩),(121,⟨[],FReDo⟩),(151,⟨[],FReTruth⟩),(152,⟨[],FReAlone⟩),(47,⟨[],FSHas⟩)]) ⟨fcSNone,fcSOne,fcReDo,fcReTruth,fcReAlone,fcSHas,trivial⟩ Tryz.func116 rfl (by kernel_rfl) true ?_
   by_cases e5:i0=5
   . subst e5;have q5:((5:Int)==5)=true:=by decide
     have q6:((5:Int)==6)=false:=by decide
     repeat' (first|exact trivial|(with_reducible first|exact hp1|exact (fun h:false=true=>absurd h (by decide))|exact (fun h:true=false=>absurd h (by decide))|exact nx q5|exact nx q6)|refine ⟨?_, ?_⟩|intro _)
     all_goals first|(with_reducible apply qq)|(conv=>whnf)
     all_goals first|decide|(with_reducible rfl)|((with_reducible show Value.bool false=_);exact congrArg (fun i:Sp=>Value.bool i.some) ((ro_n ‹_›).symm))|((with_reducible show Value.int _ 0=_);first|exact congrArg (fun i:Sp=>Value.int .i64 i.lo) ((ro_n ‹_›).symm)|exact congrArg (fun i:Sp=>Value.int .i64 i.hi) ((ro_n ‹_›).symm))|((with_reducible show Value.bool (Sp.some _)=_);exact congrArg (fun i:Sp=>Value.bool i.some) ((ro_5 ‹_›).symm))|((with_reducible show Value.int _ (Sp.lo _)=_);exact congrArg (fun i:Sp=>Value.int .i64 i.lo) ((ro_5 ‹_›).symm))|((with_reducible show Value.int _ (Sp.hi _)=_);exact congrArg (fun i:Sp=>Value.int .i64 i.hi) ((ro_5 ‹_›).symm))|((with_reducible show Value.bool (Sp.some _)=_);exact congrArg (fun i:Sp=>Value.bool i.some) ((ro_6 ‹_›).symm))|((with_reducible show Value.int _ (Sp.lo _)=_);exact congrArg (fun i:Sp=>Value.int .i64 i.lo) ((ro_6 ‹_›).symm))|((with_reducible show Value.int _ (Sp.hi _)=_);exact congrArg (fun i:Sp=>Value.int .i64 i.hi) ((ro_6 ‹_›).symm))
   by_cases e6:i0=6
   . subst e6;have q5:((6:Int)==5)=false:=by decide
     have q6:((6:Int)==6)=true:=by decide
     repeat' (first|exact trivial|(with_reducible first|exact hp1|exact (fun h:false=true=>absurd h (by decide))|exact (fun h:true=false=>absurd h (by decide))|exact nx q5|exact nx q6)|refine ⟨?_, ?_⟩|intro _)
     all_goals first|(with_reducible apply qq)|(conv=>whnf)
     all_goals first|decide|(with_reducible rfl)|((with_reducible show Value.bool false=_);exact congrArg (fun i:Sp=>Value.bool i.some) ((ro_n ‹_›).symm))|((with_reducible show Value.int _ 0=_);first|exact congrArg (fun i:Sp=>Value.int .i64 i.lo) ((ro_n ‹_›).symm)|exact congrArg (fun i:Sp=>Value.int .i64 i.hi) ((ro_n ‹_›).symm))|((with_reducible show Value.bool (Sp.some _)=_);exact congrArg (fun i:Sp=>Value.bool i.some) ((ro_5 ‹_›).symm))|((with_reducible show Value.int _ (Sp.lo _)=_);exact congrArg (fun i:Sp=>Value.int .i64 i.lo) ((ro_5 ‹_›).symm))|((with_reducible show Value.int _ (Sp.hi _)=_);exact congrArg (fun i:Sp=>Value.int .i64 i.hi) ((ro_5 ‹_›).symm))|((with_reducible show Value.bool (Sp.some _)=_);exact congrArg (fun i:Sp=>Value.bool i.some) ((ro_6 ‹_›).symm))|((with_reducible show Value.int _ (Sp.lo _)=_);exact congrArg (fun i:Sp=>Value.int .i64 i.lo) ((ro_6 ‹_›).symm))|((with_reducible show Value.int _ (Sp.hi _)=_);exact congrArg (fun i:Sp=>Value.int .i64 i.hi) ((ro_6 ‹_›).symm))
   have q5:(i0==5)=false:=beq_eq_false_iff_ne.2 e5
   have q6:(i0==6)=false:=beq_eq_false_iff_ne.2 e6
   repeat' (first|exact trivial|(with_reducible first|exact hp1|exact (fun h:false=true=>absurd h (by decide))|exact (fun h:true=false=>absurd h (by decide))|exact nx q5|exact nx q6)|refine ⟨?_, ?_⟩|intro _)
   all_goals first|(with_reducible apply qq)|(conv=>whnf)
   all_goals first|decide|(with_reducible rfl)|((with_reducible show Value.bool false=_);exact congrArg (fun i:Sp=>Value.bool i.some) ((ro_n ‹_›).symm))|((with_reducible show Value.int _ 0=_);first|exact congrArg (fun i:Sp=>Value.int .i64 i.lo) ((ro_n ‹_›).symm)|exact congrArg (fun i:Sp=>Value.int .i64 i.hi) ((ro_n ‹_›).symm))|((with_reducible show Value.bool false=_);exact congrArg (fun i:Sp=>Value.bool i.some) ((ro_x ‹_› e5 e6).symm))|((with_reducible show Value.int _ 0=_);first|exact congrArg (fun i:Sp=>Value.int .i64 i.lo) ((ro_x ‹_› e5 e6).symm)|exact congrArg (fun i:Sp=>Value.int .i64 i.hi) ((ro_x ‹_› e5 e6).symm))
 . cases h
section
variable {op:Int} {a b:Cg} {w:Bool}
theorem qpre (ta:a.tidy) (tb:b.tidy) (h: ¬(a.m=0/\ b.m=0)): ¬(a.r= -9223372036854775808/\ b.r= -1):=by
 rintro ⟨x,y⟩
 unfold Cg.tidy at ta tb;rcases ta with e|⟨-,na,ta⟩
 . rw [e] at x;exact absurd x (by decide)
 . rcases tb with e|⟨-,nb,tb⟩
   . rw [e] at y;exact absurd y (by decide)
   . rcases Decidable.em (a.m=0) with z|z
     . have:=tb (by omega);omega
     . have:=ta (by omega);omega
def rsOne0 (op:Int) (a:Cg) (w:Bool):Cg:=if !a.some then a else if op=5 then rsDo 11 (Cg.of 0 0) a w else if op≠6 then Cg.none else if alC a 0 then Cg.of 0 1 else if !a.has 0 then Cg.of 0 0 else Cg.of 1 0
def rsOne (op:Int) (a:Cg) (w:Bool):Cg:=rsOne0 op a.clean w
theorem cc_15:cmpC 15 a b=if aptC a b then Cg.of 0 1 else Cg.of 1 0:=rfl
theorem cc_14:cmpC 14 a b=if aptC a b then Cg.of 0 0 else Cg.of 1 0:=rfl
theorem cc_16:cmpC 16 a b=if alC a 0||alC b 0 then Cg.of 0 0 else if !a.has 0&& !b.has 0 then Cg.of 0 1 else Cg.of 1 0:=rfl
theorem cc_17:cmpC 17 a b=if !a.has 0|| !b.has 0 then Cg.of 0 1 else Cg.of 1 0:=rfl
theorem cc_12:cmpC 12 a b=Cg.of 1 0:=rfl
theorem cc_13:cmpC 13 a b=Cg.of 1 0:=rfl
theorem cc_x (h:op≠15/\ op≠14/\ op≠16/\ op≠17/\ op≠12/\ op≠13):cmpC op a b=Cg.none:=by unfold cmpC;rw [if_neg h.1,if_neg h.2.1,if_neg h.2.2.1,if_neg h.2.2.2.1,if_neg (by omega)]
theorem rs_n1 (h:a.some=false):rsDo0 op a b w=Cg.none:=by unfold rsDo0;rw [if_pos (by rw [h];rfl)]
theorem rs_n2 (h:b.some=false):rsDo0 op a b w=Cg.none:=by unfold rsDo0;rw [if_pos (by rw [h];cases a.some<;>rfl)]
section
variable (h:a.some=true) (h2:b.some=true)
include h h2
theorem rs_s: ¬(!a.some|| !b.some)=true:=by rw [h,h2];decide
theorem rs_e (z:(a.m==0)=true) (z2:(b.m==0)=true) (e:(doE op b.r !=0)=true):rsDo0 op a b w=Cg.none:=by
 unfold rsDo0;rw [if_neg (rs_s h h2),if_pos ⟨eq_of_beq z,eq_of_beq z2⟩,if_pos (by simpa using e)]
theorem rs_d (z:(a.m==0)=true) (z2:(b.m==0)=true) (e:(doE op b.r !=0)=false):rsDo0 op a b w=Cg.of 0 (doI op a.r b.r):=by
 unfold rsDo0;rw [if_neg (rs_s h h2),if_pos ⟨eq_of_beq z,eq_of_beq z2⟩,if_neg (by simpa using e)]
variable (z: ¬(a.m=0∧b.m=0))
include z
theorem rs_i:rsDo0 op a b w=if op=10 \/op=11 then linC op (Int.gcd a.m b.m:Int) a b w else if op=7 then prodC a b w else if op=8 then quoC a b w else if op=9 then rstC a b else cmpC op a b:=by
 unfold rsDo0;rw [if_neg (rs_s h h2),if_neg z]
theorem rs_10:rsDo0 10 a b w=linC 10 (Int.gcd a.m b.m:Int) a b w:=by rw [rs_i h h2 z];rfl
theorem rs_11:rsDo0 11 a b w=linC 11 (Int.gcd a.m b.m:Int) a b w:=by rw [rs_i h h2 z];rfl
theorem rs_7:rsDo0 7 a b w=prodC a b w:=by rw [rs_i h h2 z];rfl
theorem rs_8:rsDo0 8 a b w=quoC a b w:=by rw [rs_i h h2 z];rfl
theorem rs_9:rsDo0 9 a b w=rstC a b:=by rw [rs_i h h2 z];rfl
theorem rs_c (e:op≠10/\ op≠11/\ op≠7/\ op≠8/\ op≠9):rsDo0 op a b w=cmpC op a b:=by rw [rs_i h h2 z,if_neg (by omega),if_neg e.2.2.1,if_neg e.2.2.2.1,if_neg e.2.2.2.2]
end
theorem nz1 (h:(a.m==0)=false): ¬(a.m=0/\ b.m=0):=fun x=>ne_of_beq_false h x.1
theorem nz2 (h:(b.m==0)=false): ¬(a.m=0/\ b.m=0):=fun x=>ne_of_beq_false h x.2
theorem nzo (h: ¬(a.m=0/\ b.m=0)):a.m≠0 \/b.m≠0:=by omega
end
def FRsCmp:List Ar->Option Rs
 | [.c (.d (.v (.int .i64 i0))),.agg [.d (.v (.bool b1)),.d (.v (.int .i64 m1)),.d (.v (.int .i64 r1))],.agg [.d (.v (.bool b2)),.d (.v (.int .i64 m2)),.d (.v (.int .i64 r2))]]=>some ⟨(-9223372036854775808<=i0/\ i0<9223372036854775808)/\ (Cg.inR ⟨b1,m1,r1⟩)/\ (Cg.inR ⟨b2,m2,r2⟩)/\ (0<=m1/\ 0<=m2),.va (Cg.ar (cmpC i0 (⟨b1,m1,r1⟩:Cg) (⟨b2,m2,r2⟩:Cg))),[]⟩
 |_=>none
theorem fcRsCmp:FC Tryz.prog 167 FRsCmp:=by
 intro xs pre r us h hp;unfold FRsCmp at h;split at h
 . rename_i i0 b1 m1 r1 b2 m2 r2
   cases h;obtain ⟨hp0,hp1,hp2,hp3⟩:=hp
   refine fcat tys_ok (l:= [(200,⟨[],FRsApart⟩),(46,⟨[],FCOne⟩),(153,⟨[],FRsAlone⟩),(48,⟨[],FCHas⟩),(33,⟨[],FCAll⟩)]) ⟨fcRsApart,fcCOne,fcRsAlone,fcCHas,fcCAll,trivial⟩ Tryz.func167 rfl (by kernel_rfl) false ?_
   have q1:=hp1;unfold Cg.inR at q1;dsimp only at q1
   have q2:=hp2;unfold Cg.inR at q2;dsimp only at q2
   all_goals first|(by_cases e15:i0=15)|skip
   all_goals first|(have _:=(show¬_ from e15);by_cases e14:i0=14)|skip
   all_goals first|(have _:=(show¬_ from e14);by_cases e16:i0=16)|skip
   all_goals first|(have _:=(show¬_ from e16);by_cases e17:i0=17)|skip
   all_goals first|(have _:=(show¬_ from e17);by_cases e12:i0=12)|skip
   all_goals first|(have _:=(show¬_ from e12);by_cases e13:i0=13)|skip
   all_goals first|(have _:=(show _=_ from e15);cases ha:aptC (⟨b1,m1,r1⟩:Cg) (⟨b2,m2,r2⟩:Cg))|skip
   all_goals first|(have _:=(show _=_ from e14);cases hb:aptC (⟨b1,m1,r1⟩:Cg) (⟨b2,m2,r2⟩:Cg))|skip
   all_goals first|(have _:=(show _=_ from e16);cases h1:alC (⟨b1,m1,r1⟩:Cg) 0)|skip
   all_goals first|(have _:=(show _=false from h1);cases h2:alC (⟨b2,m2,r2⟩:Cg) 0)|skip
   all_goals first|(have _:=(show _=false from h2);cases h3:Cg.has (⟨b1,m1,r1⟩:Cg) 0)|skip
   all_goals first|(have _:=(show _=false from h3);cases h4:Cg.has (⟨b2,m2,r2⟩:Cg) 0)|skip
   all_goals first|(have _:=(show _=_ from e17);cases h5:Cg.has (⟨b1,m1,r1⟩:Cg) 0)|skip
   all_goals first|(have _:=(show _=true from h5);cases h6:Cg.has (⟨b2,m2,r2⟩:Cg) 0)|skip
   all_goals first|subst e15|subst e14|subst e16|subst e17|subst e12|subst e13|skip
   all_goals first|(have e:=cc_15 (a:=(⟨b1,m1,r1⟩:Cg)) (b:=(⟨b2,m2,r2⟩:Cg));simp only [ha,Bool.not_true,Bool.not_false,Bool.true_or,Bool.false_or,Bool.or_true,Bool.or_false,Bool.true_and,Bool.false_and,Bool.and_true,Bool.and_false,if_true,if_false,Bool.false_eq_true] at e)|(have e:=cc_14 (a:=(⟨b1,m1,r1⟩:Cg)) (b:=(⟨b2,m2,r2⟩:Cg));simp only [hb,Bool.not_true,Bool.not_false,Bool.true_or,Bool.false_or,Bool.or_true,Bool.or_false,Bool.true_and,Bool.false_and,Bool.and_true,Bool.and_false,if_true,if_false,Bool.false_eq_true] at e)|(have e:=cc_16 (a:=(⟨b1,m1,r1⟩:Cg)) (b:=(⟨b2,m2,r2⟩:Cg));simp only [h1,h2,h3,h4,Bool.not_true,Bool.not_false,Bool.true_or,Bool.false_or,Bool.or_true,Bool.or_false,Bool.true_and,Bool.false_and,Bool.and_true,Bool.and_false,if_true,if_false,Bool.false_eq_true] at e)|(have e:=cc_16 (a:=(⟨b1,m1,r1⟩:Cg)) (b:=(⟨b2,m2,r2⟩:Cg));simp only [h1,h2,h3,Bool.not_true,Bool.not_false,Bool.true_or,Bool.false_or,Bool.or_true,Bool.or_false,Bool.true_and,Bool.false_and,Bool.and_true,Bool.and_false,if_true,if_false,Bool.false_eq_true] at e)|(have e:=cc_16 (a:=(⟨b1,m1,r1⟩:Cg)) (b:=(⟨b2,m2,r2⟩:Cg));simp only [h1,h2,Bool.not_true,Bool.not_false,Bool.true_or,Bool.false_or,Bool.or_true,Bool.or_false,Bool.true_and,Bool.false_and,Bool.and_true,Bool.and_false,if_true,if_false,Bool.false_eq_true] at e)|(have e:=cc_16 (a:=(⟨b1,m1,r1⟩:Cg)) (b:=(⟨b2,m2,r2⟩:Cg));simp only [h1,Bool.not_true,Bool.not_false,Bool.true_or,Bool.false_or,Bool.or_true,Bool.or_false,Bool.true_and,Bool.false_and,Bool.and_true,Bool.and_false,if_true,if_false,Bool.false_eq_true] at e)|(have e:=cc_17 (a:=(⟨b1,m1,r1⟩:Cg)) (b:=(⟨b2,m2,r2⟩:Cg));simp only [h5,h6,Bool.not_true,Bool.not_false,Bool.true_or,Bool.false_or,Bool.or_true,Bool.or_false,Bool.true_and,Bool.false_and,Bool.and_true,Bool.and_false,if_true,if_false,Bool.false_eq_true] at e)|(have e:=cc_17 (a:=(⟨b1,m1,r1⟩:Cg)) (b:=(⟨b2,m2,r2⟩:Cg));simp only [h5,Bool.not_true,Bool.not_false,Bool.true_or,Bool.false_or,Bool.or_true,Bool.or_false,Bool.true_and,Bool.false_and,Bool.and_true,Bool.and_false,if_true,if_false,Bool.false_eq_true] at e)|skip
   all_goals repeat' (first|exact trivial|(with_reducible first|exact hp0|exact hp1|exact hp2|exact hp0.1|exact hp0.2|exact hp1.1|exact hp1.2|exact hp2.1|exact hp2.2|exact wd_ok _|exact (wd_ok _).1.1|exact (wd_ok _).1.2|exact (wd_ok _).2.1|exact (wd_ok _).2.2|exact hp0|exact hp1|exact hp2|exact hp3|exact hp3.1|exact hp3.2|exact q1.1|exact q1.2|exact q1.1.1|exact q1.1.2|exact q1.2.1|exact q1.2.2|exact q2.1|exact q2.2|exact q2.1.1|exact q2.1.2|exact q2.2.1|exact q2.2.2|exact (nx (beq_eq_false_iff_ne.2 e12))|exact (nx (beq_eq_false_iff_ne.2 e13))|exact (nx (beq_eq_false_iff_ne.2 e14))|exact (nx (beq_eq_false_iff_ne.2 e15))|exact (nx (beq_eq_false_iff_ne.2 e16))|exact (nx (beq_eq_false_iff_ne.2 e17))|exact nx ha|exact nx hb|exact nx h1|exact nx h2|exact nx h3|exact nx h4|exact nx h5|exact nx h6|exact (nx (congrArg Bool.not ha))|exact (nx (congrArg Bool.not hb))|exact (nx (congrArg Bool.not h1))|exact (nx (congrArg Bool.not h2))|exact (nx (congrArg Bool.not h3))|exact (nx (congrArg Bool.not h4))|exact (nx (congrArg Bool.not h5))|exact (nx (congrArg Bool.not h6))|exact nd)|refine ⟨?_, ?_⟩|intro _)
   all_goals first|(with_reducible apply qq)|(conv=>whnf)
   all_goals first|(with_reducible rfl)|decide|((with_reducible show Value.bool (Cg.some _)=_);exact congrArg (fun i:Cg=>Value.bool i.some) (e.symm))|((with_reducible show Value.int _ (Cg.m _)=_);exact congrArg (fun i:Cg=>Value.int .i64 i.m) (e.symm))|((with_reducible show Value.int _ (Cg.r _)=_);exact congrArg (fun i:Cg=>Value.int .i64 i.r) (e.symm))|((with_reducible show Value.bool (Cg.some _)=_);exact congrArg (fun i:Cg=>Value.bool i.some) (cc_12.symm))|((with_reducible show Value.int _ (Cg.m _)=_);exact congrArg (fun i:Cg=>Value.int .i64 i.m) (cc_12.symm))|((with_reducible show Value.int _ (Cg.r _)=_);exact congrArg (fun i:Cg=>Value.int .i64 i.r) (cc_12.symm))|((with_reducible show Value.bool (Cg.some _)=_);exact congrArg (fun i:Cg=>Value.bool i.some) (cc_13.symm))|((with_reducible show Value.int _ (Cg.m _)=_);exact congrArg (fun i:Cg=>Value.int .i64 i.m) (cc_13.symm))|((with_reducible show Value.int _ (Cg.r _)=_);exact congrArg (fun i:Cg=>Value.int .i64 i.r) (cc_13.symm))|((with_reducible show Value.bool false=_);exact congrArg (fun i:Cg=>Value.bool i.some) ((cc_x (a:=(⟨b1,m1,r1⟩:Cg)) (b:=(⟨b2,m2,r2⟩:Cg)) ⟨e15,e14,e16,e17,e12,e13⟩).symm))|((with_reducible show Value.int _ 0=_);first|exact congrArg (fun i:Cg=>Value.int .i64 i.m) ((cc_x (a:=(⟨b1,m1,r1⟩:Cg)) (b:=(⟨b2,m2,r2⟩:Cg)) ⟨e15,e14,e16,e17,e12,e13⟩).symm)|exact congrArg (fun i:Cg=>Value.int .i64 i.r) ((cc_x (a:=(⟨b1,m1,r1⟩:Cg)) (b:=(⟨b2,m2,r2⟩:Cg)) ⟨e15,e14,e16,e17,e12,e13⟩).symm))|omega
 . cases h
def FRsDo:List Ar->Option Rs
 | [.c (.d (.v (.int .i64 i0))),.agg [.d (.v (.bool b1)),.d (.v (.int .i64 m1)),.d (.v (.int .i64 r1))],.agg [.d (.v (.bool b2)),.d (.v (.int .i64 m2)),.d (.v (.int .i64 r2))],.c (.d (.v (.bool b3)))]=>some ⟨(-9223372036854775808<=i0/\ i0<9223372036854775808)/\ (Cg.inR ⟨b1,m1,r1⟩)/\ (Cg.inR ⟨b2,m2,r2⟩),.va (Cg.ar (rsDo i0 (⟨b1,m1,r1⟩:Cg) (⟨b2,m2,r2⟩:Cg) b3)),[]⟩
 |_=>none
theorem fcRsDo:FC Tryz.prog 122 FRsDo:=by
 intro xs pre r us h hp;unfold FRsDo at h;split at h
 . rename_i i0 b1 m1 r1 b2 m2 r2 b3
   cases h;obtain ⟨hp0,hp1,hp2⟩:=hp
   refine fcat tys_ok (l:= [(85,⟨[],FCClean⟩),(96,⟨[],FCNone⟩),(161,⟨[],FXDo⟩),(46,⟨[],FCOne⟩),(162,⟨[],FRsLinear⟩),(163,⟨[],FRsGcd⟩),(164,⟨[],FRsProduct⟩),(165,⟨[],FRsQuo⟩),(166,⟨[],FRsRest⟩),(167,⟨[],FRsCmp⟩)]) ⟨fcCClean,fcCNone,fcXDo,fcCOne,fcRsLinear,fcRsGcd,fcRsProduct,fcRsQuo,fcRsRest,fcRsCmp,trivial⟩ Tryz.func122 rfl (by kernel_rfl) false ?_
   unfold rsDo;have rA:=Cg.clean_inR hp1
   have rB:=Cg.clean_inR hp2
   have cA:=rA
   have cB:=rB
   unfold Cg.inR at rA rB;have nA:=Cg.clean_nn (⟨b1,m1,r1⟩:Cg)
   have nB:=Cg.clean_nn (⟨b2,m2,r2⟩:Cg)
   have tA:=cg_clean_tidy (⟨b1,m1,r1⟩:Cg)
   have tB:=cg_clean_tidy (⟨b2,m2,r2⟩:Cg)
   have dR:=doI_rng (op:=i0) (b:=(Cg.clean (⟨b2,m2,r2⟩:Cg)).r) rA.2
   have hg:=gcd_r rA.1 rB.1 ⟨nA,nB⟩
   all_goals first|(cases sA:((Cg.clean (⟨b1,m1,r1⟩:Cg))).some)|skip
   all_goals first|(have _:=(show _=true from sA);cases sB:((Cg.clean (⟨b2,m2,r2⟩:Cg))).some)|skip
   all_goals first|(have _:=(show _=true from sB);cases zA:(((Cg.clean (⟨b1,m1,r1⟩:Cg))).m==0))|skip
   all_goals first|(have _:=(show _=true from sB);cases zB:(((Cg.clean (⟨b2,m2,r2⟩:Cg))).m==0))|skip
   all_goals first|(have _:=(show _=true from zA);have _:=(show _=true from zB);cases ze:(doE i0 ((Cg.clean (⟨b2,m2,r2⟩:Cg))).r !=0))|skip
   all_goals first|(have nz:=nz1 (a:=(Cg.clean (⟨b1,m1,r1⟩:Cg))) (b:=(Cg.clean (⟨b2,m2,r2⟩:Cg))) zA)|(have nz:=nz2 (a:=(Cg.clean (⟨b1,m1,r1⟩:Cg))) (b:=(Cg.clean (⟨b2,m2,r2⟩:Cg))) zB)|skip
   all_goals first|(have nq:=And.intro nA (qpre tA tB nz);have nr:=And.intro (And.intro nA nB) (nzo nz))|skip
   all_goals first|(have _:=nz;by_cases e10:i0=10)|skip
   all_goals first|(have _:=nz;have _:=(show¬_ from e10);by_cases e11:i0=11)|skip
   all_goals first|(have _:=nz;have _:=(show¬_ from e11);by_cases e7:i0=7)|skip
   all_goals first|(have _:=nz;have _:=(show¬_ from e7);by_cases e8:i0=8)|skip
   all_goals first|(have _:=nz;have _:=(show¬_ from e8);by_cases e9:i0=9)|skip
   all_goals first|subst e10|subst e11|subst e7|subst e8|subst e9|skip
   all_goals first|(have e:=rs_n1 (op:=i0) (a:=(Cg.clean (⟨b1,m1,r1⟩:Cg))) (b:=(Cg.clean (⟨b2,m2,r2⟩:Cg))) (w:=b3) sA)|(have e:=rs_n2 (op:=i0) (a:=(Cg.clean (⟨b1,m1,r1⟩:Cg))) (b:=(Cg.clean (⟨b2,m2,r2⟩:Cg))) (w:=b3) sB)|(have e:=rs_e (a:=(Cg.clean (⟨b1,m1,r1⟩:Cg))) (b:=(Cg.clean (⟨b2,m2,r2⟩:Cg))) (w:=b3) sA sB zA zB ze)|(have e:=rs_d (a:=(Cg.clean (⟨b1,m1,r1⟩:Cg))) (b:=(Cg.clean (⟨b2,m2,r2⟩:Cg))) (w:=b3) sA sB zA zB ze)|skip
   all_goals repeat' (first|exact trivial|(with_reducible first|exact hp0|exact hp1|exact hp2|exact rA|exact rB|exact nA|exact nB|exact rA.1|exact rA.2|exact rB.1|exact rB.2|exact And.intro nA nB|exact cA|exact cB|exact dR|exact hg|exact hg.1|exact hg.2|exact nq|exact nr|exact nr.1|exact nr.2|exact (nx (beq_eq_false_iff_ne.2 e7))|exact (nx (beq_eq_false_iff_ne.2 e8))|exact (nx (beq_eq_false_iff_ne.2 e9))|exact (nx (beq_eq_false_iff_ne.2 e10))|exact (nx (beq_eq_false_iff_ne.2 e11))|exact nx sA|exact nx sB|exact nx zA|exact nx zB|exact nx ze|exact (nx (congrArg Bool.not sA))|exact (nx (congrArg Bool.not sB))|exact (nx (congrArg Bool.not zA))|exact (nx (congrArg Bool.not zB))|exact (nx (congrArg Bool.not ze))|exact nd)|refine ⟨?_, ?_⟩|intro _)
   all_goals first|(with_reducible apply qq)|(conv=>whnf)
   all_goals first|(with_reducible rfl)|decide|((with_reducible show Value.bool (Cg.some _)=_);exact congrArg (fun i:Cg=>Value.bool i.some) (e.symm))|((with_reducible show Value.int _ (Cg.m _)=_);exact congrArg (fun i:Cg=>Value.int .i64 i.m) (e.symm))|((with_reducible show Value.int _ (Cg.r _)=_);exact congrArg (fun i:Cg=>Value.int .i64 i.r) (e.symm))|((with_reducible show Value.bool false=_);exact congrArg (fun i:Cg=>Value.bool i.some) (e.symm))|((with_reducible show Value.int _ 0=_);first|exact congrArg (fun i:Cg=>Value.int .i64 i.m) (e.symm)|exact congrArg (fun i:Cg=>Value.int .i64 i.r) (e.symm))|((with_reducible show Value.bool (Cg.some _)=_);exact congrArg (fun i:Cg=>Value.bool i.some) ((rs_10 (a:=(Cg.clean (⟨b1,m1,r1⟩:Cg))) (b:=(Cg.clean (⟨b2,m2,r2⟩:Cg))) (w:=b3) sA sB nz).symm))|((with_reducible show Value.int _ (Cg.m _)=_);exact congrArg (fun i:Cg=>Value.int .i64 i.m) ((rs_10 (a:=(Cg.clean (⟨b1,m1,r1⟩:Cg))) (b:=(Cg.clean (⟨b2,m2,r2⟩:Cg))) (w:=b3) sA sB nz).symm))|((with_reducible show Value.int _ (Cg.r _)=_);exact congrArg (fun i:Cg=>Value.int .i64 i.r) ((rs_10 (a:=(Cg.clean (⟨b1,m1,r1⟩:Cg))) (b:=(Cg.clean (⟨b2,m2,r2⟩:Cg))) (w:=b3) sA sB nz).symm))|((with_reducible show Value.bool (Cg.some _)=_);exact congrArg (fun i:Cg=>Value.bool i.some) ((rs_11 (a:=(Cg.clean (⟨b1,m1,r1⟩:Cg))) (b:=(Cg.clean (⟨b2,m2,r2⟩:Cg))) (w:=b3) sA sB nz).symm))|((with_reducible show Value.int _ (Cg.m _)=_);exact congrArg (fun i:Cg=>Value.int .i64 i.m) ((rs_11 (a:=(Cg.clean (⟨b1,m1,r1⟩:Cg))) (b:=(Cg.clean (⟨b2,m2,r2⟩:Cg))) (w:=b3) sA sB nz).symm))|((with_reducible show Value.int _ (Cg.r _)=_);exact congrArg (fun i:Cg=>Value.int .i64 i.r) ((rs_11 (a:=(Cg.clean (⟨b1,m1,r1⟩:Cg))) (b:=(Cg.clean (⟨b2,m2,r2⟩:Cg))) (w:=b3) sA sB nz).symm))|((with_reducible show Value.bool (Cg.some _)=_);exact congrArg (fun i:Cg=>Value.bool i.some) ((rs_7 (a:=(Cg.clean (⟨b1,m1,r1⟩:Cg))) (b:=(Cg.clean (⟨b2,m2,r2⟩:Cg))) (w:=b3) sA sB nz).symm))|((with_reducible show Value.int _ (Cg.m _)=_);exact congrArg (fun i:Cg=>Value.int .i64 i.m) ((rs_7 (a:=(Cg.clean (⟨b1,m1,r1⟩:Cg))) (b:=(Cg.clean (⟨b2,m2,r2⟩:Cg))) (w:=b3) sA sB nz).symm))|((with_reducible show Value.int _ (Cg.r _)=_);exact congrArg (fun i:Cg=>Value.int .i64 i.r) ((rs_7 (a:=(Cg.clean (⟨b1,m1,r1⟩:Cg))) (b:=(Cg.clean (⟨b2,m2,r2⟩:Cg))) (w:=b3) sA sB nz).symm))|((with_reducible show Value.bool (Cg.some _)=_);exact congrArg (fun i:Cg=>Value.bool i.some) ((rs_8 (a:=(Cg.clean (⟨b1,m1,r1⟩:Cg))) (b:=(Cg.clean (⟨b2,m2,r2⟩:Cg))) (w:=b3) sA sB nz).symm))|((with_reducible show Value.int _ (Cg.m _)=_);exact congrArg (fun i:Cg=>Value.int .i64 i.m) ((rs_8 (a:=(Cg.clean (⟨b1,m1,r1⟩:Cg))) (b:=(Cg.clean (⟨b2,m2,r2⟩:Cg))) (w:=b3) sA sB nz).symm))|((with_reducible show Value.int _ (Cg.r _)=_);exact congrArg (fun i:Cg=>Value.int .i64 i.r) ((rs_8 (a:=(Cg.clean (⟨b1,m1,r1⟩:Cg))) (b:=(Cg.clean (⟨b2,m2,r2⟩:Cg))) (w:=b3) sA sB nz).symm))|((with_reducible show Value.bool (Cg.some _)=_);exact congrArg (fun i:Cg=>Value.bool i.some) ((rs_9 (a:=(Cg.clean (⟨b1,m1,r1⟩:Cg))) (b:=(Cg.clean (⟨b2,m2,r2⟩:Cg))) (w:=b3) sA sB nz).symm))|((with_reducible show Value.int _ (Cg.m _)=_);exact congrArg (fun i:Cg=>Value.int .i64 i.m) ((rs_9 (a:=(Cg.clean (⟨b1,m1,r1⟩:Cg))) (b:=(Cg.clean (⟨b2,m2,r2⟩:Cg))) (w:=b3) sA sB nz).symm))|((with_reducible show Value.int _ (Cg.r _)=_);exact congrArg (fun i:Cg=>Value.int .i64 i.r) ((rs_9 (a:=(Cg.clean (⟨b1,m1,r1⟩:Cg))) (b:=(Cg.clean (⟨b2,m2,r2⟩:Cg))) (w:=b3) sA sB nz).symm))|((with_reducible show Value.bool (Cg.some _)=_);exact congrArg (fun i:Cg=>Value.bool i.some) ((rs_c (a:=(Cg.clean (⟨b1,m1,r1⟩:Cg))) (b:=(Cg.clean (⟨b2,m2,r2⟩:Cg))) (w:=b3) sA sB nz ⟨e10,e11,e7,e8,e9⟩).symm))|((with_reducible show Value.int _ (Cg.m _)=_);exact congrArg (fun i:Cg=>Value.int .i64 i.m) ((rs_c (a:=(Cg.clean (⟨b1,m1,r1⟩:Cg))) (b:=(Cg.clean (⟨b2,m2,r2⟩:Cg))) (w:=b3) sA sB nz ⟨e10,e11,e7,e8,e9⟩).symm))|((with_reducible show Value.int _ (Cg.r _)=_);exact congrArg (fun i:Cg=>Value.int .i64 i.r) ((rs_c (a:=(Cg.clean (⟨b1,m1,r1⟩:Cg))) (b:=(Cg.clean (⟨b2,m2,r2⟩:Cg))) (w:=b3) sA sB nz ⟨e10,e11,e7,e8,e9⟩).symm))
 . cases h
section
variable {op:Int} {a:Cg} {w:Bool}
theorem ro1 (h:a.some=false):rsOne0 op a w=a:=by unfold rsOne0;rw [if_pos (by rw [h];rfl)]
theorem ro5 (h:a.some=true):rsOne0 5 a w=rsDo 11 (Cg.of 0 0) a w:=by unfold rsOne0;rw [if_neg (by rw [h];decide),if_pos rfl]
theorem ro6a (h:a.some=true) (h2:alC a 0=true):rsOne0 6 a w=Cg.of 0 1:=by unfold rsOne0;rw [if_neg (by rw [h];decide),if_neg (by decide),if_neg (by decide),if_pos h2]
theorem ro6b (h:a.some=true) (h2:alC a 0=false) (h3:a.has 0=false):rsOne0 6 a w=Cg.of 0 0:=by unfold rsOne0;rw [if_neg (by rw [h];decide),if_neg (by decide),if_neg (by decide),if_neg (by rw [h2];decide),if_pos (by rw [h3];rfl)]
theorem ro6c (h:a.some=true) (h2:alC a 0=false) (h3:a.has 0=true):rsOne0 6 a w=Cg.of 1 0:=by unfold rsOne0;rw [if_neg (by rw [h];decide),if_neg (by decide),if_neg (by decide),if_neg (by rw [h2];decide),if_neg (by rw [h3];decide)]
theorem rox (h:a.some=true) (h5:op≠5) (h6:op≠6):rsOne0 op a w=Cg.none:=by unfold rsOne0;rw [if_neg (by rw [h];decide),if_neg h5,if_pos h6]
theorem cg00_inR:(Cg.of 0 0).inR:=Cg.of_inR 0 0 (by decide) (by decide) (by decide) (by decide)
end
def FRsOne:List Ar->Option Rs
 | [.c (.d (.v (.int .i64 i0))),.agg [.d (.v (.bool b1)),.d (.v (.int .i64 m1)),.d (.v (.int .i64 r1))],.c (.d (.v (.bool b2)))]=>some ⟨(-9223372036854775808<=i0/\ i0<9223372036854775808)/\ (Cg.inR ⟨b1,m1,r1⟩),.va (Cg.ar (rsOne i0 (⟨b1,m1,r1⟩:Cg) b2)),[]⟩
 |_=>none
theorem fcRsOne:FC Tryz.prog 117 FRsOne:=by
 intro xs pre r us h hp;unfold FRsOne at h;split at h
 . rename_i i0 b1 m1 r1 b2
   cases h;obtain ⟨hp0,hp1⟩:=hp
   refine fcat tys_ok (l:= [(85,⟨[],FCClean⟩),(96,⟨[],FCNone⟩),(122,⟨[],FRsDo⟩),(46,⟨[],FCOne⟩),(153,⟨[],FRsAlone⟩),(48,⟨[],FCHas⟩),(33,⟨[],FCAll⟩)]) ⟨fcCClean,fcCNone,fcRsDo,fcCOne,fcRsAlone,fcCHas,fcCAll,trivial⟩ Tryz.func117 rfl (by kernel_rfl) false ?_
   unfold rsOne;have cA:=Cg.clean_inR hp1
   have rA:=cA
   unfold Cg.inR at rA;have c00:=cg00_inR
   have d00:=c00
   unfold Cg.inR at d00;by_cases e5:i0=5
   . subst e5;have q_5:((5:Int)==5)=true:=by decide
     have q_6:((5:Int)==6)=false:=by decide
     have p_5:((5:Int) !=5)=false:=by decide
     have p_6:((5:Int) !=6)=true:=by decide
     cases sA:(Cg.clean (⟨b1,m1,r1⟩:Cg)).some
     . have sAn:=congrArg Bool.not sA;simp only [Bool.not_true,Bool.not_false] at sAn
       repeat' (first|exact trivial|(with_reducible first|assumption|exact rA|exact rA.1|exact rA.2|exact cA|exact c00|exact d00.1|exact d00.2|exact (fun h:false=true=>absurd h (by decide))|exact (fun h:true=false=>absurd h (by decide))|exact nx q_5|exact nx q_6|exact nx p_5|exact nx p_6|exact nx sA|exact nx sAn)|refine ⟨?_, ?_⟩|intro _)
       all_goals first|(with_reducible apply qq)|(conv=>whnf)
       all_goals first|(with_reducible rfl)|decide|((with_reducible show Value.bool (Cg.some _)=_);exact congrArg (fun i:Cg=>Value.bool i.some) ((ro1 (a:=(Cg.clean (⟨b1,m1,r1⟩:Cg))) (w:=b2) sA).symm))|((with_reducible show Value.int _ (Cg.m _)=_);exact congrArg (fun i:Cg=>Value.int .i64 i.m) ((ro1 (a:=(Cg.clean (⟨b1,m1,r1⟩:Cg))) (w:=b2) sA).symm))|((with_reducible show Value.int _ (Cg.r _)=_);exact congrArg (fun i:Cg=>Value.int .i64 i.r) ((ro1 (a:=(Cg.clean (⟨b1,m1,r1⟩:Cg))) (w:=b2) sA).symm))|rfl
     . have sAn:=congrArg Bool.not sA;simp only [Bool.not_true,Bool.not_false] at sAn
       repeat' (first|exact trivial|(with_reducible first|assumption|exact rA|exact rA.1|exact rA.2|exact cA|exact c00|exact d00.1|exact d00.2|exact (fun h:false=true=>absurd h (by decide))|exact (fun h:true=false=>absurd h (by decide))|exact nx q_5|exact nx q_6|exact nx p_5|exact nx p_6|exact nx sA|exact nx sAn)|refine ⟨?_, ?_⟩|intro _)
       all_goals first|(with_reducible apply qq)|(conv=>whnf)
       all_goals first|(with_reducible rfl)|decide|((with_reducible show Value.bool (Cg.some _)=_);exact congrArg (fun i:Cg=>Value.bool i.some) ((ro5 (a:=(Cg.clean (⟨b1,m1,r1⟩:Cg))) (w:=b2) sA).symm))|((with_reducible show Value.int _ (Cg.m _)=_);exact congrArg (fun i:Cg=>Value.int .i64 i.m) ((ro5 (a:=(Cg.clean (⟨b1,m1,r1⟩:Cg))) (w:=b2) sA).symm))|((with_reducible show Value.int _ (Cg.r _)=_);exact congrArg (fun i:Cg=>Value.int .i64 i.r) ((ro5 (a:=(Cg.clean (⟨b1,m1,r1⟩:Cg))) (w:=b2) sA).symm))|rfl
   by_cases e6:i0=6
   . subst e6;have q_5:((6:Int)==5)=false:=by decide
     have q_6:((6:Int)==6)=true:=by decide
     have p_5:((6:Int) !=5)=true:=by decide
     have p_6:((6:Int) !=6)=false:=by decide
     cases sA:(Cg.clean (⟨b1,m1,r1⟩:Cg)).some
     . have sAn:=congrArg Bool.not sA;simp only [Bool.not_true,Bool.not_false] at sAn
       repeat' (first|exact trivial|(with_reducible first|assumption|exact rA|exact rA.1|exact rA.2|exact cA|exact c00|exact d00.1|exact d00.2|exact (fun h:false=true=>absurd h (by decide))|exact (fun h:true=false=>absurd h (by decide))|exact nx q_5|exact nx q_6|exact nx p_5|exact nx p_6|exact nx sA|exact nx sAn)|refine ⟨?_, ?_⟩|intro _)
       all_goals first|(with_reducible apply qq)|(conv=>whnf)
       all_goals first|(with_reducible rfl)|decide|((with_reducible show Value.bool (Cg.some _)=_);exact congrArg (fun i:Cg=>Value.bool i.some) ((ro1 (a:=(Cg.clean (⟨b1,m1,r1⟩:Cg))) (w:=b2) sA).symm))|((with_reducible show Value.int _ (Cg.m _)=_);exact congrArg (fun i:Cg=>Value.int .i64 i.m) ((ro1 (a:=(Cg.clean (⟨b1,m1,r1⟩:Cg))) (w:=b2) sA).symm))|((with_reducible show Value.int _ (Cg.r _)=_);exact congrArg (fun i:Cg=>Value.int .i64 i.r) ((ro1 (a:=(Cg.clean (⟨b1,m1,r1⟩:Cg))) (w:=b2) sA).symm))|rfl
     . cases h2:alC (Cg.clean (⟨b1,m1,r1⟩:Cg)) 0
       . cases h3:Cg.has (Cg.clean (⟨b1,m1,r1⟩:Cg)) 0
         . have sAn:=congrArg Bool.not sA;simp only [Bool.not_true,Bool.not_false] at sAn
           have h2n:=congrArg Bool.not h2;simp only [Bool.not_true,Bool.not_false] at h2n
           have h3n:=congrArg Bool.not h3;simp only [Bool.not_true,Bool.not_false] at h3n
           repeat' (first|exact trivial|(with_reducible first|assumption|exact rA|exact rA.1|exact rA.2|exact cA|exact c00|exact d00.1|exact d00.2|exact (fun h:false=true=>absurd h (by decide))|exact (fun h:true=false=>absurd h (by decide))|exact nx q_5|exact nx q_6|exact nx p_5|exact nx p_6|exact nx sA|exact nx h2|exact nx h3|exact nx sAn|exact nx h2n|exact nx h3n)|refine ⟨?_, ?_⟩|intro _)
           all_goals first|(with_reducible apply qq)|(conv=>whnf)
           all_goals first|(with_reducible rfl)|decide|((with_reducible show Value.bool (Cg.some _)=_);exact congrArg (fun i:Cg=>Value.bool i.some) ((ro6b (a:=(Cg.clean (⟨b1,m1,r1⟩:Cg))) (w:=b2) sA h2 h3).symm))|((with_reducible show Value.int _ (Cg.m _)=_);exact congrArg (fun i:Cg=>Value.int .i64 i.m) ((ro6b (a:=(Cg.clean (⟨b1,m1,r1⟩:Cg))) (w:=b2) sA h2 h3).symm))|((with_reducible show Value.int _ (Cg.r _)=_);exact congrArg (fun i:Cg=>Value.int .i64 i.r) ((ro6b (a:=(Cg.clean (⟨b1,m1,r1⟩:Cg))) (w:=b2) sA h2 h3).symm))|rfl
         . have sAn:=congrArg Bool.not sA;simp only [Bool.not_true,Bool.not_false] at sAn
           have h2n:=congrArg Bool.not h2;simp only [Bool.not_true,Bool.not_false] at h2n
           have h3n:=congrArg Bool.not h3;simp only [Bool.not_true,Bool.not_false] at h3n
           repeat' (first|exact trivial|(with_reducible first|assumption|exact rA|exact rA.1|exact rA.2|exact cA|exact c00|exact d00.1|exact d00.2|exact (fun h:false=true=>absurd h (by decide))|exact (fun h:true=false=>absurd h (by decide))|exact nx q_5|exact nx q_6|exact nx p_5|exact nx p_6|exact nx sA|exact nx h2|exact nx h3|exact nx sAn|exact nx h2n|exact nx h3n)|refine ⟨?_, ?_⟩|intro _)
           all_goals first|(with_reducible apply qq)|(conv=>whnf)
           all_goals first|(with_reducible rfl)|decide|((with_reducible show Value.bool (Cg.some _)=_);exact congrArg (fun i:Cg=>Value.bool i.some) ((ro6c (a:=(Cg.clean (⟨b1,m1,r1⟩:Cg))) (w:=b2) sA h2 h3).symm))|((with_reducible show Value.int _ (Cg.m _)=_);exact congrArg (fun i:Cg=>Value.int .i64 i.m) ((ro6c (a:=(Cg.clean (⟨b1,m1,r1⟩:Cg))) (w:=b2) sA h2 h3).symm))|((with_reducible show Value.int _ (Cg.r _)=_);exact congrArg (fun i:Cg=>Value.int .i64 i.r) ((ro6c (a:=(Cg.clean (⟨b1,m1,r1⟩:Cg))) (w:=b2) sA h2 h3).symm))|rfl
       . have sAn:=congrArg Bool.not sA;simp only [Bool.not_true,Bool.not_false] at sAn
         have h2n:=congrArg Bool.not h2;simp only [Bool.not_true,Bool.not_false] at h2n
         repeat' (first|exact trivial|(with_reducible first|assumption|exact rA|exact rA.1|exact rA.2|exact cA|exact c00|exact d00.1|exact d00.2|exact (fun h:false=true=>absurd h (by decide))|exact (fun h:true=false=>absurd h (by decide))|exact nx q_5|exact nx q_6|exact nx p_5|exact nx p_6|exact nx sA|exact nx h2|exact nx sAn|exact nx h2n)|refine ⟨?_, ?_⟩|intro _)
         all_goals first|(with_reducible apply qq)|(conv=>whnf)
         all_goals first|(with_reducible rfl)|decide|((with_reducible show Value.bool (Cg.some _)=_);exact congrArg (fun i:Cg=>Value.bool i.some) ((ro6a (a:=(Cg.clean (⟨b1,m1,r1⟩:Cg))) (w:=b2) sA h2).symm))|((with_reducible show Value.int _ (Cg.m _)=_);exact congrArg (fun i:Cg=>Value.int .i64 i.m) ((ro6a (a:=(Cg.clean (⟨b1,m1,r1⟩:Cg))) (w:=b2) sA h2).symm))|((with_reducible show Value.int _ (Cg.r _)=_);exact congrArg (fun i:Cg=>Value.int .i64 i.r) ((ro6a (a:=(Cg.clean (⟨b1,m1,r1⟩:Cg))) (w:=b2) sA h2).symm))|rfl
   have q_5:((i0:Int)==5)=false:=beq_eq_false_iff_ne.2 e5
   have q_6:((i0:Int)==6)=false:=beq_eq_false_iff_ne.2 e6
   have p_5:((i0:Int) !=5)=true:=bne_iff_ne.2 e5
   have p_6:((i0:Int) !=6)=true:=bne_iff_ne.2 e6
   cases sA:(Cg.clean (⟨b1,m1,r1⟩:Cg)).some
   . have sAn:=congrArg Bool.not sA;simp only [Bool.not_true,Bool.not_false] at sAn
     repeat' (first|exact trivial|(with_reducible first|assumption|exact rA|exact rA.1|exact rA.2|exact cA|exact c00|exact d00.1|exact d00.2|exact (fun h:false=true=>absurd h (by decide))|exact (fun h:true=false=>absurd h (by decide))|exact nx q_5|exact nx q_6|exact nx p_5|exact nx p_6|exact nx sA|exact nx sAn)|refine ⟨?_, ?_⟩|intro _)
     all_goals first|(with_reducible apply qq)|(conv=>whnf)
     all_goals first|(with_reducible rfl)|decide|((with_reducible show Value.bool (Cg.some _)=_);exact congrArg (fun i:Cg=>Value.bool i.some) ((ro1 (a:=(Cg.clean (⟨b1,m1,r1⟩:Cg))) (w:=b2) sA).symm))|((with_reducible show Value.int _ (Cg.m _)=_);exact congrArg (fun i:Cg=>Value.int .i64 i.m) ((ro1 (a:=(Cg.clean (⟨b1,m1,r1⟩:Cg))) (w:=b2) sA).symm))|((with_reducible show Value.int _ (Cg.r _)=_);exact congrArg (fun i:Cg=>Value.int .i64 i.r) ((ro1 (a:=(Cg.clean (⟨b1,m1,r1⟩:Cg))) (w:=b2) sA).symm))|rfl
   . have sAn:=congrArg Bool.not sA;simp only [Bool.not_true,Bool.not_false] at sAn
     repeat' (first|exact trivial|(with_reducible first|assumption|exact rA|exact rA.1|exact rA.2|exact cA|exact c00|exact d00.1|exact d00.2|exact (fun h:false=true=>absurd h (by decide))|exact (fun h:true=false=>absurd h (by decide))|exact nx q_5|exact nx q_6|exact nx p_5|exact nx p_6|exact nx sA|exact nx sAn)|refine ⟨?_, ?_⟩|intro _)
     all_goals first|(with_reducible apply qq)|(conv=>whnf)
     all_goals first|(with_reducible rfl)|decide|((with_reducible show Value.bool false=_);exact congrArg (fun i:Cg=>Value.bool i.some) ((rox (a:=(Cg.clean (⟨b1,m1,r1⟩:Cg))) (w:=b2) sA e5 e6).symm))|((with_reducible show Value.int _ 0=_);first|exact congrArg (fun i:Cg=>Value.int .i64 i.m) ((rox (a:=(Cg.clean (⟨b1,m1,r1⟩:Cg))) (w:=b2) sA e5 e6).symm)|exact congrArg (fun i:Cg=>Value.int .i64 i.r) ((rox (a:=(Cg.clean (⟨b1,m1,r1⟩:Cg))) (w:=b2) sA e5 e6).symm))|rfl
 . cases h
def FVCleanC:List Ar->Option Rs
 | [.agg [.d (.v (.bool s0)),.d (.v (.int .i64 l0)),.d (.v (.int .i64 h0)),.d (.v (.bool b0)),.d (.v (.int .i64 m0)),.d (.v (.int .i64 r0)),.d (.v (.bool z0)),.d (.lst 1 n0 f0)]]=>some ⟨((n0*16<=140737488351232/\ ∀i,i<n0->f0 i= [st (gT (f0 i))])/\ Sp.inR ⟨s0,l0,h0⟩/\ Cg.inR ⟨b0,m0,r0⟩),.va (Vl.ar (Vl.of (⟨⟨⟨s0,l0,h0⟩,⟨b0,m0,r0⟩⟩,⟨z0,gN n0 f0⟩⟩:Vl))),[]⟩
 |_=>none
theorem fcVCleanC:FC Tryz.prog 40 FVCleanC:=by
 intro xs pre r us h hp;unfold FVCleanC at h;split at h
 . rename_i s0 l0 h0 b0 m0 r0 z0 n0 f0
   cases h;have hp0:=hp
   refine FCat.of_eq (as':= [.agg [.d (.v (.bool s0)),.d (.v (.int .i64 l0)),.d (.v (.int .i64 h0)),.d (.v (.bool b0)),.d (.v (.int .i64 m0)),.d (.v (.int .i64 r0)),.d (.v (.bool z0)),.d (.lst 1 n0 fun i=> [st (gT (f0 i))])]]) ?_ rfl rfl ?_
   . repeat' (first|exact trivial|exact rfl|refine ⟨?_, ?_⟩|fail)
     all_goals first|exact hp0.2|exact hp1.2|exact hp2.2|(intro i hi;exact (hp0.2 i hi).1)|(intro i hi;exact (hp1.2 i hi).1)|(intro i hi;exact (hp2.2 i hi).1)|grind
   refine fcat tys_ok (l:= [(62,⟨[],FVOf⟩),(66,⟨[],FVValue⟩)]) ⟨fcVOf,fcVValue,trivial⟩ Tryz.func40 rfl (by kernel_rfl) true ?_
   have hv0:okV (⟨⟨⟨s0,l0,h0⟩,⟨b0,m0,r0⟩⟩,⟨z0,gN n0 fun i=> [st (gT (f0 i))]⟩⟩:Vl):=⟨⟨(by rw [gN_length];exact hp0.1.1),fun _ _=>rfl⟩,hp0.2⟩
   have ho0:=okV_of hv0
   have hoo0:=okV_of ho0
   unfold okV at ho0 hoo0
   repeat' (first|exact trivial|(with_reducible first|assumption|exact ho0.1|exact ho0.2.1|exact ho0.2.2|exact hp0.1|exact hp0.2|exact hp0.2.1|exact hp0.2.2|exact hoo0.1|exact hoo0.2.1|exact hoo0.2.2)|refine ⟨?_, ?_⟩|intro _)
   all_goals first|(with_reducible apply qq)|(conv=>whnf)
   all_goals (try simp only [gN_lst] at*)
   all_goals first|rfl|(with_reducible exact hp0.1.1)
 . cases h
section
variable {op:Int} {a b:Sp}
theorem wr_n1 (h:a.none=true):wrB op a b=false:=by unfold wrB;rw [if_pos (by rw [h];rfl)]
theorem wr_n2 (h:b.none=true):wrB op a b=false:=by unfold wrB;rw [if_pos (by rw [h];cases a.none<;>rfl)]
theorem wr_8 (h:a.none=false) (h2:b.none=false):wrB 8 a b=(a.has (-9223372036854775808)&&b.has (-1)):=by unfold wrB;rw [if_neg (by rw [h,h2];decide),if_pos rfl]
theorem wr_x (h:a.none=false) (h2:b.none=false) (h8:op≠8):wrB op a b=(corners (exI op) a b).any fun e=>exB op&& !wIntB e:=by unfold wrB;rw [if_neg (by rw [h,h2];decide),if_neg h8]
theorem wr_c0 (h:a.none=false) (h2:b.none=false) (h8:op≠8) (hx:exB op=true):wrB op a b=(!wIntB (exI op a.lo b.lo)||(!wIntB (exI op a.lo b.hi)||(!wIntB (exI op a.hi b.lo)||(!wIntB (exI op a.hi b.hi)||false)))):=by
 rw [wr_x h h2 h8,hx];rfl
theorem exv {x y:Int} (rx: -9223372036854775808<=x/\ x<9223372036854775808) (ry: -9223372036854775808<=y/\ y<9223372036854775808):(wd (exI op x y)).val=exI op x y:=by have:=ex_rng (op:=op) rx ry;exact wd_valS this.1 this.2
theorem wr_c (ra:(-9223372036854775808<=a.lo/\ a.lo<9223372036854775808)/\ -9223372036854775808<=a.hi/\ a.hi<9223372036854775808) (rb:(-9223372036854775808<=b.lo/\ b.lo<9223372036854775808)/\ -9223372036854775808<=b.hi/\ b.hi<9223372036854775808) (h:a.none=false) (h2:b.none=false) (h8:op≠8) (hx:exB op=true):wrB op a b=(!wIntB (wd (exI op a.lo b.lo)).val||(!wIntB (wd (exI op a.lo b.hi)).val||(!wIntB (wd (exI op a.hi b.lo)).val||(!wIntB (wd (exI op a.hi b.hi)).val||false)))):=by
 rw [exv ra.1 rb.1,exv ra.1 rb.2,exv ra.2 rb.1,exv ra.2 rb.2];exact wr_c0 h h2 h8 hx
theorem wr_f (h:a.none=false) (h2:b.none=false) (h8:op≠8) (hx:exB op=false):wrB op a b=false:=by
 rw [wr_x h h2 h8,hx];rfl
end
def FCWraps:List Ar->Option Rs
 | [.c (.d (.v (.int .i64 i0))),.agg [.d (.v (.bool s1)),.d (.v (.int .i64 l1)),.d (.v (.int .i64 h1))],.agg [.d (.v (.bool s2)),.d (.v (.int .i64 l2)),.d (.v (.int .i64 h2))]]=>some ⟨(-9223372036854775808<=i0/\ i0<9223372036854775808)/\ (Sp.inR ⟨s1,l1,h1⟩)/\ (Sp.inR ⟨s2,l2,h2⟩),.va (.c (.d (bo (wrB i0 (⟨s1,l1,h1⟩:Sp) (⟨s2,l2,h2⟩:Sp))))),[]⟩
 |_=>none
abbrev sl5L:List (Nat×Sm):= [(34,⟨[],FSNone⟩),(47,⟨[],FSHas⟩),(150,⟨[],FXExact⟩),(99,⟨[],FWInt⟩)]
theorem sp5L:sumsOk Tryz.prog sl5L:=⟨fcSNone,fcSHas,fcXExact,fcWInt,trivial⟩
theorem fcCWraps:FC Tryz.prog 114 FCWraps:=by
 intro xs pre r us h hp;unfold FCWraps at h;split at h
 . rename_i i0 s1 l1 h1 s2 l2 h2
   cases h;obtain ⟨hp0,hp1,hp2⟩:=hp
   refine fcat tys_ok (l:=sl5L) sp5L Tryz.func114 rfl (by kernel_rfl) false ?_
   unfold Sp.inR at hp1 hp2;have hi0:decide ((0:Int)<2)=true:=rfl
   have hi1:decide (IntKind.i64.wrap (0+1)<(2:Int))=true:=rfl
   have hi2:decide (IntKind.i64.wrap (IntKind.i64.wrap (0+1)+1)<(2:Int))=false:=rfl
   all_goals first|(by_cases e8:i0=8)|skip
   all_goals first|(cases nA:Sp.none (⟨s1,l1,h1⟩:Sp))|skip
   all_goals first|(have _:=(show _=false from nA);cases nB:Sp.none (⟨s2,l2,h2⟩:Sp))|skip
   all_goals first|(have _:=(show _=false from nB);have _:=(show¬_ from e8);cases hx:exB i0)|skip
   all_goals first|(have _:=(show _=true from hx);cases w0:wIntB ((wd (exI i0 l1 l2)).val))|skip
   all_goals first|(have _:=(show _=true from w0);cases w1:wIntB ((wd (exI i0 l1 h2)).val))|skip
   all_goals first|(have _:=(show _=true from w1);cases w2:wIntB ((wd (exI i0 h1 l2)).val))|skip
   all_goals first|(have _:=(show _=true from w2);cases w3:wIntB ((wd (exI i0 h1 h2)).val))|skip
   all_goals first|(have k8:=e8;have _:=(show _=_ from k8))|skip
   all_goals first|subst e8|skip
   all_goals first|(have e:=wr_n1 (op:=i0) (a:=(⟨s1,l1,h1⟩:Sp)) (b:=(⟨s2,l2,h2⟩:Sp)) nA)|(have e:=wr_n2 (op:=i0) (a:=(⟨s1,l1,h1⟩:Sp)) (b:=(⟨s2,l2,h2⟩:Sp)) nB)|(have _:=k8;have e:=wr_8 (a:=(⟨s1,l1,h1⟩:Sp)) (b:=(⟨s2,l2,h2⟩:Sp)) nA nB)|(have e:=wr_f (a:=(⟨s1,l1,h1⟩:Sp)) (b:=(⟨s2,l2,h2⟩:Sp)) nA nB e8 hx)|(have e:=wr_c (a:=(⟨s1,l1,h1⟩:Sp)) (b:=(⟨s2,l2,h2⟩:Sp)) hp1 hp2 nA nB e8 hx)|(have e:=wr_n1 (op:=8) (a:=(⟨s1,l1,h1⟩:Sp)) (b:=(⟨s2,l2,h2⟩:Sp)) nA)|(have e:=wr_n2 (op:=8) (a:=(⟨s1,l1,h1⟩:Sp)) (b:=(⟨s2,l2,h2⟩:Sp)) nB)|skip
   all_goals repeat' (first|exact trivial|(with_reducible first|exact hp0|exact hp1|exact hp2|exact hp1.1|exact hp1.2|exact hp2.1|exact hp2.2|exact And.intro hp0 (And.intro hp1.1 hp2.1)|exact And.intro hp0 (And.intro hp1.1 hp2.2)|exact And.intro hp0 (And.intro hp1.2 hp2.1)|exact And.intro hp0 (And.intro hp1.2 hp2.2)|exact wd_ok _|exact (wd_ok _).1.1|exact (wd_ok _).1.2|exact (wd_ok _).2.1|exact (wd_ok _).2.2|exact (fun h:(0:Int)=((1:Nat):Int)=>absurd h (by decide))|exact (fun h:IntKind.i64.wrap (0+1)=((0:Nat):Int)=>absurd h (by decide))|exact nx hi0|exact nx hi1|exact nx hi2|exact (nx (beq_eq_false_iff_ne.2 e8))|exact nx nA|exact nx nB|exact nx hx|exact nx w0|exact nx w1|exact nx w2|exact nx w3|exact (nx (congrArg Bool.not nA))|exact (nx (congrArg Bool.not nB))|exact (nx (congrArg Bool.not hx))|exact (nx (congrArg Bool.not w0))|exact (nx (congrArg Bool.not w1))|exact (nx (congrArg Bool.not w2))|exact (nx (congrArg Bool.not w3))|exact nd)|refine ⟨?_, ?_⟩|intro _)
   all_goals first|(with_reducible apply qq)|(conv=>whnf)
   all_goals first|((with_reducible show ASat _ _ _ _ _);refine loop_n tys_ok (l:=sl5L) sp5L (by kernel_rfl) 3 ?_)|skip
   all_goals repeat' (first|exact trivial|(with_reducible first|exact hp0|exact hp1|exact hp2|exact hp1.1|exact hp1.2|exact hp2.1|exact hp2.2|exact And.intro hp0 (And.intro hp1.1 hp2.1)|exact And.intro hp0 (And.intro hp1.1 hp2.2)|exact And.intro hp0 (And.intro hp1.2 hp2.1)|exact And.intro hp0 (And.intro hp1.2 hp2.2)|exact wd_ok _|exact (wd_ok _).1.1|exact (wd_ok _).1.2|exact (wd_ok _).2.1|exact (wd_ok _).2.2|exact (fun h:(0:Int)=((1:Nat):Int)=>absurd h (by decide))|exact (fun h:IntKind.i64.wrap (0+1)=((0:Nat):Int)=>absurd h (by decide))|exact nx hi0|exact nx hi1|exact nx hi2|exact (nx (beq_eq_false_iff_ne.2 e8))|exact nx nA|exact nx nB|exact nx hx|exact nx w0|exact nx w1|exact nx w2|exact nx w3|exact (nx (congrArg Bool.not nA))|exact (nx (congrArg Bool.not nB))|exact (nx (congrArg Bool.not hx))|exact (nx (congrArg Bool.not w0))|exact (nx (congrArg Bool.not w1))|exact (nx (congrArg Bool.not w2))|exact (nx (congrArg Bool.not w3))|exact nd)|refine ⟨?_, ?_⟩|intro _)
   all_goals first|(with_reducible apply qq)|(conv=>whnf)
   all_goals first|((with_reducible show ASat _ _ _ _ _);refine loop_n tys_ok (l:=sl5L) sp5L (by kernel_rfl) 3 ?_)|skip
   all_goals repeat' (first|exact trivial|(with_reducible first|exact hp0|exact hp1|exact hp2|exact hp1.1|exact hp1.2|exact hp2.1|exact hp2.2|exact And.intro hp0 (And.intro hp1.1 hp2.1)|exact And.intro hp0 (And.intro hp1.1 hp2.2)|exact And.intro hp0 (And.intro hp1.2 hp2.1)|exact And.intro hp0 (And.intro hp1.2 hp2.2)|exact wd_ok _|exact (wd_ok _).1.1|exact (wd_ok _).1.2|exact (wd_ok _).2.1|exact (wd_ok _).2.2|exact (fun h:(0:Int)=((1:Nat):Int)=>absurd h (by decide))|exact (fun h:IntKind.i64.wrap (0+1)=((0:Nat):Int)=>absurd h (by decide))|exact nx hi0|exact nx hi1|exact nx hi2|exact (nx (beq_eq_false_iff_ne.2 e8))|exact nx nA|exact nx nB|exact nx hx|exact nx w0|exact nx w1|exact nx w2|exact nx w3|exact (nx (congrArg Bool.not nA))|exact (nx (congrArg Bool.not nB))|exact (nx (congrArg Bool.not hx))|exact (nx (congrArg Bool.not w0))|exact (nx (congrArg Bool.not w1))|exact (nx (congrArg Bool.not w2))|exact (nx (congrArg Bool.not w3))|exact nd)|refine ⟨?_, ?_⟩|intro _)
   all_goals first|(with_reducible apply qq)|(conv=>whnf)
   all_goals first|((with_reducible show ASat _ _ _ _ _);refine loop_n tys_ok (l:=sl5L) sp5L (by kernel_rfl) 3 ?_)|skip
   all_goals repeat' (first|exact trivial|(with_reducible first|exact hp0|exact hp1|exact hp2|exact hp1.1|exact hp1.2|exact hp2.1|exact hp2.2|exact And.intro hp0 (And.intro hp1.1 hp2.1)|exact And.intro hp0 (And.intro hp1.1 hp2.2)|exact And.intro hp0 (And.intro hp1.2 hp2.1)|exact And.intro hp0 (And.intro hp1.2 hp2.2)|exact wd_ok _|exact (wd_ok _).1.1|exact (wd_ok _).1.2|exact (wd_ok _).2.1|exact (wd_ok _).2.2|exact (fun h:(0:Int)=((1:Nat):Int)=>absurd h (by decide))|exact (fun h:IntKind.i64.wrap (0+1)=((0:Nat):Int)=>absurd h (by decide))|exact nx hi0|exact nx hi1|exact nx hi2|exact (nx (beq_eq_false_iff_ne.2 e8))|exact nx nA|exact nx nB|exact nx hx|exact nx w0|exact nx w1|exact nx w2|exact nx w3|exact (nx (congrArg Bool.not nA))|exact (nx (congrArg Bool.not nB))|exact (nx (congrArg Bool.not hx))|exact (nx (congrArg Bool.not w0))|exact (nx (congrArg Bool.not w1))|exact (nx (congrArg Bool.not w2))|exact (nx (congrArg Bool.not w3))|exact nd)|refine ⟨?_, ?_⟩|intro _)
   all_goals first|(with_reducible apply qq)|(conv=>whnf)
   all_goals first|((with_reducible show ASat _ _ _ _ _);refine loop_n tys_ok (l:=sl5L) sp5L (by kernel_rfl) 3 ?_)|skip
   all_goals repeat' (first|exact trivial|(with_reducible first|exact hp0|exact hp1|exact hp2|exact hp1.1|exact hp1.2|exact hp2.1|exact hp2.2|exact And.intro hp0 (And.intro hp1.1 hp2.1)|exact And.intro hp0 (And.intro hp1.1 hp2.2)|exact And.intro hp0 (And.intro hp1.2 hp2.1)|exact And.intro hp0 (And.intro hp1.2 hp2.2)|exact wd_ok _|exact (wd_ok _).1.1|exact (wd_ok _).1.2|exact (wd_ok _).2.1|exact (wd_ok _).2.2|exact (fun h:(0:Int)=((1:Nat):Int)=>absurd h (by decide))|exact (fun h:IntKind.i64.wrap (0+1)=((0:Nat):Int)=>absurd h (by decide))|exact nx hi0|exact nx hi1|exact nx hi2|exact (nx (beq_eq_false_iff_ne.2 e8))|exact nx nA|exact nx nB|exact nx hx|exact nx w0|exact nx w1|exact nx w2|exact nx w3|exact (nx (congrArg Bool.not nA))|exact (nx (congrArg Bool.not nB))|exact (nx (congrArg Bool.not hx))|exact (nx (congrArg Bool.not w0))|exact (nx (congrArg Bool.not w1))|exact (nx (congrArg Bool.not w2))|exact (nx (congrArg Bool.not w3))|exact nd)|refine ⟨?_, ?_⟩|intro _)
   all_goals first|(with_reducible apply qq)|(conv=>whnf)
   all_goals first|(with_reducible rfl)|decide|((with_reducible show Value.bool _=_);first|(rw [e];done)|(rw [e];rfl)|(rw [e];simp only [*,Bool.not_true,Bool.not_false,Bool.true_or,Bool.false_or,Bool.true_and,Bool.false_and];done))
 . cases h
end Go.Proofs.YtokjghkehojenaaGreat
