/- What congruences come to. No condition. -/
import Derived.Test.YtokjghkehojenaaGreatL10
set_option linter.all false
set_option maxHeartbeats 8000000
set_option maxRecDepth 100000
namespace Go.Proofs.YtokjghkehojenaaGreat
open Go.Sx
theorem part_k {m:Int} (h: -9223372036854775808<=m/\ m<9223372036854775808) (h0:0<=m):IntKind.wrap .i64 ((BitVec.ofInt IntKind.i64.bits m&&&BitVec.ofInt IntKind.i64.bits (IntKind.wrap .i64 (0-m))).toNat:Int)=partI m:=by
 have hm:(m.toNat:Int)=m:=Int.toNat_of_nonneg h0
 rcases Int.lt_or_le 0 m with hp|hp
 . have e1:(BitVec.ofInt IntKind.i64.bits m).toNat=m.toNat:=by
    rw [BitVec.toNat_ofInt];show (m%18446744073709551616).toNat=_;rw [Int.emod_eq_of_lt h0 (by omega)]
   have e2:(BitVec.ofInt IntKind.i64.bits (IntKind.wrap .i64 (0-m))).toNat=2^64-m.toNat:=by
    rw [BitVec.toNat_ofInt,wI_id (0-m) (by omega) (by omega)];show ((0-m)%18446744073709551616).toNat=_
    rw [show (0-m)%18446744073709551616=18446744073709551616-m by omega];omega
   rw [BitVec.toNat_and,e1,e2];have:=partI_ok hp h.2
   show IntKind.wrap .i64 (partI m)=partI m
   exact wI_id _ (by omega) (by omega)
 . obtain rfl:m=0:=by omega
   decide
theorem mod_raw {X m l:Int} (h0:0<=X) (hm:0<m):(X.tmod m*18446744073709551616+l)%m=(X*18446744073709551616+l)%m:=by
 rw [Int.tmod_eq_emod_of_nonneg h0];have e:X*18446744073709551616+l=(X%m*18446744073709551616+l)+m*(X/m*18446744073709551616):=by
  have:=Int.emod_add_mul_ediv X m
  rw [<-Int.mul_assoc];have e2:X*18446744073709551616=(X%m+m*(X/m))*18446744073709551616:=by rw [this]
  rw [e2,Int.add_mul];omega
 rw [e,Int.add_mul_emod_self_left]
@[reducible] def rawM (X m l : Int) : Int := ((IntKind.wrap .u64 X).tmod (IntKind.wrap .u64 m) * 18446744073709551616 + l) % IntKind.wrap .u64 m
section
variable {h l m:Int} (k:Wd.ok ⟨h,l⟩) (hm:0<m) (hm2: -9223372036854775808≤m∧m<9223372036854775808)
include k hm hm2
theorem raw_pos (h0:decide (h<0)=false):rawM h m l=Wd.val ⟨h,l⟩%m:=by
 have h0:=of_decide_eq_false h0
 unfold Wd.ok at k;dsimp only at k
 unfold rawM;rw [wU_id h (by omega) (by omega),wU_id m (by omega) (by omega),mod_raw (by omega) hm];rfl
theorem raw_neg (h0:decide (h<0)=true):rawM (wd (0-Wd.val ⟨h,l⟩)).hi m (wd (0-Wd.val ⟨h,l⟩)).lo=(-Wd.val ⟨h,l⟩)%m:=by
 have h0:=of_decide_eq_true h0
 unfold Wd.ok at k;dsimp only at k
 unfold rawM;have e:IntKind.wrap .u64 (wd (0-Wd.val ⟨h,l⟩)).hi*18446744073709551616+(wd (0-Wd.val ⟨h,l⟩)).lo= -Wd.val ⟨h,l⟩:=by rw [wU];unfold wd Wd.val;dsimp only;omega
 rw [wU_id m (by omega) (by omega),mod_raw (by rw [wU];omega) hm,e]
theorem tm_r {X:Int}:0<=(IntKind.wrap .u64 X).tmod (IntKind.wrap .u64 m)/\ (IntKind.wrap .u64 X).tmod (IntKind.wrap .u64 m)<18446744073709551616/\ (IntKind.wrap .u64 X).tmod (IntKind.wrap .u64 m)<IntKind.wrap .u64 m:=by
 rw [wU_id m (by omega) (by omega),Int.tmod_eq_emod_of_nonneg (by rw [wU];omega)];have h1:=Int.emod_nonneg (IntKind.wrap .u64 X) (b:=m) (by omega)
 have h2:=Int.emod_lt_of_pos (IntKind.wrap .u64 X) hm
 omega
theorem lf_p (h0:decide (h<0)=false):IntKind.wrap .i64 (rawM h m l)=Wd.val ⟨h,l⟩%m:=by
 rw [raw_pos k hm hm2 h0];have h1:=Int.emod_nonneg (Wd.val ⟨h,l⟩) (b:=m) (by omega)
 have h2:=Int.emod_lt_of_pos (Wd.val ⟨h,l⟩) hm
 exact wI_id _ (by omega) (by omega)
theorem lf_n0 (h0:decide (h<0)=true) (hr:decide (rawM (wd (0-Wd.val ⟨h,l⟩)).hi m (wd (0-Wd.val ⟨h,l⟩)).lo>0)=false):IntKind.wrap .i64 (rawM (wd (0-Wd.val ⟨h,l⟩)).hi m (wd (0-Wd.val ⟨h,l⟩)).lo)=Wd.val ⟨h,l⟩%m:=by
 have hr:=of_decide_eq_false hr
 rw [raw_neg k hm hm2 h0] at*
 have h1:=Int.emod_nonneg (-Wd.val ⟨h,l⟩) (b:=m) (by omega)
 have e:(-Wd.val ⟨h,l⟩)%m=0:=by omega
 have d:m∣Wd.val ⟨h,l⟩:=Int.dvd_neg.1 (Int.dvd_of_emod_eq_zero e)
 rw [e,Int.emod_eq_zero_of_dvd d];rfl
theorem lf_n1 (h0:decide (h<0)=true) (hr:decide (rawM (wd (0-Wd.val ⟨h,l⟩)).hi m (wd (0-Wd.val ⟨h,l⟩)).lo>0)=true):IntKind.wrap .i64 (IntKind.wrap .u64 (IntKind.wrap .u64 m-rawM (wd (0-Wd.val ⟨h,l⟩)).hi m (wd (0-Wd.val ⟨h,l⟩)).lo))=Wd.val ⟨h,l⟩%m:=by
 have hr:=of_decide_eq_true hr
 rw [raw_neg k hm hm2 h0] at*
 have h2:=Int.emod_lt_of_pos (-Wd.val ⟨h,l⟩) hm
 rw [wU_id m (by omega) (by omega)];have h3:=Int.emod_add_mul_ediv (-Wd.val ⟨h,l⟩) m
 generalize (-Wd.val ⟨h,l⟩)%m=r at*
 generalize (-Wd.val ⟨h,l⟩)/m=q at*
 rw [wU_id (m-r) (by omega) (by omega),wI_id (m-r) (by omega) (by omega)];have e:Wd.val ⟨h,l⟩=(m-r)+m*(-q-1):=by rw [Int.mul_sub,Int.mul_neg];omega
 rw [e,Int.add_mul_emod_self_left,Int.emod_eq_of_lt (by omega) (by omega)]
end
def FRsPart:List Ar->Option Rs
 | [.c (.d (.v (.int .i64 i0)))]=>some ⟨(-9223372036854775808<=i0/\ i0<9223372036854775808)/\ (0<=i0),.va (.c (.d (it (partI i0)))),[]⟩
 |_=>none
theorem fcRsPart:FC Tryz.prog 196 FRsPart:=by
 intro xs pre r us h hp;unfold FRsPart at h;split at h
 . rename_i i0
   cases h;obtain ⟨hp0,hp1⟩:=hp
   refine fcat tys_ok (l:= []) trivial Tryz.func196 rfl (by kernel_rfl) false ?_
   repeat' (first|exact trivial|refine ⟨?_, ?_⟩|intro _)
   all_goals first|(with_reducible apply qq)|(conv=>whnf)
   all_goals first|exact congrArg (Value.int .i64) (part_k hp0 hp1)
 . cases h
def FRsSize:List Ar->Option Rs
 | [.c (.d (.v (.int .i64 i0)))]=>some ⟨(-9223372036854775808<=i0/\ i0<9223372036854775808),.va (.c (.d (ut (sizeI i0)))),[]⟩
 |_=>none
theorem fcRsSize:FC Tryz.prog 199 FRsSize:=by
 intro xs pre r us h hp;unfold FRsSize at h;split at h
 . rename_i i0
   cases h;have hp0:=hp
   refine fcat tys_ok (l:= []) trivial Tryz.func199 rfl (by kernel_rfl) false ?_
   repeat' (first|exact trivial|refine ⟨?_, ?_⟩|intro _)
   all_goals first|(with_reducible apply qq)|(conv=>whnf)
   all_goals first|exact congrArg (Value.int .u64) (size_t hp0 ‹_›)|exact congrArg (Value.int .u64) (size_f hp0 ‹_›)
 . cases h
def FRsAlone:List Ar->Option Rs
 | [.agg [.d (.v (.bool b0)),.d (.v (.int .i64 m0)),.d (.v (.int .i64 r0))],.c (.d (.v (.int .i64 i1)))]=>some ⟨(Cg.inR ⟨b0,m0,r0⟩)/\ (-9223372036854775808<=i1/\ i1<9223372036854775808),.va (.c (.d (bo (alC (⟨b0,m0,r0⟩:Cg) i1)))),[]⟩
 |_=>none
theorem fcRsAlone:FC Tryz.prog 153 FRsAlone:=by
 intro xs pre r us h hp;unfold FRsAlone at h;split at h
 . rename_i b0 m0 r0 i1
   cases h;obtain ⟨hp0,hp1⟩:=hp
   refine fcat tys_ok (l:= []) trivial Tryz.func153 rfl (by kernel_rfl) false ?_
   repeat' (first|exact trivial|refine ⟨?_, ?_⟩|intro _)
   all_goals first|(with_reducible apply qq)|(conv=>whnf)
   all_goals first|grind [alC]
 . cases h
def FRsGcd:List Ar->Option Rs
 | [.c (.d (.v (.int .i64 i0))),.c (.d (.v (.int .i64 i1)))]=>some ⟨(-9223372036854775808<=i0/\ i0<9223372036854775808)/\ (-9223372036854775808<=i1/\ i1<9223372036854775808)/\ (0<=i0/\ 0<=i1),.va (.c (.d (it ((Int.gcd i0 i1:Int))))),[]⟩
 |_=>none
theorem fcRsGcd:FC Tryz.prog 163 FRsGcd:=by
 intro xs pre r us h hp;unfold FRsGcd at h;split at h
 . rename_i i0 i1
   cases h;obtain ⟨hp0,hp1,hp2⟩:=hp
   refine fcat tys_ok (l:= [(97,⟨[],FCGcd⟩)]) ⟨fcCGcd,trivial⟩ Tryz.func163 rfl (by kernel_rfl) false ?_
   have w0:=wU_id i0 hp2.1 (by omega)
   have w1:=wU_id i1 hp2.2 (by omega)
   have hl:=gcd_lt (m:=i0) (n:=i1) ⟨hp2.1,hp0.2⟩ ⟨hp2.2,hp1.2⟩
   repeat' (first|exact trivial|refine ⟨?_, ?_⟩|intro _)
   all_goals first|(with_reducible apply qq)|(conv=>whnf)
   all_goals (simp only [w0,w1])
   all_goals first|omega|exact congrArg (Value.int .i64) (wI_id _ (by omega) hl)
 . cases h
def FRsLeft:List Ar->Option Rs
 | [.agg [.d (.v (.int .i64 h0)),.d (.v (.int .u64 l0))],.c (.d (.v (.int .i64 i1)))]=>some ⟨(Wd.ok ⟨h0,l0⟩)/\ (-9223372036854775808<=i1/\ i1<9223372036854775808)/\ (0<i1),.va (.c (.d (it (Wd.val (⟨h0,l0⟩:Wd)%i1)))),[]⟩
 |_=>none
theorem fcRsLeft:FC Tryz.prog 197 FRsLeft:=by
 intro xs pre r us h hp;unfold FRsLeft at h;split at h
 . rename_i h0 l0 i1
   cases h;obtain ⟨hp0,hp1,hp2⟩:=hp
   refine fcat tys_ok (l:= [(173,⟨[],FDiv64⟩),(140,⟨[],FWNeg⟩)]) ⟨fcDiv64,fcWNeg,trivial⟩ Tryz.func197 rfl (by kernel_rfl) false ?_
   have hq:=hp0
   unfold Wd.ok at hq;cases hng:decide (h0<0)
   all_goals repeat' (first|exact trivial|(with_reducible first|exact hp0|exact hp1|exact hp2|exact hp0.1|exact hp0.2|exact hp1.1|exact hp1.2|exact hp2.1|exact hp2.2|exact wd_ok _|exact (wd_ok _).1.1|exact (wd_ok _).1.2|exact (wd_ok _).2.1|exact (wd_ok _).2.2|exact (fun h:false=true=>absurd h (by decide))|exact (fun h:true=false=>absurd h (by decide))|exact nx hng|exact hq.2.1|exact hq.2.2|exact (fun h=>absurd h (by rw [wU_id i1 (by omega) (by omega)];omega)))|refine ⟨?_, ?_⟩|intro _)
   all_goals first|(with_reducible apply qq)|(conv=>whnf)
   all_goals first|((with_reducible show _<=Int.tmod _ _);exact (tm_r hp0 hp2 hp1).1)|((with_reducible show Int.tmod _ _<IntKind.wrap _ _);exact (tm_r hp0 hp2 hp1).2.2)|((with_reducible show Int.tmod _ _<_);exact (tm_r hp0 hp2 hp1).2.1)|((with_reducible show _<=Wd.lo _);exact (wd_ok _).2.1)|((with_reducible show Wd.lo _<_);exact (wd_ok _).2.2)|(with_reducible first|exact hp0.2.1|exact hp0.2.2)|(have k1:decide (h0<0)=false:=(by with_reducible exact hng);(with_reducible show Value.int _ _=_);exact congrArg (Value.int .i64) (lf_p hp0 hp2 hp1 k1))|(have k1:decide (h0<0)=true:=(by with_reducible exact hng);(with_reducible show Value.int _ (IntKind.wrap _ (IntKind.wrap _ _))=_);exact congrArg (Value.int .i64) (lf_n1 hp0 hp2 hp1 k1 (by with_reducible_and_instances assumption)))|(have k1:decide (h0<0)=true:=(by with_reducible exact hng);(with_reducible show Value.int _ _=_);exact congrArg (Value.int .i64) (lf_n0 hp0 hp2 hp1 k1 (by with_reducible_and_instances assumption)))|((with_reducible show False);rename IntKind.wrap _ _=_=>h;rw [wU_id i1 (by omega) (by omega)] at h;omega)|((with_reducible show _<=IntKind.wrap _ _);rw [wU_id i1 (by omega) (by omega)];omega)|((with_reducible show IntKind.wrap _ _<_);rw [wU_id i1 (by omega) (by omega)];omega)
 . cases h
section
variable {op a b:Int}
theorem ex_10 (h:(op==10)=true):exI op a b=a+b/\ exB op=true:=by obtain rfl:=eq_of_beq h;exact ⟨rfl,rfl⟩
theorem ex_11 (h:(op==11)=true):exI op a b=a-b/\ exB op=true:=by obtain rfl:=eq_of_beq h;exact ⟨rfl,rfl⟩
theorem ex_7 (h:(op==7)=true):exI op a b=a*b/\ exB op=true:=by obtain rfl:=eq_of_beq h;exact ⟨rfl,rfl⟩
theorem ex_no (h:(op==10)=false) (h1:(op==11)=false) (h2:(op==7)=false):exI op a b=0/\ exB op=false:=by
 unfold exI exB;rw [h,h1,h2,if_neg (ne_of_beq_false h),if_neg (ne_of_beq_false h1),if_neg (ne_of_beq_false h2)];exact ⟨rfl,rfl⟩
end
theorem wd_addI (A B:Int):wd ((wd A).val+(wd B).val)=wd (A+B):=by unfold wd Wd.val;dsimp only;congr 1<;>omega
theorem wd_sub (A B:Int):wd ((wd A).val-(wd B).val)=wd (A-B):=by unfold wd Wd.val;dsimp only;congr 1<;>omega
theorem wr_wd (e:Int):(Wd.val (wd e)+9223372036854775808)%18446744073709551616-9223372036854775808=wr e:=by unfold wr wd Wd.val;dsimp only;omega
theorem wr_lo (e:Int):IntKind.wrap .i64 (wd e).lo=wr e:=by rw [wI];unfold wr wd;dsimp only;omega
def FXTruth:List Ar->Option Rs
 | [.c (.d (.v (.bool b0)))]=>some ⟨True,.va (.c (.d (it (if b0=true then 1 else 0)))),[]⟩
 |_=>none
theorem fcXTruth:FC Tryz.prog 195 FXTruth:=by
 intro xs pre r us h hp;unfold FXTruth at h;split at h
 . rename_i b0
   cases h;refine fcat tys_ok (l:= []) trivial Tryz.func195 rfl (by kernel_rfl) false ?_
   repeat' (first|exact trivial|refine ⟨?_, ?_⟩|intro _)
   all_goals first|(with_reducible apply qq)|(conv=>whnf)
   all_goals first|rfl|(simp_all;done)
 . cases h
def FXExact:List Ar->Option Rs
 | [.c (.d (.v (.int .i64 i0))),.c (.d (.v (.int .i64 i1))),.c (.d (.v (.int .i64 i2)))]=>some ⟨(-9223372036854775808<=i0/\ i0<9223372036854775808)/\ (-9223372036854775808<=i1/\ i1<9223372036854775808)/\ (-9223372036854775808<=i2/\ i2<9223372036854775808),.tup [Wd.ar (wd (exI i0 i1 i2)),.c (.d (bo (exB i0)))],[]⟩
 |_=>none
theorem fcXExact:FC Tryz.prog 150 FXExact:=by
 intro xs pre r us h hp;unfold FXExact at h;split at h
 . rename_i i0 i1 i2
   cases h;obtain ⟨hp0,hp1,hp2⟩:=hp
   refine fcat tys_ok (l:= [(138,⟨[],FWOf⟩),(146,⟨[],FWAdd⟩),(137,⟨[],FWSub⟩),(100,⟨[],FWMul⟩)]) ⟨fcWOf,fcWAdd,fcWSub,fcWMul,trivial⟩ Tryz.func150 rfl (by kernel_rfl) false ?_
   repeat' (first|exact trivial|(with_reducible first|exact hp0|exact hp1|exact hp2|exact hp0.1|exact hp0.2|exact hp1.1|exact hp1.2|exact hp2.1|exact hp2.2|exact wd_ok _|exact (wd_ok _).1.1|exact (wd_ok _).1.2|exact (wd_ok _).2.1|exact (wd_ok _).2.2)|refine ⟨?_, ?_⟩|intro _)
   all_goals first|(with_reducible apply qq)|(conv=>whnf)
   all_goals first|exact (wd_ok _).1.1|exact (wd_ok _).1.2|exact (wd_ok _).2.1|exact (wd_ok _).2.2|(rw [(ex_10 ‹_›).1];first|exact (congrArg (fun w:Wd=>Value.int .i64 w.hi) (wd_addI i1 i2))|exact (congrArg (fun w:Wd=>Value.int .u64 w.lo) (wd_addI i1 i2))|done)|(rw [(ex_10 (a:=0) (b:=0) ‹_›).2];done)|(rw [(ex_11 ‹_›).1];first|exact (congrArg (fun w:Wd=>Value.int .i64 w.hi) (wd_sub i1 i2))|exact (congrArg (fun w:Wd=>Value.int .u64 w.lo) (wd_sub i1 i2))|done)|(rw [(ex_11 (a:=0) (b:=0) ‹_›).2];done)|(rw [(ex_7 ‹_›).1];done)|(rw [(ex_7 (a:=0) (b:=0) ‹_›).2];done)|(rw [(ex_no ‹_› ‹_› ‹_›).1];first|rfl|done)|(rw [(ex_no (a:=0) (b:=0) ‹_› ‹_› ‹_›).2];done)
 . cases h
section
variable {op a b:Int}
theorem pa_0 (ho:op=8 \/op=9) (h:(b==0)=true):doI op a b=0/\ doE op b=10:=by
 obtain rfl:=eq_of_beq h;rcases ho with rfl|rfl<;>exact ⟨rfl,rfl⟩
theorem pa_e (ho:op=8 \/op=9) (h:(b==0)=false):doE op b=0:=by
 have h:=ne_of_beq_false h
 rcases ho with rfl|rfl<;>(unfold doE;rw [if_neg (by decide),if_pos (by decide),if_neg h])
theorem pa_1 (h:(b== -1)=true) (h8:(op==8)=true):doI op a b=wr (-a):=by
 obtain rfl:=eq_of_beq h;obtain rfl:=eq_of_beq h8;rw [doI_div (by decide),show (-1:Int)= -(1) from rfl,Int.tdiv_neg,Int.tdiv_one]
theorem pa_2 (ho:op=8 \/op=9) (h:(b== -1)=true) (h8:(op==8)=false):doI op a b=0:=by
 obtain rfl:=eq_of_beq h
 rcases ho with rfl|rfl
 . cases h8
 . rw [doI_rem (by decide),show (-1:Int)= -(1) from rfl,Int.tmod_neg,Int.tmod_one]
theorem pa_3 (h0:(b==0)=false) (h8:(op==8)=true):doI op a b=wr (a.tdiv b):=by
 obtain rfl:=eq_of_beq h8
 exact doI_div (ne_of_beq_false h0)
theorem pa_4 (ho:op=8 \/op=9) (h0:(b==0)=false) (h8:(op==8)=false):doI op a b=a.tmod b:=by
 rcases ho with rfl|rfl
 . cases h8
 . rw [doI_rem (ne_of_beq_false h0)]
theorem wr_neg (a:Int):IntKind.wrap .i64 (0-a)=wr (-a):=by rw [wI];unfold wr;congr 2;omega
theorem wr_w (a:Int):IntKind.wrap .i64 a=wr a:=wI a
end
def FXParts:List Ar->Option Rs
 | [.c (.d (.v (.int .i64 i0))),.c (.d (.v (.int .i64 i1))),.c (.d (.v (.int .i64 i2)))]=>some ⟨(-9223372036854775808<=i0/\ i0<9223372036854775808)/\ (-9223372036854775808<=i1/\ i1<9223372036854775808)/\ (-9223372036854775808<=i2/\ i2<9223372036854775808)/\ (i0=8 \/i0=9),.tup [.c (.d (it (doI i0 i1 i2))),.c (.d (it (doE i0 i2)))],[]⟩
 |_=>none
theorem fcXParts:FC Tryz.prog 193 FXParts:=by
 intro xs pre r us h hp;unfold FXParts at h;split at h
 . rename_i i0 i1 i2
   cases h;obtain ⟨hp0,hp1,hp2,hp3⟩:=hp
   refine fcat tys_ok (l:= []) trivial Tryz.func193 rfl (by kernel_rfl) false ?_
   repeat' (first|exact trivial|(with_reducible first|exact hp0|exact hp1|exact hp2|exact hp0.1|exact hp0.2|exact hp1.1|exact hp1.2|exact hp2.1|exact hp2.2|exact wd_ok _|exact (wd_ok _).1.1|exact (wd_ok _).1.2|exact (wd_ok _).2.1|exact (wd_ok _).2.2)|refine ⟨?_, ?_⟩|intro _)
   all_goals first|(with_reducible apply qq)|(conv=>whnf)
   all_goals first|(rw [(pa_0 hp3 ‹_›).1];done)|(rw [(pa_0 (a:=0) hp3 ‹_›).2];done)|(rw [pa_e hp3 ‹_›];done)|(rw [pa_1 ‹_› ‹_›];first|exact congrArg _ (wr_neg _)|done)|(rw [pa_2 hp3 ‹_› ‹_›];done)|(rw [pa_3 ‹_› ‹_›];exact congrArg (Value.int .i64) (wr_w _))|(exact absurd ‹i2=0› (ne_of_beq_false ‹(i2==0)=false›))|(rw [pa_4 hp3 ‹_› ‹_›];first|rfl|done)
 . cases h
def hoB (op a b:Int):Bool:=decide (12<=op/\ op<=17)&&cmpB op a b
theorem ho_k (a b:Int):hoB 12 a b=decide (a<b)/\ hoB 13 a b=decide (a<=b)/\ hoB 14 a b=(a==b)/\ hoB 15 a b=(a !=b)/\ hoB 16 a b=(a !=0&&b !=0)/\ hoB 17 a b=(a !=0||b !=0):=by
 unfold hoB cmpB;refine ⟨?_, ?_, ?_, ?_, ?_, ?_⟩<;>(rw [Bool.eq_iff_iff];simp)
theorem ho_no {op a b:Int} (h: ¬(12<=op/\ op<=17)):hoB op a b=false:=by unfold hoB;rw [decide_eq_false h];rfl
def FXHolds:List Ar->Option Rs
 | [.c (.d (.v (.int .i64 i0))),.c (.d (.v (.int .i64 i1))),.c (.d (.v (.int .i64 i2)))]=>some ⟨(-9223372036854775808<=i0/\ i0<9223372036854775808)/\ (-9223372036854775808<=i1/\ i1<9223372036854775808)/\ (-9223372036854775808<=i2/\ i2<9223372036854775808),.tup [.c (.d (bo (hoB i0 i1 i2))),.c (.d (bo (decide (12<=i0/\ i0<=17))))],[]⟩
 |_=>none
theorem fcXHolds:FC Tryz.prog 194 FXHolds:=by
 intro xs pre r us h hp;unfold FXHolds at h;split at h
 . rename_i i0 i1 i2
   cases h;obtain ⟨hp0,hp1,hp2⟩:=hp
   refine fcat tys_ok (l:= []) trivial Tryz.func194 rfl (by kernel_rfl) false ?_
   repeat' (first|exact trivial|(with_reducible first|exact hp0|exact hp1|exact hp2|exact hp0.1|exact hp0.2|exact hp1.1|exact hp1.2|exact hp2.1|exact hp2.2|exact wd_ok _|exact (wd_ok _).1.1|exact (wd_ok _).1.2|exact (wd_ok _).2.1|exact (wd_ok _).2.2)|refine ⟨?_, ?_⟩|intro _)
   all_goals first|(with_reducible apply qq)|(conv=>whnf)
   refine scope_ok tys_ok (ls:= []) trivial (by kernel_rfl) 0 rfl (X:=Bool) (fun x=>⟨[(8,vx (.bool x))],[],0,47⟩) (fun _=>0)
    (fun x=>x=hoB i0 i1 i2/\ (12<=i0/\ i0<=17)) [8] [] (fun xs _=>match xs with| [a]=>bT a|_=>false) (fun _ xs _=>match xs with| [a]=>bT a|_=>false) [] [] 0 0 ?_ ?_
   . repeat' (first|exact trivial|refine ⟨?_, ?_⟩|intro _)
     all_goals first|(with_reducible apply qq)|(conv=>whnf)
     all_goals first|((with_reducible show idsOk _ _=true);rfl)|skip
     all_goals (try simp only [bT])
     all_goals (try simp only [beq_iff_eq,beq_eq_false_iff_ne,ne_eq] at*)
     all_goals (have hk:=ho_k i1 i2)
     all_goals first|omega|rfl|(exfalso;exact absurd ‹_› ‹¬_›)|(have e:=‹i0=12›;rw [e];first|exact hk.1.symm|done)|(have e:=‹i0=13›;rw [e];exact hk.2.1.symm)|(have e:=‹i0=14›;rw [e];exact hk.2.2.1.symm)|(have e:=‹i0=15›;rw [e];exact hk.2.2.2.1.symm)|(have e:=‹i0=16›;rw [e,hk.2.2.2.2.1];(try (simp_all;done)))|(have e:=‹i0=17›;rw [e,hk.2.2.2.2.2];(try (simp_all;done)))|(exact congrArg Value.bool (ho_no (by omega)).symm)|(exact congrArg Value.bool (decide_eq_false (by omega)).symm)
   . rintro x ⟨rfl,hx⟩
     repeat' (first|exact trivial|refine ⟨?_, ?_⟩|intro _)
     all_goals first|(with_reducible apply qq)|(conv=>whnf)
     all_goals first|rfl|exact congrArg Value.bool (decide_eq_true hx).symm
 . cases h
section
variable {op a b:Int}
theorem do_x (h:exB op=true):doI op a b=wr (exI op a b)/\ doE op b=0:=by unfold doI doE;rw [if_pos h,if_pos h];exact ⟨rfl,rfl⟩
theorem do_h (h:exB op=false) (h8:(op==8)=false) (h9:(op==9)=false) (hh:decide (12<=op/\ op<=17)=true):doI op a b=(if hoB op a b=true then 1 else 0)/\ doE op b=0:=by
 have hh':=of_decide_eq_true hh
 have h': ¬exB op=true:=by rw [h];decide
 unfold doI doE hoB;rw [if_neg h',if_neg h',if_neg (ne_of_beq_false h8),if_neg (ne_of_beq_false h9),if_pos hh',if_neg (c:=_ \/_) (by have:=ne_of_beq_false h8;have:=ne_of_beq_false h9;omega),if_pos hh',hh];exact ⟨rfl,rfl⟩
theorem do_n (h:exB op=false) (h8:(op==8)=false) (h9:(op==9)=false) (hh:decide (12<=op/\ op<=17)=false):doI op a b=0/\ doE op b=2:=by
 have hh':=of_decide_eq_false hh
 have h': ¬exB op=true:=by rw [h];decide
 unfold doI doE;rw [if_neg h',if_neg h',if_neg (ne_of_beq_false h8),if_neg (ne_of_beq_false h9),if_neg hh',if_neg (by have:=ne_of_beq_false h8;have:=ne_of_beq_false h9;omega),if_neg hh'];exact ⟨rfl,rfl⟩
end
def FXDo:List Ar->Option Rs
 | [.c (.d (.v (.int .i64 i0))),.c (.d (.v (.int .i64 i1))),.c (.d (.v (.int .i64 i2)))]=>some ⟨(-9223372036854775808<=i0/\ i0<9223372036854775808)/\ (-9223372036854775808<=i1/\ i1<9223372036854775808)/\ (-9223372036854775808<=i2/\ i2<9223372036854775808),.tup [.c (.d (it (doI i0 i1 i2))),.c (.d (it (doE i0 i2)))],[]⟩
 |_=>none
theorem fcXDo:FC Tryz.prog 161 FXDo:=by
 intro xs pre r us h hp;unfold FXDo at h;split at h
 . rename_i i0 i1 i2
   cases h;obtain ⟨hp0,hp1,hp2⟩:=hp
   refine fcat tys_ok (l:= [(150,⟨[],FXExact⟩),(141,⟨[],FWLow⟩),(193,⟨[],FXParts⟩),(194,⟨[],FXHolds⟩),(195,⟨[],FXTruth⟩)]) ⟨fcXExact,fcWLow,fcXParts,fcXHolds,fcXTruth,trivial⟩ Tryz.func161 rfl (by kernel_rfl) false ?_
   repeat' (first|exact trivial|(with_reducible first|exact hp0|exact hp1|exact hp2|exact hp0.1|exact hp0.2|exact hp1.1|exact hp1.2|exact hp2.1|exact hp2.2|exact wd_ok _|exact (wd_ok _).1.1|exact (wd_ok _).1.2|exact (wd_ok _).2.1|exact (wd_ok _).2.2)|refine ⟨?_, ?_⟩|intro _)
   all_goals first|(with_reducible apply qq)|(conv=>whnf)
   all_goals (try simp only [Bool.not_eq_true',Bool.not_eq_false'] at*)
   all_goals first|exact (wd_ok _).1.1|exact (wd_ok _).1.2|exact (wd_ok _).2.1|exact (wd_ok _).2.2|(exact .inl (eq_of_beq ‹(i0==8)=true›))|(exact .inr (eq_of_beq ‹(i0==9)=true›))|(rw [(do_x ‹_›).1];first|exact congrArg (Value.int .i64) (wr_wd _)|exact congrArg (Value.int .i64) (wr_lo _)|done)|(rw [(do_x (a:=0) ‹_›).2];done)|(rw [(do_h ‹_› ‹_› ‹_› ‹_›).1];first|rfl|done)|(rw [(do_h (a:=0) ‹_› ‹_› ‹_› ‹_›).2];done)|(rw [(do_n ‹_› ‹_› ‹_› ‹_›).1];done)|(rw [(do_n (a:=0) ‹_› ‹_› ‹_› ‹_›).2];done)
 . cases h
def stW (s:Int) (a x:Wd):Wd:=if wCmp x.val a.val=s then x else a
def bsN (s:Int) (a:Wd) (f:Nat->List DV):Nat->Wd
 |0=>a
 |k+1=>stW s (bsN s a f k) (gW (f k))
theorem stW_t {s:Int} {a x:Wd} (h:(wCmp x.val a.val==s)=true):stW s a x=x:=by unfold stW;rw [if_pos (by simpa using h)]
theorem stW_f {s:Int} {a x:Wd} (h:(wCmp x.val a.val==s)=false):stW s a x=a:=by unfold stW;rw [if_neg (by simpa using h)]
theorem bsN_ok {s:Int} {a:Wd} {f:Nat->List DV} (ha:a.ok): ∀n,(∀i,i<n->Wd.ok (gW (f i)))->(bsN s a f n).ok
 |0,_=>ha
 |n+1,h=>by
  unfold bsN stW;split
  . exact h n (Nat.lt_succ_self n)
  . exact bsN_ok ha n fun i hi=>h i (Nat.lt_succ_of_lt hi)
theorem bsN_canon (s:Int) (a:Wd) (f:Nat->List DV): ∀n,bsN s a (fun i=> [it (gW (f i)).hi,ut (gW (f i)).lo]) n=bsN s a f n
 |0=>rfl
 |n+1=>by unfold bsN;rw [bsN_canon s a f n];rfl
def valsW (n:Nat) (f:Nat->List DV):List Int:=(List.range n).map fun i=>(gW (f i)).val
theorem valsW_succ (n:Nat) (f:Nat->List DV):valsW (n+1) f=valsW n f++ [(gW (f n)).val]:=by unfold valsW;rw [List.range_succ,List.map_append];rfl
theorem bs_max (a:Wd) (f:Nat->List DV): ∀n,(bsN 1 a f n).val=maxL a.val (valsW n f)
 |0=>rfl
 |n+1=>by
  have ih:=bs_max a f n
  rw [valsW_succ];unfold maxL;rw [List.foldl_append]
  show (stW 1 (bsN 1 a f n) (gW (f n))).val=if maxL a.val (valsW n f)<(gW (f n)).val then (gW (f n)).val else maxL a.val (valsW n f)
  rw [<-ih];unfold stW wCmp
  (repeat' split)<;>first|rfl|omega
theorem bs_min (a:Wd) (f:Nat->List DV): ∀n,(bsN (-1) a f n).val=minL a.val (valsW n f)
 |0=>rfl
 |n+1=>by
  have ih:=bs_min a f n
  rw [valsW_succ];unfold minL;rw [List.foldl_append]
  show (stW (-1) (bsN (-1) a f n) (gW (f n))).val=if (gW (f n)).val<minL a.val (valsW n f) then (gW (f n)).val else minL a.val (valsW n f)
  rw [<-ih];unfold stW wCmp
  (repeat' split)<;>first|rfl|omega
def FWBestN:List Ar->Option Rs
 | [.agg [.d (.v (.int .i64 h0)),.d (.v (.int .u64 l0))],.c (.d (.v (.int .i64 i1))),.c (.d (.lst 2 n2 f2))]=>some ⟨(Wd.ok ⟨h0,l0⟩)/\ (-9223372036854775808<=i1/\ i1<9223372036854775808)/\ ((n2<=1000000/\ ∀i,i<n2->f2 i= [it (gW (f2 i)).hi,ut (gW (f2 i)).lo]/\ Wd.ok (gW (f2 i)))),.va (Wd.ar (bsN i1 (⟨h0,l0⟩:Wd) f2 n2)),[]⟩
 |_=>none
theorem fcWBestN:FC Tryz.prog 172 FWBestN:=by
 intro xs pre r us h hp;unfold FWBestN at h;split at h
 . rename_i h0 l0 i1 n2 f2
   cases h;obtain ⟨hp0,hp1,hp2⟩:=hp
   refine FCat.of_eq (as':= [.agg [.d (.v (.int .i64 h0)),.d (.v (.int .u64 l0))],.c (.d (.v (.int .i64 i1))),.c (.d (.lst 2 n2 fun i=> [it (gW (f2 i)).hi,ut (gW (f2 i)).lo]))]) ?_ rfl rfl ?_
   . repeat' (first|exact trivial|exact rfl|refine ⟨?_, ?_⟩|fail)
     all_goals first|(intro i hi;exact (hp2.2 i hi).1)|exact hp0.2|exact hp1.2|exact hp2.2|(intro i hi;exact (hp0.2 i hi).1)|(intro i hi;exact (hp1.2 i hi).1)|(intro i hi;exact (hp2.2 i hi).1)|grind
   refine fcat tys_ok (l:= [(204,⟨[],FWCmp⟩)]) ⟨fcWCmp,trivial⟩ Tryz.func172 rfl (by kernel_rfl) true ?_
   repeat' (first|exact trivial|refine ⟨?_, ?_⟩|intro _)
   all_goals first|(with_reducible apply qq)|(conv=>whnf)
   refine loop_ok tys_ok (l:= [(204,⟨[],FWCmp⟩)]) ⟨fcWCmp,trivial⟩ (by kernel_rfl) (X:=Nat)
    (fun x=>⟨[(11,vx (.int .i64 x)),(10,vx (.int .i64 n2)),(9,.va (.c (.d (.lst 2 n2 fun i=> [it (gW (f2 i)).hi,ut (gW (f2 i)).lo])))),(1,vx (.int .i64 i1)),(3,.va (.c (.own 0 0))),(6,.va (.c (.own 1 0)))],[(0,.cells [.d (it (bsN i1 ⟨h0,l0⟩ f2 x).hi),.d (ut (bsN i1 ⟨h0,l0⟩ f2 x).lo)]),(1,.cells [.d (it 0),.d (ut 0)])],2,23⟩)
    (fun x=>n2-x) (fun x=>x<=n2) [] [] (fun x _ _=>x+1) [0,1] [0,1] 0 0 0 (Nat.zero_le _) ?_ ?_
   . repeat' (first|exact trivial|exact rfl|(intro _ h;exact absurd h (Nat.not_lt_zero _))|(intro _ _;exact rfl)|refine ⟨?_, ?_⟩|fail)
     all_goals first|rfl
   . intro i k1;have f0:Wd.ok (bsN i1 ⟨h0,l0⟩ f2 i):=bsN_ok hp0 i fun j hj=>(hp2.2 j (by omega)).2
     rcases Nat.lt_or_ge i n2 with hi|hi
     . have hne:decide ((i:Int)<(n2:Int))=true:=decide_eq_true (by omega)
       repeat' (first|exact trivial|(with_reducible first|exact hp2.1|exact f0|exact (hp2.2 i hi).2|exact nx hne)|refine ⟨?_, ?_⟩|intro _)
       all_goals first|(with_reducible apply qq)|(conv=>whnf)
       all_goals (try simp only [Int.toNat_natCast] at*)
       all_goals first|omega|rfl|decide|(exact hp0.1.1)|(exact hp0.1.2)|(exact hp0.2.1)|(exact hp0.2.2)|exact f0.1.1|exact f0.1.2|exact f0.2.1|exact f0.2.2|(exact ((hp2.2 i hi).2).1.1)|(exact ((hp2.2 i hi).2).1.2)|(exact ((hp2.2 i hi).2).2.1)|(exact ((hp2.2 i hi).2).2.2)|(exact congrArg (fun w:Wd=>Value.int .i64 w.hi) (stW_t ‹(_==i1)=true›).symm)|(exact congrArg (fun w:Wd=>Value.int .u64 w.lo) (stW_t ‹(_==i1)=true›).symm)|(exact congrArg (fun w:Wd=>Value.int .i64 w.hi) (stW_f ‹(_==i1)=false›).symm)|(exact congrArg (fun w:Wd=>Value.int .u64 w.lo) (stW_f ‹(_==i1)=false›).symm)|(exact congrArg (Value.int .i64) (by first|(rw [wI_id _ (by omega) (by omega)];omega)|omega|(dsimp only;omega)))
     . have hne:decide ((i:Int)<(n2:Int))=false:=decide_eq_false (by omega)
       obtain rfl:i=n2:=by omega
       repeat' (first|exact trivial|(with_reducible exact nx hne)|refine ⟨?_, ?_⟩|intro _)
       all_goals first|(with_reducible apply qq)|(conv=>whnf)
       all_goals (try simp only [Int.toNat_natCast] at*)
       all_goals first|omega|rfl|decide|(exact hp0.1.1)|(exact hp0.1.2)|(exact hp0.2.1)|(exact hp0.2.2)|exact f0.1.1|exact f0.1.2|exact f0.2.1|exact f0.2.2|(exact congrArg (fun w:Wd=>Value.int .i64 w.hi) (stW_t ‹(_==i1)=true›).symm)|(exact congrArg (fun w:Wd=>Value.int .u64 w.lo) (stW_t ‹(_==i1)=true›).symm)|(exact congrArg (fun w:Wd=>Value.int .i64 w.hi) (stW_f ‹(_==i1)=false›).symm)|(exact congrArg (fun w:Wd=>Value.int .u64 w.lo) (stW_f ‹(_==i1)=false›).symm)|(exact congrArg (Value.int .i64) (by first|(rw [wI_id _ (by omega) (by omega)];omega)|omega|(dsimp only;omega)))
 . cases h
def FWMaxN:List Ar->Option Rs
 | [.agg [.d (.v (.int .i64 h0)),.d (.v (.int .u64 l0))],.c (.d (.lst 2 n1 f1))]=>some ⟨(Wd.ok ⟨h0,l0⟩)/\ ((n1<=1000000/\ ∀i,i<n1->f1 i= [it (gW (f1 i)).hi,ut (gW (f1 i)).lo]/\ Wd.ok (gW (f1 i)))),.va (Wd.ar (bsN 1 (⟨h0,l0⟩:Wd) f1 n1)),[]⟩
 |_=>none
theorem fcWMaxN:FC Tryz.prog 139 FWMaxN:=by
 intro xs pre r us h hp;unfold FWMaxN at h;split at h
 . rename_i h0 l0 n1 f1
   cases h;obtain ⟨hp0,hp1⟩:=hp
   refine FCat.of_eq (as':= [.agg [.d (.v (.int .i64 h0)),.d (.v (.int .u64 l0))],.c (.d (.lst 2 n1 fun i=> [it (gW (f1 i)).hi,ut (gW (f1 i)).lo]))]) ?_ rfl rfl ?_
   . repeat' (first|exact trivial|exact rfl|refine ⟨?_, ?_⟩|fail)
     all_goals first|(intro i hi;exact (hp1.2 i hi).1)|exact hp0.2|exact hp1.2|exact hp2.2|(intro i hi;exact (hp0.2 i hi).1)|(intro i hi;exact (hp1.2 i hi).1)|(intro i hi;exact (hp2.2 i hi).1)|grind
   refine fcat tys_ok (l:= [(172,⟨[],FWBestN⟩)]) ⟨fcWBestN,trivial⟩ Tryz.func139 rfl (by kernel_rfl) true ?_
   repeat' (first|exact trivial|refine ⟨?_, ?_⟩|intro _)
   all_goals first|(with_reducible apply qq)|(conv=>whnf)
   all_goals (try simp only [bsN_canon])
   all_goals first|rfl|decide|exact hp0|exact hp0.1.1|exact hp0.1.2|exact hp0.2.1|exact hp0.2.2|exact hp1.1|exact (hp1.2 _ ‹_›).2.1.1|exact (hp1.2 _ ‹_›).2.1.2|exact (hp1.2 _ ‹_›).2.2.1|exact (hp1.2 _ ‹_›).2.2.2
 . cases h
def FWMinN:List Ar->Option Rs
 | [.agg [.d (.v (.int .i64 h0)),.d (.v (.int .u64 l0))],.c (.d (.lst 2 n1 f1))]=>some ⟨(Wd.ok ⟨h0,l0⟩)/\ ((n1<=1000000/\ ∀i,i<n1->f1 i= [it (gW (f1 i)).hi,ut (gW (f1 i)).lo]/\ Wd.ok (gW (f1 i)))),.va (Wd.ar (bsN (-1) (⟨h0,l0⟩:Wd) f1 n1)),[]⟩
 |_=>none
theorem fcWMinN:FC Tryz.prog 188 FWMinN:=by
 intro xs pre r us h hp;unfold FWMinN at h;split at h
 . rename_i h0 l0 n1 f1
   cases h;obtain ⟨hp0,hp1⟩:=hp
   refine FCat.of_eq (as':= [.agg [.d (.v (.int .i64 h0)),.d (.v (.int .u64 l0))],.c (.d (.lst 2 n1 fun i=> [it (gW (f1 i)).hi,ut (gW (f1 i)).lo]))]) ?_ rfl rfl ?_
   . repeat' (first|exact trivial|exact rfl|refine ⟨?_, ?_⟩|fail)
     all_goals first|(intro i hi;exact (hp1.2 i hi).1)|exact hp0.2|exact hp1.2|exact hp2.2|(intro i hi;exact (hp0.2 i hi).1)|(intro i hi;exact (hp1.2 i hi).1)|(intro i hi;exact (hp2.2 i hi).1)|grind
   refine fcat tys_ok (l:= [(172,⟨[],FWBestN⟩)]) ⟨fcWBestN,trivial⟩ Tryz.func188 rfl (by kernel_rfl) true ?_
   repeat' (first|exact trivial|refine ⟨?_, ?_⟩|intro _)
   all_goals first|(with_reducible apply qq)|(conv=>whnf)
   all_goals (try simp only [bsN_canon])
   all_goals first|rfl|decide|exact hp0|exact hp0.1.1|exact hp0.1.2|exact hp0.2.1|exact hp0.2.2|exact hp1.1|exact (hp1.2 _ ‹_›).2.1.1|exact (hp1.2 _ ‹_›).2.1.2|exact (hp1.2 _ ‹_›).2.2.1|exact (hp1.2 _ ‹_›).2.2.2
 . cases h
theorem rw_top {d:Int} (h0:0<=d) (h1:d<170141183460469231731687303715884105728):((wd d).hi !=0)=decide (d≥18446744073709551616):=by
 unfold wd;rw [Bool.eq_iff_iff];simp;omega
theorem cmp_no {a b:Int} (h:a<=b) (h2:decide (wCmp a b>0)=true):False:=by
 have:=of_decide_eq_true h2
 unfold wCmp at this;(repeat' split at this)<;>omega
section
variable {l h:Int} (hb:l≤h) (ht:h-l<170141183460469231731687303715884105728)
include hb ht
theorem wr_1 (k:((wd (h-l)).hi !=0)=true):wrapI l h=allS:=by
 rw [rw_top (by omega) ht] at k;have:=of_decide_eq_true k;unfold wrapI;rw [if_pos (by omega)]
theorem wr_2 (k:((wd (h-l)).hi !=0)=false) (k2:decide (wr l>wr h)=true):wrapI l h=allS:=by
 rw [rw_top (by omega) ht] at k;have:=of_decide_eq_false k;unfold wrapI;rw [if_neg (by omega),if_pos (of_decide_eq_true k2)]
theorem wr_3 (k:((wd (h-l)).hi !=0)=false) (k2:decide (wr l>wr h)=false):wrapI l h=Sp.of (wr l) (wr h):=by
 rw [rw_top (by omega) ht] at k;have:=of_decide_eq_false k;unfold wrapI;rw [if_neg (by omega),if_neg (of_decide_eq_false k2)]
end
theorem wr_low (w:Wd):(w.val+9223372036854775808)%18446744073709551616-9223372036854775808=wr w.val:=rfl
def FReWrap:List Ar->Option Rs
 | [.agg [.d (.v (.int .i64 h0)),.d (.v (.int .u64 l0))],.agg [.d (.v (.int .i64 h1)),.d (.v (.int .u64 l1))]]=>some ⟨(Wd.ok ⟨h0,l0⟩)/\ (Wd.ok ⟨h1,l1⟩)/\ (Wd.val (⟨h0,l0⟩:Wd)<=Wd.val (⟨h1,l1⟩:Wd)/\ Wd.val (⟨h1,l1⟩:Wd)-Wd.val (⟨h0,l0⟩:Wd)<170141183460469231731687303715884105728),.va (Sp.ar (wrapI (Wd.val (⟨h0,l0⟩:Wd)) (Wd.val (⟨h1,l1⟩:Wd)))),[]⟩
 |_=>none
theorem fcReWrap:FC Tryz.prog 187 FReWrap:=by
 intro xs pre r us h hp;unfold FReWrap at h;split at h
 . rename_i h0 l0 h1 l1
   cases h;obtain ⟨hp0,hp1,hp2⟩:=hp
   refine fcat tys_ok (l:= [(137,⟨[],FWSub⟩),(204,⟨[],FWCmp⟩),(141,⟨[],FWLow⟩),(211,⟨[],FSAll⟩),(32,⟨[],FSOf⟩)]) ⟨fcWSub,fcWCmp,fcWLow,fcSAll,fcSOf,trivial⟩ Tryz.func187 rfl (by kernel_rfl) false ?_
   repeat' (first|exact trivial|(with_reducible first|exact hp0|exact hp1|exact hp2|exact hp0.1|exact hp0.2|exact hp1.1|exact hp1.2|exact hp2.1|exact hp2.2|exact wd_ok _|exact (wd_ok _).1.1|exact (wd_ok _).1.2|exact (wd_ok _).2.1|exact (wd_ok _).2.2|exact wr_r _|exact (wr_r _).1|exact (wr_r _).2)|refine ⟨?_, ?_⟩|intro _)
   all_goals first|(with_reducible apply qq)|(conv=>whnf)
   all_goals (try simp only [wr_low] at*)
   all_goals first|exact (cmp_no hp2.1 ‹_›).elim|exact (wr_r _).1|exact (wr_r _).2|(have e:=wr_1 hp2.1 hp2.2 ‹_›;first|exact congrArg (fun i:Sp=>Value.bool i.some) e.symm|exact congrArg (fun i:Sp=>Value.int .i64 i.lo) e.symm|exact congrArg (fun i:Sp=>Value.int .i64 i.hi) e.symm|fail)|(have e:=wr_2 hp2.1 hp2.2 ‹_› ‹_›;first|exact congrArg (fun i:Sp=>Value.bool i.some) e.symm|exact congrArg (fun i:Sp=>Value.int .i64 i.lo) e.symm|exact congrArg (fun i:Sp=>Value.int .i64 i.hi) e.symm|fail)|(have e:=wr_3 hp2.1 hp2.2 ‹_› ‹_›;first|exact congrArg (fun i:Sp=>Value.bool i.some) e.symm|exact congrArg (fun i:Sp=>Value.int .i64 i.lo) e.symm|exact congrArg (fun i:Sp=>Value.int .i64 i.hi) e.symm|fail)
 . cases h
theorem foldl_mem {f:Int->Int->Int} (hf: ∀a b,f a b=a \/f a b=b): ∀(l:List Int) (a:Int),l.foldl f a=a \/l.foldl f a∈l
 | [],a=> .inl rfl
 |b::l,a=>by
  have ih:=foldl_mem hf l (f a b)
  rw [List.foldl_cons];rcases ih with h|h
  . rcases hf a b with h2|h2
    . left;rw [h,h2]
    . right;rw [h,h2];exact List.mem_cons_self
  . right;exact List.mem_cons_of_mem _ h
theorem minL_mem (a:Int) (l:List Int):minL a l=a \/minL a l∈l:=foldl_mem (fun a b=>by split<;>simp) l a
theorem maxL_mem (a:Int) (l:List Int):maxL a l=a \/maxL a l∈l:=foldl_mem (fun a b=>by split<;>simp) l a
theorem valsW_mem {n:Nat} {f:Nat->List DV} {x:Int} (h:x∈valsW n f): ∃i,i<n/\ x=(gW (f i)).val:=by
 unfold valsW at h;obtain ⟨i,hi,rfl⟩:=List.mem_map.1 h
 exact ⟨i,List.mem_range.1 hi,rfl⟩
theorem valsW_0 {n:Nat} {f:Nat->List DV} (h:0<n): ∃l,valsW n f=(gW (f 0)).val::l:=by
 cases n with
 |zero=>omega
 |succ n=>unfold valsW;rw [List.range_succ_eq_map];exact ⟨_,rfl⟩
theorem ar_key {n:Nat} {f:Nat->List DV} (h:0<n) (hr: ∀i,i<n-> -85070591730234615865843651857942052864<(gW (f i)).val/\ (gW (f i)).val<=85070591730234615865843651857942052864):around (valsW n f)=wrapI (bsN (-1) (gW (f 0)) f n).val (bsN 1 (gW (f 0)) f n).val/\ (bsN (-1) (gW (f 0)) f n).val<=(bsN 1 (gW (f 0)) f n).val/\ (bsN 1 (gW (f 0)) f n).val-(bsN (-1) (gW (f 0)) f n).val<170141183460469231731687303715884105728:=by
 rw [bs_min,bs_max];obtain ⟨l,hl⟩:=valsW_0 (f:=f) h
 refine ⟨by rw [hl];rfl,Int.le_trans (minL_le _ _).1 (le_maxL _ _).1, ?_⟩
 have b1: -85070591730234615865843651857942052864<minL (gW (f 0)).val (valsW n f):=by
  rcases minL_mem (gW (f 0)).val (valsW n f) with e|e
  . rw [e];exact (hr 0 h).1
  . obtain ⟨i,hi,e⟩:=valsW_mem e;rw [e];exact (hr i hi).1
 have b2:maxL (gW (f 0)).val (valsW n f)<=85070591730234615865843651857942052864:=by
  rcases maxL_mem (gW (f 0)).val (valsW n f) with e|e
  . rw [e];exact (hr 0 h).2
  . obtain ⟨i,hi,e⟩:=valsW_mem e;rw [e];exact (hr i hi).2
 generalize minL (gW (f 0)).val (valsW n f)=a at*
 generalize maxL (gW (f 0)).val (valsW n f)=b at*
 omega
def FReAround:List Ar->Option Rs
 | [.c (.d (.lst 2 n0 f0))]=>some ⟨((n0<=1000000/\ ∀i,i<n0->f0 i= [it (gW (f0 i)).hi,ut (gW (f0 i)).lo]/\ Wd.ok (gW (f0 i))))/\ (∀i,i<n0-> -85070591730234615865843651857942052864<(gW (f0 i)).val/\ (gW (f0 i)).val<=85070591730234615865843651857942052864),.va (Sp.ar (around (valsW n0 f0))),[]⟩
 |_=>none
theorem fcReAround:FC Tryz.prog 156 FReAround:=by
 intro xs pre r us h hp;unfold FReAround at h;split at h
 . rename_i n0 f0
   cases h;obtain ⟨hp0,hp1⟩:=hp
   refine FCat.of_eq (as':= [.c (.d (.lst 2 n0 fun i=> [it (gW (f0 i)).hi,ut (gW (f0 i)).lo]))]) ?_ rfl rfl ?_
   . repeat' (first|exact trivial|exact rfl|refine ⟨?_, ?_⟩|fail)
     all_goals first|(intro i hi;exact (hp0.2 i hi).1)|exact hp0.2|exact hp1.2|exact hp2.2|(intro i hi;exact (hp0.2 i hi).1)|(intro i hi;exact (hp1.2 i hi).1)|(intro i hi;exact (hp2.2 i hi).1)|grind
   refine fcat tys_ok (l:= [(188,⟨[],FWMinN⟩),(139,⟨[],FWMaxN⟩),(187,⟨[],FReWrap⟩)]) ⟨fcWMinN,fcWMaxN,fcReWrap,trivial⟩ Tryz.func156 rfl (by kernel_rfl) true ?_
   rcases Nat.eq_zero_or_pos n0 with rfl|hn
   . have hne:(((0:Nat):Int)==0)=true:=rfl
     repeat' (first|exact trivial|(with_reducible exact nx hne)|refine ⟨?_, ?_⟩|intro _)
     all_goals first|(with_reducible apply qq)|(conv=>whnf)
     all_goals first|rfl
   . have hne:((n0:Int)==0)=false:=beq_eq_false_iff_ne.2 (by omega)
     have hk:=ar_key hn hp1
     have h1:=bsN_ok (s:=1) (hp0.2 0 hn).2 n0 fun i hi=>(hp0.2 i hi).2
     have h2:=bsN_ok (s:= -1) (hp0.2 0 hn).2 n0 fun i hi=>(hp0.2 i hi).2
     have h3:=(hp0.2 0 hn).2
     repeat' (first|exact trivial|(with_reducible first|exact nx hne|exact hp0.1)|refine ⟨?_, ?_⟩|intro _)
     all_goals first|(with_reducible apply qq)|(conv=>whnf)
     all_goals (try simp only [bsN_canon,Int.toNat_zero] at*)
     all_goals first|exact Nat.le_refl _|rfl|omega|exact h1.1.1|exact h1.1.2|exact h1.2.1|exact h1.2.2|exact h2.1.1|exact h2.1.2|exact h2.2.1|exact h2.2.2|exact h3.1.1|exact h3.1.2|exact h3.2.1|exact h3.2.2|exact hp0.1|exact (hp0.2 _ ‹_›).2.1.1|exact (hp0.2 _ ‹_›).2.1.2|exact (hp0.2 _ ‹_›).2.2.1|exact (hp0.2 _ ‹_›).2.2.2|exact hk.2.1|exact hk.2.2|(have e:=hk.1;first|exact congrArg (fun i:Sp=>Value.bool i.some) e.symm|exact congrArg (fun i:Sp=>Value.int .i64 i.lo) e.symm|exact congrArg (fun i:Sp=>Value.int .i64 i.hi) e.symm|fail)
 . cases h
def FReDo1:List Ar->Option Rs
 | [.c (.d (.v (.int .i64 i0))),.c (.d (.v (.int .i64 i1))),.rp [.v (.int .i64 i2)]]=>some ⟨(-9223372036854775808<=i0/\ i0<9223372036854775808)/\ (-9223372036854775808<=i1/\ i1<9223372036854775808)/\ (-9223372036854775808<=i2/\ i2<9223372036854775808),.va (Wd.ar (wd (exI i2 i0 i1))),[]⟩
 |_=>none
theorem fcReDo1:FC Tryz.prog 155 FReDo1:=by
 intro xs pre r us h hp;unfold FReDo1 at h;split at h
 . rename_i i0 i1 i2
   cases h;obtain ⟨hp0,hp1,hp2⟩:=hp
   refine fcat tys_ok (l:= [(150,⟨[],FXExact⟩)]) ⟨fcXExact,trivial⟩ Tryz.func155 rfl (by kernel_rfl) false ?_
   repeat' (first|exact trivial|(with_reducible first|exact hp0|exact hp1|exact hp2|exact hp0.1|exact hp0.2|exact hp1.1|exact hp1.2|exact hp2.1|exact hp2.2|exact wd_ok _|exact (wd_ok _).1.1|exact (wd_ok _).1.2|exact (wd_ok _).2.1|exact (wd_ok _).2.2)|refine ⟨?_, ?_⟩|intro _)
   all_goals first|(with_reducible apply qq)|(conv=>whnf)
   all_goals first|exact (wd_ok _).1.1|exact (wd_ok _).1.2|exact (wd_ok _).2.1|exact (wd_ok _).2.2|rfl
 . cases h
theorem quo_m {x y:Int} (h:(y== -1)=true):wd (0-(wd x).val)=wd (x.tdiv y):=by
 obtain rfl:=eq_of_beq h
 rw [show (-1:Int)= -(1) from rfl,Int.tdiv_neg,Int.tdiv_one];unfold wd Wd.val;dsimp only;congr 1<;>omega
theorem quo_d {x y:Int} (hx: -9223372036854775808<=x/\ x<9223372036854775808) (hy: -9223372036854775808<=y/\ y<9223372036854775808) (h0:y≠0) (h:(y== -1)=false):IntKind.wrap .i64 (x.tdiv y)=x.tdiv y:=by
 have:=quo_rng hx hy h0 (fun q=>ne_of_beq_false h q.2)
 exact wI_id _ this.1 this.2
def FReQuo:List Ar->Option Rs
 | [.c (.d (.v (.int .i64 i0))),.c (.d (.v (.int .i64 i1)))]=>some ⟨(-9223372036854775808<=i0/\ i0<9223372036854775808)/\ (-9223372036854775808<=i1/\ i1<9223372036854775808)/\ (i1≠0),.va (Wd.ar (wd (i0.tdiv i1))),[]⟩
 |_=>none
theorem fcReQuo:FC Tryz.prog 190 FReQuo:=by
 intro xs pre r us h hp;unfold FReQuo at h;split at h
 . rename_i i0 i1
   cases h;obtain ⟨hp0,hp1,hp2⟩:=hp
   refine fcat tys_ok (l:= [(138,⟨[],FWOf⟩),(140,⟨[],FWNeg⟩)]) ⟨fcWOf,fcWNeg,trivial⟩ Tryz.func190 rfl (by kernel_rfl) false ?_
   repeat' (first|exact trivial|(with_reducible first|exact hp0|exact hp1|exact hp2|exact hp0.1|exact hp0.2|exact hp1.1|exact hp1.2|exact hp2.1|exact hp2.2|exact wd_ok _|exact (wd_ok _).1.1|exact (wd_ok _).1.2|exact (wd_ok _).2.1|exact (wd_ok _).2.2)|refine ⟨?_, ?_⟩|intro _)
   all_goals first|(with_reducible apply qq)|(conv=>whnf)
   all_goals first|exact (wd_ok _).1.1|exact (wd_ok _).1.2|exact (wd_ok _).2.1|exact (wd_ok _).2.2|(exact (hp2 ‹_›).elim)|exact (congrArg (fun w:Wd=>Value.int .i64 w.hi) (quo_m ‹_›))|exact (congrArg (fun w:Wd=>Value.int .u64 w.lo) (quo_m ‹_›))|(rw [quo_d hp0 hp1 hp2 ‹_›];first|rfl|done)|(have:=quo_rng hp0 hp1 hp2 (fun q=>ne_of_beq_false ‹(i1== -1)=false› q.2);first|(rw [quo_d hp0 hp1 hp2 ‹_›];omega)|done)
 . cases h
def rwW (W:List Int) (i:Nat):List DV:= [it (wd (W.getD i 0)).hi,ut (wd (W.getD i 0)).lo]
abbrev gEx (op:Int):List Cv->Option Gs:=mkFv (sums [(155,⟨[],FReDo1⟩)]) 155 [.rp [.v (.int .i64 op)]]
abbrev gQu:List Cv->Option Gs:=mkFv (sums [(190,⟨[],FReQuo⟩)]) 190 []
def crn (f:Int->Int->Int) (a b:Sp):List Int:= [f a.lo b.lo,f a.lo b.hi,f a.hi b.lo,f a.hi b.hi]
theorem crn_row {f:Int->Int->Int} {a b:Sp} {i:Nat} (h:i<4):Sx.rowAt 2 [it (wd (f a.lo b.lo)).hi,ut (wd (f a.lo b.lo)).lo,it (wd (f a.lo b.hi)).hi,ut (wd (f a.lo b.hi)).lo,it (wd (f a.hi b.lo)).hi,ut (wd (f a.hi b.lo)).lo,it (wd (f a.hi b.hi)).hi,ut (wd (f a.hi b.hi)).lo] (0+i)=rwW (crn f a b) i:=by
 have:i=0 \/i=1 \/i=2 \/i=3:=by omega
 rcases this with rfl|rfl|rfl|rfl<;>rfl
def FReCornE (op:Int):List Ar->Option Rs
 | [.agg [.d (.v (.bool s0)),.d (.v (.int .i64 l0)),.d (.v (.int .i64 h0))],.agg [.d (.v (.bool s1)),.d (.v (.int .i64 l1)),.d (.v (.int .i64 h1))],.fv g2]=>some ⟨(Sp.inR ⟨s0,l0,h0⟩)/\ (Sp.inR ⟨s1,l1,h1⟩)/\ (g2=gEx op/\ (-9223372036854775808<=op/\ op<9223372036854775808)),.va (.c (.d (.lst 2 4 (rwW (crn (exI op) (⟨s0,l0,h0⟩:Sp) (⟨s1,l1,h1⟩:Sp)))))),[]⟩
 |_=>none
theorem fcReCornE (op:Int):FC Tryz.prog 157 (FReCornE op):=by
 intro xs pre r us h hp;unfold FReCornE at h;split at h
 . rename_i s0 l0 h0 s1 l1 h1 g2
   cases h;obtain ⟨hp0,hp1,hp2⟩:=hp
   refine fcat tys_ok (l:= [(155,⟨[],FReDo1⟩)]) ⟨fcReDo1,trivial⟩ Tryz.func157 rfl (by kernel_rfl) true ?_
   obtain ⟨rfl,hop⟩:=hp2
   unfold Sp.inR at hp0 hp1;have r1:=And.intro hp0.1 (And.intro hp1.1 hop)
   have r2:=And.intro hp0.1 (And.intro hp1.2 hop)
   have r3:=And.intro hp0.2 (And.intro hp1.1 hop)
   have r4:=And.intro hp0.2 (And.intro hp1.2 hop)
   repeat' (first|exact trivial|(with_reducible first|exact r1|exact r2|exact r3|exact r4)|refine ⟨?_, ?_⟩|intro _)
   all_goals first|(with_reducible apply qq)|(conv=>whnf)
   all_goals first|exact crn_row (a:=⟨s0,l0,h0⟩) (b:=⟨s1,l1,h1⟩) ‹_›|exact Nat.le_refl _
 . cases h
def FReCornQ:List Ar->Option Rs
 | [.agg [.d (.v (.bool s0)),.d (.v (.int .i64 l0)),.d (.v (.int .i64 h0))],.agg [.d (.v (.bool s1)),.d (.v (.int .i64 l1)),.d (.v (.int .i64 h1))],.fv g2]=>some ⟨(Sp.inR ⟨s0,l0,h0⟩)/\ (Sp.inR ⟨s1,l1,h1⟩)/\ (g2=gQu/\ l1≠0/\ h1≠0),.va (.c (.d (.lst 2 4 (rwW (crn Int.tdiv (⟨s0,l0,h0⟩:Sp) (⟨s1,l1,h1⟩:Sp)))))),[]⟩
 |_=>none
theorem fcReCornQ:FC Tryz.prog 157 FReCornQ:=by
 intro xs pre r us h hp;unfold FReCornQ at h;split at h
 . rename_i s0 l0 h0 s1 l1 h1 g2
   cases h;obtain ⟨hp0,hp1,hp2⟩:=hp
   refine fcat tys_ok (l:= [(190,⟨[],FReQuo⟩)]) ⟨fcReQuo,trivial⟩ Tryz.func157 rfl (by kernel_rfl) true ?_
   obtain ⟨rfl,hz1,hz2⟩:=hp2
   unfold Sp.inR at hp0 hp1;have r1:=And.intro hp0.1 (And.intro hp1.1 hz1)
   have r2:=And.intro hp0.1 (And.intro hp1.2 hz2)
   have r3:=And.intro hp0.2 (And.intro hp1.1 hz1)
   have r4:=And.intro hp0.2 (And.intro hp1.2 hz2)
   repeat' (first|exact trivial|(with_reducible first|exact r1|exact r2|exact r3|exact r4)|refine ⟨?_, ?_⟩|intro _)
   all_goals first|(with_reducible apply qq)|(conv=>whnf)
   all_goals first|exact crn_row (f:=Int.tdiv) (a:=⟨s0,l0,h0⟩) (b:=⟨s1,l1,h1⟩) ‹_›|exact Nat.le_refl _
 . cases h
end Go.Proofs.YtokjghkehojenaaGreat
namespace Go.Sx
section
variable {P:Program} {τ:Tys}
def thenJ (K:St->Prop) (Q:Exit->St->Prop):Exit->St->Prop
 | .normal,st=>K st
 | .exit id,st=>Q (.exit id) st
 | .goto l,st=>Q (.goto l) st
 | .ret,st=>Q .ret st
 |_,_=>False
variable {base:Nat} {x y z:Code} {st:St} {Q:Exit→St→Prop}
variable {t:TT} {l:List (Nat×Sm)}
end
def unrN (P:Program) (τ:Tys) (Γ:Sums) (calls:Nat->List Va->St->(Tm->St->Prop)->Prop) (base:Nat) (c:Code) (Q:Exit->St->Prop):Nat->St->Prop
 |0,_=>False
 |n+1,st=>vc P τ Γ calls base c st fun e st'=>match e with
  | .normal=>unrN P τ Γ calls base c Q n st'
  | .exit i=>Q (.exit i) st'
  | .goto i=>Q (.goto i) st'
  | .ret=>Q .ret st'
  |_=>False
theorem loop_n {P:Program} {t:TT} (ht:t.ok P) {l:List (Nat×Sm)} (hl:sumsOk P l) (hmix:P.follows .mixedOrders=true) {base:Nat} {c:Code} {Q:Exit->St->Prop} {st:St} (n:Nat)
 (h:unrN P t.get (sums l) (vcCall P (sums l) base) base c Q n st):ASat P base (.loop c) st Q:=by
 refine ⟨fun ψ S w a hr=> ?_⟩
 refine wp_loop_by (P:=P) (fun k a' w'=> ∃st ψ' S',unrN P t.get (sums l) (vcCall P (sums l) base) base c Q k st/\ Rel P base ψ' S' w' st a'/\ Ext base ψ S w ψ' S' w') ?_ ⟨st,ψ,S,h,hr,Ext.refl _ _ _ _⟩
 rintro k a1 w1 ⟨st1,ψ1,S1,hk,hr1,he1⟩
 cases k with
 |zero=>exact hk.elim
 |succ k=>
  refine wp_mono ((vc_ok (TT.tysOk ht) (TT.zeros ht) (sums_ok hl) hmix (vcCall_ok (sums_ok hl) base) c _ _ hk).run ψ1 S1 w1 a1 hr1) ?_
  rintro e a2 w2 ⟨st2,ψ2,S2,hq,hr2,he2⟩
  cases e with
  |normal=>exact ⟨k,Nat.lt_succ_self k,st2,ψ2,S2,hq,hr2,he1.trans he2⟩
  |exit id=>exact ⟨st2,ψ2,S2,hq,hr2,he1.trans he2⟩
  |goto l=>exact ⟨st2,ψ2,S2,hq,hr2,he1.trans he2⟩
  |ret=>exact ⟨st2,ψ2,S2,hq,hr2,he1.trans he2⟩
  |panic ch=>exact hq.elim
  |outgrown=>exact hq.elim
end Go.Sx
namespace Go.Proofs.YtokjghkehojenaaGreat
open Go.Sx
abbrev atSp (L:List Sp) (i:Nat):Sp:=L.getD i noS
abbrev rwS (L:List Sp) (i:Nat):List DV:= [bo (atSp L i).some,it (atSp L i).lo,it (atSp L i).hi]
theorem lt1 {i:Nat} (h:i<1):i=0:=by omega
theorem lt2 {i:Nat} (h:i<1+1):i=0 \/i=1:=by omega
theorem of_negS:Sp.of (-9223372036854775808) (-1)=⟨true, -9223372036854775808, -1⟩:=rfl
theorem of_posS:Sp.of 1 9223372036854775807=⟨true,1,9223372036854775807⟩:=rfl
theorem parts_k (b:Sp) (m n:Bool) (h:(negS b).none=m) (h2:(posS b).none=n):parts b=(if m=true then [] else [negS b])++(if n=true then [] else [posS b]):=by unfold parts;rw [h,h2]
def FReParts (L:List Sp) (n:Nat):List Ar->Option Rs
 | [.agg [.d (.v (.bool s0)),.d (.v (.int .i64 l0)),.d (.v (.int .i64 h0))]]=>some ⟨(Sp.inR ⟨s0,l0,h0⟩)/\ (parts (⟨s0,l0,h0⟩:Sp)=L/\ L.length=n),.va (.c (.d (.lst 3 n (rwS L)))),[]⟩
 |_=>none
theorem fcReParts (L:List Sp) (n:Nat):FC Tryz.prog 189 (FReParts L n):=by
 intro xs pre r us h hp;unfold FReParts at h;split at h
 . rename_i s0 l0 h0
   cases h;obtain ⟨hp0,hp1⟩:=hp
   refine fcat tys_ok (l:= [(32,⟨[],FSOf⟩),(63,⟨[],FSMeet⟩),(34,⟨[],FSNone⟩)]) ⟨fcSOf,fcSMeet,fcSNone,trivial⟩ Tryz.func189 rfl (by kernel_rfl) true ?_
   obtain ⟨rfl,rfl⟩:=hp1
   have hi0:decide ((0:Int)<2)=true:=rfl
   have hi1:decide (IntKind.i64.wrap (0+1)<(2:Int))=true:=rfl
   have hi2:decide (IntKind.i64.wrap (IntKind.i64.wrap (0+1)+1)<(2:Int))=false:=rfl
   have rn:Sp.inR (Sp.of (-9223372036854775808) (-1)):=by unfold Sp.inR;decide
   have rq:Sp.inR (Sp.of 1 9223372036854775807):=by unfold Sp.inR;decide
   have hmn:=Sp.meet_inR hp0 rn
   have hmq:=Sp.meet_inR hp0 rq
   cases hn:(Sp.meet (⟨s0,l0,h0⟩:Sp) (Sp.of (-9223372036854775808) (-1))).none<;>cases hq:(Sp.meet (⟨s0,l0,h0⟩:Sp) (Sp.of 1 9223372036854775807)).none
   all_goals (have hk:=parts_k (⟨s0,l0,h0⟩:Sp) _ _ hn hq)
   all_goals (simp only [Bool.false_eq_true,if_false,if_true,List.nil_append,List.append_nil,List.cons_append] at hk;have hln:=congrArg List.length hk;simp only [List.length_cons,List.length_nil,Nat.zero_add,Nat.reduceAdd] at hln)
   all_goals (have hn2:=congrArg Bool.not hn;have hq2:=congrArg Bool.not hq;simp only [Bool.not_true,Bool.not_false] at hn2 hq2)
   all_goals rw [hk]
   all_goals repeat' (first|exact trivial|(with_reducible first|exact hp0|exact hp0.1|exact hp0.2|exact hp0.1.1|exact hp0.1.2|exact hp0.2.1|exact hp0.2.2|exact rn|exact rq|exact hmn|exact hmq|exact nx hn|exact nx hq|exact nx hn2|exact nx hq2|exact nx hi0|exact nx hi1|exact nx hi2|exact (fun h:(0:Int)=((1:Nat):Int)=>absurd h (by decide))|exact (fun h:IntKind.i64.wrap (0+1)=((0:Nat):Int)=>absurd h (by decide)))|refine ⟨?_, ?_⟩|intro _)
   all_goals first|(with_reducible apply qq)|(conv=>whnf)
   all_goals first|((with_reducible show ASat _ _ _ _ _);refine loop_n tys_ok (l:= [(32,⟨[],FSOf⟩),(63,⟨[],FSMeet⟩),(34,⟨[],FSNone⟩)]) ⟨fcSOf,fcSMeet,fcSNone,trivial⟩ (by kernel_rfl) 3 ?_)|skip
   all_goals repeat' (first|exact trivial|(with_reducible first|exact hp0|exact hp0.1|exact hp0.2|exact hp0.1.1|exact hp0.1.2|exact hp0.2.1|exact hp0.2.2|exact rn|exact rq|exact hmn|exact hmq|exact nx hn|exact nx hq|exact nx hn2|exact nx hq2|exact nx hi0|exact nx hi1|exact nx hi2|exact (fun h:(0:Int)=((1:Nat):Int)=>absurd h (by decide))|exact (fun h:IntKind.i64.wrap (0+1)=((0:Nat):Int)=>absurd h (by decide)))|refine ⟨?_, ?_⟩|intro _)
   all_goals first|(with_reducible apply qq)|(conv=>whnf)
   all_goals first|rfl|decide|omega|(rename _<1+1=>hlt;rcases lt2 hlt with e|e<;>(subst e;rfl))|(rename _<1=>hlt;have e:=lt1 hlt;subst e;rfl)
 . cases h
theorem meet_ends {b:Sp} {l h:Int} (k:(Sp.meet b (Sp.of l h)).none=false) (hlh:l<=h):l<=(Sp.meet b (Sp.of l h)).lo/\ (Sp.meet b (Sp.of l h)).lo<=(Sp.meet b (Sp.of l h)).hi/\ (Sp.meet b (Sp.of l h)).hi<=h:=by
 have e:Sp.of l h=⟨true,l,h⟩:=by unfold Sp.of;rw [if_neg (by omega)]
 rw [e] at k⊢;cases hb:(b.none||Sp.none ⟨true,l,h⟩)
 . have e2:Sp.meet b ⟨true,l,h⟩=Sp.of (max b.lo l) (min b.hi h):=by unfold Sp.meet;rw [if_neg (by rw [hb];decide)]
   rw [e2] at k⊢;unfold Sp.of at k⊢
   by_cases h2:max b.lo l>min b.hi h
   . rw [if_pos h2] at k;exact absurd k (by decide)
   . rw [if_neg h2];exact ⟨Int.le_max_right _ _,Int.not_lt.1 h2,Int.min_le_right _ _⟩
 . have e2:Sp.meet b ⟨true,l,h⟩=⟨false,0,0⟩:=by unfold Sp.meet;rw [if_pos hb]
   rw [e2] at k;exact absurd k (by decide)
theorem neg_ends {b:Sp} (k:(Sp.meet b (Sp.of (-9223372036854775808) (-1))).none=false):(negS b).lo≠0/\ (negS b).hi≠0:=by have:=meet_ends k (by decide);rw [of_negS] at this;unfold negS;omega
theorem pos_ends {b:Sp} (k:(Sp.meet b (Sp.of 1 9223372036854775807)).none=false):(posS b).lo≠0/\ (posS b).hi≠0:=by have:=meet_ends k (by decide);rw [of_posS] at this;unfold posS;omega
theorem gW_rwW (W:List Int) (i:Nat):gW (rwW W i)=wd (W.getD i 0):=rfl
def Wok (n:Nat) (f:Nat->List DV):Prop:= ∀i,i<n->f i= [it (gW (f i)).hi,ut (gW (f i)).lo]/\ Wd.ok (gW (f i))
def Wrg (n:Nat) (f:Nat->List DV):Prop:= ∀i,i<n-> -85070591730234615865843651857942052864<(gW (f i)).val/\ (gW (f i)).val<=85070591730234615865843651857942052864
theorem wok_rw (n:Nat) (W:List Int):Wok n (rwW W):=fun i _=>⟨rfl,wd_ok _⟩
theorem wok_app {n m:Nat} {f g:Nat->List DV} (hf:Wok n f) (hg:Wok m g):Wok (n+m) (appRow n f g):=fun i hi=>by
 unfold appRow;split
 . exact hf i ‹_›
 . exact hg (i-n) (by omega)
theorem wrg_app {n m:Nat} {f g:Nat->List DV} (hf:Wrg n f) (hg:Wrg m g):Wrg (n+m) (appRow n f g):=fun i hi=>by
 unfold appRow;split
 . exact hf i ‹_›
 . exact hg (i-n) (by omega)
theorem wd_valS {v:Int} (h0: -85070591730234615865843651857942052864<v) (h1:v<=85070591730234615865843651857942052864):(wd v).val=v:=wd_val (by omega) (by omega)
theorem lt4 {i:Nat} (h:i<4):i=0 \/i=1 \/i=2 \/i=3:=by omega
theorem rw_vals {a b c d:Int} (ha: -85070591730234615865843651857942052864<a/\ a<=85070591730234615865843651857942052864) (hb: -85070591730234615865843651857942052864<b/\ b<=85070591730234615865843651857942052864) (hc: -85070591730234615865843651857942052864<c/\ c<=85070591730234615865843651857942052864) (hd: -85070591730234615865843651857942052864<d/\ d<=85070591730234615865843651857942052864):valsW 4 (rwW [a,b,c,d])= [a,b,c,d]/\ Wrg 4 (rwW [a,b,c,d]):=by
 constructor
 . show [(wd a).val,(wd b).val,(wd c).val,(wd d).val]=_
   rw [wd_valS ha.1 ha.2,wd_valS hb.1 hb.2,wd_valS hc.1 hc.2,wd_valS hd.1 hd.2]
 . intro i hi;rw [gW_rwW];rcases lt4 hi with e|e|e|e<;>subst e
   . show _<(wd a).val/\ (wd a).val<=_;rw [wd_valS ha.1 ha.2];exact ha
   . show _<(wd b).val/\ (wd b).val<=_;rw [wd_valS hb.1 hb.2];exact hb
   . show _<(wd c).val/\ (wd c).val<=_;rw [wd_valS hc.1 hc.2];exact hc
   . show _<(wd d).val/\ (wd d).val<=_;rw [wd_valS hd.1 hd.2];exact hd
theorem valsW_app (n m:Nat) (f g:Nat->List DV):valsW (n+m) (appRow n f g)=valsW n f++valsW m g:=by
 unfold valsW;rw [List.range_add,List.map_append,List.map_map]
 congr 1
 . apply List.map_congr_left
   intro i hi;have:=List.mem_range.1 hi
   show (gW (appRow n f g i)).val=_
   unfold appRow;rw [if_pos this]
 . apply List.map_congr_left
   intro i _;show (gW (appRow n f g (n+i))).val=_
   unfold appRow;rw [if_neg (by omega),Nat.add_sub_cancel_left]
theorem quo_rng' {x y:Int} (rx: -9223372036854775808<=x/\ x<9223372036854775808) (ry: -9223372036854775808<=y/\ y<9223372036854775808) (h0:y≠0): -85070591730234615865843651857942052864<x.tdiv y/\ x.tdiv y<=85070591730234615865843651857942052864:=by
 by_cases h:x= -9223372036854775808/\ y= -1
 . obtain ⟨rfl,rfl⟩:=h;decide
 . have:=quo_rng rx ry h0 h;omega
theorem crn_q {a p:Sp} (ha:a.inR) (hp:p.inR) (h:p.lo≠0/\ p.hi≠0):valsW 4 (rwW (crn Int.tdiv a p))=corners Int.tdiv a p/\ Wrg 4 (rwW (crn Int.tdiv a p)):=
 rw_vals (quo_rng' ha.1 hp.1 h.1) (quo_rng' ha.1 hp.2 h.2) (quo_rng' ha.2 hp.1 h.1) (quo_rng' ha.2 hp.2 h.2)
theorem ex_rng {op x y:Int} (rx: -9223372036854775808<=x/\ x<9223372036854775808) (ry: -9223372036854775808<=y/\ y<9223372036854775808): -85070591730234615865843651857942052864<exI op x y/\ exI op x y<=85070591730234615865843651857942052864:=by
 have m1:=mul_hi (a:= -9223372036854775808) (b:=9223372036854775808-1) (c:= -9223372036854775808) (d:=9223372036854775808-1) (x:=x) (y:=y) (hi:=85070591730234615865843651857942052864) (by omega) (by omega) (by omega) (by omega) (by decide) (by decide) (by decide) (by decide)
 have m2:=mul_lo (a:= -9223372036854775808) (b:=9223372036854775808-1) (c:= -9223372036854775808) (d:=9223372036854775808-1) (x:=x) (y:=y) (lo:= -85070591730234615865843651857942052864+9223372036854775808) (by omega) (by omega) (by omega) (by omega) (by decide) (by decide) (by decide) (by decide)
 unfold exI;(repeat' split)<;>omega
theorem at00 (x y:Sp):atSp [x,y] (Int.toNat 0)=x:=rfl
theorem at01 (x y:Sp):atSp [x,y] (IntKind.i64.wrap (0+1)).toNat=y:=rfl
theorem at0 (x:Sp):atSp [x] (Int.toNat 0)=x:=rfl
theorem spEta (x:Sp):(⟨x.some,x.lo,x.hi⟩:Sp)=x:=rfl
theorem dv_2 {a p q:Sp} (kp:valsW 4 (rwW (crn Int.tdiv a p))=corners Int.tdiv a p) (kq:valsW 4 (rwW (crn Int.tdiv a q))=corners Int.tdiv a q):around (valsW (4+4) (appRow 4 (rwW (crn Int.tdiv a p)) (rwW (crn Int.tdiv a q))))=around ([p,q].flatMap fun p=>corners Int.tdiv a p):=by
 rw [valsW_app,kp,kq];rfl
theorem dv_1 {a p:Sp} (kp:valsW 4 (rwW (crn Int.tdiv a p))=corners Int.tdiv a p):around (valsW 4 (rwW (crn Int.tdiv a p)))=around ([p].flatMap fun p=>corners Int.tdiv a p):=by
 rw [kp];rfl
def FReDiv:List Ar->Option Rs
 | [.agg [.d (.v (.bool s0)),.d (.v (.int .i64 l0)),.d (.v (.int .i64 h0))],.agg [.d (.v (.bool s1)),.d (.v (.int .i64 l1)),.d (.v (.int .i64 h1))]]=>some ⟨(Sp.inR ⟨s0,l0,h0⟩)/\ (Sp.inR ⟨s1,l1,h1⟩),.va (Sp.ar (divS (⟨s0,l0,h0⟩:Sp) (⟨s1,l1,h1⟩:Sp))),[]⟩
 |_=>none
theorem fcReDiv:FC Tryz.prog 158 FReDiv:=by
 intro xs pre r us h hp;unfold FReDiv at h;split at h
 . rename_i s0 l0 h0 s1 l1 h1
   cases h;obtain ⟨hp0,hp1⟩:=hp
   refine fcat tys_ok (l:= [(189,⟨[],(FReParts (parts (⟨s1,l1,h1⟩:Sp)) (parts (⟨s1,l1,h1⟩:Sp)).length)⟩),(157,⟨[],FReCornQ⟩),(156,⟨[],FN 2 FReAround⟩),(190,⟨[],FReQuo⟩)]) ⟨(fcReParts (parts (⟨s1,l1,h1⟩:Sp)) (parts (⟨s1,l1,h1⟩:Sp)).length),fcReCornQ,fc_nil 2 fcReAround,fcReQuo,trivial⟩ Tryz.func158 rfl (by kernel_rfl) true ?_
   unfold divS;have hj00:decide ((0:Int)<((0:Nat):Int))=false:=rfl
   have hs00:((0:Int)<((0:Nat):Int)) \/True:= .inr trivial
   have hj01:decide ((0:Int)<((1:Nat):Int))=true:=rfl
   have hs01:((0:Int)<((1:Nat):Int)):=by decide
   have hj02:decide ((0:Int)<((2:Nat):Int))=true:=rfl
   have hs02:((0:Int)<((2:Nat):Int)):=by decide
   have hj10:decide (IntKind.i64.wrap (0+1)<((0:Nat):Int))=false:=rfl
   have hs10:(IntKind.i64.wrap (0+1)<((0:Nat):Int)) \/True:= .inr trivial
   have hj11:decide (IntKind.i64.wrap (0+1)<((1:Nat):Int))=false:=rfl
   have hs11:(IntKind.i64.wrap (0+1)<((1:Nat):Int)) \/True:= .inr trivial
   have hj12:decide (IntKind.i64.wrap (0+1)<((2:Nat):Int))=true:=rfl
   have hs12:(IntKind.i64.wrap (0+1)<((2:Nat):Int)):=by decide
   have hj20:decide (IntKind.i64.wrap (IntKind.i64.wrap (0+1)+1)<((0:Nat):Int))=false:=rfl
   have hs20:(IntKind.i64.wrap (IntKind.i64.wrap (0+1)+1)<((0:Nat):Int)) \/True:= .inr trivial
   have hj21:decide (IntKind.i64.wrap (IntKind.i64.wrap (0+1)+1)<((1:Nat):Int))=false:=rfl
   have hs21:(IntKind.i64.wrap (IntKind.i64.wrap (0+1)+1)<((1:Nat):Int)) \/True:= .inr trivial
   have hj22:decide (IntKind.i64.wrap (IntKind.i64.wrap (0+1)+1)<((2:Nat):Int))=false:=rfl
   have hs22:(IntKind.i64.wrap (IntKind.i64.wrap (0+1)+1)<((2:Nat):Int)) \/True:= .inr trivial
   have hi0:decide ((0:Int)<2)=true:=rfl
   have hi1:decide (IntKind.i64.wrap (0+1)<(2:Int))=true:=rfl
   have hi2:decide (IntKind.i64.wrap (IntKind.i64.wrap (0+1)+1)<(2:Int))=false:=rfl
   have rn:Sp.inR (Sp.of (-9223372036854775808) (-1)):=by unfold Sp.inR;decide
   have rq:Sp.inR (Sp.of 1 9223372036854775807):=by unfold Sp.inR;decide
   have hmn:=Sp.meet_inR hp1 rn
   have hmq:=Sp.meet_inR hp1 rq
   cases hn:(Sp.meet (⟨s1,l1,h1⟩:Sp) (Sp.of (-9223372036854775808) (-1))).none<;>cases hq:(Sp.meet (⟨s1,l1,h1⟩:Sp) (Sp.of 1 9223372036854775807)).none
   all_goals (have hk:=parts_k (⟨s1,l1,h1⟩:Sp) _ _ hn hq)
   all_goals (simp only [Bool.false_eq_true,if_false,if_true,List.nil_append,List.append_nil,List.cons_append] at hk;have hln:=congrArg List.length hk;simp only [List.length_cons,List.length_nil,Nat.zero_add,Nat.reduceAdd] at hln)
   all_goals (have hn2:=congrArg Bool.not hn;have hq2:=congrArg Bool.not hq;simp only [Bool.not_true,Bool.not_false] at hn2 hq2)
   . have hN:=neg_ends hn
     have kN:=crn_q hp0 hmn hN
     have gN:Sp.inR (negS ⟨s1,l1,h1⟩):=hmn
     unfold Sp.inR at gN;have hP:=pos_ends hq
     have kP:=crn_q hp0 hmq hP
     have gP:Sp.inR (posS ⟨s1,l1,h1⟩):=hmq
     unfold Sp.inR at gP;rw [hln,hk]
     all_goals repeat' (first|exact trivial|(with_reducible first|exact hp0|exact hp1|exact And.intro hk hln|exact hk|exact hln|exact nx hn|exact nx hq|exact nx hn2|exact nx hq2|exact nx hj00|exact nx hj01|exact nx hj02|exact nx hj10|exact nx hj11|exact nx hj12|exact nx hj20|exact nx hj21|exact nx hj22|exact hs01|exact hs02|exact hs12)|refine ⟨?_, ?_⟩|intro _)
     all_goals first|(with_reducible apply qq)|(conv=>whnf)
     all_goals first|((with_reducible show ASat _ _ _ _ _);refine loop_n tys_ok (l:= [(189,⟨[],(FReParts (parts (⟨s1,l1,h1⟩:Sp)) (parts (⟨s1,l1,h1⟩:Sp)).length)⟩),(157,⟨[],FReCornQ⟩),(156,⟨[],FN 2 FReAround⟩),(190,⟨[],FReQuo⟩)]) ⟨fcReParts _ _,fcReCornQ,fc_nil 2 fcReAround,fcReQuo,trivial⟩ (by kernel_rfl) 3 ?_)|skip
     all_goals repeat' (first|exact trivial|(with_reducible first|exact hp0|exact hp1|exact And.intro hk hln|exact hk|exact hln|exact nx hn|exact nx hq|exact nx hn2|exact nx hq2|exact nx hj00|exact nx hj01|exact nx hj02|exact nx hj10|exact nx hj11|exact nx hj12|exact nx hj20|exact nx hj21|exact nx hj22|exact hs01|exact hs02|exact hs12)|refine ⟨?_, ?_⟩|intro _)
     all_goals first|(with_reducible apply qq)|(conv=>whnf)
     all_goals (try simp only [Nat.zero_add,at00,at01,at0,spEta])
     all_goals first|(with_reducible rfl)|((with_reducible show Value.bool _=_);exact congrArg (fun i:Sp=>Value.bool i.some) ((dv_2 kN.1 kP.1)))|((with_reducible show Value.int _ _=_);first|exact congrArg (fun i:Sp=>Value.int .i64 i.lo) ((dv_2 kN.1 kP.1))|exact congrArg (fun i:Sp=>Value.int .i64 i.hi) ((dv_2 kN.1 kP.1)))|(with_reducible first|exact gN.1.1|exact gN.1.2|exact gN.2.1|exact gN.2.2)|((with_reducible show False);exact hN.1 ‹_›)|((with_reducible show False);exact hN.2 ‹_›)|((with_reducible show _<Wd.val _);exact (kN.2 _ ‹_›).1)|((with_reducible show Wd.val _<=_);exact (kN.2 _ ‹_›).2)|(with_reducible first|exact gP.1.1|exact gP.1.2|exact gP.2.1|exact gP.2.2)|((with_reducible show False);exact hP.1 ‹_›)|((with_reducible show False);exact hP.2 ‹_›)|((with_reducible show _<Wd.val _);exact (kP.2 _ ‹_›).1)|((with_reducible show Wd.val _<=_);exact (kP.2 _ ‹_›).2)|((with_reducible show _<Wd.val _);exact (wrg_app kN.2 kP.2 _ ‹_›).1)|((with_reducible show Wd.val _<=_);exact (wrg_app kN.2 kP.2 _ ‹_›).2)|exact (wok_app (wok_rw 4 _) (wok_rw 4 _) _ ‹_›).1|exact (wok_app (wok_rw 4 _) (wok_rw 4 _) _ ‹_›).2.1.1|exact (wok_app (wok_rw 4 _) (wok_rw 4 _) _ ‹_›).2.1.2|exact (wok_app (wok_rw 4 _) (wok_rw 4 _) _ ‹_›).2.2.1|exact (wok_app (wok_rw 4 _) (wok_rw 4 _) _ ‹_›).2.2.2|decide|rfl
   . have hN:=neg_ends hn
     have kN:=crn_q hp0 hmn hN
     have gN:Sp.inR (negS ⟨s1,l1,h1⟩):=hmn
     unfold Sp.inR at gN;rw [hln,hk]
     all_goals repeat' (first|exact trivial|(with_reducible first|exact hp0|exact hp1|exact And.intro hk hln|exact hk|exact hln|exact nx hn|exact nx hq|exact nx hn2|exact nx hq2|exact nx hj00|exact nx hj01|exact nx hj02|exact nx hj10|exact nx hj11|exact nx hj12|exact nx hj20|exact nx hj21|exact nx hj22|exact hs01|exact hs02|exact hs12)|refine ⟨?_, ?_⟩|intro _)
     all_goals first|(with_reducible apply qq)|(conv=>whnf)
     all_goals first|((with_reducible show ASat _ _ _ _ _);refine loop_n tys_ok (l:= [(189,⟨[],(FReParts (parts (⟨s1,l1,h1⟩:Sp)) (parts (⟨s1,l1,h1⟩:Sp)).length)⟩),(157,⟨[],FReCornQ⟩),(156,⟨[],FN 2 FReAround⟩),(190,⟨[],FReQuo⟩)]) ⟨fcReParts _ _,fcReCornQ,fc_nil 2 fcReAround,fcReQuo,trivial⟩ (by kernel_rfl) 3 ?_)|skip
     all_goals repeat' (first|exact trivial|(with_reducible first|exact hp0|exact hp1|exact And.intro hk hln|exact hk|exact hln|exact nx hn|exact nx hq|exact nx hn2|exact nx hq2|exact nx hj00|exact nx hj01|exact nx hj02|exact nx hj10|exact nx hj11|exact nx hj12|exact nx hj20|exact nx hj21|exact nx hj22|exact hs01|exact hs02|exact hs12)|refine ⟨?_, ?_⟩|intro _)
     all_goals first|(with_reducible apply qq)|(conv=>whnf)
     all_goals (try simp only [Nat.zero_add,at00,at01,at0,spEta])
     all_goals first|(with_reducible rfl)|((with_reducible show Value.bool _=_);exact congrArg (fun i:Sp=>Value.bool i.some) ((dv_1 kN.1)))|((with_reducible show Value.int _ _=_);first|exact congrArg (fun i:Sp=>Value.int .i64 i.lo) ((dv_1 kN.1))|exact congrArg (fun i:Sp=>Value.int .i64 i.hi) ((dv_1 kN.1)))|(with_reducible first|exact gN.1.1|exact gN.1.2|exact gN.2.1|exact gN.2.2)|((with_reducible show False);exact hN.1 ‹_›)|((with_reducible show False);exact hN.2 ‹_›)|((with_reducible show _<Wd.val _);exact (kN.2 _ ‹_›).1)|((with_reducible show Wd.val _<=_);exact (kN.2 _ ‹_›).2)|exact (wok_rw 4 _ _ ‹_›).1|exact (wok_rw 4 _ _ ‹_›).2.1.1|exact (wok_rw 4 _ _ ‹_›).2.1.2|exact (wok_rw 4 _ _ ‹_›).2.2.1|exact (wok_rw 4 _ _ ‹_›).2.2.2|decide|rfl
   . have hP:=pos_ends hq
     have kP:=crn_q hp0 hmq hP
     have gP:Sp.inR (posS ⟨s1,l1,h1⟩):=hmq
     unfold Sp.inR at gP;rw [hln,hk]
     all_goals repeat' (first|exact trivial|(with_reducible first|exact hp0|exact hp1|exact And.intro hk hln|exact hk|exact hln|exact nx hn|exact nx hq|exact nx hn2|exact nx hq2|exact nx hj00|exact nx hj01|exact nx hj02|exact nx hj10|exact nx hj11|exact nx hj12|exact nx hj20|exact nx hj21|exact nx hj22|exact hs01|exact hs02|exact hs12)|refine ⟨?_, ?_⟩|intro _)
     all_goals first|(with_reducible apply qq)|(conv=>whnf)
     all_goals first|((with_reducible show ASat _ _ _ _ _);refine loop_n tys_ok (l:= [(189,⟨[],(FReParts (parts (⟨s1,l1,h1⟩:Sp)) (parts (⟨s1,l1,h1⟩:Sp)).length)⟩),(157,⟨[],FReCornQ⟩),(156,⟨[],FN 2 FReAround⟩),(190,⟨[],FReQuo⟩)]) ⟨fcReParts _ _,fcReCornQ,fc_nil 2 fcReAround,fcReQuo,trivial⟩ (by kernel_rfl) 3 ?_)|skip
     all_goals repeat' (first|exact trivial|(with_reducible first|exact hp0|exact hp1|exact And.intro hk hln|exact hk|exact hln|exact nx hn|exact nx hq|exact nx hn2|exact nx hq2|exact nx hj00|exact nx hj01|exact nx hj02|exact nx hj10|exact nx hj11|exact nx hj12|exact nx hj20|exact nx hj21|exact nx hj22|exact hs01|exact hs02|exact hs12)|refine ⟨?_, ?_⟩|intro _)
     all_goals first|(with_reducible apply qq)|(conv=>whnf)
     all_goals (try simp only [Nat.zero_add,at00,at01,at0,spEta])
     all_goals first|(with_reducible rfl)|((with_reducible show Value.bool _=_);exact congrArg (fun i:Sp=>Value.bool i.some) ((dv_1 kP.1)))|((with_reducible show Value.int _ _=_);first|exact congrArg (fun i:Sp=>Value.int .i64 i.lo) ((dv_1 kP.1))|exact congrArg (fun i:Sp=>Value.int .i64 i.hi) ((dv_1 kP.1)))|(with_reducible first|exact gP.1.1|exact gP.1.2|exact gP.2.1|exact gP.2.2)|((with_reducible show False);exact hP.1 ‹_›)|((with_reducible show False);exact hP.2 ‹_›)|((with_reducible show _<Wd.val _);exact (kP.2 _ ‹_›).1)|((with_reducible show Wd.val _<=_);exact (kP.2 _ ‹_›).2)|exact (wok_rw 4 _ _ ‹_›).1|exact (wok_rw 4 _ _ ‹_›).2.1.1|exact (wok_rw 4 _ _ ‹_›).2.1.2|exact (wok_rw 4 _ _ ‹_›).2.2.1|exact (wok_rw 4 _ _ ‹_›).2.2.2|decide|rfl
   . rw [hln,hk]
     all_goals repeat' (first|exact trivial|(with_reducible first|exact hp0|exact hp1|exact And.intro hk hln|exact hk|exact hln|exact nx hn|exact nx hq|exact nx hn2|exact nx hq2|exact nx hj00|exact nx hj01|exact nx hj02|exact nx hj10|exact nx hj11|exact nx hj12|exact nx hj20|exact nx hj21|exact nx hj22|exact hs01|exact hs02|exact hs12)|refine ⟨?_, ?_⟩|intro _)
     all_goals first|(with_reducible apply qq)|(conv=>whnf)
     all_goals first|((with_reducible show ASat _ _ _ _ _);refine loop_n tys_ok (l:= [(189,⟨[],(FReParts (parts (⟨s1,l1,h1⟩:Sp)) (parts (⟨s1,l1,h1⟩:Sp)).length)⟩),(157,⟨[],FReCornQ⟩),(156,⟨[],FN 2 FReAround⟩),(190,⟨[],FReQuo⟩)]) ⟨fcReParts _ _,fcReCornQ,fc_nil 2 fcReAround,fcReQuo,trivial⟩ (by kernel_rfl) 3 ?_)|skip
     all_goals repeat' (first|exact trivial|(with_reducible first|exact hp0|exact hp1|exact And.intro hk hln|exact hk|exact hln|exact nx hn|exact nx hq|exact nx hn2|exact nx hq2|exact nx hj00|exact nx hj01|exact nx hj02|exact nx hj10|exact nx hj11|exact nx hj12|exact nx hj20|exact nx hj21|exact nx hj22|exact hs01|exact hs02|exact hs12)|refine ⟨?_, ?_⟩|intro _)
     all_goals first|(with_reducible apply qq)|(conv=>whnf)
     all_goals (try simp only [Nat.zero_add,at00,at01,at0,spEta])
     all_goals first|exact Nat.zero_le _|rfl|decide|omega|(intro _ h;exact absurd h (Nat.not_lt_zero _))|exact absurd ‹_<0› (Nat.not_lt_zero _)
 . cases h
end Go.Proofs.YtokjghkehojenaaGreat
