/- What congruences come to: more. No condition. -/
import Derived.Test.YtokjghkehojenaaGreatL11
set_option linter.all false
set_option maxHeartbeats 8000000
set_option maxRecDepth 100000
namespace Go.Proofs.YtokjghkehojenaaGreat
open Go.Sx
theorem lt_of_nz {k:Int} (h:0<=k) (h2:(k==0)=false):0<k:=by have:=ne_of_beq_false h2;omega
theorem part_r {m:Int} (h0:0<=m) (h1:m<9223372036854775808):0<=partI m/\ partI m<9223372036854775808:=by
 rcases Int.lt_or_le 0 m with hp|hp
 . have:=partI_ok hp h1;omega
 . obtain rfl:m=0:=by omega
   rw [partI_0];decide
section
variable {op m k:Int} {a b:Cg} {w:Bool} (hk:(if w=true then partI m else m)=k)
include hk
theorem lin_1 (h:exB op=false):linC op m a b w=Cg.of 1 0:=by unfold linC;rw [hk];dsimp only;rw [if_pos (.inl h)];rfl
theorem lin_2 (h:(k==0)=true):linC op m a b w=Cg.of 1 0:=by unfold linC;rw [hk];dsimp only;rw [if_pos (.inr (eq_of_beq h))];rfl
theorem lin_3 (ra: -9223372036854775808<=a.r/\ a.r<9223372036854775808) (rb: -9223372036854775808<=b.r/\ b.r<9223372036854775808) (h:exB op=true) (h2:(k==0)=false):linC op m a b w=Cg.of k ((wd (exI op a.r b.r)).val%k):=by
 have:=ex_rng (op:=op) ra rb
 unfold linC;rw [hk];dsimp only;rw [if_neg (by rintro (x|x);exact absurd (h.symm.trans x) (by decide);exact ne_of_beq_false h2 x),wd_valS this.1 this.2]
end
theorem sc_r {c:Int} (h: -9223372036854775808<=c/\ c<9223372036854775808):0<=sizeI c/\ sizeI c<=9223372036854775808:=by unfold sizeI;split<;>omega
section
variable {m c:Int} (hm: -9223372036854775808≤m∧m<9223372036854775808) (hc: -9223372036854775808≤c∧c<9223372036854775808) (h0:0≤m)
theorem sc_1 (h:decide (sizeI c>9223372036854775807)=true):sclI m c=m:=by unfold sclI;rw [if_pos (of_decide_eq_true h)]
include hc in
theorem sc_w (h:decide (sizeI c>9223372036854775807)=false):IntKind.wrap .i64 (sizeI c)=sizeI c:=by have:=sc_r hc;have:=of_decide_eq_false h;exact wI_id _ (by omega) (by omega)
include hm hc h0 in
theorem sc_v (h:decide (sizeI c>9223372036854775807)=false):(wd (m*IntKind.wrap .i64 (sizeI c))).val=m*sizeI c:=by
 rw [sc_w hc h];have:=sc_r hc
 have a1:=Int.mul_nonneg h0 this.1
 have a2:m*sizeI c<=(9223372036854775808-1)*9223372036854775808:=by
  have b1:=Int.mul_le_mul_of_nonneg_right (show m<=9223372036854775808-1 by omega) this.1
  have b2:=Int.mul_le_mul_of_nonneg_left this.2 (show (0:Int)<=9223372036854775808-1 by decide)
  omega
 exact wd_val (by omega) (by omega)
include hm hc h0 in
theorem sc_2 (h:decide (sizeI c>9223372036854775807)=false) (h2:wIntB (wd (m*IntKind.wrap .i64 (sizeI c))).val=false):sclI m c=m:=by
 rw [sc_v hm hc h0 h] at h2;unfold sclI;rw [if_neg (of_decide_eq_false h),if_neg (by rw [h2];decide)]
include hm hc h0 in
theorem sc_3 (h:decide (sizeI c>9223372036854775807)=false) (h2:wIntB (wd (m*IntKind.wrap .i64 (sizeI c))).val=true):sclI m c=wIntV (wd (m*IntKind.wrap .i64 (sizeI c))).val:=by
 rw [sc_v hm hc h0 h] at*
 unfold sclI wIntV;rw [if_neg (of_decide_eq_false h),if_pos h2,if_pos (by unfold wIntB at h2;exact of_decide_eq_true h2)]
end
section
variable {a b:Cg} {w:Bool}
theorem pr_s (h:(a.m !=0)=true) (h2:(b.m==0)=true):prodC a b w=prod0 b a w:=by unfold prodC;rw [if_pos ⟨by simpa using h,by simpa using h2⟩]
theorem pr_n1 (h:(a.m !=0)=false):prodC a b w=prod0 a b w:=by unfold prodC;rw [if_neg (by rintro ⟨x, -⟩;simp at h;exact x h)]
theorem pr_n2 (h:(b.m==0)=false):prodC a b w=prod0 a b w:=by unfold prodC;rw [if_neg (by rintro ⟨-,x⟩;simp at h;exact h x)]
theorem p0_1 (h:alC a 0=true):prod0 a b w=Cg.of 0 0:=by unfold prod0;rw [if_pos h]
theorem p0_2 (h:alC a 0=false) (h2:(a.m==0)=true):prod0 a b w=linC 7 (sclI b.m a.r) a b w:=by unfold prod0;rw [if_neg (by rw [h];decide),if_pos (eq_of_beq h2)]
theorem p0_3 (h:alC a 0=false) (h2:(a.m==0)=false):prod0 a b w=linC 7 (Int.gcd a.m b.m:Int) a b w:=by unfold prod0;rw [if_neg (by rw [h];decide),if_neg (ne_of_beq_false h2)]
end
theorem scl_r {m c:Int} (hm: -9223372036854775808<=m/\ m<9223372036854775808) (h0:0<=m):(-9223372036854775808<=sclI m c/\ sclI m c<9223372036854775808)/\ 0<=sclI m c:=by
 have:=scl_ok (c:=c) (z:=m) h0 hm.2 (Int.dvd_refl _);omega
theorem gcd_r {m n:Int} (hm: -9223372036854775808<=m/\ m<9223372036854775808) (hn: -9223372036854775808<=n/\ n<9223372036854775808) (h0:0<=m/\ 0<=n):(-9223372036854775808<=(Int.gcd m n:Int)/\ (Int.gcd m n:Int)<9223372036854775808)/\ 0<=(Int.gcd m n:Int):=by
 have:=gcd_lt ⟨h0.1,hm.2⟩ ⟨h0.2,hn.2⟩;omega
def FRsLinear:List Ar->Option Rs
 | [.c (.d (.v (.int .i64 i0))),.c (.d (.v (.int .i64 i1))),.agg [.d (.v (.bool b2)),.d (.v (.int .i64 m2)),.d (.v (.int .i64 r2))],.agg [.d (.v (.bool b3)),.d (.v (.int .i64 m3)),.d (.v (.int .i64 r3))],.c (.d (.v (.bool b4)))]=>some ⟨(-9223372036854775808<=i0/\ i0<9223372036854775808)/\ (-9223372036854775808<=i1/\ i1<9223372036854775808)/\ (Cg.inR ⟨b2,m2,r2⟩)/\ (Cg.inR ⟨b3,m3,r3⟩)/\ (0<=i1),.va (Cg.ar (linC i0 i1 (⟨b2,m2,r2⟩:Cg) (⟨b3,m3,r3⟩:Cg) b4)),[]⟩
 |_=>none
theorem fcRsLinear:FC Tryz.prog 162 FRsLinear:=by
 intro xs pre r us h hp;unfold FRsLinear at h;split at h
 . rename_i i0 i1 b2 m2 r2 b3 m3 r3 b4
   cases h;obtain ⟨hp0,hp1,hp2,hp3,hp4⟩:=hp
   refine fcat tys_ok (l:= [(196,⟨[],FRsPart⟩),(150,⟨[],FXExact⟩),(33,⟨[],FCAll⟩),(197,⟨[],FRsLeft⟩),(61,⟨[],FCOf⟩)]) ⟨fcRsPart,fcXExact,fcCAll,fcRsLeft,fcCOf,trivial⟩ Tryz.func162 rfl (by kernel_rfl) false ?_
   have hP:=part_r hp4 hp1.2
   have q2:=hp2;unfold Cg.inR at q2;dsimp only at q2
   have q3:=hp3;unfold Cg.inR at q3;dsimp only at q3
   have hPP: -9223372036854775808<=partI i1/\ partI i1<9223372036854775808:=⟨by omega,hP.2⟩
   cases b4
   . have hk0:=hp4
     have hk1:=hp1.2
     cases hx:exB i0
     . have hxn:=congrArg Bool.not hx;simp only [Bool.not_true,Bool.not_false] at hxn
       repeat' (first|exact trivial|(with_reducible first|exact hp0|exact hp1|exact hp2|exact hp0.1|exact hp0.2|exact hp1.1|exact hp1.2|exact hp2.1|exact hp2.2|exact wd_ok _|exact (wd_ok _).1.1|exact (wd_ok _).1.2|exact (wd_ok _).2.1|exact (wd_ok _).2.2|exact (fun h:false=true=>absurd h (by decide))|exact (fun h:true=false=>absurd h (by decide))|exact hp0|exact hp1|exact hp2|exact hp3|exact hp4|exact hPP|exact hPP.1|exact hPP.2|exact hP.1|exact hP.2|exact q2.1|exact q2.2|exact q2.1.1|exact q2.1.2|exact q2.2.1|exact q2.2.2|exact q3.1|exact q3.2|exact q3.1.1|exact q3.1.2|exact q3.2.1|exact q3.2.2|exact nx hx|exact nx hxn)|refine ⟨?_, ?_⟩|intro _)
       all_goals first|(with_reducible apply qq)|(conv=>whnf)
       all_goals first|(with_reducible rfl)|decide|((with_reducible show Value.bool (Cg.some _)=_);exact congrArg (fun i:Cg=>Value.bool i.some) ((lin_1 (a:=(⟨b2,m2,r2⟩:Cg)) (b:=(⟨b3,m3,r3⟩:Cg)) (w:=false) rfl hx).symm))|((with_reducible show Value.int _ (Cg.m _)=_);exact congrArg (fun i:Cg=>Value.int .i64 i.m) ((lin_1 (a:=(⟨b2,m2,r2⟩:Cg)) (b:=(⟨b3,m3,r3⟩:Cg)) (w:=false) rfl hx).symm))|((with_reducible show Value.int _ (Cg.r _)=_);exact congrArg (fun i:Cg=>Value.int .i64 i.r) ((lin_1 (a:=(⟨b2,m2,r2⟩:Cg)) (b:=(⟨b3,m3,r3⟩:Cg)) (w:=false) rfl hx).symm))
     . cases hz:(i1==0)
       . have hxn:=congrArg Bool.not hx;simp only [Bool.not_true,Bool.not_false] at hxn
         have hzn:=congrArg Bool.not hz;simp only [Bool.not_true,Bool.not_false] at hzn
         repeat' (first|exact trivial|(with_reducible first|exact hp0|exact hp1|exact hp2|exact hp0.1|exact hp0.2|exact hp1.1|exact hp1.2|exact hp2.1|exact hp2.2|exact wd_ok _|exact (wd_ok _).1.1|exact (wd_ok _).1.2|exact (wd_ok _).2.1|exact (wd_ok _).2.2|exact (fun h:false=true=>absurd h (by decide))|exact (fun h:true=false=>absurd h (by decide))|exact hp0|exact hp1|exact hp2|exact hp3|exact hp4|exact hPP|exact hPP.1|exact hPP.2|exact hP.1|exact hP.2|exact q2.1|exact q2.2|exact q2.1.1|exact q2.1.2|exact q2.2.1|exact q2.2.2|exact q3.1|exact q3.2|exact q3.1.1|exact q3.1.2|exact q3.2.1|exact q3.2.2|exact nx hx|exact nx hz|exact nx hxn|exact nx hzn)|refine ⟨?_, ?_⟩|intro _)
         all_goals first|(with_reducible apply qq)|(conv=>whnf)
         all_goals first|(with_reducible rfl)|decide|((with_reducible show Value.bool (Cg.some _)=_);exact congrArg (fun i:Cg=>Value.bool i.some) ((lin_3 (a:=(⟨b2,m2,r2⟩:Cg)) (b:=(⟨b3,m3,r3⟩:Cg)) (w:=false) rfl q2.2 q3.2 hx hz).symm))|((with_reducible show Value.int _ (Cg.m _)=_);exact congrArg (fun i:Cg=>Value.int .i64 i.m) ((lin_3 (a:=(⟨b2,m2,r2⟩:Cg)) (b:=(⟨b3,m3,r3⟩:Cg)) (w:=false) rfl q2.2 q3.2 hx hz).symm))|((with_reducible show Value.int _ (Cg.r _)=_);exact congrArg (fun i:Cg=>Value.int .i64 i.r) ((lin_3 (a:=(⟨b2,m2,r2⟩:Cg)) (b:=(⟨b3,m3,r3⟩:Cg)) (w:=false) rfl q2.2 q3.2 hx hz).symm))|((with_reducible show _<=HMod.hMod _ _);exact Int.le_trans (by decide) (Int.emod_nonneg _ (ne_of_beq_false hz)))|((with_reducible show HMod.hMod _ _<_);exact Int.lt_trans (Int.emod_lt_of_pos _ (lt_of_nz hk0 hz)) hk1)|exact lt_of_nz hk0 hz
       . have hxn:=congrArg Bool.not hx;simp only [Bool.not_true,Bool.not_false] at hxn
         have hzn:=congrArg Bool.not hz;simp only [Bool.not_true,Bool.not_false] at hzn
         repeat' (first|exact trivial|(with_reducible first|exact hp0|exact hp1|exact hp2|exact hp0.1|exact hp0.2|exact hp1.1|exact hp1.2|exact hp2.1|exact hp2.2|exact wd_ok _|exact (wd_ok _).1.1|exact (wd_ok _).1.2|exact (wd_ok _).2.1|exact (wd_ok _).2.2|exact (fun h:false=true=>absurd h (by decide))|exact (fun h:true=false=>absurd h (by decide))|exact hp0|exact hp1|exact hp2|exact hp3|exact hp4|exact hPP|exact hPP.1|exact hPP.2|exact hP.1|exact hP.2|exact q2.1|exact q2.2|exact q2.1.1|exact q2.1.2|exact q2.2.1|exact q2.2.2|exact q3.1|exact q3.2|exact q3.1.1|exact q3.1.2|exact q3.2.1|exact q3.2.2|exact nx hx|exact nx hz|exact nx hxn|exact nx hzn)|refine ⟨?_, ?_⟩|intro _)
         all_goals first|(with_reducible apply qq)|(conv=>whnf)
         all_goals first|(with_reducible rfl)|decide|((with_reducible show Value.bool (Cg.some _)=_);exact congrArg (fun i:Cg=>Value.bool i.some) ((lin_2 (a:=(⟨b2,m2,r2⟩:Cg)) (b:=(⟨b3,m3,r3⟩:Cg)) (w:=false) rfl hz).symm))|((with_reducible show Value.int _ (Cg.m _)=_);exact congrArg (fun i:Cg=>Value.int .i64 i.m) ((lin_2 (a:=(⟨b2,m2,r2⟩:Cg)) (b:=(⟨b3,m3,r3⟩:Cg)) (w:=false) rfl hz).symm))|((with_reducible show Value.int _ (Cg.r _)=_);exact congrArg (fun i:Cg=>Value.int .i64 i.r) ((lin_2 (a:=(⟨b2,m2,r2⟩:Cg)) (b:=(⟨b3,m3,r3⟩:Cg)) (w:=false) rfl hz).symm))
   . have hk0:=hP.1
     have hk1:=hP.2
     cases hx:exB i0
     . have hxn:=congrArg Bool.not hx;simp only [Bool.not_true,Bool.not_false] at hxn
       repeat' (first|exact trivial|(with_reducible first|exact hp0|exact hp1|exact hp2|exact hp0.1|exact hp0.2|exact hp1.1|exact hp1.2|exact hp2.1|exact hp2.2|exact wd_ok _|exact (wd_ok _).1.1|exact (wd_ok _).1.2|exact (wd_ok _).2.1|exact (wd_ok _).2.2|exact (fun h:false=true=>absurd h (by decide))|exact (fun h:true=false=>absurd h (by decide))|exact hp0|exact hp1|exact hp2|exact hp3|exact hp4|exact hPP|exact hPP.1|exact hPP.2|exact hP.1|exact hP.2|exact q2.1|exact q2.2|exact q2.1.1|exact q2.1.2|exact q2.2.1|exact q2.2.2|exact q3.1|exact q3.2|exact q3.1.1|exact q3.1.2|exact q3.2.1|exact q3.2.2|exact nx hx|exact nx hxn)|refine ⟨?_, ?_⟩|intro _)
       all_goals first|(with_reducible apply qq)|(conv=>whnf)
       all_goals first|(with_reducible rfl)|decide|((with_reducible show Value.bool (Cg.some _)=_);exact congrArg (fun i:Cg=>Value.bool i.some) ((lin_1 (a:=(⟨b2,m2,r2⟩:Cg)) (b:=(⟨b3,m3,r3⟩:Cg)) (w:=true) rfl hx).symm))|((with_reducible show Value.int _ (Cg.m _)=_);exact congrArg (fun i:Cg=>Value.int .i64 i.m) ((lin_1 (a:=(⟨b2,m2,r2⟩:Cg)) (b:=(⟨b3,m3,r3⟩:Cg)) (w:=true) rfl hx).symm))|((with_reducible show Value.int _ (Cg.r _)=_);exact congrArg (fun i:Cg=>Value.int .i64 i.r) ((lin_1 (a:=(⟨b2,m2,r2⟩:Cg)) (b:=(⟨b3,m3,r3⟩:Cg)) (w:=true) rfl hx).symm))
     . cases hz:(partI i1==0)
       . have hxn:=congrArg Bool.not hx;simp only [Bool.not_true,Bool.not_false] at hxn
         have hzn:=congrArg Bool.not hz;simp only [Bool.not_true,Bool.not_false] at hzn
         repeat' (first|exact trivial|(with_reducible first|exact hp0|exact hp1|exact hp2|exact hp0.1|exact hp0.2|exact hp1.1|exact hp1.2|exact hp2.1|exact hp2.2|exact wd_ok _|exact (wd_ok _).1.1|exact (wd_ok _).1.2|exact (wd_ok _).2.1|exact (wd_ok _).2.2|exact (fun h:false=true=>absurd h (by decide))|exact (fun h:true=false=>absurd h (by decide))|exact hp0|exact hp1|exact hp2|exact hp3|exact hp4|exact hPP|exact hPP.1|exact hPP.2|exact hP.1|exact hP.2|exact q2.1|exact q2.2|exact q2.1.1|exact q2.1.2|exact q2.2.1|exact q2.2.2|exact q3.1|exact q3.2|exact q3.1.1|exact q3.1.2|exact q3.2.1|exact q3.2.2|exact nx hx|exact nx hz|exact nx hxn|exact nx hzn)|refine ⟨?_, ?_⟩|intro _)
         all_goals first|(with_reducible apply qq)|(conv=>whnf)
         all_goals first|(with_reducible rfl)|decide|((with_reducible show Value.bool (Cg.some _)=_);exact congrArg (fun i:Cg=>Value.bool i.some) ((lin_3 (a:=(⟨b2,m2,r2⟩:Cg)) (b:=(⟨b3,m3,r3⟩:Cg)) (w:=true) rfl q2.2 q3.2 hx hz).symm))|((with_reducible show Value.int _ (Cg.m _)=_);exact congrArg (fun i:Cg=>Value.int .i64 i.m) ((lin_3 (a:=(⟨b2,m2,r2⟩:Cg)) (b:=(⟨b3,m3,r3⟩:Cg)) (w:=true) rfl q2.2 q3.2 hx hz).symm))|((with_reducible show Value.int _ (Cg.r _)=_);exact congrArg (fun i:Cg=>Value.int .i64 i.r) ((lin_3 (a:=(⟨b2,m2,r2⟩:Cg)) (b:=(⟨b3,m3,r3⟩:Cg)) (w:=true) rfl q2.2 q3.2 hx hz).symm))|((with_reducible show _<=HMod.hMod _ _);exact Int.le_trans (by decide) (Int.emod_nonneg _ (ne_of_beq_false hz)))|((with_reducible show HMod.hMod _ _<_);exact Int.lt_trans (Int.emod_lt_of_pos _ (lt_of_nz hk0 hz)) hk1)|exact lt_of_nz hk0 hz
       . have hxn:=congrArg Bool.not hx;simp only [Bool.not_true,Bool.not_false] at hxn
         have hzn:=congrArg Bool.not hz;simp only [Bool.not_true,Bool.not_false] at hzn
         repeat' (first|exact trivial|(with_reducible first|exact hp0|exact hp1|exact hp2|exact hp0.1|exact hp0.2|exact hp1.1|exact hp1.2|exact hp2.1|exact hp2.2|exact wd_ok _|exact (wd_ok _).1.1|exact (wd_ok _).1.2|exact (wd_ok _).2.1|exact (wd_ok _).2.2|exact (fun h:false=true=>absurd h (by decide))|exact (fun h:true=false=>absurd h (by decide))|exact hp0|exact hp1|exact hp2|exact hp3|exact hp4|exact hPP|exact hPP.1|exact hPP.2|exact hP.1|exact hP.2|exact q2.1|exact q2.2|exact q2.1.1|exact q2.1.2|exact q2.2.1|exact q2.2.2|exact q3.1|exact q3.2|exact q3.1.1|exact q3.1.2|exact q3.2.1|exact q3.2.2|exact nx hx|exact nx hz|exact nx hxn|exact nx hzn)|refine ⟨?_, ?_⟩|intro _)
         all_goals first|(with_reducible apply qq)|(conv=>whnf)
         all_goals first|(with_reducible rfl)|decide|((with_reducible show Value.bool (Cg.some _)=_);exact congrArg (fun i:Cg=>Value.bool i.some) ((lin_2 (a:=(⟨b2,m2,r2⟩:Cg)) (b:=(⟨b3,m3,r3⟩:Cg)) (w:=true) rfl hz).symm))|((with_reducible show Value.int _ (Cg.m _)=_);exact congrArg (fun i:Cg=>Value.int .i64 i.m) ((lin_2 (a:=(⟨b2,m2,r2⟩:Cg)) (b:=(⟨b3,m3,r3⟩:Cg)) (w:=true) rfl hz).symm))|((with_reducible show Value.int _ (Cg.r _)=_);exact congrArg (fun i:Cg=>Value.int .i64 i.r) ((lin_2 (a:=(⟨b2,m2,r2⟩:Cg)) (b:=(⟨b3,m3,r3⟩:Cg)) (w:=true) rfl hz).symm))
 . cases h
def FRsScaled:List Ar->Option Rs
 | [.c (.d (.v (.int .i64 i0))),.c (.d (.v (.int .i64 i1)))]=>some ⟨(-9223372036854775808<=i0/\ i0<9223372036854775808)/\ (-9223372036854775808<=i1/\ i1<9223372036854775808)/\ (0<=i0),.va (.c (.d (it (sclI i0 i1)))),[]⟩
 |_=>none
theorem fcRsScaled:FC Tryz.prog 198 FRsScaled:=by
 intro xs pre r us h hp;unfold FRsScaled at h;split at h
 . rename_i i0 i1
   cases h;obtain ⟨hp0,hp1,hp2⟩:=hp
   refine fcat tys_ok (l:= [(199,⟨[],FRsSize⟩),(100,⟨[],FWMul⟩),(99,⟨[],FWInt⟩)]) ⟨fcRsSize,fcWMul,fcWInt,trivial⟩ Tryz.func198 rfl (by kernel_rfl) false ?_
   have hw: ∀_:decide (sizeI i1>9223372036854775807)=false, -9223372036854775808<=IntKind.wrap .i64 (sizeI i1)/\ IntKind.wrap .i64 (sizeI i1)<9223372036854775808:=fun h=>by have:=sc_r hp1;rw [sc_w hp1 h];have:=of_decide_eq_false h;omega
   cases hs:decide (sizeI i1>9223372036854775807)
   . cases hv:wIntB (wd (i0*IntKind.wrap .i64 (sizeI i1))).val
     . have hsn:=congrArg Bool.not hs;simp only [Bool.not_true,Bool.not_false] at hsn
       have hvn:=congrArg Bool.not hv;simp only [Bool.not_true,Bool.not_false] at hvn
       repeat' (first|exact trivial|(with_reducible first|exact hp0|exact hp1|exact hp2|exact hp0.1|exact hp0.2|exact hp1.1|exact hp1.2|exact hp2.1|exact hp2.2|exact wd_ok _|exact (wd_ok _).1.1|exact (wd_ok _).1.2|exact (wd_ok _).2.1|exact (wd_ok _).2.2|exact (fun h:false=true=>absurd h (by decide))|exact (fun h:true=false=>absurd h (by decide))|exact nx hs|exact nx hv|exact nx hsn|exact nx hvn)|refine ⟨?_, ?_⟩|intro _)
       all_goals first|(with_reducible apply qq)|(conv=>whnf)
       all_goals first|(with_reducible rfl)|decide|exact (hw hs).1|exact (hw hs).2|exact congrArg (Value.int .i64) (sc_2 hp0 hp1 hp2 hs hv).symm
     . have hsn:=congrArg Bool.not hs;simp only [Bool.not_true,Bool.not_false] at hsn
       have hvn:=congrArg Bool.not hv;simp only [Bool.not_true,Bool.not_false] at hvn
       repeat' (first|exact trivial|(with_reducible first|exact hp0|exact hp1|exact hp2|exact hp0.1|exact hp0.2|exact hp1.1|exact hp1.2|exact hp2.1|exact hp2.2|exact wd_ok _|exact (wd_ok _).1.1|exact (wd_ok _).1.2|exact (wd_ok _).2.1|exact (wd_ok _).2.2|exact (fun h:false=true=>absurd h (by decide))|exact (fun h:true=false=>absurd h (by decide))|exact nx hs|exact nx hv|exact nx hsn|exact nx hvn)|refine ⟨?_, ?_⟩|intro _)
       all_goals first|(with_reducible apply qq)|(conv=>whnf)
       all_goals first|(with_reducible rfl)|decide|exact (hw hs).1|exact (hw hs).2|exact congrArg (Value.int .i64) (sc_3 hp0 hp1 hp2 hs hv).symm
   . have hsn:=congrArg Bool.not hs;simp only [Bool.not_true,Bool.not_false] at hsn
     repeat' (first|exact trivial|(with_reducible first|exact hp0|exact hp1|exact hp2|exact hp0.1|exact hp0.2|exact hp1.1|exact hp1.2|exact hp2.1|exact hp2.2|exact wd_ok _|exact (wd_ok _).1.1|exact (wd_ok _).1.2|exact (wd_ok _).2.1|exact (wd_ok _).2.2|exact (fun h:false=true=>absurd h (by decide))|exact (fun h:true=false=>absurd h (by decide))|exact nx hs|exact nx hsn)|refine ⟨?_, ?_⟩|intro _)
     all_goals first|(with_reducible apply qq)|(conv=>whnf)
     all_goals first|(with_reducible rfl)|decide|exact congrArg (Value.int .i64) (sc_1 hs).symm
 . cases h
def FRsProduct:List Ar->Option Rs
 | [.agg [.d (.v (.bool b0)),.d (.v (.int .i64 m0)),.d (.v (.int .i64 r0))],.agg [.d (.v (.bool b1)),.d (.v (.int .i64 m1)),.d (.v (.int .i64 r1))],.c (.d (.v (.bool b2)))]=>some ⟨(Cg.inR ⟨b0,m0,r0⟩)/\ (Cg.inR ⟨b1,m1,r1⟩)/\ (0<=m0/\ 0<=m1),.va (Cg.ar (prodC (⟨b0,m0,r0⟩:Cg) (⟨b1,m1,r1⟩:Cg) b2)),[]⟩
 |_=>none
theorem fcRsProduct:FC Tryz.prog 164 FRsProduct:=by
 intro xs pre r us h hp;unfold FRsProduct at h;split at h
 . rename_i b0 m0 r0 b1 m1 r1 b2
   cases h;obtain ⟨hp0,hp1,hp2⟩:=hp
   refine fcat tys_ok (l:= [(153,⟨[],FRsAlone⟩),(46,⟨[],FCOne⟩),(198,⟨[],FRsScaled⟩),(162,⟨[],FRsLinear⟩),(163,⟨[],FRsGcd⟩)]) ⟨fcRsAlone,fcCOne,fcRsScaled,fcRsLinear,fcRsGcd,trivial⟩ Tryz.func164 rfl (by kernel_rfl) false ?_
   have q0:=hp0;unfold Cg.inR at q0;dsimp only at q0
   have q1:=hp1;unfold Cg.inR at q1;dsimp only at q1
   have hg:=gcd_r q0.1 q1.1 hp2
   have hg2:=gcd_r q1.1 q0.1 hp2.symm
   have hs1:=scl_r (c:=r1) q0.1 hp2.1
   have hs2:=scl_r (c:=r0) q1.1 hp2.2
   cases hA:(m0 !=0)
   . cases hl:alC (⟨b0,m0,r0⟩:Cg) 0
     . cases hm:(m0==0)
       . have hAn:=congrArg Bool.not hA;simp only [Bool.not_true,Bool.not_false] at hAn
         have hln:=congrArg Bool.not hl;simp only [Bool.not_true,Bool.not_false] at hln
         have hmn:=congrArg Bool.not hm;simp only [Bool.not_true,Bool.not_false] at hmn
         repeat' (first|exact trivial|(with_reducible first|exact hp0|exact hp1|exact hp2|exact hp0.1|exact hp0.2|exact hp1.1|exact hp1.2|exact hp2.1|exact hp2.2|exact wd_ok _|exact (wd_ok _).1.1|exact (wd_ok _).1.2|exact (wd_ok _).2.1|exact (wd_ok _).2.2|exact (fun h:false=true=>absurd h (by decide))|exact (fun h:true=false=>absurd h (by decide))|exact hp0|exact hp1|exact hp2.1|exact hp2.2|exact hp2|exact hp2.symm|exact hg.1|exact hg.2|exact hg.1.1|exact hg.1.2|exact hg2.1|exact hg2.2|exact hg2.1.1|exact hg2.1.2|exact hs1.1|exact hs1.2|exact hs1.1.1|exact hs1.1.2|exact hs2.1|exact hs2.2|exact hs2.1.1|exact hs2.1.2|exact q0.1|exact q0.2|exact q0.1.1|exact q0.1.2|exact q0.2.1|exact q0.2.2|exact q1.1|exact q1.2|exact q1.1.1|exact q1.1.2|exact q1.2.1|exact q1.2.2|exact nx hA|exact nx hl|exact nx hm|exact nx hAn|exact nx hln|exact nx hmn)|refine ⟨?_, ?_⟩|intro _)
         all_goals first|(with_reducible apply qq)|(conv=>whnf)
         all_goals first|(with_reducible rfl)|decide|((with_reducible show Value.bool (Cg.some _)=_);exact congrArg (fun i:Cg=>Value.bool i.some) (((pr_n1 (a:=(⟨b0,m0,r0⟩:Cg)) (b:=(⟨b1,m1,r1⟩:Cg)) (w:=b2) hA).trans (p0_3 (a:=(⟨b0,m0,r0⟩:Cg)) (b:=(⟨b1,m1,r1⟩:Cg)) (w:=b2) hl hm)).symm))|((with_reducible show Value.int _ (Cg.m _)=_);exact congrArg (fun i:Cg=>Value.int .i64 i.m) (((pr_n1 (a:=(⟨b0,m0,r0⟩:Cg)) (b:=(⟨b1,m1,r1⟩:Cg)) (w:=b2) hA).trans (p0_3 (a:=(⟨b0,m0,r0⟩:Cg)) (b:=(⟨b1,m1,r1⟩:Cg)) (w:=b2) hl hm)).symm))|((with_reducible show Value.int _ (Cg.r _)=_);exact congrArg (fun i:Cg=>Value.int .i64 i.r) (((pr_n1 (a:=(⟨b0,m0,r0⟩:Cg)) (b:=(⟨b1,m1,r1⟩:Cg)) (w:=b2) hA).trans (p0_3 (a:=(⟨b0,m0,r0⟩:Cg)) (b:=(⟨b1,m1,r1⟩:Cg)) (w:=b2) hl hm)).symm))
       . have hAn:=congrArg Bool.not hA;simp only [Bool.not_true,Bool.not_false] at hAn
         have hln:=congrArg Bool.not hl;simp only [Bool.not_true,Bool.not_false] at hln
         have hmn:=congrArg Bool.not hm;simp only [Bool.not_true,Bool.not_false] at hmn
         repeat' (first|exact trivial|(with_reducible first|exact hp0|exact hp1|exact hp2|exact hp0.1|exact hp0.2|exact hp1.1|exact hp1.2|exact hp2.1|exact hp2.2|exact wd_ok _|exact (wd_ok _).1.1|exact (wd_ok _).1.2|exact (wd_ok _).2.1|exact (wd_ok _).2.2|exact (fun h:false=true=>absurd h (by decide))|exact (fun h:true=false=>absurd h (by decide))|exact hp0|exact hp1|exact hp2.1|exact hp2.2|exact hp2|exact hp2.symm|exact hg.1|exact hg.2|exact hg.1.1|exact hg.1.2|exact hg2.1|exact hg2.2|exact hg2.1.1|exact hg2.1.2|exact hs1.1|exact hs1.2|exact hs1.1.1|exact hs1.1.2|exact hs2.1|exact hs2.2|exact hs2.1.1|exact hs2.1.2|exact q0.1|exact q0.2|exact q0.1.1|exact q0.1.2|exact q0.2.1|exact q0.2.2|exact q1.1|exact q1.2|exact q1.1.1|exact q1.1.2|exact q1.2.1|exact q1.2.2|exact nx hA|exact nx hl|exact nx hm|exact nx hAn|exact nx hln|exact nx hmn)|refine ⟨?_, ?_⟩|intro _)
         all_goals first|(with_reducible apply qq)|(conv=>whnf)
         all_goals first|(with_reducible rfl)|decide|((with_reducible show Value.bool (Cg.some _)=_);exact congrArg (fun i:Cg=>Value.bool i.some) (((pr_n1 (a:=(⟨b0,m0,r0⟩:Cg)) (b:=(⟨b1,m1,r1⟩:Cg)) (w:=b2) hA).trans (p0_2 (a:=(⟨b0,m0,r0⟩:Cg)) (b:=(⟨b1,m1,r1⟩:Cg)) (w:=b2) hl hm)).symm))|((with_reducible show Value.int _ (Cg.m _)=_);exact congrArg (fun i:Cg=>Value.int .i64 i.m) (((pr_n1 (a:=(⟨b0,m0,r0⟩:Cg)) (b:=(⟨b1,m1,r1⟩:Cg)) (w:=b2) hA).trans (p0_2 (a:=(⟨b0,m0,r0⟩:Cg)) (b:=(⟨b1,m1,r1⟩:Cg)) (w:=b2) hl hm)).symm))|((with_reducible show Value.int _ (Cg.r _)=_);exact congrArg (fun i:Cg=>Value.int .i64 i.r) (((pr_n1 (a:=(⟨b0,m0,r0⟩:Cg)) (b:=(⟨b1,m1,r1⟩:Cg)) (w:=b2) hA).trans (p0_2 (a:=(⟨b0,m0,r0⟩:Cg)) (b:=(⟨b1,m1,r1⟩:Cg)) (w:=b2) hl hm)).symm))
     . have hAn:=congrArg Bool.not hA;simp only [Bool.not_true,Bool.not_false] at hAn
       have hln:=congrArg Bool.not hl;simp only [Bool.not_true,Bool.not_false] at hln
       repeat' (first|exact trivial|(with_reducible first|exact hp0|exact hp1|exact hp2|exact hp0.1|exact hp0.2|exact hp1.1|exact hp1.2|exact hp2.1|exact hp2.2|exact wd_ok _|exact (wd_ok _).1.1|exact (wd_ok _).1.2|exact (wd_ok _).2.1|exact (wd_ok _).2.2|exact (fun h:false=true=>absurd h (by decide))|exact (fun h:true=false=>absurd h (by decide))|exact hp0|exact hp1|exact hp2.1|exact hp2.2|exact hp2|exact hp2.symm|exact hg.1|exact hg.2|exact hg.1.1|exact hg.1.2|exact hg2.1|exact hg2.2|exact hg2.1.1|exact hg2.1.2|exact hs1.1|exact hs1.2|exact hs1.1.1|exact hs1.1.2|exact hs2.1|exact hs2.2|exact hs2.1.1|exact hs2.1.2|exact q0.1|exact q0.2|exact q0.1.1|exact q0.1.2|exact q0.2.1|exact q0.2.2|exact q1.1|exact q1.2|exact q1.1.1|exact q1.1.2|exact q1.2.1|exact q1.2.2|exact nx hA|exact nx hl|exact nx hAn|exact nx hln)|refine ⟨?_, ?_⟩|intro _)
       all_goals first|(with_reducible apply qq)|(conv=>whnf)
       all_goals first|(with_reducible rfl)|decide|((with_reducible show Value.bool (Cg.some _)=_);exact congrArg (fun i:Cg=>Value.bool i.some) (((pr_n1 (a:=(⟨b0,m0,r0⟩:Cg)) (b:=(⟨b1,m1,r1⟩:Cg)) (w:=b2) hA).trans (p0_1 (a:=(⟨b0,m0,r0⟩:Cg)) (b:=(⟨b1,m1,r1⟩:Cg)) (w:=b2) hl)).symm))|((with_reducible show Value.int _ (Cg.m _)=_);exact congrArg (fun i:Cg=>Value.int .i64 i.m) (((pr_n1 (a:=(⟨b0,m0,r0⟩:Cg)) (b:=(⟨b1,m1,r1⟩:Cg)) (w:=b2) hA).trans (p0_1 (a:=(⟨b0,m0,r0⟩:Cg)) (b:=(⟨b1,m1,r1⟩:Cg)) (w:=b2) hl)).symm))|((with_reducible show Value.int _ (Cg.r _)=_);exact congrArg (fun i:Cg=>Value.int .i64 i.r) (((pr_n1 (a:=(⟨b0,m0,r0⟩:Cg)) (b:=(⟨b1,m1,r1⟩:Cg)) (w:=b2) hA).trans (p0_1 (a:=(⟨b0,m0,r0⟩:Cg)) (b:=(⟨b1,m1,r1⟩:Cg)) (w:=b2) hl)).symm))
   . cases hB:(m1==0)
     . cases hl:alC (⟨b0,m0,r0⟩:Cg) 0
       . cases hm:(m0==0)
         . have hAn:=congrArg Bool.not hA;simp only [Bool.not_true,Bool.not_false] at hAn
           have hBn:=congrArg Bool.not hB;simp only [Bool.not_true,Bool.not_false] at hBn
           have hln:=congrArg Bool.not hl;simp only [Bool.not_true,Bool.not_false] at hln
           have hmn:=congrArg Bool.not hm;simp only [Bool.not_true,Bool.not_false] at hmn
           repeat' (first|exact trivial|(with_reducible first|exact hp0|exact hp1|exact hp2|exact hp0.1|exact hp0.2|exact hp1.1|exact hp1.2|exact hp2.1|exact hp2.2|exact wd_ok _|exact (wd_ok _).1.1|exact (wd_ok _).1.2|exact (wd_ok _).2.1|exact (wd_ok _).2.2|exact (fun h:false=true=>absurd h (by decide))|exact (fun h:true=false=>absurd h (by decide))|exact hp0|exact hp1|exact hp2.1|exact hp2.2|exact hp2|exact hp2.symm|exact hg.1|exact hg.2|exact hg.1.1|exact hg.1.2|exact hg2.1|exact hg2.2|exact hg2.1.1|exact hg2.1.2|exact hs1.1|exact hs1.2|exact hs1.1.1|exact hs1.1.2|exact hs2.1|exact hs2.2|exact hs2.1.1|exact hs2.1.2|exact q0.1|exact q0.2|exact q0.1.1|exact q0.1.2|exact q0.2.1|exact q0.2.2|exact q1.1|exact q1.2|exact q1.1.1|exact q1.1.2|exact q1.2.1|exact q1.2.2|exact nx hA|exact nx hB|exact nx hl|exact nx hm|exact nx hAn|exact nx hBn|exact nx hln|exact nx hmn)|refine ⟨?_, ?_⟩|intro _)
           all_goals first|(with_reducible apply qq)|(conv=>whnf)
           all_goals first|(with_reducible rfl)|decide|((with_reducible show Value.bool (Cg.some _)=_);exact congrArg (fun i:Cg=>Value.bool i.some) (((pr_n2 (a:=(⟨b0,m0,r0⟩:Cg)) (b:=(⟨b1,m1,r1⟩:Cg)) (w:=b2) hB).trans (p0_3 (a:=(⟨b0,m0,r0⟩:Cg)) (b:=(⟨b1,m1,r1⟩:Cg)) (w:=b2) hl hm)).symm))|((with_reducible show Value.int _ (Cg.m _)=_);exact congrArg (fun i:Cg=>Value.int .i64 i.m) (((pr_n2 (a:=(⟨b0,m0,r0⟩:Cg)) (b:=(⟨b1,m1,r1⟩:Cg)) (w:=b2) hB).trans (p0_3 (a:=(⟨b0,m0,r0⟩:Cg)) (b:=(⟨b1,m1,r1⟩:Cg)) (w:=b2) hl hm)).symm))|((with_reducible show Value.int _ (Cg.r _)=_);exact congrArg (fun i:Cg=>Value.int .i64 i.r) (((pr_n2 (a:=(⟨b0,m0,r0⟩:Cg)) (b:=(⟨b1,m1,r1⟩:Cg)) (w:=b2) hB).trans (p0_3 (a:=(⟨b0,m0,r0⟩:Cg)) (b:=(⟨b1,m1,r1⟩:Cg)) (w:=b2) hl hm)).symm))
         . have hAn:=congrArg Bool.not hA;simp only [Bool.not_true,Bool.not_false] at hAn
           have hBn:=congrArg Bool.not hB;simp only [Bool.not_true,Bool.not_false] at hBn
           have hln:=congrArg Bool.not hl;simp only [Bool.not_true,Bool.not_false] at hln
           have hmn:=congrArg Bool.not hm;simp only [Bool.not_true,Bool.not_false] at hmn
           repeat' (first|exact trivial|(with_reducible first|exact hp0|exact hp1|exact hp2|exact hp0.1|exact hp0.2|exact hp1.1|exact hp1.2|exact hp2.1|exact hp2.2|exact wd_ok _|exact (wd_ok _).1.1|exact (wd_ok _).1.2|exact (wd_ok _).2.1|exact (wd_ok _).2.2|exact (fun h:false=true=>absurd h (by decide))|exact (fun h:true=false=>absurd h (by decide))|exact hp0|exact hp1|exact hp2.1|exact hp2.2|exact hp2|exact hp2.symm|exact hg.1|exact hg.2|exact hg.1.1|exact hg.1.2|exact hg2.1|exact hg2.2|exact hg2.1.1|exact hg2.1.2|exact hs1.1|exact hs1.2|exact hs1.1.1|exact hs1.1.2|exact hs2.1|exact hs2.2|exact hs2.1.1|exact hs2.1.2|exact q0.1|exact q0.2|exact q0.1.1|exact q0.1.2|exact q0.2.1|exact q0.2.2|exact q1.1|exact q1.2|exact q1.1.1|exact q1.1.2|exact q1.2.1|exact q1.2.2|exact nx hA|exact nx hB|exact nx hl|exact nx hm|exact nx hAn|exact nx hBn|exact nx hln|exact nx hmn)|refine ⟨?_, ?_⟩|intro _)
           all_goals first|(with_reducible apply qq)|(conv=>whnf)
           all_goals first|(with_reducible rfl)|decide|((with_reducible show Value.bool (Cg.some _)=_);exact congrArg (fun i:Cg=>Value.bool i.some) (((pr_n2 (a:=(⟨b0,m0,r0⟩:Cg)) (b:=(⟨b1,m1,r1⟩:Cg)) (w:=b2) hB).trans (p0_2 (a:=(⟨b0,m0,r0⟩:Cg)) (b:=(⟨b1,m1,r1⟩:Cg)) (w:=b2) hl hm)).symm))|((with_reducible show Value.int _ (Cg.m _)=_);exact congrArg (fun i:Cg=>Value.int .i64 i.m) (((pr_n2 (a:=(⟨b0,m0,r0⟩:Cg)) (b:=(⟨b1,m1,r1⟩:Cg)) (w:=b2) hB).trans (p0_2 (a:=(⟨b0,m0,r0⟩:Cg)) (b:=(⟨b1,m1,r1⟩:Cg)) (w:=b2) hl hm)).symm))|((with_reducible show Value.int _ (Cg.r _)=_);exact congrArg (fun i:Cg=>Value.int .i64 i.r) (((pr_n2 (a:=(⟨b0,m0,r0⟩:Cg)) (b:=(⟨b1,m1,r1⟩:Cg)) (w:=b2) hB).trans (p0_2 (a:=(⟨b0,m0,r0⟩:Cg)) (b:=(⟨b1,m1,r1⟩:Cg)) (w:=b2) hl hm)).symm))
       . have hAn:=congrArg Bool.not hA;simp only [Bool.not_true,Bool.not_false] at hAn
         have hBn:=congrArg Bool.not hB;simp only [Bool.not_true,Bool.not_false] at hBn
         have hln:=congrArg Bool.not hl;simp only [Bool.not_true,Bool.not_false] at hln
         repeat' (first|exact trivial|(with_reducible first|exact hp0|exact hp1|exact hp2|exact hp0.1|exact hp0.2|exact hp1.1|exact hp1.2|exact hp2.1|exact hp2.2|exact wd_ok _|exact (wd_ok _).1.1|exact (wd_ok _).1.2|exact (wd_ok _).2.1|exact (wd_ok _).2.2|exact (fun h:false=true=>absurd h (by decide))|exact (fun h:true=false=>absurd h (by decide))|exact hp0|exact hp1|exact hp2.1|exact hp2.2|exact hp2|exact hp2.symm|exact hg.1|exact hg.2|exact hg.1.1|exact hg.1.2|exact hg2.1|exact hg2.2|exact hg2.1.1|exact hg2.1.2|exact hs1.1|exact hs1.2|exact hs1.1.1|exact hs1.1.2|exact hs2.1|exact hs2.2|exact hs2.1.1|exact hs2.1.2|exact q0.1|exact q0.2|exact q0.1.1|exact q0.1.2|exact q0.2.1|exact q0.2.2|exact q1.1|exact q1.2|exact q1.1.1|exact q1.1.2|exact q1.2.1|exact q1.2.2|exact nx hA|exact nx hB|exact nx hl|exact nx hAn|exact nx hBn|exact nx hln)|refine ⟨?_, ?_⟩|intro _)
         all_goals first|(with_reducible apply qq)|(conv=>whnf)
         all_goals first|(with_reducible rfl)|decide|((with_reducible show Value.bool (Cg.some _)=_);exact congrArg (fun i:Cg=>Value.bool i.some) (((pr_n2 (a:=(⟨b0,m0,r0⟩:Cg)) (b:=(⟨b1,m1,r1⟩:Cg)) (w:=b2) hB).trans (p0_1 (a:=(⟨b0,m0,r0⟩:Cg)) (b:=(⟨b1,m1,r1⟩:Cg)) (w:=b2) hl)).symm))|((with_reducible show Value.int _ (Cg.m _)=_);exact congrArg (fun i:Cg=>Value.int .i64 i.m) (((pr_n2 (a:=(⟨b0,m0,r0⟩:Cg)) (b:=(⟨b1,m1,r1⟩:Cg)) (w:=b2) hB).trans (p0_1 (a:=(⟨b0,m0,r0⟩:Cg)) (b:=(⟨b1,m1,r1⟩:Cg)) (w:=b2) hl)).symm))|((with_reducible show Value.int _ (Cg.r _)=_);exact congrArg (fun i:Cg=>Value.int .i64 i.r) (((pr_n2 (a:=(⟨b0,m0,r0⟩:Cg)) (b:=(⟨b1,m1,r1⟩:Cg)) (w:=b2) hB).trans (p0_1 (a:=(⟨b0,m0,r0⟩:Cg)) (b:=(⟨b1,m1,r1⟩:Cg)) (w:=b2) hl)).symm))
     . cases hl:alC (⟨b1,m1,r1⟩:Cg) 0
       . cases hm:(m1==0)
         . have hAn:=congrArg Bool.not hA;simp only [Bool.not_true,Bool.not_false] at hAn
           have hBn:=congrArg Bool.not hB;simp only [Bool.not_true,Bool.not_false] at hBn
           have hln:=congrArg Bool.not hl;simp only [Bool.not_true,Bool.not_false] at hln
           have hmn:=congrArg Bool.not hm;simp only [Bool.not_true,Bool.not_false] at hmn
           repeat' (first|exact trivial|(with_reducible first|exact hp0|exact hp1|exact hp2|exact hp0.1|exact hp0.2|exact hp1.1|exact hp1.2|exact hp2.1|exact hp2.2|exact wd_ok _|exact (wd_ok _).1.1|exact (wd_ok _).1.2|exact (wd_ok _).2.1|exact (wd_ok _).2.2|exact (fun h:false=true=>absurd h (by decide))|exact (fun h:true=false=>absurd h (by decide))|exact hp0|exact hp1|exact hp2.1|exact hp2.2|exact hp2|exact hp2.symm|exact hg.1|exact hg.2|exact hg.1.1|exact hg.1.2|exact hg2.1|exact hg2.2|exact hg2.1.1|exact hg2.1.2|exact hs1.1|exact hs1.2|exact hs1.1.1|exact hs1.1.2|exact hs2.1|exact hs2.2|exact hs2.1.1|exact hs2.1.2|exact q0.1|exact q0.2|exact q0.1.1|exact q0.1.2|exact q0.2.1|exact q0.2.2|exact q1.1|exact q1.2|exact q1.1.1|exact q1.1.2|exact q1.2.1|exact q1.2.2|exact nx hA|exact nx hB|exact nx hl|exact nx hm|exact nx hAn|exact nx hBn|exact nx hln|exact nx hmn)|refine ⟨?_, ?_⟩|intro _)
           all_goals first|(with_reducible apply qq)|(conv=>whnf)
           all_goals first|(with_reducible rfl)|decide|((with_reducible show Value.bool (Cg.some _)=_);exact congrArg (fun i:Cg=>Value.bool i.some) (((pr_s (a:=(⟨b0,m0,r0⟩:Cg)) (b:=(⟨b1,m1,r1⟩:Cg)) (w:=b2) hA hB).trans (p0_3 (a:=(⟨b1,m1,r1⟩:Cg)) (b:=(⟨b0,m0,r0⟩:Cg)) (w:=b2) hl hm)).symm))|((with_reducible show Value.int _ (Cg.m _)=_);exact congrArg (fun i:Cg=>Value.int .i64 i.m) (((pr_s (a:=(⟨b0,m0,r0⟩:Cg)) (b:=(⟨b1,m1,r1⟩:Cg)) (w:=b2) hA hB).trans (p0_3 (a:=(⟨b1,m1,r1⟩:Cg)) (b:=(⟨b0,m0,r0⟩:Cg)) (w:=b2) hl hm)).symm))|((with_reducible show Value.int _ (Cg.r _)=_);exact congrArg (fun i:Cg=>Value.int .i64 i.r) (((pr_s (a:=(⟨b0,m0,r0⟩:Cg)) (b:=(⟨b1,m1,r1⟩:Cg)) (w:=b2) hA hB).trans (p0_3 (a:=(⟨b1,m1,r1⟩:Cg)) (b:=(⟨b0,m0,r0⟩:Cg)) (w:=b2) hl hm)).symm))
         . have hAn:=congrArg Bool.not hA;simp only [Bool.not_true,Bool.not_false] at hAn
           have hBn:=congrArg Bool.not hB;simp only [Bool.not_true,Bool.not_false] at hBn
           have hln:=congrArg Bool.not hl;simp only [Bool.not_true,Bool.not_false] at hln
           have hmn:=congrArg Bool.not hm;simp only [Bool.not_true,Bool.not_false] at hmn
           repeat' (first|exact trivial|(with_reducible first|exact hp0|exact hp1|exact hp2|exact hp0.1|exact hp0.2|exact hp1.1|exact hp1.2|exact hp2.1|exact hp2.2|exact wd_ok _|exact (wd_ok _).1.1|exact (wd_ok _).1.2|exact (wd_ok _).2.1|exact (wd_ok _).2.2|exact (fun h:false=true=>absurd h (by decide))|exact (fun h:true=false=>absurd h (by decide))|exact hp0|exact hp1|exact hp2.1|exact hp2.2|exact hp2|exact hp2.symm|exact hg.1|exact hg.2|exact hg.1.1|exact hg.1.2|exact hg2.1|exact hg2.2|exact hg2.1.1|exact hg2.1.2|exact hs1.1|exact hs1.2|exact hs1.1.1|exact hs1.1.2|exact hs2.1|exact hs2.2|exact hs2.1.1|exact hs2.1.2|exact q0.1|exact q0.2|exact q0.1.1|exact q0.1.2|exact q0.2.1|exact q0.2.2|exact q1.1|exact q1.2|exact q1.1.1|exact q1.1.2|exact q1.2.1|exact q1.2.2|exact nx hA|exact nx hB|exact nx hl|exact nx hm|exact nx hAn|exact nx hBn|exact nx hln|exact nx hmn)|refine ⟨?_, ?_⟩|intro _)
           all_goals first|(with_reducible apply qq)|(conv=>whnf)
           all_goals first|(with_reducible rfl)|decide|((with_reducible show Value.bool (Cg.some _)=_);exact congrArg (fun i:Cg=>Value.bool i.some) (((pr_s (a:=(⟨b0,m0,r0⟩:Cg)) (b:=(⟨b1,m1,r1⟩:Cg)) (w:=b2) hA hB).trans (p0_2 (a:=(⟨b1,m1,r1⟩:Cg)) (b:=(⟨b0,m0,r0⟩:Cg)) (w:=b2) hl hm)).symm))|((with_reducible show Value.int _ (Cg.m _)=_);exact congrArg (fun i:Cg=>Value.int .i64 i.m) (((pr_s (a:=(⟨b0,m0,r0⟩:Cg)) (b:=(⟨b1,m1,r1⟩:Cg)) (w:=b2) hA hB).trans (p0_2 (a:=(⟨b1,m1,r1⟩:Cg)) (b:=(⟨b0,m0,r0⟩:Cg)) (w:=b2) hl hm)).symm))|((with_reducible show Value.int _ (Cg.r _)=_);exact congrArg (fun i:Cg=>Value.int .i64 i.r) (((pr_s (a:=(⟨b0,m0,r0⟩:Cg)) (b:=(⟨b1,m1,r1⟩:Cg)) (w:=b2) hA hB).trans (p0_2 (a:=(⟨b1,m1,r1⟩:Cg)) (b:=(⟨b0,m0,r0⟩:Cg)) (w:=b2) hl hm)).symm))
       . have hAn:=congrArg Bool.not hA;simp only [Bool.not_true,Bool.not_false] at hAn
         have hBn:=congrArg Bool.not hB;simp only [Bool.not_true,Bool.not_false] at hBn
         have hln:=congrArg Bool.not hl;simp only [Bool.not_true,Bool.not_false] at hln
         repeat' (first|exact trivial|(with_reducible first|exact hp0|exact hp1|exact hp2|exact hp0.1|exact hp0.2|exact hp1.1|exact hp1.2|exact hp2.1|exact hp2.2|exact wd_ok _|exact (wd_ok _).1.1|exact (wd_ok _).1.2|exact (wd_ok _).2.1|exact (wd_ok _).2.2|exact (fun h:false=true=>absurd h (by decide))|exact (fun h:true=false=>absurd h (by decide))|exact hp0|exact hp1|exact hp2.1|exact hp2.2|exact hp2|exact hp2.symm|exact hg.1|exact hg.2|exact hg.1.1|exact hg.1.2|exact hg2.1|exact hg2.2|exact hg2.1.1|exact hg2.1.2|exact hs1.1|exact hs1.2|exact hs1.1.1|exact hs1.1.2|exact hs2.1|exact hs2.2|exact hs2.1.1|exact hs2.1.2|exact q0.1|exact q0.2|exact q0.1.1|exact q0.1.2|exact q0.2.1|exact q0.2.2|exact q1.1|exact q1.2|exact q1.1.1|exact q1.1.2|exact q1.2.1|exact q1.2.2|exact nx hA|exact nx hB|exact nx hl|exact nx hAn|exact nx hBn|exact nx hln)|refine ⟨?_, ?_⟩|intro _)
         all_goals first|(with_reducible apply qq)|(conv=>whnf)
         all_goals first|(with_reducible rfl)|decide|((with_reducible show Value.bool (Cg.some _)=_);exact congrArg (fun i:Cg=>Value.bool i.some) (((pr_s (a:=(⟨b0,m0,r0⟩:Cg)) (b:=(⟨b1,m1,r1⟩:Cg)) (w:=b2) hA hB).trans (p0_1 (a:=(⟨b1,m1,r1⟩:Cg)) (b:=(⟨b0,m0,r0⟩:Cg)) (w:=b2) hl)).symm))|((with_reducible show Value.int _ (Cg.m _)=_);exact congrArg (fun i:Cg=>Value.int .i64 i.m) (((pr_s (a:=(⟨b0,m0,r0⟩:Cg)) (b:=(⟨b1,m1,r1⟩:Cg)) (w:=b2) hA hB).trans (p0_1 (a:=(⟨b1,m1,r1⟩:Cg)) (b:=(⟨b0,m0,r0⟩:Cg)) (w:=b2) hl)).symm))|((with_reducible show Value.int _ (Cg.r _)=_);exact congrArg (fun i:Cg=>Value.int .i64 i.r) (((pr_s (a:=(⟨b0,m0,r0⟩:Cg)) (b:=(⟨b1,m1,r1⟩:Cg)) (w:=b2) hA hB).trans (p0_1 (a:=(⟨b1,m1,r1⟩:Cg)) (b:=(⟨b0,m0,r0⟩:Cg)) (w:=b2) hl)).symm))
 . cases h
theorem w64_r (x:Int): -9223372036854775808<=IntKind.wrap .i64 x/\ IntKind.wrap .i64 x<9223372036854775808:=by rw [wI];omega
theorem wu_r (x:Int):0<=IntKind.wrap .u64 x/\ IntKind.wrap .u64 x<18446744073709551616:=by rw [wU];omega
theorem sz_r {c:Int} (h: -9223372036854775808<=c/\ c<9223372036854775808):0<=sizeI c/\ sizeI c<18446744073709551616:=by have:=sc_r h;omega
theorem size0 {c:Int} (h:c≠0):sizeI c≠0:=by have:=size_pos h;omega
section
variable {a b:Cg} {w:Bool}
theorem al_r (h:alC b 0=false) (hm:(b.m !=0)=false):b.r≠0:=by
 intro e;unfold alC at h;simp at h hm;exact h hm e
theorem qu_1 (h:alC b 0=true):quoC a b w=Cg.none:=by unfold quoC;rw [if_pos h]
theorem qu_2 (h:alC b 0=false) (hm:(b.m !=0)=true):quoC a b w=Cg.of 1 0:=by unfold quoC;rw [if_neg (by rw [h];decide),if_pos (.inl (by simpa using hm))];rfl
theorem qu_3 (h:alC b 0=false):quoC a b true=Cg.of 1 0:=by unfold quoC;rw [if_neg (by rw [h];decide),if_pos (.inr rfl)];rfl
theorem qu_i (h:alC b 0=false) (hm:(b.m !=0)=false):quoC a b false=if a.m%sizeI b.r≠0 \/sizeI a.r%sizeI b.r≠0 then Cg.all else Cg.of (a.m/sizeI b.r) (a.r.tdiv b.r):=by
 unfold quoC;rw [if_neg (by rw [h];decide),if_neg (by rintro (x|x);exact absurd (by simpa using hm:b.m=0) x;cases x)]
section
variable (ra:a.inR) (rb:b.inR) (h0:0≤a.m)
include ra h0 in
theorem qu_u:IntKind.wrap .u64 a.m=a.m:=by have:=ra.1;exact wU_id _ h0 (by omega)
include ra rb h0
theorem qu_4 (h:alC b 0=false) (hm:(b.m !=0)=false) (h1:((IntKind.wrap .u64 a.m).tmod (sizeI b.r) !=0)=true):quoC a b false=Cg.of 1 0:=by
 rw [qu_u ra h0,Int.tmod_eq_emod_of_nonneg h0] at h1;rw [qu_i h hm,if_pos (.inl (by simpa using h1))];rfl
theorem qu_5 (h:alC b 0=false) (hm:(b.m !=0)=false) (h2:((sizeI a.r).tmod (sizeI b.r) !=0)=true):quoC a b false=Cg.of 1 0:=by
 rw [Int.tmod_eq_emod_of_nonneg (sc_r ra.2).1] at h2;rw [qu_i h hm,if_pos (.inr (by simpa using h2))];rfl
theorem qu_6 (hn: ¬(a.r= -9223372036854775808/\ b.r= -1)) (h:alC b 0=false) (hm:(b.m !=0)=false) (h1:((IntKind.wrap .u64 a.m).tmod (sizeI b.r) !=0)=false) (h2:((sizeI a.r).tmod (sizeI b.r) !=0)=false):quoC a b false=Cg.of (IntKind.wrap .i64 (IntKind.wrap .u64 ((IntKind.wrap .u64 a.m).tdiv (sizeI b.r)))) (IntKind.wrap .i64 (a.r.tdiv b.r)):=by
 have hz:=al_r h hm
 have hp:=size_pos hz
 rw [qu_u ra h0] at h1⊢;rw [Int.tmod_eq_emod_of_nonneg h0] at h1;rw [Int.tmod_eq_emod_of_nonneg (sc_r ra.2).1] at h2;rw [qu_i h hm,if_neg (by rintro (x|x);exact absurd (by simpa using h1) x;exact absurd (by simpa using h2) x)];have q:=quo_rng ra.2 rb.2 hz hn
 rw [wI_id (a.r.tdiv b.r) q.1 q.2,Int.tdiv_eq_ediv_of_nonneg h0];have d1:=Int.ediv_nonneg h0 (Int.le_of_lt hp)
 have d2:=Int.ediv_le_self (sizeI b.r) h0
 have:=ra.1
 rw [wU_id _ d1 (by omega),wI_id _ (by omega) (by omega)]
end
theorem rt_1 (h:alC b 0=true):rstC a b=Cg.none:=by unfold rstC;rw [if_pos h]
theorem rt_2 (ra:a.inR) (rb:b.inR) (h0:0<=a.m/\ 0<=b.m) (hz:a.m≠0 \/b.m≠0) (h:alC b 0=false):rstC a b=Cg.of (IntKind.wrap .i64 (Int.gcd (IntKind.wrap .u64 (Int.gcd a.m b.m:Int)) (sizeI b.r):Int)) a.r:=by
 unfold rstC;rw [if_neg (by rw [h];decide)]
 have hg:=gcd_r ra.1 rb.1 h0
 rw [wU_id _ hg.2 (by omega)];have hp:0<Int.gcd a.m b.m:=by
  rw [Int.gcd_pos_iff];exact hz
 have hle:Int.gcd (Int.gcd a.m b.m:Int) (sizeI b.r)<=Int.gcd a.m b.m:=Nat.le_of_dvd hp (Int.ofNat_dvd.1 (Int.gcd_dvd_left ..))
 rw [wI_id _ (by omega) (by omega)]
theorem aptC_eq (a b:Cg):aptC a b= !(Cg.meet (Cg.of (Int.gcd a.m b.m:Int) a.r) (Cg.of 0 b.r)).some:=rfl
theorem cmeet_inR (ra:a.inR) (rb:b.inR):(Cg.meet a b).inR:=(meet_law (cg_clean_tidy a) (cg_clean_tidy b)).2.2.2 (Cg.clean_inR ra) (Cg.clean_inR rb)
end
def FRsQuo:List Ar->Option Rs
 | [.agg [.d (.v (.bool b0)),.d (.v (.int .i64 m0)),.d (.v (.int .i64 r0))],.agg [.d (.v (.bool b1)),.d (.v (.int .i64 m1)),.d (.v (.int .i64 r1))],.c (.d (.v (.bool b2)))]=>some ⟨(Cg.inR ⟨b0,m0,r0⟩)/\ (Cg.inR ⟨b1,m1,r1⟩)/\ (0<=m0/\ ¬(r0= -9223372036854775808/\ r1= -1)),.va (Cg.ar (quoC (⟨b0,m0,r0⟩:Cg) (⟨b1,m1,r1⟩:Cg) b2)),[]⟩
 |_=>none
theorem fcRsQuo:FC Tryz.prog 165 FRsQuo:=by
 intro xs pre r us h hp;unfold FRsQuo at h;split at h
 . rename_i b0 m0 r0 b1 m1 r1 b2
   cases h;obtain ⟨hp0,hp1,hp2⟩:=hp
   refine fcat tys_ok (l:= [(199,⟨[],FRsSize⟩),(153,⟨[],FRsAlone⟩),(33,⟨[],FCAll⟩),(61,⟨[],FCOf⟩)]) ⟨fcRsSize,fcRsAlone,fcCAll,fcCOf,trivial⟩ Tryz.func165 rfl (by kernel_rfl) false ?_
   have q0:=hp0;unfold Cg.inR at q0;dsimp only at q0
   have q1:=hp1;unfold Cg.inR at q1;dsimp only at q1
   cases hl:alC (⟨b1,m1,r1⟩:Cg) 0
   . cases hm:(m1 !=0)
     . cases hw:b2
       . cases h1:((IntKind.wrap .u64 m0).tmod (sizeI r1) !=0)
         . cases h2:((sizeI r0).tmod (sizeI r1) !=0)
           . have hln:=congrArg Bool.not hl;simp only [Bool.not_true,Bool.not_false] at hln
             have hmn:=congrArg Bool.not hm;simp only [Bool.not_true,Bool.not_false] at hmn
             have hwn:=congrArg Bool.not hw;simp only [Bool.not_true,Bool.not_false] at hwn
             have h1n:=congrArg Bool.not h1;simp only [Bool.not_true,Bool.not_false] at h1n
             have h2n:=congrArg Bool.not h2;simp only [Bool.not_true,Bool.not_false] at h2n
             repeat' (first|exact trivial|(with_reducible first|exact hp0|exact hp1|exact hp2|exact hp0.1|exact hp0.2|exact hp1.1|exact hp1.2|exact hp2.1|exact hp2.2|exact wd_ok _|exact (wd_ok _).1.1|exact (wd_ok _).1.2|exact (wd_ok _).2.1|exact (wd_ok _).2.2|exact (fun h:false=true=>absurd h (by decide))|exact (fun h:true=false=>absurd h (by decide))|exact hp0|exact hp1|exact (w64_r _).1|exact (w64_r _).2|exact (wu_r _).1|exact (wu_r _).2|exact w64_r _|exact wu_r _|exact q0.1|exact q0.2|exact q0.1.1|exact q0.1.2|exact q0.2.1|exact q0.2.2|exact q1.1|exact q1.2|exact q1.1.1|exact q1.1.2|exact q1.2.1|exact q1.2.2|exact nx hl|exact nx hm|exact nx hw|exact nx h1|exact nx h2|exact nx hln|exact nx hmn|exact nx hwn|exact nx h1n|exact nx h2n)|refine ⟨?_, ?_⟩|intro _)
             all_goals first|(with_reducible apply qq)|(conv=>whnf)
             all_goals first|(with_reducible rfl)|decide|((with_reducible show Value.bool (Cg.some _)=_);exact congrArg (fun i:Cg=>Value.bool i.some) ((qu_6 (a:=(⟨b0,m0,r0⟩:Cg)) (b:=(⟨b1,m1,r1⟩:Cg)) hp0 hp1 hp2.1 hp2.2 hl hm h1 h2).symm))|((with_reducible show Value.int _ (Cg.m _)=_);exact congrArg (fun i:Cg=>Value.int .i64 i.m) ((qu_6 (a:=(⟨b0,m0,r0⟩:Cg)) (b:=(⟨b1,m1,r1⟩:Cg)) hp0 hp1 hp2.1 hp2.2 hl hm h1 h2).symm))|((with_reducible show Value.int _ (Cg.r _)=_);exact congrArg (fun i:Cg=>Value.int .i64 i.r) ((qu_6 (a:=(⟨b0,m0,r0⟩:Cg)) (b:=(⟨b1,m1,r1⟩:Cg)) hp0 hp1 hp2.1 hp2.2 hl hm h1 h2).symm))|(exact False.elim (size0 (al_r (b:=(⟨b1,m1,r1⟩:Cg)) hl hm) (by with_reducible assumption)))|(exact False.elim (al_r (b:=(⟨b1,m1,r1⟩:Cg)) hl hm (by with_reducible assumption)))
           . have hln:=congrArg Bool.not hl;simp only [Bool.not_true,Bool.not_false] at hln
             have hmn:=congrArg Bool.not hm;simp only [Bool.not_true,Bool.not_false] at hmn
             have hwn:=congrArg Bool.not hw;simp only [Bool.not_true,Bool.not_false] at hwn
             have h1n:=congrArg Bool.not h1;simp only [Bool.not_true,Bool.not_false] at h1n
             have h2n:=congrArg Bool.not h2;simp only [Bool.not_true,Bool.not_false] at h2n
             repeat' (first|exact trivial|(with_reducible first|exact hp0|exact hp1|exact hp2|exact hp0.1|exact hp0.2|exact hp1.1|exact hp1.2|exact hp2.1|exact hp2.2|exact wd_ok _|exact (wd_ok _).1.1|exact (wd_ok _).1.2|exact (wd_ok _).2.1|exact (wd_ok _).2.2|exact (fun h:false=true=>absurd h (by decide))|exact (fun h:true=false=>absurd h (by decide))|exact hp0|exact hp1|exact (w64_r _).1|exact (w64_r _).2|exact (wu_r _).1|exact (wu_r _).2|exact w64_r _|exact wu_r _|exact q0.1|exact q0.2|exact q0.1.1|exact q0.1.2|exact q0.2.1|exact q0.2.2|exact q1.1|exact q1.2|exact q1.1.1|exact q1.1.2|exact q1.2.1|exact q1.2.2|exact nx hl|exact nx hm|exact nx hw|exact nx h1|exact nx h2|exact nx hln|exact nx hmn|exact nx hwn|exact nx h1n|exact nx h2n)|refine ⟨?_, ?_⟩|intro _)
             all_goals first|(with_reducible apply qq)|(conv=>whnf)
             all_goals first|(with_reducible rfl)|decide|((with_reducible show Value.bool (Cg.some _)=_);exact congrArg (fun i:Cg=>Value.bool i.some) ((qu_5 (a:=(⟨b0,m0,r0⟩:Cg)) (b:=(⟨b1,m1,r1⟩:Cg)) hp0 hp1 hp2.1 hl hm h2).symm))|((with_reducible show Value.int _ (Cg.m _)=_);exact congrArg (fun i:Cg=>Value.int .i64 i.m) ((qu_5 (a:=(⟨b0,m0,r0⟩:Cg)) (b:=(⟨b1,m1,r1⟩:Cg)) hp0 hp1 hp2.1 hl hm h2).symm))|((with_reducible show Value.int _ (Cg.r _)=_);exact congrArg (fun i:Cg=>Value.int .i64 i.r) ((qu_5 (a:=(⟨b0,m0,r0⟩:Cg)) (b:=(⟨b1,m1,r1⟩:Cg)) hp0 hp1 hp2.1 hl hm h2).symm))|(exact False.elim (size0 (al_r (b:=(⟨b1,m1,r1⟩:Cg)) hl hm) (by with_reducible assumption)))|(exact False.elim (al_r (b:=(⟨b1,m1,r1⟩:Cg)) hl hm (by with_reducible assumption)))
         . have hln:=congrArg Bool.not hl;simp only [Bool.not_true,Bool.not_false] at hln
           have hmn:=congrArg Bool.not hm;simp only [Bool.not_true,Bool.not_false] at hmn
           have hwn:=congrArg Bool.not hw;simp only [Bool.not_true,Bool.not_false] at hwn
           have h1n:=congrArg Bool.not h1;simp only [Bool.not_true,Bool.not_false] at h1n
           repeat' (first|exact trivial|(with_reducible first|exact hp0|exact hp1|exact hp2|exact hp0.1|exact hp0.2|exact hp1.1|exact hp1.2|exact hp2.1|exact hp2.2|exact wd_ok _|exact (wd_ok _).1.1|exact (wd_ok _).1.2|exact (wd_ok _).2.1|exact (wd_ok _).2.2|exact (fun h:false=true=>absurd h (by decide))|exact (fun h:true=false=>absurd h (by decide))|exact hp0|exact hp1|exact (w64_r _).1|exact (w64_r _).2|exact (wu_r _).1|exact (wu_r _).2|exact w64_r _|exact wu_r _|exact q0.1|exact q0.2|exact q0.1.1|exact q0.1.2|exact q0.2.1|exact q0.2.2|exact q1.1|exact q1.2|exact q1.1.1|exact q1.1.2|exact q1.2.1|exact q1.2.2|exact nx hl|exact nx hm|exact nx hw|exact nx h1|exact nx hln|exact nx hmn|exact nx hwn|exact nx h1n)|refine ⟨?_, ?_⟩|intro _)
           all_goals first|(with_reducible apply qq)|(conv=>whnf)
           all_goals first|(with_reducible rfl)|decide|((with_reducible show Value.bool (Cg.some _)=_);exact congrArg (fun i:Cg=>Value.bool i.some) ((qu_4 (a:=(⟨b0,m0,r0⟩:Cg)) (b:=(⟨b1,m1,r1⟩:Cg)) hp0 hp1 hp2.1 hl hm h1).symm))|((with_reducible show Value.int _ (Cg.m _)=_);exact congrArg (fun i:Cg=>Value.int .i64 i.m) ((qu_4 (a:=(⟨b0,m0,r0⟩:Cg)) (b:=(⟨b1,m1,r1⟩:Cg)) hp0 hp1 hp2.1 hl hm h1).symm))|((with_reducible show Value.int _ (Cg.r _)=_);exact congrArg (fun i:Cg=>Value.int .i64 i.r) ((qu_4 (a:=(⟨b0,m0,r0⟩:Cg)) (b:=(⟨b1,m1,r1⟩:Cg)) hp0 hp1 hp2.1 hl hm h1).symm))|(exact False.elim (size0 (al_r (b:=(⟨b1,m1,r1⟩:Cg)) hl hm) (by with_reducible assumption)))|(exact False.elim (al_r (b:=(⟨b1,m1,r1⟩:Cg)) hl hm (by with_reducible assumption)))
       . have hln:=congrArg Bool.not hl;simp only [Bool.not_true,Bool.not_false] at hln
         have hmn:=congrArg Bool.not hm;simp only [Bool.not_true,Bool.not_false] at hmn
         have hwn:=congrArg Bool.not hw;simp only [Bool.not_true,Bool.not_false] at hwn
         repeat' (first|exact trivial|(with_reducible first|exact hp0|exact hp1|exact hp2|exact hp0.1|exact hp0.2|exact hp1.1|exact hp1.2|exact hp2.1|exact hp2.2|exact wd_ok _|exact (wd_ok _).1.1|exact (wd_ok _).1.2|exact (wd_ok _).2.1|exact (wd_ok _).2.2|exact (fun h:false=true=>absurd h (by decide))|exact (fun h:true=false=>absurd h (by decide))|exact hp0|exact hp1|exact (w64_r _).1|exact (w64_r _).2|exact (wu_r _).1|exact (wu_r _).2|exact w64_r _|exact wu_r _|exact q0.1|exact q0.2|exact q0.1.1|exact q0.1.2|exact q0.2.1|exact q0.2.2|exact q1.1|exact q1.2|exact q1.1.1|exact q1.1.2|exact q1.2.1|exact q1.2.2|exact nx hl|exact nx hm|exact nx hw|exact nx hln|exact nx hmn|exact nx hwn)|refine ⟨?_, ?_⟩|intro _)
         all_goals first|(with_reducible apply qq)|(conv=>whnf)
         all_goals first|(with_reducible rfl)|decide|((with_reducible show Value.bool (Cg.some _)=_);exact congrArg (fun i:Cg=>Value.bool i.some) ((qu_3 (a:=(⟨b0,m0,r0⟩:Cg)) (b:=(⟨b1,m1,r1⟩:Cg)) hl).symm))|((with_reducible show Value.int _ (Cg.m _)=_);exact congrArg (fun i:Cg=>Value.int .i64 i.m) ((qu_3 (a:=(⟨b0,m0,r0⟩:Cg)) (b:=(⟨b1,m1,r1⟩:Cg)) hl).symm))|((with_reducible show Value.int _ (Cg.r _)=_);exact congrArg (fun i:Cg=>Value.int .i64 i.r) ((qu_3 (a:=(⟨b0,m0,r0⟩:Cg)) (b:=(⟨b1,m1,r1⟩:Cg)) hl).symm))|(exact False.elim (size0 (al_r (b:=(⟨b1,m1,r1⟩:Cg)) hl hm) (by with_reducible assumption)))|(exact False.elim (al_r (b:=(⟨b1,m1,r1⟩:Cg)) hl hm (by with_reducible assumption)))
     . have hln:=congrArg Bool.not hl;simp only [Bool.not_true,Bool.not_false] at hln
       have hmn:=congrArg Bool.not hm;simp only [Bool.not_true,Bool.not_false] at hmn
       repeat' (first|exact trivial|(with_reducible first|exact hp0|exact hp1|exact hp2|exact hp0.1|exact hp0.2|exact hp1.1|exact hp1.2|exact hp2.1|exact hp2.2|exact wd_ok _|exact (wd_ok _).1.1|exact (wd_ok _).1.2|exact (wd_ok _).2.1|exact (wd_ok _).2.2|exact (fun h:false=true=>absurd h (by decide))|exact (fun h:true=false=>absurd h (by decide))|exact hp0|exact hp1|exact (w64_r _).1|exact (w64_r _).2|exact (wu_r _).1|exact (wu_r _).2|exact w64_r _|exact wu_r _|exact q0.1|exact q0.2|exact q0.1.1|exact q0.1.2|exact q0.2.1|exact q0.2.2|exact q1.1|exact q1.2|exact q1.1.1|exact q1.1.2|exact q1.2.1|exact q1.2.2|exact nx hl|exact nx hm|exact nx hln|exact nx hmn)|refine ⟨?_, ?_⟩|intro _)
       all_goals first|(with_reducible apply qq)|(conv=>whnf)
       all_goals first|(with_reducible rfl)|decide|((with_reducible show Value.bool (Cg.some _)=_);exact congrArg (fun i:Cg=>Value.bool i.some) ((qu_2 (a:=(⟨b0,m0,r0⟩:Cg)) (b:=(⟨b1,m1,r1⟩:Cg)) (w:=b2) hl hm).symm))|((with_reducible show Value.int _ (Cg.m _)=_);exact congrArg (fun i:Cg=>Value.int .i64 i.m) ((qu_2 (a:=(⟨b0,m0,r0⟩:Cg)) (b:=(⟨b1,m1,r1⟩:Cg)) (w:=b2) hl hm).symm))|((with_reducible show Value.int _ (Cg.r _)=_);exact congrArg (fun i:Cg=>Value.int .i64 i.r) ((qu_2 (a:=(⟨b0,m0,r0⟩:Cg)) (b:=(⟨b1,m1,r1⟩:Cg)) (w:=b2) hl hm).symm))
   . have hln:=congrArg Bool.not hl;simp only [Bool.not_true,Bool.not_false] at hln
     repeat' (first|exact trivial|(with_reducible first|exact hp0|exact hp1|exact hp2|exact hp0.1|exact hp0.2|exact hp1.1|exact hp1.2|exact hp2.1|exact hp2.2|exact wd_ok _|exact (wd_ok _).1.1|exact (wd_ok _).1.2|exact (wd_ok _).2.1|exact (wd_ok _).2.2|exact (fun h:false=true=>absurd h (by decide))|exact (fun h:true=false=>absurd h (by decide))|exact hp0|exact hp1|exact (w64_r _).1|exact (w64_r _).2|exact (wu_r _).1|exact (wu_r _).2|exact w64_r _|exact wu_r _|exact q0.1|exact q0.2|exact q0.1.1|exact q0.1.2|exact q0.2.1|exact q0.2.2|exact q1.1|exact q1.2|exact q1.1.1|exact q1.1.2|exact q1.2.1|exact q1.2.2|exact nx hl|exact nx hln)|refine ⟨?_, ?_⟩|intro _)
     all_goals first|(with_reducible apply qq)|(conv=>whnf)
     all_goals first|(with_reducible rfl)|decide|((with_reducible show Value.bool false=_);exact congrArg (fun i:Cg=>Value.bool i.some) ((qu_1 (a:=(⟨b0,m0,r0⟩:Cg)) (b:=(⟨b1,m1,r1⟩:Cg)) (w:=b2) hl).symm))|((with_reducible show Value.int _ 0=_);first|exact congrArg (fun i:Cg=>Value.int .i64 i.m) ((qu_1 (a:=(⟨b0,m0,r0⟩:Cg)) (b:=(⟨b1,m1,r1⟩:Cg)) (w:=b2) hl).symm)|exact congrArg (fun i:Cg=>Value.int .i64 i.r) ((qu_1 (a:=(⟨b0,m0,r0⟩:Cg)) (b:=(⟨b1,m1,r1⟩:Cg)) (w:=b2) hl).symm))
 . cases h
def FRsRest:List Ar->Option Rs
 | [.agg [.d (.v (.bool b0)),.d (.v (.int .i64 m0)),.d (.v (.int .i64 r0))],.agg [.d (.v (.bool b1)),.d (.v (.int .i64 m1)),.d (.v (.int .i64 r1))]]=>some ⟨(Cg.inR ⟨b0,m0,r0⟩)/\ (Cg.inR ⟨b1,m1,r1⟩)/\ ((0<=m0/\ 0<=m1)/\ (m0≠0 \/m1≠0)),.va (Cg.ar (rstC (⟨b0,m0,r0⟩:Cg) (⟨b1,m1,r1⟩:Cg))),[]⟩
 |_=>none
theorem fcRsRest:FC Tryz.prog 166 FRsRest:=by
 intro xs pre r us h hp;unfold FRsRest at h;split at h
 . rename_i b0 m0 r0 b1 m1 r1
   cases h;obtain ⟨hp0,hp1,hp2⟩:=hp
   refine fcat tys_ok (l:= [(153,⟨[],FRsAlone⟩),(163,⟨[],FRsGcd⟩),(199,⟨[],FRsSize⟩),(97,⟨[],FCGcd⟩),(61,⟨[],FCOf⟩)]) ⟨fcRsAlone,fcRsGcd,fcRsSize,fcCGcd,fcCOf,trivial⟩ Tryz.func166 rfl (by kernel_rfl) false ?_
   have q0:=hp0;unfold Cg.inR at q0;dsimp only at q0
   have q1:=hp1;unfold Cg.inR at q1;dsimp only at q1
   have hs:=sz_r q1.2
   cases hl:alC (⟨b1,m1,r1⟩:Cg) 0
   . have hln:=congrArg Bool.not hl;simp only [Bool.not_true,Bool.not_false] at hln
     repeat' (first|exact trivial|(with_reducible first|exact hp0|exact hp1|exact hp2|exact hp0.1|exact hp0.2|exact hp1.1|exact hp1.2|exact hp2.1|exact hp2.2|exact wd_ok _|exact (wd_ok _).1.1|exact (wd_ok _).1.2|exact (wd_ok _).2.1|exact (wd_ok _).2.2|exact (fun h:false=true=>absurd h (by decide))|exact (fun h:true=false=>absurd h (by decide))|exact hp0|exact hp1|exact hp2.1|exact hp2.1.1|exact hp2.1.2|exact hs|exact hs.1|exact hs.2|exact (w64_r _).1|exact (w64_r _).2|exact (wu_r _).1|exact (wu_r _).2|exact w64_r _|exact wu_r _|exact q0.1|exact q0.2|exact q0.1.1|exact q0.1.2|exact q0.2.1|exact q0.2.2|exact q1.1|exact q1.2|exact q1.1.1|exact q1.1.2|exact q1.2.1|exact q1.2.2|exact nx hl|exact nx hln)|refine ⟨?_, ?_⟩|intro _)
     all_goals first|(with_reducible apply qq)|(conv=>whnf)
     all_goals first|(with_reducible rfl)|decide|((with_reducible show Value.bool (Cg.some _)=_);exact congrArg (fun i:Cg=>Value.bool i.some) ((rt_2 (a:=(⟨b0,m0,r0⟩:Cg)) (b:=(⟨b1,m1,r1⟩:Cg)) hp0 hp1 hp2.1 hp2.2 hl).symm))|((with_reducible show Value.int _ (Cg.m _)=_);exact congrArg (fun i:Cg=>Value.int .i64 i.m) ((rt_2 (a:=(⟨b0,m0,r0⟩:Cg)) (b:=(⟨b1,m1,r1⟩:Cg)) hp0 hp1 hp2.1 hp2.2 hl).symm))|((with_reducible show Value.int _ (Cg.r _)=_);exact congrArg (fun i:Cg=>Value.int .i64 i.r) ((rt_2 (a:=(⟨b0,m0,r0⟩:Cg)) (b:=(⟨b1,m1,r1⟩:Cg)) hp0 hp1 hp2.1 hp2.2 hl).symm))
   . have hln:=congrArg Bool.not hl;simp only [Bool.not_true,Bool.not_false] at hln
     repeat' (first|exact trivial|(with_reducible first|exact hp0|exact hp1|exact hp2|exact hp0.1|exact hp0.2|exact hp1.1|exact hp1.2|exact hp2.1|exact hp2.2|exact wd_ok _|exact (wd_ok _).1.1|exact (wd_ok _).1.2|exact (wd_ok _).2.1|exact (wd_ok _).2.2|exact (fun h:false=true=>absurd h (by decide))|exact (fun h:true=false=>absurd h (by decide))|exact hp0|exact hp1|exact hp2.1|exact hp2.1.1|exact hp2.1.2|exact hs|exact hs.1|exact hs.2|exact (w64_r _).1|exact (w64_r _).2|exact (wu_r _).1|exact (wu_r _).2|exact w64_r _|exact wu_r _|exact q0.1|exact q0.2|exact q0.1.1|exact q0.1.2|exact q0.2.1|exact q0.2.2|exact q1.1|exact q1.2|exact q1.1.1|exact q1.1.2|exact q1.2.1|exact q1.2.2|exact nx hl|exact nx hln)|refine ⟨?_, ?_⟩|intro _)
     all_goals first|(with_reducible apply qq)|(conv=>whnf)
     all_goals first|(with_reducible rfl)|decide|((with_reducible show Value.bool false=_);exact congrArg (fun i:Cg=>Value.bool i.some) ((rt_1 (a:=(⟨b0,m0,r0⟩:Cg)) (b:=(⟨b1,m1,r1⟩:Cg)) hl).symm))|((with_reducible show Value.int _ 0=_);first|exact congrArg (fun i:Cg=>Value.int .i64 i.m) ((rt_1 (a:=(⟨b0,m0,r0⟩:Cg)) (b:=(⟨b1,m1,r1⟩:Cg)) hl).symm)|exact congrArg (fun i:Cg=>Value.int .i64 i.r) ((rt_1 (a:=(⟨b0,m0,r0⟩:Cg)) (b:=(⟨b1,m1,r1⟩:Cg)) hl).symm))
 . cases h
def FRsApart:List Ar->Option Rs
 | [.agg [.d (.v (.bool b0)),.d (.v (.int .i64 m0)),.d (.v (.int .i64 r0))],.agg [.d (.v (.bool b1)),.d (.v (.int .i64 m1)),.d (.v (.int .i64 r1))]]=>some ⟨(Cg.inR ⟨b0,m0,r0⟩)/\ (Cg.inR ⟨b1,m1,r1⟩)/\ (0<=m0/\ 0<=m1),.va (.c (.d (bo (aptC (⟨b0,m0,r0⟩:Cg) (⟨b1,m1,r1⟩:Cg))))),[]⟩
 |_=>none
theorem fcRsApart:FC Tryz.prog 200 FRsApart:=by
 intro xs pre r us h hp;unfold FRsApart at h;split at h
 . rename_i b0 m0 r0 b1 m1 r1
   cases h;obtain ⟨hp0,hp1,hp2⟩:=hp
   refine fcat tys_ok (l:= [(163,⟨[],FRsGcd⟩),(61,⟨[],FCOf⟩),(46,⟨[],FCOne⟩),(64,⟨[],FCMeet⟩),(96,⟨[],FCNone⟩)]) ⟨fcRsGcd,fcCOf,fcCOne,fcCMeet,fcCNone,trivial⟩ Tryz.func200 rfl (by kernel_rfl) false ?_
   have q0:=hp0;unfold Cg.inR at q0;dsimp only at q0
   have q1:=hp1;unfold Cg.inR at q1;dsimp only at q1
   have hg:=gcd_r q0.1 q1.1 hp2
   have c1:=Cg.of_inR (Int.gcd m0 m1:Int) r0 hg.1.1 hg.1.2 q0.2.1 q0.2.2
   have c2:=Cg.of_inR 0 r1 (by omega) (by omega) q1.2.1 q1.2.2
   have c3:=cmeet_inR c1 c2
   unfold Cg.inR at c1 c2 c3
   repeat' (first|exact trivial|(with_reducible first|exact hp0|exact hp1|exact hp2|exact hp0.1|exact hp0.2|exact hp1.1|exact hp1.2|exact hp2.1|exact hp2.2|exact wd_ok _|exact (wd_ok _).1.1|exact (wd_ok _).1.2|exact (wd_ok _).2.1|exact (wd_ok _).2.2|exact (fun h:false=true=>absurd h (by decide))|exact (fun h:true=false=>absurd h (by decide))|exact hp0|exact hp1|exact hp2|exact hp2.1|exact hp2.2|exact hg.1|exact hg.2|exact hg.1.1|exact hg.1.2|exact (w64_r _).1|exact (w64_r _).2|exact (wu_r _).1|exact (wu_r _).2|exact w64_r _|exact wu_r _|exact q0.1|exact q0.2|exact q0.1.1|exact q0.1.2|exact q0.2.1|exact q0.2.2|exact q1.1|exact q1.2|exact q1.1.1|exact q1.1.2|exact q1.2.1|exact q1.2.2)|refine ⟨?_, ?_⟩|intro _)
   all_goals first|(with_reducible apply qq)|(conv=>whnf)
   all_goals first|decide|(with_reducible first|exact c1.1.1|exact c1.1.2|exact c1.2.1|exact c1.2.2|exact c2.1.1|exact c2.1.2|exact c2.2.1|exact c2.2.2|exact c3.1.1|exact c3.1.2|exact c3.2.1|exact c3.2.2)|((with_reducible show Value.bool _=_);simp only [Cg.eta];exact congrArg Value.bool (aptC_eq ⟨b0,m0,r0⟩ ⟨b1,m1,r1⟩).symm)
 . cases h
def clampI (v:Int):Int:=if wIntB v=true then wIntV v else if v<0 then-9223372036854775808 else 9223372036854775808-1
theorem neg_1 {h l:Int} (k:Wd.ok ⟨h,l⟩) (k1:h<0):Wd.val ⟨h,l⟩<0:=by unfold Wd.ok at k;unfold Wd.val;dsimp only at*;omega
theorem neg_0 {h l:Int} (k:Wd.ok ⟨h,l⟩) (k1: ¬h<0): ¬Wd.val ⟨h,l⟩<0:=by unfold Wd.ok at k;unfold Wd.val;dsimp only at*;omega
theorem size_k {n:Int} (h: -9223372036854775808<=n/\ n<9223372036854775808):maxW (wd n) (wd (0-(wd n).val))=wd (absI n):=by
 have e:(wd n).val=n:=wd_val (by omega) (by omega)
 rw [e];unfold maxW wCmp absI
 rw [e,wd_val (by omega) (by omega)]
 (repeat' split)<;>first|omega|rfl|(congr 1;omega)
def FWClamp:List Ar->Option Rs
 | [.agg [.d (.v (.int .i64 h0)),.d (.v (.int .u64 l0))]]=>some ⟨(Wd.ok ⟨h0,l0⟩),.va (.c (.d (it (clampI (Wd.val (⟨h0,l0⟩:Wd)))))),[]⟩
 |_=>none
theorem fcWClamp:FC Tryz.prog 191 FWClamp:=by
 intro xs pre r us h hp;unfold FWClamp at h;split at h
 . rename_i h0 l0
   cases h;have hp0:=hp
   refine fcat tys_ok (l:= [(99,⟨[],FWInt⟩)]) ⟨fcWInt,trivial⟩ Tryz.func191 rfl (by kernel_rfl) false ?_
   repeat' (first|exact trivial|(with_reducible first|exact hp0|exact hp1|exact hp2|exact hp0.1|exact hp0.2|exact hp1.1|exact hp1.2|exact hp2.1|exact hp2.2|exact wd_ok _|exact (wd_ok _).1.1|exact (wd_ok _).1.2|exact (wd_ok _).2.1|exact (wd_ok _).2.2)|refine ⟨?_, ?_⟩|intro _)
   all_goals first|(with_reducible apply qq)|(conv=>whnf)
   all_goals first|(unfold clampI;rw [if_pos ‹_›];done)|(unfold clampI;rw [if_neg (by rw [‹wIntB _=false›];decide),if_pos (neg_1 hp0 (of_decide_eq_true ‹_›))];done)|(unfold clampI;rw [if_neg (by rw [‹wIntB _=false›];decide),if_neg (neg_0 hp0 (of_decide_eq_false ‹_›))];rfl)
 . cases h
def FReSize:List Ar->Option Rs
 | [.c (.d (.v (.int .i64 i0)))]=>some ⟨(-9223372036854775808<=i0/\ i0<9223372036854775808),.va (Wd.ar (wd (absI i0))),[]⟩
 |_=>none
theorem fcReSize:FC Tryz.prog 192 FReSize:=by
 intro xs pre r us h hp;unfold FReSize at h;split at h
 . rename_i i0
   cases h;have hp0:=hp
   refine fcat tys_ok (l:= [(138,⟨[],FWOf⟩),(140,⟨[],FWNeg⟩),(139,⟨[],FWMax⟩)]) ⟨fcWOf,fcWNeg,fcWMax,trivial⟩ Tryz.func192 rfl (by kernel_rfl) false ?_
   repeat' (first|exact trivial|(with_reducible first|exact hp0|exact hp1|exact hp2|exact hp0.1|exact hp0.2|exact hp1.1|exact hp1.2|exact hp2.1|exact hp2.2|exact wd_ok _|exact (wd_ok _).1.1|exact (wd_ok _).1.2|exact (wd_ok _).2.1|exact (wd_ok _).2.2)|refine ⟨?_, ?_⟩|intro _)
   all_goals first|(with_reducible apply qq)|(conv=>whnf)
   all_goals first|exact (congrArg (fun w:Wd=>Value.int .i64 w.hi) (size_k hp0))|exact (congrArg (fun w:Wd=>Value.int .u64 w.lo) (size_k hp0))|exact (wd_ok _).1.1|exact (wd_ok _).1.2|exact (wd_ok _).2.1|exact (wd_ok _).2.2|rfl
 . cases h
def FReTruth:List Ar->Option Rs
 | [.c (.d (.v (.bool b0))),.c (.d (.v (.bool b1)))]=>some ⟨True,.va (Sp.ar (truthS b0 b1)),[]⟩
 |_=>none
theorem fcReTruth:FC Tryz.prog 151 FReTruth:=by
 intro xs pre r us h hp;unfold FReTruth at h;split at h
 . rename_i b0 b1
   cases h;refine fcat tys_ok (l:= [(45,⟨[],FSOne⟩),(32,⟨[],FSOf⟩)]) ⟨fcSOne,fcSOf,trivial⟩ Tryz.func151 rfl (by kernel_rfl) false ?_
   cases b0<;>cases b1
   all_goals repeat' (first|exact trivial|(with_reducible first|exact (fun h:false=true=>absurd h (by decide))|exact (fun h:true=false=>absurd h (by decide)))|refine ⟨?_, ?_⟩|intro _)
   all_goals first|(with_reducible apply qq)|(conv=>whnf)
   all_goals first|rfl|decide
 . cases h
def FReAlone:List Ar->Option Rs
 | [.agg [.d (.v (.bool s0)),.d (.v (.int .i64 l0)),.d (.v (.int .i64 h0))],.c (.d (.v (.int .i64 i1)))]=>some ⟨(Sp.inR ⟨s0,l0,h0⟩)/\ (-9223372036854775808<=i1/\ i1<9223372036854775808),.va (.c (.d (bo (aloneS (⟨s0,l0,h0⟩:Sp) i1)))),[]⟩
 |_=>none
theorem fcReAlone:FC Tryz.prog 152 FReAlone:=by
 intro xs pre r us h hp;unfold FReAlone at h;split at h
 . rename_i s0 l0 h0 i1
   cases h;obtain ⟨hp0,hp1⟩:=hp
   refine fcat tys_ok (l:= []) trivial Tryz.func152 rfl (by kernel_rfl) false ?_
   repeat' (first|exact trivial|refine ⟨?_, ?_⟩|intro _)
   all_goals first|(with_reducible apply qq)|(conv=>whnf)
   all_goals first|grind [aloneS]
 . cases h
def rkOne (op:Int) (a:Sp):Sp:=if a.none then noS else if op=5 then rkDo 11 (Sp.of 0 0) a else if op=6 then truthS (aloneS a 0) (!a.has 0) else noS
theorem truth_eq {a b a' b':Bool} (h:a=a') (h2:b=b'):truthS a b=truthS a' b':=by rw [h,h2]
theorem beqd (a b:Int):decide (a=b)=(a==b):=by rw [Bool.eq_iff_iff];simp
section
variable (a b:Sp)
theorem cmp12:cmpS 12 a b=truthS (decide (a.hi<b.lo)) (decide (a.lo≥b.hi)):=rfl
theorem cmp13:cmpS 13 a b=truthS (decide (a.hi<=b.lo)) (decide (a.lo>b.hi)):=rfl
theorem cmp14:cmpS 14 a b=truthS (a.lo==a.hi&&(b.some==a.some&&(b.lo==a.lo&&b.hi==a.hi))) (decide (a.hi<b.lo)||decide (b.hi<a.lo)):=by rw [<-beqd, <-beqd, <-beqd];rfl
theorem cmp15:cmpS 15 a b=truthS (decide (a.hi<b.lo)||decide (b.hi<a.lo)) (a.lo==a.hi&&(b.some==a.some&&(b.lo==a.lo&&b.hi==a.hi))):=by rw [<-beqd, <-beqd, <-beqd];rfl
theorem cmp16:cmpS 16 a b=truthS (!a.has 0&& !b.has 0) (aloneS a 0||aloneS b 0):=rfl
theorem cmp17:cmpS 17 a b=truthS (!a.has 0|| !b.has 0) (aloneS a 0&&aloneS b 0):=rfl
end
def FReCmp:List Ar->Option Rs
 | [.c (.d (.v (.int .i64 i0))),.agg [.d (.v (.bool s1)),.d (.v (.int .i64 l1)),.d (.v (.int .i64 h1))],.agg [.d (.v (.bool s2)),.d (.v (.int .i64 l2)),.d (.v (.int .i64 h2))]]=>some ⟨(-9223372036854775808<=i0/\ i0<9223372036854775808)/\ (Sp.inR ⟨s1,l1,h1⟩)/\ (Sp.inR ⟨s2,l2,h2⟩),.va (Sp.ar (cmpS i0 (⟨s1,l1,h1⟩:Sp) (⟨s2,l2,h2⟩:Sp))),[]⟩
 |_=>none
theorem fcReCmp:FC Tryz.prog 160 FReCmp:=by
 intro xs pre r us h hp;unfold FReCmp at h;split at h
 . rename_i i0 s1 l1 h1 s2 l2 h2
   cases h;obtain ⟨hp0,hp1,hp2⟩:=hp
   refine fcat tys_ok (l:= [(151,⟨[],FReTruth⟩),(47,⟨[],FSHas⟩),(152,⟨[],FReAlone⟩)]) ⟨fcReTruth,fcSHas,fcReAlone,trivial⟩ Tryz.func160 rfl (by kernel_rfl) false ?_
   by_cases e12:i0=12
   . subst e12;have q12:((12:Int)==12)=true:=by decide
     have q13:((12:Int)==13)=false:=by decide
     have q14:((12:Int)==14)=false:=by decide
     have q15:((12:Int)==15)=false:=by decide
     have q16:((12:Int)==16)=false:=by decide
     have q17:((12:Int)==17)=false:=by decide
     repeat' (first|exact trivial|(with_reducible first|assumption|exact (fun h:false=true=>absurd h (by decide))|exact (fun h:true=false=>absurd h (by decide))|exact nx q12|exact nx q13|exact nx q14|exact nx q15|exact nx q16|exact nx q17)|refine ⟨?_, ?_⟩|intro _)
     all_goals first|(with_reducible apply qq)|(conv=>whnf)
     all_goals (try simp only [cmp12,cmp13,cmp14,cmp15,cmp16,cmp17])
     all_goals first|(with_reducible rfl)|decide|omega|((with_reducible show Value.bool _=_);refine congrArg (fun i:Sp=>Value.bool i.some) (truth_eq ?_ ?_)<;>first|rfl|(simp only [*,Bool.true_and,Bool.and_true,Bool.false_and,Bool.and_false,Bool.true_or,Bool.or_true,Bool.false_or,Bool.or_false,Bool.not_true,Bool.not_false];done))|((with_reducible show Value.int _ _=_);refine congrArg (fun i:Sp=>Value.int .i64 i.lo) (truth_eq ?_ ?_)<;>first|rfl|(simp only [*,Bool.true_and,Bool.and_true,Bool.false_and,Bool.and_false,Bool.true_or,Bool.or_true,Bool.false_or,Bool.or_false,Bool.not_true,Bool.not_false];done))|((with_reducible show Value.int _ _=_);refine congrArg (fun i:Sp=>Value.int .i64 i.hi) (truth_eq ?_ ?_)<;>first|rfl|(simp only [*,Bool.true_and,Bool.and_true,Bool.false_and,Bool.and_false,Bool.true_or,Bool.or_true,Bool.false_or,Bool.or_false,Bool.not_true,Bool.not_false];done))
   by_cases e13:i0=13
   . subst e13;have q12:((13:Int)==12)=false:=by decide
     have q13:((13:Int)==13)=true:=by decide
     have q14:((13:Int)==14)=false:=by decide
     have q15:((13:Int)==15)=false:=by decide
     have q16:((13:Int)==16)=false:=by decide
     have q17:((13:Int)==17)=false:=by decide
     repeat' (first|exact trivial|(with_reducible first|assumption|exact (fun h:false=true=>absurd h (by decide))|exact (fun h:true=false=>absurd h (by decide))|exact nx q12|exact nx q13|exact nx q14|exact nx q15|exact nx q16|exact nx q17)|refine ⟨?_, ?_⟩|intro _)
     all_goals first|(with_reducible apply qq)|(conv=>whnf)
     all_goals (try simp only [cmp12,cmp13,cmp14,cmp15,cmp16,cmp17])
     all_goals first|(with_reducible rfl)|decide|omega|((with_reducible show Value.bool _=_);refine congrArg (fun i:Sp=>Value.bool i.some) (truth_eq ?_ ?_)<;>first|rfl|(simp only [*,Bool.true_and,Bool.and_true,Bool.false_and,Bool.and_false,Bool.true_or,Bool.or_true,Bool.false_or,Bool.or_false,Bool.not_true,Bool.not_false];done))|((with_reducible show Value.int _ _=_);refine congrArg (fun i:Sp=>Value.int .i64 i.lo) (truth_eq ?_ ?_)<;>first|rfl|(simp only [*,Bool.true_and,Bool.and_true,Bool.false_and,Bool.and_false,Bool.true_or,Bool.or_true,Bool.false_or,Bool.or_false,Bool.not_true,Bool.not_false];done))|((with_reducible show Value.int _ _=_);refine congrArg (fun i:Sp=>Value.int .i64 i.hi) (truth_eq ?_ ?_)<;>first|rfl|(simp only [*,Bool.true_and,Bool.and_true,Bool.false_and,Bool.and_false,Bool.true_or,Bool.or_true,Bool.false_or,Bool.or_false,Bool.not_true,Bool.not_false];done))
   by_cases e14:i0=14
   . subst e14;have q12:((14:Int)==12)=false:=by decide
     have q13:((14:Int)==13)=false:=by decide
     have q14:((14:Int)==14)=true:=by decide
     have q15:((14:Int)==15)=false:=by decide
     have q16:((14:Int)==16)=false:=by decide
     have q17:((14:Int)==17)=false:=by decide
     repeat' (first|exact trivial|(with_reducible first|assumption|exact (fun h:false=true=>absurd h (by decide))|exact (fun h:true=false=>absurd h (by decide))|exact nx q12|exact nx q13|exact nx q14|exact nx q15|exact nx q16|exact nx q17)|refine ⟨?_, ?_⟩|intro _)
     all_goals first|(with_reducible apply qq)|(conv=>whnf)
     all_goals (try simp only [cmp12,cmp13,cmp14,cmp15,cmp16,cmp17])
     all_goals first|(with_reducible rfl)|decide|omega|((with_reducible show Value.bool _=_);refine congrArg (fun i:Sp=>Value.bool i.some) (truth_eq ?_ ?_)<;>first|rfl|(simp only [*,Bool.true_and,Bool.and_true,Bool.false_and,Bool.and_false,Bool.true_or,Bool.or_true,Bool.false_or,Bool.or_false,Bool.not_true,Bool.not_false];done))|((with_reducible show Value.int _ _=_);refine congrArg (fun i:Sp=>Value.int .i64 i.lo) (truth_eq ?_ ?_)<;>first|rfl|(simp only [*,Bool.true_and,Bool.and_true,Bool.false_and,Bool.and_false,Bool.true_or,Bool.or_true,Bool.false_or,Bool.or_false,Bool.not_true,Bool.not_false];done))|((with_reducible show Value.int _ _=_);refine congrArg (fun i:Sp=>Value.int .i64 i.hi) (truth_eq ?_ ?_)<;>first|rfl|(simp only [*,Bool.true_and,Bool.and_true,Bool.false_and,Bool.and_false,Bool.true_or,Bool.or_true,Bool.false_or,Bool.or_false,Bool.not_true,Bool.not_false];done))
   by_cases e15:i0=15
   . subst e15;have q12:((15:Int)==12)=false:=by decide
     have q13:((15:Int)==13)=false:=by decide
     have q14:((15:Int)==14)=false:=by decide
     have q15:((15:Int)==15)=true:=by decide
     have q16:((15:Int)==16)=false:=by decide
     have q17:((15:Int)==17)=false:=by decide
     repeat' (first|exact trivial|(with_reducible first|assumption|exact (fun h:false=true=>absurd h (by decide))|exact (fun h:true=false=>absurd h (by decide))|exact nx q12|exact nx q13|exact nx q14|exact nx q15|exact nx q16|exact nx q17)|refine ⟨?_, ?_⟩|intro _)
     all_goals first|(with_reducible apply qq)|(conv=>whnf)
     all_goals (try simp only [cmp12,cmp13,cmp14,cmp15,cmp16,cmp17])
     all_goals first|(with_reducible rfl)|decide|omega|((with_reducible show Value.bool _=_);refine congrArg (fun i:Sp=>Value.bool i.some) (truth_eq ?_ ?_)<;>first|rfl|(simp only [*,Bool.true_and,Bool.and_true,Bool.false_and,Bool.and_false,Bool.true_or,Bool.or_true,Bool.false_or,Bool.or_false,Bool.not_true,Bool.not_false];done))|((with_reducible show Value.int _ _=_);refine congrArg (fun i:Sp=>Value.int .i64 i.lo) (truth_eq ?_ ?_)<;>first|rfl|(simp only [*,Bool.true_and,Bool.and_true,Bool.false_and,Bool.and_false,Bool.true_or,Bool.or_true,Bool.false_or,Bool.or_false,Bool.not_true,Bool.not_false];done))|((with_reducible show Value.int _ _=_);refine congrArg (fun i:Sp=>Value.int .i64 i.hi) (truth_eq ?_ ?_)<;>first|rfl|(simp only [*,Bool.true_and,Bool.and_true,Bool.false_and,Bool.and_false,Bool.true_or,Bool.or_true,Bool.false_or,Bool.or_false,Bool.not_true,Bool.not_false];done))
   by_cases e16:i0=16
   . subst e16;have q12:((16:Int)==12)=false:=by decide
     have q13:((16:Int)==13)=false:=by decide
     have q14:((16:Int)==14)=false:=by decide
     have q15:((16:Int)==15)=false:=by decide
     have q16:((16:Int)==16)=true:=by decide
     have q17:((16:Int)==17)=false:=by decide
     repeat' (first|exact trivial|(with_reducible first|assumption|exact (fun h:false=true=>absurd h (by decide))|exact (fun h:true=false=>absurd h (by decide))|exact nx q12|exact nx q13|exact nx q14|exact nx q15|exact nx q16|exact nx q17)|refine ⟨?_, ?_⟩|intro _)
     all_goals first|(with_reducible apply qq)|(conv=>whnf)
     all_goals (try simp only [cmp12,cmp13,cmp14,cmp15,cmp16,cmp17])
     all_goals first|(with_reducible rfl)|decide|omega|((with_reducible show Value.bool _=_);refine congrArg (fun i:Sp=>Value.bool i.some) (truth_eq ?_ ?_)<;>first|rfl|(simp only [*,Bool.true_and,Bool.and_true,Bool.false_and,Bool.and_false,Bool.true_or,Bool.or_true,Bool.false_or,Bool.or_false,Bool.not_true,Bool.not_false];done))|((with_reducible show Value.int _ _=_);refine congrArg (fun i:Sp=>Value.int .i64 i.lo) (truth_eq ?_ ?_)<;>first|rfl|(simp only [*,Bool.true_and,Bool.and_true,Bool.false_and,Bool.and_false,Bool.true_or,Bool.or_true,Bool.false_or,Bool.or_false,Bool.not_true,Bool.not_false];done))|((with_reducible show Value.int _ _=_);refine congrArg (fun i:Sp=>Value.int .i64 i.hi) (truth_eq ?_ ?_)<;>first|rfl|(simp only [*,Bool.true_and,Bool.and_true,Bool.false_and,Bool.and_false,Bool.true_or,Bool.or_true,Bool.false_or,Bool.or_false,Bool.not_true,Bool.not_false];done))
   by_cases e17:i0=17
   . subst e17;have q12:((17:Int)==12)=false:=by decide
     have q13:((17:Int)==13)=false:=by decide
     have q14:((17:Int)==14)=false:=by decide
     have q15:((17:Int)==15)=false:=by decide
     have q16:((17:Int)==16)=false:=by decide
     have q17:((17:Int)==17)=true:=by decide
     repeat' (first|exact trivial|(with_reducible first|assumption|exact (fun h:false=true=>absurd h (by decide))|exact (fun h:true=false=>absurd h (by decide))|exact nx q12|exact nx q13|exact nx q14|exact nx q15|exact nx q16|exact nx q17)|refine ⟨?_, ?_⟩|intro _)
     all_goals first|(with_reducible apply qq)|(conv=>whnf)
     all_goals (try simp only [cmp12,cmp13,cmp14,cmp15,cmp16,cmp17])
     all_goals first|(with_reducible rfl)|decide|omega|((with_reducible show Value.bool _=_);refine congrArg (fun i:Sp=>Value.bool i.some) (truth_eq ?_ ?_)<;>first|rfl|(simp only [*,Bool.true_and,Bool.and_true,Bool.false_and,Bool.and_false,Bool.true_or,Bool.or_true,Bool.false_or,Bool.or_false,Bool.not_true,Bool.not_false];done))|((with_reducible show Value.int _ _=_);refine congrArg (fun i:Sp=>Value.int .i64 i.lo) (truth_eq ?_ ?_)<;>first|rfl|(simp only [*,Bool.true_and,Bool.and_true,Bool.false_and,Bool.and_false,Bool.true_or,Bool.or_true,Bool.false_or,Bool.or_false,Bool.not_true,Bool.not_false];done))|((with_reducible show Value.int _ _=_);refine congrArg (fun i:Sp=>Value.int .i64 i.hi) (truth_eq ?_ ?_)<;>first|rfl|(simp only [*,Bool.true_and,Bool.and_true,Bool.false_and,Bool.and_false,Bool.true_or,Bool.or_true,Bool.false_or,Bool.or_false,Bool.not_true,Bool.not_false];done))
   have q12:(i0==12)=false:=beq_eq_false_iff_ne.2 e12
   have q13:(i0==13)=false:=beq_eq_false_iff_ne.2 e13
   have q14:(i0==14)=false:=beq_eq_false_iff_ne.2 e14
   have q15:(i0==15)=false:=beq_eq_false_iff_ne.2 e15
   have q16:(i0==16)=false:=beq_eq_false_iff_ne.2 e16
   have q17:(i0==17)=false:=beq_eq_false_iff_ne.2 e17
   repeat' (first|exact trivial|(with_reducible first|assumption|exact (fun h:false=true=>absurd h (by decide))|exact (fun h:true=false=>absurd h (by decide))|exact nx q12|exact nx q13|exact nx q14|exact nx q15|exact nx q16|exact nx q17)|refine ⟨?_, ?_⟩|intro _)
   all_goals first|(with_reducible apply qq)|(conv=>whnf)
   all_goals (try (unfold cmpS;simp only [e12,e13,e14,e15,e16,e17,if_false]))
   all_goals first|rfl
 . cases h
end Go.Proofs.YtokjghkehojenaaGreat
