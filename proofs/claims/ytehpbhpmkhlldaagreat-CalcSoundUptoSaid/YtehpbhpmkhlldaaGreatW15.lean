/- What congruences come to: more. No condition. -/
import Derived.Test.YtehpbhpmkhlldaaGreatW12
import Derived.Test.YtehpbhpmkhlldaaGreatW14
set_option linter.all false
set_option maxHeartbeats 8000000
set_option maxRecDepth 100000
namespace Go.Proofs.YtehpbhpmkhlldaaGreat
open Go.Sx
theorem lt_of_nz {k:Int} (h:0<=k) (h2:(k==0)=false):0<k:=by have:=ne_of_beq_false h2;omega
theorem part_r {m:Int} (h0:0<=m) (h1:m<9223372036854775808):0<=partI m/\ partI m<9223372036854775808:=by
 rcases Int.lt_or_le 0 m with hp|hp
 . have:=partI_ok hp h1;omega
 . obtain rfl:m=0:=by omega
   rw [partI_0];decide
section
variable {op m k:Int} {a b:Cg} {w:Bool} (hk:(if w=true then partI m else m)=k)
include hk
theorem lin_1 (h:exB op=false):linC op m a b w=Cg.of 1 0:=by unfold linC;rw [hk];dsimp only;rw [if_pos (.inl h)];rfl
theorem lin_2 (h:(k==0)=true):linC op m a b w=Cg.of 1 0:=by unfold linC;rw [hk];dsimp only;rw [if_pos (.inr (eq_of_beq h))];rfl
theorem lin_3 (ra: -9223372036854775808<=a.r/\ a.r<9223372036854775808) (rb: -9223372036854775808<=b.r/\ b.r<9223372036854775808) (h:exB op=true) (h2:(k==0)=false):linC op m a b w=Cg.of k ((wd (exI op a.r b.r)).val%k):=by
 have:=ex_rng (op:=op) ra rb
 unfold linC;rw [hk];dsimp only;rw [if_neg (by rintro (x|x);exact absurd (h.symm.trans x) (by decide);exact ne_of_beq_false h2 x),wd_valS this.1 this.2]
end
theorem sc_r {c:Int} (h: -9223372036854775808<=c/\ c<9223372036854775808):0<=sizeI c/\ sizeI c<=9223372036854775808:=by unfold sizeI;split<;>omega
section
variable {m c:Int} (hm: -9223372036854775808≤m∧m<9223372036854775808) (hc: -9223372036854775808≤c∧c<9223372036854775808) (h0:0≤m)
theorem sc_1 (h:decide (sizeI c>9223372036854775807)=true):sclI m c=m:=by unfold sclI;rw [if_pos (of_decide_eq_true h)]
include hc in
theorem sc_w (h:decide (sizeI c>9223372036854775807)=false):IntKind.wrap .i64 (sizeI c)=sizeI c:=by have:=sc_r hc;have:=of_decide_eq_false h;exact wI_id _ (by omega) (by omega)
include hm hc h0 in
theorem sc_v (h:decide (sizeI c>9223372036854775807)=false):(wd (m*IntKind.wrap .i64 (sizeI c))).val=m*sizeI c:=by
 rw [sc_w hc h]
 have:=sc_r hc
 have a1:=Int.mul_nonneg h0 this.1
 have a2:m*sizeI c<=(9223372036854775808-1)*9223372036854775808:=by
  have b1:=Int.mul_le_mul_of_nonneg_right (show m<=9223372036854775808-1 by omega) this.1
  have b2:=Int.mul_le_mul_of_nonneg_left this.2 (show (0:Int)<=9223372036854775808-1 by decide)
  omega
 exact wd_val (by omega) (by omega)
include hm hc h0 in
theorem sc_2 (h:decide (sizeI c>9223372036854775807)=false) (h2:wIntB (wd (m*IntKind.wrap .i64 (sizeI c))).val=false):sclI m c=m:=by
 rw [sc_v hm hc h0 h] at h2
 unfold sclI;rw [if_neg (of_decide_eq_false h),if_neg (by rw [h2];decide)]
include hm hc h0 in
theorem sc_3 (h:decide (sizeI c>9223372036854775807)=false) (h2:wIntB (wd (m*IntKind.wrap .i64 (sizeI c))).val=true):sclI m c=wIntV (wd (m*IntKind.wrap .i64 (sizeI c))).val:=by
 rw [sc_v hm hc h0 h] at*
 unfold sclI wIntV;rw [if_neg (of_decide_eq_false h),if_pos h2,if_pos (by unfold wIntB at h2;exact of_decide_eq_true h2)]
end
section
variable {a b:Cg} {w:Bool}
theorem pr_s (h:(a.m !=0)=true) (h2:(b.m==0)=true):prodC a b w=prod0 b a w:=by unfold prodC;rw [if_pos ⟨by simpa using h,by simpa using h2⟩]
theorem pr_n1 (h:(a.m !=0)=false):prodC a b w=prod0 a b w:=by unfold prodC;rw [if_neg (by rintro ⟨x, -⟩;simp at h;exact x h)]
theorem pr_n2 (h:(b.m==0)=false):prodC a b w=prod0 a b w:=by unfold prodC;rw [if_neg (by rintro ⟨-,x⟩;simp at h;exact h x)]
theorem p0_1 (h:alC a 0=true):prod0 a b w=Cg.of 0 0:=by unfold prod0;rw [if_pos h]
theorem p0_2 (h:alC a 0=false) (h2:(a.m==0)=true):prod0 a b w=linC 7 (sclI b.m a.r) a b w:=by unfold prod0;rw [if_neg (by rw [h];decide),if_pos (eq_of_beq h2)]
theorem p0_3 (h:alC a 0=false) (h2:(a.m==0)=false):prod0 a b w=linC 7 (Int.gcd a.m b.m:Int) a b w:=by unfold prod0;rw [if_neg (by rw [h];decide),if_neg (ne_of_beq_false h2)]
end
theorem scl_r {m c:Int} (hm: -9223372036854775808<=m/\ m<9223372036854775808) (h0:0<=m):(-9223372036854775808<=sclI m c/\ sclI m c<9223372036854775808)/\ 0<=sclI m c:=by
 have:=scl_ok (c:=c) (z:=m) h0 hm.2 (Int.dvd_refl _);omega
theorem gcd_r {m n:Int} (hm: -9223372036854775808<=m/\ m<9223372036854775808) (hn: -9223372036854775808<=n/\ n<9223372036854775808) (h0:0<=m/\ 0<=n):(-9223372036854775808<=(Int.gcd m n:Int)/\ (Int.gcd m n:Int)<9223372036854775808)/\ 0<=(Int.gcd m n:Int):=by
 have:=gcd_lt ⟨h0.1,hm.2⟩ ⟨h0.2,hn.2⟩;omega
def FRsLinear:List Ar->Option Rs
 | [.c (.d (.v (.int .i64 i0))),.c (.d (.v (.int .i64 i1))),.agg [.d (.v (.bool b2)),.d (.v (.int .i64 m2)),.d (.v (.int .i64 r2))],.agg [.d (.v (.bool b3)),.d (.v (.int .i64 m3)),.d (.v (.int .i64 r3))],.c (.d (.v (.bool b4)))]=>some ⟨(-9223372036854775808<=i0/\ i0<9223372036854775808)/\ (-9223372036854775808<=i1/\ i1<9223372036854775808)/\ (Cg.inR ⟨b2,m2,r2⟩)/\ (Cg.inR ⟨b3,m3,r3⟩)/\ (0<=i1),.va (Cg.ar (linC i0 i1 (⟨b2,m2,r2⟩:Cg) (⟨b3,m3,r3⟩:Cg) b4)),[]⟩
 |_=>none
theorem fcRsLinear:FC Tryz.prog 147 FRsLinear:=by
 intro xs pre r us h hp
 unfold FRsLinear at h
 split at h
 . rename_i i0 i1 b2 m2 r2 b3 m3 r3 b4
   cases h
   obtain ⟨hp0,hp1,hp2,hp3,hp4⟩:=hp
   refine fcat tys_ok (l:= [(172,⟨[],FRsPart⟩),(117,⟨[],FXExact⟩),(57,⟨[],FCAll⟩),(173,⟨[],FRsLeft⟩),(90,⟨[],FCOf⟩)]) ⟨fcRsPart,fcXExact,fcCAll,fcRsLeft,fcCOf,trivial⟩ Tryz.func147 rfl (by kernel_rfl) false ?_
   have hP:=part_r hp4 hp1.2
   have q2:=hp2;unfold Cg.inR at q2;dsimp only at q2
   have q3:=hp3;unfold Cg.inR at q3;dsimp only at q3
   have hPP: -9223372036854775808<=partI i1/\ partI i1<9223372036854775808:=⟨by omega,hP.2⟩
   cases b4
   . have hk0:=hp4
     have hk1:=hp1.2
     cases hx:exB i0
     . have hxn:=congrArg Bool.not hx;simp only [Bool.not_true,Bool.not_false] at hxn
       repeat' (first|exact trivial|(with_reducible first|exact hp0|exact hp1|exact hp2|exact hp0.1|exact hp0.2|exact hp1.1|exact hp1.2|exact hp2.1|exact hp2.2|exact wd_ok _|exact (wd_ok _).1.1|exact (wd_ok _).1.2|exact (wd_ok _).2.1|exact (wd_ok _).2.2|exact (fun h:false=true=>absurd h (by decide))|exact (fun h:true=false=>absurd h (by decide))|exact hp0|exact hp1|exact hp2|exact hp3|exact hp4|exact hPP|exact hPP.1|exact hPP.2|exact hP.1|exact hP.2|exact q2.1|exact q2.2|exact q2.1.1|exact q2.1.2|exact q2.2.1|exact q2.2.2|exact q3.1|exact q3.2|exact q3.1.1|exact q3.1.2|exact q3.2.1|exact q3.2.2|exact (fun h=>absurd (hx.symm.trans h) (by decide))|exact (fun h=>absurd (hxn.symm.trans h) (by decide)))|refine ⟨?_, ?_⟩|intro _)
       all_goals first|(with_reducible first|apply qa|apply qb|apply qc|apply qd)|(conv=>whnf)
       all_goals first|(with_reducible rfl)|decide|((with_reducible show Value.bool (Cg.some _)=_);exact congrArg (fun i:Cg=>Value.bool i.some) ((lin_1 (a:=(⟨b2,m2,r2⟩:Cg)) (b:=(⟨b3,m3,r3⟩:Cg)) (w:=false) rfl hx).symm))|((with_reducible show Value.int _ (Cg.m _)=_);exact congrArg (fun i:Cg=>Value.int .i64 i.m) ((lin_1 (a:=(⟨b2,m2,r2⟩:Cg)) (b:=(⟨b3,m3,r3⟩:Cg)) (w:=false) rfl hx).symm))|((with_reducible show Value.int _ (Cg.r _)=_);exact congrArg (fun i:Cg=>Value.int .i64 i.r) ((lin_1 (a:=(⟨b2,m2,r2⟩:Cg)) (b:=(⟨b3,m3,r3⟩:Cg)) (w:=false) rfl hx).symm))
     . cases hz:(i1==0)
       . have hxn:=congrArg Bool.not hx;simp only [Bool.not_true,Bool.not_false] at hxn
         have hzn:=congrArg Bool.not hz;simp only [Bool.not_true,Bool.not_false] at hzn
         repeat' (first|exact trivial|(with_reducible first|exact hp0|exact hp1|exact hp2|exact hp0.1|exact hp0.2|exact hp1.1|exact hp1.2|exact hp2.1|exact hp2.2|exact wd_ok _|exact (wd_ok _).1.1|exact (wd_ok _).1.2|exact (wd_ok _).2.1|exact (wd_ok _).2.2|exact (fun h:false=true=>absurd h (by decide))|exact (fun h:true=false=>absurd h (by decide))|exact hp0|exact hp1|exact hp2|exact hp3|exact hp4|exact hPP|exact hPP.1|exact hPP.2|exact hP.1|exact hP.2|exact q2.1|exact q2.2|exact q2.1.1|exact q2.1.2|exact q2.2.1|exact q2.2.2|exact q3.1|exact q3.2|exact q3.1.1|exact q3.1.2|exact q3.2.1|exact q3.2.2|exact (fun h=>absurd (hx.symm.trans h) (by decide))|exact (fun h=>absurd (hz.symm.trans h) (by decide))|exact (fun h=>absurd (hxn.symm.trans h) (by decide))|exact (fun h=>absurd (hzn.symm.trans h) (by decide)))|refine ⟨?_, ?_⟩|intro _)
         all_goals first|(with_reducible first|apply qa|apply qb|apply qc|apply qd)|(conv=>whnf)
         all_goals first|(with_reducible rfl)|decide|((with_reducible show Value.bool (Cg.some _)=_);exact congrArg (fun i:Cg=>Value.bool i.some) ((lin_3 (a:=(⟨b2,m2,r2⟩:Cg)) (b:=(⟨b3,m3,r3⟩:Cg)) (w:=false) rfl q2.2 q3.2 hx hz).symm))|((with_reducible show Value.int _ (Cg.m _)=_);exact congrArg (fun i:Cg=>Value.int .i64 i.m) ((lin_3 (a:=(⟨b2,m2,r2⟩:Cg)) (b:=(⟨b3,m3,r3⟩:Cg)) (w:=false) rfl q2.2 q3.2 hx hz).symm))|((with_reducible show Value.int _ (Cg.r _)=_);exact congrArg (fun i:Cg=>Value.int .i64 i.r) ((lin_3 (a:=(⟨b2,m2,r2⟩:Cg)) (b:=(⟨b3,m3,r3⟩:Cg)) (w:=false) rfl q2.2 q3.2 hx hz).symm))|((with_reducible show _<=HMod.hMod _ _);exact Int.le_trans (by decide) (Int.emod_nonneg _ (ne_of_beq_false hz)))|((with_reducible show HMod.hMod _ _<_);exact Int.lt_trans (Int.emod_lt_of_pos _ (lt_of_nz hk0 hz)) hk1)|exact lt_of_nz hk0 hz
       . have hxn:=congrArg Bool.not hx;simp only [Bool.not_true,Bool.not_false] at hxn
         have hzn:=congrArg Bool.not hz;simp only [Bool.not_true,Bool.not_false] at hzn
         repeat' (first|exact trivial|(with_reducible first|exact hp0|exact hp1|exact hp2|exact hp0.1|exact hp0.2|exact hp1.1|exact hp1.2|exact hp2.1|exact hp2.2|exact wd_ok _|exact (wd_ok _).1.1|exact (wd_ok _).1.2|exact (wd_ok _).2.1|exact (wd_ok _).2.2|exact (fun h:false=true=>absurd h (by decide))|exact (fun h:true=false=>absurd h (by decide))|exact hp0|exact hp1|exact hp2|exact hp3|exact hp4|exact hPP|exact hPP.1|exact hPP.2|exact hP.1|exact hP.2|exact q2.1|exact q2.2|exact q2.1.1|exact q2.1.2|exact q2.2.1|exact q2.2.2|exact q3.1|exact q3.2|exact q3.1.1|exact q3.1.2|exact q3.2.1|exact q3.2.2|exact (fun h=>absurd (hx.symm.trans h) (by decide))|exact (fun h=>absurd (hz.symm.trans h) (by decide))|exact (fun h=>absurd (hxn.symm.trans h) (by decide))|exact (fun h=>absurd (hzn.symm.trans h) (by decide)))|refine ⟨?_, ?_⟩|intro _)
         all_goals first|(with_reducible first|apply qa|apply qb|apply qc|apply qd)|(conv=>whnf)
         all_goals first|(with_reducible rfl)|decide|((with_reducible show Value.bool (Cg.some _)=_);exact congrArg (fun i:Cg=>Value.bool i.some) ((lin_2 (a:=(⟨b2,m2,r2⟩:Cg)) (b:=(⟨b3,m3,r3⟩:Cg)) (w:=false) rfl hz).symm))|((with_reducible show Value.int _ (Cg.m _)=_);exact congrArg (fun i:Cg=>Value.int .i64 i.m) ((lin_2 (a:=(⟨b2,m2,r2⟩:Cg)) (b:=(⟨b3,m3,r3⟩:Cg)) (w:=false) rfl hz).symm))|((with_reducible show Value.int _ (Cg.r _)=_);exact congrArg (fun i:Cg=>Value.int .i64 i.r) ((lin_2 (a:=(⟨b2,m2,r2⟩:Cg)) (b:=(⟨b3,m3,r3⟩:Cg)) (w:=false) rfl hz).symm))
   . have hk0:=hP.1
     have hk1:=hP.2
     cases hx:exB i0
     . have hxn:=congrArg Bool.not hx;simp only [Bool.not_true,Bool.not_false] at hxn
       repeat' (first|exact trivial|(with_reducible first|exact hp0|exact hp1|exact hp2|exact hp0.1|exact hp0.2|exact hp1.1|exact hp1.2|exact hp2.1|exact hp2.2|exact wd_ok _|exact (wd_ok _).1.1|exact (wd_ok _).1.2|exact (wd_ok _).2.1|exact (wd_ok _).2.2|exact (fun h:false=true=>absurd h (by decide))|exact (fun h:true=false=>absurd h (by decide))|exact hp0|exact hp1|exact hp2|exact hp3|exact hp4|exact hPP|exact hPP.1|exact hPP.2|exact hP.1|exact hP.2|exact q2.1|exact q2.2|exact q2.1.1|exact q2.1.2|exact q2.2.1|exact q2.2.2|exact q3.1|exact q3.2|exact q3.1.1|exact q3.1.2|exact q3.2.1|exact q3.2.2|exact (fun h=>absurd (hx.symm.trans h) (by decide))|exact (fun h=>absurd (hxn.symm.trans h) (by decide)))|refine ⟨?_, ?_⟩|intro _)
       all_goals first|(with_reducible first|apply qa|apply qb|apply qc|apply qd)|(conv=>whnf)
       all_goals first|(with_reducible rfl)|decide|((with_reducible show Value.bool (Cg.some _)=_);exact congrArg (fun i:Cg=>Value.bool i.some) ((lin_1 (a:=(⟨b2,m2,r2⟩:Cg)) (b:=(⟨b3,m3,r3⟩:Cg)) (w:=true) rfl hx).symm))|((with_reducible show Value.int _ (Cg.m _)=_);exact congrArg (fun i:Cg=>Value.int .i64 i.m) ((lin_1 (a:=(⟨b2,m2,r2⟩:Cg)) (b:=(⟨b3,m3,r3⟩:Cg)) (w:=true) rfl hx).symm))|((with_reducible show Value.int _ (Cg.r _)=_);exact congrArg (fun i:Cg=>Value.int .i64 i.r) ((lin_1 (a:=(⟨b2,m2,r2⟩:Cg)) (b:=(⟨b3,m3,r3⟩:Cg)) (w:=true) rfl hx).symm))
     . cases hz:(partI i1==0)
       . have hxn:=congrArg Bool.not hx;simp only [Bool.not_true,Bool.not_false] at hxn
         have hzn:=congrArg Bool.not hz;simp only [Bool.not_true,Bool.not_false] at hzn
         repeat' (first|exact trivial|(with_reducible first|exact hp0|exact hp1|exact hp2|exact hp0.1|exact hp0.2|exact hp1.1|exact hp1.2|exact hp2.1|exact hp2.2|exact wd_ok _|exact (wd_ok _).1.1|exact (wd_ok _).1.2|exact (wd_ok _).2.1|exact (wd_ok _).2.2|exact (fun h:false=true=>absurd h (by decide))|exact (fun h:true=false=>absurd h (by decide))|exact hp0|exact hp1|exact hp2|exact hp3|exact hp4|exact hPP|exact hPP.1|exact hPP.2|exact hP.1|exact hP.2|exact q2.1|exact q2.2|exact q2.1.1|exact q2.1.2|exact q2.2.1|exact q2.2.2|exact q3.1|exact q3.2|exact q3.1.1|exact q3.1.2|exact q3.2.1|exact q3.2.2|exact (fun h=>absurd (hx.symm.trans h) (by decide))|exact (fun h=>absurd (hz.symm.trans h) (by decide))|exact (fun h=>absurd (hxn.symm.trans h) (by decide))|exact (fun h=>absurd (hzn.symm.trans h) (by decide)))|refine ⟨?_, ?_⟩|intro _)
         all_goals first|(with_reducible first|apply qa|apply qb|apply qc|apply qd)|(conv=>whnf)
         all_goals first|(with_reducible rfl)|decide|((with_reducible show Value.bool (Cg.some _)=_);exact congrArg (fun i:Cg=>Value.bool i.some) ((lin_3 (a:=(⟨b2,m2,r2⟩:Cg)) (b:=(⟨b3,m3,r3⟩:Cg)) (w:=true) rfl q2.2 q3.2 hx hz).symm))|((with_reducible show Value.int _ (Cg.m _)=_);exact congrArg (fun i:Cg=>Value.int .i64 i.m) ((lin_3 (a:=(⟨b2,m2,r2⟩:Cg)) (b:=(⟨b3,m3,r3⟩:Cg)) (w:=true) rfl q2.2 q3.2 hx hz).symm))|((with_reducible show Value.int _ (Cg.r _)=_);exact congrArg (fun i:Cg=>Value.int .i64 i.r) ((lin_3 (a:=(⟨b2,m2,r2⟩:Cg)) (b:=(⟨b3,m3,r3⟩:Cg)) (w:=true) rfl q2.2 q3.2 hx hz).symm))|((with_reducible show _<=HMod.hMod _ _);exact Int.le_trans (by decide) (Int.emod_nonneg _ (ne_of_beq_false hz)))|((with_reducible show HMod.hMod _ _<_);exact Int.lt_trans (Int.emod_lt_of_pos _ (lt_of_nz hk0 hz)) hk1)|exact lt_of_nz hk0 hz
       . have hxn:=congrArg Bool.not hx;simp only [Bool.not_true,Bool.not_false] at hxn
         have hzn:=congrArg Bool.not hz;simp only [Bool.not_true,Bool.not_false] at hzn
         repeat' (first|exact trivial|(with_reducible first|exact hp0|exact hp1|exact hp2|exact hp0.1|exact hp0.2|exact hp1.1|exact hp1.2|exact hp2.1|exact hp2.2|exact wd_ok _|exact (wd_ok _).1.1|exact (wd_ok _).1.2|exact (wd_ok _).2.1|exact (wd_ok _).2.2|exact (fun h:false=true=>absurd h (by decide))|exact (fun h:true=false=>absurd h (by decide))|exact hp0|exact hp1|exact hp2|exact hp3|exact hp4|exact hPP|exact hPP.1|exact hPP.2|exact hP.1|exact hP.2|exact q2.1|exact q2.2|exact q2.1.1|exact q2.1.2|exact q2.2.1|exact q2.2.2|exact q3.1|exact q3.2|exact q3.1.1|exact q3.1.2|exact q3.2.1|exact q3.2.2|exact (fun h=>absurd (hx.symm.trans h) (by decide))|exact (fun h=>absurd (hz.symm.trans h) (by decide))|exact (fun h=>absurd (hxn.symm.trans h) (by decide))|exact (fun h=>absurd (hzn.symm.trans h) (by decide)))|refine ⟨?_, ?_⟩|intro _)
         all_goals first|(with_reducible first|apply qa|apply qb|apply qc|apply qd)|(conv=>whnf)
         all_goals first|(with_reducible rfl)|decide|((with_reducible show Value.bool (Cg.some _)=_);exact congrArg (fun i:Cg=>Value.bool i.some) ((lin_2 (a:=(⟨b2,m2,r2⟩:Cg)) (b:=(⟨b3,m3,r3⟩:Cg)) (w:=true) rfl hz).symm))|((with_reducible show Value.int _ (Cg.m _)=_);exact congrArg (fun i:Cg=>Value.int .i64 i.m) ((lin_2 (a:=(⟨b2,m2,r2⟩:Cg)) (b:=(⟨b3,m3,r3⟩:Cg)) (w:=true) rfl hz).symm))|((with_reducible show Value.int _ (Cg.r _)=_);exact congrArg (fun i:Cg=>Value.int .i64 i.r) ((lin_2 (a:=(⟨b2,m2,r2⟩:Cg)) (b:=(⟨b3,m3,r3⟩:Cg)) (w:=true) rfl hz).symm))
 . cases h
def FRsScaled:List Ar->Option Rs
 | [.c (.d (.v (.int .i64 i0))),.c (.d (.v (.int .i64 i1)))]=>some ⟨(-9223372036854775808<=i0/\ i0<9223372036854775808)/\ (-9223372036854775808<=i1/\ i1<9223372036854775808)/\ (0<=i0),.va (.c (.d (it (sclI i0 i1)))),[]⟩
 |_=>none
theorem fcRsScaled:FC Tryz.prog 174 FRsScaled:=by
 intro xs pre r us h hp
 unfold FRsScaled at h
 split at h
 . rename_i i0 i1
   cases h
   obtain ⟨hp0,hp1,hp2⟩:=hp
   refine fcat tys_ok (l:= [(175,⟨[],FRsSize⟩),(95,⟨[],FWMul⟩),(94,⟨[],FWInt⟩)]) ⟨fcRsSize,fcWMul,fcWInt,trivial⟩ Tryz.func174 rfl (by kernel_rfl) false ?_
   have hw: ∀_:decide (sizeI i1>9223372036854775807)=false, -9223372036854775808<=IntKind.wrap .i64 (sizeI i1)/\ IntKind.wrap .i64 (sizeI i1)<9223372036854775808:=fun h=>by have:=sc_r hp1;rw [sc_w hp1 h];have:=of_decide_eq_false h;omega
   cases hs:decide (sizeI i1>9223372036854775807)
   . cases hv:wIntB (wd (i0*IntKind.wrap .i64 (sizeI i1))).val
     . have hsn:=congrArg Bool.not hs;simp only [Bool.not_true,Bool.not_false] at hsn
       have hvn:=congrArg Bool.not hv;simp only [Bool.not_true,Bool.not_false] at hvn
       repeat' (first|exact trivial|(with_reducible first|exact hp0|exact hp1|exact hp2|exact hp0.1|exact hp0.2|exact hp1.1|exact hp1.2|exact hp2.1|exact hp2.2|exact wd_ok _|exact (wd_ok _).1.1|exact (wd_ok _).1.2|exact (wd_ok _).2.1|exact (wd_ok _).2.2|exact (fun h:false=true=>absurd h (by decide))|exact (fun h:true=false=>absurd h (by decide))|exact (fun h=>absurd (hs.symm.trans h) (by decide))|exact (fun h=>absurd (hv.symm.trans h) (by decide))|exact (fun h=>absurd (hsn.symm.trans h) (by decide))|exact (fun h=>absurd (hvn.symm.trans h) (by decide)))|refine ⟨?_, ?_⟩|intro _)
       all_goals first|(with_reducible first|apply qa|apply qb|apply qc|apply qd)|(conv=>whnf)
       all_goals first|(with_reducible rfl)|decide|exact (hw hs).1|exact (hw hs).2|exact congrArg (Value.int .i64) (sc_2 hp0 hp1 hp2 hs hv).symm
     . have hsn:=congrArg Bool.not hs;simp only [Bool.not_true,Bool.not_false] at hsn
       have hvn:=congrArg Bool.not hv;simp only [Bool.not_true,Bool.not_false] at hvn
       repeat' (first|exact trivial|(with_reducible first|exact hp0|exact hp1|exact hp2|exact hp0.1|exact hp0.2|exact hp1.1|exact hp1.2|exact hp2.1|exact hp2.2|exact wd_ok _|exact (wd_ok _).1.1|exact (wd_ok _).1.2|exact (wd_ok _).2.1|exact (wd_ok _).2.2|exact (fun h:false=true=>absurd h (by decide))|exact (fun h:true=false=>absurd h (by decide))|exact (fun h=>absurd (hs.symm.trans h) (by decide))|exact (fun h=>absurd (hv.symm.trans h) (by decide))|exact (fun h=>absurd (hsn.symm.trans h) (by decide))|exact (fun h=>absurd (hvn.symm.trans h) (by decide)))|refine ⟨?_, ?_⟩|intro _)
       all_goals first|(with_reducible first|apply qa|apply qb|apply qc|apply qd)|(conv=>whnf)
       all_goals first|(with_reducible rfl)|decide|exact (hw hs).1|exact (hw hs).2|exact congrArg (Value.int .i64) (sc_3 hp0 hp1 hp2 hs hv).symm
   . have hsn:=congrArg Bool.not hs;simp only [Bool.not_true,Bool.not_false] at hsn
     repeat' (first|exact trivial|(with_reducible first|exact hp0|exact hp1|exact hp2|exact hp0.1|exact hp0.2|exact hp1.1|exact hp1.2|exact hp2.1|exact hp2.2|exact wd_ok _|exact (wd_ok _).1.1|exact (wd_ok _).1.2|exact (wd_ok _).2.1|exact (wd_ok _).2.2|exact (fun h:false=true=>absurd h (by decide))|exact (fun h:true=false=>absurd h (by decide))|exact (fun h=>absurd (hs.symm.trans h) (by decide))|exact (fun h=>absurd (hsn.symm.trans h) (by decide)))|refine ⟨?_, ?_⟩|intro _)
     all_goals first|(with_reducible first|apply qa|apply qb|apply qc|apply qd)|(conv=>whnf)
     all_goals first|(with_reducible rfl)|decide|exact congrArg (Value.int .i64) (sc_1 hs).symm
 . cases h
def FRsProduct:List Ar->Option Rs
 | [.agg [.d (.v (.bool b0)),.d (.v (.int .i64 m0)),.d (.v (.int .i64 r0))],.agg [.d (.v (.bool b1)),.d (.v (.int .i64 m1)),.d (.v (.int .i64 r1))],.c (.d (.v (.bool b2)))]=>some ⟨(Cg.inR ⟨b0,m0,r0⟩)/\ (Cg.inR ⟨b1,m1,r1⟩)/\ (0<=m0/\ 0<=m1),.va (Cg.ar (prodC (⟨b0,m0,r0⟩:Cg) (⟨b1,m1,r1⟩:Cg) b2)),[]⟩
 |_=>none
theorem fcRsProduct:FC Tryz.prog 149 FRsProduct:=by
 intro xs pre r us h hp
 unfold FRsProduct at h
 split at h
 . rename_i b0 m0 r0 b1 m1 r1 b2
   cases h
   obtain ⟨hp0,hp1,hp2⟩:=hp
   refine fcat tys_ok (l:= [(120,⟨[],FRsAlone⟩),(64,⟨[],FCOne⟩),(174,⟨[],FRsScaled⟩),(147,⟨[],FRsLinear⟩),(148,⟨[],FRsGcd⟩)]) ⟨fcRsAlone,fcCOne,fcRsScaled,fcRsLinear,fcRsGcd,trivial⟩ Tryz.func149 rfl (by kernel_rfl) false ?_
   have q0:=hp0;unfold Cg.inR at q0;dsimp only at q0
   have q1:=hp1;unfold Cg.inR at q1;dsimp only at q1
   have hg:=gcd_r q0.1 q1.1 hp2
   have hg2:=gcd_r q1.1 q0.1 hp2.symm
   have hs1:=scl_r (c:=r1) q0.1 hp2.1
   have hs2:=scl_r (c:=r0) q1.1 hp2.2
   cases hA:(m0 !=0)
   . cases hl:alC (⟨b0,m0,r0⟩:Cg) 0
     . cases hm:(m0==0)
       . have hAn:=congrArg Bool.not hA;simp only [Bool.not_true,Bool.not_false] at hAn
         have hln:=congrArg Bool.not hl;simp only [Bool.not_true,Bool.not_false] at hln
         have hmn:=congrArg Bool.not hm;simp only [Bool.not_true,Bool.not_false] at hmn
         repeat' (first|exact trivial|(with_reducible first|exact hp0|exact hp1|exact hp2|exact hp0.1|exact hp0.2|exact hp1.1|exact hp1.2|exact hp2.1|exact hp2.2|exact wd_ok _|exact (wd_ok _).1.1|exact (wd_ok _).1.2|exact (wd_ok _).2.1|exact (wd_ok _).2.2|exact (fun h:false=true=>absurd h (by decide))|exact (fun h:true=false=>absurd h (by decide))|exact hp0|exact hp1|exact hp2.1|exact hp2.2|exact hp2|exact hp2.symm|exact hg.1|exact hg.2|exact hg.1.1|exact hg.1.2|exact hg2.1|exact hg2.2|exact hg2.1.1|exact hg2.1.2|exact hs1.1|exact hs1.2|exact hs1.1.1|exact hs1.1.2|exact hs2.1|exact hs2.2|exact hs2.1.1|exact hs2.1.2|exact q0.1|exact q0.2|exact q0.1.1|exact q0.1.2|exact q0.2.1|exact q0.2.2|exact q1.1|exact q1.2|exact q1.1.1|exact q1.1.2|exact q1.2.1|exact q1.2.2|exact (fun h=>absurd (hA.symm.trans h) (by decide))|exact (fun h=>absurd (hl.symm.trans h) (by decide))|exact (fun h=>absurd (hm.symm.trans h) (by decide))|exact (fun h=>absurd (hAn.symm.trans h) (by decide))|exact (fun h=>absurd (hln.symm.trans h) (by decide))|exact (fun h=>absurd (hmn.symm.trans h) (by decide)))|refine ⟨?_, ?_⟩|intro _)
         all_goals first|(with_reducible first|apply qa|apply qb|apply qc|apply qd)|(conv=>whnf)
         all_goals first|(with_reducible rfl)|decide|((with_reducible show Value.bool (Cg.some _)=_);exact congrArg (fun i:Cg=>Value.bool i.some) (((pr_n1 (a:=(⟨b0,m0,r0⟩:Cg)) (b:=(⟨b1,m1,r1⟩:Cg)) (w:=b2) hA).trans (p0_3 (a:=(⟨b0,m0,r0⟩:Cg)) (b:=(⟨b1,m1,r1⟩:Cg)) (w:=b2) hl hm)).symm))|((with_reducible show Value.int _ (Cg.m _)=_);exact congrArg (fun i:Cg=>Value.int .i64 i.m) (((pr_n1 (a:=(⟨b0,m0,r0⟩:Cg)) (b:=(⟨b1,m1,r1⟩:Cg)) (w:=b2) hA).trans (p0_3 (a:=(⟨b0,m0,r0⟩:Cg)) (b:=(⟨b1,m1,r1⟩:Cg)) (w:=b2) hl hm)).symm))|((with_reducible show Value.int _ (Cg.r _)=_);exact congrArg (fun i:Cg=>Value.int .i64 i.r) (((pr_n1 (a:=(⟨b0,m0,r0⟩:Cg)) (b:=(⟨b1,m1,r1⟩:Cg)) (w:=b2) hA).trans (p0_3 (a:=(⟨b0,m0,r0⟩:Cg)) (b:=(⟨b1,m1,r1⟩:Cg)) (w:=b2) hl hm)).symm))
       . have hAn:=congrArg Bool.not hA;simp only [Bool.not_true,Bool.not_false] at hAn
         have hln:=congrArg Bool.not hl;simp only [Bool.not_true,Bool.not_false] at hln
         have hmn:=congrArg Bool.not hm;simp only [Bool.not_true,Bool.not_false] at hmn
         repeat' (first|exact trivial|(with_reducible first|exact hp0|exact hp1|exact hp2|exact hp0.1|exact hp0.2|exact hp1.1|exact hp1.2|exact hp2.1|exact hp2.2|exact wd_ok _|exact (wd_ok _).1.1|exact (wd_ok _).1.2|exact (wd_ok _).2.1|exact (wd_ok _).2.2|exact (fun h:false=true=>absurd h (by decide))|exact (fun h:true=false=>absurd h (by decide))|exact hp0|exact hp1|exact hp2.1|exact hp2.2|exact hp2|exact hp2.symm|exact hg.1|exact hg.2|exact hg.1.1|exact hg.1.2|exact hg2.1|exact hg2.2|exact hg2.1.1|exact hg2.1.2|exact hs1.1|exact hs1.2|exact hs1.1.1|exact hs1.1.2|exact hs2.1|exact hs2.2|exact hs2.1.1|exact hs2.1.2|exact q0.1|exact q0.2|exact q0.1.1|exact q0.1.2|exact q0.2.1|exact q0.2.2|exact q1.1|exact q1.2|exact q1.1.1|exact q1.1.2|exact q1.2.1|exact q1.2.2|exact (fun h=>absurd (hA.symm.trans h) (by decide))|exact (fun h=>absurd (hl.symm.trans h) (by decide))|exact (fun h=>absurd (hm.symm.trans h) (by decide))|exact (fun h=>absurd (hAn.symm.trans h) (by decide))|exact (fun h=>absurd (hln.symm.trans h) (by decide))|exact (fun h=>absurd (hmn.symm.trans h) (by decide)))|refine ⟨?_, ?_⟩|intro _)
         all_goals first|(with_reducible first|apply qa|apply qb|apply qc|apply qd)|(conv=>whnf)
         all_goals first|(with_reducible rfl)|decide|((with_reducible show Value.bool (Cg.some _)=_);exact congrArg (fun i:Cg=>Value.bool i.some) (((pr_n1 (a:=(⟨b0,m0,r0⟩:Cg)) (b:=(⟨b1,m1,r1⟩:Cg)) (w:=b2) hA).trans (p0_2 (a:=(⟨b0,m0,r0⟩:Cg)) (b:=(⟨b1,m1,r1⟩:Cg)) (w:=b2) hl hm)).symm))|((with_reducible show Value.int _ (Cg.m _)=_);exact congrArg (fun i:Cg=>Value.int .i64 i.m) (((pr_n1 (a:=(⟨b0,m0,r0⟩:Cg)) (b:=(⟨b1,m1,r1⟩:Cg)) (w:=b2) hA).trans (p0_2 (a:=(⟨b0,m0,r0⟩:Cg)) (b:=(⟨b1,m1,r1⟩:Cg)) (w:=b2) hl hm)).symm))|((with_reducible show Value.int _ (Cg.r _)=_);exact congrArg (fun i:Cg=>Value.int .i64 i.r) (((pr_n1 (a:=(⟨b0,m0,r0⟩:Cg)) (b:=(⟨b1,m1,r1⟩:Cg)) (w:=b2) hA).trans (p0_2 (a:=(⟨b0,m0,r0⟩:Cg)) (b:=(⟨b1,m1,r1⟩:Cg)) (w:=b2) hl hm)).symm))
     . have hAn:=congrArg Bool.not hA;simp only [Bool.not_true,Bool.not_false] at hAn
       have hln:=congrArg Bool.not hl;simp only [Bool.not_true,Bool.not_false] at hln
       repeat' (first|exact trivial|(with_reducible first|exact hp0|exact hp1|exact hp2|exact hp0.1|exact hp0.2|exact hp1.1|exact hp1.2|exact hp2.1|exact hp2.2|exact wd_ok _|exact (wd_ok _).1.1|exact (wd_ok _).1.2|exact (wd_ok _).2.1|exact (wd_ok _).2.2|exact (fun h:false=true=>absurd h (by decide))|exact (fun h:true=false=>absurd h (by decide))|exact hp0|exact hp1|exact hp2.1|exact hp2.2|exact hp2|exact hp2.symm|exact hg.1|exact hg.2|exact hg.1.1|exact hg.1.2|exact hg2.1|exact hg2.2|exact hg2.1.1|exact hg2.1.2|exact hs1.1|exact hs1.2|exact hs1.1.1|exact hs1.1.2|exact hs2.1|exact hs2.2|exact hs2.1.1|exact hs2.1.2|exact q0.1|exact q0.2|exact q0.1.1|exact q0.1.2|exact q0.2.1|exact q0.2.2|exact q1.1|exact q1.2|exact q1.1.1|exact q1.1.2|exact q1.2.1|exact q1.2.2|exact (fun h=>absurd (hA.symm.trans h) (by decide))|exact (fun h=>absurd (hl.symm.trans h) (by decide))|exact (fun h=>absurd (hAn.symm.trans h) (by decide))|exact (fun h=>absurd (hln.symm.trans h) (by decide)))|refine ⟨?_, ?_⟩|intro _)
       all_goals first|(with_reducible first|apply qa|apply qb|apply qc|apply qd)|(conv=>whnf)
       all_goals first|(with_reducible rfl)|decide|((with_reducible show Value.bool (Cg.some _)=_);exact congrArg (fun i:Cg=>Value.bool i.some) (((pr_n1 (a:=(⟨b0,m0,r0⟩:Cg)) (b:=(⟨b1,m1,r1⟩:Cg)) (w:=b2) hA).trans (p0_1 (a:=(⟨b0,m0,r0⟩:Cg)) (b:=(⟨b1,m1,r1⟩:Cg)) (w:=b2) hl)).symm))|((with_reducible show Value.int _ (Cg.m _)=_);exact congrArg (fun i:Cg=>Value.int .i64 i.m) (((pr_n1 (a:=(⟨b0,m0,r0⟩:Cg)) (b:=(⟨b1,m1,r1⟩:Cg)) (w:=b2) hA).trans (p0_1 (a:=(⟨b0,m0,r0⟩:Cg)) (b:=(⟨b1,m1,r1⟩:Cg)) (w:=b2) hl)).symm))|((with_reducible show Value.int _ (Cg.r _)=_);exact congrArg (fun i:Cg=>Value.int .i64 i.r) (((pr_n1 (a:=(⟨b0,m0,r0⟩:Cg)) (b:=(⟨b1,m1,r1⟩:Cg)) (w:=b2) hA).trans (p0_1 (a:=(⟨b0,m0,r0⟩:Cg)) (b:=(⟨b1,m1,r1⟩:Cg)) (w:=b2) hl)).symm))
   . cases hB:(m1==0)
     . cases hl:alC (⟨b0,m0,r0⟩:Cg) 0
       . cases hm:(m0==0)
         . have hAn:=congrArg Bool.not hA;simp only [Bool.not_true,Bool.not_false] at hAn
           have hBn:=congrArg Bool.not hB;simp only [Bool.not_true,Bool.not_false] at hBn
           have hln:=congrArg Bool.not hl;simp only [Bool.not_true,Bool.not_false] at hln
           have hmn:=congrArg Bool.not hm;simp only [Bool.not_true,Bool.not_false] at hmn
           repeat' (first|exact trivial|(with_reducible first|exact hp0|exact hp1|exact hp2|exact hp0.1|exact hp0.2|exact hp1.1|exact hp1.2|exact hp2.1|exact hp2.2|exact wd_ok _|exact (wd_ok _).1.1|exact (wd_ok _).1.2|exact (wd_ok _).2.1|exact (wd_ok _).2.2|exact (fun h:false=true=>absurd h (by decide))|exact (fun h:true=false=>absurd h (by decide))|exact hp0|exact hp1|exact hp2.1|exact hp2.2|exact hp2|exact hp2.symm|exact hg.1|exact hg.2|exact hg.1.1|exact hg.1.2|exact hg2.1|exact hg2.2|exact hg2.1.1|exact hg2.1.2|exact hs1.1|exact hs1.2|exact hs1.1.1|exact hs1.1.2|exact hs2.1|exact hs2.2|exact hs2.1.1|exact hs2.1.2|exact q0.1|exact q0.2|exact q0.1.1|exact q0.1.2|exact q0.2.1|exact q0.2.2|exact q1.1|exact q1.2|exact q1.1.1|exact q1.1.2|exact q1.2.1|exact q1.2.2|exact (fun h=>absurd (hA.symm.trans h) (by decide))|exact (fun h=>absurd (hB.symm.trans h) (by decide))|exact (fun h=>absurd (hl.symm.trans h) (by decide))|exact (fun h=>absurd (hm.symm.trans h) (by decide))|exact (fun h=>absurd (hAn.symm.trans h) (by decide))|exact (fun h=>absurd (hBn.symm.trans h) (by decide))|exact (fun h=>absurd (hln.symm.trans h) (by decide))|exact (fun h=>absurd (hmn.symm.trans h) (by decide)))|refine ⟨?_, ?_⟩|intro _)
           all_goals first|(with_reducible first|apply qa|apply qb|apply qc|apply qd)|(conv=>whnf)
           all_goals first|(with_reducible rfl)|decide|((with_reducible show Value.bool (Cg.some _)=_);exact congrArg (fun i:Cg=>Value.bool i.some) (((pr_n2 (a:=(⟨b0,m0,r0⟩:Cg)) (b:=(⟨b1,m1,r1⟩:Cg)) (w:=b2) hB).trans (p0_3 (a:=(⟨b0,m0,r0⟩:Cg)) (b:=(⟨b1,m1,r1⟩:Cg)) (w:=b2) hl hm)).symm))|((with_reducible show Value.int _ (Cg.m _)=_);exact congrArg (fun i:Cg=>Value.int .i64 i.m) (((pr_n2 (a:=(⟨b0,m0,r0⟩:Cg)) (b:=(⟨b1,m1,r1⟩:Cg)) (w:=b2) hB).trans (p0_3 (a:=(⟨b0,m0,r0⟩:Cg)) (b:=(⟨b1,m1,r1⟩:Cg)) (w:=b2) hl hm)).symm))|((with_reducible show Value.int _ (Cg.r _)=_);exact congrArg (fun i:Cg=>Value.int .i64 i.r) (((pr_n2 (a:=(⟨b0,m0,r0⟩:Cg)) (b:=(⟨b1,m1,r1⟩:Cg)) (w:=b2) hB).trans (p0_3 (a:=(⟨b0,m0,r0⟩:Cg)) (b:=(⟨b1,m1,r1⟩:Cg)) (w:=b2) hl hm)).symm))
         . have hAn:=congrArg Bool.not hA;simp only [Bool.not_true,Bool.not_false] at hAn
           have hBn:=congrArg Bool.not hB;simp only [Bool.not_true,Bool.not_false] at hBn
           have hln:=congrArg Bool.not hl;simp only [Bool.not_true,Bool.not_false] at hln
           have hmn:=congrArg Bool.not hm;simp only [Bool.not_true,Bool.not_false] at hmn
           repeat' (first|exact trivial|(with_reducible first|exact hp0|exact hp1|exact hp2|exact hp0.1|exact hp0.2|exact hp1.1|exact hp1.2|exact hp2.1|exact hp2.2|exact wd_ok _|exact (wd_ok _).1.1|exact (wd_ok _).1.2|exact (wd_ok _).2.1|exact (wd_ok _).2.2|exact (fun h:false=true=>absurd h (by decide))|exact (fun h:true=false=>absurd h (by decide))|exact hp0|exact hp1|exact hp2.1|exact hp2.2|exact hp2|exact hp2.symm|exact hg.1|exact hg.2|exact hg.1.1|exact hg.1.2|exact hg2.1|exact hg2.2|exact hg2.1.1|exact hg2.1.2|exact hs1.1|exact hs1.2|exact hs1.1.1|exact hs1.1.2|exact hs2.1|exact hs2.2|exact hs2.1.1|exact hs2.1.2|exact q0.1|exact q0.2|exact q0.1.1|exact q0.1.2|exact q0.2.1|exact q0.2.2|exact q1.1|exact q1.2|exact q1.1.1|exact q1.1.2|exact q1.2.1|exact q1.2.2|exact (fun h=>absurd (hA.symm.trans h) (by decide))|exact (fun h=>absurd (hB.symm.trans h) (by decide))|exact (fun h=>absurd (hl.symm.trans h) (by decide))|exact (fun h=>absurd (hm.symm.trans h) (by decide))|exact (fun h=>absurd (hAn.symm.trans h) (by decide))|exact (fun h=>absurd (hBn.symm.trans h) (by decide))|exact (fun h=>absurd (hln.symm.trans h) (by decide))|exact (fun h=>absurd (hmn.symm.trans h) (by decide)))|refine ⟨?_, ?_⟩|intro _)
           all_goals first|(with_reducible first|apply qa|apply qb|apply qc|apply qd)|(conv=>whnf)
           all_goals first|(with_reducible rfl)|decide|((with_reducible show Value.bool (Cg.some _)=_);exact congrArg (fun i:Cg=>Value.bool i.some) (((pr_n2 (a:=(⟨b0,m0,r0⟩:Cg)) (b:=(⟨b1,m1,r1⟩:Cg)) (w:=b2) hB).trans (p0_2 (a:=(⟨b0,m0,r0⟩:Cg)) (b:=(⟨b1,m1,r1⟩:Cg)) (w:=b2) hl hm)).symm))|((with_reducible show Value.int _ (Cg.m _)=_);exact congrArg (fun i:Cg=>Value.int .i64 i.m) (((pr_n2 (a:=(⟨b0,m0,r0⟩:Cg)) (b:=(⟨b1,m1,r1⟩:Cg)) (w:=b2) hB).trans (p0_2 (a:=(⟨b0,m0,r0⟩:Cg)) (b:=(⟨b1,m1,r1⟩:Cg)) (w:=b2) hl hm)).symm))|((with_reducible show Value.int _ (Cg.r _)=_);exact congrArg (fun i:Cg=>Value.int .i64 i.r) (((pr_n2 (a:=(⟨b0,m0,r0⟩:Cg)) (b:=(⟨b1,m1,r1⟩:Cg)) (w:=b2) hB).trans (p0_2 (a:=(⟨b0,m0,r0⟩:Cg)) (b:=(⟨b1,m1,r1⟩:Cg)) (w:=b2) hl hm)).symm))
       . have hAn:=congrArg Bool.not hA;simp only [Bool.not_true,Bool.not_false] at hAn
         have hBn:=congrArg Bool.not hB;simp only [Bool.not_true,Bool.not_false] at hBn
         have hln:=congrArg Bool.not hl;simp only [Bool.not_true,Bool.not_false] at hln
         repeat' (first|exact trivial|(with_reducible first|exact hp0|exact hp1|exact hp2|exact hp0.1|exact hp0.2|exact hp1.1|exact hp1.2|exact hp2.1|exact hp2.2|exact wd_ok _|exact (wd_ok _).1.1|exact (wd_ok _).1.2|exact (wd_ok _).2.1|exact (wd_ok _).2.2|exact (fun h:false=true=>absurd h (by decide))|exact (fun h:true=false=>absurd h (by decide))|exact hp0|exact hp1|exact hp2.1|exact hp2.2|exact hp2|exact hp2.symm|exact hg.1|exact hg.2|exact hg.1.1|exact hg.1.2|exact hg2.1|exact hg2.2|exact hg2.1.1|exact hg2.1.2|exact hs1.1|exact hs1.2|exact hs1.1.1|exact hs1.1.2|exact hs2.1|exact hs2.2|exact hs2.1.1|exact hs2.1.2|exact q0.1|exact q0.2|exact q0.1.1|exact q0.1.2|exact q0.2.1|exact q0.2.2|exact q1.1|exact q1.2|exact q1.1.1|exact q1.1.2|exact q1.2.1|exact q1.2.2|exact (fun h=>absurd (hA.symm.trans h) (by decide))|exact (fun h=>absurd (hB.symm.trans h) (by decide))|exact (fun h=>absurd (hl.symm.trans h) (by decide))|exact (fun h=>absurd (hAn.symm.trans h) (by decide))|exact (fun h=>absurd (hBn.symm.trans h) (by decide))|exact (fun h=>absurd (hln.symm.trans h) (by decide)))|refine ⟨?_, ?_⟩|intro _)
         all_goals first|(with_reducible first|apply qa|apply qb|apply qc|apply qd)|(conv=>whnf)
         all_goals first|(with_reducible rfl)|decide|((with_reducible show Value.bool (Cg.some _)=_);exact congrArg (fun i:Cg=>Value.bool i.some) (((pr_n2 (a:=(⟨b0,m0,r0⟩:Cg)) (b:=(⟨b1,m1,r1⟩:Cg)) (w:=b2) hB).trans (p0_1 (a:=(⟨b0,m0,r0⟩:Cg)) (b:=(⟨b1,m1,r1⟩:Cg)) (w:=b2) hl)).symm))|((with_reducible show Value.int _ (Cg.m _)=_);exact congrArg (fun i:Cg=>Value.int .i64 i.m) (((pr_n2 (a:=(⟨b0,m0,r0⟩:Cg)) (b:=(⟨b1,m1,r1⟩:Cg)) (w:=b2) hB).trans (p0_1 (a:=(⟨b0,m0,r0⟩:Cg)) (b:=(⟨b1,m1,r1⟩:Cg)) (w:=b2) hl)).symm))|((with_reducible show Value.int _ (Cg.r _)=_);exact congrArg (fun i:Cg=>Value.int .i64 i.r) (((pr_n2 (a:=(⟨b0,m0,r0⟩:Cg)) (b:=(⟨b1,m1,r1⟩:Cg)) (w:=b2) hB).trans (p0_1 (a:=(⟨b0,m0,r0⟩:Cg)) (b:=(⟨b1,m1,r1⟩:Cg)) (w:=b2) hl)).symm))
     . cases hl:alC (⟨b1,m1,r1⟩:Cg) 0
       . cases hm:(m1==0)
         . have hAn:=congrArg Bool.not hA;simp only [Bool.not_true,Bool.not_false] at hAn
           have hBn:=congrArg Bool.not hB;simp only [Bool.not_true,Bool.not_false] at hBn
           have hln:=congrArg Bool.not hl;simp only [Bool.not_true,Bool.not_false] at hln
           have hmn:=congrArg Bool.not hm;simp only [Bool.not_true,Bool.not_false] at hmn
           repeat' (first|exact trivial|(with_reducible first|exact hp0|exact hp1|exact hp2|exact hp0.1|exact hp0.2|exact hp1.1|exact hp1.2|exact hp2.1|exact hp2.2|exact wd_ok _|exact (wd_ok _).1.1|exact (wd_ok _).1.2|exact (wd_ok _).2.1|exact (wd_ok _).2.2|exact (fun h:false=true=>absurd h (by decide))|exact (fun h:true=false=>absurd h (by decide))|exact hp0|exact hp1|exact hp2.1|exact hp2.2|exact hp2|exact hp2.symm|exact hg.1|exact hg.2|exact hg.1.1|exact hg.1.2|exact hg2.1|exact hg2.2|exact hg2.1.1|exact hg2.1.2|exact hs1.1|exact hs1.2|exact hs1.1.1|exact hs1.1.2|exact hs2.1|exact hs2.2|exact hs2.1.1|exact hs2.1.2|exact q0.1|exact q0.2|exact q0.1.1|exact q0.1.2|exact q0.2.1|exact q0.2.2|exact q1.1|exact q1.2|exact q1.1.1|exact q1.1.2|exact q1.2.1|exact q1.2.2|exact (fun h=>absurd (hA.symm.trans h) (by decide))|exact (fun h=>absurd (hB.symm.trans h) (by decide))|exact (fun h=>absurd (hl.symm.trans h) (by decide))|exact (fun h=>absurd (hm.symm.trans h) (by decide))|exact (fun h=>absurd (hAn.symm.trans h) (by decide))|exact (fun h=>absurd (hBn.symm.trans h) (by decide))|exact (fun h=>absurd (hln.symm.trans h) (by decide))|exact (fun h=>absurd (hmn.symm.trans h) (by decide)))|refine ⟨?_, ?_⟩|intro _)
           all_goals first|(with_reducible first|apply qa|apply qb|apply qc|apply qd)|(conv=>whnf)
           all_goals first|(with_reducible rfl)|decide|((with_reducible show Value.bool (Cg.some _)=_);exact congrArg (fun i:Cg=>Value.bool i.some) (((pr_s (a:=(⟨b0,m0,r0⟩:Cg)) (b:=(⟨b1,m1,r1⟩:Cg)) (w:=b2) hA hB).trans (p0_3 (a:=(⟨b1,m1,r1⟩:Cg)) (b:=(⟨b0,m0,r0⟩:Cg)) (w:=b2) hl hm)).symm))|((with_reducible show Value.int _ (Cg.m _)=_);exact congrArg (fun i:Cg=>Value.int .i64 i.m) (((pr_s (a:=(⟨b0,m0,r0⟩:Cg)) (b:=(⟨b1,m1,r1⟩:Cg)) (w:=b2) hA hB).trans (p0_3 (a:=(⟨b1,m1,r1⟩:Cg)) (b:=(⟨b0,m0,r0⟩:Cg)) (w:=b2) hl hm)).symm))|((with_reducible show Value.int _ (Cg.r _)=_);exact congrArg (fun i:Cg=>Value.int .i64 i.r) (((pr_s (a:=(⟨b0,m0,r0⟩:Cg)) (b:=(⟨b1,m1,r1⟩:Cg)) (w:=b2) hA hB).trans (p0_3 (a:=(⟨b1,m1,r1⟩:Cg)) (b:=(⟨b0,m0,r0⟩:Cg)) (w:=b2) hl hm)).symm))
         . have hAn:=congrArg Bool.not hA;simp only [Bool.not_true,Bool.not_false] at hAn
           have hBn:=congrArg Bool.not hB;simp only [Bool.not_true,Bool.not_false] at hBn
           have hln:=congrArg Bool.not hl;simp only [Bool.not_true,Bool.not_false] at hln
           have hmn:=congrArg Bool.not hm;simp only [Bool.not_true,Bool.not_false] at hmn
           repeat' (first|exact trivial|(with_reducible first|exact hp0|exact hp1|exact hp2|exact hp0.1|exact hp0.2|exact hp1.1|exact hp1.2|exact hp2.1|exact hp2.2|exact wd_ok _|exact (wd_ok _).1.1|exact (wd_ok _).1.2|exact (wd_ok _).2.1|exact (wd_ok _).2.2|exact (fun h:false=true=>absurd h (by decide))|exact (fun h:true=false=>absurd h (by decide))|exact hp0|exact hp1|exact hp2.1|exact hp2.2|exact hp2|exact hp2.symm|exact hg.1|exact hg.2|exact hg.1.1|exact hg.1.2|exact hg2.1|exact hg2.2|exact hg2.1.1|exact hg2.1.2|exact hs1.1|exact hs1.2|exact hs1.1.1|exact hs1.1.2|exact hs2.1|exact hs2.2|exact hs2.1.1|exact hs2.1.2|exact q0.1|exact q0.2|exact q0.1.1|exact q0.1.2|exact q0.2.1|exact q0.2.2|exact q1.1|exact q1.2|exact q1.1.1|exact q1.1.2|exact q1.2.1|exact q1.2.2|exact (fun h=>absurd (hA.symm.trans h) (by decide))|exact (fun h=>absurd (hB.symm.trans h) (by decide))|exact (fun h=>absurd (hl.symm.trans h) (by decide))|exact (fun h=>absurd (hm.symm.trans h) (by decide))|exact (fun h=>absurd (hAn.symm.trans h) (by decide))|exact (fun h=>absurd (hBn.symm.trans h) (by decide))|exact (fun h=>absurd (hln.symm.trans h) (by decide))|exact (fun h=>absurd (hmn.symm.trans h) (by decide)))|refine ⟨?_, ?_⟩|intro _)
           all_goals first|(with_reducible first|apply qa|apply qb|apply qc|apply qd)|(conv=>whnf)
           all_goals first|(with_reducible rfl)|decide|((with_reducible show Value.bool (Cg.some _)=_);exact congrArg (fun i:Cg=>Value.bool i.some) (((pr_s (a:=(⟨b0,m0,r0⟩:Cg)) (b:=(⟨b1,m1,r1⟩:Cg)) (w:=b2) hA hB).trans (p0_2 (a:=(⟨b1,m1,r1⟩:Cg)) (b:=(⟨b0,m0,r0⟩:Cg)) (w:=b2) hl hm)).symm))|((with_reducible show Value.int _ (Cg.m _)=_);exact congrArg (fun i:Cg=>Value.int .i64 i.m) (((pr_s (a:=(⟨b0,m0,r0⟩:Cg)) (b:=(⟨b1,m1,r1⟩:Cg)) (w:=b2) hA hB).trans (p0_2 (a:=(⟨b1,m1,r1⟩:Cg)) (b:=(⟨b0,m0,r0⟩:Cg)) (w:=b2) hl hm)).symm))|((with_reducible show Value.int _ (Cg.r _)=_);exact congrArg (fun i:Cg=>Value.int .i64 i.r) (((pr_s (a:=(⟨b0,m0,r0⟩:Cg)) (b:=(⟨b1,m1,r1⟩:Cg)) (w:=b2) hA hB).trans (p0_2 (a:=(⟨b1,m1,r1⟩:Cg)) (b:=(⟨b0,m0,r0⟩:Cg)) (w:=b2) hl hm)).symm))
       . have hAn:=congrArg Bool.not hA;simp only [Bool.not_true,Bool.not_false] at hAn
         have hBn:=congrArg Bool.not hB;simp only [Bool.not_true,Bool.not_false] at hBn
         have hln:=congrArg Bool.not hl;simp only [Bool.not_true,Bool.not_false] at hln
         repeat' (first|exact trivial|(with_reducible first|exact hp0|exact hp1|exact hp2|exact hp0.1|exact hp0.2|exact hp1.1|exact hp1.2|exact hp2.1|exact hp2.2|exact wd_ok _|exact (wd_ok _).1.1|exact (wd_ok _).1.2|exact (wd_ok _).2.1|exact (wd_ok _).2.2|exact (fun h:false=true=>absurd h (by decide))|exact (fun h:true=false=>absurd h (by decide))|exact hp0|exact hp1|exact hp2.1|exact hp2.2|exact hp2|exact hp2.symm|exact hg.1|exact hg.2|exact hg.1.1|exact hg.1.2|exact hg2.1|exact hg2.2|exact hg2.1.1|exact hg2.1.2|exact hs1.1|exact hs1.2|exact hs1.1.1|exact hs1.1.2|exact hs2.1|exact hs2.2|exact hs2.1.1|exact hs2.1.2|exact q0.1|exact q0.2|exact q0.1.1|exact q0.1.2|exact q0.2.1|exact q0.2.2|exact q1.1|exact q1.2|exact q1.1.1|exact q1.1.2|exact q1.2.1|exact q1.2.2|exact (fun h=>absurd (hA.symm.trans h) (by decide))|exact (fun h=>absurd (hB.symm.trans h) (by decide))|exact (fun h=>absurd (hl.symm.trans h) (by decide))|exact (fun h=>absurd (hAn.symm.trans h) (by decide))|exact (fun h=>absurd (hBn.symm.trans h) (by decide))|exact (fun h=>absurd (hln.symm.trans h) (by decide)))|refine ⟨?_, ?_⟩|intro _)
         all_goals first|(with_reducible first|apply qa|apply qb|apply qc|apply qd)|(conv=>whnf)
         all_goals first|(with_reducible rfl)|decide|((with_reducible show Value.bool (Cg.some _)=_);exact congrArg (fun i:Cg=>Value.bool i.some) (((pr_s (a:=(⟨b0,m0,r0⟩:Cg)) (b:=(⟨b1,m1,r1⟩:Cg)) (w:=b2) hA hB).trans (p0_1 (a:=(⟨b1,m1,r1⟩:Cg)) (b:=(⟨b0,m0,r0⟩:Cg)) (w:=b2) hl)).symm))|((with_reducible show Value.int _ (Cg.m _)=_);exact congrArg (fun i:Cg=>Value.int .i64 i.m) (((pr_s (a:=(⟨b0,m0,r0⟩:Cg)) (b:=(⟨b1,m1,r1⟩:Cg)) (w:=b2) hA hB).trans (p0_1 (a:=(⟨b1,m1,r1⟩:Cg)) (b:=(⟨b0,m0,r0⟩:Cg)) (w:=b2) hl)).symm))|((with_reducible show Value.int _ (Cg.r _)=_);exact congrArg (fun i:Cg=>Value.int .i64 i.r) (((pr_s (a:=(⟨b0,m0,r0⟩:Cg)) (b:=(⟨b1,m1,r1⟩:Cg)) (w:=b2) hA hB).trans (p0_1 (a:=(⟨b1,m1,r1⟩:Cg)) (b:=(⟨b0,m0,r0⟩:Cg)) (w:=b2) hl)).symm))
 . cases h
end Go.Proofs.YtehpbhpmkhlldaaGreat
