/- What congruences come to: more. No condition. -/
import Derived.Test.YtiblbnhknemloaaGreatG11
set_option linter.all false
set_option maxHeartbeats 8000000
set_option maxRecDepth 100000
namespace Go.Proofs.YtiblbnhknemloaaGreat
open Tryz
open Go.Sx
theorem aE9 {k:Int} (h:0<=k) (h2:(k==0)=false):0<k:=by have:=ne_of_beq_false h2;omega
theorem aRN {m:Int} (h0:0<=m) (h1:m<9223372036854775808):0<=kB m/\ kB m<9223372036854775808:=by
 rcases Int.lt_or_le 0 m with hp|hp
 . have:=aPi hp h1;omega
 . obtain rfl:m=0:=by omega
   rw [aZg];decide
section
variable {op m k:Int} {a b:Cg} {w:Bool} (hk:(if w=true then kB m else m)=k)
include hk
theorem aBD (h:fN op=false):kW op m a b w=Cg.of 1 0:=by unfold kW;rw [hk];dsimp only;rw [if_pos (.inl h)];rfl
theorem aBE (h:(k==0)=true):kW op m a b w=Cg.of 1 0:=by unfold kW;rw [hk];dsimp only;rw [if_pos (.inr (eq_of_beq h))];rfl
theorem aBF (ra: -9223372036854775808<=a.r/\ a.r<9223372036854775808) (rb: -9223372036854775808<=b.r/\ b.r<9223372036854775808) (h:fN op=true) (h2:(k==0)=false):kW op m a b w=Cg.of k ((wd (dB op a.r b.r)).val%k):=by
 have:=aBm (op:=op) ra rb
 unfold kW;rw [hk];dsimp only;rw [if_neg (by rintro (x|x);exact absurd (h.symm.trans x) j5;exact ne_of_beq_false h2 x),sP this.1 this.2]
end
theorem aCd {c:Int} (h: -9223372036854775808<=c/\ c<9223372036854775808):0<=aX c/\ aX c<=9223372036854775808:=j0w
section
variable {m c:Int} (hm: -9223372036854775808≤m∧m<9223372036854775808) (hc: -9223372036854775808≤c∧c<9223372036854775808) (h0:0≤m)
theorem bD4 (h:decide (aX c>9223372036854775807)=true):lJ m c=m:=by unfold lJ;rw [if_pos (of_decide_eq_true h)]
include hc in
theorem aTz (h:decide (aX c>9223372036854775807)=false):IntKind.wrap .i64 (aX c)=aX c:=by have:=aCd hc;have:=of_decide_eq_false h;exact aR _ j3 j3
include hm hc h0 in
theorem aTA (h:decide (aX c>9223372036854775807)=false):(wd (m*IntKind.wrap .i64 (aX c))).val=m*aX c:=by
 rw [aTz hc h];have:=aCd hc
 have a1:=Int.mul_nonneg h0 this.1
 have a2:m*aX c<=(9223372036854775808-1)*9223372036854775808:=by
  have b1:=Int.mul_le_mul_of_nonneg_right (show m<=9223372036854775808-1 by omega) this.1
  have b2:=Int.mul_le_mul_of_nonneg_left this.2 (show (0:Int)<=9223372036854775808-1 by decide)
  omega
 exact dH j3 j3
include hm hc h0 in
theorem bD5 (h:decide (aX c>9223372036854775807)=false) (h2:bJ (wd (m*IntKind.wrap .i64 (aX c))).val=false):lJ m c=m:=by
 rw [aTA hm hc h0 h] at h2;unfold lJ;rw [if_neg (of_decide_eq_false h),if_neg x9]
include hm hc h0 in
theorem bD6 (h:decide (aX c>9223372036854775807)=false) (h2:bJ (wd (m*IntKind.wrap .i64 (aX c))).val=true):lJ m c=cI (wd (m*IntKind.wrap .i64 (aX c))).val:=by
 rw [aTA hm hc h0 h] at*
 unfold lJ cI;rw [if_neg (of_decide_eq_false h),if_pos h2,if_pos (by unfold bJ at h2;exact of_decide_eq_true h2)]
end
section
variable {a b:Cg} {w:Bool}
theorem aCe (h:(a.m !=0)=true) (h2:(b.m==0)=true):rL a b w=oM b a w:=by unfold rL;rw [if_pos ⟨by simpa using h,by simpa using h2⟩]
theorem uN (h:(a.m !=0)=false):rL a b w=oM a b w:=by unfold rL;rw [if_neg (by rintro ⟨x, -⟩;simp at h;exact x h)]
theorem uO (h:(b.m==0)=false):rL a b w=oM a b w:=by unfold rL;rw [if_neg (by rintro ⟨-,x⟩;simp at h;exact h x)]
theorem vI (h:dU a 0=true):oM a b w=Cg.of 0 0:=by unfold oM;rw [if_pos h]
theorem vJ (h:dU a 0=false) (h2:(a.m==0)=true):oM a b w=kW 7 (lJ b.m a.r) a b w:=by unfold oM;rw [if_neg w5,if_pos (eq_of_beq h2)]
theorem aCf (h:dU a 0=false) (h2:(a.m==0)=false):oM a b w=kW 7 (Int.gcd a.m b.m:Int) a b w:=by unfold oM;rw [if_neg w5,if_neg (ne_of_beq_false h2)]
end
theorem aLB {m c:Int} (hm: -9223372036854775808<=m/\ m<9223372036854775808) (h0:0<=m):(-9223372036854775808<=lJ m c/\ lJ m c<9223372036854775808)/\ 0<=lJ m c:=by
 have:=bA4 (c:=c) (z:=m) h0 hm.2 (Int.dvd_refl _);omega
theorem zZ {m n:Int} (hm: -9223372036854775808<=m/\ m<9223372036854775808) (hn: -9223372036854775808<=n/\ n<9223372036854775808) (h0:0<=m/\ 0<=n):(-9223372036854775808<=(Int.gcd m n:Int)/\ (Int.gcd m n:Int)<9223372036854775808)/\ 0<=(Int.gcd m n:Int):=by
 have:=aRJ ⟨h0.1,hm.2⟩ ⟨h0.2,hn.2⟩;omega
def aET:List Ar->Option Rs
 | [.c (.d (.v (.int .i64 i0))),.c (.d (.v (.int .i64 i1))),.agg [.d (.v (.bool b2)),.d (.v (.int .i64 m2)),.d (.v (.int .i64 r2))],.agg [.d (.v (.bool b3)),.d (.v (.int .i64 m3)),.d (.v (.int .i64 r3))],.c (.d (.v (.bool b4)))]=>some ⟨(-9223372036854775808<=i0/\ i0<9223372036854775808)/\ (-9223372036854775808<=i1/\ i1<9223372036854775808)/\ (Cg.inR ⟨b2,m2,r2⟩)/\ (Cg.inR ⟨b3,m3,r3⟩)/\ (0<=i1),.va (Cg.ar (kW i0 i1 (⟨b2,m2,r2⟩:Cg) (⟨b3,m3,r3⟩:Cg) b4)),[]⟩
 |_=>none
theorem aNT:FC prog 247 aET:=by
 intro xs pre r us h hp;unfold aET at h;split at h
 . rename_i i0 i1 b2 m2 r2 b3 m3 r3 b4
   cases h;obtain ⟨a7,a8,af,di,s3⟩:=hp
   refine aE aA (l:= [(292,⟨[],aJH⟩),(240,⟨[],aA4⟩),(135,⟨[],uZ⟩),(293,⟨[],aJI⟩),(136,⟨[],rS⟩)]) ⟨aXk,aE7,zU,aXl,uX,trivial⟩ func247 rfl j4 false ?_
   have hP:=aRN s3 a8.2
   have q2:=af;unfold Cg.inR at q2;dsimp only at q2
   have q3:=di;unfold Cg.inR at q3;dsimp only at q3
   have EG: -9223372036854775808<=kB i1/\ kB i1<9223372036854775808:=⟨by omega,hP.2⟩
   cases b4
   . have jc:=s3
     have ia:=a8.2
     cases hx:fN i0
     . have kv:=congrArg Bool.not hx;simp only [Bool.not_true,Bool.not_false] at kv
       repeat' (first|exact trivial|(with_reducible first|exact a7|exact j3r|exact q2.2|exact q3.2|exact nx kv)|refine ⟨?_,?_⟩|intro _)
       all_goals first|(conv=>whnf)
       all_goals first|((with_reducible show Value.bool (Cg.some _)=_);exact congrArg (fun i:Cg=>Value.bool i.some) ((aBD (a:=(⟨b2,m2,r2⟩:Cg)) (b:=(⟨b3,m3,r3⟩:Cg)) (w:=false) rfl hx).symm))|((with_reducible show Value.int _ (Cg.m _)=_);exact congrArg (fun i:Cg=>Value.int .i64 i.m) ((aBD (a:=(⟨b2,m2,r2⟩:Cg)) (b:=(⟨b3,m3,r3⟩:Cg)) (w:=false) rfl hx).symm))|((with_reducible show Value.int _ (Cg.r _)=_);exact congrArg (fun i:Cg=>Value.int .i64 i.r) ((aBD (a:=(⟨b2,m2,r2⟩:Cg)) (b:=(⟨b3,m3,r3⟩:Cg)) (w:=false) rfl hx).symm))
     . cases hz:(i1==0)
       . have kv:=congrArg Bool.not hx;simp only [Bool.not_true,Bool.not_false] at kv
         have vf:=congrArg Bool.not hz;simp only [Bool.not_true,Bool.not_false] at vf
         (repeat' (first|exact trivial|(with_reducible first|exact a7|exact a8|exact bL _|exact j3r|exact j5n)|refine ⟨?_,?_⟩|intro _));all_goals first|apply qq|conv=>whnf
         all_goals first|((with_reducible show Value.bool (Cg.some _)=_);exact congrArg (fun i:Cg=>Value.bool i.some) ((aBF (a:=(⟨b2,m2,r2⟩:Cg)) (b:=(⟨b3,m3,r3⟩:Cg)) (w:=false) rfl q2.2 q3.2 hx hz).symm))|((with_reducible show Value.int _ (Cg.m _)=_);exact congrArg (fun i:Cg=>Value.int .i64 i.m) ((aBF (a:=(⟨b2,m2,r2⟩:Cg)) (b:=(⟨b3,m3,r3⟩:Cg)) (w:=false) rfl q2.2 q3.2 hx hz).symm))|((with_reducible show Value.int _ (Cg.r _)=_);exact congrArg (fun i:Cg=>Value.int .i64 i.r) ((aBF (a:=(⟨b2,m2,r2⟩:Cg)) (b:=(⟨b3,m3,r3⟩:Cg)) (w:=false) rfl q2.2 q3.2 hx hz).symm))|exact j3x
       . have kv:=congrArg Bool.not hx;simp only [Bool.not_true,Bool.not_false] at kv
         have vf:=congrArg Bool.not hz;simp only [Bool.not_true,Bool.not_false] at vf
         repeat' (first|exact trivial|(with_reducible first|exact a7|exact j3r|exact j5n)|refine ⟨?_,?_⟩|intro _)
         all_goals first|(conv=>whnf)
         all_goals first|((with_reducible show Value.bool (Cg.some _)=_);exact congrArg (fun i:Cg=>Value.bool i.some) ((aBE (a:=(⟨b2,m2,r2⟩:Cg)) (b:=(⟨b3,m3,r3⟩:Cg)) (w:=false) rfl hz).symm))|((with_reducible show Value.int _ (Cg.m _)=_);exact congrArg (fun i:Cg=>Value.int .i64 i.m) ((aBE (a:=(⟨b2,m2,r2⟩:Cg)) (b:=(⟨b3,m3,r3⟩:Cg)) (w:=false) rfl hz).symm))|((with_reducible show Value.int _ (Cg.r _)=_);exact congrArg (fun i:Cg=>Value.int .i64 i.r) ((aBE (a:=(⟨b2,m2,r2⟩:Cg)) (b:=(⟨b3,m3,r3⟩:Cg)) (w:=false) rfl hz).symm))
   . have jc:=hP.1
     have ia:=hP.2
     cases hx:fN i0
     . have kv:=congrArg Bool.not hx;simp only [Bool.not_true,Bool.not_false] at kv
       repeat' (first|exact trivial|(with_reducible first|assumption|exact j4c|exact q2.2|exact q3.2|exact nx kv)|refine ⟨?_,?_⟩|intro _)
       all_goals first|(conv=>whnf)
       all_goals first|((with_reducible show Value.bool (Cg.some _)=_);exact congrArg (fun i:Cg=>Value.bool i.some) ((aBD (a:=(⟨b2,m2,r2⟩:Cg)) (b:=(⟨b3,m3,r3⟩:Cg)) (w:=true) rfl hx).symm))|((with_reducible show Value.int _ (Cg.m _)=_);exact congrArg (fun i:Cg=>Value.int .i64 i.m) ((aBD (a:=(⟨b2,m2,r2⟩:Cg)) (b:=(⟨b3,m3,r3⟩:Cg)) (w:=true) rfl hx).symm))|((with_reducible show Value.int _ (Cg.r _)=_);exact congrArg (fun i:Cg=>Value.int .i64 i.r) ((aBD (a:=(⟨b2,m2,r2⟩:Cg)) (b:=(⟨b3,m3,r3⟩:Cg)) (w:=true) rfl hx).symm))
     . cases hz:(kB i1==0)
       . have kv:=congrArg Bool.not hx;simp only [Bool.not_true,Bool.not_false] at kv
         have vf:=congrArg Bool.not hz;simp only [Bool.not_true,Bool.not_false] at vf
         (repeat' (first|exact trivial|(with_reducible first|exact a7|exact a8|exact bL _|exact j4c|exact s3|exact EG|exact j5n)|refine ⟨?_,?_⟩|intro _));all_goals first|apply qq|conv=>whnf
         all_goals first|((with_reducible show Value.bool (Cg.some _)=_);exact congrArg (fun i:Cg=>Value.bool i.some) ((aBF (a:=(⟨b2,m2,r2⟩:Cg)) (b:=(⟨b3,m3,r3⟩:Cg)) (w:=true) rfl q2.2 q3.2 hx hz).symm))|((with_reducible show Value.int _ (Cg.m _)=_);exact congrArg (fun i:Cg=>Value.int .i64 i.m) ((aBF (a:=(⟨b2,m2,r2⟩:Cg)) (b:=(⟨b3,m3,r3⟩:Cg)) (w:=true) rfl q2.2 q3.2 hx hz).symm))|((with_reducible show Value.int _ (Cg.r _)=_);exact congrArg (fun i:Cg=>Value.int .i64 i.r) ((aBF (a:=(⟨b2,m2,r2⟩:Cg)) (b:=(⟨b3,m3,r3⟩:Cg)) (w:=true) rfl q2.2 q3.2 hx hz).symm))|exact j3x
       . have kv:=congrArg Bool.not hx;simp only [Bool.not_true,Bool.not_false] at kv
         have vf:=congrArg Bool.not hz;simp only [Bool.not_true,Bool.not_false] at vf
         repeat' (first|exact trivial|(with_reducible first|assumption|exact j4c|exact j5n)|refine ⟨?_,?_⟩|intro _)
         all_goals first|(conv=>whnf)
         all_goals first|((with_reducible show Value.bool (Cg.some _)=_);exact congrArg (fun i:Cg=>Value.bool i.some) ((aBE (a:=(⟨b2,m2,r2⟩:Cg)) (b:=(⟨b3,m3,r3⟩:Cg)) (w:=true) rfl hz).symm))|((with_reducible show Value.int _ (Cg.m _)=_);exact congrArg (fun i:Cg=>Value.int .i64 i.m) ((aBE (a:=(⟨b2,m2,r2⟩:Cg)) (b:=(⟨b3,m3,r3⟩:Cg)) (w:=true) rfl hz).symm))|((with_reducible show Value.int _ (Cg.r _)=_);exact congrArg (fun i:Cg=>Value.int .i64 i.r) ((aBE (a:=(⟨b2,m2,r2⟩:Cg)) (b:=(⟨b3,m3,r3⟩:Cg)) (w:=true) rfl hz).symm))
 . cases h
def aIB:List Ar->Option Rs
 | [.c (.d (.v (.int .i64 i0))),.c (.d (.v (.int .i64 i1)))]=>some ⟨(-9223372036854775808<=i0/\ i0<9223372036854775808)/\ (-9223372036854775808<=i1/\ i1<9223372036854775808)/\ (0<=i0),.va (.c (.d (it (lJ i0 i1)))),[]⟩
 |_=>none
theorem aVe:FC prog 295 aIB:=by
 intro xs pre r us h hp;unfold aIB at h;split at h
 . rename_i i0 i1
   cases h;obtain ⟨a7,a8,af⟩:=hp
   refine aE aA (l:= [(296,⟨[],aDk⟩),(227,⟨[],aB2⟩),(226,⟨[],uV⟩)]) ⟨aI4,aGI,zR,trivial⟩ func295 rfl j4 false ?_
   have hw: ∀_:decide (aX i1>9223372036854775807)=false, -9223372036854775808<=IntKind.wrap .i64 (aX i1)/\ IntKind.wrap .i64 (aX i1)<9223372036854775808:=fun h=>by have:=aCd a8;rw [aTz a8 h];have:=of_decide_eq_false h;omega
   cases hs:decide (aX i1>9223372036854775807)
   . cases hv:bJ (wd (i0*IntKind.wrap .i64 (aX i1))).val
     . have yt:=congrArg Bool.not hs;simp only [Bool.not_true,Bool.not_false] at yt
       have Ax:=congrArg Bool.not hv;simp only [Bool.not_true,Bool.not_false] at Ax
       (repeat' (first|exact j6a|refine ⟨?_,?_⟩|intro _));all_goals first|apply qq|conv=>whnf
       all_goals first|exact (hw hs).1|exact (hw hs).2|exact congrArg (Value.int .i64) (bD5 a7 a8 af hs hv).symm
     . have yt:=congrArg Bool.not hs;simp only [Bool.not_true,Bool.not_false] at yt
       have Ax:=congrArg Bool.not hv;simp only [Bool.not_true,Bool.not_false] at Ax
       (repeat' (first|exact j6a|refine ⟨?_,?_⟩|intro _));all_goals first|apply qq|conv=>whnf
       all_goals first|exact (hw hs).1|exact (hw hs).2|exact congrArg (Value.int .i64) (bD6 a7 a8 af hs hv).symm
   . have yt:=congrArg Bool.not hs;simp only [Bool.not_true,Bool.not_false] at yt
     repeat' (first|exact trivial|(with_reducible first|exact a8|exact nx hs)|refine ⟨?_,?_⟩|intro _)
     all_goals first|(conv=>whnf)
     all_goals first|exact congrArg (Value.int .i64) (bD4 hs).symm
 . cases h
def aIe:List Ar->Option Rs
 | [.agg [.d (.v (.bool b0)),.d (.v (.int .i64 m0)),.d (.v (.int .i64 r0))],.agg [.d (.v (.bool b1)),.d (.v (.int .i64 m1)),.d (.v (.int .i64 r1))],.c (.d (.v (.bool b2)))]=>some ⟨(Cg.inR ⟨b0,m0,r0⟩)/\ (Cg.inR ⟨b1,m1,r1⟩)/\ (0<=m0/\ 0<=m1),.va (Cg.ar (rL (⟨b0,m0,r0⟩:Cg) (⟨b1,m1,r1⟩:Cg) b2)),[]⟩
 |_=>none
theorem aUO:FC prog 249 aIe:=by
 intro xs pre r us h hp;unfold aIe at h;split at h
 . rename_i b0 m0 r0 b1 m1 r1 b2
   cases h;obtain ⟨a7,a8,af⟩:=hp
   refine aE aA (l:= [(294,⟨[],yR⟩),(84,⟨[],uY⟩),(295,⟨[],aIB⟩),(247,⟨[],aET⟩),(248,⟨[],aBl⟩)]) ⟨aCX,zT,aVe,aNT,aFx,trivial⟩ func249 rfl j4 false ?_
   have q0:=a7;unfold Cg.inR at q0;dsimp only at q0
   have q1:=a8;unfold Cg.inR at q1;dsimp only at q1
   have hg:=zZ q0.1 q1.1 af
   have BN:=zZ q1.1 q0.1 af.symm
   have ke:=aLB (c:=r1) q0.1 af.1
   have ft:=aLB (c:=r0) q1.1 af.2
   cases hA:(m0 !=0)
   . cases hl:dU (⟨b0,m0,r0⟩:Cg) 0
     . cases hm:(m0==0)
       . have jo:=congrArg Bool.not hA;simp only [Bool.not_true,Bool.not_false] at jo
         have bz:=congrArg Bool.not hl;simp only [Bool.not_true,Bool.not_false] at bz
         have dj:=congrArg Bool.not hm;simp only [Bool.not_true,Bool.not_false] at dj
         (repeat' (first|exact trivial|(with_reducible first|assumption|exact hg.1|exact hg.2|exact q0.1|exact q1.1|exact nx hA|exact j5h)|refine ⟨?_,?_⟩|intro _));all_goals first|apply qq|conv=>whnf
         all_goals first|decide|((with_reducible show Value.bool (Cg.some _)=_);exact congrArg (fun i:Cg=>Value.bool i.some) (((uN (a:=(⟨b0,m0,r0⟩:Cg)) (b:=(⟨b1,m1,r1⟩:Cg)) (w:=b2) hA).trans (aCf (a:=(⟨b0,m0,r0⟩:Cg)) (b:=(⟨b1,m1,r1⟩:Cg)) (w:=b2) hl hm)).symm))|((with_reducible show Value.int _ (Cg.m _)=_);exact congrArg (fun i:Cg=>Value.int .i64 i.m) (((uN (a:=(⟨b0,m0,r0⟩:Cg)) (b:=(⟨b1,m1,r1⟩:Cg)) (w:=b2) hA).trans (aCf (a:=(⟨b0,m0,r0⟩:Cg)) (b:=(⟨b1,m1,r1⟩:Cg)) (w:=b2) hl hm)).symm))|((with_reducible show Value.int _ (Cg.r _)=_);exact congrArg (fun i:Cg=>Value.int .i64 i.r) (((uN (a:=(⟨b0,m0,r0⟩:Cg)) (b:=(⟨b1,m1,r1⟩:Cg)) (w:=b2) hA).trans (aCf (a:=(⟨b0,m0,r0⟩:Cg)) (b:=(⟨b1,m1,r1⟩:Cg)) (w:=b2) hl hm)).symm))
       . have jo:=congrArg Bool.not hA;simp only [Bool.not_true,Bool.not_false] at jo
         have bz:=congrArg Bool.not hl;simp only [Bool.not_true,Bool.not_false] at bz
         have dj:=congrArg Bool.not hm;simp only [Bool.not_true,Bool.not_false] at dj
         (repeat' (first|exact trivial|(with_reducible first|assumption|exact af.2|exact ft.1|exact ft.2|exact q0.2|exact q1.1|exact nx hA|exact j5h)|refine ⟨?_,?_⟩|intro _));all_goals first|apply qq|conv=>whnf
         all_goals first|decide|((with_reducible show Value.bool (Cg.some _)=_);exact congrArg (fun i:Cg=>Value.bool i.some) (((uN (a:=(⟨b0,m0,r0⟩:Cg)) (b:=(⟨b1,m1,r1⟩:Cg)) (w:=b2) hA).trans (vJ (a:=(⟨b0,m0,r0⟩:Cg)) (b:=(⟨b1,m1,r1⟩:Cg)) (w:=b2) hl hm)).symm))|((with_reducible show Value.int _ (Cg.m _)=_);exact congrArg (fun i:Cg=>Value.int .i64 i.m) (((uN (a:=(⟨b0,m0,r0⟩:Cg)) (b:=(⟨b1,m1,r1⟩:Cg)) (w:=b2) hA).trans (vJ (a:=(⟨b0,m0,r0⟩:Cg)) (b:=(⟨b1,m1,r1⟩:Cg)) (w:=b2) hl hm)).symm))|((with_reducible show Value.int _ (Cg.r _)=_);exact congrArg (fun i:Cg=>Value.int .i64 i.r) (((uN (a:=(⟨b0,m0,r0⟩:Cg)) (b:=(⟨b1,m1,r1⟩:Cg)) (w:=b2) hA).trans (vJ (a:=(⟨b0,m0,r0⟩:Cg)) (b:=(⟨b1,m1,r1⟩:Cg)) (w:=b2) hl hm)).symm))
     . have jo:=congrArg Bool.not hA;simp only [Bool.not_true,Bool.not_false] at jo
       have bz:=congrArg Bool.not hl;simp only [Bool.not_true,Bool.not_false] at bz
       (repeat' (first|exact trivial|(with_reducible first|exact a7|exact nx hA|exact nx hl)|refine ⟨?_,?_⟩|intro _));all_goals first|apply qq|conv=>whnf
       all_goals first|decide|((with_reducible show Value.bool (Cg.some _)=_);exact congrArg (fun i:Cg=>Value.bool i.some) (((uN (a:=(⟨b0,m0,r0⟩:Cg)) (b:=(⟨b1,m1,r1⟩:Cg)) (w:=b2) hA).trans (vI (a:=(⟨b0,m0,r0⟩:Cg)) (b:=(⟨b1,m1,r1⟩:Cg)) (w:=b2) hl)).symm))|((with_reducible show Value.int _ (Cg.m _)=_);exact congrArg (fun i:Cg=>Value.int .i64 i.m) (((uN (a:=(⟨b0,m0,r0⟩:Cg)) (b:=(⟨b1,m1,r1⟩:Cg)) (w:=b2) hA).trans (vI (a:=(⟨b0,m0,r0⟩:Cg)) (b:=(⟨b1,m1,r1⟩:Cg)) (w:=b2) hl)).symm))|((with_reducible show Value.int _ (Cg.r _)=_);exact congrArg (fun i:Cg=>Value.int .i64 i.r) (((uN (a:=(⟨b0,m0,r0⟩:Cg)) (b:=(⟨b1,m1,r1⟩:Cg)) (w:=b2) hA).trans (vI (a:=(⟨b0,m0,r0⟩:Cg)) (b:=(⟨b1,m1,r1⟩:Cg)) (w:=b2) hl)).symm))
   . cases hB:(m1==0)
     . cases hl:dU (⟨b0,m0,r0⟩:Cg) 0
       . cases hm:(m0==0)
         . have jo:=congrArg Bool.not hA;simp only [Bool.not_true,Bool.not_false] at jo
           have oh:=congrArg Bool.not hB;simp only [Bool.not_true,Bool.not_false] at oh
           have bz:=congrArg Bool.not hl;simp only [Bool.not_true,Bool.not_false] at bz
           have dj:=congrArg Bool.not hm;simp only [Bool.not_true,Bool.not_false] at dj
           (repeat' (first|exact trivial|(with_reducible first|assumption|exact hg.1|exact hg.2|exact q0.1|exact q1.1|exact j6e|exact j5h)|refine ⟨?_,?_⟩|intro _));all_goals first|apply qq|conv=>whnf
           all_goals first|decide|((with_reducible show Value.bool (Cg.some _)=_);exact congrArg (fun i:Cg=>Value.bool i.some) (((uO (a:=(⟨b0,m0,r0⟩:Cg)) (b:=(⟨b1,m1,r1⟩:Cg)) (w:=b2) hB).trans (aCf (a:=(⟨b0,m0,r0⟩:Cg)) (b:=(⟨b1,m1,r1⟩:Cg)) (w:=b2) hl hm)).symm))|((with_reducible show Value.int _ (Cg.m _)=_);exact congrArg (fun i:Cg=>Value.int .i64 i.m) (((uO (a:=(⟨b0,m0,r0⟩:Cg)) (b:=(⟨b1,m1,r1⟩:Cg)) (w:=b2) hB).trans (aCf (a:=(⟨b0,m0,r0⟩:Cg)) (b:=(⟨b1,m1,r1⟩:Cg)) (w:=b2) hl hm)).symm))|((with_reducible show Value.int _ (Cg.r _)=_);exact congrArg (fun i:Cg=>Value.int .i64 i.r) (((uO (a:=(⟨b0,m0,r0⟩:Cg)) (b:=(⟨b1,m1,r1⟩:Cg)) (w:=b2) hB).trans (aCf (a:=(⟨b0,m0,r0⟩:Cg)) (b:=(⟨b1,m1,r1⟩:Cg)) (w:=b2) hl hm)).symm))
         . have jo:=congrArg Bool.not hA;simp only [Bool.not_true,Bool.not_false] at jo
           have oh:=congrArg Bool.not hB;simp only [Bool.not_true,Bool.not_false] at oh
           have bz:=congrArg Bool.not hl;simp only [Bool.not_true,Bool.not_false] at bz
           have dj:=congrArg Bool.not hm;simp only [Bool.not_true,Bool.not_false] at dj
           (repeat' (first|exact trivial|(with_reducible first|assumption|exact af.2|exact ft.1|exact ft.2|exact q0.2|exact q1.1|exact j6e|exact j5h)|refine ⟨?_,?_⟩|intro _));all_goals first|apply qq|conv=>whnf
           all_goals first|decide|((with_reducible show Value.bool (Cg.some _)=_);exact congrArg (fun i:Cg=>Value.bool i.some) (((uO (a:=(⟨b0,m0,r0⟩:Cg)) (b:=(⟨b1,m1,r1⟩:Cg)) (w:=b2) hB).trans (vJ (a:=(⟨b0,m0,r0⟩:Cg)) (b:=(⟨b1,m1,r1⟩:Cg)) (w:=b2) hl hm)).symm))|((with_reducible show Value.int _ (Cg.m _)=_);exact congrArg (fun i:Cg=>Value.int .i64 i.m) (((uO (a:=(⟨b0,m0,r0⟩:Cg)) (b:=(⟨b1,m1,r1⟩:Cg)) (w:=b2) hB).trans (vJ (a:=(⟨b0,m0,r0⟩:Cg)) (b:=(⟨b1,m1,r1⟩:Cg)) (w:=b2) hl hm)).symm))|((with_reducible show Value.int _ (Cg.r _)=_);exact congrArg (fun i:Cg=>Value.int .i64 i.r) (((uO (a:=(⟨b0,m0,r0⟩:Cg)) (b:=(⟨b1,m1,r1⟩:Cg)) (w:=b2) hB).trans (vJ (a:=(⟨b0,m0,r0⟩:Cg)) (b:=(⟨b1,m1,r1⟩:Cg)) (w:=b2) hl hm)).symm))
       . have jo:=congrArg Bool.not hA;simp only [Bool.not_true,Bool.not_false] at jo
         have oh:=congrArg Bool.not hB;simp only [Bool.not_true,Bool.not_false] at oh
         have bz:=congrArg Bool.not hl;simp only [Bool.not_true,Bool.not_false] at bz
         (repeat' (first|exact trivial|(with_reducible first|exact a7|exact j6e|exact nx hl)|refine ⟨?_,?_⟩|intro _));all_goals first|apply qq|conv=>whnf
         all_goals first|decide|((with_reducible show Value.bool (Cg.some _)=_);exact congrArg (fun i:Cg=>Value.bool i.some) (((uO (a:=(⟨b0,m0,r0⟩:Cg)) (b:=(⟨b1,m1,r1⟩:Cg)) (w:=b2) hB).trans (vI (a:=(⟨b0,m0,r0⟩:Cg)) (b:=(⟨b1,m1,r1⟩:Cg)) (w:=b2) hl)).symm))|((with_reducible show Value.int _ (Cg.m _)=_);exact congrArg (fun i:Cg=>Value.int .i64 i.m) (((uO (a:=(⟨b0,m0,r0⟩:Cg)) (b:=(⟨b1,m1,r1⟩:Cg)) (w:=b2) hB).trans (vI (a:=(⟨b0,m0,r0⟩:Cg)) (b:=(⟨b1,m1,r1⟩:Cg)) (w:=b2) hl)).symm))|((with_reducible show Value.int _ (Cg.r _)=_);exact congrArg (fun i:Cg=>Value.int .i64 i.r) (((uO (a:=(⟨b0,m0,r0⟩:Cg)) (b:=(⟨b1,m1,r1⟩:Cg)) (w:=b2) hB).trans (vI (a:=(⟨b0,m0,r0⟩:Cg)) (b:=(⟨b1,m1,r1⟩:Cg)) (w:=b2) hl)).symm))
     . cases hl:dU (⟨b1,m1,r1⟩:Cg) 0
       . cases hm:(m1==0)
         . have jo:=congrArg Bool.not hA;simp only [Bool.not_true,Bool.not_false] at jo
           have oh:=congrArg Bool.not hB;simp only [Bool.not_true,Bool.not_false] at oh
           have bz:=congrArg Bool.not hl;simp only [Bool.not_true,Bool.not_false] at bz
           have dj:=congrArg Bool.not hm;simp only [Bool.not_true,Bool.not_false] at dj
           repeat' (first|(with_reducible first|exact j6e|exact nx hm)|refine ⟨?_,?_⟩|intro _)
           all_goals fail
           all_goals fail
         . have jo:=congrArg Bool.not hA;simp only [Bool.not_true,Bool.not_false] at jo
           have oh:=congrArg Bool.not hB;simp only [Bool.not_true,Bool.not_false] at oh
           have bz:=congrArg Bool.not hl;simp only [Bool.not_true,Bool.not_false] at bz
           have dj:=congrArg Bool.not hm;simp only [Bool.not_true,Bool.not_false] at dj
           (repeat' (first|exact trivial|(with_reducible first|assumption|exact af.1|exact ke.1|exact ke.2|exact q0.1|exact q1.2|exact j6e|exact nx hl)|refine ⟨?_,?_⟩|intro _));all_goals first|apply qq|conv=>whnf
           all_goals first|decide|((with_reducible show Value.bool (Cg.some _)=_);exact congrArg (fun i:Cg=>Value.bool i.some) (((aCe (a:=(⟨b0,m0,r0⟩:Cg)) (b:=(⟨b1,m1,r1⟩:Cg)) (w:=b2) hA hB).trans (vJ (a:=(⟨b1,m1,r1⟩:Cg)) (b:=(⟨b0,m0,r0⟩:Cg)) (w:=b2) hl hm)).symm))|((with_reducible show Value.int _ (Cg.m _)=_);exact congrArg (fun i:Cg=>Value.int .i64 i.m) (((aCe (a:=(⟨b0,m0,r0⟩:Cg)) (b:=(⟨b1,m1,r1⟩:Cg)) (w:=b2) hA hB).trans (vJ (a:=(⟨b1,m1,r1⟩:Cg)) (b:=(⟨b0,m0,r0⟩:Cg)) (w:=b2) hl hm)).symm))|((with_reducible show Value.int _ (Cg.r _)=_);exact congrArg (fun i:Cg=>Value.int .i64 i.r) (((aCe (a:=(⟨b0,m0,r0⟩:Cg)) (b:=(⟨b1,m1,r1⟩:Cg)) (w:=b2) hA hB).trans (vJ (a:=(⟨b1,m1,r1⟩:Cg)) (b:=(⟨b0,m0,r0⟩:Cg)) (w:=b2) hl hm)).symm))
       . have jo:=congrArg Bool.not hA;simp only [Bool.not_true,Bool.not_false] at jo
         have oh:=congrArg Bool.not hB;simp only [Bool.not_true,Bool.not_false] at oh
         have bz:=congrArg Bool.not hl;simp only [Bool.not_true,Bool.not_false] at bz
         (repeat' (first|exact trivial|(with_reducible first|exact a8|exact j6e|exact nx hl)|refine ⟨?_,?_⟩|intro _));all_goals first|apply qq|conv=>whnf
         all_goals first|decide|((with_reducible show Value.bool (Cg.some _)=_);exact congrArg (fun i:Cg=>Value.bool i.some) (((aCe (a:=(⟨b0,m0,r0⟩:Cg)) (b:=(⟨b1,m1,r1⟩:Cg)) (w:=b2) hA hB).trans (vI (a:=(⟨b1,m1,r1⟩:Cg)) (b:=(⟨b0,m0,r0⟩:Cg)) (w:=b2) hl)).symm))|((with_reducible show Value.int _ (Cg.m _)=_);exact congrArg (fun i:Cg=>Value.int .i64 i.m) (((aCe (a:=(⟨b0,m0,r0⟩:Cg)) (b:=(⟨b1,m1,r1⟩:Cg)) (w:=b2) hA hB).trans (vI (a:=(⟨b1,m1,r1⟩:Cg)) (b:=(⟨b0,m0,r0⟩:Cg)) (w:=b2) hl)).symm))|((with_reducible show Value.int _ (Cg.r _)=_);exact congrArg (fun i:Cg=>Value.int .i64 i.r) (((aCe (a:=(⟨b0,m0,r0⟩:Cg)) (b:=(⟨b1,m1,r1⟩:Cg)) (w:=b2) hA hB).trans (vI (a:=(⟨b1,m1,r1⟩:Cg)) (b:=(⟨b0,m0,r0⟩:Cg)) (w:=b2) hl)).symm))
 . cases h
theorem aBG (x:Int): -9223372036854775808<=IntKind.wrap .i64 x/\ IntKind.wrap .i64 x<9223372036854775808:=by rw [wI];omega
theorem bD7 (x:Int):0<=IntKind.wrap .u64 x/\ IntKind.wrap .u64 x<18446744073709551616:=j1a
theorem bD8 {c:Int} (h: -9223372036854775808<=c/\ c<9223372036854775808):0<=aX c/\ aX c<18446744073709551616:=by have:=aCd h;omega
theorem aLC {c:Int} (h:c≠0):aX c≠0:=by have:=aI3 h;omega
section
variable {a b:Cg} {w:Bool}
theorem aCg (h:dU b 0=false) (hm:(b.m !=0)=false):b.r≠0:=by
 intro e;unfold dU at h;simp at h hm;exact h hm e
theorem aMr (h:dU b 0=true):lK a b w=Cg.none:=by unfold lK;rw [if_pos h]
theorem aMs (h:dU b 0=false) (hm:(b.m !=0)=true):lK a b w=Cg.of 1 0:=by unfold lK;rw [if_neg w5,if_pos (.inl j0s)];rfl
theorem aMt (h:dU b 0=false):lK a b true=Cg.of 1 0:=by unfold lK;rw [if_neg w5,if_pos (.inr rfl)];rfl
theorem aMu (h:dU b 0=false) (hm:(b.m !=0)=false):lK a b false=if a.m%aX b.r≠0 \/aX a.r%aX b.r≠0 then Cg.all else Cg.of (a.m/aX b.r) (a.r.tdiv b.r):=by
 unfold lK;rw [if_neg w5,if_neg (by rintro (x|x);exact absurd (j0s:b.m=0) x;cases x)]
section
variable (ra:a.inR) (rb:b.inR) (h0:0≤a.m)
include ra h0 in
theorem aTB:IntKind.wrap .u64 a.m=a.m:=by have:=ra.1;exact fQ _ h0 j3
include ra rb h0
theorem aMv (h:dU b 0=false) (hm:(b.m !=0)=false) (h1:((IntKind.wrap .u64 a.m).tmod (aX b.r) !=0)=true):lK a b false=Cg.of 1 0:=by
 rw [aTB ra h0,Int.tmod_eq_emod_of_nonneg h0] at h1;rw [aMu h hm,if_pos (.inl j0i)];rfl
theorem aMw (h:dU b 0=false) (hm:(b.m !=0)=false) (h2:((aX a.r).tmod (aX b.r) !=0)=true):lK a b false=Cg.of 1 0:=by
 rw [Int.tmod_eq_emod_of_nonneg (aCd ra.2).1] at h2;rw [aMu h hm,if_pos (.inr j1q)];rfl
theorem aMx (hn: ¬(a.r= -9223372036854775808/\ b.r= -1)) (h:dU b 0=false) (hm:(b.m !=0)=false) (h1:((IntKind.wrap .u64 a.m).tmod (aX b.r) !=0)=false) (h2:((aX a.r).tmod (aX b.r) !=0)=false):lK a b false=Cg.of (IntKind.wrap .i64 (IntKind.wrap .u64 ((IntKind.wrap .u64 a.m).tdiv (aX b.r)))) (IntKind.wrap .i64 (a.r.tdiv b.r)):=by
 have hz:=aCg h hm
 have hp:=aI3 hz
 rw [aTB ra h0] at h1⊢;rw [Int.tmod_eq_emod_of_nonneg h0] at h1;rw [Int.tmod_eq_emod_of_nonneg (aCd ra.2).1] at h2;rw [aMu h hm,if_neg (by rintro (x|x);exact absurd j0i x;exact absurd j1q x)];have q:=aDj ra.2 rb.2 hz hn
 rw [aR (a.r.tdiv b.r) q.1 q.2,Int.tdiv_eq_ediv_of_nonneg h0];have d1:=Int.ediv_nonneg h0 (Int.le_of_lt hp)
 have d2:=Int.ediv_le_self (aX b.r) h0
 have:=ra.1
 rw [fQ _ d1 j3,aR _ j3 j3]
end
theorem aMy (h:dU b 0=true):vG a b=Cg.none:=by unfold vG;rw [if_pos h]
theorem aMz (ra:a.inR) (rb:b.inR) (h0:0<=a.m/\ 0<=b.m) (hz:a.m≠0 \/b.m≠0) (h:dU b 0=false):vG a b=Cg.of (IntKind.wrap .i64 (Int.gcd (IntKind.wrap .u64 (Int.gcd a.m b.m:Int)) (aX b.r):Int)) a.r:=by
 unfold vG;rw [if_neg w5]
 have hg:=zZ ra.1 rb.1 h0
 rw [fQ _ hg.2 j3];have hp:0<Int.gcd a.m b.m:=by
  rw [Int.gcd_pos_iff];exact hz
 have hle:Int.gcd (Int.gcd a.m b.m:Int) (aX b.r)<=Int.gcd a.m b.m:=Nat.le_of_dvd hp (Int.ofNat_dvd.1 (Int.gcd_dvd_left ..))
 rw [aR _ j3 j3]
theorem aZo (a b:Cg):xR a b= !(Cg.meet (Cg.of (Int.gcd a.m b.m:Int) a.r) (Cg.of 0 b.r)).some:=rfl
theorem aV6 (ra:a.inR) (rb:b.inR):(Cg.meet a b).inR:=(aPd (aAJ a) (aAJ b)).2.2.2 (Cg.clean_inR ra) (Cg.clean_inR rb)
end
def aKJ:List Ar->Option Rs
 | [.agg [.d (.v (.bool b0)),.d (.v (.int .i64 m0)),.d (.v (.int .i64 r0))],.agg [.d (.v (.bool b1)),.d (.v (.int .i64 m1)),.d (.v (.int .i64 r1))],.c (.d (.v (.bool b2)))]=>some ⟨(Cg.inR ⟨b0,m0,r0⟩)/\ (Cg.inR ⟨b1,m1,r1⟩)/\ (0<=m0/\ ¬(r0= -9223372036854775808/\ r1= -1)),.va (Cg.ar (lK (⟨b0,m0,r0⟩:Cg) (⟨b1,m1,r1⟩:Cg) b2)),[]⟩
 |_=>none
theorem aZp:FC prog 250 aKJ:=by
 intro xs pre r us h hp;unfold aKJ at h;split at h
 . rename_i b0 m0 r0 b1 m1 r1 b2
   cases h;obtain ⟨a7,a8,af⟩:=hp
   refine aE aA (l:= [(296,⟨[],aDk⟩),(294,⟨[],yR⟩),(135,⟨[],uZ⟩),(136,⟨[],rS⟩)]) ⟨aI4,aCX,zU,uX,trivial⟩ func250 rfl j4 false ?_
   have q0:=a7;unfold Cg.inR at q0;dsimp only at q0
   have q1:=a8;unfold Cg.inR at q1;dsimp only at q1
   cases hl:dU (⟨b1,m1,r1⟩:Cg) 0
   . cases hm:(m1 !=0)
     . cases hw:b2
       . cases h1:((IntKind.wrap .u64 m0).tmod (aX r1) !=0)
         . cases h2:((aX r0).tmod (aX r1) !=0)
           . have bz:=congrArg Bool.not hl;simp only [Bool.not_true,Bool.not_false] at bz
             have dj:=congrArg Bool.not hm;simp only [Bool.not_true,Bool.not_false] at dj
             have mn:=congrArg Bool.not hw;simp only [Bool.not_true,Bool.not_false] at mn
             have s4:=congrArg Bool.not h1;simp only [Bool.not_true,Bool.not_false] at s4
             have s5:=congrArg Bool.not h2;simp only [Bool.not_true,Bool.not_false] at s5
             (repeat' (first|exact trivial|(with_reducible first|exact a8|exact j3r|exact aBG _|exact q0.2|exact q1.2|exact j5h|exact nx h1|exact nx h2)|refine ⟨?_,?_⟩|intro _));all_goals first|apply qq|conv=>whnf
             all_goals first|decide|((with_reducible show Value.bool (Cg.some _)=_);exact congrArg (fun i:Cg=>Value.bool i.some) ((aMx (a:=(⟨b0,m0,r0⟩:Cg)) (b:=(⟨b1,m1,r1⟩:Cg)) a7 a8 af.1 af.2 hl hm h1 h2).symm))|((with_reducible show Value.int _ (Cg.m _)=_);exact congrArg (fun i:Cg=>Value.int .i64 i.m) ((aMx (a:=(⟨b0,m0,r0⟩:Cg)) (b:=(⟨b1,m1,r1⟩:Cg)) a7 a8 af.1 af.2 hl hm h1 h2).symm))|((with_reducible show Value.int _ (Cg.r _)=_);exact congrArg (fun i:Cg=>Value.int .i64 i.r) ((aMx (a:=(⟨b0,m0,r0⟩:Cg)) (b:=(⟨b1,m1,r1⟩:Cg)) a7 a8 af.1 af.2 hl hm h1 h2).symm))|exact j5k|(exact False.elim (aCg (b:=(⟨b1,m1,r1⟩:Cg)) hl hm j0r))
           . have bz:=congrArg Bool.not hl;simp only [Bool.not_true,Bool.not_false] at bz
             have dj:=congrArg Bool.not hm;simp only [Bool.not_true,Bool.not_false] at dj
             have mn:=congrArg Bool.not hw;simp only [Bool.not_true,Bool.not_false] at mn
             have s4:=congrArg Bool.not h1;simp only [Bool.not_true,Bool.not_false] at s4
             have s5:=congrArg Bool.not h2;simp only [Bool.not_true,Bool.not_false] at s5
             (repeat' (first|exact trivial|(with_reducible first|exact a8|exact j3r|exact q0.2|exact q1.2|exact j5h|exact nx h1|exact nx h2)|refine ⟨?_,?_⟩|intro _));all_goals first|apply qq|conv=>whnf
             all_goals first|decide|((with_reducible show Value.bool (Cg.some _)=_);exact congrArg (fun i:Cg=>Value.bool i.some) ((aMw (a:=(⟨b0,m0,r0⟩:Cg)) (b:=(⟨b1,m1,r1⟩:Cg)) a7 a8 af.1 hl hm h2).symm))|((with_reducible show Value.int _ (Cg.m _)=_);exact congrArg (fun i:Cg=>Value.int .i64 i.m) ((aMw (a:=(⟨b0,m0,r0⟩:Cg)) (b:=(⟨b1,m1,r1⟩:Cg)) a7 a8 af.1 hl hm h2).symm))|((with_reducible show Value.int _ (Cg.r _)=_);exact congrArg (fun i:Cg=>Value.int .i64 i.r) ((aMw (a:=(⟨b0,m0,r0⟩:Cg)) (b:=(⟨b1,m1,r1⟩:Cg)) a7 a8 af.1 hl hm h2).symm))|exact j5k
         . have bz:=congrArg Bool.not hl;simp only [Bool.not_true,Bool.not_false] at bz
           have dj:=congrArg Bool.not hm;simp only [Bool.not_true,Bool.not_false] at dj
           have mn:=congrArg Bool.not hw;simp only [Bool.not_true,Bool.not_false] at mn
           have s4:=congrArg Bool.not h1;simp only [Bool.not_true,Bool.not_false] at s4
           (repeat' (first|exact trivial|(with_reducible first|exact a8|exact j3r|exact q1.2|exact j5h|exact nx h1)|refine ⟨?_,?_⟩|intro _));all_goals first|apply qq|conv=>whnf
           all_goals first|decide|((with_reducible show Value.bool (Cg.some _)=_);exact congrArg (fun i:Cg=>Value.bool i.some) ((aMv (a:=(⟨b0,m0,r0⟩:Cg)) (b:=(⟨b1,m1,r1⟩:Cg)) a7 a8 af.1 hl hm h1).symm))|((with_reducible show Value.int _ (Cg.m _)=_);exact congrArg (fun i:Cg=>Value.int .i64 i.m) ((aMv (a:=(⟨b0,m0,r0⟩:Cg)) (b:=(⟨b1,m1,r1⟩:Cg)) a7 a8 af.1 hl hm h1).symm))|((with_reducible show Value.int _ (Cg.r _)=_);exact congrArg (fun i:Cg=>Value.int .i64 i.r) ((aMv (a:=(⟨b0,m0,r0⟩:Cg)) (b:=(⟨b1,m1,r1⟩:Cg)) a7 a8 af.1 hl hm h1).symm))|exact j5k
       . have bz:=congrArg Bool.not hl;simp only [Bool.not_true,Bool.not_false] at bz
         have dj:=congrArg Bool.not hm;simp only [Bool.not_true,Bool.not_false] at dj
         have mn:=congrArg Bool.not hw;simp only [Bool.not_true,Bool.not_false] at mn
         (repeat' (first|exact trivial|(with_reducible first|exact a8|exact j4c|exact q1.2|exact j5h)|refine ⟨?_,?_⟩|intro _));all_goals first|apply qq|conv=>whnf
         all_goals first|decide|((with_reducible show Value.bool (Cg.some _)=_);exact congrArg (fun i:Cg=>Value.bool i.some) ((aMt (a:=(⟨b0,m0,r0⟩:Cg)) (b:=(⟨b1,m1,r1⟩:Cg)) hl).symm))|((with_reducible show Value.int _ (Cg.m _)=_);exact congrArg (fun i:Cg=>Value.int .i64 i.m) ((aMt (a:=(⟨b0,m0,r0⟩:Cg)) (b:=(⟨b1,m1,r1⟩:Cg)) hl).symm))|((with_reducible show Value.int _ (Cg.r _)=_);exact congrArg (fun i:Cg=>Value.int .i64 i.r) ((aMt (a:=(⟨b0,m0,r0⟩:Cg)) (b:=(⟨b1,m1,r1⟩:Cg)) hl).symm))
     . have bz:=congrArg Bool.not hl;simp only [Bool.not_true,Bool.not_false] at bz
       have dj:=congrArg Bool.not hm;simp only [Bool.not_true,Bool.not_false] at dj
       (repeat' (first|exact trivial|(with_reducible first|exact a8|exact q1.2|exact j5h)|refine ⟨?_,?_⟩|intro _));all_goals first|apply qq|conv=>whnf
       all_goals first|decide|((with_reducible show Value.bool (Cg.some _)=_);exact congrArg (fun i:Cg=>Value.bool i.some) ((aMs (a:=(⟨b0,m0,r0⟩:Cg)) (b:=(⟨b1,m1,r1⟩:Cg)) (w:=b2) hl hm).symm))|((with_reducible show Value.int _ (Cg.m _)=_);exact congrArg (fun i:Cg=>Value.int .i64 i.m) ((aMs (a:=(⟨b0,m0,r0⟩:Cg)) (b:=(⟨b1,m1,r1⟩:Cg)) (w:=b2) hl hm).symm))|((with_reducible show Value.int _ (Cg.r _)=_);exact congrArg (fun i:Cg=>Value.int .i64 i.r) ((aMs (a:=(⟨b0,m0,r0⟩:Cg)) (b:=(⟨b1,m1,r1⟩:Cg)) (w:=b2) hl hm).symm))
   . have bz:=congrArg Bool.not hl;simp only [Bool.not_true,Bool.not_false] at bz
     (repeat' (first|exact trivial|(with_reducible first|exact a8|exact q1.2|exact nx hl)|refine ⟨?_,?_⟩|intro _));all_goals first|apply qq|conv=>whnf
     all_goals first|decide|((with_reducible show Value.bool false=_);exact congrArg (fun i:Cg=>Value.bool i.some) ((aMr (a:=(⟨b0,m0,r0⟩:Cg)) (b:=(⟨b1,m1,r1⟩:Cg)) (w:=b2) hl).symm))|((with_reducible show Value.int _ 0=_);first|exact congrArg (fun i:Cg=>Value.int .i64 i.m) ((aMr (a:=(⟨b0,m0,r0⟩:Cg)) (b:=(⟨b1,m1,r1⟩:Cg)) (w:=b2) hl).symm)|exact congrArg (fun i:Cg=>Value.int .i64 i.r) ((aMr (a:=(⟨b0,m0,r0⟩:Cg)) (b:=(⟨b1,m1,r1⟩:Cg)) (w:=b2) hl).symm))
 . cases h
def aJN:List Ar->Option Rs
 | [.agg [.d (.v (.bool b0)),.d (.v (.int .i64 m0)),.d (.v (.int .i64 r0))],.agg [.d (.v (.bool b1)),.d (.v (.int .i64 m1)),.d (.v (.int .i64 r1))]]=>some ⟨(Cg.inR ⟨b0,m0,r0⟩)/\ (Cg.inR ⟨b1,m1,r1⟩)/\ ((0<=m0/\ 0<=m1)/\ (m0≠0 \/m1≠0)),.va (Cg.ar (vG (⟨b0,m0,r0⟩:Cg) (⟨b1,m1,r1⟩:Cg))),[]⟩
 |_=>none
theorem aXs:FC prog 251 aJN:=by
 intro xs pre r us h hp;unfold aJN at h;split at h
 . rename_i b0 m0 r0 b1 m1 r1
   cases h;obtain ⟨a7,a8,af⟩:=hp
   refine aE aA (l:= [(294,⟨[],yR⟩),(248,⟨[],aBl⟩),(296,⟨[],aDk⟩),(133,⟨[],aBW⟩),(136,⟨[],rS⟩)]) ⟨aCX,aFx,aI4,aGr,uX,trivial⟩ func251 rfl j4 false ?_
   have q0:=a7;unfold Cg.inR at q0;dsimp only at q0
   have q1:=a8;unfold Cg.inR at q1;dsimp only at q1
   have hs:=bD8 q1.2
   cases hl:dU (⟨b1,m1,r1⟩:Cg) 0
   . have bz:=congrArg Bool.not hl;simp only [Bool.not_true,Bool.not_false] at bz
     (repeat' (first|exact trivial|(with_reducible first|exact a8|exact af.1|exact hs|exact aBG _|exact bD7 _|exact q0.1|exact q0.2|exact q1.1|exact q1.2|exact nx hl)|refine ⟨?_,?_⟩|intro _));all_goals first|apply qq|conv=>whnf
     all_goals first|decide|((with_reducible show Value.bool (Cg.some _)=_);exact congrArg (fun i:Cg=>Value.bool i.some) ((aMz (a:=(⟨b0,m0,r0⟩:Cg)) (b:=(⟨b1,m1,r1⟩:Cg)) a7 a8 af.1 af.2 hl).symm))|((with_reducible show Value.int _ (Cg.m _)=_);exact congrArg (fun i:Cg=>Value.int .i64 i.m) ((aMz (a:=(⟨b0,m0,r0⟩:Cg)) (b:=(⟨b1,m1,r1⟩:Cg)) a7 a8 af.1 af.2 hl).symm))|((with_reducible show Value.int _ (Cg.r _)=_);exact congrArg (fun i:Cg=>Value.int .i64 i.r) ((aMz (a:=(⟨b0,m0,r0⟩:Cg)) (b:=(⟨b1,m1,r1⟩:Cg)) a7 a8 af.1 af.2 hl).symm))
   . have bz:=congrArg Bool.not hl;simp only [Bool.not_true,Bool.not_false] at bz
     (repeat' (first|exact trivial|(with_reducible first|exact a8|exact nx hl)|refine ⟨?_,?_⟩|intro _));all_goals first|apply qq|conv=>whnf
     all_goals first|decide|((with_reducible show Value.bool false=_);exact congrArg (fun i:Cg=>Value.bool i.some) ((aMy (a:=(⟨b0,m0,r0⟩:Cg)) (b:=(⟨b1,m1,r1⟩:Cg)) hl).symm))|((with_reducible show Value.int _ 0=_);first|exact congrArg (fun i:Cg=>Value.int .i64 i.m) ((aMy (a:=(⟨b0,m0,r0⟩:Cg)) (b:=(⟨b1,m1,r1⟩:Cg)) hl).symm)|exact congrArg (fun i:Cg=>Value.int .i64 i.r) ((aMy (a:=(⟨b0,m0,r0⟩:Cg)) (b:=(⟨b1,m1,r1⟩:Cg)) hl).symm))
 . cases h
def aI6:List Ar->Option Rs
 | [.agg [.d (.v (.bool b0)),.d (.v (.int .i64 m0)),.d (.v (.int .i64 r0))],.agg [.d (.v (.bool b1)),.d (.v (.int .i64 m1)),.d (.v (.int .i64 r1))]]=>some ⟨(Cg.inR ⟨b0,m0,r0⟩)/\ (Cg.inR ⟨b1,m1,r1⟩)/\ (0<=m0/\ 0<=m1),.va (.c (.d (bo (xR (⟨b0,m0,r0⟩:Cg) (⟨b1,m1,r1⟩:Cg))))),[]⟩
 |_=>none
theorem aV7:FC prog 297 aI6:=by
 intro xs pre r us h hp;unfold aI6 at h;split at h
 . rename_i b0 m0 r0 b1 m1 r1
   cases h;obtain ⟨a7,a8,af⟩:=hp
   refine aE aA (l:= [(248,⟨[],aBl⟩),(136,⟨[],rS⟩),(84,⟨[],uY⟩),(192,⟨[],aF6⟩),(103,⟨[],rF⟩)]) ⟨aFx,uX,zT,aQu,uF,trivial⟩ func297 rfl j4 false ?_
   have q0:=a7;unfold Cg.inR at q0;dsimp only at q0
   have q1:=a8;unfold Cg.inR at q1;dsimp only at q1
   have hg:=zZ q0.1 q1.1 af
   have c1:=Cg.of_inR (Int.gcd m0 m1:Int) r0 hg.1.1 hg.1.2 q0.2.1 q0.2.2
   have c2:=Cg.of_inR 0 r1 j3 j3 q1.2.1 q1.2.2
   have c3:=aV6 c1 c2
   unfold Cg.inR at c1 c2 c3
   (repeat' (first|exact trivial|(with_reducible first|exact af|exact hg.1|exact q0.1|exact q0.2|exact q1.1|exact q1.2)|refine ⟨?_,?_⟩|intro _));all_goals first|apply qq|conv=>whnf
   all_goals first|(with_reducible first|exact c1.1.1|exact c1.1.2|exact c1.2.1|exact c1.2.2|exact c2.1.1|exact c2.1.2|exact c2.2.1|exact c2.2.2|exact c3.1.1|exact c3.1.2|exact c3.2.1|exact c3.2.2)|((with_reducible show Value.bool _=_);simp only [Cg.eta];exact congrArg Value.bool (aZo ⟨b0,m0,r0⟩ ⟨b1,m1,r1⟩).symm)
 . cases h
def aBn (v:Int):Int:=if bJ v=true then cI v else if v<0 then-9223372036854775808 else 9223372036854775808-1
theorem bCM {h l:Int} (k:Wd.ok ⟨h,l⟩) (k1:h<0):Wd.val ⟨h,l⟩<0:=j2b
theorem bCN {h l:Int} (k:Wd.ok ⟨h,l⟩) (k1: ¬h<0): ¬Wd.val ⟨h,l⟩<0:=j2b
theorem aRO {n:Int} (h: -9223372036854775808<=n/\ n<9223372036854775808):lO (wd n) (wd (0-(wd n).val))=wd (dW n):=by
 have e:(wd n).val=n:=dH j3 j3
 rw [e];unfold lO mM dW
 rw [e,dH j3 j3]
 (repeat' split)<;>first|omega|rfl|(congr 1;omega)
def aJO:List Ar->Option Rs
 | [.agg [.d (.v (.int .i64 h0)),.d (.v (.int .u64 l0))]]=>some ⟨(Wd.ok ⟨h0,l0⟩),.va (.c (.d (it (aBn (Wd.val (⟨h0,l0⟩:Wd)))))),[]⟩
 |_=>none
theorem aXt:FC prog 285 aJO:=by
 intro xs pre r us h hp;unfold aJO at h;split at h
 . rename_i h0 l0
   cases h;have a7:=hp
   refine aE aA (l:= [(226,⟨[],uV⟩)]) ⟨zR,trivial⟩ func285 rfl j4 false ?_
   repeat' (first|exact trivial|(with_reducible exact a7)|refine ⟨?_,?_⟩|intro _)
   all_goals first|(conv=>whnf)
   all_goals first|(unfold aBn;rw [if_pos ‹_›];done)|(unfold aBn;rw [if_neg (by rw [‹bJ _=false›];decide),if_pos (bCM a7 (of_decide_eq_true ‹_›))];done)|(unfold aBn;rw [if_neg (by rw [‹bJ _=false›];decide),if_neg (bCN a7 (of_decide_eq_false ‹_›))];rfl)
 . cases h
def aJP:List Ar->Option Rs
 | [.c (.d (.v (.int .i64 i0)))]=>some ⟨(-9223372036854775808<=i0/\ i0<9223372036854775808),.va (Wd.ar (wd (dW i0))),[]⟩
 |_=>none
theorem aXu:FC prog 286 aJP:=by
 intro xs pre r us h hp;unfold aJP at h;split at h
 . rename_i i0
   cases h;have a7:=hp
   refine aE aA (l:= [(177,⟨[],qH⟩),(179,⟨[],aAg⟩),(178,⟨[],aEm⟩)]) ⟨sW,aDY,aLe,trivial⟩ func286 rfl j4 false ?_
   (repeat' (first|exact trivial|(with_reducible first|exact a7|exact bL _)|refine ⟨?_,?_⟩|intro _));all_goals first|apply qq|conv=>whnf
   all_goals first|exact (congrArg (fun w:Wd=>Value.int .i64 w.hi) (aRO a7))|exact (congrArg (fun w:Wd=>Value.int .u64 w.lo) (aRO a7))|exact j3o|rfl
 . cases h
def aFa:List Ar->Option Rs
 | [.c (.d (.v (.bool b0))),.c (.d (.v (.bool b1)))]=>some ⟨True,.va (Sp.ar (jI b0 b1)),[]⟩
 |_=>none
theorem aOw:FC prog 287 aFa:=by
 intro xs pre r us h hp;unfold aFa at h;split at h
 . rename_i b0 b1
   cases h;refine aE aA (l:= [(83,⟨[],xH⟩),(131,⟨[],lN⟩)]) ⟨aBr,nK,trivial⟩ func287 rfl j4 false ?_
   cases b0<;>cases b1
   all_goals (repeat' (first|exact trivial|(with_reducible first|exact j3r|exact j4c)|refine ⟨?_,?_⟩|intro _));all_goals first|apply qq|conv=>whnf
   all_goals first|rfl|decide
 . cases h
def aFb:List Ar->Option Rs
 | [.agg [.d (.v (.bool s0)),.d (.v (.int .i64 l0)),.d (.v (.int .i64 h0))],.c (.d (.v (.int .i64 i1)))]=>some ⟨(Sp.inR ⟨s0,l0,h0⟩)/\ (-9223372036854775808<=i1/\ i1<9223372036854775808),.va (.c (.d (bo (pQ (⟨s0,l0,h0⟩:Sp) i1)))),[]⟩
 |_=>none
theorem aOx:FC prog 288 aFb:=by
 intro xs pre r us h hp;unfold aFb at h;split at h
 . rename_i s0 l0 h0 i1
   cases h;obtain ⟨a7,a8⟩:=hp
   refine aE aA (l:= []) trivial func288 rfl j4 false ?_
   repeat' (first|exact trivial|refine ⟨?_,?_⟩|intro _)
   all_goals first|(conv=>whnf)
   all_goals first|grind [pQ]
 . cases h
def mH (op:Int) (a:Sp):Sp:=if a.none then fY else if op=5 then jR 11 (Sp.of 0 0) a else if op=6 then jI (pQ a 0) (!a.has 0) else fY
theorem pH {a b a' b':Bool} (h:a=a') (h2:b=b'):jI a b=jI a' b':=by rw [h,h2]
theorem aCh (a b:Int):decide (a=b)=(a==b):=by rw [Bool.eq_iff_iff];simp
section
variable (a b:Sp)
theorem aBH:qD 12 a b=jI (decide (a.hi<b.lo)) (decide (a.lo≥b.hi)):=rfl
theorem aBI:qD 13 a b=jI (decide (a.hi<=b.lo)) (decide (a.lo>b.hi)):=rfl
theorem aBJ:qD 14 a b=jI (a.lo==a.hi&&(b.some==a.some&&(b.lo==a.lo&&b.hi==a.hi))) (decide (a.hi<b.lo)||decide (b.hi<a.lo)):=by rw [<-aCh, <-aCh, <-aCh];rfl
theorem aBK:qD 15 a b=jI (decide (a.hi<b.lo)||decide (b.hi<a.lo)) (a.lo==a.hi&&(b.some==a.some&&(b.lo==a.lo&&b.hi==a.hi))):=by rw [<-aCh, <-aCh, <-aCh];rfl
theorem aBL:qD 16 a b=jI (!a.has 0&& !b.has 0) (pQ a 0||pQ b 0):=rfl
theorem aBM:qD 17 a b=jI (!a.has 0|| !b.has 0) (pQ a 0&&pQ b 0):=rfl
end
def aKK:List Ar->Option Rs
 | [.c (.d (.v (.int .i64 i0))),.agg [.d (.v (.bool s1)),.d (.v (.int .i64 l1)),.d (.v (.int .i64 h1))],.agg [.d (.v (.bool s2)),.d (.v (.int .i64 l2)),.d (.v (.int .i64 h2))]]=>some ⟨(-9223372036854775808<=i0/\ i0<9223372036854775808)/\ (Sp.inR ⟨s1,l1,h1⟩)/\ (Sp.inR ⟨s2,l2,h2⟩),.va (Sp.ar (qD i0 (⟨s1,l1,h1⟩:Sp) (⟨s2,l2,h2⟩:Sp))),[]⟩
 |_=>none
theorem aZq:FC prog 245 aKK:=by
 intro xs pre r us h hp;unfold aKK at h;split at h
 . rename_i i0 s1 l1 h1 s2 l2 h2
   cases h;obtain ⟨a7,a8,af⟩:=hp
   refine aE aA (l:= [(287,⟨[],aFa⟩),(160,⟨[],aAe⟩),(288,⟨[],aFb⟩)]) ⟨aOw,aDT,aOx,trivial⟩ func245 rfl j4 false ?_
   by_cases ec:i0=12
   . subst ec;have qh:((12:Int)==12)=true:=by decide
     have r7:((12:Int)==13)=false:=j5
     have sg:((12:Int)==14)=false:=j5
     have uu:((12:Int)==15)=false:=j5
     have s6:((12:Int)==16)=false:=j5
     have th:((12:Int)==17)=false:=j5
     repeat' (first|exact trivial|(with_reducible exact nx qh)|refine ⟨?_,?_⟩|intro _)
     all_goals first|(conv=>whnf)
     all_goals (try simp only [aBH,aBI,aBJ,aBK,aBL,aBM])
     all_goals fail
   by_cases ei:i0=13
   . subst ei;have qh:((13:Int)==12)=false:=by decide
     have r7:((13:Int)==13)=true:=j5
     have sg:((13:Int)==14)=false:=j5
     have uu:((13:Int)==15)=false:=j5
     have s6:((13:Int)==16)=false:=j5
     have th:((13:Int)==17)=false:=j5
     repeat' (first|exact trivial|(with_reducible first|exact nx qh|exact nx r7)|refine ⟨?_,?_⟩|intro _)
     all_goals first|(conv=>whnf)
     all_goals (try simp only [aBH,aBI,aBJ,aBK,aBL,aBM])
     all_goals fail
   by_cases fx:i0=14
   . subst fx;have qh:((14:Int)==12)=false:=by decide
     have r7:((14:Int)==13)=false:=j5
     have sg:((14:Int)==14)=true:=j5
     have uu:((14:Int)==15)=false:=j5
     have s6:((14:Int)==16)=false:=j5
     have th:((14:Int)==17)=false:=j5
     repeat' (first|exact trivial|(with_reducible first|exact nx qh|exact nx r7|exact nx sg)|refine ⟨?_,?_⟩|intro _)
     all_goals first|(conv=>whnf)
     all_goals (try simp only [aBH,aBI,aBJ,aBK,aBL,aBM])
     all_goals first|exact j2r
   by_cases dg:i0=15
   . subst dg;have qh:((15:Int)==12)=false:=by decide
     have r7:((15:Int)==13)=false:=j5
     have sg:((15:Int)==14)=false:=j5
     have uu:((15:Int)==15)=true:=j5
     have s6:((15:Int)==16)=false:=j5
     have th:((15:Int)==17)=false:=j5
     repeat' (first|exact trivial|(with_reducible first|exact j5a)|refine ⟨?_,?_⟩|intro _)
     all_goals first|(conv=>whnf)
     all_goals (try simp only [aBH,aBI,aBJ,aBK,aBL,aBM])
     all_goals first|exact j2r
   by_cases om:i0=16
   . subst om;have qh:((16:Int)==12)=false:=by decide
     have r7:((16:Int)==13)=false:=j5
     have sg:((16:Int)==14)=false:=j5
     have uu:((16:Int)==15)=false:=j5
     have s6:((16:Int)==16)=true:=j5
     have th:((16:Int)==17)=false:=j5
     (repeat' (first|exact trivial|(with_reducible first|assumption|exact j5a|exact nx s6)|refine ⟨?_,?_⟩|intro _));all_goals first|apply qq|conv=>whnf
     all_goals (try simp only [aBH,aBI,aBJ,aBK,aBL,aBM])
     all_goals first|decide|exact j2r
   by_cases oo:i0=17
   . subst oo;have qh:((17:Int)==12)=false:=by decide
     have r7:((17:Int)==13)=false:=j5
     have sg:((17:Int)==14)=false:=j5
     have uu:((17:Int)==15)=false:=j5
     have s6:((17:Int)==16)=false:=j5
     have th:((17:Int)==17)=true:=j5
     (repeat' (first|exact trivial|(with_reducible first|assumption|exact j5a|exact nx s6|exact nx th)|refine ⟨?_,?_⟩|intro _));all_goals first|apply qq|conv=>whnf
     all_goals (try simp only [aBH,aBI,aBJ,aBK,aBL,aBM])
     all_goals first|decide|exact j2r
   have qh:(i0==12)=false:=beq_eq_false_iff_ne.2 ec
   have r7:(i0==13)=false:=beq_eq_false_iff_ne.2 ei
   have sg:(i0==14)=false:=beq_eq_false_iff_ne.2 fx
   have uu:(i0==15)=false:=beq_eq_false_iff_ne.2 dg
   have s6:(i0==16)=false:=beq_eq_false_iff_ne.2 om
   have th:(i0==17)=false:=beq_eq_false_iff_ne.2 oo
   repeat' (first|exact trivial|(with_reducible first|exact j5a|exact nx s6|exact nx th)|refine ⟨?_,?_⟩|intro _)
   all_goals first|(conv=>whnf)
   all_goals (try (unfold qD;simp only [ec,ei,fx,dg,om,oo,if_false]))
   all_goals first|rfl
 . cases h
theorem bBb {b:Sp} (hb:b.inR):aBn (wd ((lO (wd (dW b.lo)) (wd (dW b.hi))).val-(wd 1).val)).val=gH b:=by
 obtain ⟨⟨a1,a2⟩,a3,a4⟩:=hb
 have r1:0<=dW b.lo/\ dW b.lo<=9223372036854775808:=j0v
 have r2:0<=dW b.hi/\ dW b.hi<=9223372036854775808:=j0v
 have e:(lO (wd (dW b.lo)) (wd (dW b.hi))).val=gH b+1:=by
  unfold lO mM gH;rw [dH j3 j3,dH j3 j3]
  (repeat' split)<;>first|omega|(rw [dH j3 j3];omega)
 rw [e,show (wd 1).val=1 from rfl,Int.add_sub_cancel];have r3: -1<=gH b/\ gH b<9223372036854775808:=by unfold gH;split<;>omega
 rw [dH j3 j3];have hB:bJ (gH b)=true:=by unfold bJ;simp;omega
 have hV:cI (gH b)=gH b:=by unfold cI;rw [if_pos j3]
 unfold aBn;rw [if_pos hB,hV]
theorem aDm {op a b:Int} (ra: -9223372036854775808<=a/\ a<9223372036854775808): -9223372036854775808<=fX op a b/\ fX op a b<9223372036854775808:=by
 unfold fX;split
 . exact aB9 _
 . split
   . split
     . decide
     . exact aB9 _
   . split
     . split
       . decide
       . rename_i hb
         by_cases hm: -9223372036854775808<=b/\ b<=9223372036854775808
         . have h1:=aPh (x:=a) (m:=9223372036854775808) hb j3 j3
           rcases Int.le_total 0 a with h|h
           . have:=h1.1 h;omega
           . have:=h1.2 h;omega
         . have h1:=aPh (x:=a) (m:=b+ -b+(if 0<b then b else-b)) hb (by split<;>omega) (by split<;>omega)
           rcases Int.le_total 0 a with h|h
           . have:=h1.1 h;omega
           . have:=h1.2 h;omega
     . split
       . split<;>decide
       . decide
section
variable {a b:Sp}
theorem aMA (h:(parts b).isEmpty=true):mG a b=fY:=by unfold mG;rw [if_pos h]
theorem aMB (h:(parts b).isEmpty=false) (h1:(a.lo==a.hi)=true) (h2:(b.lo==b.hi)=true):mG a b=Sp.of (fX 9 a.lo b.lo) (fX 9 a.lo b.lo):=by
 unfold mG;rw [if_neg w5,if_pos ⟨eq_of_beq h1,eq_of_beq h2⟩]
def mxI (x c:Int):Int:=if IntKind.wrap .i64 (0-c)>x then IntKind.wrap .i64 (0-c) else x
def mnI (c x:Int):Int:=if c<x then c else x
theorem aFz (hb:b.inR): -1<=gH b/\ gH b<9223372036854775808:=by
 obtain ⟨⟨a1,a2⟩,a3,a4⟩:=hb
 have r1:0<=dW b.lo/\ dW b.lo<=9223372036854775808:=j0v
 have r2:0<=dW b.hi/\ dW b.hi<=9223372036854775808:=j0v
 unfold gH;split<;>omega
theorem aHg {c:Int} (h:(parts b).isEmpty=false) (h1:(a.lo==a.hi)=false \/(b.lo==b.hi)=false) (hb:b.inR) (hc:c=gH b):mG a b=Sp.of (if a.lo<0 then mxI a.lo c else 0) (if 0<a.hi then mnI c a.hi else 0):=by
 have hr:=aFz hb
 unfold mG mxI mnI;rw [if_neg w5,if_neg (by rintro ⟨x,y⟩;rcases h1 with k|k<;>exact (ne_of_beq_false k) j9),hc,aR (0-gH b) j3 j3]
 congr 1
 split
 . split<;>split<;>omega
 . rfl
theorem aBN {c:Int} (h:(parts b).isEmpty=false) (h1:(a.lo==a.hi)=false \/(b.lo==b.hi)=false) (hb:b.inR) (hc:c=gH b) (k1:decide (a.lo<0)=true) (k2:decide (a.hi>0)=true):mG a b=Sp.of (mxI a.lo c) (mnI c a.hi):=by
 rw [aHg h h1 hb hc,if_pos (of_decide_eq_true k1),if_pos (of_decide_eq_true k2)]
theorem aBO {c:Int} (h:(parts b).isEmpty=false) (h1:(a.lo==a.hi)=false \/(b.lo==b.hi)=false) (hb:b.inR) (hc:c=gH b) (k1:decide (a.lo<0)=true) (k2:decide (a.hi>0)=false):mG a b=Sp.of (mxI a.lo c) 0:=by
 rw [aHg h h1 hb hc,if_pos (of_decide_eq_true k1),if_neg (of_decide_eq_false k2)]
theorem aBP {c:Int} (h:(parts b).isEmpty=false) (h1:(a.lo==a.hi)=false \/(b.lo==b.hi)=false) (hb:b.inR) (hc:c=gH b) (k1:decide (a.lo<0)=false) (k2:decide (a.hi>0)=true):mG a b=Sp.of 0 (mnI c a.hi):=by
 rw [aHg h h1 hb hc,if_neg (of_decide_eq_false k1),if_pos (of_decide_eq_true k2)]
theorem aBQ {c:Int} (h:(parts b).isEmpty=false) (h1:(a.lo==a.hi)=false \/(b.lo==b.hi)=false) (hb:b.inR) (hc:c=gH b) (k1:decide (a.lo<0)=false) (k2:decide (a.hi>0)=false):mG a b=Sp.of 0 0:=by
 rw [aHg h h1 hb hc,if_neg (of_decide_eq_false k1),if_neg (of_decide_eq_false k2)]
theorem aTC {c x:Int} (hx: -9223372036854775808<=x/\ x<9223372036854775808) (hb:b.inR) (hc:c=gH b): -9223372036854775808<=mxI x c/\ mxI x c<9223372036854775808:=by
 have hr:=aFz hb
 unfold mxI;rw [hc,aR (0-gH b) j3 j3];split<;>omega
theorem aTD {c x:Int} (hx: -9223372036854775808<=x/\ x<9223372036854775808) (hb:b.inR) (hc:c=gH b): -9223372036854775808<=mnI c x/\ mnI c x<9223372036854775808:=by
 have hr:=aFz hb
 unfold mnI;rw [hc];split<;>omega
theorem qJ {p q:Prop} (h:p):p \/q:= .inl h
theorem qK {p q:Prop} (h:q):p \/q:= .inr h
end
section
variable {op:Int} {a b:Sp}
theorem kC (h:a.none=true):jR op a b=fY:=by unfold jR;rw [if_pos j1z]
theorem kD (h:b.none=true):jR op a b=fY:=by unfold jR;rw [if_pos (by rw [h,Bool.or_true])]
theorem aHh (h:a.none=false) (h2:b.none=false):(a.none||b.none)≠true:=j2g
theorem vK (h:a.none=false) (h2:b.none=false) (he:fN op=true):jR op a b=jH (pN (dB op) a b):=by unfold jR;rw [if_neg (aHh h h2),if_pos he]
theorem aMC (h:a.none=false) (h2:b.none=false):jR 8 a b=aEs a b:=by unfold jR;rw [if_neg (aHh h h2),if_neg j5,if_pos rfl]
theorem aMD (h:a.none=false) (h2:b.none=false):jR 9 a b=mG a b:=by unfold jR;rw [if_neg (aHh h h2),if_neg j5,if_neg j5,if_pos rfl]
theorem aME (h:a.none=false) (h2:b.none=false) (e:op≠10/\ op≠11/\ op≠7/\ op≠8/\ op≠9):jR op a b=qD op a b:=by
 unfold jR;rw [if_neg (aHh h h2),if_neg (by unfold fN;simp;omega),if_neg e.2.2.2.1,if_neg e.2.2.2.2]
theorem vL (h:a.none=true):mH op a=fY:=by unfold mH;rw [if_pos h]
theorem aMF (h:a.none=false):mH 5 a=jR 11 (Sp.of 0 0) a:=by unfold mH;rw [if_neg w5,if_pos rfl]
theorem aMG (h:a.none=false):mH 6 a=jI (pQ a 0) (!a.has 0):=by unfold mH;rw [if_neg w5,if_neg j5,if_pos rfl]
theorem aMH (h:a.none=false) (h5:op≠5) (h6:op≠6):mH op a=fY:=by unfold mH;rw [if_neg w5,if_neg h5,if_neg h6]
end
theorem bCO {op:Int} {a b:Sp} (ha:a.inR) (hb:b.inR):eG 4 (kZ (oY (dB op) a b))=pN (dB op) a b/\ Wrg 4 (kZ (oY (dB op) a b)):=
 aQJ (aBm ha.1 hb.1) (aBm ha.1 hb.2) (aBm ha.2 hb.1) (aBm ha.2 hb.2)
def aJQ:List Ar->Option Rs
 | [.agg [.d (.v (.bool s0)),.d (.v (.int .i64 l0)),.d (.v (.int .i64 h0))],.agg [.d (.v (.bool s1)),.d (.v (.int .i64 l1)),.d (.v (.int .i64 h1))]]=>some ⟨(Sp.inR ⟨s0,l0,h0⟩)/\ (Sp.inR ⟨s1,l1,h1⟩),.va (Sp.ar (mG (⟨s0,l0,h0⟩:Sp) (⟨s1,l1,h1⟩:Sp))),[]⟩
 |_=>none
theorem aXv:FC prog 244 aJQ:=by
 intro xs pre r us h hp;unfold aJQ at h;split at h
 . rename_i s0 l0 h0 s1 l1 h1
   cases h;obtain ⟨a7,a8⟩:=hp
   refine aE aA (l:= [(283,⟨[],(wK (parts (⟨s1,l1,h1⟩:Sp)) (parts (⟨s1,l1,h1⟩:Sp)).length)⟩),(246,⟨[],aHd⟩),(83,⟨[],xH⟩),(286,⟨[],aJP⟩),(177,⟨[],qH⟩),(178,⟨[],aEm⟩),(176,⟨[],uU⟩),(285,⟨[],aJO⟩),(131,⟨[],lN⟩)]) ⟨(aAQ (parts (⟨s1,l1,h1⟩:Sp)) (parts (⟨s1,l1,h1⟩:Sp)).length),aSO,aBr,aXu,sW,aLe,zQ,aXt,nK,trivial⟩ func244 rfl j4 true ?_
   have hm:=bBb a8
   have hB:=a8
   have Ew:=And.intro a8 (And.intro (rfl:(parts (⟨s1,l1,h1⟩:Sp))=(parts (⟨s1,l1,h1⟩:Sp))) (rfl:(parts (⟨s1,l1,h1⟩:Sp)).length=(parts (⟨s1,l1,h1⟩:Sp)).length))
   unfold Sp.inR at a7 a8
   generalize hL:(parts (⟨s1,l1,h1⟩:Sp)).length=k at*
   have hE:(parts (⟨s1,l1,h1⟩:Sp)).isEmpty=(k==0):=by rw [<-hL];cases (parts (⟨s1,l1,h1⟩:Sp))<;>rfl
   cases hk:((k:Int)==0)
   all_goals (have Df:(parts (⟨s1,l1,h1⟩:Sp)).isEmpty=decide (k=0):=by rw [hE];rfl)
   . have dp:(parts (⟨s1,l1,h1⟩:Sp)).isEmpty=false:=by rw [Df,decide_eq_false];exact fun h=>ne_of_beq_false hk j1z
     (repeat' (first|exact trivial|(with_reducible first|exact j4q|exact a8.2|exact bL _|exact nx hk)|refine ⟨?_,?_⟩|intro _));all_goals first|apply qq|conv=>whnf
     all_goals first|decide|exact hL|(have o1:=‹(l0==h0)=true›;have o2:=‹(l1==h1)=true›;first|((with_reducible show Value.bool (Sp.some _)=_);exact congrArg (fun i:Sp=>Value.bool i.some) ((aMB (a:=⟨s0,l0,h0⟩) (b:=⟨s1,l1,h1⟩) dp o1 o2).symm))|((with_reducible show Value.int _ (Sp.lo _)=_);exact congrArg (fun i:Sp=>Value.int .i64 i.lo) ((aMB (a:=⟨s0,l0,h0⟩) (b:=⟨s1,l1,h1⟩) dp o1 o2).symm))|((with_reducible show Value.int _ (Sp.hi _)=_);exact congrArg (fun i:Sp=>Value.int .i64 i.hi) ((aMB (a:=⟨s0,l0,h0⟩) (b:=⟨s1,l1,h1⟩) dp o1 o2).symm)))|(have k1:=‹decide (l0<0)=true›;have k2:=‹decide (h0>0)=true›;have o:=‹(l0==h0)=false›;first|((with_reducible show Value.bool (Sp.some _)=_);exact congrArg (fun i:Sp=>Value.bool i.some) ((aBN (a:=⟨s0,l0,h0⟩) (b:=⟨s1,l1,h1⟩) (c:=_) dp (qJ o) hB hm k1 k2).symm))|((with_reducible show Value.int _ (Sp.lo _)=_);exact congrArg (fun i:Sp=>Value.int .i64 i.lo) ((aBN (a:=⟨s0,l0,h0⟩) (b:=⟨s1,l1,h1⟩) (c:=_) dp (qJ o) hB hm k1 k2).symm))|((with_reducible show Value.int _ (Sp.hi _)=_);exact congrArg (fun i:Sp=>Value.int .i64 i.hi) ((aBN (a:=⟨s0,l0,h0⟩) (b:=⟨s1,l1,h1⟩) (c:=_) dp (qJ o) hB hm k1 k2).symm)))|(have k1:=‹decide (l0<0)=true›;have k2:=‹decide (h0>0)=true›;have o:=‹(l1==h1)=false›;first|((with_reducible show Value.bool (Sp.some _)=_);exact congrArg (fun i:Sp=>Value.bool i.some) ((aBN (a:=⟨s0,l0,h0⟩) (b:=⟨s1,l1,h1⟩) (c:=_) dp (qK o) hB hm k1 k2).symm))|((with_reducible show Value.int _ (Sp.lo _)=_);exact congrArg (fun i:Sp=>Value.int .i64 i.lo) ((aBN (a:=⟨s0,l0,h0⟩) (b:=⟨s1,l1,h1⟩) (c:=_) dp (qK o) hB hm k1 k2).symm))|((with_reducible show Value.int _ (Sp.hi _)=_);exact congrArg (fun i:Sp=>Value.int .i64 i.hi) ((aBN (a:=⟨s0,l0,h0⟩) (b:=⟨s1,l1,h1⟩) (c:=_) dp (qK o) hB hm k1 k2).symm)))|(have k1:=‹decide (l0<0)=true›;have k2:=‹decide (h0>0)=false›;have o:=‹(l0==h0)=false›;first|((with_reducible show Value.bool (Sp.some _)=_);exact congrArg (fun i:Sp=>Value.bool i.some) ((aBO (a:=⟨s0,l0,h0⟩) (b:=⟨s1,l1,h1⟩) (c:=_) dp (qJ o) hB hm k1 k2).symm))|((with_reducible show Value.int _ (Sp.lo _)=_);exact congrArg (fun i:Sp=>Value.int .i64 i.lo) ((aBO (a:=⟨s0,l0,h0⟩) (b:=⟨s1,l1,h1⟩) (c:=_) dp (qJ o) hB hm k1 k2).symm))|((with_reducible show Value.int _ (Sp.hi _)=_);exact congrArg (fun i:Sp=>Value.int .i64 i.hi) ((aBO (a:=⟨s0,l0,h0⟩) (b:=⟨s1,l1,h1⟩) (c:=_) dp (qJ o) hB hm k1 k2).symm)))|(have k1:=‹decide (l0<0)=true›;have k2:=‹decide (h0>0)=false›;have o:=‹(l1==h1)=false›;first|((with_reducible show Value.bool (Sp.some _)=_);exact congrArg (fun i:Sp=>Value.bool i.some) ((aBO (a:=⟨s0,l0,h0⟩) (b:=⟨s1,l1,h1⟩) (c:=_) dp (qK o) hB hm k1 k2).symm))|((with_reducible show Value.int _ (Sp.lo _)=_);exact congrArg (fun i:Sp=>Value.int .i64 i.lo) ((aBO (a:=⟨s0,l0,h0⟩) (b:=⟨s1,l1,h1⟩) (c:=_) dp (qK o) hB hm k1 k2).symm))|((with_reducible show Value.int _ (Sp.hi _)=_);exact congrArg (fun i:Sp=>Value.int .i64 i.hi) ((aBO (a:=⟨s0,l0,h0⟩) (b:=⟨s1,l1,h1⟩) (c:=_) dp (qK o) hB hm k1 k2).symm)))|(have k1:=‹decide (l0<0)=false›;have k2:=‹decide (h0>0)=true›;have o:=‹(l0==h0)=false›;first|((with_reducible show Value.bool (Sp.some _)=_);exact congrArg (fun i:Sp=>Value.bool i.some) ((aBP (a:=⟨s0,l0,h0⟩) (b:=⟨s1,l1,h1⟩) (c:=_) dp (qJ o) hB hm k1 k2).symm))|((with_reducible show Value.int _ (Sp.lo _)=_);exact congrArg (fun i:Sp=>Value.int .i64 i.lo) ((aBP (a:=⟨s0,l0,h0⟩) (b:=⟨s1,l1,h1⟩) (c:=_) dp (qJ o) hB hm k1 k2).symm))|((with_reducible show Value.int _ (Sp.hi _)=_);exact congrArg (fun i:Sp=>Value.int .i64 i.hi) ((aBP (a:=⟨s0,l0,h0⟩) (b:=⟨s1,l1,h1⟩) (c:=_) dp (qJ o) hB hm k1 k2).symm)))|(have k1:=‹decide (l0<0)=false›;have k2:=‹decide (h0>0)=true›;have o:=‹(l1==h1)=false›;first|((with_reducible show Value.bool (Sp.some _)=_);exact congrArg (fun i:Sp=>Value.bool i.some) ((aBP (a:=⟨s0,l0,h0⟩) (b:=⟨s1,l1,h1⟩) (c:=_) dp (qK o) hB hm k1 k2).symm))|((with_reducible show Value.int _ (Sp.lo _)=_);exact congrArg (fun i:Sp=>Value.int .i64 i.lo) ((aBP (a:=⟨s0,l0,h0⟩) (b:=⟨s1,l1,h1⟩) (c:=_) dp (qK o) hB hm k1 k2).symm))|((with_reducible show Value.int _ (Sp.hi _)=_);exact congrArg (fun i:Sp=>Value.int .i64 i.hi) ((aBP (a:=⟨s0,l0,h0⟩) (b:=⟨s1,l1,h1⟩) (c:=_) dp (qK o) hB hm k1 k2).symm)))|(have k1:=‹decide (l0<0)=false›;have k2:=‹decide (h0>0)=false›;have o:=‹(l0==h0)=false›;first|((with_reducible show Value.bool (Sp.some _)=_);exact congrArg (fun i:Sp=>Value.bool i.some) ((aBQ (a:=⟨s0,l0,h0⟩) (b:=⟨s1,l1,h1⟩) (c:=_) dp (qJ o) hB hm k1 k2).symm))|((with_reducible show Value.int _ (Sp.lo _)=_);exact congrArg (fun i:Sp=>Value.int .i64 i.lo) ((aBQ (a:=⟨s0,l0,h0⟩) (b:=⟨s1,l1,h1⟩) (c:=_) dp (qJ o) hB hm k1 k2).symm))|((with_reducible show Value.int _ (Sp.hi _)=_);exact congrArg (fun i:Sp=>Value.int .i64 i.hi) ((aBQ (a:=⟨s0,l0,h0⟩) (b:=⟨s1,l1,h1⟩) (c:=_) dp (qJ o) hB hm k1 k2).symm)))|(have k1:=‹decide (l0<0)=false›;have k2:=‹decide (h0>0)=false›;have o:=‹(l1==h1)=false›;first|((with_reducible show Value.bool (Sp.some _)=_);exact congrArg (fun i:Sp=>Value.bool i.some) ((aBQ (a:=⟨s0,l0,h0⟩) (b:=⟨s1,l1,h1⟩) (c:=_) dp (qK o) hB hm k1 k2).symm))|((with_reducible show Value.int _ (Sp.lo _)=_);exact congrArg (fun i:Sp=>Value.int .i64 i.lo) ((aBQ (a:=⟨s0,l0,h0⟩) (b:=⟨s1,l1,h1⟩) (c:=_) dp (qK o) hB hm k1 k2).symm))|((with_reducible show Value.int _ (Sp.hi _)=_);exact congrArg (fun i:Sp=>Value.int .i64 i.hi) ((aBQ (a:=⟨s0,l0,h0⟩) (b:=⟨s1,l1,h1⟩) (c:=_) dp (qK o) hB hm k1 k2).symm)))|exact (aDm a7.1).1|exact (aDm a7.1).2|exact (aTC a7.1 hB hm).1|exact (aTC a7.1 hB hm).2|exact (aTD a7.2 hB hm).1|exact (aTD a7.2 hB hm).2|exact (bL (dW h1)).1.1|exact (bL (dW h1)).1.2|exact (bL (dW h1)).2.1|exact (bL (dW h1)).2.2|exact (aFP (bL (dW l1)) (bL (dW h1))).1.1|exact (aFP (bL (dW l1)) (bL (dW h1))).1.2|exact (aFP (bL (dW l1)) (bL (dW h1))).2.1|exact (aFP (bL (dW l1)) (bL (dW h1))).2.2|rfl
   . have dp:(parts (⟨s1,l1,h1⟩:Sp)).isEmpty=true:=by rw [Df,decide_eq_true];have:=eq_of_beq hk;omega
     repeat' (first|exact trivial|(with_reducible first|exact a8.1|exact a8.2|exact nx hk)|refine ⟨?_,?_⟩|intro _)
     all_goals first|(conv=>whnf)
     all_goals first|exact hL|((with_reducible show Value.bool false=_);exact congrArg (fun i:Sp=>Value.bool i.some) ((aMA dp).symm))|((with_reducible show Value.int _ 0=_);first|exact congrArg (fun i:Sp=>Value.int .i64 i.lo) ((aMA dp).symm)|exact congrArg (fun i:Sp=>Value.int .i64 i.hi) ((aMA dp).symm))
   all_goals trace_state
 . cases h
def aGN:List Ar->Option Rs
 | [.c (.d (.v (.int .i64 i0))),.agg [.d (.v (.bool s1)),.d (.v (.int .i64 l1)),.d (.v (.int .i64 h1))],.agg [.d (.v (.bool s2)),.d (.v (.int .i64 l2)),.d (.v (.int .i64 h2))]]=>some ⟨(-9223372036854775808<=i0/\ i0<9223372036854775808)/\ (Sp.inR ⟨s1,l1,h1⟩)/\ (Sp.inR ⟨s2,l2,h2⟩),.va (Sp.ar (jR i0 (⟨s1,l1,h1⟩:Sp) (⟨s2,l2,h2⟩:Sp))),[]⟩
 |_=>none
theorem aRP:FC prog 207 aGN:=by
 intro xs pre r us h hp;unfold aGN at h;split at h
 . rename_i i0 s1 l1 h1 s2 l2 h2
   cases h;obtain ⟨a7,a8,af⟩:=hp
   refine aE aA (l:= [(102,⟨[],mE⟩),(242,⟨[],(aI5 i0)⟩),(239,⟨[],aDL⟩),(241,⟨[],wG⟩),(243,⟨[],aKI⟩),(244,⟨[],aJQ⟩),(245,⟨[],aKK⟩)]) ⟨oD,(aV4 i0),aQF,aAN,aZn,aXv,aZq,trivial⟩ func207 rfl j4 true ?_
   have hO:=a7
   have hk:=bCO (op:=i0) a8 af
   by_cases nu:i0=10
   . subst nu;have qi:((10:Int)==10)=true:=by decide
     have r9:((10:Int)==11)=false:=j5
     have q7:((10:Int)==7)=false:=j5
     have q8:((10:Int)==8)=false:=j5
     have q9:((10:Int)==9)=false:=j5
     (repeat' (first|exact trivial|(with_reducible first|assumption|exact nx qi)|refine ⟨?_,?_⟩|intro _));all_goals first|apply qq|conv=>whnf
     all_goals first|exact j2u
   by_cases nw:i0=11
   . subst nw;have qi:((11:Int)==10)=false:=by decide
     have r9:((11:Int)==11)=true:=j5
     have q7:((11:Int)==7)=false:=j5
     have q8:((11:Int)==8)=false:=j5
     have q9:((11:Int)==9)=false:=j5
     (repeat' (first|exact trivial|(with_reducible first|assumption|exact nx qi|exact nx r9)|refine ⟨?_,?_⟩|intro _));all_goals first|apply qq|conv=>whnf
     all_goals first|exact j2u
   by_cases e7:i0=7
   . subst e7;have qi:((7:Int)==10)=false:=by decide
     have r9:((7:Int)==11)=false:=j5
     have q7:((7:Int)==7)=true:=j5
     have q8:((7:Int)==8)=false:=j5
     have q9:((7:Int)==9)=false:=j5
     (repeat' (first|exact trivial|(with_reducible first|exact j5i)|refine ⟨?_,?_⟩|intro _));all_goals first|apply qq|conv=>whnf
     all_goals first|exact j2u
   by_cases e8:i0=8
   . subst e8;have qi:((8:Int)==10)=false:=by decide
     have r9:((8:Int)==11)=false:=j5
     have q7:((8:Int)==7)=false:=j5
     have q8:((8:Int)==8)=true:=j5
     have q9:((8:Int)==9)=false:=j5
     repeat' (first|exact trivial|(with_reducible first|exact j5i|exact nx q8)|refine ⟨?_,?_⟩|intro _)
     all_goals first|(conv=>whnf)
     all_goals first|exact j2q|((with_reducible show Value.bool (Sp.some _)=_);exact congrArg (fun i:Sp=>Value.bool i.some) ((aMC ‹_› ‹_›).symm))|((with_reducible show Value.int _ (Sp.lo _)=_);exact congrArg (fun i:Sp=>Value.int .i64 i.lo) ((aMC ‹_› ‹_›).symm))|((with_reducible show Value.int _ (Sp.hi _)=_);exact congrArg (fun i:Sp=>Value.int .i64 i.hi) ((aMC ‹_› ‹_›).symm))
   by_cases e9:i0=9
   . subst e9;have qi:((9:Int)==10)=false:=by decide
     have r9:((9:Int)==11)=false:=j5
     have q7:((9:Int)==7)=false:=j5
     have q8:((9:Int)==8)=false:=j5
     have q9:((9:Int)==9)=true:=j5
     repeat' (first|exact j6r|refine ⟨?_,?_⟩|intro _)
     all_goals first|(conv=>whnf)
     all_goals first|exact j2q|((with_reducible show Value.bool (Sp.some _)=_);exact congrArg (fun i:Sp=>Value.bool i.some) ((aMD ‹_› ‹_›).symm))|((with_reducible show Value.int _ (Sp.lo _)=_);exact congrArg (fun i:Sp=>Value.int .i64 i.lo) ((aMD ‹_› ‹_›).symm))|((with_reducible show Value.int _ (Sp.hi _)=_);exact congrArg (fun i:Sp=>Value.int .i64 i.hi) ((aMD ‹_› ‹_›).symm))
   have qi:(i0==10)=false:=beq_eq_false_iff_ne.2 nu
   have r9:(i0==11)=false:=beq_eq_false_iff_ne.2 nw
   have q7:(i0==7)=false:=beq_eq_false_iff_ne.2 e7
   have q8:(i0==8)=false:=beq_eq_false_iff_ne.2 e8
   have q9:(i0==9)=false:=beq_eq_false_iff_ne.2 e9
   repeat' (first|exact j6r|refine ⟨?_,?_⟩|intro _)
   all_goals first|(conv=>whnf)
   all_goals first|exact j2q|((with_reducible show Value.bool (Sp.some _)=_);exact congrArg (fun i:Sp=>Value.bool i.some) ((aME ‹_› ‹_› ⟨nu,nw,e7,e8,e9⟩).symm))|((with_reducible show Value.int _ (Sp.lo _)=_);exact congrArg (fun i:Sp=>Value.int .i64 i.lo) ((aME ‹_› ‹_› ⟨nu,nw,e7,e8,e9⟩).symm))|((with_reducible show Value.int _ (Sp.hi _)=_);exact congrArg (fun i:Sp=>Value.int .i64 i.hi) ((aME ‹_› ‹_› ⟨nu,nw,e7,e8,e9⟩).symm))
 . cases h
def aKL:List Ar->Option Rs
 | [.c (.d (.v (.int .i64 i0))),.agg [.d (.v (.bool s1)),.d (.v (.int .i64 l1)),.d (.v (.int .i64 h1))]]=>some ⟨(-9223372036854775808<=i0/\ i0<9223372036854775808)/\ (Sp.inR ⟨s1,l1,h1⟩),.va (Sp.ar (mH i0 (⟨s1,l1,h1⟩:Sp))),[]⟩
 |_=>none
theorem aZr:FC prog 278 aKL:=by
 intro xs pre r us h hp;unfold aKL at h;split at h
 . rename_i i0 s1 l1 h1
   cases h;obtain ⟨a7,a8⟩:=hp
   refine aE aA (l:= [(102,⟨[],mE⟩),(83,⟨[],xH⟩),(207,⟨[],aGN⟩),(287,⟨[],aFa⟩),(288,⟨[],aFb⟩),(160,⟨[],aAe⟩)]) ⟨oD,aBr,aRP,aOw,aOx,aDT,trivial⟩ func278 rfl j4 true ?_
   by_cases e5:i0=5
   . subst e5;have q5:((5:Int)==5)=true:=by decide
     have q6:((5:Int)==6)=false:=j5
     (repeat' (first|exact trivial|(with_reducible first|exact a8|exact nx q5)|refine ⟨?_,?_⟩|intro _));all_goals first|apply qq|conv=>whnf
     all_goals first|decide|exact j3c|((with_reducible show Value.bool (Sp.some _)=_);exact congrArg (fun i:Sp=>Value.bool i.some) ((aMF ‹_›).symm))|((with_reducible show Value.int _ (Sp.lo _)=_);exact congrArg (fun i:Sp=>Value.int .i64 i.lo) ((aMF ‹_›).symm))|((with_reducible show Value.int _ (Sp.hi _)=_);exact congrArg (fun i:Sp=>Value.int .i64 i.hi) ((aMF ‹_›).symm))
   by_cases e6:i0=6
   . subst e6;have q5:((6:Int)==5)=false:=by decide
     have q6:((6:Int)==6)=true:=j5
     (repeat' (first|exact j6s|refine ⟨?_,?_⟩|intro _));all_goals first|apply qq|conv=>whnf
     all_goals first|decide|exact j3c|((with_reducible show Value.bool (Sp.some _)=_);exact congrArg (fun i:Sp=>Value.bool i.some) ((aMG ‹_›).symm))|((with_reducible show Value.int _ (Sp.lo _)=_);exact congrArg (fun i:Sp=>Value.int .i64 i.lo) ((aMG ‹_›).symm))|((with_reducible show Value.int _ (Sp.hi _)=_);exact congrArg (fun i:Sp=>Value.int .i64 i.hi) ((aMG ‹_›).symm))
   have q5:(i0==5)=false:=beq_eq_false_iff_ne.2 e5
   have q6:(i0==6)=false:=beq_eq_false_iff_ne.2 e6
   repeat' (first|exact j6s|refine ⟨?_,?_⟩|intro _)
   all_goals first|(conv=>whnf)
   all_goals first|exact j3c|((with_reducible show Value.bool false=_);exact congrArg (fun i:Sp=>Value.bool i.some) ((aMH ‹_› e5 e6).symm))|((with_reducible show Value.int _ 0=_);first|exact congrArg (fun i:Sp=>Value.int .i64 i.lo) ((aMH ‹_› e5 e6).symm)|exact congrArg (fun i:Sp=>Value.int .i64 i.hi) ((aMH ‹_› e5 e6).symm))
 . cases h
end Go.Proofs.YtiblbnhknemloaaGreat
