/- What congruences come to: cZ laws. No program in sight. -/
import Derived.Test.YtiblbnhknemloaaGreatG10
set_option linter.all false
set_option maxHeartbeats 8000000
set_option maxRecDepth 100000
namespace Go.Proofs.YtiblbnhknemloaaGreat
open Tryz
open Go.Sx
theorem aXj (k a:Nat) (h:a<2^k):(2*a+1)&&&(2^(k+1)-(2*a+1))=1:=by
 have e:(2^(k+1)-(2*a+1))/2=2^k-(a+1):=j2l
 have e2:(2^(k+1)-(2*a+1))%2=1:=j2l
 apply Nat.eq_of_testBit_eq
 intro i;rw [Nat.testBit_and];cases i with
 |zero=>rw [Nat.testBit_zero,Nat.testBit_zero,e2];simp
 |succ i=>
  rw [Nat.testBit_succ,Nat.testBit_succ,e,show (2*a+1)/2=a by omega,Nat.testBit_two_pow_sub_succ h,Nat.testBit_succ];cases a.testBit i<;>simp
theorem aV3 (k a:Nat) (h:a<2^k):(2*a)&&&(2^(k+1)-2*a)=2*(a&&&(2^k-a)):=by
 have e:(2^(k+1)-2*a)/2=2^k-a:=j2l
 apply Nat.eq_of_testBit_eq
 intro i;rw [Nat.testBit_and];cases i with
 |zero=>rw [Nat.testBit_zero,Nat.testBit_zero,Nat.testBit_zero];simp
 |succ i=>rw [Nat.testBit_succ,Nat.testBit_succ,Nat.testBit_succ,e,show 2*a/2=a by omega,show 2*(a&&&(2^k-a))/2=a&&&(2^k-a) by omega,Nat.testBit_and]
theorem aQB: ∀(k m:Nat),0<m->m<2^k->(m&&&(2^k-m))∣m/\ (m&&&(2^k-m))∣2^k/\ 0<(m&&&(2^k-m))
 |0,m,h0,h=>by simp at h;omega
 |k+1,m,h0,h=>by
  rcases Nat.mod_two_eq_zero_or_one m with e|e
  . obtain ⟨a,rfl⟩: ∃a,m=2*a:=⟨m/2,by omega⟩
    have ha:a<2^k:=by rw [Nat.pow_succ] at h;omega
    have ih:=aQB k a j3 ha
    rw [aV3 k a ha];refine ⟨Nat.mul_dvd_mul_left 2 ih.1, ?_,by have:=ih.2.2;omega⟩
    rw [Nat.pow_succ,Nat.mul_comm (2^k)];exact Nat.mul_dvd_mul_left 2 ih.2.1
  . obtain ⟨a,rfl⟩: ∃a,m=2*a+1:=⟨m/2,by omega⟩
    have ha:a<2^k:=by rw [Nat.pow_succ] at h;omega
    rw [aXj k a ha];exact ⟨Nat.one_dvd _,Nat.one_dvd _,by decide⟩
def kB (m:Int):Int:=((m.toNat&&&(2^64-m.toNat):Nat):Int)
theorem aPi {m:Int} (h:0<m) (h1:m<9223372036854775808):kB m∣m/\ kB m∣18446744073709551616/\ 0<kB m/\ kB m<=m:=by
 obtain ⟨n,rfl⟩:=Int.eq_ofNat_of_zero_le (Int.le_of_lt h)
 obtain ⟨a,b,c⟩:=aQB 64 n j3 j3
 unfold kB;rw [Int.toNat_natCast];have d:=Nat.le_of_dvd j3 a
 generalize n&&&(2^64-n)=p at*
 exact ⟨Int.natCast_dvd_natCast.2 a,Int.natCast_dvd_natCast.2 b,by omega,by omega⟩
theorem aZg:kB 0=0:=by unfold kB;rw [show Int.toNat 0=0 from rfl,Nat.zero_and];rfl
def Cg.all:Cg:=Cg.of 1 0
def kW (op m:Int) (a b:Cg) (dm:Bool):Cg:=
 let k:=if dm then kB m else m
 if fN op=false \/k=0 then Cg.all else Cg.of k (dB op a.r b.r%k)
def lJ (m c:Int):Int:=if aX c>9223372036854775807 then m else if bJ (m*aX c)=true then m*aX c else m
theorem bA4 {m c z:Int} (hm:0<=m) (j6:m<9223372036854775808) (hz:m∣z):0<=lJ m c/\ lJ m c<9223372036854775808/\ lJ m c∣c*z:=by
 have h0:m∣c*z:=Int.dvd_mul_of_dvd_right hz
 unfold lJ;split
 . exact ⟨hm,j6,h0⟩
 . split
   . rename_i hw
     have hw:=of_decide_eq_true hw
     have hs:0<=aX c:=j0w
     refine ⟨Int.mul_nonneg hm hs,hw.2, ?_⟩
     obtain ⟨k,rfl⟩:=hz
     unfold aX;split
     . exact ⟨-k,by rw [Int.mul_neg,Int.mul_neg,Int.neg_mul,Int.neg_neg, <-Int.mul_assoc,Int.mul_comm c m]⟩
     . exact ⟨k,by rw [<-Int.mul_assoc,Int.mul_comm c m]⟩
   . exact ⟨hm,j6,h0⟩
def dU (c:Cg) (n:Int):Bool:=c.m==0&&c.r==n
def oM (a b:Cg) (dm:Bool):Cg:=
 if dU a 0 then Cg.of 0 0 else if a.m=0 then kW 7 (lJ b.m a.r) a b dm else kW 7 (Int.gcd a.m b.m:Int) a b dm
def rL (a b:Cg) (dm:Bool):Cg:=if a.m≠0/\ b.m=0 then oM b a dm else oM a b dm
def lK (a b:Cg) (dm:Bool):Cg:=
 if dU b 0 then Cg.none else if b.m≠0 \/dm=true then Cg.all
 else if a.m%aX b.r≠0 \/aX a.r%aX b.r≠0 then Cg.all
 else Cg.of (a.m/aX b.r) (a.r.tdiv b.r)
def vG (a b:Cg):Cg:=if dU b 0 then Cg.none else Cg.of (Int.gcd (Int.gcd a.m b.m:Int) (aX b.r):Int) a.r
def xR (a b:Cg):Bool:= !(Cg.meet (Cg.of (Int.gcd a.m b.m:Int) a.r) (Cg.of 0 b.r)).some
def oU (op:Int) (a b:Cg):Cg:=
 if op=15 then (if xR a b then Cg.of 0 1 else Cg.all)
 else if op=14 then (if xR a b then Cg.of 0 0 else Cg.all)
 else if op=16 then (if dU a 0||dU b 0 then Cg.of 0 0 else if !a.has 0&& !b.has 0 then Cg.of 0 1 else Cg.all)
 else if op=17 then (if !a.has 0|| !b.has 0 then Cg.of 0 1 else Cg.all)
 else if op=12 \/op=13 then Cg.all else Cg.none
def jM (op:Int) (a b:Cg) (dm:Bool):Cg:=
 if !a.some|| !b.some then Cg.none
 else if a.m=0/\ b.m=0 then (if mP op b.r≠0 then Cg.none else Cg.of 0 (fX op a.r b.r))
 else if op=10 \/op=11 then kW op (Int.gcd a.m b.m:Int) a b dm
 else if op=7 then rL a b dm
 else if op=8 then lK a b dm
 else if op=9 then vG a b
 else oU op a b
def aAq (op:Int) (a b:Cg) (dm:Bool):Cg:=jM op a.clean b.clean dm
theorem aRJ {m n:Int} (hm:0<=m/\ m<9223372036854775808) (hn:0<=n/\ n<9223372036854775808):(Int.gcd m n:Int)<9223372036854775808:=by
 rcases Int.lt_or_eq_of_le hm.1 with h|rfl
 . have:=Int.le_of_dvd h (Int.gcd_dvd_left m n);omega
 . rcases Int.lt_or_eq_of_le hn.1 with h|rfl
   . have:=Int.le_of_dvd h (Int.gcd_dvd_right 0 n);omega
   . decide
theorem aAJ (c:Cg):c.clean.tidy:=by
 unfold Cg.clean;split
 . unfold Cg.of;split
   . exact .inr ⟨rfl,by show (0:Int)<=1;decide,fun h=>oA _ _ h⟩
   . exact .inr ⟨rfl,by show (0:Int)<=c.m;omega,fun h=>oA _ _ h⟩
 . exact .inl rfl
theorem aI3 {c:Int} (h:c≠0):0<aX c:=j0w
def kO (op:Int) (a b:Sp):Bool:=
 if a.none||b.none then false
 else if op=8 then a.has (-9223372036854775808)&&b.has (-1)
 else (pN (dB op) a b).any fun e=>fN op&& !bJ e
theorem bA5 {m:Int} (h: -9223372036854775808<=m/\ m<9223372036854775808) (h0:0<=m):IntKind.wrap .i64 ((BitVec.ofInt IntKind.i64.bits m&&&BitVec.ofInt IntKind.i64.bits (IntKind.wrap .i64 (0-m))).toNat:Int)=kB m:=by
 have hm:(m.toNat:Int)=m:=Int.toNat_of_nonneg h0
 rcases Int.lt_or_le 0 m with hp|hp
 . have e1:(BitVec.ofInt IntKind.i64.bits m).toNat=m.toNat:=by
    rw [BitVec.toNat_ofInt];show (m%18446744073709551616).toNat=_;rw [Int.emod_eq_of_lt h0 j3]
   have e2:(BitVec.ofInt IntKind.i64.bits (IntKind.wrap .i64 (0-m))).toNat=2^64-m.toNat:=by
    rw [BitVec.toNat_ofInt,aR (0-m) j3 j3];show ((0-m)%18446744073709551616).toNat=_
    rw [show (0-m)%18446744073709551616=18446744073709551616-m by omega];omega
   rw [BitVec.toNat_and,e1,e2];have:=aPi hp h.2
   show IntKind.wrap .i64 (kB m)=kB m
   exact aR _ j3 j3
 . obtain rfl:m=0:=by omega
   decide
theorem aQC {X m l:Int} (h0:0<=X) (hm:0<m):(X.tmod m*18446744073709551616+l)%m=(X*18446744073709551616+l)%m:=by
 rw [Int.tmod_eq_emod_of_nonneg h0];have e:X*18446744073709551616+l=(X%m*18446744073709551616+l)+m*(X/m*18446744073709551616):=by
  have:=Int.emod_add_mul_ediv X m
  rw [<-Int.mul_assoc];have e2:X*18446744073709551616=(X%m+m*(X/m))*18446744073709551616:=by rw [this]
  rw [e2,Int.add_mul];omega
 rw [e,Int.add_mul_emod_self_left]
@[reducible] def vH (X m l : Int) : Int := ((IntKind.wrap .u64 X).tmod (IntKind.wrap .u64 m) * 18446744073709551616 + l) % IntKind.wrap .u64 m
section
variable {h l m:Int} (k:Wd.ok ⟨h,l⟩) (hm:0<m) (lu: -9223372036854775808≤m∧m<9223372036854775808)
include k hm lu
theorem aZh (h0:decide (h<0)=false):vH h m l=Wd.val ⟨h,l⟩%m:=by
 have h0:=of_decide_eq_false h0
 unfold Wd.ok at k;dsimp only at k
 unfold vH;rw [fQ h j3 j3,fQ m j3 j3,aQC j3 hm];rfl
theorem aQD (h0:decide (h<0)=true):vH (wd (0-Wd.val ⟨h,l⟩)).hi m (wd (0-Wd.val ⟨h,l⟩)).lo=(-Wd.val ⟨h,l⟩)%m:=by
 have h0:=of_decide_eq_true h0
 unfold Wd.ok at k;dsimp only at k
 unfold vH;have e:IntKind.wrap .u64 (wd (0-Wd.val ⟨h,l⟩)).hi*18446744073709551616+(wd (0-Wd.val ⟨h,l⟩)).lo= -Wd.val ⟨h,l⟩:=by rw [wU];unfold wd Wd.val;dsimp only;omega
 rw [fQ m j3 j3,aQC j1a hm,e]
theorem aMo {X:Int}:0<=(IntKind.wrap .u64 X).tmod (IntKind.wrap .u64 m)/\ (IntKind.wrap .u64 X).tmod (IntKind.wrap .u64 m)<18446744073709551616/\ (IntKind.wrap .u64 X).tmod (IntKind.wrap .u64 m)<IntKind.wrap .u64 m:=by
 rw [fQ m j3 j3,Int.tmod_eq_emod_of_nonneg j1a];have h1:=Int.emod_nonneg (IntKind.wrap .u64 X) (b:=m) j3
 have h2:=Int.emod_lt_of_pos (IntKind.wrap .u64 X) hm
 omega
theorem bDT (h0:decide (h<0)=false):IntKind.wrap .i64 (vH h m l)=Wd.val ⟨h,l⟩%m:=by
 rw [aZh k hm lu h0];have h1:=Int.emod_nonneg (Wd.val ⟨h,l⟩) (b:=m) j3
 have h2:=Int.emod_lt_of_pos (Wd.val ⟨h,l⟩) hm
 exact aR _ j3 j3
theorem bCI (h0:decide (h<0)=true) (hr:decide (vH (wd (0-Wd.val ⟨h,l⟩)).hi m (wd (0-Wd.val ⟨h,l⟩)).lo>0)=false):IntKind.wrap .i64 (vH (wd (0-Wd.val ⟨h,l⟩)).hi m (wd (0-Wd.val ⟨h,l⟩)).lo)=Wd.val ⟨h,l⟩%m:=by
 have hr:=of_decide_eq_false hr
 rw [aQD k hm lu h0] at*
 have h1:=Int.emod_nonneg (-Wd.val ⟨h,l⟩) (b:=m) j3
 have e:(-Wd.val ⟨h,l⟩)%m=0:=j3
 have d:m∣Wd.val ⟨h,l⟩:=Int.dvd_neg.1 (Int.dvd_of_emod_eq_zero e)
 rw [e,Int.emod_eq_zero_of_dvd d];rfl
theorem bCJ (h0:decide (h<0)=true) (hr:decide (vH (wd (0-Wd.val ⟨h,l⟩)).hi m (wd (0-Wd.val ⟨h,l⟩)).lo>0)=true):IntKind.wrap .i64 (IntKind.wrap .u64 (IntKind.wrap .u64 m-vH (wd (0-Wd.val ⟨h,l⟩)).hi m (wd (0-Wd.val ⟨h,l⟩)).lo))=Wd.val ⟨h,l⟩%m:=by
 have hr:=of_decide_eq_true hr
 rw [aQD k hm lu h0] at*
 have h2:=Int.emod_lt_of_pos (-Wd.val ⟨h,l⟩) hm
 rw [fQ m j3 j3];have h3:=Int.emod_add_mul_ediv (-Wd.val ⟨h,l⟩) m
 generalize (-Wd.val ⟨h,l⟩)%m=r at*
 generalize (-Wd.val ⟨h,l⟩)/m=q at*
 rw [fQ (m-r) j3 j3,aR (m-r) j3 j3];have e:Wd.val ⟨h,l⟩=(m-r)+m*(-q-1):=by rw [Int.mul_sub,Int.mul_neg];omega
 rw [e,Int.add_mul_emod_self_left,Int.emod_eq_of_lt j3 j3]
end
def aJH:List Ar->Option Rs
 | [.c (.d (.v (.int .i64 i0)))]=>some ⟨(-9223372036854775808<=i0/\ i0<9223372036854775808)/\ (0<=i0),.va (.c (.d (it (kB i0)))),[]⟩
 |_=>none
theorem aXk:FC prog 292 aJH:=by
 intro xs pre r us h hp;unfold aJH at h;split at h
 . rename_i i0
   cases h;obtain ⟨a7,a8⟩:=hp
   refine aE aA (l:= []) trivial func292 rfl j4 false ?_
   repeat' (first|exact trivial|refine ⟨?_,?_⟩|fail)
   all_goals first|(conv=>whnf)
   all_goals first|exact congrArg (Value.int .i64) (bA5 a7 a8)
 . cases h
def aDk:List Ar->Option Rs
 | [.c (.d (.v (.int .i64 i0)))]=>some ⟨(-9223372036854775808<=i0/\ i0<9223372036854775808),.va (.c (.d (ut (aX i0)))),[]⟩
 |_=>none
theorem aI4:FC prog 296 aDk:=by
 intro xs pre r us h hp;unfold aDk at h;split at h
 . rename_i i0
   cases h;have a7:=hp
   refine aE aA (l:= []) trivial func296 rfl j4 false ?_
   repeat' (first|exact trivial|refine ⟨?_,?_⟩|intro _)
   all_goals first|(conv=>whnf)
   all_goals first|exact j5z
 . cases h
def yR:List Ar->Option Rs
 | [.agg [.d (.v (.bool b0)),.d (.v (.int .i64 m0)),.d (.v (.int .i64 r0))],.c (.d (.v (.int .i64 i1)))]=>some ⟨(Cg.inR ⟨b0,m0,r0⟩)/\ (-9223372036854775808<=i1/\ i1<9223372036854775808),.va (.c (.d (bo (dU (⟨b0,m0,r0⟩:Cg) i1)))),[]⟩
 |_=>none
theorem aCX:FC prog 294 yR:=by
 intro xs pre r us h hp;unfold yR at h;split at h
 . rename_i b0 m0 r0 i1
   cases h;obtain ⟨a7,a8⟩:=hp
   refine aE aA (l:= []) trivial func294 rfl j4 false ?_
   repeat' (first|exact trivial|refine ⟨?_,?_⟩|intro _)
   all_goals first|(conv=>whnf)
   all_goals first|grind [dU]
 . cases h
def aBl:List Ar->Option Rs
 | [.c (.d (.v (.int .i64 i0))),.c (.d (.v (.int .i64 i1)))]=>some ⟨(-9223372036854775808<=i0/\ i0<9223372036854775808)/\ (-9223372036854775808<=i1/\ i1<9223372036854775808)/\ (0<=i0/\ 0<=i1),.va (.c (.d (it ((Int.gcd i0 i1:Int))))),[]⟩
 |_=>none
theorem aFx:FC prog 248 aBl:=by
 intro xs pre r us h hp;unfold aBl at h;split at h
 . rename_i i0 i1
   cases h;obtain ⟨a7,a8,af⟩:=hp
   refine aE aA (l:= [(133,⟨[],aBW⟩)]) ⟨aGr,trivial⟩ func248 rfl j4 false ?_
   have w0:=fQ i0 af.1 j3
   have w1:=fQ i1 af.2 j3
   have hl:=aRJ (m:=i0) (n:=i1) ⟨af.1,a7.2⟩ ⟨af.2,a8.2⟩
   (repeat' (first|exact trivial|refine ⟨?_,?_⟩|intro _));all_goals first|apply qq|conv=>whnf
   all_goals (simp only [w0,w1])
   all_goals first|omega|exact congrArg (Value.int .i64) (aR _ j3 hl)
 . cases h
def aJI:List Ar->Option Rs
 | [.agg [.d (.v (.int .i64 h0)),.d (.v (.int .u64 l0))],.c (.d (.v (.int .i64 i1)))]=>some ⟨(Wd.ok ⟨h0,l0⟩)/\ (-9223372036854775808<=i1/\ i1<9223372036854775808)/\ (0<i1),.va (.c (.d (it (Wd.val (⟨h0,l0⟩:Wd)%i1)))),[]⟩
 |_=>none
theorem aXl:FC prog 293 aJI:=by
 intro xs pre r us h hp;unfold aJI at h;split at h
 . rename_i h0 l0 i1
   cases h;obtain ⟨a7,a8,af⟩:=hp
   refine aE aA (l:= [(304,⟨[],aGH⟩),(179,⟨[],aAg⟩)]) ⟨aRC,aDY,trivial⟩ func293 rfl j4 false ?_
   have hq:=a7
   unfold Wd.ok at hq;cases CM:decide (h0<0)
   all_goals (repeat' (first|exact trivial|(with_reducible first|exact a7|exact nx CM|exact hq.2.1|exact hq.2.2)|refine ⟨?_,?_⟩|intro _));all_goals first|apply qq|conv=>whnf
   all_goals first|((with_reducible show _<=Int.tmod _ _);exact (aMo a7 af a8).1)|((with_reducible show Int.tmod _ _<IntKind.wrap _ _);exact (aMo a7 af a8).2.2)|((with_reducible show Int.tmod _ _<_);exact (aMo a7 af a8).2.1)|((with_reducible show _<=Wd.lo _);exact (bL _).2.1)|((with_reducible show Wd.lo _<_);exact (bL _).2.2)|(have k1:decide (h0<0)=false:=j2h;(with_reducible show Value.int _ _=_);exact congrArg (Value.int .i64) (bDT a7 af a8 k1))|(have k1:decide (h0<0)=true:=j2h;(with_reducible show Value.int _ (IntKind.wrap _ (IntKind.wrap _ _))=_);exact congrArg (Value.int .i64) (bCJ a7 af a8 k1 (by with_reducible_and_instances assumption)))|(have k1:decide (h0<0)=true:=j2h;(with_reducible show Value.int _ _=_);exact congrArg (Value.int .i64) (bCI a7 af a8 k1 (by with_reducible_and_instances assumption)))|((with_reducible show False);rename IntKind.wrap _ _=_=>h;rw [fQ i1 j3 j3] at h;omega)|((with_reducible show _<=IntKind.wrap _ _);rw [fQ i1 j3 j3];omega)|((with_reducible show IntKind.wrap _ _<_);rw [fQ i1 j3 j3];omega)
 . cases h
section
variable {op a b:Int}
theorem aSL (h:(op==10)=true):dB op a b=a+b/\ fN op=true:=j0k
theorem aSM (h:(op==11)=true):dB op a b=a-b/\ fN op=true:=j0k
theorem aTu (h:(op==7)=true):dB op a b=a*b/\ fN op=true:=j0k
theorem aSN (h:(op==10)=false) (h1:(op==11)=false) (h2:(op==7)=false):dB op a b=0/\ fN op=false:=by
 unfold dB fN;rw [h,h1,h2,if_neg (ne_of_beq_false h),if_neg (ne_of_beq_false h1),if_neg (ne_of_beq_false h2)];exact ⟨rfl,rfl⟩
end
theorem aQE (A B:Int):wd ((wd A).val+(wd B).val)=wd (A+B):=j2p
theorem aRK (A B:Int):wd ((wd A).val-(wd B).val)=wd (A-B):=j2p
theorem bCK (e:Int):(Wd.val (wd e)+9223372036854775808)%18446744073709551616-9223372036854775808=wr e:=by unfold wr wd Wd.val;dsimp only;omega
def aJJ:List Ar->Option Rs
 | [.c (.d (.v (.bool b0)))]=>some ⟨True,.va (.c (.d (it (if b0=true then 1 else 0)))),[]⟩
 |_=>none
theorem aXm:FC prog 291 aJJ:=by
 intro xs pre r us h hp;unfold aJJ at h;split at h
 . rename_i b0
   cases h;refine aE aA (l:= []) trivial func291 rfl j4 false ?_
   repeat' (first|exact trivial|refine ⟨?_,?_⟩|intro _)
   all_goals first|(conv=>whnf)
   all_goals first|(simp_all;done)
 . cases h
def aA4:List Ar->Option Rs
 | [.c (.d (.v (.int .i64 i0))),.c (.d (.v (.int .i64 i1))),.c (.d (.v (.int .i64 i2)))]=>some ⟨(-9223372036854775808<=i0/\ i0<9223372036854775808)/\ (-9223372036854775808<=i1/\ i1<9223372036854775808)/\ (-9223372036854775808<=i2/\ i2<9223372036854775808),.tup [Wd.ar (wd (dB i0 i1 i2)),.c (.d (bo (fN i0)))],[]⟩
 |_=>none
theorem aE7:FC prog 240 aA4:=by
 intro xs pre r us h hp;unfold aA4 at h;split at h
 . rename_i i0 i1 i2
   cases h;obtain ⟨a7,a8,af⟩:=hp
   refine aE aA (l:= [(177,⟨[],qH⟩),(237,⟨[],aBS⟩),(176,⟨[],uU⟩),(227,⟨[],aB2⟩)]) ⟨sW,aGn,zQ,aGI,trivial⟩ func240 rfl j4 false ?_
   repeat' (first|exact trivial|(with_reducible first|exact a8|exact af|exact bL _)|refine ⟨?_,?_⟩|intro _)
   all_goals first|(conv=>whnf)
   all_goals first|(rw [(aSL ‹_›).1];first|exact (congrArg (fun w:Wd=>Value.int .i64 w.hi) (aQE i1 i2))|exact (congrArg (fun w:Wd=>Value.int .u64 w.lo) (aQE i1 i2)))|(rw [(aSL (a:=0) (b:=0) ‹_›).2];done)|(rw [(aSM ‹_›).1];first|exact (congrArg (fun w:Wd=>Value.int .i64 w.hi) (aRK i1 i2))|exact (congrArg (fun w:Wd=>Value.int .u64 w.lo) (aRK i1 i2)))|(rw [(aSM (a:=0) (b:=0) ‹_›).2];done)|(rw [(aTu ‹_›).1];done)|(rw [(aTu (a:=0) (b:=0) ‹_›).2];done)|(rw [(aSN ‹_› ‹_› ‹_›).1];first|rfl)|(rw [(aSN (a:=0) (b:=0) ‹_› ‹_› ‹_›).2];done)
 . cases h
section
variable {op a b:Int}
theorem aTv (ho:op=8 \/op=9) (h:(b==0)=true):fX op a b=0/\ mP op b=10:=by
 obtain rfl:=eq_of_beq h;rcases ho with rfl|rfl<;>exact ⟨rfl,rfl⟩
theorem bDU (ho:op=8 \/op=9) (h:(b==0)=false):mP op b=0:=by
 have h:=ne_of_beq_false h
 rcases ho with rfl|rfl<;>(unfold mP;rw [if_neg j5,if_pos j5,if_neg h])
theorem bDV (h:(b== -1)=true) (h8:(op==8)=true):fX op a b=wr (-a):=by
 obtain rfl:=eq_of_beq h;obtain rfl:=eq_of_beq h8;rw [aQA j5,show (-1:Int)= -(1) from rfl,Int.tdiv_neg,Int.tdiv_one]
theorem bDW (ho:op=8 \/op=9) (h:(b== -1)=true) (h8:(op==8)=false):fX op a b=0:=by
 obtain rfl:=eq_of_beq h
 rcases ho with rfl|rfl
 . cases h8
 . rw [aQz j5,show (-1:Int)= -(1) from rfl,Int.tmod_neg,Int.tmod_one]
theorem bDX (h0:(b==0)=false) (h8:(op==8)=true):fX op a b=wr (a.tdiv b):=by
 obtain rfl:=eq_of_beq h8
 exact aQA (ne_of_beq_false h0)
theorem bDY (ho:op=8 \/op=9) (h0:(b==0)=false) (h8:(op==8)=false):fX op a b=a.tmod b:=by
 rcases ho with rfl|rfl
 . cases h8
 . rw [aQz (ne_of_beq_false h0)]
theorem bA6 (a:Int):IntKind.wrap .i64 (0-a)=wr (-a):=by rw [wI];unfold wr;congr 2;omega
theorem bDZ (a:Int):IntKind.wrap .i64 a=wr a:=wI a
end
def aJK:List Ar->Option Rs
 | [.c (.d (.v (.int .i64 i0))),.c (.d (.v (.int .i64 i1))),.c (.d (.v (.int .i64 i2)))]=>some ⟨(-9223372036854775808<=i0/\ i0<9223372036854775808)/\ (-9223372036854775808<=i1/\ i1<9223372036854775808)/\ (-9223372036854775808<=i2/\ i2<9223372036854775808)/\ (i0=8 \/i0=9),.tup [.c (.d (it (fX i0 i1 i2))),.c (.d (it (mP i0 i2)))],[]⟩
 |_=>none
theorem aXn:FC prog 289 aJK:=by
 intro xs pre r us h hp;unfold aJK at h;split at h
 . rename_i i0 i1 i2
   cases h;obtain ⟨a7,a8,af,di⟩:=hp
   refine aE aA (l:= []) trivial func289 rfl j4 false ?_
   repeat' (first|exact trivial|refine ⟨?_,?_⟩|intro _)
   all_goals first|(conv=>whnf)
   all_goals first|(rw [(aTv di ‹_›).1];done)|(rw [(aTv (a:=0) di ‹_›).2];done)|(rw [bDU di ‹_›];done)|(rw [bDV ‹_› ‹_›];first|exact congrArg _ (bA6 _))|(rw [bDW di ‹_› ‹_›];done)|(rw [bDX ‹_› ‹_›];exact congrArg (Value.int .i64) (bDZ _))|(exact absurd ‹i2=0› (ne_of_beq_false ‹(i2==0)=false›))|(rw [bDY di ‹_› ‹_›];first|done)
 . cases h
def oX (op a b:Int):Bool:=decide (12<=op/\ op<=17)&&aEr op a b
theorem bD0 (a b:Int):oX 12 a b=decide (a<b)/\ oX 13 a b=decide (a<=b)/\ oX 14 a b=(a==b)/\ oX 15 a b=(a !=b)/\ oX 16 a b=(a !=0&&b !=0)/\ oX 17 a b=(a !=0||b !=0):=by
 unfold oX aEr;refine ⟨?_,?_,?_,?_,?_,?_⟩<;>(rw [Bool.eq_iff_iff];simp)
theorem bCL {op a b:Int} (h: ¬(12<=op/\ op<=17)):oX op a b=false:=by unfold oX;rw [decide_eq_false h];rfl
def aJL:List Ar->Option Rs
 | [.c (.d (.v (.int .i64 i0))),.c (.d (.v (.int .i64 i1))),.c (.d (.v (.int .i64 i2)))]=>some ⟨(-9223372036854775808<=i0/\ i0<9223372036854775808)/\ (-9223372036854775808<=i1/\ i1<9223372036854775808)/\ (-9223372036854775808<=i2/\ i2<9223372036854775808),.tup [.c (.d (bo (oX i0 i1 i2))),.c (.d (bo (decide (12<=i0/\ i0<=17))))],[]⟩
 |_=>none
theorem aXo:FC prog 290 aJL:=by
 intro xs pre r us h hp;unfold aJL at h;split at h
 . rename_i i0 i1 i2
   cases h;obtain ⟨a7,a8,af⟩:=hp
   refine aE aA (l:= []) trivial func290 rfl j4 false ?_
   repeat' (fail)
   all_goals first|(conv=>whnf)
   refine aJj aA (ls:= []) trivial j4 0 rfl (X:=Bool) (fun x=>⟨[(8,vx (.bool x))],[],0,47⟩) (fun _=>0)
    (fun x=>x=oX i0 i1 i2/\ (12<=i0/\ i0<=17)) [8] [] (fun xs _=>match xs with| [a]=>bT a|_=>false) (fun _ xs _=>match xs with| [a]=>bT a|_=>false) [] [] 0 0 ?_ ?_
   . (repeat' (first|exact trivial|refine ⟨?_,?_⟩|intro _));all_goals first|apply qq|conv=>whnf
     all_goals first|((with_reducible show gJ _ _=true);rfl)|skip
     all_goals (try simp only [bT])
     all_goals (try simp only [beq_iff_eq,beq_eq_false_iff_ne,ne_eq] at*)
     all_goals (have hk:=bD0 i1 i2)
     all_goals first|omega|rfl|(have e:=‹i0=12›;rw [e];first|exact hk.1.symm)|(have e:=‹i0=13›;rw [e];exact hk.2.1.symm)|(have e:=‹i0=14›;rw [e];exact hk.2.2.1.symm)|(have e:=‹i0=15›;rw [e];exact hk.2.2.2.1.symm)|(have e:=‹i0=16›;rw [e,hk.2.2.2.2.1];(try (simp_all;done)))|(have e:=‹i0=17›;rw [e,hk.2.2.2.2.2];(try (simp_all;done)))|(exact congrArg Value.bool (bCL j3).symm)|(exact congrArg Value.bool (decide_eq_false j3).symm)
   . rintro x ⟨rfl,hx⟩
     repeat' (first|exact trivial|refine ⟨?_,?_⟩|fail)
     all_goals first|(conv=>whnf)
     all_goals first|exact congrArg Value.bool (decide_eq_true hx).symm
 . cases h
section
variable {op a b:Int}
theorem aTw (h:fN op=true):fX op a b=wr (dB op a b)/\ mP op b=0:=by unfold fX mP;rw [if_pos h,if_pos h];exact ⟨rfl,rfl⟩
theorem aTx (h:fN op=false) (h8:(op==8)=false) (h9:(op==9)=false) (hh:decide (12<=op/\ op<=17)=true):fX op a b=(if oX op a b=true then 1 else 0)/\ mP op b=0:=by
 have yr:=of_decide_eq_true hh
 have h': ¬fN op=true:=w5
 unfold fX mP oX;rw [if_neg h',if_neg h',if_neg (ne_of_beq_false h8),if_neg (ne_of_beq_false h9),if_pos yr,if_neg (c:=_ \/_) (by have:=ne_of_beq_false h8;have:=ne_of_beq_false h9;omega),if_pos yr,hh];exact ⟨rfl,rfl⟩
theorem aTy (h:fN op=false) (h8:(op==8)=false) (h9:(op==9)=false) (hh:decide (12<=op/\ op<=17)=false):fX op a b=0/\ mP op b=2:=by
 have yr:=of_decide_eq_false hh
 have h': ¬fN op=true:=w5
 unfold fX mP;rw [if_neg h',if_neg h',if_neg (ne_of_beq_false h8),if_neg (ne_of_beq_false h9),if_neg yr,if_neg (by have:=ne_of_beq_false h8;have:=ne_of_beq_false h9;omega),if_neg yr];exact ⟨rfl,rfl⟩
end
def aHd:List Ar->Option Rs
 | [.c (.d (.v (.int .i64 i0))),.c (.d (.v (.int .i64 i1))),.c (.d (.v (.int .i64 i2)))]=>some ⟨(-9223372036854775808<=i0/\ i0<9223372036854775808)/\ (-9223372036854775808<=i1/\ i1<9223372036854775808)/\ (-9223372036854775808<=i2/\ i2<9223372036854775808),.tup [.c (.d (it (fX i0 i1 i2))),.c (.d (it (mP i0 i2)))],[]⟩
 |_=>none
theorem aSO:FC prog 246 aHd:=by
 intro xs pre r us h hp;unfold aHd at h;split at h
 . rename_i i0 i1 i2
   cases h;obtain ⟨a7,a8,af⟩:=hp
   refine aE aA (l:= [(240,⟨[],aA4⟩),(269,⟨[],aBT⟩),(289,⟨[],aJK⟩),(290,⟨[],aJL⟩),(291,⟨[],aJJ⟩)]) ⟨aE7,aGo,aXn,aXo,aXm,trivial⟩ func246 rfl j4 false ?_
   repeat' (first|exact trivial|(with_reducible first|exact a7|exact a8|exact af|exact bL _)|refine ⟨?_,?_⟩|intro _)
   all_goals first|(conv=>whnf)
   all_goals (try simp only [Bool.not_eq_true',Bool.not_eq_false'] at*)
   all_goals first|(exact .inl (eq_of_beq ‹(i0==8)=true›))|(exact .inr (eq_of_beq ‹(i0==9)=true›))|(rw [(aTw ‹_›).1];first|exact congrArg (Value.int .i64) (bCK _))|(rw [(aTw (a:=0) ‹_›).2];done)|(rw [(aTx ‹_› ‹_› ‹_› ‹_›).1];first|done)|(rw [(aTx (a:=0) ‹_› ‹_› ‹_› ‹_›).2];done)|(rw [(aTy ‹_› ‹_› ‹_› ‹_›).1];done)|(rw [(aTy (a:=0) ‹_› ‹_› ‹_› ‹_›).2];done)
 . cases h
def tP (s:Int) (a x:Wd):Wd:=if mM x.val a.val=s then x else a
def iJ (s:Int) (a:Wd) (f:Nat->List DV):Nat->Wd
 |0=>a
 |k+1=>tP s (iJ s a f k) (gW (f k))
theorem aSP {s:Int} {a x:Wd} (h:(mM x.val a.val==s)=true):tP s a x=x:=by unfold tP;rw [if_pos w7]
theorem aSQ {s:Int} {a x:Wd} (h:(mM x.val a.val==s)=false):tP s a x=a:=by unfold tP;rw [if_neg w7]
theorem aF8 {s:Int} {a:Wd} {f:Nat->List DV} (ha:a.ok): ∀n,(∀i,i<n->Wd.ok (gW (f i)))->(iJ s a f n).ok
 |0,_=>ha
 |n+1,h=>by
  unfold iJ tP;split
  . exact h n (Nat.lt_succ_self n)
  . exact aF8 ha n fun i hi=>h i (Nat.lt_succ_of_lt hi)
theorem aES (s:Int) (a:Wd) (f:Nat->List DV): ∀n,iJ s a (fun i=> [it (gW (f i)).hi,ut (gW (f i)).lo]) n=iJ s a f n
 |0=>rfl
 |n+1=>by unfold iJ;rw [aES s a f n];rfl
def eG (n:Nat) (f:Nat->List DV):List Int:=(List.range n).map fun i=>(gW (f i)).val
theorem aNS (n:Nat) (f:Nat->List DV):eG (n+1) f=eG n f++ [(gW (f n)).val]:=by unfold eG;rw [List.range_succ,List.map_append];rfl
theorem aRL (a:Wd) (f:Nat->List DV): ∀n,(iJ 1 a f n).val=oT a.val (eG n f)
 |0=>rfl
 |n+1=>by
  have ih:=aRL a f n
  rw [aNS];unfold oT;rw [List.foldl_append]
  show (tP 1 (iJ 1 a f n) (gW (f n))).val=if oT a.val (eG n f)<(gW (f n)).val then (gW (f n)).val else oT a.val (eG n f)
  rw [<-ih];unfold tP mM
  (repeat' split)<;>first|rfl|omega
theorem aRM (a:Wd) (f:Nat->List DV): ∀n,(iJ (-1) a f n).val=oS a.val (eG n f)
 |0=>rfl
 |n+1=>by
  have ih:=aRM a f n
  rw [aNS];unfold oS;rw [List.foldl_append]
  show (tP (-1) (iJ (-1) a f n) (gW (f n))).val=if (gW (f n)).val<oS a.val (eG n f) then (gW (f n)).val else oS a.val (eG n f)
  rw [<-ih];unfold tP mM
  (repeat' split)<;>first|rfl|omega
def aFy:List Ar->Option Rs
 | [.agg [.d (.v (.int .i64 h0)),.d (.v (.int .u64 l0))],.c (.d (.v (.int .i64 i1))),.c (.d (.lst 2 n2 f2))]=>some ⟨(Wd.ok ⟨h0,l0⟩)/\ (-9223372036854775808<=i1/\ i1<9223372036854775808)/\ ((n2<=1000000/\ ∀i,i<n2->f2 i= [it (gW (f2 i)).hi,ut (gW (f2 i)).lo]/\ Wd.ok (gW (f2 i)))),.va (Wd.ar (iJ i1 (⟨h0,l0⟩:Wd) f2 n2)),[]⟩
 |_=>none
theorem aPj:FC prog 221 aFy:=by
 intro xs pre r us h hp;unfold aFy at h;split at h
 . rename_i h0 l0 i1 n2 f2
   cases h;obtain ⟨a7,a8,af⟩:=hp
   refine aU.of_eq (as':= [.agg [.d (.v (.int .i64 h0)),.d (.v (.int .u64 l0))],.c (.d (.v (.int .i64 i1))),.c (.d (.lst 2 n2 fun i=> [it (gW (f2 i)).hi,ut (gW (f2 i)).lo]))]) ?_ rfl rfl ?_
   . repeat' (first|exact j2t|refine ⟨?_,?_⟩|fail)
     all_goals first|(intro i hi;exact (af.2 i hi).1)
   refine aE aA (l:= [(257,⟨[],aAh⟩)]) ⟨aDZ,trivial⟩ func221 rfl j4 true ?_
   repeat' (fail)
   all_goals first|(conv=>whnf)
   refine dM aA (l:= [(257,⟨[],aAh⟩)]) ⟨aDZ,trivial⟩ j4 (X:=Nat)
    (fun x=>⟨[(11,vx (.int .i64 x)),(10,vx (.int .i64 n2)),(9,.va (.c (.d (.lst 2 n2 fun i=> [it (gW (f2 i)).hi,ut (gW (f2 i)).lo])))),(1,vx (.int .i64 i1)),(3,.va (.c (.own 0 0))),(6,.va (.c (.own 1 0)))],[(0,.cells [.d (it (iJ i1 ⟨h0,l0⟩ f2 x).hi),.d (ut (iJ i1 ⟨h0,l0⟩ f2 x).lo)]),(1,.cells [.d (it 0),.d (ut 0)])],2,23⟩)
    (fun x=>n2-x) (fun x=>x<=n2) [] [] (fun x _ _=>x+1) [0,1] [0,1] 0 0 0 (Nat.zero_le _) ?_ ?_
   . repeat' (first|exact j2w|refine ⟨?_,?_⟩|fail)
     all_goals fail
   . intro i k1;have f0:Wd.ok (iJ i1 ⟨h0,l0⟩ f2 i):=aF8 a7 i fun j hj=>(af.2 j j3).2
     rcases Nat.lt_or_ge i n2 with hi|hi
     . have ag:decide ((i:Int)<(n2:Int))=true:=decide_eq_true j3
       (repeat' (first|exact trivial|(with_reducible first|exact f0|exact nx ag)|refine ⟨?_,?_⟩|intro _));all_goals first|apply qq|conv=>whnf
       all_goals (try simp only [Int.toNat_natCast] at*)
       all_goals first|omega|rfl|(exact ((af.2 i hi).2).1.1)|(exact ((af.2 i hi).2).1.2)|(exact ((af.2 i hi).2).2.1)|(exact ((af.2 i hi).2).2.2)|(exact congrArg (fun w:Wd=>Value.int .i64 w.hi) (aSP ‹(_==i1)=true›).symm)|(exact congrArg (fun w:Wd=>Value.int .u64 w.lo) (aSP ‹(_==i1)=true›).symm)|(exact congrArg (fun w:Wd=>Value.int .i64 w.hi) (aSQ ‹(_==i1)=false›).symm)|(exact congrArg (fun w:Wd=>Value.int .u64 w.lo) (aSQ ‹(_==i1)=false›).symm)|exact j3a
     . have ag:decide ((i:Int)<(n2:Int))=false:=decide_eq_false j3
       obtain rfl:i=n2:=j3
       repeat' (first|exact j3i|refine ⟨?_,?_⟩|intro _)
       all_goals first|(conv=>whnf)
       all_goals fail
 . cases h
def aKF:List Ar->Option Rs
 | [.agg [.d (.v (.int .i64 h0)),.d (.v (.int .u64 l0))],.c (.d (.lst 2 n1 f1))]=>some ⟨(Wd.ok ⟨h0,l0⟩)/\ ((n1<=1000000/\ ∀i,i<n1->f1 i= [it (gW (f1 i)).hi,ut (gW (f1 i)).lo]/\ Wd.ok (gW (f1 i)))),.va (Wd.ar (iJ 1 (⟨h0,l0⟩:Wd) f1 n1)),[]⟩
 |_=>none
theorem aZi:FC prog 178 aKF:=by
 intro xs pre r us h hp;unfold aKF at h;split at h
 . rename_i h0 l0 n1 f1
   cases h;obtain ⟨a7,a8⟩:=hp
   refine aU.of_eq (as':= [.agg [.d (.v (.int .i64 h0)),.d (.v (.int .u64 l0))],.c (.d (.lst 2 n1 fun i=> [it (gW (f1 i)).hi,ut (gW (f1 i)).lo]))]) ?_ rfl rfl ?_
   . repeat' (first|exact j2t|refine ⟨?_,?_⟩|fail)
     all_goals first|(intro i hi;exact (a8.2 i hi).1)
   refine aE aA (l:= [(221,⟨[],aFy⟩)]) ⟨aPj,trivial⟩ func178 rfl j4 true ?_
   (repeat' (first|exact trivial|refine ⟨?_,?_⟩|intro _));all_goals first|apply qq|conv=>whnf
   all_goals (try simp only [aES])
   all_goals first|exact j4a
 . cases h
def aKG:List Ar->Option Rs
 | [.agg [.d (.v (.int .i64 h0)),.d (.v (.int .u64 l0))],.c (.d (.lst 2 n1 f1))]=>some ⟨(Wd.ok ⟨h0,l0⟩)/\ ((n1<=1000000/\ ∀i,i<n1->f1 i= [it (gW (f1 i)).hi,ut (gW (f1 i)).lo]/\ Wd.ok (gW (f1 i)))),.va (Wd.ar (iJ (-1) (⟨h0,l0⟩:Wd) f1 n1)),[]⟩
 |_=>none
theorem aZj:FC prog 282 aKG:=by
 intro xs pre r us h hp;unfold aKG at h;split at h
 . rename_i h0 l0 n1 f1
   cases h;obtain ⟨a7,a8⟩:=hp
   refine aU.of_eq (as':= [.agg [.d (.v (.int .i64 h0)),.d (.v (.int .u64 l0))],.c (.d (.lst 2 n1 fun i=> [it (gW (f1 i)).hi,ut (gW (f1 i)).lo]))]) ?_ rfl rfl ?_
   . repeat' (first|exact j2t|refine ⟨?_,?_⟩|fail)
     all_goals first|(intro i hi;exact (a8.2 i hi).1)
   refine aE aA (l:= [(221,⟨[],aFy⟩)]) ⟨aPj,trivial⟩ func282 rfl j4 true ?_
   (repeat' (first|exact trivial|refine ⟨?_,?_⟩|intro _));all_goals first|apply qq|conv=>whnf
   all_goals (try simp only [aES])
   all_goals first|exact j4a
 . cases h
theorem aKH {d:Int} (h0:0<=d) (h1:d<170141183460469231731687303715884105728):((wd d).hi !=0)=decide (d≥18446744073709551616):=by
 unfold wd;rw [Bool.eq_iff_iff];simp;omega
theorem bA7 {a b:Int} (h:a<=b) (h2:decide (mM a b>0)=true):False:=by
 have:=of_decide_eq_true h2
 unfold mM at this;(repeat' split at this)<;>omega
section
variable {l h:Int} (hb:l≤h) (ht:h-l<170141183460469231731687303715884105728)
include hb ht
theorem bD1 (k:((wd (h-l)).hi !=0)=true):rK l h=aCa:=by
 rw [aKH j3 ht] at k;have:=of_decide_eq_true k;unfold rK;rw [if_pos j3]
theorem bD2 (k:((wd (h-l)).hi !=0)=false) (k2:decide (wr l>wr h)=true):rK l h=aCa:=by
 rw [aKH j3 ht] at k;have:=of_decide_eq_false k;unfold rK;rw [if_neg j3,if_pos (of_decide_eq_true k2)]
theorem bD3 (k:((wd (h-l)).hi !=0)=false) (k2:decide (wr l>wr h)=false):rK l h=Sp.of (wr l) (wr h):=by
 rw [aKH j3 ht] at k;have:=of_decide_eq_false k;unfold rK;rw [if_neg j3,if_neg (of_decide_eq_false k2)]
end
theorem bA8 (w:Wd):(w.val+9223372036854775808)%18446744073709551616-9223372036854775808=wr w.val:=rfl
def aJM:List Ar->Option Rs
 | [.agg [.d (.v (.int .i64 h0)),.d (.v (.int .u64 l0))],.agg [.d (.v (.int .i64 h1)),.d (.v (.int .u64 l1))]]=>some ⟨(Wd.ok ⟨h0,l0⟩)/\ (Wd.ok ⟨h1,l1⟩)/\ (Wd.val (⟨h0,l0⟩:Wd)<=Wd.val (⟨h1,l1⟩:Wd)/\ Wd.val (⟨h1,l1⟩:Wd)-Wd.val (⟨h0,l0⟩:Wd)<170141183460469231731687303715884105728),.va (Sp.ar (rK (Wd.val (⟨h0,l0⟩:Wd)) (Wd.val (⟨h1,l1⟩:Wd)))),[]⟩
 |_=>none
theorem aXp:FC prog 281 aJM:=by
 intro xs pre r us h hp;unfold aJM at h;split at h
 . rename_i h0 l0 h1 l1
   cases h;obtain ⟨a7,a8,af⟩:=hp
   refine aE aA (l:= [(176,⟨[],uU⟩),(257,⟨[],aAh⟩),(269,⟨[],aBT⟩),(148,⟨[],aL1⟩),(131,⟨[],lN⟩)]) ⟨zQ,aDZ,aGo,bBU,nK,trivial⟩ func281 rfl j4 false ?_
   (repeat' (first|exact j4p|refine ⟨?_,?_⟩|intro _));all_goals first|apply qq|conv=>whnf
   all_goals (try simp only [bA8] at*)
   all_goals first|exact (bA7 af.1 ‹_›).elim|exact (aB9 _).1|exact (aB9 _).2|(have e:=bD1 af.1 af.2 ‹_›;first|exact j3g)|(have e:=bD2 af.1 af.2 ‹_› ‹_›;first|exact j3g)|(have e:=bD3 af.1 af.2 ‹_› ‹_›;first|exact j3g)
 . cases h
theorem aIA {f:Int->Int->Int} (hf: ∀a b,f a b=a \/f a b=b): ∀(l:List Int) (a:Int),l.foldl f a=a \/l.foldl f a∈l
 | [],a=> .inl rfl
 |b::l,a=>by
  have ih:=aIA hf l (f a b)
  rw [List.foldl_cons];rcases ih with h|h
  . rcases hf a b with h2|h2
    . left;rw [h,h2]
    . right;rw [h,h2];exact List.mem_cons_self
  . right;exact List.mem_cons_of_mem _ h
theorem aXq (a:Int) (l:List Int):oS a l=a \/oS a l∈l:=aIA (fun a b=>by split<;>simp) l a
theorem aXr (a:Int) (l:List Int):oT a l=a \/oT a l∈l:=aIA (fun a b=>by split<;>simp) l a
theorem aOu {n:Nat} {f:Nat->List DV} {x:Int} (h:x∈eG n f): ∃i,i<n/\ x=(gW (f i)).val:=by
 unfold eG at h;obtain ⟨i,hi,rfl⟩:=List.mem_map.1 h
 exact ⟨i,List.mem_range.1 hi,rfl⟩
theorem aZk {n:Nat} {f:Nat->List DV} (h:0<n): ∃l,eG n f=(gW (f 0)).val::l:=by
 cases n with
 |zero=>omega
 |succ n=>unfold eG;rw [List.range_succ_eq_map];exact ⟨_,rfl⟩
theorem bA9 {n:Nat} {f:Nat->List DV} (h:0<n) (hr: ∀i,i<n-> -85070591730234615865843651857942052864<(gW (f i)).val/\ (gW (f i)).val<=85070591730234615865843651857942052864):jH (eG n f)=rK (iJ (-1) (gW (f 0)) f n).val (iJ 1 (gW (f 0)) f n).val/\ (iJ (-1) (gW (f 0)) f n).val<=(iJ 1 (gW (f 0)) f n).val/\ (iJ 1 (gW (f 0)) f n).val-(iJ (-1) (gW (f 0)) f n).val<170141183460469231731687303715884105728:=by
 rw [aRM,aRL];obtain ⟨l,hl⟩:=aZk (f:=f) h
 refine ⟨by rw [hl];rfl,Int.le_trans (aQx _ _).1 (aQy _ _).1, ?_⟩
 have b1: -85070591730234615865843651857942052864<oS (gW (f 0)).val (eG n f):=by
  rcases aXq (gW (f 0)).val (eG n f) with e|e
  . rw [e];exact (hr 0 h).1
  . obtain ⟨i,hi,e⟩:=aOu e;rw [e];exact (hr i hi).1
 have b2:oT (gW (f 0)).val (eG n f)<=85070591730234615865843651857942052864:=by
  rcases aXr (gW (f 0)).val (eG n f) with e|e
  . rw [e];exact (hr 0 h).2
  . obtain ⟨i,hi,e⟩:=aOu e;rw [e];exact (hr i hi).2
 generalize oS (gW (f 0)).val (eG n f)=a at*
 generalize oT (gW (f 0)).val (eG n f)=b at*
 omega
def wG:List Ar->Option Rs
 | [.c (.d (.lst 2 n0 f0))]=>some ⟨((n0<=1000000/\ ∀i,i<n0->f0 i= [it (gW (f0 i)).hi,ut (gW (f0 i)).lo]/\ Wd.ok (gW (f0 i))))/\ (∀i,i<n0-> -85070591730234615865843651857942052864<(gW (f0 i)).val/\ (gW (f0 i)).val<=85070591730234615865843651857942052864),.va (Sp.ar (jH (eG n0 f0))),[]⟩
 |_=>none
theorem aAN:FC prog 241 wG:=by
 intro xs pre r us h hp;unfold wG at h;split at h
 . rename_i n0 f0
   cases h;obtain ⟨a7,a8⟩:=hp
   refine aU.of_eq (as':= [.c (.d (.lst 2 n0 fun i=> [it (gW (f0 i)).hi,ut (gW (f0 i)).lo]))]) ?_ rfl rfl ?_
   . repeat' (first|exact j2t|refine ⟨?_,?_⟩|fail)
     all_goals first|(intro i hi;exact (a7.2 i hi).1)
   refine aE aA (l:= [(282,⟨[],aKG⟩),(178,⟨[],aKF⟩),(281,⟨[],aJM⟩)]) ⟨aZj,aZi,aXp,trivial⟩ func241 rfl j4 true ?_
   rcases Nat.eq_zero_or_pos n0 with rfl|hn
   . have ag:(((0:Nat):Int)==0)=true:=rfl
     repeat' (first|exact j3i|refine ⟨?_,?_⟩|intro _)
     all_goals first|(conv=>whnf)
     all_goals first|rfl
   . have ag:((n0:Int)==0)=false:=beq_eq_false_iff_ne.2 j3
     have hk:=bA9 hn a8
     have h1:=aF8 (s:=1) (a7.2 0 hn).2 n0 fun i hi=>(a7.2 i hi).2
     have h2:=aF8 (s:= -1) (a7.2 0 hn).2 n0 fun i hi=>(a7.2 i hi).2
     have h3:=(a7.2 0 hn).2
     (repeat' (first|exact trivial|(with_reducible first|exact nx ag|exact a7.1)|refine ⟨?_,?_⟩|intro _));all_goals first|apply qq|conv=>whnf
     all_goals (try simp only [aES,Int.toNat_zero] at*)
     all_goals first|rfl|omega|exact h1.1.1|exact h1.1.2|exact h1.2.1|exact h1.2.2|exact h2.1.1|exact h2.1.2|exact h2.2.1|exact h2.2.2|exact h3.1.1|exact h3.1.2|exact h3.2.1|exact h3.2.2|exact (a7.2 _ ‹_›).2.1.1|exact (a7.2 _ ‹_›).2.1.2|exact (a7.2 _ ‹_›).2.2.1|exact (a7.2 _ ‹_›).2.2.2|exact hk.2.1|exact hk.2.2|(have e:=hk.1;first|exact j3g)
 . cases h
def aDL:List Ar->Option Rs
 | [.c (.d (.v (.int .i64 i0))),.c (.d (.v (.int .i64 i1))),.rp [.v (.int .i64 i2)]]=>some ⟨(-9223372036854775808<=i0/\ i0<9223372036854775808)/\ (-9223372036854775808<=i1/\ i1<9223372036854775808)/\ (-9223372036854775808<=i2/\ i2<9223372036854775808),.va (Wd.ar (wd (dB i2 i0 i1))),[]⟩
 |_=>none
theorem aQF:FC prog 239 aDL:=by
 intro xs pre r us h hp;unfold aDL at h;split at h
 . rename_i i0 i1 i2
   cases h;obtain ⟨a7,a8,af⟩:=hp
   refine aE aA (l:= [(240,⟨[],aA4⟩)]) ⟨aE7,trivial⟩ func239 rfl j4 false ?_
   repeat' (first|exact j4p|refine ⟨?_,?_⟩|intro _)
   all_goals first|(conv=>whnf)
   all_goals fail
 . cases h
theorem aSR {x y:Int} (h:(y== -1)=true):wd (0-(wd x).val)=wd (x.tdiv y):=by
 obtain rfl:=eq_of_beq h
 rw [show (-1:Int)= -(1) from rfl,Int.tdiv_neg,Int.tdiv_one];unfold wd Wd.val;dsimp only;congr 1<;>omega
theorem aSS {x y:Int} (hx: -9223372036854775808<=x/\ x<9223372036854775808) (hy: -9223372036854775808<=y/\ y<9223372036854775808) (h0:y≠0) (h:(y== -1)=false):IntKind.wrap .i64 (x.tdiv y)=x.tdiv y:=by
 have:=aDj hx hy h0 (fun q=>ne_of_beq_false h q.2)
 exact aR _ this.1 this.2
def uJ:List Ar->Option Rs
 | [.c (.d (.v (.int .i64 i0))),.c (.d (.v (.int .i64 i1)))]=>some ⟨(-9223372036854775808<=i0/\ i0<9223372036854775808)/\ (-9223372036854775808<=i1/\ i1<9223372036854775808)/\ (i1≠0),.va (Wd.ar (wd (i0.tdiv i1))),[]⟩
 |_=>none
theorem aA5:FC prog 284 uJ:=by
 intro xs pre r us h hp;unfold uJ at h;split at h
 . rename_i i0 i1
   cases h;obtain ⟨a7,a8,af⟩:=hp
   refine aE aA (l:= [(177,⟨[],qH⟩),(179,⟨[],aAg⟩)]) ⟨sW,aDY,trivial⟩ func284 rfl j4 false ?_
   (repeat' (first|exact trivial|(with_reducible first|exact a7|exact af|exact bL _)|refine ⟨?_,?_⟩|intro _));all_goals first|apply qq|conv=>whnf
   all_goals first|exact (congrArg (fun w:Wd=>Value.int .i64 w.hi) (aSR ‹_›))|exact (congrArg (fun w:Wd=>Value.int .u64 w.lo) (aSR ‹_›))|(rw [aSS a7 a8 af ‹_›];first|done)|(have:=aDj a7 a8 af (fun q=>ne_of_beq_false ‹(i1== -1)=false› q.2);first|(rw [aSS a7 a8 af ‹_›];omega))
 . cases h
def kZ (W:List Int) (i:Nat):List DV:= [it (wd (W.getD i 0)).hi,ut (wd (W.getD i 0)).lo]
abbrev gEx (op:Int):List Cv->Option Gs:=nO (cJ [(239,⟨[],aDL⟩)]) 239 [.rp [.v (.int .i64 op)]]
abbrev gQu:List Cv->Option Gs:=nO (cJ [(284,⟨[],uJ⟩)]) 284 []
def oY (f:Int->Int->Int) (a b:Sp):List Int:= [f a.lo b.lo,f a.lo b.hi,f a.hi b.lo,f a.hi b.hi]
theorem aQG {f:Int->Int->Int} {a b:Sp} {i:Nat} (h:i<4):Sx.rowAt 2 [it (wd (f a.lo b.lo)).hi,ut (wd (f a.lo b.lo)).lo,it (wd (f a.lo b.hi)).hi,ut (wd (f a.lo b.hi)).lo,it (wd (f a.hi b.lo)).hi,ut (wd (f a.hi b.lo)).lo,it (wd (f a.hi b.hi)).hi,ut (wd (f a.hi b.hi)).lo] (0+i)=kZ (oY f a b) i:=by
 have:i=0 \/i=1 \/i=2 \/i=3:=j3
 rcases this with rfl|rfl|rfl|rfl<;>rfl
def aI5 (op:Int):List Ar->Option Rs
 | [.agg [.d (.v (.bool s0)),.d (.v (.int .i64 l0)),.d (.v (.int .i64 h0))],.agg [.d (.v (.bool s1)),.d (.v (.int .i64 l1)),.d (.v (.int .i64 h1))],.fv g2]=>some ⟨(Sp.inR ⟨s0,l0,h0⟩)/\ (Sp.inR ⟨s1,l1,h1⟩)/\ (g2=gEx op/\ (-9223372036854775808<=op/\ op<9223372036854775808)),.va (.c (.d (.lst 2 4 (kZ (oY (dB op) (⟨s0,l0,h0⟩:Sp) (⟨s1,l1,h1⟩:Sp)))))),[]⟩
 |_=>none
theorem aV4 (op:Int):FC prog 242 (aI5 op):=by
 intro xs pre r us h hp;unfold aI5 at h;split at h
 . rename_i s0 l0 h0 s1 l1 h1 g2
   cases h;obtain ⟨a7,a8,af⟩:=hp
   refine aE aA (l:= [(239,⟨[],aDL⟩)]) ⟨aQF,trivial⟩ func242 rfl j4 true ?_
   obtain ⟨rfl,ae⟩:=af
   unfold Sp.inR at a7 a8;have r1:=And.intro a7.1 (And.intro a8.1 ae)
   have r2:=And.intro a7.1 (And.intro a8.2 ae)
   have r3:=And.intro a7.2 (And.intro a8.1 ae)
   have r4:=And.intro a7.2 (And.intro a8.2 ae)
   (repeat' (first|exact j6l|refine ⟨?_,?_⟩|intro _));all_goals first|apply qq|conv=>whnf
   all_goals first|exact aQG (a:=⟨s0,l0,h0⟩) (b:=⟨s1,l1,h1⟩) ‹_›|exact j5m
 . cases h
def yS:List Ar->Option Rs
 | [.agg [.d (.v (.bool s0)),.d (.v (.int .i64 l0)),.d (.v (.int .i64 h0))],.agg [.d (.v (.bool s1)),.d (.v (.int .i64 l1)),.d (.v (.int .i64 h1))],.fv g2]=>some ⟨(Sp.inR ⟨s0,l0,h0⟩)/\ (Sp.inR ⟨s1,l1,h1⟩)/\ (g2=gQu/\ l1≠0/\ h1≠0),.va (.c (.d (.lst 2 4 (kZ (oY Int.tdiv (⟨s0,l0,h0⟩:Sp) (⟨s1,l1,h1⟩:Sp)))))),[]⟩
 |_=>none
theorem aCY:FC prog 242 yS:=by
 intro xs pre r us h hp;unfold yS at h;split at h
 . rename_i s0 l0 h0 s1 l1 h1 g2
   cases h;obtain ⟨a7,a8,af⟩:=hp
   refine aE aA (l:= [(284,⟨[],uJ⟩)]) ⟨aA5,trivial⟩ func242 rfl j4 true ?_
   obtain ⟨rfl,ru,rv⟩:=af
   unfold Sp.inR at a7 a8;have r1:=And.intro a7.1 (And.intro a8.1 ru)
   have r2:=And.intro a7.1 (And.intro a8.2 rv)
   have r3:=And.intro a7.2 (And.intro a8.1 ru)
   have r4:=And.intro a7.2 (And.intro a8.2 rv)
   (repeat' (first|exact j6l|refine ⟨?_,?_⟩|intro _));all_goals first|apply qq|conv=>whnf
   all_goals first|exact aQG (f:=Int.tdiv) (a:=⟨s0,l0,h0⟩) (b:=⟨s1,l1,h1⟩) ‹_›|exact j5m
 . cases h
end Go.Proofs.YtiblbnhknemloaaGreat
namespace Go.Sx
section
variable {P:Program} {τ:bF}
def aST (K:St->Prop) (Q:Exit->St->Prop):Exit->St->Prop
 | .normal,st=>K st
 | .exit id,st=>Q (.exit id) st
 | .goto l,st=>Q (.goto l) st
 | .ret,st=>Q .ret st
 |_,_=>False
variable {base:Nat} {x y z:Code} {st:St} {Q:Exit→St→Prop}
theorem aO.seq (h:aO P base x st (aST (fun st=>aO P base y st Q) Q)):aO P base (.seq x y) st Q:=by
 refine ⟨fun ψ S w a hr=>wp_seq (wp_mono (h.run ψ S w a hr) ?_)⟩
 rintro e a' w' ⟨st',aa,S',hq,cg,he⟩
 cases e with
 |normal=>
  refine wp_mono ((show aO P base y st' Q from hq).run aa S' w' a' cg) ?_
  rintro e a2 w2 ⟨st2,az,S2,ji,c9,bp⟩
  exact ⟨st2,az,S2,ji,c9,he.trans bp⟩
 |exit id=>exact ⟨st',aa,S',hq,cg,he⟩
 |goto l=>exact ⟨st',aa,S',hq,cg,he⟩
 |ret=>exact ⟨st',aa,S',hq,cg,he⟩
 |panic ch=>exact hq.elim
 |outgrown=>exact hq.elim
variable {t:TT} {l:List (Nat×Sm)}
theorem aO.vc (ht:t.ok P) (hl:gX P l) (b7:P.follows .mixedOrders=true) (h:Go.Sx.vc P t.get (cJ l) (jK P (cJ l) base) base x st Q):aO P base x st Q:=
 kT (TT.tysOk ht) (TT.zeros ht) (gC hl) b7 (nX (gC hl) base) x _ _ h
theorem aO.seqA (ht:t.ok P) (hl:gX P l) (b7:P.follows .mixedOrders=true) (h:Go.Sx.vc P t.get (cJ l) (jK P (cJ l) base) base x st (aST (fun st=>aO P base y st Q) Q)):aO P base (.seq x y) st Q:=
 .seq (.vc ht hl b7 h)
end
def aMp (P:Program) (τ:bF) (Γ:dQ) (calls:Nat->List Va->St->(Tm->St->Prop)->Prop) (base:Nat) (c:Code) (Q:Exit->St->Prop):Nat->St->Prop
 |0,_=>False
 |n+1,st=>vc P τ Γ calls base c st fun e st'=>match e with
  | .normal=>aMp P τ Γ calls base c Q n st'
  | .exit i=>Q (.exit i) st'
  | .goto i=>Q (.goto i) st'
  | .ret=>Q .ret st'
  |_=>False
theorem wX {P:Program} {t:TT} (ht:t.ok P) {l:List (Nat×Sm)} (hl:gX P l) (b7:P.follows .mixedOrders=true) {base:Nat} {c:Code} {Q:Exit->St->Prop} {st:St} (n:Nat)
 (h:aMp P t.get (cJ l) (jK P (cJ l) base) base c Q n st):aO P base (.loop c) st Q:=by
 refine ⟨fun ψ S w a hr=> ?_⟩
 refine aIp (P:=P) (fun k a' w'=> ∃st aa S',aMp P t.get (cJ l) (jK P (cJ l) base) base c Q k st/\ aC P base aa S' w' st a'/\ aI base ψ S w aa S' w') ?_ ⟨st,ψ,S,h,hr,aI.refl _ _ _ _⟩
 rintro k a1 w1 ⟨st1,fm,S1,hk,du,fo⟩
 cases k with
 |zero=>exact hk.elim
 |succ k=>
  refine wp_mono ((kT (TT.tysOk ht) (TT.zeros ht) (gC hl) b7 (nX (gC hl) base) c _ _ hk).run fm S1 w1 a1 du) ?_
  rintro e a2 w2 ⟨st2,az,S2,hq,c9,bp⟩
  cases e with
  |normal=>exact ⟨k,Nat.lt_succ_self k,st2,az,S2,hq,c9,fo.trans bp⟩
  |exit id=>exact ⟨st2,az,S2,hq,c9,fo.trans bp⟩
  |goto l=>exact ⟨st2,az,S2,hq,c9,fo.trans bp⟩
  |ret=>exact ⟨st2,az,S2,hq,c9,fo.trans bp⟩
  |panic ch=>exact hq.elim
  |outgrown=>exact hq.elim
end Go.Sx
namespace Go.Proofs.YtiblbnhknemloaaGreat
open Tryz
open Go.Sx
abbrev aCb (L:List Sp) (i:Nat):Sp:=L.getD i fY
abbrev rwS (L:List Sp) (i:Nat):List DV:= [bo (aCb L i).some,it (aCb L i).lo,it (aCb L i).hi]
theorem lt1 {i:Nat} (h:i<1):i=0:=j3
theorem lt2 {i:Nat} (h:i<1+1):i=0 \/i=1:=j3
theorem aZl:Sp.of (-9223372036854775808) (-1)=⟨true, -9223372036854775808, -1⟩:=rfl
theorem aZm:Sp.of 1 9223372036854775807=⟨true,1,9223372036854775807⟩:=rfl
theorem aQH (b:Sp) (m n:Bool) (h:(vE b).none=m) (h2:(vF b).none=n):parts b=(if m=true then [] else [vE b])++(if n=true then [] else [vF b]):=by unfold parts;rw [h,h2]
def wK (L:List Sp) (n:Nat):List Ar->Option Rs
 | [.agg [.d (.v (.bool s0)),.d (.v (.int .i64 l0)),.d (.v (.int .i64 h0))]]=>some ⟨(Sp.inR ⟨s0,l0,h0⟩)/\ (parts (⟨s0,l0,h0⟩:Sp)=L/\ L.length=n),.va (.c (.d (.lst 3 n (rwS L)))),[]⟩
 |_=>none
theorem aAQ (L:List Sp) (n:Nat):FC prog 283 (wK L n):=by
 intro xs pre r us h hp;unfold wK at h;split at h
 . rename_i s0 l0 h0
   cases h;obtain ⟨a7,a8⟩:=hp
   refine aE aA (l:= [(131,⟨[],lN⟩),(191,⟨[],aBw⟩),(102,⟨[],mE⟩)]) ⟨nK,aFO,oD,trivial⟩ func283 rfl j4 true ?_
   obtain ⟨rfl,rfl⟩:=a8
   have yb:decide ((0:Int)<2)=true:=rfl
   have ed:decide (IntKind.i64.wrap (0+1)<(2:Int))=true:=rfl
   have ir:decide (IntKind.i64.wrap (IntKind.i64.wrap (0+1)+1)<(2:Int))=false:=rfl
   have rn:Sp.inR (Sp.of (-9223372036854775808) (-1)):=j1m
   have rq:Sp.inR (Sp.of 1 9223372036854775807):=j1m
   have dj:=Sp.meet_inR a7 rn
   have xl:=Sp.meet_inR a7 rq
   cases hn:(Sp.meet (⟨s0,l0,h0⟩:Sp) (Sp.of (-9223372036854775808) (-1))).none<;>cases hq:(Sp.meet (⟨s0,l0,h0⟩:Sp) (Sp.of 1 9223372036854775807)).none
   all_goals (have hk:=aQH (⟨s0,l0,h0⟩:Sp) _ _ hn hq)
   all_goals (simp only [Bool.false_eq_true,if_false,if_true,List.nil_append,List.append_nil,List.cons_append] at hk;have bz:=congrArg List.length hk;simp only [List.length_cons,List.length_nil,Nat.zero_add,Nat.reduceAdd] at bz)
   all_goals (have rz:=congrArg Bool.not hn;have ji:=congrArg Bool.not hq;simp only [Bool.not_true,Bool.not_false] at rz ji)
   all_goals rw [hk]
   all_goals (repeat' (first|refine ⟨?_,?_⟩|intro _));all_goals first|apply qq|conv=>whnf
   all_goals first|((with_reducible show aO _ _ _ _ _);refine wX aA (l:= [(131,⟨[],lN⟩),(191,⟨[],aBw⟩),(102,⟨[],mE⟩)]) ⟨nK,aFO,oD,trivial⟩ j4 3 ?_)|skip
   all_goals (repeat' (first|exact trivial|(with_reducible first|exact a7|exact rn|exact rq|exact dj|exact xl|exact nx rz|exact nx ji|exact nx yb|exact nx ed|exact nx ir|exact j3y)|refine ⟨?_,?_⟩|intro _));all_goals first|apply qq|conv=>whnf
   all_goals first|rfl|decide|(rename _<1+1=>hlt;rcases lt2 hlt with e|e<;>(subst e;rfl))|(rename _<1=>hlt;have e:=lt1 hlt;subst e;rfl)
 . cases h
theorem aOv {b:Sp} {l h:Int} (k:(Sp.meet b (Sp.of l h)).none=false) (xm:l<=h):l<=(Sp.meet b (Sp.of l h)).lo/\ (Sp.meet b (Sp.of l h)).lo<=(Sp.meet b (Sp.of l h)).hi/\ (Sp.meet b (Sp.of l h)).hi<=h:=by
 have e:Sp.of l h=⟨true,l,h⟩:=by unfold Sp.of;rw [if_neg j3]
 rw [e] at k⊢;cases hb:(b.none||Sp.none ⟨true,l,h⟩)
 . have e2:Sp.meet b ⟨true,l,h⟩=Sp.of (max b.lo l) (min b.hi h):=by unfold Sp.meet;rw [if_neg (by rw [hb];decide)]
   rw [e2] at k⊢;unfold Sp.of at k⊢
   by_cases h2:max b.lo l>min b.hi h
   . rw [if_pos h2] at k;exact absurd k j5
   . rw [if_neg h2];exact ⟨Int.le_max_right _ _,Int.not_lt.1 h2,Int.min_le_right _ _⟩
 . have e2:Sp.meet b ⟨true,l,h⟩=⟨false,0,0⟩:=by unfold Sp.meet;rw [if_pos hb]
   rw [e2] at k;exact absurd k j5
theorem aPk {b:Sp} (k:(Sp.meet b (Sp.of (-9223372036854775808) (-1))).none=false):(vE b).lo≠0/\ (vE b).hi≠0:=by have:=aOv k j5;rw [aZl] at this;unfold vE;omega
theorem aPl {b:Sp} (k:(Sp.meet b (Sp.of 1 9223372036854775807)).none=false):(vF b).lo≠0/\ (vF b).hi≠0:=by have:=aOv k j5;rw [aZm] at this;unfold vF;omega
theorem bBa (W:List Int) (i:Nat):gW (kZ W i)=wd (W.getD i 0):=rfl
def Wok (n:Nat) (f:Nat->List DV):Prop:= ∀i,i<n->f i= [it (gW (f i)).hi,ut (gW (f i)).lo]/\ Wd.ok (gW (f i))
def Wrg (n:Nat) (f:Nat->List DV):Prop:= ∀i,i<n-> -85070591730234615865843651857942052864<(gW (f i)).val/\ (gW (f i)).val<=85070591730234615865843651857942052864
theorem eL (n:Nat) (W:List Int):Wok n (kZ W):=fun i _=>⟨rfl,bL _⟩
theorem aDl {n m:Nat} {f g:Nat->List DV} (hf:Wok n f) (hg:Wok m g):Wok (n+m) (dG n f g):=fun i hi=>by
 unfold dG;split
 . exact hf i ‹_›
 . exact hg (i-n) j3
theorem aQI {n m:Nat} {f g:Nat->List DV} (hf:Wrg n f) (hg:Wrg m g):Wrg (n+m) (dG n f g):=fun i hi=>by
 unfold dG;split
 . exact hf i ‹_›
 . exact hg (i-n) j3
theorem sP {v:Int} (h0: -85070591730234615865843651857942052864<v) (h1:v<=85070591730234615865843651857942052864):(wd v).val=v:=dH j3 j3
theorem lt4 {i:Nat} (h:i<4):i=0 \/i=1 \/i=2 \/i=3:=j3
theorem aQJ {a b c d:Int} (ha: -85070591730234615865843651857942052864<a/\ a<=85070591730234615865843651857942052864) (hb: -85070591730234615865843651857942052864<b/\ b<=85070591730234615865843651857942052864) (hc: -85070591730234615865843651857942052864<c/\ c<=85070591730234615865843651857942052864) (hd: -85070591730234615865843651857942052864<d/\ d<=85070591730234615865843651857942052864):eG 4 (kZ [a,b,c,d])= [a,b,c,d]/\ Wrg 4 (kZ [a,b,c,d]):=by
 constructor
 . show [(wd a).val,(wd b).val,(wd c).val,(wd d).val]=_
   rw [sP ha.1 ha.2,sP hb.1 hb.2,sP hc.1 hc.2,sP hd.1 hd.2]
 . intro i hi;rw [bBa];rcases lt4 hi with e|e|e|e<;>subst e
   . show _<(wd a).val/\ (wd a).val<=_;rw [sP ha.1 ha.2];exact ha
   . show _<(wd b).val/\ (wd b).val<=_;rw [sP hb.1 hb.2];exact hb
   . show _<(wd c).val/\ (wd c).val<=_;rw [sP hc.1 hc.2];exact hc
   . show _<(wd d).val/\ (wd d).val<=_;rw [sP hd.1 hd.2];exact hd
theorem aV5 (n m:Nat) (f g:Nat->List DV):eG (n+m) (dG n f g)=eG n f++eG m g:=by
 unfold eG;rw [List.range_add,List.map_append,List.map_map]
 congr 1
 . apply List.map_congr_left
   intro i hi;have:=List.mem_range.1 hi
   show (gW (dG n f g i)).val=_
   unfold dG;rw [if_pos this]
 . apply List.map_congr_left
   intro i _;show (gW (dG n f g (n+i))).val=_
   unfold dG;rw [if_neg j3,Nat.add_sub_cancel_left]
theorem aE8 {x y:Int} (rx: -9223372036854775808<=x/\ x<9223372036854775808) (ry: -9223372036854775808<=y/\ y<9223372036854775808) (h0:y≠0): -85070591730234615865843651857942052864<x.tdiv y/\ x.tdiv y<=85070591730234615865843651857942052864:=by
 by_cases h:x= -9223372036854775808/\ y= -1
 . obtain ⟨rfl,rfl⟩:=h;decide
 . have:=aDj rx ry h0 h;omega
theorem aGL {a p:Sp} (ha:a.inR) (hp:p.inR) (h:p.lo≠0/\ p.hi≠0):eG 4 (kZ (oY Int.tdiv a p))=pN Int.tdiv a p/\ Wrg 4 (kZ (oY Int.tdiv a p)):=
 aQJ (aE8 ha.1 hp.1 h.1) (aE8 ha.1 hp.2 h.2) (aE8 ha.2 hp.1 h.1) (aE8 ha.2 hp.2 h.2)
theorem aBm {op x y:Int} (rx: -9223372036854775808<=x/\ x<9223372036854775808) (ry: -9223372036854775808<=y/\ y<9223372036854775808): -85070591730234615865843651857942052864<dB op x y/\ dB op x y<=85070591730234615865843651857942052864:=by
 have m1:=bA3 (a:= -9223372036854775808) (b:=9223372036854775808-1) (c:= -9223372036854775808) (d:=9223372036854775808-1) (x:=x) (y:=y) (hi:=85070591730234615865843651857942052864) j3 j3 j3 j3 j5 j5 j5 j5
 have m2:=aRI (a:= -9223372036854775808) (b:=9223372036854775808-1) (c:= -9223372036854775808) (d:=9223372036854775808-1) (x:=x) (y:=y) (lo:= -85070591730234615865843651857942052864+9223372036854775808) j3 j3 j3 j3 j5 j5 j5 j5
 unfold dB;(repeat' split)<;>omega
theorem aHe (x y:Sp):aCb [x,y] (Int.toNat 0)=x:=rfl
theorem aHf (x y:Sp):aCb [x,y] (IntKind.i64.wrap (0+1)).toNat=y:=rfl
theorem fR (x:Sp):aCb [x] (Int.toNat 0)=x:=rfl
theorem aGM (x:Sp):(⟨x.some,x.lo,x.hi⟩:Sp)=x:=rfl
theorem aMq {a p q:Sp} (kp:eG 4 (kZ (oY Int.tdiv a p))=pN Int.tdiv a p) (kq:eG 4 (kZ (oY Int.tdiv a q))=pN Int.tdiv a q):jH (eG (4+4) (dG 4 (kZ (oY Int.tdiv a p)) (kZ (oY Int.tdiv a q))))=jH ([p,q].flatMap fun p=>pN Int.tdiv a p):=by
 rw [aV5,kp,kq];rfl
theorem aCc {a p:Sp} (kp:eG 4 (kZ (oY Int.tdiv a p))=pN Int.tdiv a p):jH (eG 4 (kZ (oY Int.tdiv a p)))=jH ([p].flatMap fun p=>pN Int.tdiv a p):=by
 rw [kp];rfl
def aKI:List Ar->Option Rs
 | [.agg [.d (.v (.bool s0)),.d (.v (.int .i64 l0)),.d (.v (.int .i64 h0))],.agg [.d (.v (.bool s1)),.d (.v (.int .i64 l1)),.d (.v (.int .i64 h1))]]=>some ⟨(Sp.inR ⟨s0,l0,h0⟩)/\ (Sp.inR ⟨s1,l1,h1⟩),.va (Sp.ar (aEs (⟨s0,l0,h0⟩:Sp) (⟨s1,l1,h1⟩:Sp))),[]⟩
 |_=>none
theorem aZn:FC prog 243 aKI:=by
 intro xs pre r us h hp;unfold aKI at h;split at h
 . rename_i s0 l0 h0 s1 l1 h1
   cases h;obtain ⟨a7,a8⟩:=hp
   refine aE aA (l:= [(283,⟨[],(wK (parts (⟨s1,l1,h1⟩:Sp)) (parts (⟨s1,l1,h1⟩:Sp)).length)⟩),(242,⟨[],yS⟩),(241,⟨[],FN 2 wG⟩),(284,⟨[],uJ⟩)]) ⟨(aAQ (parts (⟨s1,l1,h1⟩:Sp)) (parts (⟨s1,l1,h1⟩:Sp)).length),aCY,pS 2 aAN,aA5,trivial⟩ func243 rfl j4 true ?_
   unfold aEs;have Db:decide ((0:Int)<((0:Nat):Int))=false:=rfl
   have G7:((0:Int)<((0:Nat):Int)) \/True:= .inr trivial
   have CN:decide ((0:Int)<((1:Nat):Int))=true:=rfl
   have G8:((0:Int)<((1:Nat):Int)):=j5
   have Dc:decide ((0:Int)<((2:Nat):Int))=true:=rfl
   have G9:((0:Int)<((2:Nat):Int)):=j5
   have Ga:decide (IntKind.i64.wrap (0+1)<((0:Nat):Int))=false:=rfl
   have Gb:(IntKind.i64.wrap (0+1)<((0:Nat):Int)) \/True:= .inr trivial
   have CO:decide (IntKind.i64.wrap (0+1)<((1:Nat):Int))=false:=rfl
   have Gc:(IntKind.i64.wrap (0+1)<((1:Nat):Int)) \/True:= .inr trivial
   have Dd:decide (IntKind.i64.wrap (0+1)<((2:Nat):Int))=true:=rfl
   have Gd:(IntKind.i64.wrap (0+1)<((2:Nat):Int)):=j5
   have Ge:decide (IntKind.i64.wrap (IntKind.i64.wrap (0+1)+1)<((0:Nat):Int))=false:=rfl
   have Gf:(IntKind.i64.wrap (IntKind.i64.wrap (0+1)+1)<((0:Nat):Int)) \/True:= .inr trivial
   have Gg:decide (IntKind.i64.wrap (IntKind.i64.wrap (0+1)+1)<((1:Nat):Int))=false:=rfl
   have Gh:(IntKind.i64.wrap (IntKind.i64.wrap (0+1)+1)<((1:Nat):Int)) \/True:= .inr trivial
   have De:decide (IntKind.i64.wrap (IntKind.i64.wrap (0+1)+1)<((2:Nat):Int))=false:=rfl
   have Gi:(IntKind.i64.wrap (IntKind.i64.wrap (0+1)+1)<((2:Nat):Int)) \/True:= .inr trivial
   have yb:decide ((0:Int)<2)=true:=rfl
   have ed:decide (IntKind.i64.wrap (0+1)<(2:Int))=true:=rfl
   have ir:decide (IntKind.i64.wrap (IntKind.i64.wrap (0+1)+1)<(2:Int))=false:=rfl
   have rn:Sp.inR (Sp.of (-9223372036854775808) (-1)):=j1m
   have rq:Sp.inR (Sp.of 1 9223372036854775807):=j1m
   have dj:=Sp.meet_inR a8 rn
   have xl:=Sp.meet_inR a8 rq
   cases hn:(Sp.meet (⟨s1,l1,h1⟩:Sp) (Sp.of (-9223372036854775808) (-1))).none<;>cases hq:(Sp.meet (⟨s1,l1,h1⟩:Sp) (Sp.of 1 9223372036854775807)).none
   all_goals (have hk:=aQH (⟨s1,l1,h1⟩:Sp) _ _ hn hq)
   all_goals (simp only [Bool.false_eq_true,if_false,if_true,List.nil_append,List.append_nil,List.cons_append] at hk;have bz:=congrArg List.length hk;simp only [List.length_cons,List.length_nil,Nat.zero_add,Nat.reduceAdd] at bz)
   all_goals (have rz:=congrArg Bool.not hn;have ji:=congrArg Bool.not hq;simp only [Bool.not_true,Bool.not_false] at rz ji)
   . have hN:=aPk hn
     have kN:=aGL a7 dj hN
     have gN:Sp.inR (vE ⟨s1,l1,h1⟩):=dj
     unfold Sp.inR at gN;have hP:=aPl hq
     have kP:=aGL a7 xl hP
     have gP:Sp.inR (vF ⟨s1,l1,h1⟩):=xl
     unfold Sp.inR at gP;rw [bz,hk]
     all_goals repeat' (first|exact j3f|refine ⟨?_,?_⟩|intro _)
     all_goals first|(conv=>whnf)
     all_goals first|((with_reducible show aO _ _ _ _ _);refine wX aA (l:= [(283,⟨[],(wK (parts (⟨s1,l1,h1⟩:Sp)) (parts (⟨s1,l1,h1⟩:Sp)).length)⟩),(242,⟨[],yS⟩),(241,⟨[],FN 2 wG⟩),(284,⟨[],uJ⟩)]) ⟨aAQ _ _,aCY,pS 2 aAN,aA5,trivial⟩ j4 3 ?_)|skip
     all_goals (repeat' (first|exact trivial|(with_reducible first|assumption|exact nx Dc|exact nx Dd|exact nx De)|refine ⟨?_,?_⟩|intro _));all_goals first|apply qq|conv=>whnf
     all_goals (try simp only [Nat.zero_add,aHe,aHf,fR,aGM])
     all_goals first|((with_reducible show Value.bool _=_);exact congrArg (fun i:Sp=>Value.bool i.some) ((aMq kN.1 kP.1)))|((with_reducible show Value.int _ _=_);first|exact congrArg (fun i:Sp=>Value.int .i64 i.lo) ((aMq kN.1 kP.1))|exact congrArg (fun i:Sp=>Value.int .i64 i.hi) ((aMq kN.1 kP.1)))|exact j4m|exact j4l|((with_reducible show _<Wd.val _);exact (aQI kN.2 kP.2 _ ‹_›).1)|((with_reducible show Wd.val _<=_);exact (aQI kN.2 kP.2 _ ‹_›).2)|exact (aDl (eL 4 _) (eL 4 _) _ ‹_›).1|exact (aDl (eL 4 _) (eL 4 _) _ ‹_›).2.1.1|exact (aDl (eL 4 _) (eL 4 _) _ ‹_›).2.1.2|exact (aDl (eL 4 _) (eL 4 _) _ ‹_›).2.2.1|exact (aDl (eL 4 _) (eL 4 _) _ ‹_›).2.2.2|decide|rfl
   . have hN:=aPk hn
     have kN:=aGL a7 dj hN
     have gN:Sp.inR (vE ⟨s1,l1,h1⟩):=dj
     unfold Sp.inR at gN;rw [bz,hk]
     all_goals repeat' (first|exact j3f|refine ⟨?_,?_⟩|intro _)
     all_goals first|(conv=>whnf)
     all_goals first|((with_reducible show aO _ _ _ _ _);refine wX aA (l:= [(283,⟨[],(wK (parts (⟨s1,l1,h1⟩:Sp)) (parts (⟨s1,l1,h1⟩:Sp)).length)⟩),(242,⟨[],yS⟩),(241,⟨[],FN 2 wG⟩),(284,⟨[],uJ⟩)]) ⟨aAQ _ _,aCY,pS 2 aAN,aA5,trivial⟩ j4 3 ?_)|skip
     all_goals (repeat' (first|exact j6k|refine ⟨?_,?_⟩|intro _));all_goals first|apply qq|conv=>whnf
     all_goals (try simp only [Nat.zero_add,aHe,aHf,fR,aGM])
     all_goals first|((with_reducible show Value.bool _=_);exact congrArg (fun i:Sp=>Value.bool i.some) ((aCc kN.1)))|((with_reducible show Value.int _ _=_);first|exact congrArg (fun i:Sp=>Value.int .i64 i.lo) ((aCc kN.1))|exact congrArg (fun i:Sp=>Value.int .i64 i.hi) ((aCc kN.1)))|exact j4m|((with_reducible show _<Wd.val _);exact (kN.2 _ ‹_›).1)|((with_reducible show Wd.val _<=_);exact (kN.2 _ ‹_›).2)|exact j4n
   . have hP:=aPl hq
     have kP:=aGL a7 xl hP
     have gP:Sp.inR (vF ⟨s1,l1,h1⟩):=xl
     unfold Sp.inR at gP;rw [bz,hk]
     all_goals repeat' (first|exact j3f|refine ⟨?_,?_⟩|intro _)
     all_goals first|(conv=>whnf)
     all_goals first|((with_reducible show aO _ _ _ _ _);refine wX aA (l:= [(283,⟨[],(wK (parts (⟨s1,l1,h1⟩:Sp)) (parts (⟨s1,l1,h1⟩:Sp)).length)⟩),(242,⟨[],yS⟩),(241,⟨[],FN 2 wG⟩),(284,⟨[],uJ⟩)]) ⟨aAQ _ _,aCY,pS 2 aAN,aA5,trivial⟩ j4 3 ?_)|skip
     all_goals (repeat' (first|exact j6k|refine ⟨?_,?_⟩|intro _));all_goals first|apply qq|conv=>whnf
     all_goals (try simp only [Nat.zero_add,aHe,aHf,fR,aGM])
     all_goals first|((with_reducible show Value.bool _=_);exact congrArg (fun i:Sp=>Value.bool i.some) ((aCc kP.1)))|((with_reducible show Value.int _ _=_);first|exact congrArg (fun i:Sp=>Value.int .i64 i.lo) ((aCc kP.1))|exact congrArg (fun i:Sp=>Value.int .i64 i.hi) ((aCc kP.1)))|exact j4l|((with_reducible show _<Wd.val _);exact (kP.2 _ ‹_›).1)|((with_reducible show Wd.val _<=_);exact (kP.2 _ ‹_›).2)|exact j4n
   . rw [bz,hk]
     all_goals repeat' (first|exact j3f|refine ⟨?_,?_⟩|intro _)
     all_goals first|(conv=>whnf)
     all_goals first|((with_reducible show aO _ _ _ _ _);refine wX aA (l:= [(283,⟨[],(wK (parts (⟨s1,l1,h1⟩:Sp)) (parts (⟨s1,l1,h1⟩:Sp)).length)⟩),(242,⟨[],yS⟩),(241,⟨[],FN 2 wG⟩),(284,⟨[],uJ⟩)]) ⟨aAQ _ _,aCY,pS 2 aAN,aA5,trivial⟩ j4 3 ?_)|skip
     all_goals (repeat' (first|exact trivial|(with_reducible exact nx Db)|refine ⟨?_,?_⟩|intro _));all_goals first|apply qq|conv=>whnf
     all_goals (try simp only [Nat.zero_add,aHe,aHf,fR,aGM])
     all_goals first|exact Nat.zero_le _|rfl|decide|omega
 . cases h
end Go.Proofs.YtiblbnhknemloaaGreat
