/- Products; numbers modulo another one. No condition. -/
import Derived.Test.YtokjghkehojenaaGreatL8
set_option linter.all false
set_option maxHeartbeats 8000000
set_option maxRecDepth 100000
namespace Go.Proofs.YtokjghkehojenaaGreat
open Go.Sx
structure Iv (a m r s x y:Int):Prop where
 r0:0<=r
 rm:r<m
 s0:0<s
 sm:s<=m
 x0:0<=x/\ x<m
 y0:0<=y/\ y<m
 g:Int.gcd r s=1
 dx:m∣x*a-r
 dy:m∣y*a-s
theorem iv_start {a m:Int} (ha:0<=a) (hm:0<m) (hg:Int.gcd a m=1):Iv a m (a%m) m (1%m) 0:=by
 have b1:=Int.emod_nonneg a (show m≠0 by omega)
 have b3:=Int.emod_nonneg 1 (show m≠0 by omega)
 have b4:=Int.emod_lt_of_pos 1 hm
 refine ⟨b1,Int.emod_lt_of_pos a hm,hm,Int.le_refl _,⟨b3,b4⟩,⟨Int.le_refl _,hm⟩, ?_, ?_, ?_⟩
 . obtain ⟨x,rfl⟩:=Int.eq_ofNat_of_zero_le ha
   obtain ⟨y,rfl⟩:=Int.eq_ofNat_of_zero_le (Int.le_of_lt hm)
   rw [<-Int.natCast_emod,Int.gcd_natCast_natCast];rw [Int.gcd_natCast_natCast] at hg;rw [<-Nat.gcd_rec,Nat.gcd_comm];exact hg
 . have e:1%m*a-a%m=(a-a%m)-(1-1%m)*a:=by rw [Int.sub_mul];omega
   rw [e];exact Int.dvd_sub (Int.dvd_self_sub_emod) (Int.dvd_mul_of_dvd_left Int.dvd_self_sub_emod)
 . rw [Int.zero_mul,Int.zero_sub];exact Int.dvd_neg.2 (Int.dvd_refl m)
theorem iv_step {a m r s x y:Int} (h:Iv a m r s x y) (hr:r≠0):Iv a m (s%r) r ((y+m-s/r%m*x%m)%m) x/\ (s%r)<r:=by
 have h0:=h.r0
 have h1:=h.s0
 have h2:=h.rm
 have hm:0<m:=by omega
 have b1:=Int.emod_nonneg s hr
 have b2:=Int.emod_lt_of_pos s (show 0<r by omega)
 refine ⟨⟨b1,by omega,by omega,by omega,⟨Int.emod_nonneg _ (by omega),Int.emod_lt_of_pos _ hm⟩,h.x0, ?_,inv_step h.dx h.dy,h.dx⟩,b2⟩
 have hg:=h.g
 obtain ⟨n,rfl⟩:=Int.eq_ofNat_of_zero_le h0
 obtain ⟨k,rfl⟩:=Int.eq_ofNat_of_zero_le (Int.le_of_lt h1)
 rw [<-Int.natCast_emod,Int.gcd_natCast_natCast, <-Nat.gcd_rec]
 rwa [Int.gcd_natCast_natCast] at hg
theorem iv_prog {a m r s x y:Int} (h:Iv a m r s x y) (hr:r≠0) (hm:m<9223372036854775808):(0<=(IntKind.wrap .u64 (s.tdiv r)).tmod m/\ (IntKind.wrap .u64 (s.tdiv r)).tmod m<m)/\ s.tmod r=s%r/\ (IntKind.wrap .u64 (IntKind.wrap .u64 (y+m)-(IntKind.wrap .u64 (s.tdiv r)).tmod m*x%m)).tmod m=(y+m-s/r%m*x%m)%m:=by
 have h0:=h.r0
 have h1:=h.s0
 have h2:=h.rm
 have h3:=h.sm
 have h4:=h.y0
 have hp:0<m:=by omega
 have hs:0<=s:=by omega
 have q0:=Int.ediv_nonneg hs h0
 have q1:s/r<=s:=Int.ediv_le_self _ hs
 have e1:IntKind.wrap .u64 (s.tdiv r)=s/r:=by rw [Int.tdiv_eq_ediv_of_nonneg hs,wU_id _ q0 (by omega)]
 have e2:(s/r).tmod m=s/r%m:=Int.tmod_eq_emod_of_nonneg q0
 rw [e1,e2];have t0:=Int.emod_nonneg (s/r%m*x) (show m≠0 by omega)
 have t1:=Int.emod_lt_of_pos (s/r%m*x) hp
 refine ⟨⟨Int.emod_nonneg _ (by omega),Int.emod_lt_of_pos _ hp⟩,Int.tmod_eq_emod_of_nonneg hs, ?_⟩
 generalize s/r%m*x%m=t at*
 rw [wU_id (y+m) (by omega) (by omega),wU_id (y+m-t) (by omega) (by omega),Int.tmod_eq_emod_of_nonneg (by omega)]
theorem iv_end {a m s x y:Int} (h:Iv a m 0 s x y) (hg:Int.gcd a m=1):invI a m=y:=by
 have e:s=1:=by have:=h.g;rw [Int.zero_gcd] at this;have:=h.s0;omega
 exact invI_eq hg (inv_end e h.y0 h.dy)
def FCInv:List Ar->Option Rs
 | [.c (.d (.v (.int .u64 u0))),.c (.d (.v (.int .u64 u1)))]=>some ⟨(0<=u0/\ u0<18446744073709551616)/\ (0<=u1/\ u1<18446744073709551616)/\ ((0<u1/\ u1<9223372036854775808)/\ Int.gcd u0 u1=1),.va (.c (.d (ut (invI u0 u1)))),[]⟩
 |_=>none
theorem fcCInv:FC Tryz.prog 145 FCInv:=by
 intro xs pre r us h hp;unfold FCInv at h;split at h
 . rename_i u0 u1
   cases h;obtain ⟨hp0,hp1,hp2⟩:=hp
   refine fcat tys_ok (l:= [(144,⟨[],FCTimes⟩)]) ⟨fcCTimes,trivial⟩ Tryz.func145 rfl (by kernel_rfl) false ?_
   have hst:=iv_start hp0.1 hp2.1.1 hp2.2
   have t1:u0.tmod u1=u0%u1:=Int.tmod_eq_emod_of_nonneg hp0.1
   have t2:(1:Int).tmod u1=1%u1:=Int.tmod_eq_emod_of_nonneg (by decide)
   obtain ⟨⟨hm0,hm1⟩,hg⟩:=hp2
   repeat' (first|exact trivial|refine ⟨?_, ?_⟩|intro _)
   all_goals first|(with_reducible apply qq)|(conv=>whnf)
   refine scope_ok tys_ok (ls:= [(144,⟨[],FCTimes⟩)]) ⟨fcCTimes,trivial⟩ (by kernel_rfl) 0 rfl (X:=Int×Int×Int×Int) (fun x=>⟨[(5,vx (.int .u64 x.1)),(6,vx (.int .u64 x.2.1)),(7,vx (.int .u64 x.2.2.1)),(8,vx (.int .u64 x.2.2.2)),(1,vx (.int .u64 u1))],[],0,41⟩) (fun x=>x.1.toNat)
    (fun x=>Iv u0 u1 x.1 x.2.1 x.2.2.1 x.2.2.2) [5,6,7,8] [] (fun xs _=>match xs with| [a,b,c,d]=>(iT a,iT b,iT c,iT d)|_=>(0,0,0,0)) (fun _ xs _=>match xs with| [a,b,c,d]=>(iT a,iT b,iT c,iT d)|_=>(0,0,0,0)) [] [] 0 0 ?_ ?_
   . repeat' (first|exact trivial|refine ⟨?_, ?_⟩|intro _)
     all_goals first|(with_reducible apply qq)|(conv=>whnf)
     all_goals (try simp only [iT,beq_iff_eq,beq_eq_false_iff_ne,ne_eq] at*)
     all_goals (try simp only [t1,t2] at*)
     all_goals first|omega|((with_reducible show idsOk _ _=true);rfl)|rfl|skip
     all_goals first|(have hz:u0%u1=0:=(by assumption);rw [hz] at hst;exact congrArg (Value.int .u64) (iv_end hst hg).symm)|(have b3:=hst.x0;first|omega|(obtain ⟨p1,p2,p3⟩:=iv_prog hst (by assumption) hm1;have p4:=iv_step hst (by assumption);first|omega|exact p1.1|exact p1.2|(rw [p2,p3];exact p4.1)|(rw [p2];omega)))
   . rintro ⟨r,s,x,y⟩ hi
     change Iv u0 u1 r s x y at hi
     have hr0:=hi.r0
     have hrm:=hi.rm
     have hs0:=hi.s0
     have hsm:=hi.sm
     have hx0:=hi.x0
     have hy0:=hi.y0
     repeat' (first|exact trivial|refine ⟨?_, ?_⟩|intro _)
     all_goals first|(with_reducible apply qq)|(conv=>whnf)
     all_goals (try simp only [iT,beq_iff_eq,beq_eq_false_iff_ne,ne_eq] at*)
     all_goals first|omega|((with_reducible show idsOk _ _=true);rfl)|rfl|skip
     all_goals first|(have hz:r=0:=(by assumption);subst hz;exact congrArg (Value.int .u64) (iv_end hi hg).symm)|(obtain ⟨p1,p2,p3⟩:=iv_prog hi (by assumption) hm1;have p4:=iv_step hi (by assumption);first|omega|exact p1.1|exact p1.2|(rw [p2,p3];exact p4.1)|(rw [p2];omega))
 . cases h
structure Bt (m0 r0 m1 r1 G:Int):Prop where
 e:G=(Int.gcd m0 m1:Int)
 p0:0<m0
 p1:0<m1
 a:0<=r0/\ r0<m0
 b:0<=r1/\ r1<m1
 h0:m0<9223372036854775808
 h1:m1<9223372036854775808
 l:m0*(m1/G)<9223372036854775808
theorem bt_facts {m0 r0 m1 r1 G:Int} (h:Bt m0 r0 m1 r1 G):
 (0<G/\ G<=m0/\ G<=m1)/\ (0<m1/G/\ m1/G<=m1)/\ (0<m0/G/\ m0/G<=m0)/\ Int.gcd (m0/G) (m1/G)=1/\ md (IntKind.wrap .i64 (r1-md r0 m1)) m1=(r1-r0)%m1/\ (0<=md r0 m1/\ md r0 m1<m1)/\ (0<=(r1-r0)%m1/\ (r1-r0)%m1<m1)/\ IntKind.wrap .u64 m0=m0/\ IntKind.wrap .u64 m1=m1/\ IntKind.wrap .u64 (m1.tdiv G)=m1/G/\ IntKind.wrap .u64 (m0.tdiv G)=m0/G/\ IntKind.wrap .u64 ((r1-r0)%m1)=(r1-r0)%m1/\ IntKind.wrap .u64 (((r1-r0)%m1).tdiv G)=(r1-r0)%m1/G/\ ((r1-r0)%m1/G).tmod (m1/G)=(r1-r0)%m1/G%(m1/G)/\ (0<=(r1-r0)%m1/G%(m1/G)/\ (r1-r0)%m1/G%(m1/G)<m1/G):=by
 obtain ⟨e,p0,p1,a,b,h0,h1,l⟩:=h
 have q:=quot_pos p0 p1
 have gq:=gcd_quot (N:=m1) p0
 rw [<-e] at q gq;have g0:G<=m0:=by rw [e];exact Int.le_of_dvd p0 (Int.gcd_dvd_left ..)
 have g1:G<=m1:=by rw [e];exact Int.le_of_dvd p1 (Int.gcd_dvd_right ..)
 have d0:m0/G<=m0:=Int.ediv_le_self _ (by omega)
 have d1:m1/G<=m1:=Int.ediv_le_self _ (by omega)
 have k1:=md_bound r0 m1 p1
 have k2:IntKind.wrap .i64 (r1-md r0 m1)=r1-md r0 m1:=wI_id _ (by omega) (by omega)
 have k3:=sub_md r1 r0 m1 p1
 have k4:=Int.emod_nonneg (r1-r0) (show m1≠0 by omega)
 have k5:=Int.emod_lt_of_pos (r1-r0) p1
 have k6:0<=(r1-r0)%m1/G:=Int.ediv_nonneg k4 (by omega)
 have k7:(r1-r0)%m1/G<=(r1-r0)%m1:=Int.ediv_le_self _ k4
 refine ⟨⟨q.2.2,g0,g1⟩,⟨q.1,d1⟩,⟨q.2.1,d0⟩,gq,by rw [k2];exact k3,k1,⟨k4,k5⟩,wU_id _ (by omega) (by omega),wU_id _ (by omega) (by omega), ?_, ?_,wU_id _ (by omega) (by omega), ?_,Int.tmod_eq_emod_of_nonneg k6,Int.emod_nonneg _ (by omega),Int.emod_lt_of_pos _ q.1⟩
 . rw [Int.tdiv_eq_ediv_of_nonneg (by omega),wU_id _ (by omega) (by omega)]
 . rw [Int.tdiv_eq_ediv_of_nonneg (by omega),wU_id _ (by omega) (by omega)]
 . rw [Int.tdiv_eq_ediv_of_nonneg k4,wU_id _ k6 (by omega)]
theorem bt_end {m0 r0 m1 r1 G:Int} (h:Bt m0 r0 m1 r1 G):(0<=stepI m0 m1 r0 r1/\ stepI m0 m1 r0 r1<9223372036854775808)/\ (Wd.val (wd (Wd.val (wd r0)+Wd.val (wd (m0*stepI m0 m1 r0 r1))))+9223372036854775808)%18446744073709551616-9223372036854775808=r0+m0*stepI m0 m1 r0 r1:=by
 have f:=bt_facts h
 obtain ⟨e,p0,p1,a,b,h0,h1,l⟩:=h
 have s:=step_r (R:=r0) (S:=r1) p0 p1
 rw [<-e] at s;have k1:m0*stepI m0 m1 r0 r1<=m0*(m1/G-1):=Int.mul_le_mul_of_nonneg_left (by omega) (by omega)
 have k2:0<=m0*stepI m0 m1 r0 r1:=Int.mul_nonneg (by omega) s.1
 rw [Int.mul_sub,Int.mul_one] at k1;refine ⟨⟨s.1,by omega⟩, ?_⟩
 generalize m0*stepI m0 m1 r0 r1=p at*
 generalize m0*(m1/G)=q at*
 rw [wd_val (v:=r0) (by omega) (by omega),wd_val (v:=p) (by omega) (by omega),wd_val (v:=r0+p) (by omega) (by omega)];omega
theorem bt_rng {m0 r0 m1 r1 G:Int} (h:Bt m0 r0 m1 r1 G):0<=r0+m0*stepI m0 m1 r0 r1/\ r0+m0*stepI m0 m1 r0 r1<9223372036854775808:=by
 obtain ⟨e,p0,p1,a,b,h0,h1,l⟩:=h
 have s:=step_r (R:=r0) (S:=r1) p0 p1
 rw [<-e] at s;have k1:m0*stepI m0 m1 r0 r1<=m0*(m1/G-1):=Int.mul_le_mul_of_nonneg_left (by omega) (by omega)
 have k2:0<=m0*stepI m0 m1 r0 r1:=Int.mul_nonneg (by omega) s.1
 rw [Int.mul_sub,Int.mul_one] at k1;omega
theorem invI_r {a m:Int} (h:invOk a m (invI a m)):0<=invI a m/\ invI a m<m:=h.1
theorem step_eq {m0 r0 m1 r1 G:Int} (e:G=(Int.gcd m0 m1:Int)):(r1-r0)%m1/G%(m1/G)*invI (m0/G) (m1/G)%(m1/G)=stepI m0 m1 r0 r1:=by subst e;rfl
def FCBoth:List Ar->Option Rs
 | [.agg [.d (.v (.bool b0)),.d (.v (.int .i64 m0)),.d (.v (.int .i64 r0))],.agg [.d (.v (.bool b1)),.d (.v (.int .i64 m1)),.d (.v (.int .i64 r1))],.c (.d (.v (.int .u64 u2)))]=>some ⟨(Cg.inR ⟨b0,m0,r0⟩)/\ (Cg.inR ⟨b1,m1,r1⟩)/\ (0<=u2/\ u2<18446744073709551616)/\ (Bt m0 r0 m1 r1 u2),.va (.c (.d (it (r0+m0*stepI m0 m1 r0 r1)))),[]⟩
 |_=>none
theorem fcCBoth:FC Tryz.prog 101 FCBoth:=by
 intro xs pre r us h hp;unfold FCBoth at h;split at h
 . rename_i b0 m0 r0 b1 m1 r1 u2
   cases h;obtain ⟨hp0,hp1,hp2,hp3⟩:=hp
   refine fcat tys_ok (l:= [(86,⟨[],FCMod⟩),(145,⟨[],FCInv⟩),(144,⟨[],FCTimes⟩),(138,⟨[],FWOf⟩),(100,⟨[],FWMul⟩),(146,⟨[],FWAdd⟩),(141,⟨[],FWLow⟩)]) ⟨fcCMod,fcCInv,fcCTimes,fcWOf,fcWMul,fcWAdd,fcWLow,trivial⟩ Tryz.func101 rfl (by kernel_rfl) false ?_
   have hb:=hp3
   obtain ⟨f1,f2,f3,f4,f5,f6,f7,f8,f9,f10,f11,f12,f13,f14,f15⟩:=bt_facts hb
   obtain ⟨z1,z2⟩:=bt_end hb
   have zw:IntKind.wrap .i64 (stepI m0 m1 r0 r1)=stepI m0 m1 r0 r1:=wI_id _ (by omega) z1.2
   have be:=hb.e
   have q0:=hb.p0
   have q1:=hb.p1
   have hqa:=hb.a
   have hqb:=hb.b
   have q2:=hb.h0
   have q3:=hb.h1
   have gU:=invI_r (a:=m0/u2) (m:=m1/u2) (by rw [be];exact inv_has q0 q1)
   repeat' (first|exact trivial|refine ⟨?_, ?_⟩|intro _)
   all_goals first|(with_reducible apply qq)|(conv=>whnf)
   all_goals (try simp only [f5,f8,f9,f10,f11,f12,f13,f14,step_eq be,zw])
   all_goals first|omega|(rw [wI];omega)|exact f4|exact f15.1|exact f15.2|(exfalso;have q:=‹(_:Int)=0›;(try simp only [f5,f8,f9,f10,f11,f12,f13,f14] at q);omega)|exact congrArg (Value.int .i64) z2|exact wd_ok _|exact (wd_ok _).1.1|exact (wd_ok _).1.2|exact (wd_ok _).2.1|exact (wd_ok _).2.2
 . cases h
section
variable {a b:Cg}
theorem me_1 (h:(!a.clean.some)=true):Cg.meet a b=Cg.none:=by
 unfold Cg.meet Cg.meet0;rw [h];rfl
theorem me_2 (ha:(!a.clean.some)=false) (h:(!b.clean.some)=true):Cg.meet a b=Cg.none:=by
 unfold Cg.meet Cg.meet0;rw [h,ha];rfl
theorem me_s (ha:(!a.clean.some)=false) (hb:(!b.clean.some)=false): ¬((!a.clean.some|| !b.clean.some)=true):=by rw [ha,hb];decide
variable (ha:(!a.clean.some)=false) (hb:(!b.clean.some)=false)
include ha hb
theorem me_3 (zx:(a.clean.m==0)=true) (h:(!Cg.has b.clean a.clean.r)=true):Cg.meet a b=Cg.none:=by
 unfold Cg.meet Cg.meet0;rw [if_neg (me_s ha hb),if_pos (by simpa using zx),if_neg (by simpa using h)]
theorem me_4 (zx:(a.clean.m==0)=true) (h:(!Cg.has b.clean a.clean.r)=false):Cg.meet a b=a.clean:=by
 unfold Cg.meet Cg.meet0;rw [if_neg (me_s ha hb),if_pos (by simpa using zx),if_pos (by simpa using h)]
theorem me_5 (zx:(a.clean.m==0)=false) (zy:(b.clean.m==0)=true) (h:(!Cg.has a.clean b.clean.r)=true):Cg.meet a b=Cg.none:=by
 unfold Cg.meet Cg.meet0;rw [if_neg (me_s ha hb),if_neg (by simpa using zx),if_pos (by simpa using zy),if_neg (by simpa using h)]
theorem me_6 (zx:(a.clean.m==0)=false) (zy:(b.clean.m==0)=true) (h:(!Cg.has a.clean b.clean.r)=false):Cg.meet a b=b.clean:=by
 unfold Cg.meet Cg.meet0;rw [if_neg (me_s ha hb),if_neg (by simpa using zx),if_pos (by simpa using zy),if_pos (by simpa using h)]
variable (zx:(a.clean.m==0)=false) (zy:(b.clean.m==0)=false)
include zx zy
theorem me_p:(0<a.clean.m/\ 0<b.clean.m)/\ (0<(Int.gcd a.clean.m b.clean.m:Int)/\ (Int.gcd a.clean.m b.clean.m:Int)<=a.clean.m/\ (Int.gcd a.clean.m b.clean.m:Int)<=b.clean.m):=by
 have h1:=Cg.clean_nn a
 have h2:=Cg.clean_nn b
 have h3:a.clean.m≠0:=by simpa using zx
 have h4:b.clean.m≠0:=by simpa using zy
 have p0:0<a.clean.m:=by omega
 have p1:0<b.clean.m:=by omega
 exact ⟨⟨p0,p1⟩,(quot_pos p0 p1).2.2,Int.le_of_dvd p0 (Int.gcd_dvd_left ..),Int.le_of_dvd p1 (Int.gcd_dvd_right ..)⟩
theorem me_q (ra:a.clean.inR) (rb:b.clean.inR):IntKind.wrap .i64 (Int.gcd a.clean.m b.clean.m:Int)=(Int.gcd a.clean.m b.clean.m:Int)/\ IntKind.wrap .i64 (b.clean.m.tdiv (Int.gcd a.clean.m b.clean.m:Int))=b.clean.m/(Int.gcd a.clean.m b.clean.m:Int)/\ Wd.val (wd (a.clean.m*(b.clean.m/(Int.gcd a.clean.m b.clean.m:Int))))=Cg.lc a.clean b.clean/\ (0<=b.clean.m/(Int.gcd a.clean.m b.clean.m:Int)/\ b.clean.m/(Int.gcd a.clean.m b.clean.m:Int)<9223372036854775808):=by
 obtain ⟨⟨p0,p1⟩,g0,g1,g2⟩:=me_p ha hb zx zy
 have q:=quot_pos p0 p1
 have d:=Int.ediv_le_self (Int.gcd a.clean.m b.clean.m:Int) (show 0<=b.clean.m by omega)
 unfold Cg.inR at ra rb;have m1:a.clean.m*(b.clean.m/(Int.gcd a.clean.m b.clean.m:Int))<=9223372036854775808*9223372036854775808:=Int.mul_le_mul (by omega) (by omega) (by omega) (by decide)
 have m0:0<=a.clean.m*(b.clean.m/(Int.gcd a.clean.m b.clean.m:Int)):=Int.mul_nonneg (by omega) (by omega)
 refine ⟨wI_id _ (by omega) (by omega), ?_,wd_val (by omega) (by omega),by omega,by omega⟩
 rw [Int.tdiv_eq_ediv_of_nonneg (by omega),wI_id _ (by omega) (by omega)]
theorem me_7 (ra:a.clean.inR) (rb:b.clean.inR) (h:((apartI a.clean.r b.clean.r).tmod (Int.gcd a.clean.m b.clean.m:Int) !=0)=true):Cg.meet a b=Cg.none:=by
 rw [Int.tmod_eq_emod_of_nonneg (apart_u ra.2 rb.2).1] at h;unfold Cg.meet Cg.meet0;rw [if_neg (me_s ha hb),if_neg (by simpa using zx),if_neg (by simpa using zy),if_neg (by simpa using h)]
theorem me_7' (ra:a.clean.inR) (rb:b.clean.inR) (h:((apartI a.clean.r b.clean.r).tmod (Int.gcd a.clean.m b.clean.m:Int) !=0)=false):Cg.meet a b=(if wIntB (Cg.lc a.clean b.clean)=true then Cg.of (Cg.lc a.clean b.clean) (a.clean.r+a.clean.m*stepI a.clean.m b.clean.m a.clean.r b.clean.r) else if b.clean.m>a.clean.m then b.clean else a.clean):=by
 rw [Int.tmod_eq_emod_of_nonneg (apart_u ra.2 rb.2).1] at h;unfold Cg.meet Cg.meet0;rw [if_neg (me_s ha hb),if_neg (by simpa using zx),if_neg (by simpa using zy),if_pos (by simpa using h)]
theorem me_8 (ra:a.clean.inR) (rb:b.clean.inR) (h:((apartI a.clean.r b.clean.r).tmod (Int.gcd a.clean.m b.clean.m:Int) !=0)=false) (hw:wIntB (Cg.lc a.clean b.clean)=true):Cg.meet a b=Cg.of (wIntV (Cg.lc a.clean b.clean)) (a.clean.r+a.clean.m*stepI a.clean.m b.clean.m a.clean.r b.clean.r):=by
 have e:wIntV (Cg.lc a.clean b.clean)=Cg.lc a.clean b.clean:=(wIn (of_decide_eq_true hw)).1
 rw [me_7' ha hb zx zy ra rb h,if_pos hw,e]
theorem me_9 (ra:a.clean.inR) (rb:b.clean.inR) (h:((apartI a.clean.r b.clean.r).tmod (Int.gcd a.clean.m b.clean.m:Int) !=0)=false) (hw:wIntB (Cg.lc a.clean b.clean)=false) (hg:decide (b.clean.m>a.clean.m)=true):Cg.meet a b=b.clean:=by
 rw [me_7' ha hb zx zy ra rb h,if_neg (by rw [hw];decide),if_pos (of_decide_eq_true hg)]
theorem me_10 (ra:a.clean.inR) (rb:b.clean.inR) (h:((apartI a.clean.r b.clean.r).tmod (Int.gcd a.clean.m b.clean.m:Int) !=0)=false) (hw:wIntB (Cg.lc a.clean b.clean)=false) (hg:decide (b.clean.m>a.clean.m)=false):Cg.meet a b=a.clean:=by
 rw [me_7' ha hb zx zy ra rb h,if_neg (by rw [hw];decide),if_neg (of_decide_eq_false hg)]
theorem me_bt (ra:a.clean.inR) (rb:b.clean.inR) (hw:wIntB (Cg.lc a.clean b.clean)=true):Bt a.clean.m a.clean.r b.clean.m b.clean.r (Int.gcd a.clean.m b.clean.m:Int):=by
 obtain ⟨⟨p0,p1⟩,_⟩:=me_p ha hb zx zy
 have h:=of_decide_eq_true hw
 exact ⟨rfl,p0,p1,(Cg.clean_red a).2 p0,(Cg.clean_red b).2 p1,ra.1.2,rb.1.2,h.2⟩
end
def FCMeet:List Ar->Option Rs
 | [.agg [.d (.v (.bool b0)),.d (.v (.int .i64 m0)),.d (.v (.int .i64 r0))],.agg [.d (.v (.bool b1)),.d (.v (.int .i64 m1)),.d (.v (.int .i64 r1))]]=>some ⟨(Cg.inR ⟨b0,m0,r0⟩)/\ (Cg.inR ⟨b1,m1,r1⟩),.va (Cg.ar (Cg.meet (⟨b0,m0,r0⟩:Cg) (⟨b1,m1,r1⟩:Cg))),[]⟩
 |_=>none
theorem fcCMeet:FC Tryz.prog 64 FCMeet:=by
 intro xs pre r us h hp;unfold FCMeet at h;split at h
 . rename_i b0 m0 r0 b1 m1 r1
   cases h;obtain ⟨hp0,hp1⟩:=hp
   refine fcat tys_ok (l:= [(85,⟨[],FCClean⟩),(96,⟨[],FCNone⟩),(48,⟨[],FCHas⟩),(97,⟨[],FCGcd⟩),(98,⟨[],FCApart⟩),(100,⟨[],FWMul⟩),(99,⟨[],FWInt⟩),(101,⟨[],FCBoth⟩),(61,⟨[],FCOf⟩)]) ⟨fcCClean,fcCNone,fcCHas,fcCGcd,fcCApart,fcWMul,fcWInt,fcCBoth,fcCOf,trivial⟩ Tryz.func64 rfl (by kernel_rfl) false ?_
   have hx:=Cg.clean_inR hp0
   have hy:=Cg.clean_inR hp1
   have hxx:=hx
   have hyy:=hy
   unfold Cg.inR at hxx hyy;have hx0:=Cg.clean_nn ⟨b0,m0,r0⟩
   have hy0:=Cg.clean_nn ⟨b1,m1,r1⟩
   have ux:=wU_id (Cg.clean ⟨b0,m0,r0⟩).m hx0 (by have:=hx.1.2;omega)
   have uy:=wU_id (Cg.clean ⟨b1,m1,r1⟩).m hy0 (by have:=hy.1.2;omega)
   have vx:0<=(Cg.clean ⟨b0,m0,r0⟩).m/\ (Cg.clean ⟨b0,m0,r0⟩).m<18446744073709551616:=⟨hx0,by have:=hx.1.2;omega⟩
   have vy:0<=(Cg.clean ⟨b1,m1,r1⟩).m/\ (Cg.clean ⟨b1,m1,r1⟩).m<18446744073709551616:=⟨hy0,by have:=hy.1.2;omega⟩
   have g1:=gcd_u vx vy
   have g2:=apart_u hx.2 hy.2
   have g3:=gcdJ_u hx hy hx0 hy0
   repeat' (first|exact trivial|(with_reducible first|assumption|exact hx.1|exact hx.2|exact hy.1|exact hy.2|exact vx|exact vy|exact g1|exact g2)|refine ⟨?_, ?_⟩|intro _)
   all_goals first|(with_reducible apply qq)|(conv=>whnf)
   all_goals (try rw [ux] at*)
   all_goals (try rw [uy] at*)
   all_goals first|(with_reducible first|exact hxx.1.1|exact hxx.1.2|exact hxx.2.1|exact hxx.2.2|exact hyy.1.1|exact hyy.1.2|exact hyy.2.1|exact hyy.2.2|exact vx.1|exact vx.2|exact vy.1|exact vy.2)|skip
   all_goals first|(exfalso;simp_all;done)|(have e:=me_1 (a:=⟨b0,m0,r0⟩) (b:=⟨b1,m1,r1⟩) ‹_›;first|exact congrArg (fun i:Cg=>Value.bool i.some) e.symm|exact congrArg (fun i:Cg=>Value.int .i64 i.m) e.symm|exact congrArg (fun i:Cg=>Value.int .i64 i.r) e.symm|fail)|(have e:=me_2 (a:=⟨b0,m0,r0⟩) (b:=⟨b1,m1,r1⟩) ‹_› ‹_›;first|exact congrArg (fun i:Cg=>Value.bool i.some) e.symm|exact congrArg (fun i:Cg=>Value.int .i64 i.m) e.symm|exact congrArg (fun i:Cg=>Value.int .i64 i.r) e.symm|fail)|(have e:=me_3 (a:=⟨b0,m0,r0⟩) (b:=⟨b1,m1,r1⟩) ‹_› ‹_› ‹_› ‹_›;first|exact congrArg (fun i:Cg=>Value.bool i.some) e.symm|exact congrArg (fun i:Cg=>Value.int .i64 i.m) e.symm|exact congrArg (fun i:Cg=>Value.int .i64 i.r) e.symm|fail)|(have e:=me_4 (a:=⟨b0,m0,r0⟩) (b:=⟨b1,m1,r1⟩) ‹_› ‹_› ‹_› ‹_›;first|exact congrArg (fun i:Cg=>Value.bool i.some) e.symm|exact congrArg (fun i:Cg=>Value.int .i64 i.m) e.symm|exact congrArg (fun i:Cg=>Value.int .i64 i.r) e.symm|fail)|(have e:=me_5 (a:=⟨b0,m0,r0⟩) (b:=⟨b1,m1,r1⟩) ‹_› ‹_› ‹_› ‹_› ‹_›;first|exact congrArg (fun i:Cg=>Value.bool i.some) e.symm|exact congrArg (fun i:Cg=>Value.int .i64 i.m) e.symm|exact congrArg (fun i:Cg=>Value.int .i64 i.r) e.symm|fail)|(have e:=me_6 (a:=⟨b0,m0,r0⟩) (b:=⟨b1,m1,r1⟩) ‹_› ‹_› ‹_› ‹_› ‹_›;first|exact congrArg (fun i:Cg=>Value.bool i.some) e.symm|exact congrArg (fun i:Cg=>Value.int .i64 i.m) e.symm|exact congrArg (fun i:Cg=>Value.int .i64 i.r) e.symm|fail)|(have e:=me_7 (a:=⟨b0,m0,r0⟩) (b:=⟨b1,m1,r1⟩) ‹_› ‹_› ‹_› ‹_› hx hy ‹_›;first|exact congrArg (fun i:Cg=>Value.bool i.some) e.symm|exact congrArg (fun i:Cg=>Value.int .i64 i.m) e.symm|exact congrArg (fun i:Cg=>Value.int .i64 i.r) e.symm|fail)|skip
   all_goals (obtain ⟨⟨p0,p1⟩,g0,gl0,gl1⟩:=me_p (a:=⟨b0,m0,r0⟩) (b:=⟨b1,m1,r1⟩) ‹_› ‹_› ‹_› ‹_›;obtain ⟨q1,q2,q3,q4⟩:=me_q (a:=⟨b0,m0,r0⟩) (b:=⟨b1,m1,r1⟩) ‹_› ‹_› ‹_› ‹_› hx hy)
   all_goals (try simp only [q1,q2,q3,Wd.eta'] at*)
   all_goals first|omega|exact (wd_ok _).1.1|exact (wd_ok _).1.2|exact (wd_ok _).2.1|exact (wd_ok _).2.2|exact (wInt_r _).1|exact (wInt_r _).2|(have bt:=me_bt (a:=⟨b0,m0,r0⟩) (b:=⟨b1,m1,r1⟩) ‹_› ‹_› ‹_› ‹_› hx hy ‹wIntB _=true›;have br:=bt_rng bt;first|exact bt|omega|fail)|(have e:=me_8 (a:=⟨b0,m0,r0⟩) (b:=⟨b1,m1,r1⟩) ‹_› ‹_› ‹_› ‹_› hx hy ‹_› ‹_›;first|exact congrArg (fun i:Cg=>Value.bool i.some) e.symm|exact congrArg (fun i:Cg=>Value.int .i64 i.m) e.symm|exact congrArg (fun i:Cg=>Value.int .i64 i.r) e.symm|fail)|(have e:=me_9 (a:=⟨b0,m0,r0⟩) (b:=⟨b1,m1,r1⟩) ‹_› ‹_› ‹_› ‹_› hx hy ‹_› ‹_› ‹_›;first|exact congrArg (fun i:Cg=>Value.bool i.some) e.symm|exact congrArg (fun i:Cg=>Value.int .i64 i.m) e.symm|exact congrArg (fun i:Cg=>Value.int .i64 i.r) e.symm|fail)|(have e:=me_10 (a:=⟨b0,m0,r0⟩) (b:=⟨b1,m1,r1⟩) ‹_› ‹_› ‹_› ‹_› hx hy ‹_› ‹_› ‹_›;first|exact congrArg (fun i:Cg=>Value.bool i.some) e.symm|exact congrArg (fun i:Cg=>Value.int .i64 i.m) e.symm|exact congrArg (fun i:Cg=>Value.int .i64 i.r) e.symm|fail)
 . cases h
theorem gN_lst2 (l:List ByteArray):gN l.length (fun i=> [st (gT [st (atS l i)])])=l:=gN_lst l
theorem meetS_len (l m:List ByteArray):(meetS l m).length<=l.length:=List.length_filter_le _ _
theorem okV_meetF {a b:Vl} (ha:okV a) (hb:okV b):okV (Vl.meetF a b):=by
 refine ⟨⟨?_,fun _ _=>rfl⟩,meetF_inR ha.2 hb.2⟩
 show (ofS (meetS (ofS a.t.names) (ofS b.t.names))).length*16<=140737488351232
 have h1:=ofS_len (meetS (ofS a.t.names) (ofS b.t.names))
 have h2:=meetS_len (ofS a.t.names) (ofS b.t.names)
 have h3:=ofS_len a.t.names
 have:=ha.1.1
 omega
def FVMeet:List Ar->Option Rs
 | [.agg [.d (.v (.bool s0)),.d (.v (.int .i64 l0)),.d (.v (.int .i64 h0)),.d (.v (.bool b0)),.d (.v (.int .i64 m0)),.d (.v (.int .i64 r0)),.d (.v (.bool z0)),.d (.lst 1 n0 f0)],.agg [.d (.v (.bool s1)),.d (.v (.int .i64 l1)),.d (.v (.int .i64 h1)),.d (.v (.bool b1)),.d (.v (.int .i64 m1)),.d (.v (.int .i64 r1)),.d (.v (.bool z1)),.d (.lst 1 n1 f1)]]=>some ⟨((n0*16<=140737488351232/\ ∀i,i<n0->f0 i= [st (gT (f0 i))])/\ Sp.inR ⟨s0,l0,h0⟩/\ Cg.inR ⟨b0,m0,r0⟩)/\ ((n1*16<=140737488351232/\ ∀i,i<n1->f1 i= [st (gT (f1 i))])/\ Sp.inR ⟨s1,l1,h1⟩/\ Cg.inR ⟨b1,m1,r1⟩),.va (Vl.ar (Vl.meet (⟨⟨⟨s0,l0,h0⟩,⟨b0,m0,r0⟩⟩,⟨z0,gN n0 f0⟩⟩:Vl) (⟨⟨⟨s1,l1,h1⟩,⟨b1,m1,r1⟩⟩,⟨z1,gN n1 f1⟩⟩:Vl))),[]⟩
 |_=>none
theorem fcVMeet:FC Tryz.prog 35 FVMeet:=by
 intro xs pre r us h hp;unfold FVMeet at h;split at h
 . rename_i s0 l0 h0 b0 m0 r0 z0 n0 f0 s1 l1 h1 b1 m1 r1 z1 n1 f1
   cases h;obtain ⟨hp0,hp1⟩:=hp
   refine FCat.of_eq (as':= [.agg [.d (.v (.bool s0)),.d (.v (.int .i64 l0)),.d (.v (.int .i64 h0)),.d (.v (.bool b0)),.d (.v (.int .i64 m0)),.d (.v (.int .i64 r0)),.d (.v (.bool z0)),.d (.lst 1 n0 fun i=> [st (gT (f0 i))])],.agg [.d (.v (.bool s1)),.d (.v (.int .i64 l1)),.d (.v (.int .i64 h1)),.d (.v (.bool b1)),.d (.v (.int .i64 m1)),.d (.v (.int .i64 r1)),.d (.v (.bool z1)),.d (.lst 1 n1 fun i=> [st (gT (f1 i))])]]) ?_ rfl rfl ?_
   . repeat' (first|exact trivial|exact rfl|refine ⟨?_, ?_⟩|fail)
     all_goals first|exact hp0.2|exact hp1.2|exact hp2.2|(intro i hi;exact (hp0.2 i hi).1)|(intro i hi;exact (hp1.2 i hi).1)|(intro i hi;exact (hp2.2 i hi).1)|grind
   refine fcat tys_ok (l:= [(62,⟨[],FVOf⟩),(63,⟨[],FSMeet⟩),(64,⟨[],FCMeet⟩),(65,⟨[],FNMeet⟩),(66,⟨[],FVValue⟩),(60,⟨[],FVReduce⟩)]) ⟨fcVOf,fcSMeet,fcCMeet,fcNMeet,fcVValue,fcVReduce,trivial⟩ Tryz.func35 rfl (by kernel_rfl) true ?_
   have hv0:okV (⟨⟨⟨s0,l0,h0⟩,⟨b0,m0,r0⟩⟩,⟨z0,gN n0 fun i=> [st (gT (f0 i))]⟩⟩:Vl):=⟨⟨(by rw [gN_length];exact hp0.1.1),fun _ _=>rfl⟩,hp0.2⟩
   have hv1:okV (⟨⟨⟨s1,l1,h1⟩,⟨b1,m1,r1⟩⟩,⟨z1,gN n1 fun i=> [st (gT (f1 i))]⟩⟩:Vl):=⟨⟨(by rw [gN_length];exact hp1.1.1),fun _ _=>rfl⟩,hp1.2⟩
   have ho0:=okV_of hv0
   have ho1:=okV_of hv1
   have hoo0:=okV_of ho0
   have hoo1:=okV_of ho1
   have hl0:(Vl.of (⟨⟨⟨s0,l0,h0⟩,⟨b0,m0,r0⟩⟩,⟨z0,gN n0 fun i=> [st (gT (f0 i))]⟩⟩:Vl)).t.names.length<=n0:=by have:=ofS_len (gN n0 f0);rw [gN_length] at this;exact this
   have hl1:(Vl.of (⟨⟨⟨s1,l1,h1⟩,⟨b1,m1,r1⟩⟩,⟨z1,gN n1 fun i=> [st (gT (f1 i))]⟩⟩:Vl)).t.names.length<=n1:=by have:=ofS_len (gN n1 f1);rw [gN_length] at this;exact this
   have hsj:=Sp.join_inR ho0.2.1 ho1.2.1
   have hcj:=Cg.join_inR ho0.2.2 ho1.2.2
   unfold okV at ho0 ho1 hoo0 hoo1;have hmf:=okV_meetF hv0 hv1
   unfold okV at hmf
   repeat' (first|exact trivial|(with_reducible first|assumption|exact ho0.1|exact ho1.1|exact ho0.2.1|exact ho0.2.2|exact ho1.2.1|exact ho1.2.2|exact hp0.1|exact hp1.1|exact hp0.2.1|exact hp0.2.2|exact hp1.2.1|exact hp1.2.2|exact hmf.1|exact hmf.2.1|exact hmf.2.2)|refine ⟨?_, ?_⟩|intro _)
   all_goals first|(with_reducible apply qq)|(conv=>whnf)
   all_goals (try simp only [gN_lst,gN_lst2,gN_canon] at*)
   all_goals first|rfl|(with_reducible first|exact hp0.1.1|exact hp1.1.1)|exact hmf.1.1|exact hmf.2.1.1.1|exact hmf.2.1.1.2|exact hmf.2.1.2.1|exact hmf.2.1.2.2|exact hmf.2.2.1.1|exact hmf.2.2.1.2|exact hmf.2.2.2.1|exact hmf.2.2.2.2
 . cases h
open Go.RowKit Go.Lib Go.Sort
def adrV (s:ByteArray) (b:Bool):Vl:=if b=true then ⟨Ig.zero,⟨false,ofS (ofS [s])⟩⟩ else Vl.zero
def ixT (L:List ByteArray) (s:ByteArray):Int:=match L.findIdx? (fun x=>s.toList==x.toList) with
 |some i=>i
 |none=> -1
def hasT (L:List ByteArray) (s:ByteArray):Bool:=L.any fun x=>decide (s=x)
theorem hasT_iff {L:List ByteArray} {s:ByteArray}:hasT L s=true↔s∈L:=by
 unfold hasT;rw [List.any_eq_true];exact ⟨fun ⟨x,h1,h2⟩=>of_decide_eq_true h2▸h1,fun h=>⟨s,h,decide_eq_true rfl⟩⟩
theorem atS_get {L:List ByteArray} {k:Nat} (h:k<L.length):atS L k=L[k]:=by unfold atS;rw [List.getD_eq_getElem?_getD,List.getElem?_eq_getElem h];rfl
theorem ixT_some {s:ByteArray} {L:List ByteArray} {i:Nat} (hi:i<L.length) (h1: ∀k,k<i->(s.toList==(atS L k).toList)=false) (h2:(s.toList==(atS L i).toList)=true):ixT L s=i:=by
 unfold ixT;have:L.findIdx? (fun x=>s.toList==x.toList)=some i:=by
  rw [List.findIdx?_eq_some_iff_getElem];refine ⟨hi,by rw [<-atS_get hi];exact h2,fun j hj=> ?_⟩
  rw [<-atS_get (by omega),h1 j hj];exact Bool.false_ne_true
 rw [this]
theorem ixT_none {s:ByteArray} {L:List ByteArray} (h1: ∀k,k<L.length->(s.toList==(atS L k).toList)=false):ixT L s= -1:=by
 unfold ixT;have:L.findIdx? (fun x=>s.toList==x.toList)=none:=by
  rw [List.findIdx?_eq_none_iff];intro x hx;obtain ⟨k,hk,rfl⟩:=List.mem_iff_getElem.1 hx
  have:=h1 k hk
  rw [atS_get hk] at this;exact this
 rw [this]
theorem ixT_ge (L:List ByteArray) (s:ByteArray):decide (ixT L s≥0)=hasT L s:=by
 unfold ixT;cases h:L.findIdx? (fun x=>s.toList==x.toList) with
 |some i=>
  rw [List.findIdx?_eq_some_iff_getElem] at h;obtain ⟨h1,h2,_⟩:=h
  rw [seq_iff] at h2;have e:=of_decide_eq_true h2
  show decide ((i:Int)≥0)=_
  rw [decide_eq_true (by omega)];exact (hasT_iff.2 (e▸List.getElem_mem h1)).symm
 |none=>
  rw [List.findIdx?_eq_none_iff] at h;have:s∉L:=fun hm=>by
   have:=h s hm
   rw [seq_iff,decide_eq_true rfl] at this;cases this
  rw [decide_eq_false (by decide)];cases hh:hasT L s with
  |false=>rfl
  |true=>exact absurd (hasT_iff.1 hh) this
theorem rowT_eq {n:Nat} {f:Nat->List DV} (h: ∀i,i<n->f i= [st (gT (f i))]): ∀i,i<n->f i= [st (atS (gN n f) i)]:=fun i hi=>by
 rw [h i hi];unfold gN atS;simp [List.getD_eq_getElem?_getD,hi]
theorem canonTo {n:Nat} {f:Nat->List DV} (h: ∀i,i<n->f i= [st (gT (f i))]):icE (.ow 1 n f) (.ow 1 n (fun i=> [st (atS (gN n f) i)])):=
 ⟨rfl,rfl,fun i hi=>by rw [rowT_eq h i hi];exact ⟨rfl,fun j a b ha hb=>by rw [ha] at hb;cases hb;exact .refl _⟩⟩
def arrS (L:List Gl):Nat->List ByteArray
 |0=> []
 |i+1=>if (decide ((glG L (atG L i).name).size>0)&& !hasT (arrS L i) (atG L i).name)=true then arrS L i++ [(atG L i).name] else arrS L i
theorem arrS_len (L:List Gl): ∀i,(arrS L i).length<=i
 |0=>Nat.le_refl 0
 |i+1=>by
  have:=arrS_len L i
  unfold arrS;split
  . rw [List.length_append];simp;omega
  . omega
def FAddr:List Ar->Option Rs
 | [.c (.d (.v (.string x0))),.c (.d (.v (.bool b1)))]=>some ⟨True,.va (Vl.ar (adrV x0 b1)),[]⟩
 |_=>none
theorem fcAddr:FC Tryz.prog 78 FAddr:=by
 intro xs pre r us h hp;unfold FAddr at h;split at h
 . rename_i x0 b1
   cases h;refine fcat tys_ok (l:= [(79,⟨[],FVPtr⟩),(80,⟨[],FNOf⟩)]) ⟨fcVPtr,fcNOf,trivial⟩ Tryz.func78 rfl (by kernel_rfl) true ?_
   cases b1 with
   |true=>
    have hb:adrV x0 true=⟨Ig.zero,⟨false,ofS (ofS [x0])⟩⟩:=rfl
    have hl:(ofS [x0]).length<=1:=ofS_len _
    have hg:gN 1 (fun i=>Sx.rowAt 1 [DV.v (.string x0)] (0+i))= [x0]:=rfl
    repeat' (first|exact trivial|(with_reducible first|exact n1|exact n2)|refine ⟨?_, ?_⟩|intro _)
    all_goals first|(with_reducible apply qq)|(conv=>whnf)
    all_goals (try rw [hg])
    all_goals (try simp only [gN_lst] at*)
    all_goals first|omega|rfl|(rename_i i hi;obtain rfl:i=0:=(by omega);rfl)|(exact absurd ‹(!true)=true› (by decide))|(rw [hb];done)|(rw [hb];rfl)
   |false=>
    have hb:adrV x0 false=Vl.zero:=rfl
    repeat' (first|exact trivial|(with_reducible first|exact n1|exact n2)|refine ⟨?_, ?_⟩|intro _)
    all_goals first|(with_reducible apply qq)|(conv=>whnf)
    all_goals first|omega|rfl|(exact absurd ‹(!false)=false› (by decide))|(rw [hb];done)|(rw [hb];rfl)
 . cases h
def FTIxO:List Ar->Option Rs
 | [.c (.ow 1 n0 f0),.c (.d (.v (.string x1)))]=>some ⟨(n0*16<=140737488351232/\ ∀i,i<n0->f0 i= [st (gT (f0 i))]),.va (.c (.d (it (ixT (gN n0 f0) x1)))),[some (fun i=> [st (atS (gN n0 f0) i)])]⟩
 |_=>none
theorem fcTIxO:FC Tryz.prog 59 FTIxO:=by
 intro xs pre r us h hp;unfold FTIxO at h;split at h
 . rename_i n0 f0 x1
   cases h;have hp0:=hp
   refine FCat.deep (ys:= [.c (.ow 1 n0 fun i=> [st (atS (gN n0 f0) i)]),.c (.d (.v (.string x1)))]) ?_ ?_
   . repeat' (first|exact trivial|exact rfl|exact DvE.refl _|refine ⟨?_, ?_⟩|fail)
     all_goals first|exact (canonTo hp0.2).2.2
   refine fcat tys_ok (l:= []) trivial Tryz.func59 rfl (by kernel_rfl) false ?_
   have hn:=hp0.1
   have hlen:=gN_length n0 f0
   generalize gN n0 f0=L at*
   clear hp0;subst hlen
   repeat' (first|exact trivial|refine ⟨?_, ?_⟩|intro _)
   all_goals first|(with_reducible apply qq)|(conv=>whnf)
   refine loop_ok tys_ok (l:= []) trivial (by kernel_rfl) (X:=Nat)
    (fun i=>⟨[(8,vx (.int .i64 i)),(0,.va (.c (.osl 0 1 0 L.length))),(1,vx (.string x1)),(7,vx (.int .i64 L.length))],[(0,.row 1 L.length fun i=> [st (atS L i)])],1,19⟩)
    (fun i=>L.length-i) (fun i=>i<=L.length/\ ∀k,k<i->(x1.toList==(atS L k).toList)=false) [] []
    (fun i _ _=>i+1) [0] [0] 0 0 0 ?_ ?_ ?_
   . exact ⟨Nat.zero_le _,fun k h=>absurd h (Nat.not_lt_zero k)⟩
   . repeat' (first|exact trivial|exact rfl|(intro _ _;exact rfl)|refine ⟨?_, ?_⟩|fail)
   . rintro i ⟨k1,k2⟩
     rcases Nat.lt_or_ge i L.length with hi|hi
     . have hne:decide ((i:Int)<(L.length:Int))=true:=decide_eq_true (by omega)
       have hib:(0:Int)<=(i:Int)/\ (i:Int)<(L.length:Int):=by omega
       cases hq:(x1.toList==(atS L i).toList) with
       |true=>
        have hv:=ixT_some hi k2 hq
        repeat' (first|exact trivial|(with_reducible first|exact n1|exact n2|exact hib|exact hib.1|exact hib.2|exact nx hne)|refine ⟨?_, ?_⟩|intro _)
        all_goals first|(with_reducible apply qq)|(conv=>whnf)
        all_goals (try simp only [Int.toNat_natCast,Nat.zero_add] at*)
        all_goals first|omega|(rw [hv];done)|exact absurd (hq.symm.trans ‹_=false›) (by decide)|rfl|(intro _ _;rfl)|(rw [hv];rfl)
       |false=>
        have hk: ∀k,k<i+1->(x1.toList==(atS L k).toList)=false:=fun k h=>by
         rcases Nat.lt_or_ge k i with h1|h1
         . exact k2 k h1
         . rw [show k=i by omega];exact hq
        repeat' (first|exact trivial|(with_reducible first|exact n1|exact n2|exact hib|exact hib.1|exact hib.2|exact nx hne)|refine ⟨?_, ?_⟩|intro _)
        all_goals first|(with_reducible apply qq)|(conv=>whnf)
        all_goals (try dsimp only)
        all_goals (try simp only [Int.toNat_natCast,Nat.zero_add] at*)
        all_goals first|omega|exact absurd (hq.symm.trans ‹_=true›) (by decide)|exact hk _ ‹_›|rfl|(exact congrArg (Value.int .i64) (by first|(rw [wI_id _ (by omega) (by omega)];omega)|omega|(dsimp only;omega)))|(intro _ _;rfl)
     . have hne:decide ((i:Int)<(L.length:Int))=false:=decide_eq_false (by omega)
       obtain rfl:i=L.length:=by omega
       have hv:=ixT_none k2
       repeat' (first|exact trivial|(with_reducible first|exact n1|exact n2|exact nx hne)|refine ⟨?_, ?_⟩|intro _)
       all_goals first|(with_reducible apply qq)|(conv=>whnf)
       all_goals first|omega|(rw [hv];done)|rfl|(intro _ _;rfl)|(rw [hv];rfl)
 . cases h
def FTHasO:List Ar->Option Rs
 | [.c (.ow 1 n0 f0),.c (.d (.v (.string x1)))]=>some ⟨(n0*16<=140737488351232/\ ∀i,i<n0->f0 i= [st (gT (f0 i))]),.va (.c (.d (bo (hasT (gN n0 f0) x1)))),[some (fun i=> [st (atS (gN n0 f0) i)])]⟩
 |_=>none
theorem fcTHasO:FC Tryz.prog 29 FTHasO:=by
 intro xs pre r us h hp;unfold FTHasO at h;split at h
 . rename_i n0 f0 x1
   cases h;have hp0:=hp
   refine FCat.deep (ys:= [.c (.ow 1 n0 fun i=> [st (atS (gN n0 f0) i)]),.c (.d (.v (.string x1)))]) ?_ ?_
   . repeat' (first|exact trivial|exact rfl|exact DvE.refl _|refine ⟨?_, ?_⟩|fail)
     all_goals first|exact (canonTo hp0.2).2.2
   refine fcat tys_ok (l:= [(59,⟨[true],FTIxO⟩)]) ⟨fcTIxO,trivial⟩ Tryz.func29 rfl (by kernel_rfl) false ?_
   have hn:=hp0.1
   have hlen:=gN_length n0 f0
   generalize gN n0 f0=L at*
   clear hp0;subst hlen;have hix:=ixT_ge L x1
   repeat' (first|exact trivial|(with_reducible exact hn)|refine ⟨?_, ?_⟩|intro _)
   all_goals first|(with_reducible apply qq)|(conv=>whnf)
   all_goals (try simp only [gN_lst] at*)
   all_goals first|(rw [hix];done)|omega|rfl|(intro _ _;rfl)
 . cases h
end Go.Proofs.YtokjghkehojenaaGreat
namespace Go.Proofs.YtokjghkehojenaaGreat
open Go.Sx
open Go.RowKit Go.Lib Go.Sort
def oQ (t:Tm):Nat:=match t with
 | .va (.c (.osl k _ _ _))=>k
 |_=>0
theorem row_snocT {M:List ByteArray} {x:ByteArray} {g:Nat->List DV} (hg:g 0= [st x]): ∀j,j<M.length+1->appRow M.length (fun j=> [st (atS M j)]) g j= [st (atS (M++ [x]) j)]:=by
 intro j hj;unfold appRow;split
 . rename_i h
   unfold atS;simp only [List.getD_eq_getElem?_getD,List.getElem?_append_left h]
 . have:j=M.length:=by omega
   subst this;rw [Nat.sub_self,hg];simp [atS]
theorem arrS_yes {L:List Gl} {i:Nat} (h1:decide ((glG L (atG L i).name).size>0)=true) (h2:(!hasT (arrS L i) (atG L i).name)=true):arrS L (i+1)=arrS L i++ [(atG L i).name]:=if_pos (by rw [h1,h2];rfl)
theorem arrS_no {L:List Gl} {i:Nat} (h1:decide ((glG L (atG L i).name).size>0)=false):arrS L (i+1)=arrS L i:=if_neg (by rw [h1];exact Bool.false_ne_true)
theorem arrS_no2 {L:List Gl} {i:Nat} (h2:(!hasT (arrS L i) (atG L i).name)=false):arrS L (i+1)=arrS L i:=if_neg (by rw [h2,Bool.and_false];exact Bool.false_ne_true)
def FArrays:List Ar->Option Rs
 | [.agg [.d (.lst 4 n0 f0),.d (.lst 5 _ _)]]=>some ⟨(n0<=1099511627776/\ RowsG n0 f0),.va (.c (.d (lst (arrS (gGs n0 f0) n0)))),[]⟩
 |_=>none
theorem fcArrays:FC Tryz.prog 15 FArrays:=by
 intro xs pre r us h hp;unfold FArrays at h;split at h
 . rename_i n0 f0 c0 d0
   cases h;have hp0:=hp
   refine FCat.of_eq (as':= [.agg [.d (.lst 4 n0 (rwG (gGs n0 f0))),.d (.lst 5 c0 d0)]]) ?_ rfl rfl ?_
   . repeat' (first|exact trivial|exact rfl|refine ⟨?_, ?_⟩|fail)
     all_goals first|exact rowG_eq hp0.2|(intro _ _;rfl)|exact hp0.2|exact hp1.2|exact hp2.2|(intro i hi;exact (hp0.2 i hi).1)|(intro i hi;exact (hp1.2 i hi).1)|(intro i hi;exact (hp2.2 i hi).1)|grind
   refine fcat tys_ok (l:= [(28,⟨[],FGlob⟩),(29,⟨[true],FTHasO⟩)]) ⟨fcGlob,fcTHasO,trivial⟩ Tryz.func15 rfl (by kernel_rfl) true ?_
   have hn:=hp0.1
   have hL:=okG_rows hp0.2
   have hlen:=gGs_length n0 f0
   generalize gGs n0 f0=L at*
   clear hp0;subst hlen;have hrw:=rows_okG hL
   have hal:=fun i=>arrS_len L i
   repeat' (first|exact trivial|refine ⟨?_, ?_⟩|intro _)
   all_goals first|(with_reducible apply qq)|(conv=>whnf)
   refine loop_ids tys_ok (l:= [(28,⟨[],FGlob⟩),(29,⟨[true],FTHasO⟩)]) ⟨fcGlob,fcTHasO,trivial⟩ (by kernel_rfl) (X:=Nat)
    (fun i=>⟨[(11,vx (.int .i64 i)),(10,vx (.int .i64 L.length)),(9,.va (.c (.d (lstG L)))),(1,.va (.c (.own 0 0))),(3,.va (.c (.osl 1 1 0 (arrS L i).length)))],[(0,.cells [.d (lstG L),.d (.lst 5 c0 d0)]),(1,.row 1 (arrS L i).length fun j=> [st (atS (arrS L i) j)])],2,Tryz.f15.ntmps⟩)
    (fun i=>L.length-i) (fun i=>i<=L.length) [3] []
    (fun i _ _=>i+1) (fun xs=>match xs with| [t]=> [0,oQ t]|_=> []) [0] 0 1 0 ?_ ?_ ?_
   . exact Nat.zero_le _
   . repeat' (first|exact trivial|exact rfl|(intro _ _;exact rfl)|refine ⟨?_, ?_⟩|fail)
     all_goals first|(simp;done)
   . rintro i k1
     have hl1:=hal i
     rcases Nat.lt_or_ge i L.length with hi|hi
     . have hne:decide ((i:Int)<(L.length:Int))=true:=decide_eq_true (by omega)
       have hib:(0:Int)<=(i:Int)/\ (i:Int)<(L.length:Int):=by omega
       have hal16:(arrS L i).length*16<=140737488351232:=by omega
       repeat' (first|exact trivial|(with_reducible first|assumption|exact n1|exact n2|exact hib.1|exact hib.2|exact nx hne)|refine ⟨?_, ?_⟩|intro _)
       all_goals first|(with_reducible apply qq)|(conv=>whnf)
       all_goals (try dsimp only)
       all_goals (try simp only [gGs_row,gN_lst,Int.toNat_natCast,Nat.zero_add] at*)
       all_goals first|exact Nat.le_refl _|rfl|omega|((exact congrArg (Value.int .i64) (by first|(rw [wI_id _ (by omega) (by omega)];omega)|omega|(dsimp only;omega))))|(rw [arrS_yes (by assumption) (by assumption),List.length_append];rfl)|(rw [arrS_yes (by assumption) (by assumption)];exact row_snocT rfl _ (by assumption))|rw [arrS_no (by assumption)]|rw [arrS_no2 (by assumption)]
     . have hne:decide ((i:Int)<(L.length:Int))=false:=decide_eq_false (by omega)
       obtain rfl:i=L.length:=by omega
       repeat' (first|exact trivial|(with_reducible first|exact n1|exact n2|exact nx hne)|refine ⟨?_, ?_⟩|intro _)
       all_goals first|(with_reducible apply qq)|(conv=>whnf)
       all_goals first|omega|rfl|(simp only [Nat.zero_add];done)
 . cases h
end Go.Proofs.YtokjghkehojenaaGreat
namespace Go.Proofs.YtokjghkehojenaaGreat
open Go.Sx
open Go.RowKit Go.Lib Go.Sort
def roomV (x:Gl):Vl:=Vl.reduce ⟨⟨Sp.of 0 (max x.size 1-1),Cg.of 1 0⟩,⟨false,[]⟩⟩
def plS (L:List Gl) (s:ByteArray) (v:Vl):Bool:=glI L s&& !Sp.none (Vl.meet v (roomV (glG L s))).i.s
theorem okGl {L:List Gl} (h:okG L) (s:ByteArray):(glG L s).ok:=by
 have h1:=ixG_lt L s
 unfold glG;split
 . exact ⟨⟨by decide,by decide⟩,by decide,by decide⟩
 . exact h _ (by omega)
theorem okRoom {x:Gl} (h:x.ok):okV (roomV x):=by
 have h1:=h.1
 unfold rI at h1;exact ok_reduce (n:=0) (f:=fun _=> []) (Nat.zero_le _) (Sp.of_inR ⟨by decide,by decide⟩ (by unfold rI;omega)) (Cg.of_inR 1 0 (by decide) (by decide) (by decide) (by decide))
theorem okV_meetL {a b:Vl} (ha:okV a) (hb:okV b):okV (Vl.meet a b):=by
 have h:=okV_meetF ha hb
 have h2:=ok_reduce (i:=(Vl.meetF a b).i) (z:=(Vl.meetF a b).t.null) (n:=(Vl.meetF a b).t.names.length) (f:=fun i=> [st (atS (Vl.meetF a b).t.names i)]) h.1.1 h.2.1 h.2.2
 rw [gN_lst] at h2;exact h2
def FPlaces:List Ar->Option Rs
 | [.agg [.d (.lst 4 n0 f0),.d (.lst 5 _ _)],.c (.d (.v (.string x1))),.agg [.d (.v (.bool s2)),.d (.v (.int .i64 l2)),.d (.v (.int .i64 h2)),.d (.v (.bool b2)),.d (.v (.int .i64 m2)),.d (.v (.int .i64 r2)),.d (.v (.bool z2)),.d (.lst 1 n2 f2)]]=>some ⟨(n0<=1099511627776/\ RowsG n0 f0)/\ ((n2*16<=140737488351232/\ ∀i,i<n2->f2 i= [st (gT (f2 i))])/\ Sp.inR ⟨s2,l2,h2⟩/\ Cg.inR ⟨b2,m2,r2⟩),.va (.c (.d (bo (plS (gGs n0 f0) x1 (⟨⟨⟨s2,l2,h2⟩,⟨b2,m2,r2⟩⟩,⟨z2,gN n2 f2⟩⟩:Vl))))),[]⟩
 |_=>none
theorem fcPlaces:FC Tryz.prog 17 FPlaces:=by
 intro xs pre r us h hp;unfold FPlaces at h;split at h
 . rename_i n0 f0 c0 d0 x1 s2 l2 h2 b2 m2 r2 z2 n2 f2
   cases h;obtain ⟨hp0,hp1⟩:=hp
   refine FCat.of_eq (as':= [.agg [.d (.lst 4 n0 (rwG (gGs n0 f0))),.d (.lst 5 c0 d0)],.c (.d (.v (.string x1))),.agg [.d (.v (.bool s2)),.d (.v (.int .i64 l2)),.d (.v (.int .i64 h2)),.d (.v (.bool b2)),.d (.v (.int .i64 m2)),.d (.v (.int .i64 r2)),.d (.v (.bool z2)),.d (.lst 1 n2 fun i=> [st (gT (f2 i))])]]) ?_ rfl rfl ?_
   . repeat' (first|exact trivial|exact rfl|refine ⟨?_, ?_⟩|fail)
     all_goals first|exact rowG_eq hp0.2|exact hp1.1.2|(intro _ _;rfl)|exact hp0.2|exact hp1.2|exact hp2.2|(intro i hi;exact (hp0.2 i hi).1)|(intro i hi;exact (hp1.2 i hi).1)|(intro i hi;exact (hp2.2 i hi).1)|grind
   refine fcat tys_ok (l:= [(28,⟨[],FGlob⟩),(32,⟨[],FSOf⟩),(33,⟨[],FCAll⟩),(31,⟨[],FVInt⟩),(35,⟨[],FVMeet⟩),(34,⟨[],FSNone⟩)]) ⟨fcGlob,fcSOf,fcCAll,fcVInt,fcVMeet,fcSNone,trivial⟩ Tryz.func17 rfl (by kernel_rfl) true ?_
   have hn:=hp0.1
   have hL:=okG_rows hp0.2
   have hlen:=gGs_length n0 f0
   generalize gGs n0 f0=L at*
   clear hp0;subst hlen;have hrw:=rows_okG hL
   have hg:=okGl hL x1
   have hr:=okRoom hg
   have hv:okV ⟨⟨⟨s2,l2,h2⟩,⟨b2,m2,r2⟩⟩,⟨z2,gN n2 f2⟩⟩:=⟨⟨(by rw [gN_length];exact hp1.1.1),fun _ _=>rfl⟩,hp1.2⟩
   have hm:=okV_meetL hv hr
   have hw:IntKind.wrap .i64 ((if 1>(glG L x1).size then 1 else (glG L x1).size)-1)=max (glG L x1).size 1-1:=by
    have h1:=hg.1
    unfold rI at h1;split<;>(rw [wI_id _ (by omega) (by omega)];omega)
   have hz:rI (max (glG L x1).size 1-1):=by
    have h1:=hg.1
    unfold rI at*;omega
   have hs:=Sp.of_inR (l:=0) ⟨by decide,by decide⟩ hz
   unfold rI at hz;have hcg:=Cg.of_inR 1 0 (by decide) (by decide) (by decide) (by decide)
   have hgr:=gGs_row L
   repeat' (first|exact trivial|(with_reducible first|assumption|exact n1|exact n2)|refine ⟨?_, ?_⟩|intro _)
   all_goals first|(with_reducible apply qq)|(conv=>whnf)
   all_goals (try simp only [hgr,hw,gN_lst,gN_canon] at*)
   all_goals first|omega|rfl|exact hv.1.1|exact hv.2.1.1.1|exact hv.2.1.1.2|exact hv.2.1.2.1|exact hv.2.1.2.2|exact hv.2.2.1.1|exact hv.2.2.1.2|exact hv.2.2.2.1|exact hv.2.2.2.2|exact hr.1.1|exact hr.2.1.1.1|exact hr.2.1.1.2|exact hr.2.1.2.1|exact hr.2.1.2.2|exact hr.2.2.1.1|exact hr.2.2.1.2|exact hr.2.2.2.1|exact hr.2.2.2.2|exact hm.1.1|exact hm.2.1.1.1|exact hm.2.1.1.2|exact hm.2.1.2.1|exact hm.2.1.2.2|exact hm.2.2.1.1|exact hm.2.2.1.2|exact hm.2.2.2.1|exact hm.2.2.2.2|exact hs.1.1|exact hs.1.2|exact hs.2.1|exact hs.2.2|exact hcg.1.1|exact hcg.1.2|exact hcg.2.1|exact hcg.2.2|(unfold plS;simp only [Bool.not_eq_true'] at*;rw [‹glI L x1=false›];rfl)|(unfold plS;rw [(by simpa using ‹(!glI L x1)=false›:glI L x1=true),Bool.true_and];rfl)
 . cases h
end Go.Proofs.YtokjghkehojenaaGreat
namespace Go.Sx
def fmC (ρ:Nat->Nat):Cell->Cell
 | .own k off=> .own (ρ k) off
 | .osl k sz o len=> .osl (ρ k) sz o len
 | .osc k sz o len c=> .osc (ρ k) sz o len c
 | .ep k sz i off=> .ep (ρ k) sz i off
 | .ap k b n i=> .ap (ρ k) b n i
 | .fn f caps=> .fn f (caps.map fun p=>(ρ p.1,p.2))
 |c=>c
def fmVa (ρ:Nat->Nat):Va->Va
 | .c x=> .c (fmC ρ x)
 | .agg cs=> .agg (cs.map (fmC ρ))
def fmT (ρ:Nat->Nat):Tm->Tm
 | .va x=> .va (fmVa ρ x)
 | .tup xs=> .tup (xs.map (fmVa ρ))
def fmB (ρ:Nat->Nat):Blk->Blk
 | .cells cs=> .cells (cs.map (fmC ρ))
 |b=>b
def backN (ids:List Nat) (b n j:Nat):Nat:=match Nat.blt j b with
 |true=>ids.getD j 0
 |false=>n+(j-b)
def backH (ρ:Nat->Nat) (h1:List (Nat×Blk)) (ids:List Nat) (h:List (Nat×Blk)):List (Nat×Blk):=h1.map (fun p=>(ρ p.1,fmB ρ p.2))++(ids.map (fun k=>(k,Blk.gone))++h)
def vasLe (ids:List Nat) (nv:Nat):List Va->List Va->Prop
 | [],[]=>True
 |x::xs,y::ys=>vaLe ids nv x y/\ vasLe ids nv xs ys
 |_,_=>False
def liveB:Blk->Bool
 | .cells _=>true
 | .row _ _ _=>true
 | .it _ _=>true
 |_=>false
theorem live_of {b:Blk} (h:liveB b=true):b.live:=by cases b<;>first|trivial|exact Bool.noConfusion h
theorem live_fm {ρ:Nat->Nat} {b:Blk} (h:(fmB ρ b).live):b.live:=by cases b<;>exact h
section
variable {P:Program} {ψ ψ1 ψ2:Psi} {S S':Nat→Prop} {w w':World} {ρ:Nat→Nat}
theorem vasLe_rep {ids:List Nat} {nv:Nat}: ∀{xs ys:List Va} {vs:List Value},vasLe ids nv xs ys->All2 (RepVa P ψ S w) xs vs->All2 (RepVa P (psiRen ψ ids nv) S w) ys vs
 | [],[],[],_,_=>trivial
 | [],[],_::_,_,h=>h.elim
 | [],_::_,_,h,_=>h.elim
 |_::_,[],_,h,_=>h.elim
 |_::_,_::_,[],_,h=>h.elim
 |_::_,_::_,_::_,⟨h1,h2⟩,⟨g1,g2⟩=>⟨vaLe_rep h1 g1,vasLe_rep h2 g2⟩
theorem fmC_rep (hρ: ∀j l,ψ1 j=some l->ψ2 (ρ j)=some l) {c:Cell} {x:Value} (h:RepC P ψ1 S w c x):RepC P ψ2 S w (fmC ρ c) x:=by
 cases c with
 |own k off=>obtain ⟨b,m,h1,h2⟩:=h;exact ⟨b,m,hρ _ _ h1,h2⟩
 |osl k sz o len=>
  rcases h with ⟨h1,h2⟩|⟨b,m,c,off,h1,h2⟩
  . exact .inl ⟨hρ _ _ h1,h2⟩
  . exact .inr ⟨b,m,c,off,hρ _ _ h1,h2⟩
 |osc k sz o len c=>
  rcases h with ⟨h1,h2⟩|⟨b,m,off,h1,h2⟩
  . exact .inl ⟨hρ _ _ h1,h2⟩
  . exact .inr ⟨b,m,off,hρ _ _ h1,h2⟩
 |ep k sz i off=>obtain ⟨b,m,h1,h2⟩:=h;exact ⟨b,m,hρ _ _ h1,h2⟩
 |ap k base n i=>obtain ⟨b,m,h1,h2⟩:=h;exact ⟨b,m,hρ _ _ h1,h2⟩
 |fn f caps=>
  obtain ⟨vs,h1,h2⟩:=h
  exact ⟨vs,h1,All2.map_left (fun p:Nat×Nat=>(ρ p.1,p.2)) (fun p y ⟨b,m,a,c⟩=>⟨b,m,hρ _ _ a,c⟩) h2⟩
 |top=>exact h
 |und=>exact h
 |kb b=>exact h
 |d y=>exact h
 |rp cs=>exact h
 |fv g=>exact h
theorem fmVa_rep (hρ: ∀j l,ψ1 j=some l->ψ2 (ρ j)=some l) {c:Va} {x:Value} (h:RepVa P ψ1 S w c x):RepVa P ψ2 S w (fmVa ρ c) x:=by
 cases c with
 |c x=>exact fmC_rep hρ h
 |agg cs=>obtain ⟨arr,h1,h2⟩:=h;exact ⟨arr,h1,All2.map_left (fmC ρ) (fun c y g=>⟨fmC_rep hρ g.1,g.2⟩) h2⟩
theorem fmT_rep (hρ: ∀j l,ψ1 j=some l->ψ2 (ρ j)=some l) {c:Tm} {x:Value} (h:RepT P ψ1 S w c x):RepT P ψ2 S w (fmT ρ c) x:=by
 cases c with
 |va x=>exact fmVa_rep hρ h
 |tup cs=>obtain ⟨arr,h1,h2⟩:=h;exact ⟨arr,h1,All2.map_left (fmVa ρ) (fun c y g=>fmVa_rep hρ g) h2⟩
theorem fmB_rep (hρ: ∀j l,ψ1 j=some l->ψ2 (ρ j)=some l) {b:Blk} {l:Loc} (h:BlkRep P ψ1 S w b l):BlkRep P ψ2 S w (fmB ρ b) l:=by
 cases b with
 |cells cs=>
  cases l with
  |virt=>exact h.elim
  | «at» b m=>obtain ⟨arr,e,h1,h2⟩:=h;exact ⟨arr,e,h1,All2.map_left (fmC ρ) (fun c y g=>⟨fmC_rep hρ g.1,g.2⟩) h2⟩
 |row sz n f=>cases l<;>exact h
 |fz cs=>cases l<;>exact h
 |fzr sz n f=>cases l<;>exact h
 |it s p=>cases l<;>exact h
 |gone=>cases l<;>trivial
theorem lookB_hit {k:Nat} {c:List (Nat×Blk)}: ∀{a:List (Nat×Blk)},(a.any fun p=>Nat.beq p.1 k)=true->lookB (a++c) k=lookB a k
 | [],h=>by cases h
 |(i,b)::a,h=>by
  simp only [List.cons_append,lookB];cases hb:Nat.beq i k with
  |true=>rfl
  |false=>
   simp only [List.any_cons,hb,Bool.false_or] at h;exact lookB_hit h
theorem lookB_miss {k:Nat} {c:List (Nat×Blk)}: ∀{a:List (Nat×Blk)},(a.any fun p=>Nat.beq p.1 k)=false->lookB (a++c) k=lookB c k
 | [],_=>rfl
 |(i,b)::a,h=>by
  simp only [List.any_cons,Bool.or_eq_false_iff] at h;simp only [List.cons_append,lookB,h.1];exact lookB_miss h.2
theorem lookB_fm (hi: ∀i j,ρ i=ρ j->i=j) (j:Nat): ∀{a:List (Nat×Blk)},lookB (a.map fun p=>(ρ p.1,fmB ρ p.2)) (ρ j)=fmB ρ (lookB a j)
 | []=>rfl
 |(i,b)::a=>by
  simp only [List.map_cons,lookB];cases hb:Nat.beq i j with
  |true=>have:=Nat.eq_of_beq_eq_true hb;subst this;rw [Nat.beq_refl]
  |false=>
   have:Nat.beq (ρ i) (ρ j)=false:=by
    cases h2:Nat.beq (ρ i) (ρ j) with
    |false=>rfl
    |true=>have:=hi i j (Nat.eq_of_beq_eq_true h2);subst this;rw [Nat.beq_refl] at hb;cases hb
   rw [this];exact lookB_fm hi j
theorem any_fm {k:Nat}: ∀{a:List (Nat×Blk)},((a.map fun p=>(ρ p.1,fmB ρ p.2)).any fun p=>Nat.beq p.1 k)=true-> ∃j,k=ρ j
 | [],h=>by cases h
 |(i,b)::a,h=>by
  simp only [List.map_cons,List.any_cons,Bool.or_eq_true] at h;rcases h with h|h
  . exact ⟨i,(Nat.eq_of_beq_eq_true h).symm⟩
  . exact any_fm h
theorem lookB_gone {k:Nat} {h:List (Nat×Blk)}: ∀{ids:List Nat},k∈ids->lookB (ids.map (fun k=>(k,Blk.gone))++h) k= .gone
 | [],h=>by cases h
 |i::ids,hk=>by
  simp only [List.map_cons,List.cons_append,lookB];cases hb:Nat.beq i k with
  |true=>rfl
  |false=>
   rcases List.mem_cons.1 hk with e|e
   . subst e;rw [Nat.beq_refl] at hb;cases hb
   . exact lookB_gone e
theorem lookB_rest {k:Nat} {h:List (Nat×Blk)}: ∀{ids:List Nat},k∉ids->lookB (ids.map (fun k=>(k,Blk.gone))++h) k=lookB h k
 | [],_=>rfl
 |i::ids,hk=>by
  rw [List.mem_cons,not_or] at hk;simp only [List.map_cons,List.cons_append,lookB];cases hb:Nat.beq i k with
  |true=>exact absurd (Nat.eq_of_beq_eq_true hb).symm hk.1
  |false=>exact lookB_rest hk.2
end
theorem ACall.frame {P:Program} {base f b n m nv:Nat} {vas vas1:List Va} (ids:List Nat) {ts:List (Nat×Tm)} {h h1:List (Nat×Blk)} {K K1:Tm->St->Prop}
 (hi:idsOk 0 ids=true) (hh:heapLe ids nv h h1) (hv:vasLe ids nv vas vas1) (hb:Nat.ble b ids.length=true) (hid:idsBelow h n=true) (hlt:(ids.all fun k=>Nat.blt k n)=true) (hlive:(ids.all fun k=>liveB (lookB h k))=true)
 (hk:ACall P b f vas1 ⟨[],h1,ids.length+nv,0⟩ K1)
 (hK: ∀r ts1 h1' n1' l1,K1 r ⟨ts1,h1',n1',l1⟩->K (fmT (backN ids b n) r) ⟨ts,backH (backN ids b n) h1' ids h,n+(n1'-b),m⟩):ACall P base f vas ⟨ts,h,n,m⟩ K:=by
 refine ⟨fun ψ S w a vals hrel hvals=> ?_⟩
 have hb:=Nat.le_of_ble_eq_true hb
 have hrel0:Rel P 0 ψ S w ⟨[],h,n,0⟩ {tmps:= #[],defers:= []}:=⟨Nat.zero_le _,hrel.sim,rfl,rfl,fun t=>trivial⟩
 have hle:leSt 0 ids nv ⟨[],h,n,0⟩ ⟨[],h1,ids.length+nv,0⟩:=⟨rfl,rfl,hi,trivial,hh⟩
 obtain ⟨hr1,_⟩:=Rel.le hle hrel0
 have hr1b:Rel P b (psiRen ψ ids nv) S w ⟨[],h1,ids.length+nv,0⟩ {tmps:= #[],defers:= []}:=⟨by show b<=ids.length+nv;omega,hr1.sim,hr1.lim,hr1.defers,hr1.tmps⟩
 refine (hk.run _ S w _ vals hr1b (vasLe_rep hv hvals)).mono ?_
 rintro e w' ⟨r,⟨ts1,h1',n1',l1⟩,v,ψ1,S',rfl,hK1,hr',hrt,he⟩
 obtain ⟨_,_,i3⟩:=idsOk_spec hi
 have hdom: ∀k l,ψ k=some l->k<n:=fun k l hk=>by
  rcases Nat.lt_or_ge k n with h1|h1
  . exact h1
  . have:=hrel.sim.dom k h1
    rw [hk] at this;cases this
 have hltn: ∀k,k∈ids->k<n:=fun k hk=>by have:=List.all_eq_true.1 hlt k hk;simpa [Nat.blt_eq] using this
 have hlv: ∀k,k∈ids->(lookB h k).live:=fun k hk=>live_of (List.all_eq_true.1 hlive k hk)
 obtain ⟨ρ,hρ⟩: ∃ρ,ρ=backN ids b n:=⟨_,rfl⟩
 have r1: ∀j,j<b->ids[j]? =some (ρ j):=fun j hj=>by
  have h2:Nat.blt j b=true:=by rw [Nat.blt_eq];exact hj
  rw [hρ];unfold backN;rw [h2,List.getD_eq_getElem?_getD,List.getElem?_eq_getElem (by omega)];rfl
 have r2: ∀j,b<=j->ρ j=n+(j-b):=fun j hj=>by
  have h2:Nat.blt j b=false:=by
   cases hq:Nat.blt j b with
   |false=>rfl
   |true=>rw [Nat.blt_eq] at hq;omega
  rw [hρ];unfold backN;rw [h2]
 have r3: ∀j,j<b->ρ j<n:=fun j hj=>hltn _ (List.mem_of_getElem? (r1 j hj))
 have rinj: ∀i j,ρ i=ρ j->i=j:=fun i j e=>by
  rcases Nat.lt_or_ge i b with h1|h1
  . rcases Nat.lt_or_ge j b with h2|h2
    . exact i3 i j _ (r1 i h1) (e▸r1 j h2)
    . have:=r3 i h1;have:=r2 j h2;omega
  . rcases Nat.lt_or_ge j b with h2|h2
    . have:=r3 j h2;have:=r2 i h1;omega
    . have:=r2 i h1;have:=r2 j h2;omega
 obtain ⟨ψ2,hψ2⟩: ∃ψ2:Psi,ψ2=fun k=>if k<n then ψ k else ψ1 (b+(k-n)):=⟨_,rfl⟩
 have p1: ∀k,k<n->ψ2 k=ψ k:=fun k hk=>by rw [hψ2];exact if_pos hk
 have p2: ∀k,n<=k->ψ2 k=ψ1 (b+(k-n)):=fun k hk=>by rw [hψ2];exact if_neg (by omega)
 have pρ: ∀j,ψ2 (ρ j)=ψ1 j:=fun j=>by
  rcases Nat.lt_or_ge j b with h1|h1
  . rw [p1 _ (r3 j h1),he.agr j h1,psiRen_some (r1 j h1)]
  . rw [r2 j h1,p2 _ (by omega)];congr 1;omega
 have sub:PsiSub ψ ψ2:=fun k l hk=>by rw [p1 k (hdom k l hk)];exact hk
 have hren: ∀j l,ψ1 j=some l->ψ2 (ρ j)=some l:=fun j l hj=>by rw [pρ];exact hj
 have old1: ∀k1 b0 m0,psiRen ψ ids nv k1=some (.at b0 m0)-> ∃k2,ids[k1]? =some k2/\ ψ k2=some (.at b0 m0):=fun k1 b0 m0 hk=>by
  unfold psiRen at hk;split at hk
  . rename_i k2 e;exact ⟨k2,e,hk⟩
  . split at hk<;>cases hk
 have alias: ∀k b0 m0,k∉ids->ψ k=some (.at b0 m0)->(lookB h k).live-> ∀k1 m1,psiRen ψ ids nv k1≠some (.at b0 m1):=fun k b0 m0 hn hk hl k1 m1 h1=>by
  obtain ⟨k2,e,h2⟩:=old1 _ _ _ h1
  have hm:=List.mem_of_getElem? e
  have:=hrel.sim.inj k k2 b0 m0 m1 hk h2 hl (hlv _ hm)
  exact hn (this▸hm)
 have cls: ∀k,(∃j,k=ρ j/\ lookB (backH ρ h1' ids h) k=fmB ρ (lookB h1' j)) \/lookB (backH ρ h1' ids h) k= .gone \/(k<n/\ k∉ids/\ lookB (backH ρ h1' ids h) k=lookB h k):=fun k=>by
  unfold backH;cases ha:((h1'.map fun p=>(ρ p.1,fmB ρ p.2)).any fun p=>Nat.beq p.1 k) with
  |true=>
   obtain ⟨j,rfl⟩:=any_fm ha
   exact .inl ⟨j,rfl,by rw [lookB_hit ha,lookB_fm rinj]⟩
  |false=>
   rw [lookB_miss ha];by_cases hm:k∈ids
   . exact .inr (.inl (lookB_gone hm))
   . rw [lookB_rest hm];rcases Nat.lt_or_ge k n with h1|h1
     . exact .inr (.inr ⟨h1,hm,rfl⟩)
     . exact .inr (.inl (idsBelow_look hid h1))
 have keep: ∀k b0 m0,k∉ids->ψ k=some (.at b0 m0)->(lookB h k).live->w'.heap[b0]? =w.heap[b0]? :=fun k b0 m0 hn hk hl=>he.old b0 (hrel.sim.pdom k b0 m0 hk) (alias k b0 m0 hn hk hl)
 have hsim:Sim P ψ2 S' w' (backH ρ h1' ids h) (n+(n1'-b)):=by
  refine ⟨fun k hk=> ?_,fun k l hk=> ?_,fun k k' b0 m0 m1 e1 e2 l1 l2=> ?_,fun k b0 m0 e1 l1=> ?_,fun k b0 m0 e1=> ?_,hr'.sim.sdom⟩
  . rw [p2 k (by omega)];exact hr'.sim.dom _ (by show n1'<=_;omega)
  . rcases cls k with ⟨j,rfl,g⟩|g|⟨g1,g2,g⟩
    . rw [g];rw [pρ] at hk
      exact fmB_rep hren (hr'.sim.blk j l hk)
    . rw [g];cases l<;>trivial
    . rw [g];rw [p1 k g1] at hk
      have hbr:=hrel.sim.blk k l hk
      cases hlk:lookB h k with
      |gone=>cases l<;>trivial
      |cells cs=>rw [hlk] at hbr;exact hbr.later sub he.later fun b0 m0 e=>by subst e;exact keep k b0 m0 g2 hk (by rw [hlk];trivial)
      |row sz n f=>rw [hlk] at hbr;exact hbr.later sub he.later fun b0 m0 e=>by subst e;exact keep k b0 m0 g2 hk (by rw [hlk];trivial)
      |it s p=>rw [hlk] at hbr;exact hbr.later sub he.later fun b0 m0 e=>by subst e;exact keep k b0 m0 g2 hk (by rw [hlk];trivial)
      |fz cs=>rw [hlk] at hbr;exact hbr.later sub he.later fun b0 m0 e=>by subst e;exact he.later.2 _ hbr.1
      |fzr sz n f=>rw [hlk] at hbr;exact hbr.later sub he.later fun b0 m0 e=>by subst e;exact he.later.2 _ hbr.1
  . rcases cls k with ⟨j,rfl,g⟩|g|⟨g1,g2,g⟩
    . rw [g] at l1;rw [pρ] at e1
      rcases cls k' with ⟨j',rfl,g'⟩|g'|⟨g1',g2',g'⟩
      . rw [g'] at l2;rw [pρ] at e2
        rw [hr'.sim.inj j j' b0 m0 m1 e1 e2 (live_fm l1) (live_fm l2)]
      . rw [g'] at l2;exact l2.elim
      . rw [g'] at l2;rw [p1 _ g1'] at e2
        rcases he.newP j b0 m0 e1 with ⟨k1,m2,h2⟩|h2
        . exact absurd h2 (alias k' b0 m1 g2' e2 l2 k1 m2)
        . have:=hrel.sim.pdom k' b0 m1 e2;omega
    . rw [g] at l1;exact l1.elim
    . rw [g] at l1;rw [p1 _ g1] at e1
      rcases cls k' with ⟨j',rfl,g'⟩|g'|⟨g1',g2',g'⟩
      . rw [pρ] at e2;rcases he.newP j' b0 m1 e2 with ⟨k1,m2,h2⟩|h2
        . exact absurd h2 (alias k b0 m0 g2 e1 l1 k1 m2)
        . have:=hrel.sim.pdom k b0 m0 e1;omega
      . rw [g'] at l2;exact l2.elim
      . rw [g'] at l2;rw [p1 _ g1'] at e2
        exact hrel.sim.inj k k' b0 m0 m1 e1 e2 l1 l2
  . rcases cls k with ⟨j,rfl,g⟩|g|⟨g1,g2,g⟩
    . rw [g] at l1;rw [pρ] at e1
      exact hr'.sim.dis j b0 m0 e1 (live_fm l1)
    . rw [g] at l1;exact l1.elim
    . rw [g] at l1;rw [p1 _ g1] at e1
      intro hS;rcases he.newS b0 hS with h2|⟨k1,m2,h2⟩|h2
      . exact hrel.sim.dis k b0 m0 e1 l1 h2
      . exact alias k b0 m0 g2 e1 l1 k1 m2 h2
      . have:=hrel.sim.pdom k b0 m0 e1;omega
  . rcases Nat.lt_or_ge k n with h2|h2
    . rw [p1 k h2] at e1;exact Nat.lt_of_lt_of_le (hrel.sim.pdom k b0 m0 e1) he.grow
    . rw [p2 k h2] at e1;exact hr'.sim.pdom _ b0 m0 e1
 refine ⟨fmT ρ r,⟨ts,backH ρ h1' ids h,n+(n1'-b),m⟩,v,ψ2,S',rfl,by rw [hρ];exact hK _ _ _ _ _ hK1,⟨?_,hsim,hrel.lim,hrel.defers,fun t=>(hrel.tmps t).later sub he.later⟩,fmT_rep hren hrt, ?_⟩
 . exact Nat.le_trans hrel.bas (Nat.le_add_right _ _)
 . refine ⟨he.os,he.tape,he.output,he.grow,fun b0 hb0 hn=>he.old b0 hb0 fun k m0 h2=> ?_,he.later,fun b0 hS=> ?_,fun k b0 m0 h2=> ?_,fun k hk=>p1 k (Nat.lt_of_lt_of_le hk hrel.bas)⟩
   . obtain ⟨k2,_,h3⟩:=old1 _ _ _ h2
     exact hn k2 m0 h3
   . rcases he.newS b0 hS with h2|⟨k1,m2,h2⟩|h2
     . exact .inl h2
     . obtain ⟨k2,_,h3⟩:=old1 _ _ _ h2
       exact .inr (.inl ⟨k2,m2,h3⟩)
     . exact .inr (.inr h2)
   . rcases Nat.lt_or_ge k n with h3|h3
     . rw [p1 k h3] at h2;exact .inl ⟨k,m0,h2⟩
     . rw [p2 k h3] at h2;rcases he.newP _ b0 m0 h2 with ⟨k1,m2,h4⟩|h4
       . obtain ⟨k2,_,h5⟩:=old1 _ _ _ h4
         exact .inl ⟨k2,m2,h5⟩
       . exact .inr h4
end Go.Sx
namespace Go.Sx
theorem ACall.le {P:Program} {base f:Nat} {vas:List Va} {st:St} {K K1:Tm->St->Prop} (hk:ACall P base f vas st K1)
 (hK: ∀r st',K1 r st'-> ∃ids nv r2 st2,leSt base ids nv st' st2/\ tmLe ids nv r r2/\ K r2 st2):ACall P base f vas st K:=by
 refine ⟨fun ψ S w a vals hrel hv=>(hk.run ψ S w a vals hrel hv).mono ?_⟩
 rintro e w' ⟨r,st',v,ψ',S',rfl,h1,hr,hrt,he⟩
 obtain ⟨ids,nv,r2,st2,hle,ht,hK2⟩:=hK r st' h1
 obtain ⟨hr2,he2⟩:=Rel.le hle hr
 exact ⟨r2,st2,v,_,S',rfl,hK2,hr2,tmLe_rep ht hrt,he.trans he2⟩
def mIds (c:Nat):List Blk->List Nat
 | [.cells cs]=>match cs.getD c .top with
   | .osl k _ _ _=> [0,k]
   |_=> [0]
 |_=> [0]
def MK (c:Nat) (R:Tm) (hN:List (Nat×Blk)):Tm->St->Prop:=fun r st=>rdBs st [0] fun bs=>leSt 1 (mIds c bs) (2-(mIds c bs).length) st ⟨[],hN,2,0⟩/\ tmLe (mIds c bs) (2-(mIds c bs).length) r R
def Meth (P:Program) (f:Nat) (vas:List Va) (h:List (Nat×Blk)) (R:Tm) (hN:List (Nat×Blk)):Prop:=ACall P 1 f vas ⟨[],h,2,0⟩ (fun r st=>r=R/\ st=⟨[],hN,2,0⟩)
theorem meth_of {P:Program} {f c:Nat} {vas:List Va} {R:Tm} {h hN:List (Nat×Blk)} (hk:ACall P 1 f vas ⟨[],h,2,0⟩ (MK c R hN)):Meth P f vas h R hN:=by
 refine ACall.le hk fun r st h1=> ?_
 unfold MK at h1;rw [rdBs_eq] at h1;exact ⟨_,_,_,_,h1.1,h1.2,rfl,rfl⟩
theorem Meth.use {P:Program} {base f n m nv:Nat} {vas vas1:List Va} (ids:List Nat) {ts:List (Nat×Tm)} {h h1 hN:List (Nat×Blk)} {R:Tm} {K:Tm->St->Prop}
 (hk:Meth P f vas1 h1 R hN) (hn:ids.length+nv=2) (hi:idsOk 0 ids=true) (hb:Nat.ble 1 ids.length=true) (hid:idsBelow h n=true) (hlt:(ids.all fun k=>Nat.blt k n)=true) (hlive:(ids.all fun k=>liveB (lookB h k))=true)
 (hh:heapLe ids nv h h1) (hv:vasLe ids nv vas vas1)
 (hK:K (fmT (backN ids 1 n) R) ⟨ts,backH (backN ids 1 n) hN ids h,n+1,m⟩):ACall P base f vas ⟨ts,h,n,m⟩ K:=by
 unfold Meth at hk;rw [<-hn] at hk;refine ACall.frame ids hi hh hv hb hid hlt hlive hk ?_
 rintro r ts1 h1' n1' l1 ⟨rfl,e⟩
 cases e;rw [hn];exact hK
theorem Meth.arg {P:Program} {f:Nat} {vas vas1:List Va} {h hN:List (Nat×Blk)} {R:Tm} (hk:Meth P f vas1 h R hN) (hv:vasLe [0,1] 0 vas vas1):Meth P f vas h R hN:=by
 refine ⟨fun ψ S w a vals hr hvals=>hk.run ψ S w a vals hr ?_⟩
 have h2:=vasLe_rep hv hvals
 have e:psiRen ψ [0,1] 0=ψ:=by
  funext j
  match j with
  |0=>rfl
  |1=>rfl
  |j+2=>
   have:=hr.sim.dom (j+2) (by show 2<=_;omega)
   rw [this];simp [psiRen]
 rw [e] at h2;exact h2
theorem Meth.go {P:Program} {base f n m:Nat} {vas vas1:List Va} (c:Nat) {ts:List (Nat×Tm)} {h h1 hN:List (Nat×Blk)} {R:Tm} {K:Tm->St->Prop}
 (hk:Meth P f vas1 h1 R hN) (hn:(mIds c [lookB h 0]).length+(2-(mIds c [lookB h 0]).length)=2) (hi:idsOk 0 (mIds c [lookB h 0])=true) (hb:Nat.ble 1 (mIds c [lookB h 0]).length=true) (hid:idsBelow h n=true) (hlt:((mIds c [lookB h 0]).all fun k=>Nat.blt k n)=true) (hlive:((mIds c [lookB h 0]).all fun k=>liveB (lookB h k))=true)
 (hh:heapLe (mIds c [lookB h 0]) (2-(mIds c [lookB h 0]).length) h h1) (hv:vasLe (mIds c [lookB h 0]) (2-(mIds c [lookB h 0]).length) vas vas1)
 (hK:K (fmT (backN (mIds c [lookB h 0]) 1 n) R) ⟨ts,backH (backN (mIds c [lookB h 0]) 1 n) hN (mIds c [lookB h 0]) h,n+1,m⟩):ACall P base f vas ⟨ts,h,n,m⟩ K:=
 hk.use _ hn hi hb hid hlt hlive hh hv hK
def lIds (c:Nat) (k1 k2:List Nat):List Blk->List Nat
 | [.cells cs]=>match cs.getD c .top with
   | .osl r _ _ _=>k1++r::k2
   |_=> []
 |_=> []
def LoopB {X:Type} (base:Nat) (I:X->St) (μ:X->Nat) (Inv:X->Prop) (ts hs:List Nat) (nx:X->List Tm->List Blk->X) (ids:List Blk->List Nat) (nv:Nat) (Q:Exit->St->Prop) (x:X):Exit->St->Prop
 | .normal,st=>rdTs st ts fun xs=>rdBs st hs fun bs=>Inv (nx x xs bs)/\ μ (nx x xs bs)<μ x/\ leSt base (ids bs) nv st (I (nx x xs bs))
 | .exit i,st=>Q (.exit i) st
 | .goto i,st=>Q (.goto i) st
 | .ret,st=>Q .ret st
 |_,_=>False
theorem loop_idb {P:Program} {t:TT} (ht:t.ok P) {l:List (Nat×Sm)} (hl:sumsOk P l) (hmix:P.follows .mixedOrders=true) {base:Nat} {c:Code} {Q:Exit->St->Prop} {st:St} {X:Type}
 (I:X->St) (μ:X->Nat) (Inv:X->Prop) (ts hs:List Nat) (nx:X->List Tm->List Blk->X) (ids:List Blk->List Nat) (ids':List Nat) (nv nv':Nat) (x0:X) (h0:Inv x0) (hst:leSt base ids' nv' st (I x0))
 (round: ∀x,Inv x->vc P t.get (sums l) (vcCall P (sums l) base) base c (I x) (LoopB base I μ Inv ts hs nx ids nv Q x)):ASat P base (.loop c) st Q:=by
 refine ASat.le ids' nv' hst (ASat.loop I μ Inv (fun x hx=> ?_) x0 h0)
 refine (vc_ok (TT.tysOk ht) (TT.zeros ht) (sums_ok hl) hmix (vcCall_ok (sums_ok hl) base) c _ _ (round x hx)).mono ?_
 intro e st' h
 cases e with
 |normal=>
  simp only [LoopB,rdTs_eq,rdBs_eq] at h;exact ⟨_,h.1,h.2.1,_,nv,h.2.2⟩
 |exit i=>exact h
 |goto i=>exact h
 |ret=>exact h
 |panic _=>exact h.elim
 |outgrown=>exact h.elim
theorem acall_sum {P:Program} {base f:Nat} {vas:List Va} {st:St} {K:Tm->St->Prop} {l:List (Nat×Sm)} (hl:sumsOk P l) (h:vcCall P (sums l) base f vas st K):ACall P base f vas st K:=⟨fun ψ S w a vals hr hv=>vcCall_ok (sums_ok hl) base f vas st K h ψ S w a vals hr hv⟩
end Go.Sx
namespace Go.Sx
def drawOk2 (all:List Oper) (m:Nat):Bool:=
 let b:=cloGo all []
 (List.range all.length).all fun i=>
  match all[i]? with
  |none=>false
  |some o=>o.after.toList.all (fun e=> !Region.binds .any e||decide (e.on<i))&&
   (List.range i).all fun j=>(b.getD i 0).testBit j||decide (m<=j)||(decide (i<m)&&match all[j]? with
    |some x=> !clash all x o
    |none=>false)
theorem drawOk2_spec {ops:Array Oper} {m:Nat} (h:drawOk2 ops.toList m=true):
 (∀i o,ops[i]? =some o-> ∀e∈o.after.toList,Region.binds .any e=true->e.on<i)/\
 ∀i j x o,ops[i]? =some o->ops[j]? =some x->j<i->j<m->Cl ops i j \/(i<m/\ clash ops.toList x o=false):=by
 simp only [drawOk2,List.all_eq_true,List.mem_range,Array.length_toList] at h;have hcl:=cloGo_spec ops ops.toList [] (fun i o ho=>by simpa using ho) (fun i j h=>by simp at h)
 refine ⟨?_, ?_⟩
 . intro i o ho e he hb;have hi:i<ops.size:=(Array.getElem?_eq_some_iff.1 ho).1
   have:=h i hi
   simp only [Array.getElem?_toList,ho,Bool.and_eq_true,List.all_eq_true] at this;have:=this.1 e he
   simpa [hb] using this
 . intro i j x o ho hx hj hjm;have hi:i<ops.size:=(Array.getElem?_eq_some_iff.1 ho).1
   have:=h i hi
   simp only [Array.getElem?_toList,ho,Bool.and_eq_true,List.all_eq_true] at this;have:=this.2 j (by simpa using hj)
   simp only [hx,Bool.or_eq_true,Bool.and_eq_true,decide_eq_true_eq,Bool.not_eq_true'] at this;rcases this with (h1|h1)|h1
   . exact .inl (hcl i j h1)
   . omega
   . exact .inr h1
def normH (h:List (Nat×Blk)):Nat->List (Nat×Blk)->List (Nat×Blk)
 |0,acc=>acc
 |k+1,acc=>match lookB h k with
  | .gone=>normH h k acc
  |b=>normH h k ((k,b)::acc)
def norm (live:List Nat):St->St
 |⟨ts,h,n,m⟩=>⟨live.map fun t=>(t,lookT ts t),normH h n [],n,m⟩
def normTs (ts:List (Nat×Tm)):List Nat->(List (Nat×Tm)->Prop)->Prop
 | [],K=>K []
 |t::l,K=>fT (lookT ts t) fun x=>normTs ts l fun r=>K ((t,x)::r)
def normHs (h:List (Nat×Blk)):Nat->List (Nat×Blk)->(List (Nat×Blk)->Prop)->Prop
 |0,acc,K=>K acc
 |k+1,acc,K=>fB (lookB h k) fun b=>match b with
  | .gone=>normHs h k acc K
  | .cells cs=>normHs h k ((k,.cells cs)::acc) K
  | .row a b c=>normHs h k ((k,.row a b c)::acc) K
  | .fz cs=>normHs h k ((k,.fz cs)::acc) K
  | .fzr a b c=>normHs h k ((k,.fzr a b c)::acc) K
  | .it a b=>normHs h k ((k,.it a b)::acc) K
def normK (live:List Nat) (st:St) (K:St->Prop):Prop:=match st with
 |⟨ts,h,n,m⟩=>normTs ts live fun ts'=>normHs h n [] fun h'=>K ⟨ts',h',n,m⟩
theorem normTs_eq (ts:List (Nat×Tm)): ∀(l:List Nat) (K:List (Nat×Tm)->Prop),normTs ts l K=K (l.map fun t=>(t,lookT ts t))
 | [],K=>rfl
 |t::l,K=>by simp only [normTs,fT_eq,normTs_eq ts l,List.map_cons]
theorem normHs_eq (h:List (Nat×Blk)): ∀(n:Nat) (acc:List (Nat×Blk)) (K:List (Nat×Blk)->Prop),normHs h n acc K=K (normH h n acc)
 |0,acc,K=>rfl
 |k+1,acc,K=>by
  simp only [normHs,normH,fB_eq];cases lookB h k<;>simp only [normHs_eq h k]
theorem normK_eq (live:List Nat) (st:St) (K:St->Prop):normK live st K=K (norm live st):=by
 obtain ⟨ts,h,n,m⟩:=st
 simp only [normK,norm,normTs_eq,normHs_eq]
theorem lookT_live (ts:List (Nat×Tm)) (t:Nat): ∀(l:List Nat),lookT (l.map fun t=>(t,lookT ts t)) t=lookT ts t \/lookT (l.map fun t=>(t,lookT ts t)) t=topT
 | []=> .inr rfl
 |u::l=>by
  simp only [List.map_cons,lookT];cases hu:Nat.beq u t with
  |true=>left;rw [Nat.eq_of_beq_eq_true hu]
  |false=>exact lookT_live ts t l
theorem lookB_normH (h:List (Nat×Blk)) (k:Nat): ∀(n:Nat) (acc:List (Nat×Blk)),(k<n->lookB h k≠ .gone->lookB (normH h n acc) k=lookB h k)/\ (n<=k \/lookB h k= .gone->lookB (normH h n acc) k=lookB acc k)
 |0,acc=>⟨fun h=>absurd h (Nat.not_lt_zero k),fun _=>rfl⟩
 |n+1,acc=>by
  simp only [normH];split
  . rename_i hg
    obtain ⟨h1,h2⟩:=lookB_normH h k n acc
    refine ⟨fun hk hn=>h1 ?_ hn,fun hk=>h2 ?_⟩
    . rcases Nat.lt_succ_iff_lt_or_eq.1 hk with h|h
      . exact h
      . subst h;exact absurd hg hn
    . rcases hk with hk|hk
      . exact .inl (by omega)
      . exact .inr hk
  . rename_i hg
    obtain ⟨h1,h2⟩:=lookB_normH h k n ((n,lookB h n)::acc)
    refine ⟨fun hk hn=> ?_,fun hk=> ?_⟩
    . rcases Nat.lt_succ_iff_lt_or_eq.1 hk with h|h
      . exact h1 h hn
      . subst h;rw [h2 (.inl (Nat.le_refl _)),lookB_cons,if_pos rfl]
    . rcases hk with hk|hk
      . rw [h2 (.inl (by omega)),lookB_cons,if_neg (by omega)]
      . rw [h2 (.inr hk),lookB_cons,if_neg (fun e=>by subst e;exact hg hk)]
section
variable {P:Program} {τ:Tys} {Γ:Sums} {base:Nat} {ψ ψ':Psi} {S S':Nat→Prop} {w w':World} {a:Act} {st:St}
theorem Rel.norm (live:List Nat) (hr:Rel P base ψ S w st a):Rel P base ψ S w (norm live st) a:=by
 obtain ⟨ts,h,n,m⟩:=st
 have hl: ∀k l,ψ k=some l->lookB (normH h n []) k=lookB h k:=by
  intro k l hk;have hk2:k<n:=by
   rcases Nat.lt_or_ge k n with h1|h1
   . exact h1
   . have:=hr.sim.dom k h1;rw [hk] at this;cases this
  by_cases c:lookB h k= .gone
  . rw [(lookB_normH h k n []).2 (.inr c),c];rfl
  . exact (lookB_normH h k n []).1 hk2 c
 have hs:=hr.sim
 refine ⟨hr.bas,⟨hs.dom,fun k l hk=> ?_,fun k k' b m1 m2 e1 e2 l1 l2=> ?_,fun k b m1 e1 l1=> ?_,hs.pdom,hs.sdom⟩,hr.lim,hr.defers,fun t=> ?_⟩
 . show BlkRep P ψ S w (lookB (normH h n []) k) l
   rw [hl k l hk];exact hs.blk k l hk
 . rw [show lookB (norm live ⟨ts,h,n,m⟩).heap k=lookB h k from hl k _ e1] at l1;rw [show lookB (norm live ⟨ts,h,n,m⟩).heap k'=lookB h k' from hl k' _ e2] at l2;exact hs.inj k k' b m1 m2 e1 e2 l1 l2
 . rw [show lookB (norm live ⟨ts,h,n,m⟩).heap k=lookB h k from hl k _ e1] at l1;exact hs.dis k b m1 e1 l1
 . show RepT P ψ S w (lookT (live.map fun t=>(t,lookT ts t)) t) _
   rcases lookT_live ts t live with e|e
   . rw [e];exact hr.tmps t
   . rw [e];trivial
theorem tail_intro {F G:St->Prop} {s:St} (h1:F s) (h2:G s): ∃s,F s/\ G s:=⟨s,h1,h2⟩
end
theorem draw_cut {P:Program} {t:TT} (ht:t.ok P) {l:List (Nat×Sm)} (hl:sumsOk P l) (hmix:P.follows .mixedOrders=true) {base:Nat} {ops:Array Oper} {id:Nat} {st:St} {Q:Exit->St->Prop} (p:Plan) (live:List Nat)
 (hp:(Region.noSelect ops&&planOk ops ops.size (Array.replicate ops.size false) p)=true)
 (hk: ∃s,vcP P t.get (vcCall P (sums l) base) ops.toList p st (fun st'=>normK live st' fun s'=>s'=s)/\ Q .normal s):ASat P base (.region id ops true) st Q:=by
 obtain ⟨s,hv,hs⟩:=hk
 have h:ASat P base (.region id ops true) st (fun e st'=>e= .normal/\ norm live st'=s):=by
  refine draw_plan ht hl hmix p hp ?_
  have e:(fun st'=>normK live st' fun s'=>s'=s)=fun st'=>Exit.normal= .normal/\ norm live st'=s:=by
   funext st';rw [normK_eq];simp
  rw [<-e];exact hv
 refine ⟨fun ψ S w a hr=>wp_mono (h.run ψ S w a hr) ?_⟩
 rintro e a' w' ⟨st',ψ',S',⟨rfl,h1⟩,h2,h3⟩
 exact ⟨s,ψ',S',hs,by rw [<-h1];exact h2.norm live,h3⟩
end Go.Sx
