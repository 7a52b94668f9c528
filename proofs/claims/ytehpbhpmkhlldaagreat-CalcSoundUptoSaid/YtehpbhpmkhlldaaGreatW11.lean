/- Meets of values: plain laws. No program in sight. -/
import Derived.Test.YtehpbhpmkhlldaaGreatW10
set_option linter.all false
set_option maxHeartbeats 8000000
set_option maxRecDepth 100000
namespace Go.Proofs.YtehpbhpmkhlldaaGreat
open Go.Sx
theorem cop_dvd {m a z:Int} (hg:Int.gcd a m=1) (h:m∣a*z):m∣z:=by
 rw [<-Int.natAbs_dvd_natAbs] at h⊢
 rw [Int.natAbs_mul] at h
 exact Nat.Coprime.dvd_of_dvd_mul_left (by unfold Nat.Coprime;rw [Nat.gcd_comm];exact hg) h
def invOk (a m y:Int):Prop:=(0<=y/\ y<m)/\ (a*y)%m=1%m
def invI (a m:Int):Int:=(((List.range m.toNat).find? fun y:Nat=>decide ((a*(y:Int))%m=1%m)).getD 0:Nat)
theorem inv_unique {a m y z:Int} (hg:Int.gcd a m=1) (hy:invOk a m y) (hz:invOk a m z):y=z:=by
 have h1:(a*y)%m=(a*z)%m:=hy.2.trans hz.2.symm
 rw [Int.emod_eq_emod_iff_emod_sub_eq_zero] at h1
 have h2:m∣a*(y-z):=by rw [Int.mul_sub];exact Int.dvd_of_emod_eq_zero h1
 obtain ⟨t,ht⟩:=cop_dvd hg h2
 have h3:=hy.1;have h4:=hz.1
 have:t=0:=by
  rcases Int.lt_trichotomy t 0 with h|h|h
  . have:m*t<=m*(-1):=Int.mul_le_mul_of_nonneg_left (by omega) (by omega)
    omega
  . exact h
  . have:m*1<=m*t:=Int.mul_le_mul_of_nonneg_left (by omega) (by omega)
    omega
 subst this;omega
theorem invI_eq {a m y:Int} (hg:Int.gcd a m=1) (h:invOk a m y):invI a m=y:=by
 obtain ⟨⟨h0,h1⟩,h2⟩:=h
 obtain ⟨n,rfl⟩:=Int.eq_ofNat_of_zero_le h0
 unfold invI
 cases hf:(List.range m.toNat).find? fun y:Nat=>decide ((a*(y:Int))%m=1%m) with
 |none=>
  have:=List.find?_eq_none.1 hf n (List.mem_range.2 (by omega))
  exact absurd h2 (by simpa using this)
 |some z=>
  have h3:=List.find?_some hf
  have h4:=List.mem_range.1 (List.mem_of_find?_eq_some hf)
  exact inv_unique hg ⟨by dsimp only [Option.getD];omega,by simpa using h3⟩ ⟨⟨h0,h1⟩,h2⟩
theorem inv_step {a m r s x y:Int} (h1:m∣x*a-r) (h2:m∣y*a-s):
 m∣((y+m-s/r%m*x%m)%m)*a-s%r:=by
 have e1:s%r=s-s/r*r:=by have:=Int.mul_ediv_add_emod s r;rw [Int.mul_comm] at this;omega
 have e2:((y+m-s/r%m*x%m)%m-(y-s/r*x))%m=0:=by
  rw [Int.emod_sub_emod, <-Int.emod_eq_emod_iff_emod_sub_eq_zero]
  have e3:s/r%m*x%m=s/r*x%m:=by rw [Int.mul_emod,Int.emod_emod_of_dvd _ (Int.dvd_refl m), <-Int.mul_emod]
  rw [e3]
  have e4:y+m-s/r*x%m=(y-s/r*x%m)+m:=by omega
  rw [e4,Int.add_emod_right,Int.sub_emod_emod]
 have e5:=Int.dvd_of_emod_eq_zero e2
 obtain ⟨p,hp⟩:=h1
 obtain ⟨q,hq⟩:=h2
 obtain ⟨t,ht⟩:=e5
 refine ⟨t*a+q-s/r*p, ?_⟩
 generalize (y+m-s/r%m*x%m)%m=n at*
 generalize s/r=k at*
 rw [e1]
 have:n=y-k*x+m*t:=by omega
 subst this
 have hp':x*a=r+m*p:=by omega
 have hq':y*a=s+m*q:=by omega
 grind
theorem inv_end {a m y s:Int} (hs:s=1) (h0:0<=y/\ y<m) (h:m∣y*a-s):invOk a m y:=by
 subst hs
 refine ⟨h0, ?_⟩
 rw [Int.emod_eq_emod_iff_emod_sub_eq_zero,Int.mul_comm]
 exact Int.emod_eq_zero_of_dvd h
theorem inv_ex {a m:Int}: ∀(r:Nat) (s x y:Int),m∣x*a-r->m∣y*a-s->0<s->Int.gcd r s=1-> ∃y,m∣y*a-1
 |r,s,x,y,h1,h2,hs,hg=>by
  rcases Nat.eq_zero_or_pos r with h|h
  . subst h
    have e:Int.gcd ((0:Nat):Int) s=s.natAbs:=Int.zero_gcd
    rw [e] at hg
    exact ⟨y,by have:s=1:=by omega
                rw [<-this];exact h2⟩
  . have hr:(0:Int)<r:=by omega
    have hb:=Int.emod_nonneg s (show (r:Int)≠0 by omega)
    have hl:=Int.emod_lt_of_pos s hr
    have e:((s%r).toNat:Int)=s%r:=Int.toNat_of_nonneg hb
    refine inv_ex (s%r).toNat r _ x (by rw [e];exact inv_step h1 h2) h1 hr ?_
    rw [e]
    obtain ⟨n,rfl⟩:=Int.eq_ofNat_of_zero_le (Int.le_of_lt hs)
    rw [<-Int.natCast_emod,Int.gcd_natCast_natCast, <-Nat.gcd_rec]
    rwa [Int.gcd_natCast_natCast] at hg
termination_by r=>r
theorem gcd_quot {M N:Int} (hM:0<M):Int.gcd (M/(Int.gcd M N:Int)) (N/(Int.gcd M N:Int))=1:=by
 have h:=Int.gcd_ediv_gcd_ediv_gcd (i:=M) (j:=N) (Int.gcd_pos_of_ne_zero_left _ (by omega))
 exact h
section
variable {M N R S:Int} (hM:0<M) (hN:0<N)
def stepI (M N R S:Int):Int:=((S-R)%N/(Int.gcd M N:Int))%(N/(Int.gcd M N:Int))*invI (M/(Int.gcd M N:Int)) (N/(Int.gcd M N:Int))%(N/(Int.gcd M N:Int))
include hM hN
theorem quot_pos:0<N/(Int.gcd M N:Int)/\ 0<M/(Int.gcd M N:Int)/\ 0<(Int.gcd M N:Int):=by
 have hg:0<(Int.gcd M N:Int):=by have:=Int.gcd_pos_of_ne_zero_left (a:=M) N (by omega);omega
 exact ⟨Int.ediv_pos_of_pos_of_dvd hN (by omega) (Int.gcd_dvd_right ..),Int.ediv_pos_of_pos_of_dvd hM (by omega) (Int.gcd_dvd_left ..),hg⟩
theorem step_r:0<=stepI M N R S/\ stepI M N R S<N/(Int.gcd M N:Int):=by
 have h:=quot_pos hM hN
 exact ⟨Int.emod_nonneg _ (by omega),Int.emod_lt_of_pos _ h.1⟩
theorem inv_has:invOk (M/(Int.gcd M N:Int)) (N/(Int.gcd M N:Int)) (invI (M/(Int.gcd M N:Int)) (N/(Int.gcd M N:Int))):=by
 have hp:=quot_pos hM hN
 have hg:=gcd_quot (N:=N) hM
 generalize M/(Int.gcd M N:Int)=a at*
 generalize N/(Int.gcd M N:Int)=m at*
 obtain ⟨n,rfl⟩:=Int.eq_ofNat_of_zero_le (Int.le_of_lt hp.2.1)
 obtain ⟨y,hy⟩:=inv_ex (a:=n) (m:=m) n m 1 0 (by rw [Int.one_mul,Int.sub_self];exact Int.dvd_zero m) (by rw [Int.zero_mul,Int.zero_sub];exact Int.dvd_neg.2 (Int.dvd_refl m)) hp.1 hg
 have hk:invOk n m (y%m):=by
  refine inv_end rfl ⟨Int.emod_nonneg _ (by omega),Int.emod_lt_of_pos _ hp.1⟩ ?_
  have e:y%m*n-1=(y*n-1)-m*(y/m*n):=by rw [Int.emod_def];grind
  rw [e];exact Int.dvd_sub hy (Int.dvd_mul_right ..)
 rw [invI_eq hg hk];exact hk
theorem crt (hd:(Int.gcd M N:Int)∣S-R):N∣R+M*stepI M N R S-S:=by
 have hp:=quot_pos hM hN
 have hi:=(inv_has hM hN).2
 have eM:M=(Int.gcd M N:Int)*(M/(Int.gcd M N:Int)):=(Int.mul_ediv_cancel' (Int.gcd_dvd_left ..)).symm
 have eN:N=(Int.gcd M N:Int)*(N/(Int.gcd M N:Int)):=(Int.mul_ediv_cancel' (Int.gcd_dvd_right ..)).symm
 have h1:(Int.gcd M N:Int)∣(S-R)%N:=by
  rw [Int.emod_def];exact Int.dvd_sub hd (Int.dvd_mul_of_dvd_left (Int.gcd_dvd_right ..))
 have e1:(S-R)%N=(Int.gcd M N:Int)*((S-R)%N/(Int.gcd M N:Int)):=(Int.mul_ediv_cancel' h1).symm
 have e2:N∣(S-R)%N-(S-R):=by
  refine Int.dvd_of_emod_eq_zero ?_
  rw [Int.emod_sub_emod];simp
 unfold stepI
 generalize invI (M/(Int.gcd M N:Int)) (N/(Int.gcd M N:Int))=y at*
 generalize (S-R)%N/(Int.gcd M N:Int)=d at*
 generalize M/(Int.gcd M N:Int)=a at*
 generalize N/(Int.gcd M N:Int)=m at*
 generalize (Int.gcd M N:Int)=g at*
 have e3:m∣a*(d%m*y%m)-d:=by
  refine Int.dvd_of_emod_eq_zero ?_
  rw [<-Int.emod_eq_emod_iff_emod_sub_eq_zero]
  rw [Int.mul_emod,Int.emod_emod_of_dvd _ (Int.dvd_refl m),Int.mul_emod (d%m) y,Int.emod_emod_of_dvd _ (Int.dvd_refl m), <-Int.mul_emod d y, <-Int.mul_emod]
  rw [show a*(d*y)=(a*y)*d by grind,Int.mul_emod,hi, <-Int.mul_emod,Int.one_mul]
 obtain ⟨t,ht⟩:=e3
 obtain ⟨u,hu⟩:=e2
 rw [e1] at hu
 refine ⟨t+u, ?_⟩
 generalize d%m*y%m=k at*
 have:M*k=g*(a*k):=by rw [eM,Int.mul_assoc]
 have h5:a*k=d+m*t:=by omega
 rw [this,h5]
 have:N*(t+u)=g*m*t+N*u:=by rw [Int.mul_add];congr 1;rw [<-eN]
 rw [this]
 grind
theorem lcm_dvd' {z:Int}:(M*(N/(Int.gcd M N:Int))∣z)↔(M∣z/\ N∣z):=by
 have hp:=quot_pos hM hN
 have eM:M=(Int.gcd M N:Int)*(M/(Int.gcd M N:Int)):=(Int.mul_ediv_cancel' (Int.gcd_dvd_left ..)).symm
 have eN:N=(Int.gcd M N:Int)*(N/(Int.gcd M N:Int)):=(Int.mul_ediv_cancel' (Int.gcd_dvd_right ..)).symm
 constructor
 . intro h
   refine ⟨Int.dvd_trans (Int.dvd_mul_right ..) h,Int.dvd_trans ?_ h⟩
   have:M*(N/(Int.gcd M N:Int))=N*(M/(Int.gcd M N:Int)):=by
    generalize M/(Int.gcd M N:Int)=a at*
    generalize N/(Int.gcd M N:Int)=m at*
    generalize (Int.gcd M N:Int)=g at*
    rw [eM,eN];grind
   rw [this];exact Int.dvd_mul_right ..
 . rintro ⟨⟨t,rfl⟩,h⟩
   have hq:=gcd_quot (N:=N) hM
   refine Int.mul_dvd_mul_left M ?_
   refine cop_dvd hq ?_
   generalize M/(Int.gcd M N:Int)=a at*
   generalize N/(Int.gcd M N:Int)=m at*
   generalize (Int.gcd M N:Int)=g at*
   obtain ⟨u,hu⟩:=h
   refine ⟨u, ?_⟩
   rw [eM,eN] at hu
   have:g*(a*t)=g*(m*u):=by rw [<-Int.mul_assoc, <-Int.mul_assoc];exact hu
   exact Int.eq_of_mul_eq_mul_left (by omega) this
end
theorem dvd_shift {m a b n:Int} (h:m∣a-b):(m∣n-a)↔(m∣n-b):=
 ⟨fun q=>by have:=Int.dvd_add q h;rwa [show n-a+(a-b)=n-b by omega] at this,fun q=>by have:=Int.dvd_sub q h;rwa [show n-b-(a-b)=n-a by omega] at this⟩
theorem cg_has_dvd {c:Cg} (h:c.tidy) (hs:c.some=true) (n:Int):c.has n=true↔c.m∣n-c.r:=by
 rw [has_t h hs,decide_eq_true_eq]
 rcases h with rfl|⟨_,hr⟩
 . cases hs
 . exact l3_md hr.1 hr.2
namespace Cg
abbrev gc (x y:Cg):Int:=(Int.gcd x.m y.m:Int)
abbrev lc (x y:Cg):Int:=x.m*(y.m/(Int.gcd x.m y.m:Int))
def meet0 (x y:Cg):Cg:=
 if (!x.some|| !y.some)=true then none
 else if x.m=0 then (if y.has x.r=true then x else none)
 else if y.m=0 then (if x.has y.r=true then y else none)
 else if apartI x.r y.r%gc x y=0 then
  (if wIntB (lc x y)=true then of (lc x y) (x.r+x.m*stepI x.m y.m x.r y.r) else if y.m>x.m then y else x)
 else none
def meet (a b:Cg):Cg:=meet0 a.clean b.clean
def fits (x y:Cg):Bool:= !(decide (0<x.m)&&decide (0<y.m))||wIntB (lc x y)
end Cg
theorem apart_iff {g a b:Int}:(apartI a b%g=0)↔g∣b-a:=by
 rw [<-Int.dvd_iff_emod_eq_zero]
 unfold apartI
 split
 . rw [<-Int.neg_sub,Int.dvd_neg]
 . exact Iff.rfl
theorem meet_law {x y:Cg} (hx:x.tidy) (hy:y.tidy):(Cg.meet0 x y).tidy/\ (∀n,x.has n=true->y.has n=true->(Cg.meet0 x y).has n=true)/\ (x.fits y=true-> ∀n,(Cg.meet0 x y).has n=true->x.has n=true/\ y.has n=true)/\ (x.inR->y.inR->(Cg.meet0 x y).inR):=by
 have hn: ∀n,Cg.none.has n=true->False:=fun n h=>by cases h
 have t0:Cg.none.tidy:= .inl rfl
 have i0:Cg.none.inR:=by unfold Cg.none Cg.inR;dsimp only;omega
 rcases hx with rfl|⟨hxs,hxr⟩
 . have e:Cg.meet0 Cg.none y=Cg.none:=by unfold Cg.meet0;rw [if_pos (by rfl)]
   rw [e];exact ⟨t0,fun n h=>(hn n h).elim,fun _ n h=>(hn n h).elim,fun _ _=>i0⟩
 rcases hy with rfl|⟨hys,hyr⟩
 . have e:Cg.meet0 x Cg.none=Cg.none:=by unfold Cg.meet0;rw [if_pos (by rw [hxs];rfl)]
   rw [e];exact ⟨t0,fun n _ h=>(hn n h).elim,fun _ n h=>(hn n h).elim,fun _ _=>i0⟩
 have tx:x.tidy:= .inr ⟨hxs,hxr⟩
 have ty:y.tidy:= .inr ⟨hys,hyr⟩
 have X:=cg_has_dvd tx hxs
 have Y:=cg_has_dvd ty hys
 unfold Cg.meet0
 rw [if_neg (by rw [hxs,hys];decide)]
 by_cases zx:x.m=0
 . rw [if_pos zx]
   have k: ∀n,x.has n=true->n=x.r:=fun n h=>by have:=(X n).1 h;rw [zx,Int.zero_dvd] at this;omega
   by_cases h:y.has x.r=true
   . rw [if_pos h]
     exact ⟨tx,fun n h1 _=>h1,fun _ n h1=>⟨h1,by rw [k n h1];exact h⟩,fun h _=>h⟩
   . rw [if_neg h]
     exact ⟨t0,fun n h1 h2=>absurd (by rw [<-k n h1];exact h2) h,fun _ n h1=>(hn n h1).elim,fun _ _=>i0⟩
 rw [if_neg zx]
 by_cases zy:y.m=0
 . rw [if_pos zy]
   have k: ∀n,y.has n=true->n=y.r:=fun n h=>by have:=(Y n).1 h;rw [zy,Int.zero_dvd] at this;omega
   by_cases h:x.has y.r=true
   . rw [if_pos h]
     exact ⟨ty,fun n _ h1=>h1,fun _ n h1=>⟨by rw [k n h1];exact h,h1⟩,fun _ h=>h⟩
   . rw [if_neg h]
     exact ⟨t0,fun n h1 h2=>absurd (by rw [<-k n h2];exact h1) h,fun _ n h1=>(hn n h1).elim,fun _ _=>i0⟩
 rw [if_neg zy]
 have px:0<x.m:=by have:=hxr.1;omega
 have py:0<y.m:=by have:=hyr.1;omega
 have hq:=quot_pos px py
 have bx:=hxr.2 px
 by_cases hd:apartI x.r y.r%Cg.gc x y=0
 . rw [if_pos hd]
   have hc:=crt px py (apart_iff.1 hd)
   by_cases hw:wIntB (Cg.lc x y)=true
   . rw [if_pos hw]
     have hL:0<Cg.lc x y:=Int.mul_pos px hq.1
     have hL2: ∀{z:Int},Cg.lc x y∣z↔(x.m∣z/\ y.m∣z):=fun {z}=>lcm_dvd' px py
     have hs:=step_r (M:=x.m) (N:=y.m) (R:=x.r) (S:=y.r) px py
     have hb:x.m*stepI x.m y.m x.r y.r<=Cg.lc x y-x.m:=by
      have h1:x.m*stepI x.m y.m x.r y.r<=x.m*(y.m/(Int.gcd x.m y.m:Int)-1):=Int.mul_le_mul_of_nonneg_left (by omega) (by omega)
      rw [Int.mul_sub,Int.mul_one] at h1;exact h1
     have hb0:0<=x.m*stepI x.m y.m x.r y.r:=Int.mul_nonneg (by omega) hs.1
     have hwr: -9223372036854775808<=Cg.lc x y/\ Cg.lc x y<9223372036854775808:=by unfold wIntB at hw;exact of_decide_eq_true hw
     generalize Cg.lc x y=L at*
     have h1:x.m∣x.r+x.m*stepI x.m y.m x.r y.r-x.r:=⟨stepI x.m y.m x.r y.r,by omega⟩
     generalize x.m*stepI x.m y.m x.r y.r=k at*
     have eo:Cg.of L (x.r+k)=⟨true,L,md (x.r+k) L⟩:=by unfold Cg.of;rw [if_neg (by omega)]
     have to:(Cg.of L (x.r+k)).tidy:=by
      rw [eo];right;refine ⟨rfl, ?_⟩;unfold Cg.red;dsimp only;exact ⟨by omega,fun h=>md_bound _ _ h⟩
     have e1:md (x.r+k) L=x.r+k:=by unfold md;rw [if_neg (by omega)];exact Int.emod_eq_of_lt (by omega) (by omega)
     have O: ∀n,(Cg.of L (x.r+k)).has n=true↔(x.has n=true/\ y.has n=true):=by
      intro n
      rw [cg_has_dvd to (by rw [eo]),X,Y,eo]
      dsimp only
      rw [e1,hL2,dvd_shift h1,dvd_shift hc]
     exact ⟨to,fun n h1 h2=>(O n).2 ⟨h1,h2⟩,fun _ n h=>(O n).1 h,fun _ _=>Cg.of_inR _ _ hwr.1 hwr.2 (by omega) (by omega)⟩
   . rw [if_neg hw]
     have hf: ¬x.fits y=true:=by
      intro h;unfold Cg.fits at h;rw [decide_eq_true px,decide_eq_true py] at h
      exact hw (by simpa using h)
     split
     . exact ⟨ty,fun n _ h=>h,fun h=>absurd h hf,fun _ h=>h⟩
     . exact ⟨tx,fun n h _=>h,fun h=>absurd h hf,fun h _=>h⟩
 . rw [if_neg hd]
   refine ⟨t0,fun n h1 h2=> ?_,fun _ n h1=>(hn n h1).elim,fun _ _=>i0⟩
   refine absurd (apart_iff.2 ?_) hd
   have g1:Cg.gc x y∣n-x.r:=Int.dvd_trans (Int.gcd_dvd_left ..) ((X n).1 h1)
   have g2:Cg.gc x y∣n-y.r:=Int.dvd_trans (Int.gcd_dvd_right ..) ((Y n).1 h2)
   have:=Int.dvd_sub g1 g2
   rwa [show n-x.r-(n-y.r)=y.r-x.r by omega] at this
def Vl.meetF (a b:Vl):Vl:=⟨⟨a.of.i.s.meet b.of.i.s,Cg.meet a.of.i.c b.of.i.c⟩,⟨a.t.null&&b.t.null,ofS (meetS (ofS a.t.names) (ofS b.t.names))⟩⟩
def Vl.meet (a b:Vl):Vl:=(Vl.meetF a b).reduce
theorem cmeet_of (a b:Vl):Cg.meet a.of.i.c b.of.i.c=Cg.meet0 a.of.i.c b.of.i.c:=by
 unfold Cg.meet;rw [Cg.tidy_fix (tidy_c (Vl.of_tidy a).i),Cg.tidy_fix (tidy_c (Vl.of_tidy b).i)]
theorem Sp.meet_has (a b:Sp) (n:Int):(a.meet b).has n=(a.has n&&b.has n):=by grind [Sp.meet,Sp.has,Sp.none,Sp.of]
theorem hasInt_of (v:Vl) (n:Int):v.of.hasInt n=v.hasInt n:=by unfold Vl.hasInt;rw [of_rclean];exact has_clean n
theorem meetF_inR {a b:Vl} (ha:a.inR) (hb:b.inR):(Vl.meetF a b).inR:=by
 have h1:=Vl.of_inR ha
 have h2:=Vl.of_inR hb
 refine ⟨Sp.meet_inR h1.1 h2.1, ?_⟩
 show (Cg.meet _ _).inR
 rw [cmeet_of]
 exact (meet_law (tidy_c (Vl.of_tidy a).i) (tidy_c (Vl.of_tidy b).i)).2.2.2 h1.2 h2.2
theorem meet_hasInt {a b:Vl} {n:Int} (ha:a.inR) (hb:b.inR) (hn: -9223372036854775808<=n/\ n<9223372036854775808):(Vl.meet a b).hasInt n=(Vl.meetF a b).hasInt n:=by
 have h:=meetF_inR ha hb
 exact v3 h.1 h.2 hn
theorem mt_sound {a b:Vl} {n:Int} (ha:a.inR) (hb:b.inR) (hn: -9223372036854775808<=n/\ n<9223372036854775808) (h1:a.hasInt n=true) (h2:b.hasInt n=true):(Vl.meet a b).hasInt n=true:=by
 rw [meet_hasInt ha hb hn]
 rw [<-hasInt_of] at h1 h2
 unfold Vl.hasInt at*
 unfold Vl.meetF
 rw [Bool.and_eq_true] at*
 dsimp only
 rw [Sp.meet_has,h1.1,h2.1,cmeet_of]
 exact ⟨rfl,(meet_law (tidy_c (Vl.of_tidy a).i) (tidy_c (Vl.of_tidy b).i)).2.1 n h1.2 h2.2⟩
theorem sp_leq_has {a b:Sp} {n:Int} (h:a.leq b=true) (h1:a.has n=true):b.has n=true:=by grind [Sp.leq,Sp.has,Sp.none]
theorem cg_leq_has {a b:Cg} {n:Int} (ha:a.tidy) (hb:b.tidy) (h:a.leq b=true) (h1:a.has n=true):b.has n=true:=by
 have hs:a.some=true:=by
  cases h2:a.some with
  |true=>rfl
  |false=>rcases ha with rfl|⟨h3,_⟩
          . cases h1
          . rw [h2] at h3;cases h3
 obtain ⟨k1,k2,k3⟩:=(Cg.leq_iff ha hb).1 h hs
 rw [cg_has_dvd hb k1]
 rw [cg_has_dvd ha hs] at h1
 exact (dvd_shift k3).1 (Int.dvd_trans k2 h1)
theorem leq_hasInt {a b:Vl} {n:Int} (h:Vl.leq a b=true) (h1:a.hasInt n=true):b.hasInt n=true:=by
 rw [<-Vl.leq_of,Vl.leq_iff (Vl.of_tidy a) (Vl.of_tidy b)] at h
 rw [<-hasInt_of] at h1⊢
 unfold Vl.hasInt at*
 rw [Bool.and_eq_true] at*
 exact ⟨sp_leq_has h.1 h1.1,cg_leq_has (tidy_c (Vl.of_tidy a).i) (tidy_c (Vl.of_tidy b).i) h.2.1 h1.2⟩
theorem jn_sound {a b:Vl} {n:Int} (h:(a.hasInt n||b.hasInt n)=true):(Vl.join a b).hasInt n=true:=by
 rw [Bool.or_eq_true] at h
 rcases h with h|h
 . exact leq_hasInt (Vl.l3_join1 a b) h
 . exact leq_hasInt (Vl.l3_join2 a b) h
structure Iv (a m r s x y:Int):Prop where
 r0:0<=r
 rm:r<m
 s0:0<s
 sm:s<=m
 x0:0<=x/\ x<m
 y0:0<=y/\ y<m
 g:Int.gcd r s=1
 dx:m∣x*a-r
 dy:m∣y*a-s
theorem iv_start {a m:Int} (ha:0<=a) (hm:0<m) (hg:Int.gcd a m=1):Iv a m (a%m) m (1%m) 0:=by
 have b1:=Int.emod_nonneg a (show m≠0 by omega)
 have b3:=Int.emod_nonneg 1 (show m≠0 by omega)
 have b4:=Int.emod_lt_of_pos 1 hm
 refine ⟨b1,Int.emod_lt_of_pos a hm,hm,Int.le_refl _,⟨b3,b4⟩,⟨Int.le_refl _,hm⟩, ?_, ?_, ?_⟩
 . obtain ⟨x,rfl⟩:=Int.eq_ofNat_of_zero_le ha
   obtain ⟨y,rfl⟩:=Int.eq_ofNat_of_zero_le (Int.le_of_lt hm)
   rw [<-Int.natCast_emod,Int.gcd_natCast_natCast]
   rw [Int.gcd_natCast_natCast] at hg
   rw [<-Nat.gcd_rec,Nat.gcd_comm];exact hg
 . have e:1%m*a-a%m=(a-a%m)-(1-1%m)*a:=by rw [Int.sub_mul];omega
   rw [e]
   exact Int.dvd_sub (Int.dvd_self_sub_emod) (Int.dvd_mul_of_dvd_left Int.dvd_self_sub_emod)
 . rw [Int.zero_mul,Int.zero_sub];exact Int.dvd_neg.2 (Int.dvd_refl m)
theorem iv_step {a m r s x y:Int} (h:Iv a m r s x y) (hr:r≠0):Iv a m (s%r) r ((y+m-s/r%m*x%m)%m) x/\ (s%r)<r:=by
 have h0:=h.r0
 have h1:=h.s0
 have h2:=h.rm
 have hm:0<m:=by omega
 have b1:=Int.emod_nonneg s hr
 have b2:=Int.emod_lt_of_pos s (show 0<r by omega)
 refine ⟨⟨b1,by omega,by omega,by omega,⟨Int.emod_nonneg _ (by omega),Int.emod_lt_of_pos _ hm⟩,h.x0, ?_,inv_step h.dx h.dy,h.dx⟩,b2⟩
 have hg:=h.g
 obtain ⟨n,rfl⟩:=Int.eq_ofNat_of_zero_le h0
 obtain ⟨k,rfl⟩:=Int.eq_ofNat_of_zero_le (Int.le_of_lt h1)
 rw [<-Int.natCast_emod,Int.gcd_natCast_natCast, <-Nat.gcd_rec]
 rwa [Int.gcd_natCast_natCast] at hg
theorem iv_prog {a m r s x y:Int} (h:Iv a m r s x y) (hr:r≠0) (hm:m<9223372036854775808):(0<=(IntKind.wrap .u64 (s.tdiv r)).tmod m/\ (IntKind.wrap .u64 (s.tdiv r)).tmod m<m)/\ s.tmod r=s%r/\ (IntKind.wrap .u64 (IntKind.wrap .u64 (y+m)-(IntKind.wrap .u64 (s.tdiv r)).tmod m*x%m)).tmod m=(y+m-s/r%m*x%m)%m:=by
 have h0:=h.r0
 have h1:=h.s0
 have h2:=h.rm
 have h3:=h.sm
 have h4:=h.y0
 have hp:0<m:=by omega
 have hs:0<=s:=by omega
 have q0:=Int.ediv_nonneg hs h0
 have q1:s/r<=s:=Int.ediv_le_self _ hs
 have e1:IntKind.wrap .u64 (s.tdiv r)=s/r:=by rw [Int.tdiv_eq_ediv_of_nonneg hs,wU_id _ q0 (by omega)]
 have e2:(s/r).tmod m=s/r%m:=Int.tmod_eq_emod_of_nonneg q0
 rw [e1,e2]
 have t0:=Int.emod_nonneg (s/r%m*x) (show m≠0 by omega)
 have t1:=Int.emod_lt_of_pos (s/r%m*x) hp
 refine ⟨⟨Int.emod_nonneg _ (by omega),Int.emod_lt_of_pos _ hp⟩,Int.tmod_eq_emod_of_nonneg hs, ?_⟩
 generalize s/r%m*x%m=t at*
 rw [wU_id (y+m) (by omega) (by omega),wU_id (y+m-t) (by omega) (by omega),Int.tmod_eq_emod_of_nonneg (by omega)]
theorem iv_end {a m s x y:Int} (h:Iv a m 0 s x y) (hg:Int.gcd a m=1):invI a m=y:=by
 have e:s=1:=by have:=h.g;rw [Int.zero_gcd] at this;have:=h.s0;omega
 exact invI_eq hg (inv_end e h.y0 h.dy)
def FCInv:List Ar->Option Rs
 | [.c (.d (.v (.int .u64 u0))),.c (.d (.v (.int .u64 u1)))]=>some ⟨(0<=u0/\ u0<18446744073709551616)/\ (0<=u1/\ u1<18446744073709551616)/\ ((0<u1/\ u1<9223372036854775808)/\ Int.gcd u0 u1=1),.va (.c (.d (ut (invI u0 u1)))),[]⟩
 |_=>none
theorem fcCInv:FC Tryz.prog 136 FCInv:=by
 intro xs pre r us h hp
 unfold FCInv at h
 split at h
 . rename_i u0 u1
   cases h
   obtain ⟨hp0,hp1,hp2⟩:=hp
   refine fcat tys_ok (l:= [(135,⟨[],FCTimes⟩)]) ⟨fcCTimes,trivial⟩ Tryz.func136 rfl (by kernel_rfl) false ?_
   have hst:=iv_start hp0.1 hp2.1.1 hp2.2
   have t1:u0.tmod u1=u0%u1:=Int.tmod_eq_emod_of_nonneg hp0.1
   have t2:(1:Int).tmod u1=1%u1:=Int.tmod_eq_emod_of_nonneg (by decide)
   obtain ⟨⟨hm0,hm1⟩,hg⟩:=hp2
   repeat' (first|exact trivial|refine ⟨?_, ?_⟩|intro _)
   all_goals first|(with_reducible first|apply qa|apply qb|apply qc|apply qd)|(conv=>whnf)
   refine scope_ok tys_ok (ls:= [(135,⟨[],FCTimes⟩)]) ⟨fcCTimes,trivial⟩ (by kernel_rfl) 0 rfl (X:=Int×Int×Int×Int) (fun x=>⟨[(5,vx (.int .u64 x.1)),(6,vx (.int .u64 x.2.1)),(7,vx (.int .u64 x.2.2.1)),(8,vx (.int .u64 x.2.2.2)),(1,vx (.int .u64 u1))],[],0,41⟩) (fun x=>x.1.toNat)
    (fun x=>Iv u0 u1 x.1 x.2.1 x.2.2.1 x.2.2.2) [5,6,7,8] [] (fun xs _=>match xs with| [a,b,c,d]=>(iT a,iT b,iT c,iT d)|_=>(0,0,0,0)) (fun _ xs _=>match xs with| [a,b,c,d]=>(iT a,iT b,iT c,iT d)|_=>(0,0,0,0)) [] [] 0 0 ?_ ?_
   . repeat' (first|exact trivial|refine ⟨?_, ?_⟩|intro _)
     all_goals first|(with_reducible first|apply qa|apply qb|apply qc|apply qd)|(conv=>whnf)
     all_goals (try simp only [iT,beq_iff_eq,beq_eq_false_iff_ne,ne_eq] at*)
     all_goals (try simp only [t1,t2] at*)
     all_goals first|omega|((with_reducible show idsOk _ _=true);rfl)|rfl|skip
     all_goals first|(have hz:u0%u1=0:=(by assumption);rw [hz] at hst;exact congrArg (Value.int .u64) (iv_end hst hg).symm)|(have b3:=hst.x0;first|omega|(obtain ⟨p1,p2,p3⟩:=iv_prog hst (by assumption) hm1;have p4:=iv_step hst (by assumption);first|omega|exact p1.1|exact p1.2|(rw [p2,p3];exact p4.1)|(rw [p2];omega)))
   . rintro ⟨r,s,x,y⟩ hi
     change Iv u0 u1 r s x y at hi
     have hr0:=hi.r0
     have hrm:=hi.rm
     have hs0:=hi.s0
     have hsm:=hi.sm
     have hx0:=hi.x0
     have hy0:=hi.y0
     repeat' (first|exact trivial|refine ⟨?_, ?_⟩|intro _)
     all_goals first|(with_reducible first|apply qa|apply qb|apply qc|apply qd)|(conv=>whnf)
     all_goals (try simp only [iT,beq_iff_eq,beq_eq_false_iff_ne,ne_eq] at*)
     all_goals first|omega|((with_reducible show idsOk _ _=true);rfl)|rfl|skip
     all_goals first|(have hz:r=0:=(by assumption);subst hz;exact congrArg (Value.int .u64) (iv_end hi hg).symm)|(obtain ⟨p1,p2,p3⟩:=iv_prog hi (by assumption) hm1;have p4:=iv_step hi (by assumption);first|omega|exact p1.1|exact p1.2|(rw [p2,p3];exact p4.1)|(rw [p2];omega))
 . cases h
theorem mul_lo {lo a b c d x y:Int} (ha:a<=x) (hb:x<=b) (hc:c<=y) (hd:y<=d) (h1:lo<=a*c) (h2:lo<=a*d) (h3:lo<=b*c) (h4:lo<=b*d):lo<=x*y:=by
 have e1:lo<=a*y:=by
  rcases Int.le_total 0 a with h|h
  . exact Int.le_trans h1 (Int.mul_le_mul_of_nonneg_left hc h)
  . exact Int.le_trans h2 (Int.mul_le_mul_of_nonpos_left h hd)
 have e2:lo<=b*y:=by
  rcases Int.le_total 0 b with h|h
  . exact Int.le_trans h3 (Int.mul_le_mul_of_nonneg_left hc h)
  . exact Int.le_trans h4 (Int.mul_le_mul_of_nonpos_left h hd)
 rcases Int.le_total 0 y with h|h
 . exact Int.le_trans e1 (Int.mul_le_mul_of_nonneg_right ha h)
 . exact Int.le_trans e2 (Int.mul_le_mul_of_nonpos_right hb h)
theorem mul_hi {hi a b c d x y:Int} (ha:a<=x) (hb:x<=b) (hc:c<=y) (hd:y<=d) (h1:a*c<=hi) (h2:a*d<=hi) (h3:b*c<=hi) (h4:b*d<=hi):x*y<=hi:=by
 have:=mul_lo (lo:= -hi) (a:= -b) (b:= -a) (c:=c) (d:=d) (x:= -x) (y:=y) (by omega) (by omega) hc hd (by rw [Int.neg_mul];omega) (by rw [Int.neg_mul];omega) (by rw [Int.neg_mul];omega) (by rw [Int.neg_mul];omega)
 rw [Int.neg_mul] at this;omega
theorem td_den {x y z:Int} (hy:0<y) (hz:y<=z):(0<=x->x.tdiv z<=x.tdiv y)/\ (x<=0->x.tdiv y<=x.tdiv z):=by
 have key: ∀x:Int,0<=x->x.tdiv z<=x.tdiv y:=by
  intro x hx
  rw [Int.tdiv_eq_ediv_of_nonneg hx,Int.tdiv_eq_ediv_of_nonneg hx]
  rw [Int.le_ediv_iff_mul_le hy]
  have h1:=Int.ediv_mul_le x (show z≠0 by omega)
  have h2:=Int.ediv_nonneg hx (show 0<=z by omega)
  have h3:x/z*y<=x/z*z:=Int.mul_le_mul_of_nonneg_left hz h2
  omega
 refine ⟨key x,fun h=> ?_⟩
 have:=key (-x) (by omega)
 rw [Int.neg_tdiv,Int.neg_tdiv] at this
 omega
theorem td_pos_lo {lo a b c d x y:Int} (ha:a<=x) (hb:x<=b) (hc:c<=y) (hd:y<=d) (hp:0<c) (h1:lo<=a.tdiv c) (h2:lo<=a.tdiv d):lo<=x.tdiv y:=by
 have e1:lo<=a.tdiv y:=by
  rcases Int.le_total 0 a with h|h
  . exact Int.le_trans h2 ((td_den (by omega) hd).1 h)
  . exact Int.le_trans h1 ((td_den hp hc).2 h)
 exact Int.le_trans e1 (Int.tdiv_le_tdiv (by omega) ha)
theorem td_pos_hi {hi a b c d x y:Int} (ha:a<=x) (hb:x<=b) (hc:c<=y) (hd:y<=d) (hp:0<c) (h3:b.tdiv c<=hi) (h4:b.tdiv d<=hi):x.tdiv y<=hi:=by
 have e1:b.tdiv y<=hi:=by
  rcases Int.le_total 0 b with h|h
  . exact Int.le_trans ((td_den hp hc).1 h) h3
  . exact Int.le_trans ((td_den (by omega) hd).2 h) h4
 exact Int.le_trans (Int.tdiv_le_tdiv (by omega) hb) e1
theorem td_neg_lo {lo a b c d x y:Int} (ha:a<=x) (hb:x<=b) (hc:c<=y) (hd:y<=d) (hp:d<0) (h3:lo<=b.tdiv c) (h4:lo<=b.tdiv d):lo<=x.tdiv y:=by
 have:=td_pos_hi (hi:= -lo) (a:=a) (b:=b) (c:= -d) (d:= -c) (x:=x) (y:= -y) ha hb (by omega) (by omega) (by omega) (by rw [Int.tdiv_neg];omega) (by rw [Int.tdiv_neg];omega)
 rw [Int.tdiv_neg] at this;omega
theorem td_neg_hi {hi a b c d x y:Int} (ha:a<=x) (hb:x<=b) (hc:c<=y) (hd:y<=d) (hp:d<0) (h1:a.tdiv c<=hi) (h2:a.tdiv d<=hi):x.tdiv y<=hi:=by
 have:=td_pos_lo (lo:= -hi) (a:=a) (b:=b) (c:= -d) (d:= -c) (x:=x) (y:= -y) ha hb (by omega) (by omega) (by omega) (by rw [Int.tdiv_neg];omega) (by rw [Int.tdiv_neg];omega)
 rw [Int.tdiv_neg] at this;omega
theorem tm_bound {x y m:Int} (hy:y≠0) (h1:y<=m+1) (h2: -y<=m+1):(0<=x->0<=x.tmod y/\ x.tmod y<=x/\ x.tmod y<=m)/\ (x<=0->x<=x.tmod y/\ x.tmod y<=0/\ -m<=x.tmod y):=by
 have key: ∀x:Int,0<=x->0<=x.tmod y/\ x.tmod y<=x/\ x.tmod y<=m:=by
  intro x hx
  rw [Int.tmod_eq_emod_of_nonneg hx]
  have g1:=Int.emod_nonneg x hy
  have g2:=Int.emod_lt x hy
  refine ⟨g1, ?_,by omega⟩
  rcases Int.lt_or_gt_of_ne hy with h|h
  . rw [<-Int.emod_neg]
    have:=Int.mul_ediv_add_emod x (-y)
    have h2:=Int.mul_nonneg (show 0<= -y by omega) (Int.ediv_nonneg hx (show 0<= -y by omega))
    omega
  . have:=Int.mul_ediv_add_emod x y
    have h2:=Int.mul_nonneg (show 0<=y by omega) (Int.ediv_nonneg hx (show 0<=y by omega))
    omega
 refine ⟨key x,fun h=> ?_⟩
 have:=key (-x) (by omega)
 rw [Int.neg_tmod] at this
 omega
theorem cg_add {g x y r s:Int} (h1:g∣x-r) (h2:g∣y-s):g∣(x+y)-(r+s):=by
 rw [show x+y-(r+s)=(x-r)+(y-s) by omega];exact Int.dvd_add h1 h2
theorem cg_sub {g x y r s:Int} (h1:g∣x-r) (h2:g∣y-s):g∣(x-y)-(r-s):=by
 rw [show x-y-(r-s)=(x-r)-(y-s) by omega];exact Int.dvd_sub h1 h2
theorem cg_mul {g x y r s:Int} (h1:g∣x-r) (h2:g∣y-s):g∣x*y-r*s:=by
 have:x*y-r*s=(x-r)*y+r*(y-s):=by rw [Int.sub_mul,Int.mul_sub];omega
 rw [this];exact Int.dvd_add (Int.dvd_mul_of_dvd_left h1) (Int.dvd_mul_of_dvd_right h2)
theorem cg_tmod {g x y r:Int} (h1:g∣x-r) (h2:g∣y):g∣x.tmod y-r:=by
 have:x.tmod y-r=(x-r)-y*(x.tdiv y):=by have:=Int.mul_tdiv_add_tmod x y;omega
 rw [this];exact Int.dvd_sub h1 (Int.dvd_mul_of_dvd_left h2)
def wr (n:Int):Int:=(n+9223372036854775808)%18446744073709551616-9223372036854775808
theorem wr_r (n:Int): -9223372036854775808<=wr n/\ wr n<9223372036854775808:=by unfold wr;omega
theorem wr_id {n:Int} (h: -9223372036854775808<=n/\ n<9223372036854775808):wr n=n:=by unfold wr;omega
def exI (op a b:Int):Int:=if op=10 then a+b else if op=11 then a-b else if op=7 then a*b else 0
def exB (op:Int):Bool:=op==10||(op==11||op==7)
def cmpB (op a b:Int):Bool:=if op=12 then decide (a<b) else if op=13 then decide (a<=b) else if op=14 then decide (a=b) else if op=15 then decide (a≠b) else if op=16 then decide (a≠0)&&decide (b≠0) else decide (a≠0)||decide (b≠0)
def doI (op a b:Int):Int:=if exB op then wr (exI op a b) else if op=8 then (if b=0 then 0 else wr (a.tdiv b)) else if op=9 then (if b=0 then 0 else a.tmod b) else if 12<=op/\ op<=17 then (if cmpB op a b then 1 else 0) else 0
def doE (op b:Int):Int:=if exB op then 0 else if op=8 \/op=9 then (if b=0 then 10 else 0) else if 12<=op/\ op<=17 then 0 else 2
def allS:Sp:=Sp.of (-9223372036854775808) 9223372036854775807
def noS:Sp:=⟨false,0,0⟩
def wrapI (lo hi:Int):Sp:=if hi-lo≥18446744073709551616 then allS else if wr lo>wr hi then allS else Sp.of (wr lo) (wr hi)
theorem all_has {n:Int} (h: -9223372036854775808<=n/\ n<9223372036854775808):allS.has n=true:=by
 unfold allS Sp.of Sp.has;rw [if_neg (by decide)];simp;omega
theorem of_has {l h n:Int}:(Sp.of l h).has n=true↔l<=n/\ n<=h:=by
 unfold Sp.of Sp.has;split
 . simp;omega
 . simp
theorem wrapI_sound {lo hi e:Int} (h1:lo<=e) (h2:e<=hi):(wrapI lo hi).has (wr e)=true:=by
 unfold wrapI
 split
 . exact all_has (wr_r e)
 . split
   . exact all_has (wr_r e)
   . rw [of_has];unfold wr at*;omega
def minL:Int->List Int->Int:=fun a l=>l.foldl (fun a b=>if b<a then b else a) a
def maxL:Int->List Int->Int:=fun a l=>l.foldl (fun a b=>if a<b then b else a) a
theorem minL_le: ∀(l:List Int) (a:Int),minL a l<=a/\ ∀x,x∈l->minL a l<=x
 | [],a=>⟨Int.le_refl _,fun x h=>by cases h⟩
 |b::l,a=>by
  have h:=minL_le l (if b<a then b else a)
  have e:minL a (b::l)=minL (if b<a then b else a) l:=rfl
  rw [e]
  refine ⟨?_,fun x hx=> ?_⟩
  . have:=h.1;split at this<;>split<;>omega
  . rcases List.mem_cons.1 hx with rfl|hx
    . have:=h.1;split at this<;>split<;>omega
    . exact h.2 x hx
theorem le_maxL: ∀(l:List Int) (a:Int),a<=maxL a l/\ ∀x,x∈l->x<=maxL a l
 | [],a=>⟨Int.le_refl _,fun x h=>by cases h⟩
 |b::l,a=>by
  have h:=le_maxL l (if a<b then b else a)
  have e:maxL a (b::l)=maxL (if a<b then b else a) l:=rfl
  rw [e]
  refine ⟨?_,fun x hx=> ?_⟩
  . have:=h.1;split at this<;>split<;>omega
  . rcases List.mem_cons.1 hx with rfl|hx
    . have:=h.1;split at this<;>split<;>omega
    . exact h.2 x hx
def around:List Int->Sp
 | []=>noS
 |x::l=>wrapI (minL x (x::l)) (maxL x (x::l))
theorem around_sound {l:List Int} {e:Int} (hl:l≠ []) (h1: ∀lo,(∀x,x∈l->lo<=x)->lo<=e) (h2: ∀hi,(∀x,x∈l->x<=hi)->e<=hi):(around l).has (wr e)=true:=by
 cases l with
 |nil=>exact absurd rfl hl
 |cons x l=>exact wrapI_sound (h1 _ (minL_le _ _).2) (h2 _ (le_maxL _ _).2)
def corners (f:Int->Int->Int) (a b:Sp):List Int:= [f a.lo b.lo,f a.lo b.hi,f a.hi b.lo,f a.hi b.hi]
theorem corners_lo {f:Int->Int->Int} {a b:Sp} {lo:Int} (h: ∀x,x∈corners f a b->lo<=x):lo<=f a.lo b.lo/\ lo<=f a.lo b.hi/\ lo<=f a.hi b.lo/\ lo<=f a.hi b.hi:=
 ⟨h _ (by simp [corners]),h _ (by simp [corners]),h _ (by simp [corners]),h _ (by simp [corners])⟩
theorem corners_hi {f:Int->Int->Int} {a b:Sp} {hi:Int} (h: ∀x,x∈corners f a b->x<=hi):f a.lo b.lo<=hi/\ f a.lo b.hi<=hi/\ f a.hi b.lo<=hi/\ f a.hi b.hi<=hi:=
 ⟨h _ (by simp [corners]),h _ (by simp [corners]),h _ (by simp [corners]),h _ (by simp [corners])⟩
theorem has_iff {s:Sp} {n:Int}:s.has n=true↔s.some=true/\ s.lo<=n/\ n<=s.hi:=by unfold Sp.has;simp [and_assoc]
theorem ex_lo {op lo x y:Int} {a b:Sp} (hx:a.has x=true) (hy:b.has y=true) (h: ∀z,z∈corners (exI op) a b->lo<=z):lo<=exI op x y:=by
 obtain ⟨_,x1,x2⟩:=has_iff.1 hx
 obtain ⟨_,y1,y2⟩:=has_iff.1 hy
 obtain ⟨h1,h2,h3,h4⟩:=corners_lo h
 unfold exI at*
 split
 . simp_all;omega
 . split
   . simp_all;omega
   . split
     . simp_all;exact mul_lo x1 x2 y1 y2 h1 h2 h3 h4
     . simp_all
theorem ex_hi {op hi x y:Int} {a b:Sp} (hx:a.has x=true) (hy:b.has y=true) (h: ∀z,z∈corners (exI op) a b->z<=hi):exI op x y<=hi:=by
 obtain ⟨_,x1,x2⟩:=has_iff.1 hx
 obtain ⟨_,y1,y2⟩:=has_iff.1 hy
 obtain ⟨h1,h2,h3,h4⟩:=corners_hi h
 unfold exI at*
 split
 . simp_all;omega
 . split
   . simp_all;omega
   . split
     . simp_all;exact mul_hi x1 x2 y1 y2 h1 h2 h3 h4
     . simp_all
def negS (b:Sp):Sp:=b.meet ⟨true, -9223372036854775808, -1⟩
def posS (b:Sp):Sp:=b.meet ⟨true,1,9223372036854775807⟩
def parts (b:Sp):List Sp:=(if (negS b).none then [] else [negS b])++(if (posS b).none then [] else [posS b])
def divS (a b:Sp):Sp:=around ((parts b).flatMap fun p=>corners Int.tdiv a p)
theorem meet_has' (a b:Sp) (n:Int):(a.meet b).has n=(a.has n&&b.has n):=by grind [Sp.meet,Sp.has,Sp.none,Sp.of]
theorem has_nn {s:Sp} {n:Int} (h:s.has n=true):s.none=false:=by
 obtain ⟨h1,h2,h3⟩:=has_iff.1 h
 unfold Sp.none;rw [h1];simp;omega
theorem div_sound {a b:Sp} {x y:Int} (hx:a.has x=true) (hy:b.has y=true) (ry: -9223372036854775808<=y/\ y<9223372036854775808) (h0:y≠0):(divS a b).has (wr (x.tdiv y))=true:=by
 obtain ⟨_,x1,x2⟩:=has_iff.1 hx
 have hp: ∃p,p∈parts b/\ p.has y=true/\ (0<p.lo \/p.hi<0):=by
  unfold parts
  rcases Int.lt_or_gt_of_ne h0 with h|h
  . have e:(negS b).has y=true:=by unfold negS;rw [meet_has',hy];simp [Sp.has];omega
    refine ⟨negS b,List.mem_append_left _ (by rw [has_nn e];simp),e,.inr ?_⟩
    have:=has_nn e
    unfold negS at*;grind [Sp.meet,Sp.has,Sp.none,Sp.of]
  . have e:(posS b).has y=true:=by unfold posS;rw [meet_has',hy];simp [Sp.has];omega
    refine ⟨posS b,List.mem_append_right _ (by rw [has_nn e];simp),e,.inl ?_⟩
    have:=has_nn e
    unfold posS at*;grind [Sp.meet,Sp.has,Sp.none,Sp.of]
 obtain ⟨p,hm,hh,hs⟩:=hp
 obtain ⟨_,y1,y2⟩:=has_iff.1 hh
 refine around_sound ?_ ?_ ?_
 . intro e
   have:p.lo.tdiv p.lo∈ [] \/True:= .inr trivial
   have h2:a.lo.tdiv p.lo∈(parts b).flatMap fun p=>corners Int.tdiv a p:=List.mem_flatMap.2 ⟨p,hm,by simp [corners]⟩
   rw [e] at h2;cases h2
 . intro lo h
   have hc:=corners_lo (f:=Int.tdiv) (a:=a) (b:=p) fun z hz=>h z (List.mem_flatMap.2 ⟨p,hm,hz⟩)
   rcases hs with hs|hs
   . exact td_pos_lo x1 x2 y1 y2 hs hc.1 hc.2.1
   . exact td_neg_lo x1 x2 y1 y2 hs hc.2.2.1 hc.2.2.2
 . intro hi h
   have hc:=corners_hi (f:=Int.tdiv) (a:=a) (b:=p) fun z hz=>h z (List.mem_flatMap.2 ⟨p,hm,hz⟩)
   rcases hs with hs|hs
   . exact td_pos_hi x1 x2 y1 y2 hs hc.2.2.1 hc.2.2.2
   . exact td_neg_hi x1 x2 y1 y2 hs hc.1 hc.2.1
def absI (n:Int):Int:=if n<0 then-n else n
def restM (b:Sp):Int:=(if absI b.lo<absI b.hi then absI b.hi else absI b.lo)-1
def restS (a b:Sp):Sp:=if (parts b).isEmpty then noS else if a.lo=a.hi/\ b.lo=b.hi then Sp.of (doI 9 a.lo b.lo) (doI 9 a.lo b.lo) else Sp.of (if a.lo<0 then (if a.lo< -restM b then-restM b else a.lo) else 0) (if 0<a.hi then (if restM b<a.hi then restM b else a.hi) else 0)
theorem parts_has {b:Sp} {y:Int} (hy:b.has y=true) (ry: -9223372036854775808<=y/\ y<9223372036854775808) (h0:y≠0): ∃p,p∈parts b/\ p.has y=true/\ (0<p.lo \/p.hi<0):=by
 unfold parts
 rcases Int.lt_or_gt_of_ne h0 with h|h
 . have e:(negS b).has y=true:=by unfold negS;rw [meet_has',hy];simp [Sp.has];omega
   refine ⟨negS b,List.mem_append_left _ (by rw [has_nn e];simp),e,.inr ?_⟩
   have:=has_nn e
   unfold negS at*;grind [Sp.meet,Sp.has,Sp.none,Sp.of]
 . have e:(posS b).has y=true:=by unfold posS;rw [meet_has',hy];simp [Sp.has];omega
   refine ⟨posS b,List.mem_append_right _ (by rw [has_nn e];simp),e,.inl ?_⟩
   have:=has_nn e
   unfold posS at*;grind [Sp.meet,Sp.has,Sp.none,Sp.of]
theorem doI_rem {x y:Int} (h:y≠0):doI 9 x y=x.tmod y:=by
 unfold doI;rw [if_neg (by decide),if_neg (by decide),if_pos rfl,if_neg h]
theorem doI_div {x y:Int} (h:y≠0):doI 8 x y=wr (x.tdiv y):=by
 unfold doI;rw [if_neg (by decide),if_pos rfl,if_neg h]
theorem rest_sound {a b:Sp} {x y:Int} (hx:a.has x=true) (hy:b.has y=true) (ry: -9223372036854775808<=y/\ y<9223372036854775808) (h0:y≠0):(restS a b).has (doI 9 x y)=true:=by
 obtain ⟨_,x1,x2⟩:=has_iff.1 hx
 obtain ⟨_,y1,y2⟩:=has_iff.1 hy
 obtain ⟨p,hp,_⟩:=parts_has hy ry h0
 unfold restS
 rw [if_neg (by intro h;rw [List.isEmpty_iff.1 h] at hp;cases hp)]
 split
 . rename_i h
   have e1:x=a.lo:=by omega
   have e2:y=b.lo:=by omega
   subst e1 e2
   exact of_has.2 ⟨Int.le_refl _,Int.le_refl _⟩
 . rw [doI_rem h0,of_has]
   have hm1:y<=restM b+1:=by unfold restM absI;(repeat' split)<;>omega
   have hm2: -y<=restM b+1:=by unfold restM absI;(repeat' split)<;>omega
   have hb:=tm_bound (x:=x) (m:=restM b) h0 hm1 hm2
   generalize x.tmod y=t at*
   generalize restM b=m at*
   rcases Int.le_total 0 x with h|h
   . have:=hb.1 h
     constructor
     . (repeat' split)<;>omega
     . (repeat' split)<;>omega
   . have:=hb.2 h
     constructor
     . (repeat' split)<;>omega
     . (repeat' split)<;>omega
def truthS (always never:Bool):Sp:=if always then Sp.of 1 1 else if never then Sp.of 0 0 else Sp.of 0 1
theorem truth_has {always never:Bool} {t:Bool} (h1:always=true->t=true) (h2:never=true->t=false):(truthS always never).has (if t then 1 else 0)=true:=by
 unfold truthS
 split
 . rw [h1 ‹_›];rfl
 . split
   . rw [h2 ‹_›];rfl
   . rw [of_has];split<;>omega
def aloneS (a:Sp) (n:Int):Bool:=decide (a.lo=n)&&decide (a.hi=n)
def eqS (a b:Sp):Bool:=(a.some==b.some)&&(decide (a.lo=b.lo)&&decide (a.hi=b.hi))
def cmpS (op:Int) (a b:Sp):Sp:=
 if op=12 then truthS (decide (a.hi<b.lo)) (decide (a.lo≥b.hi))
 else if op=13 then truthS (decide (a.hi<=b.lo)) (decide (a.lo>b.hi))
 else if op=14 then truthS (decide (a.lo=a.hi)&&eqS b a) (decide (a.hi<b.lo)||decide (b.hi<a.lo))
 else if op=15 then truthS (decide (a.hi<b.lo)||decide (b.hi<a.lo)) (decide (a.lo=a.hi)&&eqS b a)
 else if op=16 then truthS (!a.has 0&& !b.has 0) (aloneS a 0||aloneS b 0)
 else if op=17 then truthS (!a.has 0|| !b.has 0) (aloneS a 0&&aloneS b 0)
 else noS
theorem cmp_sound {op x y:Int} {a b:Sp} (ho:12<=op/\ op<=17) (hx:a.has x=true) (hy:b.has y=true):(cmpS op a b).has (if cmpB op x y then 1 else 0)=true:=by
 obtain ⟨sx,x1,x2⟩:=has_iff.1 hx
 obtain ⟨sy,y1,y2⟩:=has_iff.1 hy
 have hc:op=12 \/op=13 \/op=14 \/op=15 \/op=16 \/op=17:=by omega
 have zx:a.has 0=false->x≠0:=fun h e=>by rw [<-e,hx] at h;cases h
 have zy:b.has 0=false->y≠0:=fun h e=>by rw [<-e,hy] at h;cases h
 rcases hc with rfl|rfl|rfl|rfl|rfl|rfl
 all_goals refine truth_has ?_ ?_
 all_goals (intro h;simp only [cmpB,eqS,aloneS,Bool.and_eq_true,Bool.or_eq_true,Bool.not_eq_true',decide_eq_true_eq,decide_eq_false_iff_not,Bool.and_eq_false_iff,Bool.or_eq_false_iff,beq_iff_eq,Int.reduceEq,if_true,if_false,ne_eq] at h⊢)
 all_goals first|omega|(have h1:=zx;have h2:=zy;rcases h with h|h<;>first|omega|simp_all)|(have h1:=zx h.1;have h2:=zy h.2;omega)|skip
def rkDo (op:Int) (a b:Sp):Sp:=
 if a.none||b.none then noS
 else if exB op then around (corners (exI op) a b)
 else if op=8 then divS a b
 else if op=9 then restS a b
 else cmpS op a b
theorem rk_sound {op x y:Int} {a b:Sp} (hx:a.has x=true) (hy:b.has y=true) (ry: -9223372036854775808<=y/\ y<9223372036854775808) (he:doE op y=0):(rkDo op a b).has (doI op x y)=true:=by
 unfold rkDo
 rw [has_nn hx,has_nn hy]
 simp only [Bool.or_self,Bool.false_eq_true,if_false]
 unfold doE at he
 by_cases h1:exB op=true
 . rw [if_pos h1]
   have e:doI op x y=wr (exI op x y):=by unfold doI;rw [if_pos h1]
   rw [e]
   exact around_sound (by simp [corners]) (fun lo h=>ex_lo hx hy h) (fun hi h=>ex_hi hx hy h)
 . rw [if_neg h1] at he⊢
   by_cases h2:op=8
   . subst h2
     have h0:y≠0:=by intro h;simp [h] at he
     rw [if_pos rfl,doI_div h0];exact div_sound hx hy ry h0
   . rw [if_neg h2]
     by_cases h3:op=9
     . subst h3
       have h0:y≠0:=by intro h;simp [h] at he
       rw [if_pos rfl];exact rest_sound hx hy ry h0
     . rw [if_neg h3]
       rw [if_neg (by omega)] at he
       have h4:12<=op/\ op<=17:=by
        by_cases h:12<=op/\ op<=17
        . exact h
        . rw [if_neg h] at he;omega
       have e:doI op x y=if cmpB op x y then 1 else 0:=by unfold doI;rw [if_neg h1,if_neg h2,if_neg h3,if_pos h4]
       rw [e];exact cmp_sound h4 hx hy
theorem quo_rng {x y:Int} (rx: -9223372036854775808<=x/\ x<9223372036854775808) (ry: -9223372036854775808<=y/\ y<9223372036854775808) (h0:y≠0) (hn: ¬(x= -9223372036854775808/\ y= -1)): -9223372036854775808<=x.tdiv y/\ x.tdiv y<9223372036854775808:=by
 by_cases h1:y= -1
 . subst h1
   rw [show (-1:Int)= -(1) from rfl,Int.tdiv_neg,Int.tdiv_one];omega
 by_cases h2:y=1
 . subst h2;rw [Int.tdiv_one];exact rx
 have h3:2<=y.natAbs:=by omega
 have h4:(x.tdiv y).natAbs=x.natAbs/y.natAbs:=Int.natAbs_tdiv x y
 have h5:x.natAbs/y.natAbs<=x.natAbs/2:=Nat.div_le_div_left h3 (by decide)
 omega
end Go.Proofs.YtehpbhpmkhlldaaGreat
