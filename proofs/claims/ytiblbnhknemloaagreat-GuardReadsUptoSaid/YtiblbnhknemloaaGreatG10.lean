/- Meets of values: cZ laws. No program in sight. -/
import Derived.Test.YtiblbnhknemloaaGreatG9
set_option linter.all false
set_option maxHeartbeats 8000000
set_option maxRecDepth 100000
namespace Go.Proofs.YtiblbnhknemloaaGreat
open Tryz
open Go.Sx
theorem aQo {m a z:Int} (hg:Int.gcd a m=1) (h:m∣a*z):m∣z:=by
 rw [<-Int.natAbs_dvd_natAbs] at h⊢;rw [Int.natAbs_mul] at h;exact Nat.Coprime.dvd_of_dvd_mul_left (by unfold Nat.Coprime;rw [Nat.gcd_comm];exact hg) h
def zY (a m y:Int):Prop:=(0<=y/\ y<m)/\ (a*y)%m=1%m
def rO (a m:Int):Int:=(((List.range m.toNat).find? fun y:Nat=>decide ((a*(y:Int))%m=1%m)).getD 0:Nat)
theorem aVd {a m y z:Int} (hg:Int.gcd a m=1) (hy:zY a m y) (hz:zY a m z):y=z:=by
 have h1:(a*y)%m=(a*z)%m:=hy.2.trans hz.2.symm
 rw [Int.emod_eq_emod_iff_emod_sub_eq_zero] at h1;have h2:m∣a*(y-z):=by rw [Int.mul_sub];exact Int.dvd_of_emod_eq_zero h1
 obtain ⟨t,ht⟩:=aQo hg h2
 have h3:=hy.1;have h4:=hz.1
 have:t=0:=by
  rcases Int.lt_trichotomy t 0 with h|h|h
  . have:m*t<=m*(-1):=Int.mul_le_mul_of_nonneg_left j3 j3
    omega
  . exact h
  . have:m*1<=m*t:=Int.mul_le_mul_of_nonneg_left j3 j3
    omega
 subst this;omega
theorem aQp {a m y:Int} (hg:Int.gcd a m=1) (h:zY a m y):rO a m=y:=by
 obtain ⟨⟨h0,h1⟩,h2⟩:=h
 obtain ⟨n,rfl⟩:=Int.eq_ofNat_of_zero_le h0
 unfold rO;cases hf:(List.range m.toNat).find? fun y:Nat=>decide ((a*(y:Int))%m=1%m) with
 |none=>
  have:=List.find?_eq_none.1 hf n (List.mem_range.2 j3)
  exact absurd h2 (by simpa using this)
 |some z=>
  have h3:=List.find?_some hf
  have h4:=List.mem_range.1 (List.mem_of_find?_eq_some hf)
  exact aVd hg ⟨by dsimp only [Option.getD];omega,by simpa using h3⟩ ⟨⟨h0,h1⟩,h2⟩
theorem aPc {a m r s x y:Int} (h1:m∣x*a-r) (h2:m∣y*a-s):
 m∣((y+m-s/r%m*x%m)%m)*a-s%r:=by
 have e1:s%r=s-s/r*r:=by have:=Int.mul_ediv_add_emod s r;rw [Int.mul_comm] at this;omega
 have e2:((y+m-s/r%m*x%m)%m-(y-s/r*x))%m=0:=by
  rw [Int.emod_sub_emod, <-Int.emod_eq_emod_iff_emod_sub_eq_zero];have e3:s/r%m*x%m=s/r*x%m:=by rw [Int.mul_emod,Int.emod_emod_of_dvd _ (Int.dvd_refl m), <-Int.mul_emod]
  rw [e3];have e4:y+m-s/r*x%m=(y-s/r*x%m)+m:=j3
  rw [e4,Int.add_emod_right,Int.sub_emod_emod]
 have e5:=Int.dvd_of_emod_eq_zero e2
 obtain ⟨p,hp⟩:=h1
 obtain ⟨q,hq⟩:=h2
 obtain ⟨t,ht⟩:=e5
 refine ⟨t*a+q-s/r*p, ?_⟩
 generalize (y+m-s/r%m*x%m)%m=n at*
 generalize s/r=k at*
 rw [e1];have:n=y-k*x+m*t:=j3
 subst this;have GF:x*a=r+m*p:=j3
 have BJ:y*a=s+m*q:=j3
 grind
theorem aQq {a m y s:Int} (hs:s=1) (h0:0<=y/\ y<m) (h:m∣y*a-s):zY a m y:=by
 subst hs;refine ⟨h0, ?_⟩
 rw [Int.emod_eq_emod_iff_emod_sub_eq_zero,Int.mul_comm];exact Int.emod_eq_zero_of_dvd h
theorem aRF {a m:Int}: ∀(r:Nat) (s x y:Int),m∣x*a-r->m∣y*a-s->0<s->Int.gcd r s=1-> ∃y,m∣y*a-1
 |r,s,x,y,h1,h2,hs,hg=>by
  rcases Nat.eq_zero_or_pos r with h|h
  . subst h;have e:Int.gcd ((0:Nat):Int) s=s.natAbs:=Int.zero_gcd
    rw [e] at hg
    exact ⟨y,by
     have:s=1:=j3
     rw [<-this];exact h2⟩
  . have hr:(0:Int)<r:=by omega
    have hb:=Int.emod_nonneg s (show (r:Int)≠0 by omega)
    have hl:=Int.emod_lt_of_pos s hr
    have e:((s%r).toNat:Int)=s%r:=Int.toNat_of_nonneg hb
    refine aRF (s%r).toNat r _ x (by rw [e];exact aPc h1 h2) h1 hr ?_
    rw [e];obtain ⟨n,rfl⟩:=Int.eq_ofNat_of_zero_le (Int.le_of_lt hs)
    rw [<-Int.natCast_emod,Int.gcd_natCast_natCast, <-Nat.gcd_rec]
    rwa [Int.gcd_natCast_natCast] at hg
termination_by r=>r
theorem aIY {M N:Int} (hM:0<M):Int.gcd (M/(Int.gcd M N:Int)) (N/(Int.gcd M N:Int))=1:=by
 have h:=Int.gcd_ediv_gcd_ediv_gcd (i:=M) (j:=N) (Int.gcd_pos_of_ne_zero_left _ j3)
 exact h
section
variable {M N R S:Int} (hM:0<M) (hN:0<N)
def fL (M N R S:Int):Int:=((S-R)%N/(Int.gcd M N:Int))%(N/(Int.gcd M N:Int))*rO (M/(Int.gcd M N:Int)) (N/(Int.gcd M N:Int))%(N/(Int.gcd M N:Int))
include hM hN
theorem wH:0<N/(Int.gcd M N:Int)/\ 0<M/(Int.gcd M N:Int)/\ 0<(Int.gcd M N:Int):=by
 have hg:0<(Int.gcd M N:Int):=by have:=Int.gcd_pos_of_ne_zero_left (a:=M) N j3;omega
 exact ⟨Int.ediv_pos_of_pos_of_dvd hN j3 (Int.gcd_dvd_right ..),Int.ediv_pos_of_pos_of_dvd hM j3 (Int.gcd_dvd_left ..),hg⟩
theorem aKB:0<=fL M N R S/\ fL M N R S<N/(Int.gcd M N:Int):=by
 have h:=wH hM hN
 exact ⟨Int.emod_nonneg _ j3,Int.emod_lt_of_pos _ h.1⟩
theorem aQr:zY (M/(Int.gcd M N:Int)) (N/(Int.gcd M N:Int)) (rO (M/(Int.gcd M N:Int)) (N/(Int.gcd M N:Int))):=by
 have hp:=wH hM hN
 have hg:=aIY (N:=N) hM
 generalize M/(Int.gcd M N:Int)=a at*
 generalize N/(Int.gcd M N:Int)=m at*
 obtain ⟨n,rfl⟩:=Int.eq_ofNat_of_zero_le (Int.le_of_lt hp.2.1)
 obtain ⟨y,hy⟩:=aRF (a:=n) (m:=m) n m 1 0 (by rw [Int.one_mul,Int.sub_self];exact Int.dvd_zero m) (by rw [Int.zero_mul,Int.zero_sub];exact Int.dvd_neg.2 (Int.dvd_refl m)) hp.1 hg
 have hk:zY n m (y%m):=by
  refine aQq rfl ⟨Int.emod_nonneg _ j3,Int.emod_lt_of_pos _ hp.1⟩ ?_
  have e:y%m*n-1=(y*n-1)-m*(y/m*n):=by rw [Int.emod_def];grind
  rw [e];exact Int.dvd_sub hy (Int.dvd_mul_right ..)
 rw [aQp hg hk];exact hk
theorem crt (hd:(Int.gcd M N:Int)∣S-R):N∣R+M*fL M N R S-S:=by
 have hp:=wH hM hN
 have hi:=(aQr hM hN).2
 have eM:M=(Int.gcd M N:Int)*(M/(Int.gcd M N:Int)):=(Int.mul_ediv_cancel' (Int.gcd_dvd_left ..)).symm
 have eN:N=(Int.gcd M N:Int)*(N/(Int.gcd M N:Int)):=(Int.mul_ediv_cancel' (Int.gcd_dvd_right ..)).symm
 have h1:(Int.gcd M N:Int)∣(S-R)%N:=by
  rw [Int.emod_def];exact Int.dvd_sub hd (Int.dvd_mul_of_dvd_left (Int.gcd_dvd_right ..))
 have e1:(S-R)%N=(Int.gcd M N:Int)*((S-R)%N/(Int.gcd M N:Int)):=(Int.mul_ediv_cancel' h1).symm
 have e2:N∣(S-R)%N-(S-R):=by
  refine Int.dvd_of_emod_eq_zero ?_
  rw [Int.emod_sub_emod];simp
 unfold fL
 generalize rO (M/(Int.gcd M N:Int)) (N/(Int.gcd M N:Int))=y at*
 generalize (S-R)%N/(Int.gcd M N:Int)=d at*
 generalize M/(Int.gcd M N:Int)=a at*
 generalize N/(Int.gcd M N:Int)=m at*
 generalize (Int.gcd M N:Int)=g at*
 have e3:m∣a*(d%m*y%m)-d:=by
  refine Int.dvd_of_emod_eq_zero ?_
  rw [<-Int.emod_eq_emod_iff_emod_sub_eq_zero];rw [Int.mul_emod,Int.emod_emod_of_dvd _ (Int.dvd_refl m),Int.mul_emod (d%m) y,Int.emod_emod_of_dvd _ (Int.dvd_refl m), <-Int.mul_emod d y, <-Int.mul_emod];rw [show a*(d*y)=(a*y)*d by grind,Int.mul_emod,hi, <-Int.mul_emod,Int.one_mul]
 obtain ⟨t,ht⟩:=e3
 obtain ⟨u,hu⟩:=e2
 rw [e1] at hu;refine ⟨t+u, ?_⟩
 generalize d%m*y%m=k at*
 have:M*k=g*(a*k):=by rw [eM,Int.mul_assoc]
 have h5:a*k=d+m*t:=j3
 rw [this,h5];have:N*(t+u)=g*m*t+N*u:=by rw [Int.mul_add];congr 1;rw [<-eN]
 rw [this]
 grind
theorem aXb {z:Int}:(M*(N/(Int.gcd M N:Int))∣z)↔(M∣z/\ N∣z):=by
 have hp:=wH hM hN
 have eM:M=(Int.gcd M N:Int)*(M/(Int.gcd M N:Int)):=(Int.mul_ediv_cancel' (Int.gcd_dvd_left ..)).symm
 have eN:N=(Int.gcd M N:Int)*(N/(Int.gcd M N:Int)):=(Int.mul_ediv_cancel' (Int.gcd_dvd_right ..)).symm
 constructor
 . intro h;refine ⟨Int.dvd_trans (Int.dvd_mul_right ..) h,Int.dvd_trans ?_ h⟩
   have:M*(N/(Int.gcd M N:Int))=N*(M/(Int.gcd M N:Int)):=by
    generalize M/(Int.gcd M N:Int)=a at*
    generalize N/(Int.gcd M N:Int)=m at*
    generalize (Int.gcd M N:Int)=g at*
    rw [eM,eN];grind
   rw [this];exact Int.dvd_mul_right ..
 . rintro ⟨⟨t,rfl⟩,h⟩
   have hq:=aIY (N:=N) hM
   refine Int.mul_dvd_mul_left M ?_
   refine aQo hq ?_
   generalize M/(Int.gcd M N:Int)=a at*
   generalize N/(Int.gcd M N:Int)=m at*
   generalize (Int.gcd M N:Int)=g at*
   obtain ⟨u,hu⟩:=h
   refine ⟨u, ?_⟩
   rw [eM,eN] at hu;have:g*(a*t)=g*(m*u):=by rw [<-Int.mul_assoc, <-Int.mul_assoc];exact hu
   exact Int.eq_of_mul_eq_mul_left j3 this
end
theorem aOp {m a b n:Int} (h:m∣a-b):(m∣n-a)↔(m∣n-b):=
 ⟨fun q=>by have:=Int.dvd_add q h;rwa [show n-a+(a-b)=n-b by omega] at this,fun q=>by have:=Int.dvd_sub q h;rwa [show n-b-(a-b)=n-a by omega] at this⟩
theorem aId {c:Cg} (h:c.tidy) (hs:c.some=true) (n:Int):c.has n=true↔c.m∣n-c.r:=by
 rw [bDG h hs,decide_eq_true_eq];rcases h with rfl|⟨_,hr⟩
 . cases hs
 . exact bDH hr.1 hr.2
namespace Cg
abbrev gc (x y:Cg):Int:=(Int.gcd x.m y.m:Int)
abbrev lc (x y:Cg):Int:=x.m*(y.m/(Int.gcd x.m y.m:Int))
def meet0 (x y:Cg):Cg:=
 if (!x.some|| !y.some)=true then none
 else if x.m=0 then (if y.has x.r=true then x else none)
 else if y.m=0 then (if x.has y.r=true then y else none)
 else if nE x.r y.r%gc x y=0 then
  (if bJ (lc x y)=true then of (lc x y) (x.r+x.m*fL x.m y.m x.r y.r) else if y.m>x.m then y else x)
 else none
def meet (a b:Cg):Cg:=meet0 a.clean b.clean
def fits (x y:Cg):Bool:= !(decide (0<x.m)&&decide (0<y.m))||bJ (lc x y)
end Cg
theorem aOq {g a b:Int}:(nE a b%g=0)↔g∣b-a:=by
 rw [<-Int.dvd_iff_emod_eq_zero];unfold nE;split
 . rw [<-Int.neg_sub,Int.dvd_neg]
 . exact Iff.rfl
theorem aPd {x y:Cg} (hx:x.tidy) (hy:y.tidy):(Cg.meet0 x y).tidy/\ (∀n,x.has n=true->y.has n=true->(Cg.meet0 x y).has n=true)/\ (x.fits y=true-> ∀n,(Cg.meet0 x y).has n=true->x.has n=true/\ y.has n=true)/\ (x.inR->y.inR->(Cg.meet0 x y).inR):=by
 have hn: ∀n,Cg.none.has n=true->False:=fun n h=>by cases h
 have t0:Cg.none.tidy:= .inl rfl
 have i0:Cg.none.inR:=by unfold Cg.none Cg.inR;dsimp only;omega
 rcases hx with rfl|⟨qp,su⟩
 . have e:Cg.meet0 Cg.none y=Cg.none:=by unfold Cg.meet0;rw [if_pos (by rfl)]
   rw [e];exact ⟨t0,fun n h=>(hn n h).elim,fun _ n h=>(hn n h).elim,fun _ _=>i0⟩
 rcases hy with rfl|⟨iu,AE⟩
 . have e:Cg.meet0 x Cg.none=Cg.none:=by unfold Cg.meet0;rw [if_pos (by rw [qp];rfl)]
   rw [e];exact ⟨t0,fun n _ h=>(hn n h).elim,fun _ n h=>(hn n h).elim,fun _ _=>i0⟩
 have tx:x.tidy:= .inr ⟨qp,su⟩
 have ty:y.tidy:= .inr ⟨iu,AE⟩
 have X:=aId tx qp
 have Y:=aId ty iu
 unfold Cg.meet0;rw [if_neg (by rw [qp,iu];decide)];by_cases zx:x.m=0
 . rw [if_pos zx];have k: ∀n,x.has n=true->n=x.r:=fun n h=>by have:=(X n).1 h;rw [zx,Int.zero_dvd] at this;omega
   by_cases h:y.has x.r=true
   . rw [if_pos h];exact ⟨tx,fun n h1 _=>h1,fun _ n h1=>⟨h1,by rw [k n h1];exact h⟩,fun h _=>h⟩
   . rw [if_neg h];exact ⟨t0,fun n h1 h2=>absurd (by rw [<-k n h1];exact h2) h,fun _ n h1=>(hn n h1).elim,fun _ _=>i0⟩
 rw [if_neg zx];by_cases zy:y.m=0
 . rw [if_pos zy];have k: ∀n,y.has n=true->n=y.r:=fun n h=>by have:=(Y n).1 h;rw [zy,Int.zero_dvd] at this;omega
   by_cases h:x.has y.r=true
   . rw [if_pos h];exact ⟨ty,fun n _ h1=>h1,fun _ n h1=>⟨by rw [k n h1];exact h,h1⟩,fun _ h=>h⟩
   . rw [if_neg h];exact ⟨t0,fun n h1 h2=>absurd (by rw [<-k n h2];exact h1) h,fun _ n h1=>(hn n h1).elim,fun _ _=>i0⟩
 rw [if_neg zy];have px:0<x.m:=by have:=su.1;omega
 have py:0<y.m:=by have:=AE.1;omega
 have hq:=wH px py
 have bx:=su.2 px
 by_cases hd:nE x.r y.r%Cg.gc x y=0
 . rw [if_pos hd];have hc:=crt px py (aOq.1 hd)
   by_cases hw:bJ (Cg.lc x y)=true
   . rw [if_pos hw];have hL:0<Cg.lc x y:=Int.mul_pos px hq.1
     have EA: ∀{z:Int},Cg.lc x y∣z↔(x.m∣z/\ y.m∣z):=fun {z}=>aXb px py
     have hs:=aKB (M:=x.m) (N:=y.m) (R:=x.r) (S:=y.r) px py
     have hb:x.m*fL x.m y.m x.r y.r<=Cg.lc x y-x.m:=by
      have h1:x.m*fL x.m y.m x.r y.r<=x.m*(y.m/(Int.gcd x.m y.m:Int)-1):=Int.mul_le_mul_of_nonneg_left j3 j3
      rw [Int.mul_sub,Int.mul_one] at h1;exact h1
     have l5:0<=x.m*fL x.m y.m x.r y.r:=Int.mul_nonneg j3 hs.1
     have D5: -9223372036854775808<=Cg.lc x y/\ Cg.lc x y<9223372036854775808:=by unfold bJ at hw;exact of_decide_eq_true hw
     generalize Cg.lc x y=L at*
     have h1:x.m∣x.r+x.m*fL x.m y.m x.r y.r-x.r:=⟨fL x.m y.m x.r y.r,by omega⟩
     generalize x.m*fL x.m y.m x.r y.r=k at*
     have eo:Cg.of L (x.r+k)=⟨true,L,md (x.r+k) L⟩:=by unfold Cg.of;rw [if_neg j3]
     have to:(Cg.of L (x.r+k)).tidy:=by
      rw [eo];right;refine ⟨rfl, ?_⟩;unfold Cg.red;dsimp only;exact ⟨by omega,fun h=>oA _ _ h⟩
     have e1:md (x.r+k) L=x.r+k:=by unfold md;rw [if_neg j3];exact Int.emod_eq_of_lt j3 j3
     have O: ∀n,(Cg.of L (x.r+k)).has n=true↔(x.has n=true/\ y.has n=true):=by
      intro n;rw [aId to (by rw [eo]),X,Y,eo];dsimp only;rw [e1,EA,aOp h1,aOp hc]
     exact ⟨to,fun n h1 h2=>(O n).2 ⟨h1,h2⟩,fun _ n h=>(O n).1 h,fun _ _=>Cg.of_inR _ _ D5.1 D5.2 j3 j3⟩
   . rw [if_neg hw];have hf: ¬x.fits y=true:=by
      intro h;unfold Cg.fits at h;rw [decide_eq_true px,decide_eq_true py] at h
      exact hw w7
     split
     . exact ⟨ty,fun n _ h=>h,fun h=>absurd h hf,fun _ h=>h⟩
     . exact ⟨tx,fun n h _=>h,fun h=>absurd h hf,fun h _=>h⟩
 . rw [if_neg hd];refine ⟨t0,fun n h1 h2=> ?_,fun _ n h1=>(hn n h1).elim,fun _ _=>i0⟩
   refine absurd (aOq.2 ?_) hd
   have g1:Cg.gc x y∣n-x.r:=Int.dvd_trans (Int.gcd_dvd_left ..) ((X n).1 h1)
   have g2:Cg.gc x y∣n-y.r:=Int.dvd_trans (Int.gcd_dvd_right ..) ((Y n).1 h2)
   have:=Int.dvd_sub g1 g2
   rwa [show n-x.r-(n-y.r)=y.r-x.r by omega] at this
def Vl.meetF (a b:Vl):Vl:=⟨⟨a.of.i.s.meet b.of.i.s,Cg.meet a.of.i.c b.of.i.c⟩,⟨a.t.null&&b.t.null,aP (fF (aP a.t.names) (aP b.t.names))⟩⟩
def Vl.meet (a b:Vl):Vl:=(Vl.meetF a b).reduce
theorem aXc (a b:Vl):Cg.meet a.of.i.c b.of.i.c=Cg.meet0 a.of.i.c b.of.i.c:=by
 unfold Cg.meet;rw [Cg.tidy_fix (aGJ (Vl.of_tidy a).i),Cg.tidy_fix (aGJ (Vl.of_tidy b).i)]
theorem aOr {a b:Vl} (ha:a.inR) (hb:b.inR):(Vl.meetF a b).inR:=by
 have h1:=Vl.of_inR ha
 have h2:=Vl.of_inR hb
 refine ⟨Sp.meet_inR h1.1 h2.1, ?_⟩
 show (Cg.meet _ _).inR
 rw [aXc];exact (aPd (aGJ (Vl.of_tidy a).i) (aGJ (Vl.of_tidy b).i)).2.2.2 h1.2 h2.2
structure Iv (a m r s x y:Int):Prop where
 r0:0<=r
 rm:r<m
 s0:0<s
 sm:s<=m
 x0:0<=x/\ x<m
 y0:0<=y/\ y<m
 g:Int.gcd r s=1
 dx:m∣x*a-r
 dy:m∣y*a-s
theorem aXd {a m:Int} (ha:0<=a) (hm:0<m) (hg:Int.gcd a m=1):Iv a m (a%m) m (1%m) 0:=by
 have b1:=Int.emod_nonneg a (show m≠0 by omega)
 have b3:=Int.emod_nonneg 1 (show m≠0 by omega)
 have b4:=Int.emod_lt_of_pos 1 hm
 refine ⟨b1,Int.emod_lt_of_pos a hm,hm,Int.le_refl _,⟨b3,b4⟩,⟨Int.le_refl _,hm⟩, ?_,?_,?_⟩
 . obtain ⟨x,rfl⟩:=Int.eq_ofNat_of_zero_le ha
   obtain ⟨y,rfl⟩:=Int.eq_ofNat_of_zero_le (Int.le_of_lt hm)
   rw [<-Int.natCast_emod,Int.gcd_natCast_natCast];rw [Int.gcd_natCast_natCast] at hg;rw [<-Nat.gcd_rec,Nat.gcd_comm];exact hg
 . have e:1%m*a-a%m=(a-a%m)-(1-1%m)*a:=by rw [Int.sub_mul];omega
   rw [e];exact Int.dvd_sub (Int.dvd_self_sub_emod) (Int.dvd_mul_of_dvd_left Int.dvd_self_sub_emod)
 . rw [Int.zero_mul,Int.zero_sub];exact Int.dvd_neg.2 (Int.dvd_refl m)
theorem aQs {a m r s x y:Int} (h:Iv a m r s x y) (hr:r≠0):Iv a m (s%r) r ((y+m-s/r%m*x%m)%m) x/\ (s%r)<r:=by
 have h0:=h.r0
 have h1:=h.s0
 have h2:=h.rm
 have hm:0<m:=j3
 have b1:=Int.emod_nonneg s hr
 have b2:=Int.emod_lt_of_pos s (show 0<r by omega)
 refine ⟨⟨b1,by omega,by omega,by omega,⟨Int.emod_nonneg _ j3,Int.emod_lt_of_pos _ hm⟩,h.x0, ?_,aPc h.dx h.dy,h.dx⟩,b2⟩
 have hg:=h.g
 obtain ⟨n,rfl⟩:=Int.eq_ofNat_of_zero_le h0
 obtain ⟨k,rfl⟩:=Int.eq_ofNat_of_zero_le (Int.le_of_lt h1)
 rw [<-Int.natCast_emod,Int.gcd_natCast_natCast, <-Nat.gcd_rec]
 rwa [Int.gcd_natCast_natCast] at hg
theorem aQt {a m r s x y:Int} (h:Iv a m r s x y) (hr:r≠0) (hm:m<9223372036854775808):(0<=(IntKind.wrap .u64 (s.tdiv r)).tmod m/\ (IntKind.wrap .u64 (s.tdiv r)).tmod m<m)/\ s.tmod r=s%r/\ (IntKind.wrap .u64 (IntKind.wrap .u64 (y+m)-(IntKind.wrap .u64 (s.tdiv r)).tmod m*x%m)).tmod m=(y+m-s/r%m*x%m)%m:=by
 have h0:=h.r0
 have h1:=h.s0
 have h2:=h.rm
 have h3:=h.sm
 have h4:=h.y0
 have hp:0<m:=j3
 have hs:0<=s:=j3
 have q0:=Int.ediv_nonneg hs h0
 have q1:s/r<=s:=Int.ediv_le_self _ hs
 have e1:IntKind.wrap .u64 (s.tdiv r)=s/r:=by rw [Int.tdiv_eq_ediv_of_nonneg hs,fQ _ q0 j3]
 have e2:(s/r).tmod m=s/r%m:=Int.tmod_eq_emod_of_nonneg q0
 rw [e1,e2];have t0:=Int.emod_nonneg (s/r%m*x) (show m≠0 by omega)
 have t1:=Int.emod_lt_of_pos (s/r%m*x) hp
 refine ⟨⟨Int.emod_nonneg _ j3,Int.emod_lt_of_pos _ hp⟩,Int.tmod_eq_emod_of_nonneg hs, ?_⟩
 generalize s/r%m*x%m=t at*
 rw [fQ (y+m) j3 j3,fQ (y+m-t) j3 j3,Int.tmod_eq_emod_of_nonneg j3]
theorem aRG {a m s x y:Int} (h:Iv a m 0 s x y) (hg:Int.gcd a m=1):rO a m=y:=by
 have e:s=1:=by have:=h.g;rw [Int.zero_gcd] at this;have:=h.s0;omega
 exact aQp hg (aQq e h.y0 h.dy)
def aLx:List Ar->Option Rs
 | [.c (.d (.v (.int .u64 u0))),.c (.d (.v (.int .u64 u1)))]=>some ⟨(0<=u0/\ u0<18446744073709551616)/\ (0<=u1/\ u1<18446744073709551616)/\ ((0<u1/\ u1<9223372036854775808)/\ Int.gcd u0 u1=1),.va (.c (.d (ut (rO u0 u1)))),[]⟩
 |_=>none
theorem bAU:FC prog 273 aLx:=by
 intro xs pre r us h hp;unfold aLx at h;split at h
 . rename_i u0 u1
   cases h;obtain ⟨a7,a8,af⟩:=hp
   refine aE aA (l:= [(272,⟨[],aDH⟩)]) ⟨aJz,trivial⟩ func273 rfl j4 false ?_
   have ij:=aXd a7.1 af.1.1 af.2
   have t1:u0.tmod u1=u0%u1:=Int.tmod_eq_emod_of_nonneg a7.1
   have t2:(1:Int).tmod u1=1%u1:=Int.tmod_eq_emod_of_nonneg j5
   obtain ⟨⟨sv,j6⟩,hg⟩:=af
   repeat' (fail)
   all_goals first|(conv=>whnf)
   refine aJj aA (ls:= [(272,⟨[],aDH⟩)]) ⟨aJz,trivial⟩ j4 0 rfl (X:=Int×Int×Int×Int) (fun x=>⟨[(5,vx (.int .u64 x.1)),(6,vx (.int .u64 x.2.1)),(7,vx (.int .u64 x.2.2.1)),(8,vx (.int .u64 x.2.2.2)),(1,vx (.int .u64 u1))],[],0,41⟩) (fun x=>x.1.toNat)
    (fun x=>Iv u0 u1 x.1 x.2.1 x.2.2.1 x.2.2.2) [5,6,7,8] [] (fun xs _=>match xs with| [a,b,c,d]=>(iT a,iT b,iT c,iT d)|_=>(0,0,0,0)) (fun _ xs _=>match xs with| [a,b,c,d]=>(iT a,iT b,iT c,iT d)|_=>(0,0,0,0)) [] [] 0 0 ?_ ?_
   . (repeat' (first|exact trivial|refine ⟨?_,?_⟩|intro _));all_goals first|apply qq|conv=>whnf
     all_goals (try simp only [iT,beq_iff_eq,beq_eq_false_iff_ne,ne_eq] at*)
     all_goals (try simp only [t1,t2] at*)
     all_goals first|exact j3e|rfl|skip
     all_goals first|(have hz:u0%u1=0:=j9;rw [hz] at ij;exact congrArg (Value.int .u64) (aRG ij hg).symm)|(have b3:=ij.x0;first|omega|(obtain ⟨p1,p2,p3⟩:=aQt ij j9 j6;have p4:=aQs ij j9;first|omega|(rw [p2,p3];exact p4.1)))
   . rintro ⟨r,s,x,y⟩ hi
     change Iv u0 u1 r s x y at hi
     have nt:=hi.r0
     have GG:=hi.rm
     have D6:=hi.s0
     have EB:=hi.sm
     have sw:=hi.x0
     have sx:=hi.y0
     (repeat' (first|exact trivial|refine ⟨?_,?_⟩|intro _));all_goals first|apply qq|conv=>whnf
     all_goals (try simp only [iT,beq_iff_eq,beq_eq_false_iff_ne,ne_eq] at*)
     all_goals first|exact j3e|rfl|skip
     all_goals first|(have hz:r=0:=j9;subst hz;exact congrArg (Value.int .u64) (aRG hi hg).symm)|(obtain ⟨p1,p2,p3⟩:=aQt hi j9 j6;have p4:=aQs hi j9;first|omega|(rw [p2,p3];exact p4.1))
 . cases h
structure Bt (m0 r0 m1 r1 G:Int):Prop where
 e:G=(Int.gcd m0 m1:Int)
 p0:0<m0
 p1:0<m1
 a:0<=r0/\ r0<m0
 b:0<=r1/\ r1<m1
 h0:m0<9223372036854775808
 h1:m1<9223372036854775808
 l:m0*(m1/G)<9223372036854775808
theorem aPe {m0 r0 m1 r1 G:Int} (h:Bt m0 r0 m1 r1 G):
 (0<G/\ G<=m0/\ G<=m1)/\ (0<m1/G/\ m1/G<=m1)/\ (0<m0/G/\ m0/G<=m0)/\ Int.gcd (m0/G) (m1/G)=1/\ md (IntKind.wrap .i64 (r1-md r0 m1)) m1=(r1-r0)%m1/\ (0<=md r0 m1/\ md r0 m1<m1)/\ (0<=(r1-r0)%m1/\ (r1-r0)%m1<m1)/\ IntKind.wrap .u64 m0=m0/\ IntKind.wrap .u64 m1=m1/\ IntKind.wrap .u64 (m1.tdiv G)=m1/G/\ IntKind.wrap .u64 (m0.tdiv G)=m0/G/\ IntKind.wrap .u64 ((r1-r0)%m1)=(r1-r0)%m1/\ IntKind.wrap .u64 (((r1-r0)%m1).tdiv G)=(r1-r0)%m1/G/\ ((r1-r0)%m1/G).tmod (m1/G)=(r1-r0)%m1/G%(m1/G)/\ (0<=(r1-r0)%m1/G%(m1/G)/\ (r1-r0)%m1/G%(m1/G)<m1/G):=by
 obtain ⟨e,p0,p1,a,b,h0,h1,l⟩:=h
 have q:=wH p0 p1
 have gq:=aIY (N:=m1) p0
 rw [<-e] at q gq;have g0:G<=m0:=by rw [e];exact Int.le_of_dvd p0 (Int.gcd_dvd_left ..)
 have g1:G<=m1:=by rw [e];exact Int.le_of_dvd p1 (Int.gcd_dvd_right ..)
 have d0:m0/G<=m0:=Int.ediv_le_self _ j3
 have d1:m1/G<=m1:=Int.ediv_le_self _ j3
 have k1:=oA r0 m1 p1
 have k2:IntKind.wrap .i64 (r1-md r0 m1)=r1-md r0 m1:=aR _ j3 j3
 have k3:=aSf r1 r0 m1 p1
 have k4:=Int.emod_nonneg (r1-r0) (show m1≠0 by omega)
 have k5:=Int.emod_lt_of_pos (r1-r0) p1
 have k6:0<=(r1-r0)%m1/G:=Int.ediv_nonneg k4 j3
 have k7:(r1-r0)%m1/G<=(r1-r0)%m1:=Int.ediv_le_self _ k4
 refine ⟨⟨q.2.2,g0,g1⟩,⟨q.1,d1⟩,⟨q.2.1,d0⟩,gq,by rw [k2];exact k3,k1,⟨k4,k5⟩,fQ _ j3 j3,fQ _ j3 j3, ?_,?_,fQ _ j3 j3, ?_,Int.tmod_eq_emod_of_nonneg k6,Int.emod_nonneg _ j3,Int.emod_lt_of_pos _ q.1⟩
 . rw [Int.tdiv_eq_ediv_of_nonneg j3,fQ _ j3 j3]
 . rw [Int.tdiv_eq_ediv_of_nonneg j3,fQ _ j3 j3]
 . rw [Int.tdiv_eq_ediv_of_nonneg k4,fQ _ k6 j3]
theorem bAV {m0 r0 m1 r1 G:Int} (h:Bt m0 r0 m1 r1 G):(0<=fL m0 m1 r0 r1/\ fL m0 m1 r0 r1<9223372036854775808)/\ (Wd.val (wd (Wd.val (wd r0)+Wd.val (wd (m0*fL m0 m1 r0 r1))))+9223372036854775808)%18446744073709551616-9223372036854775808=r0+m0*fL m0 m1 r0 r1:=by
 have f:=aPe h
 obtain ⟨e,p0,p1,a,b,h0,h1,l⟩:=h
 have s:=aKB (R:=r0) (S:=r1) p0 p1
 rw [<-e] at s;have k1:m0*fL m0 m1 r0 r1<=m0*(m1/G-1):=Int.mul_le_mul_of_nonneg_left j3 j3
 have k2:0<=m0*fL m0 m1 r0 r1:=Int.mul_nonneg j3 s.1
 rw [Int.mul_sub,Int.mul_one] at k1;refine ⟨⟨s.1,by omega⟩, ?_⟩
 generalize m0*fL m0 m1 r0 r1=p at*
 generalize m0*(m1/G)=q at*
 rw [dH (v:=r0) j3 j3,dH (v:=p) j3 j3,dH (v:=r0+p) j3 j3];omega
theorem bAW {m0 r0 m1 r1 G:Int} (h:Bt m0 r0 m1 r1 G):0<=r0+m0*fL m0 m1 r0 r1/\ r0+m0*fL m0 m1 r0 r1<9223372036854775808:=by
 obtain ⟨e,p0,p1,a,b,h0,h1,l⟩:=h
 have s:=aKB (R:=r0) (S:=r1) p0 p1
 rw [<-e] at s;have k1:m0*fL m0 m1 r0 r1<=m0*(m1/G-1):=Int.mul_le_mul_of_nonneg_left j3 j3
 have k2:0<=m0*fL m0 m1 r0 r1:=Int.mul_nonneg j3 s.1
 rw [Int.mul_sub,Int.mul_one] at k1;omega
theorem bAX {a m:Int} (h:zY a m (rO a m)):0<=rO a m/\ rO a m<m:=h.1
theorem aY9 {m0 r0 m1 r1 G:Int} (e:G=(Int.gcd m0 m1:Int)):(r1-r0)%m1/G%(m1/G)*rO (m0/G) (m1/G)%(m1/G)=fL m0 m1 r0 r1:=by subst e;rfl
def aKC:List Ar->Option Rs
 | [.agg [.d (.v (.bool b0)),.d (.v (.int .i64 m0)),.d (.v (.int .i64 r0))],.agg [.d (.v (.bool b1)),.d (.v (.int .i64 m1)),.d (.v (.int .i64 r1))],.c (.d (.v (.int .u64 u2)))]=>some ⟨(Cg.inR ⟨b0,m0,r0⟩)/\ (Cg.inR ⟨b1,m1,r1⟩)/\ (0<=u2/\ u2<18446744073709551616)/\ (Bt m0 r0 m1 r1 u2),.va (.c (.d (it (r0+m0*fL m0 m1 r0 r1)))),[]⟩
 |_=>none
theorem aZa:FC prog 228 aKC:=by
 intro xs pre r us h hp;unfold aKC at h;split at h
 . rename_i b0 m0 r0 b1 m1 r1 u2
   cases h;obtain ⟨a7,a8,af,di⟩:=hp
   refine aE aA (l:= [(180,⟨[],aAc⟩),(273,⟨[],aLx⟩),(272,⟨[],aDH⟩),(177,⟨[],qH⟩),(227,⟨[],aB2⟩),(237,⟨[],aBS⟩),(269,⟨[],aBT⟩)]) ⟨aDR,bAU,aJz,sW,aGI,aGn,aGo,trivial⟩ func228 rfl j4 false ?_
   have hb:=di
   obtain ⟨f1,f2,f3,f4,f5,f6,f7,f8,f9,f10,f11,f12,f13,f14,f15⟩:=aPe hb
   obtain ⟨z1,z2⟩:=bAV hb
   have zw:IntKind.wrap .i64 (fL m0 m1 r0 r1)=fL m0 m1 r0 r1:=aR _ j3 z1.2
   have be:=hb.e
   have q0:=hb.p0
   have q1:=hb.p1
   have GH:=hb.a
   have D0:=hb.b
   have q2:=hb.h0
   have q3:=hb.h1
   have gU:=bAX (a:=m0/u2) (m:=m1/u2) (by rw [be];exact aQr q0 q1)
   (repeat' (first|exact trivial|refine ⟨?_,?_⟩|intro _));all_goals first|apply qq|conv=>whnf
   all_goals (try simp only [f5,f8,f9,f10,f11,f12,f13,f14,aY9 be,zw])
   all_goals first|omega|(rw [wI];omega)|(exfalso;have q:=‹(_:Int)=0›;(try simp only [f5,f8,f9,f10,f11,f12,f13,f14] at q);omega)|exact congrArg (Value.int .i64) z2|exact j3o
 . cases h
section
variable {a b:Cg}
theorem bDI (h:(!a.clean.some)=true):Cg.meet a b=Cg.none:=by
 unfold Cg.meet Cg.meet0;rw [h];rfl
theorem bDJ (ha:(!a.clean.some)=false) (h:(!b.clean.some)=true):Cg.meet a b=Cg.none:=by
 unfold Cg.meet Cg.meet0;rw [h,ha];rfl
theorem aB8 (ha:(!a.clean.some)=false) (hb:(!b.clean.some)=false): ¬((!a.clean.some|| !b.clean.some)=true):=by rw [ha,hb];decide
variable (ha:(!a.clean.some)=false) (hb:(!b.clean.some)=false)
include ha hb
theorem bDK (zx:(a.clean.m==0)=true) (h:(!Cg.has b.clean a.clean.r)=true):Cg.meet a b=Cg.none:=by
 unfold Cg.meet Cg.meet0;rw [if_neg (aB8 ha hb),if_pos j0c,if_neg w7]
theorem bDL (zx:(a.clean.m==0)=true) (h:(!Cg.has b.clean a.clean.r)=false):Cg.meet a b=a.clean:=by
 unfold Cg.meet Cg.meet0;rw [if_neg (aB8 ha hb),if_pos j0c,if_pos w7]
theorem bDM (zx:(a.clean.m==0)=false) (zy:(b.clean.m==0)=true) (h:(!Cg.has a.clean b.clean.r)=true):Cg.meet a b=Cg.none:=by
 unfold Cg.meet Cg.meet0;rw [if_neg (aB8 ha hb),if_neg j0c,if_pos j1o,if_neg w7]
theorem bDN (zx:(a.clean.m==0)=false) (zy:(b.clean.m==0)=true) (h:(!Cg.has a.clean b.clean.r)=false):Cg.meet a b=b.clean:=by
 unfold Cg.meet Cg.meet0;rw [if_neg (aB8 ha hb),if_neg j0c,if_pos j1o,if_pos w7]
variable (zx:(a.clean.m==0)=false) (zy:(b.clean.m==0)=false)
include zx zy
theorem aMl:(0<a.clean.m/\ 0<b.clean.m)/\ (0<(Int.gcd a.clean.m b.clean.m:Int)/\ (Int.gcd a.clean.m b.clean.m:Int)<=a.clean.m/\ (Int.gcd a.clean.m b.clean.m:Int)<=b.clean.m):=by
 have h1:=Cg.clean_nn a
 have h2:=Cg.clean_nn b
 have h3:a.clean.m≠0:=j0c
 have h4:b.clean.m≠0:=j1o
 have p0:0<a.clean.m:=j3
 have p1:0<b.clean.m:=j3
 exact ⟨⟨p0,p1⟩,(wH p0 p1).2.2,Int.le_of_dvd p0 (Int.gcd_dvd_left ..),Int.le_of_dvd p1 (Int.gcd_dvd_right ..)⟩
theorem bDO (ra:a.clean.inR) (rb:b.clean.inR):IntKind.wrap .i64 (Int.gcd a.clean.m b.clean.m:Int)=(Int.gcd a.clean.m b.clean.m:Int)/\ IntKind.wrap .i64 (b.clean.m.tdiv (Int.gcd a.clean.m b.clean.m:Int))=b.clean.m/(Int.gcd a.clean.m b.clean.m:Int)/\ Wd.val (wd (a.clean.m*(b.clean.m/(Int.gcd a.clean.m b.clean.m:Int))))=Cg.lc a.clean b.clean/\ (0<=b.clean.m/(Int.gcd a.clean.m b.clean.m:Int)/\ b.clean.m/(Int.gcd a.clean.m b.clean.m:Int)<9223372036854775808):=by
 obtain ⟨⟨p0,p1⟩,g0,g1,g2⟩:=aMl ha hb zx zy
 have q:=wH p0 p1
 have d:=Int.ediv_le_self (Int.gcd a.clean.m b.clean.m:Int) (show 0<=b.clean.m by omega)
 unfold Cg.inR at ra rb;have m1:a.clean.m*(b.clean.m/(Int.gcd a.clean.m b.clean.m:Int))<=9223372036854775808*9223372036854775808:=Int.mul_le_mul j3 j3 j3 j5
 have m0:0<=a.clean.m*(b.clean.m/(Int.gcd a.clean.m b.clean.m:Int)):=Int.mul_nonneg j3 j3
 refine ⟨aR _ j3 j3, ?_,dH j3 j3,by omega,by omega⟩
 rw [Int.tdiv_eq_ediv_of_nonneg j3,aR _ j3 j3]
theorem bDP (ra:a.clean.inR) (rb:b.clean.inR) (h:((nE a.clean.r b.clean.r).tmod (Int.gcd a.clean.m b.clean.m:Int) !=0)=true):Cg.meet a b=Cg.none:=by
 rw [Int.tmod_eq_emod_of_nonneg (aDy ra.2 rb.2).1] at h;unfold Cg.meet Cg.meet0;rw [if_neg (aB8 ha hb),if_neg j0c,if_neg j1o,if_neg w7]
theorem aLy (ra:a.clean.inR) (rb:b.clean.inR) (h:((nE a.clean.r b.clean.r).tmod (Int.gcd a.clean.m b.clean.m:Int) !=0)=false):Cg.meet a b=(if bJ (Cg.lc a.clean b.clean)=true then Cg.of (Cg.lc a.clean b.clean) (a.clean.r+a.clean.m*fL a.clean.m b.clean.m a.clean.r b.clean.r) else if b.clean.m>a.clean.m then b.clean else a.clean):=by
 rw [Int.tmod_eq_emod_of_nonneg (aDy ra.2 rb.2).1] at h;unfold Cg.meet Cg.meet0;rw [if_neg (aB8 ha hb),if_neg j0c,if_neg j1o,if_pos w7]
theorem bDQ (ra:a.clean.inR) (rb:b.clean.inR) (h:((nE a.clean.r b.clean.r).tmod (Int.gcd a.clean.m b.clean.m:Int) !=0)=false) (hw:bJ (Cg.lc a.clean b.clean)=true):Cg.meet a b=Cg.of (cI (Cg.lc a.clean b.clean)) (a.clean.r+a.clean.m*fL a.clean.m b.clean.m a.clean.r b.clean.r):=by
 have e:cI (Cg.lc a.clean b.clean)=Cg.lc a.clean b.clean:=(wIn (of_decide_eq_true hw)).1
 rw [aLy ha hb zx zy ra rb h,if_pos hw,e]
theorem bDR (ra:a.clean.inR) (rb:b.clean.inR) (h:((nE a.clean.r b.clean.r).tmod (Int.gcd a.clean.m b.clean.m:Int) !=0)=false) (hw:bJ (Cg.lc a.clean b.clean)=false) (hg:decide (b.clean.m>a.clean.m)=true):Cg.meet a b=b.clean:=by
 rw [aLy ha hb zx zy ra rb h,if_neg j0t,if_pos (of_decide_eq_true hg)]
theorem bCF (ra:a.clean.inR) (rb:b.clean.inR) (h:((nE a.clean.r b.clean.r).tmod (Int.gcd a.clean.m b.clean.m:Int) !=0)=false) (hw:bJ (Cg.lc a.clean b.clean)=false) (hg:decide (b.clean.m>a.clean.m)=false):Cg.meet a b=a.clean:=by
 rw [aLy ha hb zx zy ra rb h,if_neg j0t,if_neg (of_decide_eq_false hg)]
theorem bCG (ra:a.clean.inR) (rb:b.clean.inR) (hw:bJ (Cg.lc a.clean b.clean)=true):Bt a.clean.m a.clean.r b.clean.m b.clean.r (Int.gcd a.clean.m b.clean.m:Int):=by
 obtain ⟨⟨p0,p1⟩,_⟩:=aMl ha hb zx zy
 have h:=of_decide_eq_true hw
 exact ⟨rfl,p0,p1,(Cg.clean_red a).2 p0,(Cg.clean_red b).2 p1,ra.1.2,rb.1.2,h.2⟩
end
def aF6:List Ar->Option Rs
 | [.agg [.d (.v (.bool b0)),.d (.v (.int .i64 m0)),.d (.v (.int .i64 r0))],.agg [.d (.v (.bool b1)),.d (.v (.int .i64 m1)),.d (.v (.int .i64 r1))]]=>some ⟨(Cg.inR ⟨b0,m0,r0⟩)/\ (Cg.inR ⟨b1,m1,r1⟩),.va (Cg.ar (Cg.meet (⟨b0,m0,r0⟩:Cg) (⟨b1,m1,r1⟩:Cg))),[]⟩
 |_=>none
theorem aQu:FC prog 192 aF6:=by
 intro xs pre r us h hp;unfold aF6 at h;split at h
 . rename_i b0 m0 r0 b1 m1 r1
   cases h;obtain ⟨a7,a8⟩:=hp
   refine aE aA (l:= [(132,⟨[],uG⟩),(103,⟨[],rF⟩),(161,⟨[],aAd⟩),(133,⟨[],aBW⟩),(134,⟨[],aFQ⟩),(227,⟨[],aB2⟩),(226,⟨[],uV⟩),(228,⟨[],aKC⟩),(136,⟨[],rS⟩)]) ⟨yV,uF,aDS,aGr,aPZ,aGI,zR,aZa,uX,trivial⟩ func192 rfl j4 false ?_
   have hx:=Cg.clean_inR a7
   have hy:=Cg.clean_inR a8
   have gb:=hx
   have jd:=hy
   unfold Cg.inR at gb jd;have sw:=Cg.clean_nn ⟨b0,m0,r0⟩
   have sx:=Cg.clean_nn ⟨b1,m1,r1⟩
   have ux:=fQ (Cg.clean ⟨b0,m0,r0⟩).m sw (by have:=hx.1.2;omega)
   have uy:=fQ (Cg.clean ⟨b1,m1,r1⟩).m sx (by have:=hy.1.2;omega)
   have vx:0<=(Cg.clean ⟨b0,m0,r0⟩).m/\ (Cg.clean ⟨b0,m0,r0⟩).m<18446744073709551616:=⟨sw,by have:=hx.1.2;omega⟩
   have vy:0<=(Cg.clean ⟨b1,m1,r1⟩).m/\ (Cg.clean ⟨b1,m1,r1⟩).m<18446744073709551616:=⟨sx,by have:=hy.1.2;omega⟩
   have g1:=aG1 vx vy
   have g2:=aDy hx.2 hy.2
   have g3:=aSl hx hy sw sx
   (repeat' (first|exact j4p|refine ⟨?_,?_⟩|intro _));all_goals first|apply qq|conv=>whnf
   all_goals (try rw [ux] at*)
   all_goals (try rw [uy] at*)
   all_goals first|(with_reducible first|exact gb.1.1|exact gb.1.2|exact gb.2.1|exact gb.2.2|exact jd.2.1|exact jd.2.2|exact vx.1|exact vx.2|exact vy.1|exact vy.2)|skip
   all_goals first|(exfalso;simp_all;done)|(have e:=bDI (a:=⟨b0,m0,r0⟩) (b:=⟨b1,m1,r1⟩) ‹_›;first|exact j2s)|(have e:=bDJ (a:=⟨b0,m0,r0⟩) (b:=⟨b1,m1,r1⟩) ‹_› ‹_›;first|exact j2s)|(have e:=bDK (a:=⟨b0,m0,r0⟩) (b:=⟨b1,m1,r1⟩) ‹_› ‹_› ‹_› ‹_›;first|exact j2s)|(have e:=bDL (a:=⟨b0,m0,r0⟩) (b:=⟨b1,m1,r1⟩) ‹_› ‹_› ‹_› ‹_›;first|exact j2s)|(have e:=bDM (a:=⟨b0,m0,r0⟩) (b:=⟨b1,m1,r1⟩) ‹_› ‹_› ‹_› ‹_› ‹_›;first|exact j2s)|(have e:=bDN (a:=⟨b0,m0,r0⟩) (b:=⟨b1,m1,r1⟩) ‹_› ‹_› ‹_› ‹_› ‹_›;first|exact j2s)|(have e:=bDP (a:=⟨b0,m0,r0⟩) (b:=⟨b1,m1,r1⟩) ‹_› ‹_› ‹_› ‹_› hx hy ‹_›;first|exact j2s)|skip
   all_goals (obtain ⟨⟨p0,p1⟩,g0,GI,GJ⟩:=aMl (a:=⟨b0,m0,r0⟩) (b:=⟨b1,m1,r1⟩) ‹_› ‹_› ‹_› ‹_›;obtain ⟨q1,q2,q3,q4⟩:=bDO (a:=⟨b0,m0,r0⟩) (b:=⟨b1,m1,r1⟩) ‹_› ‹_› ‹_› ‹_› hx hy)
   all_goals (try simp only [q1,q2,q3,Wd.eta'] at*)
   all_goals first|omega|exact j3o|exact (aBs _).1|exact (aBs _).2|(have bt:=bCG (a:=⟨b0,m0,r0⟩) (b:=⟨b1,m1,r1⟩) ‹_› ‹_› ‹_› ‹_› hx hy ‹bJ _=true›;have br:=bAW bt;first|exact bt|omega)|(have e:=bDQ (a:=⟨b0,m0,r0⟩) (b:=⟨b1,m1,r1⟩) ‹_› ‹_› ‹_› ‹_› hx hy ‹_› ‹_›;first|exact j2s)|(have e:=bDR (a:=⟨b0,m0,r0⟩) (b:=⟨b1,m1,r1⟩) ‹_› ‹_› ‹_› ‹_› hx hy ‹_› ‹_› ‹_›;first|exact j2s)|(have e:=bCF (a:=⟨b0,m0,r0⟩) (b:=⟨b1,m1,r1⟩) ‹_› ‹_› ‹_› ‹_› hx hy ‹_› ‹_› ‹_›;first|exact j2s)
 . cases h
theorem aZb (l:List ByteArray):gN l.length (fun i=> [st (gT [st (aN l i)])])=l:=bI l
theorem aIx (l m:List ByteArray):(fF l m).length<=l.length:=List.length_filter_le _ _
theorem aOs {a b:Vl} (ha:aY a) (hb:aY b):aY (Vl.meetF a b):=by
 refine ⟨⟨?_,fun _ _=>rfl⟩,aOr ha.2 hb.2⟩
 show (aP (fF (aP a.t.names) (aP b.t.names))).length*16<=140737488351232
 have h1:=dF (fF (aP a.t.names) (aP b.t.names))
 have h2:=aIx (aP a.t.names) (aP b.t.names)
 have h3:=dF a.t.names
 have:=ha.1.1
 omega
def aDK:List Ar->Option Rs
 | [.agg [.d (.v (.bool s0)),.d (.v (.int .i64 l0)),.d (.v (.int .i64 h0)),.d (.v (.bool b0)),.d (.v (.int .i64 m0)),.d (.v (.int .i64 r0)),.d (.v (.bool z0)),.d (.lst 1 n0 f0)],.agg [.d (.v (.bool s1)),.d (.v (.int .i64 l1)),.d (.v (.int .i64 h1)),.d (.v (.bool b1)),.d (.v (.int .i64 m1)),.d (.v (.int .i64 r1)),.d (.v (.bool z1)),.d (.lst 1 n1 f1)]]=>some ⟨((n0*16<=140737488351232/\ ∀i,i<n0->f0 i= [st (gT (f0 i))])/\ Sp.inR ⟨s0,l0,h0⟩/\ Cg.inR ⟨b0,m0,r0⟩)/\ ((n1*16<=140737488351232/\ ∀i,i<n1->f1 i= [st (gT (f1 i))])/\ Sp.inR ⟨s1,l1,h1⟩/\ Cg.inR ⟨b1,m1,r1⟩),.va (Vl.ar (Vl.meet (⟨⟨⟨s0,l0,h0⟩,⟨b0,m0,r0⟩⟩,⟨z0,gN n0 f0⟩⟩:Vl) (⟨⟨⟨s1,l1,h1⟩,⟨b1,m1,r1⟩⟩,⟨z1,gN n1 f1⟩⟩:Vl))),[]⟩
 |_=>none
theorem aJE:FC prog 151 aDK:=by
 intro xs pre r us h hp;unfold aDK at h;split at h
 . rename_i s0 l0 h0 b0 m0 r0 z0 n0 f0 s1 l1 h1 b1 m1 r1 z1 n1 f1
   cases h;obtain ⟨a7,a8⟩:=hp
   refine aU.of_eq (as':= [.agg [.d (.v (.bool s0)),.d (.v (.int .i64 l0)),.d (.v (.int .i64 h0)),.d (.v (.bool b0)),.d (.v (.int .i64 m0)),.d (.v (.int .i64 r0)),.d (.v (.bool z0)),.d (.lst 1 n0 fun i=> [st (gT (f0 i))])],.agg [.d (.v (.bool s1)),.d (.v (.int .i64 l1)),.d (.v (.int .i64 h1)),.d (.v (.bool b1)),.d (.v (.int .i64 m1)),.d (.v (.int .i64 r1)),.d (.v (.bool z1)),.d (.lst 1 n1 fun i=> [st (gT (f1 i))])]]) ?_ rfl rfl ?_
   . repeat' (first|exact j2t|refine ⟨?_,?_⟩|fail)
     all_goals first|grind
   refine aE aA (l:= [(53,⟨[],tL⟩),(191,⟨[],aBw⟩),(192,⟨[],aF6⟩),(170,⟨[],aD0⟩),(82,⟨[],zC⟩),(115,⟨[],aDe⟩)]) ⟨xJ,aFO,aQu,aKf,aDd,aIQ,trivial⟩ func151 rfl j4 true ?_
   have ik:aY (⟨⟨⟨s0,l0,h0⟩,⟨b0,m0,r0⟩⟩,⟨z0,gN n0 fun i=> [st (gT (f0 i))]⟩⟩:Vl):=⟨⟨u5,fun _ _=>rfl⟩,a7.2⟩
   have bj:aY (⟨⟨⟨s1,l1,h1⟩,⟨b1,m1,r1⟩⟩,⟨z1,gN n1 fun i=> [st (gT (f1 i))]⟩⟩:Vl):=⟨⟨y5,fun _ _=>rfl⟩,a8.2⟩
   have dh:=cX ik
   have dw:=cX bj
   have l6:=cX dh
   have sy:=cX dw
   have jw:(Vl.of (⟨⟨⟨s0,l0,h0⟩,⟨b0,m0,r0⟩⟩,⟨z0,gN n0 fun i=> [st (gT (f0 i))]⟩⟩:Vl)).t.names.length<=n0:=j0b
   have mi:(Vl.of (⟨⟨⟨s1,l1,h1⟩,⟨b1,m1,r1⟩⟩,⟨z1,gN n1 fun i=> [st (gT (f1 i))]⟩⟩:Vl)).t.names.length<=n1:=j0a
   have D7:=Sp.join_inR dh.2.1 dw.2.1
   have D8:=Cg.join_inR dh.2.2 dw.2.2
   unfold aY at dh dw l6 sy;have qt:=aOs ik bj
   unfold aY at qt
   (repeat' (first|exact trivial|(with_reducible first|exact j5y)|refine ⟨?_,?_⟩|intro _));all_goals first|apply qq|conv=>whnf
   all_goals (try simp only [bI,aZb,eZ] at*)
   all_goals first|exact j5x|exact qt.1.1|exact qt.2.1.1.1|exact qt.2.1.1.2|exact qt.2.1.2.1|exact qt.2.1.2.2|exact qt.2.2.1.1|exact qt.2.2.1.2|exact qt.2.2.2.1|exact qt.2.2.2.2
 . cases h
open Go.RowKit Go.Lib Go.Sort
def tD (s:ByteArray) (b:Bool):Vl:=if b=true then ⟨Ig.zero,⟨false,aP (aP [s])⟩⟩ else Vl.zero
def ixT (L:List ByteArray) (s:ByteArray):Int:=match L.findIdx? (fun x=>s.toList==x.toList) with
 |some i=>i
 |none=> -1
def xQ (L:List ByteArray) (s:ByteArray):Bool:=L.any fun x=>decide (s=x)
theorem aPf {L:List ByteArray} {s:ByteArray}:xQ L s=true↔s∈L:=by
 unfold xQ;rw [List.any_eq_true];exact ⟨fun ⟨x,h1,h2⟩=>of_decide_eq_true h2▸h1,fun h=>⟨s,h,decide_eq_true rfl⟩⟩
theorem mY {L:List ByteArray} {k:Nat} (h:k<L.length):aN L k=L[k]:=j0u
theorem aXe {s:ByteArray} {L:List ByteArray} {i:Nat} (hi:i<L.length) (h1: ∀k,k<i->(s.toList==(aN L k).toList)=false) (h2:(s.toList==(aN L i).toList)=true):ixT L s=i:=by
 unfold ixT;have:L.findIdx? (fun x=>s.toList==x.toList)=some i:=by
  rw [List.findIdx?_eq_some_iff_getElem];refine ⟨hi,by rw [<-mY hi];exact h2,fun j hj=> ?_⟩
  rw [<-mY j3,h1 j hj];exact Bool.false_ne_true
 rw [this]
theorem aXf {s:ByteArray} {L:List ByteArray} (h1: ∀k,k<L.length->(s.toList==(aN L k).toList)=false):ixT L s= -1:=by
 unfold ixT;have:L.findIdx? (fun x=>s.toList==x.toList)=none:=by
  rw [List.findIdx?_eq_none_iff];intro x hx;obtain ⟨k,hk,rfl⟩:=List.mem_iff_getElem.1 hx
  have:=h1 k hk
  rw [mY hk] at this;exact this
 rw [this]
theorem bAY (L:List ByteArray) (s:ByteArray):decide (ixT L s≥0)=xQ L s:=by
 unfold ixT;cases h:L.findIdx? (fun x=>s.toList==x.toList) with
 |some i=>
  rw [List.findIdx?_eq_some_iff_getElem] at h;obtain ⟨h1,h2,_⟩:=h
  rw [qW] at h2;have e:=of_decide_eq_true h2
  show decide ((i:Int)≥0)=_
  rw [decide_eq_true j3];exact (aPf.2 (e▸List.getElem_mem h1)).symm
 |none=>
  rw [List.findIdx?_eq_none_iff] at h;have:s∉L:=fun hm=>by
   have:=h s hm
   rw [qW,decide_eq_true rfl] at this;cases this
  rw [decide_eq_false j5];cases hh:xQ L s with
  |false=>rfl
  |true=>exact absurd (aPf.1 hh) this
theorem aZc {n:Nat} {f:Nat->List DV} (h: ∀i,i<n->f i= [st (gT (f i))]): ∀i,i<n->f i= [st (aN (gN n f) i)]:=fun i hi=>by
 rw [h i hi];unfold gN aN;simp [List.getD_eq_getElem?_getD,hi]
theorem aQv {n:Nat} {f:Nat->List DV} (h: ∀i,i<n->f i= [st (gT (f i))]):icE (.ow 1 n f) (.ow 1 n (fun i=> [st (aN (gN n f) i)])):=
 ⟨rfl,rfl,fun i hi=>by rw [aZc h i hi];exact ⟨rfl,fun j a b ha hb=>by rw [ha] at hb;cases hb;exact .refl _⟩⟩
def bQ (L:List Gl):Nat->List ByteArray
 |0=> []
 |i+1=>if (decide ((pC L (gO L i).name).size>0)&& !xQ (bQ L i) (gO L i).name)=true then bQ L i++ [(gO L i).name] else bQ L i
theorem aC6 (L:List Gl): ∀i,(bQ L i).length<=i
 |0=>Nat.le_refl 0
 |i+1=>by
  have:=aC6 L i
  unfold bQ;split
  . rw [List.length_append];simp;omega
  . omega
def aD6:List Ar->Option Rs
 | [.c (.d (.v (.string x0))),.c (.d (.v (.bool b1)))]=>some ⟨True,.va (Vl.ar (tD x0 b1)),[]⟩
 |_=>none
theorem aKD:FC prog 235 aD6:=by
 intro xs pre r us h hp;unfold aD6 at h;split at h
 . rename_i x0 b1
   cases h;refine aE aA (l:= [(65,⟨[],aEk⟩),(137,⟨[],rR⟩)]) ⟨aK8,uW,trivial⟩ func235 rfl j4 true ?_
   cases b1 with
   |true=>
    have hb:tD x0 true=⟨Ig.zero,⟨false,aP (aP [x0])⟩⟩:=rfl
    have hl:(aP [x0]).length<=1:=dF _
    have hg:gN 1 (fun i=>Sx.rowAt 1 [DV.v (.string x0)] (0+i))= [x0]:=rfl
    (repeat' (first|exact trivial|refine ⟨?_,?_⟩|intro _));all_goals first|apply qq|conv=>whnf
    all_goals (try rw [hg])
    all_goals (try simp only [bI] at*)
    all_goals first|omega|rfl|(rename_i i hi;obtain rfl:i=0:=j3;rfl)|(exact absurd ‹(!true)=true› j5)
   |false=>
    have hb:tD x0 false=Vl.zero:=rfl
    (repeat' (first|exact trivial|refine ⟨?_,?_⟩|intro _));all_goals first|apply qq|conv=>whnf
    all_goals first|omega|rfl|(exact absurd ‹(!false)=false› j5)
 . cases h
def aLz:List Ar->Option Rs
 | [.c (.ow 1 n0 f0),.c (.d (.v (.string x1)))]=>some ⟨(n0*16<=140737488351232/\ ∀i,i<n0->f0 i= [st (gT (f0 i))]),.va (.c (.d (it (ixT (gN n0 f0) x1)))),[some (fun i=> [st (aN (gN n0 f0) i)])]⟩
 |_=>none
theorem bAZ:FC prog 206 aLz:=by
 intro xs pre r us h hp;unfold aLz at h;split at h
 . rename_i n0 f0 x1
   cases h;have a7:=hp
   refine aU.deep (ys:= [.c (.ow 1 n0 fun i=> [st (aN (gN n0 f0) i)]),.c (.d (.v (.string x1)))]) ?_ ?_
   . repeat' (first|exact j3z|refine ⟨?_,?_⟩|fail)
     all_goals first|exact (aQv a7.2).2.2
   refine aE aA (l:= []) trivial func206 rfl j4 false ?_
   have hn:=a7.1
   have hlen:=bU n0 f0
   generalize gN n0 f0=L at*
   clear a7;subst hlen
   repeat' (fail)
   all_goals first|(conv=>whnf)
   refine dM aA (l:= []) trivial j4 (X:=Nat)
    (fun i=>⟨[(8,vx (.int .i64 i)),(0,.va (.c (.osl 0 1 0 L.length))),(1,vx (.string x1)),(7,vx (.int .i64 L.length))],[(0,.row 1 L.length fun i=> [st (aN L i)])],1,19⟩)
    (fun i=>L.length-i) (fun i=>i<=L.length/\ ∀k,k<i->(x1.toList==(aN L k).toList)=false) [] []
    (fun i _ _=>i+1) [0] [0] 0 0 0 ?_ ?_ ?_
   . exact ⟨Nat.zero_le _,fun k h=>absurd h (Nat.not_lt_zero k)⟩
   . repeat' (first|exact j2w|refine ⟨?_,?_⟩|fail)
   . rintro i ⟨k1,k2⟩
     rcases Nat.lt_or_ge i L.length with hi|hi
     . have ag:decide ((i:Int)<(L.length:Int))=true:=decide_eq_true j3
       have ka:(0:Int)<=(i:Int)/\ (i:Int)<(L.length:Int):=j3
       cases hq:(x1.toList==(aN L i).toList) with
       |true=>
        have hv:=aXe hi k2 hq
        (repeat' (first|exact j3b|refine ⟨?_,?_⟩|intro _));all_goals first|apply qq|conv=>whnf
        all_goals (try simp only [Int.toNat_natCast,Nat.zero_add] at*)
        all_goals first|exact j3u
       |false=>
        have hk: ∀k,k<i+1->(x1.toList==(aN L k).toList)=false:=fun k h=>by
         rcases Nat.lt_or_ge k i with h1|h1
         . exact k2 k h1
         . rw [show k=i by omega];exact hq
        (repeat' (first|exact j3b|refine ⟨?_,?_⟩|intro _));all_goals first|apply qq|conv=>whnf
        all_goals (try dsimp only)
        all_goals (try simp only [Int.toNat_natCast,Nat.zero_add] at*)
        all_goals first|exact j3k
     . have ag:decide ((i:Int)<(L.length:Int))=false:=decide_eq_false j3
       obtain rfl:i=L.length:=j3
       have hv:=aXf k2
       (repeat' (first|exact j3i|refine ⟨?_,?_⟩|intro _));all_goals first|apply qq|conv=>whnf
       all_goals first|omega|(rw [hv];done)
 . cases h
def aF7:List Ar->Option Rs
 | [.c (.ow 1 n0 f0),.c (.d (.v (.string x1)))]=>some ⟨(n0*16<=140737488351232/\ ∀i,i<n0->f0 i= [st (gT (f0 i))]),.va (.c (.d (bo (xQ (gN n0 f0) x1)))),[some (fun i=> [st (aN (gN n0 f0) i)])]⟩
 |_=>none
theorem aQw:FC prog 166 aF7:=by
 intro xs pre r us h hp;unfold aF7 at h;split at h
 . rename_i n0 f0 x1
   cases h;have a7:=hp
   refine aU.deep (ys:= [.c (.ow 1 n0 fun i=> [st (aN (gN n0 f0) i)]),.c (.d (.v (.string x1)))]) ?_ ?_
   . repeat' (first|exact j3z|refine ⟨?_,?_⟩|fail)
     all_goals first|exact (aQv a7.2).2.2
   refine aE aA (l:= [(206,⟨[true],aLz⟩)]) ⟨bAZ,trivial⟩ func166 rfl j4 false ?_
   have hn:=a7.1
   have hlen:=bU n0 f0
   generalize gN n0 f0=L at*
   clear a7;subst hlen;have ve:=bAY L x1
   (repeat' (first|exact trivial|(with_reducible exact hn)|refine ⟨?_,?_⟩|intro _));all_goals first|apply qq|conv=>whnf
   all_goals (try simp only [bI] at*)
   all_goals first|(rw [ve];done)|omega|rfl
 . cases h
end Go.Proofs.YtiblbnhknemloaaGreat
namespace Go.Proofs.YtiblbnhknemloaaGreat
open Tryz
open Go.Sx
open Go.RowKit Go.Lib Go.Sort
def oQ (t:Tm):Nat:=match t with
 | .va (.c (.osl k _ _ _))=>k
 |_=>0
theorem aV1 {M:List ByteArray} {x:ByteArray} {g:Nat->List DV} (hg:g 0= [st x]): ∀j,j<M.length+1->dG M.length (fun j=> [st (aN M j)]) g j= [st (aN (M++ [x]) j)]:=by
 intro j hj;unfold dG;split
 . rename_i h
   unfold aN;simp only [List.getD_eq_getElem?_getD,List.getElem?_append_left h]
 . have:j=M.length:=by omega
   subst this;rw [Nat.sub_self,hg];simp [aN]
theorem aPg {L:List Gl} {i:Nat} (h1:decide ((pC L (gO L i).name).size>0)=true) (h2:(!xQ (bQ L i) (gO L i).name)=true):bQ L (i+1)=bQ L i++ [(gO L i).name]:=if_pos (by rw [h1,h2];rfl)
theorem aZd {L:List Gl} {i:Nat} (h1:decide ((pC L (gO L i).name).size>0)=false):bQ L (i+1)=bQ L i:=if_neg (by rw [h1];exact Bool.false_ne_true)
theorem aXg {L:List Gl} {i:Nat} (h2:(!xQ (bQ L i) (gO L i).name)=false):bQ L (i+1)=bQ L i:=if_neg (by rw [h2,Bool.and_false];exact Bool.false_ne_true)
def aA3:List Ar->Option Rs
 | [.agg [.d (.lst 4 n0 f0),.d (.lst 5 _ _)]]=>some ⟨(n0<=1099511627776/\ nL n0 f0),.va (.c (.d (lst (bQ (bN n0 f0) n0)))),[]⟩
 |_=>none
theorem aE5:FC prog 124 aA3:=by
 intro xs pre r us h hp;unfold aA3 at h;split at h
 . rename_i n0 f0 c0 d0
   cases h;have a7:=hp
   refine aU.of_eq (as':= [.agg [.d (.lst 4 n0 (dC (bN n0 f0))),.d (.lst 5 c0 d0)]]) ?_ rfl rfl ?_
   . repeat' (first|exact j2t|refine ⟨?_,?_⟩|fail)
     all_goals first|exact aDF a7.2|(intro _ _;rfl)
   refine aE aA (l:= [(149,⟨[],sX⟩),(166,⟨[true],aF7⟩)]) ⟨xB,aQw,trivial⟩ func124 rfl j4 true ?_
   have hn:=a7.1
   have hL:=yX a7.2
   have hlen:=qQ n0 f0
   generalize bN n0 f0=L at*
   clear a7;subst hlen;have AD:=pL hL
   have D9:=fun i=>aC6 L i
   repeat' (fail)
   all_goals first|(conv=>whnf)
   refine yU aA (l:= [(149,⟨[],sX⟩),(166,⟨[true],aF7⟩)]) ⟨xB,aQw,trivial⟩ j4 (X:=Nat)
    (fun i=>⟨[(11,vx (.int .i64 i)),(10,vx (.int .i64 L.length)),(9,.va (.c (.d (xZ L)))),(1,.va (.c (.own 0 0))),(3,.va (.c (.osl 1 1 0 (bQ L i).length)))],[(0,.cells [.d (xZ L),.d (.lst 5 c0 d0)]),(1,.row 1 (bQ L i).length fun j=> [st (aN (bQ L i) j)])],2,f124.ntmps⟩)
    (fun i=>L.length-i) (fun i=>i<=L.length) [3] []
    (fun i _ _=>i+1) (fun xs=>match xs with| [t]=> [0,oQ t]|_=> []) [0] 0 1 0 ?_ ?_ ?_
   . exact Nat.zero_le _
   . repeat' (first|exact j2w|refine ⟨?_,?_⟩|fail)
     all_goals first|(simp;done)
   . rintro i k1
     have mi:=D9 i
     rcases Nat.lt_or_ge i L.length with hi|hi
     . have ag:decide ((i:Int)<(L.length:Int))=true:=decide_eq_true j3
       have ka:(0:Int)<=(i:Int)/\ (i:Int)<(L.length:Int):=j3
       have EC:(bQ L i).length*16<=140737488351232:=j3
       (repeat' (first|exact trivial|(with_reducible first|assumption|exact nx ag)|refine ⟨?_,?_⟩|intro _));all_goals first|apply qq|conv=>whnf
       all_goals (try dsimp only)
       all_goals (try simp only [gS,bI,Int.toNat_natCast,Nat.zero_add] at*)
       all_goals first|exact j5m|rfl|omega|((exact congrArg (Value.int .i64) j0d))|(rw [aPg j9 j9,List.length_append];rfl)|(rw [aPg j9 j9];exact aV1 rfl _ j9)|rw [aZd j9]|rw [aXg j9]
     . have ag:decide ((i:Int)<(L.length:Int))=false:=decide_eq_false j3
       obtain rfl:i=L.length:=j3
       (repeat' (first|exact j3i|refine ⟨?_,?_⟩|intro _));all_goals first|apply qq|conv=>whnf
       all_goals first|omega|(simp only [Nat.zero_add];done)
 . cases h
end Go.Proofs.YtiblbnhknemloaaGreat
namespace Go.Proofs.YtiblbnhknemloaaGreat
open Tryz
open Go.Sx
open Go.RowKit Go.Lib Go.Sort
def aSI (x:Gl):Vl:=Vl.reduce ⟨⟨Sp.of 0 (max x.size 1-1),Cg.of 1 0⟩,⟨false,[]⟩⟩
def rZ (L:List Gl) (s:ByteArray) (v:Vl):Bool:=jG L s&& !Sp.none (Vl.meet v (aSI (pC L s))).i.s
theorem bDS {L:List Gl} (h:okG L) (s:ByteArray):(pC L s).ok:=by
 have h1:=aSv L s
 unfold pC;split
 . exact ⟨⟨by decide,by decide⟩,by decide,by decide⟩
 . exact h _ j3
theorem bA0 {x:Gl} (h:x.ok):aY (aSI x):=by
 have h1:=h.1
 unfold rI at h1;exact aIR (n:=0) (f:=fun _=> []) (Nat.zero_le _) (Sp.of_inR ⟨by decide,by decide⟩ j1i) (Cg.of_inR 1 0 j5 j5 j5 j5)
theorem aV2 {a b:Vl} (ha:aY a) (hb:aY b):aY (Vl.meet a b):=by
 have h:=aOs ha hb
 have h2:=aIR (i:=(Vl.meetF a b).i) (z:=(Vl.meetF a b).t.null) (n:=(Vl.meetF a b).t.names.length) (f:=fun i=> [st (aN (Vl.meetF a b).t.names i)]) h.1.1 h.2.1 h.2.2
 rw [bI] at h2;exact h2
def aJF:List Ar->Option Rs
 | [.agg [.d (.lst 4 n0 f0),.d (.lst 5 _ _)],.c (.d (.v (.string x1))),.agg [.d (.v (.bool s2)),.d (.v (.int .i64 l2)),.d (.v (.int .i64 h2)),.d (.v (.bool b2)),.d (.v (.int .i64 m2)),.d (.v (.int .i64 r2)),.d (.v (.bool z2)),.d (.lst 1 n2 f2)]]=>some ⟨(n0<=1099511627776/\ nL n0 f0)/\ ((n2*16<=140737488351232/\ ∀i,i<n2->f2 i= [st (gT (f2 i))])/\ Sp.inR ⟨s2,l2,h2⟩/\ Cg.inR ⟨b2,m2,r2⟩),.va (.c (.d (bo (rZ (bN n0 f0) x1 (⟨⟨⟨s2,l2,h2⟩,⟨b2,m2,r2⟩⟩,⟨z2,gN n2 f2⟩⟩:Vl))))),[]⟩
 |_=>none
theorem aXh:FC prog 95 aJF:=by
 intro xs pre r us h hp;unfold aJF at h;split at h
 . rename_i n0 f0 c0 d0 x1 s2 l2 h2 b2 m2 r2 z2 n2 f2
   cases h;obtain ⟨a7,a8⟩:=hp
   refine aU.of_eq (as':= [.agg [.d (.lst 4 n0 (dC (bN n0 f0))),.d (.lst 5 c0 d0)],.c (.d (.v (.string x1))),.agg [.d (.v (.bool s2)),.d (.v (.int .i64 l2)),.d (.v (.int .i64 h2)),.d (.v (.bool b2)),.d (.v (.int .i64 m2)),.d (.v (.int .i64 r2)),.d (.v (.bool z2)),.d (.lst 1 n2 fun i=> [st (gT (f2 i))])]]) ?_ rfl rfl ?_
   . repeat' (first|exact j2t|refine ⟨?_,?_⟩|fail)
     all_goals first|exact aDF a7.2|exact a8.1.2|(intro _ _;rfl)
   refine aE aA (l:= [(149,⟨[],sX⟩),(131,⟨[],lN⟩),(135,⟨[],uZ⟩),(150,⟨[],aEl⟩),(151,⟨[],aDK⟩),(102,⟨[],mE⟩)]) ⟨xB,nK,zU,aK9,aJE,oD,trivial⟩ func95 rfl j4 true ?_
   have hn:=a7.1
   have hL:=yX a7.2
   have hlen:=qQ n0 f0
   generalize bN n0 f0=L at*
   clear a7;subst hlen;have AD:=pL hL
   have hg:=bDS hL x1
   have hr:=bA0 hg
   have hv:aY ⟨⟨⟨s2,l2,h2⟩,⟨b2,m2,r2⟩⟩,⟨z2,gN n2 f2⟩⟩:=⟨⟨y5,fun _ _=>rfl⟩,a8.2⟩
   have hm:=aV2 hv hr
   have hw:IntKind.wrap .i64 ((if 1>(pC L x1).size then 1 else (pC L x1).size)-1)=max (pC L x1).size 1-1:=by
    have h1:=hg.1
    unfold rI at h1;split<;>(rw [aR _ j3 j3];omega)
   have hz:rI (max (pC L x1).size 1-1):=by
    have h1:=hg.1
    unfold rI at*;omega
   have hs:=Sp.of_inR (l:=0) ⟨by decide,by decide⟩ hz
   unfold rI at hz;have AF:=Cg.of_inR 1 0 j5 j5 j5 j5
   have ED:=gS L
   (repeat' (first|exact j4p|refine ⟨?_,?_⟩|intro _));all_goals first|apply qq|conv=>whnf
   all_goals (try simp only [ED,hw,bI,eZ] at*)
   all_goals first|omega|rfl|exact j3j|exact hr.1.1|exact hr.2.1.1.1|exact hr.2.1.1.2|exact hr.2.1.2.1|exact hr.2.1.2.2|exact hr.2.2.1.1|exact hr.2.2.1.2|exact hr.2.2.2.1|exact hr.2.2.2.2|exact hm.2.1.1.1|exact hm.2.1.1.2|exact hm.2.1.2.1|exact hm.2.1.2.2|exact hs.1.1|exact hs.1.2|exact hs.2.1|exact hs.2.2|exact AF.1.1|exact AF.1.2|exact AF.2.1|exact AF.2.2|(unfold rZ;simp only [Bool.not_eq_true'] at*;rw [‹jG L x1=false›];rfl)|(unfold rZ;rw [(by simpa using ‹(!jG L x1)=false›:jG L x1=true),Bool.true_and];rfl)
 . cases h
end Go.Proofs.YtiblbnhknemloaaGreat
namespace Go.Sx
theorem bM.le {P:Program} {base f:Nat} {bk:List Va} {st:St} {K K1:Tm->St->Prop} (hk:bM P base f bk st K1)
 (hK: ∀r st',K1 r st'-> ∃ids nv r2 st2,mL base ids nv st' st2/\ vN ids nv r r2/\ K r2 st2):bM P base f bk st K:=by
 refine ⟨fun ψ S w a ak a6 hv=>(hk.run ψ S w a ak a6 hv).mono ?_⟩
 rintro e w' ⟨r,st',v,aa,S',rfl,h1,hr,rl,he⟩
 obtain ⟨ids,nv,r2,st2,hle,ht,EE⟩:=hK r st' h1
 obtain ⟨c9,bp⟩:=aC.le hle hr
 exact ⟨r2,st2,v,_,S',rfl,EE,c9,aPR ht rl,he.trans bp⟩
def kV (c:Nat):List aB->List Nat
 | [.cells cs]=>match cs.getD c .top with
   | .osl k _ _ _=> [0,k]
   |_=> [0]
 |_=> [0]
def MK (c:Nat) (R:Tm) (hN:List (Nat×aB)):Tm->St->Prop:=fun r st=>xV st [0] fun bs=>mL 1 (kV c bs) (2-(kV c bs).length) st ⟨[],hN,2,0⟩/\ vN (kV c bs) (2-(kV c bs).length) r R
def bH (P:Program) (f:Nat) (bk:List Va) (h:List (Nat×aB)) (R:Tm) (hN:List (Nat×aB)):Prop:=bM P 1 f bk ⟨[],h,2,0⟩ (fun r st=>r=R/\ st=⟨[],hN,2,0⟩)
theorem iZ {P:Program} {f c:Nat} {bk:List Va} {R:Tm} {h hN:List (Nat×aB)} (hk:bM P 1 f bk ⟨[],h,2,0⟩ (MK c R hN)):bH P f bk h R hN:=by
 refine bM.le hk fun r st h1=> ?_
 unfold MK at h1;rw [aBb] at h1;exact ⟨_,_,_,_,h1.1,h1.2,rfl,rfl⟩
theorem bH.use {P:Program} {base f n m nv:Nat} {bk jm:List Va} (ids:List Nat) {ts:List (Nat×Tm)} {h h1 hN:List (Nat×aB)} {R:Tm} {K:Tm->St->Prop}
 (hk:bH P f jm h1 R hN) (hn:ids.length+nv=2) (hi:gJ 0 ids=true) (hb:Nat.ble 1 ids.length=true) (hid:lW h n=true) (hlt:(ids.all fun k=>Nat.blt k n)=true) (bf:(ids.all fun k=>aAj (aF h k))=true)
 (hh:zP ids nv h h1) (hv:aBY ids nv bk jm)
 (hK:K (yF (jD ids 1 n) R) ⟨ts,qA (jD ids 1 n) hN ids h,n+1,m⟩):bM P base f bk ⟨ts,h,n,m⟩ K:=by
 unfold bH at hk;rw [<-hn] at hk;refine bM.frame ids hi hh hv hb hid hlt bf hk ?_
 rintro r l7 jn og l1 ⟨rfl,e⟩
 cases e;rw [hn];exact hK
theorem bH.arg {P:Program} {f:Nat} {bk jm:List Va} {h hN:List (Nat×aB)} {R:Tm} (hk:bH P f jm h R hN) (hv:aBY [0,1] 0 bk jm):bH P f bk h R hN:=by
 refine ⟨fun ψ S w a ak hr cr=>hk.run ψ S w a ak hr ?_⟩
 have h2:=aIS hv cr
 have e:gE ψ [0,1] 0=ψ:=by
  funext j
  match j with
  |0=>rfl
  |1=>rfl
  |j+2=>
   have:=hr.sim.dom (j+2) (by show 2<=_;omega)
   rw [this];simp [gE]
 rw [e] at h2;exact h2
theorem bH.go {P:Program} {base f n m:Nat} {bk jm:List Va} (c:Nat) {ts:List (Nat×Tm)} {h h1 hN:List (Nat×aB)} {R:Tm} {K:Tm->St->Prop}
 (hk:bH P f jm h1 R hN) (hn:(kV c [aF h 0]).length+(2-(kV c [aF h 0]).length)=2) (hi:gJ 0 (kV c [aF h 0])=true) (hb:Nat.ble 1 (kV c [aF h 0]).length=true) (hid:lW h n=true) (hlt:((kV c [aF h 0]).all fun k=>Nat.blt k n)=true) (bf:((kV c [aF h 0]).all fun k=>aAj (aF h k))=true)
 (hh:zP (kV c [aF h 0]) (2-(kV c [aF h 0]).length) h h1) (hv:aBY (kV c [aF h 0]) (2-(kV c [aF h 0]).length) bk jm)
 (hK:K (yF (jD (kV c [aF h 0]) 1 n) R) ⟨ts,qA (jD (kV c [aF h 0]) 1 n) hN (kV c [aF h 0]) h,n+1,m⟩):bM P base f bk ⟨ts,h,n,m⟩ K:=
 hk.use _ hn hi hb hid hlt bf hh hv hK
def aTt (c:Nat) (k1 k2:List Nat):List aB->List Nat
 | [.cells cs]=>match cs.getD c .top with
   | .osl r _ _ _=>k1++r::k2
   |_=> []
 |_=> []
def aSJ {X:Type} (base:Nat) (I:X->St) (μ:X->Nat) (Inv:X->Prop) (ts hs:List Nat) (nx:X->List Tm->List aB->X) (ids:List aB->List Nat) (nv:Nat) (Q:Exit->St->Prop) (x:X):Exit->St->Prop
 | .normal,st=>aAv st ts fun xs=>xV st hs fun bs=>Inv (nx x xs bs)/\ μ (nx x xs bs)<μ x/\ mL base (ids bs) nv st (I (nx x xs bs))
 | .exit i,st=>Q (.exit i) st
 | .goto i,st=>Q (.goto i) st
 | .ret,st=>Q .ret st
 |_,_=>False
theorem aIZ {P:Program} {t:TT} (ht:t.ok P) {l:List (Nat×Sm)} (hl:gX P l) (b7:P.follows .mixedOrders=true) {base:Nat} {c:Code} {Q:Exit->St->Prop} {st:St} {X:Type}
 (I:X->St) (μ:X->Nat) (Inv:X->Prop) (ts hs:List Nat) (nx:X->List Tm->List aB->X) (ids:List aB->List Nat) (c7:List Nat) (nv qu:Nat) (x0:X) (h0:Inv x0) (ij:mL base c7 qu st (I x0))
 (round: ∀x,Inv x->vc P t.get (cJ l) (jK P (cJ l) base) base c (I x) (aSJ base I μ Inv ts hs nx ids nv Q x)):aO P base (.loop c) st Q:=by
 refine aO.le c7 qu ij (aO.loop I μ Inv (fun x hx=> ?_) x0 h0)
 refine (kT (TT.tysOk ht) (TT.zeros ht) (gC hl) b7 (nX (gC hl) base) c _ _ (round x hx)).mono ?_
 intro e st' h
 cases e with
 |normal=>
  simp only [aSJ,aDw,aBb] at h;exact ⟨_,h.1,h.2.1,_,nv,h.2.2⟩
 |exit i=>exact h
 |goto i=>exact h
 |ret=>exact h
 |panic _=>exact h.elim
 |outgrown=>exact h.elim
theorem aIy {P:Program} {base f:Nat} {bk:List Va} {st:St} {K:Tm->St->Prop} {l:List (Nat×Sm)} (hl:gX P l) (h:jK P (cJ l) base f bk st K):bM P base f bk st K:=⟨fun ψ S w a ak hr hv=>nX (gC hl) base f bk st K h ψ S w a ak hr hv⟩
end Go.Sx
namespace Go.Proofs.YtiblbnhknemloaaGreat
open Tryz
open Go.Sx
open Go.RowKit Go.Lib Go.Sort
structure Ro where
 G:List Gl
 c:Nat
 d:Nat->List DV
 lv:Bool
 B:List Bd
 D:List Sd
structure Ro.ok (R:Ro):Prop where
 g:okG R.G
 gn:R.G.length<=1099511627776
 b:iO R.B
 bn:R.B.length<=1099511627776
 d:okD R.D
 dn:R.D.length<=1099511627776
 bv: ∀x,x∈R.B->x.v.t.names.length<=1048576
 dv: ∀x,x∈R.D->x.s.v.t.names.length<=1048576
structure Se where
 gets:List Ky
 wants:Bool
 want:Ky
abbrev jF (v:Vl):Tm:= .va (.agg [.d (bo v.i.s.some),.d (it v.i.s.lo),.d (it v.i.s.hi),.d (bo v.i.c.some),.d (it v.i.c.m),.d (it v.i.c.r),.d (bo v.t.null),.d (lst v.t.names)])
abbrev EYn (k:Nat) (R:Ro) (s:Se):List aL:= [.d (xZ R.G),.d (.lst 5 R.c R.d),.d (bo R.lv),.d (dT R.B),.d (aEx R.D),.d (bo false),.d (it 0),.d (it 0),.d (bo false),.d (it 0),.d (it 0),.d (bo false),.d (.v (.slice none 0 0)),.osl k 2 0 s.gets.length,.d (bo s.wants),.d (st s.want.name),.d (it s.want.node)]
abbrev EY (R:Ro) (s:Se):List aL:=EYn 1 R s
abbrev HE (R:Ro) (s:Se):List (Nat×aB):= [(0,.cells (EY R s)),(1,.row 2 s.gets.length (fH s.gets))]
def eS (R:Ro) (s:Se) (x:ByteArray):Vl×Se:=
 if s.wants=true then (Vl.zero,s)
 else if iX R.D ⟨x, -1⟩=true then (Vl.of (mT R.D ⟨x, -1⟩).v,if iG s.gets ⟨x, -1⟩=true then s else ⟨s.gets++ [⟨x, -1⟩],s.wants,s.want⟩)
 else (Vl.zero,⟨s.gets,true,⟨x, -1⟩⟩)
theorem aRH {L:List Sd} (h:okD L) (k:Ky):aY (mT L k).v:=by
 unfold mT lU;cases e:L.find? (fun x=>dA x.k k) with
 |some x=>exact (h x (List.mem_of_find?_eq_some e)).v
 |none=>exact ⟨⟨Nat.zero_le _,fun _ h=>absurd h (Nat.not_lt_zero _)⟩,⟨⟨by decide,by decide⟩,by decide,by decide⟩,⟨by decide,by decide⟩,by decide,by decide⟩
theorem aOt {M:List Ky} {k:Ky} {g:Nat->List DV} (hg:g 0=kyC k): ∀j,j<M.length+1->dG M.length (fH M) g j=fH (M++ [k]) j:=by
 intro j hj;unfold dG;split
 . rename_i h
   unfold fH bW;simp only [List.getD_eq_getElem?_getD,List.getElem?_append_left h]
 . have:j=M.length:=by omega
   subst this;rw [Nat.sub_self,hg];simp [fH,bW]
abbrev aHb:List (Nat×Sm):= [(34,⟨[],aGF⟩),(78,⟨[],pK⟩),(165,⟨[true],aEo⟩)]
theorem aMm:gX prog aHb:=⟨aRw,sL,aLr,trivial⟩
theorem aLA {R:Ro} (hR:R.ok) (s:Se) (x:ByteArray) (hs:s.gets.length<=R.D.length):bH prog 230 [.c (.own 0 0),.c (.d (st x))] (HE R s) (jF (eS R s x).1) (HE R (eS R s x).2):=by
 have hD:=aDG hR.d
 have hn:=hR.dn
 have hK:=oJ s.gets
 have hv:=aRH hR.d ⟨x, -1⟩
 have rj:s.gets.length<=1099511627776:=j3
 have hc:(s.wants=true/\ eS R s x=(Vl.zero,s)) \/(s.wants=false/\ iX (gD R.D.length (iC R.D)) ⟨x, -1⟩=false/\ eS R s x=(Vl.zero,⟨s.gets,true,⟨x, -1⟩⟩)) \/(s.wants=false/\ iX (gD R.D.length (iC R.D)) ⟨x, -1⟩=true/\ iG (cV s.gets.length (fH s.gets)) ⟨x, -1⟩=true/\ eS R s x=(Vl.of (mT R.D ⟨x, -1⟩).v,s)) \/(s.wants=false/\ iX (gD R.D.length (iC R.D)) ⟨x, -1⟩=true/\ iG (cV s.gets.length (fH s.gets)) ⟨x, -1⟩=false/\ eS R s x=(Vl.of (mT R.D ⟨x, -1⟩).v,⟨s.gets++ [⟨x, -1⟩],s.wants,s.want⟩)):=by
  rw [aD1,sT];unfold eS;by_cases h1:s.wants=true
  . exact .inl ⟨h1,if_pos h1⟩
  . rw [if_neg h1];by_cases h2:iX R.D ⟨x, -1⟩=true
    . rw [if_pos h2];by_cases h3:iG s.gets ⟨x, -1⟩=true
      . rw [if_pos h3];exact .inr (.inr (.inl ⟨Bool.eq_false_iff.2 h1,h2,h3,rfl⟩))
      . rw [if_neg h3];exact .inr (.inr (.inr ⟨Bool.eq_false_iff.2 h1,h2,Bool.eq_false_iff.2 h3,rfl⟩))
    . rw [if_neg h2];exact .inr (.inl ⟨Bool.eq_false_iff.2 h1,Bool.eq_false_iff.2 h2,rfl⟩)
 rcases hc with ⟨h1,e⟩|⟨h1,xi,e⟩|⟨h1,xi,BM,e⟩|⟨h1,xi,BM,e⟩
 all_goals rw [e]
 all_goals refine iZ (c:=13) (inl aA (l:= [(34,⟨[],aGF⟩),(78,⟨[],pK⟩)]) ⟨aRw,sL,trivial⟩ func230 rfl j4 j4 rfl ?_)
 all_goals repeat' (first|exact trivial|(with_reducible exact nx h1)|refine ⟨?_,?_⟩|intro _)
 all_goals first|(conv=>whnf)
 all_goals first|((with_reducible show aO _ _ (.region 4 _ _) _ _);refine cO aA (l:=aHb) aMm ([.take 0,.take 1,.take 2,.take 3,.take 4,.take 5,.act 6 [] [21,22],.take 7,.take 8,.take 9,.news [10],.act 11 [9] [6,24],.take 12]) j4 ?_)|skip
 all_goals repeat' (first|exact j3f|refine ⟨?_,?_⟩|intro _)
 all_goals first|(conv=>whnf)
 all_goals (try rw [xi])
 all_goals repeat' (first|exact j6i|refine ⟨?_,?_⟩|intro _)
 all_goals first|(conv=>whnf)
 all_goals first|((with_reducible show aO _ _ (.region 6 _ _) _ _);refine cO aA (l:=aHb) aMm ([.take 0,.take 1,.take 2,.take 3,.take 4,.take 5,.act 6 [2,1] [34],.take 7,.take 8,.take 9,.act 10 [] [37,31]]) j4 ?_)|((with_reducible show bM _ _ 165 _ _ _);refine aIy (l:= [(165,⟨[true],aEo⟩)]) ⟨aLr,trivial⟩ ?_)|skip
 all_goals (repeat' (first|exact trivial|(with_reducible first|assumption|exact (nx (congrArg Bool.not BM)))|refine ⟨?_,?_⟩|intro _));all_goals first|apply qq|conv=>whnf
 all_goals first|((with_reducible show aO _ _ (.region 9 _ _) _ _);refine cO aA (l:=aHb) aMm ([.take 0,.take 1,.take 2,.take 3,.take 4,.take 5,.take 6,.act 7 [5,4,3,2,1,0] [54],.act 8 [0] [53,55],.take 9,.take 10,.take 11,.act 12 [] [59,56]]) j4 ?_)|skip
 all_goals (try rw [BM])
 all_goals (repeat' (first|exact trivial|refine ⟨?_,?_⟩|intro _));all_goals first|apply qq|conv=>whnf
 all_goals (try simp only [aD1,sT,bI,eZ])
 all_goals first|(exact rfl)|exact hv.1.1|exact j3j|(rw [List.length_append];rfl)|(exact aOt rfl _ j9)|omega
end Go.Proofs.YtiblbnhknemloaaGreat
namespace Go.Proofs.YtiblbnhknemloaaGreat
open Tryz
open Go.Sx
open Go.RowKit Go.Lib Go.Sort
def eT (R:Ro) (s:Se) (x:ByteArray):Vl×Se:=if eP R.B x=true then (En.get ⟨R.lv,R.B⟩ x,s) else if jG R.G x=true then eS R s x else (Vl.zero,s)
theorem aSK {R:Ro} (hR:R.ok) (s:Se) (x:ByteArray) (hs:s.gets.length<=R.D.length):bH prog 193 [.c (.own 0 0),.c (.d (st x))] (HE R s) (jF (eT R s x).1) (HE R (eT R s x).2):=by
 have hD:=aDG hR.d
 have hn:=hR.dn
 have hB:=dV hR.b
 have er:=hR.bn
 have hG:=pL hR.g
 have xj:=hR.gn
 have hK:=oJ s.gets
 have rj:s.gets.length<=1099511627776:=j3
 have hc:(eP (aH R.B.length (aW R.B)) x=true/\ eT R s x=(En.get ⟨R.lv,R.B⟩ x,s)) \/(eP (aH R.B.length (aW R.B)) x=false/\ jG (bN R.G.length (dC R.G)) x=false/\ eT R s x=(Vl.zero,s)) \/(eP (aH R.B.length (aW R.B)) x=false/\ jG (bN R.G.length (dC R.G)) x=true/\ eT R s x=eS R s x):=by
  rw [dJ,gS];unfold eT;by_cases h1:eP R.B x=true
  . exact .inl ⟨h1,if_pos h1⟩
  . rw [if_neg h1];by_cases h2:jG R.G x=true
    . exact .inr (.inr ⟨Bool.eq_false_iff.2 h1,h2,if_pos h2⟩)
    . exact .inr (.inl ⟨Bool.eq_false_iff.2 h1,Bool.eq_false_iff.2 h2,if_neg h2⟩)
 rcases hc with ⟨AG,e⟩|⟨AG,xi,e⟩|⟨AG,xi,e⟩
 all_goals rw [e]
 all_goals refine iZ (c:=13) (inl aA (l:= [(144,⟨[],(aGE x)⟩),(229,⟨[],aD3⟩),(21,⟨[],aB1⟩),(149,⟨[],sX⟩)]) ⟨(aRv x),aRu,aGB,xB,trivial⟩ func193 rfl j4 j4 rfl ?_)
 all_goals repeat' (first|exact trivial|(with_reducible first|assumption|exact nx AG)|refine ⟨?_,?_⟩|intro _)
 all_goals first|(conv=>whnf)
 all_goals first|((with_reducible show aO _ _ (.region 3 _ _) _ _);refine cO aA (l:= [(144,⟨[],(aGE x)⟩),(229,⟨[],aD3⟩),(21,⟨[],aB1⟩),(149,⟨[],sX⟩)]) ⟨(aRv x),aRu,aGB,xB,trivial⟩ ([.take 0,.take 1,.take 2,.take 3,.take 4,.take 5,.act 6 [] [27,28],.take 7,.take 8,.take 9,.news [10],.act 11 [9] [5,30],.take 12]) j4 ?_)|skip
 all_goals (try rw [AG])
 all_goals repeat' (first|exact j3f|refine ⟨?_,?_⟩|intro _)
 all_goals first|(conv=>whnf)
 all_goals (try rw [xi])
 all_goals repeat' (first|exact trivial|refine ⟨?_,?_⟩|intro _)
 all_goals first|(conv=>whnf)
 all_goals first|((with_reducible show bM _ _ 230 _ _ _);refine bH.go 13 (aLA hR s x hs) rfl rfl rfl rfl rfl rfl ?_ ?_ ?_)|skip
 all_goals repeat' (first|exact trivial|refine ⟨?_,?_⟩|intro _)
 all_goals first|(conv=>whnf)
 all_goals repeat' (fail)
 all_goals first|(conv=>whnf)
 all_goals (try simp only [gS,dJ,bI,eZ])
 all_goals first|(exact rfl)
end Go.Proofs.YtiblbnhknemloaaGreat
namespace Go.Proofs.YtiblbnhknemloaaGreat
open Tryz
open Go.Sx
open Go.RowKit Go.Lib Go.Sort
theorem aCW {α:Type} [DecidableEq α]: ∀{l m:List α},l.Nodup->(∀x,x∈l->x∈m)->l.length<=m.length
 | [],_,_,_=>Nat.zero_le _
 |a::l,m,h,hs=>by
  have ha:=hs a List.mem_cons_self
  rw [List.nodup_cons] at h;have:=aCW (m:=m.erase a) h.2 (fun x hx=>(List.mem_erase_of_ne (fun e=>h.1 (by rw [<-e];exact hx))).2 (hs x (List.mem_cons_of_mem _ hx)))
  rw [List.length_erase_of_mem ha] at this;have:=List.length_pos_of_mem ha
  rw [List.length_cons];omega
structure cD (R:Ro) (s:Se):Prop where
 nd:s.gets.Nodup
 kn: ∀k,k∈s.gets->iX R.D k=true
theorem aZe {L:List Sd} {k:Ky} (h:iX L k=true):k∈L.map (·.k):=by
 unfold iX lU at h;cases e:L.find? (fun x=>dA x.k k) with
 |some x=>exact List.mem_map.2 ⟨x,List.mem_of_find?_eq_some e,wV.1 (List.find?_some (p:=fun x:Sd=>dA x.k k) e)⟩
 |none=>rw [e] at h;cases h
theorem wJ {R:Ro} {s:Se} (h:cD R s):s.gets.length<=R.D.length:=by
 have:=aCW h.nd (fun k hk=>aZe (h.kn k hk))
 rw [List.length_map] at this;exact this
theorem aI0 {R:Ro} {s:Se} (h:cD R s) (x:ByteArray):cD R (eS R s x).2:=by
 unfold eS;split
 . exact h
 . split
   . rename_i hk
     show cD R (if _ then _ else _)
     split
     . exact h
     . rename_i hn
       have hn:(⟨x, -1⟩:Ky)∉s.gets:=fun hm=>hn (decide_eq_true hm)
       refine ⟨?_,fun k hm=> ?_⟩
       . show (s.gets++ [_]).Nodup
         rw [List.nodup_append];exact ⟨h.nd,by simp,fun a ha b hb e=>by rw [List.mem_singleton] at hb;subst hb;subst e;exact hn ha⟩
       . rcases List.mem_append.1 hm with hm|hm
         . exact h.kn k hm
         . rw [List.mem_singleton] at hm;subst hm;exact hk
   . exact ⟨h.nd,h.kn⟩
theorem mF:aY Vl.zero:=⟨⟨Nat.zero_le _,fun _ h=>absurd h (Nat.not_lt_zero _)⟩,⟨⟨by decide,by decide⟩,by decide,by decide⟩,⟨by decide,by decide⟩,by decide,by decide⟩
theorem bA1 {L:List Sd} {n:Nat} (h: ∀x,x∈L->x.s.v.t.names.length<=n) (k:Ky):(mT L k).v.t.names.length<=n:=by
 unfold mT lU;cases e:L.find? (fun x=>dA x.k k) with
 |some x=>exact h x (List.mem_of_find?_eq_some e)
 |none=>exact Nat.zero_le _
theorem aE6 {R:Ro} (hR:R.ok) (s:Se) (x:ByteArray):aY (eS R s x).1/\ (eS R s x).1.t.names.length<=1048576:=by
 unfold eS;split
 . exact ⟨mF,Nat.zero_le _⟩
 . split
   . exact ⟨cX (aRH hR.d _),Nat.le_trans (dF _) (bA1 hR.dv _)⟩
   . exact ⟨mF,Nat.zero_le _⟩
theorem bA2 {e:En} {n:Nat} (h: ∀x,x∈e.binds->x.v.t.names.length<=n) (s:ByteArray):(En.get e s).t.names.length<=n:=by
 have hc: ∀x,x∈e.clean.binds->x.v.t.names.length<=n:=by
  unfold En.clean;split
  . intro x hx;obtain ⟨b,hb,rfl⟩:=List.mem_map.1 hx
    exact Nat.le_trans (dF _) (h b (aFU.1 (aGz hb)))
  . intro x hx;cases hx
 unfold En.get;split
 . rename_i hd;exact hc _ (uI (aDi hd))
 . exact Nat.zero_le _
theorem aZf {e:En} (h:iO e.binds) (s:ByteArray):aY (En.get e s):=by
 unfold En.get;split
 . rename_i hd;exact oH (aA1 h) (aDi hd)
 . exact mF
theorem aI1 {R:Ro} {s:Se} (h:cD R s) (x:ByteArray):cD R (eT R s x).2:=by
 unfold eT;split
 . exact h
 . split
   . exact aI0 h x
   . exact h
theorem aI2 {R:Ro} (hR:R.ok) (s:Se) (x:ByteArray):aY (eT R s x).1/\ (eT R s x).1.t.names.length<=1048576:=by
 unfold eT;split
 . exact ⟨aZf (e:=⟨R.lv,R.B⟩) hR.b x,bA2 (e:=⟨R.lv,R.B⟩) hR.bv x⟩
 . split
   . exact aE6 hR s x
   . exact ⟨mF,Nat.zero_le _⟩
theorem aJG (a b:Vl):(Vl.join a b).t.names.length<=a.t.names.length+b.t.names.length:=by
 show (aP (aP a.t.names++aP b.t.names)).length<=_
 have k1:=dF (aP a.t.names++aP b.t.names)
 have k2:=dF a.t.names
 have k3:=dF b.t.names
 rw [List.length_append] at k1;omega
theorem aIz {a b:Vl} (ha:aY a) (hb:aY b) (h:(a.t.names.length+b.t.names.length)*16<=140737488351232):aY (Vl.join a b):=by
 have h1:=cX ha
 have h2:=cX hb
 have h3:=aJG a b
 exact ⟨⟨by omega,fun _ _=>rfl⟩,Sp.join_inR h1.2.1 h2.2.1,Cg.join_inR h1.2.2 h2.2.2⟩
def sC (R:Ro) (p:Vl×Se) (x:ByteArray):Vl×Se:=if jG R.G x=true then (Vl.join p.1 (eS R p.2 x).1,(eS R p.2 x).2) else p
def dI (R:Ro) (N:List ByteArray) (s:Se):Nat->Vl×Se
 |0=>(Vl.zero,s)
 |i+1=>sC R (dI R N s i) (aN N i)
def rJ (R:Ro) (s:Se) (x:ByteArray):Vl×Se:=dI R (eT R s x).1.t.names (eT R s x).2 (eT R s x).1.t.names.length
structure yC (R:Ro) (p:Vl×Se) (n:Nat):Prop where
 v:aY p.1
 n:p.1.t.names.length<=n
 s:cD R p.2
theorem aKE {R:Ro} (hR:R.ok) {N:List ByteArray} {s:Se} (hs:cD R s): ∀i,i<=1048576->yC R (dI R N s i) (i*1048576)
 |0,_=>⟨mF,by show (0:Nat)<=_;omega,hs⟩
 |i+1,hi=>by
  have ih:=aKE hR (N:=N) hs i j3
  show yC R (sC R (dI R N s i) (aN N i)) _
  have hr:=aE6 hR (dI R N s i).2 (aN N i)
  have hn:=ih.n
  unfold sC;split
  . exact ⟨aIz ih.v hr.1 j3,by have:=aJG (dI R N s i).1 (eS R (dI R N s i).2 (aN N i)).1;show (Vl.join _ _).t.names.length<=_;omega,aI0 ih.s _⟩
  . exact ⟨ih.v,Nat.le_trans hn (Nat.mul_le_mul_right _ (Nat.le_succ i)),ih.s⟩
theorem aXi {R:Ro} (hR:R.ok) {s:Se} (hs:cD R s) (x:ByteArray):yC R (rJ R s x) 1099511627776:=by
 have h:=aI2 hR s x
 have h2:=aKE hR (N:=(eT R s x).1.t.names) (aI1 hs x) _ h.2
 have h3:=h2.n
 have h4:=h.2
 exact ⟨h2.v,Nat.le_trans h3 j3,h2.s⟩
end Go.Proofs.YtiblbnhknemloaaGreat
namespace Go.Proofs.YtiblbnhknemloaaGreat
open Tryz
open Go.Sx
abbrev aHc:List (Nat×Sm):= [(149,⟨[],sX⟩),(42,⟨[],xA⟩)]
theorem aMn:gX prog aHc:=⟨xB,aDz,trivial⟩
theorem bCH {R:Ro} (hR:R.ok) (s:Se) (x:ByteArray) (hs:cD R s):bH prog 234 [.c (.own 0 0),.c (.d (st x))] (HE R s) (jF (rJ R s x).1) (HE R (rJ R s x).2):=by
 have hG:=pL hR.g
 have xj:=hR.gn
 have hK:=oJ s.gets
 have rj:=wJ hs
 have mj:=gS R.G
 have ky:=aI2 hR s x
 have EF:=aI1 hs x
 have he:rJ R s x=dI R (eT R s x).1.t.names (eT R s x).2 (eT R s x).1.t.names.length:=rfl
 rw [he];have dj:=aSK hR s x rj
 generalize (eT R s x).1=V_ at*
 generalize (eT R s x).2=S_ at*
 clear he;have hA:=fun i=>aKE hR (N:=V_.t.names) EF i
 refine iZ (c:=13) (inl aA (l:=aHc) aMn func234 rfl j4 j4 rfl ?_)
 repeat' (fail)
 all_goals first|(conv=>whnf)
 all_goals first|((with_reducible show bM _ _ 193 _ _ _);refine bH.go 13 dj rfl rfl rfl rfl rfl rfl ?_ ?_ ?_)
 repeat' (first|exact trivial|refine ⟨?_,?_⟩|intro _)
 all_goals first|(conv=>whnf)
 all_goals first|(exact rfl)|skip
 refine aIZ aA (l:=aHc) aMn j4 (X:=Nat) (fun i=>⟨[(16,vx (.int .i64 i)),(15,vx (.int .i64 V_.t.names.length)),(14,.va (.c (.d (lst V_.t.names)))),(0,.va (.c (.own 0 0))),(4,.va (.c (.own 3 0))),(5,.va (.c (.own 4 0)))],[(0,.cells (EYn 2 R (dI R V_.t.names S_ i).2)),(2,.row 2 (dI R V_.t.names S_ i).2.gets.length (fH (dI R V_.t.names S_ i).2.gets)),(3,.cells [.d (bo false),.d (it 0),.d (it 0),.d (bo false),.d (it 0),.d (it 0),.d (bo false),.d (.v (.slice none 0 0))]),(4,.cells [.d (bo ((dI R V_.t.names S_ i).1).i.s.some),.d (it ((dI R V_.t.names S_ i).1).i.s.lo),.d (it ((dI R V_.t.names S_ i).1).i.s.hi),.d (bo ((dI R V_.t.names S_ i).1).i.c.some),.d (it ((dI R V_.t.names S_ i).1).i.c.m),.d (it ((dI R V_.t.names S_ i).1).i.c.r),.d (bo ((dI R V_.t.names S_ i).1).t.null),.d (lst ((dI R V_.t.names S_ i).1).t.names)])],5,f234.ntmps⟩) (fun i=>V_.t.names.length-i) (fun i=>i<=V_.t.names.length) [] [0] (fun i _ _=>i+1) (aTt 13 [0,1] [3,4]) [0,1,4,2,3] 0 0 0 ?_ ?_ ?_
 . exact Nat.zero_le _
 . repeat' (first|exact j2w|refine ⟨?_,?_⟩|fail)
   all_goals trace_state
 . rintro i k1
   have yq:=hA i j3
   rcases Nat.lt_or_ge i V_.t.names.length with hi|hi
   . have ag:decide ((i:Int)<(V_.t.names.length:Int))=true:=decide_eq_true j3
     have ka:(0:Int)<=(i:Int)/\ (i:Int)<(V_.t.names.length:Int):=j3
     have Da:=oJ (dI R V_.t.names S_ i).2.gets
     have Bc:=wJ yq.s
     have td:=aE6 hR (dI R V_.t.names S_ i).2 (aN V_.t.names (Int.toNat (i:Int)))
     have tf:=yq.v
     have GK:=yq.n
     cases hq:jG R.G (aN V_.t.names (Int.toNat (i:Int))) with
     |true=>
      have qj:jG (bN R.G.length (dC R.G)) (aN V_.t.names (Int.toNat (i:Int)))=true:=by rw [mj];exact hq
      have e:dI R V_.t.names S_ (i+1)=(Vl.join (dI R V_.t.names S_ i).1 (eS R (dI R V_.t.names S_ i).2 (aN V_.t.names (Int.toNat (i:Int)))).1,(eS R (dI R V_.t.names S_ i).2 (aN V_.t.names (Int.toNat (i:Int)))).2):=if_pos hq
      repeat' (first|exact j5r|refine ⟨?_,?_⟩|intro _)
      all_goals first|(conv=>whnf)
      all_goals first|((with_reducible show aO _ _ (.region 7 _ _) _ _);refine cO aA (l:=aHc) aMn ([.take 0,.take 1,.take 2,.act 3 [0] [32,33],.act 4 [] [31,34],.act 5 [] [5,35]]) j4 ?_)
      all_goals repeat' (first|refine ⟨?_,?_⟩|fail)
      all_goals first|(conv=>whnf)
      all_goals first|((with_reducible show bM _ _ 230 _ _ _);refine bH.go 13 (aLA hR (dI R V_.t.names S_ i).2 (aN V_.t.names (Int.toNat (i:Int))) Bc) rfl rfl rfl rfl rfl rfl ?_ ?_ ?_)|skip
      all_goals (repeat' (first|exact trivial|refine ⟨?_,?_⟩|intro _));all_goals first|apply qq|conv=>whnf
      all_goals (repeat' (fail));all_goals first|apply qq|conv=>whnf
      all_goals (try dsimp only)
      all_goals (try simp only [e,bI,eZ])
      all_goals first|exact j6q|exact j3a|exact td.1.2.1.1.1|exact td.1.2.1.1.2|exact td.1.2.1.2.1|exact td.1.2.1.2.2|exact td.1.2.2.1.1|exact td.1.2.2.1.2|exact td.1.2.2.2.1|exact td.1.2.2.2.2|exact tf.2.1.1.1|exact tf.2.1.1.2|exact tf.2.1.2.1|exact tf.2.1.2.2|exact tf.2.2.1.1|exact tf.2.2.1.2|exact tf.2.2.2.1|exact tf.2.2.2.2
     |false=>
      have qj:jG (bN R.G.length (dC R.G)) (aN V_.t.names (Int.toNat (i:Int)))=false:=by rw [mj];exact hq
      have e:dI R V_.t.names S_ (i+1)=dI R V_.t.names S_ i:=if_neg (by rw [Int.toNat_natCast] at hq;rw [hq];decide)
      (repeat' (first|exact trivial|exact j5r|refine ⟨?_,?_⟩|intro _));all_goals first|apply qq|conv=>whnf
      all_goals (try dsimp only)
      all_goals (try simp only [e,bI,eZ])
      all_goals first|exact j6q|exact j3a
   . have ag:decide ((i:Int)<(V_.t.names.length:Int))=false:=decide_eq_false j3
     obtain rfl:i=V_.t.names.length:=j3
     repeat' (first|exact j3i|refine ⟨?_,?_⟩|intro _)
     all_goals first|(conv=>whnf)
     all_goals first|(exact rfl)
theorem aRI {lo a b c d x y:Int} (ha:a<=x) (hb:x<=b) (hc:c<=y) (hd:y<=d) (h1:lo<=a*c) (h2:lo<=a*d) (h3:lo<=b*c) (h4:lo<=b*d):lo<=x*y:=by
 have e1:lo<=a*y:=by
  rcases Int.le_total 0 a with h|h
  . exact Int.le_trans h1 (Int.mul_le_mul_of_nonneg_left hc h)
  . exact Int.le_trans h2 (Int.mul_le_mul_of_nonpos_left h hd)
 have e2:lo<=b*y:=by
  rcases Int.le_total 0 b with h|h
  . exact Int.le_trans h3 (Int.mul_le_mul_of_nonneg_left hc h)
  . exact Int.le_trans h4 (Int.mul_le_mul_of_nonpos_left h hd)
 rcases Int.le_total 0 y with h|h
 . exact Int.le_trans e1 (Int.mul_le_mul_of_nonneg_right ha h)
 . exact Int.le_trans e2 (Int.mul_le_mul_of_nonpos_right hb h)
theorem bA3 {hi a b c d x y:Int} (ha:a<=x) (hb:x<=b) (hc:c<=y) (hd:y<=d) (h1:a*c<=hi) (h2:a*d<=hi) (h3:b*c<=hi) (h4:b*d<=hi):x*y<=hi:=by
 have:=aRI (lo:= -hi) (a:= -b) (b:= -a) (c:=c) (d:=d) (x:= -x) (y:=y) j3 j3 hc hd j1d j1d j1d j1d
 rw [Int.neg_mul] at this;omega
theorem aPh {x y m:Int} (hy:y≠0) (h1:y<=m+1) (h2: -y<=m+1):(0<=x->0<=x.tmod y/\ x.tmod y<=x/\ x.tmod y<=m)/\ (x<=0->x<=x.tmod y/\ x.tmod y<=0/\ -m<=x.tmod y):=by
 have key: ∀x:Int,0<=x->0<=x.tmod y/\ x.tmod y<=x/\ x.tmod y<=m:=by
  intro x hx;rw [Int.tmod_eq_emod_of_nonneg hx];have g1:=Int.emod_nonneg x hy
  have g2:=Int.emod_lt x hy
  refine ⟨g1, ?_,by omega⟩
  rcases Int.lt_or_gt_of_ne hy with h|h
  . rw [<-Int.emod_neg];have:=Int.mul_ediv_add_emod x (-y)
    have h2:=Int.mul_nonneg (show 0<= -y by omega) (Int.ediv_nonneg hx (show 0<= -y by omega))
    omega
  . have:=Int.mul_ediv_add_emod x y
    have h2:=Int.mul_nonneg (show 0<=y by omega) (Int.ediv_nonneg hx (show 0<=y by omega))
    omega
 refine ⟨key x,fun h=> ?_⟩
 have:=key (-x) j3
 rw [Int.neg_tmod] at this;omega
def wr (n:Int):Int:=(n+9223372036854775808)%18446744073709551616-9223372036854775808
theorem aB9 (n:Int): -9223372036854775808<=wr n/\ wr n<9223372036854775808:=by unfold wr;omega
def dB (op a b:Int):Int:=if op=10 then a+b else if op=11 then a-b else if op=7 then a*b else 0
def fN (op:Int):Bool:=op==10||(op==11||op==7)
def aEr (op a b:Int):Bool:=if op=12 then decide (a<b) else if op=13 then decide (a<=b) else if op=14 then decide (a=b) else if op=15 then decide (a≠b) else if op=16 then decide (a≠0)&&decide (b≠0) else decide (a≠0)||decide (b≠0)
def fX (op a b:Int):Int:=if fN op then wr (dB op a b) else if op=8 then (if b=0 then 0 else wr (a.tdiv b)) else if op=9 then (if b=0 then 0 else a.tmod b) else if 12<=op/\ op<=17 then (if aEr op a b then 1 else 0) else 0
def mP (op b:Int):Int:=if fN op then 0 else if op=8 \/op=9 then (if b=0 then 10 else 0) else if 12<=op/\ op<=17 then 0 else 2
def aCa:Sp:=Sp.of (-9223372036854775808) 9223372036854775807
def fY:Sp:=⟨false,0,0⟩
def rK (lo hi:Int):Sp:=if hi-lo≥18446744073709551616 then aCa else if wr lo>wr hi then aCa else Sp.of (wr lo) (wr hi)
def oS:Int->List Int->Int:=fun a l=>l.foldl (fun a b=>if b<a then b else a) a
def oT:Int->List Int->Int:=fun a l=>l.foldl (fun a b=>if a<b then b else a) a
theorem aQx: ∀(l:List Int) (a:Int),oS a l<=a/\ ∀x,x∈l->oS a l<=x
 | [],a=>⟨Int.le_refl _,fun x h=>by cases h⟩
 |b::l,a=>by
  have h:=aQx l (if b<a then b else a)
  have e:oS a (b::l)=oS (if b<a then b else a) l:=rfl
  rw [e];refine ⟨?_,fun x hx=> ?_⟩
  . have:=h.1;split at this<;>split<;>omega
  . rcases List.mem_cons.1 hx with rfl|hx
    . have:=h.1;split at this<;>split<;>omega
    . exact h.2 x hx
theorem aQy: ∀(l:List Int) (a:Int),a<=oT a l/\ ∀x,x∈l->x<=oT a l
 | [],a=>⟨Int.le_refl _,fun x h=>by cases h⟩
 |b::l,a=>by
  have h:=aQy l (if a<b then b else a)
  have e:oT a (b::l)=oT (if a<b then b else a) l:=rfl
  rw [e];refine ⟨?_,fun x hx=> ?_⟩
  . have:=h.1;split at this<;>split<;>omega
  . rcases List.mem_cons.1 hx with rfl|hx
    . have:=h.1;split at this<;>split<;>omega
    . exact h.2 x hx
def jH:List Int->Sp
 | []=>fY
 |x::l=>rK (oS x (x::l)) (oT x (x::l))
def pN (f:Int->Int->Int) (a b:Sp):List Int:= [f a.lo b.lo,f a.lo b.hi,f a.hi b.lo,f a.hi b.hi]
def vE (b:Sp):Sp:=b.meet ⟨true, -9223372036854775808, -1⟩
def vF (b:Sp):Sp:=b.meet ⟨true,1,9223372036854775807⟩
def parts (b:Sp):List Sp:=(if (vE b).none then [] else [vE b])++(if (vF b).none then [] else [vF b])
def aEs (a b:Sp):Sp:=jH ((parts b).flatMap fun p=>pN Int.tdiv a p)
def dW (n:Int):Int:=if n<0 then-n else n
def gH (b:Sp):Int:=(if dW b.lo<dW b.hi then dW b.hi else dW b.lo)-1
def mG (a b:Sp):Sp:=if (parts b).isEmpty then fY else if a.lo=a.hi/\ b.lo=b.hi then Sp.of (fX 9 a.lo b.lo) (fX 9 a.lo b.lo) else Sp.of (if a.lo<0 then (if a.lo< -gH b then-gH b else a.lo) else 0) (if 0<a.hi then (if gH b<a.hi then gH b else a.hi) else 0)
theorem aQz {x y:Int} (h:y≠0):fX 9 x y=x.tmod y:=by
 unfold fX;rw [if_neg j5,if_neg j5,if_pos rfl,if_neg h]
theorem aQA {x y:Int} (h:y≠0):fX 8 x y=wr (x.tdiv y):=by
 unfold fX;rw [if_neg j5,if_pos rfl,if_neg h]
def jI (always never:Bool):Sp:=if always then Sp.of 1 1 else if never then Sp.of 0 0 else Sp.of 0 1
def pQ (a:Sp) (n:Int):Bool:=decide (a.lo=n)&&decide (a.hi=n)
def eqS (a b:Sp):Bool:=(a.some==b.some)&&(decide (a.lo=b.lo)&&decide (a.hi=b.hi))
def qD (op:Int) (a b:Sp):Sp:=
 if op=12 then jI (decide (a.hi<b.lo)) (decide (a.lo≥b.hi))
 else if op=13 then jI (decide (a.hi<=b.lo)) (decide (a.lo>b.hi))
 else if op=14 then jI (decide (a.lo=a.hi)&&eqS b a) (decide (a.hi<b.lo)||decide (b.hi<a.lo))
 else if op=15 then jI (decide (a.hi<b.lo)||decide (b.hi<a.lo)) (decide (a.lo=a.hi)&&eqS b a)
 else if op=16 then jI (!a.has 0&& !b.has 0) (pQ a 0||pQ b 0)
 else if op=17 then jI (!a.has 0|| !b.has 0) (pQ a 0&&pQ b 0)
 else fY
def jR (op:Int) (a b:Sp):Sp:=
 if a.none||b.none then fY
 else if fN op then jH (pN (dB op) a b)
 else if op=8 then aEs a b
 else if op=9 then mG a b
 else qD op a b
theorem aDj {x y:Int} (rx: -9223372036854775808<=x/\ x<9223372036854775808) (ry: -9223372036854775808<=y/\ y<9223372036854775808) (h0:y≠0) (hn: ¬(x= -9223372036854775808/\ y= -1)): -9223372036854775808<=x.tdiv y/\ x.tdiv y<9223372036854775808:=by
 by_cases h1:y= -1
 . subst h1;rw [show (-1:Int)= -(1) from rfl,Int.tdiv_neg,Int.tdiv_one];omega
 by_cases h2:y=1
 . subst h2;rw [Int.tdiv_one];exact rx
 have h3:2<=y.natAbs:=j3
 have h4:(x.tdiv y).natAbs=x.natAbs/y.natAbs:=Int.natAbs_tdiv x y
 have h5:x.natAbs/y.natAbs<=x.natAbs/2:=Nat.div_le_div_left h3 j5
 omega
end Go.Proofs.YtiblbnhknemloaaGreat
