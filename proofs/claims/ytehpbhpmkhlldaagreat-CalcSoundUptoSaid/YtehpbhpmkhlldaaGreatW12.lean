/- What congruences come to: plain laws. No program in sight. -/
import Derived.Test.YtehpbhpmkhlldaaGreatW11
set_option linter.all false
set_option maxHeartbeats 8000000
set_option maxRecDepth 100000
namespace Go.Proofs.YtehpbhpmkhlldaaGreat
open Go.Sx
theorem part_odd (k a:Nat) (h:a<2^k):(2*a+1)&&&(2^(k+1)-(2*a+1))=1:=by
 have e:(2^(k+1)-(2*a+1))/2=2^k-(a+1):=by rw [Nat.pow_succ];omega
 have e2:(2^(k+1)-(2*a+1))%2=1:=by rw [Nat.pow_succ];omega
 apply Nat.eq_of_testBit_eq
 intro i
 rw [Nat.testBit_and]
 cases i with
 |zero=>rw [Nat.testBit_zero,Nat.testBit_zero,e2];simp
 |succ i=>
  rw [Nat.testBit_succ,Nat.testBit_succ,e,show (2*a+1)/2=a by omega,Nat.testBit_two_pow_sub_succ h,Nat.testBit_succ]
  cases a.testBit i<;>simp
theorem part_even (k a:Nat) (h:a<2^k):(2*a)&&&(2^(k+1)-2*a)=2*(a&&&(2^k-a)):=by
 have e:(2^(k+1)-2*a)/2=2^k-a:=by rw [Nat.pow_succ];omega
 apply Nat.eq_of_testBit_eq
 intro i
 rw [Nat.testBit_and]
 cases i with
 |zero=>rw [Nat.testBit_zero,Nat.testBit_zero,Nat.testBit_zero];simp
 |succ i=>rw [Nat.testBit_succ,Nat.testBit_succ,Nat.testBit_succ,e,show 2*a/2=a by omega,show 2*(a&&&(2^k-a))/2=a&&&(2^k-a) by omega,Nat.testBit_and]
theorem part_ok: ∀(k m:Nat),0<m->m<2^k->(m&&&(2^k-m))∣m/\ (m&&&(2^k-m))∣2^k/\ 0<(m&&&(2^k-m))
 |0,m,h0,h=>by simp at h;omega
 |k+1,m,h0,h=>by
  rcases Nat.mod_two_eq_zero_or_one m with e|e
  . obtain ⟨a,rfl⟩: ∃a,m=2*a:=⟨m/2,by omega⟩
    have ha:a<2^k:=by rw [Nat.pow_succ] at h;omega
    have ih:=part_ok k a (by omega) ha
    rw [part_even k a ha]
    refine ⟨Nat.mul_dvd_mul_left 2 ih.1, ?_,by have:=ih.2.2;omega⟩
    rw [Nat.pow_succ,Nat.mul_comm (2^k)];exact Nat.mul_dvd_mul_left 2 ih.2.1
  . obtain ⟨a,rfl⟩: ∃a,m=2*a+1:=⟨m/2,by omega⟩
    have ha:a<2^k:=by rw [Nat.pow_succ] at h;omega
    rw [part_odd k a ha]
    exact ⟨Nat.one_dvd _,Nat.one_dvd _,by decide⟩
def partI (m:Int):Int:=((m.toNat&&&(2^64-m.toNat):Nat):Int)
theorem partI_ok {m:Int} (h:0<m) (h1:m<9223372036854775808):partI m∣m/\ partI m∣18446744073709551616/\ 0<partI m/\ partI m<=m:=by
 obtain ⟨n,rfl⟩:=Int.eq_ofNat_of_zero_le (Int.le_of_lt h)
 obtain ⟨a,b,c⟩:=part_ok 64 n (by omega) (by omega)
 unfold partI
 rw [Int.toNat_natCast]
 have d:=Nat.le_of_dvd (by omega) a
 generalize n&&&(2^64-n)=p at*
 exact ⟨Int.natCast_dvd_natCast.2 a,Int.natCast_dvd_natCast.2 b,by omega,by omega⟩
theorem partI_0:partI 0=0:=by unfold partI;rw [show Int.toNat 0=0 from rfl,Nat.zero_and];rfl
theorem wr_dvd (n:Int):18446744073709551616∣wr n-n:=by unfold wr;omega
def Cg.all:Cg:=Cg.of 1 0
theorem of_dvd {m r n:Int} (h:0<=m):(Cg.of m r).has n=true↔m∣n-r:=by
 have e:Cg.of m r=⟨true,m,md r m⟩:=by unfold Cg.of;rw [if_neg (by omega)]
 have t:(Cg.of m r).tidy:=by rw [e];exact .inr ⟨rfl,h,fun h=>md_bound _ _ h⟩
 rw [cg_has_dvd t (by rw [e]),e]
 dsimp only
 refine dvd_shift ?_
 unfold md
 split
 . rw [Int.sub_self];exact Int.dvd_zero _
 . rw [Int.emod_def,show r-m*(r/m)-r= -(m*(r/m)) by omega,Int.dvd_neg];exact Int.dvd_mul_right _ _
theorem all_dvd (n:Int):Cg.all.has n=true:=(of_dvd (by decide)).2 (Int.one_dvd _)
def linC (op m:Int) (a b:Cg) (wraps:Bool):Cg:=
 let k:=if wraps then partI m else m
 if exB op=false \/k=0 then Cg.all else Cg.of k (exI op a.r b.r%k)
theorem lin_sound {op m x y:Int} {a b:Cg} {wraps:Bool} (hm:0<=m) (hm1:m<9223372036854775808) (hd:m∣exI op x y-exI op a.r b.r) (hw:wraps=false->exB op=true-> -9223372036854775808<=exI op x y/\ exI op x y<9223372036854775808) (ho:exB op=true):(linC op m a b wraps).has (doI op x y)=true:=by
 have e:doI op x y=wr (exI op x y):=by unfold doI;rw [if_pos ho]
 rw [e]
 have key: ∀k:Int,0<=k->(k≠0->k∣wr (exI op x y)-exI op a.r b.r)->(if exB op=false \/k=0 then Cg.all else Cg.of k (exI op a.r b.r%k)).has (wr (exI op x y))=true:=by
  intro k h0 hk
  split
  . exact all_dvd _
  . rename_i h1
    have hk:=hk fun h=>h1 (.inr h)
    rw [of_dvd h0]
    refine (dvd_shift ?_).1 hk
    rw [Int.emod_def,show exI op a.r b.r-(exI op a.r b.r-k*(exI op a.r b.r/k))=k*(exI op a.r b.r/k) by omega]
    exact Int.dvd_mul_right _ _
 unfold linC
 cases wraps with
 |false=>
  refine key m hm fun _=> ?_
  rw [wr_id (hw rfl ho)];exact hd
 |true=>
  rcases Int.lt_or_eq_of_le hm with h0|h0
  . obtain ⟨p1,p2,p3,_⟩:=partI_ok h0 hm1
    refine key (partI m) (by omega) fun _=> ?_
    have h1:=Int.dvd_trans p2 (wr_dvd (exI op x y))
    have h2:=Int.dvd_trans p1 hd
    have:=Int.dvd_add h1 h2
    rwa [show wr (exI op x y)-exI op x y+(exI op x y-exI op a.r b.r)=wr (exI op x y)-exI op a.r b.r by omega] at this
  . subst h0
    exact key (partI 0) (by rw [partI_0];decide) fun h=>absurd partI_0 h
def sclI (m c:Int):Int:=if sizeI c>9223372036854775807 then m else if wIntB (m*sizeI c)=true then m*sizeI c else m
theorem scl_ok {m c z:Int} (hm:0<=m) (hm1:m<9223372036854775808) (hz:m∣z):0<=sclI m c/\ sclI m c<9223372036854775808/\ sclI m c∣c*z:=by
 have h0:m∣c*z:=Int.dvd_mul_of_dvd_right hz
 unfold sclI
 split
 . exact ⟨hm,hm1,h0⟩
 . split
   . rename_i hw
     have hw:=of_decide_eq_true hw
     have hs:0<=sizeI c:=by unfold sizeI;split<;>omega
     refine ⟨Int.mul_nonneg hm hs,hw.2, ?_⟩
     obtain ⟨k,rfl⟩:=hz
     unfold sizeI
     split
     . exact ⟨-k,by rw [Int.mul_neg,Int.mul_neg,Int.neg_mul,Int.neg_neg, <-Int.mul_assoc,Int.mul_comm c m]⟩
     . exact ⟨k,by rw [<-Int.mul_assoc,Int.mul_comm c m]⟩
   . exact ⟨hm,hm1,h0⟩
def alC (c:Cg) (n:Int):Bool:=c.m==0&&c.r==n
def prod0 (a b:Cg) (wraps:Bool):Cg:=
 if alC a 0 then Cg.of 0 0 else if a.m=0 then linC 7 (sclI b.m a.r) a b wraps else linC 7 (Int.gcd a.m b.m:Int) a b wraps
def prodC (a b:Cg) (wraps:Bool):Cg:=if a.m≠0/\ b.m=0 then prod0 b a wraps else prod0 a b wraps
def quoC (a b:Cg) (wraps:Bool):Cg:=
 if alC b 0 then Cg.none else if b.m≠0 \/wraps=true then Cg.all
 else if a.m%sizeI b.r≠0 \/sizeI a.r%sizeI b.r≠0 then Cg.all
 else Cg.of (a.m/sizeI b.r) (a.r.tdiv b.r)
def rstC (a b:Cg):Cg:=if alC b 0 then Cg.none else Cg.of (Int.gcd (Int.gcd a.m b.m:Int) (sizeI b.r):Int) a.r
def aptC (a b:Cg):Bool:= !(Cg.meet (Cg.of (Int.gcd a.m b.m:Int) a.r) (Cg.of 0 b.r)).some
def cmpC (op:Int) (a b:Cg):Cg:=
 if op=15 then (if aptC a b then Cg.of 0 1 else Cg.all)
 else if op=14 then (if aptC a b then Cg.of 0 0 else Cg.all)
 else if op=16 then (if alC a 0||alC b 0 then Cg.of 0 0 else if !a.has 0&& !b.has 0 then Cg.of 0 1 else Cg.all)
 else if op=17 then (if !a.has 0|| !b.has 0 then Cg.of 0 1 else Cg.all)
 else if op=12 \/op=13 then Cg.all else Cg.none
def rsDo0 (op:Int) (a b:Cg) (wraps:Bool):Cg:=
 if !a.some|| !b.some then Cg.none
 else if a.m=0/\ b.m=0 then (if doE op b.r≠0 then Cg.none else Cg.of 0 (doI op a.r b.r))
 else if op=10 \/op=11 then linC op (Int.gcd a.m b.m:Int) a b wraps
 else if op=7 then prodC a b wraps
 else if op=8 then quoC a b wraps
 else if op=9 then rstC a b
 else cmpC op a b
def rsDo (op:Int) (a b:Cg) (wraps:Bool):Cg:=rsDo0 op a.clean b.clean wraps
def noWr (op x y:Int):Prop:=(exB op=true-> -9223372036854775808<=exI op x y/\ exI op x y<9223372036854775808)/\ (op=8-> ¬(x= -9223372036854775808/\ y= -1))
theorem ex7 (x y:Int):exI 7 x y=x*y:=rfl
theorem gcd_lt {m n:Int} (hm:0<=m/\ m<9223372036854775808) (hn:0<=n/\ n<9223372036854775808):(Int.gcd m n:Int)<9223372036854775808:=by
 rcases Int.lt_or_eq_of_le hm.1 with h|rfl
 . have:=Int.le_of_dvd h (Int.gcd_dvd_left m n);omega
 . rcases Int.lt_or_eq_of_le hn.1 with h|rfl
   . have:=Int.le_of_dvd h (Int.gcd_dvd_right 0 n);omega
   . decide
theorem prod0_sound {x y:Int} {a b:Cg} {wraps:Bool} (ma:0<=a.m/\ a.m<9223372036854775808) (mb:0<=b.m/\ b.m<9223372036854775808) (hx:a.m∣x-a.r) (hy:b.m∣y-b.r) (hw:wraps=false->noWr 7 x y):(prod0 a b wraps).has (doI 7 x y)=true:=by
 unfold prod0
 split
 . rename_i h
   unfold alC at h
   rw [Bool.and_eq_true] at h
   rw [eq_of_beq h.1,eq_of_beq h.2,Int.zero_dvd] at hx
   have e:x=0:=by omega
   subst e
   rw [of_dvd (by decide)]
   unfold doI;rw [if_pos (by decide),ex7,Int.zero_mul];exact ⟨0,rfl⟩
 . split
   . rename_i h
     rw [h,Int.zero_dvd] at hx
     have e:x=a.r:=by omega
     subst e
     have s:=scl_ok (c:=a.r) mb.1 mb.2 hy
     refine lin_sound s.1 s.2.1 ?_ (fun h1=>(hw h1).1) (by decide)
     rw [ex7,ex7, <-Int.mul_sub];exact s.2.2
   . refine lin_sound (Int.natCast_nonneg _) (gcd_lt ma mb) ?_ (fun h1=>(hw h1).1) (by decide)
     rw [ex7,ex7]
     exact cg_mul (Int.dvd_trans (Int.gcd_dvd_left ..) hx) (Int.dvd_trans (Int.gcd_dvd_right ..) hy)
theorem doI7c (x y:Int):doI 7 x y=doI 7 y x:=by unfold doI;rw [if_pos (by decide),if_pos (by decide),ex7,ex7,Int.mul_comm]
theorem prod_sound {x y:Int} {a b:Cg} {wraps:Bool} (ma:0<=a.m/\ a.m<9223372036854775808) (mb:0<=b.m/\ b.m<9223372036854775808) (hx:a.m∣x-a.r) (hy:b.m∣y-b.r) (hw:wraps=false->noWr 7 x y):(prodC a b wraps).has (doI 7 x y)=true:=by
 unfold prodC
 split
 . rw [doI7c]
   refine prod0_sound mb ma hy hx fun h=> ?_
   have:=hw h
   unfold noWr at*
   rw [ex7] at*
   rw [Int.mul_comm]
   exact ⟨this.1,fun h=>absurd h (by decide)⟩
 . exact prod0_sound ma mb hx hy hw
theorem cg_clean_tidy (c:Cg):c.clean.tidy:=by
 unfold Cg.clean
 split
 . unfold Cg.of
   split
   . exact .inr ⟨rfl,by show (0:Int)<=1;decide,fun h=>md_bound _ _ h⟩
   . exact .inr ⟨rfl,by show (0:Int)<=c.m;omega,fun h=>md_bound _ _ h⟩
 . exact .inl rfl
theorem size_dvd {a c:Int}:sizeI a%sizeI c=0↔c∣a:=by
 rw [<-Int.dvd_iff_emod_eq_zero]
 unfold sizeI
 split<;>split<;>simp only [Int.neg_dvd,Int.dvd_neg]
theorem size_pos {c:Int} (h:c≠0):0<sizeI c:=by unfold sizeI;split<;>omega
theorem quo_sound {x y:Int} {a b:Cg} {wraps:Bool} (ma:0<=a.m/\ a.m<9223372036854775808) (rx: -9223372036854775808<=x/\ x<9223372036854775808) (ry: -9223372036854775808<=y/\ y<9223372036854775808) (hx:a.m∣x-a.r) (hy:b.m∣y-b.r) (h0:y≠0) (hw:wraps=false->noWr 8 x y):(quoC a b wraps).has (doI 8 x y)=true:=by
 unfold quoC
 split
 . rename_i h
   unfold alC at h
   rw [Bool.and_eq_true] at h
   rw [eq_of_beq h.1,eq_of_beq h.2,Int.zero_dvd] at hy
   omega
 . split
   . exact all_dvd _
   . rename_i h1
     have hb:b.m=0:=by
      rcases Classical.em (b.m=0) with h|h
      . exact h
      . exact absurd (Or.inl h) h1
     have hwf:wraps=false:=by
      cases wraps with
      |false=>rfl
      |true=>exact absurd (Or.inr rfl) h1
     rw [hb,Int.zero_dvd] at hy
     have e:y=b.r:=by omega
     subst e
     split
     . exact all_dvd _
     . rename_i h2
       have d1:sizeI b.r∣a.m:=by
        rcases Classical.em (a.m%sizeI b.r=0) with h|h
        . exact Int.dvd_iff_emod_eq_zero.2 h
        . exact absurd (Or.inl h) h2
       have d2:b.r∣a.r:=by
        rcases Classical.em (sizeI a.r%sizeI b.r=0) with h|h
        . exact size_dvd.1 h
        . exact absurd (Or.inr h) h2
       have sp:=size_pos h0
       have hn:=(hw hwf).2 rfl
       have hr: -9223372036854775808<=x.tdiv b.r/\ x.tdiv b.r<9223372036854775808:=quo_rng rx ry h0 hn
       rw [doI_div h0,wr_id hr,of_dvd (Int.ediv_nonneg ma.1 (by omega))]
       obtain ⟨t,ht⟩:=d1
       obtain ⟨s,hs⟩:=d2
       obtain ⟨k,hk⟩:=hx
       have e1:a.m/sizeI b.r=t:=by rw [ht,Int.mul_ediv_cancel_left _ (by omega)]
       have e2:a.r.tdiv b.r=s:=by rw [hs,Int.mul_tdiv_cancel_left _ h0]
       have hx2: ∃q,x=b.r*q/\ t∣q-s:=by
        unfold sizeI at ht
        split at ht
        . refine ⟨s-t*k, ?_,⟨-k,by rw [Int.mul_neg];omega⟩⟩
          have:x=a.r+a.m*k:=by omega
          rw [this,hs,ht,Int.mul_sub,Int.neg_mul,Int.neg_mul,Int.mul_assoc];omega
        . refine ⟨s+t*k, ?_,⟨k,by omega⟩⟩
          have:x=a.r+a.m*k:=by omega
          rw [this,hs,ht,Int.mul_add,Int.mul_assoc]
       obtain ⟨q,hq,hd⟩:=hx2
       rw [e1,e2,hq,Int.mul_tdiv_cancel_left _ h0]
       exact hd
theorem rst_sound {x y:Int} {a b:Cg} (hx:a.m∣x-a.r) (hy:b.m∣y-b.r) (h0:y≠0):(rstC a b).has (doI 9 x y)=true:=by
 unfold rstC
 split
 . rename_i h
   unfold alC at h
   rw [Bool.and_eq_true] at h
   rw [eq_of_beq h.1,eq_of_beq h.2,Int.zero_dvd] at hy
   omega
 . rw [of_dvd (Int.natCast_nonneg _),doI_rem h0]
   have g1:((Int.gcd (Int.gcd a.m b.m:Int) (sizeI b.r):Nat):Int)∣(Int.gcd a.m b.m:Int):=Int.gcd_dvd_left ..
   have g2:((Int.gcd (Int.gcd a.m b.m:Int) (sizeI b.r):Nat):Int)∣sizeI b.r:=Int.gcd_dvd_right ..
   generalize ((Int.gcd (Int.gcd a.m b.m:Int) (sizeI b.r):Nat):Int)=g at*
   refine cg_tmod (Int.dvd_trans (Int.dvd_trans g1 (Int.gcd_dvd_left ..)) hx) ?_
   have h1:=Int.dvd_trans (Int.dvd_trans g1 (Int.gcd_dvd_right ..)) hy
   have h2:g∣b.r:=by
    unfold sizeI at g2
    split at g2
    . exact (Int.dvd_neg).1 g2
    . exact g2
   have:=Int.dvd_add h1 h2
   rwa [show y-b.r+b.r=y by omega] at this
theorem apt_sound {x y:Int} {a b:Cg} (hx:a.m∣x-a.r) (hy:b.m∣y-b.r) (h:aptC a b=true):x≠y:=by
 rintro rfl
 have e:b.r-a.r=(x-a.r)-(x-b.r):=by omega
 have hg:(Int.gcd a.m b.m:Int)∣b.r-a.r:=by
  rw [e];exact Int.dvd_sub (Int.dvd_trans (Int.gcd_dvd_left ..) hx) (Int.dvd_trans (Int.gcd_dvd_right ..) hy)
 have o: ∀{m r:Int},0<=m->(Cg.of m r).tidy:=fun {m r} h=>by
  have e:Cg.of m r=⟨true,m,md r m⟩:=by unfold Cg.of;rw [if_neg (by omega)]
  rw [e];exact .inr ⟨rfl,h,fun h=>md_bound _ _ h⟩
 have t1:=o (m:=(Int.gcd a.m b.m:Int)) (r:=a.r) (Int.natCast_nonneg _)
 have t2:=o (m:=0) (r:=b.r) (by decide)
 have k:=(meet_law t1 t2).2.1 b.r ((of_dvd (Int.natCast_nonneg _)).2 hg) ((of_dvd (by decide)).2 (by rw [Int.sub_self];exact Int.dvd_refl _))
 unfold aptC Cg.meet at h
 rw [Cg.tidy_fix t1,Cg.tidy_fix t2] at h
 have k2:=(meet_law t1 t2).1
 rcases k2 with h3|⟨h3,_⟩
 . rw [h3] at k;cases k
 . rw [h3] at h;cases h
theorem alC_eq {c:Cg} {n x:Int} (hx:c.m∣x-c.r) (h:alC c n=true):x=n:=by
 unfold alC at h
 rw [Bool.and_eq_true] at h
 rw [eq_of_beq h.1,eq_of_beq h.2,Int.zero_dvd] at hx
 omega
theorem one_has (n:Int):(Cg.of 0 n).has n=true:=(of_dvd (by decide)).2 (by rw [Int.sub_self];exact Int.dvd_refl _)
theorem cmpC_sound {op x y:Int} {a b:Cg} (ho:12<=op/\ op<=17) (ta:a.has x=true) (tb:b.has y=true) (hx:a.m∣x-a.r) (hy:b.m∣y-b.r):(cmpC op a b).has (if cmpB op x y then 1 else 0)=true:=by
 have hc:op=12 \/op=13 \/op=14 \/op=15 \/op=16 \/op=17:=by omega
 have zx:a.has 0=false->x≠0:=fun h e=>by rw [<-e,ta] at h;cases h
 have zy:b.has 0=false->y≠0:=fun h e=>by rw [<-e,tb] at h;cases h
 unfold cmpC
 rcases hc with rfl|rfl|rfl|rfl|rfl|rfl
 . exact all_dvd _
 . exact all_dvd _
 . rw [if_neg (by decide),if_pos rfl]
   split
   . have:=apt_sound hx hy ‹_›
     have e:cmpB 14 x y=false:=by unfold cmpB;simp [this]
     rw [e];exact one_has 0
   . exact all_dvd _
 . rw [if_pos rfl]
   split
   . have:=apt_sound hx hy ‹_›
     have e:cmpB 15 x y=true:=by unfold cmpB;simp [this]
     rw [e];exact one_has 1
   . exact all_dvd _
 . rw [if_neg (by decide),if_neg (by decide),if_pos rfl]
   split
   . rename_i h
     have e:cmpB 16 x y=false:=by
      rcases Bool.or_eq_true_iff.1 h with h|h
      . have:=alC_eq hx h;unfold cmpB;simp [this]
      . have:=alC_eq hy h;unfold cmpB;simp [this]
     rw [e];exact one_has 0
   . split
     . rename_i h
       rw [Bool.and_eq_true,Bool.not_eq_true',Bool.not_eq_true'] at h
       have e:cmpB 16 x y=true:=by unfold cmpB;simp [zx h.1,zy h.2]
       rw [e];exact one_has 1
     . exact all_dvd _
 . rw [if_neg (by decide),if_neg (by decide),if_neg (by decide),if_pos rfl]
   split
   . rename_i h
     have e:cmpB 17 x y=true:=by
      rcases Bool.or_eq_true_iff.1 h with h|h
      . have:=zx (by simpa using h);unfold cmpB;simp [this]
      . have:=zy (by simpa using h);unfold cmpB;simp [this]
     rw [e];exact one_has 1
   . exact all_dvd _
theorem rs_sound {op x y:Int} {a b:Cg} {wraps:Bool} (ia:a.inR) (ib:b.inR) (hx:a.has x=true) (hy:b.has y=true) (rx: -9223372036854775808<=x/\ x<9223372036854775808) (ry: -9223372036854775808<=y/\ y<9223372036854775808) (he:doE op y=0) (hw:wraps=false->noWr op x y):(rsDo op a b wraps).has (doI op x y)=true:=by
 have ta:=cg_clean_tidy a
 have tb:=cg_clean_tidy b
 have hx':a.clean.has x=true:=by unfold Cg.has at*;rw [Cg.tidy_fix ta];exact hx
 have hy':b.clean.has y=true:=by unfold Cg.has at*;rw [Cg.tidy_fix tb];exact hy
 have sa:a.clean.some=true:=by unfold Cg.has at hx;rw [Bool.and_eq_true] at hx;exact hx.1
 have sb:b.clean.some=true:=by unfold Cg.has at hy;rw [Bool.and_eq_true] at hy;exact hy.1
 have dx:=(cg_has_dvd ta sa x).1 hx'
 have dy:=(cg_has_dvd tb sb y).1 hy'
 have ma:0<=a.clean.m/\ a.clean.m<9223372036854775808:=⟨Cg.clean_nn a,(Cg.clean_inR ia).1.2⟩
 have mb:0<=b.clean.m/\ b.clean.m<9223372036854775808:=⟨Cg.clean_nn b,(Cg.clean_inR ib).1.2⟩
 unfold rsDo
 generalize a.clean=c at*
 generalize b.clean=d at*
 unfold rsDo0
 rw [sa,sb,if_neg (by decide)]
 split
 . rename_i h
   rw [h.1,Int.zero_dvd] at dx
   rw [h.2,Int.zero_dvd] at dy
   have e1:x=c.r:=by omega
   have e2:y=d.r:=by omega
   subst e1 e2
   rw [if_neg (by rw [he];decide)]
   exact one_has _
 . have g0:=Int.natCast_nonneg (Int.gcd c.m d.m)
   have g1:=gcd_lt ma mb
   have gx:(Int.gcd c.m d.m:Int)∣x-c.r:=Int.dvd_trans (Int.gcd_dvd_left ..) dx
   have gy:(Int.gcd c.m d.m:Int)∣y-d.r:=Int.dvd_trans (Int.gcd_dvd_right ..) dy
   split
   . rename_i h
     rcases h with rfl|rfl
     . exact lin_sound g0 g1 (cg_add gx gy) (fun h=>(hw h).1) (by decide)
     . exact lin_sound g0 g1 (cg_sub gx gy) (fun h=>(hw h).1) (by decide)
   . split
     . rename_i h;subst h;exact prod_sound ma mb dx dy hw
     . split
       . rename_i h;subst h
         have h0:y≠0:=by rintro rfl;revert he;decide
         exact quo_sound ma rx ry dx dy h0 hw
       . split
         . rename_i h;subst h
           have h0:y≠0:=by rintro rfl;revert he;decide
           exact rst_sound dx dy h0
         . rename_i h1 h2 h3 h4
           have hb: ¬exB op=true:=by
            unfold exB;simp;omega
           have h5:12<=op/\ op<=17:=by
            unfold doE at he
            rw [if_neg hb,if_neg (by omega)] at he
            by_cases h:12<=op/\ op<=17
            . exact h
            . rw [if_neg h] at he;omega
           have e:doI op x y=if cmpB op x y then 1 else 0:=by unfold doI;rw [if_neg hb,if_neg h3,if_neg h4,if_pos h5]
           rw [e];exact cmpC_sound h5 hx' hy' dx dy
def wrB (op:Int) (a b:Sp):Bool:=
 if a.none||b.none then false
 else if op=8 then a.has (-9223372036854775808)&&b.has (-1)
 else (corners (exI op) a b).any fun e=>exB op&& !wIntB e
theorem wr_sound {op x y:Int} {a b:Sp} (hx:a.has x=true) (hy:b.has y=true) (h:wrB op a b=false):noWr op x y:=by
 unfold wrB at h
 rw [has_nn hx,has_nn hy,if_neg (by decide)] at h
 split at h
 . rename_i h8
   subst h8
   refine ⟨fun h=>absurd h (by decide),fun _ hb=> ?_⟩
   rw [hb.1] at hx;rw [hb.2] at hy
   rw [hx,hy] at h;cases h
 . rename_i h8
   refine ⟨fun ho=> ?_,fun h=>absurd h h8⟩
   rw [List.any_eq_false] at h
   have k: ∀e,e∈corners (exI op) a b-> -9223372036854775808<=e/\ e<9223372036854775808:=fun e he=>by
    have:=h e he
    rw [ho] at this
    have h2:wIntB e=true:=by simpa using this
    exact of_decide_eq_true h2
   have h1:=ex_lo (op:=op) (lo:= -9223372036854775808) hx hy fun z hz=>(k z hz).1
   have h2:=ex_hi (op:=op) (hi:=9223372036854775807) hx hy fun z hz=>by have:=(k z hz).2;omega
   omega
structure Bt (m0 r0 m1 r1 G:Int):Prop where
 e:G=(Int.gcd m0 m1:Int)
 p0:0<m0
 p1:0<m1
 a:0<=r0/\ r0<m0
 b:0<=r1/\ r1<m1
 h0:m0<9223372036854775808
 h1:m1<9223372036854775808
 l:m0*(m1/G)<9223372036854775808
theorem bt_facts {m0 r0 m1 r1 G:Int} (h:Bt m0 r0 m1 r1 G):
 (0<G/\ G<=m0/\ G<=m1)/\ (0<m1/G/\ m1/G<=m1)/\ (0<m0/G/\ m0/G<=m0)/\ Int.gcd (m0/G) (m1/G)=1/\ md (IntKind.wrap .i64 (r1-md r0 m1)) m1=(r1-r0)%m1/\ (0<=md r0 m1/\ md r0 m1<m1)/\ (0<=(r1-r0)%m1/\ (r1-r0)%m1<m1)/\ IntKind.wrap .u64 m0=m0/\ IntKind.wrap .u64 m1=m1/\ IntKind.wrap .u64 (m1.tdiv G)=m1/G/\ IntKind.wrap .u64 (m0.tdiv G)=m0/G/\ IntKind.wrap .u64 ((r1-r0)%m1)=(r1-r0)%m1/\ IntKind.wrap .u64 (((r1-r0)%m1).tdiv G)=(r1-r0)%m1/G/\ ((r1-r0)%m1/G).tmod (m1/G)=(r1-r0)%m1/G%(m1/G)/\ (0<=(r1-r0)%m1/G%(m1/G)/\ (r1-r0)%m1/G%(m1/G)<m1/G):=by
 obtain ⟨e,p0,p1,a,b,h0,h1,l⟩:=h
 have q:=quot_pos p0 p1
 have gq:=gcd_quot (N:=m1) p0
 rw [<-e] at q gq
 have g0:G<=m0:=by rw [e];exact Int.le_of_dvd p0 (Int.gcd_dvd_left ..)
 have g1:G<=m1:=by rw [e];exact Int.le_of_dvd p1 (Int.gcd_dvd_right ..)
 have d0:m0/G<=m0:=Int.ediv_le_self _ (by omega)
 have d1:m1/G<=m1:=Int.ediv_le_self _ (by omega)
 have k1:=md_bound r0 m1 p1
 have k2:IntKind.wrap .i64 (r1-md r0 m1)=r1-md r0 m1:=wI_id _ (by omega) (by omega)
 have k3:=sub_md r1 r0 m1 p1
 have k4:=Int.emod_nonneg (r1-r0) (show m1≠0 by omega)
 have k5:=Int.emod_lt_of_pos (r1-r0) p1
 have k6:0<=(r1-r0)%m1/G:=Int.ediv_nonneg k4 (by omega)
 have k7:(r1-r0)%m1/G<=(r1-r0)%m1:=Int.ediv_le_self _ k4
 refine ⟨⟨q.2.2,g0,g1⟩,⟨q.1,d1⟩,⟨q.2.1,d0⟩,gq,by rw [k2];exact k3,k1,⟨k4,k5⟩,wU_id _ (by omega) (by omega),wU_id _ (by omega) (by omega), ?_, ?_,wU_id _ (by omega) (by omega), ?_,Int.tmod_eq_emod_of_nonneg k6,Int.emod_nonneg _ (by omega),Int.emod_lt_of_pos _ q.1⟩
 . rw [Int.tdiv_eq_ediv_of_nonneg (by omega),wU_id _ (by omega) (by omega)]
 . rw [Int.tdiv_eq_ediv_of_nonneg (by omega),wU_id _ (by omega) (by omega)]
 . rw [Int.tdiv_eq_ediv_of_nonneg k4,wU_id _ k6 (by omega)]
theorem bt_end {m0 r0 m1 r1 G:Int} (h:Bt m0 r0 m1 r1 G):(0<=stepI m0 m1 r0 r1/\ stepI m0 m1 r0 r1<9223372036854775808)/\ (Wd.val (wd (Wd.val (wd r0)+Wd.val (wd (m0*stepI m0 m1 r0 r1))))+9223372036854775808)%18446744073709551616-9223372036854775808=r0+m0*stepI m0 m1 r0 r1:=by
 have f:=bt_facts h
 obtain ⟨e,p0,p1,a,b,h0,h1,l⟩:=h
 have s:=step_r (R:=r0) (S:=r1) p0 p1
 rw [<-e] at s
 have k1:m0*stepI m0 m1 r0 r1<=m0*(m1/G-1):=Int.mul_le_mul_of_nonneg_left (by omega) (by omega)
 have k2:0<=m0*stepI m0 m1 r0 r1:=Int.mul_nonneg (by omega) s.1
 rw [Int.mul_sub,Int.mul_one] at k1
 refine ⟨⟨s.1,by omega⟩, ?_⟩
 generalize m0*stepI m0 m1 r0 r1=p at*
 generalize m0*(m1/G)=q at*
 rw [wd_val (v:=r0) (by omega) (by omega),wd_val (v:=p) (by omega) (by omega),wd_val (v:=r0+p) (by omega) (by omega)]
 omega
theorem bt_rng {m0 r0 m1 r1 G:Int} (h:Bt m0 r0 m1 r1 G):0<=r0+m0*stepI m0 m1 r0 r1/\ r0+m0*stepI m0 m1 r0 r1<9223372036854775808:=by
 obtain ⟨e,p0,p1,a,b,h0,h1,l⟩:=h
 have s:=step_r (R:=r0) (S:=r1) p0 p1
 rw [<-e] at s
 have k1:m0*stepI m0 m1 r0 r1<=m0*(m1/G-1):=Int.mul_le_mul_of_nonneg_left (by omega) (by omega)
 have k2:0<=m0*stepI m0 m1 r0 r1:=Int.mul_nonneg (by omega) s.1
 rw [Int.mul_sub,Int.mul_one] at k1
 omega
theorem invI_r {a m:Int} (h:invOk a m (invI a m)):0<=invI a m/\ invI a m<m:=h.1
theorem step_eq {m0 r0 m1 r1 G:Int} (e:G=(Int.gcd m0 m1:Int)):(r1-r0)%m1/G%(m1/G)*invI (m0/G) (m1/G)%(m1/G)=stepI m0 m1 r0 r1:=by subst e;rfl
def FCBoth:List Ar->Option Rs
 | [.agg [.d (.v (.bool b0)),.d (.v (.int .i64 m0)),.d (.v (.int .i64 r0))],.agg [.d (.v (.bool b1)),.d (.v (.int .i64 m1)),.d (.v (.int .i64 r1))],.c (.d (.v (.int .u64 u2)))]=>some ⟨(Cg.inR ⟨b0,m0,r0⟩)/\ (Cg.inR ⟨b1,m1,r1⟩)/\ (0<=u2/\ u2<18446744073709551616)/\ (Bt m0 r0 m1 r1 u2),.va (.c (.d (it (r0+m0*stepI m0 m1 r0 r1)))),[]⟩
 |_=>none
theorem fcCBoth:FC Tryz.prog 96 FCBoth:=by
 intro xs pre r us h hp
 unfold FCBoth at h
 split at h
 . rename_i b0 m0 r0 b1 m1 r1 u2
   cases h
   obtain ⟨hp0,hp1,hp2,hp3⟩:=hp
   refine fcat tys_ok (l:= [(100,⟨[],FCMod⟩),(136,⟨[],FCInv⟩),(135,⟨[],FCTimes⟩),(122,⟨[],FWOf⟩),(95,⟨[],FWMul⟩),(137,⟨[],FWAdd⟩),(132,⟨[],FWLow⟩)]) ⟨fcCMod,fcCInv,fcCTimes,fcWOf,fcWMul,fcWAdd,fcWLow,trivial⟩ Tryz.func96 rfl (by kernel_rfl) false ?_
   have hb:=hp3
   obtain ⟨f1,f2,f3,f4,f5,f6,f7,f8,f9,f10,f11,f12,f13,f14,f15⟩:=bt_facts hb
   obtain ⟨z1,z2⟩:=bt_end hb
   have zw:IntKind.wrap .i64 (stepI m0 m1 r0 r1)=stepI m0 m1 r0 r1:=wI_id _ (by omega) z1.2
   have be:=hb.e
   have q0:=hb.p0
   have q1:=hb.p1
   have hqa:=hb.a
   have hqb:=hb.b
   have q2:=hb.h0
   have q3:=hb.h1
   have gU:=invI_r (a:=m0/u2) (m:=m1/u2) (by rw [be];exact inv_has q0 q1)
   repeat' (first|exact trivial|refine ⟨?_, ?_⟩|intro _)
   all_goals first|(with_reducible first|apply qa|apply qb|apply qc|apply qd)|(conv=>whnf)
   all_goals (try simp only [f5,f8,f9,f10,f11,f12,f13,f14,step_eq be,zw])
   all_goals first|omega|(rw [wI];omega)|exact f4|exact f15.1|exact f15.2|(exfalso;have q:=‹(_:Int)=0›;(try simp only [f5,f8,f9,f10,f11,f12,f13,f14] at q);omega)|exact congrArg (Value.int .i64) z2|exact wd_ok _|exact (wd_ok _).1.1|exact (wd_ok _).1.2|exact (wd_ok _).2.1|exact (wd_ok _).2.2
 . cases h
section
variable {a b:Cg}
theorem me_1 (h:(!a.clean.some)=true):Cg.meet a b=Cg.none:=by
 unfold Cg.meet Cg.meet0;rw [h];rfl
theorem me_2 (ha:(!a.clean.some)=false) (h:(!b.clean.some)=true):Cg.meet a b=Cg.none:=by
 unfold Cg.meet Cg.meet0;rw [h,ha];rfl
theorem me_s (ha:(!a.clean.some)=false) (hb:(!b.clean.some)=false): ¬((!a.clean.some|| !b.clean.some)=true):=by rw [ha,hb];decide
variable (ha:(!a.clean.some)=false) (hb:(!b.clean.some)=false)
include ha hb
theorem me_3 (zx:(a.clean.m==0)=true) (h:(!Cg.has b.clean a.clean.r)=true):Cg.meet a b=Cg.none:=by
 unfold Cg.meet Cg.meet0;rw [if_neg (me_s ha hb),if_pos (by simpa using zx),if_neg (by simpa using h)]
theorem me_4 (zx:(a.clean.m==0)=true) (h:(!Cg.has b.clean a.clean.r)=false):Cg.meet a b=a.clean:=by
 unfold Cg.meet Cg.meet0;rw [if_neg (me_s ha hb),if_pos (by simpa using zx),if_pos (by simpa using h)]
theorem me_5 (zx:(a.clean.m==0)=false) (zy:(b.clean.m==0)=true) (h:(!Cg.has a.clean b.clean.r)=true):Cg.meet a b=Cg.none:=by
 unfold Cg.meet Cg.meet0;rw [if_neg (me_s ha hb),if_neg (by simpa using zx),if_pos (by simpa using zy),if_neg (by simpa using h)]
theorem me_6 (zx:(a.clean.m==0)=false) (zy:(b.clean.m==0)=true) (h:(!Cg.has a.clean b.clean.r)=false):Cg.meet a b=b.clean:=by
 unfold Cg.meet Cg.meet0;rw [if_neg (me_s ha hb),if_neg (by simpa using zx),if_pos (by simpa using zy),if_pos (by simpa using h)]
variable (zx:(a.clean.m==0)=false) (zy:(b.clean.m==0)=false)
include zx zy
theorem me_p:(0<a.clean.m/\ 0<b.clean.m)/\ (0<(Int.gcd a.clean.m b.clean.m:Int)/\ (Int.gcd a.clean.m b.clean.m:Int)<=a.clean.m/\ (Int.gcd a.clean.m b.clean.m:Int)<=b.clean.m):=by
 have h1:=Cg.clean_nn a
 have h2:=Cg.clean_nn b
 have h3:a.clean.m≠0:=by simpa using zx
 have h4:b.clean.m≠0:=by simpa using zy
 have p0:0<a.clean.m:=by omega
 have p1:0<b.clean.m:=by omega
 exact ⟨⟨p0,p1⟩,(quot_pos p0 p1).2.2,Int.le_of_dvd p0 (Int.gcd_dvd_left ..),Int.le_of_dvd p1 (Int.gcd_dvd_right ..)⟩
theorem me_q (ra:a.clean.inR) (rb:b.clean.inR):IntKind.wrap .i64 (Int.gcd a.clean.m b.clean.m:Int)=(Int.gcd a.clean.m b.clean.m:Int)/\ IntKind.wrap .i64 (b.clean.m.tdiv (Int.gcd a.clean.m b.clean.m:Int))=b.clean.m/(Int.gcd a.clean.m b.clean.m:Int)/\ Wd.val (wd (a.clean.m*(b.clean.m/(Int.gcd a.clean.m b.clean.m:Int))))=Cg.lc a.clean b.clean/\ (0<=b.clean.m/(Int.gcd a.clean.m b.clean.m:Int)/\ b.clean.m/(Int.gcd a.clean.m b.clean.m:Int)<9223372036854775808):=by
 obtain ⟨⟨p0,p1⟩,g0,g1,g2⟩:=me_p ha hb zx zy
 have q:=quot_pos p0 p1
 have d:=Int.ediv_le_self (Int.gcd a.clean.m b.clean.m:Int) (show 0<=b.clean.m by omega)
 unfold Cg.inR at ra rb
 have m1:a.clean.m*(b.clean.m/(Int.gcd a.clean.m b.clean.m:Int))<=9223372036854775808*9223372036854775808:=Int.mul_le_mul (by omega) (by omega) (by omega) (by decide)
 have m0:0<=a.clean.m*(b.clean.m/(Int.gcd a.clean.m b.clean.m:Int)):=Int.mul_nonneg (by omega) (by omega)
 refine ⟨wI_id _ (by omega) (by omega), ?_,wd_val (by omega) (by omega),by omega,by omega⟩
 rw [Int.tdiv_eq_ediv_of_nonneg (by omega),wI_id _ (by omega) (by omega)]
theorem me_7 (ra:a.clean.inR) (rb:b.clean.inR) (h:((apartI a.clean.r b.clean.r).tmod (Int.gcd a.clean.m b.clean.m:Int) !=0)=true):Cg.meet a b=Cg.none:=by
 rw [Int.tmod_eq_emod_of_nonneg (apart_u ra.2 rb.2).1] at h
 unfold Cg.meet Cg.meet0;rw [if_neg (me_s ha hb),if_neg (by simpa using zx),if_neg (by simpa using zy),if_neg (by simpa using h)]
theorem me_7' (ra:a.clean.inR) (rb:b.clean.inR) (h:((apartI a.clean.r b.clean.r).tmod (Int.gcd a.clean.m b.clean.m:Int) !=0)=false):Cg.meet a b=(if wIntB (Cg.lc a.clean b.clean)=true then Cg.of (Cg.lc a.clean b.clean) (a.clean.r+a.clean.m*stepI a.clean.m b.clean.m a.clean.r b.clean.r) else if b.clean.m>a.clean.m then b.clean else a.clean):=by
 rw [Int.tmod_eq_emod_of_nonneg (apart_u ra.2 rb.2).1] at h
 unfold Cg.meet Cg.meet0;rw [if_neg (me_s ha hb),if_neg (by simpa using zx),if_neg (by simpa using zy),if_pos (by simpa using h)]
theorem me_8 (ra:a.clean.inR) (rb:b.clean.inR) (h:((apartI a.clean.r b.clean.r).tmod (Int.gcd a.clean.m b.clean.m:Int) !=0)=false) (hw:wIntB (Cg.lc a.clean b.clean)=true):Cg.meet a b=Cg.of (wIntV (Cg.lc a.clean b.clean)) (a.clean.r+a.clean.m*stepI a.clean.m b.clean.m a.clean.r b.clean.r):=by
 have e:wIntV (Cg.lc a.clean b.clean)=Cg.lc a.clean b.clean:=(wIn (of_decide_eq_true hw)).1
 rw [me_7' ha hb zx zy ra rb h,if_pos hw,e]
theorem me_9 (ra:a.clean.inR) (rb:b.clean.inR) (h:((apartI a.clean.r b.clean.r).tmod (Int.gcd a.clean.m b.clean.m:Int) !=0)=false) (hw:wIntB (Cg.lc a.clean b.clean)=false) (hg:decide (b.clean.m>a.clean.m)=true):Cg.meet a b=b.clean:=by
 rw [me_7' ha hb zx zy ra rb h,if_neg (by rw [hw];decide),if_pos (of_decide_eq_true hg)]
theorem me_10 (ra:a.clean.inR) (rb:b.clean.inR) (h:((apartI a.clean.r b.clean.r).tmod (Int.gcd a.clean.m b.clean.m:Int) !=0)=false) (hw:wIntB (Cg.lc a.clean b.clean)=false) (hg:decide (b.clean.m>a.clean.m)=false):Cg.meet a b=a.clean:=by
 rw [me_7' ha hb zx zy ra rb h,if_neg (by rw [hw];decide),if_neg (of_decide_eq_false hg)]
theorem me_bt (ra:a.clean.inR) (rb:b.clean.inR) (hw:wIntB (Cg.lc a.clean b.clean)=true):Bt a.clean.m a.clean.r b.clean.m b.clean.r (Int.gcd a.clean.m b.clean.m:Int):=by
 obtain ⟨⟨p0,p1⟩,_⟩:=me_p ha hb zx zy
 have h:=of_decide_eq_true hw
 exact ⟨rfl,p0,p1,(Cg.clean_red a).2 p0,(Cg.clean_red b).2 p1,ra.1.2,rb.1.2,h.2⟩
end
def FCMeet:List Ar->Option Rs
 | [.agg [.d (.v (.bool b0)),.d (.v (.int .i64 m0)),.d (.v (.int .i64 r0))],.agg [.d (.v (.bool b1)),.d (.v (.int .i64 m1)),.d (.v (.int .i64 r1))]]=>some ⟨(Cg.inR ⟨b0,m0,r0⟩)/\ (Cg.inR ⟨b1,m1,r1⟩),.va (Cg.ar (Cg.meet (⟨b0,m0,r0⟩:Cg) (⟨b1,m1,r1⟩:Cg))),[]⟩
 |_=>none
theorem fcCMeet:FC Tryz.prog 40 FCMeet:=by
 intro xs pre r us h hp
 unfold FCMeet at h
 split at h
 . rename_i b0 m0 r0 b1 m1 r1
   cases h
   obtain ⟨hp0,hp1⟩:=hp
   refine fcat tys_ok (l:= [(86,⟨[],FCClean⟩),(87,⟨[],FCNone⟩),(48,⟨[],FCHas⟩),(88,⟨[],FCGcd⟩),(89,⟨[],FCApart⟩),(95,⟨[],FWMul⟩),(94,⟨[],FWInt⟩),(96,⟨[],FCBoth⟩),(90,⟨[],FCOf⟩)]) ⟨fcCClean,fcCNone,fcCHas,fcCGcd,fcCApart,fcWMul,fcWInt,fcCBoth,fcCOf,trivial⟩ Tryz.func40 rfl (by kernel_rfl) false ?_
   have hx:=Cg.clean_inR hp0
   have hy:=Cg.clean_inR hp1
   have hxx:=hx
   have hyy:=hy
   unfold Cg.inR at hxx hyy
   have hx0:=Cg.clean_nn ⟨b0,m0,r0⟩
   have hy0:=Cg.clean_nn ⟨b1,m1,r1⟩
   have ux:=wU_id (Cg.clean ⟨b0,m0,r0⟩).m hx0 (by have:=hx.1.2;omega)
   have uy:=wU_id (Cg.clean ⟨b1,m1,r1⟩).m hy0 (by have:=hy.1.2;omega)
   have vx:0<=(Cg.clean ⟨b0,m0,r0⟩).m/\ (Cg.clean ⟨b0,m0,r0⟩).m<18446744073709551616:=⟨hx0,by have:=hx.1.2;omega⟩
   have vy:0<=(Cg.clean ⟨b1,m1,r1⟩).m/\ (Cg.clean ⟨b1,m1,r1⟩).m<18446744073709551616:=⟨hy0,by have:=hy.1.2;omega⟩
   have g1:=gcd_u vx vy
   have g2:=apart_u hx.2 hy.2
   have g3:=gcdJ_u hx hy hx0 hy0
   repeat' (first|exact trivial|(with_reducible first|exact hx|exact hy|exact hx.1|exact hx.2|exact hy.1|exact hy.2|exact hp0|exact hp1|exact vx|exact vy|exact g1|exact g2)|refine ⟨?_, ?_⟩|intro _)
   all_goals first|(with_reducible first|apply qa|apply qb|apply qc|apply qd)|(conv=>whnf)
   all_goals (try rw [ux] at*)
   all_goals (try rw [uy] at*)
   all_goals first|(with_reducible first|exact hxx.1.1|exact hxx.1.2|exact hxx.2.1|exact hxx.2.2|exact hyy.1.1|exact hyy.1.2|exact hyy.2.1|exact hyy.2.2|exact vx.1|exact vx.2|exact vy.1|exact vy.2)|skip
   all_goals first|(exfalso;simp_all;done)|(have e:=me_1 (a:=⟨b0,m0,r0⟩) (b:=⟨b1,m1,r1⟩) ‹_›;first|exact congrArg (fun i:Cg=>Value.bool i.some) e.symm|exact congrArg (fun i:Cg=>Value.int .i64 i.m) e.symm|exact congrArg (fun i:Cg=>Value.int .i64 i.r) e.symm|fail)|(have e:=me_2 (a:=⟨b0,m0,r0⟩) (b:=⟨b1,m1,r1⟩) ‹_› ‹_›;first|exact congrArg (fun i:Cg=>Value.bool i.some) e.symm|exact congrArg (fun i:Cg=>Value.int .i64 i.m) e.symm|exact congrArg (fun i:Cg=>Value.int .i64 i.r) e.symm|fail)|(have e:=me_3 (a:=⟨b0,m0,r0⟩) (b:=⟨b1,m1,r1⟩) ‹_› ‹_› ‹_› ‹_›;first|exact congrArg (fun i:Cg=>Value.bool i.some) e.symm|exact congrArg (fun i:Cg=>Value.int .i64 i.m) e.symm|exact congrArg (fun i:Cg=>Value.int .i64 i.r) e.symm|fail)|(have e:=me_4 (a:=⟨b0,m0,r0⟩) (b:=⟨b1,m1,r1⟩) ‹_› ‹_› ‹_› ‹_›;first|exact congrArg (fun i:Cg=>Value.bool i.some) e.symm|exact congrArg (fun i:Cg=>Value.int .i64 i.m) e.symm|exact congrArg (fun i:Cg=>Value.int .i64 i.r) e.symm|fail)|(have e:=me_5 (a:=⟨b0,m0,r0⟩) (b:=⟨b1,m1,r1⟩) ‹_› ‹_› ‹_› ‹_› ‹_›;first|exact congrArg (fun i:Cg=>Value.bool i.some) e.symm|exact congrArg (fun i:Cg=>Value.int .i64 i.m) e.symm|exact congrArg (fun i:Cg=>Value.int .i64 i.r) e.symm|fail)|(have e:=me_6 (a:=⟨b0,m0,r0⟩) (b:=⟨b1,m1,r1⟩) ‹_› ‹_› ‹_› ‹_› ‹_›;first|exact congrArg (fun i:Cg=>Value.bool i.some) e.symm|exact congrArg (fun i:Cg=>Value.int .i64 i.m) e.symm|exact congrArg (fun i:Cg=>Value.int .i64 i.r) e.symm|fail)|(have e:=me_7 (a:=⟨b0,m0,r0⟩) (b:=⟨b1,m1,r1⟩) ‹_› ‹_› ‹_› ‹_› hx hy ‹_›;first|exact congrArg (fun i:Cg=>Value.bool i.some) e.symm|exact congrArg (fun i:Cg=>Value.int .i64 i.m) e.symm|exact congrArg (fun i:Cg=>Value.int .i64 i.r) e.symm|fail)|skip
   all_goals (obtain ⟨⟨p0,p1⟩,g0,gl0,gl1⟩:=me_p (a:=⟨b0,m0,r0⟩) (b:=⟨b1,m1,r1⟩) ‹_› ‹_› ‹_› ‹_›;obtain ⟨q1,q2,q3,q4⟩:=me_q (a:=⟨b0,m0,r0⟩) (b:=⟨b1,m1,r1⟩) ‹_› ‹_› ‹_› ‹_› hx hy)
   all_goals (try simp only [q1,q2,q3,Wd.eta'] at*)
   all_goals first|omega|exact (wd_ok _).1.1|exact (wd_ok _).1.2|exact (wd_ok _).2.1|exact (wd_ok _).2.2|exact (wInt_r _).1|exact (wInt_r _).2|(have bt:=me_bt (a:=⟨b0,m0,r0⟩) (b:=⟨b1,m1,r1⟩) ‹_› ‹_› ‹_› ‹_› hx hy ‹wIntB _=true›;have br:=bt_rng bt;first|exact bt|omega|fail)|(have e:=me_8 (a:=⟨b0,m0,r0⟩) (b:=⟨b1,m1,r1⟩) ‹_› ‹_› ‹_› ‹_› hx hy ‹_› ‹_›;first|exact congrArg (fun i:Cg=>Value.bool i.some) e.symm|exact congrArg (fun i:Cg=>Value.int .i64 i.m) e.symm|exact congrArg (fun i:Cg=>Value.int .i64 i.r) e.symm|fail)|(have e:=me_9 (a:=⟨b0,m0,r0⟩) (b:=⟨b1,m1,r1⟩) ‹_› ‹_› ‹_› ‹_› hx hy ‹_› ‹_› ‹_›;first|exact congrArg (fun i:Cg=>Value.bool i.some) e.symm|exact congrArg (fun i:Cg=>Value.int .i64 i.m) e.symm|exact congrArg (fun i:Cg=>Value.int .i64 i.r) e.symm|fail)|(have e:=me_10 (a:=⟨b0,m0,r0⟩) (b:=⟨b1,m1,r1⟩) ‹_› ‹_› ‹_› ‹_› hx hy ‹_› ‹_› ‹_›;first|exact congrArg (fun i:Cg=>Value.bool i.some) e.symm|exact congrArg (fun i:Cg=>Value.int .i64 i.m) e.symm|exact congrArg (fun i:Cg=>Value.int .i64 i.r) e.symm|fail)
 . cases h
theorem part_k {m:Int} (h: -9223372036854775808<=m/\ m<9223372036854775808) (h0:0<=m):IntKind.wrap .i64 ((BitVec.ofInt IntKind.i64.bits m&&&BitVec.ofInt IntKind.i64.bits (IntKind.wrap .i64 (0-m))).toNat:Int)=partI m:=by
 have hm:(m.toNat:Int)=m:=Int.toNat_of_nonneg h0
 rcases Int.lt_or_le 0 m with hp|hp
 . have e1:(BitVec.ofInt IntKind.i64.bits m).toNat=m.toNat:=by
    rw [BitVec.toNat_ofInt];show (m%18446744073709551616).toNat=_;rw [Int.emod_eq_of_lt h0 (by omega)]
   have e2:(BitVec.ofInt IntKind.i64.bits (IntKind.wrap .i64 (0-m))).toNat=2^64-m.toNat:=by
    rw [BitVec.toNat_ofInt,wI_id (0-m) (by omega) (by omega)]
    show ((0-m)%18446744073709551616).toNat=_
    rw [show (0-m)%18446744073709551616=18446744073709551616-m by omega];omega
   rw [BitVec.toNat_and,e1,e2]
   have:=partI_ok hp h.2
   show IntKind.wrap .i64 (partI m)=partI m
   exact wI_id _ (by omega) (by omega)
 . obtain rfl:m=0:=by omega
   decide
theorem mod_raw {X m l:Int} (h0:0<=X) (hm:0<m):(X.tmod m*18446744073709551616+l)%m=(X*18446744073709551616+l)%m:=by
 rw [Int.tmod_eq_emod_of_nonneg h0]
 have e:X*18446744073709551616+l=(X%m*18446744073709551616+l)+m*(X/m*18446744073709551616):=by
  have:=Int.emod_add_mul_ediv X m
  rw [<-Int.mul_assoc]
  have e2:X*18446744073709551616=(X%m+m*(X/m))*18446744073709551616:=by rw [this]
  rw [e2,Int.add_mul];omega
 rw [e,Int.add_mul_emod_self_left]
@[reducible] def rawM (X m l : Int) : Int := ((IntKind.wrap .u64 X).tmod (IntKind.wrap .u64 m) * 18446744073709551616 + l) % IntKind.wrap .u64 m
section
variable {h l m:Int} (k:Wd.ok ⟨h,l⟩) (hm:0<m) (hm2: -9223372036854775808≤m∧m<9223372036854775808)
include k hm hm2
theorem raw_pos (h0:decide (h<0)=false):rawM h m l=Wd.val ⟨h,l⟩%m:=by
 have h0:=of_decide_eq_false h0
 unfold Wd.ok at k;dsimp only at k
 unfold rawM
 rw [wU_id h (by omega) (by omega),wU_id m (by omega) (by omega),mod_raw (by omega) hm];rfl
theorem raw_neg (h0:decide (h<0)=true):rawM (wd (0-Wd.val ⟨h,l⟩)).hi m (wd (0-Wd.val ⟨h,l⟩)).lo=(-Wd.val ⟨h,l⟩)%m:=by
 have h0:=of_decide_eq_true h0
 unfold Wd.ok at k;dsimp only at k
 unfold rawM
 have e:IntKind.wrap .u64 (wd (0-Wd.val ⟨h,l⟩)).hi*18446744073709551616+(wd (0-Wd.val ⟨h,l⟩)).lo= -Wd.val ⟨h,l⟩:=by rw [wU];unfold wd Wd.val;dsimp only;omega
 rw [wU_id m (by omega) (by omega),mod_raw (by rw [wU];omega) hm,e]
theorem tm_r {X:Int}:0<=(IntKind.wrap .u64 X).tmod (IntKind.wrap .u64 m)/\ (IntKind.wrap .u64 X).tmod (IntKind.wrap .u64 m)<18446744073709551616/\ (IntKind.wrap .u64 X).tmod (IntKind.wrap .u64 m)<IntKind.wrap .u64 m:=by
 rw [wU_id m (by omega) (by omega),Int.tmod_eq_emod_of_nonneg (by rw [wU];omega)]
 have h1:=Int.emod_nonneg (IntKind.wrap .u64 X) (b:=m) (by omega)
 have h2:=Int.emod_lt_of_pos (IntKind.wrap .u64 X) hm
 omega
theorem lf_p (h0:decide (h<0)=false):IntKind.wrap .i64 (rawM h m l)=Wd.val ⟨h,l⟩%m:=by
 rw [raw_pos k hm hm2 h0]
 have h1:=Int.emod_nonneg (Wd.val ⟨h,l⟩) (b:=m) (by omega)
 have h2:=Int.emod_lt_of_pos (Wd.val ⟨h,l⟩) hm
 exact wI_id _ (by omega) (by omega)
theorem lf_n0 (h0:decide (h<0)=true) (hr:decide (rawM (wd (0-Wd.val ⟨h,l⟩)).hi m (wd (0-Wd.val ⟨h,l⟩)).lo>0)=false):IntKind.wrap .i64 (rawM (wd (0-Wd.val ⟨h,l⟩)).hi m (wd (0-Wd.val ⟨h,l⟩)).lo)=Wd.val ⟨h,l⟩%m:=by
 have hr:=of_decide_eq_false hr
 rw [raw_neg k hm hm2 h0] at*
 have h1:=Int.emod_nonneg (-Wd.val ⟨h,l⟩) (b:=m) (by omega)
 have e:(-Wd.val ⟨h,l⟩)%m=0:=by omega
 have d:m∣Wd.val ⟨h,l⟩:=Int.dvd_neg.1 (Int.dvd_of_emod_eq_zero e)
 rw [e,Int.emod_eq_zero_of_dvd d];rfl
theorem lf_n1 (h0:decide (h<0)=true) (hr:decide (rawM (wd (0-Wd.val ⟨h,l⟩)).hi m (wd (0-Wd.val ⟨h,l⟩)).lo>0)=true):IntKind.wrap .i64 (IntKind.wrap .u64 (IntKind.wrap .u64 m-rawM (wd (0-Wd.val ⟨h,l⟩)).hi m (wd (0-Wd.val ⟨h,l⟩)).lo))=Wd.val ⟨h,l⟩%m:=by
 have hr:=of_decide_eq_true hr
 rw [raw_neg k hm hm2 h0] at*
 have h2:=Int.emod_lt_of_pos (-Wd.val ⟨h,l⟩) hm
 rw [wU_id m (by omega) (by omega)]
 have h3:=Int.emod_add_mul_ediv (-Wd.val ⟨h,l⟩) m
 generalize (-Wd.val ⟨h,l⟩)%m=r at*
 generalize (-Wd.val ⟨h,l⟩)/m=q at*
 rw [wU_id (m-r) (by omega) (by omega),wI_id (m-r) (by omega) (by omega)]
 have e:Wd.val ⟨h,l⟩=(m-r)+m*(-q-1):=by rw [Int.mul_sub,Int.mul_neg];omega
 rw [e,Int.add_mul_emod_self_left,Int.emod_eq_of_lt (by omega) (by omega)]
end
def FRsPart:List Ar->Option Rs
 | [.c (.d (.v (.int .i64 i0)))]=>some ⟨(-9223372036854775808<=i0/\ i0<9223372036854775808)/\ (0<=i0),.va (.c (.d (it (partI i0)))),[]⟩
 |_=>none
theorem fcRsPart:FC Tryz.prog 172 FRsPart:=by
 intro xs pre r us h hp
 unfold FRsPart at h
 split at h
 . rename_i i0
   cases h
   obtain ⟨hp0,hp1⟩:=hp
   refine fcat tys_ok (l:= []) trivial Tryz.func172 rfl (by kernel_rfl) false ?_
   repeat' (first|exact trivial|refine ⟨?_, ?_⟩|intro _)
   all_goals first|(with_reducible first|apply qa|apply qb|apply qc|apply qd)|(conv=>whnf)
   all_goals first|exact congrArg (Value.int .i64) (part_k hp0 hp1)
 . cases h
def FRsSize:List Ar->Option Rs
 | [.c (.d (.v (.int .i64 i0)))]=>some ⟨(-9223372036854775808<=i0/\ i0<9223372036854775808),.va (.c (.d (ut (sizeI i0)))),[]⟩
 |_=>none
theorem fcRsSize:FC Tryz.prog 175 FRsSize:=by
 intro xs pre r us h hp
 unfold FRsSize at h
 split at h
 . rename_i i0
   cases h
   have hp0:=hp
   refine fcat tys_ok (l:= []) trivial Tryz.func175 rfl (by kernel_rfl) false ?_
   repeat' (first|exact trivial|refine ⟨?_, ?_⟩|intro _)
   all_goals first|(with_reducible first|apply qa|apply qb|apply qc|apply qd)|(conv=>whnf)
   all_goals first|exact congrArg (Value.int .u64) (size_t hp0 ‹_›)|exact congrArg (Value.int .u64) (size_f hp0 ‹_›)
 . cases h
def FRsAlone:List Ar->Option Rs
 | [.agg [.d (.v (.bool b0)),.d (.v (.int .i64 m0)),.d (.v (.int .i64 r0))],.c (.d (.v (.int .i64 i1)))]=>some ⟨(Cg.inR ⟨b0,m0,r0⟩)/\ (-9223372036854775808<=i1/\ i1<9223372036854775808),.va (.c (.d (bo (alC (⟨b0,m0,r0⟩:Cg) i1)))),[]⟩
 |_=>none
theorem fcRsAlone:FC Tryz.prog 120 FRsAlone:=by
 intro xs pre r us h hp
 unfold FRsAlone at h
 split at h
 . rename_i b0 m0 r0 i1
   cases h
   obtain ⟨hp0,hp1⟩:=hp
   refine fcat tys_ok (l:= []) trivial Tryz.func120 rfl (by kernel_rfl) false ?_
   repeat' (first|exact trivial|refine ⟨?_, ?_⟩|intro _)
   all_goals first|(with_reducible first|apply qa|apply qb|apply qc|apply qd)|(conv=>whnf)
   all_goals first|grind [alC]
 . cases h
def FRsGcd:List Ar->Option Rs
 | [.c (.d (.v (.int .i64 i0))),.c (.d (.v (.int .i64 i1)))]=>some ⟨(-9223372036854775808<=i0/\ i0<9223372036854775808)/\ (-9223372036854775808<=i1/\ i1<9223372036854775808)/\ (0<=i0/\ 0<=i1),.va (.c (.d (it ((Int.gcd i0 i1:Int))))),[]⟩
 |_=>none
theorem fcRsGcd:FC Tryz.prog 148 FRsGcd:=by
 intro xs pre r us h hp
 unfold FRsGcd at h
 split at h
 . rename_i i0 i1
   cases h
   obtain ⟨hp0,hp1,hp2⟩:=hp
   refine fcat tys_ok (l:= [(88,⟨[],FCGcd⟩)]) ⟨fcCGcd,trivial⟩ Tryz.func148 rfl (by kernel_rfl) false ?_
   have w0:=wU_id i0 hp2.1 (by omega)
   have w1:=wU_id i1 hp2.2 (by omega)
   have hl:=gcd_lt (m:=i0) (n:=i1) ⟨hp2.1,hp0.2⟩ ⟨hp2.2,hp1.2⟩
   repeat' (first|exact trivial|refine ⟨?_, ?_⟩|intro _)
   all_goals first|(with_reducible first|apply qa|apply qb|apply qc|apply qd)|(conv=>whnf)
   all_goals (simp only [w0,w1])
   all_goals first|omega|exact congrArg (Value.int .i64) (wI_id _ (by omega) hl)
 . cases h
def FRsLeft:List Ar->Option Rs
 | [.agg [.d (.v (.int .i64 h0)),.d (.v (.int .u64 l0))],.c (.d (.v (.int .i64 i1)))]=>some ⟨(Wd.ok ⟨h0,l0⟩)/\ (-9223372036854775808<=i1/\ i1<9223372036854775808)/\ (0<i1),.va (.c (.d (it (Wd.val (⟨h0,l0⟩:Wd)%i1)))),[]⟩
 |_=>none
theorem fcRsLeft:FC Tryz.prog 173 FRsLeft:=by
 intro xs pre r us h hp
 unfold FRsLeft at h
 split at h
 . rename_i h0 l0 i1
   cases h
   obtain ⟨hp0,hp1,hp2⟩:=hp
   refine fcat tys_ok (l:= [(161,⟨[],FDiv64⟩),(124,⟨[],FWNeg⟩)]) ⟨fcDiv64,fcWNeg,trivial⟩ Tryz.func173 rfl (by kernel_rfl) false ?_
   have hq:=hp0
   unfold Wd.ok at hq
   cases hng:decide (h0<0)
   all_goals repeat' (first|exact trivial|(with_reducible first|exact hp0|exact hp1|exact hp2|exact hp0.1|exact hp0.2|exact hp1.1|exact hp1.2|exact hp2.1|exact hp2.2|exact wd_ok _|exact (wd_ok _).1.1|exact (wd_ok _).1.2|exact (wd_ok _).2.1|exact (wd_ok _).2.2|exact (fun h:false=true=>absurd h (by decide))|exact (fun h:true=false=>absurd h (by decide))|exact (fun h=>absurd (hng.symm.trans h) (by decide))|exact hq.2.1|exact hq.2.2|exact (fun h=>absurd h (by rw [wU_id i1 (by omega) (by omega)];omega)))|refine ⟨?_, ?_⟩|intro _)
   all_goals first|(with_reducible first|apply qa|apply qb|apply qc|apply qd)|(conv=>whnf)
   all_goals first|((with_reducible show _<=Int.tmod _ _);exact (tm_r hp0 hp2 hp1).1)|((with_reducible show Int.tmod _ _<IntKind.wrap _ _);exact (tm_r hp0 hp2 hp1).2.2)|((with_reducible show Int.tmod _ _<_);exact (tm_r hp0 hp2 hp1).2.1)|((with_reducible show _<=Wd.lo _);exact (wd_ok _).2.1)|((with_reducible show Wd.lo _<_);exact (wd_ok _).2.2)|(with_reducible first|exact hp0.2.1|exact hp0.2.2)|(have k1:decide (h0<0)=false:=(by with_reducible exact hng);(with_reducible show Value.int _ _=_);exact congrArg (Value.int .i64) (lf_p hp0 hp2 hp1 k1))|(have k1:decide (h0<0)=true:=(by with_reducible exact hng);(with_reducible show Value.int _ (IntKind.wrap _ (IntKind.wrap _ _))=_);exact congrArg (Value.int .i64) (lf_n1 hp0 hp2 hp1 k1 (by with_reducible_and_instances assumption)))|(have k1:decide (h0<0)=true:=(by with_reducible exact hng);(with_reducible show Value.int _ _=_);exact congrArg (Value.int .i64) (lf_n0 hp0 hp2 hp1 k1 (by with_reducible_and_instances assumption)))|((with_reducible show False);rename IntKind.wrap _ _=_=>h;rw [wU_id i1 (by omega) (by omega)] at h;omega)|((with_reducible show _<=IntKind.wrap _ _);rw [wU_id i1 (by omega) (by omega)];omega)|((with_reducible show IntKind.wrap _ _<_);rw [wU_id i1 (by omega) (by omega)];omega)
 . cases h
end Go.Proofs.YtehpbhpmkhlldaaGreat
