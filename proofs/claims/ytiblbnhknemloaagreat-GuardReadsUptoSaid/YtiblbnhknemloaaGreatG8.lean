/- What the library's stable sort of binds computes: stretches that change places. No condition. -/
import Derived.Test.YtiblbnhknemloaaGreatG7
set_option linter.all false
set_option maxHeartbeats 8000000
set_option maxRecDepth 100000
namespace Go.Proofs.YtiblbnhknemloaaGreat
open Tryz
open Go.Sx
def aGx:List Ar->Option Rs
 | [.c (.ow 9 n0 f0),.c (.d (.v (.int .i64 i1))),.c (.d (.v (.int .i64 i2))),.c (.d (.v (.int .i64 i3))),.fv _]=>some ⟨(n0<=1099511627776/\ ∀i,i<n0->jC (f0 i))/\ (-9223372036854775808<=i1/\ i1<9223372036854775808)/\ (-9223372036854775808<=i2/\ i2<9223372036854775808)/\ (-9223372036854775808<=i3/\ i3<9223372036854775808)/\ (0<=i1/\ 0<=i3/\ i1+i3<=i2/\ i2+i3<=n0),.tup [],[some fun k=>aT (lE (gF f0) (i1).toNat (i2).toNat (i3).toNat k)]⟩
 |_=>none
theorem aRn:FC prog 256 aGx:=by
 intro xs pre r us h hp;unfold aGx at h;split at h
 . rename_i n0 f0 i1 i2 i3 g4
   cases h;obtain ⟨a7,a8,af,di,s3⟩:=hp
   refine aU.deep (ys:= [.c (.ow 9 n0 fun k=>aT (gF f0 k)),.c (.d (.v (.int .i64 i1))),.c (.d (.v (.int .i64 i2))),.c (.d (.v (.int .i64 i3))),.fv g4]) ?_ ?_
   . repeat' (first|exact j3z|refine ⟨?_,?_⟩|fail)
     all_goals first|exact j5v
   refine aE aA (l:= []) trivial func256 rfl j4 false ?_
   obtain ⟨ha,hl,mw,hb⟩:=s3
   obtain ⟨a,rfl⟩:=Int.eq_ofNat_of_zero_le ha
   obtain ⟨l,rfl⟩:=Int.eq_ofNat_of_zero_le hl
   obtain ⟨b,rfl⟩:=Int.eq_ofNat_of_zero_le (Int.le_trans (j3:(0:Int)<=(a:Int)+l) mw)
   have hn:=a7.1
   clear a7
   generalize gF f0=G
   simp only [Int.toNat_natCast]
   repeat' (fail)
   all_goals first|(conv=>whnf)
   refine dM aA (l:= []) trivial j4 (X:=Nat)
    (fun i=>⟨[(10,vx (.int .i64 i)),(0,.va (.c (.osl 0 9 0 n0))),(1,vx (.int .i64 a)),(2,vx (.int .i64 b)),(3,vx (.int .i64 l)),(4,.va (.c (.fv g4)))],[(0,.row 9 n0 fun k=>aT (lE G a b i k))],1,38⟩)
    (fun i=>l-i) (fun i=>i<=l) [] [] (fun i _ _=>i+1) [0] [0] 0 0 0 ?_ ?_ ?_
   . exact Nat.zero_le _
   . rw [aYB]
     repeat' (first|exact j2w|refine ⟨?_,?_⟩|fail)
   . rintro i k1
     have s7:IntKind.wrap .i64 ((a:Int)+(i:Int))=((a+i:Nat):Int):=j0e
     have gd:IntKind.wrap .i64 ((b:Int)+(i:Int))=((b+i:Nat):Int):=j0e
     (repeat' (first|exact trivial|refine ⟨?_,?_⟩|intro _));all_goals first|apply qq|conv=>whnf
     . have hi:i<l:=by have:=of_decide_eq_true ‹decide ((i:Int)<(l:Int))=true›;omega
       repeat' (fail)
       all_goals first|(conv=>whnf)
       all_goals first|((with_reducible show aO _ _ (.region 3 _ _) _ _);refine cO aA (l:= []) trivial ([.take 0,.take 1,.take 2,.take 3,.take 4,.take 5,.take 6,.take 7,.take 8,.take 9,.take 10,.take 11,.take 12,.take 13,.take 14,.take 15,.take 16,.take 17,.take 18,.take 19,.take 20,.act 21 [7,6,5,4] [36,29],.take 22,.act 23 [] [37,35]]) j4 ?_)
       all_goals (repeat' (first|refine ⟨?_,?_⟩|intro _));all_goals first|apply qq|conv=>whnf
       all_goals (try simp only [s7,gd,Int.toNat_natCast,Nat.zero_add])
       all_goals (try rw [sK,if_neg j3])
       all_goals (repeat' (first|exact trivial|refine ⟨?_,?_⟩|intro _));all_goals first|apply qq|conv=>whnf
       all_goals (try simp only [s7,gd,Int.toNat_natCast,Nat.zero_add])
       all_goals first|rfl|omega|(exact aFW rfl rfl (aYC G j3) _)|exact j3a
     . exact Nat.le_refl _
     . have h2:=of_decide_eq_false ‹decide ((i:Int)<(l:Int))=false›
       have:i=l:=j3
       subst this;rfl
 . cases h
def rV:List Ar->Option Rs
 | [.c (.ow 9 n0 f0),.c (.d (.v (.int .i64 i1))),.c (.d (.v (.int .i64 i2))),.c (.d (.v (.int .i64 i3))),.fv _]=>some ⟨(n0<=1099511627776/\ ∀i,i<n0->jC (f0 i))/\ (-9223372036854775808<=i1/\ i1<9223372036854775808)/\ (-9223372036854775808<=i2/\ i2<9223372036854775808)/\ (-9223372036854775808<=i3/\ i3<9223372036854775808)/\ (0<=i1/\ i1<i2/\ i2<i3/\ i3<=n0),.tup [],[some fun k=>aT (eX (gF f0) (i1).toNat (i2).toNat (i3).toNat k)]⟩
 |_=>none
theorem vB:FC prog 219 rV:=by
 intro xs pre r us h hp;unfold rV at h;split at h
 . rename_i n0 f0 i1 i2 i3 g4
   cases h;obtain ⟨a7,a8,af,di,s3⟩:=hp
   refine aU.deep (ys:= [.c (.ow 9 n0 fun k=>aT (gF f0 k)),.c (.d (.v (.int .i64 i1))),.c (.d (.v (.int .i64 i2))),.c (.d (.v (.int .i64 i3))),.fv g4]) ?_ ?_
   . repeat' (first|exact j3z|refine ⟨?_,?_⟩|fail)
     all_goals first|exact j5v
   refine aE aA (l:= [(256,⟨[true],aGx⟩)]) ⟨aRn,trivial⟩ func219 rfl j4 false ?_
   obtain ⟨ha,CD,CE,hb⟩:=s3
   obtain ⟨a,rfl⟩:=Int.eq_ofNat_of_zero_le ha
   obtain ⟨m,rfl⟩:=Int.eq_ofNat_of_zero_le (Int.le_trans ha (Int.le_of_lt CD))
   obtain ⟨b,rfl⟩:=Int.eq_ofNat_of_zero_le (Int.le_trans (Int.natCast_nonneg m) (Int.le_of_lt CE))
   have hn:=a7.1
   clear a7
   generalize gF f0=G
   simp only [Int.toNat_natCast]
   repeat' (fail)
   all_goals first|(conv=>whnf)
   refine dM aA (l:= [(256,⟨[true],aGx⟩)]) ⟨aRn,trivial⟩ j4 (X:=Nat×Nat×(Nat->Bd))
    (fun x=>⟨[(10,vx (.int .i64 x.1)),(11,vx (.int .i64 x.2.1)),(0,.va (.c (.osl 0 9 0 n0))),(1,vx (.int .i64 a)),(2,vx (.int .i64 m)),(3,vx (.int .i64 b)),(4,.va (.c (.fv g4)))],[(0,.row 9 n0 fun k=>aT (x.2.2 k))],1,58⟩)
    (fun x=>x.1+x.2.1) (fun x=>0<x.1/\ 0<x.2.1/\ x.1<=m-a/\ x.2.1<=b-m/\ eX x.2.2 (m-x.1) m (m+x.2.1)=eX G a m b) [] []
    (fun x _ _=>if x.2.1<x.1 then (x.1-x.2.1,x.2.1,lE x.2.2 (m-x.1) m x.2.1) else (x.1,x.2.1-x.1,lE x.2.2 (m-x.1) (m+x.2.1-x.1) x.1)) [0] [0] 0 0 (m-a,b-m,G) ?_ ?_ ?_
   . refine ⟨by show 0<m-a;omega,by show 0<b-m;omega,Nat.le_refl _,Nat.le_refl _, ?_⟩
     have e1:m-(m-a)=a:=j3
     have e2:m+(b-m)=b:=j3
     dsimp only;rw [e1,e2]
   . repeat' (first|exact j2w|refine ⟨?_,?_⟩|fail)
     all_goals exact congrArg (Value.int .i64) (by rw [aR _ j3 j3];dsimp only;omega)
   . rintro ⟨i,j,H⟩ ⟨k1,k2,k3,k4,k5⟩
     dsimp only at k1 k2 k3 k4 k5
     have c6: ∀i,i<n0->jC (aT (H i)):=fun i _=>yQ _
     have CF:gF (fun k=>aT (H k))=H:=rH H
     have s7:IntKind.wrap .i64 ((m:Int)-(i:Int))=((m-i:Nat):Int):=j0e
     have gd:IntKind.wrap .i64 ((m:Int)+(j:Int))=((m+j:Nat):Int):=j0e
     have ot:IntKind.wrap .i64 (((m+j:Nat):Int)-(i:Int))=((m+j:Nat):Int)-i:=by rw [aR _ j3 j3]
     rcases Nat.lt_trichotomy i j with cy|cy|cy
     . have hq:j-i<j/\ ¬j<i:=by omega
       have hE: ∀k,aT (lE H (m-i) ((((m+j:Nat):Int)-(i:Int)).toNat) i k)=aT (lE H (m-i) (m+j-i) i k):=by
        intro k;congr 2;omega
       have hR:=(bCk H (m:=m) (i:=i) (j:=j) j3 cy).trans k5
       have ag:((i:Int) !=(j:Int))=true:=bne_iff_ne.2 j3
       have fg:decide ((i:Int)>(j:Int))=false:=decide_eq_false j3
       (repeat' (first|exact j6m|refine ⟨?_,?_⟩|intro _));all_goals first|apply qq|conv=>whnf
       all_goals first|exact j2v|(exact absurd (fg.symm.trans ‹_=true›) j5)|skip
       all_goals (try simp only [s7,gd,ot,Int.toNat_natCast,CF,if_neg hq.2])
       all_goals first|rfl|omega|(exact hE _)|exact j3a
     . subst cy;have ag:((i:Int) !=(i:Int))=false:=by simp
       (repeat' (first|exact j6m|refine ⟨?_,?_⟩|intro _));all_goals first|apply qq|conv=>whnf
       all_goals first|exact j3d|skip
       all_goals (try simp only [s7,gd,ot,CF,Int.toNat_natCast])
       all_goals first|omega|(exact congrArg aT (congrFun ((bCi H j3).symm.trans k5) _))
     . have hq:j<i:=cy
       have hR:=(bCj H (m:=m) (i:=i) (j:=j) j3 cy).trans k5
       have ag:((i:Int) !=(j:Int))=true:=bne_iff_ne.2 j3
       have fg:decide ((i:Int)>(j:Int))=true:=decide_eq_true j3
       (repeat' (first|exact j6m|refine ⟨?_,?_⟩|intro _));all_goals first|apply qq|conv=>whnf
       all_goals first|exact j2v|(exact absurd (fg.symm.trans ‹_=false›) j5)|skip
       all_goals (try simp only [s7,gd,ot,Int.toNat_natCast,CF,if_pos hq])
       all_goals first|rfl|omega|exact j3a
 . cases h
section
variable {α:Type} [Inhabited α] {lt:α→α→Bool}
theorem aKn {g:Nat->α} {a b:Nat}:cK lt (aD g a b)↔ ∀i j,a<=i->i<j->j<b->lt (g j) (g i)=false:=by
 unfold cK;rw [List.pairwise_iff_getElem];constructor
 . intro h i j h1 h2 h3;have:=h (i-a) (j-a) x6 x6 j3
   have e1:(aD g a b)[i-a]? =some (g i):=by rw [mZ j3];congr 2;omega
   have e2:(aD g a b)[j-a]? =some (g j):=by rw [mZ j3];congr 2;omega
   rw [List.getElem_of_getElem? e1|>.2,List.getElem_of_getElem? e2|>.2] at this;exact this
 . intro h i j hi hj cy;rw [dD] at hi hj;have e1:(aD g a b)[i]? =some (g (a+i)):=mZ hi
   have e2:(aD g a b)[j]? =some (g (a+j)):=mZ hj
   rw [List.getElem_of_getElem? e1|>.2,List.getElem_of_getElem? e2|>.2];exact h _ _ j3 j3 j3
theorem aFX {g:Nat->α} {a b a' b':Nat} (h:cK lt (aD g a b)) (h1:a<=a') (h2:b'<=b):cK lt (aD g a' b'):=
 aKn.2 fun i j x y z=>aKn.1 h i j j3 y j3
theorem Wk.irr (h:Wk lt) (x:α):lt x x=false:=by
 cases hx:lt x x with
 |false=>rfl
 |true=>have:=h.asymm _ _ hx;rw [hx] at this;exact this
theorem jA (h:Wk lt) {g:Nat->α} {a b i j:Nat} (hs:cK lt (aD g a b)) (h1:a<=i) (h2:i<=j) (h3:j<b):lt (g j) (g i)=false:=by
 rcases Nat.lt_or_ge i j with h4|h4
 . exact aKn.1 hs i j h1 h4 h3
 . have:i=j:=by omega
   subst this;exact h.irr _
theorem Wk.lt1 (h:Wk lt) {x y z:α} (h1:lt y x=false) (h2:lt y z=true):lt x z=true:=by
 cases hx:lt x z with
 |true=>rfl
 |false=>rw [h.trans z x y hx h1] at h2;cases h2
theorem Wk.lt2 (h:Wk lt) {x y z:α} (h1:lt z y=false) (h2:lt x y=true):lt x z=true:=by
 cases hx:lt x z with
 |true=>rfl
 |false=>rw [h.trans y z x h1 hx] at h2;cases h2
theorem Wk.le1 (h:Wk lt) {x y z:α} (h1:lt z y=false) (h2:lt y x=false):lt z x=false:=h.trans x y z h2 h1
theorem bAA {g:Nat->α} {a i b:Nat} (h1:a+1<=i) (h2:i<=b) (h3: ∀k,a+1<=k->k<i->lt (g k) (g a)=true) (h4: ∀k,i<=k->k<b->lt (g k) (g a)=false):
 mg lt (aD g a (a+1)) (aD g (a+1) b)=aD g (a+1) i++g a::aD g i b:=by
 rw [aBd,uH g h1 h2];refine aSn _ _ _ ?_ ?_
 . intro y hy;obtain ⟨k,k1,k2,rfl⟩:=sS.1 hy
   exact h3 k k1 k2
 . intro y hy;obtain ⟨k,k1,k2,rfl⟩:=sS.1 hy
   exact h4 k k1 k2
theorem aWW (g:Nat->α) {a b:Nat} (h:a<b):put g a (aD g (a+1) (a+1)++g a::aD g (a+1) b)=g:=by
 rw [zE g (Nat.le_refl _),List.nil_append, <-aJr g h,aBe]
theorem aYM (g:Nat->α) {a k b:Nat} (h:a<=k) (hk:k+1<b):pB (put g a (aD g (a+1) (k+1)++g a::aD g (k+1) b)) k (k+1)=put g a (aD g (a+1) (k+1+1)++g a::aD g (k+1+1) b):=by
 have hl:a+(aD g (a+1) (k+1)).length=k:=x6
 have:=aKh g a (aD g (a+1) (k+1)) (g a) (g (k+1)) (aD g (k+1+1) b)
 rw [hl] at this;rw [aJr g hk,this,wR g (j3:a+1<=k+1),List.append_assoc];rfl
theorem aYN {g:Nat->α} {a i m:Nat} (h1:a<=i) (h2:i<=m) (h3: ∀k,a<=k->k<i->lt (g m) (g k)=false) (h4: ∀k,i<=k->k<m->lt (g m) (g k)=true):
 mg lt (aD g a m) (aD g m (m+1))=aD g a i++g m::aD g i m:=by
 rw [aBd,uH g h1 h2];refine aRh _ _ _ ?_ ?_
 . intro y hy;obtain ⟨k,k1,k2,rfl⟩:=sS.1 hy
   exact h3 k k1 k2
 . intro y hy;obtain ⟨k,k1,k2,rfl⟩:=sS.1 hy
   exact h4 k k1 k2
theorem aVQ (g:Nat->α) {a m:Nat} (h:a<=m):put g a (aD g a m++g m::aD g m m)=g:=by
 rw [zE g (Nat.le_refl _), <-wR g h,aBe]
theorem aWX (g:Nat->α) {a k m:Nat} (h:a<=k) (hk:k+1<=m):pB (put g a (aD g a (k+1)++g m::aD g (k+1) m)) (k+1) k=put g a (aD g a k++g m::aD g k m):=by
 have hl:a+(aD g a k).length=k:=x6
 have:=aKh g a (aD g a k) (g k) (g m) (aD g (k+1) m)
 rw [hl] at this;rw [aP4,wR g h,List.append_assoc];show pB (put g a (aD g a k++g k::g m::aD g (k+1) m)) k (k+1)=_
 rw [this, <-aJr g (j3:k<m)]
theorem bEU {g H:Nat->α} {a an b:Nat} {u v:List α} (hH: ∀k,k<a \/b<=k->H k=g k) (hu:u.length=an-a) (hv:v.length=b-an) (h1:a<=an) (h2:an<=b):put (put H a u) an v=put g a (u++v):=by
 funext k
 unfold put;rw [List.length_append];by_cases c1:an<=k/\ k<an+v.length
 . rw [if_pos c1,if_pos j3,List.getD_eq_getElem?_getD,List.getD_eq_getElem?_getD,List.getElem?_append_right j3]
   congr 2;omega
 . rw [if_neg c1];by_cases c2:a<=k/\ k<a+u.length
   . rw [if_pos c2,if_pos j3,List.getD_eq_getElem?_getD,List.getD_eq_getElem?_getD,List.getElem?_append_left j3]
   . rw [if_neg c2,if_neg j3,hH k j3]
theorem zW (g:Nat->α) {s m e:Nat} (h1:s<=m) (h2:m<=e) (h: ¬(s<m/\ m<e)):eX g s m e=g:=by
 funext k;unfold eX
 split
 . congr 1;omega
 . split
   . congr 1;omega
   . rfl
theorem nF (g:Nat->α) {a s m:Nat} (h1:a<=s) (h2:s<=m) (h: ¬(a<s/\ s<m)):put g a (mg lt (aD g a s) (aD g s m))=g:=by
 have:mg lt (aD g a s) (aD g s m)=aD g a m:=by
  rw [uH g h1 h2];rcases (j3:s=a \/s=m) with rfl|rfl
  . rw [zE g (Nat.le_refl _),oG];rfl
  . rw [zE g (Nat.le_refl s),pJ,List.append_nil]
 rw [this,aBe]
theorem aQc (g:Nat->α) {a m b s e an:Nat} (h1:a<=s) (h2:s<=m) (h3:m<=e) (h4:e<=b) (he:e+s=an+m):
 aD (eX g s m e) a s=aD g a s/\ aD (eX g s m e) s an=aD g m e/\ aD (eX g s m e) an e=aD g s m/\ aD (eX g s m e) e b=aD g e b:=by
 have hm:s+(e-m)=an:=j3
 refine ⟨?_,?_,?_,?_⟩
 . exact pT fun k _ hk=>aKi g h2 h3 (.inl hk)
 . have:=aYD g h2 h3;rw [hm] at this;exact this
 . have:=aYE g h2 h3;rw [hm] at this;exact this
 . exact pT fun k hk _=>aKi g h2 h3 (.inr hk)
theorem bCr (h:Wk lt) (g:Nat->α) {a m b s e:Nat} (h1:a<=s) (h2:s<=m) (h3:m<=e) (h4:e<=b) (k1:cK lt (aD g a m)) (k2:cK lt (aD g m b))
 (hs:a<s->e<b->lt (g e) (g (s-1))=false) (ht:s<m->m<e->lt (g (e-1)) (g s)=true):
 mg lt (aD g a m) (aD g m b)=mg lt (aD g a s) (aD g m e)++mg lt (aD g s m) (aD g e b):=by
 rw [uH g h1 h2,uH g h3 h4];refine aDf _ _ _ _ ?_ ?_
 . intro x hx y hy;obtain ⟨i,i1,i2,rfl⟩:=sS.1 hx
   obtain ⟨j,j1,j2,rfl⟩:=sS.1 hy
   have e1:=jA h k1 i1 (j3:i<=s-1) j3
   have e2:=jA h k2 h3 j1 j2
   exact h.le1 e2 (h.le1 (hs j3 j3) e1)
 . intro y hy x hx;obtain ⟨i,i1,i2,rfl⟩:=sS.1 hx
   obtain ⟨j,j1,j2,rfl⟩:=sS.1 hy
   have e1:=jA h k1 h1 i1 i2
   have e2:=jA h k2 j1 (j3:j<=e-1) j3
   exact h.lt2 e1 (h.lt1 e2 (ht j3 j3))
theorem aRo (h:Wk lt) (g:Nat->α) {a m b s e an:Nat} (h1:a<=s) (h2:s<=m) (h3:m<=e) (h4:e<=b) (he:e+s=an+m) (k1:cK lt (aD g a m)) (k2:cK lt (aD g m b))
 (hs:a<s->e<b->lt (g e) (g (s-1))=false) (ht:s<m->m<e->lt (g (e-1)) (g s)=true):
 ∀H1 H2 H3,H1=eX g s m e->H2=put H1 a (mg lt (aD H1 a s) (aD H1 s an))->H3=put H2 an (mg lt (aD H2 an e) (aD H2 e b))->H3=put g a (mg lt (aD g a m) (aD g m b)):=by
 rintro H1 H2 H3 rfl rfl rfl
 obtain ⟨q1,q2,q3,q4⟩:=aQc g h1 h2 h3 h4 he
 rw [q1,q2];have hl:(mg lt (aD g a s) (aD g m e)).length=an-a:=j1n
 have r3:aD (put (eX g s m e) a (mg lt (aD g a s) (aD g m e))) an e=aD g s m:=by
  rw [<-q3];exact pT fun k hk _=>pP (.inr j3)
 have r4:aD (put (eX g s m e) a (mg lt (aD g a s) (aD g m e))) e b=aD g e b:=by
  rw [<-q4];exact pT fun k hk _=>pP (.inr j3)
 rw [r3,r4,bCr h g h1 h2 h3 h4 k1 k2 hs ht];refine bEU (b:=b) (fun k hk=>aKi g h2 h3 j3) hl j1n j3 j3
theorem aQd (g:Nat->α) {a m b s e an:Nat} (h1:a<=s) (h2:s<=m) (h3:m<=e) (h4:e<=b) (he:e+s=an+m) (k1:cK lt (aD g a m)) (k2:cK lt (aD g m b)):
 ∀H1,H1=eX g s m e->cK lt (aD H1 a s)/\ cK lt (aD H1 s an)/\ ∀u:List α,u.length=an-a->cK lt (aD (put H1 a u) an e)/\ cK lt (aD (put H1 a u) e b):=by
 rintro H1 rfl
 obtain ⟨q1,q2,q3,q4⟩:=aQc g h1 h2 h3 h4 he
 refine ⟨q1▸aFX k1 (Nat.le_refl _) h2,q2▸aFX k2 (Nat.le_refl _) h4,fun u hu=>⟨?_,?_⟩⟩
 . have:aD (put (eX g s m e) a u) an e=aD g s m:=by rw [<-q3];exact pT fun k hk _=>pP (.inr j3)
   rw [this];exact aFX k1 h1 (Nat.le_refl _)
 . have:aD (put (eX g s m e) a u) e b=aD g e b:=by rw [<-q4];exact pT fun k hk _=>pP (.inr j3)
   rw [this];exact aFX k2 h3 (Nat.le_refl _)
end
theorem yJ {x y:Nat} (h:x+y<9223372036854775808):IntKind.wrap .i64 ((IntKind.wrap .u64 (IntKind.wrap .i64 ((x:Int)+(y:Int)))).fdiv (2^min (Int.toNat 1) (IntKind.bits .u64)))=(((x+y)/2:Nat):Int):=by
 have e1:IntKind.wrap .i64 ((x:Int)+(y:Int))=((x+y:Nat):Int):=j0e
 have e2:IntKind.wrap .u64 ((x+y:Nat):Int)=((x+y:Nat):Int):=by
  simp [IntKind.wrap,IntKind.signed,IntKind.bits]
  omega
 have e3:(2:Int)^min (Int.toNat 1) (IntKind.bits .u64)=2:=j5
 rw [e1,e2,e3];have e4:(((x+y:Nat):Int)).fdiv 2=(((x+y)/2:Nat):Int):=by
  rw [Int.fdiv_eq_ediv_of_nonneg _ j3];omega
 rw [e4,aR _ j3 j3]
def lP (M:Nat):List Ar->Option Rs
 | [.c (.ow 9 n0 f0),.c (.d (.v (.int .i64 i1))),.c (.d (.v (.int .i64 i2))),.c (.d (.v (.int .i64 i3))),.fv g4]=>some ⟨(n0<=1099511627776/\ ∀i,i<n0->jC (f0 i))/\ (-9223372036854775808<=i1/\ i1<9223372036854775808)/\ (-9223372036854775808<=i2/\ i2<9223372036854775808)/\ (-9223372036854775808<=i3/\ i3<9223372036854775808)/\ ((0<=i1/\ i1<i2/\ i2<i3/\ i3<=n0)/\ g4=mK/\ cK aQ (aD (gF f0) (i1).toNat (i2).toNat)/\ cK aQ (aD (gF f0) (i2).toNat (i3).toNat)/\ (i3).toNat-(i1).toNat<M),.tup [],[some fun k=>aT (put (gF f0) (i1).toNat (mg aQ (aD (gF f0) (i1).toNat (i2).toNat) (aD (gF f0) (i2).toNat (i3).toNat)) k)]⟩
 |_=>none
theorem aG5: ∀M,FC prog 174 (lP M):=by
 intro M
 induction M with
 |zero=>
  intro xs pre r us h hp;unfold lP at h;split at h
  . cases h;exact absurd hp.2.2.2.2.2.2.2.2 (Nat.not_lt_zero _)
  . cases h
 |succ M ih=>
  intro xs pre r us h hp;unfold lP at h;split at h
  . rename_i n0 f0 i1 i2 i3 g4
    cases h;obtain ⟨a7,a8,af,di,s3⟩:=hp
    refine aU.deep (ys:= [.c (.ow 9 n0 fun k=>aT (gF f0 k)),.c (.d (.v (.int .i64 i1))),.c (.d (.v (.int .i64 i2))),.c (.d (.v (.int .i64 i3))),.fv g4]) ?_ ?_
    . repeat' (first|exact j3z|refine ⟨?_,?_⟩|fail)
      all_goals first|exact j5v
    refine aE aA (l:= [(219,⟨[true],rV⟩),(174,⟨[true],(lP M)⟩)]) ⟨vB,ih,trivial⟩ func174 rfl j4 false ?_
    obtain ⟨⟨ha,CD,CE,hb⟩,rfl,ke,ft,hM⟩:=s3
    obtain ⟨a,rfl⟩:=Int.eq_ofNat_of_zero_le ha
    obtain ⟨m,rfl⟩:=Int.eq_ofNat_of_zero_le (Int.le_trans ha (Int.le_of_lt CD))
    obtain ⟨b,rfl⟩:=Int.eq_ofNat_of_zero_le (Int.le_trans (Int.natCast_nonneg m) (Int.le_of_lt CE))
    have hn:=a7.1
    clear a7
    generalize gF f0=G at*
    simp only [Int.toNat_natCast] at*
    repeat' (first|refine ⟨?_,?_⟩|intro _)
    all_goals first|(conv=>whnf)
    . obtain rfl:m=a+1:=by have:=eq_of_beq ‹(_==(1:Int))=true›;rw [aR _ j3 j3] at this;omega
      refine dM aA (l:= [(219,⟨[true],rV⟩),(174,⟨[true],(lP M)⟩)]) ⟨vB,ih,trivial⟩ j4 (X:=Nat×Nat)
       (fun x=>⟨[(10,vx (.int .i64 x.1)),(11,vx (.int .i64 x.2)),(0,.va (.c (.osl 0 9 0 n0))),(1,vx (.int .i64 a)),(2,vx (.int .i64 (a+1:Nat))),(3,vx (.int .i64 b)),(4,.va (.c (.fv mK)))],[(0,.row 9 n0 fun k=>aT (G k))],1,220⟩)
       (fun x=>x.2-x.1) (fun x=>a+1<=x.1/\ x.1<=x.2/\ x.2<=b/\ (∀k,a+1<=k->k<x.1->aQ (G k) (G a)=true)/\ (∀k,x.2<=k->k<b->aQ (G k) (G a)=false)) [] []
       (fun x _ _=>if aQ (G ((x.1+x.2)/2)) (G a)=true then ((x.1+x.2)/2+1,x.2) else (x.1,(x.1+x.2)/2)) [0] [0] 0 0 (a+1,b) ?_ ?_ ?_
      . exact ⟨Nat.le_refl _,by show a+1<=b;omega,Nat.le_refl _,fun k h1 h2=>absurd h1 (Nat.not_le_of_lt h2),fun k h1 h2=>absurd h1 (Nat.not_le_of_lt h2)⟩
      . repeat' (first|exact j2w|refine ⟨?_,?_⟩|fail)
      . rintro ⟨i,j⟩ ⟨k1,k2,k3,k4,k5⟩
        dsimp only at k1 k2 k3 k4 k5
        rcases Nat.lt_or_ge i j with cy|cy
        . have ag:decide ((i:Int)<(j:Int))=true:=decide_eq_true j3
          have hh:IntKind.wrap .i64 ((IntKind.wrap .u64 (IntKind.wrap .i64 ((i:Int)+(j:Int)))).fdiv (2^min (Int.toNat 1) (IntKind.bits .u64)))=(((i+j)/2:Nat):Int):=yJ j3
          have qx:i<=(i+j)/2:=j3
          have ji:(i+j)/2<j:=j3
          generalize hq:(i+j)/2=q at*
          cases hc:aQ (G q) (G a) with
          |true=>
           (repeat' (first|exact trivial|refine ⟨?_,?_⟩|intro _));all_goals first|apply qq|conv=>whnf
           all_goals first|exact j2v|skip
           all_goals first|(have hd:=‹decide (bR _ _<0)=false›;simp only [hh,Int.toNat_natCast,Nat.zero_add] at hd;exact absurd (hc.symm.trans hd) j5)|skip
           all_goals (try simp only [hh,hq,hc,if_true,Int.toNat_natCast,Nat.zero_add])
           all_goals first|exact j3t|(rename_i kk h1 h2;simp only [hq,hc,if_true] at h1 h2;first|exact k5 _ h1 h2|exact cN.lt1 (jA cN ft j3 j3 j3) hc)
          |false=>
           (repeat' (first|exact trivial|refine ⟨?_,?_⟩|intro _));all_goals first|apply qq|conv=>whnf
           all_goals first|exact j2v|skip
           all_goals first|(have hd:=‹decide (bR _ _<0)=true›;simp only [hh,Int.toNat_natCast,Nat.zero_add] at hd;exact absurd (hc.symm.trans hd) j5)|skip
           all_goals (try simp only [hh,hq,hc,if_false,Bool.false_eq_true,Int.toNat_natCast,Nat.zero_add])
           all_goals first|rfl|omega|(rename_i kk h1 h2;simp only [hq,hc,if_false,Bool.false_eq_true] at h1 h2;first|exact k4 _ h1 h2|exact cN.le1 (jA cN ft j3 j3 j3) hc)
        . have ag:decide ((i:Int)<(j:Int))=false:=decide_eq_false j3
          obtain rfl:i=j:=j3
          (repeat' (first|exact trivial|refine ⟨?_,?_⟩|intro _));all_goals first|apply qq|conv=>whnf
          all_goals first|exact j3d|skip
          refine dM aA (l:= [(219,⟨[true],rV⟩),(174,⟨[true],(lP M)⟩)]) ⟨vB,ih,trivial⟩ j4 (X:=Nat)
           (fun k=>⟨[(13,vx (.int .i64 k)),(10,vx (.int .i64 i)),(0,.va (.c (.osl 0 9 0 n0))),(1,vx (.int .i64 a)),(2,vx (.int .i64 (a+1:Nat))),(3,vx (.int .i64 b)),(4,.va (.c (.fv mK)))],[(0,.row 9 n0 fun x=>aT (put G a (aD G (a+1) (k+1)++G a::aD G (k+1) b) x))],1,220⟩)
           (fun k=>i-k) (fun k=>a<=k/\ k+1<=i) [] [] (fun k _ _=>k+1) [0] [0] 0 0 a ?_ ?_ ?_
          . exact ⟨Nat.le_refl _,k1⟩
          . rw [aWW G (j3:a<b)]
            repeat' (first|exact j2w|refine ⟨?_,?_⟩|fail)
          . rintro k ⟨q1,q2⟩
            have hw:IntKind.wrap .i64 ((i:Int)-1)=((i-1:Nat):Int):=j0e
            have gd:IntKind.wrap .i64 ((k:Int)+1)=((k+1:Nat):Int):=j0e
            rcases Nat.lt_or_ge k (i-1) with hki|hki
            . have ag:decide ((k:Int)<IntKind.wrap .i64 ((i:Int)-1))=true:=by rw [hw];exact decide_eq_true j3
              (repeat' (first|exact trivial|refine ⟨?_,?_⟩|intro _));all_goals first|apply qq|conv=>whnf
              all_goals first|exact j2v|skip
              all_goals first|((with_reducible show aO _ _ (.region 11 _ _) _ _);refine cO aA (l:= [(219,⟨[true],rV⟩),(174,⟨[true],(lP M)⟩)]) ⟨vB,ih,trivial⟩ ([.take 0,.take 1,.take 2,.take 3,.take 4,.take 5,.take 6,.take 7,.take 8,.take 9,.take 10,.take 11,.take 12,.take 13,.take 14,.act 15 [4,3,2] [75,70],.take 16,.act 17 [] [76,74]]) j4 ?_)
              all_goals (repeat' (first|refine ⟨?_,?_⟩|intro _));all_goals first|apply qq|conv=>whnf
              all_goals (try simp only [hw,gd,Int.toNat_natCast,Nat.zero_add])
              all_goals (try rw [sK,if_neg j3])
              all_goals (repeat' (first|exact trivial|refine ⟨?_,?_⟩|intro _));all_goals first|apply qq|conv=>whnf
              all_goals (try simp only [hw,gd,Int.toNat_natCast,Nat.zero_add])
              all_goals first|rfl|omega|(exact aFW rfl rfl (aYM G j3 j3) _)
            . have ag:decide ((k:Int)<IntKind.wrap .i64 ((i:Int)-1))=false:=by rw [hw];exact decide_eq_false j3
              obtain rfl:i=k+1:=j3
              (repeat' (first|exact trivial|refine ⟨?_,?_⟩|intro _));all_goals first|apply qq|conv=>whnf
              all_goals first|exact j3d|skip
              all_goals first|exact j5m|(rw [bAA k1 k3 k4 k5])
    . obtain rfl:b=m+1:=by have:=eq_of_beq ‹(IntKind.wrap .i64 ((b:Int)-(m:Int))==(1:Int))=true›;rw [aR _ j3 j3] at this;omega
      refine dM aA (l:= [(219,⟨[true],rV⟩),(174,⟨[true],(lP M)⟩)]) ⟨vB,ih,trivial⟩ j4 (X:=Nat×Nat)
       (fun x=>⟨[(14,vx (.int .i64 x.1)),(15,vx (.int .i64 x.2)),(0,.va (.c (.osl 0 9 0 n0))),(1,vx (.int .i64 a)),(2,vx (.int .i64 m)),(3,vx (.int .i64 (m+1:Nat))),(4,.va (.c (.fv mK)))],[(0,.row 9 n0 fun k=>aT (G k))],1,220⟩)
       (fun x=>x.2-x.1) (fun x=>a<=x.1/\ x.1<=x.2/\ x.2<=m/\ (∀k,a<=k->k<x.1->aQ (G m) (G k)=false)/\ (∀k,x.2<=k->k<m->aQ (G m) (G k)=true)) [] []
       (fun x _ _=>if aQ (G m) (G ((x.1+x.2)/2))=true then (x.1,(x.1+x.2)/2) else ((x.1+x.2)/2+1,x.2)) [0] [0] 0 0 (a,m) ?_ ?_ ?_
      . exact ⟨Nat.le_refl _,by show a<=m;omega,Nat.le_refl _,fun k h1 h2=>absurd h1 (Nat.not_le_of_lt h2),fun k h1 h2=>absurd h1 (Nat.not_le_of_lt h2)⟩
      . repeat' (first|exact j2w|refine ⟨?_,?_⟩|fail)
      . rintro ⟨i,j⟩ ⟨k1,k2,k3,k4,k5⟩
        dsimp only at k1 k2 k3 k4 k5
        rcases Nat.lt_or_ge i j with cy|cy
        . have ag:decide ((i:Int)<(j:Int))=true:=decide_eq_true j3
          have hh:IntKind.wrap .i64 ((IntKind.wrap .u64 (IntKind.wrap .i64 ((i:Int)+(j:Int)))).fdiv (2^min (Int.toNat 1) (IntKind.bits .u64)))=(((i+j)/2:Nat):Int):=yJ j3
          have qx:i<=(i+j)/2:=j3
          have ji:(i+j)/2<j:=j3
          generalize hq:(i+j)/2=q at*
          cases hc:aQ (G m) (G q) with
          |true=>
           (repeat' (first|exact trivial|refine ⟨?_,?_⟩|intro _));all_goals first|apply qq|conv=>whnf
           all_goals first|exact j2v|skip
           all_goals first|(have hd:=‹(!decide (bR _ _<0))=true›;simp only [hh,Int.toNat_natCast,Nat.zero_add] at hd;exact absurd ((congrArg not hc).symm.trans hd) j5)|skip
           all_goals (try simp only [hh,hq,hc,if_true,Int.toNat_natCast,Nat.zero_add])
           all_goals first|rfl|omega|(rename_i kk h1 h2;simp only [hq,hc,if_true] at h1 h2;first|exact k4 _ h1 h2|exact cN.lt2 (jA cN ke j3 j3 j3) hc)
          |false=>
           (repeat' (first|exact trivial|refine ⟨?_,?_⟩|intro _));all_goals first|apply qq|conv=>whnf
           all_goals first|exact j2v|skip
           all_goals first|(have hd:=‹(!decide (bR _ _<0))=false›;simp only [hh,Int.toNat_natCast,Nat.zero_add] at hd;exact absurd ((congrArg not hc).symm.trans hd) j5)|skip
           all_goals (try simp only [hh,hq,hc,if_false,Bool.false_eq_true,Int.toNat_natCast,Nat.zero_add])
           all_goals first|exact j3t|(rename_i kk h1 h2;simp only [hq,hc,if_false,Bool.false_eq_true] at h1 h2;first|exact k5 _ h1 h2|exact cN.le1 hc (jA cN ke j3 j3 j3))
        . have ag:decide ((i:Int)<(j:Int))=false:=decide_eq_false j3
          obtain rfl:i=j:=j3
          (repeat' (first|exact trivial|refine ⟨?_,?_⟩|intro _));all_goals first|apply qq|conv=>whnf
          all_goals first|exact j3d|skip
          refine dM aA (l:= [(219,⟨[true],rV⟩),(174,⟨[true],(lP M)⟩)]) ⟨vB,ih,trivial⟩ j4 (X:=Nat)
           (fun k=>⟨[(17,vx (.int .i64 k)),(14,vx (.int .i64 i)),(0,.va (.c (.osl 0 9 0 n0))),(1,vx (.int .i64 a)),(2,vx (.int .i64 m)),(3,vx (.int .i64 (m+1:Nat))),(4,.va (.c (.fv mK)))],[(0,.row 9 n0 fun x=>aT (put G a (aD G a k++G m::aD G k m) x))],1,220⟩)
           (fun k=>k-i) (fun k=>i<=k/\ k<=m) [] [] (fun k _ _=>k-1) [0] [0] 0 0 m ?_ ?_ ?_
          . exact ⟨k3,Nat.le_refl _⟩
          . rw [aVQ G (j3:a<=m)]
            repeat' (first|exact j2w|refine ⟨?_,?_⟩|fail)
          . rintro k ⟨q1,q2⟩
            rcases Nat.lt_or_ge i k with hki|hki
            . obtain ⟨p,rfl⟩: ∃p,k=p+1:=⟨k-1,by omega⟩
              have hw:IntKind.wrap .i64 (((p+1:Nat):Int)-1)=(p:Int):=j0e
              have ag:decide (((p+1:Nat):Int)>(i:Int))=true:=decide_eq_true j3
              (repeat' (first|exact trivial|refine ⟨?_,?_⟩|intro _));all_goals first|apply qq|conv=>whnf
              all_goals first|exact j2v|skip
              all_goals first|((with_reducible show aO _ _ (.region 23 _ _) _ _);refine cO aA (l:= [(219,⟨[true],rV⟩),(174,⟨[true],(lP M)⟩)]) ⟨vB,ih,trivial⟩ ([.take 0,.take 1,.take 2,.take 3,.take 4,.take 5,.take 6,.take 7,.take 8,.take 9,.take 10,.take 11,.take 12,.take 13,.take 14,.act 15 [4,3,2] [127,122],.take 16,.act 17 [] [128,126]]) j4 ?_)
              all_goals (repeat' (first|refine ⟨?_,?_⟩|intro _));all_goals first|apply qq|conv=>whnf
              all_goals (try simp only [hw,Int.toNat_natCast,Nat.zero_add])
              all_goals (try rw [sK,if_neg j3])
              all_goals (repeat' (first|exact trivial|refine ⟨?_,?_⟩|intro _));all_goals first|apply qq|conv=>whnf
              all_goals (try simp only [hw,Int.toNat_natCast,Nat.zero_add,Nat.add_sub_cancel])
              all_goals first|rfl|omega|(exact aFW rfl rfl (aWX G j3 j3) _)
            . obtain rfl:i=k:=by omega
              have ag:decide ((i:Int)>(i:Int))=false:=decide_eq_false j3
              (repeat' (first|exact trivial|refine ⟨?_,?_⟩|intro _));all_goals first|apply qq|conv=>whnf
              all_goals first|exact j3d|skip
              all_goals first|exact j5m|(rw [aYN k1 k3 k4 k5])
    . obtain ⟨an,qe⟩: ∃an,an=(a+b)/2:=⟨_,rfl⟩
      have qf:IntKind.wrap .i64 ((IntKind.wrap .u64 (IntKind.wrap .i64 ((a:Int)+(b:Int)))).fdiv (2^min (Int.toNat 1) (IntKind.bits .u64)))=(an:Int):=by rw [yJ j3,qe]
      have lu:a+2<=m/\ m+2<=b:=by
       have h1:=ne_of_beq_false ‹(IntKind.wrap .i64 ((m:Int)-(a:Int))==(1:Int))=false›
       have h2:=ne_of_beq_false ‹(IntKind.wrap .i64 ((b:Int)-(m:Int))==(1:Int))=false›
       rw [aR _ j3 j3] at h1 h2;omega
      have j6:a<an/\ an<b/\ 2*an<=a+b/\ a+b<=2*an+1:=j3
      clear qe;have mn:IntKind.wrap .i64 ((an:Int)+(m:Int))=((an+m:Nat):Int):=j0e
      have Ag:IntKind.wrap .i64 (((an+m:Nat):Int)-1)=((an+m-1:Nat):Int):=j0e
      have Ah:IntKind.wrap .i64 (((an+m:Nat):Int)-(b:Int))=((an+m:Nat):Int)-(b:Int):=by rw [aR _ j3 j3]
      have hx:=of_decide_eq_true ‹decide ((m:Int)>_)=true›
      rw [qf] at hx;have xm:a<=(an+m-b)/\ (an+m-b)<=an/\ an<=an/\ an<=m/\ an+m-(an+m-b)<=b/\ ((an+m-b)=a \/an+m-(an+m-b)=b)/\ (an=an \/an=m):=by
       omega
      refine dM aA (l:= [(219,⟨[true],rV⟩),(174,⟨[true],(lP M)⟩)]) ⟨vB,ih,trivial⟩ j4 (X:=Nat×Nat)
       (fun x=>⟨[(20,vx (.int .i64 x.1)),(21,vx (.int .i64 x.2)),(22,vx (.int .i64 (an+m-1:Nat))),(18,vx (.int .i64 an)),(19,vx (.int .i64 (an+m:Nat))),(0,.va (.c (.osl 0 9 0 n0))),(1,vx (.int .i64 a)),(2,vx (.int .i64 m)),(3,vx (.int .i64 b)),(4,.va (.c (.fv mK)))],[(0,.row 9 n0 fun k=>aT (G k))],1,220⟩)
       (fun x=>x.2-x.1) (fun x=>(an+m-b)<=x.1/\ x.1<=x.2/\ x.2<=an/\ (∀k,(an+m-b)<=k->k<x.1->aQ (G (an+m-1-k)) (G k)=false)/\ (∀k,x.2<=k->k<an->aQ (G (an+m-1-k)) (G k)=true)) [] []
       (fun x _ _=>if aQ (G (an+m-1-(x.1+x.2)/2)) (G ((x.1+x.2)/2))=true then (x.1,(x.1+x.2)/2) else ((x.1+x.2)/2+1,x.2)) [0] [0] 0 0 ((an+m-b),an) ?_ ?_ ?_
      . exact ⟨Nat.le_refl _,xm.2.1,Nat.le_refl _,fun k h1 h2=>absurd h1 (Nat.not_le_of_lt h2),fun k h1 h2=>absurd h1 (Nat.not_le_of_lt h2)⟩
      . repeat' (first|exact j2w|refine ⟨?_,?_⟩|fail)
        all_goals (refine congrArg (Value.int .i64) ?_;simp only [qf,mn,Ag,Ah]<;>omega)
      . rintro ⟨i,j⟩ ⟨k1,k2,k3,k4,k5⟩
        dsimp only at k1 k2 k3 k4 k5
        rcases Nat.lt_or_ge i j with cy|cy
        . have ag:decide ((i:Int)<(j:Int))=true:=decide_eq_true j3
          have hh:IntKind.wrap .i64 ((IntKind.wrap .u64 (IntKind.wrap .i64 ((i:Int)+(j:Int)))).fdiv (2^min (Int.toNat 1) (IntKind.bits .u64)))=(((i+j)/2:Nat):Int):=yJ j3
          have qx:i<=(i+j)/2:=j3
          have ji:(i+j)/2<j:=j3
          generalize hq:(i+j)/2=q at*
          have ur:IntKind.wrap .i64 (((an+m-1:Nat):Int)-(q:Int))=((an+m-1-q:Nat):Int):=j0e
          cases hc:aQ (G (an+m-1-q)) (G q) with
          |true=>
           (repeat' (first|exact trivial|refine ⟨?_,?_⟩|intro _));all_goals first|apply qq|conv=>whnf
           all_goals first|exact j2v|skip
           all_goals first|exact j4v|skip
           all_goals (try simp only [hh,hq,hc,ur,if_true,Int.toNat_natCast,Nat.zero_add])
           all_goals first|exact j4u
          |false=>
           (repeat' (first|exact trivial|refine ⟨?_,?_⟩|intro _));all_goals first|apply qq|conv=>whnf
           all_goals first|exact j2v|skip
           all_goals first|exact j4t|skip
           all_goals (try simp only [hh,hq,hc,ur,if_false,Bool.false_eq_true,Int.toNat_natCast,Nat.zero_add])
           all_goals first|exact j4j
        . have ag:decide ((i:Int)<(j:Int))=false:=decide_eq_false j3
          obtain rfl:i=j:=j3
          obtain ⟨e,CG⟩: ∃e,e=an+m-i:=⟨_,rfl⟩
          have he:e+i=an+m:=j3
          have Ai:IntKind.wrap .i64 (((an+m:Nat):Int)-(i:Int))=(e:Int):=j0e
          have au:a<=i/\ i<=m/\ m<=e/\ e<=b/\ i<=an/\ an<=e:=j3
          have hx1:a<i->e<b->aQ (G e) (G (i-1))=false:=by
           intro h1 h2;have:=k4 (i-1) j3 j3
           rw [show an+m-1-(i-1)=e by omega] at this;exact this
          have wi:i<m->m<e->aQ (G (e-1)) (G i)=true:=by
           intro h1 h2;have:=k5 i (Nat.le_refl _) j3
           rw [show an+m-1-i=e-1 by omega] at this;exact this
          have fy:=aRo cN G au.1 au.2.1 au.2.2.1 au.2.2.2.1 he ke ft hx1 wi
          have lq:=aQd G au.1 au.2.1 au.2.2.1 au.2.2.2.1 he ke ft
          have lr: ∀H1 H2,H1=eX G i m e->H2=put H1 a (mg aQ (aD H1 a i) (aD H1 i an))->cK aQ (aD H2 an e)/\ cK aQ (aD H2 e b):=by
           rintro H1 H2 h1 rfl
           exact (lq H1 h1).2.2 _ j1n
          have c6: ∀(H:Nat->Bd) (i:Nat),i<n0->jC (aT (H i)):=fun H i _=>yQ _
          clear hx1 wi k4 k5 xm Ah mn Ag qf CG
          (repeat' (first|exact j5u|refine ⟨?_,?_⟩|(intro h;(first|have h1:=of_decide_eq_true h|have h1:=of_decide_eq_false h);clear h;(try simp only [Ai] at h1);skip;try (exfalso;omega))|intro _));all_goals first|apply qq|conv=>whnf
          all_goals (try dsimp only)
          all_goals first|omega|skip
          all_goals (try simp only [Ai,rH,Int.toNat_natCast])
          all_goals first|(exact congrArg aT (congrFun (fy _ _ _ rfl rfl rfl) _))|(exact congrArg aT (congrFun (fy _ _ _ rfl rfl (nF _ au.2.2.2.2.2 au.2.2.2.1 j3).symm) _))|exact j5e|(exact congrArg aT (congrFun (fy _ _ _ (zW G au.2.1 au.2.2.1 j3).symm (nF _ au.1 au.2.2.2.2.1 j3).symm rfl) _))|exact (lq _ rfl).1|exact (lq _ rfl).2.1|exact (lr _ _ rfl rfl).1|exact (lr _ _ rfl rfl).2|exact (lr _ _ (zW G au.2.1 au.2.2.1 j3).symm (nF _ au.1 au.2.2.2.2.1 j3).symm).1|exact (lr _ _ (zW G au.2.1 au.2.2.1 j3).symm (nF _ au.1 au.2.2.2.2.1 j3).symm).2
          all_goals trace_state
    . obtain ⟨an,qe⟩: ∃an,an=(a+b)/2:=⟨_,rfl⟩
      have qf:IntKind.wrap .i64 ((IntKind.wrap .u64 (IntKind.wrap .i64 ((a:Int)+(b:Int)))).fdiv (2^min (Int.toNat 1) (IntKind.bits .u64)))=(an:Int):=by rw [yJ j3,qe]
      have lu:a+2<=m/\ m+2<=b:=by
       have h1:=ne_of_beq_false ‹(IntKind.wrap .i64 ((m:Int)-(a:Int))==(1:Int))=false›
       have h2:=ne_of_beq_false ‹(IntKind.wrap .i64 ((b:Int)-(m:Int))==(1:Int))=false›
       rw [aR _ j3 j3] at h1 h2;omega
      have j6:a<an/\ an<b/\ 2*an<=a+b/\ a+b<=2*an+1:=j3
      clear qe;have mn:IntKind.wrap .i64 ((an:Int)+(m:Int))=((an+m:Nat):Int):=j0e
      have Ag:IntKind.wrap .i64 (((an+m:Nat):Int)-1)=((an+m-1:Nat):Int):=j0e
      have Ah:IntKind.wrap .i64 (((an+m:Nat):Int)-(b:Int))=((an+m:Nat):Int)-(b:Int):=by rw [aR _ j3 j3]
      have hx:=of_decide_eq_false ‹decide ((m:Int)>_)=false›
      rw [qf] at hx;have xm:a<=a/\ a<=m/\ m<=an/\ m<=m/\ an+m-a<=b/\ (a=a \/an+m-a=b)/\ (m=an \/m=m):=by
       omega
      refine dM aA (l:= [(219,⟨[true],rV⟩),(174,⟨[true],(lP M)⟩)]) ⟨vB,ih,trivial⟩ j4 (X:=Nat×Nat)
       (fun x=>⟨[(20,vx (.int .i64 x.1)),(21,vx (.int .i64 x.2)),(22,vx (.int .i64 (an+m-1:Nat))),(18,vx (.int .i64 an)),(19,vx (.int .i64 (an+m:Nat))),(0,.va (.c (.osl 0 9 0 n0))),(1,vx (.int .i64 a)),(2,vx (.int .i64 m)),(3,vx (.int .i64 b)),(4,.va (.c (.fv mK)))],[(0,.row 9 n0 fun k=>aT (G k))],1,220⟩)
       (fun x=>x.2-x.1) (fun x=>a<=x.1/\ x.1<=x.2/\ x.2<=m/\ (∀k,a<=k->k<x.1->aQ (G (an+m-1-k)) (G k)=false)/\ (∀k,x.2<=k->k<m->aQ (G (an+m-1-k)) (G k)=true)) [] []
       (fun x _ _=>if aQ (G (an+m-1-(x.1+x.2)/2)) (G ((x.1+x.2)/2))=true then (x.1,(x.1+x.2)/2) else ((x.1+x.2)/2+1,x.2)) [0] [0] 0 0 (a,m) ?_ ?_ ?_
      . exact ⟨Nat.le_refl _,xm.2.1,Nat.le_refl _,fun k h1 h2=>absurd h1 (Nat.not_le_of_lt h2),fun k h1 h2=>absurd h1 (Nat.not_le_of_lt h2)⟩
      . repeat' (first|exact j2w|refine ⟨?_,?_⟩|fail)
        all_goals (refine congrArg (Value.int .i64) ?_;simp only [qf,mn,Ag,Ah]<;>omega)
      . rintro ⟨i,j⟩ ⟨k1,k2,k3,k4,k5⟩
        dsimp only at k1 k2 k3 k4 k5
        rcases Nat.lt_or_ge i j with cy|cy
        . have ag:decide ((i:Int)<(j:Int))=true:=decide_eq_true j3
          have hh:IntKind.wrap .i64 ((IntKind.wrap .u64 (IntKind.wrap .i64 ((i:Int)+(j:Int)))).fdiv (2^min (Int.toNat 1) (IntKind.bits .u64)))=(((i+j)/2:Nat):Int):=yJ j3
          have qx:i<=(i+j)/2:=j3
          have ji:(i+j)/2<j:=j3
          generalize hq:(i+j)/2=q at*
          have ur:IntKind.wrap .i64 (((an+m-1:Nat):Int)-(q:Int))=((an+m-1-q:Nat):Int):=j0e
          cases hc:aQ (G (an+m-1-q)) (G q) with
          |true=>
           (repeat' (first|exact trivial|refine ⟨?_,?_⟩|intro _));all_goals first|apply qq|conv=>whnf
           all_goals first|exact j2v|skip
           all_goals first|exact j4v|skip
           all_goals (try simp only [hh,hq,hc,ur,if_true,Int.toNat_natCast,Nat.zero_add])
           all_goals first|exact j4u
          |false=>
           (repeat' (first|exact trivial|refine ⟨?_,?_⟩|intro _));all_goals first|apply qq|conv=>whnf
           all_goals first|exact j2v|skip
           all_goals first|exact j4t|skip
           all_goals (try simp only [hh,hq,hc,ur,if_false,Bool.false_eq_true,Int.toNat_natCast,Nat.zero_add])
           all_goals first|exact j4j
        . have ag:decide ((i:Int)<(j:Int))=false:=decide_eq_false j3
          obtain rfl:i=j:=j3
          obtain ⟨e,CG⟩: ∃e,e=an+m-i:=⟨_,rfl⟩
          have he:e+i=an+m:=j3
          have Ai:IntKind.wrap .i64 (((an+m:Nat):Int)-(i:Int))=(e:Int):=j0e
          have au:a<=i/\ i<=m/\ m<=e/\ e<=b/\ i<=an/\ an<=e:=j3
          have hx1:a<i->e<b->aQ (G e) (G (i-1))=false:=by
           intro h1 h2;have:=k4 (i-1) j3 j3
           rw [show an+m-1-(i-1)=e by omega] at this;exact this
          have wi:i<m->m<e->aQ (G (e-1)) (G i)=true:=by
           intro h1 h2;have:=k5 i (Nat.le_refl _) j3
           rw [show an+m-1-i=e-1 by omega] at this;exact this
          have fy:=aRo cN G au.1 au.2.1 au.2.2.1 au.2.2.2.1 he ke ft hx1 wi
          have lq:=aQd G au.1 au.2.1 au.2.2.1 au.2.2.2.1 he ke ft
          have lr: ∀H1 H2,H1=eX G i m e->H2=put H1 a (mg aQ (aD H1 a i) (aD H1 i an))->cK aQ (aD H2 an e)/\ cK aQ (aD H2 e b):=by
           rintro H1 H2 h1 rfl
           exact (lq H1 h1).2.2 _ j1n
          have c6: ∀(H:Nat->Bd) (i:Nat),i<n0->jC (aT (H i)):=fun H i _=>yQ _
          clear hx1 wi k4 k5 xm Ah mn Ag qf CG
          (repeat' (first|exact j5u|refine ⟨?_,?_⟩|(intro h;(first|have h1:=of_decide_eq_true h|have h1:=of_decide_eq_false h);clear h;(try simp only [Ai] at h1);skip;try (exfalso;omega))|intro _));all_goals first|apply qq|conv=>whnf
          all_goals (try dsimp only)
          all_goals first|omega|skip
          all_goals (try simp only [Ai,rH,Int.toNat_natCast])
          all_goals first|(exact congrArg aT (congrFun (fy _ _ _ rfl rfl rfl) _))|(exact congrArg aT (congrFun (fy _ _ _ rfl (nF _ au.1 au.2.2.2.2.1 j3).symm rfl) _))|exact j5e|(exact congrArg aT (congrFun (fy _ _ _ (zW G au.2.1 au.2.2.1 j3).symm rfl (nF _ au.2.2.2.2.2 au.2.2.2.1 j3).symm) _))|(exact congrArg aT (congrFun (fy _ _ _ (zW G au.2.1 au.2.2.1 j3).symm (nF _ au.1 au.2.2.2.2.1 j3).symm (nF _ au.2.2.2.2.2 au.2.2.2.1 j3).symm) _))|exact (lq _ rfl).1|exact (lq _ rfl).2.1|exact (lq _ (zW G au.2.1 au.2.2.1 j3).symm).1|exact (lq _ (zW G au.2.1 au.2.2.1 j3).symm).2.1|exact (lr _ _ rfl rfl).1|exact (lr _ _ rfl rfl).2|exact (lr _ _ rfl (nF _ au.1 au.2.2.2.2.1 j3).symm).1|exact (lr _ _ rfl (nF _ au.1 au.2.2.2.2.1 j3).symm).2
          all_goals trace_state
  . cases h
section
variable {α:Type} [Inhabited α] {lt:α→α→Bool}
def BS (lt:α->α->Bool) (G H:Nat->α) (D n:Nat):Prop:=(∀c,D∣c->c<n->aD H c (min (c+D) n)=bO lt (aD G c (min (c+D) n)))/\ ∀k,n<=k->H k=G k
def PB (lt:α->α->Bool) (G H H':Nat->α) (D a:Nat):Prop:=D∣a/\ (∀c,D∣c->c+D<=a->aD H' c (c+D)=bO lt (aD G c (c+D)))/\ ∀k,a<=k->H' k=H k
theorem aKo {D c a:Nat} (h1:D∣c) (h2:D∣a) (h:c<a):c+D<=a:=by
 have:=Nat.le_of_dvd j3 (Nat.dvd_sub h2 h1)
 omega
theorem PB.start (G H:Nat->α) (D:Nat) (hD:0<D):PB lt G H H D 0:=⟨Nat.dvd_zero _,fun c _ h=>by omega,fun _ _=>rfl⟩
theorem PB.step {G H H':Nat->α} {D a:Nat} (h:PB lt G H H' D a) (hD:0<D):PB lt G H (put H' a (bO lt (aD G a (a+D)))) D (a+D):=by
 obtain ⟨h1,h2,h3⟩:=h
 have hl:(bO lt (aD G a (a+D))).length=a+D-a:=by rw [wE,dD]
 refine ⟨(Nat.dvd_add_right h1).2 (Nat.dvd_refl D),fun c hc B5=> ?_,fun k hk=> ?_⟩
 . rcases Nat.lt_or_ge c a with hca|hca
   . have:=aKo hc h1 hca
     rw [<-h2 c hc this];exact pT fun k _ hk=>pP (.inl j3)
   . have:c=a:=by omega
     subst this;exact aKg _ _ _ _ hl j3
 . rw [pP (.inr j3),h3 k j3]
theorem PB.done {G H H':Nat->α} {D a n:Nat} (h:PB lt G H H' D a) (hD:0<D) (ha:a<=n) (hn:n<a+D) (hH: ∀k,n<=k->H k=G k):BS lt G (put H' a (bO lt (aD G a n))) D n:=by
 obtain ⟨h1,h2,h3⟩:=h
 have hl:(bO lt (aD G a n)).length=n-a:=by rw [wE,dD]
 refine ⟨fun c hc xr=> ?_,fun k hk=> ?_⟩
 . rcases Nat.lt_or_ge c a with hca|hca
   . have:=aKo hc h1 hca
     have e:min (c+D) n=c+D:=j3
     rw [e, <-h2 c hc this];exact pT fun k _ hk=>pP (.inl j3)
   . have:c=a:=by
      rcases Nat.lt_or_ge a c with h4|h4
      . have:=aKo h1 hc h4;omega
      . omega
     subst this;have e:min (c+D) n=n:=j3
     rw [e];exact aKg _ _ _ _ hl j3
 . rw [pP (.inr j3),h3 k j3,hH k hk]
theorem BS.two (hw:Wk lt) {G H H':Nat->α} {B a e n:Nat} (h:BS lt G H B n) (hp:PB lt G H H' (2*B) a) (hB:0<B) (h1:a+B<e) (h2:e<=a+2*B) (h3:e<=n) (h4:e=a+2*B \/e=n):
 aD H' a (a+B)=bO lt (aD G a (a+B))/\ aD H' (a+B) e=bO lt (aD G (a+B) e)/\ mg lt (aD H' a (a+B)) (aD H' (a+B) e)=bO lt (aD G a e):=by
 have d1:B∣a:=Nat.dvd_trans ⟨2,Nat.mul_comm 2 B⟩ hp.1
 have d2:B∣a+B:=(Nat.dvd_add_right d1).2 (Nat.dvd_refl B)
 have k1:=h.1 a d1 j3
 have k2:=h.1 (a+B) d2 j3
 rw [show min (a+B) n=a+B by omega] at k1;rw [show min (a+B+B) n=e by omega] at k2;have e1:aD H' a (a+B)=aD H a (a+B):=pT fun k hk _=>hp.2.2 k hk
 have e2:aD H' (a+B) e=aD H (a+B) e:=pT fun k hk _=>hp.2.2 k j3
 rw [e1,e2,k1,k2];refine ⟨rfl,rfl, ?_⟩
 rw [<-aVJ hw, <-uH G j3 j3]
theorem BS.one {G H H':Nat->α} {B a n:Nat} (h:BS lt G H B n) (hp:PB lt G H H' (2*B) a) (h1:n<=a+B) (h2:a<=n):put H' a (bO lt (aD G a n))=H':=by
 have e1:aD H' a n=bO lt (aD G a n):=by
  rcases Nat.lt_or_ge a n with h3|h3
  . have k1:=h.1 a (Nat.dvd_trans ⟨2,Nat.mul_comm 2 B⟩ hp.1) h3
    rw [show min (a+B) n=n by omega] at k1;rw [<-k1];exact pT fun k hk _=>hp.2.2 k hk
  . rw [zE _ h3,zE _ h3];rfl
 rw [<-e1,aBe]
theorem BS.fin {G H:Nat->α} {B n:Nat} (h:BS lt G H B n) (hn:n<=B):H=put G 0 (bO lt (aD G 0 n)):=by
 rcases Nat.eq_zero_or_pos n with h0|h0
 . subst h0
   funext k
   rw [h.2 k (Nat.zero_le _)];exact (pP (by rw [wE,dD];omega)).symm
 . have k1:=h.1 0 (Nat.dvd_zero _) h0
   rw [show min (0+B) n=n by omega] at k1;rw [<-k1]
   funext k
   rcases Nat.lt_or_ge k n with hk|hk
   . have:=aG2 (g:=G) (a:=0) (l:=aD H 0 n) (k:=k) x6
     rw [Nat.zero_add] at this;rw [this,aFo j3,Nat.zero_add]
   . rw [pP x6];exact h.2 k hk
end
def aKp:List Ar->Option Rs
 | [.c (.ow 9 n0 f0),.c (.d (.v (.int .i64 i1))),.fv g2]=>some ⟨(n0<=1099511627776/\ ∀i,i<n0->jC (f0 i))/\ (-9223372036854775808<=i1/\ i1<9223372036854775808)/\ ((0<=i1/\ i1<=n0)/\ g2=mK),.tup [],[some fun k=>aT (put (gF f0) 0 (bO aQ (aD (gF f0) 0 (i1).toNat)) k)]⟩
 |_=>none
theorem aYO:FC prog 128 aKp:=by
 intro xs pre r us h hp;unfold aKp at h;split at h
 . rename_i n0 f0 i1 g2
   cases h;obtain ⟨a7,a8,af⟩:=hp
   refine aU.deep (ys:= [.c (.ow 9 n0 fun k=>aT (gF f0 k)),.c (.d (.v (.int .i64 i1))),.fv g2]) ?_ ?_
   . repeat' (first|exact j3z|refine ⟨?_,?_⟩|fail)
     all_goals first|exact j5v
   refine aE aA (l:= [(173,⟨[true],aAZ⟩),(174,⟨[true],(lP 2199023255552)⟩)]) ⟨aEZ,(aG5 2199023255552),trivial⟩ func128 rfl j4 false ?_
   obtain ⟨⟨ha,hb⟩,rfl⟩:=af
   obtain ⟨n,rfl⟩:=Int.eq_ofNat_of_zero_le ha
   have hn:=a7.1
   clear a7
   generalize gF f0=G at*
   have c6: ∀(H:Nat->Bd) (i:Nat),i<n0->jC (aT (H i)):=fun H i _=>yQ _
   simp only [Int.toNat_natCast] at*
   repeat' (fail)
   all_goals first|(conv=>whnf)
   refine dM aA (l:= [(173,⟨[true],aAZ⟩),(174,⟨[true],(lP 2199023255552)⟩)]) ⟨aEZ,(aG5 2199023255552),trivial⟩ j4 (X:=Nat×(Nat->Bd))
    (fun x=>⟨[(6,vx (.int .i64 20)),(7,vx (.int .i64 x.1)),(8,vx (.int .i64 (x.1+20:Nat))),(0,.va (.c (.osl 0 9 0 n0))),(1,vx (.int .i64 n)),(2,.va (.c (.fv mK)))],[(0,.row 9 n0 fun k=>aT (x.2 k))],1,63⟩)
    (fun x=>n-x.1) (fun x=>x.1<=n/\ PB aQ G G x.2 20 x.1) [] []
    (fun x _ _=>(x.1+20,put x.2 x.1 (bO aQ (aD x.2 x.1 (x.1+20))))) [0] [0] 0 0 (0,G) ?_ ?_ ?_
   . exact ⟨Nat.zero_le _,PB.start G G 20 j5⟩
   . repeat' (first|exact j2w|refine ⟨?_,?_⟩|fail)
   . rintro ⟨a,H⟩ ⟨k1,k2⟩
     dsimp only at k1 k2
     have hE: ∀e,aD H a e=aD G a e:=fun e=>pT fun k hk _=>k2.2.2 k hk
     have hw:IntKind.wrap .i64 (((a+20:Nat):Int)+20)=((a+20+20:Nat):Int):=j0e
     rcases Nat.lt_or_ge n (a+20) with hc|hc
     . have ag:decide (((a+20:Nat):Int)<=(n:Int))=false:=decide_eq_false j3
       (repeat' (first|exact trivial|(with_reducible exact (c6 _))|refine ⟨?_,?_⟩|intro _));all_goals first|apply qq|conv=>whnf
       all_goals first|exact j3d|skip
       all_goals first|omega|skip
       have hd:=k2.done j5 k1 hc (fun _ _=>rfl)
       refine dM aA (l:= [(173,⟨[true],aAZ⟩),(174,⟨[true],(lP 2199023255552)⟩)]) ⟨aEZ,(aG5 2199023255552),trivial⟩ j4 (X:=Nat×(Nat->Bd))
        (fun x=>⟨[(6,vx (.int .i64 x.1)),(0,.va (.c (.osl 0 9 0 n0))),(1,vx (.int .i64 n)),(2,.va (.c (.fv mK)))],[(0,.row 9 n0 fun k=>aT (x.2 k))],1,63⟩)
        (fun x=>n-x.1) (fun x=>0<x.1/\ (x.1=20 \/x.1<2*n)/\ BS aQ G x.2 x.1 n) [] [0]
        (fun x _ bs=>(2*x.1,match bs with| [.row _ _ f]=>gF f|_=>G)) [0] [0] 0 0 (20,put H a (bO aQ (aD G a n))) ?_ ?_ ?_
       . exact ⟨Nat.zero_lt_succ _,.inl rfl,hd⟩
       . repeat' (first|exact j2t|refine ⟨?_,?_⟩|fail)
         all_goals (intro i _;dsimp only;simp only [rH,hE,Int.toNat_natCast])
       . rintro ⟨B,H1⟩ ⟨q1,q2,q3⟩
         dsimp only at q1 q2 q3
         clear hd k1 k2 hE hw hc ag;rcases Nat.lt_or_ge B n with hc|hc
         . have ag:decide ((B:Int)<(n:Int))=true:=decide_eq_true j3
           have gd:IntKind.wrap .i64 (2*(B:Int))=((2*B:Nat):Int):=j0e
           have CH:IntKind.wrap .i64 ((B:Int)*2)=((2*B:Nat):Int):=j0e
           (repeat' (first|exact trivial|refine ⟨?_,?_⟩|intro _));all_goals first|apply qq|conv=>whnf
           all_goals first|exact j2v|skip
           refine dM aA (l:= [(173,⟨[true],aAZ⟩),(174,⟨[true],(lP 2199023255552)⟩)]) ⟨aEZ,(aG5 2199023255552),trivial⟩ j4 (X:=Nat×(Nat->Bd))
            (fun x=>⟨[(6,vx (.int .i64 B)),(7,vx (.int .i64 x.1)),(8,vx (.int .i64 (x.1+2*B:Nat))),(0,.va (.c (.osl 0 9 0 n0))),(1,vx (.int .i64 n)),(2,.va (.c (.fv mK)))],[(0,.row 9 n0 fun k=>aT (x.2 k))],1,63⟩)
            (fun x=>n-x.1) (fun x=>x.1<=n/\ PB aQ G H1 x.2 (2*B) x.1) [] []
            (fun x _ _=>(x.1+2*B,put x.2 x.1 (bO aQ (aD G x.1 (x.1+2*B))))) [0] [0] 0 0 (0,H1) ?_ ?_ ?_
           . exact ⟨Nat.zero_le _,PB.start G H1 (2*B) j3⟩
           . repeat' (first|exact j2w|refine ⟨?_,?_⟩|fail)
             all_goals (refine congrArg (Value.int .i64) ?_;rw [gd];dsimp only;omega)
           . rintro ⟨a,H⟩ ⟨k1,k2⟩
             dsimp only at k1 k2
             have ot:IntKind.wrap .i64 ((a:Int)+(B:Int))=((a+B:Nat):Int):=j0e
             have z6:IntKind.wrap .i64 (((a+2*B:Nat):Int)+((2*B:Nat):Int))=((a+2*B+2*B:Nat):Int):=j0e
             rcases Nat.lt_or_ge n (a+2*B) with hd|hd
             . have rz:decide (((a+2*B:Nat):Int)<=(n:Int))=false:=decide_eq_false j3
               have fy:=k2.done j3 k1 hd q3.2
               rcases Nat.lt_or_ge (a+B) n with hm|hm
               . have CI:decide (IntKind.wrap .i64 ((a:Int)+(B:Int))<(n:Int))=true:=by rw [ot];exact decide_eq_true j3
                 have ht:=q3.two cN k2 q1 hm j3 (Nat.le_refl n) (.inr rfl)
                 have ke:cK aQ (aD H a (a+B)):=by rw [ht.1];exact zD cN _
                 have ft:cK aQ (aD H (a+B) n):=by rw [ht.2.1];exact zD cN _
                 (repeat' (first|exact trivial|(with_reducible first|exact (c6 _)|exact (fun h=>absurd (rz.symm.trans h) Bool.false_ne_true)|exact (fun h=>absurd (h.symm.trans CI) Bool.false_ne_true))|refine ⟨?_,?_⟩|intro _));all_goals first|apply qq|conv=>whnf
                 all_goals (try dsimp only)
                 all_goals (try simp only [gd,ot,z6,CH,rH,ht.2.2,Int.toNat_natCast])
                 all_goals first|rfl|omega|exact ke|exact ft|exact fy.1 _ ‹_› ‹_›|exact fy.2 _ ‹_›
               . have CI:decide (IntKind.wrap .i64 ((a:Int)+(B:Int))<(n:Int))=false:=by rw [ot];exact decide_eq_false j3
                 rw [q3.one k2 hm k1] at fy
                 (repeat' (first|exact trivial|(with_reducible first|exact (fun h=>absurd (rz.symm.trans h) Bool.false_ne_true)|exact (fun h=>absurd (CI.symm.trans h) Bool.false_ne_true))|refine ⟨?_,?_⟩|intro _));all_goals first|apply qq|conv=>whnf
                 all_goals (try dsimp only)
                 all_goals (try simp only [gd,ot,z6,CH,rH,Int.toNat_natCast])
                 all_goals first|rfl|omega|exact fy.1 _ ‹_› ‹_›|exact fy.2 _ ‹_›
             . have rz:decide (((a+2*B:Nat):Int)<=(n:Int))=true:=decide_eq_true j3
               have ht:=q3.two cN k2 q1 (j3:a+B<a+2*B) (Nat.le_refl _) hd (.inl rfl)
               have ke:cK aQ (aD H a (a+B)):=by rw [ht.1];exact zD cN _
               have ft:cK aQ (aD H (a+B) (a+2*B)):=by rw [ht.2.1];exact zD cN _
               have hs:=k2.step j3
               have CJ:=hs.1
               (repeat' (first|exact trivial|(with_reducible first|exact (c6 _)|exact CJ)|refine ⟨?_,?_⟩|intro _));all_goals first|apply qq|conv=>whnf
               all_goals first|(exact absurd (rz.symm.trans ‹_=false›) j5)|skip
               all_goals (try dsimp only)
               all_goals (try simp only [gd,ot,z6,CH,rH,ht.2.2,Int.toNat_natCast])
               all_goals first|rfl|omega|exact ke|exact ft|exact hs.2.1 _ ‹_› ‹_›|exact hs.2.2 _ ‹_›
         . have ag:decide ((B:Int)<(n:Int))=false:=decide_eq_false j3
           have hf:=q3.fin hc
           (repeat' (first|exact trivial|refine ⟨?_,?_⟩|intro _));all_goals first|apply qq|conv=>whnf
           all_goals first|exact j3d|skip
           all_goals first|exact j5m|exact congrArg aT (congrFun hf _)
     . have ag:decide (((a+20:Nat):Int)<=(n:Int))=true:=decide_eq_true j3
       have hs:=k2.step j5
       have CJ:=hs.1
       (repeat' (first|exact trivial|(with_reducible first|exact (c6 _)|exact CJ)|refine ⟨?_,?_⟩|intro _));all_goals first|apply qq|conv=>whnf
       all_goals first|exact j2v|skip
       all_goals (try dsimp only)
       all_goals (try simp only [hE,hw,rH,Int.toNat_natCast])
       all_goals first|rfl|omega|exact hs.2.1 _ ‹_› ‹_›|exact hs.2.2 _ ‹_›
 . cases h
def jV (p:Bd):List Bd->List Bd
 | []=> []
 |y::r=>if y.name=p.name then jV y r else y::jV y r
def dd:List Bd->List Bd
 | []=> []
 |x::r=>x::jV x r
theorem aYP (r:List Bd) (p y:Bd):jV p (r++ [y])=if y.name=(r.getLastD p).name then jV p r else jV p r++ [y]:=by
 induction r generalizing p with
 |nil=>simp only [List.nil_append,jV];rfl
 |cons x r ih=>
  have e:(x::r).getLastD p=r.getLastD x:=by cases r<;>simp [List.getLastD]
  rw [List.cons_append,jV,jV,ih x,e];split<;>split<;>rfl
theorem bAB (l:List Bd) (x y:Bd):dd (l++ [x]++ [y])=if y.name=x.name then dd (l++ [x]) else dd (l++ [x])++ [y]:=by
 cases l with
 |nil=>simp only [List.nil_append,List.cons_append,dd,jV];split<;>rfl
 |cons a l=>
  have e:(l++ [x]).getLastD a=x:=j8
  simp only [List.cons_append,dd];rw [aYP,e];split<;>rfl
theorem bAC (r:List Bd) (p:Bd):(jV p r).length<=r.length:=by
 induction r generalizing p with
 |nil=>exact Nat.le_refl _
 |cons x r ih=>rw [jV];have:=ih x;split<;>simp<;>omega
theorem aGy (l:List Bd):(dd l).length<=l.length:=by
 cases l with
 |nil=>exact Nat.le_refl _
 |cons x r=>simp only [dd,List.length_cons];have:=bAC r x;omega
theorem aSr (G:Nat->Bd) (k:Nat):dd (aD G 0 (k+1+1))=if (G (k+1)).name=(G k).name then dd (aD G 0 (k+1)) else dd (aD G 0 (k+1))++ [G (k+1)]:=by
 rw [wR G (Nat.zero_le (k+1)),wR G (Nat.zero_le k),bAB]
theorem aQe (G:Nat->Bd) {n:Nat} (h:n<2):dd (aD G 0 n)=aD G 0 n:=by
 rcases (j3:n=0 \/n=1) with rfl|rfl<;>rfl
theorem aYQ {G:Nat->Bd} {L:List Bd} {x:Bd} {i:Nat} {r:List DV} (hi:i=L.length) (hr:r=aT x) (k:Nat):mB (fun k=>aT (put G 0 L k)) i r k=aT (put G 0 (L++ [x]) k):=by
 subst hi;subst hr
 rw [sK];split
 . rename_i h;subst h
   have:=zF G 0 L x []
   rw [Nat.zero_add] at this;rw [this]
 . rename_i h
   unfold put;rw [List.length_append];by_cases c:k<L.length
   . rw [if_pos j3,if_pos y7,List.getD_eq_getElem?_getD,List.getD_eq_getElem?_getD,List.getElem?_append_left j3]
   . rw [if_neg j3,if_neg y7]
theorem bCs {f:Nat->List DV} {o len:Nat} {ds:List DV} {k:Nat} (h:k<o):oF f o len ds k=f k:=by
 unfold oF;rw [if_neg j3]
theorem aKq (n:Nat) (f:Nat->List DV):aD (gF f) 0 n=aH n f:=by
 unfold aD aH gF;rw [Nat.sub_zero,List.range_eq_range']
theorem bAD {G:Nat->Bd} {l:List Bd} {k:Nat} (h:k<l.length):put G 0 l k=aM l k:=by
 have:=aG2 (g:=G) (a:=0) h
 rw [Nat.zero_add] at this;exact this
theorem aSs {G:Nat->Bd} {n k:Nat} (h:k<n):aM (aD G 0 n) k=G k:=by
 unfold aM;rw [aFo j3,Nat.zero_add]
def zX:List Ar->Option Rs
 | [.agg [.d (.v (.string x0)),.d (.v (.bool _)),.d (.v (.int .i64 _)),.d (.v (.int .i64 _)),.d (.v (.bool _)),.d (.v (.int .i64 _)),.d (.v (.int .i64 _)),.d (.v (.bool _)),.d (.lst 1 _ _)],.agg [.d (.v (.string x1)),.d (.v (.bool _)),.d (.v (.int .i64 _)),.d (.v (.int .i64 _)),.d (.v (.bool _)),.d (.v (.int .i64 _)),.d (.v (.int .i64 _)),.d (.v (.bool _)),.d (.lst 1 _ _)]]=>some ⟨True,.va (.c (.d (bo (decide (x0=x1))))),[]⟩
 |_=>none
theorem aFY:FC prog 77 zX:=by
 intro xs pre r us h hp;unfold zX at h;split at h
 . rename_i x0 s0 l0 h0 b0 m0 r0 z0 n0 f0 x1 s1 l1 h1 b1 m1 r1 z1 n1 f1
   cases h;refine aE aA (l:= []) trivial func77 rfl j4 false ?_
   repeat' (first|exact trivial|refine ⟨?_,?_⟩|fail)
   all_goals first|(conv=>whnf)
   all_goals exact congrArg Value.bool (qW _ _)
 . cases h
abbrev aMa:List Cv->Option Gs:=nO (cJ [(77,⟨[],zX⟩)]) 77 []
def aA0:List Ar->Option Rs
 | [.c (.ow 9 n0 f0),.fv g1]=>some ⟨(n0<=1099511627776/\ ∀i,i<n0->jC (f0 i))/\ (g1=aMa),.va (.c (.ow 9 (dd (aH n0 f0)).length (aW (dd (aH n0 f0))))),[none]⟩
 |_=>none
theorem aE0:FC prog 76 aA0:=by
 intro xs pre r us h hp;unfold aA0 at h;split at h
 . rename_i n0 f0 g1
   cases h;obtain ⟨a7,a8⟩:=hp
   refine aU.deep (ys:= [.c (.ow 9 n0 fun k=>aT (gF f0 k)),.fv g1]) ?_ ?_
   . repeat' (first|exact j2t|refine ⟨?_,?_⟩|fail)
     all_goals first|exact j5v
   refine aE aA (l:= []) trivial func76 rfl j4 false ?_
   obtain rfl:=a8
   have hn:=a7.1
   clear a7;rw [<-aKq]
   generalize gF f0=G at*
   have hl:=aGy (aD G 0 n0)
   rw [dD] at hl
   (repeat' (first|exact trivial|refine ⟨?_,?_⟩|intro _));all_goals first|apply qq|conv=>whnf
   all_goals first|(have hlt:=of_decide_eq_true ‹_=true›;have hd:=aQe G (n:=n0) j3;first|omega|(rw [hd,dD];rfl)|(rename_i i hi;rw [hd];exact congrArg aT (aSs hi).symm))|skip
   have oc:=of_decide_eq_false ‹_=false›
   refine dM aA (l:= []) trivial j4 (X:=Nat)
    (fun k=>⟨[(5,vx (.int .i64 (k+1:Nat))),(0,.va (.c (.osl 0 9 0 n0))),(1,.va (.c (.fv aMa)))],[(0,.row 9 n0 fun k=>aT (G k))],1,66⟩)
    (fun k=>n0-k) (fun k=>k+1<=n0/\ dd (aD G 0 (k+1))=aD G 0 (k+1)) [] [] (fun k _ _=>k+1) [0] [0] 0 0 0 ?_ ?_ ?_
   . exact ⟨by omega,aQe G j5⟩
   . repeat' (first|exact j2w|refine ⟨?_,?_⟩|fail)
   . rintro k ⟨k1,k2⟩
     have hw:IntKind.wrap .i64 (((k+1:Nat):Int)-1)=(k:Int):=j0e
     rcases Nat.lt_or_ge (k+1) n0 with hk|hk
     . have ag:decide (((k+1:Nat):Int)<(n0:Int))=true:=decide_eq_true j3
       have hs:=aSr G k
       by_cases hc:(G (k+1)).name=(G k).name
       . have B5:decide ((G (k+1)).name=(G k).name)=true:=decide_eq_true hc
         rw [if_pos hc] at hs
         (repeat' (first|exact trivial|refine ⟨?_,?_⟩|intro _));all_goals first|apply qq|conv=>whnf
         all_goals first|exact j2v|skip
         all_goals first|(have hd:=‹decide ((G _).name=_)=false›;simp only [hw,Int.toNat_natCast,Nat.zero_add] at hd;exact absurd (B5.symm.trans hd) j5)|skip
         all_goals (try simp only [hw,Int.toNat_natCast,Nat.zero_add])
         all_goals first|omega|skip
         refine dM aA (l:= []) trivial j4 (X:=Nat)
          (fun j=>⟨[(7,vx (.int .i64 (j+1:Nat))),(6,.va (.c (.osl 0 9 (k+1) (n0-(k+1))))),(5,vx (.int .i64 (dd (aD G 0 (k+1+(j+1)))).length)),(0,.va (.c (.osl 0 9 0 n0))),(1,.va (.c (.fv aMa)))],[(0,.row 9 n0 fun x=>aT (put G 0 (dd (aD G 0 (k+1+(j+1)))) x))],1,66⟩)
          (fun j=>n0-j) (fun j=>k+1+(j+1)<=n0/\ (dd (aD G 0 (k+1+(j+1)))).length<=k+1+j) [] [] (fun j _ _=>j+1) [0] [0] 0 0 0 ?_ ?_ ?_
         . exact ⟨by omega,by rw [hs,k2,dD];omega⟩
         . rw [hs,k2,aBe,dD]
           repeat' (first|exact j2w|refine ⟨?_,?_⟩|fail)
           all_goals omega
         . rintro j ⟨q1,q2⟩
           have gd:IntKind.wrap .i64 (((j+1:Nat):Int)-1)=(j:Int):=j0e
           have vm:put G 0 (dd (aD G 0 (k+1+(j+1)))) (k+1+(j+1))=G (k+1+(j+1)):=pP (.inr j3)
           have BN:put G 0 (dd (aD G 0 (k+1+(j+1)))) (k+1+j)=G (k+1+j):=pP (.inr j3)
           rcases Nat.lt_or_ge (k+1+(j+1)) n0 with hj|hj
           . have fq:decide (((j+1:Nat):Int)<((n0-(k+1):Nat):Int))=true:=decide_eq_true j3
             have ft:=aSr G (k+1+j)
             rw [show k+1+j+1=k+1+(j+1) by omega,show k+1+(j+1)+1=k+1+(j+1+1) by omega] at ft;by_cases oa:(G (k+1+(j+1))).name=(G (k+1+j)).name
             . have Aj:decide ((G (k+1+(j+1))).name=(G (k+1+j)).name)=true:=decide_eq_true oa
               rw [if_pos oa] at ft
               (repeat' (first|exact trivial|refine ⟨?_,?_⟩|intro _));all_goals first|apply qq|conv=>whnf
               all_goals first|(exact absurd (fq.symm.trans ‹_=false›) j5)|skip
               all_goals first|(have hd:=‹(!decide ((put G 0 _ _).name=_))=true›;simp only [gd,vm,BN,Aj,Int.toNat_natCast] at hd;exact absurd hd j5)|skip
               all_goals (try simp only [gd,ft,Int.toNat_natCast])
               all_goals first|rfl|omega|exact j3a
             . have Aj:decide ((G (k+1+(j+1))).name=(G (k+1+j)).name)=false:=decide_eq_false oa
               rw [if_neg oa] at ft;have hlen:(dd (aD G 0 (k+1+(j+1+1)))).length=(dd (aD G 0 (k+1+(j+1)))).length+1:=by rw [ft];simp
               (repeat' (first|exact trivial|refine ⟨?_,?_⟩|intro _));all_goals first|apply qq|conv=>whnf
               all_goals first|(exact absurd (fq.symm.trans ‹_=false›) j5)|skip
               all_goals first|(have hd:=‹(!decide ((put G 0 _ _).name=_))=false›;simp only [gd,vm,BN,Aj,Int.toNat_natCast] at hd;exact absurd hd j5)|skip
               all_goals (try simp only [gd,hlen,Int.toNat_natCast,Nat.zero_add])
               all_goals first|exact j3t|(rw [ft];exact aYQ rfl (by rw [vm]) _)
           . have fq:decide (((j+1:Nat):Int)<((n0-(k+1):Nat):Int))=false:=decide_eq_false j3
             obtain rfl:n0=k+1+(j+1):=j3
             (repeat' (first|exact trivial|refine ⟨?_,?_⟩|intro _));all_goals first|apply qq|conv=>whnf
             all_goals first|(exact absurd (fq.symm.trans ‹_=true›) j5)|skip
             all_goals (try simp only [Int.toNat_natCast,Nat.zero_add])
             all_goals first|rfl|omega|(rename_i i hi;rw [bCs j3];exact congrArg aT (bAD j3))
       . have B5:decide ((G (k+1)).name=(G k).name)=false:=decide_eq_false hc
         rw [if_neg hc,k2, <-wR G (Nat.zero_le _)] at hs
         (repeat' (first|exact trivial|refine ⟨?_,?_⟩|intro _));all_goals first|apply qq|conv=>whnf
         all_goals first|exact j2v|skip
         all_goals first|(have hd:=‹decide ((G _).name=_)=true›;simp only [hw,Int.toNat_natCast,Nat.zero_add] at hd;exact absurd (B5.symm.trans hd) j5)|skip
         all_goals (try simp only [hw,Int.toNat_natCast,Nat.zero_add])
         all_goals first|rfl|omega|exact j3a
     . have ag:decide (((k+1:Nat):Int)<(n0:Int))=false:=decide_eq_false j3
       obtain rfl:n0=k+1:=j3
       (repeat' (first|exact trivial|refine ⟨?_,?_⟩|intro _));all_goals first|apply qq|conv=>whnf
       all_goals first|exact j3d|skip
       all_goals first|omega|(rw [k2,dD];rfl)|(rename_i i hi;rw [k2];exact congrArg aT (aSs hi).symm)
 . cases h
structure dN (n:Nat) (f:Nat->List DV):Prop where
 h: ∀i,i<n->zV (f i)
def aBB:List Ar->Option Rs
 | [.c (.ow 9 n0 f0),.fv g1]=>some ⟨(n0<=1099511627776/\ ∀i,i<n0->jC (f0 i))/\ (g1=mK),.tup [],[some fun k=>aT (put (gF f0) 0 (bO aQ (aH n0 f0)) k)]⟩
 |_=>none
theorem aFZ:FC prog 73 aBB:=by
 intro xs pre r us h hp;unfold aBB at h;split at h
 . rename_i n0 f0 g1
   cases h;obtain ⟨a7,a8⟩:=hp
   refine aU.deep (ys:= [.c (.ow 9 n0 fun k=>aT (gF f0 k)),.fv g1]) ?_ ?_
   . repeat' (first|exact j2t|refine ⟨?_,?_⟩|fail)
     all_goals first|exact j5v
   refine aE aA (l:= [(128,⟨[true],aKp⟩)]) ⟨aYO,trivial⟩ func73 rfl j4 false ?_
   obtain rfl:=a8
   have hn:=a7.1
   clear a7;rw [<-aKq]
   generalize gF f0=G at*
   have c6: ∀(H:Nat->Bd) (i:Nat),i<n0->jC (aT (H i)):=fun H i _=>yQ _
   (repeat' (first|exact trivial|(with_reducible exact (c6 _))|refine ⟨?_,?_⟩|intro _));all_goals first|apply qq|conv=>whnf
   all_goals (try simp only [rH,Int.toNat_natCast])
   all_goals first|omega
 . cases h
def aBf:List Ar->Option Rs
 | [.c (.d (.lst 9 n0 f0))]=>some ⟨(n0<=1099511627776/\ dN n0 f0),.va (.c (.ow 9 n0 (aW (aH n0 f0)))),[]⟩
 |_=>none
theorem aFq:FC prog 72 aBf:=by
 intro xs pre r us h hp;unfold aBf at h;split at h
 . rename_i n0 f0
   cases h;have a7:=hp
   refine aU.deep (ys:= [.c (.d (.lst 9 n0 (aW (aH n0 f0))))]) ?_ ?_
   . repeat' (first|exact trivial|refine ⟨?_,?_⟩|fail)
     all_goals first|exact gY a7.2.h
   refine aE aA (l:= []) trivial func72 rfl j4 false ?_
   have hn:=a7.1
   generalize aH n0 f0=L at*
   clear a7
   (repeat' (first|exact trivial|refine ⟨?_,?_⟩|intro _));all_goals first|apply qq|conv=>whnf
   all_goals first|omega|rfl|(simp_all;done)
 . cases h
def pK:List Ar->Option Rs
 | [.agg [.d (.v (.bool s0)),.d (.v (.int .i64 l0)),.d (.v (.int .i64 h0)),.d (.v (.bool b0)),.d (.v (.int .i64 m0)),.d (.v (.int .i64 r0)),.d (.v (.bool z0)),.d (.lst 1 n0 f0)]]=>some ⟨((n0*16<=140737488351232/\ ∀i,i<n0->f0 i= [st (gT (f0 i))])/\ Sp.inR ⟨s0,l0,h0⟩/\ Cg.inR ⟨b0,m0,r0⟩),.va (Vl.ar (Vl.of (⟨⟨⟨s0,l0,h0⟩,⟨b0,m0,r0⟩⟩,⟨z0,gN n0 f0⟩⟩:Vl))),[]⟩
 |_=>none
theorem sL:FC prog 78 pK:=by
 intro xs pre r us h hp;unfold pK at h;split at h
 . rename_i s0 l0 h0 b0 m0 r0 z0 n0 f0
   cases h;have a7:=hp
   refine aU.of_eq (as':= [.agg [.d (.v (.bool s0)),.d (.v (.int .i64 l0)),.d (.v (.int .i64 h0)),.d (.v (.bool b0)),.d (.v (.int .i64 m0)),.d (.v (.int .i64 r0)),.d (.v (.bool z0)),.d (.lst 1 n0 fun i=> [st (gT (f0 i))])]]) ?_ rfl rfl ?_
   . repeat' (first|exact j2t|refine ⟨?_,?_⟩|fail)
     all_goals first|grind
   refine aE aA (l:= [(53,⟨[],tL⟩),(82,⟨[],zC⟩)]) ⟨xJ,aDd,trivial⟩ func78 rfl j4 true ?_
   have ik:aY (⟨⟨⟨s0,l0,h0⟩,⟨b0,m0,r0⟩⟩,⟨z0,gN n0 fun i=> [st (gT (f0 i))]⟩⟩:Vl):=⟨⟨u5,fun _ _=>rfl⟩,a7.2⟩
   have dh:=cX ik
   have l6:=cX dh
   unfold aY at dh l6
   (repeat' (first|exact trivial|(with_reducible first|exact dh|exact a7.2)|refine ⟨?_,?_⟩|intro _));all_goals first|apply qq|conv=>whnf
   all_goals (try simp only [bI] at*)
   all_goals first|rfl|(with_reducible exact a7.1.1)
 . cases h
abbrev En.arO (e:En):Ar:= .agg [.d (bo e.live),.ow 9 e.binds.length (aW e.binds)]
namespace En
def clean (e:En):En:=if e.live=true then ⟨true,(dd (bO aQ e.binds)).map fun b=>⟨b.name,b.v.of⟩⟩ else ⟨false,[]⟩
end En
theorem aQf (L:List Bd):(aH L.length fun k=>aT (put (gF (aW L)) 0 (bO aQ L) k))=bO aQ L:=by
 rw [<-aKq,rH];exact aKg _ _ _ _ (by rw [wE];omega) (Nat.zero_le _)
def tT (D:List Bd) (i:Nat):Nat->Bd:=fun k=>if k<i then ⟨(aM D k).name,(aM D k).v.of⟩ else aM D k
theorem aSt (D:List Bd) (i:Nat):tT D i i=aM D i:=if_neg (Nat.lt_irrefl i)
theorem aQg {D:List Bd} {i:Nat} {r:List DV} (hr:r=aT ⟨(aM D i).name,(aM D i).v.of⟩) (k:Nat):mB (fun k=>aT (tT D i k)) i r k=aT (tT D (i+1) k):=by
 subst hr;rw [sK];unfold tT;split
 . rename_i h;subst h;rw [if_pos (Nat.lt_succ_self k)]
 . rename_i h
   by_cases c:k<i
   . rw [if_pos c,if_pos j3]
   . rw [if_neg c,if_neg j3]
theorem aRp (D:List Bd) (f:Bd->Bd) {k:Nat} (hk:k<D.length):aM (D.map f) k=f (aM D k):=by
 unfold aM;simp [List.getD_eq_getElem?_getD,hk]
theorem aKr (r:List Bd) (p:Bd) {x:Bd} (h:x∈jV p r):x∈r:=by
 induction r generalizing p with
 |nil=>cases h
 |cons y r ih=>
  rw [jV] at h;split at h
  . exact List.mem_cons_of_mem _ (ih _ h)
  . rcases List.mem_cons.1 h with rfl|h
    . exact List.mem_cons_self
    . exact List.mem_cons_of_mem _ (ih _ h)
theorem aGz {l:List Bd} {x:Bd} (h:x∈dd l):x∈l:=by
 cases l with
 |nil=>exact h
 |cons y r=>
  rcases List.mem_cons.1 h with rfl|h
  . exact List.mem_cons_self
  . exact List.mem_cons_of_mem _ (aKr _ _ h)
theorem uI {l:List Bd} {k:Nat} (h:k<l.length):aM l k∈l:=by
 unfold aM;rw [List.getD_eq_getElem?_getD,List.getElem?_eq_getElem h];exact List.getElem_mem h
theorem aF0 {l:List Bd} {x:Bd} (h:x∈l): ∃k,k<l.length/\ aM l k=x:=by
 obtain ⟨k,hk,e⟩:=List.mem_iff_getElem.1 h
 exact ⟨k,hk,by unfold aM;rw [List.getD_eq_getElem?_getD,List.getElem?_eq_getElem hk];exact e⟩
def iO (l:List Bd):Prop:= ∀x∈l,okB x
theorem oH {l:List Bd} (h:iO l) {k:Nat} (hk:k<l.length):okB (aM l k):=h _ (uI hk)
theorem iD {n:Nat} {f:Nat->List DV} (h:dN n f):iO (aH n f):=by
 intro x hx;obtain ⟨k,hk,rfl⟩:=aF0 hx
 rw [eD] at hk;exact bCe h.h k hk
theorem dV {l:List Bd} (h:iO l):dN l.length (aW l):=⟨fun i hi=>aVI (oH h hi)⟩
theorem aKs {l:List Bd} (h:iO l):iO (bO aQ l):=fun x hx=>h x (aFU.1 hx)
theorem aLo {l:List Bd} (h:iO l):iO (dd l):=fun x hx=>h x (aGz hx)
theorem bCt {l:List Bd} (h:iO l):iO (l.map fun b=>⟨b.name,b.v.of⟩):=by
 intro x hx;obtain ⟨b,hb,rfl⟩:=List.mem_map.1 hx
 exact cX (h b hb)
theorem aA1 {e:En} (h:iO e.binds):iO e.clean.binds:=by
 unfold En.clean;split
 . exact bCt (aLo (aKs h))
 . intro x hx;cases hx
theorem aE1 (e:En):e.clean.binds.length<=e.binds.length:=by
 unfold En.clean;split
 . show (List.map _ _).length<=_
   rw [List.length_map];have:=aGy (bO aQ e.binds)
   rw [wE] at this;exact this
 . exact Nat.zero_le _
def aDE:List Ar->Option Rs
 | [.agg [.d (.v (.bool e0)),.d (.lst 9 n0 f0)]]=>some ⟨(n0<=1099511627776/\ dN n0 f0),.va (En.ar (En.clean (⟨e0,aH n0 f0⟩:En))),[]⟩
 |_=>none
theorem aJx:FC prog 39 aDE:=by
 intro xs pre r us h hp;unfold aDE at h;split at h
 . rename_i e0 n0 f0
   cases h;have a7:=hp
   refine aU.deep (ys:= [.agg [.d (.v (.bool e0)),.d (.lst 9 n0 (aW (aH n0 f0)))]]) ?_ ?_
   . repeat' (first|exact j3s|refine ⟨?_,?_⟩|fail)
     all_goals first|exact gY a7.2.h
   refine aE aA (l:= [(72,⟨[],aBf⟩),(73,⟨[true],aBB⟩),(76,⟨[true],aA0⟩),(78,⟨[],pK⟩),(74,⟨[],aAk⟩),(77,⟨[],zX⟩)]) ⟨aFq,aFZ,aE0,sL,aGw,aFY,trivial⟩ func39 rfl j4 true ?_
   have hn:=a7.1
   have hL:=iD a7.2
   have hlen:=eD n0 f0
   generalize aH n0 f0=L at*
   clear hp a7;subst hlen;have c6: ∀(H:Nat->Bd) (i:Nat),i<L.length->jC (aT (H i)):=fun H i _=>yQ _
   have b8:=dV hL
   (repeat' (first|exact trivial|(with_reducible first|exact (c6 _)|exact b8)|refine ⟨?_,?_⟩|intro _));all_goals first|apply qq|conv=>whnf
   all_goals first|exact hn|exact j5m|rfl|skip
   . rw [show e0=false by simpa using ‹(!e0)=true›];rfl
   . rw [show e0=false by simpa using ‹(!e0)=true›];rfl
   obtain rfl:e0=true:=by simpa using ‹(!e0)=false›
   generalize hD:dd (aH L.length fun k=>aT (put (gF (aW (aH L.length (aW L)))) 0 (bO aQ (aH L.length (aW (aH L.length (aW L))))) k))=D
   have xf:D=dd (bO aQ L):=by
    rw [<-hD,dJ,dJ,aQf]
   clear hD;have hC:En.clean ⟨true,L⟩=⟨true,D.map fun b=>⟨b.name,b.v.of⟩⟩:=by rw [xf];rfl
   have G0:D.length<=L.length:=j1x
   have Ak:iO D:=by rw [xf];exact aLo (aKs hL)
   refine dM aA (l:= [(72,⟨[],aBf⟩),(73,⟨[true],aBB⟩),(76,⟨[true],aA0⟩),(78,⟨[],pK⟩),(74,⟨[],aAk⟩),(77,⟨[],zX⟩)]) ⟨aFq,aFZ,aE0,sL,aGw,aFY,trivial⟩ j4 (X:=Nat)
    (fun i=>⟨[(19,vx (.int .i64 i)),(18,vx (.int .i64 D.length)),(17,.va (.c (.osl 0 9 0 D.length))),(3,.va (.c (.osl 0 9 0 D.length))),(2,.va (.c (.own 1 0)))],[(0,.row 9 D.length fun k=>aT (tT D i k)),(1,.cells [.d (bo false),.d (.v (.slice none 0 0))])],2,34⟩)
    (fun i=>D.length-i) (fun i=>i<=D.length) [] [] (fun i _ _=>i+1) [0,1] [3,1] 0 0 0 ?_ ?_ ?_
   . exact Nat.zero_le _
   . repeat' (first|exact j2w|refine ⟨?_,?_⟩|fail)
     all_goals trace_state
   . rintro i k1
     rcases Nat.lt_or_ge i D.length with hi|hi
     . have ag:decide ((i:Int)<(D.length:Int))=true:=decide_eq_true j3
       have dh:=cX (oH Ak hi)
       have dw:=oH Ak hi
       (repeat' (first|exact trivial|refine ⟨?_,?_⟩|intro _));all_goals first|apply qq|conv=>whnf
       all_goals first|exact j2v|skip
       all_goals (try simp only [Int.toNat_natCast,Nat.zero_add,aSt])
       all_goals first|exact j5q
     . have ag:decide ((i:Int)<(D.length:Int))=false:=decide_eq_false j3
       obtain rfl:i=D.length:=Nat.le_antisymm k1 hi
       (repeat' (first|exact trivial|refine ⟨?_,?_⟩|intro _));all_goals first|apply qq|conv=>whnf
       all_goals first|exact j3d|skip
       all_goals (try rw [hC])
       all_goals first|omega|exact (List.length_map _).symm|(rename_i k hk;show aT (tT D D.length (0+k))=aT (aM _ k);rw [Nat.zero_add,aRp _ _ j3];unfold tT;rw [if_pos j3])
 . cases h
def aFr:List Ar->Option Rs
 | [.agg [.d (.v (.bool e0)),.d (.lst 9 n0 f0)]]=>some ⟨(n0<=1099511627776/\ dN n0 f0),.va (En.arO (En.clean (⟨e0,aH n0 f0⟩:En))),[]⟩
 |_=>none
theorem aO9:FC prog 39 aFr:=by
 intro xs pre r us h hp;unfold aFr at h;split at h
 . rename_i e0 n0 f0
   cases h;have a7:=hp
   refine aU.deep (ys:= [.agg [.d (.v (.bool e0)),.d (.lst 9 n0 (aW (aH n0 f0)))]]) ?_ ?_
   . repeat' (first|exact j3s|refine ⟨?_,?_⟩|fail)
     all_goals first|exact gY a7.2.h
   refine aE aA (l:= [(72,⟨[],aBf⟩),(73,⟨[true],aBB⟩),(76,⟨[true],aA0⟩),(78,⟨[],pK⟩),(74,⟨[],aAk⟩),(77,⟨[],zX⟩)]) ⟨aFq,aFZ,aE0,sL,aGw,aFY,trivial⟩ func39 rfl j4 false ?_
   have hn:=a7.1
   have hL:=iD a7.2
   have hlen:=eD n0 f0
   generalize aH n0 f0=L at*
   clear hp a7;subst hlen;have c6: ∀(H:Nat->Bd) (i:Nat),i<L.length->jC (aT (H i)):=fun H i _=>yQ _
   have b8:=dV hL
   (repeat' (first|exact trivial|(with_reducible first|exact (c6 _)|exact b8)|refine ⟨?_,?_⟩|intro _));all_goals first|apply qq|conv=>whnf
   all_goals first|exact hn|exact j5m|rfl|skip
   . rw [show e0=false by simpa using ‹(!e0)=true›];rfl
   . rw [show e0=false by simpa using ‹(!e0)=true›];rfl
   obtain rfl:e0=true:=by simpa using ‹(!e0)=false›
   generalize hD:dd (aH L.length fun k=>aT (put (gF (aW (aH L.length (aW L)))) 0 (bO aQ (aH L.length (aW (aH L.length (aW L))))) k))=D
   have xf:D=dd (bO aQ L):=by
    rw [<-hD,dJ,dJ,aQf]
   clear hD;have hC:En.clean ⟨true,L⟩=⟨true,D.map fun b=>⟨b.name,b.v.of⟩⟩:=by rw [xf];rfl
   have G0:D.length<=L.length:=j1x
   have Ak:iO D:=by rw [xf];exact aLo (aKs hL)
   refine dM aA (l:= [(72,⟨[],aBf⟩),(73,⟨[true],aBB⟩),(76,⟨[true],aA0⟩),(78,⟨[],pK⟩),(74,⟨[],aAk⟩),(77,⟨[],zX⟩)]) ⟨aFq,aFZ,aE0,sL,aGw,aFY,trivial⟩ j4 (X:=Nat)
    (fun i=>⟨[(19,vx (.int .i64 i)),(18,vx (.int .i64 D.length)),(17,.va (.c (.osl 0 9 0 D.length))),(3,.va (.c (.osl 0 9 0 D.length))),(2,.va (.c (.own 1 0)))],[(0,.row 9 D.length fun k=>aT (tT D i k)),(1,.cells [.d (bo false),.d (.v (.slice none 0 0))])],2,34⟩)
    (fun i=>D.length-i) (fun i=>i<=D.length) [] [] (fun i _ _=>i+1) [0,1] [3,1] 0 0 0 ?_ ?_ ?_
   . exact Nat.zero_le _
   . repeat' (first|exact j2w|refine ⟨?_,?_⟩|fail)
     all_goals trace_state
   . rintro i k1
     rcases Nat.lt_or_ge i D.length with hi|hi
     . have ag:decide ((i:Int)<(D.length:Int))=true:=decide_eq_true j3
       have dh:=cX (oH Ak hi)
       have dw:=oH Ak hi
       (repeat' (first|exact trivial|refine ⟨?_,?_⟩|intro _));all_goals first|apply qq|conv=>whnf
       all_goals first|exact j2v|skip
       all_goals (try simp only [Int.toNat_natCast,Nat.zero_add,aSt])
       all_goals first|exact j5q
     . have ag:decide ((i:Int)<(D.length:Int))=false:=decide_eq_false j3
       obtain rfl:i=D.length:=Nat.le_antisymm k1 hi
       (repeat' (first|exact trivial|refine ⟨?_,?_⟩|intro _));all_goals first|apply qq|conv=>whnf
       all_goals first|exact j3d|skip
       all_goals (try rw [hC])
       all_goals first|omega|exact (List.length_map _).symm|(rename_i k hk;show aT (tT D D.length k)=aT (aM _ k);rw [aRp _ _ j3];unfold tT;rw [if_pos j3])
 . cases h
end Go.Proofs.YtiblbnhknemloaaGreat
